/- The value evaluator, second form: what a Go function's code computes, on plain values. No proof here but definitions. -/
import Derived.Calls
import Derived.Orders
import Derived.KernelRfl
import Derived.Below
import Derived.Maps.AppendAt
import Derived.Laws.OwnMore
import Derived.Lib.ConvBytes
import Derived.WalkKit
import Derived.Great.BuildSlice
set_option linter.unusedVariables false
set_option linter.unusedSimpArgs false
open Array renaming getD_eq_getD_getElem?->CF,toList_map->CO,toArray_toList->CU
open Bool renaming and_eq_true->BN,not_eq_true'->CJ,or_eq_false_iff->CS,not_eq_true->Cf
open ByteArray renaming empty->B8
open Go.Act renaming put->Co
open Go.Builtin renaming len_->Ce
open Go.Instr renaming sliceAt->CM,sureAddr->CR,slice->CT,sliceBounds->Cd,index->Ch,indexAt->Cm,field->Cq
open Go.Program renaming built->Cn
open Go.Result renaming andThen_ok->BW
open Go.Sem renaming run_bind->B3,run_pure->B7
open Go.Value renaming oneCell'->BU,ownBlock->CB
open Go.World renaming cell?->Cp
open List renaming getElem?_eq_some_iff->BM,getElem?_eq_getElem->BO,mem_append_right->BP,mem_append_left->BQ,mem_append->BX,getElem?_take->BZ,replicate->B4,getD_eq_getElem?_getD->B5,getElem?_append_right->B6,mem_singleton_self->CA,append_assoc->CC,range->CD,getElem?_drop->CG,getElem?_append_left->CH,any_eq_false->CK,mem_cons_of_mem->CQ,replicate_succ->CV,mem_cons->CW,length_append->CX,mem_cons_self->CY,mem_singleton->CZ,getElem?_map->Cb,flatten_cons->Cc,cons_append->Cg,drop_drop->Cj,map_cons->Cl
open Nat renaming beq->BK,eq_of_beq_eq_true->BL,le_refl->BS,le_trans->BV,lt_of_lt_of_le->B9,blt->CE,ble->CI,add_assoc->CL,lt_succ_self->CN,zero_add->Ca
open Option renaming bind_eq_some_iff->BT,map_eq_some_iff->BY,map_none->CP,map_some->Ci
open Option.some renaming injEq->BR
open Prod.mk renaming injEq->Ck
namespace Go.Proofs.YtaegajachoklkaaGreatEv
open Go
inductive Ty where
 |int (k:IntKind)|bool|str|unit
 |hdr
 |pair (a b:Ty)
 |list (m:Bool) (E:TypeId) (e:Ty)
 deriving DecidableEq
abbrev Ty.den:Ty->Type
 |.int _=>Int
 |.bool=>Bool
 |.str=>ByteArray
 |.unit=>Unit
 |.hdr=>Nat
 |.pair a b=>a.den×b.den
 |.list _ _ e=>List e.den
def Ty.cells:Ty->Nat
 |.unit=>0
 |.pair a b=>a.cells+b.cells
 |_=>1
def Ty.zero:(a:Ty)->a.den
 |.int _=>(0:Int)
 |.bool=>false
 |.str=>B8
 |.unit=>()
 |.hdr=>(0:Nat)
 |.pair a b=>(a.zero,b.zero)
 |.list _ _ e=>([]:List e.den)
def Ty.flat:Ty->Bool
 |.list _ _ _=>false
 |.pair a b=>a.flat&&b.flat
 |_=>true
def Ty.sh:Ty->Ty
 |.pair a b=>.pair a.sh b.sh
 |.list _ E e=>.list false E e.sh
 |a=>a
def Ty.shy:Ty->Bool
 |.list m _ e=>!m||e.shy
 |.pair a b=>a.shy||b.shy
 |_=>false
theorem mO:∀ a:Ty,a.sh.den=a.den
 |.int _|.bool|.str|.unit|.hdr=>rfl
 |.pair a b=>by
  show (a.sh.den×b.sh.den)=(a.den×b.den);rw[mO a,mO b]
 |.list _ _ e=>congrArg List (mO e)
theorem jG {a b:Ty}(h:a.sh=b.sh):a.den=b.den:=(mO a).symm.trans ((congrArg Ty.den h).trans (mO b))
def Ty.eqv:(a:Ty)->a.den->a.den->Bool
 |.int _,x,y=>decide ((x:Int)=y)
 |.bool,x,y=>(x:Bool)==y
 |.str,x,y=>decide ((x:ByteArray)=y)
 |.unit,_,_=>true
 |.hdr,_,_=>false
 |.pair a b,x,y=>a.eqv x.1 y.1&&b.eqv x.2 y.2
 |.list _ _ _,_,_=>false
abbrev Tup:List Ty->Type
 |[]=>Unit
 |a::as=>a.den×Tup as
inductive Leaf where
 |int (k:IntKind) (n:Int)
 |bool (b:Bool)
 |str (s:ByteArray)
 |nil
 |hdr (n:Nat)
 |ro (p:Bool) (E:TypeId) (e:Ty) (xs:List e.den)
 |own (p:Bool) (h:Option (Nat×Nat)) (E:TypeId) (e:Ty) (xs:List e.den)
 |al (r j v:Nat)
 |nal (p:Bool) (ks:List (Nat×Nat×Nat)) (ep:Nat) (loc:Option (Nat×Nat×Nat)) (E:TypeId) (e:Ty) (xs:List e.den)
 |ep (r j v:Nat) (i sz off:Nat)
 |np (p:Bool) (ks:List (Nat×Nat×Nat)) (ep:Nat) (a:Ty) (x:a.den) (off:Nat)
 |rp (p:Bool) (a:Ty) (x:a.den) (off:Nat)
 |rpp (p:Bool) (a:Ty) (x:a.den)
 |bp (b off:Nat)
 |clo (f:FuncId) (caps:List Nat)
 |clr (f:FuncId) (caps:List (Bool×Bool×(a:Ty)×a.den))
 |fn (As:List Ty) (B:Ty) (φ:Tup As->Option B.den)
 |dead
inductive aI where
 |off|und|one|agg
 |tup (ps:List (Bool×Nat))
 deriving DecidableEq
structure bQ where
 ver:Nat
 sh:aI
 ls:List Leaf
abbrev St:=Nat->bQ
def bQ.none:bQ:=⟨0,.off,[]⟩
def GH:Nat:=99000
def TMP:Nat:=99998
def EPO:Nat:=99999
def B0:Nat:=100000
abbrev Upd:=List (Nat×bQ)
def ac (U:Upd)(st:St)(q:Nat):bQ :=
 match U with
 |[]=>st q
 |(r,c)::u=>bif BK q r then c else ac u st q
inductive TI where
 |int (k:IntKind)|bool|str
 |slice (E:TypeId) (e:Ty) (bytes:Nat)
 |struct (a:Ty) (flds:List (Nat×Nat×Bool))
 |arr (e:Ty) (n:Nat)
 |ptr|fn
 |none
def gE:List (TypeId×TI)->TypeId->TI
 |[],_=>.none
 |(t,i)::l,u=>bif BK t u then i else gE l u
def TI.cells:TI->Nat
 |.struct a _=>a.cells
 |.arr e n=>n*e.cells
 |.none=>0
 |_=>1
def TI.agg:TI->Bool
 |.struct _ _=>true
 |.arr _ _=>true
 |_=>false
def eZ:Ty->List Leaf
 |.int k=>[.int k 0]
 |.bool=>[.bool false]
 |.str=>[.str B8]
 |.unit=>[]
 |.hdr=>[.nil]
 |.pair a b=>eZ a++eZ b
 |.list _ _ _=>[.nil]
def TI.zero:TI->List Leaf
 |.int k=>[.int k 0]
 |.bool=>[.bool false]
 |.str=>[.str B8]
 |.slice _ _ _=>[.nil]
 |.struct a _=>eZ a
 |.arr e n=>(B4 n (eZ e)).flatten
 |.ptr=>[.dead]
 |.fn=>[.dead]
 |.none=>[]
def ap (p:Bool):(a:Ty)->a.den->List Leaf
 |.int k,n=>[.int k n]
 |.bool,b=>[.bool b]
 |.str,s=>[.str s]
 |.unit,_=>[]
 |.hdr,n=>[.hdr n]
 |.pair a b,x=>ap p a x.1++ap p b x.2
 |.list m E e,r=>[bif m then .own (p&&e.shy) none E e r else .ro p E e r]
def cH (p:Bool):(a:Ty)->a.den->List Leaf
 |.int k,n=>[.int k n]
 |.bool,b=>[.bool b]
 |.str,s=>[.str s]
 |.unit,_=>[]
 |.hdr,n=>[.hdr n]
 |.pair a b,x=>cH p a x.1++cH p b x.2
 |.list _ E e,r=>[.ro p E e r]
def lz (p:Bool)(ks:List (Nat×Nat×Nat))(ep:Nat):(a:Ty)->a.den->List Leaf
 |.int k,n=>[.int k n]
 |.bool,b=>[.bool b]
 |.str,s=>[.str s]
 |.unit,_=>[]
 |.hdr,n=>[.hdr n]
 |.pair a b,x=>lz p ks ep a x.1++lz p ks ep b x.2
 |.list _ E e,r=>[.nal p ks ep none E e r]
def gF (p:Bool)(r j v ep i u:Nat)(h:Option Nat):(a:Ty)->Nat->a.den->List Leaf
 |.int k,_,n=>[.int k n]
 |.bool,_,b=>[.bool b]
 |.str,_,s=>[.str s]
 |.unit,_,_=>[]
 |.hdr,_,n=>[.hdr n]
 |.pair a b,off,x=>gF p r j v ep i u h a off x.1++gF p r j v ep i u h b (off+a.cells) x.2
 |.list m E e,off,y=>[bif decide (h=some off) then .dead else bif m then .nal (p&&e.shy) [(r,j,v)] ep (some (i,u,off)) E e y else .ro p E e y]
def lA (p:Bool)(r j v ep i u:Nat)(h:Option (Bool×Nat)):(a:Ty)->Nat->a.den->List Leaf
 |.int k,_,n=>[.int k n]
 |.bool,_,b=>[.bool b]
 |.str,_,s=>[.str s]
 |.unit,_,_=>[]
 |.hdr,_,n=>[.hdr n]
 |.pair a b,off,x=>lA p r j v ep i u h a off x.1++lA p r j v ep i u h b (off+a.cells) x.2
 |.list m E e,off,y=>[bif (match h with|some (b,o)=>BK o off&&b|Option.none=>false) then .dead else bif m then .nal (p&&e.shy) [(r,j,v)] ep (some (i,u,off)) E e y else .ro p E e y]
def bi (agg:Bool):aI:=bif agg then .agg else .one
def lB:Leaf->Bool
 |.own _ _ _ _ _=>true
 |_=>false
def br (st:St)(ks:List (Nat×Nat×Nat))(ep:Nat):Bool:=BK (st EPO).ver ep&&ks.all λk=>BK (st k.1).ver k.2.2&&lB ((st k.1).ls.getD k.2.1 .dead)
def po:Leaf->Leaf
 |.nal _ _ _ _ _ _ _=>.dead
 |l=>l
def aE (st:St):Leaf->Leaf
 |.al r j v=>bif BK (st r).ver v then po ((st r).ls.getD j .dead) else .dead
 |.nal p y ep u E e z=>bif br st y ep then .nal p y ep u E e z else .dead
 |l=>l
def lT (t j r:Nat):Leaf->Leaf
 |.own _ _ _ _ _=>.al t j r
 |l=>l
def bH (t r:Nat):Nat->List Leaf->List Leaf
 |_,[]=>[]
 |j,l::u=>lT t j r l::bH t r (j+1) u
def iw:Value->Option Leaf
 |.int k n=>some (.int k n)
 |.bool b=>some (.bool b)
 |.string s=>some (.str s)
 |.slice Option.none 0 0=>some .nil
 |_=>Option.none
def au (st:St):Operand->aI×List Leaf
 |.tmp t=>bif CE t GH then ((st t).sh,bH t (st t).ver 0 (st t).ls) else (.off,[])
 |.const v=>match iw v with
  |some l=>(.one,[l])
  |Option.none=>(.off,[])
 |.func f=>(.one,[.clo f []])
 |.global _=>(.off,[])
def one (st:St)(x:Operand):Leaf :=
 match au st x with
 |(.one,[l])=>l
 |_=>.dead
def castSh (e e':Ty)(xs:List e'.den):Option (List e.den) :=
 if h:e'.sh=e.sh then some (cast (congrArg List (jG h)) xs) else Option.none
def lU (E:TypeId)(e:Ty)(E':TypeId)(e':Ty)(xs:List e'.den):Option (List e.den) :=
 if h:E'=E/\e'=e then some (h.2 ▸ xs) else Option.none
def dg (e:Ty):Leaf->Option (Bool×List e.den)
 |.ro p _ u r=>(castSh e u r).map (p,·)
 |.own p none _ u r=>(castSh e u r).map (p,·)
 |.nal p _ _ _ _ u r=>(castSh e u r).map (p,·)
 |.nil=>some (false,[])
 |_=>Option.none
def fZ:Leaf->Option Nat
 |.ro _ _ _ r=>some r.length
 |.own _ _ _ _ r=>some r.length
 |.nal _ _ _ _ _ _ r=>some r.length
 |.nil=>some 0
 |.hdr n=>some n
 |_=>Option.none
def bc (st:St):(a:Ty)->List Leaf->Option (Bool×a.den×List Leaf)
 |.int k,r=>match r with
  |.int z n::r=>if k=z then some (false,(n:Int),r) else Option.none
  |_=>Option.none
 |.bool,r=>match r with
  |.bool b::r=>some (false,b,r)
  |_=>Option.none
 |.str,r=>match r with
  |.str s::r=>some (false,s,r)
  |_=>Option.none
 |.unit,r=>some (false,(),r)
 |.hdr,r=>match r with
  |l::r=>match fZ (aE st l) with
   |some n=>some (false,(n:Nat),r)
   |Option.none=>Option.none
  |_=>Option.none
 |.pair a b,r=>match bc st a r with
  |some (p,x,r)=>match bc st b r with
   |some (q,y,r)=>some (p||q,(x,y),r)
   |Option.none=>Option.none
  |Option.none=>Option.none
 |.list _ _ e,r=>match r with
  |l::r=>match dg e (aE st l) with
   |some (p,u)=>some (p,u,r)
   |Option.none=>Option.none
  |_=>Option.none
def cO (st:St)(a:Ty)(ls:List Leaf):Option (Bool×a.den) :=
 match bc st a ls with
 |some (p,x,[])=>some (p,x)
 |_=>Option.none
structure cI (α:Type) where
 p:Bool
 val:α
 frz:List (Nat×Nat)
 kill:List (Nat×Nat)
 rest:List Leaf
def bz (st:St):List Leaf->List (Nat×Nat)
 |[]=>[]
 |.al r j v::u=>(match aE st (.al r j v) with|.own _ _ _ _ _=>[(r,j)]|_=>[])++bz st u
 |.nal p z ep y E e H::u=>(match aE st (.nal p z ep y E e H) with|.nal _ _ _ _ _ _ _=>z.map (λk=>(k.1,k.2.1))|_=>[])++bz st u
 |_::u=>bz st u
def bZ (st:St):List Leaf->List (Nat×Nat)
 |[]=>[]
 |.al r j v::u=>(match aE st (.al r j v) with|.own _ _ _ _ _=>[(r,j)]|_=>[])++bZ st u
 |_::u=>bZ st u
def take (st : St) : (a : Ty) -> List Leaf -> Option (cI a.den)
  |.int k,u=>(bc st (.int k) u).map λx=>⟨false,x.2.1,[],[],x.2.2⟩
  |.bool,u=>(bc st .bool u).map λx=>⟨false,x.2.1,[],[],x.2.2⟩
  |.str,u=>(bc st .str u).map λx=>⟨false,x.2.1,[],[],x.2.2⟩
  |.unit,u=>some ⟨false,(),[],[],u⟩
  |.hdr,u=>(bc st .hdr u).map λx=>⟨false,x.2.1,[],[],x.2.2⟩
  |.pair a b,u=>match take st a u with
    |some x=>match take st b x.rest with
      |some y=>some ⟨x.p||y.p,(x.val,y.val),x.frz++y.frz,x.kill++y.kill,y.rest⟩
      |Option.none=>Option.none
    |Option.none=>Option.none
  |.list m E e,u=>match u with
    |[]=>Option.none
    |l::u=>bif m then (match l with
        |.al r j v=>match aE st (.al r j v) with
          |.own p none H I z=>(lU E e H I z).map λz=>⟨p,z,[],[(r,j)],u⟩
          |_=>Option.none
        |.nil=>some ⟨false,([]:List e.den),[],[],u⟩
        |_=>Option.none)
      else match dg e (aE st l) with
        |some (p,z)=>some ⟨p,z,bz st [l],[],u⟩
        |Option.none=>Option.none
def ch (st:St)(a:Ty)(ls:List Leaf):Option (cI a.den) :=
 match take st a ls with
 |some ⟨p,x,f,k,[]⟩=>some ⟨p,x,f,k,[]⟩
 |_=>Option.none
def da (st:St)(off n:Nat):(a:Ty)->Nat->a.den->List Leaf->Option (cI a.den)
 |.pair a b,pos,x,r=>match da st off n a pos x.1 r with
  |some u=>match da st off n b (pos+a.cells) x.2 u.rest with
   |some v=>some ⟨u.p||v.p,(u.val,v.val),u.frz++v.frz,u.kill++v.kill,v.rest⟩
   |Option.none=>Option.none
  |Option.none=>Option.none
 |.int k,pos,x,r=>bif CI off pos&&CE pos (off+n) then take st (.int k) r else some ⟨false,x,[],[],r⟩
 |.bool,pos,x,r=>bif CI off pos&&CE pos (off+n) then take st .bool r else some ⟨false,x,[],[],r⟩
 |.str,pos,x,r=>bif CI off pos&&CE pos (off+n) then take st .str r else some ⟨false,x,[],[],r⟩
 |.unit,_,x,r=>some ⟨false,x,[],[],r⟩
 |.hdr,_,_,_=>Option.none
 |.list m E e,pos,x,r=>bif CI off pos&&CE pos (off+n) then take st (.list m E e) r else some ⟨false,x,[],[],r⟩
def bM (off:Nat)(E:TypeId)(e:Ty)(r:List e.den):(a:Ty)->Nat->a.den->Option a.den
 |.pair a b,pos,x=>match bM off E e r a pos x.1 with
  |some u=>some (u,x.2)
  |Option.none=>(bM off E e r b (pos+a.cells) x.2).map λv=>(x.1,v)
 |.list m z y,pos,_=>bif m&&BK pos off then lU z y E e r else Option.none
 |.int _,_,_|.bool,_,_|.str,_,_|.unit,_,_|.hdr,_,_=>Option.none
def aw:List Leaf->List Nat
 |[]=>[]
 |.al r _ _::u=>r::aw u
 |.ep r _ _ _ _ _::u=>r::aw u
 |.nal _ y _ _ _ _ _::u=>EPO::y.map (·.1)++aw u
 |.np _ y _ _ _ _::u=>EPO::y.map (·.1)++aw u
 |_::u=>aw u
def aT (ls:List Leaf)(j:Nat)(l:Leaf):List Leaf:=ls.set j l
def f9 (c:bQ)(j:Nat):bQ:=⟨c.ver,c.sh,aT c.ls j .dead⟩
def aN (st:St):List (Nat×Nat)->Upd
 |[]=>[]
 |(r,j)::u=>let U:=aN st u;let c:=ac U st r;(r,f9 c j)::U
def uL:Leaf->Leaf
 |.own p none E e r=>.ro p E e r
 |.own _ (some _) _ _ _=>.dead
 |l=>l
def fW (c:bQ)(j:Nat):bQ:=⟨c.ver,c.sh,aT c.ls j (uL (c.ls.getD j .dead))⟩
def aF (st:St):List (Nat×Nat)->Upd
 |[]=>[]
 |(r,j)::u=>let U:=aF st u;let c:=ac U st r;(r,fW c j)::U
def bU (c:bQ):bQ:=⟨c.ver+1,c.sh,c.ls⟩
def epoU (st:St):Upd:=[(EPO,bU (st EPO))]
def du (st:St):List Leaf->List (Nat×Nat)
 |[]=>[]
 |.nal p u ep none E e y::r=>(match aE st (.nal p u ep none E e y) with|.nal _ _ _ _ _ _ _=>u.map (λk=>(k.1,k.2.1))|_=>[])++du st r
 |_::r=>du st r
def gj (st:St)(l:Leaf):Leaf:=match aE st l with
 |.nal p _ _ none E e r=>.ro p E e r
 |l=>l
def dG (st:St)(ls:List Leaf):List Leaf:=ls.map (gj st)
def mvU (st:St)(ls:List Leaf):Upd:=let U:=aF st (du st ls);aN (ac U st) (bZ st ls)++U
def a7:List (Nat×Nat)->Bool
 |[]=>true
 |x::r=>!(r.any λy=>BK x.1 y.1&&BK x.2 y.2)&&a7 r
def iy (a b:Nat×Nat):Bool:=BK a.1 b.1&&BK a.2 b.2
def dz (a b:List (Nat×Nat)):Bool:=!(a.any λk=>b.any (iy k))
def ig (st:St)(ls:List Leaf):Bool:=a7 (bZ st ls)&&dz (du st ls) (bZ st ls)
def sq (st:St):Operand->Bool
 |.tmp q=>BK (st q).ver 7
 |_=>false
def idx {α:Type}(xs:List α)(i:Int):Option α:=if i<0 then Option.none else xs[i.toNat]?
def jH (u r:List Leaf)(off:Nat):List Leaf:=u.take off++r++u.drop (off+r.length)
def sr (r:BinOp)(k:IntKind)(x y:Int):Option Leaf :=
 match r with
 |.add=>some (.int k (k.wrap (x+y)))
 |.sub=>some (.int k (k.wrap (x-y)))
 |.mul=>some (.int k (k.wrap (x*y)))
 |.eql=>some (.bool (x==y))
 |.neq=>some (.bool (x != y))
 |.lss=>some (.bool (decide (x<y)))
 |.leq=>some (.bool (decide (x<=y)))
 |.gtr=>some (.bool (decide (x>y)))
 |.geq=>some (.bool (decide (x>=y)))
 |_=>Option.none
def be (off:Nat):(a:Ty)->Nat->a.den->Option ((E:TypeId)×(e:Ty)×List e.den)
 |.pair a b,pos,x=>match be off a pos x.1 with
  |some u=>some u
  |Option.none=>be off b (pos+a.cells) x.2
 |.list m E e,pos,r=>bif m&&BK pos off then some ⟨E,e,r⟩ else Option.none
 |.int _,_,_|.bool,_,_|.str,_,_|.unit,_,_|.hdr,_,_=>Option.none
def cj (st:St):Leaf->Option (Upd×Leaf)
  |.nal p I ep H E e X=>bif br st I ep then (match I,H with
      | [(r, j, _)], some (i, O, off) => (match (st r).ls.getD j .dead with
        |.own J none R z u=>bif !BK r TMP&&!BK r EPO&&BK O z.cells then
            (match u[i]? with
            |some y=>match be off z 0 y with
              |some ⟨E,e,M⟩=>some ([(r,⟨(st r).ver,(st r).sh,aT (st r).ls j (.own J (some (i,off)) R z u)⟩),(TMP,⟨(st TMP).ver+1,.one,[.own (J&&z.shy) none E e M]⟩),(EPO,bU (st EPO))],.al TMP 0 ((st TMP).ver+1))
              |Option.none=>Option.none
            |Option.none=>Option.none)
          else Option.none
        |_=>Option.none)
      |_,_=>Option.none)
    else Option.none
  |_=>Option.none
def jx:Leaf->Bool
 |.nal _ _ _ _ _ _ _=>true
 |_=>false
inductive PK where
 |rd (a:Ty)
 |own (a:Ty)
 |io (a:Ty)
 |rref (a:Ty)
 |rref2 (a:Ty)
 |iop (a:Ty)
 |fn (As:List Ty) (B:Ty)
 |clo (f:FuncId) (cs:List (Bool×Ty))
 |hol (a:Ty) (c off:Nat)
 deriving DecidableEq
inductive RK where
 |v (a:Ty)
 |bv (a:Ty)
 |box (a:Ty)
 deriving DecidableEq
abbrev lV:List (Bool×Ty)->Type
 |[]=>Unit
 |c::r=>c.2.den×lV r
abbrev PK.den:PK->Type
 |.rd a|.own a|.io a|.rref a|.rref2 a|.iop a=>a.den
 |.fn u B=>Tup u->Option B.den
 |.clo _ r=>lV r
 |.hol a _ _=>a.den×Nat
abbrev ab:List PK->Type
 |[]=>Unit
 |p::r=>p.den×ab r
abbrev ah:List PK->Type
 |[]=>Unit
 |.io a::r=>a.den×ah r
 |.iop a::r=>a.den×ah r
 |_::r=>ah r
abbrev RK.den:RK->Type
 |.v a|.bv a|.box a=>a.den
abbrev ai:List RK->Type
 |[]=>Unit
 |r::u=>r.den×ai u
structure Ctr where
 f:FuncId
 ps:List PK
 rs:List RK
 fresh:Bool
 den:ab ps->Option (ai rs×ah ps)
def Ty.isAgg:Ty->Bool
 |.pair _ _|.unit=>true
 |_=>false
def target (st:St):Leaf->Option (List Leaf)
 |.bp b 0=>bif decide ((st b).sh=.agg) then some (bH b (st b).ver 0 (st b).ls) else none
 |.rp p a x 0=>some (cH p a x)
 |.rpp p a x=>some [.rp p a x 0]
 |_=>none
structure Got (α:Type) where
 p:Bool
 val:α
 frz:List (Nat×Nat)
 kill:List (Nat×Nat)
 see:List Nat
 lend:List Nat
def Got.ofRd {α:Type}(r:List Nat)(x:Bool×α)(frz:List (Nat×Nat)):Got α:=⟨x.1,x.2,frz,[],r,[]⟩
def lW (Γ:List Ctr)(f:FuncId):Option Ctr:=match Γ with
 |[]=>none
 |c::r=>bif BK c.f f then some c else lW r f
def ck (x:aI×List Leaf):Leaf :=
 match x with
 |(.one,[l])=>l
 |_=>.dead
def ft:List Leaf->List Nat
 |[]=>[]
 |.bp b _::r=>b::ft r
 |_::r=>ft r
def fu (st:St)(c:Bool×Ty)(l:Leaf):Option (Got c.2.den) :=
 bif c.1 then (match target st l with
  |some [u]=>match target st u with
   |some r=>(cO st c.2 r).map λy=>.ofRd (ft [l,u]) y (bz st r)
   |none=>none
  |_=>none)
 else match target st l with
  |some r=>(cO st c.2 r).map λy=>.ofRd (ft [l]) y (bz st r)
  |none=>none
def cr (st:St):(cs:List (Bool×Ty))->List Leaf->Option (Got (lV cs))
 |[],[]=>some ⟨false,(),[],[],[],[]⟩
 |c::cs,l::r=>match fu st c l with
  |some g=>match cr st cs r with
   |some h=>some ⟨g.p||h.p,(g.val,h.val),g.frz++h.frz,[],g.see++h.see,[]⟩
   |none=>none
  |none=>none
 |_,_=>none
def eT (c:Bool×Bool×(a:Ty)×a.den):Leaf:=bif c.2.1 then .rpp c.1 c.2.2.1 c.2.2.2 else .rp c.1 c.2.2.1 c.2.2.2 0
def bg (st : St) : (pk : PK) -> aI × List Leaf -> Option (Got pk.den)
  |.rd a,x=>bif decide (x.1=bi a.isAgg) then (cO st a x.2).map λy=>.ofRd [] y (bz st x.2) else none
  |.own a,x=>bif decide (x.1=bi a.isAgg) then (ch st a x.2).map λt=>⟨t.p,t.val,t.frz,t.kill,[],[]⟩ else none
  |.io a,x=>bif decide (x.1=bi a.isAgg) then (ch st a x.2).map λt=>⟨t.p,t.val,t.frz,t.kill,[],[]⟩ else none
  |.rref a,x=>fu st (false,a) (ck x)
  |.rref2 a,x=>fu st (true,a) (ck x)
  |.iop a,x=>match ck x with
    |.bp b 0=>bif decide ((st b).sh=.agg) then (ch st a (bH b (st b).ver 0 (st b).ls)).map λt=>⟨t.p,t.val,t.frz,t.kill,[],[b]⟩ else none
    |_=>none
  |.fn J B,x=>match ck x with
    |.fn z R O=>if h:z=J/\R=B then some ⟨false,(h.1 ▸ h.2 ▸ O:Tup J->Option B.den),[],[],[],[]⟩ else none
    |_=>none
  |.clo f I,x=>match ck x with
    |.clo H u=>bif BK H f then cr st I (u.map λb=>.bp b 0) else none
    |.clr H u=>bif BK H f then cr st I (u.map eT) else none
    |_=>none
  |.hol a c off,x=>bif decide (x.1=bi a.isAgg) then (match x.2.getD c .dead with
      |.al r j v=>(match aE st (.al r j v) with
        |.own p (some (i,o)) E e M=>bif BK o off then (match ch st a (aT x.2 c .nil) with
            |some t=>(match bM c E e M a 0 t.val with
              |some y=>some ⟨p||t.p,(y,i),t.frz,(r,j)::t.kill,[],[]⟩
              |none=>none)
            |none=>none) else none
        |_=>none)
      |_=>none) else none
def bd (ga:(pk:PK)->aI×List Leaf->Option (Got pk.den)):(ps:List PK)->List (aI×List Leaf)->Option (Got (ab ps))
 |[],[]=>some ⟨false,(),[],[],[],[]⟩
 |p::ps,x::r=>match ga p x with
  |some g=>match bd ga ps r with
   |some h=>some ⟨g.p||h.p,(g.val,h.val),g.frz++h.frz,g.kill++h.kill,g.see++h.see,g.lend++h.lend⟩
   |none=>none
  |none=>none
 |_,_=>none
def uM (st:St):(ps:List PK)->List (aI×List Leaf)->Option (Got (ab ps)):=bd (bg st)
def b6 (st:St):List Leaf->List Leaf->Upd
 |.al r j _::u,l::y=>let U:=b6 st u y;(match l with|.own p h E e ys=>let c:=ac U st r;[(r,⟨c.ver,c.sh,aT c.ls j (.own p h E e ys)⟩),(EPO,bU (ac U st EPO))]|_=>[])++U
 |_::u,_::y=>b6 st u y
 |_,_=>[]
def aG (st:St)(p:Bool):(ps:List PK)->List (aI×List Leaf)->ah ps->Upd
 |[],_,_=>[]
 |.io a::ps,x::r,o=>let U:=aG st p ps r o.2;b6 (ac U st) x.2 (ap p a o.1)++U
 |.iop a::ps,x::r,o=>let U:=aG st p ps r o.2;(match ck x with
  |.bp b _=>let c:=ac U st b;[(b,⟨c.ver+2,.agg,ap p a o.1⟩)]
  |_=>[])++U
 |.rd _::ps,_::r,o=>aG st p ps r o
 |.own _::ps,_::r,o=>aG st p ps r o
 |.rref _::ps,_::r,o=>aG st p ps r o
 |.rref2 _::ps,_::r,o=>aG st p ps r o
 |.fn _ _::ps,_::r,o=>aG st p ps r o
 |.clo _ _::ps,_::r,o=>aG st p ps r o
 |.hol _ _ _::ps,_::r,o=>aG st p ps r o
 |_::_,[],_=>[]
def pq (d v:Nat)(p q:Bool)(ks:List (Nat×Nat×Nat))(ep:Nat):(r:RK)->r.den->(Bool×List Leaf)×Upd
 |.v a,y=>((a.isAgg,ap p a y),[])
 |.bv a,y=>((a.isAgg,lz q ks ep a y),[])
 |.box a,y=>((false,[.bp (B0+d) 0]),[(B0+d,⟨v+1,.agg,ap p a y⟩)])
def bF (d v:Nat)(p q:Bool)(ks:List (Nat×Nat×Nat))(ep:Nat):(u:List RK)->ai u->List (Bool×List Leaf)×Upd
 |[],_=>([],[])
 |r::u,y=>let a:=pq d v p q ks ep r y.1;let b:=bF d v p q ks ep u y.2;(a.1::b.1,a.2++b.2)
def eU (r:Nat)(l:List (Bool×List Leaf)):bQ :=
 match l with
 |[(agg,u)]=>⟨r,bi agg,u⟩
 |l=>⟨r,.tup (l.map λx=>(x.1,x.2.length)),(l.map (·.2)).flatten⟩
def cg (st:St)(U:Upd)(d:Nat)(sh:aI)(ls:List Leaf):Upd:=(d,⟨(ac U st d).ver+1,sh,ls⟩)::U
def PK.reads:PK->Bool
 |.rd _|.rref _|.rref2 _=>true
 |_=>false
def nN (caps:List PK)(z:ab caps):(r:List Ty)->Tup r->ab (r.map .rd++caps)
 |[],_=>z
 |_::as,x=>(x.1,nN caps z as x.2)
def sa (st:St)(z:List Ty)(B:Ty)(ls:List Leaf)(ps:List PK)(H:List RK)(r:Bool)(u:ab ps->Option (ai H×ah ps))(q:List PK):Option (Got (Tup z->Option B.den)) :=
 if h:ps=z.map .rd++q/\H=[.v B] then
  bif q.all PK.reads&&B.flat&&r then
   match uM st q (ls.map λl=>(.one,[l])) with
   |some g=>some ⟨g.p,λx=>(u (h.1 ▸ nN _ g.val z x)).map λy=>(h.2 ▸ y.1:ai [.v B]).1,g.frz,[],g.see,[]⟩
   |none=>none
  else none
 else none
def kL (Γ:List Ctr)(st:St)(r:List Ty)(B:Ty)(f:FuncId)(ls:List Leaf):Option (Got (Tup r->Option B.den)) :=
 match lW Γ f with
 |some c=>sa st r B ls c.ps c.rs c.fresh c.den (c.ps.drop r.length)
 |none=>none
def vC:Leaf->Option (FuncId×List Leaf)
 |.clo f r=>some (f,r.map λb=>.bp b 0)
 |.clr f r=>some (f,r.map eT)
 |_=>none
def ca (Γ:List Ctr)(st:St):(pk:PK)->aI×List Leaf->Option (Got pk.den)
 |.fn u B,x=>match vC (ck x) with
  |some r=>kL Γ st u B r.1 r.2
  |none=>bg st (.fn u B) x
 |.rd a,x=>bg st (.rd a) x
 |.own a,x=>bg st (.own a) x
 |.io a,x=>bg st (.io a) x
 |.rref a,x=>bg st (.rref a) x
 |.rref2 a,x=>bg st (.rref2 a) x
 |.iop a,x=>bg st (.iop a) x
 |.clo f y,x=>bg st (.clo f y) x
 |.hol a c off,x=>bg st (.hol a c off) x
def oK (Γ:List Ctr)(st:St):(ps:List PK)->List (aI×List Leaf)->Option (Got (ab ps)):=bd (ca Γ st)
def PK.takes:PK->Bool
 |.own _|.io _=>true
 |_=>false
def PK.isIo:PK->Bool
 |.io _=>true
 |_=>false
def pt:Ty->Nat->Bool
 |.pair a b,j=>bif CE j a.cells then pt a j else pt b (j-a.cells)
 |.list m _ _,j=>m&&BK j 0
 |_,_=>false
def lC (a:Ty):Nat->List Leaf->Option Nat
 |_,[]=>none
 |j,l::r=>bif jx l&&pt a j then some j else lC a (j+1) r
def PK.nest:PK->List Leaf->Option Nat
 |.own a,r=>lC a 0 r
 |.io a,r=>lC a 0 r
 |_,_=>none
def kl:Leaf->Nat×Nat
 |.nal _ ((r,j,_)::_) _ _ _ _ _=>(r,j)
 |_=>(0,0)
def c5 (st:St):List PK->List (aI×List Leaf)->Option (Upd×List (aI×List Leaf)×Option (Bool×Nat×Nat))
 |p::y,x::r=>match p.nest x.2 with
  |some k=>(cj st (x.2.getD k .dead)).map λu=>(u.1,(x.1,aT x.2 k u.2)::r,some (p.isIo,kl (x.2.getD k .dead)))
  |none=>(c5 st y r).map λu=>(u.1,x::u.2.1,u.2.2)
 |_,r=>some ([],r,none)
section
variable {R:Type}
def lX (st : St) (l : Leaf) (M : Upd -> Leaf -> Option R) : Option R :=
  match l with
  |.nal _ I ep H _ _ _=>bif br st I ep then (match I,H with
      | [(r, j, _)], some (i, X, off) => (match (st r).ls.getD j .dead with
        |.own J none Y z u=>bif !BK r TMP&&!BK r EPO&&BK X z.cells then
            (idx u (i:Int)).bind λy=>match be off z 0 y with
              |some ⟨E,e,O⟩=>M [(r,⟨(st r).ver,(st r).sh,aT (st r).ls j (.own J (some (i,off)) Y z u)⟩),(TMP,⟨(st TMP).ver+1,.one,[.own (J&&z.shy) none E e O]⟩),(EPO,bU (st EPO))] (.al TMP 0 ((st TMP).ver+1))
              |Option.none=>Option.none
          else Option.none
        |_=>Option.none)
      |_,_=>Option.none)
    else Option.none
  |_=>Option.none
def kM (st:St):List PK->List (aI×List Leaf)->(Upd->List (aI×List Leaf)->Option (Bool×Nat×Nat)->Option R)->Option R
 |p::y,x::r,u=>match p.nest x.2 with
  |some k=>lX st (x.2.getD k .dead) λU l=>u U ((x.1,aT x.2 k l)::r) (some (p.isIo,kl (x.2.getD k .dead)))
  |none=>kM st y r λU z b=>u U (x::z) b
 |_,r,u=>u [] r none
def iQ (st:St):(u:List Ty)->List (aI×List Leaf)->Option (Tup u)
 |[],[]=>some ()
 |a::as,x::r=>bif decide (x.1=bi a.isAgg) then match cO st a x.2 with
   |some (_,y)=>(iQ st as r).map (y,·)
   |none=>none
  else none
 |_,_=>none
def RK.isV:RK->Bool
 |.v _|.bv _=>true
 |.box _=>false
def RK.isBv:RK->Bool
 |.bv _=>true
 |_=>false
def gG (st:St)(d:Nat):List RK->Bool
 |[.box _]=>decide ((st (B0+d)).sh=.off)
 |rs=>rs.all RK.isV
def oL (b:Option (Bool×Nat×Nat))(frz kill:List (Nat×Nat))(d:Nat):Bool :=
 match b with
 |some (true,r,j)=>!(kill.any (iy (r,j)))&&!(frz.any (iy (r,j)))&&!BK r d&&!BK r (B0+d)
 |_=>true
def j9 (st:St)(b:Option (Bool×Nat×Nat))(U:Upd)(H:Upd->Option R):Option R :=
 match b with
 |some (true,r,j) =>
  match (ac U st r).ls.getD j .dead,(ac U st TMP).ls with
  |.own p (some (i,off)) M I u,[.own q none E e J]=>(idx u (i:Int)).bind λy=>match bM off E e J I 0 y with
   |some z=>H ((r,⟨(ac U st r).ver,(ac U st r).sh,aT (ac U st r).ls j (.own (p||q) none M I (u.set i z))⟩)::(TMP,⟨(ac U st TMP).ver+1,.off,[]⟩)::(EPO,bU (ac U st EPO))::U)
   |none=>none
  |_,_=>none
 |_=>H U
def jy (Γ:List Ctr)(st:St)(d:Nat)(f:FuncId)(xs:List (aI×List Leaf))(J:Upd->Option R):Option R :=
 match lW Γ f with
 |some c=>kM st c.ps xs λu xs b =>
  match oK Γ (ac u st) c.ps xs with
  |some g=>bif a7 g.kill&&dz g.frz g.kill&&gG st d c.rs&&!(g.see.any λq=>g.lend.any (BK q))&&CI g.lend.length 1&&(g.lend.isEmpty||!(c.ps.any PK.isIo))&&((c.fresh&&g.lend.isEmpty)||!(c.rs.any RK.isBv))&&(g.kill.all λk=>!BK k.1 EPO)&&oL b g.frz g.kill d then
   (c.den g.val).bind λy =>
    let I:=(let U:=(bif c.fresh then [] else aF (ac u st) g.frz);aN (ac U (ac u st)) g.kill++U)++u;let z:=aG (ac I st) (g.p&&!c.fresh) c.ps xs y.2++I;let r:=bF d (ac z st (B0+d)).ver (g.p&&!c.fresh) g.p (g.frz.map λk=>(k.1,k.2,(ac z st k.1).ver)) (ac z st EPO).ver c.rs y.1;let H:=r.2++z
    j9 st b ((d,eU ((ac H st d).ver+1) r.1)::H) J
   else none
  |none=>none
 |none=>none
def ak:Nat:=140737488355328
def fR (st:St)(E:TypeId)(e:Ty)(y:Leaf):Option (cI (List e.den)) :=
 bif e.flat then (dg e (aE st y)).map λx=>⟨false,x.2,[],[],[]⟩
 else bif decide (e.sh=e) then (dg e (aE st y)).map λx=>⟨x.1,x.2,bz st [y],[],[]⟩
 else (ch st (.list true E e) [y]).map λt=>⟨t.p,t.val,t.frz,t.kill,[]⟩
def dU (st r:St)(z:Upd)(d:Nat)(E:TypeId)(e:Ty)(u:Nat)(p:Bool)(xs:List e.den)(ks:List (Nat×Nat))(y:Leaf)(H:Upd->Option R):Option R :=
 match fR r E e y with
 |some t=>bif a7 (t.kill++ks)&&dz t.frz (t.kill++ks)&&decide ((xs.length+t.val.length)*u<=ak) then
   let U:=aF r t.frz
   H (cg st (aN (ac U r) (t.kill++ks)++U++z) d .one [.own (p||t.p) none E e (xs++t.val)])
  else none
 |none=>none
def eu (st:St)(z:Upd)(d:Nat)(E:TypeId)(e:Ty)(u:Nat)(x y:Leaf)(J:Upd->Option R):Option R :=
 match x with
 |.al r j v=>match aE (ac z st) (.al r j v) with
  |.own p none H I M=>bif BK H E&&decide (I.sh=e.sh) then dU st (ac z st) z d H I u p M [(r,j)] y J else none
  |_=>none
 |.nil=>dU st (ac z st) z d E e u false [] [] y J
 |_=>none
def iz (st:St)(d:Nat)(E:TypeId)(e:Ty)(r:Nat)(x y:Leaf)(u:Upd->Option R):Option R :=
 bif jx x then lX st x λz x=>eu st z d E e r x y u else eu st [] d E e r x y u
def dh (st:St)(x:Option Operand)(r:Int):Option Int :=
 match x with
 |none=>some r
 |some l=>match one st l with
  |.int _ n=>some n
  |_=>none
def fw (st:St)(r:List (Nat×Nat×Bool)):List (Nat×Operand)->List Leaf->Option (List Leaf)
 |[],u=>some u
 |(i,x)::y,u=>match r[i]? with
  |some (off,n,agg)=>bif BK (au st x).2.length n&&decide ((au st x).1=bi agg)&&decide (off+n<=u.length) then fw st r y (jH u (au st x).2 off) else none
  |none=>none
def eG (st:St)(e:Ty):Nat->List (Nat×Operand)->Option (cI (List e.den))
  |_,[]=>some ⟨false,[],[],[],[]⟩
  |k,(i,x)::r=>bif BK i k&&decide ((au st x).1=bi e.isAgg) then
      match ch st e (au st x).2,eG st e (k+1) r with
      |some t,some u=>some ⟨t.p||u.p,t.val::u.val,t.frz++u.frz,t.kill++u.kill,[]⟩
      |_,_=>none
    else none
def fG (st:St)(e:Ty):Nat->List Leaf->Option (List e.den)
 |0,_=>some []
 |n+1,r=>match cO st e (r.take e.cells),fG st e n (r.drop e.cells) with
  |some (_,x),some u=>some (x::u)
  |_,_=>none
def su (st:St)(xs:List Operand):Option (List Nat) :=
 xs.foldl (λ (r:Option (List Nat)) x=>r.bind λl=>match one st x with
  |.bp b 0=>some (l++[b])
  |_=>none) (some [])
def wrU (o:Oper)(st:St)(r:Upd->Option R)(sh:aI)(ls:List Leaf):Option R:=match o.dst with
 |some d=>r (cg st [] d sh ls)
 |none=>none
def cP (h:Option (Nat×Nat))(i:Nat):Option Nat:=match h with
 |some (u,r)=>bif BK u i then some r else none
 |none=>none
def holB (h:Option (Nat×Nat))(i:Nat):Option (Bool×Nat):=match h with
 |some (u,r)=>some (BK u i,r)
 |none=>none
theorem lY (p:Bool)(r j v ep i u:Nat)(h:Option (Nat×Nat))(n:Nat):∀ (a:Ty) (off:Nat) (x:a.den),lA p r j v ep i u (holB h n) a off x=gF p r j v ep i u (cP h n) a off x
 |.int _,_,_|.bool,_,_|.str,_,_|.unit,_,_|.hdr,_,_=>rfl
 |.pair a b,off,x=>by
  show _++_=_++_;rw[lY p r j v ep i u h n a,lY p r j v ep i u h n b]
 |.list m E e,off,H=>by
  simp only[lA,gF];congr 2;cases h with
  |none=>rfl
  |some q =>
   obtain⟨z,I⟩:=q;simp only[holB,cP];by_cases y:BK z n=true
   ·simp only[y,Bool.and_true,cond_true,BR];rw[Bool.eq_iff_iff,Nat.beq_eq,decide_eq_true_eq]
   ·simp only[Cf]at y;simp[y]
def gH (st:St)(r j i off:Nat)(n:Nat)(p:Bool)(E:TypeId)(e:Ty)(xs:List e.den)(h:Option (Nat×Nat))(ls:List Leaf)(M:Upd->Option R):Option R :=
 (idx xs (i:Int)).bind λy =>
  match da st off n e 0 y ls with
  |some t=>bif t.rest.isEmpty&&a7 t.kill&&dz t.frz t.kill&&!((t.kill++t.frz).any λk=>BK k.1 r) then
    let H:=aF st t.frz;let J:=aN (ac H st) t.kill++H;let u (l:Leaf):Option R:=M ((r,⟨(st r).ver,(st r).sh,aT (st r).ls j l⟩)::(EPO,bU (ac J st EPO))::J)
    match h with
    |none=>u (.own (p||t.p) none E e (xs.set i t.val))
    |some (I,z)=>bif CI off z&&CE z (off+n) then (bif BK i I then u (.own (p||t.p) none E e (xs.set i t.val)) else none)
     else u (.own (p||t.p) (some (I,z)) E e (xs.set i t.val))
   else none
  |none=>none
def sb (r:Nat):Bool:=!BK r TMP&&!BK r EPO
def ew (s:ByteArray):List Int:=s.data.toList.map λb=>(b.toNat:Int)
def gI (xs:List Int):ByteArray:=ByteArray.mk (xs.map λn=>UInt8.ofNat n.toNat).toArray
def act (Γ:List Ctr)(T:TypeId->TI)(o:Oper)(st:St)(M:Upd->Option R):Option R :=
 let w (sh:aI) (ls:List Leaf):Option R:=wrU o st M sh ls;let w1 (l:Leaf):Option R:=w .one [l]
 match o.op with
 |.move x=>let v:=au st x;w v.1 v.2
 |.assign x=>match o.dst with
  |some d=>let v:=au st x;bif ig st v.2 then M (cg st (mvU st v.2) d v.1 (dG st v.2)) else none
  |none=>none
 |.pick c a b=>match one st c with
  |.bool t=>bif t then (let v:=au st a;w v.1 v.2) else (let v:=au st b;w v.1 v.2)
  |_=>none
 |.alloc t=>match o.dst with
  |some d=>bif decide ((st (B0+d)).sh=.off)&&!decide ((T t).cells=0) then M ((B0+d,⟨(st (B0+d)).ver+1,.agg,(T t).zero⟩)::cg st [] d .one [.bp (B0+d) 0]) else none
  |none=>none
 |.box t x=>match o.dst with
  |some d=>let v:=au st x
   bif decide ((st (B0+d)).sh=.off)&&decide (v.2.length=(T t).cells)&&decide (v.1=bi (T t).agg)&&ig st v.2 then
    (bif sq st x then M ((B0+d,⟨(st (B0+d)).ver+1,.agg,v.2⟩)::cg st [] d .one [.bp (B0+d) 0])
    else (let U:=mvU st v.2
     M ((B0+d,⟨(ac U st (B0+d)).ver+1,.agg,dG st v.2⟩)::cg st U d .one [.bp (B0+d) 0])))
   else none
  |none=>none
 |.build t H=>match T t with
  |.struct a J=>match fw st J H.toList (eZ a) with
   |some ls=>w .agg ls
   |none=>none
  |.arr e n=>match fw st ((CD n).map λi=>(i*e.cells,e.cells,e.isAgg)) H.toList (B4 n (eZ e)).flatten with
   |some ls=>w .agg ls
   |none=>none
  |_=>none
 |.buildSlice t n H=>match T t with
  |.slice E e _=>match eG st e 0 H.toList with
   |some u=>bif BK u.val.length n&&decide (n*e.cells<=16777216)&&a7 u.kill&&dz u.frz u.kill then (match o.dst with
     |some d=>let U:=aF st u.frz;M (cg st (aN (ac U st) u.kill++U) d .one [.own u.p none E e u.val])
     |none=>none) else none
   |none=>none
  |_=>none
 |.load t x =>
  bif decide ((T t).cells=0) then none else
  match one st x with
  |.rp p a y off=>bif decide (off+(T t).cells<=a.cells) then w (bi (T t).agg) (((cH p a y).drop off).take (T t).cells) else none
  |.bp b off=>bif decide ((st b).sh=.agg)&&decide (off+(T t).cells<=(st b).ls.length) then w (bi (T t).agg) (((bH b (st b).ver 0 (st b).ls).drop off).take (T t).cells) else none
  |.rpp p a y=>bif BK (T t).cells 1&&!(T t).agg then w1 (.rp p a y 0) else none
  |.np p Y ep a y off=>bif br st Y ep&&decide (off+(T t).cells<=a.cells) then w (bi (T t).agg) (((lz p Y ep a y).drop off).take (T t).cells) else none
  |.ep r j v i sz off=>match aE st (.al r j v) with
   |.own p h _ e z=>bif BK sz e.cells&&decide (off+(T t).cells<=e.cells) then (idx z (i:Int)).bind λy=>w (bi (T t).agg) (((lA p r j v (st EPO).ver i sz (holB h i) e 0 y).drop off).take (T t).cells) else none
   |_=>none
  |_=>none
 |.store t x y=>match o.dst with
  |some _=>none
  |none =>
  let v:=(au st y).2
  bif BK v.length (T t).cells&&decide ((au st y).1=bi (T t).agg)&&!decide ((T t).cells=0) then
   match one st x with
   |.bp b off=>bif decide ((st b).sh=.agg)&&decide (off+v.length<=(st b).ls.length)&&ig st v then
     let U:=mvU st v;let c:=ac U st b
     M ((b,⟨c.ver+1,.agg,jH c.ls (dG st v) off⟩)::U)
    else none
   |.ep r j a0 i sz off=>match aE st (.al r j a0) with
    |.own p h E e z=>bif BK sz e.cells&&decide (off+v.length<=e.cells)&&sb r then gH st r j i off v.length p E e z h v M else none
    |_=>none
   |_=>none
  else none
 |.nilCheck x=>match one st x with
  |.rp p a y off=>w1 (.rp p a y off)
  |.bp b off=>w1 (.bp b off)
  |.ep r j v i sz off=>bif BK (st r).ver v then w1 (.ep r j v i sz off) else none
  |.rpp p a y=>w1 (.rpp p a y)
  |.np p Y ep a y off=>bif br st Y ep then w1 (.np p Y ep a y off) else none
  |_=>none
 |.binOp op t x y _=>match one st x,one st y with
  |.int k a,.int k' b =>
   match op with
   |.shl=>bif decide (b<0) then none else w1 (.int k (k.wrap (a*2 ^ (min b.toNat k.bits))))
   |.shr=>bif decide (b<0) then none else w1 (.int k (a.fdiv (2 ^ (min b.toNat k.bits))))
   |.quo=>bif decide (b=0) then none else bif decide (k=k') then w1 (.int k (k.wrap (a.tdiv b))) else none
   |.rem=>bif decide (b=0) then none else bif decide (k=k') then w1 (.int k (a.tmod b)) else none
   |.and=>bif decide (k=k') then w1 (.int k (k.wrap ((BitVec.ofInt k.bits a &&& BitVec.ofInt k.bits b).toNat))) else none
   |.xor=>bif decide (k=k') then w1 (.int k (k.wrap ((BitVec.ofInt k.bits a ^^^ BitVec.ofInt k.bits b).toNat))) else none
   |_=>bif decide (k=k') then (match sr op k a b with|some l=>w1 l|none=>none) else none
  |.bool a,.bool b=>match T t with
   |.bool=>match op with
    |.eql=>w1 (.bool (a==b))
    |.neq=>w1 (.bool (a != b))
    |_=>none
   |_=>none
  |.str a,.str b=>match op with
   |.eql=>w1 (.bool (a.toList==b.toList))
   |.neq=>w1 (.bool (a.toList != b.toList))
   |.add=>bif decide (a.size+b.size<=9223372036854775807) then w1 (.str (a++b)) else none
   |_=>none
  |_,_=>match T t with
   |.struct a _=>bif a.flat&&decide ((au st x).1=.agg)&&decide ((au st y).1=.agg) then
     match cO st a (au st x).2,cO st a (au st y).2 with
     |some (_,u),some (_,v)=>match op with
      |.eql=>w1 (.bool (a.eqv u v))
      |.neq=>w1 (.bool (!a.eqv u v))
      |_=>none
     |_,_=>none
    else none
   |_=>none
 |.unOp op _ x=>match op,one st x with
  |.not,.bool b=>w1 (.bool (!b))
  |.neg,.int k n=>w1 (.int k (k.wrap (0-n)))
  |_,_=>none
 |.convert s t x=>match T s,T t,one st x with
  |.int _,.int k,.int _ n=>w1 (.int k (k.wrap n))
  |.slice _ (.int .u8) _,.str,l=>match dg (.int .u8) (aE st l) with
   |some (_,z)=>w1 (.str (gI z))
   |none=>none
  |.str,.slice E (.int .u8) _,.str s=>w1 (.own false none E (.int .u8) (ew s))
  |_,_,_=>none
 |.makeSlice t n c=>match T t,one st n,one st c with
  |.slice E e X,.int _ a,.int _ b =>
   bif decide (0<=a)&&decide (a=b)&&decide (a*X<=ak) then w1 (.own false none E e (B4 a.toNat e.zero)) else none
  |_,_,_=>none
 |.slice t x lo hi mx=>match mx,o.dst with
  |none,some d=>match dh st lo 0 with
   |none=>none
   |some i=>match T t,aE st (one st x) with
    |.str,.str s=>(match dh st hi s.size with
     |some h=>bif decide (0<=i)&&decide (i<=h)&&decide (h<=(s.size:Int)) then M (cg st [] d .one [.str (s.extract i.toNat h.toNat)]) else none
     |none=>none)
    |.slice _ O _,.nal p Y ep _ E e z=>(match dh st hi z.length with
     |some h=>bif decide (0<=i)&&decide (i<=h)&&decide (h<=(z.length:Int))&&BK O.cells e.cells then
       M (cg st [] d .one [.nal p Y ep none E e ((z.take h.toNat).drop i.toNat)]) else none
     |none=>none)
    |.slice _ O _,.ro p E e z=>(match dh st hi z.length with
     |some h=>bif decide (0<=i)&&decide (i<=h)&&decide (h<=(z.length:Int))&&BK O.cells e.cells then
       M (cg st [] d .one [.ro p E e ((z.take h.toNat).drop i.toNat)]) else none
     |none=>none)
    |.slice _ O _,.own p none E e z=>(match dh st hi z.length with
     |some h=>bif decide (0<=i)&&decide (i<=h)&&decide (h<=(z.length:Int))&&BK O.cells e.cells then
       (match one st x with
       |.al r j v=>M (cg st [] d .one [.nal p [(r,j,v)] (st EPO).ver none E e ((z.take h.toNat).drop i.toNat)])
       |_=>none) else none
     |none=>none)
    |_,_=>none
  |some m,some d=>match lo,T t,one st x with
   |none,.slice _ O _,.al r j v=>(match aE st (.al r j v) with
    |.own p none E e z=>(match dh st hi z.length,dh st (some m) 0 with
     |some h,some k=>bif hi.isSome&&decide (h=(z.length:Int))&&decide (k=(z.length:Int))&&BK O.cells e.cells then M (cg st (aN st [(r,j)]) d .one [.own p none E e z]) else none
     |_,_=>none)
    |_=>none)
   |_,_,_=>none
  |_,_=>none
 |.fieldAddr t x f=>match T t with
  |.struct _ J=>match J[f]? with
   |some (off,_,_)=>match one st x with
    |.rp p a y o'=>w1 (.rp p a y (o'+off))
    |.bp b o'=>w1 (.bp b (o'+off))
    |.ep r j v i sz o'=>bif BK (st r).ver v then w1 (.ep r j v i sz (o'+off)) else none
    |.np p Y ep a y o'=>bif br st Y ep then w1 (.np p Y ep a y (o'+off)) else none
    |_=>none
   |none=>none
  |_=>none
 |.field t x f=>match T t with
  |.struct a J=>match J[f]? with
   |some (off,n,agg)=>bif decide ((au st x).1=.agg)&&decide ((au st x).2.length=a.cells) then w (bi agg) (((au st x).2.drop off).take n) else none
   |none=>none
  |_=>none
 |.indexAddr t x i=>match one st i with
  |.int _ n=>match T t with
   |.arr e Z=>match one st x with
    |.bp b off=>bif decide (0<=n)&&decide (n<(Z:Int)) then w1 (.bp b (off+n.toNat*e.cells)) else none
    |_=>none
   |.slice _ e _=>match one st x with
    |.al r j v=>match aE st (.al r j v) with
     |.own _ _ _ O z=>bif BK O.cells e.cells then (idx z n).bind λ_=>w1 (.ep r j v n.toNat O.cells 0) else none
     |_=>none
    |.ro p _ O z=>bif BK O.cells e.cells then (idx z n).bind λy=>w1 (.rp p O y 0) else none
    |.nal p Y ep _ _ O z=>bif BK O.cells e.cells&&br st Y ep then (idx z n).bind λy=>w1 (.np p Y ep O y 0) else none
    |_=>none
   |_=>none
  |_=>none
 |.index t x i=>match one st i with
  |.int _ n=>match T t with
   |.str=>match one st x with
    |.str s=>(idx s.data.toList n).bind λy=>w1 (.int .u8 y.toNat)
    |_=>none
   |.arr e Z=>bif e.flat&&decide ((au st x).1=.agg)&&BK (au st x).2.length (Z*e.cells)&&!BK e.cells 0 then (match fG st e Z (au st x).2 with
     |some vs=>(idx vs n).bind λy=>w (bi e.isAgg) (cH false e y)
     |none=>none) else none
   |_=>none
  |_=>none
 |.extract x i=>match au st x with
  |(.tup ps,ls)=>match ps[i]? with
   |some (agg,n)=>w (bi agg) ((ls.drop ((ps.take i).foldl (λa b=>a+b.2) 0)).take n)
   |none=>none
  |_=>none
 |.makeFunc (.func f) first I=>bif BK first.size 0 then
   match su st I.toList with
   |some l=>w1 (.clo f l)
   |none=>none
  else none
 |.call c=>match o.dst with
  |none=>none
  |some d=>match c.callee with
   |.value f =>
    let z:=c.args.toList.map (au st)
    match one st f with
    |.clo g I=>jy Γ st d g (z++I.map λb=>(.one,[.bp b 0])) M
    |.clr g I=>jy Γ st d g (z++I.map λc=>(.one,[eT c])) M
    |.fn As B φ=>bif B.flat then match iQ st As z with
      |some x=>(φ x).bind λy=>w (bi B.isAgg) (ap false B y)
      |none=>none
     else none
    |_=>none
   |.builtin .len=>match c.args.toList with
    |[x]=>match c.argTypes.toList with
     |[t]=>match T t,aE st (one st x) with
      |.slice _ _ _,l=>(match fZ l with
       |some n=>w1 (.int .i64 n)
       |none=>none)
      |.str,.str s=>w1 (.int .i64 s.size)
      |_,_=>none
     |_=>none
    |_=>none
   |.builtin .append=>match c.args.toList,c.argTypes.toList with
    |[x,y],[t,u]=>match T t with
     |.slice E e X=>bif BK t u then iz st d E e X (one st x) (one st y) M else none
     |_=>none
    |_,_=>none
   |.builtin .min=>match c.args.toList with
    |[x,y]=>match one st x,one st y with
     |.int k a,.int _ b=>w1 (.int k (bif decide (b<a) then b else a))
     |_,_=>none
    |_=>none
   |.builtin .max=>match c.args.toList with
    |[x,y]=>match one st x,one st y with
     |.int k a,.int _ b=>w1 (.int k (bif decide (a<b) then b else a))
     |_,_=>none
    |_=>none
   |_=>none
 |_=>none
def az:List Leaf->List Nat
 |[]=>[]
 |.al r _ _::u=>r::az u
 |.ep r _ _ _ _ _::u=>EPO::r::az u
 |.nal _ z _ _ _ _ _::u=>EPO::z.map (·.1)++az u
 |.np _ z _ _ _ _::u=>EPO::z.map (·.1)++az u
 |.bp b _::u=>b::az u
 |.clo _ y::u=>y++az u
 |_::u=>az u
def iA (xs:List Operand):List Nat :=
 match xs with
 |[]=>[]
 |.tmp t::xs=>t::iA xs
 |_::xs=>iA xs
def kN (st:St)(r:List Nat):List Nat :=
 let a:=r.flatMap λt=>az (st t).ls
 let b:=a.flatMap λt=>az (st t).ls
 let c:=b.flatMap λt=>az (st t).ls
 r++a++b++c
def cl (st:St)(u:Op):List Nat :=
 let r:=iA u.operands.toList
 match u with
 |.move _|.pick _ _ _|.build _ _|.field _ _ _|.extract _ _|.makeFunc _ _ _|.unOp _ _ _|.makeSlice _ _ _|.alloc _=>r
 |.slice _ _ _ _ _=>EPO::(r++r.flatMap λt=>aw (st t).ls)
 |.assign _|.box _ _|.buildSlice _ _ _|.indexAddr _ _ _|.nilCheck _|.fieldAddr _ _ _|.convert _ _ _|.binOp _ _ _ _ _|.index _ _ _=>r++r.flatMap λt=>aw (st t).ls
 |.load _ _|.store _ _ _=>r++r.flatMap λt=>az (st t).ls
 |.call c=>match c.callee with
  |.builtin _=>TMP::(r++r.flatMap λt=>aw (st t).ls)
  |_=>TMP::EPO::kN st r
 |_=>kN st r
def zI (o:Oper):List Nat:=match o.dst with
 |some d=>[d,B0+d]
 |none=>[]
def e8 (st:St)(u:Op):List Nat :=
 let r:=iA u.operands.toList
 match u with
 |.move _=>r
 |.indexAddr _ _ _=>r++r.flatMap λt=>aw (st t).ls
 |_=>[]
def fy (st:St)(o:Oper):List Nat:=(match o.op with|.move _|.indexAddr _ _ _=>[]|op=>cl st op)++zI o
def d5 (st:St)(o:Oper):List Nat:=match o.op with
 |.store _ x _=>match one st x with
  |.ep r _ _ _ _ _=>[r]
  |_=>[]
 |_=>[]
structure cJ where
 rd:List Nat
 hd:List Nat
 wr:List Nat
 cw:List Nat
def lZ (a b:List Nat):Bool:=a.any λx=>b.any λy=>BK x y
def cJ.apart (x y:cJ):Bool:=!lZ (x.wr++x.cw) (y.wr++y.cw)&&!lZ (x.wr++x.cw) y.rd&&!lZ x.rd (y.wr++y.cw)&&!lZ x.wr y.hd&&!lZ x.hd y.wr
def jS:List Oper->List Nat->List Nat
 |[],r=>r
 |o::u,r=>jS u (r++[o.after.toList.foldl (λs e=>bif Region.binds .any e then s ||| 2 ^ e.on ||| r.getD e.on 0 else s) 0])
def pu (r:List Nat)(u:List cJ):Bool :=
 (CD u.length).all λj=>(CD j).all λi =>
  (r.getD j 0).testBit i||(match u[i]?,u[j]? with
   |some x,some y=>x.apart y
   |_,_=>false)
def lit (st:St)(t:Nat)(b:Bool):St:=ac [(t,⟨(st t).ver,.one,[.bool b]⟩)] st
def eP (st:St)(o:Oper):Upd :=
 match o.dst with
 |some d=>[(d,⟨(st d).ver+1,.und,[]⟩)]
 |none=>[]
def opK (Γ:List Ctr)(T:TypeId->TI)(y:Array Oper)(o:Oper)(st:St)(H:St->cJ->Option R):Option R :=
 let z (st:St) (r:List Nat):Option R:=act Γ T o st (λU=>H (ac U st) ⟨r++fy st o,e8 st o.op,(U.map (·.1)).filter (λq=>!((d5 st o).any (BK q))),d5 st o⟩);let no (st:St) (r:List Nat):Option R:=H (ac (eP st o) st) ⟨r,[],o.dst.toList,[]⟩
 match o.guard with
 |none=>z st []
 |some (j,u)=>match (y[j]?).bind (·.dst) with
  |some t=>match (st t).sh,(st t).ls with
   |.one,[.bool b]=>bif b then (bif u then z (lit st t true) [t] else no (lit st t true) [t]) else (bif u then no (lit st t false) [t] else z (lit st t false) [t])
   |.und,_=>no st [t]
   |_,_=>none
  |none=>none
def qn (Γ:List Ctr)(T:TypeId->TI)(r:Array Oper):List Oper->St->List cJ->(St->List cJ->Option R)->Option R
 |[],H,y,z=>z H y
 |o::u,H,y,z=>opK Γ T r o H (λI t=>qn Γ T r u I (y++[t]) z)
def nO (ops:Array Oper):Bool:=(CD ops.size).all λi=>match ops[i]? with
 |some o=>o.after.toList.all λe=>!Region.binds .any e||decide (e.on<i)
 |none=>true
def regK (Γ:List Ctr)(T:TypeId->TI)(ops:Array Oper)(u:Bool)(st:St)(y:St->Option R):Option R :=
 bif u then
  qn Γ T ops ops.toList st [] (λr z=>bif nO ops&&pu (jS ops.toList []) z then y r else none)
 else qn Γ T ops ops.toList st [] (λr _=>y r)
inductive Ex where
 |normal|exit (id:Nat)|ret
def oM (y:St->(Ex->St->Option R)->Option R)(u:Ex->St->Option R):Ex->St->Option R
 |.normal,r=>y r u
 |e,r=>u e r
def sv (id:Nat)(y:Ex->St->Option R):Ex->St->Option R
 |.exit r,u=>bif BK r id then y .normal u else y (.exit r) u
 |e,u=>y e u
def av (L:List (Nat×bQ)):St:=λq=>ac L (λ_=>bQ.none) q
inductive Coe where
 |keep|kill
 |own (p:Bool) (E:TypeId) (e:Ty)|ro (p:Bool) (E:TypeId) (e:Ty)|rp (p:Bool)
def bw (st:St)(live:List Nat):Coe->Leaf->Leaf
 |.kill,_=>.dead
 |.own p E e,.nil=>.own p none E e []
 |.own p _ _,.own q none E e y=>bif !q||p then .own p none E e y else .dead
 |.ro p E e,.nil=>.ro p E e []
 |.ro p E e,.ro q _ H y=>bif !q||p then (match castSh e H y with | some z=>.ro p E e z | none=>.dead) else .dead
 |.ro p E e,.own q none _ H y=>bif !q||p then (match castSh e H y with | some z=>.ro p E e z | none=>.dead) else .dead
 |.rp p,.rpp q a x=>bif !q||p then .rpp p a x else .dead
 |.rp p,.rp q a x off=>bif !q||p then .rp p a x off else .dead
 |.keep,.int k n=>.int k n
 |.keep,.bool b=>.bool b
 |.keep,.str s=>.str s
 |.keep,.nil=>.nil
 |.keep,.hdr n=>.hdr n
 |.keep,.fn M B I=>.fn M B I
 |.keep,.clr f J=>.clr f J
 |.keep,.bp b off=>bif live.any (BK b) then .bp b off else .dead
 |.keep,.clo f u=>bif u.all (λb=>live.any (BK b)) then .clo f u else .dead
 |.keep,.al r j v=>bif live.any (BK r)&&BK (st r).ver v then .al r j 0 else .dead
 |_,_=>.dead
def c6 (st:St)(live:List Nat):List Coe->List Leaf->List Leaf
 |c::u,l::r=>bw st live c l::c6 st live u r
 |[],_::r=>.dead::c6 st live [] r
 |_,[]=>[]
def l6 (live:List (Nat×List Coe))(st:St):St:=av (live.map λr=>(r.1,⟨0,(st r.1).sh,c6 st (live.map (·.1)) r.2 (st r.1).ls⟩))
def gJ (live:List (Nat×List Coe))(rec:St->Option R)(u:Ex->St->Option R):Ex->St->Option R
 |.normal,r=>rec (l6 live r)
 |e,r=>u e r
def aX (live:List (Nat×List Coe))(u:St->(Ex->St->Option R)->Option R):Nat->St->(Ex->St->Option R)->Option R
 |0,_,_=>none
 |k+1,z,y=>u z (gJ live (λr=>aX live u k r y) y)
def eV:Code->Nat
 |.region id _ _=>id+1
 |.seq a b=>match eV a with
  |0=>eV b
  |n=>n
 |.cond _ a b=>match eV a with
  |0=>eV b
  |n=>n
 |.block _ c=>eV c
 |.loop c=>eV c
 |.scope c=>eV c
 |_=>0
def lD (L:List (Nat×List (Nat×List Coe)))(k:Nat):List (Nat×List Coe):=match L with
 |[]=>[]
 |(n,l)::r=>bif BK n k then l else lD r k
def zJ (st:St)(c:Operand)(r no:St->Option R):Option R :=
 match c with
 |.tmp t=>match (st t).sh,(st t).ls with
  |.one,[.bool b]=>bif b then r (lit st t true) else no (lit st t false)
  |_,_=>none
 |.const (.bool b)=>bif b then r st else no st
 |_=>none
def evK (Γ:List Ctr)(T:TypeId->TI)(L:List (Nat×List (Nat×List Coe)))(r:Nat):Code->St->(Ex->St->Option R)->Option R
 |.skip,u,z=>z .normal u
 |.region _ I H,u,z=>regK Γ T I H u (z .normal)
 |.seq a b,u,z=>evK Γ T L r a u (oM (evK Γ T L r b) z)
 |.cond c x y,u,z=>zJ u c (λu=>evK Γ T L r x u z) (λu=>evK Γ T L r y u z)
 |.block id c,u,z=>evK Γ T L r c u (sv id z)
 |.loop c,u,z=>aX (lD L (eV c)) (evK Γ T L r c) r (l6 (lD L (eV c)) u) z
 |.exit id,u,z=>z (.exit id) u
 |.ret,u,z=>z .ret u
 |_,_,_=>none
def sub:Code->List Nat->Code
 |.seq a _,0::p=>sub a p
 |.seq _ b,1::p=>sub b p
 |.cond _ x _,0::p=>sub x p
 |.cond _ _ y,1::p=>sub y p
 |.block _ c,0::p=>sub c p
 |.loop c,0::p=>sub c p
 |c,_=>c
def kAt (u:Code->St->(Ex->St->Option R)->Option R):Code->List Nat->(Ex->St->Option R)->Ex->St->Option R
 |.seq a b,0::p,r=>kAt u a p (oM (u b) r)
 |.seq _ b,1::p,r=>kAt u b p r
 |.cond _ x _,0::p,r=>kAt u x p r
 |.cond _ _ y,1::p,r=>kAt u y p r
 |.block id c,0::p,r=>kAt u c p (sv id r)
 |_,_,r=>r
def cA (fn:Func):Code:=match fn.body with
 |some c=>c
 |none=>.skip
def ae {A:Type}(step:(A->Option R)->A->Option R):Nat->A->Option R
 |0,_=>none
 |k+1,a=>step (ae step k) a
theorem la {A:Type}(live:List (Nat×List Coe))(r:St->(Ex->St->Option R)->Option R)(u:Ex->St->Option R)(S:A->St)
  (step:(A->Option R)->A->Option R) (h:∀ (rec:St->Option R) (a:A),r (S a) (gJ live rec u)=step (λa=>rec (S a)) a) :
  ∀ (k:Nat) (a:A),aX live r k (S a) u=ae step k a
 |0,_=>rfl
 |k+1,a=>by
  have y:=la live r u S step h k;simp only[aX,ae];rw[h];exact congrArg (λg=>step g a) (funext y)
abbrev wr (k:IntKind)(n:Int):Int:=k.wrap n
def aR (k:IntKind)(a b:Int):Int:=k.wrap ((BitVec.ofInt k.bits a &&& BitVec.ofInt k.bits b).toNat)
def qo (k:IntKind)(a b:Int):Int:=k.wrap ((BitVec.ofInt k.bits a ^^^ BitVec.ofInt k.bits b).toNat)
def ka (p:Bool):(cs:List (Bool×Ty))->lV cs->List (Bool×Bool×(a:Ty)×a.den)
 |[],_=>[]
 |c::cs,x=>(p,c.1,⟨c.2,x.1⟩)::ka p cs x.2
def uN (i off:Nat):Leaf->Leaf
 |.own p _ E e r=>.own p (some (i,off)) E e r
 |l=>l
def c7 (t:Nat):(ps:List PK)->ab ps->Upd
 |[],_=>[]
 |.rd a::ps,x=>(t,⟨0,bi a.isAgg,cH true a x.1⟩)::c7 (t+1) ps x.2
 |.own a::ps,x=>(t,⟨0,bi a.isAgg,ap true a x.1⟩)::c7 (t+1) ps x.2
 |.io a::ps,x=>(t,⟨7,bi a.isAgg,ap true a x.1⟩)::c7 (t+1) ps x.2
 |.rref a::ps,x=>(t,⟨0,.one,[.rp true a x.1 0]⟩)::c7 (t+1) ps x.2
 |.rref2 a::ps,x=>(t,⟨0,.one,[.rpp true a x.1]⟩)::c7 (t+1) ps x.2
 |.iop a::ps,x=>(t,⟨0,.one,[.bp (B0+t) 0]⟩)::(B0+t,⟨0,.agg,ap true a x.1⟩)::c7 (t+1) ps x.2
 |.fn u B::ps,x=>(t,⟨0,.one,[.fn u B x.1]⟩)::c7 (t+1) ps x.2
 |.clo f r::ps,x=>(t,⟨0,.one,[.clr f (ka true r x.1)]⟩)::c7 (t+1) ps x.2
 |.hol a c off::ps,x=>(t,⟨0,bi a.isAgg,aT (ap true a x.1.1) c (uN x.1.2 off ((ap true a x.1.1).getD c .dead))⟩)::c7 (t+1) ps x.2
def ii (st:St)(t:Nat):(ps:List PK)->Option (cI (ah ps))
 |[]=>some ⟨false,(),[],[],[]⟩
 |.io a::ps=>match (bif decide ((au st (.tmp t)).1=bi a.isAgg) then ch st a (au st (.tmp t)).2 else none),ii st (t+1) ps with
  |some x,some y=>some ⟨x.p||y.p,(x.val,y.val),x.frz++y.frz,x.kill++y.kill,[]⟩
  |_,_=>none
 |.iop a::ps=>match ch st a (bH (B0+t) (st (B0+t)).ver 0 (st (B0+t)).ls),ii st (t+1) ps with
  |some x,some y=>some ⟨x.p||y.p,(x.val,y.val),x.frz++y.frz,x.kill++y.kill,[]⟩
  |_,_=>none
 |.rd _::ps=>ii st (t+1) ps
 |.own _::ps=>ii st (t+1) ps
 |.rref _::ps=>ii st (t+1) ps
 |.rref2 _::ps=>ii st (t+1) ps
 |.fn _ _::ps=>ii st (t+1) ps
 |.clo _ _::ps=>ii st (t+1) ps
 |.hol _ _ _::ps=>ii st (t+1) ps
def vD (st:St)(T:TypeId->TI):ResultVar->List Leaf
 |.tmp t=>(au st (.tmp t)).2
 |.cell t r=>match one st (.tmp t) with
  |.bp b off=>((bH b (st b).ver 0 (st b).ls).drop off).take (T r).cells
  |_=>[]
def pv (st:St)(T:TypeId->TI):ResultVar->aI
 |.tmp t=>(au st (.tmp t)).1
 |.cell t r=>match one st (.tmp t) with
  |.bp b off=>bif decide ((st b).sh=.agg)&&CI (off+(T r).cells) (st b).ls.length&&!BK (T r).cells 0 then bi (T r).agg else .off
  |_=>.off
def RK.sh:RK->aI
 |.v a=>bi a.isAgg
 |.bv a=>bi a.isAgg
 |.box _=>.one
def bI (t:Nat):List PK->List Nat
 |[]=>[]
 |.iop _::r=>(B0+t)::bI (t+1) r
 |_::r=>bI (t+1) r
def gl (t:Nat):List PK->List Nat
 |[]=>[]
 |.io _::r=>t::gl (t+1) r
 |.iop _::r=>t::gl (t+1) r
 |_::r=>gl (t+1) r
def sd (st:St)(z:List Nat):(r:RK)->List Leaf->Option (cI r.den)
 |.v a,u=>ch st a u
 |.bv a,u=>(cO st a u).map λy=>⟨false,y.2,bz st u,[],[]⟩
 |.box a,u=>match u with
  |[.bp b 0]=>bif !(z.any (BK b)) then ch st a (bH b (st b).ver 0 (st b).ls) else none
  |_=>none
def kr (st:St)(T:TypeId->TI)(H:List Nat):(u:List RK)->List ResultVar->Option (cI (ai u))
 |[],[]=>some ⟨false,(),[],[],[]⟩
 |r::u,x::I=>bif decide (pv st T x=r.sh) then match sd st H r (vD st T x),kr st T H u I with
  |some y,some z=>some ⟨y.p||z.p,(y.val,z.val),y.frz++z.frz,y.kill++z.kill,[]⟩
  |_,_=>none else none
 |_,_=>none
def finR (T:TypeId->TI)(ps:List PK)(z:List RK)(r:Bool)(u:List ResultVar)(st:St):Option (ai z×ah ps) :=
 match kr st T (bI 0 ps) z u,ii st 0 ps with
 |some y,some o=>bif a7 (y.kill++o.kill)&&dz (y.frz++o.frz) (y.kill++o.kill)&&(!r||!(y.p||o.p)) then some (y.val,o.val) else none
 |_,_=>none
def cV (T:TypeId->TI)(ps:List PK)(y:List RK)(r:Bool)(u:List ResultVar):Ex->St->Option (ai y×ah ps)
 |.exit _,_=>none
 |_,z=>finR T ps y r u z
def lE (nt:Nat)(fix:List Nat)(r:Array Oper)(o:Oper):Bool :=
 (match o.dst with
  |some d=>CE d nt&&!(fix.any (BK d))
  |none=>true) &&
 (match o.guard with
  |some (j,_)=>match (r[j]?).bind (·.dst) with
   |some s=>CE s nt
   |none=>true
  |none=>true)
def wS (nt:Nat):Operand->Bool
 |.tmp t=>CE t nt
 |_=>true
def dO (nt:Nat)(fix:List Nat):Code->Bool
 |.region _ r _=>r.toList.all (lE nt fix r)
 |.seq a b=>dO nt fix a&&dO nt fix b
 |.cond c a b=>wS nt c&&dO nt fix a&&dO nt fix b
 |.block _ c=>dO nt fix c
 |.loop c=>dO nt fix c
 |_=>true
def qp:List RK->Bool
 |[.box _]=>true
 |rs=>rs.all RK.isV
def dl (L:List (Nat×List (Nat×List Coe)))(u:List Nat):Code->Bool
 |.seq a b=>dl L u a&&dl L u b
 |.cond _ a b=>dl L u a&&dl L u b
 |.block _ c=>dl L u c
 |.loop c=>(u.all λb=>(lD L (eV c)).any λr=>BK r.1 b)&&dl L u c
 |_=>true
def evF (Γ:List Ctr)(T:TypeId->TI)(L:List (Nat×List (Nat×List Coe)))(u:Nat)(fn:Func)(ps:List PK)(y:List RK)(r:Bool)(x:ab ps):Option (ai y×ah ps) :=
 match fn.body with
 |some c=>bif dO fn.ntmps (gl 0 ps) c&&CI ps.length fn.ntmps&&CI fn.ntmps GH&&qp y&&dl L (bI 0 ps) c then
  evK Γ T L u c (av (c7 0 ps x)) (cV T ps y r fn.results.toList) else none
 |none=>none
end
def e9 (e:Ty)(r:Nat)(xs:List e.den):Option ((List e.den×Unit)×Unit):=bif decide ((0+xs.length)*r<=ak) then some ((xs,()),()) else none
theorem kb (e:Ty)(r:Nat):e9 e r []=some (([],()),()):=by
 unfold e9;simp[ak]
def jT:Code->Nat->Oper
 |.region _ r _,i=>(r[i]?).getD ⟨none,.move (.tmp 0),0,"",#[],none⟩
 |_,_=>⟨none,.move (.tmp 0),0,"",#[],none⟩
def iB (e:Ty)(r:Nat)(xs:List e.den)(i:Int)(u:List e.den):Option ((List e.den×Unit)×Unit) :=
 if 0<=i/\i<=(xs.length:Int)/\0<u.length/\(xs.length+u.length)*r<=ak then some ((xs.take i.toNat++u++xs.drop i.toNat,()),()) else none
def l7 {α:Type}(r:α×Unit->Option Bool):List α->Option (List α)
 |[]=>some []
 |x::y=>(r (x,())).bind λb=>(l7 r y).map λu=>bif b then u else x::u
def gK (e:Ty)(xs:List e.den)(r:e.den×Unit->Option Bool):Option ((List e.den×Unit)×Unit):=if xs.length<=1048576 then (l7 r xs).map λu=>((u,()),()) else none
abbrev Ty.hd:Ty->Ty
 |.pair a b=>.pair a.hd b.hd
 |.list _ _ _=>.hdr
 |a=>a
abbrev hdD:(a:Ty)->a.den->a.hd.den
 |.pair a b,x=>(hdD a x.1,hdD b x.2)
 |.list _ _ e,r=>List.length (α:=e.den) r
 |.int _,x=>x
 |.bool,x=>x
 |.str,x=>x
 |.unit,x=>x
 |.hdr,x=>x
noncomputable def qq (e:Ty)(r:Nat)(xs:List e.den):Option ((List e.hd.den×Unit)×Unit):=(e9 e r xs).map λy=>((y.1.1.map (hdD e),()),())
def insI (n:Int):List Int->List Int
 |[]=>[n]
 |m::r=>if n<=m then n::m::r else m::insI n r
def zK:List Int->List Int
 |[]=>[]
 |n::r=>insI n (zK r)
def medianM (xs:List Int):Option ((Int×Unit)×Unit) :=
 let l:=zK (xs.drop (xs.length-3))
 some ((l.getD ((l.length-1) / 2) 0,()),())
def aW {R:Type}(x y:ByteArray)(k:ByteArray->Option R):Option R:=bif decide (x.size+y.size<=9223372036854775807) then k (x++y) else none
open Go.RowKit
def cY (w:World)(g off:Nat)(cs:List Value):Prop:=∀ i v,cs[i]?=some v->w.cell? ⟨g,off+i,none⟩=some v
theorem cY.same {w w':World}{g off:Nat}{cs:List Value}(h:cY w g off cs)(u:w'.heap[g]?=w.heap[g]?):cY w' g off cs:=by
 intro i v r;have:=h i v r;simpa[Cp,u]using this
def Rd (w:World)(G:Nat->Prop):(a:Ty)->a.den->List Value->Prop
 |.int k,n,r=>r=[.int k n]
 |.bool,b,r=>r=[.bool b]
 |.str,s,r=>r=[.string s]
 |.unit,_,r=>r=[]
 |.hdr,n,r=>∃ A u,r=[.slice A n u]
 |.pair a b,x,r=>∃ z H,r=z++H/\Rd w G a x.1 z/\Rd w G b x.2 H
 |.list _ _ e,y,r=>∃ A u,r=[.slice A y.length u]/\y.length<=u /\
  (0<y.length->∃ g o,A=some ⟨g,o,none⟩/\G g/\∀ j (x:e.den),y[j]?=some x->∃ c,Rd w G e x c/\cY w g (o+j*e.cells) c)
theorem Rd.carry {w w':World}{G G':Nat->Prop}(u:∀ k,G k->G' k)(r:∀ k,G k->w'.heap[k]?=w.heap[k]?) :
  ∀ {a:Ty} {x:a.den} {cs:List Value},Rd w G a x cs->Rd w' G' a x cs
 |.int _,_,_,h=>h
 |.bool,_,_,h=>h
 |.str,_,_,h=>h
 |.unit,_,_,h=>h
 |.hdr,_,_,h=>h
 |.pair _ _,_,_,⟨O,c2,e,X,Z⟩=>⟨O,c2,e,Rd.carry u r X,Rd.carry u r Z⟩
 |.list _ _ _,_,_,⟨A,y,e,J,h⟩=>⟨A,y,e,J,λM=>by
   obtain⟨g,o,Y,H,I⟩:=h M;exact⟨g,o,Y,u g H,λj x hj=>by
    obtain⟨c,R,z⟩:=I j x hj;exact⟨c,Rd.carry u r R,z.same (r g H)⟩⟩⟩
theorem Rd.mono {w:World}{G G':Nat->Prop}(r:∀ k,G k->G' k){a:Ty}{x:a.den}{cs:List Value}(h:Rd w G a x cs):Rd w G' a x cs :=
 Rd.carry r (λ_ _=>rfl) h
theorem Rd.len {w:World}{G:Nat->Prop}:∀ {a:Ty} {x:a.den} {cs:List Value},Rd w G a x cs->cs.length=a.cells
 |.int _,_,_,h=>by rw[show _=_ from h];rfl
 |.bool,_,_,h=>by rw[show _=_ from h];rfl
 |.str,_,_,h=>by rw[show _=_ from h];rfl
 |.unit,_,_,h=>by rw[show _=_ from h];rfl
 |.hdr,_,_,⟨A,r,e⟩=>by rw[e];rfl
 |.pair _ _,_,_,⟨z,H,e,y,u⟩=>by rw[e,CX,Rd.len y,Rd.len u];rfl
 |.list _ _ _,_,_,⟨A,r,e,_,_⟩=>by rw[e];rfl
theorem Rd.one {w:World}{G:Nat->Prop}:∀ {a:Ty} {x:a.den} {cs:List Value},Rd w G a x cs->∀ v∈cs,v.oneCell'=true
 |.int _,_,_,h=>by rw[show _=_ from h];simp[BU]
 |.bool,_,_,h=>by rw[show _=_ from h];simp[BU]
 |.str,_,_,h=>by rw[show _=_ from h];simp[BU]
 |.unit,_,_,h=>by rw[show _=_ from h];simp
 |.hdr,_,_,⟨A,u,e⟩=>by rw[e];simp[BU]
 |.pair _ _,_,_,⟨H,I,e,z,y⟩=>by
  rw[e];intro v r;rcases BX.1 r with r|r
  ·exact Rd.one z v r
  ·exact Rd.one y v r
 |.list _ _ _,_,_,⟨A,u,e,_,_⟩=>by rw[e];simp[BU]
theorem Rd.flat {w w':World}{G G':Nat->Prop}:∀ {a:Ty} {x:a.den} {cs:List Value},a.flat=true->Rd w G a x cs->Rd w' G' a x cs
 |.int _,_,_,_,h=>h
 |.bool,_,_,_,h=>h
 |.str,_,_,_,h=>h
 |.unit,_,_,_,h=>h
 |.hdr,_,_,_,h=>h
 |.pair _ _,_,_,r,⟨u,z,e,H,y⟩=>by
  simp only[Ty.flat,BN]at r;exact⟨u,z,e,Rd.flat r.1 H,Rd.flat r.2 y⟩
theorem ij:∀ {a b:Ty},a.sh=b.sh->a.cells=b.cells
 |.pair a b,.pair c d,h=>by
  simp only[Ty.sh,Ty.pair.injEq]at h;simp only[Ty.cells,ij h.1,ij h.2]
 |.int _,.int _,_|.int _,.bool,_|.int _,.str,_|.int _,.hdr,_|.int _,.list _ _ _,_=>rfl
 |.bool,.int _,_|.bool,.bool,_|.bool,.str,_|.bool,.hdr,_|.bool,.list _ _ _,_=>rfl
 |.str,.int _,_|.str,.bool,_|.str,.str,_|.str,.hdr,_|.str,.list _ _ _,_=>rfl
 |.hdr,.int _,_|.hdr,.bool,_|.hdr,.str,_|.hdr,.hdr,_|.hdr,.list _ _ _,_=>rfl
 |.list _ _ _,.int _,_|.list _ _ _,.bool,_|.list _ _ _,.str,_|.list _ _ _,.hdr,_|.list _ _ _,.list _ _ _,_=>rfl
 |.unit,.unit,_=>rfl
theorem sw {A r B u:Type}(z:A=r)(H:B=u){x:A×B}{y:r×u}(h:HEq x y):HEq x.1 y.1/\HEq x.2 y.2:=by
 subst z;subst H;cases h;exact⟨HEq.rfl,HEq.rfl⟩
theorem sx {A r:Type}(z:A=r){xs:List A}{u:List r}(h:HEq xs u):xs.length=u.length/\∀ (j:Nat) (y:r),u[j]?=some y->∃ x:A,xs[j]?=some x/\HEq x y:=by
 subst z;cases h;exact⟨rfl,λj y H=>⟨y,H,HEq.rfl⟩⟩
theorem Rd.flags {w:World}{G:Nat->Prop}:∀ {a b:Ty} {x:a.den} {y:b.den} {cs:List Value},a.sh=b.sh->HEq x y->Rd w G a x cs->Rd w G b y cs
 |.pair a b,.pair c d,x,y,cs,h,r,⟨Z,c2,e,u,I⟩=>by
  simp only[Ty.sh,Ty.pair.injEq]at h;obtain⟨J,z⟩:=sw (jG h.1) (jG h.2) r;exact⟨Z,c2,e,Rd.flags h.1 J u,Rd.flags h.2 z I⟩
 |.list _ _ e,.list _ _ e',xs,ys,cs,h,r,⟨A,H,u,I,J⟩=>by
  simp only[Ty.sh,Ty.list.injEq,true_and]at h;obtain⟨z,h5⟩:=sx (jG h.2) r;refine⟨A,H,by rw[<- z];exact u,by rw[<- z];exact I,λY=>?_⟩;obtain⟨g,o,hA,R,M⟩:=J (by rw[z];exact Y);refine⟨g,o,hA,R,λj y hj=>?_⟩;obtain⟨x,h6,X⟩:=h5 j y hj;obtain⟨c,h8,O⟩:=M j x h6;rw[<- ij h.2];exact⟨c,Rd.flags h.2 X h8,O⟩
 |.int k,.int k',x,y,cs,h,r,u=>by
  simp only[Ty.sh]at h
  grind
 |.bool,.bool,x,y,cs,h,r,u=>by cases r;exact u
 |.str,.str,x,y,cs,h,r,u=>by cases r;exact u
 |.unit,.unit,x,y,cs,h,r,u=>u
 |.hdr,.hdr,x,y,cs,h,r,u=>by cases r;exact u
def Row (w:World)(E:TypeId)(s:Nat)(v:Value)(n:Nat)(flat:List Value):Prop :=
 flat.length=n*s/\((v=.slice none 0 0/\n=0) \/
  ∃ g r u mk,v=.slice (some ⟨g,0,none⟩) n r/\w.heap[g]?=some (.cells u E mk)/\n<=r/\(mk=(0,0)/\r<=maxLen\/s=1/\u.size<=mk.1)/\r*s<=u.size/\u.toList.take (n*s)=flat)
theorem Row.of {w:World}{b:Nat}{E:TypeId}{s n:Nat}{v:Value}{flat:List Value}(h:w.ownsRow b E s v n flat):Row w E s v n flat:=by
 refine⟨h.1,h.2.imp id ?_⟩
 grind
theorem Row.same {w w':World}{E:TypeId}{s n:Nat}{v:Value}{flat:List Value}(h:Row w E s v n flat)(z:∀ k∈v.ownBlock.toList,w'.heap[k]?=w.heap[k]?):Row w' E s v n flat:=by
 refine⟨h.1,?_⟩;rcases h.2 with I|⟨g,u,y,mk,rfl,H,r⟩
 ·grind
 ·exact .inr ⟨g,u,y,mk,rfl,by rw[z g (by simp[CB])];exact H,r⟩
theorem Row.lt {w:World}{E:TypeId}{s n:Nat}{v:Value}{flat:List Value}(h:Row w E s v n flat):∀ k∈v.ownBlock.toList,k<w.heap.size:=by
 intro k r;rcases h.2 with ⟨rfl,_⟩|⟨g,u,y,_,rfl,z,_⟩
 ·simp[CB]at r
 ·simp[CB]at r
  grind
theorem Row.slice {w:World}{E:TypeId}{s n:Nat}{v:Value}{flat:List Value}(h:Row w E s v n flat):∃ A r,v=.slice A n r/\n<=r:=by
 rcases h.2 with ⟨rfl,y⟩|⟨g,r,u,_,rfl,_,z,_⟩
 ·grind
 ·grind
theorem Row.nil (w:World)(E:TypeId)(s:Nat):Row w E s (.slice none 0 0) 0 []:=⟨by simp,.inl ⟨rfl,rfl⟩⟩
theorem Row.cellAt {w:World}{E:TypeId}{s n g u:Nat}{flat:List Value}(h:Row w E s (.slice (some ⟨g,0,none⟩) n u) n flat)(j:Nat)(J:j<n*s):w.cell? ⟨g,j,none⟩=flat[j]?:=by
 rcases h.2 with ⟨z,_⟩|⟨M,H,y,mk,z,I,_,_,_,r⟩
 ·grind
 ·simp at z;obtain⟨rfl,rfl⟩:=z;rw[cell_of_row w g j y E mk I,<- r,BZ,if_pos J];simp
theorem zL {mk:Nat×Nat}{s z c:Nat}(h:mk=(0,0)/\c<=maxLen\/s=1/\z<=mk.1):mk.2=0\/z<=mk.1:=h.imp (λh=>by rw[h.1]) (·.2)
theorem qY {w:World}{g j:Nat}{cs:Array Value}{E:TypeId}{mk:Nat×Nat}(r:w.heap[g]?=some (.cells cs E mk))(y:mk.2=0\/cs.size<=mk.1)(u:j<cs.size):w.frozen? ⟨g,j,none⟩=false:=by
 simp only[World.frozen?,r,Bool.and_eq_false_iff,decide_eq_false_iff_not];omega
def Mx (w:World)(G:Nat->Prop):(a:Ty)->Option Nat->Nat->a.den->List Value->List Nat->Prop
 |.int k,_,_,n,y,r=>y=[.int k n]/\r=[]
 |.bool,_,_,b,y,r=>y=[.bool b]/\r=[]
 |.str,_,_,s,y,r=>y=[.string s]/\r=[]
 |.unit,_,_,_,y,r=>y=[]/\r=[]
 |.hdr,_,_,n,y,r=>(∃ A J,y=[.slice A n J])/\r=[]
 |.pair a b,h,pos,x,y,r=>∃ O R X M,y=O++R/\r=X++M/\Mx w G a h pos x.1 O X/\Mx w G b h (pos+a.cells) x.2 R M
 |.list m E e,h,pos,I,y,r=>∃ v,y=[v]/\v.oneCell'=true /\
  (if m=true then (if h=some pos then r=[] else ∃ z H,Row w E e.cells v I.length z/\r=v.ownBlock.toList++(CD I.length).flatMap H /\
    ∀ j (x:e.den),I[j]?=some x->∃ c,Mx w G e none 0 x c (H j)/\∀ i u,c[i]?=some u->z[j*e.cells+i]?=some u)
   else r=[]/\Rd w G (.list m E e) I [v])
def OwB (w:World)(G:Nat->Prop)(h:Option (Nat×Nat))(E:TypeId)(e:Ty)(xs:List e.den)(v:Value)(bs:List Nat):Prop :=
 ∃ r y,Row w E e.cells v xs.length r/\bs=v.ownBlock.toList++(CD xs.length).flatMap y /\
  ∀ j (x:e.den),xs[j]?=some x->∃ c,Mx w G e (cP h j) 0 x c (y j)/\∀ i u,c[i]?=some u->r[j*e.cells+i]?=some u
def OwH (w:World)(G:Nat->Prop)(h:Option (Nat×Nat))(E:TypeId)(e:Ty)(xs:List e.den)(v:Value)(bs:List Nat):Prop:=bs.Nodup/\OwB w G h E e xs v bs
abbrev Ow (w:World)(G:Nat->Prop)(E:TypeId)(e:Ty)(xs:List e.den)(v:Value)(bs:List Nat):Prop:=OwH w G none E e xs v bs
theorem OwB.one {w:World}{G:Nat->Prop}{h:Option (Nat×Nat)}{E:TypeId}{e:Ty}{xs:List e.den}{v:Value}{bs:List Nat}(H:OwB w G h E e xs v bs):v.oneCell'=true:=by
 obtain⟨r,z,y,_⟩:=H;obtain⟨A,u,rfl,_⟩:=y.slice;rfl
theorem bJ {w:World}{G:Nat->Prop}{h:Option Nat}{E:TypeId}{e:Ty}{pos:Nat}{xs:List e.den}{cs:List Value}{bs:List Nat}(r:h≠some pos) :
  Mx w G (.list true E e) h pos xs cs bs<->∃ v,cs=[v]/\OwB w G none E e xs v bs:=by
 simp only[Mx,if_neg r];constructor
 ·rintro⟨v,h1,h2,h3⟩;exact⟨v,h1,h3⟩
 ·rintro⟨v,h1,h3⟩;exact⟨v,h1,h3.one,h3⟩
theorem jh {w:World}{G:Nat->Prop}{E:TypeId}{e:Ty}{pos:Nat}{xs:List e.den}{cs:List Value}{bs:List Nat} :
  Mx w G (.list true E e) (some pos) pos xs cs bs<->∃ v,cs=[v]/\v.oneCell'=true/\bs=[]:=by
 simp only[Mx,if_true]
theorem cm {w:World}{G:Nat->Prop}{h:Option Nat}{E:TypeId}{e:Ty}{pos:Nat}{xs:List e.den}{cs:List Value}{bs:List Nat} :
  Mx w G (.list false E e) h pos xs cs bs<->bs=[]/\Rd w G (.list false E e) xs cs:=by
 simp only[Mx];constructor
 ·grind
 ·rintro⟨h1,h2⟩;obtain⟨A,r,u,y⟩:=h2;exact⟨_,u,rfl,h1,A,r,rfl,y⟩
theorem dV {n:Nat}{r:Nat->List Nat}{k:Nat}:k∈(CD n).flatMap r<->∃ j,j<n/\k∈r j:=by simp
theorem Mx.carry {w w':World}{G G':Nat->Prop}(J:∀ k,G k->G' k)(I:∀ k,G k->w'.heap[k]?=w.heap[k]?) :
  ∀ {a:Ty} {h:Option Nat} {pos:Nat} {x:a.den} {cs:List Value} {bs:List Nat},(∀ k∈bs,w'.heap[k]?=w.heap[k]?)->Mx w G a h pos x cs bs->Mx w' G' a h pos x cs bs
 |.int _,_,_,_,_,_,_,h=>h
 |.bool,_,_,_,_,_,_,h=>h
 |.str,_,_,_,_,_,_,h=>h
 |.unit,_,_,_,_,_,_,h=>h
 |.hdr,_,_,_,_,_,_,h=>h
 |.pair _ _,_,_,_,_,_,u,⟨c1,c2,b1,b2,X,R,M,y⟩=>⟨c1,c2,b1,b2,X,R,Mx.carry J I (λk r=>u k (by rw[R];exact BQ _ r)) M,Mx.carry J I (λk r=>u k (by rw[R];exact BP _ r)) y⟩
 |.list m E e,h,pos,xs,cs,bs,u,H=>by
  cases m with
  |false =>
   rw[cm]at H ⊢;exact⟨H.1,H.2.carry J I⟩
  |true =>
   by_cases Y:h=some pos
   ·subst Y;rw[jh]at H ⊢;exact H
   ·rw[bJ Y]at H ⊢;obtain⟨v,X,z,O,M,y,h3⟩:=H;refine⟨v,X,z,O,M.same (λk r=>u k (by rw[y];exact BQ _ r)),y,λj x Z=>?_⟩;obtain⟨c,h4,h5⟩:=h3 j x Z;refine⟨c,?_,h5⟩;exact Mx.carry J I (λk r=>u k (by rw[y];exact BP _ (dV.2 ⟨j,(BM.1 Z).1,r⟩))) h4
theorem Mx.mono {w:World}{G G':Nat->Prop}(r:∀ k,G k->G' k){a:Ty}{h:Option Nat}{pos:Nat}{x:a.den}{cs:List Value}{bs:List Nat}(H:Mx w G a h pos x cs bs):Mx w G' a h pos x cs bs :=
 Mx.carry r (λ_ _=>rfl) (λ_ _=>rfl) H
theorem OwB.carry {w w':World}{G G':Nat->Prop}{h:Option (Nat×Nat)}{E:TypeId}{e:Ty}{xs:List e.den}{v:Value}{bs:List Nat}(H:OwB w G h E e xs v bs)
  (X:∀ k,G k->G' k) (R:∀ k,G k->w'.heap[k]?=w.heap[k]?) (I:∀ k∈bs,w'.heap[k]?=w.heap[k]?):OwB w' G' h E e xs v bs:=by
 obtain⟨r,y,O,z,Y⟩:=H;refine⟨r,y,O.same (λk u=>I k (by rw[z];exact BQ _ u)),z,λj x J=>?_⟩;obtain⟨c,Z,M⟩:=Y j x J;exact⟨c,Mx.carry X R (λk u=>I k (by rw[z];exact BP _ (dV.2 ⟨j,(BM.1 J).1,u⟩))) Z,M⟩
theorem OwH.carry {w w':World}{G G':Nat->Prop}{h:Option (Nat×Nat)}{E:TypeId}{e:Ty}{xs:List e.den}{v:Value}{bs:List Nat}(H:OwH w G h E e xs v bs)
 (r:∀ k,G k->G' k) (y:∀ k,G k->w'.heap[k]?=w.heap[k]?) (u:∀ k∈bs,w'.heap[k]?=w.heap[k]?):OwH w' G' h E e xs v bs:=⟨H.1,H.2.carry r y u⟩
theorem Mx.len {w:World}{G:Nat->Prop}:∀ {a:Ty} {h:Option Nat} {pos:Nat} {x:a.den} {cs:List Value} {bs:List Nat},Mx w G a h pos x cs bs->cs.length=a.cells
 |.int _,_,_,_,_,_,h=>by rw[h.1];rfl
 |.bool,_,_,_,_,_,h=>by rw[h.1];rfl
 |.str,_,_,_,_,_,h=>by rw[h.1];rfl
 |.unit,_,_,_,_,_,h=>by rw[h.1];rfl
 |.hdr,_,_,_,_,_,⟨⟨A,r,e⟩,_⟩=>by rw[e];rfl
 |.pair _ _,_,_,_,_,_,⟨I,M,O,H,z,J,u,y⟩=>by rw[z,CX,u.len,y.len];rfl
 |.list _ _ _,_,_,_,_,_,⟨v,e,_⟩=>by rw[e];rfl
theorem Mx.one {w:World}{G:Nat->Prop}:∀ {a:Ty} {h:Option Nat} {pos:Nat} {x:a.den} {cs:List Value} {bs:List Nat},Mx w G a h pos x cs bs->∀ v∈cs,v.oneCell'=true
 |.int _,_,_,_,_,_,h=>by rw[h.1];simp[BU]
 |.bool,_,_,_,_,_,h=>by rw[h.1];simp[BU]
 |.str,_,_,_,_,_,h=>by rw[h.1];simp[BU]
 |.unit,_,_,_,_,_,h=>by rw[h.1];simp
 |.hdr,_,_,_,_,_,⟨⟨A,y,e⟩,_⟩=>by rw[e];simp[BU]
 |.pair _ _,_,_,_,_,_,⟨J,O,R,I,H,M,u,z⟩=>by
  rw[H];intro v r;rcases BX.1 r with r|r
  ·exact u.one v r
  ·exact z.one v r
 |.list _ _ _,_,_,_,_,_,⟨v,e,u,_⟩=>by rw[e];simpa using u
theorem Mx.lt {w:World}{G:Nat->Prop}:∀ {a:Ty} {h:Option Nat} {pos:Nat} {x:a.den} {cs:List Value} {bs:List Nat},Mx w G a h pos x cs bs->∀ k∈bs,k<w.heap.size
 |.int _,_,_,_,_,_,h=>by rw[h.2];simp
 |.bool,_,_,_,_,_,h=>by rw[h.2];simp
 |.str,_,_,_,_,_,h=>by rw[h.2];simp
 |.unit,_,_,_,_,_,h=>by rw[h.2];simp
 |.hdr,_,_,_,_,_,h=>by rw[h.2];simp
 |.pair _ _,_,_,_,_,_,⟨c1,c2,b1,Z,Y,M,u,y⟩=>by
  rw[M];intro k r;rcases BX.1 r with r|r
  ·exact u.lt k r
  ·exact y.lt k r
 |.list m E e,h,pos,xs,cs,bs,H=>by
  cases m with
  |false=>rw[cm]at H;rw[H.1];simp
  |true =>
   by_cases z:h=some pos
   ·subst z;rw[jh]at H
    grind
   ·rw[bJ z]at H;obtain⟨v,Y,I,J,u,y,O⟩:=H;rw[y];intro k r;rcases BX.1 r with r|r
    ·exact u.lt k r
    ·obtain⟨j,R,r⟩:=dV.1 r;obtain⟨c,X,_⟩:=O j _ (BO R);exact X.lt k r
theorem OwB.lt {w:World}{G:Nat->Prop}{h:Option (Nat×Nat)}{E:TypeId}{e:Ty}{xs:List e.den}{v:Value}{bs:List Nat}(H:OwB w G h E e xs v bs):∀ k∈bs,k<w.heap.size:=by
 obtain⟨u,z,y,I,J⟩:=H;rw[I];intro k r;rcases BX.1 r with r|r
 ·exact y.lt k r
 ·obtain⟨j,M,r⟩:=dV.1 r;obtain⟨c,O,_⟩:=J j _ (BO M);exact O.lt k r
theorem OwH.lt {w:World}{G:Nat->Prop}{h:Option (Nat×Nat)}{E:TypeId}{e:Ty}{xs:List e.den}{v:Value}{bs:List Nat}(H:OwH w G h E e xs v bs):∀ k∈bs,k<w.heap.size:=H.2.lt
theorem OwH.nodup {w:World}{G:Nat->Prop}{h:Option (Nat×Nat)}{E:TypeId}{e:Ty}{xs:List e.den}{v:Value}{bs:List Nat}(H:OwH w G h E e xs v bs):bs.Nodup:=H.1
theorem OwH.slice {w:World}{G:Nat->Prop}{h:Option (Nat×Nat)}{E:TypeId}{e:Ty}{xs:List e.den}{v:Value}{bs:List Nat}(H:OwH w G h E e xs v bs) :
  ∃ A r,v=.slice A xs.length r/\xs.length<=r:=by
 obtain⟨_,u,z,y,_⟩:=H;exact y.slice
theorem OwH.one {w:World}{G:Nat->Prop}{h:Option (Nat×Nat)}{E:TypeId}{e:Ty}{xs:List e.den}{v:Value}{bs:List Nat}(H:OwH w G h E e xs v bs):v.oneCell'=true:=H.2.one
theorem sy {w:World}{m:Bool}{E E':TypeId}{e:Ty}{xs:List e.den}{v:Value}{flat:List Value}{S:Nat->Prop}(R:Row w E e.cells v xs.length flat)(H:∀ k∈v.ownBlock.toList,S k)
  (Y:∀ j (x:e.den),xs[j]?=some x->∃ c,Rd w S e x c/\∀ i u,c[i]?=some u->flat[j*e.cells+i]?=some u):Rd w S (.list m E' e) xs [v]:=by
 rcases R.2 with ⟨rfl,hn⟩|⟨g,r,y,mk,rfl,M,J,hm,hs,I⟩
 ·exact⟨none,0,by rw[hn],by omega,λhp=>by omega⟩
 ·refine⟨some ⟨g,0,none⟩,r,rfl,J,λ_=>⟨g,0,rfl,H g (by simp[CB]),λj x Z=>?_⟩⟩;obtain⟨c,O,z⟩:=Y j x Z;refine⟨c,O,λi u X=>?_⟩;have:=z i u X;rw[<- I,BZ]at this;split at this
  ·rw[Ca,cell_of_row w g _ y E mk M]
   simp_all
  ·grind
theorem Mx.rd {w:World}{G S:Nat->Prop}(z:∀ k,G k->S k):∀ {a:Ty} {pos:Nat} {x:a.den} {cs:List Value} {bs:List Nat},(∀ k∈bs,S k)->Mx w G a none pos x cs bs->Rd w S a x cs
 |.int _,_,_,_,_,_,h=>h.1
 |.bool,_,_,_,_,_,h=>h.1
 |.str,_,_,_,_,_,h=>h.1
 |.unit,_,_,_,_,_,h=>h.1
 |.hdr,_,_,_,_,_,h=>h.1
 |.pair _ _,_,_,_,_,u,⟨Z,c2,b1,b2,O,R,J,y⟩=>⟨Z,c2,O,Mx.rd z (λk r=>u k (by rw[R];exact BQ _ r)) J,Mx.rd z (λk r=>u k (by rw[R];exact BP _ r)) y⟩
 |.list m E e,pos,xs,cs,bs,u,H=>by
  cases m with
  |false=>rw[cm]at H;exact H.2.mono z
  |true =>
   rw[bJ (by simp)]at H;obtain⟨v,O,Y,M,J,y,h3⟩:=H;rw[O];refine sy J (λk r=>u k (by rw[y];exact BQ _ r)) λj x X=>?_
   obtain⟨c,h4,h5⟩:=h3 j x X;have I:Mx w G e none 0 x c (M j):=h4;exact⟨c,Mx.rd z (λk r=>u k (by rw[y];exact BP _ (dV.2 ⟨j,(BM.1 X).1,r⟩))) I,h5⟩
theorem OwH.rd {w:World}{G:Nat->Prop}{m:Bool}{E E':TypeId}{e:Ty}{xs:List e.den}{v:Value}{bs:List Nat}(H:Ow w G E e xs v bs) :
  Rd w (λk=>G k\/k∈bs) (.list m E' e) xs [v]:=by
 obtain⟨_,J,y,O,z,R⟩:=H;refine sy O (λk r=>.inr (by rw[z];exact BQ _ r)) λj x I=>?_
 obtain⟨c,X,M⟩:=R j x I;have u:Mx w G e none 0 x c (y j):=X;exact⟨c,u.rd (λk r=>.inl r) (λk r=>.inr (by rw[z];exact BP _ (dV.2 ⟨j,(BM.1 I).1,r⟩))),M⟩
theorem OwH.nil (w:World)(G:Nat->Prop)(E:TypeId)(e:Ty):Ow w G E e [] (.slice none 0 0) [] :=
 ⟨List.nodup_nil,[],λ_=>[],Row.nil w E e.cells,rfl,λj x r=>by simp at r⟩
theorem Rd.nil (w:World)(G:Nat->Prop)(m:Bool)(E:TypeId)(e:Ty):Rd w G (.list m E e) [] [.slice none 0 0] :=
 ⟨none,0,rfl,BS _,λh=>by simp at h⟩
theorem Mx.flat {w w':World}{G G':Nat->Prop}:∀ {a:Ty} {h:Option Nat} {pos:Nat} {x:a.den} {cs:List Value},a.flat=true->Rd w G a x cs->Mx w' G' a h pos x cs []
 |.int _,_,_,_,_,_,h=>⟨h,rfl⟩
 |.bool,_,_,_,_,_,h=>⟨h,rfl⟩
 |.str,_,_,_,_,_,h=>⟨h,rfl⟩
 |.unit,_,_,_,_,_,h=>⟨h,rfl⟩
 |.hdr,_,_,_,_,_,h=>⟨h,rfl⟩
 |.pair _ _,_,_,_,_,r,⟨u,z,e,H,y⟩=>by
  simp only[Ty.flat,BN]at r;exact⟨u,z,[],[],e,rfl,Mx.flat r.1 H,Mx.flat r.2 y⟩
theorem Mx.shared {w:World}{G:Nat->Prop}:∀ {a:Ty} {h:Option Nat} {pos:Nat} {x:a.den} {cs:List Value},a.sh=a->Rd w G a x cs->Mx w G a h pos x cs []
 |.int _,_,_,_,_,_,h=>⟨h,rfl⟩
 |.bool,_,_,_,_,_,h=>⟨h,rfl⟩
 |.str,_,_,_,_,_,h=>⟨h,rfl⟩
 |.unit,_,_,_,_,_,h=>⟨h,rfl⟩
 |.hdr,_,_,_,_,_,h=>⟨h,rfl⟩
 |.pair _ _,_,_,_,_,r,⟨u,z,e,H,y⟩=>by
  simp only[Ty.sh,Ty.pair.injEq]at r;exact⟨u,z,[],[],e,rfl,Mx.shared r.1 H,Mx.shared r.2 y⟩
 |.list m E e,_,_,_,_,r,h=>by
  simp only[Ty.sh,Ty.list.injEq]at r;obtain⟨rfl,_⟩:=r;exact cm.2 ⟨rfl,h⟩
def db (agg:Bool)(v:Value)(cs:List Value):Prop:=if agg then v=.agg cs.toArray else cs=[v]
def se (w:World)(G:Nat->Prop):(y:List Ty)->Tup y->List Value->Prop
 |[],_,u=>u=[]
 |a::as,x,u=>∃ v c r,u=v::r/\db a.isAgg v c/\Rd w G a x.1 c/\se w G as x.2 r
def fT (P:Program)(f:FuncId):Prop:=∀ (r:Array Value) (w:World),(callFunc f r).run P w=.ok (.enter f r) w
def ik (P:Program)(w0:World)(S:Nat->Prop)(H:List Ty)(B:Ty)(I:Tup H->Option B.den)(v:Value):Prop :=
 ∃ f z,v=.func (.func f) #[] z/\fT P f /\
  ∀ w1:World,w0.heap.size<=w1.heap.size->(∀ k,S k->w1.heap[k]?=w0.heap[k]?) ->
   ∀ (x:Tup H) (r:List Value) (y:B.den),se w1 (λk=>k<w1.heap.size) H x r->I x=some y ->
    Calls P f (r.toArray++z) w1 (λe w2=>∃ u c,e=.returned u/\db B.isAgg u c/\Rd w2 (λ_=>False) B y c/\Below w1.heap.size w1 w2)
structure Env where
 w0:World
 ro0:Nat->Prop
 own0:List Nat
 nt:Nat
 fixb:List (Nat×Nat)
 fixt:List (Nat×Value)
def Env.prot (V:Env)(k:Nat):Prop:=k<V.w0.heap.size/\k∉V.own0
structure Wit where
 β:Nat->Nat
 cs:Nat->List Value
 bs:Nat->Nat->List Nat
 nw:Nat->Prop
def gd (V:Env)(W:Wit)(p:Bool)(k:Nat):Prop:=W.nw k\/(p=true/\V.ro0 k)
def am:Leaf->Prop
 |.own _ _ _ _ _=>True
 |_=>False
def RpOk (V:Env)(W:Wit)(w:World)(p:Bool)(a:Ty)(x:a.den)(off:Nat)(v:Value):Prop :=
 ∃ g o c,v=.pointer (some ⟨g,o+off,none⟩)/\(W.nw g\/V.prot g)/\Rd w (gd V W p) a x c/\cY w g o c
def sf (V:Env)(W:Wit)(w:World)(p:Bool)(a:Ty)(x:a.den)(v:Value):Prop :=
 ∃ b r g o c,v=.pointer (some ⟨b,r,none⟩)/\(W.nw b\/V.prot b)/\w.cell? ⟨b,r,none⟩=some (.pointer (some ⟨g,o,none⟩)) /\
  (W.nw g\/V.prot g)/\Rd w (gd V W p) a x c/\cY w g o c
def iR (V:Env)(W:Wit)(w:World)(c:Bool×Bool×(a:Ty)×a.den)(v:Value):Prop :=
 if c.2.1=true then sf V W w c.1 c.2.2.1 c.2.2.2 v else RpOk V W w c.1 c.2.2.1 c.2.2.2 0 v
def sg (st:St)(ks:List (Nat×Nat×Nat)):Prop:=∀ k∈ks,∃ l,(st k.1).ls[k.2.1]?=some l/\am l
structure si (V:Env) (W:Wit) (w:World) (p:Bool) (ks:List (Nat×Nat×Nat)) (loc:Option (Nat×Nat×Nat)) (E:TypeId) (e:Ty) (xs:List e.den) (v:Value):Prop where
 rd:Rd w (λb=>gd V W p b\/∃ k∈ks,b∈W.bs k.1 k.2.1) (.list false E e) xs [v]
 at_:∀ i sz off,loc=some (i,sz,off)->∃ r j n,ks=[(r,j,n)]/\∃ g len cap,(W.cs r)[j]?=some (.slice (some ⟨g,0,none⟩) len cap)/\i<len/\g∈W.bs r j/\w.cell? ⟨g,i*sz+off,none⟩=some v
structure NpOk (V:Env) (W:Wit) (w:World) (p:Bool) (ks:List (Nat×Nat×Nat)) (a:Ty) (x:a.den) (off:Nat) (v:Value):Prop where
 rd:∃ g o c,v=.pointer (some ⟨g,o+off,none⟩)/\(gd V W p g\/∃ k∈ks,g∈W.bs k.1 k.2.1)/\Rd w (λb=>gd V W p b\/∃ k∈ks,b∈W.bs k.1 k.2.1) a x c/\cY w g o c
def aK (P:Program)(V:Env)(W:Wit)(st:St)(w:World)(bs:List Nat):Leaf->Value->Prop
 |.int k n,v=>v=.int k n
 |.bool b,v=>v=.bool b
 |.str s,v=>v=.string s
 |.nil,v=>v=.slice none 0 0
 |.hdr n,v=>∃ A H,v=.slice A n H
 |.ro p E e I,v=>Rd w (gd V W p) (.list false E e) I [v]
 |.own p h E e I,v=>OwH w (gd V W p) h E e I v bs
 |.al r j n,v=>n<=(st r).ver/\((st r).ver=n->(W.cs r)[j]?=some v)
 |.nal p z ep O E e I,v=>ep<=(st EPO).ver/\(∀ k∈z,k.2.2<=(st k.1).ver)/\((st EPO).ver=ep->(∀ k∈z,(st k.1).ver=k.2.2)->sg st z->si V W w p z O E e I v)
 |.ep r j n i X off,v=>n<=(st r).ver/\((st r).ver=n->∃ g J H,(W.cs r)[j]?=some (.slice (some ⟨g,0,none⟩) J H)/\i<J/\v=.pointer (some ⟨g,i*X+off,none⟩))
 |.np p z ep a x off,v=>ep<=(st EPO).ver/\(∀ k∈z,k.2.2<=(st k.1).ver)/\((st EPO).ver=ep->(∀ k∈z,(st k.1).ver=k.2.2)->sg st z->NpOk V W w p z a x off v)
 |.rp p a x off,v=>RpOk V W w p a x off v
 |.rpp p a x,v=>sf V W w p a x v
 |.bp b off,v=>B0<=b/\(st b).sh=.agg/\v=.pointer (some ⟨W.β b,off,none⟩)
 |.clo f y,v=>v=.func (.func f) #[] (y.map λb=>Value.pointer (some ⟨W.β b,0,none⟩)).toArray/\∀ b∈y,B0<=b/\(st b).sh=.agg
 |.clr f y,v=>∃ M:List Value,v=.func (.func f) #[] M.toArray/\M.length=y.length/\∀ (i:Nat) (c:Bool×Bool×(a:Ty)×a.den) (u:Value),y[i]?=some c->M[i]?=some u->iR V W w c u
 |.fn Y B R,v=>ik P V.w0 V.prot Y B R v
 |.dead,_=>True
def pw:List (Bool×Nat)->List Value->List Value->Prop
 |[],y,z=>y=[]/\z=[]
 |(agg,n)::H,y,z=>∃ v r c u,y=v::r/\z=c++u/\c.length=n/\db agg v c/\pw H r u
def eh:aI->Value->List Value->Prop
 |.off,_,r=>r=[]
 |.und,v,r=>v=undef/\r=[]
 |.one,v,r=>r=[v]
 |.agg,v,r=>v=.agg r.toArray
 |.tup y,v,r=>∃ u,v=.tuple u.toArray/\pw y u r
def live (st:St)(b:Nat):Prop:=B0<=b/\(st b).sh=.agg
structure an (P:Program) (V:Env) (W:Wit) (st:St) (a:Act) (w:World):Prop where
 nt:a.tmps.size=V.nt
 df:a.defers=[]
 slots:∀ t,t<GH->eh (st t).sh (a.tmps.getD t undef) (W.cs t)
 boxes:∀ b,B0<=b->((st b).sh=.off/\(st b).ls=[])\/((st b).sh=.agg/\∃ E,w.heap[W.β b]?=some (.cells (W.cs b).toArray E (0,0)))
 len:∀ r,(st r).ls.length=(W.cs r).length
 one:∀ r,∀ v∈W.cs r,v.oneCell'=true
 leaf:∀ r j l v,(st r).ls[j]?=some l->(W.cs r)[j]?=some v->aK P V W st w (W.bs r j) l v
 ownb:∀ r j l,(st r).ls[j]?=some l->am l->∀ k∈W.bs r j,¬ W.nw k/\¬ V.prot k/\∀ b,live st b->W.β b≠k
 sep:∀ r j l r' j' l',(st r).ls[j]?=some l->am l->(st r').ls[j']?=some l'->am l'->∀ k,k∈W.bs r j->k∈W.bs r' j'->r=r'/\j=j'
 box:∀ b,live st b->¬ W.nw (W.β b)/\¬ V.prot (W.β b)
 inj:∀ b b',live st b->live st b'->W.β b=W.β b'->b=b'
 nwlt:∀ k,W.nw k->k<w.heap.size/\¬ V.prot k
 os:w.os=V.w0.os
 tape:w.tape=V.w0.tape
 output:w.output=V.w0.output
 size:V.w0.heap.size<=w.heap.size
 keep:∀ k,V.prot k->w.heap[k]?=V.w0.heap[k]?
 fixb:∀ x∈V.fixb,live st x.1/\W.β x.1=x.2
 fixt:∀ x∈V.fixt,a.tmps.getD x.1 undef=x.2
def Rel (P:Program)(V:Env)(st:St)(a:Act)(w:World):Prop:=∃ W,an P V W st a w
structure ay (V:Env):Prop where
 ro:∀ k,V.ro0 k->V.prot k
 nt:V.nt<=GH
theorem ay.ntB {V:Env}(h:ay V):V.nt<=B0:=BV h.nt (by decide)
section
variable {P:Program} {V:Env} {W W':Wit} {st st':St} {w w':World}
theorem bT {p q:Bool}(y:p=true->q=true)(u:∀ k,W.nw k->W'.nw k):∀ k,gd V W p k->gd V W' q k:=by
 intro k r;rcases r with r|⟨z,r⟩
 ·exact .inl (u k r)
 ·exact .inr ⟨y z,r⟩
structure cB (V:Env) (W W':Wit) (st st':St) (w w':World):Prop where
 ver:∀ r,(st r).ver<=(st' r).ver/\((st' r).ver=(st r).ver->W'.cs r=W.cs r)
 box:∀ b,live st b->live st' b/\W'.β b=W.β b
 nw:∀ k,W.nw k->W'.nw k
 heap:∀ k,(W.nw k\/V.prot k)->w'.heap[k]?=w.heap[k]?
 epo:(st' EPO).ver=(st EPO).ver->∀ (r j:Nat) (l:Leaf),(st' r).ls[j]?=some l->am l->(st' r).ver=(st r).ver ->
  (∃ l',(st r).ls[j]?=some l'/\am l')/\W'.bs r j=W.bs r j/\∀ k∈W.bs r j,w'.heap[k]?=w.heap[k]?
theorem cB.refl (V:Env)(W:Wit)(st:St)(w:World):cB V W W st st w w :=
 ⟨λ_=>⟨BS _,λ_=>rfl⟩,λ_ r=>⟨r,rfl⟩,λ_ h=>h,λ_ _=>rfl,λ_ _ _ l y u _=>⟨⟨l,y,u⟩,rfl,λ_ _=>rfl⟩⟩
theorem kO {w w':World}{a:Addr}(h:w'.heap[a.block]?=w.heap[a.block]?):w'.cell? a=w.cell? a:=by simp[Cp,h]
theorem cB.gdheap (u:∀ k,V.ro0 k->V.prot k)(h:cB V W W' st st' w w')(p:Bool):∀ k,gd V W p k->w'.heap[k]?=w.heap[k]?:=by
 intro k r;rcases r with r|⟨_,r⟩
 ·exact h.heap k (.inl r)
 ·exact h.heap k (.inr (u k r))
theorem wT {ks:List (Nat×Nat×Nat)}{ep:Nat}(r:cB V W W' st st' w w')(I:ep<=(st EPO).ver)(z:∀ k∈ks,k.2.2<=(st k.1).ver)(H:(st' EPO).ver=ep)(y:∀ k∈ks,(st' k.1).ver=k.2.2) :
  (st EPO).ver=ep/\∀ k∈ks,(st k.1).ver=k.2.2 :=
 ⟨by have:=(r.ver EPO).1;omega,λk u=>by have:=(r.ver k.1).1;have:=z k u;have:=y k u;omega⟩
theorem cB.places {ks:List (Nat×Nat×Nat)}{ep:Nat}(J:cB V W W' st st' w w')(M:sg st' ks)(R:(st EPO).ver=ep)(H:∀ k∈ks,(st k.1).ver=k.2.2)
  (O:(st' EPO).ver=ep) (z:∀ k∈ks,(st' k.1).ver=k.2.2) :
  ∀ k∈ks,(∃ u,(st k.1).ls[k.2.1]?=some u/\am u)/\W'.bs k.1 k.2.1=W.bs k.1 k.2.1/\∀ b∈W.bs k.1 k.2.1,w'.heap[b]?=w.heap[b]?:=λk r=>by
 obtain⟨l,I,y⟩:=M k r;exact J.epo (by omega) k.1 k.2.1 l I y (by rw[z k r,H k r])
theorem aK.carry (J:∀ k,V.ro0 k->V.prot k){bs bs':List Nat}{l:Leaf}{v:Value}(h:aK P V W st w bs l v)(y:cB V W W' st st' w w')
  (a1:am l->bs'=bs/\∀ k∈bs,w'.heap[k]?=w.heap[k]?):aK P V W' st' w' bs' l v:=by
 have hG:∀ p k,gd V W p k->gd V W' p k:=λp=>bT (λh=>h) y.nw
 have hP:∀ k,(W.nw k\/V.prot k)->(W'.nw k\/V.prot k):=λk M=>M.imp (y.nw k) id
 have hR:∀ {p:Bool} {a:Ty} {x:a.den} {off:Nat} {v:Value},RpOk V W w p a x off v->RpOk V W' w' p a x off v:=by
  rintro p a x off v ⟨g,o,c,hv,Y,hr,hc⟩;exact⟨g,o,c,hv,hP g Y,Rd.carry (hG p) (y.gdheap J p) hr,hc.same (y.heap g Y)⟩
 have a3:∀ {p:Bool} {a:Ty} {x:a.den} {v:Value},sf V W w p a x v->sf V W' w' p a x v:=by
  rintro p a x v ⟨b,ob,g,o,c,hv,H,Z,Y,hr,hc⟩;exact⟨b,ob,g,o,c,hv,hP b H,by rw[kO (y.heap b H)];exact Z,hP g Y,Rd.carry (hG p) (y.gdheap J p) hr,hc.same (y.heap g Y)⟩
 cases l with
 |int k n=>exact h
 |bool b=>exact h
 |str s=>exact h
 |nil=>exact h
 |hdr n=>exact h
 |ro p E e xs=>exact Rd.carry (hG p) (y.gdheap J p) h
 |own p hh E e xs =>
  obtain⟨rfl,H⟩:=a1 trivial;exact OwH.carry h (hG p) (y.gdheap J p) H
 |nal p ks ep a6 E e xs =>
  obtain⟨z,I,O⟩:=h;refine⟨BV z (y.ver EPO).1,λk M=>BV (I k M) (y.ver k.1).1,λhe M ho=>?_⟩;obtain⟨e1,e2⟩:=wT y z I he M;have h5:=y.places ho e1 e2 he M;have X:=O e1 e2 (λk R=>(h5 k R).1);refine⟨Rd.carry ?_ ?_ X.rd,λi sz off hl=>?_⟩
  ·grind
  ·rintro b (H|⟨k,R,H⟩)
   ·exact y.gdheap J p b H
   ·grind
  ·obtain⟨r,j,n,rfl,g,a4,a2,h6,h7,h8,h9⟩:=X.at_ i sz off hl;have R:(r,j,n)∈[(r,j,n)]:=CY ..;have a5:(st' r).ver=(st r).ver:=(M _ R).trans (e2 _ R).symm;refine⟨r,j,n,rfl,g,a4,a2,by rw[(y.ver r).2 a5];exact h6,h7,by rw[(h5 _ R).2.1];exact h8,?_⟩;rw[kO ((h5 _ R).2.2 g h8)];exact h9
 |np p ks ep a x off =>
  obtain⟨z,I,O⟩:=h;refine⟨BV z (y.ver EPO).1,λk M=>BV (I k M) (y.ver k.1).1,λhe M ho=>?_⟩;obtain⟨e1,e2⟩:=wT y z I he M;have h5:=y.places ho e1 e2 he M;have X:=O e1 e2 (λk R=>(h5 k R).1);have hS:∀ b,(gd V W p b\/∃ k∈ks,b∈W.bs k.1 k.2.1)->(gd V W' p b\/∃ k∈ks,b∈W'.bs k.1 k.2.1):=by
   grind
  have hW:∀ b,(gd V W p b\/∃ k∈ks,b∈W.bs k.1 k.2.1)->w'.heap[b]?=w.heap[b]?:=by
   rintro b (H|⟨k,R,H⟩)
   ·exact y.gdheap J p b H
   ·grind
  obtain⟨g,o,c,hv,Y,hr,hc⟩:=X.rd;exact⟨g,o,c,hv,hS g Y,Rd.carry hS hW hr,hc.same (hW g Y)⟩
 |al r j n =>
  obtain⟨z,I⟩:=h;obtain⟨O,X⟩:=y.ver r;refine⟨BV z O,λhv=>?_⟩
  grind
 |ep r j n i sz off =>
  obtain⟨z,I⟩:=h;obtain⟨O,X⟩:=y.ver r;refine⟨BV z O,λhv=>?_⟩
  grind
 |rp p a x off=>exact hR h
 |rpp p a x=>exact a3 h
 |clr f a0 =>
  obtain⟨us,z,I,O⟩:=h;refine⟨us,z,I,λi c u hc hu=>?_⟩;have X:=O i c u hc hu;unfold iR at X ⊢
  grind
 |bp b off =>
  obtain⟨z,I,O⟩:=h;obtain⟨X,h5⟩:=y.box b ⟨z,I⟩;exact⟨z,X.2,by rw[h5];exact O⟩
 |clo f a0 =>
  obtain⟨z,I⟩:=h;refine⟨?_,λb H=>(y.box b (I b H)).1⟩;rw[z];congr 2;refine List.map_congr_left λb H=>?_
  rw[(y.box b (I b H)).2]
 |fn As B φ=>exact h
 |dead=>trivial
def aD (P:Program)(V:Env)(W:Wit)(st:St)(w:World):List Leaf->List Value->Prop
 |[],[]=>True
 |l::u,v::r=>(aK P V W st w [] l v/\¬ am l/\v.oneCell'=true)/\aD P V W st w u r
 |_,_=>False
theorem aD.length:∀ {ls:List Leaf} {cs:List Value},aD P V W st w ls cs->ls.length=cs.length
 |[],[],_=>rfl
 |_::_,_::_,h=>by simp[aD.length h.2]
theorem aD.at_:∀ {ls:List Leaf} {cs:List Value},aD P V W st w ls cs->∀ (j:Nat) (l:Leaf) (v:Value),ls[j]?=some l->cs[j]?=some v->aK P V W st w [] l v/\¬ am l/\v.oneCell'=true
 |_::_,_::_,h,0,l,v,u,r=>by
  simp at u r;subst u;subst r;exact h.1
 |_::_,_::_,h,j+1,l,v,u,r=>aD.at_ h.2 j l v (by simpa using u) (by simpa using r)
theorem aD.one':∀ {ls:List Leaf} {cs:List Value},aD P V W st w ls cs->∀ v∈cs,v.oneCell'=true
 |[],[],_,_,r=>by simp at r
 |_::_,_::_,h,v,r=>by
  rcases CW.1 r with rfl|r
  ·exact h.1.2.2
  ·exact aD.one' h.2 v r
theorem aD.mk:∀ {ls:List Leaf} {cs:List Value},ls.length=cs.length->(∀ (j:Nat) (l:Leaf) (v:Value),ls[j]?=some l->cs[j]?=some v->aK P V W st w [] l v/\¬ am l/\v.oneCell'=true)->aD P V W st w ls cs
 |[],[],_,_=>trivial
 |_::_,_::_,h,H=>⟨H 0 _ _ rfl rfl,aD.mk (by simpa using h) λj l v u r=>H (j+1) l v (by simpa using u) (by simpa using r)⟩
theorem aD.drop {ls:List Leaf}{cs:List Value}(h:aD P V W st w ls cs)(n:Nat):aD P V W st w (ls.drop n) (cs.drop n) :=
 aD.mk (by simp[h.length]) λj l v u r=>h.at_ (n+j) l v (by simpa using u) (by simpa using r)
theorem aD.take {ls:List Leaf}{cs:List Value}(h:aD P V W st w ls cs)(n:Nat):aD P V W st w (ls.take n) (cs.take n) :=
 aD.mk (by simp[h.length]) λj l v y u=>by
  rw[BZ]at y u;split at y
  ·rename_i r;rw[if_pos r]at u;exact h.at_ j l v y u
  ·grind
theorem aD.append {y z:List Leaf}{r H:List Value}(u:aD P V W st w y r)(J:aD P V W st w z H):aD P V W st w (y++z) (r++H):=by
 induction y generalizing r with
 |nil =>
  cases r with
  |nil=>simpa using J
  |cons=>simp[aD]at u
 |cons l O I =>
  cases r with
  |nil=>simp[aD]at u
  |cons v M=>exact⟨u.1,I u.2⟩
theorem aD.carry (r:∀ k,V.ro0 k->V.prot k)(u:cB V W W' st st' w w'):∀ {ls:List Leaf} {cs:List Value},aD P V W st w ls cs->aD P V W' st' w' ls cs
 |[],[],_=>trivial
 |_::_,_::_,h=>⟨⟨h.1.1.carry r u (λy=>absurd y h.1.2.1),h.1.2⟩,aD.carry r u h.2⟩
theorem fa {G:Nat->Prop}{p:Bool}(y:∀ k,G k->gd V W p k):∀ {a:Ty} {x:a.den} {cs:List Value},Rd w G a x cs->aD P V W st w (cH p a x) cs
 |.int _,_,_,h=>by rw[show _=_ from h];exact⟨⟨rfl,id,rfl⟩,trivial⟩
 |.bool,_,_,h=>by rw[show _=_ from h];exact⟨⟨rfl,id,rfl⟩,trivial⟩
 |.str,_,_,h=>by rw[show _=_ from h];exact⟨⟨rfl,id,rfl⟩,trivial⟩
 |.unit,_,_,h=>by rw[show _=_ from h];trivial
 |.hdr,_,_,⟨A,r,e⟩=>by rw[e];exact⟨⟨⟨A,r,rfl⟩,id,rfl⟩,trivial⟩
 |.pair _ _,_,_,⟨J,M,e,H,u⟩=>by rw[e];exact (fa y H).append (fa y u)
 |.list m E e,z,_,h=>by
  obtain⟨A,r,rfl,u,I⟩:=h;exact⟨⟨Rd.mono y (⟨A,r,rfl,u,I⟩:Rd w _ (.list false E e) z _),id,rfl⟩,trivial⟩
theorem gL (p:Bool):∀ (a:Ty) (x:a.den),(cH p a x).length=a.cells
 |.int _,_=>rfl
 |.bool,_=>rfl
 |.str,_=>rfl
 |.unit,_=>rfl
 |.hdr,_=>rfl
 |.pair a b,x=>by simp[cH,Ty.cells,gL p a,gL p b]
 |.list _ _ _,_=>rfl
theorem cG (p:Bool):∀ (a:Ty) (x:a.den),(ap p a x).length=a.cells
 |.int _,_=>rfl
 |.bool,_=>rfl
 |.str,_=>rfl
 |.unit,_=>rfl
 |.hdr,_=>rfl
 |.pair a b,x=>by simp[ap,Ty.cells,cG p a,cG p b]
 |.list _ _ _,_=>rfl
theorem iS (t n:Nat):∀ (j:Nat) (ls:List Leaf),(bH t n j ls).length=ls.length
 |_,[]=>rfl
 |j,_::ls=>by simp[bH,iS t n (j+1) ls]
theorem oc (t n:Nat):∀ (j:Nat) (ls:List Leaf) (i:Nat) (l:Leaf),ls[i]?=some l->(bH t n j ls)[i]?=some (lT t (j+i) n l)
 |j,r::ls,0,l,h=>by
  simp at h;subst h;simp[bH]
 |j,r::ls,i+1,l,h=>by
  have:=oc t n (j+1) ls i l (by simpa using h);simp only[bH]
  grind
theorem iC {a:Act}(h:an P V W st a w)(r:Nat):aD P V W st w (bH r (st r).ver 0 (st r).ls) (W.cs r):=by
 refine aD.mk (by rw[iS,h.len]) λj l v u y=>?_
 have M:j<(st r).ls.length:=by
  have:=(BM.1 u).1;simpa[iS]using this
 have z:(st r).ls[j]?=some (st r).ls[j]:=BO M;have J:=oc r (st r).ver 0 (st r).ls j _ z;rw[J]at u;have H:=h.leaf r j _ v z y;have I:=h.one r v (List.mem_of_getElem? y);simp at u;subst u;generalize X:(st r).ls[j]=q at H;cases q with
 |own p R E e O=>exact⟨⟨BS _,λ_=>by simpa using y⟩,id,I⟩
 |_=>exact⟨H,id,I⟩
theorem sA {v:Value}{l:Leaf}(h:iw v=some l):aK P V W st w [] l v/\¬ am l/\v.oneCell'=true:=by
 unfold iw at h;split at h <;> simp at h <;> subst h <;> exact⟨rfl,id,rfl⟩
theorem cS {a:Act}(h:an P V W st a w)(x:Operand) :
  ∃ r,eh (au st x).1 (a.eval x) r/\aD P V W st w (au st x).2 r:=by
 cases x with
 |tmp t =>
  simp only[au];cases y:CE t GH with
  |false=>exact⟨[],rfl,trivial⟩
  |true=>exact⟨W.cs t,h.slots t (by simpa using y),iC h t⟩
 |const v =>
  simp only[au];cases z:iw v with
  |none=>exact⟨[],rfl,trivial⟩
  |some l=>exact⟨[v],rfl,⟨sA z,trivial⟩⟩
 |func f=>exact⟨[.func (.func f) #[] #[]],rfl,⟨⟨⟨rfl,λb u=>by simp at u⟩,id,rfl⟩,trivial⟩⟩
 |global g=>exact⟨[],rfl,trivial⟩
theorem bt {a:Act}(h:an P V W st a w)(x:Operand)(y:one st x≠.dead) :
  aK P V W st w [] (one st x) (a.eval x)/\¬ am (one st x)/\(a.eval x).oneCell'=true/\(au st x).1=.one/\(au st x).2=[one st x]:=by
 obtain⟨I,z,r⟩:=cS h x;unfold one at y ⊢;split at y
 ·rename_i l H;simp only[H]at z r ⊢;have u:I=[a.eval x]:=z;subst u;exact⟨r.1.1,r.1.2.1,r.1.2.2,by simp,by simp⟩
 ·grind
theorem fj {r j n:Nat}{l:Leaf}(u:aE st (.al r j n)=l)(y:l≠.dead):(st r).ver=n/\(st r).ls[j]?=some l:=by
 simp only[aE]at u;cases z:BK (st r).ver n with
 |false=>simp only[z]at u;exact absurd u.symm y
 |true =>
  simp only[z,cond_true]at u;refine⟨BL z,?_⟩;rw[B5]at u;cases H:(st r).ls[j]? with
  |none=>simp only[H]at u;exact absurd u.symm y
  |some I =>
   simp only[H,Option.getD_some]at u;cases I with
   |nal=>simp only[po]at u;exact absurd u.symm y
   |_=>simp only[po]at u;rw[u]
theorem iT {r j n:Nat}{p:Bool}{ks:List (Nat×Nat×Nat)}{ep:Nat}{u:Option (Nat×Nat×Nat)}{E:TypeId}{e:Ty}{xs:List e.den}:aE st (.al r j n)≠.nal p ks ep u E e xs:=by
 simp only[aE];cases BK (st r).ver n with
 |false=>simp
 |true =>
  cases (st r).ls.getD j .dead <;> simp[po]
theorem kt {a:Act}(h:an P V W st a w){r j n:Nat}{p:Bool}{u:Option (Nat×Nat)}{E:TypeId}{e:Ty}{xs:List e.den}{v:Value}(I:aE st (.al r j n)=.own p u E e xs)
  (J:aK P V W st w [] (.al r j n) v):(W.cs r)[j]?=some v/\OwH w (gd V W p) u E e xs v (W.bs r j)/\(st r).ls[j]?=some (.own p u E e xs)/\(st r).ver=n:=by
 obtain⟨H,z⟩:=fj I (by simp);have y:=J.2 H;exact⟨y,h.leaf r j _ v z y,z,H⟩
theorem vE {ls:List Leaf}{j:Nat}(h:lB (ls.getD j .dead)=true):∃ l,ls[j]?=some l/\am l:=by
 rw[B5]at h;cases r:ls[j]? with
 |none=>rw[r]at h;simp[lB]at h
 |some l =>
  rw[r]at h;refine⟨l,rfl,?_⟩;cases l <;> simp[lB]at h;trivial
theorem ct {ks:List (Nat×Nat×Nat)}{ep:Nat}(h:br st ks ep=true):(st EPO).ver=ep/\(∀ k∈ks,(st k.1).ver=k.2.2)/\sg st ks:=by
 simp only[br,BN,List.all_eq_true]at h;exact⟨BL h.1,λk r=>BL (h.2 k r).1,λk r=>vE (h.2 k r).2⟩
theorem pz {p:Bool}{ks:List (Nat×Nat×Nat)}{ep:Nat}{r:Option (Nat×Nat×Nat)}{E:TypeId}{e:Ty}{xs:List e.den}{v:Value}(u:br st ks ep=true)
 (y:aK P V W st w [] (.nal p ks ep r E e xs) v):si V W w p ks r E e xs v:=y.2.2 (ct u).1 (ct u).2.1 (ct u).2.2
def bq (V:Env)(W:Wit)(p:Bool)(ks:List (Nat×Nat))(k:Nat):Prop:=gd V W p k\/∃ x∈ks,k∈W.bs x.1 x.2
theorem jU {E:TypeId}{e:Ty}{E':TypeId}{e':Ty}{xs:List e'.den}{r:List e.den}(h:lU E e E' e' xs=some r) :
  ∃ (y:E'=E) (u:e'=e),u ▸ xs=r:=by
 unfold lU at h
 grind
theorem ue {e e':Ty}{xs:List e'.den}{r:List e.den}(h:castSh e e' xs=some r):e'.sh=e.sh/\HEq xs r:=by
 unfold castSh at h
 grind
theorem Rd.castSh {G:Nat->Prop}{m m':Bool}{E E':TypeId}{e e':Ty}{xs:List e'.den}{u:List e.den}{cs:List Value}(h:castSh e e' xs=some u)(I:Rd w G (.list m E' e') xs cs):Rd w G (.list m' E e) u cs:=by
 obtain⟨J,M⟩:=ue h;have O:Rd w G (.list m E e) u cs:=by
  refine Rd.flags (a:=.list m E e') (x:=xs) (by simp only[Ty.sh,J]) M ?_;obtain⟨A,r,H,z,y⟩:=I;exact⟨A,r,H,z,y⟩
 obtain⟨A,r,H,z,y⟩:=O;exact⟨A,r,H,z,y⟩
theorem ku (st:St):∀ (r u:List Leaf),bz st (r++u)=bz st r++bz st u
 |[],_=>rfl
 |l::r,u=>by
  have:=ku st r u;cases l <;> simp[bz,this]
theorem sC (st:St):∀ (r u:List Leaf),bZ st (r++u)=bZ st r++bZ st u
 |[],_=>rfl
 |l::r,u=>by
  have:=sC st r u;cases l <;> simp[bZ,this]
theorem kP {a:Act}(h:an P V W st a w){m:Bool}{E:TypeId}{e:Ty}{l:Leaf}{v:Value}{p:Bool}{xs:List e.den}
  (hl:aK P V W st w [] l v) (a1:¬ am l) (u:dg e (aE st l)=some (p,xs)):Rd w (bq V W p (bz st [l])) (.list m E e) xs [v]:=by
 have H:∀ (q:Leaf) (bs:List Nat) (S:Nat->Prop),aK P V W st w bs q v->dg e q=some (p,xs)->(∀ k,gd V W p k->S k)->(am q->∀ k∈bs,S k) ->
   (∀ q' J ep z E' I X,q=.nal q' J ep z E' I X->br st J ep=true/\∀ k∈J,∀ b∈W.bs k.1 k.2.1,S b)->Rd w S (.list m E e) xs [v]:=by
  intro q bs S R u hS hb hn;cases q with
  |ro q E' I Y =>
   simp only[dg,BY]at u;obtain⟨zs,Z,rfl,rfl⟩:=u;exact Rd.castSh Z (Rd.mono hS R)
  |nil =>
   obtain⟨rfl,rfl⟩:=u;rw[show v=_ from R];exact Rd.nil w _ m E e
  |own q hh E' I Y =>
   cases hh with
   |some _=>simp[dg]at u
   |none =>
    simp only[dg,BY]at u;obtain⟨zs,Z,rfl,rfl⟩:=u;refine Rd.castSh Z (Rd.mono (λk y=>?_) (OwH.rd (m:=false) (E':=E') R));exact y.elim (hS k) (hb trivial k)
  |nal q J ep z E' I Y =>
   simp only[dg,BY,Ck]at u;obtain⟨zs,Z,rfl,rfl⟩:=u;obtain⟨M,hn⟩:=hn _ _ _ _ _ _ _ rfl;have h1:si V W w q J z E' I Y v:=R.2.2 (ct M).1 (ct M).2.1 (ct M).2.2;refine Rd.castSh Z (Rd.mono (λk y=>?_) h1.rd);rcases y with y|⟨x,hx,y⟩
   ·grind
   ·grind
  |_=>simp[dg]at u
 cases l with
 |al r j n =>
  by_cases hd:aE st (.al r j n)=.dead
  ·rw[hd]at u;simp[dg]at u
  ·obtain⟨h1,h2⟩:=fj rfl hd;have h3:=h.leaf r j _ v h2 (hl.2 h1);generalize R:aE st (.al r j n)=q at u h2 h3;refine H q (W.bs r j) _ h3 u (λk y=>.inl y) (λO k y=>.inr ⟨(r,j),?_,y⟩) ?_
   ·cases q <;> first|exact O.elim|simp[bz,R]
   ·rintro q' J ep z E' I X rfl;exact absurd R iT
 |own q hh E' I Y=>exact absurd trivial a1
 |nal q J ep z E' I Y =>
  simp only[aE]at u;cases M:br st J ep with
  |false=>simp[M,dg]at u
  |true =>
   simp only[M]at u;refine H _ [] _ hl u (λk y=>.inl y) (λO=>O.elim) ?_;intro q' a4 a3 a2 a6 a5 X a0;cases a0;refine⟨M,λk y b hb=>.inr ⟨(k.1,k.2.1),?_,hb⟩⟩;simp only[bz,aE]
   grind
 |ro q E' I Y=>exact H _ [] _ hl u (λk y=>.inl y) (λO=>O.elim) (λ_ _ _ _ _ _ _ h=>by cases h)
 |nil=>exact H _ [] _ hl u (λk y=>.inl y) (λO=>O.elim) (λ_ _ _ _ _ _ _ h=>by cases h)
 |_=>simp[aE,dg]at u
theorem wU {a:Act}(h:an P V W st a w){l:Leaf}{v:Value}{n:Nat}(X:aK P V W st w [] l v)(Y:¬ am l)(u:fZ (aE st l)=some n):Rd w (λ_=>False) .hdr n [v]:=by
 have H:∀ (q:Leaf) (bs:List Nat),aK P V W st w bs q v->fZ q=some n->(∀ p I ep z E e O,q=.nal p I ep z E e O->br st I ep=true)->Rd w (λ_=>False) .hdr n [v]:=by
  intro q bs J u hn;cases q with
  |ro p E e O =>
   simp only[fZ,BR]at u;subst u;obtain⟨A,y,M,_⟩:=J;exact⟨A,y,M⟩
  |own p hh E e O =>
   simp only[fZ,BR]at u;subst u;obtain⟨A,y,M,_⟩:=OwH.slice J;exact⟨A,y,by rw[M]⟩
  |nal p I ep z E e O =>
   simp only[fZ,BR]at u;subst u;have R:=hn _ _ _ _ _ _ _ rfl;obtain⟨A,y,M,_⟩:=(J.2.2 (ct R).1 (ct R).2.1 (ct R).2.2:si V W w p I z E e O v).rd;exact⟨A,y,M⟩
  |nil =>
   simp only[fZ,BR]at u;subst u;exact⟨none,0,by rw[show v=_ from J]⟩
  |hdr m =>
   simp only[fZ,BR]at u;subst u;obtain⟨A,y,M⟩:=J;exact⟨A,y,by rw[M]⟩
  |_=>simp[fZ]at u
 cases l with
 |al r j m =>
  by_cases hd:aE st (.al r j m)=.dead
  ·rw[hd]at u;simp[fZ]at u
  ·obtain⟨h1,h2⟩:=fj rfl hd;have h3:=h.leaf r j _ v h2 (X.2 h1);refine H _ _ h3 u λp I ep z E e O J=>absurd J iT
 |own q hh E' e' Z=>exact absurd trivial Y
 |nal q I ep z E' e' Z =>
  simp only[aE]at u;cases R:br st I ep with
  |false=>simp[R,fZ]at u
  |true =>
   grind
 |ro q E' e' Z=>exact H _ [] X u (λ_ _ _ _ _ _ _ h=>by cases h)
 |nil=>exact H _ [] X u (λ_ _ _ _ _ _ _ h=>by cases h)
 |hdr m=>exact H _ [] X u (λ_ _ _ _ _ _ _ h=>by cases h)
 |_=>simp[aE,fZ]at u
theorem kQ {a:Act}(h:an P V W st a w):∀ (b:Ty) (ls:List Leaf) (cs:List Value) (p:Bool) (x:b.den) (r:List Leaf),aD P V W st w ls cs ->
  bc st b ls=some (p,x,r)->∃ M R O,cs=M++R/\ls=O++r/\aD P V W st w O M/\aD P V W st w r R/\Rd w (bq V W p (bz st O)) b x M
 |.int k,ls,cs,p,x,r,H,u=>by
  simp only[bc]at u;split at u
  ·rename_i k' n ls;split at u
   ·rename_i I;obtain⟨rfl,rfl,rfl⟩:=u;cases cs with
    |nil=>exact H.elim
    |cons v cs=>exact⟨[v],cs,[_],rfl,rfl,⟨H.1,trivial⟩,H.2,by rw[show v=_ from H.1.1,I];rfl⟩
   ·grind
  ·grind
 |.bool,ls,cs,p,x,r,H,u=>by
  simp only[bc]at u;split at u
  ·simp at u;obtain⟨rfl,rfl,rfl⟩:=u;cases cs with
   |nil=>exact H.elim
   |cons v cs=>exact⟨[v],cs,[_],rfl,rfl,⟨H.1,trivial⟩,H.2,by rw[show v=_ from H.1.1];rfl⟩
  ·grind
 |.str,ls,cs,p,x,r,H,u=>by
  simp only[bc]at u;split at u
  ·simp at u;obtain⟨rfl,rfl,rfl⟩:=u;cases cs with
   |nil=>exact H.elim
   |cons v cs=>exact⟨[v],cs,[_],rfl,rfl,⟨H.1,trivial⟩,H.2,by rw[show v=_ from H.1.1];rfl⟩
  ·grind
 |.unit,ls,cs,p,x,r,H,u=>by
  obtain⟨rfl,_,rfl⟩:=u;exact⟨[],cs,[],rfl,rfl,trivial,H,rfl⟩
 |.hdr,ls,cs,p,x,r,H,u=>by
  simp only[bc]at u;split at u
  ·rename_i l J;split at u
   ·rename_i n hn;obtain⟨rfl,rfl,rfl⟩:=u;cases cs with
    |nil=>exact H.elim
    |cons v cs=>exact⟨[v],cs,[l],rfl,rfl,⟨H.1,trivial⟩,H.2,wU h H.1.1 H.1.2.1 hn⟩
   ·grind
  ·grind
 |.pair b c,ls,cs,p,x,r,H,u=>by
  simp only[bc]at u;split at u
  ·rename_i q y J hb;split at u
   ·rename_i q' z X hc;simp at u;obtain⟨rfl,rfl,rfl⟩:=u;obtain⟨M,R,O,e1,e2,h1,h2,h3⟩:=kQ h b ls cs q y J H hb;obtain⟨Z,c4,l2,e3,e4,h4,h5,h6⟩:=kQ h c J R q' z X h2 hc;refine⟨M++Z,c4,O++l2,by rw[e1,e3,CC],by rw[e2,e4,CC],h1.append h4,h5,M,Z,rfl,?_,?_⟩
    ·refine Rd.mono (λk I=>?_) h3;rcases I with I|⟨y,Y,I⟩
     ·exact .inl (bT (by simp_all) (λ_ h=>h) k I)
     ·exact .inr ⟨y,by rw[ku];exact BQ _ Y,I⟩
    ·refine Rd.mono (λk I=>?_) h6;rcases I with I|⟨y,Y,I⟩
     ·exact .inl (bT (by simp_all) (λ_ h=>h) k I)
     ·exact .inr ⟨y,by rw[ku];exact BP _ Y,I⟩
   ·grind
  ·grind
 |.list m E e,ls,cs,p,x,r,H,u=>by
  simp only[bc]at u;split at u
  ·rename_i l J;split at u
   ·rename_i q ys ha;obtain⟨rfl,rfl,rfl⟩:=u;cases cs with
    |nil=>exact H.elim
    |cons v cs=>exact⟨[v],cs,[l],rfl,rfl,⟨H.1,trivial⟩,H.2,kP h H.1.1 H.1.2.1 ha⟩
   ·grind
  ·grind
theorem eH {a:Act}(h:an P V W st a w){b:Ty}{ls:List Leaf}{cs:List Value}{p:Bool}{x:b.den}(z:aD P V W st w ls cs)
  (r:cO st b ls=some (p,x)):Rd w (bq V W p (bz st ls)) b x cs:=by
 unfold cO at r;split at r
 ·rename_i q y H;obtain⟨M,u,J,Y,R,O,I,X⟩:=kQ h b ls cs _ _ _ z H;have:u=[]:=by
   cases u with
   |nil=>rfl
   |cons=>exact I.elim
  simp_all
 ·grind
end
section
variable {P:Program} {V:Env} {W W':Wit} {st st':St} {w w':World} {a:Act}
theorem bD (A B:Upd)(st:St):ac (A++B) st=ac A (ac B st):=by
 funext q;induction A with
 |nil=>rfl
 |cons x A u=>obtain⟨r,c⟩:=x;simp only[Cg,ac,u]
theorem aQ (r:Nat)(c:bQ)(U:Upd)(st:St):ac ((r,c)::U) st=ac [(r,c)] (ac U st):=bD [(r,c)] U st
theorem bm (r:Nat)(c:bQ)(st:St):ac [(r,c)] st r=c:=by simp[ac]
theorem aJ {r q:Nat}(h:q≠r)(c:bQ)(st:St):ac [(r,c)] st q=st q:=by
 have:BK q r=false:=by
  cases u:BK q r with
  |false=>rfl
  |true=>exact absurd (BL u) h
 simp[ac,this]
theorem aj (r q:Nat)(c:bQ)(st:St):(q=r/\ac [(r,c)] st q=c)\/(q≠r/\ac [(r,c)] st q=st q):=by
 by_cases h:q=r
 ·subst h;exact .inl ⟨rfl,bm q c st⟩
 ·exact .inr ⟨h,aJ h c st⟩
def cd (V:Env)(W:Wit)(st:St)(k:Nat):Prop :=
 W.nw k\/V.prot k\/(∃ b,live st b/\W.β b=k)\/∃ r j l,(st r).ls[j]?=some l/\am l/\k∈W.bs r j
theorem an.own_lt (h:an P V W st a w){r j:Nat}{l:Leaf}(u:(st r).ls[j]?=some l)(z:am l):∀ k∈W.bs r j,k<w.heap.size:=by
 have y:j<(W.cs r).length:=by rw[<- h.len];exact (BM.1 u).1
 have:=h.leaf r j l _ u (BO y);cases l <;> simp only[am]at z;exact OwH.lt this
theorem an.box_lt (h:an P V W st a w){b:Nat}(r:live st b):W.β b<w.heap.size:=by
 rcases h.boxes b r.1 with ⟨u,_⟩|⟨_,E,y⟩
 ·exact absurd (u.symm.trans r.2) (by simp)
 ·grind
theorem an.used_lt (h:an P V W st a w):∀ k,cd V W st k->k<w.heap.size:=by
 intro k u;rcases u with u|u|⟨b,z,rfl⟩|⟨r,j,l,I,H,y⟩
 ·exact (h.nwlt k u).1
 ·exact B9 u.1 h.size
 ·exact h.box_lt z
 ·exact h.own_lt I H k y
theorem an.world (Z:ay V)(h:an P V W st a w)(X:w.heap.size<=w'.heap.size)(O:w'.os=w.os)(Y:w'.tape=w.tape)(M:w'.output=w.output)
  (u:∀ k,cd V W st k->w'.heap[k]?=w.heap[k]?):an P V W st a w':=by
 have z:cB V W W st st w w':=⟨λr=>⟨BS _,λ_=>rfl⟩,λb J=>⟨J,rfl⟩,λ_ h=>h,λk h=>u k (h.elim .inl (λh=>.inr (.inl h))),
  λ_ r j l y I _=>⟨⟨l,y,I⟩,rfl,λk H=>u k (.inr (.inr (.inr ⟨r,j,l,y,I,H⟩)))⟩⟩
 exact {
  nt:=h.nt,df:=h.df,slots:=h.slots,
  boxes:=λb J=>(h.boxes b J).imp id λ⟨y,E,I⟩=>⟨y,E,by rw[u _ (.inr (.inr (.inl ⟨b,⟨J,y⟩,rfl⟩)))];exact I⟩
  len:=h.len,one:=h.one,
  leaf:=λr j l v y I=>(h.leaf r j l v y I).carry Z.ro z (λM=>⟨rfl,λk H=>u k (.inr (.inr (.inr ⟨r,j,l,y,M,H⟩)))⟩)
  ownb:=h.ownb,sep:=h.sep,box:=h.box,inj:=h.inj,
  nwlt:=λk u=>⟨B9 (h.nwlt k u).1 X,(h.nwlt k u).2⟩
  os:=O.trans h.os,tape:=Y.trans h.tape,output:=M.trans h.output,size:=BV h.size X,
  keep:=λk R=>(u k (.inr (.inl R))).trans (h.keep k R)
  fixb:=h.fixb,fixt:=h.fixt }
theorem an.below (y:ay V)(h:an P V W st a w)(r:Below w.heap.size w w'):an P V W st a w' :=
 h.world y r.size r.os r.tape r.output λk u=>r.block k (h.used_lt k u)
theorem an.relabel (hV:ay V)(h:an P V W st a w)(r:Nat)(c:bQ)(nw':Nat->Prop)(a2:(st r).ver<=c.ver)(X:c.sh=(st r).sh)
    (Y:c.ls.length=(st r).ls.length) (a1:∀ k,W.nw k->nw' k) (M:∀ k,nw' k->k<w.heap.size/\¬ V.prot k)
    (Z:∀ (j:Nat) (l:Leaf) (v:Value),c.ls[j]?=some l->(W.cs r)[j]?=some v->aK P V { W with nw:=nw' } (ac [(r,c)] st) w (W.bs r j) l v)
    (a3:∀ (j:Nat) (l:Leaf),c.ls[j]?=some l->am l->(st r).ls[j]?=some l)
    (I:∀ (q j:Nat) (l:Leaf),(ac [(r,c)] st q).ls[j]?=some l->am l->∀ k∈W.bs q j,¬ nw' k)
    (J:∀ b,live st b->¬ nw' (W.β b)):an P V { W with nw:=nw' } (ac [(r,c)] st) a w:=by
  have R:∀ b,live (ac [(r,c)] st) b<->live st b:=by
    intro b;rcases aj r b c st with ⟨rfl,e⟩|⟨_,e⟩
    · simp[live,e,X]
    · simp[live,e]
  have u:∀ (q j:Nat) (l:Leaf),(ac [(r,c)] st q).ls[j]?=some l->am l->(st q).ls[j]?=some l:=by
    intro q j l z y;rcases aj r q c st with ⟨rfl,e⟩|⟨_,e⟩
    · grind
    · grind
  have O:cB V W { W with nw:=nw' } st (ac [(r,c)] st) w w :=
    ⟨λq=>by
      rcases aj r q c st with ⟨rfl,e⟩|⟨_,e⟩
      · grind
      · rw[e];exact⟨BS _,λ_=>rfl⟩,
     λb H=>⟨(R b).2 H,rfl⟩,a1,λ_ _=>rfl,λ_ q j l z y h3=>⟨⟨l,u q j l z y,y⟩,rfl,λ_ _=>rfl⟩⟩
  exact {
    nt:=h.nt,df:=h.df,
    slots:=λt ht=>by
      rcases aj r t c st with ⟨rfl,e⟩|⟨_,e⟩
      · rw[e,X];exact h.slots t ht
      · rw[e];exact h.slots t ht
    boxes:=λb H=>by
      rcases aj r b c st with ⟨rfl,e⟩|⟨_,e⟩
      · rw[e,X]
        rcases h.boxes b H with ⟨z,y⟩|z
        · grind
        · grind
      · rw[e];exact h.boxes b H
    len:=λq=>by
      rcases aj r q c st with ⟨rfl,e⟩|⟨_,e⟩
      · rw[e,Y];exact h.len q
      · rw[e];exact h.len q
    one:=h.one
    leaf:=λq j l v z y=>by
      rcases aj r q c st with ⟨rfl,e⟩|⟨_,e⟩
      · grind
      · rw[e]at z
        exact (h.leaf q j l v z y).carry hV.ro O (λ_=>⟨rfl,λ_ _=>rfl⟩)
    ownb:=λq j l z y k hk=>⟨I q j l z y k hk,(h.ownb q j l (u q j l z y) y k hk).2.1,λb H=>(h.ownb q j l (u q j l z y) y k hk).2.2 b ((R b).1 H)⟩
    sep:=λq j l q' j' l' z y h3 h4=>h.sep q j l q' j' l' (u q j l z y) y (u q' j' l' h3 h4) h4
    box:=λb H=>⟨J b ((R b).1 H),(h.box b ((R b).1 H)).2⟩
    inj:=λb b' H a0=>h.inj b b' ((R b).1 H) ((R b').1 a0)
    nwlt:=M
    os:=h.os,tape:=h.tape,output:=h.output,size:=h.size,keep:=h.keep,
    fixb:=λx hx=>⟨(R _).2 (h.fixb x hx).1,(h.fixb x hx).2⟩,fixt:=h.fixt }
theorem aS {α:Type}(ls:List α)(j i:Nat)(x y:α)(h:(ls.set j x)[i]?=some y):(i=j/\y=x/\j<ls.length)\/(i≠j/\ls[i]?=some y):=by
 grind
theorem an.kill1 (J:ay V)(h:an P V W st a w)(r j:Nat):an P V W (ac [(r,f9 (st r) j)] st) a w:=by
 refine h.relabel J r _ W.nw (BS _) rfl (by simp[f9,aT]) (λ_ h=>h) h.nwlt ?_ ?_ ?_ λb H=>(h.box b H).1
 ·intro i l v u y;rcases aS _ _ _ _ _ u with ⟨_,rfl,_⟩|⟨z,u⟩
  ·trivial
  ·refine (h.leaf r i l v u y).carry J.ro ⟨λq=>?_,λb H=>?_,λ_ h=>h,λ_ _=>rfl,λ_ q R Y I O X=>?_⟩ (λ_=>⟨rfl,λ_ _=>rfl⟩)
   ·rcases aj r q (f9 (st r) j) st with ⟨rfl,e⟩|⟨_,e⟩
    ·rw[e];exact⟨BS _,λ_=>rfl⟩
    ·grind
   ·refine⟨⟨H.1,?_⟩,rfl⟩;rcases aj r b (f9 (st r) j) st with ⟨rfl,e⟩|⟨_,e⟩
    ·rw[e];exact H.2
    ·rw[e];exact H.2
   ·rcases aj r q (f9 (st r) j) st with ⟨rfl,e⟩|⟨_,e⟩
    ·rw[e]at I;rcases aS _ _ _ _ _ I with ⟨_,rfl,_⟩|⟨_,I⟩
     ·exact O.elim
     ·grind
    ·grind
 ·intro i l u y;rcases aS _ _ _ _ _ u with ⟨_,rfl,_⟩|⟨z,u⟩
  ·exact y.elim
  ·omega
 ·intro q i l u y;have:(st q).ls[i]?=some l:=by
   rcases aj r q (f9 (st r) j) st with ⟨rfl,e⟩|⟨_,e⟩
   ·rw[e]at u;rcases aS _ _ _ _ _ u with ⟨_,rfl,_⟩|⟨z,u⟩
    ·exact y.elim
    ·omega
   ·grind
  exact λk M=>(h.ownb q i l this y k M).1
theorem an.frz1 (hV:ay V)(h:an P V W st a w)(r j:Nat) :
  an P V { W with nw:=λk=>W.nw k\/((∃ l,(st r).ls[j]?=some l/\am l)/\k∈W.bs r j) } (ac [(r,fW (st r) j)] st) a w:=by
 have O:∀ l,(st r).ls[j]?=some l->(st r).ls.getD j .dead=l:=λl hl=>by rw[B5,hl];rfl
 have u:∀ (i:Nat) (l:Leaf),(aT (st r).ls j (uL ((st r).ls.getD j .dead)))[i]?=some l->am l->(st r).ls[i]?=some l/\i≠j:=by
  intro i l z y;rcases aS _ _ _ _ _ z with ⟨rfl,rfl,hj⟩|⟨Z,z⟩
  ·rw[O _ (BO hj)]at y;generalize (st r).ls[i]=l at y;cases l with
   |own p hh E e xs=>cases hh <;> exact y.elim
   |_=>exact y.elim
  ·grind
 have I:cB V W { W with nw:=λk=>W.nw k\/((∃ l,(st r).ls[j]?=some l/\am l)/\k∈W.bs r j) } st (ac [(r,fW (st r) j)] st) w w:=by
  refine⟨λq=>?_,λb X=>?_,λ_ h=>.inl h,λ_ _=>rfl,λ_ q j' Y J M h5=>?_⟩
  ·rcases aj r q (fW (st r) j) st with ⟨rfl,e⟩|⟨_,e⟩
   ·rw[e];exact⟨BS _,λ_=>rfl⟩
   ·grind
  ·refine⟨⟨X.1,?_⟩,rfl⟩;rcases aj r b (fW (st r) j) st with ⟨rfl,e⟩|⟨_,e⟩
   ·rw[e];exact X.2
   ·rw[e];exact X.2
  ·rcases aj r q (fW (st r) j) st with ⟨rfl,e⟩|⟨_,e⟩
   ·rw[e]at J;exact⟨⟨Y,(u j' Y J M).1,M⟩,rfl,λ_ _=>rfl⟩
   ·grind
 refine h.relabel hV r _ _ (BS _) rfl (by simp[fW,aT]) (λ_ h=>.inl h) ?_ ?_ (λi l z y=>(u i l z y).1) ?_ ?_
 ·rintro k (H|⟨⟨l,z,y⟩,H⟩)
  ·exact h.nwlt k H
  ·exact⟨h.own_lt z y k H,(h.ownb r j l z y k H).2.1⟩
 ·intro i l v z y;rcases aS _ _ _ _ _ z with ⟨rfl,rfl,hj⟩|⟨Z,z⟩
  ·have J:(st r).ls[i]?=some (st r).ls[i]:=BO hj;have M:=h.leaf r i _ v J y;rw[O _ J];generalize hq:(st r).ls[i]=q at J M;cases q with
   |own p hh E e xs =>
    cases hh with
    |some _=>trivial
    |none =>
     refine Rd.mono (λk H=>?_) (OwH.rd (m:=false) (E':=E) M);rcases H with H|H
     ·exact bT (W':={ W with nw:=_ }) (λh=>h) (λ_ h=>.inl h) k H
     ·exact .inl (.inr ⟨⟨_,J,trivial⟩,H⟩)
   |_=>exact M.carry hV.ro I (λho=>ho.elim)
  ·exact (h.leaf r i l v z y).carry hV.ro I (λ_=>⟨rfl,λ_ _=>rfl⟩)
 ·intro q i l z y k H;have J:(st q).ls[i]?=some l/\(q,i)≠(r,j):=by
   rcases aj r q (fW (st r) j) st with ⟨rfl,e⟩|⟨Z,e⟩
   ·rw[e]at z;have:=u i l z y
    simp_all
   ·grind
  rintro (R|⟨⟨Y,M,h5⟩,R⟩)
  ·exact (h.ownb q i l J.1 y k H).1 R
  ·obtain⟨rfl,rfl⟩:=h.sep q i l r j Y J.1 y M h5 k H R
   simp_all
 ·rintro b X (R|⟨⟨Y,M,h5⟩,R⟩)
  ·exact (h.box b X).1 R
  ·exact (h.ownb r j Y M h5 _ R).2.2 b X rfl
theorem l8 (I:ay V):∀ (ks:List (Nat×Nat)),an P V W st a w->an P V W (ac (aN st ks) st) a w /\
  (∀ (q i:Nat) (l:Leaf),(ac (aN st ks) st q).ls[i]?=some l->am l->(st q).ls[i]?=some l/\(q,i)∉ks) /\
  (∀ q,(ac (aN st ks) st q).sh=(st q).sh/\(st q).ver<=(ac (aN st ks) st q).ver)
 |[],h=>⟨h,λ_ _ _ y _=>⟨y,by simp⟩,λ_=>⟨rfl,BS _⟩⟩
 |(r,j)::ks,h=>by
  obtain⟨y,O,H⟩:=l8 I ks h;have e:ac (aN st ((r,j)::ks)) st=ac [(r,f9 (ac (aN st ks) st r) j)] (ac (aN st ks) st):=aQ _ _ _ _;rw[e];refine⟨y.kill1 I r j,λq i l z J=>?_,λq=>?_⟩
  ·have M:(ac (aN st ks) st q).ls[i]?=some l/\(q,i)≠(r,j):=by
    rcases aj r q (f9 (ac (aN st ks) st r) j) (ac (aN st ks) st) with ⟨rfl,e⟩|⟨u,e⟩
    ·rw[e]at z;rcases aS _ _ _ _ _ z with ⟨_,rfl,_⟩|⟨u,z⟩
     ·exact J.elim
     ·grind
    ·grind
   simp_all
  ·rcases aj r q (f9 (ac (aN st ks) st r) j) (ac (aN st ks) st) with ⟨rfl,e⟩|⟨u,e⟩
   ·rw[e];exact⟨(H q).1,(H q).2⟩
   ·grind
def Wit.frz (W:Wit)(st:St)(ks:List (Nat×Nat)):Wit :=
 { W with nw:=λk=>W.nw k\/∃ x∈ks,(∃ l,(st x.1).ls[x.2]?=some l/\am l)/\k∈W.bs x.1 x.2 }
theorem an.nw_congr (h:an P V W st a w){nw':Nat->Prop}(e:∀ k,W.nw k<->nw' k):an P V { W with nw:=nw' } st a w:=by
 have:nw'=W.nw:=funext λk=>propext (e k).symm
 subst this;exact h
theorem lF (Y:ay V):∀ (ks:List (Nat×Nat)),an P V W st a w->an P V (W.frz st ks) (ac (aF st ks) st) a w /\
  (∀ (q i:Nat) (l:Leaf),(ac (aF st ks) st q).ls[i]?=some l->am l->(st q).ls[i]?=some l/\(q,i)∉ks) /\
  (∀ q,(ac (aF st ks) st q).sh=(st q).sh/\(st q).ver<=(ac (aF st ks) st q).ver)
 |[],h=>⟨h.nw_congr (λk=>by simp),λ_ _ _ J _=>⟨J,by simp⟩,λ_=>⟨rfl,BS _⟩⟩
 |(r,j)::ks,h=>by
  obtain⟨J,h2,X⟩:=lF Y ks h;have e:ac (aF st ((r,j)::ks)) st=ac [(r,fW (ac (aF st ks) st r) j)] (ac (aF st ks) st):=aQ _ _ _ _;rw[e];refine⟨?_,λq i l R O=>?_,λq=>?_⟩
  ·have h7:=J.frz1 Y r j;have h8:=h7.nw_congr (nw':=(W.frz st ((r,j)::ks)).nw) (λk=>?_)
   ·exact h8
   ·simp only[Wit.frz];constructor
    ·rintro ((y|⟨x,M,y⟩)|⟨⟨l,u,H⟩,y⟩)
     ·grind
     ·grind
     ·exact .inr ⟨(r,j),CY ..,⟨l,(h2 r j l u H).1,H⟩,y⟩
    ·rintro (y|⟨x,M,⟨l,u,H⟩,y⟩)
     ·grind
     ·rcases CW.1 M with rfl|M
      ·by_cases I:(r,j)∈ks
       ·exact .inl (.inr ⟨(r,j),I,⟨l,u,H⟩,y⟩)
       ·refine .inr ⟨⟨l,?_,H⟩,y⟩;exact iP ks I u
      ·grind
  ·have h6:(ac (aF st ks) st q).ls[i]?=some l/\(q,i)≠(r,j):=by
    rcases aj r q (fW (ac (aF st ks) st r) j) (ac (aF st ks) st) with ⟨rfl,e⟩|⟨z,e⟩
    ·rw[e]at R;rcases aS _ _ _ _ _ R with ⟨rfl,rfl,hj⟩|⟨z,R⟩
     ·exfalso;generalize (ac (aF st ks) st q).ls.getD i .dead=l' at O;cases l' with
      |own p Z E e xs=>cases Z <;> exact O.elim
      |_=>exact O.elim
     ·grind
    ·grind
   simp_all
  ·rcases aj r q (fW (ac (aF st ks) st r) j) (ac (aF st ks) st) with ⟨rfl,e⟩|⟨z,e⟩
   ·rw[e];exact⟨(X q).1,(X q).2⟩
   ·grind
where
 iP:∀ (ks:List (Nat×Nat)) {r j:Nat} {l:Leaf},(r,j)∉ks->(st r).ls[j]?=some l->(ac (aF st ks) st r).ls[j]?=some l
  |[],_,_,_,_,u=>u
  |(q,i)::ks,r,j,l,hn,u=>by
   have J:=iP ks (λI=>hn (CQ _ I)) u;have e:ac (aF st ((q,i)::ks)) st=ac [(q,fW (ac (aF st ks) st q) i)] (ac (aF st ks) st):=aQ _ _ _ _;rw[e];rcases aj q r (fW (ac (aF st ks) st q) i) (ac (aF st ks) st) with ⟨rfl,e⟩|⟨z,e⟩
   ·rw[e];simp only[fW,aT]
    grind
   ·grind
theorem an.put (hV:ay V)(h:an P V W st a w)(d:Nat)(hd:d<V.nt)(a3:∀ x∈V.fixt,x.1≠d)(n:Nat)(sh:aI)(ls:List Leaf)(v:Value)
  (J:List Value) (I:Nat->List Nat) (hn:(st d).ver<n) (hs:eh sh v J) (hl:ls.length=J.length) (h1:∀ u∈J,u.oneCell'=true)
  (a2:∀ (j:Nat) (l:Leaf) (u:Value),ls[j]?=some l->J[j]?=some u->aK P V W st w (I j) l u)
  (a1:∀ (j:Nat) (l:Leaf),ls[j]?=some l->am l->∀ k∈I j,¬ W.nw k/\¬ V.prot k/\(∀ b,live st b->W.β b≠k) /\
   ∀ (r1 j1:Nat) (l1:Leaf),r1≠d->(st r1).ls[j1]?=some l1->am l1->k∉W.bs r1 j1)
  (a4:∀ (j Z:Nat) (l l':Leaf),ls[j]?=some l->am l->ls[Z]?=some l'->am l'->∀ k,k∈I j->k∈I Z->j=Z) :
  an P V { W with cs:=λr=>if r=d then J else W.cs r,bs:=λr j=>if r=d then I j else W.bs r j } (ac [(d,⟨n,sh,ls⟩)] st) (a.put (some d) v) w:=by
 have a6:d<B0:=B9 hd hV.ntB;have O:∀ b,live (ac [(d,⟨n,sh,ls⟩)] st) b<->live st b:=by
  intro b;by_cases hb:B0<=b
  ·rw[live,live,aJ (by omega)]
  ·simp[live,hb]
 have R:cB V W { W with cs:=λr=>if r=d then J else W.cs r,bs:=λr j=>if r=d then I j else W.bs r j } st (ac [(d,⟨n,sh,ls⟩)] st) w w:=by
  refine⟨λq=>?_,λb hb=>⟨(O b).2 hb,rfl⟩,λ_ h=>h,λ_ _=>rfl,λ_ q Z l' M h4 h5=>?_⟩;rcases aj d q ⟨n,sh,ls⟩ st with ⟨rfl,e⟩|⟨y,e⟩
  ·grind
  ·grind
  rcases aj d q ⟨n,sh,ls⟩ st with ⟨rfl,e⟩|⟨y,e⟩
  ·grind
  ·grind
 have a0:∀ t,(a.put (some d) v).tmps.getD t undef=if t=d then v else a.tmps.getD t undef:=by
  intro t;by_cases ht:t=d
  ·subst ht;have:t<a.tmps.size:=by rw[h.nt];exact hd
   simp[Co,this]
  ·simp only[Co,if_neg ht];rw[CF,CF,Array.getElem?_setIfInBounds_ne (λe=>ht e.symm)]
 exact {
  nt:=by simp[Co,h.nt],df:=by simp[Co,h.df]
  slots:=λt ht=>by
   rw[a0];rcases aj d t ⟨n,sh,ls⟩ st with ⟨rfl,e⟩|⟨y,e⟩
   ·grind
   ·rw[e];simpa[y]using h.slots t ht
  boxes:=λb hb=>by
   have:b≠d:=by omega
   rw[aJ this];simpa[this]using h.boxes b hb
  len:=λq=>by
   rcases aj d q ⟨n,sh,ls⟩ st with ⟨rfl,e⟩|⟨y,e⟩
   ·grind
   ·rw[e];simpa[y]using h.len q
  one:=λq u hu=>by
   by_cases hq:q=d
   ·grind
   ·simp only[hq]at hu;exact h.one q u hu
  leaf:=λq j l u H M=>by
   rcases aj d q ⟨n,sh,ls⟩ st with ⟨rfl,e⟩|⟨y,e⟩
   ·rw[e]at H;simp at M;exact (a2 j l u H M).carry hV.ro R (λ_=>⟨by simp,λ_ _=>rfl⟩)
   ·rw[e]at H;simp only[y]at M;exact (h.leaf q j l u H M).carry hV.ro R (λ_=>⟨by simp[y],λ_ _=>rfl⟩)
  ownb:=λq j l H M k Y=>by
   rcases aj d q ⟨n,sh,ls⟩ st with ⟨rfl,e⟩|⟨y,e⟩
   ·grind
   ·rw[e]at H;simp only[y]at Y;have:=h.ownb q j l H M k Y
    grind
  sep:=λq j l q' Z l' H M h4 h5 k Y z=>by
   rcases aj d q ⟨n,sh,ls⟩ st with ⟨e0,e⟩|⟨y,e⟩ <;> rcases aj d q' ⟨n,sh,ls⟩ st with ⟨e1,e'⟩|⟨X,e'⟩
   ·rw[e]at H;rw[e']at h4;simp only[e0]at Y;simp only[e1]at z;exact⟨e0.trans e1.symm,a4 j Z l l' H M h4 h5 k Y z⟩
   ·rw[e]at H;rw[e']at h4;simp only[e0]at Y;simp only[X]at z;exact absurd z ((a1 j l H M k Y).2.2.2 q' Z l' X h4 h5)
   ·rw[e]at H;rw[e']at h4;simp only[y]at Y;simp only[e1]at z;exact absurd Y ((a1 Z l' h4 h5 k z).2.2.2 q j l y H M)
   ·rw[e]at H;rw[e']at h4;simp only[y]at Y;simp only[X]at z;exact h.sep q j l q' Z l' H M h4 h5 k Y z
  box:=λb hb=>h.box b ((O b).1 hb)
  inj:=λb b' hb a5=>h.inj b b' ((O b).1 hb) ((O b').1 a5)
  nwlt:=h.nwlt
  os:=h.os,tape:=h.tape,output:=h.output,size:=h.size,keep:=h.keep
  fixb:=λx hx=>⟨(O _).2 (h.fixb x hx).1,(h.fixb x hx).2⟩
  fixt:=λx hx=>by rw[a0,if_neg (a3 x hx)];exact h.fixt x hx }
theorem an.putLs (X:ay V)(h:an P V W st a w)(d:Nat)(J:d<V.nt)(y:∀ x∈V.fixt,x.1≠d)(n:Nat)(sh:aI)(ls:List Leaf)(v:Value)
  (r:List Value) (R:(st d).ver<n) (M:eh sh v r) (H:aD P V W st w ls r) :
  Rel P V (ac [(d,⟨n,sh,ls⟩)] st) (a.put (some d) v) w :=
 ⟨_,h.put X d J y n sh ls v r (λ_=>[]) R M H.length H.one' (λj l u I O=>(H.at_ j l u I O).1) (λ_ _ _ _ k z=>by simp at z)
  (λ_ _ _ _ _ _ _ _ k z=>by simp at z)⟩
end
def zeroCells:Ty->List Value
 |.int k=>[.int k 0]
 |.bool=>[.bool false]
 |.str=>[.string B8]
 |.unit=>[]
 |.pair a b=>zeroCells a++zeroCells b
 |.hdr=>[.slice none 0 0]
 |.list _ _ _=>[.slice none 0 0]
def bP (P:Program)(t:TypeId)(n:Nat):Prop:=(P.info? t).map (·.size)=some n
def d6 (P:Program)(t:TypeId)(z:Value):Prop:=(P.info? t).map (·.zero)=some (some z)
def EqAt (P:Program)(t:TypeId)(a:Ty):Prop:=a.flat=true->∀ (w:World) (G:Nat->Prop) (x y:a.den) (u r:List Value),Rd w G a x u->Rd w G a y r ->
 (Op.equal t (.agg u.toArray) (.agg r.toArray)).run P w=.ok (a.eqv x y) w
def oN (P:Program)(t:TypeId):TI->Prop
 |.int k=>P.underlying t=some (.int k)/\bP P t 1/\d6 P t (.int k 0)
 |.bool=>P.underlying t=some .bool/\bP P t 1/\d6 P t (.bool false)
 |.str=>P.underlying t=some .string/\bP P t 1/\d6 P t (.string B8)
 |.slice E e r=>P.underlying t=some (.slice E)/\bP P t 1/\d6 P t (.slice none 0 0)/\0<e.cells/\(0<r/\(e=.int .u8->P.underlying E=some (.int .u8))) /\
  ∃ i z,P.info? E=some i/\i.size=e.cells/\i.bytes=r/\i.zero=some z/\z.cells.toList=zeroCells e
 |.struct a u=>(∃ H,P.underlying t=some (.struct H)/\H.toList.mapM (λf=>(P.info? f.type).map λi=>(f.offset,i.size))=some (u.map λx=>(x.1,x.2.1)) /\
  ∀ (i off n:Nat) (agg:Bool),u[i]?=some (off,n,agg)->(agg=false->n=1)/\∃ f:Field,H[i]?=some f/\f.offset=off/\0<n/\off+n<=a.cells/\bP P f.type n /\
   (P.underlying f.type).map (λd=>match d with|.struct _|.array _ _=>true|_=>false)=some agg) /\
  bP P t a.cells/\d6 P t (.agg (zeroCells a).toArray)/\EqAt P t a/\P.eqGuardType P.depth t=false
 |.arr e n=>(∃ E,P.underlying t=some (.array n E)/\bP P E e.cells/\(P.underlying E).map (λd=>match d with|.struct _|.array _ _=>true|_=>false)=some e.isAgg)/\0<e.cells /\
  bP P t (n*e.cells)/\d6 P t (.agg ((B4 n (zeroCells e)).flatten).toArray)
 |.ptr=>(∃ e,P.underlying t=some (.pointer e))/\bP P t 1/\d6 P t (.pointer none)
 |.fn=>(∃ x y z,P.underlying t=some (.func x y z))/\bP P t 1/\d6 P t .nilFunc
 |.none=>True
def TOk (P:Program)(T:TypeId->TI):Prop:=∀ t,oN P t (T t)
theorem sD {P:Program}:∀ {l:List (TypeId×TI)},(∀ x∈l,oN P x.1 x.2)->TOk P (gE l)
 |[],_,_=>trivial
 |(t,i)::l,h,u=>by
  simp only[gE];cases y:BK t u with
  |false=>exact sD (λx r=>h x (CQ _ r)) u
  |true =>
   simp_all
section
variable {P:Program} {V:Env} {W:Wit} {st:St} {w:World} {a:Act} {o:Oper}
def mP (P:Program)(V:Env)(o:Oper)(st:St)(U:Upd)(a:Act)(w:World):Prop :=
 ∀ (next:Act->World->Prop) (Q:Exit->Act->World->Prop),(∀ r u,Rel P V (ac U st) r u->next r u)->o.wp P a w next Q
theorem dW {v:Value}{w':World}{next:Act->World->Prop}{Q:Exit->Act->World->Prop}(h:(execOp a.eval o).run P w=.ok (.value v) w')(r:next (a.put o.dst v) w'):o.wp P a w next Q:=by
 unfold Oper.wp;rw[h];exact r
theorem pA {w':World}{next:Act->World->Prop}{Q:Exit->Act->World->Prop}(h:(execOp a.eval o).run P w=.ok .skip w')(r:next (a.put o.dst undef) w'):o.wp P a w next Q:=by
 unfold Oper.wp;rw[h];exact r
def bN (V:Env)(o:Oper):Prop:=∀ d,o.dst=some d->d<V.nt/\∀ x∈V.fixt,x.1≠d
theorem dX (J:ay V)(h:an P V W st a w){d:Nat}(y:o.dst=some d)(u:bN V o){v:Value}{sh:aI}{ls:List Leaf}{cs:List Value}
  (r:(execOp a.eval o).run P w=.ok (.value v) w) (H:eh sh v cs) (z:aD P V W st w ls cs):mP P V o st (cg st [] d sh ls) a w:=by
 intro next Q I;refine dW r ?_;rw[y];exact I _ _ (h.putLs J d (u d y).1 (u d y).2 _ sh ls v cs (CN _) H z)
theorem aO (I:ay V)(h:an P V W st a w){d:Nat}(z:o.dst=some d)(y:bN V o){v:Value}{l:Leaf}
  (r:(execOp a.eval o).run P w=.ok (.value v) w) (H:aK P V W st w [] l v) (u:¬ am l) (J:v.oneCell'=true):mP P V o st (cg st [] d .one [l]) a w :=
 dX I h z y r (cs:=[v]) rfl ⟨⟨H,u,J⟩,trivial⟩
theorem km {agg:Bool}{v:Value}{cs:List Value}(h:db agg v cs):eh (bi agg) v cs:=by
 cases agg <;> exact h
theorem bG (h:an P V W st a w){x:Operand}{k:IntKind}{n:Int}(r:one st x=.int k n):a.eval x=.int k n:=by
 have:=(bt h x (by rw[r];simp)).1;rw[r]at this;exact this
theorem il (h:an P V W st a w){x:Operand}{b:Bool}(r:one st x=.bool b):a.eval x=.bool b:=by
 have:=(bt h x (by rw[r];simp)).1;rw[r]at this;exact this
theorem iD (h:an P V W st a w){x:Operand}{b:ByteArray}(r:one st x=.str b):a.eval x=.string b:=by
 have:=(bt h x (by rw[r];simp)).1;rw[r]at this;exact this
theorem vF (r:BinOp)(k:IntKind)(t t':TypeId)(x y:Operand)(m n:Int)(l:Leaf)(u:sr r k m n=some l)(z:a.eval x=.int k m)(H:a.eval y=.int k n)(I:o.op=.binOp r t x y t') :
  ∃ v,(execOp a.eval o).run P w=.ok (.value v) w/\aK P V W st w [] l v/\¬ am l/\v.oneCell'=true:=by
 cases r <;> simp only[sr,BR,reduceCtorEq]at u <;> subst u <;>
  exact⟨_,by simp[execOp,I,z,H,eqGuard,Go.binOp,Op.intArith,Op.intCmp],rfl,id,rfl⟩
theorem BI (H:ay V)(h:an P V W st a w)(ks:List (Nat×Nat)):cB V W W st (ac (aN st ks) st) w w:=by
 obtain⟨_,I,r⟩:=l8 H ks h;exact⟨λq=>⟨(r q).2,λ_=>rfl⟩,λb u=>⟨⟨u.1,by rw[(r b).1];exact u.2⟩,rfl⟩,λ_ h=>h,λ_ _=>rfl,λ_ q j l z y _=>⟨⟨l,(I q j l z y).1,y⟩,rfl,λ_ _=>rfl⟩⟩
theorem step_frz (H:ay V)(h:an P V W st a w)(ks:List (Nat×Nat)):cB V W (W.frz st ks) st (ac (aF st ks) st) w w:=by
 obtain⟨_,I,r⟩:=lF H ks h;exact⟨λq=>⟨(r q).2,λ_=>rfl⟩,λb u=>⟨⟨u.1,by rw[(r b).1];exact u.2⟩,rfl⟩,λ_ h=>.inl h,λ_ _=>rfl,λ_ q j l z y _=>⟨⟨l,(I q j l z y).1,y⟩,rfl,λ_ _=>rfl⟩⟩
def dm (W:Wit)(ls:List Leaf)(j:Nat):List Nat :=
 match ls[j]? with
 |some (.al r i _)=>W.bs r i
 |_=>[]
theorem wV:∀ {ls:List Leaf} {j r i n:Nat},ls[j]?=some (.al r i n)->am (aE st (.al r i n))->(r,i)∈bz st ls
 |l::ls,0,r,i,n,h,u=>by
  simp at h;subst h;generalize y:aE st (.al r i n)=q at u;cases q <;> first|exact u.elim|simp[bz,y]
 |l::ls,j+1,r,i,n,h,u=>by
  have:=wV (ls:=ls) (by simpa using h) u;cases l <;> simp[bz,this]
theorem mQ:∀ {ls:List Leaf} {j r i n:Nat},ls[j]?=some (.al r i n)->am (aE st (.al r i n))->(r,i)∈bZ st ls
 |l::ls,0,r,i,n,h,u=>by
  simp at h;subst h;generalize y:aE st (.al r i n)=q at u;cases q <;> first|exact u.elim|simp[bZ,y]
 |l::ls,j+1,r,i,n,h,u=>by
  have:=mQ (ls:=ls) (by simpa using h) u;cases l <;> simp[bZ,this]
theorem od:∀ {ls:List Leaf} {j u r i n I:Nat},a7 (bZ st ls)=true->ls[j]?=some (.al r i n)->am (aE st (.al r i n)) ->
    ls[u]?=some (.al r i I)->am (aE st (.al r i I))->j=u
  |l::ls,j,u,r,i,n,I,y,X,Z,h3,h4=>by
    have M:∀ (m:Nat) (k:Nat),l=.al r i m->am (aE st (.al r i m))->(∃ z,ls[k]?=some (.al r i z)/\am (aE st (.al r i z)))->False:=by
      rintro m k rfl J ⟨z,R,h6⟩;have O:=mQ R h6;have h8:bZ st (.al r i m::ls)=(r,i)::bZ st ls:=by
        generalize Y:aE st (.al r i m)=q at J;cases q <;> first|exact J.elim|simp[bZ,Y]
      rw[h8]at y;simp only[a7,BN,CJ]at y;have:=y.1;rw[CK]at this;have:=this _ O;simp at this
    have H:a7 (bZ st ls)=true:=by
      cases l <;> first
        |exact y
        | (rename_i r' u v'
           simp only[bZ]at y;split at y
           · simp only[Cg,a7]at y
             grind
           · simpa using y)
    cases j with
    |zero =>
      cases u with
      |zero=>rfl
      |succ u =>
        grind
    |succ j =>
      cases u with
      |zero =>
        grind
      |succ u =>
        have:=od (ls:=ls) H (by simpa using X) Z (by simpa using h3) h4;omega
theorem l9 (Y:ay V)(h:an P V W st a w){l:Leaf}{v:Value}(u:aK P V W st w [] l v)(y:¬ am l) :
  (∃ r i n,l=.al r i n/\am (aE st l)/\aK P V W st w (W.bs r i) (aE st l) v/\(st r).ls[i]?=some (aE st l)) \/
  (¬ am (aE st l)/\aK P V W st w [] (aE st l) v):=by
 cases l with
 |al r j n =>
  by_cases H:aE st (.al r j n)=.dead
  ·rw[H];exact .inr ⟨id,trivial⟩
  ·obtain⟨M,R⟩:=fj rfl H;have J:=u.2 M;have X:=h.leaf r j _ v R J;by_cases z:am (aE st (.al r j n))
   ·grind
   ·exact .inr ⟨z,X.carry Y.ro (cB.refl V W st w) (λh=>absurd h z)⟩
 |own p hh E e I=>exact absurd trivial y
 |nal p O ep Z E e I =>
  simp only[aE];cases br st O ep with
  |false=>exact .inr ⟨id,trivial⟩
  |true=>exact .inr ⟨id,u⟩
 |_=>exact .inr ⟨id,u⟩
end
section
variable {P:Program} {V:Env} {W:Wit} {st:St} {w w':World} {a:Act} {o:Oper} {ls:List Leaf} {cs:List Value}
theorem iE {st st':St}(h:∀ q,(st' q).sh=(st q).sh)(b:Nat):live st' b<->live st b:=by simp[live,h]
def aB (st:St)(x:Nat×Nat):Prop:=∃ l,(st x.1).ls[x.2]?=some l/\am l
def aY (W:Wit)(ks:List (Nat×Nat)):List Nat:=ks.flatMap λx=>W.bs x.1 x.2
theorem dH (W:Wit)(a b:List (Nat×Nat)):aY W (a++b)=aY W a++aY W b:=List.flatMap_append
theorem gm {W:Wit}{ks:List (Nat×Nat)}{k:Nat}:k∈aY W ks<->∃ x∈ks,k∈W.bs x.1 x.2:=List.mem_flatMap
theorem kv {W:Wit}{p:Bool}{ks:List (Nat×Nat)}(u:∀ x∈ks,aB st x):∀ k,bq V W p ks k->gd V (W.frz st ks) p k:=by
 rintro k (r|⟨x,y,r⟩)
 ·exact bT (W':=W.frz st ks) (λh=>h) (λ_ h=>Or.inl h) k r
 ·exact .inl (.inr ⟨x,y,u x y,r⟩)
theorem nP {a b:List (Nat×Nat)}(h:dz a b=true):∀ x∈a,x∉b:=by
 intro x r u;simp only[dz,CJ,CK]at h;have:=h x r;simp only[Cf,CK]at this;have:=this x u;simp[iy]at this
theorem fJ (hV:ay V){W:Wit}{a:Act}{w:World}(h:an P V W st a w){frz kill:List (Nat×Nat)}(a1:dz frz kill=true)(Y:∀ x∈kill,aB st x) :
  an P V (W.frz st frz) (ac (aN (ac (aF st frz) st) kill++aF st frz) st) a w /\
  (∀ (q i:Nat) (l:Leaf),(ac (aN (ac (aF st frz) st) kill++aF st frz) st q).ls[i]?=some l->am l->(st q).ls[i]?=some l/\(q,i)∉frz/\(q,i)∉kill) /\
  (∀ q,(ac (aN (ac (aF st frz) st) kill++aF st frz) st q).sh=(st q).sh/\(st q).ver<=(ac (aN (ac (aF st frz) st) kill++aF st frz) st q).ver) /\
  (∀ k∈aY W kill,¬ (W.frz st frz).nw k/\¬ V.prot k/\k<w.heap.size/\(∀ b,live (ac (aN (ac (aF st frz) st) kill++aF st frz) st) b->W.β b≠k) /\
   ∀ (I i:Nat) (l:Leaf),(ac (aN (ac (aF st frz) st) kill++aF st frz) st I).ls[i]?=some l->am l->k∉W.bs I i):=by
 obtain⟨h1,h2,h3⟩:=lF hV frz h;obtain⟨h4,h5,Z⟩:=l8 hV kill h1;rw[<- bD]at h4 h5 Z;have J:∀ q,(ac (aN (ac (aF st frz) st) kill++aF st frz) st q).sh=(st q).sh:=λq=>(Z q).1.trans (h3 q).1
 have u:∀ (q i:Nat) (l:Leaf),(ac (aN (ac (aF st frz) st) kill++aF st frz) st q).ls[i]?=some l->am l->(st q).ls[i]?=some l/\(q,i)∉frz/\(q,i)∉kill:=by
  simp_all
 refine⟨h4,u,λq=>⟨J q,BV (h3 q).2 (Z q).2⟩,λk z=>?_⟩;obtain⟨x,hx,z⟩:=gm.1 z;obtain⟨l,M,r⟩:=Y x hx;have h7:=h.ownb x.1 x.2 l M r k z;refine⟨?_,h7.2.1,h.own_lt M r k z,λb hb=>h7.2.2 b ((iE J b).1 hb),λI i l1 h8 h9 O=>?_⟩
 ·rintro (hn|⟨y,hy,⟨l2,R,H⟩,X⟩)
  ·grind
  ·obtain⟨e1,e2⟩:=h.sep y.1 y.2 l2 x.1 x.2 l R H M r k X z;exact nP a1 y hy (by rw[show y=x from Prod.ext e1 e2];exact hx)
 ·obtain⟨a0,_,a2⟩:=u I i l1 h8 h9;obtain⟨e1,e2⟩:=h.sep x.1 x.2 l I i l1 M r a0 h9 k z O
  simp_all
theorem zX (I:ay V)(h:an P V W st a w)(frz kill:List (Nat×Nat)):cB V W (W.frz st frz) st (ac (aN (ac (aF st frz) st) kill++aF st frz) st) w w:=by
 obtain⟨O,M,y⟩:=lF I frz h;obtain⟨_,H,u⟩:=l8 I kill O;rw[<- bD]at H u;exact⟨λq=>⟨BV (y q).2 (u q).2,λ_=>rfl⟩,λb z=>⟨⟨z.1,by rw[(u b).1,(y b).1];exact z.2⟩,rfl⟩,λ_ h=>.inl h,λ_ _=>rfl,
  λ_ q j l J r _=>⟨⟨l,(M q j l (H q j l J r).1 r).1,r⟩,rfl,λ_ _=>rfl⟩⟩
theorem sE:∀ {ls:List Leaf} {j:Nat} {p:Bool} {ks:List (Nat×Nat×Nat)} {ep:Nat} {E:TypeId} {e:Ty} {xs:List e.den},ls[j]?=some (.nal p ks ep none E e xs)->br st ks ep=true->∀ k∈ks,(k.1,k.2.1)∈du st ls
 |l::ls,0,p,ks,ep,E,e,xs,h,u,k,y=>by
  simp at h;subst h;simp only[du,aE]
  grind
 |l::ls,j+1,p,ks,ep,E,e,xs,h,u,k,y=>by
  have:=sE (ls:=ls) (by simpa using h) u k y;cases l with
  |nal M H z r O J I=>cases r <;> simp[du,this]
  |_=>simp[du,this]
theorem sG {ls:List Leaf}(h:ig st ls=true):a7 (bZ st ls)=true/\dz (du st ls) (bZ st ls)=true:=by
 simpa[ig]using h
theorem oe (y:aD P V W st w ls cs){x:Nat×Nat}(u:x∈bZ st ls):aB st x:=by
 induction ls generalizing cs with
 |nil=>simp[bZ]at u
 |cons l ls z =>
  cases cs with
  |nil=>exact y.elim
  |cons v cs =>
   cases l with
   |al r j n =>
    simp only[bZ,BX]at u;rcases u with u|u
    ·split at u
     ·rename_i p J E e I H;simp at u;subst u;exact⟨_,(fj H (by simp)).2,trivial⟩
     ·grind
    ·exact z y.2 u
   |_=>exact z y.2 u
theorem AW {l:Leaf}(h:am (gj st l)):am (aE st l)/\gj st l=aE st l:=by
 unfold gj at h ⊢;split at h
 ·exact h.elim
 ·exact⟨h,rfl⟩
theorem oO (hV:ay V)(h:an P V W st a w){ls:List Leaf}{cs:List Value}(hl:aD P V W st w ls cs)(a4:ig st ls=true) :
    an P V (W.frz st (du st ls)) (ac (mvU st ls) st) a w/\(dG st ls).length=cs.length /\
    (∀ (j:Nat) (l:Leaf) (u:Value),(dG st ls)[j]?=some l->cs[j]?=some u->aK P V (W.frz st (du st ls)) (ac (mvU st ls) st) w (dm W ls j) l u) /\
    (∀ (j:Nat) (l:Leaf),(dG st ls)[j]?=some l->am l->∀ k∈dm W ls j,¬ (W.frz st (du st ls)).nw k/\¬ V.prot k/\k<w.heap.size /\
      (∀ b,live (ac (mvU st ls) st) b->W.β b≠k) /\
      ∀ (r1 j1:Nat) (l1:Leaf),(ac (mvU st ls) st r1).ls[j1]?=some l1->am l1->k∉W.bs r1 j1) /\
    (∀ (j j':Nat) (l l':Leaf),(dG st ls)[j]?=some l->am l->(dG st ls)[j']?=some l'->am l'->∀ k,k∈dm W ls j->k∈dm W ls j'->j=j'):=by
  obtain⟨hd,b2⟩:=sG a4;obtain⟨h1,h2,h3,a3⟩:=fJ hV h b2 (λx hx=>oe hl hx);have I:=zX hV h (du st ls) (bZ st ls);show an P V (W.frz st (du st ls)) (ac (aN (ac (aF st (du st ls)) st) (bZ st ls)++aF st (du st ls)) st) a w/\_;have R:∀ (j:Nat) (l:Leaf),(dG st ls)[j]?=some l->∃ z u,ls[j]?=some z/\cs[j]?=some u/\gj st z=l/\aK P V W st w [] z u/\¬ am z:=by
    intro j l M;simp only[dG,Cb,BY]at M;obtain⟨z,H,Y⟩:=M;have a5:j<cs.length:=by rw[<- hl.length];exact (BM.1 H).1
    have O:=BO a5;have h7:=hl.at_ j z _ H O
    simp_all
  have y:∀ (j:Nat) (l:Leaf),(dG st ls)[j]?=some l->am l->∃ r i n,ls[j]?=some (.al r i n)/\am (aE st (.al r i n))/\(st r).ls[i]?=some l:=by
    intro j l M ho;obtain⟨z,u,H,Y,rfl,O,h7⟩:=R j l M;obtain⟨Z,e0⟩:=AW ho;rcases l9 hV h O h7 with ⟨r,i,n,rfl,h8,_,h9⟩|⟨h8,_⟩
    · grind
    · grind
  refine⟨h1,by simp[dG,hl.length],λj l u M hu=>?_,λj l M ho k J=>?_,λj j' l l' M ho a6 Z k J a1=>?_⟩
  · obtain ⟨z, u', H, Y, rfl, O, h7⟩ := R j l M
    obtain rfl:u=u':=Option.some.inj (hu.symm.trans Y);have X:gj st z=aE st z->aK P V (W.frz st (du st ls)) (ac (mvU st ls) st) w (dm W ls j) (gj st z) u:=by
      intro e0;rw[e0];rcases l9 hV h O h7 with ⟨r,i,n,rfl,h8,h9,_⟩|⟨h8,h9⟩
      · have:dm W ls j=W.bs r i:=by simp[dm,H]
        rw[this];exact h9.carry hV.ro I (λ_=>⟨rfl,λ_ _=>rfl⟩)
      · exact h9.carry hV.ro I (λh=>absurd h h8)
    by_cases hn:∃ p ks ep E e xs,aE st z=.nal p ks ep none E e xs
    · obtain⟨p,ks,ep,E,e,xs,hn⟩:=hn
      have e0:gj st z=.ro p E e xs:=by unfold gj;rw[hn]
      rw[e0];have a2:z=.nal p ks ep none E e xs/\br st ks ep=true:=by
        cases z with
        |al r i n=>exact absurd hn iT
        |nal p' ad a9 b3 E' e' b4 =>
          simp only[aE]at hn;cases hv:br st ad a9 with
          |false=>simp[hv]at hn
          |true =>
            simp_all
        |_=>simp[aE]at hn
      obtain⟨rfl,hv⟩:=a2;refine Rd.mono (λk J=>?_) (pz hv O).rd;rcases J with J|⟨x,hx,J⟩
      · exact bT (W':=W.frz st (du st ls)) (λh=>h) (λ_ h=>Or.inl h) k J
      · exact .inl (.inr ⟨(x.1,x.2.1),sE H hv x hx,(ct hv).2.2 x hx,J⟩)
    · refine X ?_
      unfold gj
      grind
  · obtain⟨r,i,n,H,Y,O⟩:=y j l M ho
    have e:dm W ls j=W.bs r i:=by simp[dm,H]
    rw[e]at J;exact a3 k (gm.2 ⟨(r,i),mQ H Y,J⟩)
  · obtain⟨r,i,n,H,Y,O⟩:=y j l M ho
    obtain⟨r',i',n',a0,b0,b1⟩:=y j' l' a6 Z;have e:dm W ls j=W.bs r i:=by simp[dm,H]
    have e':dm W ls j'=W.bs r' i':=by simp[dm,a0]
    rw[e]at J;rw[e']at a1;obtain⟨rfl,rfl⟩:=h.sep r i l r' i' l' O ho b1 Z k J a1;exact od hd H Y a0 b0
theorem zM (z:ay V)(h:an P V W st a w)(u:aD P V W st w ls cs)(r:ig st ls=true):∀ q,(ac (mvU st ls) st q).sh=(st q).sh/\(st q).ver<=(ac (mvU st ls) st q).ver :=
 (fJ z h (sG r).2 (λ_ y=>oe u y)).2.2.1
theorem an.putMoved (M:ay V)(h:an P V W st a w){ls:List Leaf}{cs:List Value}(J:aD P V W st w ls cs)(Z:ig st ls=true)
  (d:Nat) (I:d<V.nt) (r:∀ x∈V.fixt,x.1≠d) {sh:aI} {v:Value} (hs:eh sh v cs) :
  Rel P V (ac (cg st (mvU st ls) d sh (dG st ls)) st) (a.put (some d) v) w:=by
 obtain⟨Y,h2,h3,H,X⟩:=oO M h J Z;exact⟨_,Y.put M d I r _ sh (dG st ls) v cs (dm W ls) (CN _) hs h2 J.one' h3
  (λj l z u k y=>⟨(H j l z u k y).1,(H j l z u k y).2.1,(H j l z u k y).2.2.2.1,λr1 R O _=>(H j l z u k y).2.2.2.2 r1 R O⟩) X⟩
theorem an.setBoxG (hV:ay V)(h:an P V W st a w)(b:Nat)(hb:B0<=b)(n:Nat)(ls:List Leaf)(a3:List Value)(X:Nat->List Nat)(g:Nat)(E:TypeId)
    (hn:(st b).ver<n) (hg:(live st b/\W.β b=g)\/(¬ live st b/\¬ cd V W st g/\∀ (j:Nat) (l:Leaf),ls[j]?=some l->am l->∀ k∈X j,k≠g)) (bl:w'.heap[g]?=some (.cells a3.toArray E (0,0)))
    (b0:∀ k,cd V W st k->k≠g->w'.heap[k]?=w.heap[k]?) (a6:∀ (j:Nat) (l:Leaf),ls[j]?=some l->am l->∀ k∈X j,k≠g->w'.heap[k]?=w.heap[k]?) (b5:w.heap.size<=w'.heap.size) (ba:w'.os=w.os) (ht:w'.tape=w.tape) (ho:w'.output=w.output)
    (hl:ls.length=a3.length) (h1:∀ u∈a3,u.oneCell'=true)
    (b1:∀ (j:Nat) (l:Leaf) (u:Value),ls[j]?=some l->a3[j]?=some u->aK P V W st w (X j) l u)
    (ad:∀ (j:Nat) (l:Leaf),ls[j]?=some l->am l->∀ k∈X j,¬ W.nw k/\¬ V.prot k/\(∀ b,live st b->W.β b≠k) /\
      ∀ (r1 j1:Nat) (l1:Leaf),r1≠b->(st r1).ls[j1]?=some l1->am l1->k∉W.bs r1 j1)
    (b4:∀ (j j':Nat) (l l':Leaf),ls[j]?=some l->am l->ls[j']?=some l'->am l'->∀ k,k∈X j->k∈X j'->j=j') :
    an P V { W with β:=λr=>if r=b then g else W.β r,cs:=λr=>if r=b then a3 else W.cs r,bs:=λr j=>if r=b then X j else W.bs r j }
      (ac [(b,⟨n,.agg,ls⟩)] st) a w':=by
  have Y:¬ W.nw g/\¬ V.prot g/\(∀ q,q≠b->live st q->W.β q≠g)/\∀ (r1 j1:Nat) (l1:Leaf),(st r1).ls[j1]?=some l1->am l1->g∉W.bs r1 j1:=by
    rcases hg with ⟨a1,rfl⟩|⟨a1,hg⟩
    · exact⟨(h.box b a1).1,(h.box b a1).2,λq hq bb e=>hq (h.inj q b bb a1 e),λr1 j1 l1 y M I=>(h.ownb r1 j1 l1 y M _ I).2.2 b a1 rfl⟩
    · have hu:=hg.1
      simp only[cd,not_or,not_exists,not_and]at hu
      grind
  have b2:∀ (j:Nat) (l:Leaf),ls[j]?=some l->am l->∀ k∈X j,k≠g:=by
    grind
  have H:∀ q,live (ac [(b,⟨n,.agg,ls⟩)] st) q<->(q=b\/live st q):=by
    intro q;rcases aj b q ⟨n,.agg,ls⟩ st with ⟨e0,e⟩|⟨z,e⟩
    · subst e0
      simp[live,e,hb]
    · simp[live,e,z]
  have J:∀ k,cd V W st k->k≠g->w'.heap[k]?=w.heap[k]?:=b0;have a4:cB V W { W with β:=λr=>if r=b then g else W.β r,cs:=λr=>if r=b then a3 else W.cs r,bs:=λr j=>if r=b then X j else W.bs r j } st (ac [(b,⟨n,.agg,ls⟩)] st) w w':=by
    refine⟨λq=>?_,λq hq=>⟨(H q).2 (.inr hq),?_⟩,λ_ h=>h,λk I=>J k (I.elim .inl (λh=>.inr (.inl h))) ?_,λ_ q j l y M Z=>?_⟩
    · rcases aj b q ⟨n,.agg,ls⟩ st with ⟨rfl,e⟩|⟨z,e⟩
      · grind
      · grind
    · grind
    · grind
    · rcases aj b q ⟨n,.agg,ls⟩ st with ⟨rfl,e⟩|⟨z,e⟩
      · grind
      · rw[e]at y
        refine⟨⟨l,y,M⟩,by simp[z],λk I=>J k (.inr (.inr (.inr ⟨q,j,l,y,M,I⟩))) ?_⟩
        grind
  exact {
    nt:=h.nt,df:=h.df
    slots:=λt b9=>by
      have : t ≠ b := by have : GH <= B0 := by decide
                         omega
      rw[aJ this];simpa[this]using h.slots t b9
    boxes:=λq hq=>by
      rcases aj b q ⟨n,.agg,ls⟩ st with ⟨rfl,e⟩|⟨z,e⟩
      · grind
      · rw[e]
        refine (h.boxes q hq).imp id λ⟨y,E',M⟩=>⟨y,E',?_⟩
        simp only[z,if_false];rw[J _ (.inr (.inr (.inl ⟨q,⟨hq,y⟩,rfl⟩))) (Y.2.2.1 q z ⟨hq,y⟩)];exact M
    len:=λq=>by
      rcases aj b q ⟨n,.agg,ls⟩ st with ⟨rfl,e⟩|⟨z,e⟩
      · rw[e];simpa using hl
      · rw[e];simpa[z]using h.len q
    one:=λq u hu=>by
      by_cases hq:q=b
      · grind
      · simp only[hq]at hu;exact h.one q u hu
    leaf:=λq j l u y M=>by
      rcases aj b q ⟨n,.agg,ls⟩ st with ⟨rfl,e⟩|⟨z,e⟩
      · rw[e]at y
        simp only at M;exact (b1 j l u y M).carry hV.ro a4 (λho=>⟨by simp,λk I=>a6 j l y ho k I (b2 j l y ho k I)⟩)
      · rw[e]at y
        simp only[z]at M;refine (h.leaf q j l u y M).carry hV.ro a4 (λho=>⟨by simp[z],λk I=>J k (.inr (.inr (.inr ⟨q,j,l,y,ho,I⟩))) ?_⟩);rintro rfl;exact Y.2.2.2 q j l y ho I
    ownb:=λq j l y M k I=>by
      rcases aj b q ⟨n,.agg,ls⟩ st with ⟨rfl,e⟩|⟨z,e⟩
      · rw[e]at y
        simp only[if_true]at I;have Z:=ad j l y M k I;refine⟨Z.1,Z.2.1,λp hp=>?_⟩;by_cases a2:p=q
        · simp only[a2,if_true];exact λe=>b2 j l y M k I e.symm
        · simp only[a2,if_false];exact Z.2.2.1 p (((H p).1 hp).resolve_left a2)
      · rw[e]at y
        simp only[z,if_false]at I;have Z:=h.ownb q j l y M k I;refine⟨Z.1,Z.2.1,λp hp=>?_⟩;by_cases a2:p=b
        · simp only[a2,if_true];rintro rfl;exact Y.2.2.2 q j l y M I
        · simp only[a2,if_false];exact Z.2.2 p (((H p).1 hp).resolve_left a2)
    sep:=λq j l q' j' l' y M Z h5 k I a0=>by
      rcases aj b q ⟨n,.agg,ls⟩ st with ⟨e0,e⟩|⟨z,e⟩ <;> rcases aj b q' ⟨n,.agg,ls⟩ st with ⟨e1,e'⟩|⟨a5,e'⟩
      · rw[e]at y;rw[e']at Z
        simp only[e0,if_true]at I;simp only[e1,if_true]at a0;exact⟨e0.trans e1.symm,b4 j j' l l' y M Z h5 k I a0⟩
      · rw[e]at y;rw[e']at Z
        simp only[e0,if_true]at I;simp only[a5,if_false]at a0;exact absurd a0 ((ad j l y M k I).2.2.2 q' j' l' a5 Z h5)
      · rw[e]at y;rw[e']at Z
        simp only[z,if_false]at I;simp only[e1,if_true]at a0
        grind
      · rw[e]at y;rw[e']at Z
        simp only[z]at I;simp only[a5,if_false]at a0;exact h.sep q j l q' j' l' y M Z h5 k I a0
    box:=λq hq=>by
      by_cases O:q=b
      · simp only[O,if_true];exact⟨Y.1,Y.2.1⟩
      · simp only[O,if_false];exact h.box q (((H q).1 hq).resolve_left O)
    inj:=λq q' hq b3 e=>by
      by_cases O:q=b <;> by_cases R:q'=b
      · omega
      · simp only[O,if_true,R,if_false]at e
        exact absurd e.symm (Y.2.2.1 q' R (((H q').1 b3).resolve_left R))
      · simp only[O,if_false,R,if_true]at e
        exact absurd e (Y.2.2.1 q O (((H q).1 hq).resolve_left O))
      · simp only[O,if_false,R,if_false]at e
        exact h.inj q q' (((H q).1 hq).resolve_left O) (((H q').1 b3).resolve_left R) e
    nwlt:=λk I=>⟨B9 (h.nwlt k I).1 b5,(h.nwlt k I).2⟩
    os:=ba.trans h.os,tape:=ht.trans h.tape,output:=ho.trans h.output,size:=BV h.size b5
    keep:=λk hp=>by
      rw[J k (.inr (.inl hp)) (by rintro rfl;exact Y.2.1 hp)];exact h.keep k hp
    fixb:=λx hx=>by
      obtain⟨y,M⟩:=h.fixb x hx;refine⟨(H _).2 (.inr y),?_⟩;by_cases a9:x.1=b
      · simp only[a9,if_true]
        rcases hg with ⟨_,e⟩|⟨a1,_⟩
        · rw[<- e,<- a9];exact M
        · exact absurd (a9 ▸ y) a1
      · simpa only[a9,if_false]using M
    fixt:=h.fixt }
theorem an.setBox (hV:ay V)(h:an P V W st a w)(b:Nat)(hb:B0<=b)(n:Nat)(ls:List Leaf)(H:List Value)(z:Nat->List Nat)(g:Nat)(E:TypeId)
  (hn:(st b).ver<n) (hg:(live st b/\W.β b=g)\/(¬ live st b/\w.heap.size<=g)) (Z:w'.heap[g]?=some (.cells H.toArray E (0,0)))
  (I:∀ k,k<w.heap.size->k≠g->w'.heap[k]?=w.heap[k]?) (a1:w.heap.size<=w'.heap.size) (a0:w'.os=w.os) (ht:w'.tape=w.tape) (ho:w'.output=w.output)
  (hl:ls.length=H.length) (h1:∀ u∈H,u.oneCell'=true)
  (R:∀ (j:Nat) (l:Leaf) (u:Value),ls[j]?=some l->H[j]?=some u->aK P V W st w (z j) l u)
  (y:∀ (j:Nat) (l:Leaf),ls[j]?=some l->am l->∀ k∈z j,¬ W.nw k/\¬ V.prot k/\k<w.heap.size/\(∀ b,live st b->W.β b≠k) /\
   ∀ (r1 j1:Nat) (l1:Leaf),r1≠b->(st r1).ls[j1]?=some l1->am l1->k∉W.bs r1 j1)
  (Y:∀ (j j':Nat) (l l':Leaf),ls[j]?=some l->am l->ls[j']?=some l'->am l'->∀ k,k∈z j->k∈z j'->j=j') :
  an P V { W with β:=λr=>if r=b then g else W.β r,cs:=λr=>if r=b then H else W.cs r,bs:=λr j=>if r=b then z j else W.bs r j }
   (ac [(b,⟨n,.agg,ls⟩)] st) a w' :=
 h.setBoxG hV b hb n ls H z g E hn (hg.imp id λ⟨h2,h3⟩=>⟨h2,λhu=>by have:=h.used_lt g hu;omega,λj l O M k J=>by have:=(y j l O M k J).2.2.1;omega⟩) Z
  (λk J X=>I k (h.used_lt k J) X) (λj l O M k J X=>I k (y j l O M k J).2.2.1 X) a1 a0 ht ho hl h1 R
  (λj l O M k J=>⟨(y j l O M k J).1,(y j l O M k J).2.1,(y j l O M k J).2.2.2.1,(y j l O M k J).2.2.2.2⟩) Y
theorem el (z:aD P V W st w ls cs){x:Nat×Nat}(u:x∈bz st ls):aB st x:=by
 induction ls generalizing cs with
 |nil=>simp[bz]at u
 |cons l ls H =>
  cases cs with
  |nil=>exact z.elim
  |cons v cs =>
   cases l with
   |al r j n =>
    simp only[bz,BX]at u;rcases u with u|u
    ·split at u
     ·rename_i p X E e J y;simp at u;subst u;exact⟨_,(fj y (by simp)).2,trivial⟩
     ·grind
    ·exact H z.2 u
   |nal p O ep R E e J =>
    simp only[bz,BX]at u;rcases u with u|u
    ·split at u
     ·rename_i y;simp only[aE]at y;cases I:br st O ep with
      |false=>simp[I]at y
      |true =>
       obtain⟨k,M,rfl⟩:=List.mem_map.1 u;exact (ct I).2.2 k M
     ·grind
    ·exact H z.2 u
   |_=>exact H z.2 u
theorem BJ (z:aD P V W st w ls cs){ks:List (Nat×Nat)}(u:∀ x∈bz st ls,x∈ks)(p:Bool):∀ k,bq V W p (bz st ls) k->gd V (W.frz st ks) p k:=by
 intro k r;rcases r with r|⟨x,y,r⟩
 ·exact bT (W':=W.frz st ks) (λh=>h) (λ_ h=>Or.inl h) k r
 ·exact .inl (.inr ⟨x,u x y,el z y,r⟩)
end
section
variable {P:Program} {V:Env} {Γ:List Ctr} {T:TypeId->TI} {st:St} {o:Oper} {R:Type} {κ:Upd->Option R} {r:R}
def bV (P:Program)(V:Env)(o:Oper)(st:St)(κ:Upd->Option R)(r:R):Prop :=
 ∃ U,κ U=some r/\∀ W a w,an P V W st a w->mP P V o st U a w
theorem yy (M:ay V)(y:bN V o){x:Operand}(u:o.op=.move x)(h:act Γ T o st κ=some r):bV P V o st κ r:=by
 simp only[act,wrU,u]at h;split at h
 ·rename_i d H;refine⟨_,h,λW a w z=>?_⟩;obtain⟨O,J,I⟩:=cS z x;exact dX M z H y (by simp[execOp,u]) J I
 ·grind
theorem vG (X:ay V)(z:bN V o){x:Operand}(y:o.op=.assign x)(h:act Γ T o st κ=some r):bV P V o st κ r:=by
 simp only[act,y]at h;split at h
 ·rename_i d H;cases u:ig st (au st x).2 with
  |false=>simp[u]at h
  |true =>
   simp only[u]at h;refine⟨_,h,λW a w I=>?_⟩;obtain⟨Y,M,J⟩:=cS I x;intro next Q O;refine dW (v:=a.eval x) (w':=w) (by simp[execOp,y]) ?_;rw[H];exact O _ _ (I.putMoved X J u d (z d H).1 (z d H).2 M)
 ·grind
theorem yz (O:ay V)(H:bN V o){c x y:Operand}(z:o.op=.pick c x y)(h:act Γ T o st κ=some r):bV P V o st κ r:=by
 simp only[act,wrU,z]at h;split at h
 ·rename_i t X;cases t with
  |true =>
   split at h
   ·rename_i d I;refine⟨_,h,λW a w u=>?_⟩;obtain⟨Y,M,J⟩:=cS u x;exact dX O u I H (v:=a.eval x) (by simp[execOp,z,il u X,asBool]) M J
   ·grind
  |false =>
   split at h
   ·rename_i d I;refine⟨_,h,λW a w u=>?_⟩;obtain⟨Y,M,J⟩:=cS u y;exact dX O u I H (v:=a.eval y) (by simp[execOp,z,il u X,asBool]) M J
   ·grind
 ·grind
theorem sH (hV:ay V)(Z:bN V o){x:Operand}(X:o.op=.nilCheck x)(h:act Γ T o st κ=some r):bV P V o st κ r:=by
 simp only[act,wrU,X]at h;have H:∀ {l:Leaf} {d:Nat},one st x=l->l≠.dead->(∀ W a w,an P V W st a w->aK P V W st w [] l (a.eval x)->∃ ad,a.eval x=.pointer (some ad))->o.dst=some d ->
   ∀ W a w,an P V W st a w->mP P V o st (cg st [] d .one [l]) a w:=by
  intro l d z Y hp I W a w M;obtain⟨h1,h2,h3,_⟩:=bt M x (by rw[z];exact Y);rw[z]at h1 h2;obtain⟨ad,O⟩:=hp W a w M h1;exact aO hV M I Z (v:=a.eval x) (by simp[execOp,X,O]) h1 h2 h3
 split at h
 ·split at h
  ·rename_i z _ d I;exact⟨_,h,H z (by simp) (λW a w M u=>by obtain⟨g,o',c,O,_⟩:=u;exact⟨_,O⟩) I⟩
  ·grind
 ·split at h
  ·rename_i z _ d I;exact⟨_,h,H z (by simp) (λW a w M u=>⟨_,u.2.2⟩) I⟩
  ·grind
 ·rename_i r' j v i sz off z;cases J:BK (st r').ver v with
  |false=>simp[J]at h
  |true =>
   simp only[J]at h;split at h
   ·rename_i d I;refine⟨_,h,H z (by simp) (λW a w M u=>?_) I⟩;obtain⟨g,a1,a0,_,_,O⟩:=u.2 (BL J)
    simp_all
   ·grind
 ·split at h
  ·rename_i z _ d I;exact⟨_,h,H z (by simp) (λW a w M u=>by obtain⟨b,ob,g,o',c,O,_⟩:=u;exact⟨_,O⟩) I⟩
  ·grind
 ·rename_i p ks ep b y off z;cases J:br st ks ep with
  |false=>simp[J]at h
  |true =>
   simp only[J]at h;split at h
   ·rename_i d I;refine⟨_,h,H z (by simp) (λW a w M u=>?_) I⟩;obtain⟨g,o',c,O,_⟩:=(u.2.2 (ct J).1 (ct J).2.1 (ct J).2.2:NpOk V W w p ks b y off _).rd
    simp_all
   ·grind
 ·grind
theorem yA (J:ay V)(z:bN V o){M:UnOp}{t:TypeId}{x:Operand}(u:o.op=.unOp M t x)(h:act Γ T o st κ=some r):bV P V o st κ r:=by
 simp only[act,wrU,u]at h;split at h
 ·rename_i b H;split at h
  ·rename_i d I;exact⟨_,h,λW a w y=>aO J y I z (v:=.bool (!b)) (by simp[execOp,u,il y H,Op.unary]) rfl id rfl⟩
  ·grind
 ·rename_i k n H;split at h
  ·rename_i d I;exact⟨_,h,λW a w y=>aO J y I z (v:=.int k (k.wrap (0-n))) (by simp[execOp,u,bG y H,Op.unary,Op.intArith]) rfl id rfl⟩
  ·grind
 ·grind
theorem uf (hV:ay V)(M:bN V o){x:Operand}{i:Nat}(H:o.op=.extract x i)(h:act Γ T o st κ=some r):bV P V o st κ r:=by
 simp only[act,wrU,H]at h;split at h
 ·rename_i u ls he;split at h
  ·rename_i agg n hp;split at h
   ·rename_i d hd;refine⟨_,h,λW a w hr=>?_⟩;obtain⟨z,hs,hl⟩:=cS hr x;rw[he]at hs hl;obtain⟨y,hv,J⟩:=hs;have I:∀ (u:List (Bool×Nat)) (y z:List Value) (i:Nat) (off:Nat),pw u y z->u[i]?=some (agg,n) ->
      ∃ v,y[i]?=some v/\db agg v ((z.drop ((u.take i).foldl (λa b=>a+b.2) off-off)).take n)/\off<=(u.take i).foldl (λa b=>a+b.2) off:=by
     intro u;induction u with
     |nil=>intro y z i off _ Z;simp at Z
     |cons p u ih =>
      rintro y z i off ⟨v,a0,c,O,rfl,rfl,hc,a1,J⟩ Z;cases i with
      |zero =>
       simp_all
      |succ i =>
       obtain⟨v',X,Y,h3⟩:=ih a0 O i (off+p.2) J (by simpa using Z);refine⟨v',by simpa using X,?_,by simp;omega⟩;simp;have e:(u.take i).foldl (λa b=>a+b.2) (off+p.2)-off=c.length+((u.take i).foldl (λa b=>a+b.2) (off+p.2)-(off+p.2)):=by omega
       rw[e,<- Cj,List.drop_left];exact Y
    obtain⟨v,X,Y,_⟩:=I u y z i 0 J hp;refine dX hV hr hd M (v:=v) ?_ (km Y) ((hl.drop _).take n);simp[execOp,H,hv,Instr.extract,X]
   ·grind
  ·grind
 ·grind
theorem uO {W:Wit}{a:Act}{w:World}(J:an P V W st a w):∀ (xs:List Operand) (u l:List Nat),
  xs.foldl (λ (u:Option (List Nat)) x=>u.bind λl=>match one st x with|.bp b 0=>some (l++[b])|_=>none) (some u)=some l ->
  ∃ y,l=u++y/\xs.map a.eval=y.map (λb=>Value.pointer (some ⟨W.β b,0,none⟩))/\∀ b∈y,B0<=b/\(st b).sh=.agg
 |[],u,l,h=>⟨[],by simpa using h.symm,rfl,by simp⟩
 |x::xs,u,l,h=>by
  simp at h;have H:∀ (xs:List Operand),xs.foldl (λ (u:Option (List Nat)) x=>u.bind λl=>match one st x with|.bp b 0=>some (l++[b])|_=>none) none=none:=by
   intro xs;induction xs with
   |nil=>rfl
   |cons x xs O=>simpa using O
  split at h
  ·rename_i b I;obtain⟨y,X,Y,Z⟩:=uO J xs (u++[b]) l h;have z:=(bt J x (by rw[I];simp)).1;rw[I]at z;refine⟨b::y,by simp[X],?_,?_⟩
   ·simp only[Cl,Y];rw[show a.eval x=_ from z.2.2]
   ·intro q M;rcases CW.1 M with rfl|M
    ·exact⟨z.1,z.2.1⟩
    ·grind
  ·grind
theorem sI (Z:ay V)(y:bN V o){fn:Fn}{first caps:Array Operand}(u:o.op=.makeFunc fn first caps)(h:act Γ T o st κ=some r):bV P V o st κ r:=by
 cases fn with
 |func f =>
  simp only[act,wrU,u]at h;cases z:BK first.size 0 with
  |false=>simp[z]at h
  |true =>
   simp only[z]at h;split at h
   ·rename_i l M;split at h
    ·rename_i d J;refine⟨_,h,λW a w H=>?_⟩;obtain⟨l',I,O,X⟩:=uO H caps.toList [] l M;subst I;have Y:first=#[]:=Array.eq_empty_of_size_eq_zero (BL z)
     refine aO Z H J y (v:=.func (.func f) #[] (l.map λb=>Value.pointer (some ⟨W.β b,0,none⟩)).toArray) ?_ ⟨rfl,X⟩ id rfl;rw[<- O];simp[execOp,u,Instr.makeFunc,Y,<- CO]
    ·grind
   ·grind
 |_=>simp[act,u]at h
theorem gn {α:Type}{xs:List α}{i:Int}{x:α}(h:idx xs i=some x):0<=i/\i<xs.length/\xs[i.toNat]?=some x:=by
 unfold idx at h
 grind
end
section
variable {P:Program} {V:Env} {Γ:List Ctr} {T:TypeId->TI} {st:St} {o:Oper} {R:Type} {κ:Upd->Option R} {r:R}
theorem wW {W:Wit}{a:Act}{w:World}(H:an P V W st a w){x:Operand}{b:Ty}{p:Bool}{u:b.den}(z:(au st x).1=.agg)(M:cO st b (au st x).2=some (p,u)) :
  ∃ y G,a.eval x=.agg y.toArray/\Rd w G b u y:=by
 obtain⟨y,I,J⟩:=cS H x;rw[z]at I;exact⟨y,_,I,eH H J M⟩
theorem lG {t:TypeId}(y:P.underlying t=some .bool)(b u:Bool)(w:World):(Op.equal t (.bool b) (.bool u)).run P w=.ok (b==u) w:=by
 have e:Op.maxDepth=9999+1:=rfl;unfold Op.equal;rw[e];generalize 9999=m;unfold Op.equalIn;rw[B3,run_underlying y];rfl
theorem wX (Z:ay V)(hT:TOk P T)(I:bN V o){op:BinOp}{t t':TypeId}{x y:Operand}(H:o.op=.binOp op t x y t')(h:act Γ T o st κ=some r):bV P V o st κ r:=by
  simp only[act,wrU,H]at h;split at h
  · rename_i k m k' n O X
    cases op
    case shl =>
      simp only at h;cases Y:decide (n<0) with
      |true=>simp[Y]at h
      |false =>
        simp only[Y,cond_false]at h;split at h
        · rename_i d M
          refine⟨_,h,λW a w z=>aO Z z M I (v:=.int k (k.wrap (m*2 ^ (min n.toNat k.bits)))) ?_ rfl id rfl⟩;have:¬ n<0:=of_decide_eq_false Y;simp[execOp,H,bG z O,bG z X,eqGuard,Go.binOp,Op.shift,this]
        · cases h
    case shr =>
      simp only at h;cases Y:decide (n<0) with
      |true=>simp[Y]at h
      |false =>
        simp only[Y,cond_false]at h;split at h
        · rename_i d M
          refine⟨_,h,λW a w z=>aO Z z M I (v:=.int k (m.fdiv (2 ^ (min n.toNat k.bits)))) ?_ rfl id rfl⟩;have:¬ n<0:=of_decide_eq_false Y;simp[execOp,H,bG z O,bG z X,eqGuard,Go.binOp,Op.shift,this]
        · cases h
    case quo =>
      simp only at h;cases Y:decide (n=0) with
      |true=>simp[Y]at h
      |false =>
        simp only[Y,cond_false]at h;cases J:decide (k=k') with
        |false=>simp[J]at h
        |true =>
          simp only[J,cond_true]at h;have J:=of_decide_eq_true J;subst J;split at h
          · rename_i d M
            refine⟨_,h,λW a w z=>aO Z z M I (v:=.int k (k.wrap (m.tdiv n))) ?_ rfl id rfl⟩;have:¬ n=0:=of_decide_eq_false Y;simp[execOp,H,bG z O,bG z X,eqGuard,Go.binOp,Op.intDiv,this]
          · cases h
    case rem =>
      simp only at h;cases Y:decide (n=0) with
      |true=>simp[Y]at h
      |false =>
        simp only[Y,cond_false]at h;cases J:decide (k=k') with
        |false=>simp[J]at h
        |true =>
          simp only[J,cond_true]at h;have J:=of_decide_eq_true J;subst J;split at h
          · rename_i d M
            refine⟨_,h,λW a w z=>aO Z z M I (v:=.int k (m.tmod n)) ?_ rfl id rfl⟩;have:¬ n=0:=of_decide_eq_false Y;simp[execOp,H,bG z O,bG z X,eqGuard,Go.binOp,Op.intDiv,this]
          · cases h
    case and =>
      simp only at h;cases J:decide (k=k') with
      |false=>simp[J]at h
      |true =>
        simp only[J,cond_true]at h;have J:=of_decide_eq_true J;subst J;split at h
        · rename_i d M
          refine⟨_,h,λW a w z=>aO Z z M I (v:=.int k (k.wrap ((BitVec.ofInt k.bits m &&& BitVec.ofInt k.bits n).toNat))) ?_ rfl id rfl⟩;simp[execOp,H,bG z O,bG z X,eqGuard,Go.binOp,Op.intBits]
        · cases h
    case xor =>
      simp only at h;cases J:decide (k=k') with
      |false=>simp[J]at h
      |true =>
        simp only[J,cond_true]at h;have J:=of_decide_eq_true J;subst J;split at h
        · rename_i d M
          refine⟨_,h,λW a w z=>aO Z z M I (v:=.int k (k.wrap ((BitVec.ofInt k.bits m ^^^ BitVec.ofInt k.bits n).toNat))) ?_ rfl id rfl⟩;simp[execOp,H,bG z O,bG z X,eqGuard,Go.binOp,Op.intBits]
        · cases h
    all_goals
      simp only at h;cases J:decide (k=k') with
      |false=>simp[J]at h
      |true =>
        simp only[J,cond_true]at h;have J:=of_decide_eq_true J;subst J;split at h
        · rename_i l hl
          split at h
          · rename_i d M
            refine⟨_,h,λW a w z=>?_⟩;obtain⟨v,h1,h2,h3,h4⟩:=vF (P:=P) (V:=V) (W:=W) (st:=st) (w:=w) _ k t t' x y m n l hl (bG z O) (bG z X) H;exact aO Z z M I h1 h2 h3 h4
          · cases h
        · cases h
  · rename_i b b' O X
    cases ht:T t with
    |bool =>
      have h1:=hT t;rw[ht]at h1;simp only[ht]at h;cases op <;> simp only at h <;> first
        |cases h;done
        | (split at h
           · rename_i d M
             first
               |exact⟨_,h,λW a w z=>aO Z z M I (v:=.bool (b==b')) (by simp[execOp,H,il z O,il z X,eqGuard,Go.binOp,lG h1.1]) rfl id rfl⟩
               |exact⟨_,h,λW a w z=>aO Z z M I (v:=.bool (b != b')) (by simp[execOp,H,il z O,il z X,eqGuard,Go.binOp,lG h1.1,bne]) rfl id rfl⟩
           · cases h)
    |_=>simp[ht]at h
  · rename_i b b' O X
    cases op <;> simp only at h <;> first
      |cases h;done
      | (cases a0 : decide (b.size + b'.size <= 9223372036854775807) with
         |false=>rw[a0]at h;cases h
         |true =>
           rw[a0]at h;simp only[cond_true]at h;split at h
           · rename_i d M
             refine⟨_,h,λW a w z=>aO Z z M I (v:=.string (b++b')) ?_ rfl id rfl⟩;have:(b.size:Int)+b'.size<=9223372036854775807:=by have:=of_decide_eq_true a0;omega
             simp[execOp,H,iD z O,iD z X,eqGuard,Go.binOp,Op.stringOp,this]
           · cases h)
      | (split at h
         · rename_i d M
           first
             |exact⟨_,h,λW a w z=>aO Z z M I (v:=.bool (b.toList==b'.toList)) (by simp[execOp,H,iD z O,iD z X,eqGuard,Go.binOp,Op.stringOp]) rfl id rfl⟩
             |exact⟨_,h,λW a w z=>aO Z z M I (v:=.bool (b.toList != b'.toList)) (by simp[execOp,H,iD z O,iD z X,eqGuard,Go.binOp,Op.stringOp,bne]) rfl id rfl⟩
         · cases h)
  · cases ht:T t with
    |struct b b1 =>
      have h1:=hT t;rw[ht]at h1;obtain⟨_,_,_,a9,a2⟩:=h1;simp only[ht]at h;cases hf:b.flat&&decide ((au st x).1=.agg)&&decide ((au st y).1=.agg) with
      |false=>simp[hf]at h
      |true =>
        simp only[hf,cond_true]at h;simp only[BN,decide_eq_true_eq]at hf;obtain⟨⟨hf,a5⟩,b0⟩:=hf;split at h
        · rename_i p u q v a6 a4
          have a1:∀ (W:Wit) (a:Act) (w:World),an P V W st a w->(Op.equal t (a.eval x) (a.eval y)).run P w=.ok (b.eqv u v) w/\(∃ cx cy:Array Value,a.eval x=.agg cx/\a.eval y=.agg cy):=by
            intro W a w z;obtain⟨cx,G,O,ad⟩:=wW z a5 a6;obtain⟨cy,G',X,a3⟩:=wW z b0 a4;rw[O,X];exact⟨a9 hf w G u v cx cy ad (Rd.flat hf a3),_,_,rfl,rfl⟩
          cases op <;> simp only at h <;> first
            |cases h;done
            | (split at h
               · rename_i d M
                 first
                   | (refine ⟨_, h, λW a w z => aO Z z M I (v := .bool (b.eqv u v)) ?_ rfl id rfl⟩
                      obtain⟨h2,cx,cy,O,X⟩:=a1 W a w z;rw[O,X]at h2;simp[execOp,H,O,X,eqGuard,Go.binOp,a2,h2];done)
                   | (refine ⟨_, h, λW a w z => aO Z z M I (v := .bool (!b.eqv u v)) ?_ rfl id rfl⟩
                      obtain⟨h2,cx,cy,O,X⟩:=a1 W a w z;rw[O,X]at h2;simp[execOp,H,O,X,eqGuard,Go.binOp,a2,h2])
               · cases h)
        · cases h
    |_=>simp[ht]at h
end
section
variable {P:Program} {V:Env} {Γ:List Ctr} {T:TypeId->TI} {st:St} {o:Oper} {R:Type} {κ:Upd->Option R} {r:R}
theorem fb (g off n:Nat):(⟨g,off,none⟩:Addr).add n=⟨g,off+n,none⟩:=by
 unfold Addr.add;split <;> simp_all
theorem dq {t:TypeId}{n:Nat}(h:bP P t n)(w:World):(sizeOf t).run P w=.ok n w:=by
 unfold bP at h;cases u:P.info? t with
 |none=>simp[u]at h
 |some i =>
  simp[u]at h;simp[sizeOf,typeInfo,u,h]
theorem gp {t:TypeId}{z:Value}(h:d6 P t z)(w:World):(zeroValue t).run P w=.ok z w:=by
 unfold d6 at h;cases u:P.info? t with
 |none=>simp[u]at h
 |some i =>
  simp[u]at h;simp[zeroValue,typeInfo,u,h]
theorem rW (hV:ay V)(hT:TOk P T)(I:bN V o){t:TypeId}{x:Operand}{f:Nat}(a0:o.op=.fieldAddr t x f)(h:act Γ T o st κ=some r):bV P V o st κ r:=by
 simp only[act,wrU,a0]at h;cases ht:T t with
 |struct b a5 =>
  simp only[ht]at h;split at h
  ·rename_i off n agg hf;have h1:=hT t;rw[ht]at h1;obtain⟨⟨fs,hu,_,a3⟩,_⟩:=h1;obtain⟨_,fd,h2,h3,h4,h5,h6,_⟩:=a3 f off n agg hf;have J:∀ (a:Act) (w:World) (g O:Nat),a.eval x=.pointer (some ⟨g,O,none⟩)->(execOp a.eval o).run P w=.ok (.value (.pointer (some ⟨g,O+off,none⟩))) w:=by
    intro a w g O X;have u:=dq h6 w;have h8:n≠0:=by omega
    simp[execOp,a0,X,Instr.fieldAt,run_underlying hu,h2,CR,fieldPlace,u,h8,fb]
   split at h
   ·rename_i p b' y O z;split at h
    ·rename_i d Z;refine⟨_,h,λW a w H=>?_⟩;obtain⟨u,_,_,_⟩:=bt H x (by rw[z];simp);rw[z]at u;obtain⟨g,og,c,X,hg,Y,hc⟩:=u;exact aO hV H Z I (J a w g _ X) ⟨g,og,c,by rw[CL],hg,Y,hc⟩ id rfl
    ·grind
   ·rename_i b' O z;split at h
    ·rename_i d Z;refine⟨_,h,λW a w H=>?_⟩;obtain⟨u,_,_,_⟩:=bt H x (by rw[z];simp);rw[z]at u;exact aO hV H Z I (J a w _ _ u.2.2) ⟨u.1,u.2.1,rfl⟩ id rfl
    ·grind
   ·rename_i r' j v i sz O z;cases M:BK (st r').ver v with
    |false=>simp[M]at h
    |true =>
     simp only[M]at h;split at h
     ·rename_i d Z;refine⟨_,h,λW a w H=>?_⟩;obtain⟨u,_,_,_⟩:=bt H x (by rw[z];simp);rw[z]at u;obtain⟨g,a2,a1,hh,a4,X⟩:=u.2 (BL M);exact aO hV H Z I (J a w g _ X) ⟨u.1,λ_=>⟨g,a2,a1,hh,a4,by rw[CL]⟩⟩ id rfl
     ·grind
   ·rename_i p ks ep b' y O z;cases M:br st ks ep with
    |false=>simp[M]at h
    |true =>
     simp only[M]at h;split at h
     ·rename_i d Z;refine⟨_,h,λW a w H=>?_⟩;obtain⟨u,_,_,_⟩:=bt H x (by rw[z];simp);rw[z]at u;have h8:NpOk V W w p ks b' y O _:=u.2.2 (ct M).1 (ct M).2.1 (ct M).2.2;obtain⟨g,og,c,X,hg,Y,hc⟩:=h8.rd;exact aO hV H Z I (J a w g _ X) ⟨u.1,u.2.1,λ_ _ _=>⟨g,og,c,by rw[CL],hg,Y,hc⟩⟩ id rfl
     ·grind
   ·grind
  ·grind
 |_=>simp[ht]at h
theorem rX (hV:ay V)(hT:TOk P T)(Z:bN V o){t:TypeId}{x i:Operand}(a2:o.op=.indexAddr t x i)(h:act Γ T o st κ=some r):bV P V o st κ r:=by
 simp only[act,wrU,a2]at h;split at h
 ·rename_i k n hi;cases ht:T t with
  |slice E e b2 =>
   simp only[ht]at h;have h1:=hT t;rw[ht]at h1;obtain⟨hu,_,_,b9,_,ti,z,a9,b0,_⟩:=h1;have hE:bP P E e.cells:=by simp[bP,a9,b0]
   have a4:∀ (W:Wit) (a:Act) (w:World) (g Y O I:Nat),an P V W st a w->0<=n->n<O->a.eval x=.slice (some ⟨g,Y,none⟩) O I ->
     (execOp a.eval o).run P w=.ok (.value (.pointer (some ⟨g,Y+n.toNat*e.cells,none⟩))) w:=by
    intro W a w g Y O I H h0 h1 M;have h2:=dq hE w;simp[execOp,a2,M,bG H hi,Cm,asIntOf,run_underlying hu,h0,h1,h2,fb]
   split at h
   ·rename_i r' j v X;split at h
    ·rename_i p hh E' e' xs b1;cases u:BK e'.cells e.cells with
     |false=>simp[u]at h
     |true =>
      simp only[u]at h;have u:=BL u;obtain⟨y,hy,h⟩:=BT.1 h;obtain⟨h2,h3,h4⟩:=gn hy;split at h
      ·rename_i d hd;refine⟨_,h,λW a w H=>?_⟩;obtain⟨J,_,_,_⟩:=bt H x (by rw[X];simp);rw[X]at J;obtain⟨h8,h9,ba,b5⟩:=kt H b1 J;obtain⟨_,b3,b4,ho,bn,_⟩:=h9;rcases ho.2 with ⟨hn,h0⟩|⟨g,a0,bb,_,M,_,_,_⟩
       ·omega
       ·refine aO hV H hd Z (a4 W a w g 0 xs.length a0 H h2 h3 M) ⟨by omega,λ_=>⟨g,xs.length,a0,by rw[h8,M],by omega,by simp[u]⟩⟩ id rfl
      ·grind
    ·grind
   ·rename_i p E' e' xs X;cases u:BK e'.cells e.cells with
    |false=>simp[u]at h
    |true =>
     simp only[u]at h;have u:=BL u;obtain⟨y,hy,h⟩:=BT.1 h;obtain⟨h2,h3,h4⟩:=gn hy;split at h
     ·rename_i d hd;refine⟨_,h,λW a w H=>?_⟩;obtain⟨J,_,_,_⟩:=bt H x (by rw[X];simp);rw[X]at J;obtain⟨A,I,M,a6,a5⟩:=J;have M:a.eval x=.slice A xs.length I:=by simpa using M
      obtain⟨g,Y,rfl,hg,a3⟩:=a5 (by omega);obtain⟨c,hc,a1⟩:=a3 n.toNat y h4;refine aO hV H hd Z (a4 W a w g Y xs.length I H h2 h3 M) ⟨g,Y+n.toNat*e'.cells,c,by rw[u];rfl,?_,hc,a1⟩ id rfl;rcases hg with hg|⟨_,hg⟩
      ·grind
      ·exact .inr (hV.ro g hg)
     ·grind
   ·rename_i p ks ep bl E' e' xs X;cases u:BK e'.cells e.cells&&br st ks ep with
    |false=>simp[u]at h
    |true =>
     simp only[u]at h;simp only[BN]at u;obtain⟨u,ad⟩:=u;have u:=BL u;obtain⟨y,hy,h⟩:=BT.1 h;obtain⟨h2,h3,h4⟩:=gn hy;split at h
     ·rename_i d hd;refine⟨_,h,λW a w H=>?_⟩;obtain⟨J,_,_,_⟩:=bt H x (by rw[X];simp);rw[X]at J;have h8:=pz ad J;obtain⟨A,I,M,a6,a5⟩:=h8.rd;have M:a.eval x=.slice A xs.length I:=by simpa using M
      obtain⟨g,Y,rfl,hg,a3⟩:=a5 (by omega);obtain⟨c,hc,a1⟩:=a3 n.toNat y h4;exact aO hV H hd Z (a4 W a w g Y xs.length I H h2 h3 M) ⟨J.1,J.2.1,λ_ _ _=>⟨g,Y+n.toNat*e'.cells,c,by rw[u];rfl,hg,hc,a1⟩⟩ id rfl
     ·grind
   ·grind
  |arr e O =>
   simp only[ht]at h;have h1:=hT t;rw[ht]at h1;obtain⟨⟨E,hu,hE,_⟩,_⟩:=h1;split at h
   ·rename_i b off X;cases u:decide (0<=n)&&decide (n<(O:Int)) with
    |false=>simp[u]at h
    |true =>
     simp only[u]at h;simp at u;split at h
     ·rename_i d hd;refine⟨_,h,λW a w H=>?_⟩;obtain⟨J,_,_,_⟩:=bt H x (by rw[X];simp);rw[X]at J;refine aO hV H hd Z (v:=.pointer (some ⟨W.β b,off+n.toNat*e.cells,none⟩)) ?_ ⟨J.1,J.2.1,rfl⟩ id rfl;have h2:=dq hE w;simp[execOp,a2,J.2.2,bG H hi,Cm,CR,asIntOf,run_underlying hu,u.1,u.2,h2,fb]
     ·grind
   ·grind
  |_=>simp[ht]at h
 ·grind
theorem wY {t:TypeId}{i:TI}(u:oN P t i)(J:i.cells≠0\/i≠.none)(w:World):(isAgg t).run P w=.ok i.agg w:=by
 cases i with
 |none=>simp[TI.cells]at J
 |struct a I =>
  obtain⟨⟨M,H,_⟩,_⟩:=u;simp[isAgg,run_underlying H,TI.agg]
 |arr e n=>obtain⟨⟨E,H,_⟩,_⟩:=u;simp[isAgg,run_underlying H,TI.agg]
 |ptr=>obtain⟨⟨e,H⟩,_⟩:=u;simp[isAgg,run_underlying H,TI.agg]
 |fn=>obtain⟨⟨x,y,z,H⟩,_⟩:=u;simp[isAgg,run_underlying H,TI.agg]
 |int k=>simp[isAgg,run_underlying u.1,TI.agg]
 |bool=>simp[isAgg,run_underlying u.1,TI.agg]
 |str=>simp[isAgg,run_underlying u.1,TI.agg]
 |slice E e b=>simp[isAgg,run_underlying u.1,TI.agg]
theorem oP {t:TypeId}{i:TI}(u:oN P t i)(z:i≠.none):bP P t i.cells:=by
 cases i with
 |none=>exact absurd rfl z
 |struct a y=>exact u.2.1
 |arr e n=>exact u.2.2.1
 |ptr=>exact u.2.1
 |fn=>exact u.2.1
 |int k=>exact u.2.1
 |bool=>exact u.2.1
 |str=>exact u.2.1
 |slice E e b=>exact u.2.1
theorem mR {W:Wit}{a:Act}{w:World}(z:an P V W st a w){e:Ty}:∀ (n:Nat) (ls:List Leaf) (cs:List Value) (xs:List e.den),aD P V W st w ls cs->fG st e n ls=some xs ->
  xs.length=n/\∀ (i:Nat) (x:e.den),xs[i]?=some x->∃ G,Rd w G e x ((cs.drop (i*e.cells)).take e.cells)
 |0,ls,cs,xs,_,h=>by
  simp only[fG]at h
  simp_all
 |n+1,ls,cs,xs,H,h=>by
  simp only[fG]at h;split at h
  ·rename_i p x Y J M;simp at h;subst h;obtain⟨O,X⟩:=mR z n _ _ _ (H.drop e.cells) M;refine⟨by simp[O],λi y u=>?_⟩;cases i with
   |zero =>
    simp at u;subst u;exact⟨_,by simpa using eH z (H.take e.cells) J⟩
   |succ i =>
    obtain⟨G,I⟩:=X i y (by simpa using u);rw[Cj]at I
    grind
  ·cases h
theorem wZ (hV:ay V)(hT:TOk P T)(X:bN V o){t:TypeId}{x i:Operand}(J:o.op=.index t x i)(h:act Γ T o st κ=some r):bV P V o st κ r:=by
 simp only[act,wrU,J]at h;split at h
 ·rename_i k n hi;cases hs:T t with
  |str =>
   simp only[hs]at h;split at h
   ·rename_i s hx;obtain⟨y,hy,h⟩:=BT.1 h;split at h
    ·rename_i d hd;refine⟨_,h,λW a w I=>aO hV I hd X (v:=.int .u8 (y.toNat:Int)) ?_ rfl id rfl⟩;have h1:=hT t;rw[hs]at h1;obtain⟨h2,h3,h4⟩:=gn hy;have h5:s[n.toNat]?=some y:=by
      have h6:=(BM.1 h4);obtain⟨h7,h8⟩:=h6;have h9:n.toNat<s.size:=by rw[Array.length_toList]at h7;exact h7
      rw[getElem?_pos s n.toNat h9];congr 1
     simp[execOp,J,bG I hi,iD I hx,Ch,asIntOf,run_underlying h1.1,h2,h5]
    ·grind
   ·grind
  |arr e Z =>
   simp only[hs]at h;have h1:=hT t;rw[hs]at h1;obtain⟨⟨E,hu,hE,O⟩,a3,_⟩:=h1;cases hb:e.flat&&decide ((au st x).1=.agg)&&BK (au st x).2.length (Z*e.cells)&&!BK e.cells 0 with
   |false=>simp[hb]at h
   |true =>
    simp only[hb]at h;simp only[BN,decide_eq_true_eq]at hb;obtain⟨⟨⟨hf,a2⟩,a4⟩,_⟩:=hb;split at h
    ·rename_i vs hg;obtain⟨y,hy,h⟩:=BT.1 h;split at h
     ·rename_i d hd;refine⟨_,h,λW a w I=>?_⟩;obtain⟨cs,z,hl⟩:=cS I x;rw[a2]at z;have z:a.eval x=.agg cs.toArray:=z;obtain⟨h2,h3,h4⟩:=gn hy;obtain⟨h5,h6⟩:=mR I Z _ _ _ hl hg;obtain⟨G,h7⟩:=h6 n.toNat y h4;have h8:Rd w (λ_=>False) e y ((cs.drop (n.toNat*e.cells)).take e.cells):=Rd.flat hf h7;have h9:=h8.len;have M:(isAgg E).run P w=.ok e.isAgg w:=by
       cases Y:P.underlying E with
       |none=>simp[Y]at O
       |some u =>
        simp only[Y,Ci,BR]at O;rw[<- O];cases u <;> simp[isAgg,run_underlying Y]
      have a0:=dq hE w;have hn:n<(Z:Int):=by omega
      cases H:e.isAgg with
      |true =>
       have:=dX hV I hd X (v:=.agg ((cs.drop (n.toNat*e.cells)).take e.cells).toArray) (sh:=.agg) (ls:=cH false e y) ?_ rfl (fa (λ_ h=>h.elim) h8)
       ·exact this
       ·rw[H]at M;simp[execOp,J,bG I hi,z,Ch,asIntOf,run_underlying hu,h2,hn,part,M,a0]
      |false =>
       have a1:e.cells=1:=by cases e <;> first|rfl|simp[Ty.isAgg]at H
       rw[a1]at h8 h9
       match hc:(cs.drop (n.toNat*1)).take 1,h9 with
       |[v],_ =>
        rw[hc]at h8;have:=dX hV I hd X (v:=v) (sh:=.one) (ls:=cH false e y) (cs:=[v]) ?_ rfl (fa (λ_ h=>h.elim) h8)
        ·exact this
        ·rw[H]at M;have hv:cs[n.toNat]?=some v:=by
          have:((cs.drop (n.toNat*1)).take 1)[0]?=some v:=by rw[hc];rfl
          grind
         simp[execOp,J,bG I hi,z,Ch,asIntOf,run_underlying hu,h2,hn,part,M,a0,a1,hv]
     ·grind
    ·grind
  |_=>simp[hs]at h
 ·grind
theorem oh {t:TypeId}{i:TI}(J:oN P t i)(O:i≠.none){w:World}{g off:Nat}{cs:List Value}(z:cY w g off cs)(y:cs.length=i.cells) :
  ∃ v,(loadVar t ⟨g,off,none⟩).run P w=.ok v w/\eh (bi i.agg) v cs:=by
 have H:=wY J (.inr O) w;cases I:i.agg with
 |true =>
  refine⟨.agg cs.toArray,?_,rfl⟩;have Y:=dq (oP J O) w;have M:=run_loadCells_list (P:=P) w ⟨g,off,none⟩ cs (λj v X=>by rw[fb];exact z j v X);rw[y]at M;simp[loadVar,H,I,Y,M]
 |false =>
  have u:i.cells=1:=by cases i <;> simp_all [TI.agg,TI.cells]
  rw[u]at y
  match cs,y with
  |[v],_ =>
   have:=z 0 v rfl;rw[Nat.add_zero]at this;exact⟨v,by simp[loadVar,H,I,this],rfl⟩
theorem cY.sub {w:World}{g off:Nat}{cs:List Value}(h:cY w g off cs)(k n:Nat):cY w g (off+k) ((cs.drop k).take n):=by
 intro i v u;rw[BZ]at u;split at u
 ·rw[CG]at u;have:=h (k+i) v u
  grind
 ·cases u
theorem Mx.deep {w:World}{G G':Nat->Prop}:∀ {a:Ty} {h:Option Nat} {pos:Nat} {x:a.den} {cs:List Value} {bs:List Nat},a.shy=false->Mx w G a h pos x cs bs->Mx w G' a h pos x cs bs
 |.int _,_,_,_,_,_,_,h=>h
 |.bool,_,_,_,_,_,_,h=>h
 |.str,_,_,_,_,_,_,h=>h
 |.unit,_,_,_,_,_,_,h=>h
 |.hdr,_,_,_,_,_,_,h=>h
 |.pair _ _,_,_,_,_,_,u,⟨Y,c2,b1,X,M,e2,z,J⟩=>by
  simp only[Ty.shy,CS]at u;exact⟨Y,c2,b1,X,M,e2,Mx.deep u.1 z,Mx.deep u.2 J⟩
 |.list m E e,h,pos,xs,cs,bs,u,H=>by
  simp only[Ty.shy,CS,Bool.not_eq_false']at u;obtain⟨rfl,u⟩:=u;by_cases O:h=some pos
  ·subst O;rw[jh]at H ⊢;exact H
  ·rw[bJ O]at H ⊢;obtain⟨v,M,y,I,z,J,h3⟩:=H;refine⟨v,M,y,I,z,J,λj x hj=>?_⟩;obtain⟨c,h4,Z⟩:=h3 j x hj;exact⟨c,Mx.deep u h4,Z⟩
theorem OwB.shy {W:Wit}{w:World}{p:Bool}{h:Option (Nat×Nat)}{E:TypeId}{e:Ty}{xs:List e.den}{v:Value}{bs:List Nat}(H:OwB w (gd V W p) h E e xs v bs):OwB w (gd V W (p&&e.shy)) h E e xs v bs:=by
 cases J:e.shy with
 |true=>simpa using H
 |false =>
  obtain⟨u,y,I,M,O⟩:=H;refine⟨u,y,I,M,λj x X=>?_⟩;obtain⟨c,Y,z⟩:=O j x X;exact⟨c,Mx.deep J Y,z⟩
theorem ji (p:Bool)(r j v ep i u:Nat)(h:Option Nat):∀ (a:Ty) (off:Nat) (x:a.den),(gF p r j v ep i u h a off x).length=a.cells
 |.int _,_,_=>rfl
 |.bool,_,_=>rfl
 |.str,_,_=>rfl
 |.unit,_,_=>rfl
 |.hdr,_,_=>rfl
 |.pair a b,off,x=>by simp[gF,Ty.cells,ji p r j v ep i u h a,ji p r j v ep i u h b]
 |.list _ _ _,_,_=>rfl
theorem ma {W:Wit}{w:World}{p:Bool}{r j g len y i sz:Nat}(J:(W.cs r)[j]?=some (.slice (some ⟨g,0,none⟩) len y))(O:i<len)(hg:g∈W.bs r j){hol:Option Nat} :
  ∀ {a:Ty} {pos:Nat} {x:a.den} {cs:List Value} {bs:List Nat},(∀ k∈bs,k∈W.bs r j)->Mx w (gd V W p) a hol pos x cs bs->cY w g (i*sz+pos) cs->aD P V W st w (gF p r j (st r).ver (st EPO).ver i sz hol a pos x) cs
 |.int _,_,_,_,_,_,h,_=>by rw[h.1];exact⟨⟨rfl,id,rfl⟩,trivial⟩
 |.bool,_,_,_,_,_,h,_=>by rw[h.1];exact⟨⟨rfl,id,rfl⟩,trivial⟩
 |.str,_,_,_,_,_,h,_=>by rw[h.1];exact⟨⟨rfl,id,rfl⟩,trivial⟩
 |.unit,_,_,_,_,_,h,_=>by rw[h.1];trivial
 |.hdr,_,_,_,_,_,⟨⟨A,y,e⟩,_⟩,_=>by rw[e];exact⟨⟨⟨A,y,rfl⟩,id,rfl⟩,trivial⟩
 |.pair a b,pos,x,cs,bs,M,⟨c1,c2,b1,b2,e1,e2,Z,h2⟩,X=>by
  subst e1;have hl:=Z.len;refine aD.append (ma J O hg (λk z=>M k (by rw[e2];exact BQ _ z)) Z λq u hu=>X q u ?_)
   (ma J O hg (λk z=>M k (by rw[e2];exact BP _ z)) h2 λq u hu=>?_)
  ·grind
  ·have:=X (a.cells+q) u (by rw[<- hl,B6 (by omega)];simpa using hu)
   grind
 |.list m E e,pos,xs,cs,bs,M,H,X=>by
  have I:=H.one;simp only[gF];by_cases Y:hol=some pos
  ·have e0:decide (hol=some pos)=true:=decide_eq_true Y;rw[e0];obtain⟨v,rfl,_⟩:=H;exact⟨⟨trivial,id,I v (by simp)⟩,trivial⟩
  ·have e0:decide (hol=some pos)=false:=decide_eq_false Y;rw[e0];cases m with
   |false =>
    rw[cm]at H;obtain⟨A,y,rfl,h2,h3⟩:=H.2;exact⟨⟨⟨A,y,rfl,h2,h3⟩,id,rfl⟩,trivial⟩
   |true =>
    rw[bJ Y]at H;obtain⟨v,rfl,hO⟩:=H;have Z:=X 0 v rfl;refine⟨⟨⟨BS _,λk z=>?_,λ_ _ _=>⟨?_,λi' a2 a0 he=>?_⟩⟩,id,I v (by simp)⟩,trivial⟩
    ·grind
    ·obtain⟨a1,a3,h4,h5,h6⟩:=OwB.shy hO;refine sy h4 (λk z=>.inr ⟨_,CA _,M k (by rw[h5];exact BQ _ z)⟩) λq x hq=>?_
     obtain⟨c,h7,h8⟩:=h6 q x hq;exact⟨c,h7.rd (λk z=>.inl z) (λk z=>.inr ⟨_,CA _,M k (by rw[h5];exact BP _ (dV.2 ⟨q,(BM.1 hq).1,z⟩))⟩),h8⟩
    ·grind
theorem kc {W:Wit}{w:World}{p:Bool}{ks:List (Nat×Nat×Nat)}{ep:Nat}(y:ep<=(st EPO).ver)(z:∀ k∈ks,k.2.2<=(st k.1).ver) :
  ∀ {a:Ty} {x:a.den} {cs:List Value},Rd w (λb=>gd V W p b\/∃ k∈ks,b∈W.bs k.1 k.2.1) a x cs->aD P V W st w (lz p ks ep a x) cs
 |.int _,_,_,h=>by rw[show _=_ from h];exact⟨⟨rfl,id,rfl⟩,trivial⟩
 |.bool,_,_,h=>by rw[show _=_ from h];exact⟨⟨rfl,id,rfl⟩,trivial⟩
 |.str,_,_,h=>by rw[show _=_ from h];exact⟨⟨rfl,id,rfl⟩,trivial⟩
 |.unit,_,_,h=>by rw[show _=_ from h];trivial
 |.hdr,_,_,⟨A,u,e⟩=>by rw[e];exact⟨⟨⟨A,u,rfl⟩,id,rfl⟩,trivial⟩
 |.pair _ _,_,_,⟨X,Z,e,I,H⟩=>by rw[e];exact (kc y z I).append (kc y z H)
 |.list m E e,O,_,h=>by
  obtain⟨A,u,rfl,H,M⟩:=h;exact⟨⟨⟨y,z,λ_ _ _=>⟨⟨A,u,rfl,H,M⟩,λi Y off J=>by cases J⟩⟩,id,rfl⟩,trivial⟩
theorem zY {W:Wit}{a:Act}{w:World}(hr:an P V W st a w){r j n g len I i:Nat}{p:Bool}{Z:Option (Nat×Nat)}{E:TypeId}{e:Ty}{xs:List e.den}{y:e.den}(h8:(st r).ver=n)(h9:(st r).ls[j]?=some (.own p Z E e xs))
  (H:(W.cs r)[j]?=some (.slice (some ⟨g,0,none⟩) len I)) (O:i<len) (hy:xs[i]?=some y) :
  ∃ c,cY w g (i*e.cells) c/\aD P V W st w (gF p r j n (st EPO).ver i e.cells (cP Z i) e 0 y) c:=by
 subst h8;obtain⟨_,a1,a3,Y,J,M⟩:=hr.leaf r j _ _ h9 H;obtain⟨c,h1,h2⟩:=M i y hy;have a2:=h1.len;have hi:i<xs.length:=(BM.1 hy).1;have z:len=xs.length:=by
  obtain⟨A,a0,e0,_⟩:=Y.slice
  simp_all
 subst z;have X:cY w g (i*e.cells) c:=by
  intro q u hu;have hq:=(BM.1 hu).1;rw[Y.cellAt _ (by
   have:i*e.cells+e.cells<=xs.length*e.cells:=by
    have:=Nat.mul_le_mul_right e.cells (show i+1<=xs.length from hi)
    grind
   omega)]
  grind
 refine⟨c,X,ma H O (by rw[J];simp[CB]) (λk hk=>?_) h1 X⟩
 grind
theorem yB (hV:ay V)(hT:TOk P T)(a9:bN V o){t:TypeId}{x:Operand}(a3:o.op=.load t x)(h:act Γ T o st κ=some r):bV P V o st κ r:=by
 simp only[act,wrU,a3,lY]at h;have a5:=hT t;have Z:∀ (W:Wit) (a:Act) (w:World) (g off:Nat) (cs:List Value) (ls:List Leaf) (d:Nat),an P V W st a w->o.dst=some d->T t≠.none->a.eval x=.pointer (some ⟨g,off,none⟩)->cY w g off cs ->
   cs.length=(T t).cells->aD P V W st w ls cs->mP P V o st (cg st [] d (bi (T t).agg) ls) a w:=by
  intro W a w g off cs ls d z hd hn O Y hl a0;obtain⟨v,h1,h2⟩:=oh a5 hn Y hl;exact dX hV z hd a9 (v:=v) (by simp[execOp,a3,O,Instr.loadAt,CR,h1]) h2 a0
 cases M:decide ((T t).cells=0) with
 |true=>simp[M]at h
 |false =>
  simp only[M]at h;have M:(T t).cells≠0:=of_decide_eq_false M;have X:T t≠.none:=by intro e;rw[e]at M;exact M rfl
  split at h
  ·rename_i p b y off J;cases u:decide (off+(T t).cells<=b.cells) with
   |false=>simp[u]at h
   |true =>
    simp only[u]at h;split at h
    ·rename_i d hd;refine⟨_,h,λW a w z=>?_⟩;obtain⟨H,_,_,_⟩:=bt z x (by rw[J];simp);rw[J]at H;obtain⟨g,og,c,O,hg,I,Y⟩:=H;refine Z W a w g _ ((c.drop off).take (T t).cells) _ d z hd X O (Y.sub off _) ?_ (((fa (λ_ h=>h) I).drop off).take _);have:=I.len
     grind
    ·grind
  ·rename_i b off J;cases u:decide ((st b).sh=.agg)&&decide (off+(T t).cells<=(st b).ls.length) with
   |false=>simp[u]at h
   |true =>
    simp only[u]at h;split at h
    ·rename_i d hd;refine⟨_,h,λW a w z=>?_⟩;obtain⟨H,_,_,_⟩:=bt z x (by rw[J];simp);rw[J]at H;obtain⟨hB,b4,O⟩:=H;rcases z.boxes b hB with ⟨h8,_⟩|⟨_,E,h8⟩
     ·grind
     ·have Y:cY w (W.β b) 0 (W.cs b):=λi v O=>by
       rw[Ca,cell_of_row w (W.β b) i _ E (0,0) h8]
       simp_all
      have b1:=z.len b;have a2:=Y.sub off (T t).cells;rw[Ca]at a2;refine Z W a w (W.β b) off _ _ d z hd X O a2 ?_ (((iC z b).drop off).take _)
      grind
    ·grind
  ·rename_i p b y J;cases u:BK (T t).cells 1&&!(T t).agg with
   |false=>simp[u]at h
   |true =>
    simp only[u]at h;simp only[BN,CJ]at u;split at h
    ·rename_i d hd;refine⟨_,h,λW a w z=>?_⟩;obtain⟨H,_,_,_⟩:=bt z x (by rw[J];simp);rw[J]at H;obtain⟨q,oq,g,og,c,O,_,a1,hg,I,Y⟩:=H;have:=Z W a w q oq [.pointer (some ⟨g,og,none⟩)] [.rp p b y 0] d z hd X O (λi v hi=>by
      cases i with
      |zero=>simp at hi;subst hi;exact a1
      |succ i=>simp at hi) (by simp[BL u.1]) ⟨⟨⟨g,og,c,rfl,hg,I,Y⟩,id,rfl⟩,trivial⟩
     rw[u.2]at this;exact this
    ·grind
  ·rename_i p ks ep b y off J;cases u:br st ks ep&&decide (off+(T t).cells<=b.cells) with
   |false=>simp[u]at h
   |true =>
    simp only[u]at h;simp at u;split at h
    ·rename_i d hd;refine⟨_,h,λW a w z=>?_⟩;obtain⟨H,_,_,_⟩:=bt z x (by rw[J];simp);rw[J]at H;have h8:NpOk V W w p ks b y off _:=H.2.2 (ct u.1).1 (ct u.1).2.1 (ct u.1).2.2;obtain⟨g,og,c,O,hg,I,Y⟩:=h8.rd;refine Z W a w g _ ((c.drop off).take (T t).cells) _ d z hd X O (Y.sub off _) ?_ (((kc H.1 H.2.1 I).drop off).take _);have:=I.len
     grind
    ·grind
  ·rename_i r' j v i sz off J;split at h
   ·rename_i p hh E e xs a4;cases u:BK sz e.cells&&decide (off+(T t).cells<=e.cells) with
    |false=>simp[u]at h
    |true =>
     simp only[u]at h;simp only[BN]at u;have a6:=BL u.1;subst a6;obtain⟨y,hy,h⟩:=BT.1 h;obtain⟨_,_,h4⟩:=gn hy;split at h
     ·rename_i d hd;refine⟨_,h,λW a w z=>?_⟩;obtain⟨H,_,_,_⟩:=bt z x (by rw[J];simp);rw[J]at H;obtain⟨h8,h9⟩:=fj a4 (by simp);obtain⟨g,b3,b2,ad,b0,O⟩:=H.2 h8;obtain⟨c,Y,a0⟩:=zY z h8 h9 ad b0 h4;refine Z W a w g _ _ _ d z hd X O (Y.sub off _) ?_ ((a0.drop off).take _);have:=a0.length;rw[ji]at this
      grind
     ·grind
   ·grind
  ·grind
end
section
variable {P:Program} {V:Env} {Γ:List Ctr} {T:TypeId->TI} {st:St} {o:Oper} {R:Type} {κ:Upd->Option R} {r:R}
theorem w8 (hV:ay V)(hT:TOk P T)(M:bN V o){t:TypeId}{x:Operand}{f:Nat}(J:o.op=.field t x f)(h:act Γ T o st κ=some r):bV P V o st κ r:=by
 simp only[act,wrU,J]at h;cases ht:T t with
 |struct b a2 =>
  simp only[ht]at h;split at h
  ·rename_i off n agg hf;have h1:=hT t;rw[ht]at h1;obtain⟨⟨fs,hu,_,a1⟩,_⟩:=h1;obtain⟨I,Z,h2,h3,h4,h5,h6,Y⟩:=a1 f off n agg hf;cases O:decide ((au st x).1=.agg)&&decide ((au st x).2.length=b.cells) with
   |false=>simp[O]at h
   |true =>
    simp only[O,cond_true]at h;simp only[BN,decide_eq_true_eq]at O;split at h
    ·rename_i d hd;refine⟨_,h,λW a w hr=>?_⟩;obtain⟨u,hs,hl⟩:=cS hr x;rw[O.1]at hs;have X:=hl.length;rw[O.2]at X;have y:(isAgg Z.type).run P w=.ok agg w:=by
      unfold isAgg;cases H:P.underlying Z.type with
      |none=>simp[H]at Y
      |some dd =>
       rw[H]at Y;simp only[Ci,BR]at Y;subst Y;rw[B3,run_underlying H w];cases dd <;> rfl
     have a0:=dq h6 w;cases agg with
     |true =>
      refine dX hV hr hd M (v:=.agg ((u.drop off).take n).toArray) ?_ rfl ((hl.drop off).take n);have e:u.toArray.extract off (off+n)=((u.drop off).take n).toArray:=by
       rw[List.extract_toArray,List.extract_eq_take_drop,Nat.add_sub_cancel_left]
      have hp:(part Z.type u.toArray off).run P w=.ok (.agg ((u.drop off).take n).toArray) w:=by
       simp only[part,B3,y,BW,if_true,a0,B7,e]
      simp only[execOp,J,show a.eval x=_ from hs,Cq,B3,run_underlying hu,BW,h2,asAgg,B7,h3,hp]
     |false =>
      have I:=I rfl;subst I;have z:off<u.length:=by omega
      have hv:((u.drop off).take 1)=[u[off]]:=by
       rw[List.take_one,List.head?_drop,BO z];rfl
      refine dX hV hr hd M (v:=u[off]) ?_ (show eh .one _ ((u.drop off).take 1) from hv) ((hl.drop off).take 1);have e:u.toArray[off]?=some u[off]:=by simp[z]
      have hp:(part Z.type u.toArray off).run P w=.ok u[off] w:=by
       simp only[part,B3,y,BW,Bool.false_eq_true,if_false,e,B7]
      simp only[execOp,J,show a.eval x=_ from hs,Cq,B3,run_underlying hu,BW,h2,asAgg,B7,h3,hp]
    ·cases h
  ·cases h
 |_=>simp[ht]at h
theorem AV {α:Type}(u y:List α)(off:Nat)(h:off+y.length<=u.length):(u.take off++y++u.drop (off+y.length)).length=u.length:=by
 simp;omega
theorem lf (cs c:List Value)(off:Nat)(h:off+c.length<=cs.length) :
  (c.zipIdx 0).foldl (λcs (x:Value×Nat)=>cs.setIfInBounds (off+x.2) x.1) cs.toArray=(cs.take off++c++cs.drop (off+c.length)).toArray:=by
 obtain⟨H,z⟩:=Great.foldl_set off c 0 cs.toArray;apply Array.ext_getElem?;intro k;rw[z k];simp only[Nat.add_zero,List.size_toArray,List.getElem?_toArray];by_cases y:off<=k/\k<off+c.length/\k<cs.length
 ·rw[if_pos y,CC,B6 (by simp;omega),CH (by simp;omega)];congr 1;simp;omega
 ·rw[if_neg y];by_cases u:k<off
  ·rw[CC,CH (by simp;omega),BZ,if_pos u]
  ·rw[B6 (by simp;omega),CG];congr 1;simp;omega
theorem gY {agg:Bool}{v:Value}{cs:List Value}(h:eh (bi agg) v cs)(y:∀ u∈cs,u.oneCell'=true):v.cells=cs.toArray:=by
 cases agg with
 |true=>rw[show v=_ from h];rfl
 |false =>
  have h:cs=[v]:=h;subst h;have:=y v (CZ.2 rfl);cases v <;> first|rfl|simp[BU]at this
theorem mb {W:Wit}{a:Act}{w:World}(hr:an P V W st a w){z:List (Nat×Nat×Bool)}{pl:Nat->Option (Nat×Nat)}(O:∀ (i off n:Nat) (agg:Bool),z[i]?=some (off,n,agg)->pl i=some (off,n)):∀ (ps:List (Nat×Operand)) (ls u:List Leaf) (cs:List Value),
  aD P V W st w ls cs->fw st z ps ls=some u ->
  ∃ y,aD P V W st w u y/\Instr.fill pl cs.toArray (ps.map λx=>(x.1,a.eval x.2))=some y.toArray
 |[],ls,u,cs,J,h=>by
  simp[fw]at h;subst h;exact⟨cs,J,rfl⟩
 |(i,x)::ps,ls,u,cs,J,h=>by
  simp only[fw]at h;split at h
  ·rename_i off n agg hf;cases X:BK (au st x).2.length n&&decide ((au st x).1=bi agg)&&decide (off+n<=ls.length) with
   |false=>simp[X]at h
   |true =>
    simp only[X,cond_true]at h;simp only[BN,decide_eq_true_eq]at X;obtain⟨⟨M,Z⟩,a3⟩:=X;have M:=BL M;obtain⟨c,hs,I⟩:=cS hr x;rw[Z]at hs;have hc:=gY hs I.one';have a1:=J.length;have H:=I.length;have a0:aD P V W st w (jH ls (au st x).2 off) (cs.take off++c++cs.drop (off+c.length)):=by
     unfold jH;rw[H];exact ((J.take off).append I).append (J.drop _)
    obtain⟨y,h1,h2⟩:=mb hr O ps _ u _ a0 h;refine⟨y,h1,?_⟩;simp only[Cl,Instr.fill];have Y:pl i=some (off,n):=O _ _ _ _ hf;have a2:c.toArray.size=n:=by simp;omega
    simp only[Y,hc];rw[if_neg (by simp;omega)];have e:c.toArray.zipIdx.foldl (λcs (x:Value×Nat)=>cs.setIfInBounds (off+x.2) x.1) cs.toArray=(c.zipIdx 0).foldl (λcs (x:Value×Nat)=>cs.setIfInBounds (off+x.2) x.1) cs.toArray:=by
     rw[<- Array.foldl_toList];simp
    have e2:=lf cs c off (by omega);rw[<- e2,<- e]at h2;exact h2
  ·cases h
theorem lH {W:Wit}{w:World}:∀ (b:Ty),aD P V W st w (eZ b) (zeroCells b)
 |.int _=>⟨⟨rfl,id,rfl⟩,trivial⟩
 |.bool=>⟨⟨rfl,id,rfl⟩,trivial⟩
 |.str=>⟨⟨rfl,id,rfl⟩,trivial⟩
 |.unit=>trivial
 |.pair a b=>(lH a).append (lH b)
 |.hdr=>⟨⟨rfl,id,rfl⟩,trivial⟩
 |.list _ _ _=>⟨⟨rfl,id,rfl⟩,trivial⟩
theorem oQ {W:Wit}{w:World}(e:Ty):∀ (n:Nat),aD P V W st w (B4 n (eZ e)).flatten (B4 n (zeroCells e)).flatten
 |0=>trivial
 |n+1=>by
  rw[CV,CV,Cc,Cc];exact (lH e).append (oQ e n)
theorem xa (hV:ay V)(hT:TOk P T)(Y:bN V o){t:TypeId}{u:Array (Nat×Operand)}(O:o.op=.build t u)(h:act Γ T o st κ=some r):bV P V o st κ r:=by
 simp only[act,wrU,O]at h;cases X:T t with
 |struct b Z =>
  simp only[X]at h;split at h
  ·rename_i ls M;split at h
   ·rename_i d hd;refine⟨_,h,λW a w hr=>?_⟩;have h1:=hT t;rw[X]at h1;obtain⟨⟨fs,hu,a0,_⟩,_,H,_⟩:=h1;obtain⟨z,h2,h3⟩:=mb hr (pl:=((Z.map λx=>(x.1,x.2.1)).toArray[·]?)) (λi off n agg I=>by simp[I]) u.toList _ ls _ (lH b) M;refine dX hV hr hd Y (v:=.agg z.toArray) ?_ rfl h2;have y:P.built t (u.map λ (i,x)=>(i,a.eval x)).toList=some z.toArray:=by
     unfold d6 at H;unfold Cn;cases hi:P.info? t with
     |none=>simp[hi]at H
     |some ti =>
      simp[hi]at H;simp only[hu,H,a0];rw[CO];exact h3
    simp[execOp,O,run_build w t _ _ y]
   ·cases h
  ·cases h
 |arr e n =>
  simp only[X]at h;split at h
  ·rename_i ls M;split at h
   ·rename_i d hd;refine⟨_,h,λW a w hr=>?_⟩;have h1:=hT t;rw[X]at h1;obtain⟨⟨E,hu,hE,_⟩,_,_,H⟩:=h1;obtain⟨z,h2,h3⟩:=mb hr (pl:=λi=>some (i*e.cells,e.cells)) (λi off n agg I=>by
     rw[Cb]at I;obtain⟨j,hj,I⟩:=BY.1 I;rw[List.getElem?_range (by simpa using (BM.1 hj).1)]at hj;simp only[BR]at hj;subst hj;simp only[Ck]at I;simp[<- I.1,<- I.2.1]) u.toList _ ls _ (oQ e n) M
    refine dX hV hr hd Y (v:=.agg z.toArray) ?_ rfl h2;have y:P.built t (u.map λ (i,x)=>(i,a.eval x)).toList=some z.toArray:=by
     unfold d6 at H;unfold bP at hE;unfold Cn;cases hi:P.info? t with
     |none=>simp[hi]at H
     |some ti =>
      simp[hi]at H;cases J:P.info? E with
      |none=>simp[J]at hE
      |some ie =>
       simp[J]at hE;simp only[hu,H,J,hE];rw[CO];exact h3
    simp[execOp,O,run_build w t _ _ y]
   ·cases h
  ·cases h
 |_=>simp[X]at h
theorem mS {W:Wit}{a:Act}{w:World}(H:an P V W st a w){x:Option Operand}{u n:Int}(h:dh st x u=some n) :
  (x=none/\n=u)\/∃ y k,x=some y/\a.eval y=.int k n:=by
 unfold dh at h;split at h
 ·simp at h;exact .inl ⟨rfl,h.symm⟩
 ·split at h
  ·rename_i l k m z;simp at h;subst h;exact .inr ⟨_,k,rfl,bG H z⟩
  ·cases h
theorem kd (u:Bool)(len y:Nat)(Z:len<=y)(X M:Option Value)(i h:Int)(O:0<=i)(I:i<=h)(hh:h<=len)(J:(X=none/\i=0)\/∃ k,X=some (.int k i))
  (H:(M=none/\h=len)\/∃ k,M=some (.int k h)) (w:World):(Cd u len y X M none).run P w=.ok (i.toNat,h.toNat,y) w:=by
 have Y:0<=h:=by omega
 have hc:h<=(y:Int):=by omega
 have z:i<=((h.toNat:Nat):Int):=by omega
 rcases J with ⟨rfl,rfl⟩|⟨k,rfl⟩ <;> rcases H with ⟨rfl,rfl⟩|⟨k',rfl⟩ <;>
  simp[Cd,Instr.sliceBound,asIntOf,O,Y,hc,z,I,-Int.ofNat_toNat]
theorem jz (O:ay V){W:Wit}{a:Act}{w:World}(I:an P V W st a w){x:Operand}{l:Leaf}(y:aE st (one st x)=l)(J:l≠.dead)(H:¬ am l):aK P V W st w [] l (a.eval x):=by
 have z:one st x≠.dead:=by intro e;rw[e]at y;exact J y.symm
 obtain⟨X,M,_⟩:=bt I x z;rcases l9 O I X M with ⟨_,_,_,_,u,_⟩|⟨_,u⟩
 ·rw[y]at u;exact absurd u H
 ·rw[y]at u;exact u
theorem xb (O:ay V){W:Wit}{a:Act}{w:World}(M:an P V W st a w){x:Operand}{p:Bool}{ks:List (Nat×Nat×Nat)}{ep:Nat}{y:Option (Nat×Nat×Nat)}{E:TypeId}{e:Ty}{xs:List e.den}
  (u:aE st (one st x)=.nal p ks ep y E e xs):aK P V W st w [] (.nal p ks ep y E e xs) (a.eval x)/\br st ks ep=true:=by
 refine⟨jz O M u (by simp) (by simp[am]),?_⟩;generalize one st x=l at u;cases l with
 |nal Z I H J E' Y X =>
  simp only[aE]at u;cases z:br st I H with
  |false=>simp[z]at u
  |true =>
   simp only[z,cond_true]at u;cases u;exact z
 |al r j n=>exact absurd u iT
 |_=>simp[aE]at u
theorem ug (hV:ay V){W:Wit}{a:Act}{w:World}(I:an P V W st a w){x:Operand}{p:Bool}{H:Option (Nat×Nat)}{E:TypeId}{e:Ty}{xs:List e.den}(u:aE st (one st x)=.own p H E e xs) :
  ∃ r i n,one st x=.al r i n/\(st r).ls[i]?=some (.own p H E e xs)/\OwH w (gd V W p) H E e xs (a.eval x) (W.bs r i)/\(W.cs r)[i]?=some (a.eval x)/\(st r).ver=n:=by
 have z:one st x≠.dead:=by intro e;rw[e]at u;cases u
 obtain⟨J,X,_⟩:=bt I x z;rcases l9 hV I J X with ⟨r,i,n,M,_,_,_⟩|⟨y,_⟩
 ·rw[M]at u J;obtain⟨y,Z,O,Y⟩:=kt I u J;exact⟨r,i,n,M,O,Z,y,Y⟩
 ·rw[u]at y;exact absurd trivial y
theorem goes_frz (H:ay V){W:Wit}{a:Act}{w:World}(h:an P V W st a w){d:Nat}(z:o.dst=some d)(u:bN V o)(ks:List (Nat×Nat)){v:Value}{sh:aI}{ls:List Leaf}{cs:List Value}
  (y:(execOp a.eval o).run P w=.ok (.value v) w) (J:eh sh v cs) (I:aD P V (W.frz st ks) (ac (aF st ks) st) w ls cs):mP P V o st (cg st (aF st ks) d sh ls) a w:=by
 intro next Q M;refine dW y ?_;rw[z];refine M _ _ ?_;rw[cg,aQ];exact (lF H ks h).1.putLs H d (u d z).1 (u d z).2 _ sh ls v cs (CN _) J I
theorem cY.shift {w:World}{g o:Nat}{c:List Value}{k s j:Nat}(h:cY w g (o+(k+j)*s) c):cY w g (o+k*s+j*s) c:=by
 rwa [CL,<- Nat.add_mul]
theorem Rd.cut {w:World}{G:Nat->Prop}{E:TypeId}{e:Ty}{xs:List e.den}{A:Option Addr}{u:Nat}(h:Rd w G (.list false E e) xs [.slice A xs.length u])(i n:Nat)(X:i<=n)(hn:n<=xs.length) :
  Rd w G (.list false E e) ((xs.take n).drop i) [.slice (if u=i then A else A.map (·.add (i*e.cells))) (n-i) (u-i)]:=by
 obtain⟨A',J,M,hc,O⟩:=h;simp at M;obtain⟨rfl,rfl⟩:=M;have H:((xs.take n).drop i).length=n-i:=by simp;omega
 refine⟨_,u-i,by rw[H],by rw[H];omega,λZ=>?_⟩;rw[H]at Z;obtain⟨g,o,rfl,Y,I⟩:=O (by omega);refine⟨g,o+i*e.cells,?_,Y,λj x y=>?_⟩
 ·rw[if_neg (by omega)];simp[fb]
 ·rw[CG,BZ]at y;split at y
  ·obtain⟨c,hr,z⟩:=I (i+j) x y;exact⟨c,hr,z.shift⟩
  ·cases y
theorem vH (hV:ay V)(hT:TOk P T)(a6:bN V o){t:TypeId}{x:Operand}{lo hi:Option Operand}(a4:o.op=.slice t x lo hi none)(h:act Γ T o st κ=some r):bV P V o st κ r:=by
 simp only[act,wrU,a4]at h;cases hd:o.dst with
 |none=>simp[hd]at h
 |some d =>
  simp only[hd]at h;split at h
  ·cases h
  ·rename_i i a9;have h1:=hT t;have X:∀ (W:Wit) (a:Act) (w:World) (y:Option Operand) (a3 n:Int),an P V W st a w->dh st y a3=some n->(y.map a.eval=none/\n=a3)\/∃ k,y.map a.eval=some (.int k n):=by
    intro W a w y a3 n O H;rcases mS O H with ⟨rfl,rfl⟩|⟨z,k,rfl,hz⟩
    ·exact .inl ⟨rfl,rfl⟩
    ·exact .inr ⟨k,by simp[hz]⟩
   split at h
   ·rename_i s ht hx;rw[ht]at h1;split at h
    ·rename_i n Z;cases H:decide (0<=i)&&decide (i<=n)&&decide (n<=(s.size:Int)) with
     |false=>simp[H]at h
     |true =>
      simp only[H,cond_true]at h;simp only[BN,decide_eq_true_eq]at H;refine⟨_,h,λW a w O=>aO hV O hd a6 (v:=.string (s.extract i.toNat n.toNat)) ?_ rfl id rfl⟩;have I:=kd (P:=P) false s.size s.size (BS _) (lo.map a.eval) (hi.map a.eval) i n H.1.1 H.1.2 H.2 (X W a w lo 0 i O a9) (X W a w hi _ n O Z) w;have b4:a.eval x=.string s:=(jz hV O hx (by simp) (by simp[am]));simp[execOp,a4,b4,CM,CT,run_underlying h1.1,I]
    ·cases h
   ·rename_i E' e' a5 p ks ep b5 E e xs ht hx;rw[ht]at h1;obtain⟨hu,_,_,_,_,ti,z,a1,a2,_⟩:=h1;split at h
    ·rename_i n Z;cases H:decide (0<=i)&&decide (i<=n)&&decide (n<=(xs.length:Int))&&BK e'.cells e.cells with
     |false=>simp[H]at h
     |true =>
      simp only[H,cond_true]at h;simp only[BN,decide_eq_true_eq]at H;obtain⟨H,M⟩:=H;have M:=BL M;refine⟨_,h,λW a w O=>?_⟩;obtain⟨hl,b3⟩:=xb hV O hx;have h8:=pz b3 hl;obtain⟨A,u,hv,J,a0⟩:=h8.rd;have hv:a.eval x=.slice A xs.length u:=by simpa using hv
      have I:=kd (P:=P) true xs.length u J (lo.map a.eval) (hi.map a.eval) i n H.1.1 H.1.2 H.2 (X W a w lo 0 i O a9) (X W a w hi _ n O Z) w;have hE:=dq (P:=P) (t:=E') (n:=e.cells) (by simp[bP,a1,a2,M]) w;have Y:=Rd.cut (E:=E) (⟨A,u,rfl,J,a0⟩:Rd w _ (.list false E e) xs [.slice A xs.length u]) i.toNat n.toNat (by omega) (by omega);refine aO hV O hd a6 (v:=.slice (if u=i.toNat then A else A.map (·.add (i.toNat*e.cells))) (n.toNat-i.toNat) (u-i.toNat)) ?_ ⟨hl.1,hl.2.1,λ_ _ _=>⟨Y,λi' sz off he=>by cases he⟩⟩ id rfl;simp only[execOp,a4,hv,CM,CT,B3,run_underlying hu,BW,CP,I,hE,B7]
    ·cases h
   ·rename_i E' e' a5 p E e xs ht hx;rw[ht]at h1;obtain⟨hu,_,_,_,_,ti,z,a1,a2,_⟩:=h1;split at h
    ·rename_i n Z;cases H:decide (0<=i)&&decide (i<=n)&&decide (n<=(xs.length:Int))&&BK e'.cells e.cells with
     |false=>simp[H]at h
     |true =>
      simp only[H,cond_true]at h;simp only[BN,decide_eq_true_eq]at H;obtain⟨H,M⟩:=H;have M:=BL M;refine⟨_,h,λW a w O=>?_⟩;have hl:=jz hV O hx (by simp) (by simp[am]);obtain⟨A,u,hv,J,a0⟩:=hl;have hv:a.eval x=.slice A xs.length u:=by simpa using hv
      have I:=kd (P:=P) true xs.length u J (lo.map a.eval) (hi.map a.eval) i n H.1.1 H.1.2 H.2 (X W a w lo 0 i O a9) (X W a w hi _ n O Z) w;have hE:=dq (P:=P) (t:=E') (n:=e.cells) (by simp[bP,a1,a2,M]) w;have Y:=Rd.cut (E:=E) (⟨A,u,rfl,J,a0⟩:Rd w (gd V W p) (.list false E e) xs [.slice A xs.length u]) i.toNat n.toNat (by omega) (by omega);refine aO hV O hd a6 (v:=.slice (if u=i.toNat then A else A.map (·.add (i.toNat*e.cells))) (n.toNat-i.toNat) (u-i.toNat)) ?_ Y id rfl;simp only[execOp,a4,hv,CM,CT,B3,run_underlying hu,BW,CP,I,hE,B7]
    ·cases h
   ·rename_i E' e' a5 p E e xs ht hx;rw[ht]at h1;obtain⟨hu,_,_,_,_,ti,z,a1,a2,_⟩:=h1;split at h
    ·rename_i n Z;cases H:decide (0<=i)&&decide (i<=n)&&decide (n<=(xs.length:Int))&&BK e'.cells e.cells with
     |false=>simp[H]at h
     |true =>
      simp only[H,cond_true]at h;simp only[BN,decide_eq_true_eq]at H;obtain⟨H,M⟩:=H;have M:=BL M;split at h
      ·rename_i r' j n' e1;refine⟨_,h,λW a w O=>?_⟩;obtain⟨r1,j1,n1,b0,h2,b1,_,b2⟩:=ug hV O hx;rw[e1]at b0;obtain⟨rfl,rfl,rfl⟩:r'=r1/\j=j1/\n'=n1:=by cases b0;exact⟨rfl,rfl,rfl⟩
       obtain⟨A,u,hv,J⟩:=b1.slice;have I:=kd (P:=P) true xs.length u J (lo.map a.eval) (hi.map a.eval) i n H.1.1 H.1.2 H.2 (X W a w lo 0 i O a9) (X W a w hi _ n O Z) w;have hE:=dq (P:=P) (t:=E') (n:=e.cells) (by simp[bP,a1,a2,M]) w;have ad:=OwH.rd (m:=false) (E':=E) b1;rw[hv]at ad;have Y:=Rd.cut ad i.toNat n.toNat (by omega) (by omega);refine aO hV O hd a6 (v:=.slice (if u=i.toNat then A else A.map (·.add (i.toNat*e.cells))) (n.toNat-i.toNat) (u-i.toNat)) ?_
        ⟨BS _,λk hk=>?_,λ_ _ _=>⟨Rd.mono (λk hk=>?_) Y,λi' sz off he=>by cases he⟩⟩ id rfl
       ·simp only[execOp,a4,hv,CM,CT,B3,run_underlying hu,BW,CP,I,hE,B7]
       ·simp only[CZ]at hk;subst hk;exact Nat.le_of_eq b2.symm
       ·rcases hk with hk|hk
        ·exact .inl hk
        ·exact .inr ⟨_,CA _,hk⟩
      ·cases h
    ·cases h
   ·cases h
theorem zZ (hV:ay V)(hT:TOk P T)(I:bN V o){c:Call}(M:o.op=.call c)(hc:c.callee=.builtin .len)(h:act Γ T o st κ=some r):bV P V o st κ r:=by
 simp only[act,wrU,M,hc]at h;split at h
 ·cases h
 ·rename_i d hd;simp only[hd]at h;split at h
  ·rename_i x hx;split at h
   ·rename_i t ht;have y:c.args=#[x]:=by rw[<- CU (xs:=c.args),hx]
    have O:c.argTypes=#[t]:=by rw[<- CU (xs:=c.argTypes),ht]
    have Y:=hT t;have J:∀ (a:Act) (w:World) (n:Int),(Ce #[t] o.type #[a.eval x]).run P w=.ok (.int .i64 n) w->(execOp a.eval o).run P w=.ok (.value (.int .i64 n)) w:=by
     intro a w n X;simp[execOp,M,hc,resolve,invoke,builtin,y,O,X]
    split at h
    ·rename_i E e b u;rw[u]at Y;split at h
     ·rename_i n X;refine⟨_,h,λW a w z=>aO hV z hd I (J a w _ ?_) rfl id rfl⟩;have Z:one st x≠.dead:=by intro e;rw[e]at X;simp[aE,fZ]at X
      obtain⟨h2,h3,_⟩:=bt z x Z;obtain⟨A,a0,H⟩:=wU z h2 h3 X;have H:a.eval x=.slice A n a0:=by simpa using H
      simp[Ce,run_underlying Y.1,H,goInt]
     ·cases h
    ·rename_i s u a1;rw[u]at Y;refine⟨_,h,λW a w z=>aO hV z hd I (J a w _ ?_) rfl id rfl⟩;have H:a.eval x=.string s:=jz hV z a1 (by simp) (by simp[am]);simp[Ce,run_underlying Y.1,H,goInt]
    ·cases h
   ·cases h
  ·cases h
end
end Go.Proofs.YtaegajachoklkaaGreatEv
