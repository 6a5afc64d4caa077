/- The value evaluator, second form: what a Go function's code computes, on plain values. No proof here but definitions. -/
import Derived.Calls
import Derived.Orders
import Derived.KernelRfl
import Derived.Below
import Derived.Maps.AppendAt
import Derived.Laws.OwnMore
import Derived.Lib.ConvBytes
import Derived.WalkKit
import Derived.Great.BuildSlice
set_option linter.unusedVariables false
set_option linter.unusedSimpArgs false
open Array renaming getD_eq_getD_getElem?->CB,toList_map->CK,toArray_toList->CQ
open Bool renaming and_eq_true->BJ,not_eq_true'->CF,or_eq_false_iff->CO,not_eq_true->Cb
open ByteArray renaming empty->B4
open Go.Act renaming put->Ck
open Go.Builtin renaming len_->Ca
open Go.Instr renaming sliceAt->CI,sureAddr->CN,slice->CP,sliceBounds->CZ,index->Cd,indexAt->Ci,field->Cm
open Go.Program renaming built->Cj
open Go.Result renaming andThen_ok->BS
open Go.Sem renaming run_bind->BW,run_pure->B3
open Go.Value renaming oneCell'->BQ,ownBlock->B7
open Go.World renaming cell?->Cl
open List renaming getElem?_eq_some_iff->BI,getElem?_eq_getElem->BK,mem_append_right->BL,mem_append_left->BM,mem_append->BT,getElem?_take->BV,replicate->BX,getD_eq_getElem?_getD->BY,getElem?_append_right->BZ,mem_singleton_self->B6,append_assoc->B8,range->B9,getElem?_drop->CC,getElem?_append_left->CD,any_eq_false->CG,mem_cons_of_mem->CM,replicate_succ->CR,mem_cons->CS,length_append->CT,mem_cons_self->CU,mem_singleton->CV,getElem?_map->CX,flatten_cons->CY,cons_append->Cc,drop_drop->Cf,map_cons->Ch
open Nat renaming beq->BG,eq_of_beq_eq_true->BH,le_refl->BO,le_trans->BR,lt_of_lt_of_le->B5,blt->CA,ble->CE,add_assoc->CH,lt_succ_self->CJ,zero_add->CW
open Option renaming bind_eq_some_iff->BP,map_eq_some_iff->BU,map_none->CL,map_some->Ce
open Option.some renaming injEq->BN
open Prod.mk renaming injEq->Cg
namespace Go.Proofs.YtaegajachoklkabGreatEv
open Go
inductive Ty where
 |int (k:IntKind)|bool|str|unit
 |hdr
 |pair (a b:Ty)
 |list (m:Bool) (E:TypeId) (e:Ty)
 deriving DecidableEq
abbrev Ty.den:Ty->Type
 |.int _=>Int
 |.bool=>Bool
 |.str=>ByteArray
 |.unit=>Unit
 |.hdr=>Nat
 |.pair a b=>a.den×b.den
 |.list _ _ e=>List e.den
def Ty.cells:Ty->Nat
 |.unit=>0
 |.pair a b=>a.cells+b.cells
 |_=>1
def Ty.zero:(a:Ty)->a.den
 |.int _=>(0:Int)
 |.bool=>false
 |.str=>B4
 |.unit=>()
 |.hdr=>(0:Nat)
 |.pair a b=>(a.zero,b.zero)
 |.list _ _ e=>([]:List e.den)
def Ty.flat:Ty->Bool
 |.list _ _ _=>false
 |.pair a b=>a.flat&&b.flat
 |_=>true
def Ty.sh:Ty->Ty
 |.pair a b=>.pair a.sh b.sh
 |.list _ E e=>.list false E e.sh
 |a=>a
def Ty.shy:Ty->Bool
 |.list m _ e=>!m||e.shy
 |.pair a b=>a.shy||b.shy
 |_=>false
theorem mH:∀ a:Ty,a.sh.den=a.den
 |.int _|.bool|.str|.unit|.hdr=>rfl
 |.pair a b=>by
  show (a.sh.den×b.sh.den)=(a.den×b.den);rw[mH a,mH b]
 |.list _ _ e=>congrArg List (mH e)
theorem jA {a b:Ty}(h:a.sh=b.sh):a.den=b.den:=(mH a).symm.trans ((congrArg Ty.den h).trans (mH b))
def Ty.eqv:(a:Ty)->a.den->a.den->Bool
 |.int _,x,y=>decide ((x:Int)=y)
 |.bool,x,y=>(x:Bool)==y
 |.str,x,y=>decide ((x:ByteArray)=y)
 |.unit,_,_=>true
 |.hdr,_,_=>false
 |.pair a b,x,y=>a.eqv x.1 y.1&&b.eqv x.2 y.2
 |.list _ _ _,_,_=>false
abbrev Tup:List Ty->Type
 |[]=>Unit
 |a::as=>a.den×Tup as
inductive Leaf where
 |int (k:IntKind) (n:Int)
 |bool (b:Bool)
 |str (s:ByteArray)
 |nil
 |hdr (n:Nat)
 |ro (p:Bool) (E:TypeId) (e:Ty) (xs:List e.den)
 |own (p:Bool) (h:Option (Nat×Nat)) (E:TypeId) (e:Ty) (xs:List e.den)
 |al (r j v:Nat)
 |nal (p:Bool) (ks:List (Nat×Nat×Nat)) (ep:Nat) (loc:Option (Nat×Nat×Nat)) (E:TypeId) (e:Ty) (xs:List e.den)
 |ep (r j v:Nat) (i sz off:Nat)
 |np (p:Bool) (ks:List (Nat×Nat×Nat)) (ep:Nat) (a:Ty) (x:a.den) (off:Nat)
 |rp (p:Bool) (a:Ty) (x:a.den) (off:Nat)
 |rpp (p:Bool) (a:Ty) (x:a.den)
 |bp (b off:Nat)
 |clo (f:FuncId) (caps:List Nat)
 |clr (f:FuncId) (caps:List (Bool×Bool×(a:Ty)×a.den))
 |fn (As:List Ty) (B:Ty) (φ:Tup As->Option B.den)
 |dead
inductive aI where
 |off|und|one|agg
 |tup (ps:List (Bool×Nat))
 deriving DecidableEq
structure bP where
 ver:Nat
 sh:aI
 ls:List Leaf
abbrev St:=Nat->bP
def bP.none:bP:=⟨0,.off,[]⟩
def GH:Nat:=99000
def TMP:Nat:=99998
def EPO:Nat:=99999
def B0:Nat:=100000
abbrev Upd:=List (Nat×bP)
def ac (U:Upd)(st:St)(q:Nat):bP :=
 match U with
 |[]=>st q
 |(r,c)::u=>bif BG q r then c else ac u st q
inductive TI where
 |int (k:IntKind)|bool|str
 |slice (E:TypeId) (e:Ty) (bytes:Nat)
 |struct (a:Ty) (flds:List (Nat×Nat×Bool))
 |arr (e:Ty) (n:Nat)
 |ptr|fn
 |none
def gD:List (TypeId×TI)->TypeId->TI
 |[],_=>.none
 |(t,i)::l,u=>bif BG t u then i else gD l u
def TI.cells:TI->Nat
 |.struct a _=>a.cells
 |.arr e n=>n*e.cells
 |.none=>0
 |_=>1
def TI.agg:TI->Bool
 |.struct _ _=>true
 |.arr _ _=>true
 |_=>false
def eY:Ty->List Leaf
 |.int k=>[.int k 0]
 |.bool=>[.bool false]
 |.str=>[.str B4]
 |.unit=>[]
 |.hdr=>[.nil]
 |.pair a b=>eY a++eY b
 |.list _ _ _=>[.nil]
def TI.zero:TI->List Leaf
 |.int k=>[.int k 0]
 |.bool=>[.bool false]
 |.str=>[.str B4]
 |.slice _ _ _=>[.nil]
 |.struct a _=>eY a
 |.arr e n=>(BX n (eY e)).flatten
 |.ptr=>[.dead]
 |.fn=>[.dead]
 |.none=>[]
def aq (p:Bool):(a:Ty)->a.den->List Leaf
 |.int k,n=>[.int k n]
 |.bool,b=>[.bool b]
 |.str,s=>[.str s]
 |.unit,_=>[]
 |.hdr,n=>[.hdr n]
 |.pair a b,x=>aq p a x.1++aq p b x.2
 |.list m E e,r=>[bif m then .own (p&&e.shy) none E e r else .ro p E e r]
def cG (p:Bool):(a:Ty)->a.den->List Leaf
 |.int k,n=>[.int k n]
 |.bool,b=>[.bool b]
 |.str,s=>[.str s]
 |.unit,_=>[]
 |.hdr,n=>[.hdr n]
 |.pair a b,x=>cG p a x.1++cG p b x.2
 |.list _ E e,r=>[.ro p E e r]
def lx (p:Bool)(ks:List (Nat×Nat×Nat))(ep:Nat):(a:Ty)->a.den->List Leaf
 |.int k,n=>[.int k n]
 |.bool,b=>[.bool b]
 |.str,s=>[.str s]
 |.unit,_=>[]
 |.hdr,n=>[.hdr n]
 |.pair a b,x=>lx p ks ep a x.1++lx p ks ep b x.2
 |.list _ E e,r=>[.nal p ks ep none E e r]
def gE (p:Bool)(r j v ep i u:Nat)(h:Option Nat):(a:Ty)->Nat->a.den->List Leaf
 |.int k,_,n=>[.int k n]
 |.bool,_,b=>[.bool b]
 |.str,_,s=>[.str s]
 |.unit,_,_=>[]
 |.hdr,_,n=>[.hdr n]
 |.pair a b,off,x=>gE p r j v ep i u h a off x.1++gE p r j v ep i u h b (off+a.cells) x.2
 |.list m E e,off,y=>[bif decide (h=some off) then .dead else bif m then .nal (p&&e.shy) [(r,j,v)] ep (some (i,u,off)) E e y else .ro p E e y]
def ly (p:Bool)(r j v ep i u:Nat)(h:Option (Bool×Nat)):(a:Ty)->Nat->a.den->List Leaf
 |.int k,_,n=>[.int k n]
 |.bool,_,b=>[.bool b]
 |.str,_,s=>[.str s]
 |.unit,_,_=>[]
 |.hdr,_,n=>[.hdr n]
 |.pair a b,off,x=>ly p r j v ep i u h a off x.1++ly p r j v ep i u h b (off+a.cells) x.2
 |.list m E e,off,y=>[bif (match h with|some (b,o)=>BG o off&&b|Option.none=>false) then .dead else bif m then .nal (p&&e.shy) [(r,j,v)] ep (some (i,u,off)) E e y else .ro p E e y]
def bg (agg:Bool):aI:=bif agg then .agg else .one
def lz:Leaf->Bool
 |.own _ _ _ _ _=>true
 |_=>false
def bq (st:St)(ks:List (Nat×Nat×Nat))(ep:Nat):Bool:=BG (st EPO).ver ep&&ks.all λk=>BG (st k.1).ver k.2.2&&lz ((st k.1).ls.getD k.2.1 .dead)
def pq:Leaf->Leaf
 |.nal _ _ _ _ _ _ _=>.dead
 |l=>l
def aC (st:St):Leaf->Leaf
 |.al r j v=>bif BG (st r).ver v then pq ((st r).ls.getD j .dead) else .dead
 |.nal p y ep u E e z=>bif bq st y ep then .nal p y ep u E e z else .dead
 |l=>l
def lQ (t j r:Nat):Leaf->Leaf
 |.own _ _ _ _ _=>.al t j r
 |l=>l
def bE (t r:Nat):Nat->List Leaf->List Leaf
 |_,[]=>[]
 |j,l::u=>lQ t j r l::bE t r (j+1) u
def iu:Value->Option Leaf
 |.int k n=>some (.int k n)
 |.bool b=>some (.bool b)
 |.string s=>some (.str s)
 |.slice Option.none 0 0=>some .nil
 |_=>Option.none
def au (st:St):Operand->aI×List Leaf
 |.tmp t=>bif CA t GH then ((st t).sh,bE t (st t).ver 0 (st t).ls) else (.off,[])
 |.const v=>match iu v with
  |some l=>(.one,[l])
  |Option.none=>(.off,[])
 |.func f=>(.one,[.clo f []])
 |.global _=>(.off,[])
def one (st:St)(x:Operand):Leaf :=
 match au st x with
 |(.one,[l])=>l
 |_=>.dead
def castSh (e e':Ty)(xs:List e'.den):Option (List e.den) :=
 if h:e'.sh=e.sh then some (cast (congrArg List (jA h)) xs) else Option.none
def lR (E:TypeId)(e:Ty)(E':TypeId)(e':Ty)(xs:List e'.den):Option (List e.den) :=
 if h:E'=E/\e'=e then some (h.2 ▸ xs) else Option.none
def dg (e:Ty):Leaf->Option (Bool×List e.den)
 |.ro p _ r u=>(castSh e r u).map (p,·)
 |.own p none _ r u=>(castSh e r u).map (p,·)
 |.nal p _ _ _ _ r u=>(castSh e r u).map (p,·)
 |.nil=>some (false,[])
 |_=>Option.none
def fY:Leaf->Option Nat
 |.ro _ _ _ r=>some r.length
 |.own _ _ _ _ r=>some r.length
 |.nal _ _ _ _ _ _ r=>some r.length
 |.nil=>some 0
 |.hdr n=>some n
 |_=>Option.none
def a7 (st:St):(a:Ty)->List Leaf->Option (Bool×a.den×List Leaf)
 |.int k,r=>match r with
  |.int u n::r=>if k=u then some (false,(n:Int),r) else Option.none
  |_=>Option.none
 |.bool,r=>match r with
  |.bool b::r=>some (false,b,r)
  |_=>Option.none
 |.str,r=>match r with
  |.str s::r=>some (false,s,r)
  |_=>Option.none
 |.unit,r=>some (false,(),r)
 |.hdr,r=>match r with
  |l::r=>match fY (aC st l) with
   |some n=>some (false,(n:Nat),r)
   |Option.none=>Option.none
  |_=>Option.none
 |.pair a b,r=>match a7 st a r with
  |some (p,x,r)=>match a7 st b r with
   |some (q,y,r)=>some (p||q,(x,y),r)
   |Option.none=>Option.none
  |Option.none=>Option.none
 |.list _ _ e,r=>match r with
  |l::r=>match dg e (aC st l) with
   |some (p,z)=>some (p,z,r)
   |Option.none=>Option.none
  |_=>Option.none
def cN (st:St)(a:Ty)(ls:List Leaf):Option (Bool×a.den) :=
 match a7 st a ls with
 |some (p,x,[])=>some (p,x)
 |_=>Option.none
structure cH (α:Type) where
 p:Bool
 val:α
 frz:List (Nat×Nat)
 kill:List (Nat×Nat)
 rest:List Leaf
def bw (st:St):List Leaf->List (Nat×Nat)
 |[]=>[]
 |.al r j v::u=>(match aC st (.al r j v) with|.own _ _ _ _ _=>[(r,j)]|_=>[])++bw st u
 |.nal p z ep y E e H::u=>(match aC st (.nal p z ep y E e H) with|.nal _ _ _ _ _ _ _=>z.map (λk=>(k.1,k.2.1))|_=>[])++bw st u
 |_::u=>bw st u
def bZ (st:St):List Leaf->List (Nat×Nat)
 |[]=>[]
 |.al r j v::u=>(match aC st (.al r j v) with|.own _ _ _ _ _=>[(r,j)]|_=>[])++bZ st u
 |_::u=>bZ st u
def take (st : St) : (a : Ty) -> List Leaf -> Option (cH a.den)
  |.int k,u=>(a7 st (.int k) u).map λx=>⟨false,x.2.1,[],[],x.2.2⟩
  |.bool,u=>(a7 st .bool u).map λx=>⟨false,x.2.1,[],[],x.2.2⟩
  |.str,u=>(a7 st .str u).map λx=>⟨false,x.2.1,[],[],x.2.2⟩
  |.unit,u=>some ⟨false,(),[],[],u⟩
  |.hdr,u=>(a7 st .hdr u).map λx=>⟨false,x.2.1,[],[],x.2.2⟩
  |.pair a b,u=>match take st a u with
    |some x=>match take st b x.rest with
      |some y=>some ⟨x.p||y.p,(x.val,y.val),x.frz++y.frz,x.kill++y.kill,y.rest⟩
      |Option.none=>Option.none
    |Option.none=>Option.none
  |.list m E e,u=>match u with
    |[]=>Option.none
    |l::u=>bif m then (match l with
        |.al r j v=>match aC st (.al r j v) with
          |.own p none H I z=>(lR E e H I z).map λz=>⟨p,z,[],[(r,j)],u⟩
          |_=>Option.none
        |.nil=>some ⟨false,([]:List e.den),[],[],u⟩
        |_=>Option.none)
      else match dg e (aC st l) with
        |some (p,z)=>some ⟨p,z,bw st [l],[],u⟩
        |Option.none=>Option.none
def cg (st:St)(a:Ty)(ls:List Leaf):Option (cH a.den) :=
 match take st a ls with
 |some ⟨p,x,f,k,[]⟩=>some ⟨p,x,f,k,[]⟩
 |_=>Option.none
def c9 (st:St)(off n:Nat):(a:Ty)->Nat->a.den->List Leaf->Option (cH a.den)
 |.pair a b,pos,x,r=>match c9 st off n a pos x.1 r with
  |some u=>match c9 st off n b (pos+a.cells) x.2 u.rest with
   |some v=>some ⟨u.p||v.p,(u.val,v.val),u.frz++v.frz,u.kill++v.kill,v.rest⟩
   |Option.none=>Option.none
  |Option.none=>Option.none
 |.int k,pos,x,r=>bif CE off pos&&CA pos (off+n) then take st (.int k) r else some ⟨false,x,[],[],r⟩
 |.bool,pos,x,r=>bif CE off pos&&CA pos (off+n) then take st .bool r else some ⟨false,x,[],[],r⟩
 |.str,pos,x,r=>bif CE off pos&&CA pos (off+n) then take st .str r else some ⟨false,x,[],[],r⟩
 |.unit,_,x,r=>some ⟨false,x,[],[],r⟩
 |.hdr,_,_,_=>Option.none
 |.list m E e,pos,x,r=>bif CE off pos&&CA pos (off+n) then take st (.list m E e) r else some ⟨false,x,[],[],r⟩
def bK (off:Nat)(E:TypeId)(e:Ty)(r:List e.den):(a:Ty)->Nat->a.den->Option a.den
 |.pair a b,pos,x=>match bK off E e r a pos x.1 with
  |some u=>some (u,x.2)
  |Option.none=>(bK off E e r b (pos+a.cells) x.2).map λv=>(x.1,v)
 |.list m y z,pos,_=>bif m&&BG pos off then lR y z E e r else Option.none
 |.int _,_,_|.bool,_,_|.str,_,_|.unit,_,_|.hdr,_,_=>Option.none
def aw:List Leaf->List Nat
 |[]=>[]
 |.al r _ _::u=>r::aw u
 |.ep r _ _ _ _ _::u=>r::aw u
 |.nal _ y _ _ _ _ _::u=>EPO::y.map (·.1)++aw u
 |.np _ y _ _ _ _::u=>EPO::y.map (·.1)++aw u
 |_::u=>aw u
def aT (ls:List Leaf)(j:Nat)(l:Leaf):List Leaf:=ls.set j l
def fZ (c:bP)(j:Nat):bP:=⟨c.ver,c.sh,aT c.ls j .dead⟩
def aN (st:St):List (Nat×Nat)->Upd
 |[]=>[]
 |(r,j)::u=>let U:=aN st u;let c:=ac U st r;(r,fZ c j)::U
def uM:Leaf->Leaf
 |.own p none E e r=>.ro p E e r
 |.own _ (some _) _ _ _=>.dead
 |l=>l
def fV (c:bP)(j:Nat):bP:=⟨c.ver,c.sh,aT c.ls j (uM (c.ls.getD j .dead))⟩
def aE (st:St):List (Nat×Nat)->Upd
 |[]=>[]
 |(r,j)::u=>let U:=aE st u;let c:=ac U st r;(r,fV c j)::U
def bU (c:bP):bP:=⟨c.ver+1,c.sh,c.ls⟩
def epoU (st:St):Upd:=[(EPO,bU (st EPO))]
def dr (st:St):List Leaf->List (Nat×Nat)
 |[]=>[]
 |.nal p u ep none E e y::r=>(match aC st (.nal p u ep none E e y) with|.nal _ _ _ _ _ _ _=>u.map (λk=>(k.1,k.2.1))|_=>[])++dr st r
 |_::r=>dr st r
def gi (st:St)(l:Leaf):Leaf:=match aC st l with
 |.nal p _ _ none E e r=>.ro p E e r
 |l=>l
def dD (st:St)(ls:List Leaf):List Leaf:=ls.map (gi st)
def mvU (st:St)(ls:List Leaf):Upd:=let U:=aE st (dr st ls);aN (ac U st) (bZ st ls)++U
def aY:List (Nat×Nat)->Bool
 |[]=>true
 |x::r=>!(r.any λy=>BG x.1 y.1&&BG x.2 y.2)&&aY r
def iv (a b:Nat×Nat):Bool:=BG a.1 b.1&&BG a.2 b.2
def dx (a b:List (Nat×Nat)):Bool:=!(a.any λk=>b.any (iv k))
def ib (st:St)(ls:List Leaf):Bool:=aY (bZ st ls)&&dx (dr st ls) (bZ st ls)
def sq (st:St):Operand->Bool
 |.tmp q=>BG (st q).ver 7
 |_=>false
def idx {α:Type}(xs:List α)(i:Int):Option α:=if i<0 then Option.none else xs[i.toNat]?
def jB (u r:List Leaf)(off:Nat):List Leaf:=u.take off++r++u.drop (off+r.length)
def sr (r:BinOp)(k:IntKind)(x y:Int):Option Leaf :=
 match r with
 |.add=>some (.int k (k.wrap (x+y)))
 |.sub=>some (.int k (k.wrap (x-y)))
 |.mul=>some (.int k (k.wrap (x*y)))
 |.eql=>some (.bool (x==y))
 |.neq=>some (.bool (x != y))
 |.lss=>some (.bool (decide (x<y)))
 |.leq=>some (.bool (decide (x<=y)))
 |.gtr=>some (.bool (decide (x>y)))
 |.geq=>some (.bool (decide (x>=y)))
 |_=>Option.none
def bc (off:Nat):(a:Ty)->Nat->a.den->Option ((E:TypeId)×(e:Ty)×List e.den)
 |.pair a b,pos,x=>match bc off a pos x.1 with
  |some u=>some u
  |Option.none=>bc off b (pos+a.cells) x.2
 |.list m E e,pos,r=>bif m&&BG pos off then some ⟨E,e,r⟩ else Option.none
 |.int _,_,_|.bool,_,_|.str,_,_|.unit,_,_|.hdr,_,_=>Option.none
def cj (st:St):Leaf->Option (Upd×Leaf)
  |.nal p J ep H E e X=>bif bq st J ep then (match J,H with
      | [(r, j, _)], some (i, R, off) => (match (st r).ls.getD j .dead with
        |.own I none O z u=>bif !BG r TMP&&!BG r EPO&&BG R z.cells then
            (match u[i]? with
            |some y=>match bc off z 0 y with
              |some ⟨E,e,M⟩=>some ([(r,⟨(st r).ver,(st r).sh,aT (st r).ls j (.own I (some (i,off)) O z u)⟩),(TMP,⟨(st TMP).ver+1,.one,[.own (I&&z.shy) none E e M]⟩),(EPO,bU (st EPO))],.al TMP 0 ((st TMP).ver+1))
              |Option.none=>Option.none
            |Option.none=>Option.none)
          else Option.none
        |_=>Option.none)
      |_,_=>Option.none)
    else Option.none
  |_=>Option.none
def jr:Leaf->Bool
 |.nal _ _ _ _ _ _ _=>true
 |_=>false
inductive PK where
 |rd (a:Ty)
 |own (a:Ty)
 |io (a:Ty)
 |rref (a:Ty)
 |rref2 (a:Ty)
 |iop (a:Ty)
 |fn (As:List Ty) (B:Ty)
 |clo (f:FuncId) (cs:List (Bool×Ty))
 |hol (a:Ty) (c off:Nat)
 deriving DecidableEq
inductive RK where
 |v (a:Ty)
 |bv (a:Ty)
 |box (a:Ty)
 deriving DecidableEq
abbrev lS:List (Bool×Ty)->Type
 |[]=>Unit
 |c::r=>c.2.den×lS r
abbrev PK.den:PK->Type
 |.rd a|.own a|.io a|.rref a|.rref2 a|.iop a=>a.den
 |.fn u B=>Tup u->Option B.den
 |.clo _ r=>lS r
 |.hol a _ _=>a.den×Nat
abbrev ab:List PK->Type
 |[]=>Unit
 |p::r=>p.den×ab r
abbrev ah:List PK->Type
 |[]=>Unit
 |.io a::r=>a.den×ah r
 |.iop a::r=>a.den×ah r
 |_::r=>ah r
abbrev RK.den:RK->Type
 |.v a|.bv a|.box a=>a.den
abbrev ai:List RK->Type
 |[]=>Unit
 |r::u=>r.den×ai u
structure Ctr where
 f:FuncId
 ps:List PK
 rs:List RK
 fresh:Bool
 den:ab ps->Option (ai rs×ah ps)
def Ty.isAgg:Ty->Bool
 |.pair _ _|.unit=>true
 |_=>false
def target (st:St):Leaf->Option (List Leaf)
 |.bp b 0=>bif decide ((st b).sh=.agg) then some (bE b (st b).ver 0 (st b).ls) else none
 |.rp p a x 0=>some (cG p a x)
 |.rpp p a x=>some [.rp p a x 0]
 |_=>none
structure Got (α:Type) where
 p:Bool
 val:α
 frz:List (Nat×Nat)
 kill:List (Nat×Nat)
 see:List Nat
 lend:List Nat
def Got.ofRd {α:Type}(r:List Nat)(x:Bool×α)(frz:List (Nat×Nat)):Got α:=⟨x.1,x.2,frz,[],r,[]⟩
def lT (Γ:List Ctr)(f:FuncId):Option Ctr:=match Γ with
 |[]=>none
 |c::r=>bif BG c.f f then some c else lT r f
def ck (x:aI×List Leaf):Leaf :=
 match x with
 |(.one,[l])=>l
 |_=>.dead
def fm:List Leaf->List Nat
 |[]=>[]
 |.bp b _::r=>b::fm r
 |_::r=>fm r
def fp (st:St)(c:Bool×Ty)(l:Leaf):Option (Got c.2.den) :=
 bif c.1 then (match target st l with
  |some [u]=>match target st u with
   |some r=>(cN st c.2 r).map λy=>.ofRd (fm [l,u]) y (bw st r)
   |none=>none
  |_=>none)
 else match target st l with
  |some r=>(cN st c.2 r).map λy=>.ofRd (fm [l]) y (bw st r)
  |none=>none
def cq (st:St):(cs:List (Bool×Ty))->List Leaf->Option (Got (lS cs))
 |[],[]=>some ⟨false,(),[],[],[],[]⟩
 |c::cs,l::r=>match fp st c l with
  |some g=>match cq st cs r with
   |some h=>some ⟨g.p||h.p,(g.val,h.val),g.frz++h.frz,[],g.see++h.see,[]⟩
   |none=>none
  |none=>none
 |_,_=>none
def eT (c:Bool×Bool×(a:Ty)×a.den):Leaf:=bif c.2.1 then .rpp c.1 c.2.2.1 c.2.2.2 else .rp c.1 c.2.2.1 c.2.2.2 0
def be (st : St) : (pk : PK) -> aI × List Leaf -> Option (Got pk.den)
  |.rd a,x=>bif decide (x.1=bg a.isAgg) then (cN st a x.2).map λy=>.ofRd [] y (bw st x.2) else none
  |.own a,x=>bif decide (x.1=bg a.isAgg) then (cg st a x.2).map λt=>⟨t.p,t.val,t.frz,t.kill,[],[]⟩ else none
  |.io a,x=>bif decide (x.1=bg a.isAgg) then (cg st a x.2).map λt=>⟨t.p,t.val,t.frz,t.kill,[],[]⟩ else none
  |.rref a,x=>fp st (false,a) (ck x)
  |.rref2 a,x=>fp st (true,a) (ck x)
  |.iop a,x=>match ck x with
    |.bp b 0=>bif decide ((st b).sh=.agg) then (cg st a (bE b (st b).ver 0 (st b).ls)).map λt=>⟨t.p,t.val,t.frz,t.kill,[],[b]⟩ else none
    |_=>none
  |.fn I B,x=>match ck x with
    |.fn z R M=>if h:z=I/\R=B then some ⟨false,(h.1 ▸ h.2 ▸ M:Tup I->Option B.den),[],[],[],[]⟩ else none
    |_=>none
  |.clo f J,x=>match ck x with
    |.clo H u=>bif BG H f then cq st J (u.map λb=>.bp b 0) else none
    |.clr H u=>bif BG H f then cq st J (u.map eT) else none
    |_=>none
  |.hol a c off,x=>bif decide (x.1=bg a.isAgg) then (match x.2.getD c .dead with
      |.al r j v=>(match aC st (.al r j v) with
        |.own p (some (i,o)) E e O=>bif BG o off then (match cg st a (aT x.2 c .nil) with
            |some t=>(match bK c E e O a 0 t.val with
              |some y=>some ⟨p||t.p,(y,i),t.frz,(r,j)::t.kill,[],[]⟩
              |none=>none)
            |none=>none) else none
        |_=>none)
      |_=>none) else none
def a8 (ga:(pk:PK)->aI×List Leaf->Option (Got pk.den)):(ps:List PK)->List (aI×List Leaf)->Option (Got (ab ps))
 |[],[]=>some ⟨false,(),[],[],[],[]⟩
 |p::ps,x::r=>match ga p x with
  |some g=>match a8 ga ps r with
   |some h=>some ⟨g.p||h.p,(g.val,h.val),g.frz++h.frz,g.kill++h.kill,g.see++h.see,g.lend++h.lend⟩
   |none=>none
  |none=>none
 |_,_=>none
def uN (st:St):(ps:List PK)->List (aI×List Leaf)->Option (Got (ab ps)):=a8 (be st)
def b6 (st:St):List Leaf->List Leaf->Upd
 |.al r j _::y,l::u=>let U:=b6 st y u;(match l with|.own p h E e ys=>let c:=ac U st r;[(r,⟨c.ver,c.sh,aT c.ls j (.own p h E e ys)⟩),(EPO,bU (ac U st EPO))]|_=>[])++U
 |_::y,_::u=>b6 st y u
 |_,_=>[]
def aF (st:St)(p:Bool):(ps:List PK)->List (aI×List Leaf)->ah ps->Upd
 |[],_,_=>[]
 |.io a::ps,x::r,o=>let U:=aF st p ps r o.2;b6 (ac U st) x.2 (aq p a o.1)++U
 |.iop a::ps,x::r,o=>let U:=aF st p ps r o.2;(match ck x with
  |.bp b _=>let c:=ac U st b;[(b,⟨c.ver+2,.agg,aq p a o.1⟩)]
  |_=>[])++U
 |.rd _::ps,_::r,o=>aF st p ps r o
 |.own _::ps,_::r,o=>aF st p ps r o
 |.rref _::ps,_::r,o=>aF st p ps r o
 |.rref2 _::ps,_::r,o=>aF st p ps r o
 |.fn _ _::ps,_::r,o=>aF st p ps r o
 |.clo _ _::ps,_::r,o=>aF st p ps r o
 |.hol _ _ _::ps,_::r,o=>aF st p ps r o
 |_::_,[],_=>[]
def pt (d v:Nat)(p q:Bool)(ks:List (Nat×Nat×Nat))(ep:Nat):(r:RK)->r.den->(Bool×List Leaf)×Upd
 |.v a,y=>((a.isAgg,aq p a y),[])
 |.bv a,y=>((a.isAgg,lx q ks ep a y),[])
 |.box a,y=>((false,[.bp (B0+d) 0]),[(B0+d,⟨v+1,.agg,aq p a y⟩)])
def bC (d v:Nat)(p q:Bool)(ks:List (Nat×Nat×Nat))(ep:Nat):(u:List RK)->ai u->List (Bool×List Leaf)×Upd
 |[],_=>([],[])
 |r::u,y=>let a:=pt d v p q ks ep r y.1;let b:=bC d v p q ks ep u y.2;(a.1::b.1,a.2++b.2)
def eU (r:Nat)(l:List (Bool×List Leaf)):bP :=
 match l with
 |[(agg,u)]=>⟨r,bg agg,u⟩
 |l=>⟨r,.tup (l.map λx=>(x.1,x.2.length)),(l.map (·.2)).flatten⟩
def cf (st:St)(U:Upd)(d:Nat)(sh:aI)(ls:List Leaf):Upd:=(d,⟨(ac U st d).ver+1,sh,ls⟩)::U
def PK.reads:PK->Bool
 |.rd _|.rref _|.rref2 _=>true
 |_=>false
def nJ (caps:List PK)(z:ab caps):(r:List Ty)->Tup r->ab (r.map .rd++caps)
 |[],_=>z
 |_::as,x=>(x.1,nJ caps z as x.2)
def r9 (st:St)(z:List Ty)(B:Ty)(ls:List Leaf)(ps:List PK)(H:List RK)(r:Bool)(u:ab ps->Option (ai H×ah ps))(q:List PK):Option (Got (Tup z->Option B.den)) :=
 if h:ps=z.map .rd++q/\H=[.v B] then
  bif q.all PK.reads&&B.flat&&r then
   match uN st q (ls.map λl=>(.one,[l])) with
   |some g=>some ⟨g.p,λx=>(u (h.1 ▸ nJ _ g.val z x)).map λy=>(h.2 ▸ y.1:ai [.v B]).1,g.frz,[],g.see,[]⟩
   |none=>none
  else none
 else none
def kJ (Γ:List Ctr)(st:St)(r:List Ty)(B:Ty)(f:FuncId)(ls:List Leaf):Option (Got (Tup r->Option B.den)) :=
 match lT Γ f with
 |some c=>r9 st r B ls c.ps c.rs c.fresh c.den (c.ps.drop r.length)
 |none=>none
def vC:Leaf->Option (FuncId×List Leaf)
 |.clo f r=>some (f,r.map λb=>.bp b 0)
 |.clr f r=>some (f,r.map eT)
 |_=>none
def b8 (Γ:List Ctr)(st:St):(pk:PK)->aI×List Leaf->Option (Got pk.den)
 |.fn u B,x=>match vC (ck x) with
  |some r=>kJ Γ st u B r.1 r.2
  |none=>be st (.fn u B) x
 |.rd a,x=>be st (.rd a) x
 |.own a,x=>be st (.own a) x
 |.io a,x=>be st (.io a) x
 |.rref a,x=>be st (.rref a) x
 |.rref2 a,x=>be st (.rref2 a) x
 |.iop a,x=>be st (.iop a) x
 |.clo f y,x=>be st (.clo f y) x
 |.hol a c off,x=>be st (.hol a c off) x
def oJ (Γ:List Ctr)(st:St):(ps:List PK)->List (aI×List Leaf)->Option (Got (ab ps)):=a8 (b8 Γ st)
def PK.takes:PK->Bool
 |.own _|.io _=>true
 |_=>false
def PK.isIo:PK->Bool
 |.io _=>true
 |_=>false
def pu:Ty->Nat->Bool
 |.pair a b,j=>bif CA j a.cells then pu a j else pu b (j-a.cells)
 |.list m _ _,j=>m&&BG j 0
 |_,_=>false
def lA (a:Ty):Nat->List Leaf->Option Nat
 |_,[]=>none
 |j,l::r=>bif jr l&&pu a j then some j else lA a (j+1) r
def PK.nest:PK->List Leaf->Option Nat
 |.own a,r=>lA a 0 r
 |.io a,r=>lA a 0 r
 |_,_=>none
def kj:Leaf->Nat×Nat
 |.nal _ ((r,j,_)::_) _ _ _ _ _=>(r,j)
 |_=>(0,0)
def cY (st:St):List PK->List (aI×List Leaf)->Option (Upd×List (aI×List Leaf)×Option (Bool×Nat×Nat))
 |p::y,x::r=>match p.nest x.2 with
  |some k=>(cj st (x.2.getD k .dead)).map λu=>(u.1,(x.1,aT x.2 k u.2)::r,some (p.isIo,kj (x.2.getD k .dead)))
  |none=>(cY st y r).map λu=>(u.1,x::u.2.1,u.2.2)
 |_,r=>some ([],r,none)
section
variable {R:Type}
def lU (st : St) (l : Leaf) (X : Upd -> Leaf -> Option R) : Option R :=
  match l with
  |.nal _ J ep H _ _ _=>bif bq st J ep then (match J,H with
      | [(r, j, _)], some (i, Y, off) => (match (st r).ls.getD j .dead with
        |.own I none O z u=>bif !BG r TMP&&!BG r EPO&&BG Y z.cells then
            (idx u (i:Int)).bind λy=>match bc off z 0 y with
              |some ⟨E,e,M⟩=>X [(r,⟨(st r).ver,(st r).sh,aT (st r).ls j (.own I (some (i,off)) O z u)⟩),(TMP,⟨(st TMP).ver+1,.one,[.own (I&&z.shy) none E e M]⟩),(EPO,bU (st EPO))] (.al TMP 0 ((st TMP).ver+1))
              |Option.none=>Option.none
          else Option.none
        |_=>Option.none)
      |_,_=>Option.none)
    else Option.none
  |_=>Option.none
def kK (st:St):List PK->List (aI×List Leaf)->(Upd->List (aI×List Leaf)->Option (Bool×Nat×Nat)->Option R)->Option R
 |p::z,x::u,r=>match p.nest x.2 with
  |some k=>lU st (x.2.getD k .dead) λU l=>r U ((x.1,aT x.2 k l)::u) (some (p.isIo,kj (x.2.getD k .dead)))
  |none=>kK st z u λU y b=>r U (x::y) b
 |_,u,r=>r [] u none
def iL (st:St):(r:List Ty)->List (aI×List Leaf)->Option (Tup r)
 |[],[]=>some ()
 |a::as,x::u=>bif decide (x.1=bg a.isAgg) then match cN st a x.2 with
   |some (_,y)=>(iL st as u).map (y,·)
   |none=>none
  else none
 |_,_=>none
def RK.isV:RK->Bool
 |.v _|.bv _=>true
 |.box _=>false
def RK.isBv:RK->Bool
 |.bv _=>true
 |_=>false
def gF (st:St)(d:Nat):List RK->Bool
 |[.box _]=>decide ((st (B0+d)).sh=.off)
 |rs=>rs.all RK.isV
def oK (b:Option (Bool×Nat×Nat))(frz kill:List (Nat×Nat))(d:Nat):Bool :=
 match b with
 |some (true,r,j)=>!(kill.any (iv (r,j)))&&!(frz.any (iv (r,j)))&&!BG r d&&!BG r (B0+d)
 |_=>true
def jZ (st:St)(b:Option (Bool×Nat×Nat))(U:Upd)(H:Upd->Option R):Option R :=
 match b with
 |some (true,r,j) =>
  match (ac U st r).ls.getD j .dead,(ac U st TMP).ls with
  |.own p (some (i,off)) M I u,[.own q none E e J]=>(idx u (i:Int)).bind λy=>match bK off E e J I 0 y with
   |some z=>H ((r,⟨(ac U st r).ver,(ac U st r).sh,aT (ac U st r).ls j (.own (p||q) none M I (u.set i z))⟩)::(TMP,⟨(ac U st TMP).ver+1,.off,[]⟩)::(EPO,bU (ac U st EPO))::U)
   |none=>none
  |_,_=>none
 |_=>H U
def js (Γ:List Ctr)(st:St)(d:Nat)(f:FuncId)(xs:List (aI×List Leaf))(J:Upd->Option R):Option R :=
 match lT Γ f with
 |some c=>kK st c.ps xs λu xs b =>
  match oJ Γ (ac u st) c.ps xs with
  |some g=>bif aY g.kill&&dx g.frz g.kill&&gF st d c.rs&&!(g.see.any λq=>g.lend.any (BG q))&&CE g.lend.length 1&&(g.lend.isEmpty||!(c.ps.any PK.isIo))&&((c.fresh&&g.lend.isEmpty)||!(c.rs.any RK.isBv))&&(g.kill.all λk=>!BG k.1 EPO)&&oK b g.frz g.kill d then
   (c.den g.val).bind λy =>
    let H:=(let U:=(bif c.fresh then [] else aE (ac u st) g.frz);aN (ac U (ac u st)) g.kill++U)++u;let z:=aF (ac H st) (g.p&&!c.fresh) c.ps xs y.2++H;let r:=bC d (ac z st (B0+d)).ver (g.p&&!c.fresh) g.p (g.frz.map λk=>(k.1,k.2,(ac z st k.1).ver)) (ac z st EPO).ver c.rs y.1;let I:=r.2++z
    jZ st b ((d,eU ((ac I st d).ver+1) r.1)::I) J
   else none
  |none=>none
 |none=>none
def ak:Nat:=140737488355328
def fQ (st:St)(E:TypeId)(e:Ty)(y:Leaf):Option (cH (List e.den)) :=
 bif e.flat then (dg e (aC st y)).map λx=>⟨false,x.2,[],[],[]⟩
 else bif decide (e.sh=e) then (dg e (aC st y)).map λx=>⟨x.1,x.2,bw st [y],[],[]⟩
 else (cg st (.list true E e) [y]).map λt=>⟨t.p,t.val,t.frz,t.kill,[]⟩
def dP (st u:St)(z:Upd)(d:Nat)(E:TypeId)(e:Ty)(r:Nat)(p:Bool)(xs:List e.den)(ks:List (Nat×Nat))(y:Leaf)(H:Upd->Option R):Option R :=
 match fQ u E e y with
 |some t=>bif aY (t.kill++ks)&&dx t.frz (t.kill++ks)&&decide ((xs.length+t.val.length)*r<=ak) then
   let U:=aE u t.frz
   H (cf st (aN (ac U u) (t.kill++ks)++U++z) d .one [.own (p||t.p) none E e (xs++t.val)])
  else none
 |none=>none
def el (st:St)(z:Upd)(d:Nat)(E:TypeId)(e:Ty)(u:Nat)(x y:Leaf)(J:Upd->Option R):Option R :=
 match x with
 |.al r j v=>match aC (ac z st) (.al r j v) with
  |.own p none H I M=>bif BG H E&&decide (I.sh=e.sh) then dP st (ac z st) z d H I u p M [(r,j)] y J else none
  |_=>none
 |.nil=>dP st (ac z st) z d E e u false [] [] y J
 |_=>none
def iw (st:St)(d:Nat)(E:TypeId)(e:Ty)(r:Nat)(x y:Leaf)(u:Upd->Option R):Option R :=
 bif jr x then lU st x λz x=>el st z d E e r x y u else el st [] d E e r x y u
def dh (st:St)(x:Option Operand)(r:Int):Option Int :=
 match x with
 |none=>some r
 |some l=>match one st l with
  |.int _ n=>some n
  |_=>none
def fq (st:St)(r:List (Nat×Nat×Bool)):List (Nat×Operand)->List Leaf->Option (List Leaf)
 |[],u=>some u
 |(i,x)::y,u=>match r[i]? with
  |some (off,n,agg)=>bif BG (au st x).2.length n&&decide ((au st x).1=bg agg)&&decide (off+n<=u.length) then fq st r y (jB u (au st x).2 off) else none
  |none=>none
def eC (st:St)(e:Ty):Nat->List (Nat×Operand)->Option (cH (List e.den))
  |_,[]=>some ⟨false,[],[],[],[]⟩
  |k,(i,x)::r=>bif BG i k&&decide ((au st x).1=bg e.isAgg) then
      match cg st e (au st x).2,eC st e (k+1) r with
      |some t,some u=>some ⟨t.p||u.p,t.val::u.val,t.frz++u.frz,t.kill++u.kill,[]⟩
      |_,_=>none
    else none
def fF (st:St)(e:Ty):Nat->List Leaf->Option (List e.den)
 |0,_=>some []
 |n+1,r=>match cN st e (r.take e.cells),fF st e n (r.drop e.cells) with
  |some (_,x),some u=>some (x::u)
  |_,_=>none
def su (st:St)(xs:List Operand):Option (List Nat) :=
 xs.foldl (λ (r:Option (List Nat)) x=>r.bind λl=>match one st x with
  |.bp b 0=>some (l++[b])
  |_=>none) (some [])
def wrU (o:Oper)(st:St)(r:Upd->Option R)(sh:aI)(ls:List Leaf):Option R:=match o.dst with
 |some d=>r (cf st [] d sh ls)
 |none=>none
def cI (h:Option (Nat×Nat))(i:Nat):Option Nat:=match h with
 |some (u,r)=>bif BG u i then some r else none
 |none=>none
def holB (h:Option (Nat×Nat))(i:Nat):Option (Bool×Nat):=match h with
 |some (u,r)=>some (BG u i,r)
 |none=>none
theorem lV (p:Bool)(r j v ep i u:Nat)(h:Option (Nat×Nat))(n:Nat):∀ (a:Ty) (off:Nat) (x:a.den),ly p r j v ep i u (holB h n) a off x=gE p r j v ep i u (cI h n) a off x
 |.int _,_,_|.bool,_,_|.str,_,_|.unit,_,_|.hdr,_,_=>rfl
 |.pair a b,off,x=>by
  show _++_=_++_;rw[lV p r j v ep i u h n a,lV p r j v ep i u h n b]
 |.list m E e,off,H=>by
  simp only[ly,gE];congr 2;cases h with
  |none=>rfl
  |some q =>
   obtain⟨z,I⟩:=q;simp only[holB,cI];by_cases y:BG z n=true
   ·simp only[y,Bool.and_true,cond_true,BN];rw[Bool.eq_iff_iff,Nat.beq_eq,decide_eq_true_eq]
   ·simp only[Cb]at y;simp[y]
def gG (st:St)(r j i off:Nat)(n:Nat)(p:Bool)(E:TypeId)(e:Ty)(xs:List e.den)(h:Option (Nat×Nat))(ls:List Leaf)(M:Upd->Option R):Option R :=
 (idx xs (i:Int)).bind λz =>
  match c9 st off n e 0 z ls with
  |some t=>bif t.rest.isEmpty&&aY t.kill&&dx t.frz t.kill&&!((t.kill++t.frz).any λk=>BG k.1 r) then
    let J:=aE st t.frz;let I:=aN (ac J st) t.kill++J;let u (l:Leaf):Option R:=M ((r,⟨(st r).ver,(st r).sh,aT (st r).ls j l⟩)::(EPO,bU (ac I st EPO))::I)
    match h with
    |none=>u (.own (p||t.p) none E e (xs.set i t.val))
    |some (H,y)=>bif CE off y&&CA y (off+n) then (bif BG i H then u (.own (p||t.p) none E e (xs.set i t.val)) else u (.own (p||t.p) (some (H,y)) E e (xs.set i t.val)))
     else u (.own (p||t.p) (some (H,y)) E e (xs.set i t.val))
   else none
  |none=>none
def sa (r:Nat):Bool:=!BG r TMP&&!BG r EPO
def eo (s:ByteArray):List Int:=s.data.toList.map λb=>(b.toNat:Int)
def gH (xs:List Int):ByteArray:=ByteArray.mk (xs.map λn=>UInt8.ofNat n.toNat).toArray
def act (Γ:List Ctr)(T:TypeId->TI)(o:Oper)(st:St)(M:Upd->Option R):Option R :=
 let w (sh:aI) (ls:List Leaf):Option R:=wrU o st M sh ls;let w1 (l:Leaf):Option R:=w .one [l]
 match o.op with
 |.move x=>let v:=au st x;w v.1 v.2
 |.assign x=>match o.dst with
  |some d=>let v:=au st x;bif ib st v.2 then M (cf st (mvU st v.2) d v.1 (dD st v.2)) else none
  |none=>none
 |.pick c a b=>match one st c with
  |.bool t=>bif t then (let v:=au st a;w v.1 v.2) else (let v:=au st b;w v.1 v.2)
  |_=>none
 |.alloc t=>match o.dst with
  |some d=>bif decide ((st (B0+d)).sh=.off)&&!decide ((T t).cells=0) then M ((B0+d,⟨(st (B0+d)).ver+1,.agg,(T t).zero⟩)::cf st [] d .one [.bp (B0+d) 0]) else none
  |none=>none
 |.box t x=>match o.dst with
  |some d=>let v:=au st x
   bif decide ((st (B0+d)).sh=.off)&&decide (v.2.length=(T t).cells)&&decide (v.1=bg (T t).agg)&&ib st v.2 then
    (bif sq st x then M ((B0+d,⟨(st (B0+d)).ver+1,.agg,v.2⟩)::cf st [] d .one [.bp (B0+d) 0])
    else (let U:=mvU st v.2
     M ((B0+d,⟨(ac U st (B0+d)).ver+1,.agg,dD st v.2⟩)::cf st U d .one [.bp (B0+d) 0])))
   else none
  |none=>none
 |.build t H=>match T t with
  |.struct a I=>match fq st I H.toList (eY a) with
   |some ls=>w .agg ls
   |none=>none
  |.arr e n=>match fq st ((B9 n).map λi=>(i*e.cells,e.cells,e.isAgg)) H.toList (BX n (eY e)).flatten with
   |some ls=>w .agg ls
   |none=>none
  |_=>none
 |.buildSlice t n H=>match T t with
  |.slice E e _=>match eC st e 0 H.toList with
   |some u=>bif BG u.val.length n&&decide (n*e.cells<=16777216)&&aY u.kill&&dx u.frz u.kill then (match o.dst with
     |some d=>let U:=aE st u.frz;M (cf st (aN (ac U st) u.kill++U) d .one [.own u.p none E e u.val])
     |none=>none) else none
   |none=>none
  |_=>none
 |.load t x =>
  bif decide ((T t).cells=0) then none else
  match one st x with
  |.rp p a y off=>bif decide (off+(T t).cells<=a.cells) then w (bg (T t).agg) (((cG p a y).drop off).take (T t).cells) else none
  |.bp b off=>bif decide ((st b).sh=.agg)&&decide (off+(T t).cells<=(st b).ls.length) then w (bg (T t).agg) (((bE b (st b).ver 0 (st b).ls).drop off).take (T t).cells) else none
  |.rpp p a y=>bif BG (T t).cells 1&&!(T t).agg then w1 (.rp p a y 0) else none
  |.np p Y ep a y off=>bif bq st Y ep&&decide (off+(T t).cells<=a.cells) then w (bg (T t).agg) (((lx p Y ep a y).drop off).take (T t).cells) else none
  |.ep r j v i sz off=>match aC st (.al r j v) with
   |.own p h _ e z=>bif BG sz e.cells&&decide (off+(T t).cells<=e.cells) then (idx z (i:Int)).bind λy=>w (bg (T t).agg) (((ly p r j v (st EPO).ver i sz (holB h i) e 0 y).drop off).take (T t).cells) else none
   |_=>none
  |_=>none
 |.store t x y=>match o.dst with
  |some _=>none
  |none =>
  let v:=(au st y).2
  bif BG v.length (T t).cells&&decide ((au st y).1=bg (T t).agg)&&!decide ((T t).cells=0) then
   match one st x with
   |.bp b off=>bif decide ((st b).sh=.agg)&&decide (off+v.length<=(st b).ls.length)&&ib st v then
     let U:=mvU st v;let c:=ac U st b
     M ((b,⟨c.ver+1,.agg,jB c.ls (dD st v) off⟩)::U)
    else none
   |.ep r j a0 i sz off=>match aC st (.al r j a0) with
    |.own p h E e z=>bif BG sz e.cells&&decide (off+v.length<=e.cells)&&sa r then gG st r j i off v.length p E e z h v M else none
    |_=>none
   |_=>none
  else none
 |.nilCheck x=>match one st x with
  |.rp p a y off=>w1 (.rp p a y off)
  |.bp b off=>w1 (.bp b off)
  |.ep r j v i sz off=>bif BG (st r).ver v then w1 (.ep r j v i sz off) else none
  |.rpp p a y=>w1 (.rpp p a y)
  |.np p Y ep a y off=>bif bq st Y ep then w1 (.np p Y ep a y off) else none
  |_=>none
 |.binOp op t x y _=>match one st x,one st y with
  |.int k a,.int k' b =>
   match op with
   |.shl=>bif decide (b<0) then none else w1 (.int k (k.wrap (a*2 ^ (min b.toNat k.bits))))
   |.shr=>bif decide (b<0) then none else w1 (.int k (a.fdiv (2 ^ (min b.toNat k.bits))))
   |.quo=>bif decide (b=0) then none else bif decide (k=k') then w1 (.int k (k.wrap (a.tdiv b))) else none
   |.rem=>bif decide (b=0) then none else bif decide (k=k') then w1 (.int k (a.tmod b)) else none
   |.and=>bif decide (k=k') then w1 (.int k (k.wrap ((BitVec.ofInt k.bits a &&& BitVec.ofInt k.bits b).toNat))) else none
   |.xor=>bif decide (k=k') then w1 (.int k (k.wrap ((BitVec.ofInt k.bits a ^^^ BitVec.ofInt k.bits b).toNat))) else none
   |_=>bif decide (k=k') then (match sr op k a b with|some l=>w1 l|none=>none) else none
  |.bool a,.bool b=>match T t with
   |.bool=>match op with
    |.eql=>w1 (.bool (a==b))
    |.neq=>w1 (.bool (a != b))
    |_=>none
   |_=>none
  |.str a,.str b=>match op with
   |.eql=>w1 (.bool (a.toList==b.toList))
   |.neq=>w1 (.bool (a.toList != b.toList))
   |.add=>bif decide (a.size+b.size<=9223372036854775807) then w1 (.str (a++b)) else none
   |_=>none
  |_,_=>match T t with
   |.struct a _=>bif a.flat&&decide ((au st x).1=.agg)&&decide ((au st y).1=.agg) then
     match cN st a (au st x).2,cN st a (au st y).2 with
     |some (_,u),some (_,v)=>match op with
      |.eql=>w1 (.bool (a.eqv u v))
      |.neq=>w1 (.bool (!a.eqv u v))
      |_=>none
     |_,_=>none
    else none
   |_=>none
 |.unOp op _ x=>match op,one st x with
  |.not,.bool b=>w1 (.bool (!b))
  |.neg,.int k n=>w1 (.int k (k.wrap (0-n)))
  |_,_=>none
 |.convert s t x=>match T s,T t,one st x with
  |.int _,.int k,.int _ n=>w1 (.int k (k.wrap n))
  |.slice _ (.int .u8) _,.str,l=>match dg (.int .u8) (aC st l) with
   |some (_,z)=>w1 (.str (gH z))
   |none=>none
  |.str,.slice E (.int .u8) _,.str s=>w1 (.own false none E (.int .u8) (eo s))
  |_,_,_=>none
 |.makeSlice t n c=>match T t,one st n,one st c with
  |.slice E e X,.int _ a,.int _ b =>
   bif decide (0<=a)&&decide (a=b)&&decide (a*X<=ak) then w1 (.own false none E e (BX a.toNat e.zero)) else none
  |_,_,_=>none
 |.slice t x lo hi mx=>match mx,o.dst with
  |none,some d=>match dh st lo 0 with
   |none=>none
   |some i=>match T t,aC st (one st x) with
    |.str,.str s=>(match dh st hi s.size with
     |some h=>bif decide (0<=i)&&decide (i<=h)&&decide (h<=(s.size:Int)) then M (cf st [] d .one [.str (s.extract i.toNat h.toNat)]) else none
     |none=>none)
    |.slice _ O _,.nal p Y ep _ E e z=>(match dh st hi z.length with
     |some h=>bif decide (0<=i)&&decide (i<=h)&&decide (h<=(z.length:Int))&&BG O.cells e.cells then
       M (cf st [] d .one [.nal p Y ep none E e ((z.take h.toNat).drop i.toNat)]) else none
     |none=>none)
    |.slice _ O _,.ro p E e z=>(match dh st hi z.length with
     |some h=>bif decide (0<=i)&&decide (i<=h)&&decide (h<=(z.length:Int))&&BG O.cells e.cells then
       M (cf st [] d .one [.ro p E e ((z.take h.toNat).drop i.toNat)]) else none
     |none=>none)
    |.slice _ O _,.own p none E e z=>(match dh st hi z.length with
     |some h=>bif decide (0<=i)&&decide (i<=h)&&decide (h<=(z.length:Int))&&BG O.cells e.cells then
       (match one st x with
       |.al r j v=>M (cf st [] d .one [.nal p [(r,j,v)] (st EPO).ver none E e ((z.take h.toNat).drop i.toNat)])
       |_=>none) else none
     |none=>none)
    |_,_=>none
  |some m,some d=>match lo,T t,one st x with
   |none,.slice _ O _,.al r j v=>(match aC st (.al r j v) with
    |.own p none E e z=>(match dh st hi z.length,dh st (some m) 0 with
     |some h,some k=>bif hi.isSome&&decide (h=(z.length:Int))&&decide (k=(z.length:Int))&&BG O.cells e.cells then M (cf st (aN st [(r,j)]) d .one [.own p none E e z]) else none
     |_,_=>none)
    |_=>none)
   |_,_,_=>none
  |_,_=>none
 |.fieldAddr t x f=>match T t with
  |.struct _ I=>match I[f]? with
   |some (off,_,_)=>match one st x with
    |.rp p a y o'=>w1 (.rp p a y (o'+off))
    |.bp b o'=>w1 (.bp b (o'+off))
    |.ep r j v i sz o'=>bif BG (st r).ver v then w1 (.ep r j v i sz (o'+off)) else none
    |.np p Y ep a y o'=>bif bq st Y ep then w1 (.np p Y ep a y (o'+off)) else none
    |_=>none
   |none=>none
  |_=>none
 |.field t x f=>match T t with
  |.struct a I=>match I[f]? with
   |some (off,n,agg)=>bif decide ((au st x).1=.agg)&&decide ((au st x).2.length=a.cells) then w (bg agg) (((au st x).2.drop off).take n) else none
   |none=>none
  |_=>none
 |.indexAddr t x i=>match one st i with
  |.int _ n=>match T t with
   |.arr e Z=>match one st x with
    |.bp b off=>bif decide (0<=n)&&decide (n<(Z:Int)) then w1 (.bp b (off+n.toNat*e.cells)) else none
    |_=>none
   |.slice _ e _=>match one st x with
    |.al r j v=>match aC st (.al r j v) with
     |.own _ _ _ O z=>bif BG O.cells e.cells then (idx z n).bind λ_=>w1 (.ep r j v n.toNat O.cells 0) else none
     |_=>none
    |.ro p _ O z=>bif BG O.cells e.cells then (idx z n).bind λy=>w1 (.rp p O y 0) else none
    |.nal p Y ep _ _ O z=>bif BG O.cells e.cells&&bq st Y ep then (idx z n).bind λy=>w1 (.np p Y ep O y 0) else none
    |_=>none
   |_=>none
  |_=>none
 |.index t x i=>match one st i with
  |.int _ n=>match T t with
   |.str=>match one st x with
    |.str s=>(idx s.data.toList n).bind λy=>w1 (.int .u8 y.toNat)
    |_=>none
   |.arr e Z=>bif e.flat&&decide ((au st x).1=.agg)&&BG (au st x).2.length (Z*e.cells)&&!BG e.cells 0 then (match fF st e Z (au st x).2 with
     |some vs=>(idx vs n).bind λy=>w (bg e.isAgg) (cG false e y)
     |none=>none) else none
   |_=>none
  |_=>none
 |.extract x i=>match au st x with
  |(.tup ps,ls)=>match ps[i]? with
   |some (agg,n)=>w (bg agg) ((ls.drop ((ps.take i).foldl (λa b=>a+b.2) 0)).take n)
   |none=>none
  |_=>none
 |.makeFunc (.func f) first J=>bif BG first.size 0 then
   match su st J.toList with
   |some l=>w1 (.clo f l)
   |none=>none
  else none
 |.call c=>match o.dst with
  |none=>none
  |some d=>match c.callee with
   |.value f =>
    let z:=c.args.toList.map (au st)
    match one st f with
    |.clo g J=>js Γ st d g (z++J.map λb=>(.one,[.bp b 0])) M
    |.clr g J=>js Γ st d g (z++J.map λc=>(.one,[eT c])) M
    |.fn As B φ=>bif B.flat then match iL st As z with
      |some x=>(φ x).bind λy=>w (bg B.isAgg) (aq false B y)
      |none=>none
     else none
    |_=>none
   |.builtin .len=>match c.args.toList with
    |[x]=>match c.argTypes.toList with
     |[t]=>match T t,aC st (one st x) with
      |.slice _ _ _,l=>(match fY l with
       |some n=>w1 (.int .i64 n)
       |none=>none)
      |.str,.str s=>w1 (.int .i64 s.size)
      |_,_=>none
     |_=>none
    |_=>none
   |.builtin .append=>match c.args.toList,c.argTypes.toList with
    |[x,y],[t,u]=>match T t with
     |.slice E e X=>bif BG t u then iw st d E e X (one st x) (one st y) M else none
     |_=>none
    |_,_=>none
   |.builtin .min=>match c.args.toList with
    |[x,y]=>match one st x,one st y with
     |.int k a,.int _ b=>w1 (.int k (bif decide (b<a) then b else a))
     |_,_=>none
    |_=>none
   |.builtin .max=>match c.args.toList with
    |[x,y]=>match one st x,one st y with
     |.int k a,.int _ b=>w1 (.int k (bif decide (a<b) then b else a))
     |_,_=>none
    |_=>none
   |_=>none
 |_=>none
def ay:List Leaf->List Nat
 |[]=>[]
 |.al r _ _::u=>r::ay u
 |.ep r _ _ _ _ _::u=>EPO::r::ay u
 |.nal _ z _ _ _ _ _::u=>EPO::z.map (·.1)++ay u
 |.np _ z _ _ _ _::u=>EPO::z.map (·.1)++ay u
 |.bp b _::u=>b::ay u
 |.clo _ y::u=>y++ay u
 |_::u=>ay u
def iy (xs:List Operand):List Nat :=
 match xs with
 |[]=>[]
 |.tmp t::xs=>t::iy xs
 |_::xs=>iy xs
def kL (st:St)(r:List Nat):List Nat :=
 let a:=r.flatMap λt=>ay (st t).ls
 let b:=a.flatMap λt=>ay (st t).ls
 let c:=b.flatMap λt=>ay (st t).ls
 r++a++b++c
def cl (st:St)(u:Op):List Nat :=
 let r:=iy u.operands.toList
 match u with
 |.move _|.pick _ _ _|.build _ _|.field _ _ _|.extract _ _|.makeFunc _ _ _|.unOp _ _ _|.makeSlice _ _ _|.alloc _=>r
 |.slice _ _ _ _ _=>EPO::(r++r.flatMap λt=>aw (st t).ls)
 |.assign _|.box _ _|.buildSlice _ _ _|.indexAddr _ _ _|.nilCheck _|.fieldAddr _ _ _|.convert _ _ _|.binOp _ _ _ _ _|.index _ _ _=>r++r.flatMap λt=>aw (st t).ls
 |.load _ _|.store _ _ _=>r++r.flatMap λt=>ay (st t).ls
 |.call c=>match c.callee with
  |.builtin _=>TMP::(r++r.flatMap λt=>aw (st t).ls)
  |_=>TMP::EPO::kL st r
 |_=>kL st r
def zE (o:Oper):List Nat:=match o.dst with
 |some d=>[d,B0+d]
 |none=>[]
def eZ (st:St)(u:Op):List Nat :=
 let r:=iy u.operands.toList
 match u with
 |.move _=>r
 |.indexAddr _ _ _=>r++r.flatMap λt=>aw (st t).ls
 |_=>[]
def ft (st:St)(o:Oper):List Nat:=(match o.op with|.move _|.indexAddr _ _ _=>[]|op=>cl st op)++zE o
def dX (st:St)(o:Oper):List Nat:=match o.op with
 |.store _ x _=>match one st x with
  |.ep r _ _ _ _ _=>[r]
  |_=>[]
 |_=>[]
structure cJ where
 rd:List Nat
 hd:List Nat
 wr:List Nat
 cw:List Nat
def lW (a b:List Nat):Bool:=a.any λx=>b.any λy=>BG x y
def cJ.apart (x y:cJ):Bool:=!lW (x.wr++x.cw) (y.wr++y.cw)&&!lW (x.wr++x.cw) y.rd&&!lW x.rd (y.wr++y.cw)&&!lW x.wr y.hd&&!lW x.hd y.wr
def jP:List Oper->List Nat->List Nat
 |[],r=>r
 |o::u,r=>jP u (r++[o.after.toList.foldl (λs e=>bif Region.binds .any e then s ||| 2 ^ e.on ||| r.getD e.on 0 else s) 0])
def pv (r:List Nat)(u:List cJ):Bool :=
 (B9 u.length).all λj=>(B9 j).all λi =>
  (r.getD j 0).testBit i||(match u[i]?,u[j]? with
   |some x,some y=>x.apart y
   |_,_=>false)
def lit (st:St)(t:Nat)(b:Bool):St:=ac [(t,⟨(st t).ver,.one,[.bool b]⟩)] st
def eO (st:St)(o:Oper):Upd :=
 match o.dst with
 |some d=>[(d,⟨(st d).ver+1,.und,[]⟩)]
 |none=>[]
def opK (Γ:List Ctr)(T:TypeId->TI)(z:Array Oper)(o:Oper)(st:St)(H:St->cJ->Option R):Option R :=
 let y (st:St) (r:List Nat):Option R:=act Γ T o st (λU=>H (ac U st) ⟨r++ft st o,eZ st o.op,(U.map (·.1)).filter (λq=>!((dX st o).any (BG q))),dX st o⟩);let no (st:St) (r:List Nat):Option R:=H (ac (eO st o) st) ⟨r,[],o.dst.toList,[]⟩
 match o.guard with
 |none=>y st []
 |some (j,u)=>match (z[j]?).bind (·.dst) with
  |some t=>match (st t).sh,(st t).ls with
   |.one,[.bool b]=>bif b then (bif u then y (lit st t true) [t] else no (lit st t true) [t]) else (bif u then no (lit st t false) [t] else y (lit st t false) [t])
   |.und,_=>no st [t]
   |_,_=>none
  |none=>none
def qn (Γ:List Ctr)(T:TypeId->TI)(u:Array Oper):List Oper->St->List cJ->(St->List cJ->Option R)->Option R
 |[],z,y,I=>I z y
 |o::r,z,y,I=>opK Γ T u o z (λH t=>qn Γ T u r H (y++[t]) I)
def nK (ops:Array Oper):Bool:=(B9 ops.size).all λi=>match ops[i]? with
 |some o=>o.after.toList.all λe=>!Region.binds .any e||decide (e.on<i)
 |none=>true
def regK (Γ:List Ctr)(T:TypeId->TI)(ops:Array Oper)(u:Bool)(st:St)(y:St->Option R):Option R :=
 bif u then
  qn Γ T ops ops.toList st [] (λr z=>bif nK ops&&pv (jP ops.toList []) z then y r else none)
 else qn Γ T ops ops.toList st [] (λr _=>y r)
inductive Ex where
 |normal|exit (id:Nat)|ret
def oL (y:St->(Ex->St->Option R)->Option R)(u:Ex->St->Option R):Ex->St->Option R
 |.normal,r=>y r u
 |e,r=>u e r
def sv (id:Nat)(y:Ex->St->Option R):Ex->St->Option R
 |.exit r,u=>bif BG r id then y .normal u else y (.exit r) u
 |e,u=>y e u
def av (L:List (Nat×bP)):St:=λq=>ac L (λ_=>bP.none) q
inductive Coe where
 |keep|kill
 |own (p:Bool) (E:TypeId) (e:Ty)|ro (p:Bool) (E:TypeId) (e:Ty)|rp (p:Bool)
def bu (st:St)(live:List Nat):Coe->Leaf->Leaf
 |.kill,_=>.dead
 |.own p E e,.nil=>.own p none E e []
 |.own p _ _,.own q none E e y=>bif !q||p then .own p none E e y else .dead
 |.ro p E e,.nil=>.ro p E e []
 |.ro p E e,.ro q _ H y=>bif !q||p then (match castSh e H y with | some z=>.ro p E e z | none=>.dead) else .dead
 |.ro p E e,.own q none _ H y=>bif !q||p then (match castSh e H y with | some z=>.ro p E e z | none=>.dead) else .dead
 |.rp p,.rpp q a x=>bif !q||p then .rpp p a x else .dead
 |.rp p,.rp q a x off=>bif !q||p then .rp p a x off else .dead
 |.keep,.int k n=>.int k n
 |.keep,.bool b=>.bool b
 |.keep,.str s=>.str s
 |.keep,.nil=>.nil
 |.keep,.hdr n=>.hdr n
 |.keep,.fn J B I=>.fn J B I
 |.keep,.clr f M=>.clr f M
 |.keep,.bp b off=>bif live.any (BG b) then .bp b off else .dead
 |.keep,.clo f u=>bif u.all (λb=>live.any (BG b)) then .clo f u else .dead
 |.keep,.al r j v=>bif live.any (BG r)&&BG (st r).ver v then .al r j 0 else .dead
 |_,_=>.dead
def cZ (st:St)(live:List Nat):List Coe->List Leaf->List Leaf
 |c::u,l::r=>bu st live c l::cZ st live u r
 |[],_::r=>.dead::cZ st live [] r
 |_,[]=>[]
def lX (live:List (Nat×List Coe))(st:St):St:=av (live.map λr=>(r.1,⟨0,(st r.1).sh,cZ st (live.map (·.1)) r.2 (st r.1).ls⟩))
def hI (live:List (Nat×List Coe))(rec:St->Option R)(u:Ex->St->Option R):Ex->St->Option R
 |.normal,r=>rec (lX live r)
 |e,r=>u e r
def aW (live:List (Nat×List Coe))(u:St->(Ex->St->Option R)->Option R):Nat->St->(Ex->St->Option R)->Option R
 |0,_,_=>none
 |k+1,z,y=>u z (hI live (λr=>aW live u k r y) y)
def eV:Code->Nat
 |.region id _ _=>id+1
 |.seq a b=>match eV a with
  |0=>eV b
  |n=>n
 |.cond _ a b=>match eV a with
  |0=>eV b
  |n=>n
 |.block _ c=>eV c
 |.loop c=>eV c
 |.scope c=>eV c
 |_=>0
def lB (L:List (Nat×List (Nat×List Coe)))(k:Nat):List (Nat×List Coe):=match L with
 |[]=>[]
 |(n,l)::r=>bif BG n k then l else lB r k
def zF (st:St)(c:Operand)(r no:St->Option R):Option R :=
 match c with
 |.tmp t=>match (st t).sh,(st t).ls with
  |.one,[.bool b]=>bif b then r (lit st t true) else no (lit st t false)
  |_,_=>none
 |.const (.bool b)=>bif b then r st else no st
 |_=>none
def evK (Γ:List Ctr)(T:TypeId->TI)(L:List (Nat×List (Nat×List Coe)))(r:Nat):Code->St->(Ex->St->Option R)->Option R
 |.skip,u,z=>z .normal u
 |.region _ I H,u,z=>regK Γ T I H u (z .normal)
 |.seq a b,u,z=>evK Γ T L r a u (oL (evK Γ T L r b) z)
 |.cond c x y,u,z=>zF u c (λu=>evK Γ T L r x u z) (λu=>evK Γ T L r y u z)
 |.block id c,u,z=>evK Γ T L r c u (sv id z)
 |.loop c,u,z=>aW (lB L (eV c)) (evK Γ T L r c) r (lX (lB L (eV c)) u) z
 |.exit id,u,z=>z (.exit id) u
 |.ret,u,z=>z .ret u
 |_,_,_=>none
def sub:Code->List Nat->Code
 |.seq a _,0::p=>sub a p
 |.seq _ b,1::p=>sub b p
 |.cond _ x _,0::p=>sub x p
 |.cond _ _ y,1::p=>sub y p
 |.block _ c,0::p=>sub c p
 |.loop c,0::p=>sub c p
 |c,_=>c
def kAt (u:Code->St->(Ex->St->Option R)->Option R):Code->List Nat->(Ex->St->Option R)->Ex->St->Option R
 |.seq a b,0::p,r=>kAt u a p (oL (u b) r)
 |.seq _ b,1::p,r=>kAt u b p r
 |.cond _ x _,0::p,r=>kAt u x p r
 |.cond _ _ y,1::p,r=>kAt u y p r
 |.block id c,0::p,r=>kAt u c p (sv id r)
 |_,_,r=>r
def cA (fn:Func):Code:=match fn.body with
 |some c=>c
 |none=>.skip
def ae {A:Type}(step:(A->Option R)->A->Option R):Nat->A->Option R
 |0,_=>none
 |k+1,a=>step (ae step k) a
theorem k7 {A:Type}(live:List (Nat×List Coe))(r:St->(Ex->St->Option R)->Option R)(u:Ex->St->Option R)(S:A->St)
  (step:(A->Option R)->A->Option R) (h:∀ (rec:St->Option R) (a:A),r (S a) (hI live rec u)=step (λa=>rec (S a)) a) :
  ∀ (k:Nat) (a:A),aW live r k (S a) u=ae step k a
 |0,_=>rfl
 |k+1,a=>by
  have y:=k7 live r u S step h k;simp only[aW,ae];rw[h];exact congrArg (λg=>step g a) (funext y)
abbrev wr (k:IntKind)(n:Int):Int:=k.wrap n
def aO (k:IntKind)(a b:Int):Int:=k.wrap ((BitVec.ofInt k.bits a &&& BitVec.ofInt k.bits b).toNat)
def qo (k:IntKind)(a b:Int):Int:=k.wrap ((BitVec.ofInt k.bits a ^^^ BitVec.ofInt k.bits b).toNat)
def j0 (p:Bool):(cs:List (Bool×Ty))->lS cs->List (Bool×Bool×(a:Ty)×a.den)
 |[],_=>[]
 |c::cs,x=>(p,c.1,⟨c.2,x.1⟩)::j0 p cs x.2
def uO (i off:Nat):Leaf->Leaf
 |.own p _ E e r=>.own p (some (i,off)) E e r
 |l=>l
def c5 (t:Nat):(ps:List PK)->ab ps->Upd
 |[],_=>[]
 |.rd a::ps,x=>(t,⟨0,bg a.isAgg,cG true a x.1⟩)::c5 (t+1) ps x.2
 |.own a::ps,x=>(t,⟨0,bg a.isAgg,aq true a x.1⟩)::c5 (t+1) ps x.2
 |.io a::ps,x=>(t,⟨7,bg a.isAgg,aq true a x.1⟩)::c5 (t+1) ps x.2
 |.rref a::ps,x=>(t,⟨0,.one,[.rp true a x.1 0]⟩)::c5 (t+1) ps x.2
 |.rref2 a::ps,x=>(t,⟨0,.one,[.rpp true a x.1]⟩)::c5 (t+1) ps x.2
 |.iop a::ps,x=>(t,⟨0,.one,[.bp (B0+t) 0]⟩)::(B0+t,⟨0,.agg,aq true a x.1⟩)::c5 (t+1) ps x.2
 |.fn u B::ps,x=>(t,⟨0,.one,[.fn u B x.1]⟩)::c5 (t+1) ps x.2
 |.clo f r::ps,x=>(t,⟨0,.one,[.clr f (j0 true r x.1)]⟩)::c5 (t+1) ps x.2
 |.hol a c off::ps,x=>(t,⟨0,bg a.isAgg,aT (aq true a x.1.1) c (uO x.1.2 off ((aq true a x.1.1).getD c .dead))⟩)::c5 (t+1) ps x.2
def ic (st:St)(t:Nat):(ps:List PK)->Option (cH (ah ps))
 |[]=>some ⟨false,(),[],[],[]⟩
 |.io a::ps=>match (bif decide ((au st (.tmp t)).1=bg a.isAgg) then cg st a (au st (.tmp t)).2 else none),ic st (t+1) ps with
  |some x,some y=>some ⟨x.p||y.p,(x.val,y.val),x.frz++y.frz,x.kill++y.kill,[]⟩
  |_,_=>none
 |.iop a::ps=>match cg st a (bE (B0+t) (st (B0+t)).ver 0 (st (B0+t)).ls),ic st (t+1) ps with
  |some x,some y=>some ⟨x.p||y.p,(x.val,y.val),x.frz++y.frz,x.kill++y.kill,[]⟩
  |_,_=>none
 |.rd _::ps=>ic st (t+1) ps
 |.own _::ps=>ic st (t+1) ps
 |.rref _::ps=>ic st (t+1) ps
 |.rref2 _::ps=>ic st (t+1) ps
 |.fn _ _::ps=>ic st (t+1) ps
 |.clo _ _::ps=>ic st (t+1) ps
 |.hol _ _ _::ps=>ic st (t+1) ps
def vD (st:St)(T:TypeId->TI):ResultVar->List Leaf
 |.tmp t=>(au st (.tmp t)).2
 |.cell t r=>match one st (.tmp t) with
  |.bp b off=>((bE b (st b).ver 0 (st b).ls).drop off).take (T r).cells
  |_=>[]
def pw (st:St)(T:TypeId->TI):ResultVar->aI
 |.tmp t=>(au st (.tmp t)).1
 |.cell t r=>match one st (.tmp t) with
  |.bp b off=>bif decide ((st b).sh=.agg)&&CE (off+(T r).cells) (st b).ls.length&&!BG (T r).cells 0 then bg (T r).agg else .off
  |_=>.off
def RK.sh:RK->aI
 |.v a=>bg a.isAgg
 |.bv a=>bg a.isAgg
 |.box _=>.one
def bF (t:Nat):List PK->List Nat
 |[]=>[]
 |.iop _::r=>(B0+t)::bF (t+1) r
 |_::r=>bF (t+1) r
def gj (t:Nat):List PK->List Nat
 |[]=>[]
 |.io _::r=>t::gj (t+1) r
 |.iop _::r=>t::gj (t+1) r
 |_::r=>gj (t+1) r
def sb (st:St)(z:List Nat):(r:RK)->List Leaf->Option (cH r.den)
 |.v a,u=>cg st a u
 |.bv a,u=>(cN st a u).map λy=>⟨false,y.2,bw st u,[],[]⟩
 |.box a,u=>match u with
  |[.bp b 0]=>bif !(z.any (BG b)) then cg st a (bE b (st b).ver 0 (st b).ls) else none
  |_=>none
def kp (st:St)(T:TypeId->TI)(H:List Nat):(u:List RK)->List ResultVar->Option (cH (ai u))
 |[],[]=>some ⟨false,(),[],[],[]⟩
 |r::u,x::I=>bif decide (pw st T x=r.sh) then match sb st H r (vD st T x),kp st T H u I with
  |some y,some z=>some ⟨y.p||z.p,(y.val,z.val),y.frz++z.frz,y.kill++z.kill,[]⟩
  |_,_=>none else none
 |_,_=>none
def finR (T:TypeId->TI)(ps:List PK)(z:List RK)(r:Bool)(u:List ResultVar)(st:St):Option (ai z×ah ps) :=
 match kp st T (bF 0 ps) z u,ic st 0 ps with
 |some y,some o=>bif aY (y.kill++o.kill)&&dx (y.frz++o.frz) (y.kill++o.kill)&&(!r||!(y.p||o.p)) then some (y.val,o.val) else none
 |_,_=>none
def cS (T:TypeId->TI)(ps:List PK)(y:List RK)(r:Bool)(u:List ResultVar):Ex->St->Option (ai y×ah ps)
 |.exit _,_=>none
 |_,z=>finR T ps y r u z
def lC (nt:Nat)(fix:List Nat)(r:Array Oper)(o:Oper):Bool :=
 (match o.dst with
  |some d=>CA d nt&&!(fix.any (BG d))
  |none=>true) &&
 (match o.guard with
  |some (j,_)=>match (r[j]?).bind (·.dst) with
   |some s=>CA s nt
   |none=>true
  |none=>true)
def wO (nt:Nat):Operand->Bool
 |.tmp t=>CA t nt
 |_=>true
def dK (nt:Nat)(fix:List Nat):Code->Bool
 |.region _ r _=>r.toList.all (lC nt fix r)
 |.seq a b=>dK nt fix a&&dK nt fix b
 |.cond c a b=>wO nt c&&dK nt fix a&&dK nt fix b
 |.block _ c=>dK nt fix c
 |.loop c=>dK nt fix c
 |_=>true
def qp:List RK->Bool
 |[.box _]=>true
 |rs=>rs.all RK.isV
def dj (L:List (Nat×List (Nat×List Coe)))(u:List Nat):Code->Bool
 |.seq a b=>dj L u a&&dj L u b
 |.cond _ a b=>dj L u a&&dj L u b
 |.block _ c=>dj L u c
 |.loop c=>(u.all λb=>(lB L (eV c)).any λr=>BG r.1 b)&&dj L u c
 |_=>true
def evF (Γ:List Ctr)(T:TypeId->TI)(L:List (Nat×List (Nat×List Coe)))(u:Nat)(fn:Func)(ps:List PK)(y:List RK)(r:Bool)(x:ab ps):Option (ai y×ah ps) :=
 match fn.body with
 |some c=>bif dK fn.ntmps (gj 0 ps) c&&CE ps.length fn.ntmps&&CE fn.ntmps GH&&qp y&&dj L (bF 0 ps) c then
  evK Γ T L u c (av (c5 0 ps x)) (cS T ps y r fn.results.toList) else none
 |none=>none
end
def e8 (e:Ty)(r:Nat)(xs:List e.den):Option ((List e.den×Unit)×Unit):=bif decide ((0+xs.length)*r<=ak) then some ((xs,()),()) else none
theorem j8 (e:Ty)(r:Nat):e8 e r []=some (([],()),()):=by
 unfold e8;simp[ak]
def jQ:Code->Nat->Oper
 |.region _ r _,i=>(r[i]?).getD ⟨none,.move (.tmp 0),0,"",#[],none⟩
 |_,_=>⟨none,.move (.tmp 0),0,"",#[],none⟩
def iz (e:Ty)(r:Nat)(xs:List e.den)(i:Int)(u:List e.den):Option ((List e.den×Unit)×Unit) :=
 if 0<=i/\i<=(xs.length:Int)/\0<u.length/\(xs.length+u.length)*r<=ak then some ((xs.take i.toNat++u++xs.drop i.toNat,()),()) else none
def lY {α:Type}(u:α×Unit->Option Bool):List α->Option (List α)
 |[]=>some []
 |x::y=>(u (x,())).bind λb=>(lY u y).map λr=>bif b then r else x::r
def gI (e:Ty)(xs:List e.den)(r:e.den×Unit->Option Bool):Option ((List e.den×Unit)×Unit):=if xs.length<=1048576 then (lY r xs).map λu=>((u,()),()) else none
abbrev Ty.hd:Ty->Ty
 |.pair a b=>.pair a.hd b.hd
 |.list _ _ _=>.hdr
 |a=>a
abbrev hdD:(a:Ty)->a.den->a.hd.den
 |.pair a b,x=>(hdD a x.1,hdD b x.2)
 |.list _ _ e,r=>List.length (α:=e.den) r
 |.int _,x=>x
 |.bool,x=>x
 |.str,x=>x
 |.unit,x=>x
 |.hdr,x=>x
noncomputable def qq (e:Ty)(r:Nat)(xs:List e.den):Option ((List e.hd.den×Unit)×Unit):=(e8 e r xs).map λy=>((y.1.1.map (hdD e),()),())
def insI (n:Int):List Int->List Int
 |[]=>[n]
 |m::r=>if n<=m then n::m::r else m::insI n r
def zG:List Int->List Int
 |[]=>[]
 |n::r=>insI n (zG r)
def medianM (xs:List Int):Option ((Int×Unit)×Unit) :=
 let l:=zG (xs.drop (xs.length-3))
 some ((l.getD ((l.length-1) / 2) 0,()),())
def aV {R:Type}(x y:ByteArray)(k:ByteArray->Option R):Option R:=bif decide (x.size+y.size<=9223372036854775807) then k (x++y) else none
open Go.RowKit
def cV (w:World)(g off:Nat)(cs:List Value):Prop:=∀ i v,cs[i]?=some v->w.cell? ⟨g,off+i,none⟩=some v
theorem cV.same {w w':World}{g off:Nat}{cs:List Value}(h:cV w g off cs)(r:w'.heap[g]?=w.heap[g]?):cV w' g off cs:=by
 intro i v u;have:=h i v u;simpa[Cl,r]using this
def Rd (w:World)(G:Nat->Prop):(a:Ty)->a.den->List Value->Prop
 |.int k,n,r=>r=[.int k n]
 |.bool,b,r=>r=[.bool b]
 |.str,s,r=>r=[.string s]
 |.unit,_,r=>r=[]
 |.hdr,n,r=>∃ A u,r=[.slice A n u]
 |.pair a b,x,r=>∃ z H,r=z++H/\Rd w G a x.1 z/\Rd w G b x.2 H
 |.list _ _ e,y,r=>∃ A u,r=[.slice A y.length u]/\y.length<=u /\
  (0<y.length->∃ g o,A=some ⟨g,o,none⟩/\G g/\∀ j (x:e.den),y[j]?=some x->∃ c,Rd w G e x c/\cV w g (o+j*e.cells) c)
theorem Rd.carry {w w':World}{G G':Nat->Prop}(r:∀ k,G k->G' k)(u:∀ k,G k->w'.heap[k]?=w.heap[k]?) :
  ∀ {a:Ty} {x:a.den} {cs:List Value},Rd w G a x cs->Rd w' G' a x cs
 |.int _,_,_,h=>h
 |.bool,_,_,h=>h
 |.str,_,_,h=>h
 |.unit,_,_,h=>h
 |.hdr,_,_,h=>h
 |.pair _ _,_,_,⟨J,c2,e,I,O⟩=>⟨J,c2,e,Rd.carry r u I,Rd.carry r u O⟩
 |.list _ _ _,_,_,⟨A,y,e,R,h⟩=>⟨A,y,e,R,λX=>by
   obtain⟨g,o,Z,H,Y⟩:=h X;exact⟨g,o,Z,r g H,λj x M=>by
    obtain⟨c,hr,z⟩:=Y j x M;exact⟨c,Rd.carry r u hr,z.same (u g H)⟩⟩⟩
theorem Rd.mono {w:World}{G G':Nat->Prop}(r:∀ k,G k->G' k){a:Ty}{x:a.den}{cs:List Value}(h:Rd w G a x cs):Rd w G' a x cs :=
 Rd.carry r (λ_ _=>rfl) h
theorem Rd.len {w:World}{G:Nat->Prop}:∀ {a:Ty} {x:a.den} {cs:List Value},Rd w G a x cs->cs.length=a.cells
 |.int _,_,_,h=>by rw[show _=_ from h];rfl
 |.bool,_,_,h=>by rw[show _=_ from h];rfl
 |.str,_,_,h=>by rw[show _=_ from h];rfl
 |.unit,_,_,h=>by rw[show _=_ from h];rfl
 |.hdr,_,_,⟨A,r,e⟩=>by rw[e];rfl
 |.pair _ _,_,_,⟨z,H,e,u,y⟩=>by rw[e,CT,Rd.len u,Rd.len y];rfl
 |.list _ _ _,_,_,⟨A,r,e,_,_⟩=>by rw[e];rfl
theorem Rd.one {w:World}{G:Nat->Prop}:∀ {a:Ty} {x:a.den} {cs:List Value},Rd w G a x cs->∀ v∈cs,v.oneCell'=true
 |.int _,_,_,h=>by rw[show _=_ from h];simp[BQ]
 |.bool,_,_,h=>by rw[show _=_ from h];simp[BQ]
 |.str,_,_,h=>by rw[show _=_ from h];simp[BQ]
 |.unit,_,_,h=>by rw[show _=_ from h];simp
 |.hdr,_,_,⟨A,u,e⟩=>by rw[e];simp[BQ]
 |.pair _ _,_,_,⟨H,I,e,y,z⟩=>by
  rw[e];intro v r;rcases BT.1 r with r|r
  ·exact Rd.one y v r
  ·exact Rd.one z v r
 |.list _ _ _,_,_,⟨A,u,e,_,_⟩=>by rw[e];simp[BQ]
theorem Rd.flat {w w':World}{G G':Nat->Prop}:∀ {a:Ty} {x:a.den} {cs:List Value},a.flat=true->Rd w G a x cs->Rd w' G' a x cs
 |.int _,_,_,_,h=>h
 |.bool,_,_,_,h=>h
 |.str,_,_,_,h=>h
 |.unit,_,_,_,h=>h
 |.hdr,_,_,_,h=>h
 |.pair _ _,_,_,r,⟨y,z,e,u,H⟩=>by
  simp only[Ty.flat,BJ]at r;exact⟨y,z,e,Rd.flat r.1 u,Rd.flat r.2 H⟩
theorem ig:∀ {a b:Ty},a.sh=b.sh->a.cells=b.cells
 |.pair a b,.pair c d,h=>by
  simp only[Ty.sh,Ty.pair.injEq]at h;simp only[Ty.cells,ig h.1,ig h.2]
 |.int _,.int _,_|.int _,.bool,_|.int _,.str,_|.int _,.hdr,_|.int _,.list _ _ _,_=>rfl
 |.bool,.int _,_|.bool,.bool,_|.bool,.str,_|.bool,.hdr,_|.bool,.list _ _ _,_=>rfl
 |.str,.int _,_|.str,.bool,_|.str,.str,_|.str,.hdr,_|.str,.list _ _ _,_=>rfl
 |.hdr,.int _,_|.hdr,.bool,_|.hdr,.str,_|.hdr,.hdr,_|.hdr,.list _ _ _,_=>rfl
 |.list _ _ _,.int _,_|.list _ _ _,.bool,_|.list _ _ _,.str,_|.list _ _ _,.hdr,_|.list _ _ _,.list _ _ _,_=>rfl
 |.unit,.unit,_=>rfl
theorem sw {A u B r:Type}(H:A=u)(z:B=r){x:A×B}{y:u×r}(h:HEq x y):HEq x.1 y.1/\HEq x.2 y.2:=by
 subst H;subst z;cases h;exact⟨HEq.rfl,HEq.rfl⟩
theorem sx {A u:Type}(z:A=u){xs:List A}{r:List u}(h:HEq xs r):xs.length=r.length/\∀ (j:Nat) (y:u),r[j]?=some y->∃ x:A,xs[j]?=some x/\HEq x y:=by
 subst z;cases h;exact⟨rfl,λj y H=>⟨y,H,HEq.rfl⟩⟩
theorem Rd.flags {w:World}{G:Nat->Prop}:∀ {a b:Ty} {x:a.den} {y:b.den} {cs:List Value},a.sh=b.sh->HEq x y->Rd w G a x cs->Rd w G b y cs
 |.pair a b,.pair c d,x,y,cs,h,r,⟨M,c2,e,u,I⟩=>by
  simp only[Ty.sh,Ty.pair.injEq]at h;obtain⟨H,z⟩:=sw (jA h.1) (jA h.2) r;exact⟨M,c2,e,Rd.flags h.1 H u,Rd.flags h.2 z I⟩
 |.list _ _ e,.list _ _ e',xs,ys,cs,h,r,⟨A,J,u,I,H⟩=>by
  simp only[Ty.sh,Ty.list.injEq,true_and]at h;obtain⟨z,R⟩:=sx (jA h.2) r;refine⟨A,J,by rw[<- z];exact u,by rw[<- z];exact I,λY=>?_⟩;obtain⟨g,o,hA,X,hx⟩:=H (by rw[z];exact Y);refine⟨g,o,hA,X,λj y O=>?_⟩;obtain⟨x,Z,h7⟩:=R j y O;obtain⟨c,h8,h9⟩:=hx j x Z;rw[<- ig h.2];exact⟨c,Rd.flags h.2 h7 h8,h9⟩
 |.int k,.int k',x,y,cs,h,r,u=>by
  simp only[Ty.sh]at h
  grind
 |.bool,.bool,x,y,cs,h,r,u=>by cases r;exact u
 |.str,.str,x,y,cs,h,r,u=>by cases r;exact u
 |.unit,.unit,x,y,cs,h,r,u=>u
 |.hdr,.hdr,x,y,cs,h,r,u=>by cases r;exact u
def Row (w:World)(E:TypeId)(s:Nat)(v:Value)(n:Nat)(flat:List Value):Prop :=
 flat.length=n*s/\((v=.slice none 0 0/\n=0) \/
  ∃ g u r mk,v=.slice (some ⟨g,0,none⟩) n u/\w.heap[g]?=some (.cells r E mk)/\n<=u/\(mk=(0,0)/\u<=maxLen\/s=1/\r.size<=mk.1)/\u*s<=r.size/\r.toList.take (n*s)=flat)
theorem Row.of {w:World}{b:Nat}{E:TypeId}{s n:Nat}{v:Value}{flat:List Value}(h:w.ownsRow b E s v n flat):Row w E s v n flat:=by
 refine⟨h.1,h.2.imp id ?_⟩
 grind
theorem Row.same {w w':World}{E:TypeId}{s n:Nat}{v:Value}{flat:List Value}(h:Row w E s v n flat)(z:∀ k∈v.ownBlock.toList,w'.heap[k]?=w.heap[k]?):Row w' E s v n flat:=by
 refine⟨h.1,?_⟩;rcases h.2 with I|⟨g,y,u,mk,rfl,H,r⟩
 ·grind
 ·exact .inr ⟨g,y,u,mk,rfl,by rw[z g (by simp[B7])];exact H,r⟩
theorem Row.lt {w:World}{E:TypeId}{s n:Nat}{v:Value}{flat:List Value}(h:Row w E s v n flat):∀ k∈v.ownBlock.toList,k<w.heap.size:=by
 intro k r;rcases h.2 with ⟨rfl,_⟩|⟨g,y,u,_,rfl,z,_⟩
 ·simp[B7]at r
 ·simp[B7]at r
  grind
theorem Row.slice {w:World}{E:TypeId}{s n:Nat}{v:Value}{flat:List Value}(h:Row w E s v n flat):∃ A r,v=.slice A n r/\n<=r:=by
 rcases h.2 with ⟨rfl,y⟩|⟨g,r,u,_,rfl,_,z,_⟩
 ·grind
 ·grind
theorem Row.nil (w:World)(E:TypeId)(s:Nat):Row w E s (.slice none 0 0) 0 []:=⟨by simp,.inl ⟨rfl,rfl⟩⟩
theorem Row.cellAt {w:World}{E:TypeId}{s n g z:Nat}{flat:List Value}(h:Row w E s (.slice (some ⟨g,0,none⟩) n z) n flat)(j:Nat)(I:j<n*s):w.cell? ⟨g,j,none⟩=flat[j]?:=by
 rcases h.2 with ⟨y,_⟩|⟨M,H,u,mk,y,J,_,_,_,r⟩
 ·grind
 ·simp at y;obtain⟨rfl,rfl⟩:=y;rw[cell_of_row w g j u E mk J,<- r,BV,if_pos I];simp
theorem zH {mk:Nat×Nat}{s z c:Nat}(h:mk=(0,0)/\c<=maxLen\/s=1/\z<=mk.1):mk.2=0\/z<=mk.1:=h.imp (λh=>by rw[h.1]) (·.2)
theorem qX {w:World}{g j:Nat}{cs:Array Value}{E:TypeId}{mk:Nat×Nat}(r:w.heap[g]?=some (.cells cs E mk))(y:mk.2=0\/cs.size<=mk.1)(u:j<cs.size):w.frozen? ⟨g,j,none⟩=false:=by
 simp only[World.frozen?,r,Bool.and_eq_false_iff,decide_eq_false_iff_not];omega
def Mx (w:World)(G:Nat->Prop):(a:Ty)->Option Nat->Nat->a.den->List Value->List Nat->Prop
 |.int k,_,_,n,y,r=>y=[.int k n]/\r=[]
 |.bool,_,_,b,y,r=>y=[.bool b]/\r=[]
 |.str,_,_,s,y,r=>y=[.string s]/\r=[]
 |.unit,_,_,_,y,r=>y=[]/\r=[]
 |.hdr,_,_,n,y,r=>(∃ A J,y=[.slice A n J])/\r=[]
 |.pair a b,h,pos,x,y,r=>∃ M X O R,y=M++X/\r=O++R/\Mx w G a h pos x.1 M O/\Mx w G b h (pos+a.cells) x.2 X R
 |.list m E e,h,pos,I,y,r=>∃ v,y=[v]/\v.oneCell'=true /\
  (if m=true then (if h=some pos then r=[] else ∃ z H,Row w E e.cells v I.length z/\r=v.ownBlock.toList++(B9 I.length).flatMap H /\
    ∀ j (x:e.den),I[j]?=some x->∃ c,Mx w G e none 0 x c (H j)/\∀ i u,c[i]?=some u->z[j*e.cells+i]?=some u)
   else r=[]/\Rd w G (.list m E e) I [v])
def OwB (w:World)(G:Nat->Prop)(h:Option (Nat×Nat))(E:TypeId)(e:Ty)(xs:List e.den)(v:Value)(bs:List Nat):Prop :=
 ∃ r y,Row w E e.cells v xs.length r/\bs=v.ownBlock.toList++(B9 xs.length).flatMap y /\
  ∀ j (x:e.den),xs[j]?=some x->∃ c,Mx w G e (cI h j) 0 x c (y j)/\∀ i u,c[i]?=some u->r[j*e.cells+i]?=some u
def OwH (w:World)(G:Nat->Prop)(h:Option (Nat×Nat))(E:TypeId)(e:Ty)(xs:List e.den)(v:Value)(bs:List Nat):Prop:=bs.Nodup/\OwB w G h E e xs v bs
abbrev Ow (w:World)(G:Nat->Prop)(E:TypeId)(e:Ty)(xs:List e.den)(v:Value)(bs:List Nat):Prop:=OwH w G none E e xs v bs
theorem OwB.one {w:World}{G:Nat->Prop}{h:Option (Nat×Nat)}{E:TypeId}{e:Ty}{xs:List e.den}{v:Value}{bs:List Nat}(H:OwB w G h E e xs v bs):v.oneCell'=true:=by
 obtain⟨r,y,u,_⟩:=H;obtain⟨A,z,rfl,_⟩:=u.slice;rfl
theorem bH {w:World}{G:Nat->Prop}{h:Option Nat}{E:TypeId}{e:Ty}{pos:Nat}{xs:List e.den}{cs:List Value}{bs:List Nat}(r:h≠some pos) :
  Mx w G (.list true E e) h pos xs cs bs<->∃ v,cs=[v]/\OwB w G none E e xs v bs:=by
 simp only[Mx,if_neg r];constructor
 ·rintro⟨v,h1,h2,h3⟩;exact⟨v,h1,h3⟩
 ·rintro⟨v,h1,h3⟩;exact⟨v,h1,h3.one,h3⟩
theorem jc {w:World}{G:Nat->Prop}{E:TypeId}{e:Ty}{pos:Nat}{xs:List e.den}{cs:List Value}{bs:List Nat} :
  Mx w G (.list true E e) (some pos) pos xs cs bs<->∃ v,cs=[v]/\v.oneCell'=true/\bs=[]:=by
 simp only[Mx,if_true]
theorem cm {w:World}{G:Nat->Prop}{h:Option Nat}{E:TypeId}{e:Ty}{pos:Nat}{xs:List e.den}{cs:List Value}{bs:List Nat} :
  Mx w G (.list false E e) h pos xs cs bs<->bs=[]/\Rd w G (.list false E e) xs cs:=by
 simp only[Mx];constructor
 ·grind
 ·rintro⟨h1,h2⟩;obtain⟨A,r,u,y⟩:=h2;exact⟨_,u,rfl,h1,A,r,rfl,y⟩
theorem dQ {n:Nat}{r:Nat->List Nat}{k:Nat}:k∈(B9 n).flatMap r<->∃ j,j<n/\k∈r j:=by simp
theorem Mx.carry {w w':World}{G G':Nat->Prop}(I:∀ k,G k->G' k)(J:∀ k,G k->w'.heap[k]?=w.heap[k]?) :
  ∀ {a:Ty} {h:Option Nat} {pos:Nat} {x:a.den} {cs:List Value} {bs:List Nat},(∀ k∈bs,w'.heap[k]?=w.heap[k]?)->Mx w G a h pos x cs bs->Mx w' G' a h pos x cs bs
 |.int _,_,_,_,_,_,_,h=>h
 |.bool,_,_,_,_,_,_,h=>h
 |.str,_,_,_,_,_,_,h=>h
 |.unit,_,_,_,_,_,_,h=>h
 |.hdr,_,_,_,_,_,_,h=>h
 |.pair _ _,_,_,_,_,_,u,⟨c1,c2,b1,b2,X,O,M,z⟩=>⟨c1,c2,b1,b2,X,O,Mx.carry I J (λk r=>u k (by rw[O];exact BM _ r)) M,Mx.carry I J (λk r=>u k (by rw[O];exact BL _ r)) z⟩
 |.list m E e,h,pos,xs,cs,bs,u,H=>by
  cases m with
  |false =>
   rw[cm]at H ⊢;exact⟨H.1,H.2.carry I J⟩
  |true =>
   by_cases Z:h=some pos
   ·subst Z;rw[jc]at H ⊢;exact H
   ·rw[bH Z]at H ⊢;obtain⟨v,X,y,R,M,z,h3⟩:=H;refine⟨v,X,y,R,M.same (λk r=>u k (by rw[z];exact BM _ r)),z,λj x Y=>?_⟩;obtain⟨c,h4,h5⟩:=h3 j x Y;refine⟨c,?_,h5⟩;exact Mx.carry I J (λk r=>u k (by rw[z];exact BL _ (dQ.2 ⟨j,(BI.1 Y).1,r⟩))) h4
theorem Mx.mono {w:World}{G G':Nat->Prop}(r:∀ k,G k->G' k){a:Ty}{h:Option Nat}{pos:Nat}{x:a.den}{cs:List Value}{bs:List Nat}(H:Mx w G a h pos x cs bs):Mx w G' a h pos x cs bs :=
 Mx.carry r (λ_ _=>rfl) (λ_ _=>rfl) H
theorem OwB.carry {w w':World}{G G':Nat->Prop}{h:Option (Nat×Nat)}{E:TypeId}{e:Ty}{xs:List e.den}{v:Value}{bs:List Nat}(H:OwB w G h E e xs v bs)
  (R:∀ k,G k->G' k) (Y:∀ k,G k->w'.heap[k]?=w.heap[k]?) (J:∀ k∈bs,w'.heap[k]?=w.heap[k]?):OwB w' G' h E e xs v bs:=by
 obtain⟨r,z,M,y,O⟩:=H;refine⟨r,z,M.same (λk u=>J k (by rw[y];exact BM _ u)),y,λj x I=>?_⟩;obtain⟨c,Z,X⟩:=O j x I;exact⟨c,Mx.carry R Y (λk u=>J k (by rw[y];exact BL _ (dQ.2 ⟨j,(BI.1 I).1,u⟩))) Z,X⟩
theorem OwH.carry {w w':World}{G G':Nat->Prop}{h:Option (Nat×Nat)}{E:TypeId}{e:Ty}{xs:List e.den}{v:Value}{bs:List Nat}(H:OwH w G h E e xs v bs)
 (u:∀ k,G k->G' k) (y:∀ k,G k->w'.heap[k]?=w.heap[k]?) (r:∀ k∈bs,w'.heap[k]?=w.heap[k]?):OwH w' G' h E e xs v bs:=⟨H.1,H.2.carry u y r⟩
theorem Mx.len {w:World}{G:Nat->Prop}:∀ {a:Ty} {h:Option Nat} {pos:Nat} {x:a.den} {cs:List Value} {bs:List Nat},Mx w G a h pos x cs bs->cs.length=a.cells
 |.int _,_,_,_,_,_,h=>by rw[h.1];rfl
 |.bool,_,_,_,_,_,h=>by rw[h.1];rfl
 |.str,_,_,_,_,_,h=>by rw[h.1];rfl
 |.unit,_,_,_,_,_,h=>by rw[h.1];rfl
 |.hdr,_,_,_,_,_,⟨⟨A,y,e⟩,_⟩=>by rw[e];rfl
 |.pair _ _,_,_,_,_,_,⟨H,O,I,M,z,J,r,u⟩=>by rw[z,CT,r.len,u.len];rfl
 |.list _ _ _,_,_,_,_,_,⟨v,e,_⟩=>by rw[e];rfl
theorem Mx.one {w:World}{G:Nat->Prop}:∀ {a:Ty} {h:Option Nat} {pos:Nat} {x:a.den} {cs:List Value} {bs:List Nat},Mx w G a h pos x cs bs->∀ v∈cs,v.oneCell'=true
 |.int _,_,_,_,_,_,h=>by rw[h.1];simp[BQ]
 |.bool,_,_,_,_,_,h=>by rw[h.1];simp[BQ]
 |.str,_,_,_,_,_,h=>by rw[h.1];simp[BQ]
 |.unit,_,_,_,_,_,h=>by rw[h.1];simp
 |.hdr,_,_,_,_,_,⟨⟨A,z,e⟩,_⟩=>by rw[e];simp[BQ]
 |.pair _ _,_,_,_,_,_,⟨I,R,J,O,H,M,u,y⟩=>by
  rw[H];intro v r;rcases BT.1 r with r|r
  ·exact u.one v r
  ·exact y.one v r
 |.list _ _ _,_,_,_,_,_,⟨v,e,u,_⟩=>by rw[e];simpa using u
theorem Mx.lt {w:World}{G:Nat->Prop}:∀ {a:Ty} {h:Option Nat} {pos:Nat} {x:a.den} {cs:List Value} {bs:List Nat},Mx w G a h pos x cs bs->∀ k∈bs,k<w.heap.size
 |.int _,_,_,_,_,_,h=>by rw[h.2];simp
 |.bool,_,_,_,_,_,h=>by rw[h.2];simp
 |.str,_,_,_,_,_,h=>by rw[h.2];simp
 |.unit,_,_,_,_,_,h=>by rw[h.2];simp
 |.hdr,_,_,_,_,_,h=>by rw[h.2];simp
 |.pair _ _,_,_,_,_,_,⟨Z,c2,b1,b2,Y,O,u,y⟩=>by
  rw[O];intro k r;rcases BT.1 r with r|r
  ·exact u.lt k r
  ·exact y.lt k r
 |.list m E e,h,pos,xs,cs,bs,H=>by
  cases m with
  |false=>rw[cm]at H;rw[H.1];simp
  |true =>
   by_cases I:h=some pos
   ·subst I;rw[jc]at H
    grind
   ·rw[bH I]at H;obtain⟨v,Y,z,X,u,y,M⟩:=H;rw[y];intro k r;rcases BT.1 r with r|r
    ·exact u.lt k r
    ·obtain⟨j,J,r⟩:=dQ.1 r;obtain⟨c,R,_⟩:=M j _ (BK J);exact R.lt k r
theorem OwB.lt {w:World}{G:Nat->Prop}{h:Option (Nat×Nat)}{E:TypeId}{e:Ty}{xs:List e.den}{v:Value}{bs:List Nat}(H:OwB w G h E e xs v bs):∀ k∈bs,k<w.heap.size:=by
 obtain⟨u,O,y,J,I⟩:=H;rw[J];intro k r;rcases BT.1 r with r|r
 ·exact y.lt k r
 ·obtain⟨j,z,r⟩:=dQ.1 r;obtain⟨c,M,_⟩:=I j _ (BK z);exact M.lt k r
theorem OwH.lt {w:World}{G:Nat->Prop}{h:Option (Nat×Nat)}{E:TypeId}{e:Ty}{xs:List e.den}{v:Value}{bs:List Nat}(H:OwH w G h E e xs v bs):∀ k∈bs,k<w.heap.size:=H.2.lt
theorem OwH.nodup {w:World}{G:Nat->Prop}{h:Option (Nat×Nat)}{E:TypeId}{e:Ty}{xs:List e.den}{v:Value}{bs:List Nat}(H:OwH w G h E e xs v bs):bs.Nodup:=H.1
theorem OwH.slice {w:World}{G:Nat->Prop}{h:Option (Nat×Nat)}{E:TypeId}{e:Ty}{xs:List e.den}{v:Value}{bs:List Nat}(H:OwH w G h E e xs v bs) :
  ∃ A r,v=.slice A xs.length r/\xs.length<=r:=by
 obtain⟨_,u,z,y,_⟩:=H;exact y.slice
theorem OwH.one {w:World}{G:Nat->Prop}{h:Option (Nat×Nat)}{E:TypeId}{e:Ty}{xs:List e.den}{v:Value}{bs:List Nat}(H:OwH w G h E e xs v bs):v.oneCell'=true:=H.2.one
theorem sy {w:World}{m:Bool}{E E':TypeId}{e:Ty}{xs:List e.den}{v:Value}{flat:List Value}{S:Nat->Prop}(H:Row w E e.cells v xs.length flat)(hS:∀ k∈v.ownBlock.toList,S k)
  (M:∀ j (x:e.den),xs[j]?=some x->∃ c,Rd w S e x c/\∀ i u,c[i]?=some u->flat[j*e.cells+i]?=some u):Rd w S (.list m E' e) xs [v]:=by
 rcases H.2 with ⟨rfl,J⟩|⟨g,y,r,mk,rfl,R,O,hm,hs,Z⟩
 ·exact⟨none,0,by rw[J],by omega,λhp=>by omega⟩
 ·refine⟨some ⟨g,0,none⟩,y,rfl,O,λ_=>⟨g,0,rfl,hS g (by simp[B7]),λj x I=>?_⟩⟩;obtain⟨c,Y,z⟩:=M j x I;refine⟨c,Y,λi u X=>?_⟩;have:=z i u X;rw[<- Z,BV]at this;split at this
  ·rw[CW,cell_of_row w g _ r E mk R]
   simp_all
  ·grind
theorem Mx.rd {w:World}{G S:Nat->Prop}(y:∀ k,G k->S k):∀ {a:Ty} {pos:Nat} {x:a.den} {cs:List Value} {bs:List Nat},(∀ k∈bs,S k)->Mx w G a none pos x cs bs->Rd w S a x cs
 |.int _,_,_,_,_,_,h=>h.1
 |.bool,_,_,_,_,_,h=>h.1
 |.str,_,_,_,_,_,h=>h.1
 |.unit,_,_,_,_,_,h=>h.1
 |.hdr,_,_,_,_,_,h=>h.1
 |.pair _ _,_,_,_,_,u,⟨Z,c2,b1,b2,O,Y,I,z⟩=>⟨Z,c2,O,Mx.rd y (λk r=>u k (by rw[Y];exact BM _ r)) I,Mx.rd y (λk r=>u k (by rw[Y];exact BL _ r)) z⟩
 |.list m E e,pos,xs,cs,bs,u,H=>by
  cases m with
  |false=>rw[cm]at H;exact H.2.mono y
  |true =>
   rw[bH (by simp)]at H;obtain⟨v,O,X,M,I,z,h3⟩:=H;rw[O];refine sy I (λk r=>u k (by rw[z];exact BM _ r)) λj x R=>?_
   obtain⟨c,h4,h5⟩:=h3 j x R;have J:Mx w G e none 0 x c (M j):=h4;exact⟨c,Mx.rd y (λk r=>u k (by rw[z];exact BL _ (dQ.2 ⟨j,(BI.1 R).1,r⟩))) J,h5⟩
theorem OwH.rd {w:World}{G:Nat->Prop}{m:Bool}{E E':TypeId}{e:Ty}{xs:List e.den}{v:Value}{bs:List Nat}(H:Ow w G E e xs v bs) :
  Rd w (λk=>G k\/k∈bs) (.list m E' e) xs [v]:=by
 obtain⟨_,I,y,M,J,O⟩:=H;refine sy M (λk r=>.inr (by rw[J];exact BM _ r)) λj x z=>?_
 obtain⟨c,X,R⟩:=O j x z;have u:Mx w G e none 0 x c (y j):=X;exact⟨c,u.rd (λk r=>.inl r) (λk r=>.inr (by rw[J];exact BL _ (dQ.2 ⟨j,(BI.1 z).1,r⟩))),R⟩
theorem OwH.nil (w:World)(G:Nat->Prop)(E:TypeId)(e:Ty):Ow w G E e [] (.slice none 0 0) [] :=
 ⟨List.nodup_nil,[],λ_=>[],Row.nil w E e.cells,rfl,λj x r=>by simp at r⟩
theorem Rd.nil (w:World)(G:Nat->Prop)(m:Bool)(E:TypeId)(e:Ty):Rd w G (.list m E e) [] [.slice none 0 0] :=
 ⟨none,0,rfl,BO _,λh=>by simp at h⟩
theorem Mx.flat {w w':World}{G G':Nat->Prop}:∀ {a:Ty} {h:Option Nat} {pos:Nat} {x:a.den} {cs:List Value},a.flat=true->Rd w G a x cs->Mx w' G' a h pos x cs []
 |.int _,_,_,_,_,_,h=>⟨h,rfl⟩
 |.bool,_,_,_,_,_,h=>⟨h,rfl⟩
 |.str,_,_,_,_,_,h=>⟨h,rfl⟩
 |.unit,_,_,_,_,_,h=>⟨h,rfl⟩
 |.hdr,_,_,_,_,_,h=>⟨h,rfl⟩
 |.pair _ _,_,_,_,_,r,⟨y,z,e,u,H⟩=>by
  simp only[Ty.flat,BJ]at r;exact⟨y,z,[],[],e,rfl,Mx.flat r.1 u,Mx.flat r.2 H⟩
theorem Mx.shared {w:World}{G:Nat->Prop}:∀ {a:Ty} {h:Option Nat} {pos:Nat} {x:a.den} {cs:List Value},a.sh=a->Rd w G a x cs->Mx w G a h pos x cs []
 |.int _,_,_,_,_,_,h=>⟨h,rfl⟩
 |.bool,_,_,_,_,_,h=>⟨h,rfl⟩
 |.str,_,_,_,_,_,h=>⟨h,rfl⟩
 |.unit,_,_,_,_,_,h=>⟨h,rfl⟩
 |.hdr,_,_,_,_,_,h=>⟨h,rfl⟩
 |.pair _ _,_,_,_,_,r,⟨y,z,e,u,H⟩=>by
  simp only[Ty.sh,Ty.pair.injEq]at r;exact⟨y,z,[],[],e,rfl,Mx.shared r.1 u,Mx.shared r.2 H⟩
 |.list m E e,_,_,_,_,r,h=>by
  simp only[Ty.sh,Ty.list.injEq]at r;obtain⟨rfl,_⟩:=r;exact cm.2 ⟨rfl,h⟩
def da (agg:Bool)(v:Value)(cs:List Value):Prop:=if agg then v=.agg cs.toArray else cs=[v]
def sd (w:World)(G:Nat->Prop):(y:List Ty)->Tup y->List Value->Prop
 |[],_,u=>u=[]
 |a::as,x,u=>∃ v c r,u=v::r/\da a.isAgg v c/\Rd w G a x.1 c/\sd w G as x.2 r
def fR (P:Program)(f:FuncId):Prop:=∀ (r:Array Value) (w:World),(callFunc f r).run P w=.ok (.enter f r) w
def ii (P:Program)(w0:World)(S:Nat->Prop)(H:List Ty)(B:Ty)(I:Tup H->Option B.den)(v:Value):Prop :=
 ∃ f z,v=.func (.func f) #[] z/\fR P f /\
  ∀ w1:World,w0.heap.size<=w1.heap.size->(∀ k,S k->w1.heap[k]?=w0.heap[k]?) ->
   ∀ (x:Tup H) (r:List Value) (y:B.den),sd w1 (λk=>k<w1.heap.size) H x r->I x=some y ->
    Calls P f (r.toArray++z) w1 (λe w2=>∃ u c,e=.returned u/\da B.isAgg u c/\Rd w2 (λ_=>False) B y c/\Below w1.heap.size w1 w2)
structure Env where
 w0:World
 ro0:Nat->Prop
 own0:List Nat
 nt:Nat
 fixb:List (Nat×Nat)
 fixt:List (Nat×Value)
def Env.prot (V:Env)(k:Nat):Prop:=k<V.w0.heap.size/\k∉V.own0
structure Wit where
 β:Nat->Nat
 cs:Nat->List Value
 bs:Nat->Nat->List Nat
 nw:Nat->Prop
def gd (V:Env)(W:Wit)(p:Bool)(k:Nat):Prop:=W.nw k\/(p=true/\V.ro0 k)
def am:Leaf->Prop
 |.own _ _ _ _ _=>True
 |_=>False
def RpOk (V:Env)(W:Wit)(w:World)(p:Bool)(a:Ty)(x:a.den)(off:Nat)(v:Value):Prop :=
 ∃ g o c,v=.pointer (some ⟨g,o+off,none⟩)/\(W.nw g\/V.prot g)/\Rd w (gd V W p) a x c/\cV w g o c
def se (V:Env)(W:Wit)(w:World)(p:Bool)(a:Ty)(x:a.den)(v:Value):Prop :=
 ∃ b r g o c,v=.pointer (some ⟨b,r,none⟩)/\(W.nw b\/V.prot b)/\w.cell? ⟨b,r,none⟩=some (.pointer (some ⟨g,o,none⟩)) /\
  (W.nw g\/V.prot g)/\Rd w (gd V W p) a x c/\cV w g o c
def iM (V:Env)(W:Wit)(w:World)(c:Bool×Bool×(a:Ty)×a.den)(v:Value):Prop :=
 if c.2.1=true then se V W w c.1 c.2.2.1 c.2.2.2 v else RpOk V W w c.1 c.2.2.1 c.2.2.2 0 v
def sf (st:St)(ks:List (Nat×Nat×Nat)):Prop:=∀ k∈ks,∃ l,(st k.1).ls[k.2.1]?=some l/\am l
structure sg (V:Env) (W:Wit) (w:World) (p:Bool) (ks:List (Nat×Nat×Nat)) (loc:Option (Nat×Nat×Nat)) (E:TypeId) (e:Ty) (xs:List e.den) (v:Value):Prop where
 rd:Rd w (λb=>gd V W p b\/∃ k∈ks,b∈W.bs k.1 k.2.1) (.list false E e) xs [v]
 at_:∀ i sz off,loc=some (i,sz,off)->∃ r j n,ks=[(r,j,n)]/\∃ g len cap,(W.cs r)[j]?=some (.slice (some ⟨g,0,none⟩) len cap)/\i<len/\g∈W.bs r j/\w.cell? ⟨g,i*sz+off,none⟩=some v
structure NpOk (V:Env) (W:Wit) (w:World) (p:Bool) (ks:List (Nat×Nat×Nat)) (a:Ty) (x:a.den) (off:Nat) (v:Value):Prop where
 rd:∃ g o c,v=.pointer (some ⟨g,o+off,none⟩)/\(gd V W p g\/∃ k∈ks,g∈W.bs k.1 k.2.1)/\Rd w (λb=>gd V W p b\/∃ k∈ks,b∈W.bs k.1 k.2.1) a x c/\cV w g o c
def aK (P:Program)(V:Env)(W:Wit)(st:St)(w:World)(bs:List Nat):Leaf->Value->Prop
 |.int k n,v=>v=.int k n
 |.bool b,v=>v=.bool b
 |.str s,v=>v=.string s
 |.nil,v=>v=.slice none 0 0
 |.hdr n,v=>∃ A H,v=.slice A n H
 |.ro p E e I,v=>Rd w (gd V W p) (.list false E e) I [v]
 |.own p h E e I,v=>OwH w (gd V W p) h E e I v bs
 |.al r j n,v=>n<=(st r).ver/\((st r).ver=n->(W.cs r)[j]?=some v)
 |.nal p z ep O E e I,v=>ep<=(st EPO).ver/\(∀ k∈z,k.2.2<=(st k.1).ver)/\((st EPO).ver=ep->(∀ k∈z,(st k.1).ver=k.2.2)->sf st z->sg V W w p z O E e I v)
 |.ep r j n i Y off,v=>n<=(st r).ver/\((st r).ver=n->∃ g J H,(W.cs r)[j]?=some (.slice (some ⟨g,0,none⟩) J H)/\i<J/\v=.pointer (some ⟨g,i*Y+off,none⟩))
 |.np p z ep a x off,v=>ep<=(st EPO).ver/\(∀ k∈z,k.2.2<=(st k.1).ver)/\((st EPO).ver=ep->(∀ k∈z,(st k.1).ver=k.2.2)->sf st z->NpOk V W w p z a x off v)
 |.rp p a x off,v=>RpOk V W w p a x off v
 |.rpp p a x,v=>se V W w p a x v
 |.bp b off,v=>B0<=b/\(st b).sh=.agg/\v=.pointer (some ⟨W.β b,off,none⟩)
 |.clo f y,v=>v=.func (.func f) #[] (y.map λb=>Value.pointer (some ⟨W.β b,0,none⟩)).toArray/\∀ b∈y,B0<=b/\(st b).sh=.agg
 |.clr f y,v=>∃ M:List Value,v=.func (.func f) #[] M.toArray/\M.length=y.length/\∀ (i:Nat) (c:Bool×Bool×(a:Ty)×a.den) (u:Value),y[i]?=some c->M[i]?=some u->iM V W w c u
 |.fn X B R,v=>ii P V.w0 V.prot X B R v
 |.dead,_=>True
def pz:List (Bool×Nat)->List Value->List Value->Prop
 |[],y,z=>y=[]/\z=[]
 |(agg,n)::H,y,z=>∃ v u c r,y=v::u/\z=c++r/\c.length=n/\da agg v c/\pz H u r
def d9:aI->Value->List Value->Prop
 |.off,_,r=>r=[]
 |.und,v,r=>v=undef/\r=[]
 |.one,v,r=>r=[v]
 |.agg,v,r=>v=.agg r.toArray
 |.tup y,v,r=>∃ u,v=.tuple u.toArray/\pz y u r
def live (st:St)(b:Nat):Prop:=B0<=b/\(st b).sh=.agg
structure an (P:Program) (V:Env) (W:Wit) (st:St) (a:Act) (w:World):Prop where
 nt:a.tmps.size=V.nt
 df:a.defers=[]
 slots:∀ t,t<GH->d9 (st t).sh (a.tmps.getD t undef) (W.cs t)
 boxes:∀ b,B0<=b->((st b).sh=.off/\(st b).ls=[])\/((st b).sh=.agg/\∃ E,w.heap[W.β b]?=some (.cells (W.cs b).toArray E (0,0)))
 len:∀ r,(st r).ls.length=(W.cs r).length
 one:∀ r,∀ v∈W.cs r,v.oneCell'=true
 leaf:∀ r j l v,(st r).ls[j]?=some l->(W.cs r)[j]?=some v->aK P V W st w (W.bs r j) l v
 ownb:∀ r j l,(st r).ls[j]?=some l->am l->∀ k∈W.bs r j,¬ W.nw k/\¬ V.prot k/\∀ b,live st b->W.β b≠k
 sep:∀ r j l r' j' l',(st r).ls[j]?=some l->am l->(st r').ls[j']?=some l'->am l'->∀ k,k∈W.bs r j->k∈W.bs r' j'->r=r'/\j=j'
 box:∀ b,live st b->¬ W.nw (W.β b)/\¬ V.prot (W.β b)
 inj:∀ b b',live st b->live st b'->W.β b=W.β b'->b=b'
 nwlt:∀ k,W.nw k->k<w.heap.size/\¬ V.prot k
 os:w.os=V.w0.os
 tape:w.tape=V.w0.tape
 output:w.output=V.w0.output
 size:V.w0.heap.size<=w.heap.size
 keep:∀ k,V.prot k->w.heap[k]?=V.w0.heap[k]?
 fixb:∀ x∈V.fixb,live st x.1/\W.β x.1=x.2
 fixt:∀ x∈V.fixt,a.tmps.getD x.1 undef=x.2
def Rel (P:Program)(V:Env)(st:St)(a:Act)(w:World):Prop:=∃ W,an P V W st a w
structure ax (V:Env):Prop where
 ro:∀ k,V.ro0 k->V.prot k
 nt:V.nt<=GH
theorem ax.ntB {V:Env}(h:ax V):V.nt<=B0:=BR h.nt (by decide)
section
variable {P:Program} {V:Env} {W W':Wit} {st st':St} {w w':World}
theorem bT {p q:Bool}(u:p=true->q=true)(y:∀ k,W.nw k->W'.nw k):∀ k,gd V W p k->gd V W' q k:=by
 intro k r;rcases r with r|⟨z,r⟩
 ·exact .inl (y k r)
 ·exact .inr ⟨u z,r⟩
structure cB (V:Env) (W W':Wit) (st st':St) (w w':World):Prop where
 ver:∀ r,(st r).ver<=(st' r).ver/\((st' r).ver=(st r).ver->W'.cs r=W.cs r)
 box:∀ b,live st b->live st' b/\W'.β b=W.β b
 nw:∀ k,W.nw k->W'.nw k
 heap:∀ k,(W.nw k\/V.prot k)->w'.heap[k]?=w.heap[k]?
 epo:(st' EPO).ver=(st EPO).ver->∀ (r j:Nat) (l:Leaf),(st' r).ls[j]?=some l->am l->(st' r).ver=(st r).ver ->
  (∃ l',(st r).ls[j]?=some l'/\am l')/\W'.bs r j=W.bs r j/\∀ k∈W.bs r j,w'.heap[k]?=w.heap[k]?
theorem cB.refl (V:Env)(W:Wit)(st:St)(w:World):cB V W W st st w w :=
 ⟨λ_=>⟨BO _,λ_=>rfl⟩,λ_ r=>⟨r,rfl⟩,λ_ h=>h,λ_ _=>rfl,λ_ _ _ l u y _=>⟨⟨l,u,y⟩,rfl,λ_ _=>rfl⟩⟩
theorem kM {w w':World}{a:Addr}(h:w'.heap[a.block]?=w.heap[a.block]?):w'.cell? a=w.cell? a:=by simp[Cl,h]
theorem cB.gdheap (u:∀ k,V.ro0 k->V.prot k)(h:cB V W W' st st' w w')(p:Bool):∀ k,gd V W p k->w'.heap[k]?=w.heap[k]?:=by
 intro k r;rcases r with r|⟨_,r⟩
 ·exact h.heap k (.inl r)
 ·exact h.heap k (.inr (u k r))
theorem wP {ks:List (Nat×Nat×Nat)}{ep:Nat}(r:cB V W W' st st' w w')(H:ep<=(st EPO).ver)(z:∀ k∈ks,k.2.2<=(st k.1).ver)(I:(st' EPO).ver=ep)(y:∀ k∈ks,(st' k.1).ver=k.2.2) :
  (st EPO).ver=ep/\∀ k∈ks,(st k.1).ver=k.2.2 :=
 ⟨by have:=(r.ver EPO).1;omega,λk u=>by have:=(r.ver k.1).1;have:=z k u;have:=y k u;omega⟩
theorem cB.places {ks:List (Nat×Nat×Nat)}{ep:Nat}(J:cB V W W' st st' w w')(z:sf st' ks)(O:(st EPO).ver=ep)(H:∀ k∈ks,(st k.1).ver=k.2.2)
  (R:(st' EPO).ver=ep) (y:∀ k∈ks,(st' k.1).ver=k.2.2) :
  ∀ k∈ks,(∃ u,(st k.1).ls[k.2.1]?=some u/\am u)/\W'.bs k.1 k.2.1=W.bs k.1 k.2.1/\∀ b∈W.bs k.1 k.2.1,w'.heap[b]?=w.heap[b]?:=λk r=>by
 obtain⟨l,I,M⟩:=z k r;exact J.epo (by omega) k.1 k.2.1 l I M (by rw[y k r,H k r])
theorem aK.carry (J:∀ k,V.ro0 k->V.prot k){bs bs':List Nat}{l:Leaf}{v:Value}(h:aK P V W st w bs l v)(y:cB V W W' st st' w w')
  (a1:am l->bs'=bs/\∀ k∈bs,w'.heap[k]?=w.heap[k]?):aK P V W' st' w' bs' l v:=by
 have hG:∀ p k,gd V W p k->gd V W' p k:=λp=>bT (λh=>h) y.nw
 have hP:∀ k,(W.nw k\/V.prot k)->(W'.nw k\/V.prot k):=λk M=>M.imp (y.nw k) id
 have hR:∀ {p:Bool} {a:Ty} {x:a.den} {off:Nat} {v:Value},RpOk V W w p a x off v->RpOk V W' w' p a x off v:=by
  rintro p a x off v ⟨g,o,c,Z,Y,hr,hc⟩;exact⟨g,o,c,Z,hP g Y,Rd.carry (hG p) (y.gdheap J p) hr,hc.same (y.heap g Y)⟩
 have a3:∀ {p:Bool} {a:Ty} {x:a.den} {v:Value},se V W w p a x v->se V W' w' p a x v:=by
  rintro p a x v ⟨b,ob,g,o,c,Z,H,a0,Y,hr,hc⟩;exact⟨b,ob,g,o,c,Z,hP b H,by rw[kM (y.heap b H)];exact a0,hP g Y,Rd.carry (hG p) (y.gdheap J p) hr,hc.same (y.heap g Y)⟩
 cases l with
 |int k n=>exact h
 |bool b=>exact h
 |str s=>exact h
 |nil=>exact h
 |hdr n=>exact h
 |ro p E e xs=>exact Rd.carry (hG p) (y.gdheap J p) h
 |own p hh E e xs =>
  obtain⟨rfl,H⟩:=a1 trivial;exact OwH.carry h (hG p) (y.gdheap J p) H
 |nal p ks ep a9 E e xs =>
  obtain⟨z,I,O⟩:=h;refine⟨BR z (y.ver EPO).1,λk M=>BR (I k M) (y.ver k.1).1,λhe M ho=>?_⟩;obtain⟨e1,e2⟩:=wP y z I he M;have h5:=y.places ho e1 e2 he M;have X:=O e1 e2 (λk R=>(h5 k R).1);refine⟨Rd.carry ?_ ?_ X.rd,λi sz off hl=>?_⟩
  ·grind
  ·rintro b (H|⟨k,R,H⟩)
   ·exact y.gdheap J p b H
   ·grind
  ·obtain⟨r,j,n,rfl,g,a4,a6,h6,h7,h8,h9⟩:=X.at_ i sz off hl;have R:(r,j,n)∈[(r,j,n)]:=CU ..;have a5:(st' r).ver=(st r).ver:=(M _ R).trans (e2 _ R).symm;refine⟨r,j,n,rfl,g,a4,a6,by rw[(y.ver r).2 a5];exact h6,h7,by rw[(h5 _ R).2.1];exact h8,?_⟩;rw[kM ((h5 _ R).2.2 g h8)];exact h9
 |np p ks ep a x off =>
  obtain⟨z,I,O⟩:=h;refine⟨BR z (y.ver EPO).1,λk M=>BR (I k M) (y.ver k.1).1,λhe M ho=>?_⟩;obtain⟨e1,e2⟩:=wP y z I he M;have h5:=y.places ho e1 e2 he M;have X:=O e1 e2 (λk R=>(h5 k R).1);have hS:∀ b,(gd V W p b\/∃ k∈ks,b∈W.bs k.1 k.2.1)->(gd V W' p b\/∃ k∈ks,b∈W'.bs k.1 k.2.1):=by
   grind
  have hW:∀ b,(gd V W p b\/∃ k∈ks,b∈W.bs k.1 k.2.1)->w'.heap[b]?=w.heap[b]?:=by
   rintro b (H|⟨k,R,H⟩)
   ·exact y.gdheap J p b H
   ·grind
  obtain⟨g,o,c,Z,Y,hr,hc⟩:=X.rd;exact⟨g,o,c,Z,hS g Y,Rd.carry hS hW hr,hc.same (hW g Y)⟩
 |al r j n =>
  obtain⟨z,I⟩:=h;obtain⟨O,X⟩:=y.ver r;refine⟨BR z O,λZ=>?_⟩
  grind
 |ep r j n i sz off =>
  obtain⟨z,I⟩:=h;obtain⟨O,X⟩:=y.ver r;refine⟨BR z O,λZ=>?_⟩
  grind
 |rp p a x off=>exact hR h
 |rpp p a x=>exact a3 h
 |clr f a2 =>
  obtain⟨us,z,I,O⟩:=h;refine⟨us,z,I,λi c u hc hu=>?_⟩;have X:=O i c u hc hu;unfold iM at X ⊢
  grind
 |bp b off =>
  obtain⟨z,I,O⟩:=h;obtain⟨X,h5⟩:=y.box b ⟨z,I⟩;exact⟨z,X.2,by rw[h5];exact O⟩
 |clo f a2 =>
  obtain⟨z,I⟩:=h;refine⟨?_,λb H=>(y.box b (I b H)).1⟩;rw[z];congr 2;refine List.map_congr_left λb H=>?_
  rw[(y.box b (I b H)).2]
 |fn As B φ=>exact h
 |dead=>trivial
def aB (P:Program)(V:Env)(W:Wit)(st:St)(w:World):List Leaf->List Value->Prop
 |[],[]=>True
 |l::r,v::u=>(aK P V W st w [] l v/\¬ am l/\v.oneCell'=true)/\aB P V W st w r u
 |_,_=>False
theorem aB.length:∀ {ls:List Leaf} {cs:List Value},aB P V W st w ls cs->ls.length=cs.length
 |[],[],_=>rfl
 |_::_,_::_,h=>by simp[aB.length h.2]
theorem aB.at_:∀ {ls:List Leaf} {cs:List Value},aB P V W st w ls cs->∀ (j:Nat) (l:Leaf) (v:Value),ls[j]?=some l->cs[j]?=some v->aK P V W st w [] l v/\¬ am l/\v.oneCell'=true
 |_::_,_::_,h,0,l,v,r,u=>by
  simp at r u;subst r;subst u;exact h.1
 |_::_,_::_,h,j+1,l,v,r,u=>aB.at_ h.2 j l v (by simpa using r) (by simpa using u)
theorem aB.one':∀ {ls:List Leaf} {cs:List Value},aB P V W st w ls cs->∀ v∈cs,v.oneCell'=true
 |[],[],_,_,r=>by simp at r
 |_::_,_::_,h,v,r=>by
  rcases CS.1 r with rfl|r
  ·exact h.1.2.2
  ·exact aB.one' h.2 v r
theorem aB.mk:∀ {ls:List Leaf} {cs:List Value},ls.length=cs.length->(∀ (j:Nat) (l:Leaf) (v:Value),ls[j]?=some l->cs[j]?=some v->aK P V W st w [] l v/\¬ am l/\v.oneCell'=true)->aB P V W st w ls cs
 |[],[],_,_=>trivial
 |_::_,_::_,h,H=>⟨H 0 _ _ rfl rfl,aB.mk (by simpa using h) λj l v r u=>H (j+1) l v (by simpa using r) (by simpa using u)⟩
theorem aB.drop {ls:List Leaf}{cs:List Value}(h:aB P V W st w ls cs)(n:Nat):aB P V W st w (ls.drop n) (cs.drop n) :=
 aB.mk (by simp[h.length]) λj l v r u=>h.at_ (n+j) l v (by simpa using r) (by simpa using u)
theorem aB.take {ls:List Leaf}{cs:List Value}(h:aB P V W st w ls cs)(n:Nat):aB P V W st w (ls.take n) (cs.take n) :=
 aB.mk (by simp[h.length]) λj l v r u=>by
  rw[BV]at r u;split at r
  ·rename_i y;rw[if_pos y]at u;exact h.at_ j l v r u
  ·grind
theorem aB.append {y H:List Leaf}{r z:List Value}(u:aB P V W st w y r)(J:aB P V W st w H z):aB P V W st w (y++H) (r++z):=by
 induction y generalizing r with
 |nil =>
  cases r with
  |nil=>simpa using J
  |cons=>simp[aB]at u
 |cons l M I =>
  cases r with
  |nil=>simp[aB]at u
  |cons v O=>exact⟨u.1,I u.2⟩
theorem aB.carry (r:∀ k,V.ro0 k->V.prot k)(u:cB V W W' st st' w w'):∀ {ls:List Leaf} {cs:List Value},aB P V W st w ls cs->aB P V W' st' w' ls cs
 |[],[],_=>trivial
 |_::_,_::_,h=>⟨⟨h.1.1.carry r u (λy=>absurd y h.1.2.1),h.1.2⟩,aB.carry r u h.2⟩
theorem e9 {G:Nat->Prop}{p:Bool}(u:∀ k,G k->gd V W p k):∀ {a:Ty} {x:a.den} {cs:List Value},Rd w G a x cs->aB P V W st w (cG p a x) cs
 |.int _,_,_,h=>by rw[show _=_ from h];exact⟨⟨rfl,id,rfl⟩,trivial⟩
 |.bool,_,_,h=>by rw[show _=_ from h];exact⟨⟨rfl,id,rfl⟩,trivial⟩
 |.str,_,_,h=>by rw[show _=_ from h];exact⟨⟨rfl,id,rfl⟩,trivial⟩
 |.unit,_,_,h=>by rw[show _=_ from h];trivial
 |.hdr,_,_,⟨A,r,e⟩=>by rw[e];exact⟨⟨⟨A,r,rfl⟩,id,rfl⟩,trivial⟩
 |.pair _ _,_,_,⟨J,M,e,z,y⟩=>by rw[e];exact (e9 u z).append (e9 u y)
 |.list m E e,H,_,h=>by
  obtain⟨A,r,rfl,y,I⟩:=h;exact⟨⟨Rd.mono u (⟨A,r,rfl,y,I⟩:Rd w _ (.list false E e) H _),id,rfl⟩,trivial⟩
theorem gJ (p:Bool):∀ (a:Ty) (x:a.den),(cG p a x).length=a.cells
 |.int _,_=>rfl
 |.bool,_=>rfl
 |.str,_=>rfl
 |.unit,_=>rfl
 |.hdr,_=>rfl
 |.pair a b,x=>by simp[cG,Ty.cells,gJ p a,gJ p b]
 |.list _ _ _,_=>rfl
theorem cF (p:Bool):∀ (a:Ty) (x:a.den),(aq p a x).length=a.cells
 |.int _,_=>rfl
 |.bool,_=>rfl
 |.str,_=>rfl
 |.unit,_=>rfl
 |.hdr,_=>rfl
 |.pair a b,x=>by simp[aq,Ty.cells,cF p a,cF p b]
 |.list _ _ _,_=>rfl
theorem iN (t n:Nat):∀ (j:Nat) (ls:List Leaf),(bE t n j ls).length=ls.length
 |_,[]=>rfl
 |j,_::ls=>by simp[bE,iN t n (j+1) ls]
theorem n9 (t n:Nat):∀ (j:Nat) (ls:List Leaf) (i:Nat) (l:Leaf),ls[i]?=some l->(bE t n j ls)[i]?=some (lQ t (j+i) n l)
 |j,r::ls,0,l,h=>by
  simp at h;subst h;simp[bE]
 |j,r::ls,i+1,l,h=>by
  have:=n9 t n (j+1) ls i l (by simpa using h);simp only[bE]
  grind
theorem iA {a:Act}(h:an P V W st a w)(r:Nat):aB P V W st w (bE r (st r).ver 0 (st r).ls) (W.cs r):=by
 refine aB.mk (by rw[iN,h.len]) λj l v u y=>?_
 have M:j<(st r).ls.length:=by
  have:=(BI.1 u).1;simpa[iN]using this
 have I:(st r).ls[j]?=some (st r).ls[j]:=BK M;have J:=n9 r (st r).ver 0 (st r).ls j _ I;rw[J]at u;have H:=h.leaf r j _ v I y;have z:=h.one r v (List.mem_of_getElem? y);simp at u;subst u;generalize X:(st r).ls[j]=q at H;cases q with
 |own p O E e R=>exact⟨⟨BO _,λ_=>by simpa using y⟩,id,z⟩
 |_=>exact⟨H,id,z⟩
theorem sA {v:Value}{l:Leaf}(h:iu v=some l):aK P V W st w [] l v/\¬ am l/\v.oneCell'=true:=by
 unfold iu at h;split at h <;> simp at h <;> subst h <;> exact⟨rfl,id,rfl⟩
theorem cQ {a:Act}(h:an P V W st a w)(x:Operand) :
  ∃ r,d9 (au st x).1 (a.eval x) r/\aB P V W st w (au st x).2 r:=by
 cases x with
 |tmp t =>
  simp only[au];cases y:CA t GH with
  |false=>exact⟨[],rfl,trivial⟩
  |true=>exact⟨W.cs t,h.slots t (by simpa using y),iA h t⟩
 |const v =>
  simp only[au];cases z:iu v with
  |none=>exact⟨[],rfl,trivial⟩
  |some l=>exact⟨[v],rfl,⟨sA z,trivial⟩⟩
 |func f=>exact⟨[.func (.func f) #[] #[]],rfl,⟨⟨⟨rfl,λb u=>by simp at u⟩,id,rfl⟩,trivial⟩⟩
 |global g=>exact⟨[],rfl,trivial⟩
theorem br {a:Act}(h:an P V W st a w)(x:Operand)(z:one st x≠.dead) :
  aK P V W st w [] (one st x) (a.eval x)/\¬ am (one st x)/\(a.eval x).oneCell'=true/\(au st x).1=.one/\(au st x).2=[one st x]:=by
 obtain⟨H,y,r⟩:=cQ h x;unfold one at z ⊢;split at z
 ·rename_i l I;simp only[I]at y r ⊢;have u:H=[a.eval x]:=y;subst u;exact⟨r.1.1,r.1.2.1,r.1.2.2,by simp,by simp⟩
 ·grind
theorem ff {r j n:Nat}{l:Leaf}(u:aC st (.al r j n)=l)(z:l≠.dead):(st r).ver=n/\(st r).ls[j]?=some l:=by
 simp only[aC]at u;cases y:BG (st r).ver n with
 |false=>simp only[y]at u;exact absurd u.symm z
 |true =>
  simp only[y,cond_true]at u;refine⟨BH y,?_⟩;rw[BY]at u;cases H:(st r).ls[j]? with
  |none=>simp only[H]at u;exact absurd u.symm z
  |some I =>
   simp only[H,Option.getD_some]at u;cases I with
   |nal=>simp only[pq]at u;exact absurd u.symm z
   |_=>simp only[pq]at u;rw[u]
theorem iO {r j n:Nat}{p:Bool}{ks:List (Nat×Nat×Nat)}{ep:Nat}{u:Option (Nat×Nat×Nat)}{E:TypeId}{e:Ty}{xs:List e.den}:aC st (.al r j n)≠.nal p ks ep u E e xs:=by
 simp only[aC];cases BG (st r).ver n with
 |false=>simp
 |true =>
  cases (st r).ls.getD j .dead <;> simp[pq]
theorem kq {a:Act}(h:an P V W st a w){r j n:Nat}{p:Bool}{u:Option (Nat×Nat)}{E:TypeId}{e:Ty}{xs:List e.den}{v:Value}(J:aC st (.al r j n)=.own p u E e xs)
  (I:aK P V W st w [] (.al r j n) v):(W.cs r)[j]?=some v/\OwH w (gd V W p) u E e xs v (W.bs r j)/\(st r).ls[j]?=some (.own p u E e xs)/\(st r).ver=n:=by
 obtain⟨z,H⟩:=ff J (by simp);have y:=I.2 z;exact⟨y,h.leaf r j _ v H y,H,z⟩
theorem vE {ls:List Leaf}{j:Nat}(h:lz (ls.getD j .dead)=true):∃ l,ls[j]?=some l/\am l:=by
 rw[BY]at h;cases r:ls[j]? with
 |none=>rw[r]at h;simp[lz]at h
 |some l =>
  rw[r]at h;refine⟨l,rfl,?_⟩;cases l <;> simp[lz]at h;trivial
theorem cr {ks:List (Nat×Nat×Nat)}{ep:Nat}(h:bq st ks ep=true):(st EPO).ver=ep/\(∀ k∈ks,(st k.1).ver=k.2.2)/\sf st ks:=by
 simp only[bq,BJ,List.all_eq_true]at h;exact⟨BH h.1,λk r=>BH (h.2 k r).1,λk r=>vE (h.2 k r).2⟩
theorem pA {p:Bool}{ks:List (Nat×Nat×Nat)}{ep:Nat}{r:Option (Nat×Nat×Nat)}{E:TypeId}{e:Ty}{xs:List e.den}{v:Value}(u:bq st ks ep=true)
 (y:aK P V W st w [] (.nal p ks ep r E e xs) v):sg V W w p ks r E e xs v:=y.2.2 (cr u).1 (cr u).2.1 (cr u).2.2
def bo (V:Env)(W:Wit)(p:Bool)(ks:List (Nat×Nat))(k:Nat):Prop:=gd V W p k\/∃ x∈ks,k∈W.bs x.1 x.2
theorem jR {E:TypeId}{e:Ty}{E':TypeId}{e':Ty}{xs:List e'.den}{r:List e.den}(h:lR E e E' e' xs=some r) :
  ∃ (y:E'=E) (u:e'=e),u ▸ xs=r:=by
 unfold lR at h
 grind
theorem ue {e e':Ty}{xs:List e'.den}{r:List e.den}(h:castSh e e' xs=some r):e'.sh=e.sh/\HEq xs r:=by
 unfold castSh at h
 grind
theorem Rd.castSh {G:Nat->Prop}{m m':Bool}{E E':TypeId}{e e':Ty}{xs:List e'.den}{u:List e.den}{cs:List Value}(h:castSh e e' xs=some u)(O:Rd w G (.list m E' e') xs cs):Rd w G (.list m' E e) u cs:=by
 obtain⟨I,M⟩:=ue h;have J:Rd w G (.list m E e) u cs:=by
  refine Rd.flags (a:=.list m E e') (x:=xs) (by simp only[Ty.sh,I]) M ?_;obtain⟨A,r,H,z,y⟩:=O;exact⟨A,r,H,z,y⟩
 obtain⟨A,r,H,z,y⟩:=J;exact⟨A,r,H,z,y⟩
theorem kr (st:St):∀ (r u:List Leaf),bw st (r++u)=bw st r++bw st u
 |[],_=>rfl
 |l::r,u=>by
  have:=kr st r u;cases l <;> simp[bw,this]
theorem sC (st:St):∀ (r u:List Leaf),bZ st (r++u)=bZ st r++bZ st u
 |[],_=>rfl
 |l::r,u=>by
  have:=sC st r u;cases l <;> simp[bZ,this]
theorem kN {a:Act}(h:an P V W st a w){m:Bool}{E:TypeId}{e:Ty}{l:Leaf}{v:Value}{p:Bool}{xs:List e.den}
  (hl:aK P V W st w [] l v) (a0:¬ am l) (u:dg e (aC st l)=some (p,xs)):Rd w (bo V W p (bw st [l])) (.list m E e) xs [v]:=by
 have I:∀ (q:Leaf) (bs:List Nat) (S:Nat->Prop),aK P V W st w bs q v->dg e q=some (p,xs)->(∀ k,gd V W p k->S k)->(am q->∀ k∈bs,S k) ->
   (∀ q' J ep z E' H M,q=.nal q' J ep z E' H M->bq st J ep=true/\∀ k∈J,∀ b∈W.bs k.1 k.2.1,S b)->Rd w S (.list m E e) xs [v]:=by
  intro q bs S X u hS hb hn;cases q with
  |ro q E' H Y =>
   simp only[dg,BU]at u;obtain⟨zs,Z,rfl,rfl⟩:=u;exact Rd.castSh Z (Rd.mono hS X)
  |nil =>
   obtain⟨rfl,rfl⟩:=u;rw[show v=_ from X];exact Rd.nil w _ m E e
  |own q hh E' H Y =>
   cases hh with
   |some _=>simp[dg]at u
   |none =>
    simp only[dg,BU]at u;obtain⟨zs,Z,rfl,rfl⟩:=u;refine Rd.castSh Z (Rd.mono (λk y=>?_) (OwH.rd (m:=false) (E':=E') X));exact y.elim (hS k) (hb trivial k)
  |nal q J ep z E' H Y =>
   simp only[dg,BU,Cg]at u;obtain⟨zs,Z,rfl,rfl⟩:=u;obtain⟨O,hn⟩:=hn _ _ _ _ _ _ _ rfl;have h1:sg V W w q J z E' H Y v:=X.2.2 (cr O).1 (cr O).2.1 (cr O).2.2;refine Rd.castSh Z (Rd.mono (λk y=>?_) h1.rd);rcases y with y|⟨x,hx,y⟩
   ·grind
   ·grind
  |_=>simp[dg]at u
 cases l with
 |al r j n =>
  by_cases hd:aC st (.al r j n)=.dead
  ·rw[hd]at u;simp[dg]at u
  ·obtain⟨h1,h2⟩:=ff rfl hd;have h3:=h.leaf r j _ v h2 (hl.2 h1);generalize X:aC st (.al r j n)=q at u h2 h3;refine I q (W.bs r j) _ h3 u (λk y=>.inl y) (λR k y=>.inr ⟨(r,j),?_,y⟩) ?_
   ·cases q <;> first|exact R.elim|simp[bw,X]
   ·rintro q' J ep z E' H M rfl;exact absurd X iO
 |own q hh E' H Y=>exact absurd trivial a0
 |nal q J ep z E' H Y =>
  simp only[aC]at u;cases O:bq st J ep with
  |false=>simp[O,dg]at u
  |true =>
   simp only[O]at u;refine I _ [] _ hl u (λk y=>.inl y) (λR=>R.elim) ?_;intro q' a4 a5 a2 a3 a6 M a1;cases a1;refine⟨O,λk y b hb=>.inr ⟨(k.1,k.2.1),?_,hb⟩⟩;simp only[bw,aC]
   grind
 |ro q E' H Y=>exact I _ [] _ hl u (λk y=>.inl y) (λR=>R.elim) (λ_ _ _ _ _ _ _ h=>by cases h)
 |nil=>exact I _ [] _ hl u (λk y=>.inl y) (λR=>R.elim) (λ_ _ _ _ _ _ _ h=>by cases h)
 |_=>simp[aC,dg]at u
theorem wQ {a:Act}(h:an P V W st a w){l:Leaf}{v:Value}{n:Nat}(X:aK P V W st w [] l v)(Y:¬ am l)(u:fY (aC st l)=some n):Rd w (λ_=>False) .hdr n [v]:=by
 have H:∀ (q:Leaf) (bs:List Nat),aK P V W st w bs q v->fY q=some n->(∀ p J ep z E e O,q=.nal p J ep z E e O->bq st J ep=true)->Rd w (λ_=>False) .hdr n [v]:=by
  intro q bs I u hn;cases q with
  |ro p E e O =>
   simp only[fY,BN]at u;subst u;obtain⟨A,y,M,_⟩:=I;exact⟨A,y,M⟩
  |own p hh E e O =>
   simp only[fY,BN]at u;subst u;obtain⟨A,y,M,_⟩:=OwH.slice I;exact⟨A,y,by rw[M]⟩
  |nal p J ep z E e O =>
   simp only[fY,BN]at u;subst u;have R:=hn _ _ _ _ _ _ _ rfl;obtain⟨A,y,M,_⟩:=(I.2.2 (cr R).1 (cr R).2.1 (cr R).2.2:sg V W w p J z E e O v).rd;exact⟨A,y,M⟩
  |nil =>
   simp only[fY,BN]at u;subst u;exact⟨none,0,by rw[show v=_ from I]⟩
  |hdr m =>
   simp only[fY,BN]at u;subst u;obtain⟨A,y,M⟩:=I;exact⟨A,y,by rw[M]⟩
  |_=>simp[fY]at u
 cases l with
 |al r j m =>
  by_cases hd:aC st (.al r j m)=.dead
  ·rw[hd]at u;simp[fY]at u
  ·obtain⟨h1,h2⟩:=ff rfl hd;have h3:=h.leaf r j _ v h2 (X.2 h1);refine H _ _ h3 u λp J ep z E e O I=>absurd I iO
 |own q hh E' e' Z=>exact absurd trivial Y
 |nal q J ep z E' e' Z =>
  simp only[aC]at u;cases R:bq st J ep with
  |false=>simp[R,fY]at u
  |true =>
   grind
 |ro q E' e' Z=>exact H _ [] X u (λ_ _ _ _ _ _ _ h=>by cases h)
 |nil=>exact H _ [] X u (λ_ _ _ _ _ _ _ h=>by cases h)
 |hdr m=>exact H _ [] X u (λ_ _ _ _ _ _ _ h=>by cases h)
 |_=>simp[aC,fY]at u
theorem kO {a:Act}(h:an P V W st a w):∀ (b:Ty) (ls:List Leaf) (cs:List Value) (p:Bool) (x:b.den) (u:List Leaf),aB P V W st w ls cs ->
  a7 st b ls=some (p,x,u)->∃ M R O,cs=M++R/\ls=O++u/\aB P V W st w O M/\aB P V W st w u R/\Rd w (bo V W p (bw st O)) b x M
 |.int k,ls,cs,p,x,u,H,r=>by
  simp only[a7]at r;split at r
  ·rename_i k' n ls;split at r
   ·rename_i I;obtain⟨rfl,rfl,rfl⟩:=r;cases cs with
    |nil=>exact H.elim
    |cons v cs=>exact⟨[v],cs,[_],rfl,rfl,⟨H.1,trivial⟩,H.2,by rw[show v=_ from H.1.1,I];rfl⟩
   ·grind
  ·grind
 |.bool,ls,cs,p,x,u,H,r=>by
  simp only[a7]at r;split at r
  ·simp at r;obtain⟨rfl,rfl,rfl⟩:=r;cases cs with
   |nil=>exact H.elim
   |cons v cs=>exact⟨[v],cs,[_],rfl,rfl,⟨H.1,trivial⟩,H.2,by rw[show v=_ from H.1.1];rfl⟩
  ·grind
 |.str,ls,cs,p,x,u,H,r=>by
  simp only[a7]at r;split at r
  ·simp at r;obtain⟨rfl,rfl,rfl⟩:=r;cases cs with
   |nil=>exact H.elim
   |cons v cs=>exact⟨[v],cs,[_],rfl,rfl,⟨H.1,trivial⟩,H.2,by rw[show v=_ from H.1.1];rfl⟩
  ·grind
 |.unit,ls,cs,p,x,u,H,r=>by
  obtain⟨rfl,_,rfl⟩:=r;exact⟨[],cs,[],rfl,rfl,trivial,H,rfl⟩
 |.hdr,ls,cs,p,x,u,H,r=>by
  simp only[a7]at r;split at r
  ·rename_i l J;split at r
   ·rename_i n hn;obtain⟨rfl,rfl,rfl⟩:=r;cases cs with
    |nil=>exact H.elim
    |cons v cs=>exact⟨[v],cs,[l],rfl,rfl,⟨H.1,trivial⟩,H.2,wQ h H.1.1 H.1.2.1 hn⟩
   ·grind
  ·grind
 |.pair b c,ls,cs,p,x,u,H,r=>by
  simp only[a7]at r;split at r
  ·rename_i q y J hb;split at r
   ·rename_i q' z Y hc;simp at r;obtain⟨rfl,rfl,rfl⟩:=r;obtain⟨M,R,O,e1,e2,h1,h2,h3⟩:=kO h b ls cs q y J H hb;obtain⟨Z,c4,l2,e3,e4,h4,h5,h6⟩:=kO h c J R q' z Y h2 hc;refine⟨M++Z,c4,O++l2,by rw[e1,e3,B8],by rw[e2,e4,B8],h1.append h4,h5,M,Z,rfl,?_,?_⟩
    ·refine Rd.mono (λk I=>?_) h3;rcases I with I|⟨y,X,I⟩
     ·exact .inl (bT (by simp_all) (λ_ h=>h) k I)
     ·exact .inr ⟨y,by rw[kr];exact BM _ X,I⟩
    ·refine Rd.mono (λk I=>?_) h6;rcases I with I|⟨y,X,I⟩
     ·exact .inl (bT (by simp_all) (λ_ h=>h) k I)
     ·exact .inr ⟨y,by rw[kr];exact BL _ X,I⟩
   ·grind
  ·grind
 |.list m E e,ls,cs,p,x,u,H,r=>by
  simp only[a7]at r;split at r
  ·rename_i l J;split at r
   ·rename_i q ys ha;obtain⟨rfl,rfl,rfl⟩:=r;cases cs with
    |nil=>exact H.elim
    |cons v cs=>exact⟨[v],cs,[l],rfl,rfl,⟨H.1,trivial⟩,H.2,kN h H.1.1 H.1.2.1 ha⟩
   ·grind
  ·grind
theorem eE {a:Act}(h:an P V W st a w){b:Ty}{ls:List Leaf}{cs:List Value}{p:Bool}{x:b.den}(z:aB P V W st w ls cs)
  (r:cN st b ls=some (p,x)):Rd w (bo V W p (bw st ls)) b x cs:=by
 unfold cN at r;split at r
 ·rename_i q y I;obtain⟨M,u,R,Y,X,J,H,O⟩:=kO h b ls cs _ _ _ z I;have:u=[]:=by
   cases u with
   |nil=>rfl
   |cons=>exact H.elim
  simp_all
 ·grind
end
section
variable {P:Program} {V:Env} {W W':Wit} {st st':St} {w w':World} {a:Act}
theorem bB (A B:Upd)(st:St):ac (A++B) st=ac A (ac B st):=by
 funext q;induction A with
 |nil=>rfl
 |cons x A u=>obtain⟨r,c⟩:=x;simp only[Cc,ac,u]
theorem aQ (r:Nat)(c:bP)(U:Upd)(st:St):ac ((r,c)::U) st=ac [(r,c)] (ac U st):=bB [(r,c)] U st
theorem bj (r:Nat)(c:bP)(st:St):ac [(r,c)] st r=c:=by simp[ac]
theorem aJ {r q:Nat}(h:q≠r)(c:bP)(st:St):ac [(r,c)] st q=st q:=by
 have:BG q r=false:=by
  cases u:BG q r with
  |false=>rfl
  |true=>exact absurd (BH u) h
 simp[ac,this]
theorem aj (r q:Nat)(c:bP)(st:St):(q=r/\ac [(r,c)] st q=c)\/(q≠r/\ac [(r,c)] st q=st q):=by
 by_cases h:q=r
 ·subst h;exact .inl ⟨rfl,bj q c st⟩
 ·exact .inr ⟨h,aJ h c st⟩
def ca (V:Env)(W:Wit)(st:St)(k:Nat):Prop :=
 W.nw k\/V.prot k\/(∃ b,live st b/\W.β b=k)\/∃ r j l,(st r).ls[j]?=some l/\am l/\k∈W.bs r j
theorem an.own_lt (h:an P V W st a w){r j:Nat}{l:Leaf}(u:(st r).ls[j]?=some l)(y:am l):∀ k∈W.bs r j,k<w.heap.size:=by
 have z:j<(W.cs r).length:=by rw[<- h.len];exact (BI.1 u).1
 have:=h.leaf r j l _ u (BK z);cases l <;> simp only[am]at y;exact OwH.lt this
theorem an.box_lt (h:an P V W st a w){b:Nat}(r:live st b):W.β b<w.heap.size:=by
 rcases h.boxes b r.1 with ⟨u,_⟩|⟨_,E,y⟩
 ·exact absurd (u.symm.trans r.2) (by simp)
 ·grind
theorem an.used_lt (h:an P V W st a w):∀ k,ca V W st k->k<w.heap.size:=by
 intro k u;rcases u with u|u|⟨b,y,rfl⟩|⟨r,j,l,H,I,z⟩
 ·exact (h.nwlt k u).1
 ·exact B5 u.1 h.size
 ·exact h.box_lt y
 ·exact h.own_lt H I k z
theorem an.world (Y:ax V)(h:an P V W st a w)(R:w.heap.size<=w'.heap.size)(M:w'.os=w.os)(Z:w'.tape=w.tape)(O:w'.output=w.output)
  (u:∀ k,ca V W st k->w'.heap[k]?=w.heap[k]?):an P V W st a w':=by
 have H:cB V W W st st w w':=⟨λr=>⟨BO _,λ_=>rfl⟩,λb J=>⟨J,rfl⟩,λ_ h=>h,λk h=>u k (h.elim .inl (λh=>.inr (.inl h))),
  λ_ r j l y I _=>⟨⟨l,y,I⟩,rfl,λk z=>u k (.inr (.inr (.inr ⟨r,j,l,y,I,z⟩)))⟩⟩
 exact {
  nt:=h.nt,df:=h.df,slots:=h.slots,
  boxes:=λb J=>(h.boxes b J).imp id λ⟨y,E,I⟩=>⟨y,E,by rw[u _ (.inr (.inr (.inl ⟨b,⟨J,y⟩,rfl⟩)))];exact I⟩
  len:=h.len,one:=h.one,
  leaf:=λr j l v y I=>(h.leaf r j l v y I).carry Y.ro H (λO=>⟨rfl,λk z=>u k (.inr (.inr (.inr ⟨r,j,l,y,O,z⟩)))⟩)
  ownb:=h.ownb,sep:=h.sep,box:=h.box,inj:=h.inj,
  nwlt:=λk u=>⟨B5 (h.nwlt k u).1 R,(h.nwlt k u).2⟩
  os:=M.trans h.os,tape:=Z.trans h.tape,output:=O.trans h.output,size:=BR h.size R,
  keep:=λk X=>(u k (.inr (.inl X))).trans (h.keep k X)
  fixb:=h.fixb,fixt:=h.fixt }
theorem an.below (y:ax V)(h:an P V W st a w)(r:Below w.heap.size w w'):an P V W st a w' :=
 h.world y r.size r.os r.tape r.output λk u=>r.block k (h.used_lt k u)
theorem an.relabel (hV:ax V)(h:an P V W st a w)(r:Nat)(c:bP)(nw':Nat->Prop)(a3:(st r).ver<=c.ver)(O:c.sh=(st r).sh)
    (Y:c.ls.length=(st r).ls.length) (a0:∀ k,W.nw k->nw' k) (X:∀ k,nw' k->k<w.heap.size/\¬ V.prot k)
    (a2:∀ (j:Nat) (l:Leaf) (v:Value),c.ls[j]?=some l->(W.cs r)[j]?=some v->aK P V { W with nw:=nw' } (ac [(r,c)] st) w (W.bs r j) l v)
    (a4:∀ (j:Nat) (l:Leaf),c.ls[j]?=some l->am l->(st r).ls[j]?=some l)
    (I:∀ (q j:Nat) (l:Leaf),(ac [(r,c)] st q).ls[j]?=some l->am l->∀ k∈W.bs q j,¬ nw' k)
    (J:∀ b,live st b->¬ nw' (W.β b)):an P V { W with nw:=nw' } (ac [(r,c)] st) a w:=by
  have M:∀ b,live (ac [(r,c)] st) b<->live st b:=by
    intro b;rcases aj r b c st with ⟨rfl,e⟩|⟨_,e⟩
    · simp[live,e,O]
    · simp[live,e]
  have u:∀ (q j:Nat) (l:Leaf),(ac [(r,c)] st q).ls[j]?=some l->am l->(st q).ls[j]?=some l:=by
    intro q j l z y;rcases aj r q c st with ⟨rfl,e⟩|⟨_,e⟩
    · grind
    · grind
  have R:cB V W { W with nw:=nw' } st (ac [(r,c)] st) w w :=
    ⟨λq=>by
      rcases aj r q c st with ⟨rfl,e⟩|⟨_,e⟩
      · grind
      · rw[e];exact⟨BO _,λ_=>rfl⟩,
     λb H=>⟨(M b).2 H,rfl⟩,a0,λ_ _=>rfl,λ_ q j l z y h3=>⟨⟨l,u q j l z y,y⟩,rfl,λ_ _=>rfl⟩⟩
  exact {
    nt:=h.nt,df:=h.df,
    slots:=λt ht=>by
      rcases aj r t c st with ⟨rfl,e⟩|⟨_,e⟩
      · rw[e,O];exact h.slots t ht
      · rw[e];exact h.slots t ht
    boxes:=λb H=>by
      rcases aj r b c st with ⟨rfl,e⟩|⟨_,e⟩
      · rw[e,O]
        rcases h.boxes b H with ⟨z,y⟩|z
        · grind
        · grind
      · rw[e];exact h.boxes b H
    len:=λq=>by
      rcases aj r q c st with ⟨rfl,e⟩|⟨_,e⟩
      · rw[e,Y];exact h.len q
      · rw[e];exact h.len q
    one:=h.one
    leaf:=λq j l v z y=>by
      rcases aj r q c st with ⟨rfl,e⟩|⟨_,e⟩
      · grind
      · rw[e]at z
        exact (h.leaf q j l v z y).carry hV.ro R (λ_=>⟨rfl,λ_ _=>rfl⟩)
    ownb:=λq j l z y k Z=>⟨I q j l z y k Z,(h.ownb q j l (u q j l z y) y k Z).2.1,λb H=>(h.ownb q j l (u q j l z y) y k Z).2.2 b ((M b).1 H)⟩
    sep:=λq j l q' j' l' z y h3 h4=>h.sep q j l q' j' l' (u q j l z y) y (u q' j' l' h3 h4) h4
    box:=λb H=>⟨J b ((M b).1 H),(h.box b ((M b).1 H)).2⟩
    inj:=λb b' H a1=>h.inj b b' ((M b).1 H) ((M b').1 a1)
    nwlt:=X
    os:=h.os,tape:=h.tape,output:=h.output,size:=h.size,keep:=h.keep,
    fixb:=λx hx=>⟨(M _).2 (h.fixb x hx).1,(h.fixb x hx).2⟩,fixt:=h.fixt }
theorem aS {α:Type}(ls:List α)(j i:Nat)(x y:α)(h:(ls.set j x)[i]?=some y):(i=j/\y=x/\j<ls.length)\/(i≠j/\ls[i]?=some y):=by
 grind
theorem an.kill1 (J:ax V)(h:an P V W st a w)(r j:Nat):an P V W (ac [(r,fZ (st r) j)] st) a w:=by
 refine h.relabel J r _ W.nw (BO _) rfl (by simp[fZ,aT]) (λ_ h=>h) h.nwlt ?_ ?_ ?_ λb z=>(h.box b z).1
 ·intro i l v u y;rcases aS _ _ _ _ _ u with ⟨_,rfl,_⟩|⟨H,u⟩
  ·trivial
  ·refine (h.leaf r i l v u y).carry J.ro ⟨λq=>?_,λb z=>?_,λ_ h=>h,λ_ _=>rfl,λ_ q X R I O Y=>?_⟩ (λ_=>⟨rfl,λ_ _=>rfl⟩)
   ·rcases aj r q (fZ (st r) j) st with ⟨rfl,e⟩|⟨_,e⟩
    ·rw[e];exact⟨BO _,λ_=>rfl⟩
    ·grind
   ·refine⟨⟨z.1,?_⟩,rfl⟩;rcases aj r b (fZ (st r) j) st with ⟨rfl,e⟩|⟨_,e⟩
    ·rw[e];exact z.2
    ·rw[e];exact z.2
   ·rcases aj r q (fZ (st r) j) st with ⟨rfl,e⟩|⟨_,e⟩
    ·rw[e]at I;rcases aS _ _ _ _ _ I with ⟨_,rfl,_⟩|⟨_,I⟩
     ·exact O.elim
     ·grind
    ·grind
 ·intro i l u y;rcases aS _ _ _ _ _ u with ⟨_,rfl,_⟩|⟨H,u⟩
  ·exact y.elim
  ·omega
 ·intro q i l u y;have:(st q).ls[i]?=some l:=by
   rcases aj r q (fZ (st r) j) st with ⟨rfl,e⟩|⟨_,e⟩
   ·rw[e]at u;rcases aS _ _ _ _ _ u with ⟨_,rfl,_⟩|⟨H,u⟩
    ·exact y.elim
    ·omega
   ·grind
  exact λk M=>(h.ownb q i l this y k M).1
theorem an.frz1 (hV:ax V)(h:an P V W st a w)(r j:Nat) :
  an P V { W with nw:=λk=>W.nw k\/((∃ l,(st r).ls[j]?=some l/\am l)/\k∈W.bs r j) } (ac [(r,fV (st r) j)] st) a w:=by
 have O:∀ l,(st r).ls[j]?=some l->(st r).ls.getD j .dead=l:=λl hl=>by rw[BY,hl];rfl
 have u:∀ (i:Nat) (l:Leaf),(aT (st r).ls j (uM ((st r).ls.getD j .dead)))[i]?=some l->am l->(st r).ls[i]?=some l/\i≠j:=by
  intro i l z y;rcases aS _ _ _ _ _ z with ⟨rfl,rfl,hj⟩|⟨Z,z⟩
  ·rw[O _ (BK hj)]at y;generalize (st r).ls[i]=l at y;cases l with
   |own p hh E e xs=>cases hh <;> exact y.elim
   |_=>exact y.elim
  ·grind
 have I:cB V W { W with nw:=λk=>W.nw k\/((∃ l,(st r).ls[j]?=some l/\am l)/\k∈W.bs r j) } st (ac [(r,fV (st r) j)] st) w w:=by
  refine⟨λq=>?_,λb Y=>?_,λ_ h=>.inl h,λ_ _=>rfl,λ_ q j' X J M h5=>?_⟩
  ·rcases aj r q (fV (st r) j) st with ⟨rfl,e⟩|⟨_,e⟩
   ·rw[e];exact⟨BO _,λ_=>rfl⟩
   ·grind
  ·refine⟨⟨Y.1,?_⟩,rfl⟩;rcases aj r b (fV (st r) j) st with ⟨rfl,e⟩|⟨_,e⟩
   ·rw[e];exact Y.2
   ·rw[e];exact Y.2
  ·rcases aj r q (fV (st r) j) st with ⟨rfl,e⟩|⟨_,e⟩
   ·rw[e]at J;exact⟨⟨X,(u j' X J M).1,M⟩,rfl,λ_ _=>rfl⟩
   ·grind
 refine h.relabel hV r _ _ (BO _) rfl (by simp[fV,aT]) (λ_ h=>.inl h) ?_ ?_ (λi l z y=>(u i l z y).1) ?_ ?_
 ·rintro k (H|⟨⟨l,z,y⟩,H⟩)
  ·exact h.nwlt k H
  ·exact⟨h.own_lt z y k H,(h.ownb r j l z y k H).2.1⟩
 ·intro i l v z y;rcases aS _ _ _ _ _ z with ⟨rfl,rfl,hj⟩|⟨Z,z⟩
  ·have J:(st r).ls[i]?=some (st r).ls[i]:=BK hj;have M:=h.leaf r i _ v J y;rw[O _ J];generalize hq:(st r).ls[i]=q at J M;cases q with
   |own p hh E e xs =>
    cases hh with
    |some _=>trivial
    |none =>
     refine Rd.mono (λk H=>?_) (OwH.rd (m:=false) (E':=E) M);rcases H with H|H
     ·exact bT (W':={ W with nw:=_ }) (λh=>h) (λ_ h=>.inl h) k H
     ·exact .inl (.inr ⟨⟨_,J,trivial⟩,H⟩)
   |_=>exact M.carry hV.ro I (λho=>ho.elim)
  ·exact (h.leaf r i l v z y).carry hV.ro I (λ_=>⟨rfl,λ_ _=>rfl⟩)
 ·intro q i l z y k H;have J:(st q).ls[i]?=some l/\(q,i)≠(r,j):=by
   rcases aj r q (fV (st r) j) st with ⟨rfl,e⟩|⟨Z,e⟩
   ·rw[e]at z;have:=u i l z y
    simp_all
   ·grind
  rintro (R|⟨⟨X,M,h5⟩,R⟩)
  ·exact (h.ownb q i l J.1 y k H).1 R
  ·obtain⟨rfl,rfl⟩:=h.sep q i l r j X J.1 y M h5 k H R
   simp_all
 ·rintro b Y (R|⟨⟨X,M,h5⟩,R⟩)
  ·exact (h.box b Y).1 R
  ·exact (h.ownb r j X M h5 _ R).2.2 b Y rfl
theorem lZ (I:ax V):∀ (ks:List (Nat×Nat)),an P V W st a w->an P V W (ac (aN st ks) st) a w /\
  (∀ (q i:Nat) (l:Leaf),(ac (aN st ks) st q).ls[i]?=some l->am l->(st q).ls[i]?=some l/\(q,i)∉ks) /\
  (∀ q,(ac (aN st ks) st q).sh=(st q).sh/\(st q).ver<=(ac (aN st ks) st q).ver)
 |[],h=>⟨h,λ_ _ _ y _=>⟨y,by simp⟩,λ_=>⟨rfl,BO _⟩⟩
 |(r,j)::ks,h=>by
  obtain⟨y,O,H⟩:=lZ I ks h;have e:ac (aN st ((r,j)::ks)) st=ac [(r,fZ (ac (aN st ks) st r) j)] (ac (aN st ks) st):=aQ _ _ _ _;rw[e];refine⟨y.kill1 I r j,λq i l z J=>?_,λq=>?_⟩
  ·have M:(ac (aN st ks) st q).ls[i]?=some l/\(q,i)≠(r,j):=by
    rcases aj r q (fZ (ac (aN st ks) st r) j) (ac (aN st ks) st) with ⟨rfl,e⟩|⟨u,e⟩
    ·rw[e]at z;rcases aS _ _ _ _ _ z with ⟨_,rfl,_⟩|⟨u,z⟩
     ·exact J.elim
     ·grind
    ·grind
   simp_all
  ·rcases aj r q (fZ (ac (aN st ks) st r) j) (ac (aN st ks) st) with ⟨rfl,e⟩|⟨u,e⟩
   ·rw[e];exact⟨(H q).1,(H q).2⟩
   ·grind
def Wit.frz (W:Wit)(st:St)(ks:List (Nat×Nat)):Wit :=
 { W with nw:=λk=>W.nw k\/∃ x∈ks,(∃ l,(st x.1).ls[x.2]?=some l/\am l)/\k∈W.bs x.1 x.2 }
theorem an.nw_congr (h:an P V W st a w){nw':Nat->Prop}(e:∀ k,W.nw k<->nw' k):an P V { W with nw:=nw' } st a w:=by
 have:nw'=W.nw:=funext λk=>propext (e k).symm
 subst this;exact h
theorem lD (Y:ax V):∀ (ks:List (Nat×Nat)),an P V W st a w->an P V (W.frz st ks) (ac (aE st ks) st) a w /\
  (∀ (q i:Nat) (l:Leaf),(ac (aE st ks) st q).ls[i]?=some l->am l->(st q).ls[i]?=some l/\(q,i)∉ks) /\
  (∀ q,(ac (aE st ks) st q).sh=(st q).sh/\(st q).ver<=(ac (aE st ks) st q).ver)
 |[],h=>⟨h.nw_congr (λk=>by simp),λ_ _ _ I _=>⟨I,by simp⟩,λ_=>⟨rfl,BO _⟩⟩
 |(r,j)::ks,h=>by
  obtain⟨I,h2,X⟩:=lD Y ks h;have e:ac (aE st ((r,j)::ks)) st=ac [(r,fV (ac (aE st ks) st r) j)] (ac (aE st ks) st):=aQ _ _ _ _;rw[e];refine⟨?_,λq i l O M=>?_,λq=>?_⟩
  ·have h7:=I.frz1 Y r j;have h8:=h7.nw_congr (nw':=(W.frz st ((r,j)::ks)).nw) (λk=>?_)
   ·exact h8
   ·simp only[Wit.frz];constructor
    ·rintro ((y|⟨x,R,y⟩)|⟨⟨l,u,H⟩,y⟩)
     ·grind
     ·grind
     ·exact .inr ⟨(r,j),CU ..,⟨l,(h2 r j l u H).1,H⟩,y⟩
    ·rintro (y|⟨x,R,⟨l,u,H⟩,y⟩)
     ·grind
     ·rcases CS.1 R with rfl|R
      ·by_cases J:(r,j)∈ks
       ·exact .inl (.inr ⟨(r,j),J,⟨l,u,H⟩,y⟩)
       ·refine .inr ⟨⟨l,?_,H⟩,y⟩;exact iK ks J u
      ·grind
  ·have h6:(ac (aE st ks) st q).ls[i]?=some l/\(q,i)≠(r,j):=by
    rcases aj r q (fV (ac (aE st ks) st r) j) (ac (aE st ks) st) with ⟨rfl,e⟩|⟨z,e⟩
    ·rw[e]at O;rcases aS _ _ _ _ _ O with ⟨rfl,rfl,hj⟩|⟨z,O⟩
     ·exfalso;generalize (ac (aE st ks) st q).ls.getD i .dead=Z at M;cases Z with
      |own p hh E e xs=>cases hh <;> exact M.elim
      |_=>exact M.elim
     ·grind
    ·grind
   simp_all
  ·rcases aj r q (fV (ac (aE st ks) st r) j) (ac (aE st ks) st) with ⟨rfl,e⟩|⟨z,e⟩
   ·rw[e];exact⟨(X q).1,(X q).2⟩
   ·grind
where
 iK:∀ (ks:List (Nat×Nat)) {r j:Nat} {l:Leaf},(r,j)∉ks->(st r).ls[j]?=some l->(ac (aE st ks) st r).ls[j]?=some l
  |[],_,_,_,_,u=>u
  |(q,i)::ks,r,j,l,hn,u=>by
   have I:=iK ks (λJ=>hn (CM _ J)) u;have e:ac (aE st ((q,i)::ks)) st=ac [(q,fV (ac (aE st ks) st q) i)] (ac (aE st ks) st):=aQ _ _ _ _;rw[e];rcases aj q r (fV (ac (aE st ks) st q) i) (ac (aE st ks) st) with ⟨rfl,e⟩|⟨z,e⟩
   ·rw[e];simp only[fV,aT]
    grind
   ·grind
theorem an.put (hV:ax V)(h:an P V W st a w)(d:Nat)(hd:d<V.nt)(a4:∀ x∈V.fixt,x.1≠d)(n:Nat)(sh:aI)(ls:List Leaf)(v:Value)
  (J:List Value) (I:Nat->List Nat) (hn:(st d).ver<n) (hs:d9 sh v J) (hl:ls.length=J.length) (h1:∀ u∈J,u.oneCell'=true)
  (a2:∀ (j:Nat) (l:Leaf) (u:Value),ls[j]?=some l->J[j]?=some u->aK P V W st w (I j) l u)
  (a0:∀ (j:Nat) (l:Leaf),ls[j]?=some l->am l->∀ k∈I j,¬ W.nw k/\¬ V.prot k/\(∀ b,live st b->W.β b≠k) /\
   ∀ (r1 j1:Nat) (l1:Leaf),r1≠d->(st r1).ls[j1]?=some l1->am l1->k∉W.bs r1 j1)
  (a3:∀ (j j':Nat) (l l':Leaf),ls[j]?=some l->am l->ls[j']?=some l'->am l'->∀ k,k∈I j->k∈I j'->j=j') :
  an P V { W with cs:=λr=>if r=d then J else W.cs r,bs:=λr j=>if r=d then I j else W.bs r j } (ac [(d,⟨n,sh,ls⟩)] st) (a.put (some d) v) w:=by
 have a6:d<B0:=B5 hd hV.ntB;have X:∀ b,live (ac [(d,⟨n,sh,ls⟩)] st) b<->live st b:=by
  intro b;by_cases Z:B0<=b
  ·rw[live,live,aJ (by omega)]
  ·simp[live,Z]
 have Y:cB V W { W with cs:=λr=>if r=d then J else W.cs r,bs:=λr j=>if r=d then I j else W.bs r j } st (ac [(d,⟨n,sh,ls⟩)] st) w w:=by
  refine⟨λq=>?_,λb Z=>⟨(X b).2 Z,rfl⟩,λ_ h=>h,λ_ _=>rfl,λ_ q j' l' M h4 h5=>?_⟩;rcases aj d q ⟨n,sh,ls⟩ st with ⟨rfl,e⟩|⟨y,e⟩
  ·grind
  ·grind
  rcases aj d q ⟨n,sh,ls⟩ st with ⟨rfl,e⟩|⟨y,e⟩
  ·grind
  ·grind
 have a1:∀ t,(a.put (some d) v).tmps.getD t undef=if t=d then v else a.tmps.getD t undef:=by
  intro t;by_cases ht:t=d
  ·subst ht;have:t<a.tmps.size:=by rw[h.nt];exact hd
   simp[Ck,this]
  ·simp only[Ck,if_neg ht];rw[CB,CB,Array.getElem?_setIfInBounds_ne (λe=>ht e.symm)]
 exact {
  nt:=by simp[Ck,h.nt],df:=by simp[Ck,h.df]
  slots:=λt ht=>by
   rw[a1];rcases aj d t ⟨n,sh,ls⟩ st with ⟨rfl,e⟩|⟨y,e⟩
   ·grind
   ·rw[e];simpa[y]using h.slots t ht
  boxes:=λb Z=>by
   have:b≠d:=by omega
   rw[aJ this];simpa[this]using h.boxes b Z
  len:=λq=>by
   rcases aj d q ⟨n,sh,ls⟩ st with ⟨rfl,e⟩|⟨y,e⟩
   ·grind
   ·rw[e];simpa[y]using h.len q
  one:=λq u hu=>by
   by_cases hq:q=d
   ·grind
   ·simp only[hq]at hu;exact h.one q u hu
  leaf:=λq j l u H M=>by
   rcases aj d q ⟨n,sh,ls⟩ st with ⟨rfl,e⟩|⟨y,e⟩
   ·rw[e]at H;simp at M;exact (a2 j l u H M).carry hV.ro Y (λ_=>⟨by simp,λ_ _=>rfl⟩)
   ·rw[e]at H;simp only[y]at M;exact (h.leaf q j l u H M).carry hV.ro Y (λ_=>⟨by simp[y],λ_ _=>rfl⟩)
  ownb:=λq j l H M k O=>by
   rcases aj d q ⟨n,sh,ls⟩ st with ⟨rfl,e⟩|⟨y,e⟩
   ·grind
   ·rw[e]at H;simp only[y]at O;have:=h.ownb q j l H M k O
    grind
  sep:=λq j l q' j' l' H M h4 h5 k O z=>by
   rcases aj d q ⟨n,sh,ls⟩ st with ⟨e0,e⟩|⟨y,e⟩ <;> rcases aj d q' ⟨n,sh,ls⟩ st with ⟨e1,e'⟩|⟨R,e'⟩
   ·rw[e]at H;rw[e']at h4;simp only[e0]at O;simp only[e1]at z;exact⟨e0.trans e1.symm,a3 j j' l l' H M h4 h5 k O z⟩
   ·rw[e]at H;rw[e']at h4;simp only[e0]at O;simp only[R]at z;exact absurd z ((a0 j l H M k O).2.2.2 q' j' l' R h4 h5)
   ·rw[e]at H;rw[e']at h4;simp only[y]at O;simp only[e1]at z;exact absurd O ((a0 j' l' h4 h5 k z).2.2.2 q j l y H M)
   ·rw[e]at H;rw[e']at h4;simp only[y]at O;simp only[R]at z;exact h.sep q j l q' j' l' H M h4 h5 k O z
  box:=λb Z=>h.box b ((X b).1 Z)
  inj:=λb b' Z a5=>h.inj b b' ((X b).1 Z) ((X b').1 a5)
  nwlt:=h.nwlt
  os:=h.os,tape:=h.tape,output:=h.output,size:=h.size,keep:=h.keep
  fixb:=λx hx=>⟨(X _).2 (h.fixb x hx).1,(h.fixb x hx).2⟩
  fixt:=λx hx=>by rw[a1,if_neg (a4 x hx)];exact h.fixt x hx }
theorem an.putLs (X:ax V)(h:an P V W st a w)(d:Nat)(J:d<V.nt)(y:∀ x∈V.fixt,x.1≠d)(n:Nat)(sh:aI)(ls:List Leaf)(v:Value)
  (r:List Value) (M:(st d).ver<n) (O:d9 sh v r) (H:aB P V W st w ls r) :
  Rel P V (ac [(d,⟨n,sh,ls⟩)] st) (a.put (some d) v) w :=
 ⟨_,h.put X d J y n sh ls v r (λ_=>[]) M O H.length H.one' (λj l u I R=>(H.at_ j l u I R).1) (λ_ _ _ _ k z=>by simp at z)
  (λ_ _ _ _ _ _ _ _ k z=>by simp at z)⟩
end
def zeroCells:Ty->List Value
 |.int k=>[.int k 0]
 |.bool=>[.bool false]
 |.str=>[.string B4]
 |.unit=>[]
 |.pair a b=>zeroCells a++zeroCells b
 |.hdr=>[.slice none 0 0]
 |.list _ _ _=>[.slice none 0 0]
def bO (P:Program)(t:TypeId)(n:Nat):Prop:=(P.info? t).map (·.size)=some n
def dY (P:Program)(t:TypeId)(z:Value):Prop:=(P.info? t).map (·.zero)=some (some z)
def EqAt (P:Program)(t:TypeId)(a:Ty):Prop:=a.flat=true->∀ (w:World) (G:Nat->Prop) (x y:a.den) (u r:List Value),Rd w G a x u->Rd w G a y r ->
 (Op.equal t (.agg u.toArray) (.agg r.toArray)).run P w=.ok (a.eqv x y) w
def oM (P:Program)(t:TypeId):TI->Prop
 |.int k=>P.underlying t=some (.int k)/\bO P t 1/\dY P t (.int k 0)
 |.bool=>P.underlying t=some .bool/\bO P t 1/\dY P t (.bool false)
 |.str=>P.underlying t=some .string/\bO P t 1/\dY P t (.string B4)
 |.slice E e r=>P.underlying t=some (.slice E)/\bO P t 1/\dY P t (.slice none 0 0)/\0<e.cells/\(0<r/\(e=.int .u8->P.underlying E=some (.int .u8))) /\
  ∃ i z,P.info? E=some i/\i.size=e.cells/\i.bytes=r/\i.zero=some z/\z.cells.toList=zeroCells e
 |.struct a u=>(∃ H,P.underlying t=some (.struct H)/\H.toList.mapM (λf=>(P.info? f.type).map λi=>(f.offset,i.size))=some (u.map λx=>(x.1,x.2.1)) /\
  ∀ (i off n:Nat) (agg:Bool),u[i]?=some (off,n,agg)->(agg=false->n=1)/\∃ f:Field,H[i]?=some f/\f.offset=off/\0<n/\off+n<=a.cells/\bO P f.type n /\
   (P.underlying f.type).map (λd=>match d with|.struct _|.array _ _=>true|_=>false)=some agg) /\
  bO P t a.cells/\dY P t (.agg (zeroCells a).toArray)/\EqAt P t a/\P.eqGuardType P.depth t=false
 |.arr e n=>(∃ E,P.underlying t=some (.array n E)/\bO P E e.cells/\(P.underlying E).map (λd=>match d with|.struct _|.array _ _=>true|_=>false)=some e.isAgg)/\0<e.cells /\
  bO P t (n*e.cells)/\dY P t (.agg ((BX n (zeroCells e)).flatten).toArray)
 |.ptr=>(∃ e,P.underlying t=some (.pointer e))/\bO P t 1/\dY P t (.pointer none)
 |.fn=>(∃ x y z,P.underlying t=some (.func x y z))/\bO P t 1/\dY P t .nilFunc
 |.none=>True
def TOk (P:Program)(T:TypeId->TI):Prop:=∀ t,oM P t (T t)
theorem sD {P:Program}:∀ {l:List (TypeId×TI)},(∀ x∈l,oM P x.1 x.2)->TOk P (gD l)
 |[],_,_=>trivial
 |(t,i)::l,h,u=>by
  simp only[gD];cases y:BG t u with
  |false=>exact sD (λx r=>h x (CM _ r)) u
  |true =>
   simp_all
section
variable {P:Program} {V:Env} {W:Wit} {st:St} {w:World} {a:Act} {o:Oper}
def mI (P:Program)(V:Env)(o:Oper)(st:St)(U:Upd)(a:Act)(w:World):Prop :=
 ∀ (next:Act->World->Prop) (Q:Exit->Act->World->Prop),(∀ r u,Rel P V (ac U st) r u->next r u)->o.wp P a w next Q
theorem dR {v:Value}{w':World}{next:Act->World->Prop}{Q:Exit->Act->World->Prop}(h:(execOp a.eval o).run P w=.ok (.value v) w')(r:next (a.put o.dst v) w'):o.wp P a w next Q:=by
 unfold Oper.wp;rw[h];exact r
theorem pB {w':World}{next:Act->World->Prop}{Q:Exit->Act->World->Prop}(h:(execOp a.eval o).run P w=.ok .skip w')(r:next (a.put o.dst undef) w'):o.wp P a w next Q:=by
 unfold Oper.wp;rw[h];exact r
def bL (V:Env)(o:Oper):Prop:=∀ d,o.dst=some d->d<V.nt/\∀ x∈V.fixt,x.1≠d
theorem dS (H:ax V)(h:an P V W st a w){d:Nat}(y:o.dst=some d)(u:bL V o){v:Value}{sh:aI}{ls:List Leaf}{cs:List Value}
  (r:(execOp a.eval o).run P w=.ok (.value v) w) (I:d9 sh v cs) (z:aB P V W st w ls cs):mI P V o st (cf st [] d sh ls) a w:=by
 intro next Q J;refine dR r ?_;rw[y];exact J _ _ (h.putLs H d (u d y).1 (u d y).2 _ sh ls v cs (CJ _) I z)
theorem aP (I:ax V)(h:an P V W st a w){d:Nat}(J:o.dst=some d)(y:bL V o){v:Value}{l:Leaf}
  (r:(execOp a.eval o).run P w=.ok (.value v) w) (z:aK P V W st w [] l v) (u:¬ am l) (H:v.oneCell'=true):mI P V o st (cf st [] d .one [l]) a w :=
 dS I h J y r (cs:=[v]) rfl ⟨⟨z,u,H⟩,trivial⟩
theorem kk {agg:Bool}{v:Value}{cs:List Value}(h:da agg v cs):d9 (bg agg) v cs:=by
 cases agg <;> exact h
theorem bD (h:an P V W st a w){x:Operand}{k:IntKind}{n:Int}(r:one st x=.int k n):a.eval x=.int k n:=by
 have:=(br h x (by rw[r];simp)).1;rw[r]at this;exact this
theorem ij (h:an P V W st a w){x:Operand}{b:Bool}(r:one st x=.bool b):a.eval x=.bool b:=by
 have:=(br h x (by rw[r];simp)).1;rw[r]at this;exact this
theorem iB (h:an P V W st a w){x:Operand}{b:ByteArray}(r:one st x=.str b):a.eval x=.string b:=by
 have:=(br h x (by rw[r];simp)).1;rw[r]at this;exact this
theorem vF (r:BinOp)(k:IntKind)(t t':TypeId)(x y:Operand)(m n:Int)(l:Leaf)(u:sr r k m n=some l)(H:a.eval x=.int k m)(I:a.eval y=.int k n)(z:o.op=.binOp r t x y t') :
  ∃ v,(execOp a.eval o).run P w=.ok (.value v) w/\aK P V W st w [] l v/\¬ am l/\v.oneCell'=true:=by
 cases r <;> simp only[sr,BN,reduceCtorEq]at u <;> subst u <;>
  exact⟨_,by simp[execOp,z,H,I,eqGuard,Go.binOp,Op.intArith,Op.intCmp],rfl,id,rfl⟩
theorem BE (z:ax V)(h:an P V W st a w)(ks:List (Nat×Nat)):cB V W W st (ac (aN st ks) st) w w:=by
 obtain⟨_,I,u⟩:=lZ z ks h;exact⟨λq=>⟨(u q).2,λ_=>rfl⟩,λb r=>⟨⟨r.1,by rw[(u b).1];exact r.2⟩,rfl⟩,λ_ h=>h,λ_ _=>rfl,λ_ q j l H y _=>⟨⟨l,(I q j l H y).1,y⟩,rfl,λ_ _=>rfl⟩⟩
theorem step_frz (z:ax V)(h:an P V W st a w)(ks:List (Nat×Nat)):cB V W (W.frz st ks) st (ac (aE st ks) st) w w:=by
 obtain⟨_,I,u⟩:=lD z ks h;exact⟨λq=>⟨(u q).2,λ_=>rfl⟩,λb r=>⟨⟨r.1,by rw[(u b).1];exact r.2⟩,rfl⟩,λ_ h=>.inl h,λ_ _=>rfl,λ_ q j l H y _=>⟨⟨l,(I q j l H y).1,y⟩,rfl,λ_ _=>rfl⟩⟩
def dk (W:Wit)(ls:List Leaf)(j:Nat):List Nat :=
 match ls[j]? with
 |some (.al r i _)=>W.bs r i
 |_=>[]
theorem wR:∀ {ls:List Leaf} {j r i n:Nat},ls[j]?=some (.al r i n)->am (aC st (.al r i n))->(r,i)∈bw st ls
 |l::ls,0,r,i,n,h,u=>by
  simp at h;subst h;generalize y:aC st (.al r i n)=q at u;cases q <;> first|exact u.elim|simp[bw,y]
 |l::ls,j+1,r,i,n,h,u=>by
  have:=wR (ls:=ls) (by simpa using h) u;cases l <;> simp[bw,this]
theorem mJ:∀ {ls:List Leaf} {j r i n:Nat},ls[j]?=some (.al r i n)->am (aC st (.al r i n))->(r,i)∈bZ st ls
 |l::ls,0,r,i,n,h,u=>by
  simp at h;subst h;generalize y:aC st (.al r i n)=q at u;cases q <;> first|exact u.elim|simp[bZ,y]
 |l::ls,j+1,r,i,n,h,u=>by
  have:=mJ (ls:=ls) (by simpa using h) u;cases l <;> simp[bZ,this]
theorem oa:∀ {ls:List Leaf} {j y r i n H:Nat},aY (bZ st ls)=true->ls[j]?=some (.al r i n)->am (aC st (.al r i n)) ->
    ls[y]?=some (.al r i H)->am (aC st (.al r i H))->j=y
  |l::ls,j,y,r,i,n,H,u,M,X,O,Z=>by
    have a0:∀ (m:Nat) (k:Nat),l=.al r i m->am (aC st (.al r i m))->(∃ z,ls[k]?=some (.al r i z)/\am (aC st (.al r i z)))->False:=by
      rintro m k rfl J ⟨z,R,Y⟩;have h7:=mJ R Y;have h8:bZ st (.al r i m::ls)=(r,i)::bZ st ls:=by
        generalize hq:aC st (.al r i m)=q at J;cases q <;> first|exact J.elim|simp[bZ,hq]
      rw[h8]at u;simp only[aY,BJ,CF]at u;have:=u.1;rw[CG]at this;have:=this _ h7;simp at this
    have I:aY (bZ st ls)=true:=by
      cases l <;> first
        |exact u
        | (rename_i r' y v'
           simp only[bZ]at u;split at u
           · simp only[Cc,aY]at u
             grind
           · simpa using u)
    cases j with
    |zero =>
      cases y with
      |zero=>rfl
      |succ y =>
        grind
    |succ j =>
      cases y with
      |zero =>
        grind
      |succ y =>
        have:=oa (ls:=ls) I (by simpa using M) X (by simpa using O) Z;omega
theorem l6 (Z:ax V)(h:an P V W st a w){l:Leaf}{v:Value}(u:aK P V W st w [] l v)(y:¬ am l) :
  (∃ r i n,l=.al r i n/\am (aC st l)/\aK P V W st w (W.bs r i) (aC st l) v/\(st r).ls[i]?=some (aC st l)) \/
  (¬ am (aC st l)/\aK P V W st w [] (aC st l) v):=by
 cases l with
 |al r j n =>
  by_cases z:aC st (.al r j n)=.dead
  ·rw[z];exact .inr ⟨id,trivial⟩
  ·obtain⟨I,R⟩:=ff rfl z;have O:=u.2 I;have M:=h.leaf r j _ v R O;by_cases H:am (aC st (.al r j n))
   ·grind
   ·exact .inr ⟨H,M.carry Z.ro (cB.refl V W st w) (λh=>absurd h H)⟩
 |own p hh E e J=>exact absurd trivial y
 |nal p Y ep X E e J =>
  simp only[aC];cases bq st Y ep with
  |false=>exact .inr ⟨id,trivial⟩
  |true=>exact .inr ⟨id,u⟩
 |_=>exact .inr ⟨id,u⟩
end
section
variable {P:Program} {V:Env} {W:Wit} {st:St} {w w':World} {a:Act} {o:Oper} {ls:List Leaf} {cs:List Value}
theorem iC {st st':St}(h:∀ q,(st' q).sh=(st q).sh)(b:Nat):live st' b<->live st b:=by simp[live,h]
def aA (st:St)(x:Nat×Nat):Prop:=∃ l,(st x.1).ls[x.2]?=some l/\am l
def aX (W:Wit)(ks:List (Nat×Nat)):List Nat:=ks.flatMap λx=>W.bs x.1 x.2
theorem dE (W:Wit)(a b:List (Nat×Nat)):aX W (a++b)=aX W a++aX W b:=List.flatMap_append
theorem gl {W:Wit}{ks:List (Nat×Nat)}{k:Nat}:k∈aX W ks<->∃ x∈ks,k∈W.bs x.1 x.2:=List.mem_flatMap
theorem kt {W:Wit}{p:Bool}{ks:List (Nat×Nat)}(u:∀ x∈ks,aA st x):∀ k,bo V W p ks k->gd V (W.frz st ks) p k:=by
 rintro k (r|⟨x,y,r⟩)
 ·exact bT (W':=W.frz st ks) (λh=>h) (λ_ h=>Or.inl h) k r
 ·exact .inl (.inr ⟨x,y,u x y,r⟩)
theorem nL {a b:List (Nat×Nat)}(h:dx a b=true):∀ x∈a,x∉b:=by
 intro x r u;simp only[dx,CF,CG]at h;have:=h x r;simp only[Cb,CG]at this;have:=this x u;simp[iv]at this
theorem fI (hV:ax V){W:Wit}{a:Act}{w:World}(h:an P V W st a w){frz kill:List (Nat×Nat)}(a0:dx frz kill=true)(X:∀ x∈kill,aA st x) :
  an P V (W.frz st frz) (ac (aN (ac (aE st frz) st) kill++aE st frz) st) a w /\
  (∀ (q i:Nat) (l:Leaf),(ac (aN (ac (aE st frz) st) kill++aE st frz) st q).ls[i]?=some l->am l->(st q).ls[i]?=some l/\(q,i)∉frz/\(q,i)∉kill) /\
  (∀ q,(ac (aN (ac (aE st frz) st) kill++aE st frz) st q).sh=(st q).sh/\(st q).ver<=(ac (aN (ac (aE st frz) st) kill++aE st frz) st q).ver) /\
  (∀ k∈aX W kill,¬ (W.frz st frz).nw k/\¬ V.prot k/\k<w.heap.size/\(∀ b,live (ac (aN (ac (aE st frz) st) kill++aE st frz) st) b->W.β b≠k) /\
   ∀ (J i:Nat) (l:Leaf),(ac (aN (ac (aE st frz) st) kill++aE st frz) st J).ls[i]?=some l->am l->k∉W.bs J i):=by
 obtain⟨h1,h2,h3⟩:=lD hV frz h;obtain⟨h4,h5,Y⟩:=lZ hV kill h1;rw[<- bB]at h4 h5 Y;have H:∀ q,(ac (aN (ac (aE st frz) st) kill++aE st frz) st q).sh=(st q).sh:=λq=>(Y q).1.trans (h3 q).1
 have u:∀ (q i:Nat) (l:Leaf),(ac (aN (ac (aE st frz) st) kill++aE st frz) st q).ls[i]?=some l->am l->(st q).ls[i]?=some l/\(q,i)∉frz/\(q,i)∉kill:=by
  simp_all
 refine⟨h4,u,λq=>⟨H q,BR (h3 q).2 (Y q).2⟩,λk z=>?_⟩;obtain⟨x,hx,z⟩:=gl.1 z;obtain⟨l,M,r⟩:=X x hx;have h7:=h.ownb x.1 x.2 l M r k z;refine⟨?_,h7.2.1,h.own_lt M r k z,λb hb=>h7.2.2 b ((iC H b).1 hb),λJ i l1 h8 h9 a1=>?_⟩
 ·rintro (hn|⟨y,hy,⟨l2,R,I⟩,O⟩)
  ·grind
  ·obtain⟨e1,e2⟩:=h.sep y.1 y.2 l2 x.1 x.2 l R I M r k O z;exact nL a0 y hy (by rw[show y=x from Prod.ext e1 e2];exact hx)
 ·obtain⟨Z,_,a2⟩:=u J i l1 h8 h9;obtain⟨e1,e2⟩:=h.sep x.1 x.2 l J i l1 M r Z h9 k z a1
  simp_all
theorem zT (H:ax V)(h:an P V W st a w)(frz kill:List (Nat×Nat)):cB V W (W.frz st frz) st (ac (aN (ac (aE st frz) st) kill++aE st frz) st) w w:=by
 obtain⟨J,O,z⟩:=lD H frz h;obtain⟨_,I,r⟩:=lZ H kill J;rw[<- bB]at I r;exact⟨λq=>⟨BR (z q).2 (r q).2,λ_=>rfl⟩,λb y=>⟨⟨y.1,by rw[(r b).1,(z b).1];exact y.2⟩,rfl⟩,λ_ h=>.inl h,λ_ _=>rfl,
  λ_ q j l M u _=>⟨⟨l,(O q j l (I q j l M u).1 u).1,u⟩,rfl,λ_ _=>rfl⟩⟩
theorem sE:∀ {ls:List Leaf} {j:Nat} {p:Bool} {ks:List (Nat×Nat×Nat)} {ep:Nat} {E:TypeId} {e:Ty} {xs:List e.den},ls[j]?=some (.nal p ks ep none E e xs)->bq st ks ep=true->∀ k∈ks,(k.1,k.2.1)∈dr st ls
 |l::ls,0,p,ks,ep,E,e,xs,h,y,k,u=>by
  simp at h;subst h;simp only[dr,aC]
  grind
 |l::ls,j+1,p,ks,ep,E,e,xs,h,y,k,u=>by
  have:=sE (ls:=ls) (by simpa using h) y k u;cases l with
  |nal M H I r J O z=>cases r <;> simp[dr,this]
  |_=>simp[dr,this]
theorem sG {ls:List Leaf}(h:ib st ls=true):aY (bZ st ls)=true/\dx (dr st ls) (bZ st ls)=true:=by
 simpa[ib]using h
theorem oc (y:aB P V W st w ls cs){x:Nat×Nat}(u:x∈bZ st ls):aA st x:=by
 induction ls generalizing cs with
 |nil=>simp[bZ]at u
 |cons l ls z =>
  cases cs with
  |nil=>exact y.elim
  |cons v cs =>
   cases l with
   |al r j n =>
    simp only[bZ,BT]at u;rcases u with u|u
    ·split at u
     ·rename_i p I E e J H;simp at u;subst u;exact⟨_,(ff H (by simp)).2,trivial⟩
     ·grind
    ·exact z y.2 u
   |_=>exact z y.2 u
theorem AT {l:Leaf}(h:am (gi st l)):am (aC st l)/\gi st l=aC st l:=by
 unfold gi at h ⊢;split at h
 ·exact h.elim
 ·exact⟨h,rfl⟩
theorem oN (hV:ax V)(h:an P V W st a w){ls:List Leaf}{cs:List Value}(hl:aB P V W st w ls cs)(b1:ib st ls=true) :
    an P V (W.frz st (dr st ls)) (ac (mvU st ls) st) a w/\(dD st ls).length=cs.length /\
    (∀ (j:Nat) (l:Leaf) (u:Value),(dD st ls)[j]?=some l->cs[j]?=some u->aK P V (W.frz st (dr st ls)) (ac (mvU st ls) st) w (dk W ls j) l u) /\
    (∀ (j:Nat) (l:Leaf),(dD st ls)[j]?=some l->am l->∀ k∈dk W ls j,¬ (W.frz st (dr st ls)).nw k/\¬ V.prot k/\k<w.heap.size /\
      (∀ b,live (ac (mvU st ls) st) b->W.β b≠k) /\
      ∀ (r1 j1:Nat) (l1:Leaf),(ac (mvU st ls) st r1).ls[j1]?=some l1->am l1->k∉W.bs r1 j1) /\
    (∀ (j j':Nat) (l l':Leaf),(dD st ls)[j]?=some l->am l->(dD st ls)[j']?=some l'->am l'->∀ k,k∈dk W ls j->k∈dk W ls j'->j=j'):=by
  obtain⟨hd,b2⟩:=sG b1;obtain⟨h1,h2,h3,b0⟩:=fI hV h b2 (λx hx=>oc hl hx);have J:=zT hV h (dr st ls) (bZ st ls);show an P V (W.frz st (dr st ls)) (ac (aN (ac (aE st (dr st ls)) st) (bZ st ls)++aE st (dr st ls)) st) a w/\_;have R:∀ (j:Nat) (l:Leaf),(dD st ls)[j]?=some l->∃ z u,ls[j]?=some z/\cs[j]?=some u/\gi st z=l/\aK P V W st w [] z u/\¬ am z:=by
    intro j l M;simp only[dD,CX,BU]at M;obtain⟨z,H,Z⟩:=M;have a4:j<cs.length:=by rw[<- hl.length];exact (BI.1 H).1
    have O:=BK a4;have h7:=hl.at_ j z _ H O
    simp_all
  have y:∀ (j:Nat) (l:Leaf),(dD st ls)[j]?=some l->am l->∃ r i n,ls[j]?=some (.al r i n)/\am (aC st (.al r i n))/\(st r).ls[i]?=some l:=by
    intro j l M ho;obtain⟨z,u,H,Z,rfl,O,h7⟩:=R j l M;obtain⟨a0,e0⟩:=AT ho;rcases l6 hV h O h7 with ⟨r,i,n,rfl,h8,_,h9⟩|⟨h8,_⟩
    · grind
    · grind
  refine⟨h1,by simp[dD,hl.length],λj l u M hu=>?_,λj l M ho k I=>?_,λj j' l l' M ho a9 a0 k I a2=>?_⟩
  · obtain ⟨z, u', H, Z, rfl, O, h7⟩ := R j l M
    obtain rfl:u=u':=Option.some.inj (hu.symm.trans Z);have Y:gi st z=aC st z->aK P V (W.frz st (dr st ls)) (ac (mvU st ls) st) w (dk W ls j) (gi st z) u:=by
      intro e0;rw[e0];rcases l6 hV h O h7 with ⟨r,i,n,rfl,h8,h9,_⟩|⟨h8,h9⟩
      · have:dk W ls j=W.bs r i:=by simp[dk,H]
        rw[this];exact h9.carry hV.ro J (λ_=>⟨rfl,λ_ _=>rfl⟩)
      · exact h9.carry hV.ro J (λh=>absurd h h8)
    by_cases X:∃ p ks ep E e xs,aC st z=.nal p ks ep none E e xs
    · obtain⟨p,ks,ep,E,e,xs,X⟩:=X
      have e0:gi st z=.ro p E e xs:=by unfold gi;rw[X]
      rw[e0];have a3:z=.nal p ks ep none E e xs/\bq st ks ep=true:=by
        cases z with
        |al r i n=>exact absurd X iO
        |nal p' a5 a6 b4 E' e' b5 =>
          simp only[aC]at X;cases hv:bq st a5 a6 with
          |false=>simp[hv]at X
          |true =>
            simp_all
        |_=>simp[aC]at X
      obtain⟨rfl,hv⟩:=a3;refine Rd.mono (λk I=>?_) (pA hv O).rd;rcases I with I|⟨x,hx,I⟩
      · exact bT (W':=W.frz st (dr st ls)) (λh=>h) (λ_ h=>Or.inl h) k I
      · exact .inl (.inr ⟨(x.1,x.2.1),sE H hv x hx,(cr hv).2.2 x hx,I⟩)
    · refine Y ?_
      unfold gi
      grind
  · obtain⟨r,i,n,H,Z,O⟩:=y j l M ho
    have e:dk W ls j=W.bs r i:=by simp[dk,H]
    rw[e]at I;exact b0 k (gl.2 ⟨(r,i),mJ H Z,I⟩)
  · obtain⟨r,i,n,H,Z,O⟩:=y j l M ho
    obtain⟨r',i',n',a1,ad,b3⟩:=y j' l' a9 a0;have e:dk W ls j=W.bs r i:=by simp[dk,H]
    have e':dk W ls j'=W.bs r' i':=by simp[dk,a1]
    rw[e]at I;rw[e']at a2;obtain⟨rfl,rfl⟩:=h.sep r i l r' i' l' O ho b3 a0 k I a2;exact oa hd H Z a1 ad
theorem zI (y:ax V)(h:an P V W st a w)(u:aB P V W st w ls cs)(r:ib st ls=true):∀ q,(ac (mvU st ls) st q).sh=(st q).sh/\(st q).ver<=(ac (mvU st ls) st q).ver :=
 (fI y h (sG r).2 (λ_ z=>oc u z)).2.2.1
theorem an.putMoved (M:ax V)(h:an P V W st a w){ls:List Leaf}{cs:List Value}(J:aB P V W st w ls cs)(R:ib st ls=true)
  (d:Nat) (I:d<V.nt) (r:∀ x∈V.fixt,x.1≠d) {sh:aI} {v:Value} (Y:d9 sh v cs) :
  Rel P V (ac (cf st (mvU st ls) d sh (dD st ls)) st) (a.put (some d) v) w:=by
 obtain⟨O,h2,X,H,Z⟩:=oN M h J R;exact⟨_,O.put M d I r _ sh (dD st ls) v cs (dk W ls) (CJ _) Y h2 J.one' X
  (λj l y z k u=>⟨(H j l y z k u).1,(H j l y z k u).2.1,(H j l y z k u).2.2.2.1,λr1 j1 l1 _=>(H j l y z k u).2.2.2.2 r1 j1 l1⟩) Z⟩
theorem an.setBoxG (hV:ax V)(h:an P V W st a w)(b:Nat)(hb:B0<=b)(n:Nat)(ls:List Leaf)(a3:List Value)(X:Nat->List Nat)(g:Nat)(E:TypeId)
    (hn:(st b).ver<n) (hg:(live st b/\W.β b=g)\/(¬ live st b/\¬ ca V W st g/\∀ (j:Nat) (l:Leaf),ls[j]?=some l->am l->∀ k∈X j,k≠g)) (bl:w'.heap[g]?=some (.cells a3.toArray E (0,0)))
    (b0:∀ k,ca V W st k->k≠g->w'.heap[k]?=w.heap[k]?) (a6:∀ (j:Nat) (l:Leaf),ls[j]?=some l->am l->∀ k∈X j,k≠g->w'.heap[k]?=w.heap[k]?) (b5:w.heap.size<=w'.heap.size) (b9:w'.os=w.os) (ht:w'.tape=w.tape) (ho:w'.output=w.output)
    (hl:ls.length=a3.length) (h1:∀ u∈a3,u.oneCell'=true)
    (b1:∀ (j:Nat) (l:Leaf) (u:Value),ls[j]?=some l->a3[j]?=some u->aK P V W st w (X j) l u)
    (ad:∀ (j:Nat) (l:Leaf),ls[j]?=some l->am l->∀ k∈X j,¬ W.nw k/\¬ V.prot k/\(∀ b,live st b->W.β b≠k) /\
      ∀ (r1 j1:Nat) (l1:Leaf),r1≠b->(st r1).ls[j1]?=some l1->am l1->k∉W.bs r1 j1)
    (b3:∀ (j j':Nat) (l l':Leaf),ls[j]?=some l->am l->ls[j']?=some l'->am l'->∀ k,k∈X j->k∈X j'->j=j') :
    an P V { W with β:=λr=>if r=b then g else W.β r,cs:=λr=>if r=b then a3 else W.cs r,bs:=λr j=>if r=b then X j else W.bs r j }
      (ac [(b,⟨n,.agg,ls⟩)] st) a w':=by
  have Y:¬ W.nw g/\¬ V.prot g/\(∀ q,q≠b->live st q->W.β q≠g)/\∀ (r1 j1:Nat) (l1:Leaf),(st r1).ls[j1]?=some l1->am l1->g∉W.bs r1 j1:=by
    rcases hg with ⟨a1,rfl⟩|⟨a1,hg⟩
    · exact⟨(h.box b a1).1,(h.box b a1).2,λq hq ba e=>hq (h.inj q b ba a1 e),λr1 j1 l1 y J H=>(h.ownb r1 j1 l1 y J _ H).2.2 b a1 rfl⟩
    · have hu:=hg.1
      simp only[ca,not_or,not_exists,not_and]at hu
      grind
  have b2:∀ (j:Nat) (l:Leaf),ls[j]?=some l->am l->∀ k∈X j,k≠g:=by
    grind
  have I:∀ q,live (ac [(b,⟨n,.agg,ls⟩)] st) q<->(q=b\/live st q):=by
    intro q;rcases aj b q ⟨n,.agg,ls⟩ st with ⟨e0,e⟩|⟨z,e⟩
    · subst e0
      simp[live,e,hb]
    · simp[live,e,z]
  have M:∀ k,ca V W st k->k≠g->w'.heap[k]?=w.heap[k]?:=b0;have a5:cB V W { W with β:=λr=>if r=b then g else W.β r,cs:=λr=>if r=b then a3 else W.cs r,bs:=λr j=>if r=b then X j else W.bs r j } st (ac [(b,⟨n,.agg,ls⟩)] st) w w':=by
    refine⟨λq=>?_,λq hq=>⟨(I q).2 (.inr hq),?_⟩,λ_ h=>h,λk H=>M k (H.elim .inl (λh=>.inr (.inl h))) ?_,λ_ q j l y J Z=>?_⟩
    · rcases aj b q ⟨n,.agg,ls⟩ st with ⟨rfl,e⟩|⟨z,e⟩
      · grind
      · grind
    · grind
    · grind
    · rcases aj b q ⟨n,.agg,ls⟩ st with ⟨rfl,e⟩|⟨z,e⟩
      · grind
      · rw[e]at y
        refine⟨⟨l,y,J⟩,by simp[z],λk H=>M k (.inr (.inr (.inr ⟨q,j,l,y,J,H⟩))) ?_⟩
        grind
  exact {
    nt:=h.nt,df:=h.df
    slots:=λt bb=>by
      have : t ≠ b := by have : GH <= B0 := by decide
                         omega
      rw[aJ this];simpa[this]using h.slots t bb
    boxes:=λq hq=>by
      rcases aj b q ⟨n,.agg,ls⟩ st with ⟨rfl,e⟩|⟨z,e⟩
      · grind
      · rw[e]
        refine (h.boxes q hq).imp id λ⟨y,E',J⟩=>⟨y,E',?_⟩
        simp only[z,if_false];rw[M _ (.inr (.inr (.inl ⟨q,⟨hq,y⟩,rfl⟩))) (Y.2.2.1 q z ⟨hq,y⟩)];exact J
    len:=λq=>by
      rcases aj b q ⟨n,.agg,ls⟩ st with ⟨rfl,e⟩|⟨z,e⟩
      · rw[e];simpa using hl
      · rw[e];simpa[z]using h.len q
    one:=λq u hu=>by
      by_cases hq:q=b
      · grind
      · simp only[hq]at hu;exact h.one q u hu
    leaf:=λq j l u y J=>by
      rcases aj b q ⟨n,.agg,ls⟩ st with ⟨rfl,e⟩|⟨z,e⟩
      · rw[e]at y
        simp only at J;exact (b1 j l u y J).carry hV.ro a5 (λho=>⟨by simp,λk H=>a6 j l y ho k H (b2 j l y ho k H)⟩)
      · rw[e]at y
        simp only[z]at J;refine (h.leaf q j l u y J).carry hV.ro a5 (λho=>⟨by simp[z],λk H=>M k (.inr (.inr (.inr ⟨q,j,l,y,ho,H⟩))) ?_⟩);rintro rfl;exact Y.2.2.2 q j l y ho H
    ownb:=λq j l y J k H=>by
      rcases aj b q ⟨n,.agg,ls⟩ st with ⟨rfl,e⟩|⟨z,e⟩
      · rw[e]at y
        simp only[if_true]at H;have Z:=ad j l y J k H;refine⟨Z.1,Z.2.1,λp hp=>?_⟩;by_cases a0:p=q
        · simp only[a0,if_true];exact λe=>b2 j l y J k H e.symm
        · simp only[a0,if_false];exact Z.2.2.1 p (((I p).1 hp).resolve_left a0)
      · rw[e]at y
        simp only[z,if_false]at H;have Z:=h.ownb q j l y J k H;refine⟨Z.1,Z.2.1,λp hp=>?_⟩;by_cases a0:p=b
        · simp only[a0,if_true];rintro rfl;exact Y.2.2.2 q j l y J H
        · simp only[a0,if_false];exact Z.2.2 p (((I p).1 hp).resolve_left a0)
    sep:=λq j l q' j' l' y J Z h5 k H a2=>by
      rcases aj b q ⟨n,.agg,ls⟩ st with ⟨e0,e⟩|⟨z,e⟩ <;> rcases aj b q' ⟨n,.agg,ls⟩ st with ⟨e1,e'⟩|⟨a4,e'⟩
      · rw[e]at y;rw[e']at Z
        simp only[e0,if_true]at H;simp only[e1,if_true]at a2;exact⟨e0.trans e1.symm,b3 j j' l l' y J Z h5 k H a2⟩
      · rw[e]at y;rw[e']at Z
        simp only[e0,if_true]at H;simp only[a4,if_false]at a2;exact absurd a2 ((ad j l y J k H).2.2.2 q' j' l' a4 Z h5)
      · rw[e]at y;rw[e']at Z
        simp only[z,if_false]at H;simp only[e1,if_true]at a2
        grind
      · rw[e]at y;rw[e']at Z
        simp only[z]at H;simp only[a4,if_false]at a2;exact h.sep q j l q' j' l' y J Z h5 k H a2
    box:=λq hq=>by
      by_cases O:q=b
      · simp only[O,if_true];exact⟨Y.1,Y.2.1⟩
      · simp only[O,if_false];exact h.box q (((I q).1 hq).resolve_left O)
    inj:=λq q' hq b4 e=>by
      by_cases O:q=b <;> by_cases R:q'=b
      · omega
      · simp only[O,if_true,R,if_false]at e
        exact absurd e.symm (Y.2.2.1 q' R (((I q').1 b4).resolve_left R))
      · simp only[O,if_false,R,if_true]at e
        exact absurd e (Y.2.2.1 q O (((I q).1 hq).resolve_left O))
      · simp only[O,if_false,R,if_false]at e
        exact h.inj q q' (((I q).1 hq).resolve_left O) (((I q').1 b4).resolve_left R) e
    nwlt:=λk H=>⟨B5 (h.nwlt k H).1 b5,(h.nwlt k H).2⟩
    os:=b9.trans h.os,tape:=ht.trans h.tape,output:=ho.trans h.output,size:=BR h.size b5
    keep:=λk hp=>by
      rw[M k (.inr (.inl hp)) (by rintro rfl;exact Y.2.1 hp)];exact h.keep k hp
    fixb:=λx hx=>by
      obtain⟨y,J⟩:=h.fixb x hx;refine⟨(I _).2 (.inr y),?_⟩;by_cases a9:x.1=b
      · simp only[a9,if_true]
        rcases hg with ⟨_,e⟩|⟨a1,_⟩
        · rw[<- e,<- a9];exact J
        · exact absurd (a9 ▸ y) a1
      · simpa only[a9,if_false]using J
    fixt:=h.fixt }
theorem an.setBox (hV:ax V)(h:an P V W st a w)(b:Nat)(hb:B0<=b)(n:Nat)(ls:List Leaf)(H:List Value)(z:Nat->List Nat)(g:Nat)(E:TypeId)
  (hn:(st b).ver<n) (hg:(live st b/\W.β b=g)\/(¬ live st b/\w.heap.size<=g)) (Y:w'.heap[g]?=some (.cells H.toArray E (0,0)))
  (I:∀ k,k<w.heap.size->k≠g->w'.heap[k]?=w.heap[k]?) (a1:w.heap.size<=w'.heap.size) (a0:w'.os=w.os) (ht:w'.tape=w.tape) (ho:w'.output=w.output)
  (hl:ls.length=H.length) (h1:∀ u∈H,u.oneCell'=true)
  (R:∀ (j:Nat) (l:Leaf) (u:Value),ls[j]?=some l->H[j]?=some u->aK P V W st w (z j) l u)
  (y:∀ (j:Nat) (l:Leaf),ls[j]?=some l->am l->∀ k∈z j,¬ W.nw k/\¬ V.prot k/\k<w.heap.size/\(∀ b,live st b->W.β b≠k) /\
   ∀ (r1 j1:Nat) (l1:Leaf),r1≠b->(st r1).ls[j1]?=some l1->am l1->k∉W.bs r1 j1)
  (Z:∀ (j j':Nat) (l l':Leaf),ls[j]?=some l->am l->ls[j']?=some l'->am l'->∀ k,k∈z j->k∈z j'->j=j') :
  an P V { W with β:=λr=>if r=b then g else W.β r,cs:=λr=>if r=b then H else W.cs r,bs:=λr j=>if r=b then z j else W.bs r j }
   (ac [(b,⟨n,.agg,ls⟩)] st) a w' :=
 h.setBoxG hV b hb n ls H z g E hn (hg.imp id λ⟨h2,h3⟩=>⟨h2,λhu=>by have:=h.used_lt g hu;omega,λj l O M k J=>by have:=(y j l O M k J).2.2.1;omega⟩) Y
  (λk J X=>I k (h.used_lt k J) X) (λj l O M k J X=>I k (y j l O M k J).2.2.1 X) a1 a0 ht ho hl h1 R
  (λj l O M k J=>⟨(y j l O M k J).1,(y j l O M k J).2.1,(y j l O M k J).2.2.2.1,(y j l O M k J).2.2.2.2⟩) Z
theorem eh (z:aB P V W st w ls cs){x:Nat×Nat}(u:x∈bw st ls):aA st x:=by
 induction ls generalizing cs with
 |nil=>simp[bw]at u
 |cons l ls H =>
  cases cs with
  |nil=>exact z.elim
  |cons v cs =>
   cases l with
   |al r j n =>
    simp only[bw,BT]at u;rcases u with u|u
    ·split at u
     ·rename_i p X E e M y;simp at u;subst u;exact⟨_,(ff y (by simp)).2,trivial⟩
     ·grind
    ·exact H z.2 u
   |nal p R ep O E e M =>
    simp only[bw,BT]at u;rcases u with u|u
    ·split at u
     ·rename_i y;simp only[aC]at y;cases I:bq st R ep with
      |false=>simp[I]at y
      |true =>
       obtain⟨k,J,rfl⟩:=List.mem_map.1 u;exact (cr I).2.2 k J
     ·grind
    ·exact H z.2 u
   |_=>exact H z.2 u
theorem BF (z:aB P V W st w ls cs){ks:List (Nat×Nat)}(u:∀ x∈bw st ls,x∈ks)(p:Bool):∀ k,bo V W p (bw st ls) k->gd V (W.frz st ks) p k:=by
 intro k r;rcases r with r|⟨x,y,r⟩
 ·exact bT (W':=W.frz st ks) (λh=>h) (λ_ h=>Or.inl h) k r
 ·exact .inl (.inr ⟨x,u x y,eh z y,r⟩)
end
section
variable {P:Program} {V:Env} {Γ:List Ctr} {T:TypeId->TI} {st:St} {o:Oper} {R:Type} {κ:Upd->Option R} {r:R}
def bV (P:Program)(V:Env)(o:Oper)(st:St)(κ:Upd->Option R)(r:R):Prop :=
 ∃ U,κ U=some r/\∀ W a w,an P V W st a w->mI P V o st U a w
theorem yt (I:ax V)(y:bL V o){x:Operand}(u:o.op=.move x)(h:act Γ T o st κ=some r):bV P V o st κ r:=by
 simp only[act,wrU,u]at h;split at h
 ·rename_i d M;refine⟨_,h,λW a w z=>?_⟩;obtain⟨O,J,H⟩:=cQ z x;exact dS I z M y (by simp[execOp,u]) J H
 ·grind
theorem vG (M:ax V)(z:bL V o){x:Operand}(y:o.op=.assign x)(h:act Γ T o st κ=some r):bV P V o st κ r:=by
 simp only[act,y]at h;split at h
 ·rename_i d H;cases u:ib st (au st x).2 with
  |false=>simp[u]at h
  |true =>
   simp only[u]at h;refine⟨_,h,λW a w I=>?_⟩;obtain⟨Y,X,J⟩:=cQ I x;intro next Q O;refine dR (v:=a.eval x) (w':=w) (by simp[execOp,y]) ?_;rw[H];exact O _ _ (I.putMoved M J u d (z d H).1 (z d H).2 X)
 ·grind
theorem yu (O:ax V)(H:bL V o){c x y:Operand}(z:o.op=.pick c x y)(h:act Γ T o st κ=some r):bV P V o st κ r:=by
 simp only[act,wrU,z]at h;split at h
 ·rename_i t X;cases t with
  |true =>
   split at h
   ·rename_i d J;refine⟨_,h,λW a w u=>?_⟩;obtain⟨Y,M,I⟩:=cQ u x;exact dS O u J H (v:=a.eval x) (by simp[execOp,z,ij u X,asBool]) M I
   ·grind
  |false =>
   split at h
   ·rename_i d J;refine⟨_,h,λW a w u=>?_⟩;obtain⟨Y,M,I⟩:=cQ u y;exact dS O u J H (v:=a.eval y) (by simp[execOp,z,ij u X,asBool]) M I
   ·grind
 ·grind
theorem sH (hV:ax V)(a0:bL V o){x:Operand}(X:o.op=.nilCheck x)(h:act Γ T o st κ=some r):bV P V o st κ r:=by
 simp only[act,wrU,X]at h;have I:∀ {l:Leaf} {d:Nat},one st x=l->l≠.dead->(∀ W a w,an P V W st a w->aK P V W st w [] l (a.eval x)->∃ ad,a.eval x=.pointer (some ad))->o.dst=some d ->
   ∀ W a w,an P V W st a w->mI P V o st (cf st [] d .one [l]) a w:=by
  intro l d z Z hp H W a w M;obtain⟨Y,h2,h3,_⟩:=br M x (by rw[z];exact Z);rw[z]at Y h2;obtain⟨ad,O⟩:=hp W a w M Y;exact aP hV M H a0 (v:=a.eval x) (by simp[execOp,X,O]) Y h2 h3
 split at h
 ·split at h
  ·rename_i z _ d H;exact⟨_,h,I z (by simp) (λW a w M u=>by obtain⟨g,o',c,O,_⟩:=u;exact⟨_,O⟩) H⟩
  ·grind
 ·split at h
  ·rename_i z _ d H;exact⟨_,h,I z (by simp) (λW a w M u=>⟨_,u.2.2⟩) H⟩
  ·grind
 ·rename_i r' j v i sz off z;cases J:BG (st r').ver v with
  |false=>simp[J]at h
  |true =>
   simp only[J]at h;split at h
   ·rename_i d H;refine⟨_,h,I z (by simp) (λW a w M u=>?_) H⟩;obtain⟨g,a1,a2,_,_,O⟩:=u.2 (BH J)
    simp_all
   ·grind
 ·split at h
  ·rename_i z _ d H;exact⟨_,h,I z (by simp) (λW a w M u=>by obtain⟨b,ob,g,o',c,O,_⟩:=u;exact⟨_,O⟩) H⟩
  ·grind
 ·rename_i p ks ep b y off z;cases J:bq st ks ep with
  |false=>simp[J]at h
  |true =>
   simp only[J]at h;split at h
   ·rename_i d H;refine⟨_,h,I z (by simp) (λW a w M u=>?_) H⟩;obtain⟨g,o',c,O,_⟩:=(u.2.2 (cr J).1 (cr J).2.1 (cr J).2.2:NpOk V W w p ks b y off _).rd
    simp_all
   ·grind
 ·grind
theorem yw (J:ax V)(z:bL V o){M:UnOp}{t:TypeId}{x:Operand}(u:o.op=.unOp M t x)(h:act Γ T o st κ=some r):bV P V o st κ r:=by
 simp only[act,wrU,u]at h;split at h
 ·rename_i b H;split at h
  ·rename_i d I;exact⟨_,h,λW a w y=>aP J y I z (v:=.bool (!b)) (by simp[execOp,u,ij y H,Op.unary]) rfl id rfl⟩
  ·grind
 ·rename_i k n H;split at h
  ·rename_i d I;exact⟨_,h,λW a w y=>aP J y I z (v:=.int k (k.wrap (0-n))) (by simp[execOp,u,bD y H,Op.unary,Op.intArith]) rfl id rfl⟩
  ·grind
 ·grind
theorem uf (hV:ax V)(X:bL V o){x:Operand}{i:Nat}(H:o.op=.extract x i)(h:act Γ T o st κ=some r):bV P V o st κ r:=by
 simp only[act,wrU,H]at h;split at h
 ·rename_i u ls he;split at h
  ·rename_i agg n hp;split at h
   ·rename_i d hd;refine⟨_,h,λW a w hr=>?_⟩;obtain⟨z,hs,hl⟩:=cQ hr x;rw[he]at hs hl;obtain⟨y,hv,Z⟩:=hs;have O:∀ (u:List (Bool×Nat)) (y z:List Value) (i:Nat) (off:Nat),pz u y z->u[i]?=some (agg,n) ->
      ∃ v,y[i]?=some v/\da agg v ((z.drop ((u.take i).foldl (λa b=>a+b.2) off-off)).take n)/\off<=(u.take i).foldl (λa b=>a+b.2) off:=by
     intro u;induction u with
     |nil=>intro y z i off _ M;simp at M
     |cons p u ih =>
      rintro y z i off ⟨v,a0,c,Y,rfl,rfl,hc,a1,Z⟩ M;cases i with
      |zero =>
       simp_all
      |succ i =>
       obtain⟨v',I,J,h3⟩:=ih a0 Y i (off+p.2) Z (by simpa using M);refine⟨v',by simpa using I,?_,by simp;omega⟩;simp;have e:(u.take i).foldl (λa b=>a+b.2) (off+p.2)-off=c.length+((u.take i).foldl (λa b=>a+b.2) (off+p.2)-(off+p.2)):=by omega
       rw[e,<- Cf,List.drop_left];exact J
    obtain⟨v,I,J,_⟩:=O u y z i 0 Z hp;refine dS hV hr hd X (v:=v) ?_ (kk J) ((hl.drop _).take n);simp[execOp,H,hv,Instr.extract,I]
   ·grind
  ·grind
 ·grind
theorem uP {W:Wit}{a:Act}{w:World}(M:an P V W st a w):∀ (xs:List Operand) (u l:List Nat),
  xs.foldl (λ (u:Option (List Nat)) x=>u.bind λl=>match one st x with|.bp b 0=>some (l++[b])|_=>none) (some u)=some l ->
  ∃ y,l=u++y/\xs.map a.eval=y.map (λb=>Value.pointer (some ⟨W.β b,0,none⟩))/\∀ b∈y,B0<=b/\(st b).sh=.agg
 |[],u,l,h=>⟨[],by simpa using h.symm,rfl,by simp⟩
 |x::xs,u,l,h=>by
  simp at h;have H:∀ (xs:List Operand),xs.foldl (λ (u:Option (List Nat)) x=>u.bind λl=>match one st x with|.bp b 0=>some (l++[b])|_=>none) none=none:=by
   intro xs;induction xs with
   |nil=>rfl
   |cons x xs Y=>simpa using Y
  split at h
  ·rename_i b I;obtain⟨y,O,X,Z⟩:=uP M xs (u++[b]) l h;have z:=(br M x (by rw[I];simp)).1;rw[I]at z;refine⟨b::y,by simp[O],?_,?_⟩
   ·simp only[Ch,X];rw[show a.eval x=_ from z.2.2]
   ·intro q J;rcases CS.1 J with rfl|J
    ·exact⟨z.1,z.2.1⟩
    ·grind
  ·grind
theorem sI (Z:ax V)(z:bL V o){fn:Fn}{first caps:Array Operand}(u:o.op=.makeFunc fn first caps)(h:act Γ T o st κ=some r):bV P V o st κ r:=by
 cases fn with
 |func f =>
  simp only[act,wrU,u]at h;cases y:BG first.size 0 with
  |false=>simp[y]at h
  |true =>
   simp only[y]at h;split at h
   ·rename_i l M;split at h
    ·rename_i d J;refine⟨_,h,λW a w H=>?_⟩;obtain⟨l',I,X,O⟩:=uP H caps.toList [] l M;subst I;have Y:first=#[]:=Array.eq_empty_of_size_eq_zero (BH y)
     refine aP Z H J z (v:=.func (.func f) #[] (l.map λb=>Value.pointer (some ⟨W.β b,0,none⟩)).toArray) ?_ ⟨rfl,O⟩ id rfl;rw[<- X];simp[execOp,u,Instr.makeFunc,Y,<- CK]
    ·grind
   ·grind
 |_=>simp[act,u]at h
theorem gm {α:Type}{xs:List α}{i:Int}{x:α}(h:idx xs i=some x):0<=i/\i<xs.length/\xs[i.toNat]?=some x:=by
 unfold idx at h
 grind
end
section
variable {P:Program} {V:Env} {Γ:List Ctr} {T:TypeId->TI} {st:St} {o:Oper} {R:Type} {κ:Upd->Option R} {r:R}
theorem wS {W:Wit}{a:Act}{w:World}(H:an P V W st a w){x:Operand}{b:Ty}{p:Bool}{u:b.den}(z:(au st x).1=.agg)(M:cN st b (au st x).2=some (p,u)) :
  ∃ y G,a.eval x=.agg y.toArray/\Rd w G b u y:=by
 obtain⟨y,I,J⟩:=cQ H x;rw[z]at I;exact⟨y,_,I,eE H J M⟩
theorem lE {t:TypeId}(y:P.underlying t=some .bool)(b u:Bool)(w:World):(Op.equal t (.bool b) (.bool u)).run P w=.ok (b==u) w:=by
 have e:Op.maxDepth=9999+1:=rfl;unfold Op.equal;rw[e];generalize 9999=m;unfold Op.equalIn;rw[BW,run_underlying y];rfl
theorem wT (Z:ax V)(hT:TOk P T)(J:bL V o){op:BinOp}{t t':TypeId}{x y:Operand}(H:o.op=.binOp op t x y t')(h:act Γ T o st κ=some r):bV P V o st κ r:=by
  simp only[act,wrU,H]at h;split at h
  · rename_i k m k' n O X
    cases op
    case shl =>
      simp only at h;cases Y:decide (n<0) with
      |true=>simp[Y]at h
      |false =>
        simp only[Y,cond_false]at h;split at h
        · rename_i d M
          refine⟨_,h,λW a w z=>aP Z z M J (v:=.int k (k.wrap (m*2 ^ (min n.toNat k.bits)))) ?_ rfl id rfl⟩;have:¬ n<0:=of_decide_eq_false Y;simp[execOp,H,bD z O,bD z X,eqGuard,Go.binOp,Op.shift,this]
        · cases h
    case shr =>
      simp only at h;cases Y:decide (n<0) with
      |true=>simp[Y]at h
      |false =>
        simp only[Y,cond_false]at h;split at h
        · rename_i d M
          refine⟨_,h,λW a w z=>aP Z z M J (v:=.int k (m.fdiv (2 ^ (min n.toNat k.bits)))) ?_ rfl id rfl⟩;have:¬ n<0:=of_decide_eq_false Y;simp[execOp,H,bD z O,bD z X,eqGuard,Go.binOp,Op.shift,this]
        · cases h
    case quo =>
      simp only at h;cases Y:decide (n=0) with
      |true=>simp[Y]at h
      |false =>
        simp only[Y,cond_false]at h;cases I:decide (k=k') with
        |false=>simp[I]at h
        |true =>
          simp only[I,cond_true]at h;have I:=of_decide_eq_true I;subst I;split at h
          · rename_i d M
            refine⟨_,h,λW a w z=>aP Z z M J (v:=.int k (k.wrap (m.tdiv n))) ?_ rfl id rfl⟩;have:¬ n=0:=of_decide_eq_false Y;simp[execOp,H,bD z O,bD z X,eqGuard,Go.binOp,Op.intDiv,this]
          · cases h
    case rem =>
      simp only at h;cases Y:decide (n=0) with
      |true=>simp[Y]at h
      |false =>
        simp only[Y,cond_false]at h;cases I:decide (k=k') with
        |false=>simp[I]at h
        |true =>
          simp only[I,cond_true]at h;have I:=of_decide_eq_true I;subst I;split at h
          · rename_i d M
            refine⟨_,h,λW a w z=>aP Z z M J (v:=.int k (m.tmod n)) ?_ rfl id rfl⟩;have:¬ n=0:=of_decide_eq_false Y;simp[execOp,H,bD z O,bD z X,eqGuard,Go.binOp,Op.intDiv,this]
          · cases h
    case and =>
      simp only at h;cases I:decide (k=k') with
      |false=>simp[I]at h
      |true =>
        simp only[I,cond_true]at h;have I:=of_decide_eq_true I;subst I;split at h
        · rename_i d M
          refine⟨_,h,λW a w z=>aP Z z M J (v:=.int k (k.wrap ((BitVec.ofInt k.bits m &&& BitVec.ofInt k.bits n).toNat))) ?_ rfl id rfl⟩;simp[execOp,H,bD z O,bD z X,eqGuard,Go.binOp,Op.intBits]
        · cases h
    case xor =>
      simp only at h;cases I:decide (k=k') with
      |false=>simp[I]at h
      |true =>
        simp only[I,cond_true]at h;have I:=of_decide_eq_true I;subst I;split at h
        · rename_i d M
          refine⟨_,h,λW a w z=>aP Z z M J (v:=.int k (k.wrap ((BitVec.ofInt k.bits m ^^^ BitVec.ofInt k.bits n).toNat))) ?_ rfl id rfl⟩;simp[execOp,H,bD z O,bD z X,eqGuard,Go.binOp,Op.intBits]
        · cases h
    all_goals
      simp only at h;cases I:decide (k=k') with
      |false=>simp[I]at h
      |true =>
        simp only[I,cond_true]at h;have I:=of_decide_eq_true I;subst I;split at h
        · rename_i l hl
          split at h
          · rename_i d M
            refine⟨_,h,λW a w z=>?_⟩;obtain⟨v,h1,h2,h3,h4⟩:=vF (P:=P) (V:=V) (W:=W) (st:=st) (w:=w) _ k t t' x y m n l hl (bD z O) (bD z X) H;exact aP Z z M J h1 h2 h3 h4
          · cases h
        · cases h
  · rename_i b b' O X
    cases ht:T t with
    |bool =>
      have h1:=hT t;rw[ht]at h1;simp only[ht]at h;cases op <;> simp only at h <;> first
        |cases h;done
        | (split at h
           · rename_i d M
             first
               |exact⟨_,h,λW a w z=>aP Z z M J (v:=.bool (b==b')) (by simp[execOp,H,ij z O,ij z X,eqGuard,Go.binOp,lE h1.1]) rfl id rfl⟩
               |exact⟨_,h,λW a w z=>aP Z z M J (v:=.bool (b != b')) (by simp[execOp,H,ij z O,ij z X,eqGuard,Go.binOp,lE h1.1,bne]) rfl id rfl⟩
           · cases h)
    |_=>simp[ht]at h
  · rename_i b b' O X
    cases op <;> simp only at h <;> first
      |cases h;done
      | (cases a0 : decide (b.size + b'.size <= 9223372036854775807) with
         |false=>rw[a0]at h;cases h
         |true =>
           rw[a0]at h;simp only[cond_true]at h;split at h
           · rename_i d M
             refine⟨_,h,λW a w z=>aP Z z M J (v:=.string (b++b')) ?_ rfl id rfl⟩;have:(b.size:Int)+b'.size<=9223372036854775807:=by have:=of_decide_eq_true a0;omega
             simp[execOp,H,iB z O,iB z X,eqGuard,Go.binOp,Op.stringOp,this]
           · cases h)
      | (split at h
         · rename_i d M
           first
             |exact⟨_,h,λW a w z=>aP Z z M J (v:=.bool (b.toList==b'.toList)) (by simp[execOp,H,iB z O,iB z X,eqGuard,Go.binOp,Op.stringOp]) rfl id rfl⟩
             |exact⟨_,h,λW a w z=>aP Z z M J (v:=.bool (b.toList != b'.toList)) (by simp[execOp,H,iB z O,iB z X,eqGuard,Go.binOp,Op.stringOp,bne]) rfl id rfl⟩
         · cases h)
  · cases ht:T t with
    |struct b b1 =>
      have h1:=hT t;rw[ht]at h1;obtain⟨_,_,_,b0,a2⟩:=h1;simp only[ht]at h;cases hf:b.flat&&decide ((au st x).1=.agg)&&decide ((au st y).1=.agg) with
      |false=>simp[hf]at h
      |true =>
        simp only[hf,cond_true]at h;simp only[BJ,decide_eq_true_eq]at hf;obtain⟨⟨hf,ad⟩,a4⟩:=hf;split at h
        · rename_i p u q v a6 a9
          have a1:∀ (W:Wit) (a:Act) (w:World),an P V W st a w->(Op.equal t (a.eval x) (a.eval y)).run P w=.ok (b.eqv u v) w/\(∃ cx cy:Array Value,a.eval x=.agg cx/\a.eval y=.agg cy):=by
            intro W a w z;obtain⟨cx,G,O,a5⟩:=wS z ad a6;obtain⟨cy,G',X,a3⟩:=wS z a4 a9;rw[O,X];exact⟨b0 hf w G u v cx cy a5 (Rd.flat hf a3),_,_,rfl,rfl⟩
          cases op <;> simp only at h <;> first
            |cases h;done
            | (split at h
               · rename_i d M
                 first
                   | (refine ⟨_, h, λW a w z => aP Z z M J (v := .bool (b.eqv u v)) ?_ rfl id rfl⟩
                      obtain⟨h2,cx,cy,O,X⟩:=a1 W a w z;rw[O,X]at h2;simp[execOp,H,O,X,eqGuard,Go.binOp,a2,h2];done)
                   | (refine ⟨_, h, λW a w z => aP Z z M J (v := .bool (!b.eqv u v)) ?_ rfl id rfl⟩
                      obtain⟨h2,cx,cy,O,X⟩:=a1 W a w z;rw[O,X]at h2;simp[execOp,H,O,X,eqGuard,Go.binOp,a2,h2])
               · cases h)
        · cases h
    |_=>simp[ht]at h
end
section
variable {P:Program} {V:Env} {Γ:List Ctr} {T:TypeId->TI} {st:St} {o:Oper} {R:Type} {κ:Upd->Option R} {r:R}
theorem fa (g off n:Nat):(⟨g,off,none⟩:Addr).add n=⟨g,off+n,none⟩:=by
 unfold Addr.add;split <;> simp_all
theorem dn {t:TypeId}{n:Nat}(h:bO P t n)(w:World):(sizeOf t).run P w=.ok n w:=by
 unfold bO at h;cases u:P.info? t with
 |none=>simp[u]at h
 |some i =>
  simp[u]at h;simp[sizeOf,typeInfo,u,h]
theorem gn {t:TypeId}{z:Value}(h:dY P t z)(w:World):(zeroValue t).run P w=.ok z w:=by
 unfold dY at h;cases u:P.info? t with
 |none=>simp[u]at h
 |some i =>
  simp[u]at h;simp[zeroValue,typeInfo,u,h]
theorem rV (hV:ax V)(hT:TOk P T)(M:bL V o){t:TypeId}{x:Operand}{f:Nat}(a0:o.op=.fieldAddr t x f)(h:act Γ T o st κ=some r):bV P V o st κ r:=by
 simp only[act,wrU,a0]at h;cases ht:T t with
 |struct b a5 =>
  simp only[ht]at h;split at h
  ·rename_i off n agg hf;have h1:=hT t;rw[ht]at h1;obtain⟨⟨fs,hu,_,a3⟩,_⟩:=h1;obtain⟨_,fd,h2,h3,h4,h5,h6,_⟩:=a3 f off n agg hf;have J:∀ (a:Act) (w:World) (g O:Nat),a.eval x=.pointer (some ⟨g,O,none⟩)->(execOp a.eval o).run P w=.ok (.value (.pointer (some ⟨g,O+off,none⟩))) w:=by
    intro a w g O Z;have u:=dn h6 w;have h8:n≠0:=by omega
    simp[execOp,a0,Z,Instr.fieldAt,run_underlying hu,h2,CN,fieldPlace,u,h8,fa]
   split at h
   ·rename_i p b' y O z;split at h
    ·rename_i d Y;refine⟨_,h,λW a w H=>?_⟩;obtain⟨u,_,_,_⟩:=br H x (by rw[z];simp);rw[z]at u;obtain⟨g,og,c,Z,hg,X,hc⟩:=u;exact aP hV H Y M (J a w g _ Z) ⟨g,og,c,by rw[CH],hg,X,hc⟩ id rfl
    ·grind
   ·rename_i b' O z;split at h
    ·rename_i d Y;refine⟨_,h,λW a w H=>?_⟩;obtain⟨u,_,_,_⟩:=br H x (by rw[z];simp);rw[z]at u;exact aP hV H Y M (J a w _ _ u.2.2) ⟨u.1,u.2.1,rfl⟩ id rfl
    ·grind
   ·rename_i r' j v i sz O z;cases I:BG (st r').ver v with
    |false=>simp[I]at h
    |true =>
     simp only[I]at h;split at h
     ·rename_i d Y;refine⟨_,h,λW a w H=>?_⟩;obtain⟨u,_,_,_⟩:=br H x (by rw[z];simp);rw[z]at u;obtain⟨g,a1,a4,hh,a2,Z⟩:=u.2 (BH I);exact aP hV H Y M (J a w g _ Z) ⟨u.1,λ_=>⟨g,a1,a4,hh,a2,by rw[CH]⟩⟩ id rfl
     ·grind
   ·rename_i p ks ep b' y O z;cases I:bq st ks ep with
    |false=>simp[I]at h
    |true =>
     simp only[I]at h;split at h
     ·rename_i d Y;refine⟨_,h,λW a w H=>?_⟩;obtain⟨u,_,_,_⟩:=br H x (by rw[z];simp);rw[z]at u;have h8:NpOk V W w p ks b' y O _:=u.2.2 (cr I).1 (cr I).2.1 (cr I).2.2;obtain⟨g,og,c,Z,hg,X,hc⟩:=h8.rd;exact aP hV H Y M (J a w g _ Z) ⟨u.1,u.2.1,λ_ _ _=>⟨g,og,c,by rw[CH],hg,X,hc⟩⟩ id rfl
     ·grind
   ·grind
  ·grind
 |_=>simp[ht]at h
theorem rW (hV:ax V)(hT:TOk P T)(a0:bL V o){t:TypeId}{x i:Operand}(a6:o.op=.indexAddr t x i)(h:act Γ T o st κ=some r):bV P V o st κ r:=by
 simp only[act,wrU,a6]at h;split at h
 ·rename_i k n hi;cases ht:T t with
  |slice E e b0 =>
   simp only[ht]at h;have h1:=hT t;rw[ht]at h1;obtain⟨hu,_,_,bl,_,ti,z,b1,b3,_⟩:=h1;have hE:bO P E e.cells:=by simp[bO,b1,b3]
   have a5:∀ (W:Wit) (a:Act) (w:World) (g Y O I:Nat),an P V W st a w->0<=n->n<O->a.eval x=.slice (some ⟨g,Y,none⟩) O I ->
     (execOp a.eval o).run P w=.ok (.value (.pointer (some ⟨g,Y+n.toNat*e.cells,none⟩))) w:=by
    intro W a w g Y O I H h0 h1 M;have Z:=dn hE w;simp[execOp,a6,M,bD H hi,Ci,asIntOf,run_underlying hu,h0,h1,Z,fa]
   split at h
   ·rename_i r' j v X;split at h
    ·rename_i p hh E' e' xs ad;cases u:BG e'.cells e.cells with
     |false=>simp[u]at h
     |true =>
      simp only[u]at h;have u:=BH u;obtain⟨y,hy,h⟩:=BP.1 h;obtain⟨Z,h3,h4⟩:=gm hy;split at h
      ·rename_i d hd;refine⟨_,h,λW a w H=>?_⟩;obtain⟨J,_,_,_⟩:=br H x (by rw[X];simp);rw[X]at J;obtain⟨h8,h9,bn,ba⟩:=kq H ad J;obtain⟨_,b4,bb,ho,bx,_⟩:=h9;rcases ho.2 with ⟨hn,h0⟩|⟨g,a1,b5,_,M,_,_,_⟩
       ·omega
       ·refine aP hV H hd a0 (a5 W a w g 0 xs.length a1 H Z h3 M) ⟨by omega,λ_=>⟨g,xs.length,a1,by rw[h8,M],by omega,by simp[u]⟩⟩ id rfl
      ·grind
    ·grind
   ·rename_i p E' e' xs X;cases u:BG e'.cells e.cells with
    |false=>simp[u]at h
    |true =>
     simp only[u]at h;have u:=BH u;obtain⟨y,hy,h⟩:=BP.1 h;obtain⟨Z,h3,h4⟩:=gm hy;split at h
     ·rename_i d hd;refine⟨_,h,λW a w H=>?_⟩;obtain⟨J,_,_,_⟩:=br H x (by rw[X];simp);rw[X]at J;obtain⟨A,I,M,a9,a2⟩:=J;have M:a.eval x=.slice A xs.length I:=by simpa using M
      obtain⟨g,Y,rfl,hg,a3⟩:=a2 (by omega);obtain⟨c,hc,a4⟩:=a3 n.toNat y h4;refine aP hV H hd a0 (a5 W a w g Y xs.length I H Z h3 M) ⟨g,Y+n.toNat*e'.cells,c,by rw[u];rfl,?_,hc,a4⟩ id rfl;rcases hg with hg|⟨_,hg⟩
      ·grind
      ·exact .inr (hV.ro g hg)
     ·grind
   ·rename_i p ks ep b9 E' e' xs X;cases u:BG e'.cells e.cells&&bq st ks ep with
    |false=>simp[u]at h
    |true =>
     simp only[u]at h;simp only[BJ]at u;obtain⟨u,b2⟩:=u;have u:=BH u;obtain⟨y,hy,h⟩:=BP.1 h;obtain⟨Z,h3,h4⟩:=gm hy;split at h
     ·rename_i d hd;refine⟨_,h,λW a w H=>?_⟩;obtain⟨J,_,_,_⟩:=br H x (by rw[X];simp);rw[X]at J;have h8:=pA b2 J;obtain⟨A,I,M,a9,a2⟩:=h8.rd;have M:a.eval x=.slice A xs.length I:=by simpa using M
      obtain⟨g,Y,rfl,hg,a3⟩:=a2 (by omega);obtain⟨c,hc,a4⟩:=a3 n.toNat y h4;exact aP hV H hd a0 (a5 W a w g Y xs.length I H Z h3 M) ⟨J.1,J.2.1,λ_ _ _=>⟨g,Y+n.toNat*e'.cells,c,by rw[u];rfl,hg,hc,a4⟩⟩ id rfl
     ·grind
   ·grind
  |arr e O =>
   simp only[ht]at h;have h1:=hT t;rw[ht]at h1;obtain⟨⟨E,hu,hE,_⟩,_⟩:=h1;split at h
   ·rename_i b off X;cases u:decide (0<=n)&&decide (n<(O:Int)) with
    |false=>simp[u]at h
    |true =>
     simp only[u]at h;simp at u;split at h
     ·rename_i d hd;refine⟨_,h,λW a w H=>?_⟩;obtain⟨J,_,_,_⟩:=br H x (by rw[X];simp);rw[X]at J;refine aP hV H hd a0 (v:=.pointer (some ⟨W.β b,off+n.toNat*e.cells,none⟩)) ?_ ⟨J.1,J.2.1,rfl⟩ id rfl;have Z:=dn hE w;simp[execOp,a6,J.2.2,bD H hi,Ci,CN,asIntOf,run_underlying hu,u.1,u.2,Z,fa]
     ·grind
   ·grind
  |_=>simp[ht]at h
 ·grind
theorem wU {t:TypeId}{i:TI}(u:oM P t i)(J:i.cells≠0\/i≠.none)(w:World):(isAgg t).run P w=.ok i.agg w:=by
 cases i with
 |none=>simp[TI.cells]at J
 |struct a I =>
  obtain⟨⟨M,H,_⟩,_⟩:=u;simp[isAgg,run_underlying H,TI.agg]
 |arr e n=>obtain⟨⟨E,H,_⟩,_⟩:=u;simp[isAgg,run_underlying H,TI.agg]
 |ptr=>obtain⟨⟨e,H⟩,_⟩:=u;simp[isAgg,run_underlying H,TI.agg]
 |fn=>obtain⟨⟨x,y,z,H⟩,_⟩:=u;simp[isAgg,run_underlying H,TI.agg]
 |int k=>simp[isAgg,run_underlying u.1,TI.agg]
 |bool=>simp[isAgg,run_underlying u.1,TI.agg]
 |str=>simp[isAgg,run_underlying u.1,TI.agg]
 |slice E e b=>simp[isAgg,run_underlying u.1,TI.agg]
theorem oO {t:TypeId}{i:TI}(u:oM P t i)(z:i≠.none):bO P t i.cells:=by
 cases i with
 |none=>exact absurd rfl z
 |struct a y=>exact u.2.1
 |arr e n=>exact u.2.2.1
 |ptr=>exact u.2.1
 |fn=>exact u.2.1
 |int k=>exact u.2.1
 |bool=>exact u.2.1
 |str=>exact u.2.1
 |slice E e b=>exact u.2.1
theorem mK {W:Wit}{a:Act}{w:World}(H:an P V W st a w){e:Ty}:∀ (n:Nat) (ls:List Leaf) (cs:List Value) (xs:List e.den),aB P V W st w ls cs->fF st e n ls=some xs ->
  xs.length=n/\∀ (i:Nat) (x:e.den),xs[i]?=some x->∃ G,Rd w G e x ((cs.drop (i*e.cells)).take e.cells)
 |0,ls,cs,xs,_,h=>by
  simp only[fF]at h
  simp_all
 |n+1,ls,cs,xs,z,h=>by
  simp only[fF]at h;split at h
  ·rename_i p x Y I O;simp at h;subst h;obtain⟨J,X⟩:=mK H n _ _ _ (z.drop e.cells) O;refine⟨by simp[J],λi y u=>?_⟩;cases i with
   |zero =>
    simp at u;subst u;exact⟨_,by simpa using eE H (z.take e.cells) I⟩
   |succ i =>
    obtain⟨G,M⟩:=X i y (by simpa using u);rw[Cf]at M
    grind
  ·cases h
theorem wV (hV:ax V)(hT:TOk P T)(Z:bL V o){t:TypeId}{x i:Operand}(J:o.op=.index t x i)(h:act Γ T o st κ=some r):bV P V o st κ r:=by
 simp only[act,wrU,J]at h;split at h
 ·rename_i k n hi;cases hs:T t with
  |str =>
   simp only[hs]at h;split at h
   ·rename_i s hx;obtain⟨y,hy,h⟩:=BP.1 h;split at h
    ·rename_i d hd;refine⟨_,h,λW a w I=>aP hV I hd Z (v:=.int .u8 (y.toNat:Int)) ?_ rfl id rfl⟩;have h1:=hT t;rw[hs]at h1;obtain⟨h2,h3,h4⟩:=gm hy;have h5:s[n.toNat]?=some y:=by
      have h6:=(BI.1 h4);obtain⟨h7,h8⟩:=h6;have h9:n.toNat<s.size:=by rw[Array.length_toList]at h7;exact h7
      rw[getElem?_pos s n.toNat h9];congr 1
     simp[execOp,J,bD I hi,iB I hx,Cd,asIntOf,run_underlying h1.1,h2,h5]
    ·grind
   ·grind
  |arr e X =>
   simp only[hs]at h;have h1:=hT t;rw[hs]at h1;obtain⟨⟨E,hu,hE,Y⟩,a4,_⟩:=h1;cases hb:e.flat&&decide ((au st x).1=.agg)&&BG (au st x).2.length (X*e.cells)&&!BG e.cells 0 with
   |false=>simp[hb]at h
   |true =>
    simp only[hb]at h;simp only[BJ,decide_eq_true_eq]at hb;obtain⟨⟨⟨hf,a2⟩,a3⟩,_⟩:=hb;split at h
    ·rename_i vs hg;obtain⟨y,hy,h⟩:=BP.1 h;split at h
     ·rename_i d hd;refine⟨_,h,λW a w I=>?_⟩;obtain⟨cs,z,hl⟩:=cQ I x;rw[a2]at z;have z:a.eval x=.agg cs.toArray:=z;obtain⟨h2,h3,h4⟩:=gm hy;obtain⟨h5,h6⟩:=mK I X _ _ _ hl hg;obtain⟨G,h7⟩:=h6 n.toNat y h4;have h8:Rd w (λ_=>False) e y ((cs.drop (n.toNat*e.cells)).take e.cells):=Rd.flat hf h7;have h9:=h8.len;have M:(isAgg E).run P w=.ok e.isAgg w:=by
       cases O:P.underlying E with
       |none=>simp[O]at Y
       |some u =>
        simp only[O,Ce,BN]at Y;rw[<- Y];cases u <;> simp[isAgg,run_underlying O]
      have a0:=dn hE w;have hn:n<(X:Int):=by omega
      cases H:e.isAgg with
      |true =>
       have:=dS hV I hd Z (v:=.agg ((cs.drop (n.toNat*e.cells)).take e.cells).toArray) (sh:=.agg) (ls:=cG false e y) ?_ rfl (e9 (λ_ h=>h.elim) h8)
       ·exact this
       ·rw[H]at M;simp[execOp,J,bD I hi,z,Cd,asIntOf,run_underlying hu,h2,hn,part,M,a0]
      |false =>
       have a1:e.cells=1:=by cases e <;> first|rfl|simp[Ty.isAgg]at H
       rw[a1]at h8 h9
       match hc:(cs.drop (n.toNat*1)).take 1,h9 with
       |[v],_ =>
        rw[hc]at h8;have:=dS hV I hd Z (v:=v) (sh:=.one) (ls:=cG false e y) (cs:=[v]) ?_ rfl (e9 (λ_ h=>h.elim) h8)
        ·exact this
        ·rw[H]at M;have hv:cs[n.toNat]?=some v:=by
          have:((cs.drop (n.toNat*1)).take 1)[0]?=some v:=by rw[hc];rfl
          grind
         simp[execOp,J,bD I hi,z,Cd,asIntOf,run_underlying hu,h2,hn,part,M,a0,a1,hv]
     ·grind
    ·grind
  |_=>simp[hs]at h
 ·grind
theorem od {t:TypeId}{i:TI}(M:oM P t i)(H:i≠.none){w:World}{g off:Nat}{cs:List Value}(J:cV w g off cs)(y:cs.length=i.cells) :
  ∃ v,(loadVar t ⟨g,off,none⟩).run P w=.ok v w/\d9 (bg i.agg) v cs:=by
 have z:=wU M (.inr H) w;cases O:i.agg with
 |true =>
  refine⟨.agg cs.toArray,?_,rfl⟩;have Y:=dn (oO M H) w;have I:=run_loadCells_list (P:=P) w ⟨g,off,none⟩ cs (λj v X=>by rw[fa];exact J j v X);rw[y]at I;simp[loadVar,z,O,Y,I]
 |false =>
  have u:i.cells=1:=by cases i <;> simp_all [TI.agg,TI.cells]
  rw[u]at y
  match cs,y with
  |[v],_ =>
   have:=J 0 v rfl;rw[Nat.add_zero]at this;exact⟨v,by simp[loadVar,z,O,this],rfl⟩
theorem cV.sub {w:World}{g off:Nat}{cs:List Value}(h:cV w g off cs)(k n:Nat):cV w g (off+k) ((cs.drop k).take n):=by
 intro i v u;rw[BV]at u;split at u
 ·rw[CC]at u;have:=h (k+i) v u
  grind
 ·cases u
theorem Mx.deep {w:World}{G G':Nat->Prop}:∀ {a:Ty} {h:Option Nat} {pos:Nat} {x:a.den} {cs:List Value} {bs:List Nat},a.shy=false->Mx w G a h pos x cs bs->Mx w G' a h pos x cs bs
 |.int _,_,_,_,_,_,_,h=>h
 |.bool,_,_,_,_,_,_,h=>h
 |.str,_,_,_,_,_,_,h=>h
 |.unit,_,_,_,_,_,_,h=>h
 |.hdr,_,_,_,_,_,_,h=>h
 |.pair _ _,_,_,_,_,_,u,⟨X,c2,b1,b2,M,e2,z,I⟩=>by
  simp only[Ty.shy,CO]at u;exact⟨X,c2,b1,b2,M,e2,Mx.deep u.1 z,Mx.deep u.2 I⟩
 |.list m E e,h,pos,xs,cs,bs,u,H=>by
  simp only[Ty.shy,CO,Bool.not_eq_false']at u;obtain⟨rfl,u⟩:=u;by_cases O:h=some pos
  ·subst O;rw[jc]at H ⊢;exact H
  ·rw[bH O]at H ⊢;obtain⟨v,M,y,J,z,I,Z⟩:=H;refine⟨v,M,y,J,z,I,λj x Y=>?_⟩;obtain⟨c,h4,h5⟩:=Z j x Y;exact⟨c,Mx.deep u h4,h5⟩
theorem OwB.shy {W:Wit}{w:World}{p:Bool}{h:Option (Nat×Nat)}{E:TypeId}{e:Ty}{xs:List e.den}{v:Value}{bs:List Nat}(H:OwB w (gd V W p) h E e xs v bs):OwB w (gd V W (p&&e.shy)) h E e xs v bs:=by
 cases M:e.shy with
 |true=>simpa using H
 |false =>
  obtain⟨u,y,z,X,J⟩:=H;refine⟨u,y,z,X,λj x I=>?_⟩;obtain⟨c,Y,O⟩:=J j x I;exact⟨c,Mx.deep M Y,O⟩
theorem jd (p:Bool)(r j v ep i u:Nat)(h:Option Nat):∀ (a:Ty) (off:Nat) (x:a.den),(gE p r j v ep i u h a off x).length=a.cells
 |.int _,_,_=>rfl
 |.bool,_,_=>rfl
 |.str,_,_=>rfl
 |.unit,_,_=>rfl
 |.hdr,_,_=>rfl
 |.pair a b,off,x=>by simp[gE,Ty.cells,jd p r j v ep i u h a,jd p r j v ep i u h b]
 |.list _ _ _,_,_=>rfl
theorem l7 {W:Wit}{w:World}{p:Bool}{r j g len y i sz:Nat}(O:(W.cs r)[j]?=some (.slice (some ⟨g,0,none⟩) len y))(M:i<len)(hg:g∈W.bs r j){hol:Option Nat} :
  ∀ {a:Ty} {pos:Nat} {x:a.den} {cs:List Value} {bs:List Nat},(∀ k∈bs,k∈W.bs r j)->Mx w (gd V W p) a hol pos x cs bs->cV w g (i*sz+pos) cs->aB P V W st w (gE p r j (st r).ver (st EPO).ver i sz hol a pos x) cs
 |.int _,_,_,_,_,_,h,_=>by rw[h.1];exact⟨⟨rfl,id,rfl⟩,trivial⟩
 |.bool,_,_,_,_,_,h,_=>by rw[h.1];exact⟨⟨rfl,id,rfl⟩,trivial⟩
 |.str,_,_,_,_,_,h,_=>by rw[h.1];exact⟨⟨rfl,id,rfl⟩,trivial⟩
 |.unit,_,_,_,_,_,h,_=>by rw[h.1];trivial
 |.hdr,_,_,_,_,_,⟨⟨A,y,e⟩,_⟩,_=>by rw[e];exact⟨⟨⟨A,y,rfl⟩,id,rfl⟩,trivial⟩
 |.pair a b,pos,x,cs,bs,J,⟨c1,c2,b1,b2,e1,e2,Y,Z⟩,X=>by
  subst e1;have hl:=Y.len;refine aB.append (l7 O M hg (λk z=>J k (by rw[e2];exact BM _ z)) Y λq u hu=>X q u ?_)
   (l7 O M hg (λk z=>J k (by rw[e2];exact BL _ z)) Z λq u hu=>?_)
  ·grind
  ·have:=X (a.cells+q) u (by rw[<- hl,BZ (by omega)];simpa using hu)
   grind
 |.list m E e,pos,xs,cs,bs,J,H,X=>by
  have I:=H.one;simp only[gE];by_cases hp:hol=some pos
  ·have e0:decide (hol=some pos)=true:=decide_eq_true hp;rw[e0];obtain⟨v,rfl,_⟩:=H;exact⟨⟨trivial,id,I v (by simp)⟩,trivial⟩
  ·have e0:decide (hol=some pos)=false:=decide_eq_false hp;rw[e0];cases m with
   |false =>
    rw[cm]at H;obtain⟨A,y,rfl,Z,h3⟩:=H.2;exact⟨⟨⟨A,y,rfl,Z,h3⟩,id,rfl⟩,trivial⟩
   |true =>
    rw[bH hp]at H;obtain⟨v,rfl,hO⟩:=H;have Y:=X 0 v rfl;refine⟨⟨⟨BO _,λk z=>?_,λ_ _ _=>⟨?_,λi' a3 a1 he=>?_⟩⟩,id,I v (by simp)⟩,trivial⟩
    ·grind
    ·obtain⟨a0,a2,h4,h5,h6⟩:=OwB.shy hO;refine sy h4 (λk z=>.inr ⟨_,B6 _,J k (by rw[h5];exact BM _ z)⟩) λq x hq=>?_
     obtain⟨c,h7,h8⟩:=h6 q x hq;exact⟨c,h7.rd (λk z=>.inl z) (λk z=>.inr ⟨_,B6 _,J k (by rw[h5];exact BL _ (dQ.2 ⟨q,(BI.1 hq).1,z⟩))⟩),h8⟩
    ·grind
theorem j9 {W:Wit}{w:World}{p:Bool}{ks:List (Nat×Nat×Nat)}{ep:Nat}(z:ep<=(st EPO).ver)(u:∀ k∈ks,k.2.2<=(st k.1).ver) :
  ∀ {a:Ty} {x:a.den} {cs:List Value},Rd w (λb=>gd V W p b\/∃ k∈ks,b∈W.bs k.1 k.2.1) a x cs->aB P V W st w (lx p ks ep a x) cs
 |.int _,_,_,h=>by rw[show _=_ from h];exact⟨⟨rfl,id,rfl⟩,trivial⟩
 |.bool,_,_,h=>by rw[show _=_ from h];exact⟨⟨rfl,id,rfl⟩,trivial⟩
 |.str,_,_,h=>by rw[show _=_ from h];exact⟨⟨rfl,id,rfl⟩,trivial⟩
 |.unit,_,_,h=>by rw[show _=_ from h];trivial
 |.hdr,_,_,⟨A,y,e⟩=>by rw[e];exact⟨⟨⟨A,y,rfl⟩,id,rfl⟩,trivial⟩
 |.pair _ _,_,_,⟨O,Z,e,I,H⟩=>by rw[e];exact (j9 z u I).append (j9 z u H)
 |.list m E e,X,_,h=>by
  obtain⟨A,y,rfl,H,J⟩:=h;exact⟨⟨⟨z,u,λ_ _ _=>⟨⟨A,y,rfl,H,J⟩,λi Y off M=>by cases M⟩⟩,id,rfl⟩,trivial⟩
theorem zU {W:Wit}{a:Act}{w:World}(hr:an P V W st a w){r j n g len M i:Nat}{p:Bool}{Z:Option (Nat×Nat)}{E:TypeId}{e:Ty}{xs:List e.den}{y:e.den}(h8:(st r).ver=n)(h9:(st r).ls[j]?=some (.own p Z E e xs))
  (H:(W.cs r)[j]?=some (.slice (some ⟨g,0,none⟩) len M)) (J:i<len) (hy:xs[i]?=some y) :
  ∃ c,cV w g (i*e.cells) c/\aB P V W st w (gE p r j n (st EPO).ver i e.cells (cI Z i) e 0 y) c:=by
 subst h8;obtain⟨_,a0,a2,ho,O,I⟩:=hr.leaf r j _ _ h9 H;obtain⟨c,Y,h2⟩:=I i y hy;have a1:=Y.len;have hi:i<xs.length:=(BI.1 hy).1;have z:len=xs.length:=by
  obtain⟨A,X,e0,_⟩:=ho.slice
  simp_all
 subst z;have hc:cV w g (i*e.cells) c:=by
  intro q u hu;have hq:=(BI.1 hu).1;rw[ho.cellAt _ (by
   have:i*e.cells+e.cells<=xs.length*e.cells:=by
    have:=Nat.mul_le_mul_right e.cells (show i+1<=xs.length from hi)
    grind
   omega)]
  grind
 refine⟨c,hc,l7 H J (by rw[O];simp[B7]) (λk hk=>?_) Y hc⟩
 grind
theorem yx (hV:ax V)(hT:TOk P T)(ad:bL V o){t:TypeId}{x:Operand}(a3:o.op=.load t x)(h:act Γ T o st κ=some r):bV P V o st κ r:=by
 simp only[act,wrU,a3,lV]at h;have a5:=hT t;have Y:∀ (W:Wit) (a:Act) (w:World) (g off:Nat) (cs:List Value) (ls:List Leaf) (d:Nat),an P V W st a w->o.dst=some d->T t≠.none->a.eval x=.pointer (some ⟨g,off,none⟩)->cV w g off cs ->
   cs.length=(T t).cells->aB P V W st w ls cs->mI P V o st (cf st [] d (bg (T t).agg) ls) a w:=by
  intro W a w g off cs ls d z X hn O Z hl a1;obtain⟨v,h1,h2⟩:=od a5 hn Z hl;exact dS hV z X ad (v:=v) (by simp[execOp,a3,O,Instr.loadAt,CN,h1]) h2 a1
 cases M:decide ((T t).cells=0) with
 |true=>simp[M]at h
 |false =>
  simp only[M]at h;have M:(T t).cells≠0:=of_decide_eq_false M;have a0:T t≠.none:=by intro e;rw[e]at M;exact M rfl
  split at h
  ·rename_i p b y off J;cases u:decide (off+(T t).cells<=b.cells) with
   |false=>simp[u]at h
   |true =>
    simp only[u]at h;split at h
    ·rename_i d X;refine⟨_,h,λW a w z=>?_⟩;obtain⟨H,_,_,_⟩:=br z x (by rw[J];simp);rw[J]at H;obtain⟨g,og,c,O,hg,I,Z⟩:=H;refine Y W a w g _ ((c.drop off).take (T t).cells) _ d z X a0 O (Z.sub off _) ?_ (((e9 (λ_ h=>h) I).drop off).take _);have:=I.len
     grind
    ·grind
  ·rename_i b off J;cases u:decide ((st b).sh=.agg)&&decide (off+(T t).cells<=(st b).ls.length) with
   |false=>simp[u]at h
   |true =>
    simp only[u]at h;split at h
    ·rename_i d X;refine⟨_,h,λW a w z=>?_⟩;obtain⟨H,_,_,_⟩:=br z x (by rw[J];simp);rw[J]at H;obtain⟨hB,b5,O⟩:=H;rcases z.boxes b hB with ⟨h8,_⟩|⟨_,E,h8⟩
     ·grind
     ·have Z:cV w (W.β b) 0 (W.cs b):=λi v O=>by
       rw[CW,cell_of_row w (W.β b) i _ E (0,0) h8]
       simp_all
      have b2:=z.len b;have a4:=Z.sub off (T t).cells;rw[CW]at a4;refine Y W a w (W.β b) off _ _ d z X a0 O a4 ?_ (((iA z b).drop off).take _)
      grind
    ·grind
  ·rename_i p b y J;cases u:BG (T t).cells 1&&!(T t).agg with
   |false=>simp[u]at h
   |true =>
    simp only[u]at h;simp only[BJ,CF]at u;split at h
    ·rename_i d X;refine⟨_,h,λW a w z=>?_⟩;obtain⟨H,_,_,_⟩:=br z x (by rw[J];simp);rw[J]at H;obtain⟨q,oq,g,og,c,O,_,a2,hg,I,Z⟩:=H;have:=Y W a w q oq [.pointer (some ⟨g,og,none⟩)] [.rp p b y 0] d z X a0 O (λi v hi=>by
      cases i with
      |zero=>simp at hi;subst hi;exact a2
      |succ i=>simp at hi) (by simp[BH u.1]) ⟨⟨⟨g,og,c,rfl,hg,I,Z⟩,id,rfl⟩,trivial⟩
     rw[u.2]at this;exact this
    ·grind
  ·rename_i p ks ep b y off J;cases u:bq st ks ep&&decide (off+(T t).cells<=b.cells) with
   |false=>simp[u]at h
   |true =>
    simp only[u]at h;simp at u;split at h
    ·rename_i d X;refine⟨_,h,λW a w z=>?_⟩;obtain⟨H,_,_,_⟩:=br z x (by rw[J];simp);rw[J]at H;have h8:NpOk V W w p ks b y off _:=H.2.2 (cr u.1).1 (cr u.1).2.1 (cr u.1).2.2;obtain⟨g,og,c,O,hg,I,Z⟩:=h8.rd;refine Y W a w g _ ((c.drop off).take (T t).cells) _ d z X a0 O (Z.sub off _) ?_ (((j9 H.1 H.2.1 I).drop off).take _);have:=I.len
     grind
    ·grind
  ·rename_i r' j v i sz off J;split at h
   ·rename_i p hh E e xs b1;cases u:BG sz e.cells&&decide (off+(T t).cells<=e.cells) with
    |false=>simp[u]at h
    |true =>
     simp only[u]at h;simp only[BJ]at u;have b0:=BH u.1;subst b0;obtain⟨y,hy,h⟩:=BP.1 h;obtain⟨_,_,h4⟩:=gm hy;split at h
     ·rename_i d X;refine⟨_,h,λW a w z=>?_⟩;obtain⟨H,_,_,_⟩:=br z x (by rw[J];simp);rw[J]at H;obtain⟨h8,h9⟩:=ff b1 (by simp);obtain⟨g,b3,b4,a9,a6,O⟩:=H.2 h8;obtain⟨c,Z,a1⟩:=zU z h8 h9 a9 a6 h4;refine Y W a w g _ _ _ d z X a0 O (Z.sub off _) ?_ ((a1.drop off).take _);have:=a1.length;rw[jd]at this
      grind
     ·grind
   ·grind
  ·grind
end
section
variable {P:Program} {V:Env} {Γ:List Ctr} {T:TypeId->TI} {st:St} {o:Oper} {R:Type} {κ:Upd->Option R} {r:R}
theorem wW (hV:ax V)(hT:TOk P T)(X:bL V o){t:TypeId}{x:Operand}{f:Nat}(H:o.op=.field t x f)(h:act Γ T o st κ=some r):bV P V o st κ r:=by
 simp only[act,wrU,H]at h;cases ht:T t with
 |struct b a2 =>
  simp only[ht]at h;split at h
  ·rename_i off n agg hf;have h1:=hT t;rw[ht]at h1;obtain⟨⟨fs,hu,_,a0⟩,_⟩:=h1;obtain⟨I,Y,h2,h3,h4,h5,h6,Z⟩:=a0 f off n agg hf;cases M:decide ((au st x).1=.agg)&&decide ((au st x).2.length=b.cells) with
   |false=>simp[M]at h
   |true =>
    simp only[M,cond_true]at h;simp only[BJ,decide_eq_true_eq]at M;split at h
    ·rename_i d hd;refine⟨_,h,λW a w hr=>?_⟩;obtain⟨u,hs,hl⟩:=cQ hr x;rw[M.1]at hs;have O:=hl.length;rw[M.2]at O;have z:(isAgg Y.type).run P w=.ok agg w:=by
      unfold isAgg;cases J:P.underlying Y.type with
      |none=>simp[J]at Z
      |some dd =>
       rw[J]at Z;simp only[Ce,BN]at Z;subst Z;rw[BW,run_underlying J w];cases dd <;> rfl
     have a1:=dn h6 w;cases agg with
     |true =>
      refine dS hV hr hd X (v:=.agg ((u.drop off).take n).toArray) ?_ rfl ((hl.drop off).take n);have e:u.toArray.extract off (off+n)=((u.drop off).take n).toArray:=by
       rw[List.extract_toArray,List.extract_eq_take_drop,Nat.add_sub_cancel_left]
      have hp:(part Y.type u.toArray off).run P w=.ok (.agg ((u.drop off).take n).toArray) w:=by
       simp only[part,BW,z,BS,if_true,a1,B3,e]
      simp only[execOp,H,show a.eval x=_ from hs,Cm,BW,run_underlying hu,BS,h2,asAgg,B3,h3,hp]
     |false =>
      have I:=I rfl;subst I;have y:off<u.length:=by omega
      have hv:((u.drop off).take 1)=[u[off]]:=by
       rw[List.take_one,List.head?_drop,BK y];rfl
      refine dS hV hr hd X (v:=u[off]) ?_ (show d9 .one _ ((u.drop off).take 1) from hv) ((hl.drop off).take 1);have e:u.toArray[off]?=some u[off]:=by simp[y]
      have hp:(part Y.type u.toArray off).run P w=.ok u[off] w:=by
       simp only[part,BW,z,BS,Bool.false_eq_true,if_false,e,B3]
      simp only[execOp,H,show a.eval x=_ from hs,Cm,BW,run_underlying hu,BS,h2,asAgg,B3,h3,hp]
    ·cases h
  ·cases h
 |_=>simp[ht]at h
theorem AS {α:Type}(u y:List α)(off:Nat)(h:off+y.length<=u.length):(u.take off++y++u.drop (off+y.length)).length=u.length:=by
 simp;omega
theorem k8 (cs c:List Value)(off:Nat)(h:off+c.length<=cs.length) :
  (c.zipIdx 0).foldl (λcs (x:Value×Nat)=>cs.setIfInBounds (off+x.2) x.1) cs.toArray=(cs.take off++c++cs.drop (off+c.length)).toArray:=by
 obtain⟨H,z⟩:=Great.foldl_set off c 0 cs.toArray;apply Array.ext_getElem?;intro k;rw[z k];simp only[Nat.add_zero,List.size_toArray,List.getElem?_toArray];by_cases y:off<=k/\k<off+c.length/\k<cs.length
 ·rw[if_pos y,B8,BZ (by simp;omega),CD (by simp;omega)];congr 1;simp;omega
 ·rw[if_neg y];by_cases u:k<off
  ·rw[B8,CD (by simp;omega),BV,if_pos u]
  ·rw[BZ (by simp;omega),CC];congr 1;simp;omega
theorem gV {agg:Bool}{v:Value}{cs:List Value}(h:d9 (bg agg) v cs)(y:∀ u∈cs,u.oneCell'=true):v.cells=cs.toArray:=by
 cases agg with
 |true=>rw[show v=_ from h];rfl
 |false =>
  have h:cs=[v]:=h;subst h;have:=y v (CV.2 rfl);cases v <;> first|rfl|simp[BQ]at this
theorem l8 {W:Wit}{a:Act}{w:World}(hr:an P V W st a w){z:List (Nat×Nat×Bool)}{pl:Nat->Option (Nat×Nat)}(J:∀ (i off n:Nat) (agg:Bool),z[i]?=some (off,n,agg)->pl i=some (off,n)):∀ (ps:List (Nat×Operand)) (ls u:List Leaf) (cs:List Value),
  aB P V W st w ls cs->fq st z ps ls=some u ->
  ∃ y,aB P V W st w u y/\Instr.fill pl cs.toArray (ps.map λx=>(x.1,a.eval x.2))=some y.toArray
 |[],ls,u,cs,M,h=>by
  simp[fq]at h;subst h;exact⟨cs,M,rfl⟩
 |(i,x)::ps,ls,u,cs,M,h=>by
  simp only[fq]at h;split at h
  ·rename_i off n agg hf;cases X:BG (au st x).2.length n&&decide ((au st x).1=bg agg)&&decide (off+n<=ls.length) with
   |false=>simp[X]at h
   |true =>
    simp only[X,cond_true]at h;simp only[BJ,decide_eq_true_eq]at X;obtain⟨⟨O,Z⟩,a2⟩:=X;have O:=BH O;obtain⟨c,hs,H⟩:=cQ hr x;rw[Z]at hs;have hc:=gV hs H.one';have a1:=M.length;have I:=H.length;have a0:aB P V W st w (jB ls (au st x).2 off) (cs.take off++c++cs.drop (off+c.length)):=by
     unfold jB;rw[I];exact ((M.take off).append H).append (M.drop _)
    obtain⟨y,h1,h2⟩:=l8 hr J ps _ u _ a0 h;refine⟨y,h1,?_⟩;simp only[Ch,Instr.fill];have Y:pl i=some (off,n):=J _ _ _ _ hf;have a3:c.toArray.size=n:=by simp;omega
    simp only[Y,hc];rw[if_neg (by simp;omega)];have e:c.toArray.zipIdx.foldl (λcs (x:Value×Nat)=>cs.setIfInBounds (off+x.2) x.1) cs.toArray=(c.zipIdx 0).foldl (λcs (x:Value×Nat)=>cs.setIfInBounds (off+x.2) x.1) cs.toArray:=by
     rw[<- Array.foldl_toList];simp
    have e2:=k8 cs c off (by omega);rw[<- e2,<- e]at h2;exact h2
  ·cases h
theorem lF {W:Wit}{w:World}:∀ (b:Ty),aB P V W st w (eY b) (zeroCells b)
 |.int _=>⟨⟨rfl,id,rfl⟩,trivial⟩
 |.bool=>⟨⟨rfl,id,rfl⟩,trivial⟩
 |.str=>⟨⟨rfl,id,rfl⟩,trivial⟩
 |.unit=>trivial
 |.pair a b=>(lF a).append (lF b)
 |.hdr=>⟨⟨rfl,id,rfl⟩,trivial⟩
 |.list _ _ _=>⟨⟨rfl,id,rfl⟩,trivial⟩
theorem oP {W:Wit}{w:World}(e:Ty):∀ (n:Nat),aB P V W st w (BX n (eY e)).flatten (BX n (zeroCells e)).flatten
 |0=>trivial
 |n+1=>by
  rw[CR,CR,CY,CY];exact (lF e).append (oP e n)
theorem wX (hV:ax V)(hT:TOk P T)(a0:bL V o){t:TypeId}{u:Array (Nat×Operand)}(M:o.op=.build t u)(h:act Γ T o st κ=some r):bV P V o st κ r:=by
 simp only[act,wrU,M]at h;cases ht:T t with
 |struct b Z =>
  simp only[ht]at h;split at h
  ·rename_i ls J;split at h
   ·rename_i d hd;refine⟨_,h,λW a w hr=>?_⟩;have X:=hT t;rw[ht]at X;obtain⟨⟨fs,hu,a1,_⟩,_,H,_⟩:=X;obtain⟨z,h2,h3⟩:=l8 hr (pl:=((Z.map λx=>(x.1,x.2.1)).toArray[·]?)) (λi off n agg I=>by simp[I]) u.toList _ ls _ (lF b) J;refine dS hV hr hd a0 (v:=.agg z.toArray) ?_ rfl h2;have y:P.built t (u.map λ (i,x)=>(i,a.eval x)).toList=some z.toArray:=by
     unfold dY at H;unfold Cj;cases Y:P.info? t with
     |none=>simp[Y]at H
     |some ti =>
      simp[Y]at H;simp only[hu,H,a1];rw[CK];exact h3
    simp[execOp,M,run_build w t _ _ y]
   ·cases h
  ·cases h
 |arr e n =>
  simp only[ht]at h;split at h
  ·rename_i ls J;split at h
   ·rename_i d hd;refine⟨_,h,λW a w hr=>?_⟩;have X:=hT t;rw[ht]at X;obtain⟨⟨E,hu,hE,_⟩,_,_,H⟩:=X;obtain⟨z,h2,h3⟩:=l8 hr (pl:=λi=>some (i*e.cells,e.cells)) (λi off n agg I=>by
     rw[CX]at I;obtain⟨j,hj,I⟩:=BU.1 I;rw[List.getElem?_range (by simpa using (BI.1 hj).1)]at hj;simp only[BN]at hj;subst hj;simp only[Cg]at I;simp[<- I.1,<- I.2.1]) u.toList _ ls _ (oP e n) J
    refine dS hV hr hd a0 (v:=.agg z.toArray) ?_ rfl h2;have y:P.built t (u.map λ (i,x)=>(i,a.eval x)).toList=some z.toArray:=by
     unfold dY at H;unfold bO at hE;unfold Cj;cases Y:P.info? t with
     |none=>simp[Y]at H
     |some ti =>
      simp[Y]at H;cases O:P.info? E with
      |none=>simp[O]at hE
      |some ie =>
       simp[O]at hE;simp only[hu,H,O,hE];rw[CK];exact h3
    simp[execOp,M,run_build w t _ _ y]
   ·cases h
  ·cases h
 |_=>simp[ht]at h
theorem mL {W:Wit}{a:Act}{w:World}(H:an P V W st a w){x:Option Operand}{u n:Int}(h:dh st x u=some n) :
  (x=none/\n=u)\/∃ y k,x=some y/\a.eval y=.int k n:=by
 unfold dh at h;split at h
 ·simp at h;exact .inl ⟨rfl,h.symm⟩
 ·split at h
  ·rename_i l k m z;simp at h;subst h;exact .inr ⟨_,k,rfl,bD H z⟩
  ·cases h
theorem ka (u:Bool)(len y:Nat)(Y:len<=y)(H J:Option Value)(i h:Int)(X:0<=i)(M:i<=h)(hh:h<=len)(I:(H=none/\i=0)\/∃ k,H=some (.int k i))
  (O:(J=none/\h=len)\/∃ k,J=some (.int k h)) (w:World):(CZ u len y H J none).run P w=.ok (i.toNat,h.toNat,y) w:=by
 have h0:0<=h:=by omega
 have Z:h<=(y:Int):=by omega
 have z:i<=((h.toNat:Nat):Int):=by omega
 rcases I with ⟨rfl,rfl⟩|⟨k,rfl⟩ <;> rcases O with ⟨rfl,rfl⟩|⟨k',rfl⟩ <;>
  simp[CZ,Instr.sliceBound,asIntOf,X,h0,Z,z,M,-Int.ofNat_toNat]
theorem jt (M:ax V){W:Wit}{a:Act}{w:World}(I:an P V W st a w){x:Operand}{l:Leaf}(y:aC st (one st x)=l)(O:l≠.dead)(z:¬ am l):aK P V W st w [] l (a.eval x):=by
 have H:one st x≠.dead:=by intro e;rw[e]at y;exact O y.symm
 obtain⟨J,X,_⟩:=br I x H;rcases l6 M I J X with ⟨_,_,_,_,u,_⟩|⟨_,u⟩
 ·rw[y]at u;exact absurd u z
 ·rw[y]at u;exact u
theorem wY (O:ax V){W:Wit}{a:Act}{w:World}(X:an P V W st a w){x:Operand}{p:Bool}{ks:List (Nat×Nat×Nat)}{ep:Nat}{y:Option (Nat×Nat×Nat)}{E:TypeId}{e:Ty}{xs:List e.den}
  (u:aC st (one st x)=.nal p ks ep y E e xs):aK P V W st w [] (.nal p ks ep y E e xs) (a.eval x)/\bq st ks ep=true:=by
 refine⟨jt O X u (by simp) (by simp[am]),?_⟩;generalize one st x=l at u;cases l with
 |nal Z z H J Y e' M =>
  simp only[aC]at u;cases I:bq st z H with
  |false=>simp[I]at u
  |true =>
   simp only[I,cond_true]at u;cases u;exact I
 |al r j n=>exact absurd u iO
 |_=>simp[aC]at u
theorem ug (hV:ax V){W:Wit}{a:Act}{w:World}(J:an P V W st a w){x:Operand}{p:Bool}{H:Option (Nat×Nat)}{E:TypeId}{e:Ty}{xs:List e.den}(u:aC st (one st x)=.own p H E e xs) :
  ∃ r i n,one st x=.al r i n/\(st r).ls[i]?=some (.own p H E e xs)/\OwH w (gd V W p) H E e xs (a.eval x) (W.bs r i)/\(W.cs r)[i]?=some (a.eval x)/\(st r).ver=n:=by
 have I:one st x≠.dead:=by intro e;rw[e]at u;cases u
 obtain⟨z,X,_⟩:=br J x I;rcases l6 hV J z X with ⟨r,i,n,M,_,_,_⟩|⟨y,_⟩
 ·rw[M]at u z;obtain⟨y,Z,O,Y⟩:=kq J u z;exact⟨r,i,n,M,O,Z,y,Y⟩
 ·rw[u]at y;exact absurd trivial y
theorem goes_frz (H:ax V){W:Wit}{a:Act}{w:World}(h:an P V W st a w){d:Nat}(z:o.dst=some d)(y:bL V o)(ks:List (Nat×Nat)){v:Value}{sh:aI}{ls:List Leaf}{cs:List Value}
  (u:(execOp a.eval o).run P w=.ok (.value v) w) (M:d9 sh v cs) (J:aB P V (W.frz st ks) (ac (aE st ks) st) w ls cs):mI P V o st (cf st (aE st ks) d sh ls) a w:=by
 intro next Q I;refine dR u ?_;rw[z];refine I _ _ ?_;rw[cf,aQ];exact (lD H ks h).1.putLs H d (y d z).1 (y d z).2 _ sh ls v cs (CJ _) M J
theorem cV.shift {w:World}{g o:Nat}{c:List Value}{k s j:Nat}(h:cV w g (o+(k+j)*s) c):cV w g (o+k*s+j*s) c:=by
 rwa [CH,<- Nat.add_mul]
theorem Rd.cut {w:World}{G:Nat->Prop}{E:TypeId}{e:Ty}{xs:List e.den}{A:Option Addr}{u:Nat}(h:Rd w G (.list false E e) xs [.slice A xs.length u])(i n:Nat)(O:i<=n)(hn:n<=xs.length) :
  Rd w G (.list false E e) ((xs.take n).drop i) [.slice (if u=i then A else A.map (·.add (i*e.cells))) (n-i) (u-i)]:=by
 obtain⟨A',J,M,hc,Z⟩:=h;simp at M;obtain⟨rfl,rfl⟩:=M;have z:((xs.take n).drop i).length=n-i:=by simp;omega
 refine⟨_,u-i,by rw[z],by rw[z];omega,λY=>?_⟩;rw[z]at Y;obtain⟨g,o,rfl,X,H⟩:=Z (by omega);refine⟨g,o+i*e.cells,?_,X,λj x y=>?_⟩
 ·rw[if_neg (by omega)];simp[fa]
 ·rw[CC,BV]at y;split at y
  ·obtain⟨c,hr,I⟩:=H (i+j) x y;exact⟨c,hr,I.shift⟩
  ·cases y
theorem vH (hV:ax V)(hT:TOk P T)(a9:bL V o){t:TypeId}{x:Operand}{lo hi:Option Operand}(a3:o.op=.slice t x lo hi none)(h:act Γ T o st κ=some r):bV P V o st κ r:=by
 simp only[act,wrU,a3]at h;cases hd:o.dst with
 |none=>simp[hd]at h
 |some d =>
  simp only[hd]at h;split at h
  ·cases h
  ·rename_i i a6;have h1:=hT t;have X:∀ (W:Wit) (a:Act) (w:World) (y:Option Operand) (a4 n:Int),an P V W st a w->dh st y a4=some n->(y.map a.eval=none/\n=a4)\/∃ k,y.map a.eval=some (.int k n):=by
    intro W a w y a4 n O u;rcases mL O u with ⟨rfl,rfl⟩|⟨z,k,rfl,hz⟩
    ·exact .inl ⟨rfl,rfl⟩
    ·exact .inr ⟨k,by simp[hz]⟩
   split at h
   ·rename_i s ht hx;rw[ht]at h1;split at h
    ·rename_i n a0;cases u:decide (0<=i)&&decide (i<=n)&&decide (n<=(s.size:Int)) with
     |false=>simp[u]at h
     |true =>
      simp only[u,cond_true]at h;simp only[BJ,decide_eq_true_eq]at u;refine⟨_,h,λW a w O=>aP hV O hd a9 (v:=.string (s.extract i.toNat n.toNat)) ?_ rfl id rfl⟩;have J:=ka (P:=P) false s.size s.size (BO _) (lo.map a.eval) (hi.map a.eval) i n u.1.1 u.1.2 u.2 (X W a w lo 0 i O a6) (X W a w hi _ n O a0) w;have b3:a.eval x=.string s:=(jt hV O hx (by simp) (by simp[am]));simp[execOp,a3,b3,CI,CP,run_underlying h1.1,J]
    ·cases h
   ·rename_i E' e' a1 p ks ep b5 E e xs ht hx;rw[ht]at h1;obtain⟨hu,_,_,_,_,ti,z,a2,a5,_⟩:=h1;split at h
    ·rename_i n a0;cases u:decide (0<=i)&&decide (i<=n)&&decide (n<=(xs.length:Int))&&BG e'.cells e.cells with
     |false=>simp[u]at h
     |true =>
      simp only[u,cond_true]at h;simp only[BJ,decide_eq_true_eq]at u;obtain⟨u,I⟩:=u;have I:=BH I;refine⟨_,h,λW a w O=>?_⟩;obtain⟨hl,b4⟩:=wY hV O hx;have h8:=pA b4 hl;obtain⟨A,H,hv,M,Z⟩:=h8.rd;have hv:a.eval x=.slice A xs.length H:=by simpa using hv
      have J:=ka (P:=P) true xs.length H M (lo.map a.eval) (hi.map a.eval) i n u.1.1 u.1.2 u.2 (X W a w lo 0 i O a6) (X W a w hi _ n O a0) w;have hE:=dn (P:=P) (t:=E') (n:=e.cells) (by simp[bO,a2,a5,I]) w;have Y:=Rd.cut (E:=E) (⟨A,H,rfl,M,Z⟩:Rd w _ (.list false E e) xs [.slice A xs.length H]) i.toNat n.toNat (by omega) (by omega);refine aP hV O hd a9 (v:=.slice (if H=i.toNat then A else A.map (·.add (i.toNat*e.cells))) (n.toNat-i.toNat) (H-i.toNat)) ?_ ⟨hl.1,hl.2.1,λ_ _ _=>⟨Y,λi' sz off he=>by cases he⟩⟩ id rfl;simp only[execOp,a3,hv,CI,CP,BW,run_underlying hu,BS,CL,J,hE,B3]
    ·cases h
   ·rename_i E' e' a1 p E e xs ht hx;rw[ht]at h1;obtain⟨hu,_,_,_,_,ti,z,a2,a5,_⟩:=h1;split at h
    ·rename_i n a0;cases u:decide (0<=i)&&decide (i<=n)&&decide (n<=(xs.length:Int))&&BG e'.cells e.cells with
     |false=>simp[u]at h
     |true =>
      simp only[u,cond_true]at h;simp only[BJ,decide_eq_true_eq]at u;obtain⟨u,I⟩:=u;have I:=BH I;refine⟨_,h,λW a w O=>?_⟩;have hl:=jt hV O hx (by simp) (by simp[am]);obtain⟨A,H,hv,M,Z⟩:=hl;have hv:a.eval x=.slice A xs.length H:=by simpa using hv
      have J:=ka (P:=P) true xs.length H M (lo.map a.eval) (hi.map a.eval) i n u.1.1 u.1.2 u.2 (X W a w lo 0 i O a6) (X W a w hi _ n O a0) w;have hE:=dn (P:=P) (t:=E') (n:=e.cells) (by simp[bO,a2,a5,I]) w;have Y:=Rd.cut (E:=E) (⟨A,H,rfl,M,Z⟩:Rd w (gd V W p) (.list false E e) xs [.slice A xs.length H]) i.toNat n.toNat (by omega) (by omega);refine aP hV O hd a9 (v:=.slice (if H=i.toNat then A else A.map (·.add (i.toNat*e.cells))) (n.toNat-i.toNat) (H-i.toNat)) ?_ Y id rfl;simp only[execOp,a3,hv,CI,CP,BW,run_underlying hu,BS,CL,J,hE,B3]
    ·cases h
   ·rename_i E' e' a1 p E e xs ht hx;rw[ht]at h1;obtain⟨hu,_,_,_,_,ti,z,a2,a5,_⟩:=h1;split at h
    ·rename_i n a0;cases u:decide (0<=i)&&decide (i<=n)&&decide (n<=(xs.length:Int))&&BG e'.cells e.cells with
     |false=>simp[u]at h
     |true =>
      simp only[u,cond_true]at h;simp only[BJ,decide_eq_true_eq]at u;obtain⟨u,I⟩:=u;have I:=BH I;split at h
      ·rename_i r' j n' e1;refine⟨_,h,λW a w O=>?_⟩;obtain⟨r1,j1,n1,b2,h2,b0,_,b1⟩:=ug hV O hx;rw[e1]at b2;obtain⟨rfl,rfl,rfl⟩:r'=r1/\j=j1/\n'=n1:=by cases b2;exact⟨rfl,rfl,rfl⟩
       obtain⟨A,H,hv,M⟩:=b0.slice;have J:=ka (P:=P) true xs.length H M (lo.map a.eval) (hi.map a.eval) i n u.1.1 u.1.2 u.2 (X W a w lo 0 i O a6) (X W a w hi _ n O a0) w;have hE:=dn (P:=P) (t:=E') (n:=e.cells) (by simp[bO,a2,a5,I]) w;have ad:=OwH.rd (m:=false) (E':=E) b0;rw[hv]at ad;have Y:=Rd.cut ad i.toNat n.toNat (by omega) (by omega);refine aP hV O hd a9 (v:=.slice (if H=i.toNat then A else A.map (·.add (i.toNat*e.cells))) (n.toNat-i.toNat) (H-i.toNat)) ?_
        ⟨BO _,λk hk=>?_,λ_ _ _=>⟨Rd.mono (λk hk=>?_) Y,λi' sz off he=>by cases he⟩⟩ id rfl
       ·simp only[execOp,a3,hv,CI,CP,BW,run_underlying hu,BS,CL,J,hE,B3]
       ·simp only[CV]at hk;subst hk;exact Nat.le_of_eq b1.symm
       ·rcases hk with hk|hk
        ·exact .inl hk
        ·exact .inr ⟨_,B6 _,hk⟩
      ·cases h
    ·cases h
   ·cases h
theorem zV (hV:ax V)(hT:TOk P T)(X:bL V o){c:Call}(I:o.op=.call c)(hc:c.callee=.builtin .len)(h:act Γ T o st κ=some r):bV P V o st κ r:=by
 simp only[act,wrU,I,hc]at h;split at h
 ·cases h
 ·rename_i d Z;simp only[Z]at h;split at h
  ·rename_i x hx;split at h
   ·rename_i t ht;have y:c.args=#[x]:=by rw[<- CQ (xs:=c.args),hx]
    have H:c.argTypes=#[t]:=by rw[<- CQ (xs:=c.argTypes),ht]
    have Y:=hT t;have M:∀ (a:Act) (w:World) (n:Int),(Ca #[t] o.type #[a.eval x]).run P w=.ok (.int .i64 n) w->(execOp a.eval o).run P w=.ok (.value (.int .i64 n)) w:=by
     intro a w n J;simp[execOp,I,hc,resolve,invoke,builtin,y,H,J]
    split at h
    ·rename_i E e b u;rw[u]at Y;split at h
     ·rename_i n J;refine⟨_,h,λW a w z=>aP hV z Z X (M a w _ ?_) rfl id rfl⟩;have a2:one st x≠.dead:=by intro e;rw[e]at J;simp[aC,fY]at J
      obtain⟨h2,h3,_⟩:=br z x a2;obtain⟨A,a1,O⟩:=wQ z h2 h3 J;have O:a.eval x=.slice A n a1:=by simpa using O
      simp[Ca,run_underlying Y.1,O,goInt]
     ·cases h
    ·rename_i s u a0;rw[u]at Y;refine⟨_,h,λW a w z=>aP hV z Z X (M a w _ ?_) rfl id rfl⟩;have O:a.eval x=.string s:=jt hV z a0 (by simp) (by simp[am]);simp[Ca,run_underlying Y.1,O,goInt]
    ·cases h
   ·cases h
  ·cases h
end
end Go.Proofs.YtaegajachoklkabGreatEv
