/- The value evaluator, second form: what a Go function's code computes, on plain values. No proof here but definitions. -/
import Derived.Calls
import Derived.Orders
import Derived.KernelRfl
import Derived.Below
import Derived.Maps.AppendAt
import Derived.Laws.OwnMore
import Derived.Lib.ConvBytes
import Derived.WalkKit
import Derived.Great.BuildSlice
set_option linter.unusedVariables false
set_option linter.unusedSimpArgs false
open Array renaming getD_eq_getD_getElem?->Bq,toList_map->Bz,toArray_toList->B8
open Bool renaming and_eq_true->BD,not_eq_true'->Bu,or_eq_false_iff->B6,not_eq_true->CJ
open ByteArray renaming empty->BV
open Go.Act renaming put->CS
open Go.Builtin renaming len_->CI
open Go.Instr renaming sliceAt->Bx,sureAddr->B5,slice->B7,sliceBounds->CH,index->CL,indexAt->CQ,field->CU
open Go.Program renaming built->CR
open Go.Result renaming andThen_ok->BM
open Go.Sem renaming run_bind->BQ,run_pure->BU
open Go.Value renaming oneCell'->BK,ownBlock->BY
open Go.World renaming cell?->CT
open List renaming getElem?_eq_some_iff->BC,getElem?_eq_getElem->BE,mem_append_right->BF,mem_append_left->BG,mem_append->BN,getElem?_take->BP,replicate->BR,getD_eq_getElem?_getD->BS,getElem?_append_right->BT,mem_singleton_self->BX,append_assoc->BZ,range->Bo,getElem?_drop->Br,getElem?_append_left->Bs,any_eq_false->Bv,mem_cons_of_mem->B4,replicate_succ->B9,mem_cons->CA,length_append->CB,mem_cons_self->CC,mem_singleton->CD,getElem?_map->CF,flatten_cons->CG,cons_append->CK,drop_drop->CN,map_cons->CP
open Nat renaming beq->BA,eq_of_beq_eq_true->BB,le_refl->BI,le_trans->BL,lt_of_lt_of_le->BW,blt->Bp,ble->Bt,add_assoc->Bw,lt_succ_self->By,zero_add->CE
open Option renaming bind_eq_some_iff->BJ,map_eq_some_iff->BO,map_none->B3,map_some->CM
open Option.some renaming injEq->BH
open Prod.mk renaming injEq->CO
namespace Go.Proofs.YtaelpfghkndliaaGreatEv
open Go
inductive Ty where
 |int (k:IntKind)|bool|str|unit
 |hdr
 |pair (a b:Ty)
 |list (m:Bool) (E:TypeId) (e:Ty)
 deriving DecidableEq
abbrev Ty.den:Ty->Type
 |.int _=>Int
 |.bool=>Bool
 |.str=>ByteArray
 |.unit=>Unit
 |.hdr=>Nat
 |.pair a b=>a.den×b.den
 |.list _ _ e=>List e.den
def Ty.cells:Ty->Nat
 |.unit=>0
 |.pair a b=>a.cells+b.cells
 |_=>1
def Ty.zero:(a:Ty)->a.den
 |.int _=>(0:Int)
 |.bool=>false
 |.str=>BV
 |.unit=>()
 |.hdr=>(0:Nat)
 |.pair a b=>(a.zero,b.zero)
 |.list _ _ e=>([]:List e.den)
def Ty.flat:Ty->Bool
 |.list _ _ _=>false
 |.pair a b=>a.flat&&b.flat
 |_=>true
def Ty.sh:Ty->Ty
 |.pair a b=>.pair a.sh b.sh
 |.list _ E e=>.list false E e.sh
 |a=>a
def Ty.shy:Ty->Bool
 |.list m _ e=>!m||e.shy
 |.pair a b=>a.shy||b.shy
 |_=>false
theorem mC:∀ a:Ty,a.sh.den=a.den
 |.int _|.bool|.str|.unit|.hdr=>rfl
 |.pair a b=>by
  show (a.sh.den×b.sh.den)=(a.den×b.den);rw[mC a,mC b]
 |.list _ _ e=>congrArg List (mC e)
theorem jq {a b:Ty}(h:a.sh=b.sh):a.den=b.den:=(mC a).symm.trans ((congrArg Ty.den h).trans (mC b))
def Ty.eqv:(a:Ty)->a.den->a.den->Bool
 |.int _,x,y=>decide ((x:Int)=y)
 |.bool,x,y=>(x:Bool)==y
 |.str,x,y=>decide ((x:ByteArray)=y)
 |.unit,_,_=>true
 |.hdr,_,_=>false
 |.pair a b,x,y=>a.eqv x.1 y.1&&b.eqv x.2 y.2
 |.list _ _ _,_,_=>false
abbrev Tup:List Ty->Type
 |[]=>Unit
 |a::as=>a.den×Tup as
inductive Leaf where
 |int (k:IntKind) (n:Int)
 |bool (b:Bool)
 |str (s:ByteArray)
 |nil
 |hdr (n:Nat)
 |ro (p:Bool) (E:TypeId) (e:Ty) (xs:List e.den)
 |own (p:Bool) (h:Option (Nat×Nat)) (E:TypeId) (e:Ty) (xs:List e.den)
 |al (r j v:Nat)
 |nal (p:Bool) (ks:List (Nat×Nat×Nat)) (ep:Nat) (loc:Option (Nat×Nat×Nat)) (E:TypeId) (e:Ty) (xs:List e.den)
 |ep (r j v:Nat) (i sz off:Nat)
 |np (p:Bool) (ks:List (Nat×Nat×Nat)) (ep:Nat) (a:Ty) (x:a.den) (off:Nat)
 |rp (p:Bool) (a:Ty) (x:a.den) (off:Nat)
 |rpp (p:Bool) (a:Ty) (x:a.den)
 |bp (b off:Nat)
 |clo (f:FuncId) (caps:List Nat)
 |clr (f:FuncId) (caps:List (Bool×Bool×(a:Ty)×a.den))
 |fn (As:List Ty) (B:Ty) (φ:Tup As->Option B.den)
 |dead
inductive aG where
 |off|und|one|agg
 |tup (ps:List (Bool×Nat))
 deriving DecidableEq
structure bS where
 ver:Nat
 sh:aG
 ls:List Leaf
abbrev St:=Nat->bS
def bS.none:bS:=⟨0,.off,[]⟩
def GH:Nat:=99000
def TMP:Nat:=99998
def EPO:Nat:=99999
def B0:Nat:=100000
abbrev Upd:=List (Nat×bS)
def ac (U:Upd)(st:St)(q:Nat):bS :=
 match U with
 |[]=>st q
 |(r,c)::u=>bif BA q r then c else ac u st q
inductive TI where
 |int (k:IntKind)|bool|str
 |slice (E:TypeId) (e:Ty) (bytes:Nat)
 |struct (a:Ty) (flds:List (Nat×Nat×Bool))
 |arr (e:Ty) (n:Nat)
 |ptr|fn
 |none
def fW:List (TypeId×TI)->TypeId->TI
 |[],_=>.none
 |(t,i)::l,u=>bif BA t u then i else fW l u
def TI.cells:TI->Nat
 |.struct a _=>a.cells
 |.arr e n=>n*e.cells
 |.none=>0
 |_=>1
def TI.agg:TI->Bool
 |.struct _ _=>true
 |.arr _ _=>true
 |_=>false
def eQ:Ty->List Leaf
 |.int k=>[.int k 0]
 |.bool=>[.bool false]
 |.str=>[.str BV]
 |.unit=>[]
 |.hdr=>[.nil]
 |.pair a b=>eQ a++eQ b
 |.list _ _ _=>[.nil]
def TI.zero:TI->List Leaf
 |.int k=>[.int k 0]
 |.bool=>[.bool false]
 |.str=>[.str BV]
 |.slice _ _ _=>[.nil]
 |.struct a _=>eQ a
 |.arr e n=>(BR n (eQ e)).flatten
 |.ptr=>[.dead]
 |.fn=>[.dead]
 |.none=>[]
def aq (p:Bool):(a:Ty)->a.den->List Leaf
 |.int k,n=>[.int k n]
 |.bool,b=>[.bool b]
 |.str,s=>[.str s]
 |.unit,_=>[]
 |.hdr,n=>[.hdr n]
 |.pair a b,x=>aq p a x.1++aq p b x.2
 |.list m E e,r=>[bif m then .own (p&&e.shy) none E e r else .ro p E e r]
def cJ (p:Bool):(a:Ty)->a.den->List Leaf
 |.int k,n=>[.int k n]
 |.bool,b=>[.bool b]
 |.str,s=>[.str s]
 |.unit,_=>[]
 |.hdr,n=>[.hdr n]
 |.pair a b,x=>cJ p a x.1++cJ p b x.2
 |.list _ E e,r=>[.ro p E e r]
def lh (p:Bool)(ks:List (Nat×Nat×Nat))(ep:Nat):(a:Ty)->a.den->List Leaf
 |.int k,n=>[.int k n]
 |.bool,b=>[.bool b]
 |.str,s=>[.str s]
 |.unit,_=>[]
 |.hdr,n=>[.hdr n]
 |.pair a b,x=>lh p ks ep a x.1++lh p ks ep b x.2
 |.list _ E e,r=>[.nal p ks ep none E e r]
def gC (p:Bool)(r j v ep i u:Nat)(h:Option Nat):(a:Ty)->Nat->a.den->List Leaf
 |.int k,_,n=>[.int k n]
 |.bool,_,b=>[.bool b]
 |.str,_,s=>[.str s]
 |.unit,_,_=>[]
 |.hdr,_,n=>[.hdr n]
 |.pair a b,off,x=>gC p r j v ep i u h a off x.1++gC p r j v ep i u h b (off+a.cells) x.2
 |.list m E e,off,y=>[bif decide (h=some off) then .dead else bif m then .nal (p&&e.shy) [(r,j,v)] ep (some (i,u,off)) E e y else .ro p E e y]
def li (p:Bool)(r j v ep i u:Nat)(h:Option (Bool×Nat)):(a:Ty)->Nat->a.den->List Leaf
 |.int k,_,n=>[.int k n]
 |.bool,_,b=>[.bool b]
 |.str,_,s=>[.str s]
 |.unit,_,_=>[]
 |.hdr,_,n=>[.hdr n]
 |.pair a b,off,x=>li p r j v ep i u h a off x.1++li p r j v ep i u h b (off+a.cells) x.2
 |.list m E e,off,y=>[bif (match h with|some (b,o)=>BA o off&&b|Option.none=>false) then .dead else bif m then .nal (p&&e.shy) [(r,j,v)] ep (some (i,u,off)) E e y else .ro p E e y]
def bf (agg:Bool):aG:=bif agg then .agg else .one
def lj:Leaf->Bool
 |.own _ _ _ _ _=>true
 |_=>false
def bj (st:St)(ks:List (Nat×Nat×Nat))(ep:Nat):Bool:=BA (st EPO).ver ep&&ks.all λk=>BA (st k.1).ver k.2.2&&lj ((st k.1).ls.getD k.2.1 .dead)
def pj:Leaf->Leaf
 |.nal _ _ _ _ _ _ _=>.dead
 |l=>l
def aD (st:St):Leaf->Leaf
 |.al r j v=>bif BA (st r).ver v then pj ((st r).ls.getD j .dead) else .dead
 |.nal p y ep u E e z=>bif bj st y ep then .nal p y ep u E e z else .dead
 |l=>l
def lD (t j r:Nat):Leaf->Leaf
 |.own _ _ _ _ _=>.al t j r
 |l=>l
def bD (t r:Nat):Nat->List Leaf->List Leaf
 |_,[]=>[]
 |j,l::u=>lD t j r l::bD t r (j+1) u
def is:Value->Option Leaf
 |.int k n=>some (.int k n)
 |.bool b=>some (.bool b)
 |.string s=>some (.str s)
 |.slice Option.none 0 0=>some .nil
 |_=>Option.none
def au (st:St):Operand->aG×List Leaf
 |.tmp t=>bif Bp t GH then ((st t).sh,bD t (st t).ver 0 (st t).ls) else (.off,[])
 |.const v=>match is v with
  |some l=>(.one,[l])
  |Option.none=>(.off,[])
 |.func f=>(.one,[.clo f []])
 |.global _=>(.off,[])
def one (st:St)(x:Operand):Leaf :=
 match au st x with
 |(.one,[l])=>l
 |_=>.dead
def castSh (e e':Ty)(xs:List e'.den):Option (List e.den) :=
 if h:e'.sh=e.sh then some (cast (congrArg List (jq h)) xs) else Option.none
def lE (E:TypeId)(e:Ty)(E':TypeId)(e':Ty)(xs:List e'.den):Option (List e.den) :=
 if h:E'=E/\e'=e then some (h.2 ▸ xs) else Option.none
def dg (e:Ty):Leaf->Option (Bool×List e.den)
 |.ro p _ u r=>(castSh e u r).map (p,·)
 |.own p none _ u r=>(castSh e u r).map (p,·)
 |.nal p _ _ _ _ u r=>(castSh e u r).map (p,·)
 |.nil=>some (false,[])
 |_=>Option.none
def fX:Leaf->Option Nat
 |.ro _ _ _ r=>some r.length
 |.own _ _ _ _ r=>some r.length
 |.nal _ _ _ _ _ _ r=>some r.length
 |.nil=>some 0
 |.hdr n=>some n
 |_=>Option.none
def aZ (st:St):(a:Ty)->List Leaf->Option (Bool×a.den×List Leaf)
 |.int k,r=>match r with
  |.int z n::r=>if k=z then some (false,(n:Int),r) else Option.none
  |_=>Option.none
 |.bool,r=>match r with
  |.bool b::r=>some (false,b,r)
  |_=>Option.none
 |.str,r=>match r with
  |.str s::r=>some (false,s,r)
  |_=>Option.none
 |.unit,r=>some (false,(),r)
 |.hdr,r=>match r with
  |l::r=>match fX (aD st l) with
   |some n=>some (false,(n:Nat),r)
   |Option.none=>Option.none
  |_=>Option.none
 |.pair a b,r=>match aZ st a r with
  |some (p,x,r)=>match aZ st b r with
   |some (q,y,r)=>some (p||q,(x,y),r)
   |Option.none=>Option.none
  |Option.none=>Option.none
 |.list _ _ e,r=>match r with
  |l::r=>match dg e (aD st l) with
   |some (p,u)=>some (p,u,r)
   |Option.none=>Option.none
  |_=>Option.none
def cO (st:St)(a:Ty)(ls:List Leaf):Option (Bool×a.den) :=
 match aZ st a ls with
 |some (p,x,[])=>some (p,x)
 |_=>Option.none
structure cK (α:Type) where
 p:Bool
 val:α
 frz:List (Nat×Nat)
 kill:List (Nat×Nat)
 rest:List Leaf
def bt (st:St):List Leaf->List (Nat×Nat)
 |[]=>[]
 |.al r j v::u=>(match aD st (.al r j v) with|.own _ _ _ _ _=>[(r,j)]|_=>[])++bt st u
 |.nal p z ep y E e H::u=>(match aD st (.nal p z ep y E e H) with|.nal _ _ _ _ _ _ _=>z.map (λk=>(k.1,k.2.1))|_=>[])++bt st u
 |_::u=>bt st u
def b7 (st:St):List Leaf->List (Nat×Nat)
 |[]=>[]
 |.al r j v::u=>(match aD st (.al r j v) with|.own _ _ _ _ _=>[(r,j)]|_=>[])++b7 st u
 |_::u=>b7 st u
def take (st : St) : (a : Ty) -> List Leaf -> Option (cK a.den)
  |.int k,u=>(aZ st (.int k) u).map λx=>⟨false,x.2.1,[],[],x.2.2⟩
  |.bool,u=>(aZ st .bool u).map λx=>⟨false,x.2.1,[],[],x.2.2⟩
  |.str,u=>(aZ st .str u).map λx=>⟨false,x.2.1,[],[],x.2.2⟩
  |.unit,u=>some ⟨false,(),[],[],u⟩
  |.hdr,u=>(aZ st .hdr u).map λx=>⟨false,x.2.1,[],[],x.2.2⟩
  |.pair a b,u=>match take st a u with
    |some x=>match take st b x.rest with
      |some y=>some ⟨x.p||y.p,(x.val,y.val),x.frz++y.frz,x.kill++y.kill,y.rest⟩
      |Option.none=>Option.none
    |Option.none=>Option.none
  |.list m E e,u=>match u with
    |[]=>Option.none
    |l::u=>bif m then (match l with
        |.al r j v=>match aD st (.al r j v) with
          |.own p none H I z=>(lE E e H I z).map λz=>⟨p,z,[],[(r,j)],u⟩
          |_=>Option.none
        |.nil=>some ⟨false,([]:List e.den),[],[],u⟩
        |_=>Option.none)
      else match dg e (aD st l) with
        |some (p,z)=>some ⟨p,z,bt st [l],[],u⟩
        |Option.none=>Option.none
def ch (st:St)(a:Ty)(ls:List Leaf):Option (cK a.den) :=
 match take st a ls with
 |some ⟨p,x,f,k,[]⟩=>some ⟨p,x,f,k,[]⟩
 |_=>Option.none
def c8 (st:St)(off n:Nat):(a:Ty)->Nat->a.den->List Leaf->Option (cK a.den)
 |.pair a b,pos,x,r=>match c8 st off n a pos x.1 r with
  |some u=>match c8 st off n b (pos+a.cells) x.2 u.rest with
   |some v=>some ⟨u.p||v.p,(u.val,v.val),u.frz++v.frz,u.kill++v.kill,v.rest⟩
   |Option.none=>Option.none
  |Option.none=>Option.none
 |.int k,pos,x,r=>bif Bt off pos&&Bp pos (off+n) then take st (.int k) r else some ⟨false,x,[],[],r⟩
 |.bool,pos,x,r=>bif Bt off pos&&Bp pos (off+n) then take st .bool r else some ⟨false,x,[],[],r⟩
 |.str,pos,x,r=>bif Bt off pos&&Bp pos (off+n) then take st .str r else some ⟨false,x,[],[],r⟩
 |.unit,_,x,r=>some ⟨false,x,[],[],r⟩
 |.hdr,_,_,_=>Option.none
 |.list m E e,pos,x,r=>bif Bt off pos&&Bp pos (off+n) then take st (.list m E e) r else some ⟨false,x,[],[],r⟩
def bL (off:Nat)(E:TypeId)(e:Ty)(r:List e.den):(a:Ty)->Nat->a.den->Option a.den
 |.pair a b,pos,x=>match bL off E e r a pos x.1 with
  |some u=>some (u,x.2)
  |Option.none=>(bL off E e r b (pos+a.cells) x.2).map λv=>(x.1,v)
 |.list m y z,pos,_=>bif m&&BA pos off then lE y z E e r else Option.none
 |.int _,_,_|.bool,_,_|.str,_,_|.unit,_,_|.hdr,_,_=>Option.none
def aw:List Leaf->List Nat
 |[]=>[]
 |.al r _ _::u=>r::aw u
 |.ep r _ _ _ _ _::u=>r::aw u
 |.nal _ y _ _ _ _ _::u=>EPO::y.map (·.1)++aw u
 |.np _ y _ _ _ _::u=>EPO::y.map (·.1)++aw u
 |_::u=>aw u
def aS (ls:List Leaf)(j:Nat)(l:Leaf):List Leaf:=ls.set j l
def fY (c:bS)(j:Nat):bS:=⟨c.ver,c.sh,aS c.ls j .dead⟩
def aM (st:St):List (Nat×Nat)->Upd
 |[]=>[]
 |(r,j)::u=>let U:=aM st u;let c:=ac U st r;(r,fY c j)::U
def uz:Leaf->Leaf
 |.own p none E e r=>.ro p E e r
 |.own _ (some _) _ _ _=>.dead
 |l=>l
def fT (c:bS)(j:Nat):bS:=⟨c.ver,c.sh,aS c.ls j (uz (c.ls.getD j .dead))⟩
def aE (st:St):List (Nat×Nat)->Upd
 |[]=>[]
 |(r,j)::u=>let U:=aE st u;let c:=ac U st r;(r,fT c j)::U
def bU (c:bS):bS:=⟨c.ver+1,c.sh,c.ls⟩
def epoU (st:St):Upd:=[(EPO,bU (st EPO))]
def dx (st:St):List Leaf->List (Nat×Nat)
 |[]=>[]
 |.nal p u ep none E e y::r=>(match aD st (.nal p u ep none E e y) with|.nal _ _ _ _ _ _ _=>u.map (λk=>(k.1,k.2.1))|_=>[])++dx st r
 |_::r=>dx st r
def ge (st:St)(l:Leaf):Leaf:=match aD st l with
 |.nal p _ _ none E e r=>.ro p E e r
 |l=>l
def dG (st:St)(ls:List Leaf):List Leaf:=ls.map (ge st)
def mvU (st:St)(ls:List Leaf):Upd:=let U:=aE st (dx st ls);aM (ac U st) (b7 st ls)++U
def aX:List (Nat×Nat)->Bool
 |[]=>true
 |x::r=>!(r.any λy=>BA x.1 y.1&&BA x.2 y.2)&&aX r
def it (a b:Nat×Nat):Bool:=BA a.1 b.1&&BA a.2 b.2
def dC (a b:List (Nat×Nat)):Bool:=!(a.any λk=>b.any (it k))
def hM (st:St)(ls:List Leaf):Bool:=aX (b7 st ls)&&dC (dx st ls) (b7 st ls)
def sf (st:St):Operand->Bool
 |.tmp q=>BA (st q).ver 7
 |_=>false
def idx {α:Type}(xs:List α)(i:Int):Option α:=if i<0 then Option.none else xs[i.toNat]?
def jr (u r:List Leaf)(off:Nat):List Leaf:=u.take off++r++u.drop (off+r.length)
def sg (r:BinOp)(k:IntKind)(x y:Int):Option Leaf :=
 match r with
 |.add=>some (.int k (k.wrap (x+y)))
 |.sub=>some (.int k (k.wrap (x-y)))
 |.mul=>some (.int k (k.wrap (x*y)))
 |.eql=>some (.bool (x==y))
 |.neq=>some (.bool (x != y))
 |.lss=>some (.bool (decide (x<y)))
 |.leq=>some (.bool (decide (x<=y)))
 |.gtr=>some (.bool (decide (x>y)))
 |.geq=>some (.bool (decide (x>=y)))
 |_=>Option.none
def bc (off:Nat):(a:Ty)->Nat->a.den->Option ((E:TypeId)×(e:Ty)×List e.den)
 |.pair a b,pos,x=>match bc off a pos x.1 with
  |some u=>some u
  |Option.none=>bc off b (pos+a.cells) x.2
 |.list m E e,pos,r=>bif m&&BA pos off then some ⟨E,e,r⟩ else Option.none
 |.int _,_,_|.bool,_,_|.str,_,_|.unit,_,_|.hdr,_,_=>Option.none
def cl (st:St):Leaf->Option (Upd×Leaf)
  |.nal p J ep H E e X=>bif bj st J ep then (match J,H with
      | [(r, j, _)], some (i, M, off) => (match (st r).ls.getD j .dead with
        |.own I none O z u=>bif !BA r TMP&&!BA r EPO&&BA M z.cells then
            (match u[i]? with
            |some y=>match bc off z 0 y with
              |some ⟨E,e,R⟩=>some ([(r,⟨(st r).ver,(st r).sh,aS (st r).ls j (.own I (some (i,off)) O z u)⟩),(TMP,⟨(st TMP).ver+1,.one,[.own (I&&z.shy) none E e R]⟩),(EPO,bU (st EPO))],.al TMP 0 ((st TMP).ver+1))
              |Option.none=>Option.none
            |Option.none=>Option.none)
          else Option.none
        |_=>Option.none)
      |_,_=>Option.none)
    else Option.none
  |_=>Option.none
def jj:Leaf->Bool
 |.nal _ _ _ _ _ _ _=>true
 |_=>false
inductive PK where
 |rd (a:Ty)
 |own (a:Ty)
 |io (a:Ty)
 |rref (a:Ty)
 |rref2 (a:Ty)
 |iop (a:Ty)
 |fn (As:List Ty) (B:Ty)
 |clo (f:FuncId) (cs:List (Bool×Ty))
 |hol (a:Ty) (c off:Nat)
 deriving DecidableEq
inductive RK where
 |v (a:Ty)
 |bv (a:Ty)
 |box (a:Ty)
 deriving DecidableEq
abbrev lF:List (Bool×Ty)->Type
 |[]=>Unit
 |c::r=>c.2.den×lF r
abbrev PK.den:PK->Type
 |.rd a|.own a|.io a|.rref a|.rref2 a|.iop a=>a.den
 |.fn u B=>Tup u->Option B.den
 |.clo _ r=>lF r
 |.hol a _ _=>a.den×Nat
abbrev ab:List PK->Type
 |[]=>Unit
 |p::r=>p.den×ab r
abbrev ah:List PK->Type
 |[]=>Unit
 |.io a::r=>a.den×ah r
 |.iop a::r=>a.den×ah r
 |_::r=>ah r
abbrev RK.den:RK->Type
 |.v a|.bv a|.box a=>a.den
abbrev ai:List RK->Type
 |[]=>Unit
 |r::u=>r.den×ai u
structure Ctr where
 f:FuncId
 ps:List PK
 rs:List RK
 fresh:Bool
 den:ab ps->Option (ai rs×ah ps)
def Ty.isAgg:Ty->Bool
 |.pair _ _|.unit=>true
 |_=>false
def target (st:St):Leaf->Option (List Leaf)
 |.bp b 0=>bif decide ((st b).sh=.agg) then some (bD b (st b).ver 0 (st b).ls) else none
 |.rp p a x 0=>some (cJ p a x)
 |.rpp p a x=>some [.rp p a x 0]
 |_=>none
structure Got (α:Type) where
 p:Bool
 val:α
 frz:List (Nat×Nat)
 kill:List (Nat×Nat)
 see:List Nat
 lend:List Nat
def Got.ofRd {α:Type}(r:List Nat)(x:Bool×α)(frz:List (Nat×Nat)):Got α:=⟨x.1,x.2,frz,[],r,[]⟩
def lG (Γ:List Ctr)(f:FuncId):Option Ctr:=match Γ with
 |[]=>none
 |c::r=>bif BA c.f f then some c else lG r f
def cm (x:aG×List Leaf):Leaf :=
 match x with
 |(.one,[l])=>l
 |_=>.dead
def fb:List Leaf->List Nat
 |[]=>[]
 |.bp b _::r=>b::fb r
 |_::r=>fb r
def fe (st:St)(c:Bool×Ty)(l:Leaf):Option (Got c.2.den) :=
 bif c.1 then (match target st l with
  |some [u]=>match target st u with
   |some r=>(cO st c.2 r).map λy=>.ofRd (fb [l,u]) y (bt st r)
   |none=>none
  |_=>none)
 else match target st l with
  |some r=>(cO st c.2 r).map λy=>.ofRd (fb [l]) y (bt st r)
  |none=>none
def cA (st:St):(cs:List (Bool×Ty))->List Leaf->Option (Got (lF cs))
 |[],[]=>some ⟨false,(),[],[],[],[]⟩
 |c::cs,l::r=>match fe st c l with
  |some g=>match cA st cs r with
   |some h=>some ⟨g.p||h.p,(g.val,h.val),g.frz++h.frz,[],g.see++h.see,[]⟩
   |none=>none
  |none=>none
 |_,_=>none
def eL (c:Bool×Bool×(a:Ty)×a.den):Leaf:=bif c.2.1 then .rpp c.1 c.2.2.1 c.2.2.2 else .rp c.1 c.2.2.1 c.2.2.2 0
def be (st : St) : (pk : PK) -> aG × List Leaf -> Option (Got pk.den)
  |.rd a,x=>bif decide (x.1=bf a.isAgg) then (cO st a x.2).map λy=>.ofRd [] y (bt st x.2) else none
  |.own a,x=>bif decide (x.1=bf a.isAgg) then (ch st a x.2).map λt=>⟨t.p,t.val,t.frz,t.kill,[],[]⟩ else none
  |.io a,x=>bif decide (x.1=bf a.isAgg) then (ch st a x.2).map λt=>⟨t.p,t.val,t.frz,t.kill,[],[]⟩ else none
  |.rref a,x=>fe st (false,a) (cm x)
  |.rref2 a,x=>fe st (true,a) (cm x)
  |.iop a,x=>match cm x with
    |.bp b 0=>bif decide ((st b).sh=.agg) then (ch st a (bD b (st b).ver 0 (st b).ls)).map λt=>⟨t.p,t.val,t.frz,t.kill,[],[b]⟩ else none
    |_=>none
  |.fn J B,x=>match cm x with
    |.fn z R M=>if h:z=J/\R=B then some ⟨false,(h.1 ▸ h.2 ▸ M:Tup J->Option B.den),[],[],[],[]⟩ else none
    |_=>none
  |.clo f I,x=>match cm x with
    |.clo H u=>bif BA H f then cA st I (u.map λb=>.bp b 0) else none
    |.clr H u=>bif BA H f then cA st I (u.map eL) else none
    |_=>none
  |.hol a c off,x=>bif decide (x.1=bf a.isAgg) then (match x.2.getD c .dead with
      |.al r j v=>(match aD st (.al r j v) with
        |.own p (some (i,o)) E e O=>bif BA o off then (match ch st a (aS x.2 c .nil) with
            |some t=>(match bL c E e O a 0 t.val with
              |some y=>some ⟨p||t.p,(y,i),t.frz,(r,j)::t.kill,[],[]⟩
              |none=>none)
            |none=>none) else none
        |_=>none)
      |_=>none) else none
def a7 (ga:(pk:PK)->aG×List Leaf->Option (Got pk.den)):(ps:List PK)->List (aG×List Leaf)->Option (Got (ab ps))
 |[],[]=>some ⟨false,(),[],[],[],[]⟩
 |p::ps,x::r=>match ga p x with
  |some g=>match a7 ga ps r with
   |some h=>some ⟨g.p||h.p,(g.val,h.val),g.frz++h.frz,g.kill++h.kill,g.see++h.see,g.lend++h.lend⟩
   |none=>none
  |none=>none
 |_,_=>none
def uA (st:St):(ps:List PK)->List (aG×List Leaf)->Option (Got (ab ps)):=a7 (be st)
def b8 (st:St):List Leaf->List Leaf->Upd
 |.al r j _::u,l::y=>let U:=b8 st u y;(match l with|.own p h E e ys=>let c:=ac U st r;[(r,⟨c.ver,c.sh,aS c.ls j (.own p h E e ys)⟩),(EPO,bU (ac U st EPO))]|_=>[])++U
 |_::u,_::y=>b8 st u y
 |_,_=>[]
def aF (st:St)(p:Bool):(ps:List PK)->List (aG×List Leaf)->ah ps->Upd
 |[],_,_=>[]
 |.io a::ps,x::r,o=>let U:=aF st p ps r o.2;b8 (ac U st) x.2 (aq p a o.1)++U
 |.iop a::ps,x::r,o=>let U:=aF st p ps r o.2;(match cm x with
  |.bp b _=>let c:=ac U st b;[(b,⟨c.ver+2,.agg,aq p a o.1⟩)]
  |_=>[])++U
 |.rd _::ps,_::r,o=>aF st p ps r o
 |.own _::ps,_::r,o=>aF st p ps r o
 |.rref _::ps,_::r,o=>aF st p ps r o
 |.rref2 _::ps,_::r,o=>aF st p ps r o
 |.fn _ _::ps,_::r,o=>aF st p ps r o
 |.clo _ _::ps,_::r,o=>aF st p ps r o
 |.hol _ _ _::ps,_::r,o=>aF st p ps r o
 |_::_,[],_=>[]
def pm (d v:Nat)(p q:Bool)(ks:List (Nat×Nat×Nat))(ep:Nat):(r:RK)->r.den->(Bool×List Leaf)×Upd
 |.v a,y=>((a.isAgg,aq p a y),[])
 |.bv a,y=>((a.isAgg,lh q ks ep a y),[])
 |.box a,y=>((false,[.bp (B0+d) 0]),[(B0+d,⟨v+1,.agg,aq p a y⟩)])
def bB (d v:Nat)(p q:Bool)(ks:List (Nat×Nat×Nat))(ep:Nat):(u:List RK)->ai u->List (Bool×List Leaf)×Upd
 |[],_=>([],[])
 |r::u,y=>let a:=pm d v p q ks ep r y.1;let b:=bB d v p q ks ep u y.2;(a.1::b.1,a.2++b.2)
def eM (r:Nat)(l:List (Bool×List Leaf)):bS :=
 match l with
 |[(agg,u)]=>⟨r,bf agg,u⟩
 |l=>⟨r,.tup (l.map λx=>(x.1,x.2.length)),(l.map (·.2)).flatten⟩
def ck (st:St)(U:Upd)(d:Nat)(sh:aG)(ls:List Leaf):Upd:=(d,⟨(ac U st d).ver+1,sh,ls⟩)::U
def PK.reads:PK->Bool
 |.rd _|.rref _|.rref2 _=>true
 |_=>false
def nC (caps:List PK)(z:ab caps):(r:List Ty)->Tup r->ab (r.map .rd++caps)
 |[],_=>z
 |_::as,x=>(x.1,nC caps z as x.2)
def rU (st:St)(u:List Ty)(B:Ty)(ls:List Leaf)(ps:List PK)(H:List RK)(r:Bool)(z:ab ps->Option (ai H×ah ps))(q:List PK):Option (Got (Tup u->Option B.den)) :=
 if h:ps=u.map .rd++q/\H=[.v B] then
  bif q.all PK.reads&&B.flat&&r then
   match uA st q (ls.map λl=>(.one,[l])) with
   |some g=>some ⟨g.p,λx=>(z (h.1 ▸ nC _ g.val u x)).map λy=>(h.2 ▸ y.1:ai [.v B]).1,g.frz,[],g.see,[]⟩
   |none=>none
  else none
 else none
def kt (Γ:List Ctr)(st:St)(r:List Ty)(B:Ty)(f:FuncId)(ls:List Leaf):Option (Got (Tup r->Option B.den)) :=
 match lG Γ f with
 |some c=>rU st r B ls c.ps c.rs c.fresh c.den (c.ps.drop r.length)
 |none=>none
def vj:Leaf->Option (FuncId×List Leaf)
 |.clo f r=>some (f,r.map λb=>.bp b 0)
 |.clr f r=>some (f,r.map eL)
 |_=>none
def cd (Γ:List Ctr)(st:St):(pk:PK)->aG×List Leaf->Option (Got pk.den)
 |.fn r B,x=>match vj (cm x) with
  |some u=>kt Γ st r B u.1 u.2
  |none=>be st (.fn r B) x
 |.rd a,x=>be st (.rd a) x
 |.own a,x=>be st (.own a) x
 |.io a,x=>be st (.io a) x
 |.rref a,x=>be st (.rref a) x
 |.rref2 a,x=>be st (.rref2 a) x
 |.iop a,x=>be st (.iop a) x
 |.clo f y,x=>be st (.clo f y) x
 |.hol a c off,x=>be st (.hol a c off) x
def oG (Γ:List Ctr)(st:St):(ps:List PK)->List (aG×List Leaf)->Option (Got (ab ps)):=a7 (cd Γ st)
def PK.takes:PK->Bool
 |.own _|.io _=>true
 |_=>false
def PK.isIo:PK->Bool
 |.io _=>true
 |_=>false
def pn:Ty->Nat->Bool
 |.pair a b,j=>bif Bp j a.cells then pn a j else pn b (j-a.cells)
 |.list m _ _,j=>m&&BA j 0
 |_,_=>false
def lk (a:Ty):Nat->List Leaf->Option Nat
 |_,[]=>none
 |j,l::r=>bif jj l&&pn a j then some j else lk a (j+1) r
def PK.nest:PK->List Leaf->Option Nat
 |.own a,r=>lk a 0 r
 |.io a,r=>lk a 0 r
 |_,_=>none
def j0:Leaf->Nat×Nat
 |.nal _ ((r,j,_)::_) _ _ _ _ _=>(r,j)
 |_=>(0,0)
def cW (st:St):List PK->List (aG×List Leaf)->Option (Upd×List (aG×List Leaf)×Option (Bool×Nat×Nat))
 |p::y,x::r=>match p.nest x.2 with
  |some k=>(cl st (x.2.getD k .dead)).map λu=>(u.1,(x.1,aS x.2 k u.2)::r,some (p.isIo,j0 (x.2.getD k .dead)))
  |none=>(cW st y r).map λu=>(u.1,x::u.2.1,u.2.2)
 |_,r=>some ([],r,none)
section
variable {R:Type}
def lH (st : St) (l : Leaf) (O : Upd -> Leaf -> Option R) : Option R :=
  match l with
  |.nal _ J ep H _ _ _=>bif bj st J ep then (match J,H with
      | [(r, j, _)], some (i, M, off) => (match (st r).ls.getD j .dead with
        |.own I none X z u=>bif !BA r TMP&&!BA r EPO&&BA M z.cells then
            (idx u (i:Int)).bind λy=>match bc off z 0 y with
              |some ⟨E,e,Y⟩=>O [(r,⟨(st r).ver,(st r).sh,aS (st r).ls j (.own I (some (i,off)) X z u)⟩),(TMP,⟨(st TMP).ver+1,.one,[.own (I&&z.shy) none E e Y]⟩),(EPO,bU (st EPO))] (.al TMP 0 ((st TMP).ver+1))
              |Option.none=>Option.none
          else Option.none
        |_=>Option.none)
      |_,_=>Option.none)
    else Option.none
  |_=>Option.none
def ku (st:St):List PK->List (aG×List Leaf)->(Upd->List (aG×List Leaf)->Option (Bool×Nat×Nat)->Option R)->Option R
 |p::z,x::r,u=>match p.nest x.2 with
  |some k=>lH st (x.2.getD k .dead) λU l=>u U ((x.1,aS x.2 k l)::r) (some (p.isIo,j0 (x.2.getD k .dead)))
  |none=>ku st z r λU y b=>u U (x::y) b
 |_,r,u=>u [] r none
def iI (st:St):(u:List Ty)->List (aG×List Leaf)->Option (Tup u)
 |[],[]=>some ()
 |a::as,x::r=>bif decide (x.1=bf a.isAgg) then match cO st a x.2 with
   |some (_,y)=>(iI st as r).map (y,·)
   |none=>none
  else none
 |_,_=>none
def RK.isV:RK->Bool
 |.v _|.bv _=>true
 |.box _=>false
def RK.isBv:RK->Bool
 |.bv _=>true
 |_=>false
def gD (st:St)(d:Nat):List RK->Bool
 |[.box _]=>decide ((st (B0+d)).sh=.off)
 |rs=>rs.all RK.isV
def oH (b:Option (Bool×Nat×Nat))(frz kill:List (Nat×Nat))(d:Nat):Bool :=
 match b with
 |some (true,r,j)=>!(kill.any (it (r,j)))&&!(frz.any (it (r,j)))&&!BA r d&&!BA r (B0+d)
 |_=>true
def jN (st:St)(b:Option (Bool×Nat×Nat))(U:Upd)(u:Upd->Option R):Option R :=
 match b with
 |some (true,r,j) =>
  match (ac U st r).ls.getD j .dead,(ac U st TMP).ls with
  |.own p (some (i,off)) J I H,[.own q none E e M]=>(idx H (i:Int)).bind λy=>match bL off E e M I 0 y with
   |some z=>u ((r,⟨(ac U st r).ver,(ac U st r).sh,aS (ac U st r).ls j (.own (p||q) none J I (H.set i z))⟩)::(TMP,⟨(ac U st TMP).ver+1,.off,[]⟩)::(EPO,bU (ac U st EPO))::U)
   |none=>none
  |_,_=>none
 |_=>u U
def jk (Γ:List Ctr)(st:St)(d:Nat)(f:FuncId)(xs:List (aG×List Leaf))(J:Upd->Option R):Option R :=
 match lG Γ f with
 |some c=>ku st c.ps xs λu xs b =>
  match oG Γ (ac u st) c.ps xs with
  |some g=>bif aX g.kill&&dC g.frz g.kill&&gD st d c.rs&&!(g.see.any λq=>g.lend.any (BA q))&&Bt g.lend.length 1&&(g.lend.isEmpty||!(c.ps.any PK.isIo))&&((c.fresh&&g.lend.isEmpty)||!(c.rs.any RK.isBv))&&(g.kill.all λk=>!BA k.1 EPO)&&oH b g.frz g.kill d then
   (c.den g.val).bind λy =>
    let H:=(let U:=(bif c.fresh then [] else aE (ac u st) g.frz);aM (ac U (ac u st)) g.kill++U)++u;let z:=aF (ac H st) (g.p&&!c.fresh) c.ps xs y.2++H;let r:=bB d (ac z st (B0+d)).ver (g.p&&!c.fresh) g.p (g.frz.map λk=>(k.1,k.2,(ac z st k.1).ver)) (ac z st EPO).ver c.rs y.1;let I:=r.2++z
    jN st b ((d,eM ((ac I st d).ver+1) r.1)::I) J
   else none
  |none=>none
 |none=>none
def an:Nat:=140737488355328
def fK (st:St)(E:TypeId)(e:Ty)(y:Leaf):Option (cK (List e.den)) :=
 bif e.flat then (dg e (aD st y)).map λx=>⟨false,x.2,[],[],[]⟩
 else bif decide (e.sh=e) then (dg e (aD st y)).map λx=>⟨x.1,x.2,bt st [y],[],[]⟩
 else (ch st (.list true E e) [y]).map λt=>⟨t.p,t.val,t.frz,t.kill,[]⟩
def dU (st u:St)(H:Upd)(d:Nat)(E:TypeId)(e:Ty)(r:Nat)(p:Bool)(xs:List e.den)(ks:List (Nat×Nat))(y:Leaf)(z:Upd->Option R):Option R :=
 match fK u E e y with
 |some t=>bif aX (t.kill++ks)&&dC t.frz (t.kill++ks)&&decide ((xs.length+t.val.length)*r<=an) then
   let U:=aE u t.frz
   z (ck st (aM (ac U u) (t.kill++ks)++U++H) d .one [.own (p||t.p) none E e (xs++t.val)])
  else none
 |none=>none
def eo (st:St)(z:Upd)(d:Nat)(E:TypeId)(e:Ty)(u:Nat)(x y:Leaf)(H:Upd->Option R):Option R :=
 match x with
 |.al r j v=>match aD (ac z st) (.al r j v) with
  |.own p none I J M=>bif BA I E&&decide (J.sh=e.sh) then dU st (ac z st) z d I J u p M [(r,j)] y H else none
  |_=>none
 |.nil=>dU st (ac z st) z d E e u false [] [] y H
 |_=>none
def iu (st:St)(d:Nat)(E:TypeId)(e:Ty)(r:Nat)(x y:Leaf)(u:Upd->Option R):Option R :=
 bif jj x then lH st x λz x=>eo st z d E e r x y u else eo st [] d E e r x y u
def dh (st:St)(x:Option Operand)(r:Int):Option Int :=
 match x with
 |none=>some r
 |some l=>match one st l with
  |.int _ n=>some n
  |_=>none
def ff (st:St)(r:List (Nat×Nat×Bool)):List (Nat×Operand)->List Leaf->Option (List Leaf)
 |[],u=>some u
 |(i,x)::y,u=>match r[i]? with
  |some (off,n,agg)=>bif BA (au st x).2.length n&&decide ((au st x).1=bf agg)&&decide (off+n<=u.length) then ff st r y (jr u (au st x).2 off) else none
  |none=>none
def ew (st:St)(e:Ty):Nat->List (Nat×Operand)->Option (cK (List e.den))
  |_,[]=>some ⟨false,[],[],[],[]⟩
  |k,(i,x)::r=>bif BA i k&&decide ((au st x).1=bf e.isAgg) then
      match ch st e (au st x).2,ew st e (k+1) r with
      |some t,some u=>some ⟨t.p||u.p,t.val::u.val,t.frz++u.frz,t.kill++u.kill,[]⟩
      |_,_=>none
    else none
def fw (st:St)(e:Ty):Nat->List Leaf->Option (List e.den)
 |0,_=>some []
 |n+1,r=>match cO st e (r.take e.cells),fw st e n (r.drop e.cells) with
  |some (_,x),some u=>some (x::u)
  |_,_=>none
def si (st:St)(xs:List Operand):Option (List Nat) :=
 xs.foldl (λ (r:Option (List Nat)) x=>r.bind λl=>match one st x with
  |.bp b 0=>some (l++[b])
  |_=>none) (some [])
def wrU (o:Oper)(st:St)(r:Upd->Option R)(sh:aG)(ls:List Leaf):Option R:=match o.dst with
 |some d=>r (ck st [] d sh ls)
 |none=>none
def cP (h:Option (Nat×Nat))(i:Nat):Option Nat:=match h with
 |some (r,u)=>bif BA r i then some u else none
 |none=>none
def holB (h:Option (Nat×Nat))(i:Nat):Option (Bool×Nat):=match h with
 |some (r,u)=>some (BA r i,u)
 |none=>none
theorem lI (p:Bool)(r j v ep i u:Nat)(h:Option (Nat×Nat))(n:Nat):∀ (a:Ty) (off:Nat) (x:a.den),li p r j v ep i u (holB h n) a off x=gC p r j v ep i u (cP h n) a off x
 |.int _,_,_|.bool,_,_|.str,_,_|.unit,_,_|.hdr,_,_=>rfl
 |.pair a b,off,x=>by
  show _++_=_++_;rw[lI p r j v ep i u h n a,lI p r j v ep i u h n b]
 |.list m E e,off,H=>by
  simp only[li,gC];congr 2;cases h with
  |none=>rfl
  |some q =>
   obtain⟨z,I⟩:=q;simp only[holB,cP];by_cases y:BA z n=true
   ·simp only[y,Bool.and_true,cond_true,BH];rw[Bool.eq_iff_iff,Nat.beq_eq,decide_eq_true_eq]
   ·simp only[CJ]at y;simp[y]
def gE (st:St)(r j i off:Nat)(n:Nat)(p:Bool)(E:TypeId)(e:Ty)(xs:List e.den)(h:Option (Nat×Nat))(ls:List Leaf)(M:Upd->Option R):Option R :=
 (idx xs (i:Int)).bind λy =>
  match c8 st off n e 0 y ls with
  |some t=>bif t.rest.isEmpty&&aX t.kill&&dC t.frz t.kill&&!((t.kill++t.frz).any λk=>BA k.1 r) then
    let I:=aE st t.frz;let J:=aM (ac I st) t.kill++I;let u (l:Leaf):Option R:=M ((r,⟨(st r).ver,(st r).sh,aS (st r).ls j l⟩)::(EPO,bU (ac J st EPO))::J)
    match h with
    |none=>u (.own (p||t.p) none E e (xs.set i t.val))
    |some (H,z)=>bif Bt off z&&Bp z (off+n) then (bif BA i H then u (.own (p||t.p) none E e (xs.set i t.val)) else none)
     else u (.own (p||t.p) (some (H,z)) E e (xs.set i t.val))
   else none
  |none=>none
def rV (r:Nat):Bool:=!BA r TMP&&!BA r EPO
def eq (s:ByteArray):List Int:=s.data.toList.map λb=>(b.toNat:Int)
def gF (xs:List Int):ByteArray:=ByteArray.mk (xs.map λn=>UInt8.ofNat n.toNat).toArray
def act (Γ:List Ctr)(T:TypeId->TI)(o:Oper)(st:St)(M:Upd->Option R):Option R :=
 let w (sh:aG) (ls:List Leaf):Option R:=wrU o st M sh ls;let w1 (l:Leaf):Option R:=w .one [l]
 match o.op with
 |.move x=>let v:=au st x;w v.1 v.2
 |.assign x=>match o.dst with
  |some d=>let v:=au st x;bif hM st v.2 then M (ck st (mvU st v.2) d v.1 (dG st v.2)) else none
  |none=>none
 |.pick c a b=>match one st c with
  |.bool t=>bif t then (let v:=au st a;w v.1 v.2) else (let v:=au st b;w v.1 v.2)
  |_=>none
 |.alloc t=>match o.dst with
  |some d=>bif decide ((st (B0+d)).sh=.off)&&!decide ((T t).cells=0) then M ((B0+d,⟨(st (B0+d)).ver+1,.agg,(T t).zero⟩)::ck st [] d .one [.bp (B0+d) 0]) else none
  |none=>none
 |.box t x=>match o.dst with
  |some d=>let v:=au st x
   bif decide ((st (B0+d)).sh=.off)&&decide (v.2.length=(T t).cells)&&decide (v.1=bf (T t).agg)&&hM st v.2 then
    (bif sf st x then M ((B0+d,⟨(st (B0+d)).ver+1,.agg,v.2⟩)::ck st [] d .one [.bp (B0+d) 0])
    else (let U:=mvU st v.2
     M ((B0+d,⟨(ac U st (B0+d)).ver+1,.agg,dG st v.2⟩)::ck st U d .one [.bp (B0+d) 0])))
   else none
  |none=>none
 |.build t H=>match T t with
  |.struct a J=>match ff st J H.toList (eQ a) with
   |some ls=>w .agg ls
   |none=>none
  |.arr e n=>match ff st ((Bo n).map λi=>(i*e.cells,e.cells,e.isAgg)) H.toList (BR n (eQ e)).flatten with
   |some ls=>w .agg ls
   |none=>none
  |_=>none
 |.buildSlice t n H=>match T t with
  |.slice E e _=>match ew st e 0 H.toList with
   |some u=>bif BA u.val.length n&&decide (n*e.cells<=16777216)&&aX u.kill&&dC u.frz u.kill then (match o.dst with
     |some d=>let U:=aE st u.frz;M (ck st (aM (ac U st) u.kill++U) d .one [.own u.p none E e u.val])
     |none=>none) else none
   |none=>none
  |_=>none
 |.load t x =>
  bif decide ((T t).cells=0) then none else
  match one st x with
  |.rp p a y off=>bif decide (off+(T t).cells<=a.cells) then w (bf (T t).agg) (((cJ p a y).drop off).take (T t).cells) else none
  |.bp b off=>bif decide ((st b).sh=.agg)&&decide (off+(T t).cells<=(st b).ls.length) then w (bf (T t).agg) (((bD b (st b).ver 0 (st b).ls).drop off).take (T t).cells) else none
  |.rpp p a y=>bif BA (T t).cells 1&&!(T t).agg then w1 (.rp p a y 0) else none
  |.np p Y ep a y off=>bif bj st Y ep&&decide (off+(T t).cells<=a.cells) then w (bf (T t).agg) (((lh p Y ep a y).drop off).take (T t).cells) else none
  |.ep r j v i sz off=>match aD st (.al r j v) with
   |.own p h _ e z=>bif BA sz e.cells&&decide (off+(T t).cells<=e.cells) then (idx z (i:Int)).bind λy=>w (bf (T t).agg) (((li p r j v (st EPO).ver i sz (holB h i) e 0 y).drop off).take (T t).cells) else none
   |_=>none
  |_=>none
 |.store t x y=>match o.dst with
  |some _=>none
  |none =>
  let v:=(au st y).2
  bif BA v.length (T t).cells&&decide ((au st y).1=bf (T t).agg)&&!decide ((T t).cells=0) then
   match one st x with
   |.bp b off=>bif decide ((st b).sh=.agg)&&decide (off+v.length<=(st b).ls.length)&&hM st v then
     let U:=mvU st v;let c:=ac U st b
     M ((b,⟨c.ver+1,.agg,jr c.ls (dG st v) off⟩)::U)
    else none
   |.ep r j a0 i sz off=>match aD st (.al r j a0) with
    |.own p h E e z=>bif BA sz e.cells&&decide (off+v.length<=e.cells)&&rV r then gE st r j i off v.length p E e z h v M else none
    |_=>none
   |_=>none
  else none
 |.nilCheck x=>match one st x with
  |.rp p a y off=>w1 (.rp p a y off)
  |.bp b off=>w1 (.bp b off)
  |.ep r j v i sz off=>bif BA (st r).ver v then w1 (.ep r j v i sz off) else none
  |.rpp p a y=>w1 (.rpp p a y)
  |.np p Y ep a y off=>bif bj st Y ep then w1 (.np p Y ep a y off) else none
  |_=>none
 |.binOp op t x y _=>match one st x,one st y with
  |.int k a,.int k' b =>
   match op with
   |.shl=>bif decide (b<0) then none else w1 (.int k (k.wrap (a*2 ^ (min b.toNat k.bits))))
   |.shr=>bif decide (b<0) then none else w1 (.int k (a.fdiv (2 ^ (min b.toNat k.bits))))
   |.quo=>bif decide (b=0) then none else bif decide (k=k') then w1 (.int k (k.wrap (a.tdiv b))) else none
   |.rem=>bif decide (b=0) then none else bif decide (k=k') then w1 (.int k (a.tmod b)) else none
   |.and=>bif decide (k=k') then w1 (.int k (k.wrap ((BitVec.ofInt k.bits a &&& BitVec.ofInt k.bits b).toNat))) else none
   |.xor=>bif decide (k=k') then w1 (.int k (k.wrap ((BitVec.ofInt k.bits a ^^^ BitVec.ofInt k.bits b).toNat))) else none
   |_=>bif decide (k=k') then (match sg op k a b with|some l=>w1 l|none=>none) else none
  |.bool a,.bool b=>match T t with
   |.bool=>match op with
    |.eql=>w1 (.bool (a==b))
    |.neq=>w1 (.bool (a != b))
    |_=>none
   |_=>none
  |.str a,.str b=>match op with
   |.eql=>w1 (.bool (a.toList==b.toList))
   |.neq=>w1 (.bool (a.toList != b.toList))
   |.add=>bif decide (a.size+b.size<=9223372036854775807) then w1 (.str (a++b)) else none
   |_=>none
  |_,_=>match T t with
   |.struct a _=>bif a.flat&&decide ((au st x).1=.agg)&&decide ((au st y).1=.agg) then
     match cO st a (au st x).2,cO st a (au st y).2 with
     |some (_,u),some (_,v)=>match op with
      |.eql=>w1 (.bool (a.eqv u v))
      |.neq=>w1 (.bool (!a.eqv u v))
      |_=>none
     |_,_=>none
    else none
   |_=>none
 |.unOp op _ x=>match op,one st x with
  |.not,.bool b=>w1 (.bool (!b))
  |.neg,.int k n=>w1 (.int k (k.wrap (0-n)))
  |_,_=>none
 |.convert s t x=>match T s,T t,one st x with
  |.int _,.int k,.int _ n=>w1 (.int k (k.wrap n))
  |.slice _ (.int .u8) _,.str,l=>match dg (.int .u8) (aD st l) with
   |some (_,z)=>w1 (.str (gF z))
   |none=>none
  |.str,.slice E (.int .u8) _,.str s=>bif BA E 5 then w1 (.own false none E (.int .u8) (eq s)) else none
  |_,_,_=>none
 |.makeSlice t n c=>match T t,one st n,one st c with
  |.slice E e X,.int _ a,.int _ b =>
   bif decide (0<=a)&&decide (a=b)&&decide (a*X<=an) then w1 (.own false none E e (BR a.toNat e.zero)) else none
  |_,_,_=>none
 |.slice t x lo hi mx=>match mx,o.dst with
  |none,some d=>match dh st lo 0 with
   |none=>none
   |some i=>match T t,aD st (one st x) with
    |.str,.str s=>(match dh st hi s.size with
     |some h=>bif decide (0<=i)&&decide (i<=h)&&decide (h<=(s.size:Int)) then M (ck st [] d .one [.str (s.extract i.toNat h.toNat)]) else none
     |none=>none)
    |.slice _ O _,.nal p Y ep _ E e z=>(match dh st hi z.length with
     |some h=>bif decide (0<=i)&&decide (i<=h)&&decide (h<=(z.length:Int))&&BA O.cells e.cells then
       M (ck st [] d .one [.nal p Y ep none E e ((z.take h.toNat).drop i.toNat)]) else none
     |none=>none)
    |.slice _ O _,.ro p E e z=>(match dh st hi z.length with
     |some h=>bif decide (0<=i)&&decide (i<=h)&&decide (h<=(z.length:Int))&&BA O.cells e.cells then
       M (ck st [] d .one [.ro p E e ((z.take h.toNat).drop i.toNat)]) else none
     |none=>none)
    |.slice _ O _,.own p none E e z=>(match dh st hi z.length with
     |some h=>bif decide (0<=i)&&decide (i<=h)&&decide (h<=(z.length:Int))&&BA O.cells e.cells then
       (match one st x with
       |.al r j v=>M (ck st [] d .one [.nal p [(r,j,v)] (st EPO).ver none E e ((z.take h.toNat).drop i.toNat)])
       |_=>none) else none
     |none=>none)
    |_,_=>none
  |some m,some d=>match lo,T t,one st x with
   |none,.slice _ O _,.al r j v=>(match aD st (.al r j v) with
    |.own p none E e z=>(match dh st hi z.length,dh st (some m) 0 with
     |some h,some k=>bif hi.isSome&&decide (h=(z.length:Int))&&decide (k=(z.length:Int))&&BA O.cells e.cells then M (ck st (aM st [(r,j)]) d .one [.own p none E e z]) else none
     |_,_=>none)
    |_=>none)
   |_,_,_=>none
  |_,_=>none
 |.fieldAddr t x f=>match T t with
  |.struct _ J=>match J[f]? with
   |some (off,_,_)=>match one st x with
    |.rp p a y o'=>w1 (.rp p a y (o'+off))
    |.bp b o'=>w1 (.bp b (o'+off))
    |.ep r j v i sz o'=>bif BA (st r).ver v then w1 (.ep r j v i sz (o'+off)) else none
    |.np p Y ep a y o'=>bif bj st Y ep then w1 (.np p Y ep a y (o'+off)) else none
    |_=>none
   |none=>none
  |_=>none
 |.field t x f=>match T t with
  |.struct a J=>match J[f]? with
   |some (off,n,agg)=>bif decide ((au st x).1=.agg)&&decide ((au st x).2.length=a.cells) then w (bf agg) (((au st x).2.drop off).take n) else none
   |none=>none
  |_=>none
 |.indexAddr t x i=>match one st i with
  |.int _ n=>match T t with
   |.arr e Z=>match one st x with
    |.bp b off=>bif decide (0<=n)&&decide (n<(Z:Int)) then w1 (.bp b (off+n.toNat*e.cells)) else none
    |_=>none
   |.slice _ e _=>match one st x with
    |.al r j v=>match aD st (.al r j v) with
     |.own _ _ _ O z=>bif BA O.cells e.cells then (idx z n).bind λ_=>w1 (.ep r j v n.toNat O.cells 0) else none
     |_=>none
    |.ro p _ O z=>bif BA O.cells e.cells then (idx z n).bind λy=>w1 (.rp p O y 0) else none
    |.nal p Y ep _ _ O z=>bif BA O.cells e.cells&&bj st Y ep then (idx z n).bind λy=>w1 (.np p Y ep O y 0) else none
    |_=>none
   |_=>none
  |_=>none
 |.index t x i=>match one st i with
  |.int _ n=>match T t with
   |.str=>match one st x with
    |.str s=>(idx s.data.toList n).bind λy=>w1 (.int .u8 y.toNat)
    |_=>none
   |.arr e Z=>bif e.flat&&decide ((au st x).1=.agg)&&BA (au st x).2.length (Z*e.cells)&&!BA e.cells 0 then (match fw st e Z (au st x).2 with
     |some vs=>(idx vs n).bind λy=>w (bf e.isAgg) (cJ false e y)
     |none=>none) else none
   |_=>none
  |_=>none
 |.extract x i=>match au st x with
  |(.tup ps,ls)=>match ps[i]? with
   |some (agg,n)=>w (bf agg) ((ls.drop ((ps.take i).foldl (λa b=>a+b.2) 0)).take n)
   |none=>none
  |_=>none
 |.makeFunc (.func f) first I=>bif BA first.size 0 then
   match si st I.toList with
   |some l=>w1 (.clo f l)
   |none=>none
  else none
 |.call c=>match o.dst with
  |none=>none
  |some d=>match c.callee with
   |.value f =>
    let z:=c.args.toList.map (au st)
    match one st f with
    |.clo g I=>jk Γ st d g (z++I.map λb=>(.one,[.bp b 0])) M
    |.clr g I=>jk Γ st d g (z++I.map λc=>(.one,[eL c])) M
    |.fn As B φ=>bif B.flat then match iI st As z with
      |some x=>(φ x).bind λy=>w (bf B.isAgg) (aq false B y)
      |none=>none
     else none
    |_=>none
   |.builtin .len=>match c.args.toList with
    |[x]=>match c.argTypes.toList with
     |[t]=>match T t,aD st (one st x) with
      |.slice _ _ _,l=>(match fX l with
       |some n=>w1 (.int .i64 n)
       |none=>none)
      |.str,.str s=>w1 (.int .i64 s.size)
      |_,_=>none
     |_=>none
    |_=>none
   |.builtin .append=>match c.args.toList,c.argTypes.toList with
    |[x,y],[t,u]=>match T t with
     |.slice E e X=>bif BA t u then iu st d E e X (one st x) (one st y) M else none
     |_=>none
    |_,_=>none
   |.builtin .min=>match c.args.toList with
    |[x,y]=>match one st x,one st y with
     |.int k a,.int _ b=>w1 (.int k (bif decide (b<a) then b else a))
     |_,_=>none
    |_=>none
   |.builtin .max=>match c.args.toList with
    |[x,y]=>match one st x,one st y with
     |.int k a,.int _ b=>w1 (.int k (bif decide (a<b) then b else a))
     |_,_=>none
    |_=>none
   |_=>none
 |_=>none
def ay:List Leaf->List Nat
 |[]=>[]
 |.al r _ _::u=>r::ay u
 |.ep r _ _ _ _ _::u=>EPO::r::ay u
 |.nal _ z _ _ _ _ _::u=>EPO::z.map (·.1)++ay u
 |.np _ z _ _ _ _::u=>EPO::z.map (·.1)++ay u
 |.bp b _::u=>b::ay u
 |.clo _ y::u=>y++ay u
 |_::u=>ay u
def iv (xs:List Operand):List Nat :=
 match xs with
 |[]=>[]
 |.tmp t::xs=>t::iv xs
 |_::xs=>iv xs
def kv (st:St)(r:List Nat):List Nat :=
 let a:=r.flatMap λt=>ay (st t).ls
 let b:=a.flatMap λt=>ay (st t).ls
 let c:=b.flatMap λt=>ay (st t).ls
 r++a++b++c
def cn (st:St)(u:Op):List Nat :=
 let r:=iv u.operands.toList
 match u with
 |.move _|.pick _ _ _|.build _ _|.field _ _ _|.extract _ _|.makeFunc _ _ _|.unOp _ _ _|.makeSlice _ _ _|.alloc _=>r
 |.slice _ _ _ _ _=>EPO::(r++r.flatMap λt=>aw (st t).ls)
 |.assign _|.box _ _|.buildSlice _ _ _|.indexAddr _ _ _|.nilCheck _|.fieldAddr _ _ _|.convert _ _ _|.binOp _ _ _ _ _|.index _ _ _=>r++r.flatMap λt=>aw (st t).ls
 |.load _ _|.store _ _ _=>r++r.flatMap λt=>ay (st t).ls
 |.call c=>match c.callee with
  |.builtin _=>TMP::(r++r.flatMap λt=>aw (st t).ls)
  |_=>TMP::EPO::kv st r
 |_=>kv st r
def ze (o:Oper):List Nat:=match o.dst with
 |some d=>[d,B0+d]
 |none=>[]
def eR (st:St)(u:Op):List Nat :=
 let r:=iv u.operands.toList
 match u with
 |.move _=>r
 |.indexAddr _ _ _=>r++r.flatMap λt=>aw (st t).ls
 |_=>[]
def fg (st:St)(o:Oper):List Nat:=(match o.op with|.move _|.indexAddr _ _ _=>[]|op=>cn st op)++ze o
def dZ (st:St)(o:Oper):List Nat:=match o.op with
 |.store _ x _=>match one st x with
  |.ep r _ _ _ _ _=>[r]
  |_=>[]
 |_=>[]
structure cL where
 rd:List Nat
 hd:List Nat
 wr:List Nat
 cw:List Nat
def lJ (a b:List Nat):Bool:=a.any λx=>b.any λy=>BA x y
def cL.apart (x y:cL):Bool:=!lJ (x.wr++x.cw) (y.wr++y.cw)&&!lJ (x.wr++x.cw) y.rd&&!lJ x.rd (y.wr++y.cw)&&!lJ x.wr y.hd&&!lJ x.hd y.wr
def jD:List Oper->List Nat->List Nat
 |[],r=>r
 |o::u,r=>jD u (r++[o.after.toList.foldl (λs e=>bif Region.binds .any e then s ||| 2 ^ e.on ||| r.getD e.on 0 else s) 0])
def po (r:List Nat)(u:List cL):Bool :=
 (Bo u.length).all λj=>(Bo j).all λi =>
  (r.getD j 0).testBit i||(match u[i]?,u[j]? with
   |some x,some y=>x.apart y
   |_,_=>false)
def lit (st:St)(t:Nat)(b:Bool):St:=ac [(t,⟨(st t).ver,.one,[.bool b]⟩)] st
def eE (st:St)(o:Oper):Upd :=
 match o.dst with
 |some d=>[(d,⟨(st d).ver+1,.und,[]⟩)]
 |none=>[]
def opK (Γ:List Ctr)(T:TypeId->TI)(y:Array Oper)(o:Oper)(st:St)(H:St->cL->Option R):Option R :=
 let z (st:St) (r:List Nat):Option R:=act Γ T o st (λU=>H (ac U st) ⟨r++fg st o,eR st o.op,(U.map (·.1)).filter (λq=>!((dZ st o).any (BA q))),dZ st o⟩);let no (st:St) (r:List Nat):Option R:=H (ac (eE st o) st) ⟨r,[],o.dst.toList,[]⟩
 match o.guard with
 |none=>z st []
 |some (j,u)=>match (y[j]?).bind (·.dst) with
  |some t=>match (st t).sh,(st t).ls with
   |.one,[.bool b]=>bif b then (bif u then z (lit st t true) [t] else no (lit st t true) [t]) else (bif u then no (lit st t false) [t] else z (lit st t false) [t])
   |.und,_=>no st [t]
   |_,_=>none
  |none=>none
def qi (Γ:List Ctr)(T:TypeId->TI)(r:Array Oper):List Oper->St->List cL->(St->List cL->Option R)->Option R
 |[],y,H,I=>I y H
 |o::u,y,H,I=>opK Γ T r o y (λz t=>qi Γ T r u z (H++[t]) I)
def nD (ops:Array Oper):Bool:=(Bo ops.size).all λi=>match ops[i]? with
 |some o=>o.after.toList.all λe=>!Region.binds .any e||decide (e.on<i)
 |none=>true
def regK (Γ:List Ctr)(T:TypeId->TI)(ops:Array Oper)(u:Bool)(st:St)(y:St->Option R):Option R :=
 bif u then
  qi Γ T ops ops.toList st [] (λr z=>bif nD ops&&po (jD ops.toList []) z then y r else none)
 else qi Γ T ops ops.toList st [] (λr _=>y r)
inductive Ex where
 |normal|exit (id:Nat)|ret
def qj (y:St->(Ex->St->Option R)->Option R)(u:Ex->St->Option R):Ex->St->Option R
 |.normal,r=>y r u
 |e,r=>u e r
def sj (id:Nat)(y:Ex->St->Option R):Ex->St->Option R
 |.exit r,u=>bif BA r id then y .normal u else y (.exit r) u
 |e,u=>y e u
def av (L:List (Nat×bS)):St:=λq=>ac L (λ_=>bS.none) q
inductive Coe where
 |keep|kill
 |own (p:Bool) (E:TypeId) (e:Ty)|ro (p:Bool) (E:TypeId) (e:Ty)|rp (p:Bool)
def br (st:St)(live:List Nat):Coe->Leaf->Leaf
 |.kill,_=>.dead
 |.own p E e,.nil=>.own p none E e []
 |.own p _ _,.own q none E e y=>bif !q||p then .own p none E e y else .dead
 |.ro p E e,.nil=>.ro p E e []
 |.ro p E e,.ro q _ z y=>bif !q||p then (match castSh e z y with | some H=>.ro p E e H | none=>.dead) else .dead
 |.ro p E e,.own q none _ z y=>bif !q||p then (match castSh e z y with | some H=>.ro p E e H | none=>.dead) else .dead
 |.rp p,.rpp q a x=>bif !q||p then .rpp p a x else .dead
 |.rp p,.rp q a x off=>bif !q||p then .rp p a x off else .dead
 |.keep,.int k n=>.int k n
 |.keep,.bool b=>.bool b
 |.keep,.str s=>.str s
 |.keep,.nil=>.nil
 |.keep,.hdr n=>.hdr n
 |.keep,.fn J B M=>.fn J B M
 |.keep,.clr f I=>.clr f I
 |.keep,.bp b off=>bif live.any (BA b) then .bp b off else .dead
 |.keep,.clo f u=>bif u.all (λb=>live.any (BA b)) then .clo f u else .dead
 |.keep,.al r j v=>bif live.any (BA r)&&BA (st r).ver v then .al r j 0 else .dead
 |_,_=>.dead
def cX (st:St)(live:List Nat):List Coe->List Leaf->List Leaf
 |c::u,l::r=>br st live c l::cX st live u r
 |[],_::r=>.dead::cX st live [] r
 |_,[]=>[]
def lK (live:List (Nat×List Coe))(st:St):St:=av (live.map λr=>(r.1,⟨0,(st r.1).sh,cX st (live.map (·.1)) r.2 (st r.1).ls⟩))
def gG (live:List (Nat×List Coe))(rec:St->Option R)(u:Ex->St->Option R):Ex->St->Option R
 |.normal,r=>rec (lK live r)
 |e,r=>u e r
def aV (live:List (Nat×List Coe))(u:St->(Ex->St->Option R)->Option R):Nat->St->(Ex->St->Option R)->Option R
 |0,_,_=>none
 |k+1,z,y=>u z (gG live (λr=>aV live u k r y) y)
def eN:Code->Nat
 |.region id _ _=>id+1
 |.seq a b=>match eN a with
  |0=>eN b
  |n=>n
 |.cond _ a b=>match eN a with
  |0=>eN b
  |n=>n
 |.block _ c=>eN c
 |.loop c=>eN c
 |.scope c=>eN c
 |_=>0
def ll (L:List (Nat×List (Nat×List Coe)))(k:Nat):List (Nat×List Coe):=match L with
 |[]=>[]
 |(n,l)::r=>bif BA n k then l else ll r k
def zf (st:St)(c:Operand)(r no:St->Option R):Option R :=
 match c with
 |.tmp t=>match (st t).sh,(st t).ls with
  |.one,[.bool b]=>bif b then r (lit st t true) else no (lit st t false)
  |_,_=>none
 |.const (.bool b)=>bif b then r st else no st
 |_=>none
def evK (Γ:List Ctr)(T:TypeId->TI)(L:List (Nat×List (Nat×List Coe)))(r:Nat):Code->St->(Ex->St->Option R)->Option R
 |.skip,u,z=>z .normal u
 |.region _ I H,u,z=>regK Γ T I H u (z .normal)
 |.seq a b,u,z=>evK Γ T L r a u (qj (evK Γ T L r b) z)
 |.cond c x y,u,z=>zf u c (λu=>evK Γ T L r x u z) (λu=>evK Γ T L r y u z)
 |.block id c,u,z=>evK Γ T L r c u (sj id z)
 |.loop c,u,z=>aV (ll L (eN c)) (evK Γ T L r c) r (lK (ll L (eN c)) u) z
 |.exit id,u,z=>z (.exit id) u
 |.ret,u,z=>z .ret u
 |_,_,_=>none
def sub:Code->List Nat->Code
 |.seq a _,0::p=>sub a p
 |.seq _ b,1::p=>sub b p
 |.cond _ x _,0::p=>sub x p
 |.cond _ _ y,1::p=>sub y p
 |.block _ c,0::p=>sub c p
 |.loop c,0::p=>sub c p
 |c,_=>c
def kAt (u:Code->St->(Ex->St->Option R)->Option R):Code->List Nat->(Ex->St->Option R)->Ex->St->Option R
 |.seq a b,0::p,r=>kAt u a p (qj (u b) r)
 |.seq _ b,1::p,r=>kAt u b p r
 |.cond _ x _,0::p,r=>kAt u x p r
 |.cond _ _ y,1::p,r=>kAt u y p r
 |.block id c,0::p,r=>kAt u c p (sj id r)
 |_,_,r=>r
def cM (fn:Func):Code:=match fn.body with
 |some c=>c
 |none=>.skip
def ae {A:Type}(step:(A->Option R)->A->Option R):Nat->A->Option R
 |0,_=>none
 |k+1,a=>step (ae step k) a
theorem kP {A:Type}(live:List (Nat×List Coe))(r:St->(Ex->St->Option R)->Option R)(u:Ex->St->Option R)(S:A->St)
  (step:(A->Option R)->A->Option R) (h:∀ (rec:St->Option R) (a:A),r (S a) (gG live rec u)=step (λa=>rec (S a)) a) :
  ∀ (k:Nat) (a:A),aV live r k (S a) u=ae step k a
 |0,_=>rfl
 |k+1,a=>by
  have y:=kP live r u S step h k;simp only[aV,ae];rw[h];exact congrArg (λg=>step g a) (funext y)
abbrev wr (k:IntKind)(n:Int):Int:=k.wrap n
def bA (k:IntKind)(a b:Int):Int:=k.wrap ((BitVec.ofInt k.bits a &&& BitVec.ofInt k.bits b).toNat)
def qk (k:IntKind)(a b:Int):Int:=k.wrap ((BitVec.ofInt k.bits a ^^^ BitVec.ofInt k.bits b).toNat)
def jO (p:Bool):(cs:List (Bool×Ty))->lF cs->List (Bool×Bool×(a:Ty)×a.den)
 |[],_=>[]
 |c::cs,x=>(p,c.1,⟨c.2,x.1⟩)::jO p cs x.2
def uB (i off:Nat):Leaf->Leaf
 |.own p _ E e r=>.own p (some (i,off)) E e r
 |l=>l
def di (t:Nat):(ps:List PK)->ab ps->Upd
 |[],_=>[]
 |.rd a::ps,x=>(t,⟨0,bf a.isAgg,cJ true a x.1⟩)::di (t+1) ps x.2
 |.own a::ps,x=>(t,⟨0,bf a.isAgg,aq true a x.1⟩)::di (t+1) ps x.2
 |.io a::ps,x=>(t,⟨7,bf a.isAgg,aq true a x.1⟩)::di (t+1) ps x.2
 |.rref a::ps,x=>(t,⟨0,.one,[.rp true a x.1 0]⟩)::di (t+1) ps x.2
 |.rref2 a::ps,x=>(t,⟨0,.one,[.rpp true a x.1]⟩)::di (t+1) ps x.2
 |.iop a::ps,x=>(t,⟨0,.one,[.bp (B0+t) 0]⟩)::(B0+t,⟨0,.agg,aq true a x.1⟩)::di (t+1) ps x.2
 |.fn u B::ps,x=>(t,⟨0,.one,[.fn u B x.1]⟩)::di (t+1) ps x.2
 |.clo f r::ps,x=>(t,⟨0,.one,[.clr f (jO true r x.1)]⟩)::di (t+1) ps x.2
 |.hol a c off::ps,x=>(t,⟨0,bf a.isAgg,aS (aq true a x.1.1) c (uB x.1.2 off ((aq true a x.1.1).getD c .dead))⟩)::di (t+1) ps x.2
def hX (st:St)(t:Nat):(ps:List PK)->Option (cK (ah ps))
 |[]=>some ⟨false,(),[],[],[]⟩
 |.io a::ps=>match (bif decide ((au st (.tmp t)).1=bf a.isAgg) then ch st a (au st (.tmp t)).2 else none),hX st (t+1) ps with
  |some x,some y=>some ⟨x.p||y.p,(x.val,y.val),x.frz++y.frz,x.kill++y.kill,[]⟩
  |_,_=>none
 |.iop a::ps=>match ch st a (bD (B0+t) (st (B0+t)).ver 0 (st (B0+t)).ls),hX st (t+1) ps with
  |some x,some y=>some ⟨x.p||y.p,(x.val,y.val),x.frz++y.frz,x.kill++y.kill,[]⟩
  |_,_=>none
 |.rd _::ps=>hX st (t+1) ps
 |.own _::ps=>hX st (t+1) ps
 |.rref _::ps=>hX st (t+1) ps
 |.rref2 _::ps=>hX st (t+1) ps
 |.fn _ _::ps=>hX st (t+1) ps
 |.clo _ _::ps=>hX st (t+1) ps
 |.hol _ _ _::ps=>hX st (t+1) ps
def vk (st:St)(T:TypeId->TI):ResultVar->List Leaf
 |.tmp t=>(au st (.tmp t)).2
 |.cell t r=>match one st (.tmp t) with
  |.bp b off=>((bD b (st b).ver 0 (st b).ls).drop off).take (T r).cells
  |_=>[]
def pq (st:St)(T:TypeId->TI):ResultVar->aG
 |.tmp t=>(au st (.tmp t)).1
 |.cell t r=>match one st (.tmp t) with
  |.bp b off=>bif decide ((st b).sh=.agg)&&Bt (off+(T r).cells) (st b).ls.length&&!BA (T r).cells 0 then bf (T r).agg else .off
  |_=>.off
def RK.sh:RK->aG
 |.v a=>bf a.isAgg
 |.bv a=>bf a.isAgg
 |.box _=>.one
def bE (t:Nat):List PK->List Nat
 |[]=>[]
 |.iop _::r=>(B0+t)::bE (t+1) r
 |_::r=>bE (t+1) r
def gf (t:Nat):List PK->List Nat
 |[]=>[]
 |.io _::r=>t::gf (t+1) r
 |.iop _::r=>t::gf (t+1) r
 |_::r=>gf (t+1) r
def rW (st:St)(z:List Nat):(r:RK)->List Leaf->Option (cK r.den)
 |.v a,u=>ch st a u
 |.bv a,u=>(cO st a u).map λy=>⟨false,y.2,bt st u,[],[]⟩
 |.box a,u=>match u with
  |[.bp b 0]=>bif !(z.any (BA b)) then ch st a (bD b (st b).ver 0 (st b).ls) else none
  |_=>none
def kd (st:St)(T:TypeId->TI)(H:List Nat):(u:List RK)->List ResultVar->Option (cK (ai u))
 |[],[]=>some ⟨false,(),[],[],[]⟩
 |r::u,x::I=>bif decide (pq st T x=r.sh) then match rW st H r (vk st T x),kd st T H u I with
  |some y,some z=>some ⟨y.p||z.p,(y.val,z.val),y.frz++z.frz,y.kill++z.kill,[]⟩
  |_,_=>none else none
 |_,_=>none
def finR (T:TypeId->TI)(ps:List PK)(z:List RK)(r:Bool)(u:List ResultVar)(st:St):Option (ai z×ah ps) :=
 match kd st T (bE 0 ps) z u,hX st 0 ps with
 |some y,some o=>bif aX (y.kill++o.kill)&&dC (y.frz++o.frz) (y.kill++o.kill)&&(!r||!(y.p||o.p)) then some (y.val,o.val) else none
 |_,_=>none
def db (T:TypeId->TI)(ps:List PK)(y:List RK)(r:Bool)(u:List ResultVar):Ex->St->Option (ai y×ah ps)
 |.exit _,_=>none
 |_,z=>finR T ps y r u z
def lm (nt:Nat)(fix:List Nat)(r:Array Oper)(o:Oper):Bool :=
 (match o.dst with
  |some d=>Bp d nt&&!(fix.any (BA d))
  |none=>true) &&
 (match o.guard with
  |some (j,_)=>match (r[j]?).bind (·.dst) with
   |some s=>Bp s nt
   |none=>true
  |none=>true)
def wC (nt:Nat):Operand->Bool
 |.tmp t=>Bp t nt
 |_=>true
def dO (nt:Nat)(fix:List Nat):Code->Bool
 |.region _ r _=>r.toList.all (lm nt fix r)
 |.seq a b=>dO nt fix a&&dO nt fix b
 |.cond c a b=>wC nt c&&dO nt fix a&&dO nt fix b
 |.block _ c=>dO nt fix c
 |.loop c=>dO nt fix c
 |_=>true
def ql:List RK->Bool
 |[.box _]=>true
 |rs=>rs.all RK.isV
def dn (L:List (Nat×List (Nat×List Coe)))(u:List Nat):Code->Bool
 |.seq a b=>dn L u a&&dn L u b
 |.cond _ a b=>dn L u a&&dn L u b
 |.block _ c=>dn L u c
 |.loop c=>(u.all λb=>(ll L (eN c)).any λr=>BA r.1 b)&&dn L u c
 |_=>true
def evF (Γ:List Ctr)(T:TypeId->TI)(L:List (Nat×List (Nat×List Coe)))(u:Nat)(fn:Func)(ps:List PK)(y:List RK)(r:Bool)(x:ab ps):Option (ai y×ah ps) :=
 match fn.body with
 |some c=>bif dO fn.ntmps (gf 0 ps) c&&Bt ps.length fn.ntmps&&Bt fn.ntmps GH&&ql y&&dn L (bE 0 ps) c then
  evK Γ T L u c (av (di 0 ps x)) (db T ps y r fn.results.toList) else none
 |none=>none
end
def fI (e:Ty)(r:Nat)(xs:List e.den):Option ((List e.den×Unit)×Unit):=bif decide ((0+xs.length)*r<=an) then some ((xs,()),()) else none
theorem lL (e:Ty)(r:Nat):fI e r []=some (([],()),()):=by
 unfold fI;simp[an]
def lM:Code->Nat->Oper
 |.region _ r _,i=>(r[i]?).getD ⟨none,.move (.tmp 0),0,"",#[],none⟩
 |_,_=>⟨none,.move (.tmp 0),0,"",#[],none⟩
def fN (e:Ty)(r:Nat)(xs:List e.den)(i:Int)(u:List e.den):Option ((List e.den×Unit)×Unit) :=
 if 0<=i/\i<=(xs.length:Int)/\0<u.length/\(xs.length+u.length)*r<=an then some ((xs.take i.toNat++u++xs.drop i.toNat,()),()) else none
def lN {α:Type}(r:α×Unit->Option Bool):List α->Option (List α)
 |[]=>some []
 |x::y=>(r (x,())).bind λb=>(lN r y).map λu=>bif b then u else x::u
def gH (e:Ty)(xs:List e.den)(r:e.den×Unit->Option Bool):Option ((List e.den×Unit)×Unit):=if xs.length<=1048576 then (lN r xs).map λu=>((u,()),()) else none
abbrev Ty.hd:Ty->Ty
 |.pair a b=>.pair a.hd b.hd
 |.list _ _ _=>.hdr
 |a=>a
abbrev hdD:(a:Ty)->a.den->a.hd.den
 |.pair a b,x=>(hdD a x.1,hdD b x.2)
 |.list _ _ e,r=>List.length (α:=e.den) r
 |.int _,x=>x
 |.bool,x=>x
 |.str,x=>x
 |.unit,x=>x
 |.hdr,x=>x
noncomputable def zt (e:Ty)(r:Nat)(xs:List e.den):Option ((List e.hd.den×Unit)×Unit):=(fI e r xs).map λy=>((y.1.1.map (hdD e),()),())
def insI (n:Int):List Int->List Int
 |[]=>[n]
 |m::r=>if n<=m then n::m::r else m::insI n r
def zg:List Int->List Int
 |[]=>[]
 |n::r=>insI n (zg r)
def medianM (xs:List Int):Option ((Int×Unit)×Unit) :=
 let l:=zg (xs.drop (xs.length-3))
 some ((l.getD ((l.length-1) / 2) 0,()),())
def aU {R:Type}(x y:ByteArray)(k:ByteArray->Option R):Option R:=bif decide (x.size+y.size<=9223372036854775807) then k (x++y) else none
open Go.RowKit
def cU (w:World)(g off:Nat)(cs:List Value):Prop:=∀ i v,cs[i]?=some v->w.cell? ⟨g,off+i,none⟩=some v
theorem cU.same {w w':World}{g off:Nat}{cs:List Value}(h:cU w g off cs)(u:w'.heap[g]?=w.heap[g]?):cU w' g off cs:=by
 intro i v r;have:=h i v r;simpa[CT,u]using this
def Rd (w:World)(G:Nat->Prop):(a:Ty)->a.den->List Value->Prop
 |.int k,n,r=>r=[.int k n]
 |.bool,b,r=>r=[.bool b]
 |.str,s,r=>r=[.string s]
 |.unit,_,r=>r=[]
 |.hdr,n,r=>∃ A u,r=[.slice A n u]
 |.pair a b,x,r=>∃ z H,r=z++H/\Rd w G a x.1 z/\Rd w G b x.2 H
 |.list _ _ e,y,r=>∃ A u,r=[.slice A y.length u]/\y.length<=u /\
  (0<y.length->∃ g o,A=some ⟨g,o,none⟩/\G g/\∀ j (x:e.den),y[j]?=some x->∃ c,Rd w G e x c/\cU w g (o+j*e.cells) c)
theorem Rd.carry {w w':World}{G G':Nat->Prop}(r:∀ k,G k->G' k)(u:∀ k,G k->w'.heap[k]?=w.heap[k]?) :
  ∀ {a:Ty} {x:a.den} {cs:List Value},Rd w G a x cs->Rd w' G' a x cs
 |.int _,_,_,h=>h
 |.bool,_,_,h=>h
 |.str,_,_,h=>h
 |.unit,_,_,h=>h
 |.hdr,_,_,h=>h
 |.pair _ _,_,_,⟨I,c2,e,X,M⟩=>⟨I,c2,e,Rd.carry r u X,Rd.carry r u M⟩
 |.list _ _ _,_,_,⟨A,z,e,hc,h⟩=>⟨A,z,e,hc,λR=>by
   obtain⟨g,o,J,H,O⟩:=h R;exact⟨g,o,J,r g H,λj x Z=>by
    obtain⟨c,Y,y⟩:=O j x Z;exact⟨c,Rd.carry r u Y,y.same (u g H)⟩⟩⟩
theorem Rd.mono {w:World}{G G':Nat->Prop}(r:∀ k,G k->G' k){a:Ty}{x:a.den}{cs:List Value}(h:Rd w G a x cs):Rd w G' a x cs :=
 Rd.carry r (λ_ _=>rfl) h
theorem Rd.len {w:World}{G:Nat->Prop}:∀ {a:Ty} {x:a.den} {cs:List Value},Rd w G a x cs->cs.length=a.cells
 |.int _,_,_,h=>by rw[show _=_ from h];rfl
 |.bool,_,_,h=>by rw[show _=_ from h];rfl
 |.str,_,_,h=>by rw[show _=_ from h];rfl
 |.unit,_,_,h=>by rw[show _=_ from h];rfl
 |.hdr,_,_,⟨A,r,e⟩=>by rw[e];rfl
 |.pair _ _,_,_,⟨z,H,e,u,y⟩=>by rw[e,CB,Rd.len u,Rd.len y];rfl
 |.list _ _ _,_,_,⟨A,r,e,_,_⟩=>by rw[e];rfl
theorem Rd.one {w:World}{G:Nat->Prop}:∀ {a:Ty} {x:a.den} {cs:List Value},Rd w G a x cs->∀ v∈cs,v.oneCell'=true
 |.int _,_,_,h=>by rw[show _=_ from h];simp[BK]
 |.bool,_,_,h=>by rw[show _=_ from h];simp[BK]
 |.str,_,_,h=>by rw[show _=_ from h];simp[BK]
 |.unit,_,_,h=>by rw[show _=_ from h];simp
 |.hdr,_,_,⟨A,u,e⟩=>by rw[e];simp[BK]
 |.pair _ _,_,_,⟨H,I,e,y,z⟩=>by
  rw[e];intro v r;rcases BN.1 r with r|r
  ·exact Rd.one y v r
  ·exact Rd.one z v r
 |.list _ _ _,_,_,⟨A,u,e,_,_⟩=>by rw[e];simp[BK]
theorem Rd.flat {w w':World}{G G':Nat->Prop}:∀ {a:Ty} {x:a.den} {cs:List Value},a.flat=true->Rd w G a x cs->Rd w' G' a x cs
 |.int _,_,_,_,h=>h
 |.bool,_,_,_,h=>h
 |.str,_,_,_,h=>h
 |.unit,_,_,_,h=>h
 |.hdr,_,_,_,h=>h
 |.pair _ _,_,_,r,⟨u,H,e,y,z⟩=>by
  simp only[Ty.flat,BD]at r;exact⟨u,H,e,Rd.flat r.1 y,Rd.flat r.2 z⟩
theorem hY:∀ {a b:Ty},a.sh=b.sh->a.cells=b.cells
 |.pair a b,.pair c d,h=>by
  simp only[Ty.sh,Ty.pair.injEq]at h;simp only[Ty.cells,hY h.1,hY h.2]
 |.int _,.int _,_|.int _,.bool,_|.int _,.str,_|.int _,.hdr,_|.int _,.list _ _ _,_=>rfl
 |.bool,.int _,_|.bool,.bool,_|.bool,.str,_|.bool,.hdr,_|.bool,.list _ _ _,_=>rfl
 |.str,.int _,_|.str,.bool,_|.str,.str,_|.str,.hdr,_|.str,.list _ _ _,_=>rfl
 |.hdr,.int _,_|.hdr,.bool,_|.hdr,.str,_|.hdr,.hdr,_|.hdr,.list _ _ _,_=>rfl
 |.list _ _ _,.int _,_|.list _ _ _,.bool,_|.list _ _ _,.str,_|.list _ _ _,.hdr,_|.list _ _ _,.list _ _ _,_=>rfl
 |.unit,.unit,_=>rfl
theorem sk {A u B r:Type}(z:A=u)(H:B=r){x:A×B}{y:u×r}(h:HEq x y):HEq x.1 y.1/\HEq x.2 y.2:=by
 subst z;subst H;cases h;exact⟨HEq.rfl,HEq.rfl⟩
theorem sl {A r:Type}(z:A=r){xs:List A}{u:List r}(h:HEq xs u):xs.length=u.length/\∀ (j:Nat) (y:r),u[j]?=some y->∃ x:A,xs[j]?=some x/\HEq x y:=by
 subst z;cases h;exact⟨rfl,λj y H=>⟨y,H,HEq.rfl⟩⟩
theorem Rd.flags {w:World}{G:Nat->Prop}:∀ {a b:Ty} {x:a.den} {y:b.den} {cs:List Value},a.sh=b.sh->HEq x y->Rd w G a x cs->Rd w G b y cs
 |.pair a b,.pair c d,x,y,cs,h,r,⟨M,c2,e,u,I⟩=>by
  simp only[Ty.sh,Ty.pair.injEq]at h;obtain⟨H,z⟩:=sk (jq h.1) (jq h.2) r;exact⟨M,c2,e,Rd.flags h.1 H u,Rd.flags h.2 z I⟩
 |.list _ _ e,.list _ _ e',xs,ys,cs,h,r,⟨A,J,u,I,H⟩=>by
  simp only[Ty.sh,Ty.list.injEq,true_and]at h;obtain⟨z,R⟩:=sl (jq h.2) r;refine⟨A,J,by rw[<- z];exact u,by rw[<- z];exact I,λhp=>?_⟩;obtain⟨g,o,O,hg,X⟩:=H (by rw[z];exact hp);refine⟨g,o,O,hg,λj y hj=>?_⟩;obtain⟨x,h6,Y⟩:=R j y hj;obtain⟨c,Z,h9⟩:=X j x h6;rw[<- hY h.2];exact⟨c,Rd.flags h.2 Y Z,h9⟩
 |.int k,.int k',x,y,cs,h,r,u=>by
  simp only[Ty.sh]at h
  grind
 |.bool,.bool,x,y,cs,h,r,u=>by cases r;exact u
 |.str,.str,x,y,cs,h,r,u=>by cases r;exact u
 |.unit,.unit,x,y,cs,h,r,u=>u
 |.hdr,.hdr,x,y,cs,h,r,u=>by cases r;exact u
def Row (w:World)(E:TypeId)(s:Nat)(v:Value)(n:Nat)(flat:List Value):Prop :=
 flat.length=n*s/\((v=.slice none 0 0/\n=0) \/
  ∃ g u r mk,v=.slice (some ⟨g,0,none⟩) n u/\w.heap[g]?=some (.cells r E mk)/\n<=u/\(mk=(0,0)/\u<=maxLen\/E=5/\r.size<=mk.1)/\u*s<=r.size/\r.toList.take (n*s)=flat)
theorem Row.of {w:World}{b:Nat}{E:TypeId}{s n:Nat}{v:Value}{flat:List Value}(h:w.ownsRow b E s v n flat):Row w E s v n flat:=by
 refine⟨h.1,h.2.imp id ?_⟩
 grind
theorem Row.same {w w':World}{E:TypeId}{s n:Nat}{v:Value}{flat:List Value}(h:Row w E s v n flat)(H:∀ k∈v.ownBlock.toList,w'.heap[k]?=w.heap[k]?):Row w' E s v n flat:=by
 refine⟨h.1,?_⟩;rcases h.2 with I|⟨g,y,u,mk,rfl,z,r⟩
 ·grind
 ·exact .inr ⟨g,y,u,mk,rfl,by rw[H g (by simp[BY])];exact z,r⟩
theorem Row.lt {w:World}{E:TypeId}{s n:Nat}{v:Value}{flat:List Value}(h:Row w E s v n flat):∀ k∈v.ownBlock.toList,k<w.heap.size:=by
 intro k r;rcases h.2 with ⟨rfl,_⟩|⟨g,y,u,_,rfl,z,_⟩
 ·simp[BY]at r
 ·simp[BY]at r
  grind
theorem Row.slice {w:World}{E:TypeId}{s n:Nat}{v:Value}{flat:List Value}(h:Row w E s v n flat):∃ A r,v=.slice A n r/\n<=r:=by
 rcases h.2 with ⟨rfl,z⟩|⟨g,r,u,_,rfl,_,y,_⟩
 ·grind
 ·grind
theorem Row.nil (w:World)(E:TypeId)(s:Nat):Row w E s (.slice none 0 0) 0 []:=⟨by simp,.inl ⟨rfl,rfl⟩⟩
theorem Row.cellAt {w:World}{E:TypeId}{s n g z:Nat}{flat:List Value}(h:Row w E s (.slice (some ⟨g,0,none⟩) n z) n flat)(j:Nat)(I:j<n*s):w.cell? ⟨g,j,none⟩=flat[j]?:=by
 rcases h.2 with ⟨y,_⟩|⟨M,H,u,mk,y,J,_,_,_,r⟩
 ·grind
 ·simp at y;obtain⟨rfl,rfl⟩:=y;rw[cell_of_row w g j u E mk J,<- r,BP,if_pos I];simp
theorem zh {mk:Nat×Nat}{E z c:Nat}(h:mk=(0,0)/\c<=maxLen\/E=5/\z<=mk.1):mk.2=0\/z<=mk.1:=h.imp (λh=>by rw[h.1]) (·.2)
theorem qQ {w:World}{g j:Nat}{cs:Array Value}{E:TypeId}{mk:Nat×Nat}(r:w.heap[g]?=some (.cells cs E mk))(u:mk.2=0\/cs.size<=mk.1)(y:j<cs.size):w.frozen? ⟨g,j,none⟩=false:=by
 simp only[World.frozen?,r,Bool.and_eq_false_iff,decide_eq_false_iff_not];omega
def Mx (w:World)(G:Nat->Prop):(a:Ty)->Option Nat->Nat->a.den->List Value->List Nat->Prop
 |.int k,_,_,n,y,r=>y=[.int k n]/\r=[]
 |.bool,_,_,b,y,r=>y=[.bool b]/\r=[]
 |.str,_,_,s,y,r=>y=[.string s]/\r=[]
 |.unit,_,_,_,y,r=>y=[]/\r=[]
 |.hdr,_,_,n,y,r=>(∃ A J,y=[.slice A n J])/\r=[]
 |.pair a b,h,pos,x,y,r=>∃ M R O X,y=M++R/\r=O++X/\Mx w G a h pos x.1 M O/\Mx w G b h (pos+a.cells) x.2 R X
 |.list m E e,h,pos,I,y,r=>∃ v,y=[v]/\v.oneCell'=true /\
  (if m=true then (if h=some pos then r=[] else ∃ z H,Row w E e.cells v I.length z/\r=v.ownBlock.toList++(Bo I.length).flatMap H /\
    ∀ j (x:e.den),I[j]?=some x->∃ c,Mx w G e none 0 x c (H j)/\∀ i u,c[i]?=some u->z[j*e.cells+i]?=some u)
   else r=[]/\Rd w G (.list m E e) I [v])
def OwB (w:World)(G:Nat->Prop)(h:Option (Nat×Nat))(E:TypeId)(e:Ty)(xs:List e.den)(v:Value)(bs:List Nat):Prop :=
 ∃ r y,Row w E e.cells v xs.length r/\bs=v.ownBlock.toList++(Bo xs.length).flatMap y /\
  ∀ j (x:e.den),xs[j]?=some x->∃ c,Mx w G e (cP h j) 0 x c (y j)/\∀ i u,c[i]?=some u->r[j*e.cells+i]?=some u
def OwH (w:World)(G:Nat->Prop)(h:Option (Nat×Nat))(E:TypeId)(e:Ty)(xs:List e.den)(v:Value)(bs:List Nat):Prop:=bs.Nodup/\OwB w G h E e xs v bs
abbrev Ow (w:World)(G:Nat->Prop)(E:TypeId)(e:Ty)(xs:List e.den)(v:Value)(bs:List Nat):Prop:=OwH w G none E e xs v bs
theorem OwB.one {w:World}{G:Nat->Prop}{h:Option (Nat×Nat)}{E:TypeId}{e:Ty}{xs:List e.den}{v:Value}{bs:List Nat}(H:OwB w G h E e xs v bs):v.oneCell'=true:=by
 obtain⟨r,y,u,_⟩:=H;obtain⟨A,z,rfl,_⟩:=u.slice;rfl
theorem bH {w:World}{G:Nat->Prop}{h:Option Nat}{E:TypeId}{e:Ty}{pos:Nat}{xs:List e.den}{cs:List Value}{bs:List Nat}(r:h≠some pos) :
  Mx w G (.list true E e) h pos xs cs bs<->∃ v,cs=[v]/\OwB w G none E e xs v bs:=by
 simp only[Mx,if_neg r];constructor
 ·rintro⟨v,h1,h2,h3⟩;exact⟨v,h1,h3⟩
 ·rintro⟨v,h1,h3⟩;exact⟨v,h1,h3.one,h3⟩
theorem iY {w:World}{G:Nat->Prop}{E:TypeId}{e:Ty}{pos:Nat}{xs:List e.den}{cs:List Value}{bs:List Nat} :
  Mx w G (.list true E e) (some pos) pos xs cs bs<->∃ v,cs=[v]/\v.oneCell'=true/\bs=[]:=by
 simp only[Mx,if_true]
theorem co {w:World}{G:Nat->Prop}{h:Option Nat}{E:TypeId}{e:Ty}{pos:Nat}{xs:List e.den}{cs:List Value}{bs:List Nat} :
  Mx w G (.list false E e) h pos xs cs bs<->bs=[]/\Rd w G (.list false E e) xs cs:=by
 simp only[Mx];constructor
 ·grind
 ·rintro⟨h1,h2⟩;obtain⟨A,r,u,y⟩:=h2;exact⟨_,u,rfl,h1,A,r,rfl,y⟩
theorem dV {n:Nat}{r:Nat->List Nat}{k:Nat}:k∈(Bo n).flatMap r<->∃ j,j<n/\k∈r j:=by simp
theorem Mx.carry {w w':World}{G G':Nat->Prop}(I:∀ k,G k->G' k)(J:∀ k,G k->w'.heap[k]?=w.heap[k]?) :
  ∀ {a:Ty} {h:Option Nat} {pos:Nat} {x:a.den} {cs:List Value} {bs:List Nat},(∀ k∈bs,w'.heap[k]?=w.heap[k]?)->Mx w G a h pos x cs bs->Mx w' G' a h pos x cs bs
 |.int _,_,_,_,_,_,_,h=>h
 |.bool,_,_,_,_,_,_,h=>h
 |.str,_,_,_,_,_,_,h=>h
 |.unit,_,_,_,_,_,_,h=>h
 |.hdr,_,_,_,_,_,_,h=>h
 |.pair _ _,_,_,_,_,_,u,⟨c1,c2,b1,b2,M,R,X,y⟩=>⟨c1,c2,b1,b2,M,R,Mx.carry I J (λk r=>u k (by rw[R];exact BG _ r)) X,Mx.carry I J (λk r=>u k (by rw[R];exact BF _ r)) y⟩
 |.list m E e,h,pos,xs,cs,bs,u,H=>by
  cases m with
  |false =>
   rw[co]at H ⊢;exact⟨H.1,H.2.carry I J⟩
  |true =>
   by_cases Y:h=some pos
   ·subst Y;rw[iY]at H ⊢;exact H
   ·rw[bH Y]at H ⊢;obtain⟨v,M,z,O,X,y,h3⟩:=H;refine⟨v,M,z,O,X.same (λk r=>u k (by rw[y];exact BG _ r)),y,λj x Z=>?_⟩;obtain⟨c,h4,h5⟩:=h3 j x Z;refine⟨c,?_,h5⟩;exact Mx.carry I J (λk r=>u k (by rw[y];exact BF _ (dV.2 ⟨j,(BC.1 Z).1,r⟩))) h4
theorem Mx.mono {w:World}{G G':Nat->Prop}(r:∀ k,G k->G' k){a:Ty}{h:Option Nat}{pos:Nat}{x:a.den}{cs:List Value}{bs:List Nat}(H:Mx w G a h pos x cs bs):Mx w G' a h pos x cs bs :=
 Mx.carry r (λ_ _=>rfl) (λ_ _=>rfl) H
theorem OwB.carry {w w':World}{G G':Nat->Prop}{h:Option (Nat×Nat)}{E:TypeId}{e:Ty}{xs:List e.den}{v:Value}{bs:List Nat}(H:OwB w G h E e xs v bs)
  (O:∀ k,G k->G' k) (Z:∀ k,G k->w'.heap[k]?=w.heap[k]?) (I:∀ k∈bs,w'.heap[k]?=w.heap[k]?):OwB w' G' h E e xs v bs:=by
 obtain⟨r,u,Y,y,M⟩:=H;refine⟨r,u,Y.same (λk z=>I k (by rw[y];exact BG _ z)),y,λj x J=>?_⟩;obtain⟨c,X,R⟩:=M j x J;exact⟨c,Mx.carry O Z (λk z=>I k (by rw[y];exact BF _ (dV.2 ⟨j,(BC.1 J).1,z⟩))) X,R⟩
theorem OwH.carry {w w':World}{G G':Nat->Prop}{h:Option (Nat×Nat)}{E:TypeId}{e:Ty}{xs:List e.den}{v:Value}{bs:List Nat}(H:OwH w G h E e xs v bs)
 (r:∀ k,G k->G' k) (u:∀ k,G k->w'.heap[k]?=w.heap[k]?) (y:∀ k∈bs,w'.heap[k]?=w.heap[k]?):OwH w' G' h E e xs v bs:=⟨H.1,H.2.carry r u y⟩
theorem Mx.len {w:World}{G:Nat->Prop}:∀ {a:Ty} {h:Option Nat} {pos:Nat} {x:a.den} {cs:List Value} {bs:List Nat},Mx w G a h pos x cs bs->cs.length=a.cells
 |.int _,_,_,_,_,_,h=>by rw[h.1];rfl
 |.bool,_,_,_,_,_,h=>by rw[h.1];rfl
 |.str,_,_,_,_,_,h=>by rw[h.1];rfl
 |.unit,_,_,_,_,_,h=>by rw[h.1];rfl
 |.hdr,_,_,_,_,_,⟨⟨A,z,e⟩,_⟩=>by rw[e];rfl
 |.pair _ _,_,_,_,_,_,⟨H,M,J,O,r,I,y,u⟩=>by rw[r,CB,y.len,u.len];rfl
 |.list _ _ _,_,_,_,_,_,⟨v,e,_⟩=>by rw[e];rfl
theorem Mx.one {w:World}{G:Nat->Prop}:∀ {a:Ty} {h:Option Nat} {pos:Nat} {x:a.den} {cs:List Value} {bs:List Nat},Mx w G a h pos x cs bs->∀ v∈cs,v.oneCell'=true
 |.int _,_,_,_,_,_,h=>by rw[h.1];simp[BK]
 |.bool,_,_,_,_,_,h=>by rw[h.1];simp[BK]
 |.str,_,_,_,_,_,h=>by rw[h.1];simp[BK]
 |.unit,_,_,_,_,_,h=>by rw[h.1];simp
 |.hdr,_,_,_,_,_,⟨⟨A,H,e⟩,_⟩=>by rw[e];simp[BK]
 |.pair _ _,_,_,_,_,_,⟨I,O,M,R,y,J,u,z⟩=>by
  rw[y];intro v r;rcases BN.1 r with r|r
  ·exact u.one v r
  ·exact z.one v r
 |.list _ _ _,_,_,_,_,_,⟨v,e,u,_⟩=>by rw[e];simpa using u
theorem Mx.lt {w:World}{G:Nat->Prop}:∀ {a:Ty} {h:Option Nat} {pos:Nat} {x:a.den} {cs:List Value} {bs:List Nat},Mx w G a h pos x cs bs->∀ k∈bs,k<w.heap.size
 |.int _,_,_,_,_,_,h=>by rw[h.2];simp
 |.bool,_,_,_,_,_,h=>by rw[h.2];simp
 |.str,_,_,_,_,_,h=>by rw[h.2];simp
 |.unit,_,_,_,_,_,h=>by rw[h.2];simp
 |.hdr,_,_,_,_,_,h=>by rw[h.2];simp
 |.pair _ _,_,_,_,_,_,⟨Z,c2,b1,b2,J,R,y,u⟩=>by
  rw[R];intro k r;rcases BN.1 r with r|r
  ·exact y.lt k r
  ·exact u.lt k r
 |.list m E e,h,pos,xs,cs,bs,H=>by
  cases m with
  |false=>rw[co]at H;rw[H.1];simp
  |true =>
   by_cases I:h=some pos
   ·subst I;rw[iY]at H
    grind
   ·rw[bH I]at H;obtain⟨v,J,z,O,y,u,M⟩:=H;rw[u];intro k r;rcases BN.1 r with r|r
    ·exact y.lt k r
    ·obtain⟨j,Y,r⟩:=dV.1 r;obtain⟨c,X,_⟩:=M j _ (BE Y);exact X.lt k r
theorem OwB.lt {w:World}{G:Nat->Prop}{h:Option (Nat×Nat)}{E:TypeId}{e:Ty}{xs:List e.den}{v:Value}{bs:List Nat}(H:OwB w G h E e xs v bs):∀ k∈bs,k<w.heap.size:=by
 obtain⟨u,z,M,I,y⟩:=H;rw[I];intro k r;rcases BN.1 r with r|r
 ·exact M.lt k r
 ·obtain⟨j,O,r⟩:=dV.1 r;obtain⟨c,J,_⟩:=y j _ (BE O);exact J.lt k r
theorem OwH.lt {w:World}{G:Nat->Prop}{h:Option (Nat×Nat)}{E:TypeId}{e:Ty}{xs:List e.den}{v:Value}{bs:List Nat}(H:OwH w G h E e xs v bs):∀ k∈bs,k<w.heap.size:=H.2.lt
theorem OwH.nodup {w:World}{G:Nat->Prop}{h:Option (Nat×Nat)}{E:TypeId}{e:Ty}{xs:List e.den}{v:Value}{bs:List Nat}(H:OwH w G h E e xs v bs):bs.Nodup:=H.1
theorem OwH.slice {w:World}{G:Nat->Prop}{h:Option (Nat×Nat)}{E:TypeId}{e:Ty}{xs:List e.den}{v:Value}{bs:List Nat}(H:OwH w G h E e xs v bs) :
  ∃ A r,v=.slice A xs.length r/\xs.length<=r:=by
 obtain⟨_,u,z,y,_⟩:=H;exact y.slice
theorem OwH.one {w:World}{G:Nat->Prop}{h:Option (Nat×Nat)}{E:TypeId}{e:Ty}{xs:List e.den}{v:Value}{bs:List Nat}(H:OwH w G h E e xs v bs):v.oneCell'=true:=H.2.one
theorem sm {w:World}{m:Bool}{E E':TypeId}{e:Ty}{xs:List e.den}{v:Value}{flat:List Value}{S:Nat->Prop}(R:Row w E e.cells v xs.length flat)(J:∀ k∈v.ownBlock.toList,S k)
  (I:∀ j (x:e.den),xs[j]?=some x->∃ c,Rd w S e x c/\∀ i u,c[i]?=some u->flat[j*e.cells+i]?=some u):Rd w S (.list m E' e) xs [v]:=by
 rcases R.2 with ⟨rfl,O⟩|⟨g,z,r,mk,rfl,Z,hc,hm,hs,M⟩
 ·exact⟨none,0,by rw[O],by omega,λhp=>by omega⟩
 ·refine⟨some ⟨g,0,none⟩,z,rfl,hc,λ_=>⟨g,0,rfl,J g (by simp[BY]),λj x Y=>?_⟩⟩;obtain⟨c,X,y⟩:=I j x Y;refine⟨c,X,λi u H=>?_⟩;have:=y i u H;rw[<- M,BP]at this;split at this
  ·rw[CE,cell_of_row w g _ r E mk Z]
   simp_all
  ·grind
theorem Mx.rd {w:World}{G S:Nat->Prop}(y:∀ k,G k->S k):∀ {a:Ty} {pos:Nat} {x:a.den} {cs:List Value} {bs:List Nat},(∀ k∈bs,S k)->Mx w G a none pos x cs bs->Rd w S a x cs
 |.int _,_,_,_,_,_,h=>h.1
 |.bool,_,_,_,_,_,h=>h.1
 |.str,_,_,_,_,_,h=>h.1
 |.unit,_,_,_,_,_,h=>h.1
 |.hdr,_,_,_,_,_,h=>h.1
 |.pair _ _,_,_,_,_,u,⟨Z,c2,b1,b2,I,R,O,z⟩=>⟨Z,c2,I,Mx.rd y (λk r=>u k (by rw[R];exact BG _ r)) O,Mx.rd y (λk r=>u k (by rw[R];exact BF _ r)) z⟩
 |.list m E e,pos,xs,cs,bs,u,H=>by
  cases m with
  |false=>rw[co]at H;exact H.2.mono y
  |true =>
   rw[bH (by simp)]at H;obtain⟨v,I,X,M,O,z,h3⟩:=H;rw[I];refine sm O (λk r=>u k (by rw[z];exact BG _ r)) λj x Y=>?_
   obtain⟨c,h4,h5⟩:=h3 j x Y;have J:Mx w G e none 0 x c (M j):=h4;exact⟨c,Mx.rd y (λk r=>u k (by rw[z];exact BF _ (dV.2 ⟨j,(BC.1 Y).1,r⟩))) J,h5⟩
theorem OwH.rd {w:World}{G:Nat->Prop}{m:Bool}{E E':TypeId}{e:Ty}{xs:List e.den}{v:Value}{bs:List Nat}(H:Ow w G E e xs v bs) :
  Rd w (λk=>G k\/k∈bs) (.list m E' e) xs [v]:=by
 obtain⟨_,I,y,X,z,M⟩:=H;refine sm X (λk r=>.inr (by rw[z];exact BG _ r)) λj x J=>?_
 obtain⟨c,R,O⟩:=M j x J;have u:Mx w G e none 0 x c (y j):=R;exact⟨c,u.rd (λk r=>.inl r) (λk r=>.inr (by rw[z];exact BF _ (dV.2 ⟨j,(BC.1 J).1,r⟩))),O⟩
theorem OwH.nil (w:World)(G:Nat->Prop)(E:TypeId)(e:Ty):Ow w G E e [] (.slice none 0 0) [] :=
 ⟨List.nodup_nil,[],λ_=>[],Row.nil w E e.cells,rfl,λj x r=>by simp at r⟩
theorem Rd.nil (w:World)(G:Nat->Prop)(m:Bool)(E:TypeId)(e:Ty):Rd w G (.list m E e) [] [.slice none 0 0] :=
 ⟨none,0,rfl,BI _,λh=>by simp at h⟩
theorem Mx.flat {w w':World}{G G':Nat->Prop}:∀ {a:Ty} {h:Option Nat} {pos:Nat} {x:a.den} {cs:List Value},a.flat=true->Rd w G a x cs->Mx w' G' a h pos x cs []
 |.int _,_,_,_,_,_,h=>⟨h,rfl⟩
 |.bool,_,_,_,_,_,h=>⟨h,rfl⟩
 |.str,_,_,_,_,_,h=>⟨h,rfl⟩
 |.unit,_,_,_,_,_,h=>⟨h,rfl⟩
 |.hdr,_,_,_,_,_,h=>⟨h,rfl⟩
 |.pair _ _,_,_,_,_,r,⟨u,H,e,y,z⟩=>by
  simp only[Ty.flat,BD]at r;exact⟨u,H,[],[],e,rfl,Mx.flat r.1 y,Mx.flat r.2 z⟩
theorem Mx.shared {w:World}{G:Nat->Prop}:∀ {a:Ty} {h:Option Nat} {pos:Nat} {x:a.den} {cs:List Value},a.sh=a->Rd w G a x cs->Mx w G a h pos x cs []
 |.int _,_,_,_,_,_,h=>⟨h,rfl⟩
 |.bool,_,_,_,_,_,h=>⟨h,rfl⟩
 |.str,_,_,_,_,_,h=>⟨h,rfl⟩
 |.unit,_,_,_,_,_,h=>⟨h,rfl⟩
 |.hdr,_,_,_,_,_,h=>⟨h,rfl⟩
 |.pair _ _,_,_,_,_,r,⟨u,H,e,y,z⟩=>by
  simp only[Ty.sh,Ty.pair.injEq]at r;exact⟨u,H,[],[],e,rfl,Mx.shared r.1 y,Mx.shared r.2 z⟩
 |.list m E e,_,_,_,_,r,h=>by
  simp only[Ty.sh,Ty.list.injEq]at r;obtain⟨rfl,_⟩:=r;exact co.2 ⟨rfl,h⟩
def c9 (agg:Bool)(v:Value)(cs:List Value):Prop:=if agg then v=.agg cs.toArray else cs=[v]
def rX (w:World)(G:Nat->Prop):(y:List Ty)->Tup y->List Value->Prop
 |[],_,u=>u=[]
 |a::as,x,u=>∃ v c r,u=v::r/\c9 a.isAgg v c/\Rd w G a x.1 c/\rX w G as x.2 r
def fO (P:Program)(f:FuncId):Prop:=∀ (r:Array Value) (w:World),(callFunc f r).run P w=.ok (.enter f r) w
def hZ (P:Program)(w0:World)(S:Nat->Prop)(H:List Ty)(B:Ty)(I:Tup H->Option B.den)(v:Value):Prop :=
 ∃ f r,v=.func (.func f) #[] r/\fO P f /\
  ∀ w1:World,w0.heap.size<=w1.heap.size->(∀ k,S k->w1.heap[k]?=w0.heap[k]?) ->
   ∀ (x:Tup H) (z:List Value) (y:B.den),rX w1 (λk=>k<w1.heap.size) H x z->I x=some y ->
    Calls P f (z.toArray++r) w1 (λe w2=>∃ u c,e=.returned u/\c9 B.isAgg u c/\Rd w2 (λ_=>False) B y c/\Below w1.heap.size w1 w2)
structure Env where
 w0:World
 ro0:Nat->Prop
 own0:List Nat
 nt:Nat
 fixb:List (Nat×Nat)
 fixt:List (Nat×Value)
def Env.prot (V:Env)(k:Nat):Prop:=k<V.w0.heap.size/\k∉V.own0
structure Wit where
 β:Nat->Nat
 cs:Nat->List Value
 bs:Nat->Nat->List Nat
 nw:Nat->Prop
def gd (V:Env)(W:Wit)(p:Bool)(k:Nat):Prop:=W.nw k\/(p=true/\V.ro0 k)
def ao:Leaf->Prop
 |.own _ _ _ _ _=>True
 |_=>False
def RpOk (V:Env)(W:Wit)(w:World)(p:Bool)(a:Ty)(x:a.den)(off:Nat)(v:Value):Prop :=
 ∃ g o c,v=.pointer (some ⟨g,o+off,none⟩)/\(W.nw g\/V.prot g)/\Rd w (gd V W p) a x c/\cU w g o c
def rY (V:Env)(W:Wit)(w:World)(p:Bool)(a:Ty)(x:a.den)(v:Value):Prop :=
 ∃ b r g o c,v=.pointer (some ⟨b,r,none⟩)/\(W.nw b\/V.prot b)/\w.cell? ⟨b,r,none⟩=some (.pointer (some ⟨g,o,none⟩)) /\
  (W.nw g\/V.prot g)/\Rd w (gd V W p) a x c/\cU w g o c
def iJ (V:Env)(W:Wit)(w:World)(c:Bool×Bool×(a:Ty)×a.den)(v:Value):Prop :=
 if c.2.1=true then rY V W w c.1 c.2.2.1 c.2.2.2 v else RpOk V W w c.1 c.2.2.1 c.2.2.2 0 v
def rZ (st:St)(ks:List (Nat×Nat×Nat)):Prop:=∀ k∈ks,∃ l,(st k.1).ls[k.2.1]?=some l/\ao l
structure r8 (V:Env) (W:Wit) (w:World) (p:Bool) (ks:List (Nat×Nat×Nat)) (loc:Option (Nat×Nat×Nat)) (E:TypeId) (e:Ty) (xs:List e.den) (v:Value):Prop where
 rd:Rd w (λb=>gd V W p b\/∃ k∈ks,b∈W.bs k.1 k.2.1) (.list false E e) xs [v]
 at_:∀ i sz off,loc=some (i,sz,off)->∃ r j n,ks=[(r,j,n)]/\∃ g len cap,(W.cs r)[j]?=some (.slice (some ⟨g,0,none⟩) len cap)/\i<len/\g∈W.bs r j/\w.cell? ⟨g,i*sz+off,none⟩=some v
structure NpOk (V:Env) (W:Wit) (w:World) (p:Bool) (ks:List (Nat×Nat×Nat)) (a:Ty) (x:a.den) (off:Nat) (v:Value):Prop where
 rd:∃ g o c,v=.pointer (some ⟨g,o+off,none⟩)/\(gd V W p g\/∃ k∈ks,g∈W.bs k.1 k.2.1)/\Rd w (λb=>gd V W p b\/∃ k∈ks,b∈W.bs k.1 k.2.1) a x c/\cU w g o c
def aI (P:Program)(V:Env)(W:Wit)(st:St)(w:World)(bs:List Nat):Leaf->Value->Prop
 |.int k n,v=>v=.int k n
 |.bool b,v=>v=.bool b
 |.str s,v=>v=.string s
 |.nil,v=>v=.slice none 0 0
 |.hdr n,v=>∃ A H,v=.slice A n H
 |.ro p E e J,v=>Rd w (gd V W p) (.list false E e) J [v]
 |.own p h E e J,v=>OwH w (gd V W p) h E e J v bs
 |.al r j n,v=>n<=(st r).ver/\((st r).ver=n->(W.cs r)[j]?=some v)
 |.nal p z ep M E e J,v=>ep<=(st EPO).ver/\(∀ k∈z,k.2.2<=(st k.1).ver)/\((st EPO).ver=ep->(∀ k∈z,(st k.1).ver=k.2.2)->rZ st z->r8 V W w p z M E e J v)
 |.ep r j n i R off,v=>n<=(st r).ver/\((st r).ver=n->∃ g I H,(W.cs r)[j]?=some (.slice (some ⟨g,0,none⟩) I H)/\i<I/\v=.pointer (some ⟨g,i*R+off,none⟩))
 |.np p z ep a x off,v=>ep<=(st EPO).ver/\(∀ k∈z,k.2.2<=(st k.1).ver)/\((st EPO).ver=ep->(∀ k∈z,(st k.1).ver=k.2.2)->rZ st z->NpOk V W w p z a x off v)
 |.rp p a x off,v=>RpOk V W w p a x off v
 |.rpp p a x,v=>rY V W w p a x v
 |.bp b off,v=>B0<=b/\(st b).sh=.agg/\v=.pointer (some ⟨W.β b,off,none⟩)
 |.clo f y,v=>v=.func (.func f) #[] (y.map λb=>Value.pointer (some ⟨W.β b,0,none⟩)).toArray/\∀ b∈y,B0<=b/\(st b).sh=.agg
 |.clr f y,v=>∃ O:List Value,v=.func (.func f) #[] O.toArray/\O.length=y.length/\∀ (i:Nat) (c:Bool×Bool×(a:Ty)×a.den) (u:Value),y[i]?=some c->O[i]?=some u->iJ V W w c u
 |.fn X B Y,v=>hZ P V.w0 V.prot X B Y v
 |.dead,_=>True
def pt:List (Bool×Nat)->List Value->List Value->Prop
 |[],z,y=>z=[]/\y=[]
 |(agg,n)::H,z,y=>∃ v r c u,z=v::r/\y=c++u/\c.length=n/\c9 agg v c/\pt H r u
def ea:aG->Value->List Value->Prop
 |.off,_,r=>r=[]
 |.und,v,r=>v=undef/\r=[]
 |.one,v,r=>r=[v]
 |.agg,v,r=>v=.agg r.toArray
 |.tup y,v,r=>∃ u,v=.tuple u.toArray/\pt y u r
def live (st:St)(b:Nat):Prop:=B0<=b/\(st b).sh=.agg
structure ap (P:Program) (V:Env) (W:Wit) (st:St) (a:Act) (w:World):Prop where
 nt:a.tmps.size=V.nt
 df:a.defers=[]
 slots:∀ t,t<GH->ea (st t).sh (a.tmps.getD t undef) (W.cs t)
 boxes:∀ b,B0<=b->((st b).sh=.off/\(st b).ls=[])\/((st b).sh=.agg/\∃ E,w.heap[W.β b]?=some (.cells (W.cs b).toArray E (0,0)))
 len:∀ r,(st r).ls.length=(W.cs r).length
 one:∀ r,∀ v∈W.cs r,v.oneCell'=true
 leaf:∀ r j l v,(st r).ls[j]?=some l->(W.cs r)[j]?=some v->aI P V W st w (W.bs r j) l v
 ownb:∀ r j l,(st r).ls[j]?=some l->ao l->∀ k∈W.bs r j,¬ W.nw k/\¬ V.prot k/\∀ b,live st b->W.β b≠k
 sep:∀ r j l r' j' l',(st r).ls[j]?=some l->ao l->(st r').ls[j']?=some l'->ao l'->∀ k,k∈W.bs r j->k∈W.bs r' j'->r=r'/\j=j'
 box:∀ b,live st b->¬ W.nw (W.β b)/\¬ V.prot (W.β b)
 inj:∀ b b',live st b->live st b'->W.β b=W.β b'->b=b'
 nwlt:∀ k,W.nw k->k<w.heap.size/\¬ V.prot k
 os:w.os=V.w0.os
 tape:w.tape=V.w0.tape
 output:w.output=V.w0.output
 size:V.w0.heap.size<=w.heap.size
 keep:∀ k,V.prot k->w.heap[k]?=V.w0.heap[k]?
 fixb:∀ x∈V.fixb,live st x.1/\W.β x.1=x.2
 fixt:∀ x∈V.fixt,a.tmps.getD x.1 undef=x.2
def Rel (P:Program)(V:Env)(st:St)(a:Act)(w:World):Prop:=∃ W,ap P V W st a w
structure ax (V:Env):Prop where
 ro:∀ k,V.ro0 k->V.prot k
 nt:V.nt<=GH
theorem ax.ntB {V:Env}(h:ax V):V.nt<=B0:=BL h.nt (by decide)
section
variable {P:Program} {V:Env} {W W':Wit} {st st':St} {w w':World}
theorem bT {p q:Bool}(y:p=true->q=true)(u:∀ k,W.nw k->W'.nw k):∀ k,gd V W p k->gd V W' q k:=by
 intro k r;rcases r with r|⟨z,r⟩
 ·exact .inl (u k r)
 ·exact .inr ⟨y z,r⟩
structure cE (V:Env) (W W':Wit) (st st':St) (w w':World):Prop where
 ver:∀ r,(st r).ver<=(st' r).ver/\((st' r).ver=(st r).ver->W'.cs r=W.cs r)
 box:∀ b,live st b->live st' b/\W'.β b=W.β b
 nw:∀ k,W.nw k->W'.nw k
 heap:∀ k,(W.nw k\/V.prot k)->w'.heap[k]?=w.heap[k]?
 epo:(st' EPO).ver=(st EPO).ver->∀ (r j:Nat) (l:Leaf),(st' r).ls[j]?=some l->ao l->(st' r).ver=(st r).ver ->
  (∃ l',(st r).ls[j]?=some l'/\ao l')/\W'.bs r j=W.bs r j/\∀ k∈W.bs r j,w'.heap[k]?=w.heap[k]?
theorem cE.refl (V:Env)(W:Wit)(st:St)(w:World):cE V W W st st w w :=
 ⟨λ_=>⟨BI _,λ_=>rfl⟩,λ_ y=>⟨y,rfl⟩,λ_ h=>h,λ_ _=>rfl,λ_ _ _ l r u _=>⟨⟨l,r,u⟩,rfl,λ_ _=>rfl⟩⟩
theorem kw {w w':World}{a:Addr}(h:w'.heap[a.block]?=w.heap[a.block]?):w'.cell? a=w.cell? a:=by simp[CT,h]
theorem cE.gdheap (u:∀ k,V.ro0 k->V.prot k)(h:cE V W W' st st' w w')(p:Bool):∀ k,gd V W p k->w'.heap[k]?=w.heap[k]?:=by
 intro k r;rcases r with r|⟨_,r⟩
 ·exact h.heap k (.inl r)
 ·exact h.heap k (.inr (u k r))
theorem wD {ks:List (Nat×Nat×Nat)}{ep:Nat}(u:cE V W W' st st' w w')(H:ep<=(st EPO).ver)(y:∀ k∈ks,k.2.2<=(st k.1).ver)(I:(st' EPO).ver=ep)(z:∀ k∈ks,(st' k.1).ver=k.2.2) :
  (st EPO).ver=ep/\∀ k∈ks,(st k.1).ver=k.2.2 :=
 ⟨by have:=(u.ver EPO).1;omega,λk r=>by have:=(u.ver k.1).1;have:=y k r;have:=z k r;omega⟩
theorem cE.places {ks:List (Nat×Nat×Nat)}{ep:Nat}(I:cE V W W' st st' w w')(J:rZ st' ks)(O:(st EPO).ver=ep)(z:∀ k∈ks,(st k.1).ver=k.2.2)
  (R:(st' EPO).ver=ep) (H:∀ k∈ks,(st' k.1).ver=k.2.2) :
  ∀ k∈ks,(∃ u,(st k.1).ls[k.2.1]?=some u/\ao u)/\W'.bs k.1 k.2.1=W.bs k.1 k.2.1/\∀ b∈W.bs k.1 k.2.1,w'.heap[b]?=w.heap[b]?:=λk r=>by
 obtain⟨l,y,M⟩:=J k r;exact I.epo (by omega) k.1 k.2.1 l y M (by rw[H k r,z k r])
theorem aI.carry (J:∀ k,V.ro0 k->V.prot k){bs bs':List Nat}{l:Leaf}{v:Value}(h:aI P V W st w bs l v)(y:cE V W W' st st' w w')
  (a1:ao l->bs'=bs/\∀ k∈bs,w'.heap[k]?=w.heap[k]?):aI P V W' st' w' bs' l v:=by
 have hG:∀ p k,gd V W p k->gd V W' p k:=λp=>bT (λh=>h) y.nw
 have hP:∀ k,(W.nw k\/V.prot k)->(W'.nw k\/V.prot k):=λk M=>M.imp (y.nw k) id
 have hR:∀ {p:Bool} {a:Ty} {x:a.den} {off:Nat} {v:Value},RpOk V W w p a x off v->RpOk V W' w' p a x off v:=by
  rintro p a x off v ⟨g,o,c,hv,Y,hr,hc⟩;exact⟨g,o,c,hv,hP g Y,Rd.carry (hG p) (y.gdheap J p) hr,hc.same (y.heap g Y)⟩
 have a5:∀ {p:Bool} {a:Ty} {x:a.den} {v:Value},rY V W w p a x v->rY V W' w' p a x v:=by
  rintro p a x v ⟨b,ob,g,o,c,hv,H,a0,Y,hr,hc⟩;exact⟨b,ob,g,o,c,hv,hP b H,by rw[kw (y.heap b H)];exact a0,hP g Y,Rd.carry (hG p) (y.gdheap J p) hr,hc.same (y.heap g Y)⟩
 cases l with
 |int k n=>exact h
 |bool b=>exact h
 |str s=>exact h
 |nil=>exact h
 |hdr n=>exact h
 |ro p E e xs=>exact Rd.carry (hG p) (y.gdheap J p) h
 |own p hh E e xs =>
  obtain⟨rfl,H⟩:=a1 trivial;exact OwH.carry h (hG p) (y.gdheap J p) H
 |nal p ks ep a9 E e xs =>
  obtain⟨z,I,O⟩:=h;refine⟨BL z (y.ver EPO).1,λk M=>BL (I k M) (y.ver k.1).1,λhe M ho=>?_⟩;obtain⟨e1,e2⟩:=wD y z I he M;have Z:=y.places ho e1 e2 he M;have R:=O e1 e2 (λk X=>(Z k X).1);refine⟨Rd.carry ?_ ?_ R.rd,λi sz off hl=>?_⟩
  ·grind
  ·rintro b (H|⟨k,X,H⟩)
   ·exact y.gdheap J p b H
   ·grind
  ·obtain⟨r,j,n,rfl,g,a3,a6,h6,h7,h8,h9⟩:=R.at_ i sz off hl;have X:(r,j,n)∈[(r,j,n)]:=CC ..;have a4:(st' r).ver=(st r).ver:=(M _ X).trans (e2 _ X).symm;refine⟨r,j,n,rfl,g,a3,a6,by rw[(y.ver r).2 a4];exact h6,h7,by rw[(Z _ X).2.1];exact h8,?_⟩;rw[kw ((Z _ X).2.2 g h8)];exact h9
 |np p ks ep a x off =>
  obtain⟨z,I,O⟩:=h;refine⟨BL z (y.ver EPO).1,λk M=>BL (I k M) (y.ver k.1).1,λhe M ho=>?_⟩;obtain⟨e1,e2⟩:=wD y z I he M;have Z:=y.places ho e1 e2 he M;have R:=O e1 e2 (λk X=>(Z k X).1);have hS:∀ b,(gd V W p b\/∃ k∈ks,b∈W.bs k.1 k.2.1)->(gd V W' p b\/∃ k∈ks,b∈W'.bs k.1 k.2.1):=by
   grind
  have hW:∀ b,(gd V W p b\/∃ k∈ks,b∈W.bs k.1 k.2.1)->w'.heap[b]?=w.heap[b]?:=by
   rintro b (H|⟨k,X,H⟩)
   ·exact y.gdheap J p b H
   ·grind
  obtain⟨g,o,c,hv,Y,hr,hc⟩:=R.rd;exact⟨g,o,c,hv,hS g Y,Rd.carry hS hW hr,hc.same (hW g Y)⟩
 |al r j n =>
  obtain⟨z,I⟩:=h;obtain⟨O,R⟩:=y.ver r;refine⟨BL z O,λhv=>?_⟩
  grind
 |ep r j n i sz off =>
  obtain⟨z,I⟩:=h;obtain⟨O,R⟩:=y.ver r;refine⟨BL z O,λhv=>?_⟩
  grind
 |rp p a x off=>exact hR h
 |rpp p a x=>exact a5 h
 |clr f a2 =>
  obtain⟨us,z,I,O⟩:=h;refine⟨us,z,I,λi c u hc hu=>?_⟩;have R:=O i c u hc hu;unfold iJ at R ⊢
  grind
 |bp b off =>
  obtain⟨z,I,O⟩:=h;obtain⟨R,Z⟩:=y.box b ⟨z,I⟩;exact⟨z,R.2,by rw[Z];exact O⟩
 |clo f a2 =>
  obtain⟨z,I⟩:=h;refine⟨?_,λb H=>(y.box b (I b H)).1⟩;rw[z];congr 2;refine List.map_congr_left λb H=>?_
  rw[(y.box b (I b H)).2]
 |fn As B φ=>exact h
 |dead=>trivial
def aC (P:Program)(V:Env)(W:Wit)(st:St)(w:World):List Leaf->List Value->Prop
 |[],[]=>True
 |l::r,v::u=>(aI P V W st w [] l v/\¬ ao l/\v.oneCell'=true)/\aC P V W st w r u
 |_,_=>False
theorem aC.length:∀ {ls:List Leaf} {cs:List Value},aC P V W st w ls cs->ls.length=cs.length
 |[],[],_=>rfl
 |_::_,_::_,h=>by simp[aC.length h.2]
theorem aC.at_:∀ {ls:List Leaf} {cs:List Value},aC P V W st w ls cs->∀ (j:Nat) (l:Leaf) (v:Value),ls[j]?=some l->cs[j]?=some v->aI P V W st w [] l v/\¬ ao l/\v.oneCell'=true
 |_::_,_::_,h,0,l,v,r,u=>by
  simp at r u;subst r;subst u;exact h.1
 |_::_,_::_,h,j+1,l,v,r,u=>aC.at_ h.2 j l v (by simpa using r) (by simpa using u)
theorem aC.one':∀ {ls:List Leaf} {cs:List Value},aC P V W st w ls cs->∀ v∈cs,v.oneCell'=true
 |[],[],_,_,r=>by simp at r
 |_::_,_::_,h,v,r=>by
  rcases CA.1 r with rfl|r
  ·exact h.1.2.2
  ·exact aC.one' h.2 v r
theorem aC.mk:∀ {ls:List Leaf} {cs:List Value},ls.length=cs.length->(∀ (j:Nat) (l:Leaf) (v:Value),ls[j]?=some l->cs[j]?=some v->aI P V W st w [] l v/\¬ ao l/\v.oneCell'=true)->aC P V W st w ls cs
 |[],[],_,_=>trivial
 |_::_,_::_,h,H=>⟨H 0 _ _ rfl rfl,aC.mk (by simpa using h) λj l v r u=>H (j+1) l v (by simpa using r) (by simpa using u)⟩
theorem aC.drop {ls:List Leaf}{cs:List Value}(h:aC P V W st w ls cs)(n:Nat):aC P V W st w (ls.drop n) (cs.drop n) :=
 aC.mk (by simp[h.length]) λj l v r u=>h.at_ (n+j) l v (by simpa using r) (by simpa using u)
theorem aC.take {ls:List Leaf}{cs:List Value}(h:aC P V W st w ls cs)(n:Nat):aC P V W st w (ls.take n) (cs.take n) :=
 aC.mk (by simp[h.length]) λj l v r u=>by
  rw[BP]at r u;split at r
  ·rename_i y;rw[if_pos y]at u;exact h.at_ j l v r u
  ·grind
theorem aC.append {y z:List Leaf}{r H:List Value}(u:aC P V W st w y r)(I:aC P V W st w z H):aC P V W st w (y++z) (r++H):=by
 induction y generalizing r with
 |nil =>
  cases r with
  |nil=>simpa using I
  |cons=>simp[aC]at u
 |cons l M J =>
  cases r with
  |nil=>simp[aC]at u
  |cons v O=>exact⟨u.1,J u.2⟩
theorem aC.carry (r:∀ k,V.ro0 k->V.prot k)(u:cE V W W' st st' w w'):∀ {ls:List Leaf} {cs:List Value},aC P V W st w ls cs->aC P V W' st' w' ls cs
 |[],[],_=>trivial
 |_::_,_::_,h=>⟨⟨h.1.1.carry r u (λy=>absurd y h.1.2.1),h.1.2⟩,aC.carry r u h.2⟩
theorem eS {G:Nat->Prop}{p:Bool}(u:∀ k,G k->gd V W p k):∀ {a:Ty} {x:a.den} {cs:List Value},Rd w G a x cs->aC P V W st w (cJ p a x) cs
 |.int _,_,_,h=>by rw[show _=_ from h];exact⟨⟨rfl,id,rfl⟩,trivial⟩
 |.bool,_,_,h=>by rw[show _=_ from h];exact⟨⟨rfl,id,rfl⟩,trivial⟩
 |.str,_,_,h=>by rw[show _=_ from h];exact⟨⟨rfl,id,rfl⟩,trivial⟩
 |.unit,_,_,h=>by rw[show _=_ from h];trivial
 |.hdr,_,_,⟨A,r,e⟩=>by rw[e];exact⟨⟨⟨A,r,rfl⟩,id,rfl⟩,trivial⟩
 |.pair _ _,_,_,⟨J,M,e,I,y⟩=>by rw[e];exact (eS u I).append (eS u y)
 |.list m E e,H,_,h=>by
  obtain⟨A,r,rfl,y,z⟩:=h;exact⟨⟨Rd.mono u (⟨A,r,rfl,y,z⟩:Rd w _ (.list false E e) H _),id,rfl⟩,trivial⟩
theorem gI (p:Bool):∀ (a:Ty) (x:a.den),(cJ p a x).length=a.cells
 |.int _,_=>rfl
 |.bool,_=>rfl
 |.str,_=>rfl
 |.unit,_=>rfl
 |.hdr,_=>rfl
 |.pair a b,x=>by simp[cJ,Ty.cells,gI p a,gI p b]
 |.list _ _ _,_=>rfl
theorem cI (p:Bool):∀ (a:Ty) (x:a.den),(aq p a x).length=a.cells
 |.int _,_=>rfl
 |.bool,_=>rfl
 |.str,_=>rfl
 |.unit,_=>rfl
 |.hdr,_=>rfl
 |.pair a b,x=>by simp[aq,Ty.cells,cI p a,cI p b]
 |.list _ _ _,_=>rfl
theorem iK (t n:Nat):∀ (j:Nat) (ls:List Leaf),(bD t n j ls).length=ls.length
 |_,[]=>rfl
 |j,_::ls=>by simp[bD,iK t n (j+1) ls]
theorem nW (t n:Nat):∀ (j:Nat) (ls:List Leaf) (i:Nat) (l:Leaf),ls[i]?=some l->(bD t n j ls)[i]?=some (lD t (j+i) n l)
 |j,r::ls,0,l,h=>by
  simp at h;subst h;simp[bD]
 |j,r::ls,i+1,l,h=>by
  have:=nW t n (j+1) ls i l (by simpa using h);simp only[bD]
  grind
theorem iw {a:Act}(h:ap P V W st a w)(r:Nat):aC P V W st w (bD r (st r).ver 0 (st r).ls) (W.cs r):=by
 refine aC.mk (by rw[iK,h.len]) λj l v u y=>?_
 have M:j<(st r).ls.length:=by
  have:=(BC.1 u).1;simpa[iK]using this
 have H:(st r).ls[j]?=some (st r).ls[j]:=BE M;have J:=nW r (st r).ver 0 (st r).ls j _ H;rw[J]at u;have I:=h.leaf r j _ v H y;have z:=h.one r v (List.mem_of_getElem? y);simp at u;subst u;generalize O:(st r).ls[j]=q at I;cases q with
 |own p X E e R=>exact⟨⟨BI _,λ_=>by simpa using y⟩,id,z⟩
 |_=>exact⟨I,id,z⟩
theorem sn {v:Value}{l:Leaf}(h:is v=some l):aI P V W st w [] l v/\¬ ao l/\v.oneCell'=true:=by
 unfold is at h;split at h <;> simp at h <;> subst h <;> exact⟨rfl,id,rfl⟩
theorem cS {a:Act}(h:ap P V W st a w)(x:Operand) :
  ∃ r,ea (au st x).1 (a.eval x) r/\aC P V W st w (au st x).2 r:=by
 cases x with
 |tmp t =>
  simp only[au];cases z:Bp t GH with
  |false=>exact⟨[],rfl,trivial⟩
  |true=>exact⟨W.cs t,h.slots t (by simpa using z),iw h t⟩
 |const v =>
  simp only[au];cases y:is v with
  |none=>exact⟨[],rfl,trivial⟩
  |some l=>exact⟨[v],rfl,⟨sn y,trivial⟩⟩
 |func f=>exact⟨[.func (.func f) #[] #[]],rfl,⟨⟨⟨rfl,λb u=>by simp at u⟩,id,rfl⟩,trivial⟩⟩
 |global g=>exact⟨[],rfl,trivial⟩
theorem bo {a:Act}(h:ap P V W st a w)(x:Operand)(z:one st x≠.dead) :
  aI P V W st w [] (one st x) (a.eval x)/\¬ ao (one st x)/\(a.eval x).oneCell'=true/\(au st x).1=.one/\(au st x).2=[one st x]:=by
 obtain⟨H,y,r⟩:=cS h x;unfold one at z ⊢;split at z
 ·rename_i l I;simp only[I]at y r ⊢;have u:H=[a.eval x]:=y;subst u;exact⟨r.1.1,r.1.2.1,r.1.2.2,by simp,by simp⟩
 ·grind
theorem eX {r j n:Nat}{l:Leaf}(u:aD st (.al r j n)=l)(y:l≠.dead):(st r).ver=n/\(st r).ls[j]?=some l:=by
 simp only[aD]at u;cases z:BA (st r).ver n with
 |false=>simp only[z]at u;exact absurd u.symm y
 |true =>
  simp only[z,cond_true]at u;refine⟨BB z,?_⟩;rw[BS]at u;cases H:(st r).ls[j]? with
  |none=>simp only[H]at u;exact absurd u.symm y
  |some I =>
   simp only[H,Option.getD_some]at u;cases I with
   |nal=>simp only[pj]at u;exact absurd u.symm y
   |_=>simp only[pj]at u;rw[u]
theorem iL {r j n:Nat}{p:Bool}{ks:List (Nat×Nat×Nat)}{ep:Nat}{u:Option (Nat×Nat×Nat)}{E:TypeId}{e:Ty}{xs:List e.den}:aD st (.al r j n)≠.nal p ks ep u E e xs:=by
 simp only[aD];cases BA (st r).ver n with
 |false=>simp
 |true =>
  cases (st r).ls.getD j .dead <;> simp[pj]
theorem ke {a:Act}(h:ap P V W st a w){r j n:Nat}{p:Bool}{u:Option (Nat×Nat)}{E:TypeId}{e:Ty}{xs:List e.den}{v:Value}(J:aD st (.al r j n)=.own p u E e xs)
  (I:aI P V W st w [] (.al r j n) v):(W.cs r)[j]?=some v/\OwH w (gd V W p) u E e xs v (W.bs r j)/\(st r).ls[j]?=some (.own p u E e xs)/\(st r).ver=n:=by
 obtain⟨y,z⟩:=eX J (by simp);have H:=I.2 y;exact⟨H,h.leaf r j _ v z H,z,y⟩
theorem vm {ls:List Leaf}{j:Nat}(h:lj (ls.getD j .dead)=true):∃ l,ls[j]?=some l/\ao l:=by
 rw[BS]at h;cases r:ls[j]? with
 |none=>rw[r]at h;simp[lj]at h
 |some l =>
  rw[r]at h;refine⟨l,rfl,?_⟩;cases l <;> simp[lj]at h;trivial
theorem cB {ks:List (Nat×Nat×Nat)}{ep:Nat}(h:bj st ks ep=true):(st EPO).ver=ep/\(∀ k∈ks,(st k.1).ver=k.2.2)/\rZ st ks:=by
 simp only[bj,BD,List.all_eq_true]at h;exact⟨BB h.1,λk r=>BB (h.2 k r).1,λk r=>vm (h.2 k r).2⟩
theorem pu {p:Bool}{ks:List (Nat×Nat×Nat)}{ep:Nat}{r:Option (Nat×Nat×Nat)}{E:TypeId}{e:Ty}{xs:List e.den}{v:Value}(u:bj st ks ep=true)
 (y:aI P V W st w [] (.nal p ks ep r E e xs) v):r8 V W w p ks r E e xs v:=y.2.2 (cB u).1 (cB u).2.1 (cB u).2.2
def bi (V:Env)(W:Wit)(p:Bool)(ks:List (Nat×Nat))(k:Nat):Prop:=gd V W p k\/∃ x∈ks,k∈W.bs x.1 x.2
theorem jE {E:TypeId}{e:Ty}{E':TypeId}{e':Ty}{xs:List e'.den}{r:List e.den}(h:lE E e E' e' xs=some r) :
  ∃ (y:E'=E) (u:e'=e),u ▸ xs=r:=by
 unfold lE at h
 grind
theorem tT {e e':Ty}{xs:List e'.den}{r:List e.den}(h:castSh e e' xs=some r):e'.sh=e.sh/\HEq xs r:=by
 unfold castSh at h
 grind
theorem Rd.castSh {G:Nat->Prop}{m m':Bool}{E E':TypeId}{e e':Ty}{xs:List e'.den}{H:List e.den}{cs:List Value}(h:castSh e e' xs=some H)(O:Rd w G (.list m E' e') xs cs):Rd w G (.list m' E e) H cs:=by
 obtain⟨M,J⟩:=tT h;have I:Rd w G (.list m E e) H cs:=by
  refine Rd.flags (a:=.list m E e') (x:=xs) (by simp only[Ty.sh,M]) J ?_;obtain⟨A,r,u,z,y⟩:=O;exact⟨A,r,u,z,y⟩
 obtain⟨A,r,u,z,y⟩:=I;exact⟨A,r,u,z,y⟩
theorem kf (st:St):∀ (u r:List Leaf),bt st (u++r)=bt st u++bt st r
 |[],_=>rfl
 |l::u,r=>by
  have:=kf st u r;cases l <;> simp[bt,this]
theorem so (st:St):∀ (u r:List Leaf),b7 st (u++r)=b7 st u++b7 st r
 |[],_=>rfl
 |l::u,r=>by
  have:=so st u r;cases l <;> simp[b7,this]
theorem kx {a:Act}(h:ap P V W st a w){m:Bool}{E:TypeId}{e:Ty}{l:Leaf}{v:Value}{p:Bool}{xs:List e.den}
  (hl:aI P V W st w [] l v) (a0:¬ ao l) (u:dg e (aD st l)=some (p,xs)):Rd w (bi V W p (bt st [l])) (.list m E e) xs [v]:=by
 have H:∀ (q:Leaf) (bs:List Nat) (S:Nat->Prop),aI P V W st w bs q v->dg e q=some (p,xs)->(∀ k,gd V W p k->S k)->(ao q->∀ k∈bs,S k) ->
   (∀ q' J ep z E' I O,q=.nal q' J ep z E' I O->bj st J ep=true/\∀ k∈J,∀ b∈W.bs k.1 k.2.1,S b)->Rd w S (.list m E e) xs [v]:=by
  intro q bs S M u hS hb hn;cases q with
  |ro q E' I Y =>
   simp only[dg,BO]at u;obtain⟨zs,Z,rfl,rfl⟩:=u;exact Rd.castSh Z (Rd.mono hS M)
  |nil =>
   obtain⟨rfl,rfl⟩:=u;rw[show v=_ from M];exact Rd.nil w _ m E e
  |own q hh E' I Y =>
   cases hh with
   |some _=>simp[dg]at u
   |none =>
    simp only[dg,BO]at u;obtain⟨zs,Z,rfl,rfl⟩:=u;refine Rd.castSh Z (Rd.mono (λk y=>?_) (OwH.rd (m:=false) (E':=E') M));exact y.elim (hS k) (hb trivial k)
  |nal q J ep z E' I Y =>
   simp only[dg,BO,CO]at u;obtain⟨zs,Z,rfl,rfl⟩:=u;obtain⟨R,hn⟩:=hn _ _ _ _ _ _ _ rfl;have h1:r8 V W w q J z E' I Y v:=M.2.2 (cB R).1 (cB R).2.1 (cB R).2.2;refine Rd.castSh Z (Rd.mono (λk y=>?_) h1.rd);rcases y with y|⟨x,hx,y⟩
   ·grind
   ·grind
  |_=>simp[dg]at u
 cases l with
 |al r j n =>
  by_cases hd:aD st (.al r j n)=.dead
  ·rw[hd]at u;simp[dg]at u
  ·obtain⟨h1,h2⟩:=eX rfl hd;have h3:=h.leaf r j _ v h2 (hl.2 h1);generalize M:aD st (.al r j n)=q at u h2 h3;refine H q (W.bs r j) _ h3 u (λk y=>.inl y) (λX k y=>.inr ⟨(r,j),?_,y⟩) ?_
   ·cases q <;> first|exact X.elim|simp[bt,M]
   ·rintro q' J ep z E' I O rfl;exact absurd M iL
 |own q hh E' I Y=>exact absurd trivial a0
 |nal q J ep z E' I Y =>
  simp only[aD]at u;cases R:bj st J ep with
  |false=>simp[R,dg]at u
  |true =>
   simp only[R]at u;refine H _ [] _ hl u (λk y=>.inl y) (λX=>X.elim) ?_;intro q' a3 a6 a2 a4 a5 O a1;cases a1;refine⟨R,λk y b hb=>.inr ⟨(k.1,k.2.1),?_,hb⟩⟩;simp only[bt,aD]
   grind
 |ro q E' I Y=>exact H _ [] _ hl u (λk y=>.inl y) (λX=>X.elim) (λ_ _ _ _ _ _ _ h=>by cases h)
 |nil=>exact H _ [] _ hl u (λk y=>.inl y) (λX=>X.elim) (λ_ _ _ _ _ _ _ h=>by cases h)
 |_=>simp[aD,dg]at u
theorem wE {a:Act}(h:ap P V W st a w){l:Leaf}{v:Value}{n:Nat}(X:aI P V W st w [] l v)(Y:¬ ao l)(u:fX (aD st l)=some n):Rd w (λ_=>False) .hdr n [v]:=by
 have H:∀ (q:Leaf) (bs:List Nat),aI P V W st w bs q v->fX q=some n->(∀ p M ep z E e O,q=.nal p M ep z E e O->bj st M ep=true)->Rd w (λ_=>False) .hdr n [v]:=by
  intro q bs J u hn;cases q with
  |ro p E e O =>
   simp only[fX,BH]at u;subst u;obtain⟨A,y,I,_⟩:=J;exact⟨A,y,I⟩
  |own p hh E e O =>
   simp only[fX,BH]at u;subst u;obtain⟨A,y,I,_⟩:=OwH.slice J;exact⟨A,y,by rw[I]⟩
  |nal p M ep z E e O =>
   simp only[fX,BH]at u;subst u;have R:=hn _ _ _ _ _ _ _ rfl;obtain⟨A,y,I,_⟩:=(J.2.2 (cB R).1 (cB R).2.1 (cB R).2.2:r8 V W w p M z E e O v).rd;exact⟨A,y,I⟩
  |nil =>
   simp only[fX,BH]at u;subst u;exact⟨none,0,by rw[show v=_ from J]⟩
  |hdr m =>
   simp only[fX,BH]at u;subst u;obtain⟨A,y,I⟩:=J;exact⟨A,y,by rw[I]⟩
  |_=>simp[fX]at u
 cases l with
 |al r j m =>
  by_cases Z:aD st (.al r j m)=.dead
  ·rw[Z]at u;simp[fX]at u
  ·obtain⟨h1,h2⟩:=eX rfl Z;have h3:=h.leaf r j _ v h2 (X.2 h1);refine H _ _ h3 u λp M ep z E e O J=>absurd J iL
 |own q hh E' e' ys=>exact absurd trivial Y
 |nal q M ep z E' e' ys =>
  simp only[aD]at u;cases R:bj st M ep with
  |false=>simp[R,fX]at u
  |true =>
   grind
 |ro q E' e' ys=>exact H _ [] X u (λ_ _ _ _ _ _ _ h=>by cases h)
 |nil=>exact H _ [] X u (λ_ _ _ _ _ _ _ h=>by cases h)
 |hdr m=>exact H _ [] X u (λ_ _ _ _ _ _ _ h=>by cases h)
 |_=>simp[aD,fX]at u
theorem ky {a:Act}(h:ap P V W st a w):∀ (b:Ty) (ls:List Leaf) (cs:List Value) (p:Bool) (x:b.den) (r:List Leaf),aC P V W st w ls cs ->
  aZ st b ls=some (p,x,r)->∃ M R O,cs=M++R/\ls=O++r/\aC P V W st w O M/\aC P V W st w r R/\Rd w (bi V W p (bt st O)) b x M
 |.int k,ls,cs,p,x,r,H,u=>by
  simp only[aZ]at u;split at u
  ·rename_i k' n ls;split at u
   ·rename_i I;obtain⟨rfl,rfl,rfl⟩:=u;cases cs with
    |nil=>exact H.elim
    |cons v cs=>exact⟨[v],cs,[_],rfl,rfl,⟨H.1,trivial⟩,H.2,by rw[show v=_ from H.1.1,I];rfl⟩
   ·grind
  ·grind
 |.bool,ls,cs,p,x,r,H,u=>by
  simp only[aZ]at u;split at u
  ·simp at u;obtain⟨rfl,rfl,rfl⟩:=u;cases cs with
   |nil=>exact H.elim
   |cons v cs=>exact⟨[v],cs,[_],rfl,rfl,⟨H.1,trivial⟩,H.2,by rw[show v=_ from H.1.1];rfl⟩
  ·grind
 |.str,ls,cs,p,x,r,H,u=>by
  simp only[aZ]at u;split at u
  ·simp at u;obtain⟨rfl,rfl,rfl⟩:=u;cases cs with
   |nil=>exact H.elim
   |cons v cs=>exact⟨[v],cs,[_],rfl,rfl,⟨H.1,trivial⟩,H.2,by rw[show v=_ from H.1.1];rfl⟩
  ·grind
 |.unit,ls,cs,p,x,r,H,u=>by
  obtain⟨rfl,_,rfl⟩:=u;exact⟨[],cs,[],rfl,rfl,trivial,H,rfl⟩
 |.hdr,ls,cs,p,x,r,H,u=>by
  simp only[aZ]at u;split at u
  ·rename_i l J;split at u
   ·rename_i n hn;obtain⟨rfl,rfl,rfl⟩:=u;cases cs with
    |nil=>exact H.elim
    |cons v cs=>exact⟨[v],cs,[l],rfl,rfl,⟨H.1,trivial⟩,H.2,wE h H.1.1 H.1.2.1 hn⟩
   ·grind
  ·grind
 |.pair b c,ls,cs,p,x,r,H,u=>by
  simp only[aZ]at u;split at u
  ·rename_i q y J hb;split at u
   ·rename_i q' z Y hc;simp at u;obtain⟨rfl,rfl,rfl⟩:=u;obtain⟨M,R,O,e1,e2,h1,h2,h3⟩:=ky h b ls cs q y J H hb;obtain⟨Z,c4,l2,e3,e4,h4,h5,h6⟩:=ky h c J R q' z Y h2 hc;refine⟨M++Z,c4,O++l2,by rw[e1,e3,BZ],by rw[e2,e4,BZ],h1.append h4,h5,M,Z,rfl,?_,?_⟩
    ·refine Rd.mono (λk I=>?_) h3;rcases I with I|⟨y,X,I⟩
     ·exact .inl (bT (by simp_all) (λ_ h=>h) k I)
     ·exact .inr ⟨y,by rw[kf];exact BG _ X,I⟩
    ·refine Rd.mono (λk I=>?_) h6;rcases I with I|⟨y,X,I⟩
     ·exact .inl (bT (by simp_all) (λ_ h=>h) k I)
     ·exact .inr ⟨y,by rw[kf];exact BF _ X,I⟩
   ·grind
  ·grind
 |.list m E e,ls,cs,p,x,r,H,u=>by
  simp only[aZ]at u;split at u
  ·rename_i l J;split at u
   ·rename_i q ys ha;obtain⟨rfl,rfl,rfl⟩:=u;cases cs with
    |nil=>exact H.elim
    |cons v cs=>exact⟨[v],cs,[l],rfl,rfl,⟨H.1,trivial⟩,H.2,kx h H.1.1 H.1.2.1 ha⟩
   ·grind
  ·grind
theorem ey {a:Act}(h:ap P V W st a w){b:Ty}{ls:List Leaf}{cs:List Value}{p:Bool}{x:b.den}(H:aC P V W st w ls cs)
  (u:cO st b ls=some (p,x)):Rd w (bi V W p (bt st ls)) b x cs:=by
 unfold cO at u;split at u
 ·rename_i q y z;obtain⟨J,r,X,M,R,Y,I,O⟩:=ky h b ls cs _ _ _ H z;have:r=[]:=by
   cases r with
   |nil=>rfl
   |cons=>exact I.elim
  simp_all
 ·grind
end
section
variable {P:Program} {V:Env} {W W':Wit} {st st':St} {w w':World} {a:Act}
theorem bz (A B:Upd)(st:St):ac (A++B) st=ac A (ac B st):=by
 funext q;induction A with
 |nil=>rfl
 |cons x A u=>obtain⟨r,c⟩:=x;simp only[CK,ac,u]
theorem aO (r:Nat)(c:bS)(U:Upd)(st:St):ac ((r,c)::U) st=ac [(r,c)] (ac U st):=bz [(r,c)] U st
theorem bg (r:Nat)(c:bS)(st:St):ac [(r,c)] st r=c:=by simp[ac]
theorem aH {r q:Nat}(h:q≠r)(c:bS)(st:St):ac [(r,c)] st q=st q:=by
 have:BA q r=false:=by
  cases u:BA q r with
  |false=>rfl
  |true=>exact absurd (BB u) h
 simp[ac,this]
theorem ak (r q:Nat)(c:bS)(st:St):(q=r/\ac [(r,c)] st q=c)\/(q≠r/\ac [(r,c)] st q=st q):=by
 by_cases h:q=r
 ·subst h;exact .inl ⟨rfl,bg q c st⟩
 ·exact .inr ⟨h,aH h c st⟩
def ce (V:Env)(W:Wit)(st:St)(k:Nat):Prop :=
 W.nw k\/V.prot k\/(∃ b,live st b/\W.β b=k)\/∃ r j l,(st r).ls[j]?=some l/\ao l/\k∈W.bs r j
theorem ap.own_lt (h:ap P V W st a w){r j:Nat}{l:Leaf}(u:(st r).ls[j]?=some l)(z:ao l):∀ k∈W.bs r j,k<w.heap.size:=by
 have y:j<(W.cs r).length:=by rw[<- h.len];exact (BC.1 u).1
 have:=h.leaf r j l _ u (BE y);cases l <;> simp only[ao]at z;exact OwH.lt this
theorem ap.box_lt (h:ap P V W st a w){b:Nat}(r:live st b):W.β b<w.heap.size:=by
 rcases h.boxes b r.1 with ⟨u,_⟩|⟨_,E,y⟩
 ·exact absurd (u.symm.trans r.2) (by simp)
 ·grind
theorem ap.used_lt (h:ap P V W st a w):∀ k,ce V W st k->k<w.heap.size:=by
 intro k u;rcases u with u|u|⟨b,I,rfl⟩|⟨r,j,l,y,z,H⟩
 ·exact (h.nwlt k u).1
 ·exact BW u.1 h.size
 ·exact h.box_lt I
 ·exact h.own_lt y z k H
theorem ap.world (Z:ax V)(h:ap P V W st a w)(R:w.heap.size<=w'.heap.size)(O:w'.os=w.os)(Y:w'.tape=w.tape)(M:w'.output=w.output)
  (y:∀ k,ce V W st k->w'.heap[k]?=w.heap[k]?):ap P V W st a w':=by
 have z:cE V W W st st w w':=⟨λr=>⟨BI _,λ_=>rfl⟩,λb J=>⟨J,rfl⟩,λ_ h=>h,λk h=>y k (h.elim .inl (λh=>.inr (.inl h))),
  λ_ r j l u I _=>⟨⟨l,u,I⟩,rfl,λk H=>y k (.inr (.inr (.inr ⟨r,j,l,u,I,H⟩)))⟩⟩
 exact {
  nt:=h.nt,df:=h.df,slots:=h.slots,
  boxes:=λb J=>(h.boxes b J).imp id λ⟨u,E,I⟩=>⟨u,E,by rw[y _ (.inr (.inr (.inl ⟨b,⟨J,u⟩,rfl⟩)))];exact I⟩
  len:=h.len,one:=h.one,
  leaf:=λr j l v u I=>(h.leaf r j l v u I).carry Z.ro z (λM=>⟨rfl,λk H=>y k (.inr (.inr (.inr ⟨r,j,l,u,M,H⟩)))⟩)
  ownb:=h.ownb,sep:=h.sep,box:=h.box,inj:=h.inj,
  nwlt:=λk y=>⟨BW (h.nwlt k y).1 R,(h.nwlt k y).2⟩
  os:=O.trans h.os,tape:=Y.trans h.tape,output:=M.trans h.output,size:=BL h.size R,
  keep:=λk X=>(y k (.inr (.inl X))).trans (h.keep k X)
  fixb:=h.fixb,fixt:=h.fixt }
theorem ap.below (u:ax V)(h:ap P V W st a w)(r:Below w.heap.size w w'):ap P V W st a w' :=
 h.world u r.size r.os r.tape r.output λk y=>r.block k (h.used_lt k y)
theorem ap.relabel (hV:ax V)(h:ap P V W st a w)(r:Nat)(c:bS)(nw':Nat->Prop)(a2:(st r).ver<=c.ver)(X:c.sh=(st r).sh)
    (Y:c.ls.length=(st r).ls.length) (Z:∀ k,W.nw k->nw' k) (R:∀ k,nw' k->k<w.heap.size/\¬ V.prot k)
    (a1:∀ (j:Nat) (l:Leaf) (v:Value),c.ls[j]?=some l->(W.cs r)[j]?=some v->aI P V { W with nw:=nw' } (ac [(r,c)] st) w (W.bs r j) l v)
    (a3:∀ (j:Nat) (l:Leaf),c.ls[j]?=some l->ao l->(st r).ls[j]?=some l)
    (J:∀ (q j:Nat) (l:Leaf),(ac [(r,c)] st q).ls[j]?=some l->ao l->∀ k∈W.bs q j,¬ nw' k)
    (I:∀ b,live st b->¬ nw' (W.β b)):ap P V { W with nw:=nw' } (ac [(r,c)] st) a w:=by
  have O:∀ b,live (ac [(r,c)] st) b<->live st b:=by
    intro b;rcases ak r b c st with ⟨rfl,e⟩|⟨_,e⟩
    · simp[live,e,X]
    · simp[live,e]
  have u:∀ (q j:Nat) (l:Leaf),(ac [(r,c)] st q).ls[j]?=some l->ao l->(st q).ls[j]?=some l:=by
    intro q j l z y;rcases ak r q c st with ⟨rfl,e⟩|⟨_,e⟩
    · grind
    · grind
  have M:cE V W { W with nw:=nw' } st (ac [(r,c)] st) w w :=
    ⟨λq=>by
      rcases ak r q c st with ⟨rfl,e⟩|⟨_,e⟩
      · grind
      · rw[e];exact⟨BI _,λ_=>rfl⟩,
     λb H=>⟨(O b).2 H,rfl⟩,Z,λ_ _=>rfl,λ_ q j l z y h3=>⟨⟨l,u q j l z y,y⟩,rfl,λ_ _=>rfl⟩⟩
  exact {
    nt:=h.nt,df:=h.df,
    slots:=λt ht=>by
      rcases ak r t c st with ⟨rfl,e⟩|⟨_,e⟩
      · rw[e,X];exact h.slots t ht
      · rw[e];exact h.slots t ht
    boxes:=λb H=>by
      rcases ak r b c st with ⟨rfl,e⟩|⟨_,e⟩
      · rw[e,X]
        rcases h.boxes b H with ⟨z,y⟩|z
        · grind
        · grind
      · rw[e];exact h.boxes b H
    len:=λq=>by
      rcases ak r q c st with ⟨rfl,e⟩|⟨_,e⟩
      · rw[e,Y];exact h.len q
      · rw[e];exact h.len q
    one:=h.one
    leaf:=λq j l v z y=>by
      rcases ak r q c st with ⟨rfl,e⟩|⟨_,e⟩
      · grind
      · rw[e]at z
        exact (h.leaf q j l v z y).carry hV.ro M (λ_=>⟨rfl,λ_ _=>rfl⟩)
    ownb:=λq j l z y k hk=>⟨J q j l z y k hk,(h.ownb q j l (u q j l z y) y k hk).2.1,λb H=>(h.ownb q j l (u q j l z y) y k hk).2.2 b ((O b).1 H)⟩
    sep:=λq j l q' j' l' z y h3 h4=>h.sep q j l q' j' l' (u q j l z y) y (u q' j' l' h3 h4) h4
    box:=λb H=>⟨I b ((O b).1 H),(h.box b ((O b).1 H)).2⟩
    inj:=λb b' H a0=>h.inj b b' ((O b).1 H) ((O b').1 a0)
    nwlt:=R
    os:=h.os,tape:=h.tape,output:=h.output,size:=h.size,keep:=h.keep,
    fixb:=λx hx=>⟨(O _).2 (h.fixb x hx).1,(h.fixb x hx).2⟩,fixt:=h.fixt }
theorem aQ {α:Type}(ls:List α)(j i:Nat)(x y:α)(h:(ls.set j x)[i]?=some y):(i=j/\y=x/\j<ls.length)\/(i≠j/\ls[i]?=some y):=by
 grind
theorem ap.kill1 (J:ax V)(h:ap P V W st a w)(r j:Nat):ap P V W (ac [(r,fY (st r) j)] st) a w:=by
 refine h.relabel J r _ W.nw (BI _) rfl (by simp[fY,aS]) (λ_ h=>h) h.nwlt ?_ ?_ ?_ λb z=>(h.box b z).1
 ·intro i l v u y;rcases aQ _ _ _ _ _ u with ⟨_,rfl,_⟩|⟨H,u⟩
  ·trivial
  ·refine (h.leaf r i l v u y).carry J.ro ⟨λq=>?_,λb z=>?_,λ_ h=>h,λ_ _=>rfl,λ_ q X Y I M R=>?_⟩ (λ_=>⟨rfl,λ_ _=>rfl⟩)
   ·rcases ak r q (fY (st r) j) st with ⟨rfl,e⟩|⟨_,e⟩
    ·rw[e];exact⟨BI _,λ_=>rfl⟩
    ·grind
   ·refine⟨⟨z.1,?_⟩,rfl⟩;rcases ak r b (fY (st r) j) st with ⟨rfl,e⟩|⟨_,e⟩
    ·rw[e];exact z.2
    ·rw[e];exact z.2
   ·rcases ak r q (fY (st r) j) st with ⟨rfl,e⟩|⟨_,e⟩
    ·rw[e]at I;rcases aQ _ _ _ _ _ I with ⟨_,rfl,_⟩|⟨_,I⟩
     ·exact M.elim
     ·grind
    ·grind
 ·intro i l u y;rcases aQ _ _ _ _ _ u with ⟨_,rfl,_⟩|⟨H,u⟩
  ·exact y.elim
  ·omega
 ·intro q i l u y;have:(st q).ls[i]?=some l:=by
   rcases ak r q (fY (st r) j) st with ⟨rfl,e⟩|⟨_,e⟩
   ·rw[e]at u;rcases aQ _ _ _ _ _ u with ⟨_,rfl,_⟩|⟨H,u⟩
    ·exact y.elim
    ·omega
   ·grind
  exact λk O=>(h.ownb q i l this y k O).1
theorem ap.frz1 (hV:ax V)(h:ap P V W st a w)(r j:Nat) :
  ap P V { W with nw:=λk=>W.nw k\/((∃ l,(st r).ls[j]?=some l/\ao l)/\k∈W.bs r j) } (ac [(r,fT (st r) j)] st) a w:=by
 have O:∀ l,(st r).ls[j]?=some l->(st r).ls.getD j .dead=l:=λl hl=>by rw[BS,hl];rfl
 have u:∀ (i:Nat) (l:Leaf),(aS (st r).ls j (uz ((st r).ls.getD j .dead)))[i]?=some l->ao l->(st r).ls[i]?=some l/\i≠j:=by
  intro i l z y;rcases aQ _ _ _ _ _ z with ⟨rfl,rfl,hj⟩|⟨Z,z⟩
  ·rw[O _ (BE hj)]at y;generalize (st r).ls[i]=l at y;cases l with
   |own p hh E e xs=>cases hh <;> exact y.elim
   |_=>exact y.elim
  ·grind
 have I:cE V W { W with nw:=λk=>W.nw k\/((∃ l,(st r).ls[j]?=some l/\ao l)/\k∈W.bs r j) } st (ac [(r,fT (st r) j)] st) w w:=by
  refine⟨λq=>?_,λb X=>?_,λ_ h=>.inl h,λ_ _=>rfl,λ_ q j' Y J M h5=>?_⟩
  ·rcases ak r q (fT (st r) j) st with ⟨rfl,e⟩|⟨_,e⟩
   ·rw[e];exact⟨BI _,λ_=>rfl⟩
   ·grind
  ·refine⟨⟨X.1,?_⟩,rfl⟩;rcases ak r b (fT (st r) j) st with ⟨rfl,e⟩|⟨_,e⟩
   ·rw[e];exact X.2
   ·rw[e];exact X.2
  ·rcases ak r q (fT (st r) j) st with ⟨rfl,e⟩|⟨_,e⟩
   ·rw[e]at J;exact⟨⟨Y,(u j' Y J M).1,M⟩,rfl,λ_ _=>rfl⟩
   ·grind
 refine h.relabel hV r _ _ (BI _) rfl (by simp[fT,aS]) (λ_ h=>.inl h) ?_ ?_ (λi l z y=>(u i l z y).1) ?_ ?_
 ·rintro k (H|⟨⟨l,z,y⟩,H⟩)
  ·exact h.nwlt k H
  ·exact⟨h.own_lt z y k H,(h.ownb r j l z y k H).2.1⟩
 ·intro i l v z y;rcases aQ _ _ _ _ _ z with ⟨rfl,rfl,hj⟩|⟨Z,z⟩
  ·have J:(st r).ls[i]?=some (st r).ls[i]:=BE hj;have M:=h.leaf r i _ v J y;rw[O _ J];generalize hq:(st r).ls[i]=q at J M;cases q with
   |own p hh E e xs =>
    cases hh with
    |some _=>trivial
    |none =>
     refine Rd.mono (λk H=>?_) (OwH.rd (m:=false) (E':=E) M);rcases H with H|H
     ·exact bT (W':={ W with nw:=_ }) (λh=>h) (λ_ h=>.inl h) k H
     ·exact .inl (.inr ⟨⟨_,J,trivial⟩,H⟩)
   |_=>exact M.carry hV.ro I (λho=>ho.elim)
  ·exact (h.leaf r i l v z y).carry hV.ro I (λ_=>⟨rfl,λ_ _=>rfl⟩)
 ·intro q i l z y k H;have J:(st q).ls[i]?=some l/\(q,i)≠(r,j):=by
   rcases ak r q (fT (st r) j) st with ⟨rfl,e⟩|⟨Z,e⟩
   ·rw[e]at z;have:=u i l z y
    simp_all
   ·grind
  rintro (R|⟨⟨Y,M,h5⟩,R⟩)
  ·exact (h.ownb q i l J.1 y k H).1 R
  ·obtain⟨rfl,rfl⟩:=h.sep q i l r j Y J.1 y M h5 k H R
   simp_all
 ·rintro b X (R|⟨⟨Y,M,h5⟩,R⟩)
  ·exact (h.box b X).1 R
  ·exact (h.ownb r j Y M h5 _ R).2.2 b X rfl
theorem lO (I:ax V):∀ (ks:List (Nat×Nat)),ap P V W st a w->ap P V W (ac (aM st ks) st) a w /\
  (∀ (q i:Nat) (l:Leaf),(ac (aM st ks) st q).ls[i]?=some l->ao l->(st q).ls[i]?=some l/\(q,i)∉ks) /\
  (∀ q,(ac (aM st ks) st q).sh=(st q).sh/\(st q).ver<=(ac (aM st ks) st q).ver)
 |[],h=>⟨h,λ_ _ _ y _=>⟨y,by simp⟩,λ_=>⟨rfl,BI _⟩⟩
 |(r,j)::ks,h=>by
  obtain⟨y,M,H⟩:=lO I ks h;have e:ac (aM st ((r,j)::ks)) st=ac [(r,fY (ac (aM st ks) st r) j)] (ac (aM st ks) st):=aO _ _ _ _;rw[e];refine⟨y.kill1 I r j,λq i l z J=>?_,λq=>?_⟩
  ·have O:(ac (aM st ks) st q).ls[i]?=some l/\(q,i)≠(r,j):=by
    rcases ak r q (fY (ac (aM st ks) st r) j) (ac (aM st ks) st) with ⟨rfl,e⟩|⟨u,e⟩
    ·rw[e]at z;rcases aQ _ _ _ _ _ z with ⟨_,rfl,_⟩|⟨u,z⟩
     ·exact J.elim
     ·grind
    ·grind
   simp_all
  ·rcases ak r q (fY (ac (aM st ks) st r) j) (ac (aM st ks) st) with ⟨rfl,e⟩|⟨u,e⟩
   ·rw[e];exact⟨(H q).1,(H q).2⟩
   ·grind
def Wit.frz (W:Wit)(st:St)(ks:List (Nat×Nat)):Wit :=
 { W with nw:=λk=>W.nw k\/∃ x∈ks,(∃ l,(st x.1).ls[x.2]?=some l/\ao l)/\k∈W.bs x.1 x.2 }
theorem ap.nw_congr (h:ap P V W st a w){nw':Nat->Prop}(e:∀ k,W.nw k<->nw' k):ap P V { W with nw:=nw' } st a w:=by
 have:nw'=W.nw:=funext λk=>propext (e k).symm
 subst this;exact h
theorem ln (Y:ax V):∀ (ks:List (Nat×Nat)),ap P V W st a w->ap P V (W.frz st ks) (ac (aE st ks) st) a w /\
  (∀ (q i:Nat) (l:Leaf),(ac (aE st ks) st q).ls[i]?=some l->ao l->(st q).ls[i]?=some l/\(q,i)∉ks) /\
  (∀ q,(ac (aE st ks) st q).sh=(st q).sh/\(st q).ver<=(ac (aE st ks) st q).ver)
 |[],h=>⟨h.nw_congr (λk=>by simp),λ_ _ _ J _=>⟨J,by simp⟩,λ_=>⟨rfl,BI _⟩⟩
 |(r,j)::ks,h=>by
  obtain⟨J,Z,X⟩:=ln Y ks h;have e:ac (aE st ((r,j)::ks)) st=ac [(r,fT (ac (aE st ks) st r) j)] (ac (aE st ks) st):=aO _ _ _ _;rw[e];refine⟨?_,λq i l R M=>?_,λq=>?_⟩
  ·have h7:=J.frz1 Y r j;have h8:=h7.nw_congr (nw':=(W.frz st ((r,j)::ks)).nw) (λk=>?_)
   ·exact h8
   ·simp only[Wit.frz];constructor
    ·rintro ((z|⟨x,O,z⟩)|⟨⟨l,u,H⟩,z⟩)
     ·grind
     ·grind
     ·exact .inr ⟨(r,j),CC ..,⟨l,(Z r j l u H).1,H⟩,z⟩
    ·rintro (z|⟨x,O,⟨l,u,H⟩,z⟩)
     ·grind
     ·rcases CA.1 O with rfl|O
      ·by_cases I:(r,j)∈ks
       ·exact .inl (.inr ⟨(r,j),I,⟨l,u,H⟩,z⟩)
       ·refine .inr ⟨⟨l,?_,H⟩,z⟩;exact iH ks I u
      ·grind
  ·have h6:(ac (aE st ks) st q).ls[i]?=some l/\(q,i)≠(r,j):=by
    rcases ak r q (fT (ac (aE st ks) st r) j) (ac (aE st ks) st) with ⟨rfl,e⟩|⟨y,e⟩
    ·rw[e]at R;rcases aQ _ _ _ _ _ R with ⟨rfl,rfl,hj⟩|⟨y,R⟩
     ·exfalso;generalize (ac (aE st ks) st q).ls.getD i .dead=l' at M;cases l' with
      |own p hh E e xs=>cases hh <;> exact M.elim
      |_=>exact M.elim
     ·grind
    ·grind
   simp_all
  ·rcases ak r q (fT (ac (aE st ks) st r) j) (ac (aE st ks) st) with ⟨rfl,e⟩|⟨y,e⟩
   ·rw[e];exact⟨(X q).1,(X q).2⟩
   ·grind
where
 iH:∀ (ks:List (Nat×Nat)) {r j:Nat} {l:Leaf},(r,j)∉ks->(st r).ls[j]?=some l->(ac (aE st ks) st r).ls[j]?=some l
  |[],_,_,_,_,u=>u
  |(q,i)::ks,r,j,l,hn,u=>by
   have J:=iH ks (λI=>hn (B4 _ I)) u;have e:ac (aE st ((q,i)::ks)) st=ac [(q,fT (ac (aE st ks) st q) i)] (ac (aE st ks) st):=aO _ _ _ _;rw[e];rcases ak q r (fT (ac (aE st ks) st q) i) (ac (aE st ks) st) with ⟨rfl,e⟩|⟨y,e⟩
   ·rw[e];simp only[fT,aS]
    grind
   ·grind
theorem ap.put (hV:ax V)(h:ap P V W st a w)(d:Nat)(hd:d<V.nt)(a3:∀ x∈V.fixt,x.1≠d)(n:Nat)(sh:aG)(ls:List Leaf)(v:Value)
  (I:List Value) (J:Nat->List Nat) (hn:(st d).ver<n) (hs:ea sh v I) (hl:ls.length=I.length) (h1:∀ u∈I,u.oneCell'=true)
  (a2:∀ (j:Nat) (l:Leaf) (u:Value),ls[j]?=some l->I[j]?=some u->aI P V W st w (J j) l u)
  (a0:∀ (j:Nat) (l:Leaf),ls[j]?=some l->ao l->∀ k∈J j,¬ W.nw k/\¬ V.prot k/\(∀ b,live st b->W.β b≠k) /\
   ∀ (r1 j1:Nat) (l1:Leaf),r1≠d->(st r1).ls[j1]?=some l1->ao l1->k∉W.bs r1 j1)
  (a4:∀ (j j':Nat) (l l':Leaf),ls[j]?=some l->ao l->ls[j']?=some l'->ao l'->∀ k,k∈J j->k∈J j'->j=j') :
  ap P V { W with cs:=λr=>if r=d then I else W.cs r,bs:=λr j=>if r=d then J j else W.bs r j } (ac [(d,⟨n,sh,ls⟩)] st) (a.put (some d) v) w:=by
 have a6:d<B0:=BW hd hV.ntB;have R:∀ b,live (ac [(d,⟨n,sh,ls⟩)] st) b<->live st b:=by
  intro b;by_cases Z:B0<=b
  ·rw[live,live,aH (by omega)]
  ·simp[live,Z]
 have O:cE V W { W with cs:=λr=>if r=d then I else W.cs r,bs:=λr j=>if r=d then J j else W.bs r j } st (ac [(d,⟨n,sh,ls⟩)] st) w w:=by
  refine⟨λq=>?_,λb Z=>⟨(R b).2 Z,rfl⟩,λ_ h=>h,λ_ _=>rfl,λ_ q j' l' M h4 h5=>?_⟩;rcases ak d q ⟨n,sh,ls⟩ st with ⟨rfl,e⟩|⟨y,e⟩
  ·grind
  ·grind
  rcases ak d q ⟨n,sh,ls⟩ st with ⟨rfl,e⟩|⟨y,e⟩
  ·grind
  ·grind
 have a1:∀ t,(a.put (some d) v).tmps.getD t undef=if t=d then v else a.tmps.getD t undef:=by
  intro t;by_cases ht:t=d
  ·subst ht;have:t<a.tmps.size:=by rw[h.nt];exact hd
   simp[CS,this]
  ·simp only[CS,if_neg ht];rw[Bq,Bq,Array.getElem?_setIfInBounds_ne (λe=>ht e.symm)]
 exact {
  nt:=by simp[CS,h.nt],df:=by simp[CS,h.df]
  slots:=λt ht=>by
   rw[a1];rcases ak d t ⟨n,sh,ls⟩ st with ⟨rfl,e⟩|⟨y,e⟩
   ·grind
   ·rw[e];simpa[y]using h.slots t ht
  boxes:=λb Z=>by
   have:b≠d:=by omega
   rw[aH this];simpa[this]using h.boxes b Z
  len:=λq=>by
   rcases ak d q ⟨n,sh,ls⟩ st with ⟨rfl,e⟩|⟨y,e⟩
   ·grind
   ·rw[e];simpa[y]using h.len q
  one:=λq u hu=>by
   by_cases hq:q=d
   ·grind
   ·simp only[hq]at hu;exact h.one q u hu
  leaf:=λq j l u H M=>by
   rcases ak d q ⟨n,sh,ls⟩ st with ⟨rfl,e⟩|⟨y,e⟩
   ·rw[e]at H;simp at M;exact (a2 j l u H M).carry hV.ro O (λ_=>⟨by simp,λ_ _=>rfl⟩)
   ·rw[e]at H;simp only[y]at M;exact (h.leaf q j l u H M).carry hV.ro O (λ_=>⟨by simp[y],λ_ _=>rfl⟩)
  ownb:=λq j l H M k X=>by
   rcases ak d q ⟨n,sh,ls⟩ st with ⟨rfl,e⟩|⟨y,e⟩
   ·grind
   ·rw[e]at H;simp only[y]at X;have:=h.ownb q j l H M k X
    grind
  sep:=λq j l q' j' l' H M h4 h5 k X z=>by
   rcases ak d q ⟨n,sh,ls⟩ st with ⟨e0,e⟩|⟨y,e⟩ <;> rcases ak d q' ⟨n,sh,ls⟩ st with ⟨e1,e'⟩|⟨Y,e'⟩
   ·rw[e]at H;rw[e']at h4;simp only[e0]at X;simp only[e1]at z;exact⟨e0.trans e1.symm,a4 j j' l l' H M h4 h5 k X z⟩
   ·rw[e]at H;rw[e']at h4;simp only[e0]at X;simp only[Y]at z;exact absurd z ((a0 j l H M k X).2.2.2 q' j' l' Y h4 h5)
   ·rw[e]at H;rw[e']at h4;simp only[y]at X;simp only[e1]at z;exact absurd X ((a0 j' l' h4 h5 k z).2.2.2 q j l y H M)
   ·rw[e]at H;rw[e']at h4;simp only[y]at X;simp only[Y]at z;exact h.sep q j l q' j' l' H M h4 h5 k X z
  box:=λb Z=>h.box b ((R b).1 Z)
  inj:=λb b' Z a5=>h.inj b b' ((R b).1 Z) ((R b').1 a5)
  nwlt:=h.nwlt
  os:=h.os,tape:=h.tape,output:=h.output,size:=h.size,keep:=h.keep
  fixb:=λx hx=>⟨(R _).2 (h.fixb x hx).1,(h.fixb x hx).2⟩
  fixt:=λx hx=>by rw[a1,if_neg (a3 x hx)];exact h.fixt x hx }
theorem ap.putLs (O:ax V)(h:ap P V W st a w)(d:Nat)(I:d<V.nt)(y:∀ x∈V.fixt,x.1≠d)(n:Nat)(sh:aG)(ls:List Leaf)(v:Value)
  (r:List Value) (R:(st d).ver<n) (M:ea sh v r) (z:aC P V W st w ls r) :
  Rel P V (ac [(d,⟨n,sh,ls⟩)] st) (a.put (some d) v) w :=
 ⟨_,h.put O d I y n sh ls v r (λ_=>[]) R M z.length z.one' (λj l u X J=>(z.at_ j l u X J).1) (λ_ _ _ _ k H=>by simp at H)
  (λ_ _ _ _ _ _ _ _ k H=>by simp at H)⟩
end
def zeroCells:Ty->List Value
 |.int k=>[.int k 0]
 |.bool=>[.bool false]
 |.str=>[.string BV]
 |.unit=>[]
 |.pair a b=>zeroCells a++zeroCells b
 |.hdr=>[.slice none 0 0]
 |.list _ _ _=>[.slice none 0 0]
def bP (P:Program)(t:TypeId)(n:Nat):Prop:=(P.info? t).map (·.size)=some n
def d4 (P:Program)(t:TypeId)(z:Value):Prop:=(P.info? t).map (·.zero)=some (some z)
def EqAt (P:Program)(t:TypeId)(a:Ty):Prop:=a.flat=true->∀ (w:World) (G:Nat->Prop) (x y:a.den) (u r:List Value),Rd w G a x u->Rd w G a y r ->
 (Op.equal t (.agg u.toArray) (.agg r.toArray)).run P w=.ok (a.eqv x y) w
def oI (P:Program)(t:TypeId):TI->Prop
 |.int k=>P.underlying t=some (.int k)/\bP P t 1/\d4 P t (.int k 0)
 |.bool=>P.underlying t=some .bool/\bP P t 1/\d4 P t (.bool false)
 |.str=>P.underlying t=some .string/\bP P t 1/\d4 P t (.string BV)
 |.slice E e r=>P.underlying t=some (.slice E)/\bP P t 1/\d4 P t (.slice none 0 0)/\0<e.cells/\(0<r/\(e=.int .u8->P.underlying E=some (.int .u8))) /\
  ∃ i z,P.info? E=some i/\i.size=e.cells/\i.bytes=r/\i.zero=some z/\z.cells.toList=zeroCells e
 |.struct a u=>(∃ H,P.underlying t=some (.struct H)/\H.toList.mapM (λf=>(P.info? f.type).map λi=>(f.offset,i.size))=some (u.map λx=>(x.1,x.2.1)) /\
  ∀ (i off n:Nat) (agg:Bool),u[i]?=some (off,n,agg)->(agg=false->n=1)/\∃ f:Field,H[i]?=some f/\f.offset=off/\0<n/\off+n<=a.cells/\bP P f.type n /\
   (P.underlying f.type).map (λd=>match d with|.struct _|.array _ _=>true|_=>false)=some agg) /\
  bP P t a.cells/\d4 P t (.agg (zeroCells a).toArray)/\EqAt P t a/\P.eqGuardType P.depth t=false
 |.arr e n=>(∃ E,P.underlying t=some (.array n E)/\bP P E e.cells/\(P.underlying E).map (λd=>match d with|.struct _|.array _ _=>true|_=>false)=some e.isAgg)/\0<e.cells /\
  bP P t (n*e.cells)/\d4 P t (.agg ((BR n (zeroCells e)).flatten).toArray)
 |.ptr=>(∃ e,P.underlying t=some (.pointer e))/\bP P t 1/\d4 P t (.pointer none)
 |.fn=>(∃ x y z,P.underlying t=some (.func x y z))/\bP P t 1/\d4 P t .nilFunc
 |.none=>True
def TOk (P:Program)(T:TypeId->TI):Prop:=∀ t,oI P t (T t)
theorem sq {P:Program}:∀ {l:List (TypeId×TI)},(∀ x∈l,oI P x.1 x.2)->TOk P (fW l)
 |[],_,_=>trivial
 |(t,i)::l,h,u=>by
  simp only[fW];cases y:BA t u with
  |false=>exact sq (λx r=>h x (B4 _ r)) u
  |true =>
   simp_all
section
variable {P:Program} {V:Env} {W:Wit} {st:St} {w:World} {a:Act} {o:Oper}
def mD (P:Program)(V:Env)(o:Oper)(st:St)(U:Upd)(a:Act)(w:World):Prop :=
 ∀ (next:Act->World->Prop) (Q:Exit->Act->World->Prop),(∀ u r,Rel P V (ac U st) u r->next u r)->o.wp P a w next Q
theorem dW {v:Value}{w':World}{next:Act->World->Prop}{Q:Exit->Act->World->Prop}(h:(execOp a.eval o).run P w=.ok (.value v) w')(r:next (a.put o.dst v) w'):o.wp P a w next Q:=by
 unfold Oper.wp;rw[h];exact r
theorem pv {w':World}{next:Act->World->Prop}{Q:Exit->Act->World->Prop}(h:(execOp a.eval o).run P w=.ok .skip w')(r:next (a.put o.dst undef) w'):o.wp P a w next Q:=by
 unfold Oper.wp;rw[h];exact r
def bM (V:Env)(o:Oper):Prop:=∀ d,o.dst=some d->d<V.nt/\∀ x∈V.fixt,x.1≠d
theorem dX (H:ax V)(h:ap P V W st a w){d:Nat}(y:o.dst=some d)(r:bM V o){v:Value}{sh:aG}{ls:List Leaf}{cs:List Value}
  (u:(execOp a.eval o).run P w=.ok (.value v) w) (I:ea sh v cs) (z:aC P V W st w ls cs):mD P V o st (ck st [] d sh ls) a w:=by
 intro next Q J;refine dW u ?_;rw[y];exact J _ _ (h.putLs H d (r d y).1 (r d y).2 _ sh ls v cs (By _) I z)
theorem aN (I:ax V)(h:ap P V W st a w){d:Nat}(J:o.dst=some d)(u:bM V o){v:Value}{l:Leaf}
  (r:(execOp a.eval o).run P w=.ok (.value v) w) (H:aI P V W st w [] l v) (y:¬ ao l) (z:v.oneCell'=true):mD P V o st (ck st [] d .one [l]) a w :=
 dX I h J u r (cs:=[v]) rfl ⟨⟨H,y,z⟩,trivial⟩
theorem j8 {agg:Bool}{v:Value}{cs:List Value}(h:c9 agg v cs):ea (bf agg) v cs:=by
 cases agg <;> exact h
theorem bC (h:ap P V W st a w){x:Operand}{k:IntKind}{n:Int}(r:one st x=.int k n):a.eval x=.int k n:=by
 have:=(bo h x (by rw[r];simp)).1;rw[r]at this;exact this
theorem ia (h:ap P V W st a w){x:Operand}{b:Bool}(r:one st x=.bool b):a.eval x=.bool b:=by
 have:=(bo h x (by rw[r];simp)).1;rw[r]at this;exact this
theorem iy (h:ap P V W st a w){x:Operand}{b:ByteArray}(r:one st x=.str b):a.eval x=.string b:=by
 have:=(bo h x (by rw[r];simp)).1;rw[r]at this;exact this
theorem vn (r:BinOp)(k:IntKind)(t t':TypeId)(x y:Operand)(m n:Int)(l:Leaf)(u:sg r k m n=some l)(z:a.eval x=.int k m)(I:a.eval y=.int k n)(H:o.op=.binOp r t x y t') :
  ∃ v,(execOp a.eval o).run P w=.ok (.value v) w/\aI P V W st w [] l v/\¬ ao l/\v.oneCell'=true:=by
 cases r <;> simp only[sg,BH,reduceCtorEq]at u <;> subst u <;>
  exact⟨_,by simp[execOp,H,z,I,eqGuard,Go.binOp,Op.intArith,Op.intCmp],rfl,id,rfl⟩
theorem Bm (H:ax V)(h:ap P V W st a w)(ks:List (Nat×Nat)):cE V W W st (ac (aM st ks) st) w w:=by
 obtain⟨_,z,r⟩:=lO H ks h;exact⟨λq=>⟨(r q).2,λ_=>rfl⟩,λb y=>⟨⟨y.1,by rw[(r b).1];exact y.2⟩,rfl⟩,λ_ h=>h,λ_ _=>rfl,λ_ q j l I u _=>⟨⟨l,(z q j l I u).1,u⟩,rfl,λ_ _=>rfl⟩⟩
theorem step_frz (H:ax V)(h:ap P V W st a w)(ks:List (Nat×Nat)):cE V W (W.frz st ks) st (ac (aE st ks) st) w w:=by
 obtain⟨_,z,r⟩:=ln H ks h;exact⟨λq=>⟨(r q).2,λ_=>rfl⟩,λb y=>⟨⟨y.1,by rw[(r b).1];exact y.2⟩,rfl⟩,λ_ h=>.inl h,λ_ _=>rfl,λ_ q j l I u _=>⟨⟨l,(z q j l I u).1,u⟩,rfl,λ_ _=>rfl⟩⟩
def dp (W:Wit)(ls:List Leaf)(j:Nat):List Nat :=
 match ls[j]? with
 |some (.al r i _)=>W.bs r i
 |_=>[]
theorem wF:∀ {ls:List Leaf} {j r i n:Nat},ls[j]?=some (.al r i n)->ao (aD st (.al r i n))->(r,i)∈bt st ls
 |l::ls,0,r,i,n,h,u=>by
  simp at h;subst h;generalize y:aD st (.al r i n)=q at u;cases q <;> first|exact u.elim|simp[bt,y]
 |l::ls,j+1,r,i,n,h,u=>by
  have:=wF (ls:=ls) (by simpa using h) u;cases l <;> simp[bt,this]
theorem mE:∀ {ls:List Leaf} {j r i n:Nat},ls[j]?=some (.al r i n)->ao (aD st (.al r i n))->(r,i)∈b7 st ls
 |l::ls,0,r,i,n,h,u=>by
  simp at h;subst h;generalize y:aD st (.al r i n)=q at u;cases q <;> first|exact u.elim|simp[b7,y]
 |l::ls,j+1,r,i,n,h,u=>by
  have:=mE (ls:=ls) (by simpa using h) u;cases l <;> simp[b7,this]
theorem nX:∀ {ls:List Leaf} {j y r i n H:Nat},aX (b7 st ls)=true->ls[j]?=some (.al r i n)->ao (aD st (.al r i n)) ->
    ls[y]?=some (.al r i H)->ao (aD st (.al r i H))->j=y
  |l::ls,j,y,r,i,n,H,u,h1,X,M,Y=>by
    have a0:∀ (m:Nat) (k:Nat),l=.al r i m->ao (aD st (.al r i m))->(∃ z,ls[k]?=some (.al r i z)/\ao (aD st (.al r i z)))->False:=by
      rintro m k rfl J ⟨z,R,h6⟩;have Z:=mE R h6;have h8:b7 st (.al r i m::ls)=(r,i)::b7 st ls:=by
        generalize O:aD st (.al r i m)=q at J;cases q <;> first|exact J.elim|simp[b7,O]
      rw[h8]at u;simp only[aX,BD,Bu]at u;have:=u.1;rw[Bv]at this;have:=this _ Z;simp at this
    have I:aX (b7 st ls)=true:=by
      cases l <;> first
        |exact u
        | (rename_i r' y v'
           simp only[b7]at u;split at u
           · simp only[CK,aX]at u
             grind
           · simpa using u)
    cases j with
    |zero =>
      cases y with
      |zero=>rfl
      |succ y =>
        grind
    |succ j =>
      cases y with
      |zero =>
        grind
      |succ y =>
        have:=nX (ls:=ls) I (by simpa using h1) X (by simpa using M) Y;omega
theorem lP (Y:ax V)(h:ap P V W st a w){l:Leaf}{v:Value}(y:aI P V W st w [] l v)(u:¬ ao l) :
  (∃ r i n,l=.al r i n/\ao (aD st l)/\aI P V W st w (W.bs r i) (aD st l) v/\(st r).ls[i]?=some (aD st l)) \/
  (¬ ao (aD st l)/\aI P V W st w [] (aD st l) v):=by
 cases l with
 |al r j n =>
  by_cases z:aD st (.al r j n)=.dead
  ·rw[z];exact .inr ⟨id,trivial⟩
  ·obtain⟨Z,O⟩:=eX rfl z;have M:=y.2 Z;have I:=h.leaf r j _ v O M;by_cases H:ao (aD st (.al r j n))
   ·grind
   ·exact .inr ⟨H,I.carry Y.ro (cE.refl V W st w) (λh=>absurd h H)⟩
 |own p hh E e X=>exact absurd trivial u
 |nal p R ep J E e X =>
  simp only[aD];cases bj st R ep with
  |false=>exact .inr ⟨id,trivial⟩
  |true=>exact .inr ⟨id,y⟩
 |_=>exact .inr ⟨id,y⟩
end
section
variable {P:Program} {V:Env} {W:Wit} {st:St} {w w':World} {a:Act} {o:Oper} {ls:List Leaf} {cs:List Value}
theorem iz {st st':St}(h:∀ q,(st' q).sh=(st q).sh)(b:Nat):live st' b<->live st b:=by simp[live,h]
def aB (st:St)(x:Nat×Nat):Prop:=∃ l,(st x.1).ls[x.2]?=some l/\ao l
def aW (W:Wit)(ks:List (Nat×Nat)):List Nat:=ks.flatMap λx=>W.bs x.1 x.2
theorem dH (W:Wit)(a b:List (Nat×Nat)):aW W (a++b)=aW W a++aW W b:=List.flatMap_append
theorem gh {W:Wit}{ks:List (Nat×Nat)}{k:Nat}:k∈aW W ks<->∃ x∈ks,k∈W.bs x.1 x.2:=List.mem_flatMap
theorem kg {W:Wit}{p:Bool}{ks:List (Nat×Nat)}(u:∀ x∈ks,aB st x):∀ k,bi V W p ks k->gd V (W.frz st ks) p k:=by
 rintro k (r|⟨x,y,r⟩)
 ·exact bT (W':=W.frz st ks) (λh=>h) (λ_ h=>Or.inl h) k r
 ·exact .inl (.inr ⟨x,y,u x y,r⟩)
theorem nE {a b:List (Nat×Nat)}(h:dC a b=true):∀ x∈a,x∉b:=by
 intro x u r;simp only[dC,Bu,Bv]at h;have:=h x u;simp only[CJ,Bv]at this;have:=this x r;simp[it]at this
theorem fD (hV:ax V){W:Wit}{a:Act}{w:World}(h:ap P V W st a w){frz kill:List (Nat×Nat)}(Z:dC frz kill=true)(R:∀ x∈kill,aB st x) :
  ap P V (W.frz st frz) (ac (aM (ac (aE st frz) st) kill++aE st frz) st) a w /\
  (∀ (q i:Nat) (l:Leaf),(ac (aM (ac (aE st frz) st) kill++aE st frz) st q).ls[i]?=some l->ao l->(st q).ls[i]?=some l/\(q,i)∉frz/\(q,i)∉kill) /\
  (∀ q,(ac (aM (ac (aE st frz) st) kill++aE st frz) st q).sh=(st q).sh/\(st q).ver<=(ac (aM (ac (aE st frz) st) kill++aE st frz) st q).ver) /\
  (∀ k∈aW W kill,¬ (W.frz st frz).nw k/\¬ V.prot k/\k<w.heap.size/\(∀ b,live (ac (aM (ac (aE st frz) st) kill++aE st frz) st) b->W.β b≠k) /\
   ∀ (H i:Nat) (l:Leaf),(ac (aM (ac (aE st frz) st) kill++aE st frz) st H).ls[i]?=some l->ao l->k∉W.bs H i):=by
 obtain⟨h1,h2,h3⟩:=ln hV frz h;obtain⟨h4,h5,h6⟩:=lO hV kill h1;rw[<- bz]at h4 h5 h6;have J:∀ q,(ac (aM (ac (aE st frz) st) kill++aE st frz) st q).sh=(st q).sh:=λq=>(h6 q).1.trans (h3 q).1
 have u:∀ (q i:Nat) (l:Leaf),(ac (aM (ac (aE st frz) st) kill++aE st frz) st q).ls[i]?=some l->ao l->(st q).ls[i]?=some l/\(q,i)∉frz/\(q,i)∉kill:=by
  simp_all
 refine⟨h4,u,λq=>⟨J q,BL (h3 q).2 (h6 q).2⟩,λk z=>?_⟩;obtain⟨x,hx,z⟩:=gh.1 z;obtain⟨l,M,r⟩:=R x hx;have h7:=h.ownb x.1 x.2 l M r k z;refine⟨?_,h7.2.1,h.own_lt M r k z,λb hb=>h7.2.2 b ((iz J b).1 hb),λH i l1 h8 h9 Y=>?_⟩
 ·rintro (hn|⟨y,hy,⟨l2,O,I⟩,a0⟩)
  ·grind
  ·obtain⟨e1,e2⟩:=h.sep y.1 y.2 l2 x.1 x.2 l O I M r k a0 z;exact nE Z y hy (by rw[show y=x from Prod.ext e1 e2];exact hx)
 ·obtain⟨X,_,a1⟩:=u H i l1 h8 h9;obtain⟨e1,e2⟩:=h.sep x.1 x.2 l H i l1 M r X h9 k z Y
  simp_all
theorem zu (z:ax V)(h:ap P V W st a w)(frz kill:List (Nat×Nat)):cE V W (W.frz st frz) st (ac (aM (ac (aE st frz) st) kill++aE st frz) st) w w:=by
 obtain⟨J,M,y⟩:=ln z frz h;obtain⟨_,H,r⟩:=lO z kill J;rw[<- bz]at H r;exact⟨λq=>⟨BL (y q).2 (r q).2,λ_=>rfl⟩,λb I=>⟨⟨I.1,by rw[(r b).1,(y b).1];exact I.2⟩,rfl⟩,λ_ h=>.inl h,λ_ _=>rfl,
  λ_ q j l O u _=>⟨⟨l,(M q j l (H q j l O u).1 u).1,u⟩,rfl,λ_ _=>rfl⟩⟩
theorem sr:∀ {ls:List Leaf} {j:Nat} {p:Bool} {ks:List (Nat×Nat×Nat)} {ep:Nat} {E:TypeId} {e:Ty} {xs:List e.den},ls[j]?=some (.nal p ks ep none E e xs)->bj st ks ep=true->∀ k∈ks,(k.1,k.2.1)∈dx st ls
 |l::ls,0,p,ks,ep,E,e,xs,h,u,k,y=>by
  simp at h;subst h;simp only[dx,aD]
  grind
 |l::ls,j+1,p,ks,ep,E,e,xs,h,u,k,y=>by
  have:=sr (ls:=ls) (by simpa using h) u k y;cases l with
  |nal J H I r M O z=>cases r <;> simp[dx,this]
  |_=>simp[dx,this]
theorem su {ls:List Leaf}(h:hM st ls=true):aX (b7 st ls)=true/\dC (dx st ls) (b7 st ls)=true:=by
 simpa[hM]using h
theorem nY (y:aC P V W st w ls cs){x:Nat×Nat}(u:x∈b7 st ls):aB st x:=by
 induction ls generalizing cs with
 |nil=>simp[b7]at u
 |cons l ls z =>
  cases cs with
  |nil=>exact y.elim
  |cons v cs =>
   cases l with
   |al r j n =>
    simp only[b7,BN]at u;rcases u with u|u
    ·split at u
     ·rename_i p J E e I H;simp at u;subst u;exact⟨_,(eX H (by simp)).2,trivial⟩
     ·grind
    ·exact z y.2 u
   |_=>exact z y.2 u
theorem Au {l:Leaf}(h:ao (ge st l)):ao (aD st l)/\ge st l=aD st l:=by
 unfold ge at h ⊢;split at h
 ·exact h.elim
 ·exact⟨h,rfl⟩
theorem oJ (hV:ax V)(h:ap P V W st a w){ls:List Leaf}{cs:List Value}(hl:aC P V W st w ls cs)(b2:hM st ls=true) :
    ap P V (W.frz st (dx st ls)) (ac (mvU st ls) st) a w/\(dG st ls).length=cs.length /\
    (∀ (j:Nat) (l:Leaf) (u:Value),(dG st ls)[j]?=some l->cs[j]?=some u->aI P V (W.frz st (dx st ls)) (ac (mvU st ls) st) w (dp W ls j) l u) /\
    (∀ (j:Nat) (l:Leaf),(dG st ls)[j]?=some l->ao l->∀ k∈dp W ls j,¬ (W.frz st (dx st ls)).nw k/\¬ V.prot k/\k<w.heap.size /\
      (∀ b,live (ac (mvU st ls) st) b->W.β b≠k) /\
      ∀ (r1 j1:Nat) (l1:Leaf),(ac (mvU st ls) st r1).ls[j1]?=some l1->ao l1->k∉W.bs r1 j1) /\
    (∀ (j j':Nat) (l l':Leaf),(dG st ls)[j]?=some l->ao l->(dG st ls)[j']?=some l'->ao l'->∀ k,k∈dp W ls j->k∈dp W ls j'->j=j'):=by
  obtain⟨hd,a9⟩:=su b2;obtain⟨h1,h2,h3,b1⟩:=fD hV h a9 (λx hx=>nY hl hx);have I:=zu hV h (dx st ls) (b7 st ls);show ap P V (W.frz st (dx st ls)) (ac (aM (ac (aE st (dx st ls)) st) (b7 st ls)++aE st (dx st ls)) st) a w/\_;have R:∀ (j:Nat) (l:Leaf),(dG st ls)[j]?=some l->∃ z u,ls[j]?=some z/\cs[j]?=some u/\ge st z=l/\aI P V W st w [] z u/\¬ ao z:=by
    intro j l M;simp only[dG,CF,BO]at M;obtain⟨z,H,X⟩:=M;have b3:j<cs.length:=by rw[<- hl.length];exact (BC.1 H).1
    have O:=BE b3;have h7:=hl.at_ j z _ H O
    simp_all
  have y:∀ (j:Nat) (l:Leaf),(dG st ls)[j]?=some l->ao l->∃ r i n,ls[j]?=some (.al r i n)/\ao (aD st (.al r i n))/\(st r).ls[i]?=some l:=by
    intro j l M ho;obtain⟨z,u,H,X,rfl,O,h7⟩:=R j l M;obtain⟨Y,e0⟩:=Au ho;rcases lP hV h O h7 with ⟨r,i,n,rfl,h8,_,h9⟩|⟨h8,_⟩
    · grind
    · grind
  refine⟨h1,by simp[dG,hl.length],λj l u M hu=>?_,λj l M ho k J=>?_,λj j' l l' M ho a5 Y k J a2=>?_⟩
  · obtain ⟨z, u', H, X, rfl, O, h7⟩ := R j l M
    obtain rfl:u=u':=Option.some.inj (hu.symm.trans X);have a0:ge st z=aD st z->aI P V (W.frz st (dx st ls)) (ac (mvU st ls) st) w (dp W ls j) (ge st z) u:=by
      intro e0;rw[e0];rcases lP hV h O h7 with ⟨r,i,n,rfl,h8,h9,_⟩|⟨h8,h9⟩
      · have:dp W ls j=W.bs r i:=by simp[dp,H]
        rw[this];exact h9.carry hV.ro I (λ_=>⟨rfl,λ_ _=>rfl⟩)
      · exact h9.carry hV.ro I (λh=>absurd h h8)
    by_cases Z:∃ p ks ep E e xs,aD st z=.nal p ks ep none E e xs
    · obtain⟨p,ks,ep,E,e,xs,Z⟩:=Z
      have e0:ge st z=.ro p E e xs:=by unfold ge;rw[Z]
      rw[e0];have a3:z=.nal p ks ep none E e xs/\bj st ks ep=true:=by
        cases z with
        |al r i n=>exact absurd Z iL
        |nal p' a4 b0 b4 E' e' b5 =>
          simp only[aD]at Z;cases hv:bj st a4 b0 with
          |false=>simp[hv]at Z
          |true =>
            simp_all
        |_=>simp[aD]at Z
      obtain⟨rfl,hv⟩:=a3;refine Rd.mono (λk J=>?_) (pu hv O).rd;rcases J with J|⟨x,hx,J⟩
      · exact bT (W':=W.frz st (dx st ls)) (λh=>h) (λ_ h=>Or.inl h) k J
      · exact .inl (.inr ⟨(x.1,x.2.1),sr H hv x hx,(cB hv).2.2 x hx,J⟩)
    · refine a0 ?_
      unfold ge
      grind
  · obtain⟨r,i,n,H,X,O⟩:=y j l M ho
    have e:dp W ls j=W.bs r i:=by simp[dp,H]
    rw[e]at J;exact b1 k (gh.2 ⟨(r,i),mE H X,J⟩)
  · obtain⟨r,i,n,H,X,O⟩:=y j l M ho
    obtain⟨r',i',n',a1,a6,ad⟩:=y j' l' a5 Y;have e:dp W ls j=W.bs r i:=by simp[dp,H]
    have e':dp W ls j'=W.bs r' i':=by simp[dp,a1]
    rw[e]at J;rw[e']at a2;obtain⟨rfl,rfl⟩:=h.sep r i l r' i' l' O ho ad Y k J a2;exact nX hd H X a1 a6
theorem zi (y:ax V)(h:ap P V W st a w)(u:aC P V W st w ls cs)(r:hM st ls=true):∀ q,(ac (mvU st ls) st q).sh=(st q).sh/\(st q).ver<=(ac (mvU st ls) st q).ver :=
 (fD y h (su r).2 (λ_ z=>nY u z)).2.2.1
theorem ap.putMoved (M:ax V)(h:ap P V W st a w){ls:List Leaf}{cs:List Value}(J:aC P V W st w ls cs)(Z:hM st ls=true)
  (d:Nat) (I:d<V.nt) (r:∀ x∈V.fixt,x.1≠d) {sh:aG} {v:Value} (hs:ea sh v cs) :
  Rel P V (ac (ck st (mvU st ls) d sh (dG st ls)) st) (a.put (some d) v) w:=by
 obtain⟨h1,h2,R,u,Y⟩:=oJ M h J Z;exact⟨_,h1.put M d I r _ sh (dG st ls) v cs (dp W ls) (By _) hs h2 J.one' R
  (λj l z y k H=>⟨(u j l z y k H).1,(u j l z y k H).2.1,(u j l z y k H).2.2.2.1,λO X l1 _=>(u j l z y k H).2.2.2.2 O X l1⟩) Y⟩
theorem ap.setBoxG (hV:ax V)(h:ap P V W st a w)(b:Nat)(hb:B0<=b)(n:Nat)(ls:List Leaf)(a3:List Value)(X:Nat->List Nat)(g:Nat)(E:TypeId)
    (hn:(st b).ver<n) (hg:(live st b/\W.β b=g)\/(¬ live st b/\¬ ce V W st g/\∀ (j:Nat) (l:Leaf),ls[j]?=some l->ao l->∀ k∈X j,k≠g)) (bb:w'.heap[g]?=some (.cells a3.toArray E (0,0)))
    (b0:∀ k,ce V W st k->k≠g->w'.heap[k]?=w.heap[k]?) (a6:∀ (j:Nat) (l:Leaf),ls[j]?=some l->ao l->∀ k∈X j,k≠g->w'.heap[k]?=w.heap[k]?) (b4:w.heap.size<=w'.heap.size) (ba:w'.os=w.os) (ht:w'.tape=w.tape) (ho:w'.output=w.output)
    (hl:ls.length=a3.length) (h1:∀ u∈a3,u.oneCell'=true)
    (b1:∀ (j:Nat) (l:Leaf) (u:Value),ls[j]?=some l->a3[j]?=some u->aI P V W st w (X j) l u)
    (ad:∀ (j:Nat) (l:Leaf),ls[j]?=some l->ao l->∀ k∈X j,¬ W.nw k/\¬ V.prot k/\(∀ b,live st b->W.β b≠k) /\
      ∀ (r1 j1:Nat) (l1:Leaf),r1≠b->(st r1).ls[j1]?=some l1->ao l1->k∉W.bs r1 j1)
    (b5:∀ (j j':Nat) (l l':Leaf),ls[j]?=some l->ao l->ls[j']?=some l'->ao l'->∀ k,k∈X j->k∈X j'->j=j') :
    ap P V { W with β:=λr=>if r=b then g else W.β r,cs:=λr=>if r=b then a3 else W.cs r,bs:=λr j=>if r=b then X j else W.bs r j }
      (ac [(b,⟨n,.agg,ls⟩)] st) a w':=by
  have Y:¬ W.nw g/\¬ V.prot g/\(∀ q,q≠b->live st q->W.β q≠g)/\∀ (r1 j1:Nat) (l1:Leaf),(st r1).ls[j1]?=some l1->ao l1->g∉W.bs r1 j1:=by
    rcases hg with ⟨a0,rfl⟩|⟨a0,hg⟩
    · exact⟨(h.box b a0).1,(h.box b a0).2,λq hq b9 e=>hq (h.inj q b b9 a0 e),λr1 j1 l1 y J I=>(h.ownb r1 j1 l1 y J _ I).2.2 b a0 rfl⟩
    · have hu:=hg.1
      simp only[ce,not_or,not_exists,not_and]at hu
      grind
  have b3:∀ (j:Nat) (l:Leaf),ls[j]?=some l->ao l->∀ k∈X j,k≠g:=by
    grind
  have H:∀ q,live (ac [(b,⟨n,.agg,ls⟩)] st) q<->(q=b\/live st q):=by
    intro q;rcases ak b q ⟨n,.agg,ls⟩ st with ⟨e0,e⟩|⟨z,e⟩
    · subst e0
      simp[live,e,hb]
    · simp[live,e,z]
  have M:∀ k,ce V W st k->k≠g->w'.heap[k]?=w.heap[k]?:=b0;have a4:cE V W { W with β:=λr=>if r=b then g else W.β r,cs:=λr=>if r=b then a3 else W.cs r,bs:=λr j=>if r=b then X j else W.bs r j } st (ac [(b,⟨n,.agg,ls⟩)] st) w w':=by
    refine⟨λq=>?_,λq hq=>⟨(H q).2 (.inr hq),?_⟩,λ_ h=>h,λk I=>M k (I.elim .inl (λh=>.inr (.inl h))) ?_,λ_ q j l y J Z=>?_⟩
    · rcases ak b q ⟨n,.agg,ls⟩ st with ⟨rfl,e⟩|⟨z,e⟩
      · grind
      · grind
    · grind
    · grind
    · rcases ak b q ⟨n,.agg,ls⟩ st with ⟨rfl,e⟩|⟨z,e⟩
      · grind
      · rw[e]at y
        refine⟨⟨l,y,J⟩,by simp[z],λk I=>M k (.inr (.inr (.inr ⟨q,j,l,y,J,I⟩))) ?_⟩
        grind
  exact {
    nt:=h.nt,df:=h.df
    slots:=λt b6=>by
      have : t ≠ b := by have : GH <= B0 := by decide
                         omega
      rw[aH this];simpa[this]using h.slots t b6
    boxes:=λq hq=>by
      rcases ak b q ⟨n,.agg,ls⟩ st with ⟨rfl,e⟩|⟨z,e⟩
      · grind
      · rw[e]
        refine (h.boxes q hq).imp id λ⟨y,E',J⟩=>⟨y,E',?_⟩
        simp only[z,if_false];rw[M _ (.inr (.inr (.inl ⟨q,⟨hq,y⟩,rfl⟩))) (Y.2.2.1 q z ⟨hq,y⟩)];exact J
    len:=λq=>by
      rcases ak b q ⟨n,.agg,ls⟩ st with ⟨rfl,e⟩|⟨z,e⟩
      · rw[e];simpa using hl
      · rw[e];simpa[z]using h.len q
    one:=λq u hu=>by
      by_cases hq:q=b
      · grind
      · simp only[hq]at hu;exact h.one q u hu
    leaf:=λq j l u y J=>by
      rcases ak b q ⟨n,.agg,ls⟩ st with ⟨rfl,e⟩|⟨z,e⟩
      · rw[e]at y
        simp only at J;exact (b1 j l u y J).carry hV.ro a4 (λho=>⟨by simp,λk I=>a6 j l y ho k I (b3 j l y ho k I)⟩)
      · rw[e]at y
        simp only[z]at J;refine (h.leaf q j l u y J).carry hV.ro a4 (λho=>⟨by simp[z],λk I=>M k (.inr (.inr (.inr ⟨q,j,l,y,ho,I⟩))) ?_⟩);rintro rfl;exact Y.2.2.2 q j l y ho I
    ownb:=λq j l y J k I=>by
      rcases ak b q ⟨n,.agg,ls⟩ st with ⟨rfl,e⟩|⟨z,e⟩
      · rw[e]at y
        simp only[if_true]at I;have Z:=ad j l y J k I;refine⟨Z.1,Z.2.1,λp hp=>?_⟩;by_cases a2:p=q
        · simp only[a2,if_true];exact λe=>b3 j l y J k I e.symm
        · simp only[a2,if_false];exact Z.2.2.1 p (((H p).1 hp).resolve_left a2)
      · rw[e]at y
        simp only[z,if_false]at I;have Z:=h.ownb q j l y J k I;refine⟨Z.1,Z.2.1,λp hp=>?_⟩;by_cases a2:p=b
        · simp only[a2,if_true];rintro rfl;exact Y.2.2.2 q j l y J I
        · simp only[a2,if_false];exact Z.2.2 p (((H p).1 hp).resolve_left a2)
    sep:=λq j l q' j' l' y J Z h5 k I a1=>by
      rcases ak b q ⟨n,.agg,ls⟩ st with ⟨e0,e⟩|⟨z,e⟩ <;> rcases ak b q' ⟨n,.agg,ls⟩ st with ⟨e1,e'⟩|⟨a5,e'⟩
      · rw[e]at y;rw[e']at Z
        simp only[e0,if_true]at I;simp only[e1,if_true]at a1;exact⟨e0.trans e1.symm,b5 j j' l l' y J Z h5 k I a1⟩
      · rw[e]at y;rw[e']at Z
        simp only[e0,if_true]at I;simp only[a5,if_false]at a1;exact absurd a1 ((ad j l y J k I).2.2.2 q' j' l' a5 Z h5)
      · rw[e]at y;rw[e']at Z
        simp only[z,if_false]at I;simp only[e1,if_true]at a1
        grind
      · rw[e]at y;rw[e']at Z
        simp only[z]at I;simp only[a5,if_false]at a1;exact h.sep q j l q' j' l' y J Z h5 k I a1
    box:=λq hq=>by
      by_cases O:q=b
      · simp only[O,if_true];exact⟨Y.1,Y.2.1⟩
      · simp only[O,if_false];exact h.box q (((H q).1 hq).resolve_left O)
    inj:=λq q' hq b2 e=>by
      by_cases O:q=b <;> by_cases R:q'=b
      · omega
      · simp only[O,if_true,R,if_false]at e
        exact absurd e.symm (Y.2.2.1 q' R (((H q').1 b2).resolve_left R))
      · simp only[O,if_false,R,if_true]at e
        exact absurd e (Y.2.2.1 q O (((H q).1 hq).resolve_left O))
      · simp only[O,if_false,R,if_false]at e
        exact h.inj q q' (((H q).1 hq).resolve_left O) (((H q').1 b2).resolve_left R) e
    nwlt:=λk I=>⟨BW (h.nwlt k I).1 b4,(h.nwlt k I).2⟩
    os:=ba.trans h.os,tape:=ht.trans h.tape,output:=ho.trans h.output,size:=BL h.size b4
    keep:=λk hp=>by
      rw[M k (.inr (.inl hp)) (by rintro rfl;exact Y.2.1 hp)];exact h.keep k hp
    fixb:=λx hx=>by
      obtain⟨y,J⟩:=h.fixb x hx;refine⟨(H _).2 (.inr y),?_⟩;by_cases a9:x.1=b
      · simp only[a9,if_true]
        rcases hg with ⟨_,e⟩|⟨a0,_⟩
        · rw[<- e,<- a9];exact J
        · exact absurd (a9 ▸ y) a0
      · simpa only[a9,if_false]using J
    fixt:=h.fixt }
theorem ap.setBox (hV:ax V)(h:ap P V W st a w)(b:Nat)(hb:B0<=b)(n:Nat)(ls:List Leaf)(z:List Value)(H:Nat->List Nat)(g:Nat)(E:TypeId)
  (hn:(st b).ver<n) (hg:(live st b/\W.β b=g)\/(¬ live st b/\w.heap.size<=g)) (Y:w'.heap[g]?=some (.cells z.toArray E (0,0)))
  (I:∀ k,k<w.heap.size->k≠g->w'.heap[k]?=w.heap[k]?) (a0:w.heap.size<=w'.heap.size) (a1:w'.os=w.os) (ht:w'.tape=w.tape) (ho:w'.output=w.output)
  (hl:ls.length=z.length) (h1:∀ u∈z,u.oneCell'=true)
  (X:∀ (j:Nat) (l:Leaf) (u:Value),ls[j]?=some l->z[j]?=some u->aI P V W st w (H j) l u)
  (y:∀ (j:Nat) (l:Leaf),ls[j]?=some l->ao l->∀ k∈H j,¬ W.nw k/\¬ V.prot k/\k<w.heap.size/\(∀ b,live st b->W.β b≠k) /\
   ∀ (r1 j1:Nat) (l1:Leaf),r1≠b->(st r1).ls[j1]?=some l1->ao l1->k∉W.bs r1 j1)
  (Z:∀ (j j':Nat) (l l':Leaf),ls[j]?=some l->ao l->ls[j']?=some l'->ao l'->∀ k,k∈H j->k∈H j'->j=j') :
  ap P V { W with β:=λr=>if r=b then g else W.β r,cs:=λr=>if r=b then z else W.cs r,bs:=λr j=>if r=b then H j else W.bs r j }
   (ac [(b,⟨n,.agg,ls⟩)] st) a w' :=
 h.setBoxG hV b hb n ls z H g E hn (hg.imp id λ⟨h2,h3⟩=>⟨h2,λhu=>by have:=h.used_lt g hu;omega,λj l O M k J=>by have:=(y j l O M k J).2.2.1;omega⟩) Y
  (λk J R=>I k (h.used_lt k J) R) (λj l O M k J R=>I k (y j l O M k J).2.2.1 R) a0 a1 ht ho hl h1 X
  (λj l O M k J=>⟨(y j l O M k J).1,(y j l O M k J).2.1,(y j l O M k J).2.2.2.1,(y j l O M k J).2.2.2.2⟩) Z
theorem ei (z:aC P V W st w ls cs){x:Nat×Nat}(u:x∈bt st ls):aB st x:=by
 induction ls generalizing cs with
 |nil=>simp[bt]at u
 |cons l ls H =>
  cases cs with
  |nil=>exact z.elim
  |cons v cs =>
   cases l with
   |al r j n =>
    simp only[bt,BN]at u;rcases u with u|u
    ·split at u
     ·rename_i p X E e O y;simp at u;subst u;exact⟨_,(eX y (by simp)).2,trivial⟩
     ·grind
    ·exact H z.2 u
   |nal p M ep J E e O =>
    simp only[bt,BN]at u;rcases u with u|u
    ·split at u
     ·rename_i y;simp only[aD]at y;cases I:bj st M ep with
      |false=>simp[I]at y
      |true =>
       obtain⟨k,R,rfl⟩:=List.mem_map.1 u;exact (cB I).2.2 k R
     ·grind
    ·exact H z.2 u
   |_=>exact H z.2 u
theorem Bn (z:aC P V W st w ls cs){ks:List (Nat×Nat)}(u:∀ x∈bt st ls,x∈ks)(p:Bool):∀ k,bi V W p (bt st ls) k->gd V (W.frz st ks) p k:=by
 intro k r;rcases r with r|⟨x,y,r⟩
 ·exact bT (W':=W.frz st ks) (λh=>h) (λ_ h=>Or.inl h) k r
 ·exact .inl (.inr ⟨x,u x y,ei z y,r⟩)
end
section
variable {P:Program} {V:Env} {Γ:List Ctr} {T:TypeId->TI} {st:St} {o:Oper} {R:Type} {κ:Upd->Option R} {r:R}
def bV (P:Program)(V:Env)(o:Oper)(st:St)(κ:Upd->Option R)(r:R):Prop :=
 ∃ U,κ U=some r/\∀ W a w,ap P V W st a w->mD P V o st U a w
theorem xZ (I:ax V)(y:bM V o){x:Operand}(u:o.op=.move x)(h:act Γ T o st κ=some r):bV P V o st κ r:=by
 simp only[act,wrU,u]at h;split at h
 ·rename_i d J;refine⟨_,h,λW a w z=>?_⟩;obtain⟨O,M,H⟩:=cS z x;exact dX I z J y (by simp[execOp,u]) M H
 ·grind
theorem vo (M:ax V)(y:bM V o){x:Operand}(z:o.op=.assign x)(h:act Γ T o st κ=some r):bV P V o st κ r:=by
 simp only[act,z]at h;split at h
 ·rename_i d H;cases u:hM st (au st x).2 with
  |false=>simp[u]at h
  |true =>
   simp only[u]at h;refine⟨_,h,λW a w I=>?_⟩;obtain⟨Y,O,J⟩:=cS I x;intro next Q X;refine dW (v:=a.eval x) (w':=w) (by simp[execOp,z]) ?_;rw[H];exact X _ _ (I.putMoved M J u d (y d H).1 (y d H).2 O)
 ·grind
theorem x3 (O:ax V)(H:bM V o){c x y:Operand}(z:o.op=.pick c x y)(h:act Γ T o st κ=some r):bV P V o st κ r:=by
 simp only[act,wrU,z]at h;split at h
 ·rename_i t X;cases t with
  |true =>
   split at h
   ·rename_i d J;refine⟨_,h,λW a w u=>?_⟩;obtain⟨Y,M,I⟩:=cS u x;exact dX O u J H (v:=a.eval x) (by simp[execOp,z,ia u X,asBool]) M I
   ·grind
  |false =>
   split at h
   ·rename_i d J;refine⟨_,h,λW a w u=>?_⟩;obtain⟨Y,M,I⟩:=cS u y;exact dX O u J H (v:=a.eval y) (by simp[execOp,z,ia u X,asBool]) M I
   ·grind
 ·grind
theorem sv (hV:ax V)(a0:bM V o){x:Operand}(X:o.op=.nilCheck x)(h:act Γ T o st κ=some r):bV P V o st κ r:=by
 simp only[act,wrU,X]at h;have I:∀ {l:Leaf} {d:Nat},one st x=l->l≠.dead->(∀ W a w,ap P V W st a w->aI P V W st w [] l (a.eval x)->∃ ad,a.eval x=.pointer (some ad))->o.dst=some d ->
   ∀ W a w,ap P V W st a w->mD P V o st (ck st [] d .one [l]) a w:=by
  intro l d z Y hp H W a w M;obtain⟨Z,h2,h3,_⟩:=bo M x (by rw[z];exact Y);rw[z]at Z h2;obtain⟨ad,O⟩:=hp W a w M Z;exact aN hV M H a0 (v:=a.eval x) (by simp[execOp,X,O]) Z h2 h3
 split at h
 ·split at h
  ·rename_i z _ d H;exact⟨_,h,I z (by simp) (λW a w M u=>by obtain⟨g,o',c,O,_⟩:=u;exact⟨_,O⟩) H⟩
  ·grind
 ·split at h
  ·rename_i z _ d H;exact⟨_,h,I z (by simp) (λW a w M u=>⟨_,u.2.2⟩) H⟩
  ·grind
 ·rename_i r' j v i sz off z;cases J:BA (st r').ver v with
  |false=>simp[J]at h
  |true =>
   simp only[J]at h;split at h
   ·rename_i d H;refine⟨_,h,I z (by simp) (λW a w M u=>?_) H⟩;obtain⟨g,a1,a2,_,_,O⟩:=u.2 (BB J)
    simp_all
   ·grind
 ·split at h
  ·rename_i z _ d H;exact⟨_,h,I z (by simp) (λW a w M u=>by obtain⟨b,ob,g,o',c,O,_⟩:=u;exact⟨_,O⟩) H⟩
  ·grind
 ·rename_i p ks ep b y off z;cases J:bj st ks ep with
  |false=>simp[J]at h
  |true =>
   simp only[J]at h;split at h
   ·rename_i d H;refine⟨_,h,I z (by simp) (λW a w M u=>?_) H⟩;obtain⟨g,o',c,O,_⟩:=(u.2.2 (cB J).1 (cB J).2.1 (cB J).2.2:NpOk V W w p ks b y off _).rd
    simp_all
   ·grind
 ·grind
theorem x4 (J:ax V)(z:bM V o){M:UnOp}{t:TypeId}{x:Operand}(u:o.op=.unOp M t x)(h:act Γ T o st κ=some r):bV P V o st κ r:=by
 simp only[act,wrU,u]at h;split at h
 ·rename_i b H;split at h
  ·rename_i d I;exact⟨_,h,λW a w y=>aN J y I z (v:=.bool (!b)) (by simp[execOp,u,ia y H,Op.unary]) rfl id rfl⟩
  ·grind
 ·rename_i k n H;split at h
  ·rename_i d I;exact⟨_,h,λW a w y=>aN J y I z (v:=.int k (k.wrap (0-n))) (by simp[execOp,u,bC y H,Op.unary,Op.intArith]) rfl id rfl⟩
  ·grind
 ·grind
theorem tU (hV:ax V)(a0:bM V o){x:Operand}{i:Nat}(H:o.op=.extract x i)(h:act Γ T o st κ=some r):bV P V o st κ r:=by
 simp only[act,wrU,H]at h;split at h
 ·rename_i u ls he;split at h
  ·rename_i agg n hp;split at h
   ·rename_i d hd;refine⟨_,h,λW a w hr=>?_⟩;obtain⟨y,hs,hl⟩:=cS hr x;rw[he]at hs hl;obtain⟨z,hv,M⟩:=hs;have X:∀ (u:List (Bool×Nat)) (z y:List Value) (i:Nat) (off:Nat),pt u z y->u[i]?=some (agg,n) ->
      ∃ v,z[i]?=some v/\c9 agg v ((y.drop ((u.take i).foldl (λa b=>a+b.2) off-off)).take n)/\off<=(u.take i).foldl (λa b=>a+b.2) off:=by
     intro u;induction u with
     |nil=>intro z y i off _ I;simp at I
     |cons p u ih =>
      rintro z y i off ⟨v,Y,c,O,rfl,rfl,hc,a1,M⟩ I;cases i with
      |zero =>
       simp_all
      |succ i =>
       obtain⟨v',Z,J,h3⟩:=ih Y O i (off+p.2) M (by simpa using I);refine⟨v',by simpa using Z,?_,by simp;omega⟩;simp;have e:(u.take i).foldl (λa b=>a+b.2) (off+p.2)-off=c.length+((u.take i).foldl (λa b=>a+b.2) (off+p.2)-(off+p.2)):=by omega
       rw[e,<- CN,List.drop_left];exact J
    obtain⟨v,Z,J,_⟩:=X u z y i 0 M hp;refine dX hV hr hd a0 (v:=v) ?_ (j8 J) ((hl.drop _).take n);simp[execOp,H,hv,Instr.extract,Z]
   ·grind
  ·grind
 ·grind
theorem uC {W:Wit}{a:Act}{w:World}(M:ap P V W st a w):∀ (xs:List Operand) (u l:List Nat),
  xs.foldl (λ (u:Option (List Nat)) x=>u.bind λl=>match one st x with|.bp b 0=>some (l++[b])|_=>none) (some u)=some l ->
  ∃ y,l=u++y/\xs.map a.eval=y.map (λb=>Value.pointer (some ⟨W.β b,0,none⟩))/\∀ b∈y,B0<=b/\(st b).sh=.agg
 |[],u,l,h=>⟨[],by simpa using h.symm,rfl,by simp⟩
 |x::xs,u,l,h=>by
  simp at h;have H:∀ (xs:List Operand),xs.foldl (λ (u:Option (List Nat)) x=>u.bind λl=>match one st x with|.bp b 0=>some (l++[b])|_=>none) none=none:=by
   intro xs;induction xs with
   |nil=>rfl
   |cons x xs X=>simpa using X
  split at h
  ·rename_i b J;obtain⟨y,Y,O,Z⟩:=uC M xs (u++[b]) l h;have z:=(bo M x (by rw[J];simp)).1;rw[J]at z;refine⟨b::y,by simp[Y],?_,?_⟩
   ·simp only[CP,O];rw[show a.eval x=_ from z.2.2]
   ·intro q I;rcases CA.1 I with rfl|I
    ·exact⟨z.1,z.2.1⟩
    ·grind
  ·grind
theorem sw (Y:ax V)(z:bM V o){fn:Fn}{first caps:Array Operand}(u:o.op=.makeFunc fn first caps)(h:act Γ T o st κ=some r):bV P V o st κ r:=by
 cases fn with
 |func f =>
  simp only[act,wrU,u]at h;cases y:BA first.size 0 with
  |false=>simp[y]at h
  |true =>
   simp only[y]at h;split at h
   ·rename_i l M;split at h
    ·rename_i d J;refine⟨_,h,λW a w H=>?_⟩;obtain⟨l',Z,O,I⟩:=uC H caps.toList [] l M;subst Z;have X:first=#[]:=Array.eq_empty_of_size_eq_zero (BB y)
     refine aN Y H J z (v:=.func (.func f) #[] (l.map λb=>Value.pointer (some ⟨W.β b,0,none⟩)).toArray) ?_ ⟨rfl,I⟩ id rfl;rw[<- O];simp[execOp,u,Instr.makeFunc,X,<- Bz]
    ·grind
   ·grind
 |_=>simp[act,u]at h
theorem gi {α:Type}{xs:List α}{i:Int}{x:α}(h:idx xs i=some x):0<=i/\i<xs.length/\xs[i.toNat]?=some x:=by
 unfold idx at h
 grind
end
section
variable {P:Program} {V:Env} {Γ:List Ctr} {T:TypeId->TI} {st:St} {o:Oper} {R:Type} {κ:Upd->Option R} {r:R}
theorem wG {W:Wit}{a:Act}{w:World}(H:ap P V W st a w){x:Operand}{b:Ty}{p:Bool}{u:b.den}(z:(au st x).1=.agg)(M:cO st b (au st x).2=some (p,u)) :
  ∃ y G,a.eval x=.agg y.toArray/\Rd w G b u y:=by
 obtain⟨y,I,J⟩:=cS H x;rw[z]at I;exact⟨y,_,I,ey H J M⟩
theorem lp {t:TypeId}(y:P.underlying t=some .bool)(b u:Bool)(w:World):(Op.equal t (.bool b) (.bool u)).run P w=.ok (b==u) w:=by
 have e:Op.maxDepth=9999+1:=rfl;unfold Op.equal;rw[e];generalize 9999=m;unfold Op.equalIn;rw[BQ,run_underlying y];rfl
theorem wH (Z:ax V)(hT:TOk P T)(J:bM V o){op:BinOp}{t t':TypeId}{x y:Operand}(H:o.op=.binOp op t x y t')(h:act Γ T o st κ=some r):bV P V o st κ r:=by
  simp only[act,wrU,H]at h;split at h
  · rename_i k m k' n X O
    cases op
    case shl =>
      simp only at h;cases Y:decide (n<0) with
      |true=>simp[Y]at h
      |false =>
        simp only[Y,cond_false]at h;split at h
        · rename_i d M
          refine⟨_,h,λW a w z=>aN Z z M J (v:=.int k (k.wrap (m*2 ^ (min n.toNat k.bits)))) ?_ rfl id rfl⟩;have:¬ n<0:=of_decide_eq_false Y;simp[execOp,H,bC z X,bC z O,eqGuard,Go.binOp,Op.shift,this]
        · cases h
    case shr =>
      simp only at h;cases Y:decide (n<0) with
      |true=>simp[Y]at h
      |false =>
        simp only[Y,cond_false]at h;split at h
        · rename_i d M
          refine⟨_,h,λW a w z=>aN Z z M J (v:=.int k (m.fdiv (2 ^ (min n.toNat k.bits)))) ?_ rfl id rfl⟩;have:¬ n<0:=of_decide_eq_false Y;simp[execOp,H,bC z X,bC z O,eqGuard,Go.binOp,Op.shift,this]
        · cases h
    case quo =>
      simp only at h;cases Y:decide (n=0) with
      |true=>simp[Y]at h
      |false =>
        simp only[Y,cond_false]at h;cases I:decide (k=k') with
        |false=>simp[I]at h
        |true =>
          simp only[I,cond_true]at h;have I:=of_decide_eq_true I;subst I;split at h
          · rename_i d M
            refine⟨_,h,λW a w z=>aN Z z M J (v:=.int k (k.wrap (m.tdiv n))) ?_ rfl id rfl⟩;have:¬ n=0:=of_decide_eq_false Y;simp[execOp,H,bC z X,bC z O,eqGuard,Go.binOp,Op.intDiv,this]
          · cases h
    case rem =>
      simp only at h;cases Y:decide (n=0) with
      |true=>simp[Y]at h
      |false =>
        simp only[Y,cond_false]at h;cases I:decide (k=k') with
        |false=>simp[I]at h
        |true =>
          simp only[I,cond_true]at h;have I:=of_decide_eq_true I;subst I;split at h
          · rename_i d M
            refine⟨_,h,λW a w z=>aN Z z M J (v:=.int k (m.tmod n)) ?_ rfl id rfl⟩;have:¬ n=0:=of_decide_eq_false Y;simp[execOp,H,bC z X,bC z O,eqGuard,Go.binOp,Op.intDiv,this]
          · cases h
    case and =>
      simp only at h;cases I:decide (k=k') with
      |false=>simp[I]at h
      |true =>
        simp only[I,cond_true]at h;have I:=of_decide_eq_true I;subst I;split at h
        · rename_i d M
          refine⟨_,h,λW a w z=>aN Z z M J (v:=.int k (k.wrap ((BitVec.ofInt k.bits m &&& BitVec.ofInt k.bits n).toNat))) ?_ rfl id rfl⟩;simp[execOp,H,bC z X,bC z O,eqGuard,Go.binOp,Op.intBits]
        · cases h
    case xor =>
      simp only at h;cases I:decide (k=k') with
      |false=>simp[I]at h
      |true =>
        simp only[I,cond_true]at h;have I:=of_decide_eq_true I;subst I;split at h
        · rename_i d M
          refine⟨_,h,λW a w z=>aN Z z M J (v:=.int k (k.wrap ((BitVec.ofInt k.bits m ^^^ BitVec.ofInt k.bits n).toNat))) ?_ rfl id rfl⟩;simp[execOp,H,bC z X,bC z O,eqGuard,Go.binOp,Op.intBits]
        · cases h
    all_goals
      simp only at h;cases I:decide (k=k') with
      |false=>simp[I]at h
      |true =>
        simp only[I,cond_true]at h;have I:=of_decide_eq_true I;subst I;split at h
        · rename_i l hl
          split at h
          · rename_i d M
            refine⟨_,h,λW a w z=>?_⟩;obtain⟨v,h1,h2,h3,h4⟩:=vn (P:=P) (V:=V) (W:=W) (st:=st) (w:=w) _ k t t' x y m n l hl (bC z X) (bC z O) H;exact aN Z z M J h1 h2 h3 h4
          · cases h
        · cases h
  · rename_i b b' X O
    cases ht:T t with
    |bool =>
      have h1:=hT t;rw[ht]at h1;simp only[ht]at h;cases op <;> simp only at h <;> first
        |cases h;done
        | (split at h
           · rename_i d M
             first
               |exact⟨_,h,λW a w z=>aN Z z M J (v:=.bool (b==b')) (by simp[execOp,H,ia z X,ia z O,eqGuard,Go.binOp,lp h1.1]) rfl id rfl⟩
               |exact⟨_,h,λW a w z=>aN Z z M J (v:=.bool (b != b')) (by simp[execOp,H,ia z X,ia z O,eqGuard,Go.binOp,lp h1.1,bne]) rfl id rfl⟩
           · cases h)
    |_=>simp[ht]at h
  · rename_i b b' X O
    cases op <;> simp only at h <;> first
      |cases h;done
      | (cases a0 : decide (b.size + b'.size <= 9223372036854775807) with
         |false=>rw[a0]at h;cases h
         |true =>
           rw[a0]at h;simp only[cond_true]at h;split at h
           · rename_i d M
             refine⟨_,h,λW a w z=>aN Z z M J (v:=.string (b++b')) ?_ rfl id rfl⟩;have:(b.size:Int)+b'.size<=9223372036854775807:=by have:=of_decide_eq_true a0;omega
             simp[execOp,H,iy z X,iy z O,eqGuard,Go.binOp,Op.stringOp,this]
           · cases h)
      | (split at h
         · rename_i d M
           first
             |exact⟨_,h,λW a w z=>aN Z z M J (v:=.bool (b.toList==b'.toList)) (by simp[execOp,H,iy z X,iy z O,eqGuard,Go.binOp,Op.stringOp]) rfl id rfl⟩
             |exact⟨_,h,λW a w z=>aN Z z M J (v:=.bool (b.toList != b'.toList)) (by simp[execOp,H,iy z X,iy z O,eqGuard,Go.binOp,Op.stringOp,bne]) rfl id rfl⟩
         · cases h)
  · cases ht:T t with
    |struct b b1 =>
      have h1:=hT t;rw[ht]at h1;obtain⟨_,_,_,a9,a2⟩:=h1;simp only[ht]at h;cases hf:b.flat&&decide ((au st x).1=.agg)&&decide ((au st y).1=.agg) with
      |false=>simp[hf]at h
      |true =>
        simp only[hf,cond_true]at h;simp only[BD,decide_eq_true_eq]at hf;obtain⟨⟨hf,a5⟩,a3⟩:=hf;split at h
        · rename_i p u q v b0 a6
          have a1:∀ (W:Wit) (a:Act) (w:World),ap P V W st a w->(Op.equal t (a.eval x) (a.eval y)).run P w=.ok (b.eqv u v) w/\(∃ cx cy:Array Value,a.eval x=.agg cx/\a.eval y=.agg cy):=by
            intro W a w z;obtain⟨cx,G,X,ad⟩:=wG z a5 b0;obtain⟨cy,G',O,a4⟩:=wG z a3 a6;rw[X,O];exact⟨a9 hf w G u v cx cy ad (Rd.flat hf a4),_,_,rfl,rfl⟩
          cases op <;> simp only at h <;> first
            |cases h;done
            | (split at h
               · rename_i d M
                 first
                   | (refine ⟨_, h, λW a w z => aN Z z M J (v := .bool (b.eqv u v)) ?_ rfl id rfl⟩
                      obtain⟨h2,cx,cy,X,O⟩:=a1 W a w z;rw[X,O]at h2;simp[execOp,H,X,O,eqGuard,Go.binOp,a2,h2];done)
                   | (refine ⟨_, h, λW a w z => aN Z z M J (v := .bool (!b.eqv u v)) ?_ rfl id rfl⟩
                      obtain⟨h2,cx,cy,X,O⟩:=a1 W a w z;rw[X,O]at h2;simp[execOp,H,X,O,eqGuard,Go.binOp,a2,h2])
               · cases h)
        · cases h
    |_=>simp[ht]at h
end
section
variable {P:Program} {V:Env} {Γ:List Ctr} {T:TypeId->TI} {st:St} {o:Oper} {R:Type} {κ:Upd->Option R} {r:R}
theorem eT (g off n:Nat):(⟨g,off,none⟩:Addr).add n=⟨g,off+n,none⟩:=by
 unfold Addr.add;split <;> simp_all
theorem dt {t:TypeId}{n:Nat}(h:bP P t n)(w:World):(sizeOf t).run P w=.ok n w:=by
 unfold bP at h;cases u:P.info? t with
 |none=>simp[u]at h
 |some i =>
  simp[u]at h;simp[sizeOf,typeInfo,u,h]
theorem gj {t:TypeId}{z:Value}(h:d4 P t z)(w:World):(zeroValue t).run P w=.ok z w:=by
 unfold d4 at h;cases u:P.info? t with
 |none=>simp[u]at h
 |some i =>
  simp[u]at h;simp[zeroValue,typeInfo,u,h]
theorem rP (hV:ax V)(hT:TOk P T)(M:bM V o){t:TypeId}{x:Operand}{f:Nat}(a0:o.op=.fieldAddr t x f)(h:act Γ T o st κ=some r):bV P V o st κ r:=by
 simp only[act,wrU,a0]at h;cases ht:T t with
 |struct b a5 =>
  simp only[ht]at h;split at h
  ·rename_i off n agg hf;have h1:=hT t;rw[ht]at h1;obtain⟨⟨fs,hu,_,a2⟩,_⟩:=h1;obtain⟨_,fd,h2,h3,h4,h5,h6,_⟩:=a2 f off n agg hf;have J:∀ (a:Act) (w:World) (g O:Nat),a.eval x=.pointer (some ⟨g,O,none⟩)->(execOp a.eval o).run P w=.ok (.value (.pointer (some ⟨g,O+off,none⟩))) w:=by
    intro a w g O Z;have u:=dt h6 w;have h8:n≠0:=by omega
    simp[execOp,a0,Z,Instr.fieldAt,run_underlying hu,h2,B5,fieldPlace,u,h8,eT]
   split at h
   ·rename_i p b' y O z;split at h
    ·rename_i d Y;refine⟨_,h,λW a w H=>?_⟩;obtain⟨u,_,_,_⟩:=bo H x (by rw[z];simp);rw[z]at u;obtain⟨g,og,c,Z,hg,X,hc⟩:=u;exact aN hV H Y M (J a w g _ Z) ⟨g,og,c,by rw[Bw],hg,X,hc⟩ id rfl
    ·grind
   ·rename_i b' O z;split at h
    ·rename_i d Y;refine⟨_,h,λW a w H=>?_⟩;obtain⟨u,_,_,_⟩:=bo H x (by rw[z];simp);rw[z]at u;exact aN hV H Y M (J a w _ _ u.2.2) ⟨u.1,u.2.1,rfl⟩ id rfl
    ·grind
   ·rename_i r' j v i sz O z;cases I:BA (st r').ver v with
    |false=>simp[I]at h
    |true =>
     simp only[I]at h;split at h
     ·rename_i d Y;refine⟨_,h,λW a w H=>?_⟩;obtain⟨u,_,_,_⟩:=bo H x (by rw[z];simp);rw[z]at u;obtain⟨g,a1,a4,hh,a3,Z⟩:=u.2 (BB I);exact aN hV H Y M (J a w g _ Z) ⟨u.1,λ_=>⟨g,a1,a4,hh,a3,by rw[Bw]⟩⟩ id rfl
     ·grind
   ·rename_i p ks ep b' y O z;cases I:bj st ks ep with
    |false=>simp[I]at h
    |true =>
     simp only[I]at h;split at h
     ·rename_i d Y;refine⟨_,h,λW a w H=>?_⟩;obtain⟨u,_,_,_⟩:=bo H x (by rw[z];simp);rw[z]at u;have h8:NpOk V W w p ks b' y O _:=u.2.2 (cB I).1 (cB I).2.1 (cB I).2.2;obtain⟨g,og,c,Z,hg,X,hc⟩:=h8.rd;exact aN hV H Y M (J a w g _ Z) ⟨u.1,u.2.1,λ_ _ _=>⟨g,og,c,by rw[Bw],hg,X,hc⟩⟩ id rfl
     ·grind
   ·grind
  ·grind
 |_=>simp[ht]at h
theorem rQ (hV:ax V)(hT:TOk P T)(a0:bM V o){t:TypeId}{x i:Operand}(a3:o.op=.indexAddr t x i)(h:act Γ T o st κ=some r):bV P V o st κ r:=by
 simp only[act,wrU,a3]at h;split at h
 ·rename_i k n hi;cases ht:T t with
  |slice E e ad =>
   simp only[ht]at h;have h1:=hT t;rw[ht]at h1;obtain⟨hu,_,_,b6,_,ti,z,b2,b0,_⟩:=h1;have hE:bP P E e.cells:=by simp[bP,b2,b0]
   have a2:∀ (W:Wit) (a:Act) (w:World) (g Z O I:Nat),ap P V W st a w->0<=n->n<O->a.eval x=.slice (some ⟨g,Z,none⟩) O I ->
     (execOp a.eval o).run P w=.ok (.value (.pointer (some ⟨g,Z+n.toNat*e.cells,none⟩))) w:=by
    intro W a w g Z O I H h0 h1 M;have Y:=dt hE w;simp[execOp,a3,M,bC H hi,CQ,asIntOf,run_underlying hu,h0,h1,Y,eT]
   split at h
   ·rename_i r' j v X;split at h
    ·rename_i p hh E' e' xs b3;cases u:BA e'.cells e.cells with
     |false=>simp[u]at h
     |true =>
      simp only[u]at h;have u:=BB u;obtain⟨y,hy,h⟩:=BJ.1 h;obtain⟨Y,h3,h4⟩:=gi hy;split at h
      ·rename_i d hd;refine⟨_,h,λW a w H=>?_⟩;obtain⟨J,_,_,_⟩:=bo H x (by rw[X];simp);rw[X]at J;obtain⟨h8,h9,bb,bl⟩:=ke H b3 J;obtain⟨_,b4,ba,ho,b9,_⟩:=h9;rcases ho.2 with ⟨hn,h0⟩|⟨g,a1,bn,_,M,_,_,_⟩
       ·omega
       ·refine aN hV H hd a0 (a2 W a w g 0 xs.length a1 H Y h3 M) ⟨by omega,λ_=>⟨g,xs.length,a1,by rw[h8,M],by omega,by simp[u]⟩⟩ id rfl
      ·grind
    ·grind
   ·rename_i p E' e' xs X;cases u:BA e'.cells e.cells with
    |false=>simp[u]at h
    |true =>
     simp only[u]at h;have u:=BB u;obtain⟨y,hy,h⟩:=BJ.1 h;obtain⟨Y,h3,h4⟩:=gi hy;split at h
     ·rename_i d hd;refine⟨_,h,λW a w H=>?_⟩;obtain⟨J,_,_,_⟩:=bo H x (by rw[X];simp);rw[X]at J;obtain⟨A,I,M,a9,a5⟩:=J;have M:a.eval x=.slice A xs.length I:=by simpa using M
      obtain⟨g,Z,rfl,hg,a4⟩:=a5 (by omega);obtain⟨c,hc,a6⟩:=a4 n.toNat y h4;refine aN hV H hd a0 (a2 W a w g Z xs.length I H Y h3 M) ⟨g,Z+n.toNat*e'.cells,c,by rw[u];rfl,?_,hc,a6⟩ id rfl;rcases hg with hg|⟨_,hg⟩
      ·grind
      ·exact .inr (hV.ro g hg)
     ·grind
   ·rename_i p ks ep b5 E' e' xs X;cases u:BA e'.cells e.cells&&bj st ks ep with
    |false=>simp[u]at h
    |true =>
     simp only[u]at h;simp only[BD]at u;obtain⟨u,b1⟩:=u;have u:=BB u;obtain⟨y,hy,h⟩:=BJ.1 h;obtain⟨Y,h3,h4⟩:=gi hy;split at h
     ·rename_i d hd;refine⟨_,h,λW a w H=>?_⟩;obtain⟨J,_,_,_⟩:=bo H x (by rw[X];simp);rw[X]at J;have h8:=pu b1 J;obtain⟨A,I,M,a9,a5⟩:=h8.rd;have M:a.eval x=.slice A xs.length I:=by simpa using M
      obtain⟨g,Z,rfl,hg,a4⟩:=a5 (by omega);obtain⟨c,hc,a6⟩:=a4 n.toNat y h4;exact aN hV H hd a0 (a2 W a w g Z xs.length I H Y h3 M) ⟨J.1,J.2.1,λ_ _ _=>⟨g,Z+n.toNat*e'.cells,c,by rw[u];rfl,hg,hc,a6⟩⟩ id rfl
     ·grind
   ·grind
  |arr e O =>
   simp only[ht]at h;have h1:=hT t;rw[ht]at h1;obtain⟨⟨E,hu,hE,_⟩,_⟩:=h1;split at h
   ·rename_i b off X;cases u:decide (0<=n)&&decide (n<(O:Int)) with
    |false=>simp[u]at h
    |true =>
     simp only[u]at h;simp at u;split at h
     ·rename_i d hd;refine⟨_,h,λW a w H=>?_⟩;obtain⟨J,_,_,_⟩:=bo H x (by rw[X];simp);rw[X]at J;refine aN hV H hd a0 (v:=.pointer (some ⟨W.β b,off+n.toNat*e.cells,none⟩)) ?_ ⟨J.1,J.2.1,rfl⟩ id rfl;have Y:=dt hE w;simp[execOp,a3,J.2.2,bC H hi,CQ,B5,asIntOf,run_underlying hu,u.1,u.2,Y,eT]
     ·grind
   ·grind
  |_=>simp[ht]at h
 ·grind
theorem wI {t:TypeId}{i:TI}(u:oI P t i)(J:i.cells≠0\/i≠.none)(w:World):(isAgg t).run P w=.ok i.agg w:=by
 cases i with
 |none=>simp[TI.cells]at J
 |struct a I =>
  obtain⟨⟨M,H,_⟩,_⟩:=u;simp[isAgg,run_underlying H,TI.agg]
 |arr e n=>obtain⟨⟨E,H,_⟩,_⟩:=u;simp[isAgg,run_underlying H,TI.agg]
 |ptr=>obtain⟨⟨e,H⟩,_⟩:=u;simp[isAgg,run_underlying H,TI.agg]
 |fn=>obtain⟨⟨x,y,z,H⟩,_⟩:=u;simp[isAgg,run_underlying H,TI.agg]
 |int k=>simp[isAgg,run_underlying u.1,TI.agg]
 |bool=>simp[isAgg,run_underlying u.1,TI.agg]
 |str=>simp[isAgg,run_underlying u.1,TI.agg]
 |slice E e b=>simp[isAgg,run_underlying u.1,TI.agg]
theorem oK {t:TypeId}{i:TI}(u:oI P t i)(z:i≠.none):bP P t i.cells:=by
 cases i with
 |none=>exact absurd rfl z
 |struct a y=>exact u.2.1
 |arr e n=>exact u.2.2.1
 |ptr=>exact u.2.1
 |fn=>exact u.2.1
 |int k=>exact u.2.1
 |bool=>exact u.2.1
 |str=>exact u.2.1
 |slice E e b=>exact u.2.1
theorem mF {W:Wit}{a:Act}{w:World}(H:ap P V W st a w){e:Ty}:∀ (n:Nat) (ls:List Leaf) (cs:List Value) (xs:List e.den),aC P V W st w ls cs->fw st e n ls=some xs ->
  xs.length=n/\∀ (i:Nat) (x:e.den),xs[i]?=some x->∃ G,Rd w G e x ((cs.drop (i*e.cells)).take e.cells)
 |0,ls,cs,xs,_,h=>by
  simp only[fw]at h
  simp_all
 |n+1,ls,cs,xs,z,h=>by
  simp only[fw]at h;split at h
  ·rename_i p x Y X M;simp at h;subst h;obtain⟨I,O⟩:=mF H n _ _ _ (z.drop e.cells) M;refine⟨by simp[I],λi y u=>?_⟩;cases i with
   |zero =>
    simp at u;subst u;exact⟨_,by simpa using ey H (z.take e.cells) X⟩
   |succ i =>
    obtain⟨G,J⟩:=O i y (by simpa using u);rw[CN]at J
    grind
  ·cases h
theorem wJ (hV:ax V)(hT:TOk P T)(Z:bM V o){t:TypeId}{x i:Operand}(J:o.op=.index t x i)(h:act Γ T o st κ=some r):bV P V o st κ r:=by
 simp only[act,wrU,J]at h;split at h
 ·rename_i k n hi;cases hs:T t with
  |str =>
   simp only[hs]at h;split at h
   ·rename_i s hx;obtain⟨y,hy,h⟩:=BJ.1 h;split at h
    ·rename_i d hd;refine⟨_,h,λW a w I=>aN hV I hd Z (v:=.int .u8 (y.toNat:Int)) ?_ rfl id rfl⟩;have h1:=hT t;rw[hs]at h1;obtain⟨h2,h3,h4⟩:=gi hy;have h5:s[n.toNat]?=some y:=by
      have h6:=(BC.1 h4);obtain⟨h7,h8⟩:=h6;have h9:n.toNat<s.size:=by rw[Array.length_toList]at h7;exact h7
      rw[getElem?_pos s n.toNat h9];congr 1
     simp[execOp,J,bC I hi,iy I hx,CL,asIntOf,run_underlying h1.1,h2,h5]
    ·grind
   ·grind
  |arr e O =>
   simp only[hs]at h;have h1:=hT t;rw[hs]at h1;obtain⟨⟨E,hu,hE,Y⟩,a4,_⟩:=h1;cases hb:e.flat&&decide ((au st x).1=.agg)&&BA (au st x).2.length (O*e.cells)&&!BA e.cells 0 with
   |false=>simp[hb]at h
   |true =>
    simp only[hb]at h;simp only[BD,decide_eq_true_eq]at hb;obtain⟨⟨⟨hf,a2⟩,a3⟩,_⟩:=hb;split at h
    ·rename_i vs hg;obtain⟨y,hy,h⟩:=BJ.1 h;split at h
     ·rename_i d hd;refine⟨_,h,λW a w I=>?_⟩;obtain⟨cs,z,hl⟩:=cS I x;rw[a2]at z;have z:a.eval x=.agg cs.toArray:=z;obtain⟨h2,h3,h4⟩:=gi hy;obtain⟨h5,h6⟩:=mF I O _ _ _ hl hg;obtain⟨G,h7⟩:=h6 n.toNat y h4;have h8:Rd w (λ_=>False) e y ((cs.drop (n.toNat*e.cells)).take e.cells):=Rd.flat hf h7;have h9:=h8.len;have M:(isAgg E).run P w=.ok e.isAgg w:=by
       cases X:P.underlying E with
       |none=>simp[X]at Y
       |some u =>
        simp only[X,CM,BH]at Y;rw[<- Y];cases u <;> simp[isAgg,run_underlying X]
      have a0:=dt hE w;have hn:n<(O:Int):=by omega
      cases H:e.isAgg with
      |true =>
       have:=dX hV I hd Z (v:=.agg ((cs.drop (n.toNat*e.cells)).take e.cells).toArray) (sh:=.agg) (ls:=cJ false e y) ?_ rfl (eS (λ_ h=>h.elim) h8)
       ·exact this
       ·rw[H]at M;simp[execOp,J,bC I hi,z,CL,asIntOf,run_underlying hu,h2,hn,part,M,a0]
      |false =>
       have a1:e.cells=1:=by cases e <;> first|rfl|simp[Ty.isAgg]at H
       rw[a1]at h8 h9
       match hc:(cs.drop (n.toNat*1)).take 1,h9 with
       |[v],_ =>
        rw[hc]at h8;have:=dX hV I hd Z (v:=v) (sh:=.one) (ls:=cJ false e y) (cs:=[v]) ?_ rfl (eS (λ_ h=>h.elim) h8)
        ·exact this
        ·rw[H]at M;have hv:cs[n.toNat]?=some v:=by
          have:((cs.drop (n.toNat*1)).take 1)[0]?=some v:=by rw[hc];rfl
          grind
         simp[execOp,J,bC I hi,z,CL,asIntOf,run_underlying hu,h2,hn,part,M,a0,a1,hv]
     ·grind
    ·grind
  |_=>simp[hs]at h
 ·grind
theorem nZ {t:TypeId}{i:TI}(H:oI P t i)(J:i≠.none){w:World}{g off:Nat}{cs:List Value}(O:cU w g off cs)(y:cs.length=i.cells) :
  ∃ v,(loadVar t ⟨g,off,none⟩).run P w=.ok v w/\ea (bf i.agg) v cs:=by
 have M:=wI H (.inr J) w;cases I:i.agg with
 |true =>
  refine⟨.agg cs.toArray,?_,rfl⟩;have Y:=dt (oK H J) w;have z:=run_loadCells_list (P:=P) w ⟨g,off,none⟩ cs (λj v X=>by rw[eT];exact O j v X);rw[y]at z;simp[loadVar,M,I,Y,z]
 |false =>
  have u:i.cells=1:=by cases i <;> simp_all [TI.agg,TI.cells]
  rw[u]at y
  match cs,y with
  |[v],_ =>
   have:=O 0 v rfl;rw[Nat.add_zero]at this;exact⟨v,by simp[loadVar,M,I,this],rfl⟩
theorem cU.sub {w:World}{g off:Nat}{cs:List Value}(h:cU w g off cs)(k n:Nat):cU w g (off+k) ((cs.drop k).take n):=by
 intro i v u;rw[BP]at u;split at u
 ·rw[Br]at u;have:=h (k+i) v u
  grind
 ·cases u
theorem Mx.deep {w:World}{G G':Nat->Prop}:∀ {a:Ty} {h:Option Nat} {pos:Nat} {x:a.den} {cs:List Value} {bs:List Nat},a.shy=false->Mx w G a h pos x cs bs->Mx w G' a h pos x cs bs
 |.int _,_,_,_,_,_,_,h=>h
 |.bool,_,_,_,_,_,_,h=>h
 |.str,_,_,_,_,_,_,h=>h
 |.unit,_,_,_,_,_,_,h=>h
 |.hdr,_,_,_,_,_,_,h=>h
 |.pair _ _,_,_,_,_,_,u,⟨X,c2,b1,b2,z,e2,M,J⟩=>by
  simp only[Ty.shy,B6]at u;exact⟨X,c2,b1,b2,z,e2,Mx.deep u.1 M,Mx.deep u.2 J⟩
 |.list m E e,h,pos,xs,cs,bs,u,H=>by
  simp only[Ty.shy,B6,Bool.not_eq_false']at u;obtain⟨rfl,u⟩:=u;by_cases O:h=some pos
  ·subst O;rw[iY]at H ⊢;exact H
  ·rw[bH O]at H ⊢;obtain⟨v,z,y,I,M,J,Y⟩:=H;refine⟨v,z,y,I,M,J,λj x hj=>?_⟩;obtain⟨c,h4,Z⟩:=Y j x hj;exact⟨c,Mx.deep u h4,Z⟩
theorem OwB.shy {W:Wit}{w:World}{p:Bool}{h:Option (Nat×Nat)}{E:TypeId}{e:Ty}{xs:List e.den}{v:Value}{bs:List Nat}(H:OwB w (gd V W p) h E e xs v bs):OwB w (gd V W (p&&e.shy)) h E e xs v bs:=by
 cases O:e.shy with
 |true=>simpa using H
 |false =>
  obtain⟨u,y,X,J,z⟩:=H;refine⟨u,y,X,J,λj x Y=>?_⟩;obtain⟨c,M,I⟩:=z j x Y;exact⟨c,Mx.deep O M,I⟩
theorem iZ (p:Bool)(r j v ep i u:Nat)(h:Option Nat):∀ (a:Ty) (off:Nat) (x:a.den),(gC p r j v ep i u h a off x).length=a.cells
 |.int _,_,_=>rfl
 |.bool,_,_=>rfl
 |.str,_,_=>rfl
 |.unit,_,_=>rfl
 |.hdr,_,_=>rfl
 |.pair a b,off,x=>by simp[gC,Ty.cells,iZ p r j v ep i u h a,iZ p r j v ep i u h b]
 |.list _ _ _,_,_=>rfl
theorem lQ {W:Wit}{w:World}{p:Bool}{r j g len y i sz:Nat}(O:(W.cs r)[j]?=some (.slice (some ⟨g,0,none⟩) len y))(M:i<len)(hg:g∈W.bs r j){hol:Option Nat} :
  ∀ {a:Ty} {pos:Nat} {x:a.den} {cs:List Value} {bs:List Nat},(∀ k∈bs,k∈W.bs r j)->Mx w (gd V W p) a hol pos x cs bs->cU w g (i*sz+pos) cs->aC P V W st w (gC p r j (st r).ver (st EPO).ver i sz hol a pos x) cs
 |.int _,_,_,_,_,_,h,_=>by rw[h.1];exact⟨⟨rfl,id,rfl⟩,trivial⟩
 |.bool,_,_,_,_,_,h,_=>by rw[h.1];exact⟨⟨rfl,id,rfl⟩,trivial⟩
 |.str,_,_,_,_,_,h,_=>by rw[h.1];exact⟨⟨rfl,id,rfl⟩,trivial⟩
 |.unit,_,_,_,_,_,h,_=>by rw[h.1];trivial
 |.hdr,_,_,_,_,_,⟨⟨A,y,e⟩,_⟩,_=>by rw[e];exact⟨⟨⟨A,y,rfl⟩,id,rfl⟩,trivial⟩
 |.pair a b,pos,x,cs,bs,J,⟨c1,c2,b1,b2,e1,e2,h1,Y⟩,X=>by
  subst e1;have hl:=h1.len;refine aC.append (lQ O M hg (λk z=>J k (by rw[e2];exact BG _ z)) h1 λq u hu=>X q u ?_)
   (lQ O M hg (λk z=>J k (by rw[e2];exact BF _ z)) Y λq u hu=>?_)
  ·grind
  ·have:=X (a.cells+q) u (by rw[<- hl,BT (by omega)];simpa using hu)
   grind
 |.list m E e,pos,xs,cs,bs,J,H,X=>by
  have I:=H.one;simp only[gC];by_cases Z:hol=some pos
  ·have e0:decide (hol=some pos)=true:=decide_eq_true Z;rw[e0];obtain⟨v,rfl,_⟩:=H;exact⟨⟨trivial,id,I v (by simp)⟩,trivial⟩
  ·have e0:decide (hol=some pos)=false:=decide_eq_false Z;rw[e0];cases m with
   |false =>
    rw[co]at H;obtain⟨A,y,rfl,Y,h3⟩:=H.2;exact⟨⟨⟨A,y,rfl,Y,h3⟩,id,rfl⟩,trivial⟩
   |true =>
    rw[bH Z]at H;obtain⟨v,rfl,hO⟩:=H;have h1:=X 0 v rfl;refine⟨⟨⟨BI _,λk z=>?_,λ_ _ _=>⟨?_,λi' a3 a0 he=>?_⟩⟩,id,I v (by simp)⟩,trivial⟩
    ·grind
    ·obtain⟨a1,a2,h4,h5,h6⟩:=OwB.shy hO;refine sm h4 (λk z=>.inr ⟨_,BX _,J k (by rw[h5];exact BG _ z)⟩) λq x hq=>?_
     obtain⟨c,h7,h8⟩:=h6 q x hq;exact⟨c,h7.rd (λk z=>.inl z) (λk z=>.inr ⟨_,BX _,J k (by rw[h5];exact BF _ (dV.2 ⟨q,(BC.1 hq).1,z⟩))⟩),h8⟩
    ·grind
theorem jP {W:Wit}{w:World}{p:Bool}{ks:List (Nat×Nat×Nat)}{ep:Nat}(y:ep<=(st EPO).ver)(u:∀ k∈ks,k.2.2<=(st k.1).ver) :
  ∀ {a:Ty} {x:a.den} {cs:List Value},Rd w (λb=>gd V W p b\/∃ k∈ks,b∈W.bs k.1 k.2.1) a x cs->aC P V W st w (lh p ks ep a x) cs
 |.int _,_,_,h=>by rw[show _=_ from h];exact⟨⟨rfl,id,rfl⟩,trivial⟩
 |.bool,_,_,h=>by rw[show _=_ from h];exact⟨⟨rfl,id,rfl⟩,trivial⟩
 |.str,_,_,h=>by rw[show _=_ from h];exact⟨⟨rfl,id,rfl⟩,trivial⟩
 |.unit,_,_,h=>by rw[show _=_ from h];trivial
 |.hdr,_,_,⟨A,z,e⟩=>by rw[e];exact⟨⟨⟨A,z,rfl⟩,id,rfl⟩,trivial⟩
 |.pair _ _,_,_,⟨X,Z,e,M,H⟩=>by rw[e];exact (jP y u M).append (jP y u H)
 |.list m E e,Y,_,h=>by
  obtain⟨A,z,rfl,H,I⟩:=h;exact⟨⟨⟨y,u,λ_ _ _=>⟨⟨A,z,rfl,H,I⟩,λi O off J=>by cases J⟩⟩,id,rfl⟩,trivial⟩
theorem zv {W:Wit}{a:Act}{w:World}(hr:ap P V W st a w){r j n g len O i:Nat}{p:Bool}{hh:Option (Nat×Nat)}{E:TypeId}{e:Ty}{xs:List e.den}{y:e.den}(h8:(st r).ver=n)(h9:(st r).ls[j]?=some (.own p hh E e xs))
  (H:(W.cs r)[j]?=some (.slice (some ⟨g,0,none⟩) len O)) (J:i<len) (X:xs[i]?=some y) :
  ∃ c,cU w g (i*e.cells) c/\aC P V W st w (gC p r j n (st EPO).ver i e.cells (cP hh i) e 0 y) c:=by
 subst h8;obtain⟨_,Y,a1,ho,I,M⟩:=hr.leaf r j _ _ h9 H;obtain⟨c,h1,h2⟩:=M i y X;have a0:=h1.len;have hi:i<xs.length:=(BC.1 X).1;have z:len=xs.length:=by
  obtain⟨A,Z,e0,_⟩:=ho.slice
  simp_all
 subst z;have hc:cU w g (i*e.cells) c:=by
  intro q u hu;have hq:=(BC.1 hu).1;rw[ho.cellAt _ (by
   have:i*e.cells+e.cells<=xs.length*e.cells:=by
    have:=Nat.mul_le_mul_right e.cells (show i+1<=xs.length from hi)
    grind
   omega)]
  grind
 refine⟨c,hc,lQ H J (by rw[I];simp[BY]) (λk hk=>?_) h1 hc⟩
 grind
theorem x5 (hV:ax V)(hT:TOk P T)(b0:bM V o){t:TypeId}{x:Operand}(a2:o.op=.load t x)(h:act Γ T o st κ=some r):bV P V o st κ r:=by
 simp only[act,wrU,a2,lI]at h;have a4:=hT t;have Y:∀ (W:Wit) (a:Act) (w:World) (g off:Nat) (cs:List Value) (ls:List Leaf) (d:Nat),ap P V W st a w->o.dst=some d->T t≠.none->a.eval x=.pointer (some ⟨g,off,none⟩)->cU w g off cs ->
   cs.length=(T t).cells->aC P V W st w ls cs->mD P V o st (ck st [] d (bf (T t).agg) ls) a w:=by
  intro W a w g off cs ls d z X hn O hc hl a0;obtain⟨v,h1,h2⟩:=nZ a4 hn hc hl;exact dX hV z X b0 (v:=v) (by simp[execOp,a2,O,Instr.loadAt,B5,h1]) h2 a0
 cases M:decide ((T t).cells=0) with
 |true=>simp[M]at h
 |false =>
  simp only[M]at h;have M:(T t).cells≠0:=of_decide_eq_false M;have Z:T t≠.none:=by intro e;rw[e]at M;exact M rfl
  split at h
  ·rename_i p b y off J;cases u:decide (off+(T t).cells<=b.cells) with
   |false=>simp[u]at h
   |true =>
    simp only[u]at h;split at h
    ·rename_i d X;refine⟨_,h,λW a w z=>?_⟩;obtain⟨H,_,_,_⟩:=bo z x (by rw[J];simp);rw[J]at H;obtain⟨g,og,c,O,hg,I,hc⟩:=H;refine Y W a w g _ ((c.drop off).take (T t).cells) _ d z X Z O (hc.sub off _) ?_ (((eS (λ_ h=>h) I).drop off).take _);have:=I.len
     grind
    ·grind
  ·rename_i b off J;cases u:decide ((st b).sh=.agg)&&decide (off+(T t).cells<=(st b).ls.length) with
   |false=>simp[u]at h
   |true =>
    simp only[u]at h;split at h
    ·rename_i d X;refine⟨_,h,λW a w z=>?_⟩;obtain⟨H,_,_,_⟩:=bo z x (by rw[J];simp);rw[J]at H;obtain⟨hB,b3,O⟩:=H;rcases z.boxes b hB with ⟨h8,_⟩|⟨_,E,h8⟩
     ·grind
     ·have hc:cU w (W.β b) 0 (W.cs b):=λi v O=>by
       rw[CE,cell_of_row w (W.β b) i _ E (0,0) h8]
       simp_all
      have b1:=z.len b;have a3:=hc.sub off (T t).cells;rw[CE]at a3;refine Y W a w (W.β b) off _ _ d z X Z O a3 ?_ (((iw z b).drop off).take _)
      grind
    ·grind
  ·rename_i p b y J;cases u:BA (T t).cells 1&&!(T t).agg with
   |false=>simp[u]at h
   |true =>
    simp only[u]at h;simp only[BD,Bu]at u;split at h
    ·rename_i d X;refine⟨_,h,λW a w z=>?_⟩;obtain⟨H,_,_,_⟩:=bo z x (by rw[J];simp);rw[J]at H;obtain⟨q,oq,g,og,c,O,_,a1,hg,I,hc⟩:=H;have:=Y W a w q oq [.pointer (some ⟨g,og,none⟩)] [.rp p b y 0] d z X Z O (λi v hi=>by
      cases i with
      |zero=>simp at hi;subst hi;exact a1
      |succ i=>simp at hi) (by simp[BB u.1]) ⟨⟨⟨g,og,c,rfl,hg,I,hc⟩,id,rfl⟩,trivial⟩
     rw[u.2]at this;exact this
    ·grind
  ·rename_i p ks ep b y off J;cases u:bj st ks ep&&decide (off+(T t).cells<=b.cells) with
   |false=>simp[u]at h
   |true =>
    simp only[u]at h;simp at u;split at h
    ·rename_i d X;refine⟨_,h,λW a w z=>?_⟩;obtain⟨H,_,_,_⟩:=bo z x (by rw[J];simp);rw[J]at H;have h8:NpOk V W w p ks b y off _:=H.2.2 (cB u.1).1 (cB u.1).2.1 (cB u.1).2.2;obtain⟨g,og,c,O,hg,I,hc⟩:=h8.rd;refine Y W a w g _ ((c.drop off).take (T t).cells) _ d z X Z O (hc.sub off _) ?_ (((jP H.1 H.2.1 I).drop off).take _);have:=I.len
     grind
    ·grind
  ·rename_i r' j v i sz off J;split at h
   ·rename_i p hh E e xs a6;cases u:BA sz e.cells&&decide (off+(T t).cells<=e.cells) with
    |false=>simp[u]at h
    |true =>
     simp only[u]at h;simp only[BD]at u;have a5:=BB u.1;subst a5;obtain⟨y,hy,h⟩:=BJ.1 h;obtain⟨_,_,h4⟩:=gi hy;split at h
     ·rename_i d X;refine⟨_,h,λW a w z=>?_⟩;obtain⟨H,_,_,_⟩:=bo z x (by rw[J];simp);rw[J]at H;obtain⟨h8,h9⟩:=eX a6 (by simp);obtain⟨g,b2,b4,ad,a9,O⟩:=H.2 h8;obtain⟨c,hc,a0⟩:=zv z h8 h9 ad a9 h4;refine Y W a w g _ _ _ d z X Z O (hc.sub off _) ?_ ((a0.drop off).take _);have:=a0.length;rw[iZ]at this
      grind
     ·grind
   ·grind
  ·grind
end
section
variable {P:Program} {V:Env} {Γ:List Ctr} {T:TypeId->TI} {st:St} {o:Oper} {R:Type} {κ:Upd->Option R} {r:R}
theorem wK (hV:ax V)(hT:TOk P T)(X:bM V o){t:TypeId}{x:Operand}{f:Nat}(H:o.op=.field t x f)(h:act Γ T o st κ=some r):bV P V o st κ r:=by
 simp only[act,wrU,H]at h;cases ht:T t with
 |struct b a2 =>
  simp only[ht]at h;split at h
  ·rename_i off n agg hf;have h1:=hT t;rw[ht]at h1;obtain⟨⟨fs,hu,_,a0⟩,_⟩:=h1;obtain⟨I,Z,h2,h3,h4,h5,h6,Y⟩:=a0 f off n agg hf;cases M:decide ((au st x).1=.agg)&&decide ((au st x).2.length=b.cells) with
   |false=>simp[M]at h
   |true =>
    simp only[M,cond_true]at h;simp only[BD,decide_eq_true_eq]at M;split at h
    ·rename_i d hd;refine⟨_,h,λW a w hr=>?_⟩;obtain⟨u,hs,hl⟩:=cS hr x;rw[M.1]at hs;have O:=hl.length;rw[M.2]at O;have y:(isAgg Z.type).run P w=.ok agg w:=by
      unfold isAgg;cases J:P.underlying Z.type with
      |none=>simp[J]at Y
      |some dd =>
       rw[J]at Y;simp only[CM,BH]at Y;subst Y;rw[BQ,run_underlying J w];cases dd <;> rfl
     have a1:=dt h6 w;cases agg with
     |true =>
      refine dX hV hr hd X (v:=.agg ((u.drop off).take n).toArray) ?_ rfl ((hl.drop off).take n);have e:u.toArray.extract off (off+n)=((u.drop off).take n).toArray:=by
       rw[List.extract_toArray,List.extract_eq_take_drop,Nat.add_sub_cancel_left]
      have hp:(part Z.type u.toArray off).run P w=.ok (.agg ((u.drop off).take n).toArray) w:=by
       simp only[part,BQ,y,BM,if_true,a1,BU,e]
      simp only[execOp,H,show a.eval x=_ from hs,CU,BQ,run_underlying hu,BM,h2,asAgg,BU,h3,hp]
     |false =>
      have I:=I rfl;subst I;have z:off<u.length:=by omega
      have hv:((u.drop off).take 1)=[u[off]]:=by
       rw[List.take_one,List.head?_drop,BE z];rfl
      refine dX hV hr hd X (v:=u[off]) ?_ (show ea .one _ ((u.drop off).take 1) from hv) ((hl.drop off).take 1);have e:u.toArray[off]?=some u[off]:=by simp[z]
      have hp:(part Z.type u.toArray off).run P w=.ok u[off] w:=by
       simp only[part,BQ,y,BM,Bool.false_eq_true,if_false,e,BU]
      simp only[execOp,H,show a.eval x=_ from hs,CU,BQ,run_underlying hu,BM,h2,asAgg,BU,h3,hp]
    ·cases h
  ·cases h
 |_=>simp[ht]at h
theorem At {α:Type}(u y:List α)(off:Nat)(h:off+y.length<=u.length):(u.take off++y++u.drop (off+y.length)).length=u.length:=by
 simp;omega
theorem kQ (cs c:List Value)(off:Nat)(h:off+c.length<=cs.length) :
  (c.zipIdx 0).foldl (λcs (x:Value×Nat)=>cs.setIfInBounds (off+x.2) x.1) cs.toArray=(cs.take off++c++cs.drop (off+c.length)).toArray:=by
 obtain⟨H,z⟩:=Great.foldl_set off c 0 cs.toArray;apply Array.ext_getElem?;intro k;rw[z k];simp only[Nat.add_zero,List.size_toArray,List.getElem?_toArray];by_cases y:off<=k/\k<off+c.length/\k<cs.length
 ·rw[if_pos y,BZ,BT (by simp;omega),Bs (by simp;omega)];congr 1;simp;omega
 ·rw[if_neg y];by_cases u:k<off
  ·rw[BZ,Bs (by simp;omega),BP,if_pos u]
  ·rw[BT (by simp;omega),Br];congr 1;simp;omega
theorem gQ {agg:Bool}{v:Value}{cs:List Value}(h:ea (bf agg) v cs)(y:∀ u∈cs,u.oneCell'=true):v.cells=cs.toArray:=by
 cases agg with
 |true=>rw[show v=_ from h];rfl
 |false =>
  have h:cs=[v]:=h;subst h;have:=y v (CD.2 rfl);cases v <;> first|rfl|simp[BK]at this
theorem lR {W:Wit}{a:Act}{w:World}(hr:ap P V W st a w){z:List (Nat×Nat×Bool)}{pl:Nat->Option (Nat×Nat)}(O:∀ (i off n:Nat) (agg:Bool),z[i]?=some (off,n,agg)->pl i=some (off,n)):∀ (ps:List (Nat×Operand)) (ls u:List Leaf) (cs:List Value),
  aC P V W st w ls cs->ff st z ps ls=some u ->
  ∃ y,aC P V W st w u y/\Instr.fill pl cs.toArray (ps.map λx=>(x.1,a.eval x.2))=some y.toArray
 |[],ls,u,cs,J,h=>by
  simp[ff]at h;subst h;exact⟨cs,J,rfl⟩
 |(i,x)::ps,ls,u,cs,J,h=>by
  simp only[ff]at h;split at h
  ·rename_i off n agg hf;cases X:BA (au st x).2.length n&&decide ((au st x).1=bf agg)&&decide (off+n<=ls.length) with
   |false=>simp[X]at h
   |true =>
    simp only[X,cond_true]at h;simp only[BD,decide_eq_true_eq]at X;obtain⟨⟨M,Y⟩,a2⟩:=X;have M:=BB M;obtain⟨c,hs,H⟩:=cS hr x;rw[Y]at hs;have hc:=gQ hs H.one';have a1:=J.length;have I:=H.length;have Z:aC P V W st w (jr ls (au st x).2 off) (cs.take off++c++cs.drop (off+c.length)):=by
     unfold jr;rw[I];exact ((J.take off).append H).append (J.drop _)
    obtain⟨y,h1,h2⟩:=lR hr O ps _ u _ Z h;refine⟨y,h1,?_⟩;simp only[CP,Instr.fill];have a0:pl i=some (off,n):=O _ _ _ _ hf;have a3:c.toArray.size=n:=by simp;omega
    simp only[a0,hc];rw[if_neg (by simp;omega)];have e:c.toArray.zipIdx.foldl (λcs (x:Value×Nat)=>cs.setIfInBounds (off+x.2) x.1) cs.toArray=(c.zipIdx 0).foldl (λcs (x:Value×Nat)=>cs.setIfInBounds (off+x.2) x.1) cs.toArray:=by
     rw[<- Array.foldl_toList];simp
    have e2:=kQ cs c off (by omega);rw[<- e2,<- e]at h2;exact h2
  ·cases h
theorem lq {W:Wit}{w:World}:∀ (b:Ty),aC P V W st w (eQ b) (zeroCells b)
 |.int _=>⟨⟨rfl,id,rfl⟩,trivial⟩
 |.bool=>⟨⟨rfl,id,rfl⟩,trivial⟩
 |.str=>⟨⟨rfl,id,rfl⟩,trivial⟩
 |.unit=>trivial
 |.pair a b=>(lq a).append (lq b)
 |.hdr=>⟨⟨rfl,id,rfl⟩,trivial⟩
 |.list _ _ _=>⟨⟨rfl,id,rfl⟩,trivial⟩
theorem oL {W:Wit}{w:World}(e:Ty):∀ (n:Nat),aC P V W st w (BR n (eQ e)).flatten (BR n (zeroCells e)).flatten
 |0=>trivial
 |n+1=>by
  rw[B9,B9,CG,CG];exact (lq e).append (oL e n)
theorem wL (hV:ax V)(hT:TOk P T)(a0:bM V o){t:TypeId}{u:Array (Nat×Operand)}(J:o.op=.build t u)(h:act Γ T o st κ=some r):bV P V o st κ r:=by
 simp only[act,wrU,J]at h;cases Y:T t with
 |struct b a1 =>
  simp only[Y]at h;split at h
  ·rename_i ls M;split at h
   ·rename_i d hd;refine⟨_,h,λW a w hr=>?_⟩;have Z:=hT t;rw[Y]at Z;obtain⟨⟨fs,hu,a2,_⟩,_,H,_⟩:=Z;obtain⟨z,h2,h3⟩:=lR hr (pl:=((a1.map λx=>(x.1,x.2.1)).toArray[·]?)) (λi off n agg I=>by simp[I]) u.toList _ ls _ (lq b) M;refine dX hV hr hd a0 (v:=.agg z.toArray) ?_ rfl h2;have y:P.built t (u.map λ (i,x)=>(i,a.eval x)).toList=some z.toArray:=by
     unfold d4 at H;unfold CR;cases X:P.info? t with
     |none=>simp[X]at H
     |some ti =>
      simp[X]at H;simp only[hu,H,a2];rw[Bz];exact h3
    simp[execOp,J,run_build w t _ _ y]
   ·cases h
  ·cases h
 |arr e n =>
  simp only[Y]at h;split at h
  ·rename_i ls M;split at h
   ·rename_i d hd;refine⟨_,h,λW a w hr=>?_⟩;have Z:=hT t;rw[Y]at Z;obtain⟨⟨E,hu,hE,_⟩,_,_,H⟩:=Z;obtain⟨z,h2,h3⟩:=lR hr (pl:=λi=>some (i*e.cells,e.cells)) (λi off n agg I=>by
     rw[CF]at I;obtain⟨j,hj,I⟩:=BO.1 I;rw[List.getElem?_range (by simpa using (BC.1 hj).1)]at hj;simp only[BH]at hj;subst hj;simp only[CO]at I;simp[<- I.1,<- I.2.1]) u.toList _ ls _ (oL e n) M
    refine dX hV hr hd a0 (v:=.agg z.toArray) ?_ rfl h2;have y:P.built t (u.map λ (i,x)=>(i,a.eval x)).toList=some z.toArray:=by
     unfold d4 at H;unfold bP at hE;unfold CR;cases X:P.info? t with
     |none=>simp[X]at H
     |some ti =>
      simp[X]at H;cases O:P.info? E with
      |none=>simp[O]at hE
      |some ie =>
       simp[O]at hE;simp only[hu,H,O,hE];rw[Bz];exact h3
    simp[execOp,J,run_build w t _ _ y]
   ·cases h
  ·cases h
 |_=>simp[Y]at h
theorem mG {W:Wit}{a:Act}{w:World}(H:ap P V W st a w){x:Option Operand}{u n:Int}(h:dh st x u=some n) :
  (x=none/\n=u)\/∃ y k,x=some y/\a.eval y=.int k n:=by
 unfold dh at h;split at h
 ·simp at h;exact .inl ⟨rfl,h.symm⟩
 ·split at h
  ·rename_i l k m z;simp at h;subst h;exact .inr ⟨_,k,rfl,bC H z⟩
  ·cases h
theorem jQ (u:Bool)(len y:Nat)(Z:len<=y)(H I:Option Value)(i h:Int)(J:0<=i)(M:i<=h)(hh:h<=len)(O:(H=none/\i=0)\/∃ k,H=some (.int k i))
  (X:(I=none/\h=len)\/∃ k,I=some (.int k h)) (w:World):(CH u len y H I none).run P w=.ok (i.toNat,h.toNat,y) w:=by
 have Y:0<=h:=by omega
 have hc:h<=(y:Int):=by omega
 have z:i<=((h.toNat:Nat):Int):=by omega
 rcases O with ⟨rfl,rfl⟩|⟨k,rfl⟩ <;> rcases X with ⟨rfl,rfl⟩|⟨k',rfl⟩ <;>
  simp[CH,Instr.sliceBound,asIntOf,J,Y,hc,z,M,-Int.ofNat_toNat]
theorem jl (O:ax V){W:Wit}{a:Act}{w:World}(I:ap P V W st a w){x:Operand}{l:Leaf}(y:aD st (one st x)=l)(X:l≠.dead)(H:¬ ao l):aI P V W st w [] l (a.eval x):=by
 have z:one st x≠.dead:=by intro e;rw[e]at y;exact X y.symm
 obtain⟨J,M,_⟩:=bo I x z;rcases lP O I J M with ⟨_,_,_,_,u,_⟩|⟨_,u⟩
 ·rw[y]at u;exact absurd u H
 ·rw[y]at u;exact u
theorem wM (O:ax V){W:Wit}{a:Act}{w:World}(X:ap P V W st a w){x:Operand}{p:Bool}{ks:List (Nat×Nat×Nat)}{ep:Nat}{y:Option (Nat×Nat×Nat)}{E:TypeId}{e:Ty}{xs:List e.den}
  (u:aD st (one st x)=.nal p ks ep y E e xs):aI P V W st w [] (.nal p ks ep y E e xs) (a.eval x)/\bj st ks ep=true:=by
 refine⟨jl O X u (by simp) (by simp[ao]),?_⟩;generalize one st x=l at u;cases l with
 |nal Y H I J Z e' M =>
  simp only[aD]at u;cases z:bj st H I with
  |false=>simp[z]at u
  |true =>
   simp only[z,cond_true]at u;cases u;exact z
 |al r j n=>exact absurd u iL
 |_=>simp[aD]at u
theorem tV (Z:ax V){W:Wit}{a:Act}{w:World}(H:ap P V W st a w){x:Operand}{p:Bool}{J:Option (Nat×Nat)}{E:TypeId}{e:Ty}{xs:List e.den}(u:aD st (one st x)=.own p J E e xs) :
  ∃ r i n,one st x=.al r i n/\(st r).ls[i]?=some (.own p J E e xs)/\OwH w (gd V W p) J E e xs (a.eval x) (W.bs r i)/\(W.cs r)[i]?=some (a.eval x)/\(st r).ver=n:=by
 have I:one st x≠.dead:=by intro e;rw[e]at u;cases u
 obtain⟨z,X,_⟩:=bo H x I;rcases lP Z H z X with ⟨r,i,n,M,_,_,_⟩|⟨y,_⟩
 ·rw[M]at u z;obtain⟨y,Y,O,h6⟩:=ke H u z;exact⟨r,i,n,M,O,Y,y,h6⟩
 ·rw[u]at y;exact absurd trivial y
theorem goes_frz (H:ax V){W:Wit}{a:Act}{w:World}(h:ap P V W st a w){d:Nat}(z:o.dst=some d)(u:bM V o)(ks:List (Nat×Nat)){v:Value}{sh:aG}{ls:List Leaf}{cs:List Value}
  (y:(execOp a.eval o).run P w=.ok (.value v) w) (J:ea sh v cs) (I:aC P V (W.frz st ks) (ac (aE st ks) st) w ls cs):mD P V o st (ck st (aE st ks) d sh ls) a w:=by
 intro next Q M;refine dW y ?_;rw[z];refine M _ _ ?_;rw[ck,aO];exact (ln H ks h).1.putLs H d (u d z).1 (u d z).2 _ sh ls v cs (By _) J I
theorem cU.shift {w:World}{g o:Nat}{c:List Value}{k s j:Nat}(h:cU w g (o+(k+j)*s) c):cU w g (o+k*s+j*s) c:=by
 rwa [Bw,<- Nat.add_mul]
theorem Rd.cut {w:World}{G:Nat->Prop}{E:TypeId}{e:Ty}{xs:List e.den}{A:Option Addr}{u:Nat}(h:Rd w G (.list false E e) xs [.slice A xs.length u])(i n:Nat)(X:i<=n)(hn:n<=xs.length) :
  Rd w G (.list false E e) ((xs.take n).drop i) [.slice (if u=i then A else A.map (·.add (i*e.cells))) (n-i) (u-i)]:=by
 obtain⟨A',M,J,hc,O⟩:=h;simp at J;obtain⟨rfl,rfl⟩:=J;have z:((xs.take n).drop i).length=n-i:=by simp;omega
 refine⟨_,u-i,by rw[z],by rw[z];omega,λY=>?_⟩;rw[z]at Y;obtain⟨g,o,rfl,hg,I⟩:=O (by omega);refine⟨g,o+i*e.cells,?_,hg,λj x y=>?_⟩
 ·rw[if_neg (by omega)];simp[eT]
 ·rw[Br,BP]at y;split at y
  ·obtain⟨c,Z,H⟩:=I (i+j) x y;exact⟨c,Z,H.shift⟩
  ·cases y
theorem vp (hV:ax V)(hT:TOk P T)(a6:bM V o){t:TypeId}{x:Operand}{lo hi:Option Operand}(a3:o.op=.slice t x lo hi none)(h:act Γ T o st κ=some r):bV P V o st κ r:=by
 simp only[act,wrU,a3]at h;cases hd:o.dst with
 |none=>simp[hd]at h
 |some d =>
  simp only[hd]at h;split at h
  ·cases h
  ·rename_i i a9;have h1:=hT t;have X:∀ (W:Wit) (a:Act) (w:World) (y:Option Operand) (a1 n:Int),ap P V W st a w->dh st y a1=some n->(y.map a.eval=none/\n=a1)\/∃ k,y.map a.eval=some (.int k n):=by
    intro W a w y a1 n O u;rcases mG O u with ⟨rfl,rfl⟩|⟨z,k,rfl,hz⟩
    ·exact .inl ⟨rfl,rfl⟩
    ·exact .inr ⟨k,by simp[hz]⟩
   split at h
   ·rename_i s ht hx;rw[ht]at h1;split at h
    ·rename_i n a0;cases u:decide (0<=i)&&decide (i<=n)&&decide (n<=(s.size:Int)) with
     |false=>simp[u]at h
     |true =>
      simp only[u,cond_true]at h;simp only[BD,decide_eq_true_eq]at u;refine⟨_,h,λW a w O=>aN hV O hd a6 (v:=.string (s.extract i.toNat n.toNat)) ?_ rfl id rfl⟩;have J:=jQ (P:=P) false s.size s.size (BI _) (lo.map a.eval) (hi.map a.eval) i n u.1.1 u.1.2 u.2 (X W a w lo 0 i O a9) (X W a w hi _ n O a0) w;have b3:a.eval x=.string s:=(jl hV O hx (by simp) (by simp[ao]));simp[execOp,a3,b3,Bx,B7,run_underlying h1.1,J]
    ·cases h
   ·rename_i E' e' a5 p ks ep b5 E e xs ht hx;rw[ht]at h1;obtain⟨hu,_,_,_,_,ti,z,a2,a4,_⟩:=h1;split at h
    ·rename_i n a0;cases u:decide (0<=i)&&decide (i<=n)&&decide (n<=(xs.length:Int))&&BA e'.cells e.cells with
     |false=>simp[u]at h
     |true =>
      simp only[u,cond_true]at h;simp only[BD,decide_eq_true_eq]at u;obtain⟨u,M⟩:=u;have M:=BB M;refine⟨_,h,λW a w O=>?_⟩;obtain⟨hl,b4⟩:=wM hV O hx;have h8:=pu b4 hl;obtain⟨A,H,hv,I,Z⟩:=h8.rd;have hv:a.eval x=.slice A xs.length H:=by simpa using hv
      have J:=jQ (P:=P) true xs.length H I (lo.map a.eval) (hi.map a.eval) i n u.1.1 u.1.2 u.2 (X W a w lo 0 i O a9) (X W a w hi _ n O a0) w;have hE:=dt (P:=P) (t:=E') (n:=e.cells) (by simp[bP,a2,a4,M]) w;have Y:=Rd.cut (E:=E) (⟨A,H,rfl,I,Z⟩:Rd w _ (.list false E e) xs [.slice A xs.length H]) i.toNat n.toNat (by omega) (by omega);refine aN hV O hd a6 (v:=.slice (if H=i.toNat then A else A.map (·.add (i.toNat*e.cells))) (n.toNat-i.toNat) (H-i.toNat)) ?_ ⟨hl.1,hl.2.1,λ_ _ _=>⟨Y,λi' sz off he=>by cases he⟩⟩ id rfl;simp only[execOp,a3,hv,Bx,B7,BQ,run_underlying hu,BM,B3,J,hE,BU]
    ·cases h
   ·rename_i E' e' a5 p E e xs ht hx;rw[ht]at h1;obtain⟨hu,_,_,_,_,ti,z,a2,a4,_⟩:=h1;split at h
    ·rename_i n a0;cases u:decide (0<=i)&&decide (i<=n)&&decide (n<=(xs.length:Int))&&BA e'.cells e.cells with
     |false=>simp[u]at h
     |true =>
      simp only[u,cond_true]at h;simp only[BD,decide_eq_true_eq]at u;obtain⟨u,M⟩:=u;have M:=BB M;refine⟨_,h,λW a w O=>?_⟩;have hl:=jl hV O hx (by simp) (by simp[ao]);obtain⟨A,H,hv,I,Z⟩:=hl;have hv:a.eval x=.slice A xs.length H:=by simpa using hv
      have J:=jQ (P:=P) true xs.length H I (lo.map a.eval) (hi.map a.eval) i n u.1.1 u.1.2 u.2 (X W a w lo 0 i O a9) (X W a w hi _ n O a0) w;have hE:=dt (P:=P) (t:=E') (n:=e.cells) (by simp[bP,a2,a4,M]) w;have Y:=Rd.cut (E:=E) (⟨A,H,rfl,I,Z⟩:Rd w (gd V W p) (.list false E e) xs [.slice A xs.length H]) i.toNat n.toNat (by omega) (by omega);refine aN hV O hd a6 (v:=.slice (if H=i.toNat then A else A.map (·.add (i.toNat*e.cells))) (n.toNat-i.toNat) (H-i.toNat)) ?_ Y id rfl;simp only[execOp,a3,hv,Bx,B7,BQ,run_underlying hu,BM,B3,J,hE,BU]
    ·cases h
   ·rename_i E' e' a5 p E e xs ht hx;rw[ht]at h1;obtain⟨hu,_,_,_,_,ti,z,a2,a4,_⟩:=h1;split at h
    ·rename_i n a0;cases u:decide (0<=i)&&decide (i<=n)&&decide (n<=(xs.length:Int))&&BA e'.cells e.cells with
     |false=>simp[u]at h
     |true =>
      simp only[u,cond_true]at h;simp only[BD,decide_eq_true_eq]at u;obtain⟨u,M⟩:=u;have M:=BB M;split at h
      ·rename_i r' j n' e1;refine⟨_,h,λW a w O=>?_⟩;obtain⟨r1,j1,n1,b2,h2,ad,_,b0⟩:=tV hV O hx;rw[e1]at b2;obtain⟨rfl,rfl,rfl⟩:r'=r1/\j=j1/\n'=n1:=by cases b2;exact⟨rfl,rfl,rfl⟩
       obtain⟨A,H,hv,I⟩:=ad.slice;have J:=jQ (P:=P) true xs.length H I (lo.map a.eval) (hi.map a.eval) i n u.1.1 u.1.2 u.2 (X W a w lo 0 i O a9) (X W a w hi _ n O a0) w;have hE:=dt (P:=P) (t:=E') (n:=e.cells) (by simp[bP,a2,a4,M]) w;have b1:=OwH.rd (m:=false) (E':=E) ad;rw[hv]at b1;have Y:=Rd.cut b1 i.toNat n.toNat (by omega) (by omega);refine aN hV O hd a6 (v:=.slice (if H=i.toNat then A else A.map (·.add (i.toNat*e.cells))) (n.toNat-i.toNat) (H-i.toNat)) ?_
        ⟨BI _,λk hk=>?_,λ_ _ _=>⟨Rd.mono (λk hk=>?_) Y,λi' sz off he=>by cases he⟩⟩ id rfl
       ·simp only[execOp,a3,hv,Bx,B7,BQ,run_underlying hu,BM,B3,J,hE,BU]
       ·simp only[CD]at hk;subst hk;exact Nat.le_of_eq b0.symm
       ·rcases hk with hk|hk
        ·exact .inl hk
        ·exact .inr ⟨_,BX _,hk⟩
      ·cases h
    ·cases h
   ·cases h
theorem zw (hV:ax V)(hT:TOk P T)(X:bM V o){c:Call}(H:o.op=.call c)(hc:c.callee=.builtin .len)(h:act Γ T o st κ=some r):bV P V o st κ r:=by
 simp only[act,wrU,H,hc]at h;split at h
 ·cases h
 ·rename_i d hd;simp only[hd]at h;split at h
  ·rename_i x hx;split at h
   ·rename_i t ht;have u:c.args=#[x]:=by rw[<- B8 (xs:=c.args),hx]
    have M:c.argTypes=#[t]:=by rw[<- B8 (xs:=c.argTypes),ht]
    have Y:=hT t;have J:∀ (a:Act) (w:World) (n:Int),(CI #[t] o.type #[a.eval x]).run P w=.ok (.int .i64 n) w->(execOp a.eval o).run P w=.ok (.value (.int .i64 n)) w:=by
     intro a w n O;simp[execOp,H,hc,resolve,invoke,builtin,u,M,O]
    split at h
    ·rename_i E e b y;rw[y]at Y;split at h
     ·rename_i n O;refine⟨_,h,λW a w z=>aN hV z hd X (J a w _ ?_) rfl id rfl⟩;have a0:one st x≠.dead:=by intro e;rw[e]at O;simp[aD,fX]at O
      obtain⟨h2,h3,_⟩:=bo z x a0;obtain⟨A,a1,I⟩:=wE z h2 h3 O;have I:a.eval x=.slice A n a1:=by simpa using I
      simp[CI,run_underlying Y.1,I,goInt]
     ·cases h
    ·rename_i s y Z;rw[y]at Y;refine⟨_,h,λW a w z=>aN hV z hd X (J a w _ ?_) rfl id rfl⟩;have I:a.eval x=.string s:=jl hV z Z (by simp) (by simp[ao]);simp[CI,run_underlying Y.1,I,goInt]
    ·cases h
   ·cases h
  ·cases h
end
end Go.Proofs.YtaelpfghkndliaaGreatEv
