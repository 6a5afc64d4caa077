/- The value evaluator, second form: what a Go function's code computes, on plain values. No proof here but definitions. -/
import Derived.Calls
import Derived.Orders
import Derived.KernelRfl
import Derived.Below
import Derived.Maps.AppendAt
import Derived.Laws.OwnMore
import Derived.Lib.ConvBytes
import Derived.WalkKit
import Derived.Great.BuildSlice
set_option linter.unusedVariables false
set_option linter.unusedSimpArgs false
open Array renaming getD_eq_getD_getElem?->By,toList_map->CA,toArray_toList->CG
open Bool renaming and_eq_true->BD,not_eq_true'->B5,or_eq_false_iff->CE,not_eq_true->CR
open ByteArray renaming empty->BV
open Go.Act renaming put->Ca
open Go.Builtin renaming len_->CQ
open Go.Instr renaming sliceAt->B8,sureAddr->CD,slice->CF,sliceBounds->CP,index->CT,indexAt->CY,field->Cc
open Go.Program renaming built->CZ
open Go.Result renaming andThen_ok->BM
open Go.Sem renaming run_bind->BQ,run_pure->BU
open Go.Value renaming oneCell'->BK,ownBlock->BY
open Go.World renaming cell?->Cb
open List renaming getElem?_eq_some_iff->BC,getElem?_eq_getElem->BE,mem_append_right->BF,mem_append_left->BG,mem_append->BN,getElem?_take->BP,replicate->BR,getD_eq_getElem?_getD->BS,getElem?_append_right->BT,mem_singleton_self->BX,append_assoc->BZ,range->Bw,getElem?_drop->Bz,getElem?_append_left->B3,any_eq_false->B6,mem_cons_of_mem->CC,replicate_succ->CH,mem_cons->CI,length_append->CJ,mem_cons_self->CK,mem_singleton->CL,getElem?_map->CN,flatten_cons->CO,cons_append->CS,drop_drop->CV,map_cons->CX
open Nat renaming beq->BA,eq_of_beq_eq_true->BB,le_refl->BI,le_trans->BL,lt_of_lt_of_le->BW,blt->Bx,ble->B4,add_assoc->B7,lt_succ_self->B9,zero_add->CM
open Option renaming bind_eq_some_iff->BJ,map_eq_some_iff->BO,map_none->CB,map_some->CU
open Option.some renaming injEq->BH
open Prod.mk renaming injEq->CW
namespace Go.Proofs.YtadlacffdemoiaaGreatEv
open Go
inductive Ty where
 |int (k:IntKind)|bool|str|unit
 |hdr
 |pair (a b:Ty)
 |list (m:Bool) (E:TypeId) (e:Ty)
 deriving DecidableEq
abbrev Ty.den:Ty->Type
 |.int _=>Int
 |.bool=>Bool
 |.str=>ByteArray
 |.unit=>Unit
 |.hdr=>Nat
 |.pair a b=>a.den×b.den
 |.list _ _ e=>List e.den
def Ty.cells:Ty->Nat
 |.unit=>0
 |.pair a b=>a.cells+b.cells
 |_=>1
def Ty.zero:(a:Ty)->a.den
 |.int _=>(0:Int)
 |.bool=>false
 |.str=>BV
 |.unit=>()
 |.hdr=>(0:Nat)
 |.pair a b=>(a.zero,b.zero)
 |.list _ _ e=>([]:List e.den)
def Ty.flat:Ty->Bool
 |.list _ _ _=>false
 |.pair a b=>a.flat&&b.flat
 |_=>true
def Ty.sh:Ty->Ty
 |.pair a b=>.pair a.sh b.sh
 |.list _ E e=>.list false E e.sh
 |a=>a
def Ty.shy:Ty->Bool
 |.list m _ e=>!m||e.shy
 |.pair a b=>a.shy||b.shy
 |_=>false
theorem mE:∀ a:Ty,a.sh.den=a.den
 |.int _|.bool|.str|.unit|.hdr=>rfl
 |.pair a b=>by
  show (a.sh.den×b.sh.den)=(a.den×b.den);rw[mE a,mE b]
 |.list _ _ e=>congrArg List (mE e)
theorem jr {a b:Ty}(h:a.sh=b.sh):a.den=b.den:=(mE a).symm.trans ((congrArg Ty.den h).trans (mE b))
def Ty.eqv:(a:Ty)->a.den->a.den->Bool
 |.int _,x,y=>decide ((x:Int)=y)
 |.bool,x,y=>(x:Bool)==y
 |.str,x,y=>decide ((x:ByteArray)=y)
 |.unit,_,_=>true
 |.hdr,_,_=>false
 |.pair a b,x,y=>a.eqv x.1 y.1&&b.eqv x.2 y.2
 |.list _ _ _,_,_=>false
abbrev Tup:List Ty->Type
 |[]=>Unit
 |a::as=>a.den×Tup as
inductive Leaf where
 |int (k:IntKind) (n:Int)
 |bool (b:Bool)
 |str (s:ByteArray)
 |nil
 |hdr (n:Nat)
 |ro (p:Bool) (E:TypeId) (e:Ty) (xs:List e.den)
 |own (p:Bool) (h:Option (Nat×Nat)) (E:TypeId) (e:Ty) (xs:List e.den)
 |al (r j v:Nat)
 |nal (p:Bool) (ks:List (Nat×Nat×Nat)) (ep:Nat) (loc:Option (Nat×Nat×Nat)) (E:TypeId) (e:Ty) (xs:List e.den)
 |ep (r j v:Nat) (i sz off:Nat)
 |np (p:Bool) (ks:List (Nat×Nat×Nat)) (ep:Nat) (a:Ty) (x:a.den) (off:Nat)
 |rp (p:Bool) (a:Ty) (x:a.den) (off:Nat)
 |rpp (p:Bool) (a:Ty) (x:a.den)
 |bp (b off:Nat)
 |clo (f:FuncId) (caps:List Nat)
 |clr (f:FuncId) (caps:List (Bool×Bool×(a:Ty)×a.den))
 |fn (As:List Ty) (B:Ty) (φ:Tup As->Option B.den)
 |dead
inductive aH where
 |off|und|one|agg
 |tup (ps:List (Bool×Nat))
 deriving DecidableEq
structure bT where
 ver:Nat
 sh:aH
 ls:List Leaf
abbrev St:=Nat->bT
def bT.none:bT:=⟨0,.off,[]⟩
def GH:Nat:=99000
def TMP:Nat:=99998
def EPO:Nat:=99999
def B0:Nat:=100000
abbrev Upd:=List (Nat×bT)
def ac (U:Upd)(st:St)(q:Nat):bT :=
 match U with
 |[]=>st q
 |(r,c)::u=>bif BA q r then c else ac u st q
inductive TI where
 |int (k:IntKind)|bool|str
 |slice (E:TypeId) (e:Ty) (bytes:Nat)
 |struct (a:Ty) (flds:List (Nat×Nat×Bool))
 |arr (e:Ty) (n:Nat)
 |ptr|fn
 |none
def gD:List (TypeId×TI)->TypeId->TI
 |[],_=>.none
 |(t,i)::l,u=>bif BA t u then i else gD l u
def TI.cells:TI->Nat
 |.struct a _=>a.cells
 |.arr e n=>n*e.cells
 |.none=>0
 |_=>1
def TI.agg:TI->Bool
 |.struct _ _=>true
 |.arr _ _=>true
 |_=>false
def eR:Ty->List Leaf
 |.int k=>[.int k 0]
 |.bool=>[.bool false]
 |.str=>[.str BV]
 |.unit=>[]
 |.hdr=>[.nil]
 |.pair a b=>eR a++eR b
 |.list _ _ _=>[.nil]
def TI.zero:TI->List Leaf
 |.int k=>[.int k 0]
 |.bool=>[.bool false]
 |.str=>[.str BV]
 |.slice _ _ _=>[.nil]
 |.struct a _=>eR a
 |.arr e n=>(BR n (eR e)).flatten
 |.ptr=>[.dead]
 |.fn=>[.dead]
 |.none=>[]
def aq (p:Bool):(a:Ty)->a.den->List Leaf
 |.int k,n=>[.int k n]
 |.bool,b=>[.bool b]
 |.str,s=>[.str s]
 |.unit,_=>[]
 |.hdr,n=>[.hdr n]
 |.pair a b,x=>aq p a x.1++aq p b x.2
 |.list m E e,r=>[bif m then .own (p&&e.shy) none E e r else .ro p E e r]
def cN (p:Bool):(a:Ty)->a.den->List Leaf
 |.int k,n=>[.int k n]
 |.bool,b=>[.bool b]
 |.str,s=>[.str s]
 |.unit,_=>[]
 |.hdr,n=>[.hdr n]
 |.pair a b,x=>cN p a x.1++cN p b x.2
 |.list _ E e,r=>[.ro p E e r]
def lj (p:Bool)(ks:List (Nat×Nat×Nat))(ep:Nat):(a:Ty)->a.den->List Leaf
 |.int k,n=>[.int k n]
 |.bool,b=>[.bool b]
 |.str,s=>[.str s]
 |.unit,_=>[]
 |.hdr,n=>[.hdr n]
 |.pair a b,x=>lj p ks ep a x.1++lj p ks ep b x.2
 |.list _ E e,r=>[.nal p ks ep none E e r]
def gE (p:Bool)(r j v ep i u:Nat)(h:Option Nat):(a:Ty)->Nat->a.den->List Leaf
 |.int k,_,n=>[.int k n]
 |.bool,_,b=>[.bool b]
 |.str,_,s=>[.str s]
 |.unit,_,_=>[]
 |.hdr,_,n=>[.hdr n]
 |.pair a b,off,x=>gE p r j v ep i u h a off x.1++gE p r j v ep i u h b (off+a.cells) x.2
 |.list m E e,off,y=>[bif decide (h=some off) then .dead else bif m then .nal (p&&e.shy) [(r,j,v)] ep (some (i,u,off)) E e y else .ro p E e y]
def lk (p:Bool)(r j v ep i u:Nat)(h:Option (Bool×Nat)):(a:Ty)->Nat->a.den->List Leaf
 |.int k,_,n=>[.int k n]
 |.bool,_,b=>[.bool b]
 |.str,_,s=>[.str s]
 |.unit,_,_=>[]
 |.hdr,_,n=>[.hdr n]
 |.pair a b,off,x=>lk p r j v ep i u h a off x.1++lk p r j v ep i u h b (off+a.cells) x.2
 |.list m E e,off,y=>[bif (match h with|some (b,o)=>BA o off&&b|Option.none=>false) then .dead else bif m then .nal (p&&e.shy) [(r,j,v)] ep (some (i,u,off)) E e y else .ro p E e y]
def bh (agg:Bool):aH:=bif agg then .agg else .one
def ll:Leaf->Bool
 |.own _ _ _ _ _=>true
 |_=>false
def br (st:St)(ks:List (Nat×Nat×Nat))(ep:Nat):Bool:=BA (st EPO).ver ep&&ks.all λk=>BA (st k.1).ver k.2.2&&ll ((st k.1).ls.getD k.2.1 .dead)
def pf:Leaf->Leaf
 |.nal _ _ _ _ _ _ _=>.dead
 |l=>l
def aD (st:St):Leaf->Leaf
 |.al r j v=>bif BA (st r).ver v then pf ((st r).ls.getD j .dead) else .dead
 |.nal p y ep u E e z=>bif br st y ep then .nal p y ep u E e z else .dead
 |l=>l
def lG (t j r:Nat):Leaf->Leaf
 |.own _ _ _ _ _=>.al t j r
 |l=>l
def bG (t r:Nat):Nat->List Leaf->List Leaf
 |_,[]=>[]
 |j,l::u=>lG t j r l::bG t r (j+1) u
def ir:Value->Option Leaf
 |.int k n=>some (.int k n)
 |.bool b=>some (.bool b)
 |.string s=>some (.str s)
 |.slice Option.none 0 0=>some .nil
 |_=>Option.none
def au (st:St):Operand->aH×List Leaf
 |.tmp t=>bif Bx t GH then ((st t).sh,bG t (st t).ver 0 (st t).ls) else (.off,[])
 |.const v=>match ir v with
  |some l=>(.one,[l])
  |Option.none=>(.off,[])
 |.func f=>(.one,[.clo f []])
 |.global _=>(.off,[])
def one (st:St)(x:Operand):Leaf :=
 match au st x with
 |(.one,[l])=>l
 |_=>.dead
def castSh (e e':Ty)(xs:List e'.den):Option (List e.den) :=
 if h:e'.sh=e.sh then some (cast (congrArg List (jr h)) xs) else Option.none
def lH (E:TypeId)(e:Ty)(E':TypeId)(e':Ty)(xs:List e'.den):Option (List e.den) :=
 if h:E'=E/\e'=e then some (h.2 ▸ xs) else Option.none
def dk (e:Ty):Leaf->Option (Bool×List e.den)
 |.ro p _ u r=>(castSh e u r).map (p,·)
 |.own p none _ u r=>(castSh e u r).map (p,·)
 |.nal p _ _ _ _ u r=>(castSh e u r).map (p,·)
 |.nil=>some (false,[])
 |_=>Option.none
def fV:Leaf->Option Nat
 |.ro _ _ _ r=>some r.length
 |.own _ _ _ _ r=>some r.length
 |.nal _ _ _ _ _ _ r=>some r.length
 |.nil=>some 0
 |.hdr n=>some n
 |_=>Option.none
def aZ (st:St):(a:Ty)->List Leaf->Option (Bool×a.den×List Leaf)
 |.int k,r=>match r with
  |.int u n::r=>if k=u then some (false,(n:Int),r) else Option.none
  |_=>Option.none
 |.bool,r=>match r with
  |.bool b::r=>some (false,b,r)
  |_=>Option.none
 |.str,r=>match r with
  |.str s::r=>some (false,s,r)
  |_=>Option.none
 |.unit,r=>some (false,(),r)
 |.hdr,r=>match r with
  |l::r=>match fV (aD st l) with
   |some n=>some (false,(n:Nat),r)
   |Option.none=>Option.none
  |_=>Option.none
 |.pair a b,r=>match aZ st a r with
  |some (p,x,r)=>match aZ st b r with
   |some (q,y,r)=>some (p||q,(x,y),r)
   |Option.none=>Option.none
  |Option.none=>Option.none
 |.list _ _ e,r=>match r with
  |l::r=>match dk e (aD st l) with
   |some (p,z)=>some (p,z,r)
   |Option.none=>Option.none
  |_=>Option.none
def cR (st:St)(a:Ty)(ls:List Leaf):Option (Bool×a.den) :=
 match aZ st a ls with
 |some (p,x,[])=>some (p,x)
 |_=>Option.none
structure cO (α:Type) where
 p:Bool
 val:α
 frz:List (Nat×Nat)
 kill:List (Nat×Nat)
 rest:List Leaf
def bz (st:St):List Leaf->List (Nat×Nat)
 |[]=>[]
 |.al r j v::u=>(match aD st (.al r j v) with|.own _ _ _ _ _=>[(r,j)]|_=>[])++bz st u
 |.nal p z ep y E e H::u=>(match aD st (.nal p z ep y E e H) with|.nal _ _ _ _ _ _ _=>z.map (λk=>(k.1,k.2.1))|_=>[])++bz st u
 |_::u=>bz st u
def cd (st:St):List Leaf->List (Nat×Nat)
 |[]=>[]
 |.al r j v::u=>(match aD st (.al r j v) with|.own _ _ _ _ _=>[(r,j)]|_=>[])++cd st u
 |_::u=>cd st u
def take (st : St) : (a : Ty) -> List Leaf -> Option (cO a.den)
  |.int k,u=>(aZ st (.int k) u).map λx=>⟨false,x.2.1,[],[],x.2.2⟩
  |.bool,u=>(aZ st .bool u).map λx=>⟨false,x.2.1,[],[],x.2.2⟩
  |.str,u=>(aZ st .str u).map λx=>⟨false,x.2.1,[],[],x.2.2⟩
  |.unit,u=>some ⟨false,(),[],[],u⟩
  |.hdr,u=>(aZ st .hdr u).map λx=>⟨false,x.2.1,[],[],x.2.2⟩
  |.pair a b,u=>match take st a u with
    |some x=>match take st b x.rest with
      |some y=>some ⟨x.p||y.p,(x.val,y.val),x.frz++y.frz,x.kill++y.kill,y.rest⟩
      |Option.none=>Option.none
    |Option.none=>Option.none
  |.list m E e,u=>match u with
    |[]=>Option.none
    |l::u=>bif m then (match l with
        |.al r j v=>match aD st (.al r j v) with
          |.own p none H I z=>(lH E e H I z).map λz=>⟨p,z,[],[(r,j)],u⟩
          |_=>Option.none
        |.nil=>some ⟨false,([]:List e.den),[],[],u⟩
        |_=>Option.none)
      else match dk e (aD st l) with
        |some (p,z)=>some ⟨p,z,bz st [l],[],u⟩
        |Option.none=>Option.none
def cj (st:St)(a:Ty)(ls:List Leaf):Option (cO a.den) :=
 match take st a ls with
 |some ⟨p,x,f,k,[]⟩=>some ⟨p,x,f,k,[]⟩
 |_=>Option.none
def de (st:St)(off n:Nat):(a:Ty)->Nat->a.den->List Leaf->Option (cO a.den)
 |.pair a b,pos,x,r=>match de st off n a pos x.1 r with
  |some u=>match de st off n b (pos+a.cells) x.2 u.rest with
   |some v=>some ⟨u.p||v.p,(u.val,v.val),u.frz++v.frz,u.kill++v.kill,v.rest⟩
   |Option.none=>Option.none
  |Option.none=>Option.none
 |.int k,pos,x,r=>bif B4 off pos&&Bx pos (off+n) then take st (.int k) r else some ⟨false,x,[],[],r⟩
 |.bool,pos,x,r=>bif B4 off pos&&Bx pos (off+n) then take st .bool r else some ⟨false,x,[],[],r⟩
 |.str,pos,x,r=>bif B4 off pos&&Bx pos (off+n) then take st .str r else some ⟨false,x,[],[],r⟩
 |.unit,_,x,r=>some ⟨false,x,[],[],r⟩
 |.hdr,_,_,_=>Option.none
 |.list m E e,pos,x,r=>bif B4 off pos&&Bx pos (off+n) then take st (.list m E e) r else some ⟨false,x,[],[],r⟩
def bN (off:Nat)(E:TypeId)(e:Ty)(r:List e.den):(a:Ty)->Nat->a.den->Option a.den
 |.pair a b,pos,x=>match bN off E e r a pos x.1 with
  |some u=>some (u,x.2)
  |Option.none=>(bN off E e r b (pos+a.cells) x.2).map λv=>(x.1,v)
 |.list m z y,pos,_=>bif m&&BA pos off then lH z y E e r else Option.none
 |.int _,_,_|.bool,_,_|.str,_,_|.unit,_,_|.hdr,_,_=>Option.none
def aw:List Leaf->List Nat
 |[]=>[]
 |.al r _ _::u=>r::aw u
 |.ep r _ _ _ _ _::u=>r::aw u
 |.nal _ y _ _ _ _ _::u=>EPO::y.map (·.1)++aw u
 |.np _ y _ _ _ _::u=>EPO::y.map (·.1)++aw u
 |_::u=>aw u
def aR (ls:List Leaf)(j:Nat)(l:Leaf):List Leaf:=ls.set j l
def fW (c:bT)(j:Nat):bT:=⟨c.ver,c.sh,aR c.ls j .dead⟩
def aM (st:St):List (Nat×Nat)->Upd
 |[]=>[]
 |(r,j)::u=>let U:=aM st u;let c:=ac U st r;(r,fW c j)::U
def ux:Leaf->Leaf
 |.own p none E e r=>.ro p E e r
 |.own _ (some _) _ _ _=>.dead
 |l=>l
def fT (c:bT)(j:Nat):bT:=⟨c.ver,c.sh,aR c.ls j (ux (c.ls.getD j .dead))⟩
def aE (st:St):List (Nat×Nat)->Upd
 |[]=>[]
 |(r,j)::u=>let U:=aE st u;let c:=ac U st r;(r,fT c j)::U
def bV (c:bT):bT:=⟨c.ver+1,c.sh,c.ls⟩
def epoU (st:St):Upd:=[(EPO,bV (st EPO))]
def dA (st:St):List Leaf->List (Nat×Nat)
 |[]=>[]
 |.nal p u ep none E e y::r=>(match aD st (.nal p u ep none E e y) with|.nal _ _ _ _ _ _ _=>u.map (λk=>(k.1,k.2.1))|_=>[])++dA st r
 |_::r=>dA st r
def gb (st:St)(l:Leaf):Leaf:=match aD st l with
 |.nal p _ _ none E e r=>.ro p E e r
 |l=>l
def dK (st:St)(ls:List Leaf):List Leaf:=ls.map (gb st)
def mvU (st:St)(ls:List Leaf):Upd:=let U:=aE st (dA st ls);aM (ac U st) (cd st ls)++U
def aY:List (Nat×Nat)->Bool
 |[]=>true
 |x::r=>!(r.any λy=>BA x.1 y.1&&BA x.2 y.2)&&aY r
def is (a b:Nat×Nat):Bool:=BA a.1 b.1&&BA a.2 b.2
def dG (a b:List (Nat×Nat)):Bool:=!(a.any λk=>b.any (is k))
def hX (st:St)(ls:List Leaf):Bool:=aY (cd st ls)&&dG (dA st ls) (cd st ls)
def si (st:St):Operand->Bool
 |.tmp q=>BA (st q).ver 7
 |_=>false
def idx {α:Type}(xs:List α)(i:Int):Option α:=if i<0 then Option.none else xs[i.toNat]?
def js (r u:List Leaf)(off:Nat):List Leaf:=r.take off++u++r.drop (off+u.length)
def sj (r:BinOp)(k:IntKind)(x y:Int):Option Leaf :=
 match r with
 |.add=>some (.int k (k.wrap (x+y)))
 |.sub=>some (.int k (k.wrap (x-y)))
 |.mul=>some (.int k (k.wrap (x*y)))
 |.eql=>some (.bool (x==y))
 |.neq=>some (.bool (x != y))
 |.lss=>some (.bool (decide (x<y)))
 |.leq=>some (.bool (decide (x<=y)))
 |.gtr=>some (.bool (decide (x>y)))
 |.geq=>some (.bool (decide (x>=y)))
 |_=>Option.none
def bd (off:Nat):(a:Ty)->Nat->a.den->Option ((E:TypeId)×(e:Ty)×List e.den)
 |.pair a b,pos,x=>match bd off a pos x.1 with
  |some u=>some u
  |Option.none=>bd off b (pos+a.cells) x.2
 |.list m E e,pos,r=>bif m&&BA pos off then some ⟨E,e,r⟩ else Option.none
 |.int _,_,_|.bool,_,_|.str,_,_|.unit,_,_|.hdr,_,_=>Option.none
def cn (st:St):Leaf->Option (Upd×Leaf)
  |.nal p I ep H E e X=>bif br st I ep then (match I,H with
      | [(r, j, _)], some (i, R, off) => (match (st r).ls.getD j .dead with
        |.own J none O z u=>bif !BA r TMP&&!BA r EPO&&BA R z.cells then
            (match u[i]? with
            |some y=>match bd off z 0 y with
              |some ⟨E,e,M⟩=>some ([(r,⟨(st r).ver,(st r).sh,aR (st r).ls j (.own J (some (i,off)) O z u)⟩),(TMP,⟨(st TMP).ver+1,.one,[.own (J&&z.shy) none E e M]⟩),(EPO,bV (st EPO))],.al TMP 0 ((st TMP).ver+1))
              |Option.none=>Option.none
            |Option.none=>Option.none)
          else Option.none
        |_=>Option.none)
      |_,_=>Option.none)
    else Option.none
  |_=>Option.none
def jk:Leaf->Bool
 |.nal _ _ _ _ _ _ _=>true
 |_=>false
inductive PK where
 |rd (a:Ty)
 |own (a:Ty)
 |io (a:Ty)
 |rref (a:Ty)
 |rref2 (a:Ty)
 |iop (a:Ty)
 |fn (As:List Ty) (B:Ty)
 |clo (f:FuncId) (cs:List (Bool×Ty))
 |hol (a:Ty) (c off:Nat)
 deriving DecidableEq
inductive RK where
 |v (a:Ty)
 |bv (a:Ty)
 |box (a:Ty)
 deriving DecidableEq
abbrev lI:List (Bool×Ty)->Type
 |[]=>Unit
 |c::r=>c.2.den×lI r
abbrev PK.den:PK->Type
 |.rd a|.own a|.io a|.rref a|.rref2 a|.iop a=>a.den
 |.fn r B=>Tup r->Option B.den
 |.clo _ u=>lI u
 |.hol a _ _=>a.den×Nat
abbrev ab:List PK->Type
 |[]=>Unit
 |p::r=>p.den×ab r
abbrev ah:List PK->Type
 |[]=>Unit
 |.io a::r=>a.den×ah r
 |.iop a::r=>a.den×ah r
 |_::r=>ah r
abbrev RK.den:RK->Type
 |.v a|.bv a|.box a=>a.den
abbrev ai:List RK->Type
 |[]=>Unit
 |r::u=>r.den×ai u
structure Ctr where
 f:FuncId
 ps:List PK
 rs:List RK
 fresh:Bool
 den:ab ps->Option (ai rs×ah ps)
def Ty.isAgg:Ty->Bool
 |.pair _ _|.unit=>true
 |_=>false
def target (st:St):Leaf->Option (List Leaf)
 |.bp b 0=>bif decide ((st b).sh=.agg) then some (bG b (st b).ver 0 (st b).ls) else none
 |.rp p a x 0=>some (cN p a x)
 |.rpp p a x=>some [.rp p a x 0]
 |_=>none
structure Got (α:Type) where
 p:Bool
 val:α
 frz:List (Nat×Nat)
 kill:List (Nat×Nat)
 see:List Nat
 lend:List Nat
def Got.ofRd {α:Type}(r:List Nat)(x:Bool×α)(frz:List (Nat×Nat)):Got α:=⟨x.1,x.2,frz,[],r,[]⟩
def lJ (Γ:List Ctr)(f:FuncId):Option Ctr:=match Γ with
 |[]=>none
 |c::r=>bif BA c.f f then some c else lJ r f
def co (x:aH×List Leaf):Leaf :=
 match x with
 |(.one,[l])=>l
 |_=>.dead
def ff:List Leaf->List Nat
 |[]=>[]
 |.bp b _::r=>b::ff r
 |_::r=>ff r
def fg (st:St)(c:Bool×Ty)(l:Leaf):Option (Got c.2.den) :=
 bif c.1 then (match target st l with
  |some [u]=>match target st u with
   |some r=>(cR st c.2 r).map λy=>.ofRd (ff [l,u]) y (bz st r)
   |none=>none
  |_=>none)
 else match target st l with
  |some r=>(cR st c.2 r).map λy=>.ofRd (ff [l]) y (bz st r)
  |none=>none
def cC (st:St):(cs:List (Bool×Ty))->List Leaf->Option (Got (lI cs))
 |[],[]=>some ⟨false,(),[],[],[],[]⟩
 |c::cs,l::r=>match fg st c l with
  |some g=>match cC st cs r with
   |some h=>some ⟨g.p||h.p,(g.val,h.val),g.frz++h.frz,[],g.see++h.see,[]⟩
   |none=>none
  |none=>none
 |_,_=>none
def eM (c:Bool×Bool×(a:Ty)×a.den):Leaf:=bif c.2.1 then .rpp c.1 c.2.2.1 c.2.2.2 else .rp c.1 c.2.2.1 c.2.2.2 0
def bg (st : St) : (pk : PK) -> aH × List Leaf -> Option (Got pk.den)
  |.rd a,x=>bif decide (x.1=bh a.isAgg) then (cR st a x.2).map λy=>.ofRd [] y (bz st x.2) else none
  |.own a,x=>bif decide (x.1=bh a.isAgg) then (cj st a x.2).map λt=>⟨t.p,t.val,t.frz,t.kill,[],[]⟩ else none
  |.io a,x=>bif decide (x.1=bh a.isAgg) then (cj st a x.2).map λt=>⟨t.p,t.val,t.frz,t.kill,[],[]⟩ else none
  |.rref a,x=>fg st (false,a) (co x)
  |.rref2 a,x=>fg st (true,a) (co x)
  |.iop a,x=>match co x with
    |.bp b 0=>bif decide ((st b).sh=.agg) then (cj st a (bG b (st b).ver 0 (st b).ls)).map λt=>⟨t.p,t.val,t.frz,t.kill,[],[b]⟩ else none
    |_=>none
  |.fn I B,x=>match co x with
    |.fn H O M=>if h:H=I/\O=B then some ⟨false,(h.1 ▸ h.2 ▸ M:Tup I->Option B.den),[],[],[],[]⟩ else none
    |_=>none
  |.clo f J,x=>match co x with
    |.clo z u=>bif BA z f then cC st J (u.map λb=>.bp b 0) else none
    |.clr z u=>bif BA z f then cC st J (u.map eM) else none
    |_=>none
  |.hol a c off,x=>bif decide (x.1=bh a.isAgg) then (match x.2.getD c .dead with
      |.al r j v=>(match aD st (.al r j v) with
        |.own p (some (i,o)) E e R=>bif BA o off then (match cj st a (aR x.2 c .nil) with
            |some t=>(match bN c E e R a 0 t.val with
              |some y=>some ⟨p||t.p,(y,i),t.frz,(r,j)::t.kill,[],[]⟩
              |none=>none)
            |none=>none) else none
        |_=>none)
      |_=>none) else none
def bc (ga:(pk:PK)->aH×List Leaf->Option (Got pk.den)):(ps:List PK)->List (aH×List Leaf)->Option (Got (ab ps))
 |[],[]=>some ⟨false,(),[],[],[],[]⟩
 |p::ps,x::r=>match ga p x with
  |some g=>match bc ga ps r with
   |some h=>some ⟨g.p||h.p,(g.val,h.val),g.frz++h.frz,g.kill++h.kill,g.see++h.see,g.lend++h.lend⟩
   |none=>none
  |none=>none
 |_,_=>none
def uy (st:St):(ps:List PK)->List (aH×List Leaf)->Option (Got (ab ps)):=bc (bg st)
def ce (st:St):List Leaf->List Leaf->Upd
 |.al r j _::y,l::u=>let U:=ce st y u;(match l with|.own p h E e ys=>let c:=ac U st r;[(r,⟨c.ver,c.sh,aR c.ls j (.own p h E e ys)⟩),(EPO,bV (ac U st EPO))]|_=>[])++U
 |_::y,_::u=>ce st y u
 |_,_=>[]
def aG (st:St)(p:Bool):(ps:List PK)->List (aH×List Leaf)->ah ps->Upd
 |[],_,_=>[]
 |.io a::ps,x::r,o=>let U:=aG st p ps r o.2;ce (ac U st) x.2 (aq p a o.1)++U
 |.iop a::ps,x::r,o=>let U:=aG st p ps r o.2;(match co x with
  |.bp b _=>let c:=ac U st b;[(b,⟨c.ver+2,.agg,aq p a o.1⟩)]
  |_=>[])++U
 |.rd _::ps,_::r,o=>aG st p ps r o
 |.own _::ps,_::r,o=>aG st p ps r o
 |.rref _::ps,_::r,o=>aG st p ps r o
 |.rref2 _::ps,_::r,o=>aG st p ps r o
 |.fn _ _::ps,_::r,o=>aG st p ps r o
 |.clo _ _::ps,_::r,o=>aG st p ps r o
 |.hol _ _ _::ps,_::r,o=>aG st p ps r o
 |_::_,[],_=>[]
def pg (d v:Nat)(p q:Bool)(ks:List (Nat×Nat×Nat))(ep:Nat):(r:RK)->r.den->(Bool×List Leaf)×Upd
 |.v a,y=>((a.isAgg,aq p a y),[])
 |.bv a,y=>((a.isAgg,lj q ks ep a y),[])
 |.box a,y=>((false,[.bp (B0+d) 0]),[(B0+d,⟨v+1,.agg,aq p a y⟩)])
def bE (d v:Nat)(p q:Bool)(ks:List (Nat×Nat×Nat))(ep:Nat):(u:List RK)->ai u->List (Bool×List Leaf)×Upd
 |[],_=>([],[])
 |r::u,y=>let a:=pg d v p q ks ep r y.1;let b:=bE d v p q ks ep u y.2;(a.1::b.1,a.2++b.2)
def eN (r:Nat)(l:List (Bool×List Leaf)):bT :=
 match l with
 |[(agg,u)]=>⟨r,bh agg,u⟩
 |l=>⟨r,.tup (l.map λx=>(x.1,x.2.length)),(l.map (·.2)).flatten⟩
def cm (st:St)(U:Upd)(d:Nat)(sh:aH)(ls:List Leaf):Upd:=(d,⟨(ac U st d).ver+1,sh,ls⟩)::U
def PK.reads:PK->Bool
 |.rd _|.rref _|.rref2 _=>true
 |_=>false
def nC (caps:List PK)(z:ab caps):(r:List Ty)->Tup r->ab (r.map .rd++caps)
 |[],_=>z
 |_::as,x=>(x.1,nC caps z as x.2)
def rX (st:St)(z:List Ty)(B:Ty)(ls:List Leaf)(ps:List PK)(H:List RK)(r:Bool)(u:ab ps->Option (ai H×ah ps))(q:List PK):Option (Got (Tup z->Option B.den)) :=
 if h:ps=z.map .rd++q/\H=[.v B] then
  bif q.all PK.reads&&B.flat&&r then
   match uy st q (ls.map λl=>(.one,[l])) with
   |some g=>some ⟨g.p,λx=>(u (h.1 ▸ nC _ g.val z x)).map λy=>(h.2 ▸ y.1:ai [.v B]).1,g.frz,[],g.see,[]⟩
   |none=>none
  else none
 else none
def kt (Γ:List Ctr)(st:St)(r:List Ty)(B:Ty)(f:FuncId)(ls:List Leaf):Option (Got (Tup r->Option B.den)) :=
 match lJ Γ f with
 |some c=>rX st r B ls c.ps c.rs c.fresh c.den (c.ps.drop r.length)
 |none=>none
def vi:Leaf->Option (FuncId×List Leaf)
 |.clo f r=>some (f,r.map λb=>.bp b 0)
 |.clr f r=>some (f,r.map eM)
 |_=>none
def cf (Γ:List Ctr)(st:St):(pk:PK)->aH×List Leaf->Option (Got pk.den)
 |.fn r B,x=>match vi (co x) with
  |some u=>kt Γ st r B u.1 u.2
  |none=>bg st (.fn r B) x
 |.rd a,x=>bg st (.rd a) x
 |.own a,x=>bg st (.own a) x
 |.io a,x=>bg st (.io a) x
 |.rref a,x=>bg st (.rref a) x
 |.rref2 a,x=>bg st (.rref2 a) x
 |.iop a,x=>bg st (.iop a) x
 |.clo f y,x=>bg st (.clo f y) x
 |.hol a c off,x=>bg st (.hol a c off) x
def oD (Γ:List Ctr)(st:St):(ps:List PK)->List (aH×List Leaf)->Option (Got (ab ps)):=bc (cf Γ st)
def PK.takes:PK->Bool
 |.own _|.io _=>true
 |_=>false
def PK.isIo:PK->Bool
 |.io _=>true
 |_=>false
def ph:Ty->Nat->Bool
 |.pair a b,j=>bif Bx j a.cells then ph a j else ph b (j-a.cells)
 |.list m _ _,j=>m&&BA j 0
 |_,_=>false
def lm (a:Ty):Nat->List Leaf->Option Nat
 |_,[]=>none
 |j,l::r=>bif jk l&&ph a j then some j else lm a (j+1) r
def PK.nest:PK->List Leaf->Option Nat
 |.own a,r=>lm a 0 r
 |.io a,r=>lm a 0 r
 |_,_=>none
def jY:Leaf->Nat×Nat
 |.nal _ ((r,j,_)::_) _ _ _ _ _=>(r,j)
 |_=>(0,0)
def c7 (st:St):List PK->List (aH×List Leaf)->Option (Upd×List (aH×List Leaf)×Option (Bool×Nat×Nat))
 |p::y,x::r=>match p.nest x.2 with
  |some k=>(cn st (x.2.getD k .dead)).map λu=>(u.1,(x.1,aR x.2 k u.2)::r,some (p.isIo,jY (x.2.getD k .dead)))
  |none=>(c7 st y r).map λu=>(u.1,x::u.2.1,u.2.2)
 |_,r=>some ([],r,none)
section
variable {R:Type}
def lK (st : St) (l : Leaf) (M : Upd -> Leaf -> Option R) : Option R :=
  match l with
  |.nal _ I ep H _ _ _=>bif br st I ep then (match I,H with
      | [(r, j, _)], some (i, Y, off) => (match (st r).ls.getD j .dead with
        |.own J none X z u=>bif !BA r TMP&&!BA r EPO&&BA Y z.cells then
            (idx u (i:Int)).bind λy=>match bd off z 0 y with
              |some ⟨E,e,O⟩=>M [(r,⟨(st r).ver,(st r).sh,aR (st r).ls j (.own J (some (i,off)) X z u)⟩),(TMP,⟨(st TMP).ver+1,.one,[.own (J&&z.shy) none E e O]⟩),(EPO,bV (st EPO))] (.al TMP 0 ((st TMP).ver+1))
              |Option.none=>Option.none
          else Option.none
        |_=>Option.none)
      |_,_=>Option.none)
    else Option.none
  |_=>Option.none
def ku (st:St):List PK->List (aH×List Leaf)->(Upd->List (aH×List Leaf)->Option (Bool×Nat×Nat)->Option R)->Option R
 |p::y,x::u,r=>match p.nest x.2 with
  |some k=>lK st (x.2.getD k .dead) λU l=>r U ((x.1,aR x.2 k l)::u) (some (p.isIo,jY (x.2.getD k .dead)))
  |none=>ku st y u λU z b=>r U (x::z) b
 |_,u,r=>r [] u none
def iJ (st:St):(u:List Ty)->List (aH×List Leaf)->Option (Tup u)
 |[],[]=>some ()
 |a::as,x::r=>bif decide (x.1=bh a.isAgg) then match cR st a x.2 with
   |some (_,y)=>(iJ st as r).map (y,·)
   |none=>none
  else none
 |_,_=>none
def RK.isV:RK->Bool
 |.v _|.bv _=>true
 |.box _=>false
def RK.isBv:RK->Bool
 |.bv _=>true
 |_=>false
def gF (st:St)(d:Nat):List RK->Bool
 |[.box _]=>decide ((st (B0+d)).sh=.off)
 |rs=>rs.all RK.isV
def oE (b:Option (Bool×Nat×Nat))(frz kill:List (Nat×Nat))(d:Nat):Bool :=
 match b with
 |some (true,r,j)=>!(kill.any (is (r,j)))&&!(frz.any (is (r,j)))&&!BA r d&&!BA r (B0+d)
 |_=>true
def jM (st:St)(b:Option (Bool×Nat×Nat))(U:Upd)(u:Upd->Option R):Option R :=
 match b with
 |some (true,r,j) =>
  match (ac U st r).ls.getD j .dead,(ac U st TMP).ls with
  |.own p (some (i,off)) M H I,[.own q none E e J]=>(idx I (i:Int)).bind λy=>match bN off E e J H 0 y with
   |some z=>u ((r,⟨(ac U st r).ver,(ac U st r).sh,aR (ac U st r).ls j (.own (p||q) none M H (I.set i z))⟩)::(TMP,⟨(ac U st TMP).ver+1,.off,[]⟩)::(EPO,bV (ac U st EPO))::U)
   |none=>none
  |_,_=>none
 |_=>u U
def jl (Γ:List Ctr)(st:St)(d:Nat)(f:FuncId)(xs:List (aH×List Leaf))(J:Upd->Option R):Option R :=
 match lJ Γ f with
 |some c=>ku st c.ps xs λz xs b =>
  match oD Γ (ac z st) c.ps xs with
  |some g=>bif aY g.kill&&dG g.frz g.kill&&gF st d c.rs&&!(g.see.any λq=>g.lend.any (BA q))&&B4 g.lend.length 1&&(g.lend.isEmpty||!(c.ps.any PK.isIo))&&((c.fresh&&g.lend.isEmpty)||!(c.rs.any RK.isBv))&&(g.kill.all λk=>!BA k.1 EPO)&&oE b g.frz g.kill d then
   (c.den g.val).bind λy =>
    let I:=(let U:=(bif c.fresh then [] else aE (ac z st) g.frz);aM (ac U (ac z st)) g.kill++U)++z;let u:=aG (ac I st) (g.p&&!c.fresh) c.ps xs y.2++I;let r:=bE d (ac u st (B0+d)).ver (g.p&&!c.fresh) g.p (g.frz.map λk=>(k.1,k.2,(ac u st k.1).ver)) (ac u st EPO).ver c.rs y.1;let H:=r.2++u
    jM st b ((d,eN ((ac H st d).ver+1) r.1)::H) J
   else none
  |none=>none
 |none=>none
def am:Nat:=140737488355328
def fN (st:St)(E:TypeId)(e:Ty)(y:Leaf):Option (cO (List e.den)) :=
 bif e.flat then (dk e (aD st y)).map λx=>⟨false,x.2,[],[],[]⟩
 else bif decide (e.sh=e) then (dk e (aD st y)).map λx=>⟨x.1,x.2,bz st [y],[],[]⟩
 else (cj st (.list true E e) [y]).map λt=>⟨t.p,t.val,t.frz,t.kill,[]⟩
def dV (st u:St)(H:Upd)(d:Nat)(E:TypeId)(e:Ty)(r:Nat)(p:Bool)(xs:List e.den)(ks:List (Nat×Nat))(y:Leaf)(z:Upd->Option R):Option R :=
 match fN u E e y with
 |some t=>bif aY (t.kill++ks)&&dG t.frz (t.kill++ks)&&decide ((xs.length+t.val.length)*r<=am) then
   let U:=aE u t.frz
   z (cm st (aM (ac U u) (t.kill++ks)++U++H) d .one [.own (p||t.p) none E e (xs++t.val)])
  else none
 |none=>none
def eo (st:St)(z:Upd)(d:Nat)(E:TypeId)(e:Ty)(u:Nat)(x y:Leaf)(H:Upd->Option R):Option R :=
 match x with
 |.al r j v=>match aD (ac z st) (.al r j v) with
  |.own p none J I M=>bif BA J E&&decide (I.sh=e.sh) then dV st (ac z st) z d J I u p M [(r,j)] y H else none
  |_=>none
 |.nil=>dV st (ac z st) z d E e u false [] [] y H
 |_=>none
def it (st:St)(d:Nat)(E:TypeId)(e:Ty)(r:Nat)(x y:Leaf)(u:Upd->Option R):Option R :=
 bif jk x then lK st x λz x=>eo st z d E e r x y u else eo st [] d E e r x y u
def dl (st:St)(x:Option Operand)(r:Int):Option Int :=
 match x with
 |none=>some r
 |some l=>match one st l with
  |.int _ n=>some n
  |_=>none
def fh (st:St)(r:List (Nat×Nat×Bool)):List (Nat×Operand)->List Leaf->Option (List Leaf)
 |[],u=>some u
 |(i,x)::y,u=>match r[i]? with
  |some (off,n,agg)=>bif BA (au st x).2.length n&&decide ((au st x).1=bh agg)&&decide (off+n<=u.length) then fh st r y (js u (au st x).2 off) else none
  |none=>none
def ew (st:St)(e:Ty):Nat->List (Nat×Operand)->Option (cO (List e.den))
  |_,[]=>some ⟨false,[],[],[],[]⟩
  |k,(i,x)::r=>bif BA i k&&decide ((au st x).1=bh e.isAgg) then
      match cj st e (au st x).2,ew st e (k+1) r with
      |some t,some u=>some ⟨t.p||u.p,t.val::u.val,t.frz++u.frz,t.kill++u.kill,[]⟩
      |_,_=>none
    else none
def fy (st:St)(e:Ty):Nat->List Leaf->Option (List e.den)
 |0,_=>some []
 |n+1,r=>match cR st e (r.take e.cells),fy st e n (r.drop e.cells) with
  |some (_,x),some u=>some (x::u)
  |_,_=>none
def sk (st:St)(xs:List Operand):Option (List Nat) :=
 xs.foldl (λ (r:Option (List Nat)) x=>r.bind λl=>match one st x with
  |.bp b 0=>some (l++[b])
  |_=>none) (some [])
def wrU (o:Oper)(st:St)(r:Upd->Option R)(sh:aH)(ls:List Leaf):Option R:=match o.dst with
 |some d=>r (cm st [] d sh ls)
 |none=>none
def cS (h:Option (Nat×Nat))(i:Nat):Option Nat:=match h with
 |some (u,r)=>bif BA u i then some r else none
 |none=>none
def holB (h:Option (Nat×Nat))(i:Nat):Option (Bool×Nat):=match h with
 |some (u,r)=>some (BA u i,r)
 |none=>none
theorem lL (p:Bool)(r j v ep i u:Nat)(h:Option (Nat×Nat))(n:Nat):∀ (a:Ty) (off:Nat) (x:a.den),lk p r j v ep i u (holB h n) a off x=gE p r j v ep i u (cS h n) a off x
 |.int _,_,_|.bool,_,_|.str,_,_|.unit,_,_|.hdr,_,_=>rfl
 |.pair a b,off,x=>by
  show _++_=_++_;rw[lL p r j v ep i u h n a,lL p r j v ep i u h n b]
 |.list m E e,off,I=>by
  simp only[lk,gE];congr 2;cases h with
  |none=>rfl
  |some q =>
   obtain⟨z,H⟩:=q;simp only[holB,cS];by_cases y:BA z n=true
   ·simp only[y,Bool.and_true,cond_true,BH];rw[Bool.eq_iff_iff,Nat.beq_eq,decide_eq_true_eq]
   ·simp only[CR]at y;simp[y]
def gG (st:St)(r j i off:Nat)(n:Nat)(p:Bool)(E:TypeId)(e:Ty)(xs:List e.den)(h:Option (Nat×Nat))(ls:List Leaf)(M:Upd->Option R):Option R :=
 (idx xs (i:Int)).bind λy =>
  match de st off n e 0 y ls with
  |some t=>bif t.rest.isEmpty&&aY t.kill&&dG t.frz t.kill&&!((t.kill++t.frz).any λk=>BA k.1 r) then
    let J:=aE st t.frz;let I:=aM (ac J st) t.kill++J;let u (l:Leaf):Option R:=M ((r,⟨(st r).ver,(st r).sh,aR (st r).ls j l⟩)::(EPO,bV (ac I st EPO))::I)
    match h with
    |none=>u (.own (p||t.p) none E e (xs.set i t.val))
    |some (H,z)=>bif B4 off z&&Bx z (off+n) then (bif BA i H then u (.own (p||t.p) none E e (xs.set i t.val)) else none)
     else u (.own (p||t.p) (some (H,z)) E e (xs.set i t.val))
   else none
  |none=>none
def rY (r:Nat):Bool:=!BA r TMP&&!BA r EPO
def eq (s:ByteArray):List Int:=s.data.toList.map λb=>(b.toNat:Int)
def gH (xs:List Int):ByteArray:=ByteArray.mk (xs.map λn=>UInt8.ofNat n.toNat).toArray
def act (Γ:List Ctr)(T:TypeId->TI)(o:Oper)(st:St)(M:Upd->Option R):Option R :=
 let w (sh:aH) (ls:List Leaf):Option R:=wrU o st M sh ls;let w1 (l:Leaf):Option R:=w .one [l]
 match o.op with
 |.move x=>let v:=au st x;w v.1 v.2
 |.assign x=>match o.dst with
  |some d=>let v:=au st x;bif hX st v.2 then M (cm st (mvU st v.2) d v.1 (dK st v.2)) else none
  |none=>none
 |.pick c a b=>match one st c with
  |.bool t=>bif t then (let v:=au st a;w v.1 v.2) else (let v:=au st b;w v.1 v.2)
  |_=>none
 |.alloc t=>match o.dst with
  |some d=>bif decide ((st (B0+d)).sh=.off)&&!decide ((T t).cells=0) then M ((B0+d,⟨(st (B0+d)).ver+1,.agg,(T t).zero⟩)::cm st [] d .one [.bp (B0+d) 0]) else none
  |none=>none
 |.box t x=>match o.dst with
  |some d=>let v:=au st x
   bif decide ((st (B0+d)).sh=.off)&&decide (v.2.length=(T t).cells)&&decide (v.1=bh (T t).agg)&&hX st v.2 then
    (bif si st x then M ((B0+d,⟨(st (B0+d)).ver+1,.agg,v.2⟩)::cm st [] d .one [.bp (B0+d) 0])
    else (let U:=mvU st v.2
     M ((B0+d,⟨(ac U st (B0+d)).ver+1,.agg,dK st v.2⟩)::cm st U d .one [.bp (B0+d) 0])))
   else none
  |none=>none
 |.build t H=>match T t with
  |.struct a J=>match fh st J H.toList (eR a) with
   |some ls=>w .agg ls
   |none=>none
  |.arr e n=>match fh st ((Bw n).map λi=>(i*e.cells,e.cells,e.isAgg)) H.toList (BR n (eR e)).flatten with
   |some ls=>w .agg ls
   |none=>none
  |_=>none
 |.buildSlice t n H=>match T t with
  |.slice E e _=>match ew st e 0 H.toList with
   |some u=>bif BA u.val.length n&&decide (n*e.cells<=16777216)&&aY u.kill&&dG u.frz u.kill then (match o.dst with
     |some d=>let U:=aE st u.frz;M (cm st (aM (ac U st) u.kill++U) d .one [.own u.p none E e u.val])
     |none=>none) else none
   |none=>none
  |_=>none
 |.load t x =>
  bif decide ((T t).cells=0) then none else
  match one st x with
  |.rp p a y off=>bif decide (off+(T t).cells<=a.cells) then w (bh (T t).agg) (((cN p a y).drop off).take (T t).cells) else none
  |.bp b off=>bif decide ((st b).sh=.agg)&&decide (off+(T t).cells<=(st b).ls.length) then w (bh (T t).agg) (((bG b (st b).ver 0 (st b).ls).drop off).take (T t).cells) else none
  |.rpp p a y=>bif BA (T t).cells 1&&!(T t).agg then w1 (.rp p a y 0) else none
  |.np p Y ep a y off=>bif br st Y ep&&decide (off+(T t).cells<=a.cells) then w (bh (T t).agg) (((lj p Y ep a y).drop off).take (T t).cells) else none
  |.ep r j v i sz off=>match aD st (.al r j v) with
   |.own p h _ e z=>bif BA sz e.cells&&decide (off+(T t).cells<=e.cells) then (idx z (i:Int)).bind λy=>w (bh (T t).agg) (((lk p r j v (st EPO).ver i sz (holB h i) e 0 y).drop off).take (T t).cells) else none
   |_=>none
  |_=>none
 |.store t x y=>match o.dst with
  |some _=>none
  |none =>
  let v:=(au st y).2
  bif BA v.length (T t).cells&&decide ((au st y).1=bh (T t).agg)&&!decide ((T t).cells=0) then
   match one st x with
   |.bp b off=>bif decide ((st b).sh=.agg)&&decide (off+v.length<=(st b).ls.length)&&hX st v then
     let U:=mvU st v;let c:=ac U st b
     M ((b,⟨c.ver+1,.agg,js c.ls (dK st v) off⟩)::U)
    else none
   |.ep r j a0 i sz off=>match aD st (.al r j a0) with
    |.own p h E e z=>bif BA sz e.cells&&decide (off+v.length<=e.cells)&&rY r then gG st r j i off v.length p E e z h v M else none
    |_=>none
   |_=>none
  else none
 |.nilCheck x=>match one st x with
  |.rp p a y off=>w1 (.rp p a y off)
  |.bp b off=>w1 (.bp b off)
  |.ep r j v i sz off=>bif BA (st r).ver v then w1 (.ep r j v i sz off) else none
  |.rpp p a y=>w1 (.rpp p a y)
  |.np p Y ep a y off=>bif br st Y ep then w1 (.np p Y ep a y off) else none
  |_=>none
 |.binOp op t x y _=>match one st x,one st y with
  |.int k a,.int k' b =>
   match op with
   |.shl=>bif decide (b<0) then none else w1 (.int k (k.wrap (a*2 ^ (min b.toNat k.bits))))
   |.shr=>bif decide (b<0) then none else w1 (.int k (a.fdiv (2 ^ (min b.toNat k.bits))))
   |.quo=>bif decide (b=0) then none else bif decide (k=k') then w1 (.int k (k.wrap (a.tdiv b))) else none
   |.rem=>bif decide (b=0) then none else bif decide (k=k') then w1 (.int k (a.tmod b)) else none
   |.and=>bif decide (k=k') then w1 (.int k (k.wrap ((BitVec.ofInt k.bits a &&& BitVec.ofInt k.bits b).toNat))) else none
   |.xor=>bif decide (k=k') then w1 (.int k (k.wrap ((BitVec.ofInt k.bits a ^^^ BitVec.ofInt k.bits b).toNat))) else none
   |_=>bif decide (k=k') then (match sj op k a b with|some l=>w1 l|none=>none) else none
  |.bool a,.bool b=>match T t with
   |.bool=>match op with
    |.eql=>w1 (.bool (a==b))
    |.neq=>w1 (.bool (a != b))
    |_=>none
   |_=>none
  |.str a,.str b=>match op with
   |.eql=>w1 (.bool (a.toList==b.toList))
   |.neq=>w1 (.bool (a.toList != b.toList))
   |.add=>bif decide (a.size+b.size<=9223372036854775807) then w1 (.str (a++b)) else none
   |_=>none
  |_,_=>match T t with
   |.struct a _=>bif a.flat&&decide ((au st x).1=.agg)&&decide ((au st y).1=.agg) then
     match cR st a (au st x).2,cR st a (au st y).2 with
     |some (_,u),some (_,v)=>match op with
      |.eql=>w1 (.bool (a.eqv u v))
      |.neq=>w1 (.bool (!a.eqv u v))
      |_=>none
     |_,_=>none
    else none
   |_=>none
 |.unOp op _ x=>match op,one st x with
  |.not,.bool b=>w1 (.bool (!b))
  |.neg,.int k n=>w1 (.int k (k.wrap (0-n)))
  |_,_=>none
 |.convert s t x=>match T s,T t,one st x with
  |.int _,.int k,.int _ n=>w1 (.int k (k.wrap n))
  |.slice _ (.int .u8) _,.str,l=>match dk (.int .u8) (aD st l) with
   |some (_,z)=>w1 (.str (gH z))
   |none=>none
  |.str,.slice E (.int .u8) _,.str s=>bif BA E 5 then w1 (.own false none E (.int .u8) (eq s)) else none
  |_,_,_=>none
 |.makeSlice t n c=>match T t,one st n,one st c with
  |.slice E e X,.int _ a,.int _ b =>
   bif decide (0<=a)&&decide (a=b)&&decide (a*X<=am) then w1 (.own false none E e (BR a.toNat e.zero)) else none
  |_,_,_=>none
 |.slice t x lo hi mx=>match mx,o.dst with
  |none,some d=>match dl st lo 0 with
   |none=>none
   |some i=>match T t,aD st (one st x) with
    |.str,.str s=>(match dl st hi s.size with
     |some h=>bif decide (0<=i)&&decide (i<=h)&&decide (h<=(s.size:Int)) then M (cm st [] d .one [.str (s.extract i.toNat h.toNat)]) else none
     |none=>none)
    |.slice _ O _,.nal p Y ep _ E e z=>(match dl st hi z.length with
     |some h=>bif decide (0<=i)&&decide (i<=h)&&decide (h<=(z.length:Int))&&BA O.cells e.cells then
       M (cm st [] d .one [.nal p Y ep none E e ((z.take h.toNat).drop i.toNat)]) else none
     |none=>none)
    |.slice _ O _,.ro p E e z=>(match dl st hi z.length with
     |some h=>bif decide (0<=i)&&decide (i<=h)&&decide (h<=(z.length:Int))&&BA O.cells e.cells then
       M (cm st [] d .one [.ro p E e ((z.take h.toNat).drop i.toNat)]) else none
     |none=>none)
    |.slice _ O _,.own p none E e z=>(match dl st hi z.length with
     |some h=>bif decide (0<=i)&&decide (i<=h)&&decide (h<=(z.length:Int))&&BA O.cells e.cells then
       (match one st x with
       |.al r j v=>M (cm st [] d .one [.nal p [(r,j,v)] (st EPO).ver none E e ((z.take h.toNat).drop i.toNat)])
       |_=>none) else none
     |none=>none)
    |_,_=>none
  |some m,some d=>match lo,T t,one st x with
   |none,.slice _ O _,.al r j v=>(match aD st (.al r j v) with
    |.own p none E e z=>(match dl st hi z.length,dl st (some m) 0 with
     |some h,some k=>bif hi.isSome&&decide (h=(z.length:Int))&&decide (k=(z.length:Int))&&BA O.cells e.cells then M (cm st (aM st [(r,j)]) d .one [.own p none E e z]) else none
     |_,_=>none)
    |_=>none)
   |_,_,_=>none
  |_,_=>none
 |.fieldAddr t x f=>match T t with
  |.struct _ J=>match J[f]? with
   |some (off,_,_)=>match one st x with
    |.rp p a y o'=>w1 (.rp p a y (o'+off))
    |.bp b o'=>w1 (.bp b (o'+off))
    |.ep r j v i sz o'=>bif BA (st r).ver v then w1 (.ep r j v i sz (o'+off)) else none
    |.np p Y ep a y o'=>bif br st Y ep then w1 (.np p Y ep a y (o'+off)) else none
    |_=>none
   |none=>none
  |_=>none
 |.field t x f=>match T t with
  |.struct a J=>match J[f]? with
   |some (off,n,agg)=>bif decide ((au st x).1=.agg)&&decide ((au st x).2.length=a.cells) then w (bh agg) (((au st x).2.drop off).take n) else none
   |none=>none
  |_=>none
 |.indexAddr t x i=>match one st i with
  |.int _ n=>match T t with
   |.arr e Z=>match one st x with
    |.bp b off=>bif decide (0<=n)&&decide (n<(Z:Int)) then w1 (.bp b (off+n.toNat*e.cells)) else none
    |_=>none
   |.slice _ e _=>match one st x with
    |.al r j v=>match aD st (.al r j v) with
     |.own _ _ _ O z=>bif BA O.cells e.cells then (idx z n).bind λ_=>w1 (.ep r j v n.toNat O.cells 0) else none
     |_=>none
    |.ro p _ O z=>bif BA O.cells e.cells then (idx z n).bind λy=>w1 (.rp p O y 0) else none
    |.nal p Y ep _ _ O z=>bif BA O.cells e.cells&&br st Y ep then (idx z n).bind λy=>w1 (.np p Y ep O y 0) else none
    |_=>none
   |_=>none
  |_=>none
 |.index t x i=>match one st i with
  |.int _ n=>match T t with
   |.str=>match one st x with
    |.str s=>(idx s.data.toList n).bind λy=>w1 (.int .u8 y.toNat)
    |_=>none
   |.arr e Z=>bif e.flat&&decide ((au st x).1=.agg)&&BA (au st x).2.length (Z*e.cells)&&!BA e.cells 0 then (match fy st e Z (au st x).2 with
     |some vs=>(idx vs n).bind λy=>w (bh e.isAgg) (cN false e y)
     |none=>none) else none
   |_=>none
  |_=>none
 |.extract x i=>match au st x with
  |(.tup ps,ls)=>match ps[i]? with
   |some (agg,n)=>w (bh agg) ((ls.drop ((ps.take i).foldl (λa b=>a+b.2) 0)).take n)
   |none=>none
  |_=>none
 |.makeFunc (.func f) first I=>bif BA first.size 0 then
   match sk st I.toList with
   |some l=>w1 (.clo f l)
   |none=>none
  else none
 |.call c=>match o.dst with
  |none=>none
  |some d=>match c.callee with
   |.value f =>
    let z:=c.args.toList.map (au st)
    match one st f with
    |.clo g I=>jl Γ st d g (z++I.map λb=>(.one,[.bp b 0])) M
    |.clr g I=>jl Γ st d g (z++I.map λc=>(.one,[eM c])) M
    |.fn As B φ=>bif B.flat then match iJ st As z with
      |some x=>(φ x).bind λy=>w (bh B.isAgg) (aq false B y)
      |none=>none
     else none
    |_=>none
   |.builtin .len=>match c.args.toList with
    |[x]=>match c.argTypes.toList with
     |[t]=>match T t,aD st (one st x) with
      |.slice _ _ _,l=>(match fV l with
       |some n=>w1 (.int .i64 n)
       |none=>none)
      |.str,.str s=>w1 (.int .i64 s.size)
      |_,_=>none
     |_=>none
    |_=>none
   |.builtin .append=>match c.args.toList,c.argTypes.toList with
    |[x,y],[t,u]=>match T t with
     |.slice E e X=>bif BA t u then it st d E e X (one st x) (one st y) M else none
     |_=>none
    |_,_=>none
   |.builtin .min=>match c.args.toList with
    |[x,y]=>match one st x,one st y with
     |.int k a,.int _ b=>w1 (.int k (bif decide (b<a) then b else a))
     |_,_=>none
    |_=>none
   |.builtin .max=>match c.args.toList with
    |[x,y]=>match one st x,one st y with
     |.int k a,.int _ b=>w1 (.int k (bif decide (a<b) then b else a))
     |_,_=>none
    |_=>none
   |_=>none
 |_=>none
def az:List Leaf->List Nat
 |[]=>[]
 |.al r _ _::u=>r::az u
 |.ep r _ _ _ _ _::u=>EPO::r::az u
 |.nal _ z _ _ _ _ _::u=>EPO::z.map (·.1)++az u
 |.np _ z _ _ _ _::u=>EPO::z.map (·.1)++az u
 |.bp b _::u=>b::az u
 |.clo _ y::u=>y++az u
 |_::u=>az u
def iu (xs:List Operand):List Nat :=
 match xs with
 |[]=>[]
 |.tmp t::xs=>t::iu xs
 |_::xs=>iu xs
def kv (st:St)(r:List Nat):List Nat :=
 let a:=r.flatMap λt=>az (st t).ls
 let b:=a.flatMap λt=>az (st t).ls
 let c:=b.flatMap λt=>az (st t).ls
 r++a++b++c
def cq (st:St)(u:Op):List Nat :=
 let r:=iu u.operands.toList
 match u with
 |.move _|.pick _ _ _|.build _ _|.field _ _ _|.extract _ _|.makeFunc _ _ _|.unOp _ _ _|.makeSlice _ _ _|.alloc _=>r
 |.slice _ _ _ _ _=>EPO::(r++r.flatMap λt=>aw (st t).ls)
 |.assign _|.box _ _|.buildSlice _ _ _|.indexAddr _ _ _|.nilCheck _|.fieldAddr _ _ _|.convert _ _ _|.binOp _ _ _ _ _|.index _ _ _=>r++r.flatMap λt=>aw (st t).ls
 |.load _ _|.store _ _ _=>r++r.flatMap λt=>az (st t).ls
 |.call c=>match c.callee with
  |.builtin _=>TMP::(r++r.flatMap λt=>aw (st t).ls)
  |_=>TMP::EPO::kv st r
 |_=>kv st r
def zg (o:Oper):List Nat:=match o.dst with
 |some d=>[d,B0+d]
 |none=>[]
def eS (st:St)(u:Op):List Nat :=
 let r:=iu u.operands.toList
 match u with
 |.move _=>r
 |.indexAddr _ _ _=>r++r.flatMap λt=>aw (st t).ls
 |_=>[]
def fj (st:St)(o:Oper):List Nat:=(match o.op with|.move _|.indexAddr _ _ _=>[]|op=>cq st op)++zg o
def d4 (st:St)(o:Oper):List Nat:=match o.op with
 |.store _ x _=>match one st x with
  |.ep r _ _ _ _ _=>[r]
  |_=>[]
 |_=>[]
structure cP where
 rd:List Nat
 hd:List Nat
 wr:List Nat
 cw:List Nat
def lM (a b:List Nat):Bool:=a.any λx=>b.any λy=>BA x y
def cP.apart (x y:cP):Bool:=!lM (x.wr++x.cw) (y.wr++y.cw)&&!lM (x.wr++x.cw) y.rd&&!lM x.rd (y.wr++y.cw)&&!lM x.wr y.hd&&!lM x.hd y.wr
def jC:List Oper->List Nat->List Nat
 |[],r=>r
 |o::u,r=>jC u (r++[o.after.toList.foldl (λs e=>bif Region.binds .any e then s ||| 2 ^ e.on ||| r.getD e.on 0 else s) 0])
def pi (r:List Nat)(u:List cP):Bool :=
 (Bw u.length).all λj=>(Bw j).all λi =>
  (r.getD j 0).testBit i||(match u[i]?,u[j]? with
   |some x,some y=>x.apart y
   |_,_=>false)
def lit (st:St)(t:Nat)(b:Bool):St:=ac [(t,⟨(st t).ver,.one,[.bool b]⟩)] st
def eF (st:St)(o:Oper):Upd :=
 match o.dst with
 |some d=>[(d,⟨(st d).ver+1,.und,[]⟩)]
 |none=>[]
def opK (Γ:List Ctr)(T:TypeId->TI)(y:Array Oper)(o:Oper)(st:St)(H:St->cP->Option R):Option R :=
 let z (st:St) (r:List Nat):Option R:=act Γ T o st (λU=>H (ac U st) ⟨r++fj st o,eS st o.op,(U.map (·.1)).filter (λq=>!((d4 st o).any (BA q))),d4 st o⟩);let no (st:St) (r:List Nat):Option R:=H (ac (eF st o) st) ⟨r,[],o.dst.toList,[]⟩
 match o.guard with
 |none=>z st []
 |some (j,u)=>match (y[j]?).bind (·.dst) with
  |some t=>match (st t).sh,(st t).ls with
   |.one,[.bool b]=>bif b then (bif u then z (lit st t true) [t] else no (lit st t true) [t]) else (bif u then no (lit st t false) [t] else z (lit st t false) [t])
   |.und,_=>no st [t]
   |_,_=>none
  |none=>none
def qi (Γ:List Ctr)(T:TypeId->TI)(u:Array Oper):List Oper->St->List cP->(St->List cP->Option R)->Option R
 |[],y,H,z=>z y H
 |o::r,y,H,z=>opK Γ T u o y (λI t=>qi Γ T u r I (H++[t]) z)
def nD (ops:Array Oper):Bool:=(Bw ops.size).all λi=>match ops[i]? with
 |some o=>o.after.toList.all λe=>!Region.binds .any e||decide (e.on<i)
 |none=>true
def regK (Γ:List Ctr)(T:TypeId->TI)(ops:Array Oper)(u:Bool)(st:St)(y:St->Option R):Option R :=
 bif u then
  qi Γ T ops ops.toList st [] (λr z=>bif nD ops&&pi (jC ops.toList []) z then y r else none)
 else qi Γ T ops ops.toList st [] (λr _=>y r)
inductive Ex where
 |normal|exit (id:Nat)|ret
def qj (y:St->(Ex->St->Option R)->Option R)(u:Ex->St->Option R):Ex->St->Option R
 |.normal,r=>y r u
 |e,r=>u e r
def sl (id:Nat)(y:Ex->St->Option R):Ex->St->Option R
 |.exit r,u=>bif BA r id then y .normal u else y (.exit r) u
 |e,u=>y e u
def av (L:List (Nat×bT)):St:=λq=>ac L (λ_=>bT.none) q
inductive Coe where
 |keep|kill
 |own (p:Bool) (E:TypeId) (e:Ty)|ro (p:Bool) (E:TypeId) (e:Ty)|rp (p:Bool)
def bw (st:St)(live:List Nat):Coe->Leaf->Leaf
 |.kill,_=>.dead
 |.own p E e,.nil=>.own p none E e []
 |.own p _ _,.own q none E e y=>bif !q||p then .own p none E e y else .dead
 |.ro p E e,.nil=>.ro p E e []
 |.ro p E e,.ro q _ H y=>bif !q||p then (match castSh e H y with | some z=>.ro p E e z | none=>.dead) else .dead
 |.ro p E e,.own q none _ H y=>bif !q||p then (match castSh e H y with | some z=>.ro p E e z | none=>.dead) else .dead
 |.rp p,.rpp q a x=>bif !q||p then .rpp p a x else .dead
 |.rp p,.rp q a x off=>bif !q||p then .rp p a x off else .dead
 |.keep,.int k n=>.int k n
 |.keep,.bool b=>.bool b
 |.keep,.str s=>.str s
 |.keep,.nil=>.nil
 |.keep,.hdr n=>.hdr n
 |.keep,.fn I B J=>.fn I B J
 |.keep,.clr f M=>.clr f M
 |.keep,.bp b off=>bif live.any (BA b) then .bp b off else .dead
 |.keep,.clo f u=>bif u.all (λb=>live.any (BA b)) then .clo f u else .dead
 |.keep,.al r j v=>bif live.any (BA r)&&BA (st r).ver v then .al r j 0 else .dead
 |_,_=>.dead
def c8 (st:St)(live:List Nat):List Coe->List Leaf->List Leaf
 |c::u,l::r=>bw st live c l::c8 st live u r
 |[],_::r=>.dead::c8 st live [] r
 |_,[]=>[]
def lN (live:List (Nat×List Coe))(st:St):St:=av (live.map λr=>(r.1,⟨0,(st r.1).sh,c8 st (live.map (·.1)) r.2 (st r.1).ls⟩))
def fX (live:List (Nat×List Coe))(rec:St->Option R)(u:Ex->St->Option R):Ex->St->Option R
 |.normal,r=>rec (lN live r)
 |e,r=>u e r
def aV (live:List (Nat×List Coe))(u:St->(Ex->St->Option R)->Option R):Nat->St->(Ex->St->Option R)->Option R
 |0,_,_=>none
 |k+1,z,y=>u z (fX live (λr=>aV live u k r y) y)
def eO:Code->Nat
 |.region id _ _=>id+1
 |.seq a b=>match eO a with
  |0=>eO b
  |n=>n
 |.cond _ a b=>match eO a with
  |0=>eO b
  |n=>n
 |.block _ c=>eO c
 |.loop c=>eO c
 |.scope c=>eO c
 |_=>0
def ln (L:List (Nat×List (Nat×List Coe)))(k:Nat):List (Nat×List Coe):=match L with
 |[]=>[]
 |(n,l)::r=>bif BA n k then l else ln r k
def zh (st:St)(c:Operand)(r no:St->Option R):Option R :=
 match c with
 |.tmp t=>match (st t).sh,(st t).ls with
  |.one,[.bool b]=>bif b then r (lit st t true) else no (lit st t false)
  |_,_=>none
 |.const (.bool b)=>bif b then r st else no st
 |_=>none
def evK (Γ:List Ctr)(T:TypeId->TI)(L:List (Nat×List (Nat×List Coe)))(r:Nat):Code->St->(Ex->St->Option R)->Option R
 |.skip,u,z=>z .normal u
 |.region _ I H,u,z=>regK Γ T I H u (z .normal)
 |.seq a b,u,z=>evK Γ T L r a u (qj (evK Γ T L r b) z)
 |.cond c x y,u,z=>zh u c (λu=>evK Γ T L r x u z) (λu=>evK Γ T L r y u z)
 |.block id c,u,z=>evK Γ T L r c u (sl id z)
 |.loop c,u,z=>aV (ln L (eO c)) (evK Γ T L r c) r (lN (ln L (eO c)) u) z
 |.exit id,u,z=>z (.exit id) u
 |.ret,u,z=>z .ret u
 |_,_,_=>none
def sub:Code->List Nat->Code
 |.seq a _,0::p=>sub a p
 |.seq _ b,1::p=>sub b p
 |.cond _ x _,0::p=>sub x p
 |.cond _ _ y,1::p=>sub y p
 |.block _ c,0::p=>sub c p
 |.loop c,0::p=>sub c p
 |c,_=>c
def kAt (u:Code->St->(Ex->St->Option R)->Option R):Code->List Nat->(Ex->St->Option R)->Ex->St->Option R
 |.seq a b,0::p,r=>kAt u a p (qj (u b) r)
 |.seq _ b,1::p,r=>kAt u b p r
 |.cond _ x _,0::p,r=>kAt u x p r
 |.cond _ _ y,1::p,r=>kAt u y p r
 |.block id c,0::p,r=>kAt u c p (sl id r)
 |_,_,r=>r
def cQ (fn:Func):Code:=match fn.body with
 |some c=>c
 |none=>.skip
def ae {A:Type}(step:(A->Option R)->A->Option R):Nat->A->Option R
 |0,_=>none
 |k+1,a=>step (ae step k) a
theorem kP {A:Type}(live:List (Nat×List Coe))(r:St->(Ex->St->Option R)->Option R)(u:Ex->St->Option R)(S:A->St)
  (step:(A->Option R)->A->Option R) (h:∀ (rec:St->Option R) (a:A),r (S a) (fX live rec u)=step (λa=>rec (S a)) a) :
  ∀ (k:Nat) (a:A),aV live r k (S a) u=ae step k a
 |0,_=>rfl
 |k+1,a=>by
  have y:=kP live r u S step h k;simp only[aV,ae];rw[h];exact congrArg (λg=>step g a) (funext y)
abbrev wr (k:IntKind)(n:Int):Int:=k.wrap n
def bC (k:IntKind)(a b:Int):Int:=k.wrap ((BitVec.ofInt k.bits a &&& BitVec.ofInt k.bits b).toNat)
def qk (k:IntKind)(a b:Int):Int:=k.wrap ((BitVec.ofInt k.bits a ^^^ BitVec.ofInt k.bits b).toNat)
def jN (p:Bool):(cs:List (Bool×Ty))->lI cs->List (Bool×Bool×(a:Ty)×a.den)
 |[],_=>[]
 |c::cs,x=>(p,c.1,⟨c.2,x.1⟩)::jN p cs x.2
def uz (i off:Nat):Leaf->Leaf
 |.own p _ E e r=>.own p (some (i,off)) E e r
 |l=>l
def dm (t:Nat):(ps:List PK)->ab ps->Upd
 |[],_=>[]
 |.rd a::ps,x=>(t,⟨0,bh a.isAgg,cN true a x.1⟩)::dm (t+1) ps x.2
 |.own a::ps,x=>(t,⟨0,bh a.isAgg,aq true a x.1⟩)::dm (t+1) ps x.2
 |.io a::ps,x=>(t,⟨7,bh a.isAgg,aq true a x.1⟩)::dm (t+1) ps x.2
 |.rref a::ps,x=>(t,⟨0,.one,[.rp true a x.1 0]⟩)::dm (t+1) ps x.2
 |.rref2 a::ps,x=>(t,⟨0,.one,[.rpp true a x.1]⟩)::dm (t+1) ps x.2
 |.iop a::ps,x=>(t,⟨0,.one,[.bp (B0+t) 0]⟩)::(B0+t,⟨0,.agg,aq true a x.1⟩)::dm (t+1) ps x.2
 |.fn r B::ps,x=>(t,⟨0,.one,[.fn r B x.1]⟩)::dm (t+1) ps x.2
 |.clo f u::ps,x=>(t,⟨0,.one,[.clr f (jN true u x.1)]⟩)::dm (t+1) ps x.2
 |.hol a c off::ps,x=>(t,⟨0,bh a.isAgg,aR (aq true a x.1.1) c (uz x.1.2 off ((aq true a x.1.1).getD c .dead))⟩)::dm (t+1) ps x.2
def hY (st:St)(t:Nat):(ps:List PK)->Option (cO (ah ps))
 |[]=>some ⟨false,(),[],[],[]⟩
 |.io a::ps=>match (bif decide ((au st (.tmp t)).1=bh a.isAgg) then cj st a (au st (.tmp t)).2 else none),hY st (t+1) ps with
  |some x,some y=>some ⟨x.p||y.p,(x.val,y.val),x.frz++y.frz,x.kill++y.kill,[]⟩
  |_,_=>none
 |.iop a::ps=>match cj st a (bG (B0+t) (st (B0+t)).ver 0 (st (B0+t)).ls),hY st (t+1) ps with
  |some x,some y=>some ⟨x.p||y.p,(x.val,y.val),x.frz++y.frz,x.kill++y.kill,[]⟩
  |_,_=>none
 |.rd _::ps=>hY st (t+1) ps
 |.own _::ps=>hY st (t+1) ps
 |.rref _::ps=>hY st (t+1) ps
 |.rref2 _::ps=>hY st (t+1) ps
 |.fn _ _::ps=>hY st (t+1) ps
 |.clo _ _::ps=>hY st (t+1) ps
 |.hol _ _ _::ps=>hY st (t+1) ps
def vj (st:St)(T:TypeId->TI):ResultVar->List Leaf
 |.tmp t=>(au st (.tmp t)).2
 |.cell t r=>match one st (.tmp t) with
  |.bp b off=>((bG b (st b).ver 0 (st b).ls).drop off).take (T r).cells
  |_=>[]
def pj (st:St)(T:TypeId->TI):ResultVar->aH
 |.tmp t=>(au st (.tmp t)).1
 |.cell t r=>match one st (.tmp t) with
  |.bp b off=>bif decide ((st b).sh=.agg)&&B4 (off+(T r).cells) (st b).ls.length&&!BA (T r).cells 0 then bh (T r).agg else .off
  |_=>.off
def RK.sh:RK->aH
 |.v a=>bh a.isAgg
 |.bv a=>bh a.isAgg
 |.box _=>.one
def bH (t:Nat):List PK->List Nat
 |[]=>[]
 |.iop _::r=>(B0+t)::bH (t+1) r
 |_::r=>bH (t+1) r
def ge (t:Nat):List PK->List Nat
 |[]=>[]
 |.io _::r=>t::ge (t+1) r
 |.iop _::r=>t::ge (t+1) r
 |_::r=>ge (t+1) r
def rZ (st:St)(z:List Nat):(r:RK)->List Leaf->Option (cO r.den)
 |.v a,u=>cj st a u
 |.bv a,u=>(cR st a u).map λy=>⟨false,y.2,bz st u,[],[]⟩
 |.box a,u=>match u with
  |[.bp b 0]=>bif !(z.any (BA b)) then cj st a (bG b (st b).ver 0 (st b).ls) else none
  |_=>none
def kb (st:St)(T:TypeId->TI)(H:List Nat):(u:List RK)->List ResultVar->Option (cO (ai u))
 |[],[]=>some ⟨false,(),[],[],[]⟩
 |r::u,x::I=>bif decide (pj st T x=r.sh) then match rZ st H r (vj st T x),kb st T H u I with
  |some y,some z=>some ⟨y.p||z.p,(y.val,z.val),y.frz++z.frz,y.kill++z.kill,[]⟩
  |_,_=>none else none
 |_,_=>none
def finR (T:TypeId->TI)(ps:List PK)(z:List RK)(r:Bool)(u:List ResultVar)(st:St):Option (ai z×ah ps) :=
 match kb st T (bH 0 ps) z u,hY st 0 ps with
 |some y,some o=>bif aY (y.kill++o.kill)&&dG (y.frz++o.frz) (y.kill++o.kill)&&(!r||!(y.p||o.p)) then some (y.val,o.val) else none
 |_,_=>none
def di (T:TypeId->TI)(ps:List PK)(y:List RK)(r:Bool)(u:List ResultVar):Ex->St->Option (ai y×ah ps)
 |.exit _,_=>none
 |_,z=>finR T ps y r u z
def lp (nt:Nat)(fix:List Nat)(r:Array Oper)(o:Oper):Bool :=
 (match o.dst with
  |some d=>Bx d nt&&!(fix.any (BA d))
  |none=>true) &&
 (match o.guard with
  |some (j,_)=>match (r[j]?).bind (·.dst) with
   |some s=>Bx s nt
   |none=>true
  |none=>true)
def wD (nt:Nat):Operand->Bool
 |.tmp t=>Bx t nt
 |_=>true
def dQ (nt:Nat)(fix:List Nat):Code->Bool
 |.region _ r _=>r.toList.all (lp nt fix r)
 |.seq a b=>dQ nt fix a&&dQ nt fix b
 |.cond c a b=>wD nt c&&dQ nt fix a&&dQ nt fix b
 |.block _ c=>dQ nt fix c
 |.loop c=>dQ nt fix c
 |_=>true
def ql:List RK->Bool
 |[.box _]=>true
 |rs=>rs.all RK.isV
def dt (L:List (Nat×List (Nat×List Coe)))(u:List Nat):Code->Bool
 |.seq a b=>dt L u a&&dt L u b
 |.cond _ a b=>dt L u a&&dt L u b
 |.block _ c=>dt L u c
 |.loop c=>(u.all λb=>(ln L (eO c)).any λr=>BA r.1 b)&&dt L u c
 |_=>true
def evF (Γ:List Ctr)(T:TypeId->TI)(L:List (Nat×List (Nat×List Coe)))(u:Nat)(fn:Func)(ps:List PK)(y:List RK)(r:Bool)(x:ab ps):Option (ai y×ah ps) :=
 match fn.body with
 |some c=>bif dQ fn.ntmps (ge 0 ps) c&&B4 ps.length fn.ntmps&&B4 fn.ntmps GH&&ql y&&dt L (bH 0 ps) c then
  evK Γ T L u c (av (dm 0 ps x)) (di T ps y r fn.results.toList) else none
 |none=>none
end
def fJ (e:Ty)(r:Nat)(xs:List e.den):Option ((List e.den×Unit)×Unit):=bif decide ((0+xs.length)*r<=am) then some ((xs,()),()) else none
theorem lO (e:Ty)(r:Nat):fJ e r []=some (([],()),()):=by
 unfold fJ;simp[am]
def lP:Code->Nat->Oper
 |.region _ r _,i=>(r[i]?).getD ⟨none,.move (.tmp 0),0,"",#[],none⟩
 |_,_=>⟨none,.move (.tmp 0),0,"",#[],none⟩
def fO (e:Ty)(r:Nat)(xs:List e.den)(i:Int)(u:List e.den):Option ((List e.den×Unit)×Unit) :=
 if 0<=i/\i<=(xs.length:Int)/\0<u.length/\(xs.length+u.length)*r<=am then some ((xs.take i.toNat++u++xs.drop i.toNat,()),()) else none
def lQ {α:Type}(r:α×Unit->Option Bool):List α->Option (List α)
 |[]=>some []
 |x::y=>(r (x,())).bind λb=>(lQ r y).map λu=>bif b then u else x::u
def gI (e:Ty)(xs:List e.den)(r:e.den×Unit->Option Bool):Option ((List e.den×Unit)×Unit):=if xs.length<=1048576 then (lQ r xs).map λu=>((u,()),()) else none
abbrev Ty.hd:Ty->Ty
 |.pair a b=>.pair a.hd b.hd
 |.list _ _ _=>.hdr
 |a=>a
abbrev hdD:(a:Ty)->a.den->a.hd.den
 |.pair a b,x=>(hdD a x.1,hdD b x.2)
 |.list _ _ e,r=>List.length (α:=e.den) r
 |.int _,x=>x
 |.bool,x=>x
 |.str,x=>x
 |.unit,x=>x
 |.hdr,x=>x
noncomputable def zv (e:Ty)(r:Nat)(xs:List e.den):Option ((List e.hd.den×Unit)×Unit):=(fJ e r xs).map λy=>((y.1.1.map (hdD e),()),())
def insI (n:Int):List Int->List Int
 |[]=>[n]
 |m::r=>if n<=m then n::m::r else m::insI n r
def zi:List Int->List Int
 |[]=>[]
 |n::r=>insI n (zi r)
def medianM (xs:List Int):Option ((Int×Unit)×Unit) :=
 let l:=zi (xs.drop (xs.length-3))
 some ((l.getD ((l.length-1) / 2) 0,()),())
def aT {R:Type}(x y:ByteArray)(k:ByteArray->Option R):Option R:=bif decide (x.size+y.size<=9223372036854775807) then k (x++y) else none
open Go.RowKit
def cZ (w:World)(g off:Nat)(cs:List Value):Prop:=∀ i v,cs[i]?=some v->w.cell? ⟨g,off+i,none⟩=some v
theorem cZ.same {w w':World}{g off:Nat}{cs:List Value}(h:cZ w g off cs)(u:w'.heap[g]?=w.heap[g]?):cZ w' g off cs:=by
 intro i v r;have:=h i v r;simpa[Cb,u]using this
def Rd (w:World)(G:Nat->Prop):(a:Ty)->a.den->List Value->Prop
 |.int k,n,r=>r=[.int k n]
 |.bool,b,r=>r=[.bool b]
 |.str,s,r=>r=[.string s]
 |.unit,_,r=>r=[]
 |.hdr,n,r=>∃ A u,r=[.slice A n u]
 |.pair a b,x,r=>∃ H z,r=H++z/\Rd w G a x.1 H/\Rd w G b x.2 z
 |.list _ _ e,y,r=>∃ A u,r=[.slice A y.length u]/\y.length<=u /\
  (0<y.length->∃ g o,A=some ⟨g,o,none⟩/\G g/\∀ j (x:e.den),y[j]?=some x->∃ c,Rd w G e x c/\cZ w g (o+j*e.cells) c)
theorem Rd.carry {w w':World}{G G':Nat->Prop}(r:∀ k,G k->G' k)(u:∀ k,G k->w'.heap[k]?=w.heap[k]?) :
  ∀ {a:Ty} {x:a.den} {cs:List Value},Rd w G a x cs->Rd w' G' a x cs
 |.int _,_,_,h=>h
 |.bool,_,_,h=>h
 |.str,_,_,h=>h
 |.unit,_,_,h=>h
 |.hdr,_,_,h=>h
 |.pair _ _,_,_,⟨Z,Y,e,R,J⟩=>⟨Z,Y,e,Rd.carry r u R,Rd.carry r u J⟩
 |.list _ _ _,_,_,⟨A,z,e,I,h⟩=>⟨A,z,e,I,λX=>by
   obtain⟨g,o,hA,H,M⟩:=h X;exact⟨g,o,hA,r g H,λj x hj=>by
    obtain⟨c,O,y⟩:=M j x hj;exact⟨c,Rd.carry r u O,y.same (u g H)⟩⟩⟩
theorem Rd.mono {w:World}{G G':Nat->Prop}(r:∀ k,G k->G' k){a:Ty}{x:a.den}{cs:List Value}(h:Rd w G a x cs):Rd w G' a x cs :=
 Rd.carry r (λ_ _=>rfl) h
theorem Rd.len {w:World}{G:Nat->Prop}:∀ {a:Ty} {x:a.den} {cs:List Value},Rd w G a x cs->cs.length=a.cells
 |.int _,_,_,h=>by rw[show _=_ from h];rfl
 |.bool,_,_,h=>by rw[show _=_ from h];rfl
 |.str,_,_,h=>by rw[show _=_ from h];rfl
 |.unit,_,_,h=>by rw[show _=_ from h];rfl
 |.hdr,_,_,⟨A,r,e⟩=>by rw[e];rfl
 |.pair _ _,_,_,⟨H,z,e,u,y⟩=>by rw[e,CJ,Rd.len u,Rd.len y];rfl
 |.list _ _ _,_,_,⟨A,r,e,_,_⟩=>by rw[e];rfl
theorem Rd.one {w:World}{G:Nat->Prop}:∀ {a:Ty} {x:a.den} {cs:List Value},Rd w G a x cs->∀ v∈cs,v.oneCell'=true
 |.int _,_,_,h=>by rw[show _=_ from h];simp[BK]
 |.bool,_,_,h=>by rw[show _=_ from h];simp[BK]
 |.str,_,_,h=>by rw[show _=_ from h];simp[BK]
 |.unit,_,_,h=>by rw[show _=_ from h];simp
 |.hdr,_,_,⟨A,u,e⟩=>by rw[e];simp[BK]
 |.pair _ _,_,_,⟨H,I,e,y,z⟩=>by
  rw[e];intro v r;rcases BN.1 r with r|r
  ·exact Rd.one y v r
  ·exact Rd.one z v r
 |.list _ _ _,_,_,⟨A,u,e,_,_⟩=>by rw[e];simp[BK]
theorem Rd.flat {w w':World}{G G':Nat->Prop}:∀ {a:Ty} {x:a.den} {cs:List Value},a.flat=true->Rd w G a x cs->Rd w' G' a x cs
 |.int _,_,_,_,h=>h
 |.bool,_,_,_,h=>h
 |.str,_,_,_,h=>h
 |.unit,_,_,_,h=>h
 |.hdr,_,_,_,h=>h
 |.pair _ _,_,_,r,⟨z,y,e,u,H⟩=>by
  simp only[Ty.flat,BD]at r;exact⟨z,y,e,Rd.flat r.1 u,Rd.flat r.2 H⟩
theorem hZ:∀ {a b:Ty},a.sh=b.sh->a.cells=b.cells
 |.pair a b,.pair c d,h=>by
  simp only[Ty.sh,Ty.pair.injEq]at h;simp only[Ty.cells,hZ h.1,hZ h.2]
 |.int _,.int _,_|.int _,.bool,_|.int _,.str,_|.int _,.hdr,_|.int _,.list _ _ _,_=>rfl
 |.bool,.int _,_|.bool,.bool,_|.bool,.str,_|.bool,.hdr,_|.bool,.list _ _ _,_=>rfl
 |.str,.int _,_|.str,.bool,_|.str,.str,_|.str,.hdr,_|.str,.list _ _ _,_=>rfl
 |.hdr,.int _,_|.hdr,.bool,_|.hdr,.str,_|.hdr,.hdr,_|.hdr,.list _ _ _,_=>rfl
 |.list _ _ _,.int _,_|.list _ _ _,.bool,_|.list _ _ _,.str,_|.list _ _ _,.hdr,_|.list _ _ _,.list _ _ _,_=>rfl
 |.unit,.unit,_=>rfl
theorem sm {A u B r:Type}(H:A=u)(z:B=r){x:A×B}{y:u×r}(h:HEq x y):HEq x.1 y.1/\HEq x.2 y.2:=by
 subst H;subst z;cases h;exact⟨HEq.rfl,HEq.rfl⟩
theorem sn {A u:Type}(z:A=u){xs:List A}{r:List u}(h:HEq xs r):xs.length=r.length/\∀ (j:Nat) (y:u),r[j]?=some y->∃ x:A,xs[j]?=some x/\HEq x y:=by
 subst z;cases h;exact⟨rfl,λj y H=>⟨y,H,HEq.rfl⟩⟩
theorem Rd.flags {w:World}{G:Nat->Prop}:∀ {a b:Ty} {x:a.den} {y:b.den} {cs:List Value},a.sh=b.sh->HEq x y->Rd w G a x cs->Rd w G b y cs
 |.pair a b,.pair c d,x,y,cs,h,r,⟨c1,Z,e,u,H⟩=>by
  simp only[Ty.sh,Ty.pair.injEq]at h;obtain⟨I,z⟩:=sm (jr h.1) (jr h.2) r;exact⟨c1,Z,e,Rd.flags h.1 I u,Rd.flags h.2 z H⟩
 |.list _ _ e,.list _ _ e',xs,ys,cs,h,r,⟨A,J,u,H,I⟩=>by
  simp only[Ty.sh,Ty.list.injEq,true_and]at h;obtain⟨z,M⟩:=sn (jr h.2) r;refine⟨A,J,by rw[<- z];exact u,by rw[<- z];exact H,λY=>?_⟩;obtain⟨g,o,hA,hg,R⟩:=I (by rw[z];exact Y);refine⟨g,o,hA,hg,λj y hj=>?_⟩;obtain⟨x,X,h7⟩:=M j y hj;obtain⟨c,h8,O⟩:=R j x X;rw[<- hZ h.2];exact⟨c,Rd.flags h.2 h7 h8,O⟩
 |.int k,.int k',x,y,cs,h,r,u=>by
  simp only[Ty.sh]at h
  grind
 |.bool,.bool,x,y,cs,h,r,u=>by cases r;exact u
 |.str,.str,x,y,cs,h,r,u=>by cases r;exact u
 |.unit,.unit,x,y,cs,h,r,u=>u
 |.hdr,.hdr,x,y,cs,h,r,u=>by cases r;exact u
def Row (w:World)(E:TypeId)(s:Nat)(v:Value)(n:Nat)(flat:List Value):Prop :=
 flat.length=n*s/\((v=.slice none 0 0/\n=0) \/
  ∃ g u r mk,v=.slice (some ⟨g,0,none⟩) n u/\w.heap[g]?=some (.cells r E mk)/\n<=u/\(mk=(0,0)/\u<=maxLen\/E=5/\r.size<=mk.1)/\u*s<=r.size/\r.toList.take (n*s)=flat)
theorem Row.of {w:World}{b:Nat}{E:TypeId}{s n:Nat}{v:Value}{flat:List Value}(h:w.ownsRow b E s v n flat):Row w E s v n flat:=by
 refine⟨h.1,h.2.imp id ?_⟩
 grind
theorem Row.same {w w':World}{E:TypeId}{s n:Nat}{v:Value}{flat:List Value}(h:Row w E s v n flat)(H:∀ k∈v.ownBlock.toList,w'.heap[k]?=w.heap[k]?):Row w' E s v n flat:=by
 refine⟨h.1,?_⟩;rcases h.2 with I|⟨g,y,u,mk,rfl,z,r⟩
 ·grind
 ·exact .inr ⟨g,y,u,mk,rfl,by rw[H g (by simp[BY])];exact z,r⟩
theorem Row.lt {w:World}{E:TypeId}{s n:Nat}{v:Value}{flat:List Value}(h:Row w E s v n flat):∀ k∈v.ownBlock.toList,k<w.heap.size:=by
 intro k r;rcases h.2 with ⟨rfl,_⟩|⟨g,y,u,_,rfl,z,_⟩
 ·simp[BY]at r
 ·simp[BY]at r
  grind
theorem Row.slice {w:World}{E:TypeId}{s n:Nat}{v:Value}{flat:List Value}(h:Row w E s v n flat):∃ A r,v=.slice A n r/\n<=r:=by
 rcases h.2 with ⟨rfl,z⟩|⟨g,r,u,_,rfl,_,y,_⟩
 ·grind
 ·grind
theorem Row.nil (w:World)(E:TypeId)(s:Nat):Row w E s (.slice none 0 0) 0 []:=⟨by simp,.inl ⟨rfl,rfl⟩⟩
theorem Row.cellAt {w:World}{E:TypeId}{s n g y:Nat}{flat:List Value}(h:Row w E s (.slice (some ⟨g,0,none⟩) n y) n flat)(j:Nat)(I:j<n*s):w.cell? ⟨g,j,none⟩=flat[j]?:=by
 rcases h.2 with ⟨u,_⟩|⟨M,H,z,mk,u,J,_,_,_,r⟩
 ·grind
 ·simp at u;obtain⟨rfl,rfl⟩:=u;rw[cell_of_row w g j z E mk J,<- r,BP,if_pos I];simp
theorem zj {mk:Nat×Nat}{E z c:Nat}(h:mk=(0,0)/\c<=maxLen\/E=5/\z<=mk.1):mk.2=0\/z<=mk.1:=h.imp (λh=>by rw[h.1]) (·.2)
theorem qR {w:World}{g j:Nat}{cs:Array Value}{E:TypeId}{mk:Nat×Nat}(r:w.heap[g]?=some (.cells cs E mk))(u:mk.2=0\/cs.size<=mk.1)(y:j<cs.size):w.frozen? ⟨g,j,none⟩=false:=by
 simp only[World.frozen?,r,Bool.and_eq_false_iff,decide_eq_false_iff_not];omega
def Mx (w:World)(G:Nat->Prop):(a:Ty)->Option Nat->Nat->a.den->List Value->List Nat->Prop
 |.int k,_,_,n,y,r=>y=[.int k n]/\r=[]
 |.bool,_,_,b,y,r=>y=[.bool b]/\r=[]
 |.str,_,_,s,y,r=>y=[.string s]/\r=[]
 |.unit,_,_,_,y,r=>y=[]/\r=[]
 |.hdr,_,_,n,y,r=>(∃ A J,y=[.slice A n J])/\r=[]
 |.pair a b,h,pos,x,y,r=>∃ X R M O,y=X++R/\r=M++O/\Mx w G a h pos x.1 X M/\Mx w G b h (pos+a.cells) x.2 R O
 |.list m E e,h,pos,I,y,r=>∃ v,y=[v]/\v.oneCell'=true /\
  (if m=true then (if h=some pos then r=[] else ∃ z H,Row w E e.cells v I.length z/\r=v.ownBlock.toList++(Bw I.length).flatMap H /\
    ∀ j (x:e.den),I[j]?=some x->∃ c,Mx w G e none 0 x c (H j)/\∀ i u,c[i]?=some u->z[j*e.cells+i]?=some u)
   else r=[]/\Rd w G (.list m E e) I [v])
def OwB (w:World)(G:Nat->Prop)(h:Option (Nat×Nat))(E:TypeId)(e:Ty)(xs:List e.den)(v:Value)(bs:List Nat):Prop :=
 ∃ r y,Row w E e.cells v xs.length r/\bs=v.ownBlock.toList++(Bw xs.length).flatMap y /\
  ∀ j (x:e.den),xs[j]?=some x->∃ c,Mx w G e (cS h j) 0 x c (y j)/\∀ i u,c[i]?=some u->r[j*e.cells+i]?=some u
def OwH (w:World)(G:Nat->Prop)(h:Option (Nat×Nat))(E:TypeId)(e:Ty)(xs:List e.den)(v:Value)(bs:List Nat):Prop:=bs.Nodup/\OwB w G h E e xs v bs
abbrev Ow (w:World)(G:Nat->Prop)(E:TypeId)(e:Ty)(xs:List e.den)(v:Value)(bs:List Nat):Prop:=OwH w G none E e xs v bs
theorem OwB.one {w:World}{G:Nat->Prop}{h:Option (Nat×Nat)}{E:TypeId}{e:Ty}{xs:List e.den}{v:Value}{bs:List Nat}(H:OwB w G h E e xs v bs):v.oneCell'=true:=by
 obtain⟨r,z,u,_⟩:=H;obtain⟨A,y,rfl,_⟩:=u.slice;rfl
theorem bK {w:World}{G:Nat->Prop}{h:Option Nat}{E:TypeId}{e:Ty}{pos:Nat}{xs:List e.den}{cs:List Value}{bs:List Nat}(r:h≠some pos) :
  Mx w G (.list true E e) h pos xs cs bs<->∃ v,cs=[v]/\OwB w G none E e xs v bs:=by
 simp only[Mx,if_neg r];constructor
 ·rintro⟨v,h1,h2,h3⟩;exact⟨v,h1,h3⟩
 ·rintro⟨v,h1,h3⟩;exact⟨v,h1,h3.one,h3⟩
theorem i8 {w:World}{G:Nat->Prop}{E:TypeId}{e:Ty}{pos:Nat}{xs:List e.den}{cs:List Value}{bs:List Nat} :
  Mx w G (.list true E e) (some pos) pos xs cs bs<->∃ v,cs=[v]/\v.oneCell'=true/\bs=[]:=by
 simp only[Mx,if_true]
theorem cr {w:World}{G:Nat->Prop}{h:Option Nat}{E:TypeId}{e:Ty}{pos:Nat}{xs:List e.den}{cs:List Value}{bs:List Nat} :
  Mx w G (.list false E e) h pos xs cs bs<->bs=[]/\Rd w G (.list false E e) xs cs:=by
 simp only[Mx];constructor
 ·grind
 ·rintro⟨h1,h2⟩;obtain⟨A,r,y,u⟩:=h2;exact⟨_,y,rfl,h1,A,r,rfl,u⟩
theorem dW {n:Nat}{r:Nat->List Nat}{k:Nat}:k∈(Bw n).flatMap r<->∃ j,j<n/\k∈r j:=by simp
theorem Mx.carry {w w':World}{G G':Nat->Prop}(I:∀ k,G k->G' k)(J:∀ k,G k->w'.heap[k]?=w.heap[k]?) :
  ∀ {a:Ty} {h:Option Nat} {pos:Nat} {x:a.den} {cs:List Value} {bs:List Nat},(∀ k∈bs,w'.heap[k]?=w.heap[k]?)->Mx w G a h pos x cs bs->Mx w' G' a h pos x cs bs
 |.int _,_,_,_,_,_,_,h=>h
 |.bool,_,_,_,_,_,_,h=>h
 |.str,_,_,_,_,_,_,h=>h
 |.unit,_,_,_,_,_,_,h=>h
 |.hdr,_,_,_,_,_,_,h=>h
 |.pair _ _,_,_,_,_,_,y,⟨c1,c2,b1,b2,R,M,O,u⟩=>⟨c1,c2,b1,b2,R,M,Mx.carry I J (λk r=>y k (by rw[M];exact BG _ r)) O,Mx.carry I J (λk r=>y k (by rw[M];exact BF _ r)) u⟩
 |.list m E e,h,pos,xs,cs,bs,y,H=>by
  cases m with
  |false =>
   rw[cr]at H ⊢;exact⟨H.1,H.2.carry I J⟩
  |true =>
   by_cases Y:h=some pos
   ·subst Y;rw[i8]at H ⊢;exact H
   ·rw[bK Y]at H ⊢;obtain⟨v,R,z,X,O,u,h3⟩:=H;refine⟨v,R,z,X,O.same (λk r=>y k (by rw[u];exact BG _ r)),u,λj x Z=>?_⟩;obtain⟨c,h4,h5⟩:=h3 j x Z;refine⟨c,?_,h5⟩;exact Mx.carry I J (λk r=>y k (by rw[u];exact BF _ (dW.2 ⟨j,(BC.1 Z).1,r⟩))) h4
theorem Mx.mono {w:World}{G G':Nat->Prop}(r:∀ k,G k->G' k){a:Ty}{h:Option Nat}{pos:Nat}{x:a.den}{cs:List Value}{bs:List Nat}(H:Mx w G a h pos x cs bs):Mx w G' a h pos x cs bs :=
 Mx.carry r (λ_ _=>rfl) (λ_ _=>rfl) H
theorem OwB.carry {w w':World}{G G':Nat->Prop}{h:Option (Nat×Nat)}{E:TypeId}{e:Ty}{xs:List e.den}{v:Value}{bs:List Nat}(H:OwB w G h E e xs v bs)
  (X:∀ k,G k->G' k) (Y:∀ k,G k->w'.heap[k]?=w.heap[k]?) (I:∀ k∈bs,w'.heap[k]?=w.heap[k]?):OwB w' G' h E e xs v bs:=by
 obtain⟨r,y,R,u,O⟩:=H;refine⟨r,y,R.same (λk z=>I k (by rw[u];exact BG _ z)),u,λj x J=>?_⟩;obtain⟨c,Z,M⟩:=O j x J;exact⟨c,Mx.carry X Y (λk z=>I k (by rw[u];exact BF _ (dW.2 ⟨j,(BC.1 J).1,z⟩))) Z,M⟩
theorem OwH.carry {w w':World}{G G':Nat->Prop}{h:Option (Nat×Nat)}{E:TypeId}{e:Ty}{xs:List e.den}{v:Value}{bs:List Nat}(H:OwH w G h E e xs v bs)
 (y:∀ k,G k->G' k) (r:∀ k,G k->w'.heap[k]?=w.heap[k]?) (u:∀ k∈bs,w'.heap[k]?=w.heap[k]?):OwH w' G' h E e xs v bs:=⟨H.1,H.2.carry y r u⟩
theorem Mx.len {w:World}{G:Nat->Prop}:∀ {a:Ty} {h:Option Nat} {pos:Nat} {x:a.den} {cs:List Value} {bs:List Nat},Mx w G a h pos x cs bs->cs.length=a.cells
 |.int _,_,_,_,_,_,h=>by rw[h.1];rfl
 |.bool,_,_,_,_,_,h=>by rw[h.1];rfl
 |.str,_,_,_,_,_,h=>by rw[h.1];rfl
 |.unit,_,_,_,_,_,h=>by rw[h.1];rfl
 |.hdr,_,_,_,_,_,⟨⟨A,z,e⟩,_⟩=>by rw[e];rfl
 |.pair _ _,_,_,_,_,_,⟨O,M,H,J,y,I,u,r⟩=>by rw[y,CJ,u.len,r.len];rfl
 |.list _ _ _,_,_,_,_,_,⟨v,e,_⟩=>by rw[e];rfl
theorem Mx.one {w:World}{G:Nat->Prop}:∀ {a:Ty} {h:Option Nat} {pos:Nat} {x:a.den} {cs:List Value} {bs:List Nat},Mx w G a h pos x cs bs->∀ v∈cs,v.oneCell'=true
 |.int _,_,_,_,_,_,h=>by rw[h.1];simp[BK]
 |.bool,_,_,_,_,_,h=>by rw[h.1];simp[BK]
 |.str,_,_,_,_,_,h=>by rw[h.1];simp[BK]
 |.unit,_,_,_,_,_,h=>by rw[h.1];simp
 |.hdr,_,_,_,_,_,⟨⟨A,H,e⟩,_⟩=>by rw[e];simp[BK]
 |.pair _ _,_,_,_,_,_,⟨R,O,I,M,z,J,u,y⟩=>by
  rw[z];intro v r;rcases BN.1 r with r|r
  ·exact u.one v r
  ·exact y.one v r
 |.list _ _ _,_,_,_,_,_,⟨v,e,u,_⟩=>by rw[e];simpa using u
theorem Mx.lt {w:World}{G:Nat->Prop}:∀ {a:Ty} {h:Option Nat} {pos:Nat} {x:a.den} {cs:List Value} {bs:List Nat},Mx w G a h pos x cs bs->∀ k∈bs,k<w.heap.size
 |.int _,_,_,_,_,_,h=>by rw[h.2];simp
 |.bool,_,_,_,_,_,h=>by rw[h.2];simp
 |.str,_,_,_,_,_,h=>by rw[h.2];simp
 |.unit,_,_,_,_,_,h=>by rw[h.2];simp
 |.hdr,_,_,_,_,_,h=>by rw[h.2];simp
 |.pair _ _,_,_,_,_,_,⟨c1,c2,Z,b2,O,M,y,u⟩=>by
  rw[M];intro k r;rcases BN.1 r with r|r
  ·exact y.lt k r
  ·exact u.lt k r
 |.list m E e,h,pos,xs,cs,bs,H=>by
  cases m with
  |false=>rw[cr]at H;rw[H.1];simp
  |true =>
   by_cases z:h=some pos
   ·subst z;rw[i8]at H
    grind
   ·rw[bK z]at H;obtain⟨v,O,I,R,y,u,J⟩:=H;rw[u];intro k r;rcases BN.1 r with r|r
    ·exact y.lt k r
    ·obtain⟨j,X,r⟩:=dW.1 r;obtain⟨c,Y,_⟩:=J j _ (BE X);exact Y.lt k r
theorem OwB.lt {w:World}{G:Nat->Prop}{h:Option (Nat×Nat)}{E:TypeId}{e:Ty}{xs:List e.den}{v:Value}{bs:List Nat}(H:OwB w G h E e xs v bs):∀ k∈bs,k<w.heap.size:=by
 obtain⟨u,J,I,y,z⟩:=H;rw[y];intro k r;rcases BN.1 r with r|r
 ·exact I.lt k r
 ·obtain⟨j,M,r⟩:=dW.1 r;obtain⟨c,O,_⟩:=z j _ (BE M);exact O.lt k r
theorem OwH.lt {w:World}{G:Nat->Prop}{h:Option (Nat×Nat)}{E:TypeId}{e:Ty}{xs:List e.den}{v:Value}{bs:List Nat}(H:OwH w G h E e xs v bs):∀ k∈bs,k<w.heap.size:=H.2.lt
theorem OwH.nodup {w:World}{G:Nat->Prop}{h:Option (Nat×Nat)}{E:TypeId}{e:Ty}{xs:List e.den}{v:Value}{bs:List Nat}(H:OwH w G h E e xs v bs):bs.Nodup:=H.1
theorem OwH.slice {w:World}{G:Nat->Prop}{h:Option (Nat×Nat)}{E:TypeId}{e:Ty}{xs:List e.den}{v:Value}{bs:List Nat}(H:OwH w G h E e xs v bs) :
  ∃ A r,v=.slice A xs.length r/\xs.length<=r:=by
 obtain⟨_,u,z,y,_⟩:=H;exact y.slice
theorem OwH.one {w:World}{G:Nat->Prop}{h:Option (Nat×Nat)}{E:TypeId}{e:Ty}{xs:List e.den}{v:Value}{bs:List Nat}(H:OwH w G h E e xs v bs):v.oneCell'=true:=H.2.one
theorem so {w:World}{m:Bool}{E E':TypeId}{e:Ty}{xs:List e.den}{v:Value}{flat:List Value}{S:Nat->Prop}(O:Row w E e.cells v xs.length flat)(H:∀ k∈v.ownBlock.toList,S k)
  (J:∀ j (x:e.den),xs[j]?=some x->∃ c,Rd w S e x c/\∀ i u,c[i]?=some u->flat[j*e.cells+i]?=some u):Rd w S (.list m E' e) xs [v]:=by
 rcases O.2 with ⟨rfl,Y⟩|⟨g,y,z,mk,rfl,hg,I,hm,hs,R⟩
 ·exact⟨none,0,by rw[Y],by omega,λhp=>by omega⟩
 ·refine⟨some ⟨g,0,none⟩,y,rfl,I,λ_=>⟨g,0,rfl,H g (by simp[BY]),λj x X=>?_⟩⟩;obtain⟨c,M,r⟩:=J j x X;refine⟨c,M,λi u Z=>?_⟩;have:=r i u Z;rw[<- R,BP]at this;split at this
  ·rw[CM,cell_of_row w g _ z E mk hg]
   simp_all
  ·grind
theorem Mx.rd {w:World}{G S:Nat->Prop}(z:∀ k,G k->S k):∀ {a:Ty} {pos:Nat} {x:a.den} {cs:List Value} {bs:List Nat},(∀ k∈bs,S k)->Mx w G a none pos x cs bs->Rd w S a x cs
 |.int _,_,_,_,_,_,h=>h.1
 |.bool,_,_,_,_,_,h=>h.1
 |.str,_,_,_,_,_,h=>h.1
 |.unit,_,_,_,_,_,h=>h.1
 |.hdr,_,_,_,_,_,h=>h.1
 |.pair _ _,_,_,_,_,u,⟨c1,c2,b1,b2,M,R,J,y⟩=>⟨c1,c2,M,Mx.rd z (λk r=>u k (by rw[R];exact BG _ r)) J,Mx.rd z (λk r=>u k (by rw[R];exact BF _ r)) y⟩
 |.list m E e,pos,xs,cs,bs,u,H=>by
  cases m with
  |false=>rw[cr]at H;exact H.2.mono z
  |true =>
   rw[bK (by simp)]at H;obtain⟨v,M,Y,O,J,y,h3⟩:=H;rw[M];refine so J (λk r=>u k (by rw[y];exact BG _ r)) λj x X=>?_
   obtain⟨c,h4,Z⟩:=h3 j x X;have I:Mx w G e none 0 x c (O j):=h4;exact⟨c,Mx.rd z (λk r=>u k (by rw[y];exact BF _ (dW.2 ⟨j,(BC.1 X).1,r⟩))) I,Z⟩
theorem OwH.rd {w:World}{G:Nat->Prop}{m:Bool}{E E':TypeId}{e:Ty}{xs:List e.den}{v:Value}{bs:List Nat}(H:Ow w G E e xs v bs) :
  Rd w (λk=>G k\/k∈bs) (.list m E' e) xs [v]:=by
 obtain⟨_,J,y,R,z,O⟩:=H;refine so R (λk r=>.inr (by rw[z];exact BG _ r)) λj x I=>?_
 obtain⟨c,X,M⟩:=O j x I;have u:Mx w G e none 0 x c (y j):=X;exact⟨c,u.rd (λk r=>.inl r) (λk r=>.inr (by rw[z];exact BF _ (dW.2 ⟨j,(BC.1 I).1,r⟩))),M⟩
theorem OwH.nil (w:World)(G:Nat->Prop)(E:TypeId)(e:Ty):Ow w G E e [] (.slice none 0 0) [] :=
 ⟨List.nodup_nil,[],λ_=>[],Row.nil w E e.cells,rfl,λj x r=>by simp at r⟩
theorem Rd.nil (w:World)(G:Nat->Prop)(m:Bool)(E:TypeId)(e:Ty):Rd w G (.list m E e) [] [.slice none 0 0] :=
 ⟨none,0,rfl,BI _,λh=>by simp at h⟩
theorem Mx.flat {w w':World}{G G':Nat->Prop}:∀ {a:Ty} {h:Option Nat} {pos:Nat} {x:a.den} {cs:List Value},a.flat=true->Rd w G a x cs->Mx w' G' a h pos x cs []
 |.int _,_,_,_,_,_,h=>⟨h,rfl⟩
 |.bool,_,_,_,_,_,h=>⟨h,rfl⟩
 |.str,_,_,_,_,_,h=>⟨h,rfl⟩
 |.unit,_,_,_,_,_,h=>⟨h,rfl⟩
 |.hdr,_,_,_,_,_,h=>⟨h,rfl⟩
 |.pair _ _,_,_,_,_,r,⟨z,y,e,u,H⟩=>by
  simp only[Ty.flat,BD]at r;exact⟨z,y,[],[],e,rfl,Mx.flat r.1 u,Mx.flat r.2 H⟩
theorem Mx.shared {w:World}{G:Nat->Prop}:∀ {a:Ty} {h:Option Nat} {pos:Nat} {x:a.den} {cs:List Value},a.sh=a->Rd w G a x cs->Mx w G a h pos x cs []
 |.int _,_,_,_,_,_,h=>⟨h,rfl⟩
 |.bool,_,_,_,_,_,h=>⟨h,rfl⟩
 |.str,_,_,_,_,_,h=>⟨h,rfl⟩
 |.unit,_,_,_,_,_,h=>⟨h,rfl⟩
 |.hdr,_,_,_,_,_,h=>⟨h,rfl⟩
 |.pair _ _,_,_,_,_,r,⟨z,y,e,u,H⟩=>by
  simp only[Ty.sh,Ty.pair.injEq]at r;exact⟨z,y,[],[],e,rfl,Mx.shared r.1 u,Mx.shared r.2 H⟩
 |.list m E e,_,_,_,_,r,h=>by
  simp only[Ty.sh,Ty.list.injEq]at r;obtain⟨rfl,_⟩:=r;exact cr.2 ⟨rfl,h⟩
def dg (agg:Bool)(v:Value)(cs:List Value):Prop:=if agg then v=.agg cs.toArray else cs=[v]
def r8 (w:World)(G:Nat->Prop):(y:List Ty)->Tup y->List Value->Prop
 |[],_,u=>u=[]
 |a::as,x,u=>∃ v c r,u=v::r/\dg a.isAgg v c/\Rd w G a x.1 c/\r8 w G as x.2 r
def fP (P:Program)(f:FuncId):Prop:=∀ (r:Array Value) (w:World),(callFunc f r).run P w=.ok (.enter f r) w
def ia (P:Program)(w0:World)(S:Nat->Prop)(H:List Ty)(B:Ty)(I:Tup H->Option B.den)(v:Value):Prop :=
 ∃ f r,v=.func (.func f) #[] r/\fP P f /\
  ∀ w1:World,w0.heap.size<=w1.heap.size->(∀ k,S k->w1.heap[k]?=w0.heap[k]?) ->
   ∀ (x:Tup H) (z:List Value) (y:B.den),r8 w1 (λk=>k<w1.heap.size) H x z->I x=some y ->
    Calls P f (z.toArray++r) w1 (λe w2=>∃ u c,e=.returned u/\dg B.isAgg u c/\Rd w2 (λ_=>False) B y c/\Below w1.heap.size w1 w2)
structure Env where
 w0:World
 ro0:Nat->Prop
 own0:List Nat
 nt:Nat
 fixb:List (Nat×Nat)
 fixt:List (Nat×Value)
def Env.prot (V:Env)(k:Nat):Prop:=k<V.w0.heap.size/\k∉V.own0
structure Wit where
 β:Nat->Nat
 cs:Nat->List Value
 bs:Nat->Nat->List Nat
 nw:Nat->Prop
def gd (V:Env)(W:Wit)(p:Bool)(k:Nat):Prop:=W.nw k\/(p=true/\V.ro0 k)
def an:Leaf->Prop
 |.own _ _ _ _ _=>True
 |_=>False
def RpOk (V:Env)(W:Wit)(w:World)(p:Bool)(a:Ty)(x:a.den)(off:Nat)(v:Value):Prop :=
 ∃ g o c,v=.pointer (some ⟨g,o+off,none⟩)/\(W.nw g\/V.prot g)/\Rd w (gd V W p) a x c/\cZ w g o c
def r9 (V:Env)(W:Wit)(w:World)(p:Bool)(a:Ty)(x:a.den)(v:Value):Prop :=
 ∃ b r g o c,v=.pointer (some ⟨b,r,none⟩)/\(W.nw b\/V.prot b)/\w.cell? ⟨b,r,none⟩=some (.pointer (some ⟨g,o,none⟩)) /\
  (W.nw g\/V.prot g)/\Rd w (gd V W p) a x c/\cZ w g o c
def iK (V:Env)(W:Wit)(w:World)(c:Bool×Bool×(a:Ty)×a.den)(v:Value):Prop :=
 if c.2.1=true then r9 V W w c.1 c.2.2.1 c.2.2.2 v else RpOk V W w c.1 c.2.2.1 c.2.2.2 0 v
def sa (st:St)(ks:List (Nat×Nat×Nat)):Prop:=∀ k∈ks,∃ l,(st k.1).ls[k.2.1]?=some l/\an l
structure sb (V:Env) (W:Wit) (w:World) (p:Bool) (ks:List (Nat×Nat×Nat)) (loc:Option (Nat×Nat×Nat)) (E:TypeId) (e:Ty) (xs:List e.den) (v:Value):Prop where
 rd:Rd w (λb=>gd V W p b\/∃ k∈ks,b∈W.bs k.1 k.2.1) (.list false E e) xs [v]
 at_:∀ i sz off,loc=some (i,sz,off)->∃ r j n,ks=[(r,j,n)]/\∃ g len cap,(W.cs r)[j]?=some (.slice (some ⟨g,0,none⟩) len cap)/\i<len/\g∈W.bs r j/\w.cell? ⟨g,i*sz+off,none⟩=some v
structure NpOk (V:Env) (W:Wit) (w:World) (p:Bool) (ks:List (Nat×Nat×Nat)) (a:Ty) (x:a.den) (off:Nat) (v:Value):Prop where
 rd:∃ g o c,v=.pointer (some ⟨g,o+off,none⟩)/\(gd V W p g\/∃ k∈ks,g∈W.bs k.1 k.2.1)/\Rd w (λb=>gd V W p b\/∃ k∈ks,b∈W.bs k.1 k.2.1) a x c/\cZ w g o c
def aJ (P:Program)(V:Env)(W:Wit)(st:St)(w:World)(bs:List Nat):Leaf->Value->Prop
 |.int k n,v=>v=.int k n
 |.bool b,v=>v=.bool b
 |.str s,v=>v=.string s
 |.nil,v=>v=.slice none 0 0
 |.hdr n,v=>∃ A H,v=.slice A n H
 |.ro p E e J,v=>Rd w (gd V W p) (.list false E e) J [v]
 |.own p h E e J,v=>OwH w (gd V W p) h E e J v bs
 |.al r j n,v=>n<=(st r).ver/\((st r).ver=n->(W.cs r)[j]?=some v)
 |.nal p z ep O E e J,v=>ep<=(st EPO).ver/\(∀ k∈z,k.2.2<=(st k.1).ver)/\((st EPO).ver=ep->(∀ k∈z,(st k.1).ver=k.2.2)->sa st z->sb V W w p z O E e J v)
 |.ep r j n i Y off,v=>n<=(st r).ver/\((st r).ver=n->∃ g I H,(W.cs r)[j]?=some (.slice (some ⟨g,0,none⟩) I H)/\i<I/\v=.pointer (some ⟨g,i*Y+off,none⟩))
 |.np p z ep a x off,v=>ep<=(st EPO).ver/\(∀ k∈z,k.2.2<=(st k.1).ver)/\((st EPO).ver=ep->(∀ k∈z,(st k.1).ver=k.2.2)->sa st z->NpOk V W w p z a x off v)
 |.rp p a x off,v=>RpOk V W w p a x off v
 |.rpp p a x,v=>r9 V W w p a x v
 |.bp b off,v=>B0<=b/\(st b).sh=.agg/\v=.pointer (some ⟨W.β b,off,none⟩)
 |.clo f y,v=>v=.func (.func f) #[] (y.map λb=>Value.pointer (some ⟨W.β b,0,none⟩)).toArray/\∀ b∈y,B0<=b/\(st b).sh=.agg
 |.clr f y,v=>∃ M:List Value,v=.func (.func f) #[] M.toArray/\M.length=y.length/\∀ (i:Nat) (c:Bool×Bool×(a:Ty)×a.den) (u:Value),y[i]?=some c->M[i]?=some u->iK V W w c u
 |.fn R B X,v=>ia P V.w0 V.prot R B X v
 |.dead,_=>True
def pm:List (Bool×Nat)->List Value->List Value->Prop
 |[],y,z=>y=[]/\z=[]
 |(agg,n)::H,y,z=>∃ v u c r,y=v::u/\z=c++r/\c.length=n/\dg agg v c/\pm H u r
def ee:aH->Value->List Value->Prop
 |.off,_,r=>r=[]
 |.und,v,r=>v=undef/\r=[]
 |.one,v,r=>r=[v]
 |.agg,v,r=>v=.agg r.toArray
 |.tup y,v,r=>∃ u,v=.tuple u.toArray/\pm y u r
def live (st:St)(b:Nat):Prop:=B0<=b/\(st b).sh=.agg
structure ap (P:Program) (V:Env) (W:Wit) (st:St) (a:Act) (w:World):Prop where
 nt:a.tmps.size=V.nt
 df:a.defers=[]
 slots:∀ t,t<GH->ee (st t).sh (a.tmps.getD t undef) (W.cs t)
 boxes:∀ b,B0<=b->((st b).sh=.off/\(st b).ls=[])\/((st b).sh=.agg/\∃ E,w.heap[W.β b]?=some (.cells (W.cs b).toArray E (0,0)))
 len:∀ r,(st r).ls.length=(W.cs r).length
 one:∀ r,∀ v∈W.cs r,v.oneCell'=true
 leaf:∀ r j l v,(st r).ls[j]?=some l->(W.cs r)[j]?=some v->aJ P V W st w (W.bs r j) l v
 ownb:∀ r j l,(st r).ls[j]?=some l->an l->∀ k∈W.bs r j,¬ W.nw k/\¬ V.prot k/\∀ b,live st b->W.β b≠k
 sep:∀ r j l r' j' l',(st r).ls[j]?=some l->an l->(st r').ls[j']?=some l'->an l'->∀ k,k∈W.bs r j->k∈W.bs r' j'->r=r'/\j=j'
 box:∀ b,live st b->¬ W.nw (W.β b)/\¬ V.prot (W.β b)
 inj:∀ b b',live st b->live st b'->W.β b=W.β b'->b=b'
 nwlt:∀ k,W.nw k->k<w.heap.size/\¬ V.prot k
 os:w.os=V.w0.os
 tape:w.tape=V.w0.tape
 output:w.output=V.w0.output
 size:V.w0.heap.size<=w.heap.size
 keep:∀ k,V.prot k->w.heap[k]?=V.w0.heap[k]?
 fixb:∀ x∈V.fixb,live st x.1/\W.β x.1=x.2
 fixt:∀ x∈V.fixt,a.tmps.getD x.1 undef=x.2
def Rel (P:Program)(V:Env)(st:St)(a:Act)(w:World):Prop:=∃ W,ap P V W st a w
structure ay (V:Env):Prop where
 ro:∀ k,V.ro0 k->V.prot k
 nt:V.nt<=GH
theorem ay.ntB {V:Env}(h:ay V):V.nt<=B0:=BL h.nt (by decide)
section
variable {P:Program} {V:Env} {W W':Wit} {st st':St} {w w':World}
theorem bU {p q:Bool}(y:p=true->q=true)(u:∀ k,W.nw k->W'.nw k):∀ k,gd V W p k->gd V W' q k:=by
 intro k r;rcases r with r|⟨z,r⟩
 ·exact .inl (u k r)
 ·exact .inr ⟨y z,r⟩
structure cH (V:Env) (W W':Wit) (st st':St) (w w':World):Prop where
 ver:∀ r,(st r).ver<=(st' r).ver/\((st' r).ver=(st r).ver->W'.cs r=W.cs r)
 box:∀ b,live st b->live st' b/\W'.β b=W.β b
 nw:∀ k,W.nw k->W'.nw k
 heap:∀ k,(W.nw k\/V.prot k)->w'.heap[k]?=w.heap[k]?
 epo:(st' EPO).ver=(st EPO).ver->∀ (r j:Nat) (l:Leaf),(st' r).ls[j]?=some l->an l->(st' r).ver=(st r).ver ->
  (∃ l',(st r).ls[j]?=some l'/\an l')/\W'.bs r j=W.bs r j/\∀ k∈W.bs r j,w'.heap[k]?=w.heap[k]?
theorem cH.refl (V:Env)(W:Wit)(st:St)(w:World):cH V W W st st w w :=
 ⟨λ_=>⟨BI _,λ_=>rfl⟩,λ_ y=>⟨y,rfl⟩,λ_ h=>h,λ_ _=>rfl,λ_ _ _ l r u _=>⟨⟨l,r,u⟩,rfl,λ_ _=>rfl⟩⟩
theorem kw {w w':World}{a:Addr}(h:w'.heap[a.block]?=w.heap[a.block]?):w'.cell? a=w.cell? a:=by simp[Cb,h]
theorem cH.gdheap (u:∀ k,V.ro0 k->V.prot k)(h:cH V W W' st st' w w')(p:Bool):∀ k,gd V W p k->w'.heap[k]?=w.heap[k]?:=by
 intro k r;rcases r with r|⟨_,r⟩
 ·exact h.heap k (.inl r)
 ·exact h.heap k (.inr (u k r))
theorem wE {ks:List (Nat×Nat×Nat)}{ep:Nat}(u:cH V W W' st st' w w')(H:ep<=(st EPO).ver)(z:∀ k∈ks,k.2.2<=(st k.1).ver)(I:(st' EPO).ver=ep)(y:∀ k∈ks,(st' k.1).ver=k.2.2) :
  (st EPO).ver=ep/\∀ k∈ks,(st k.1).ver=k.2.2 :=
 ⟨by have:=(u.ver EPO).1;omega,λk r=>by have:=(u.ver k.1).1;have:=z k r;have:=y k r;omega⟩
theorem cH.places {ks:List (Nat×Nat×Nat)}{ep:Nat}(M:cH V W W' st st' w w')(z:sa st' ks)(O:(st EPO).ver=ep)(y:∀ k∈ks,(st k.1).ver=k.2.2)
  (R:(st' EPO).ver=ep) (H:∀ k∈ks,(st' k.1).ver=k.2.2) :
  ∀ k∈ks,(∃ u,(st k.1).ls[k.2.1]?=some u/\an u)/\W'.bs k.1 k.2.1=W.bs k.1 k.2.1/\∀ b∈W.bs k.1 k.2.1,w'.heap[b]?=w.heap[b]?:=λk r=>by
 obtain⟨l,I,J⟩:=z k r;exact M.epo (by omega) k.1 k.2.1 l I J (by rw[H k r,y k r])
theorem aJ.carry (J:∀ k,V.ro0 k->V.prot k){bs bs':List Nat}{l:Leaf}{v:Value}(h:aJ P V W st w bs l v)(y:cH V W W' st st' w w')
  (a2:an l->bs'=bs/\∀ k∈bs,w'.heap[k]?=w.heap[k]?):aJ P V W' st' w' bs' l v:=by
 have hG:∀ p k,gd V W p k->gd V W' p k:=λp=>bU (λh=>h) y.nw
 have hP:∀ k,(W.nw k\/V.prot k)->(W'.nw k\/V.prot k):=λk M=>M.imp (y.nw k) id
 have hR:∀ {p:Bool} {a:Ty} {x:a.den} {off:Nat} {v:Value},RpOk V W w p a x off v->RpOk V W' w' p a x off v:=by
  rintro p a x off v ⟨g,o,c,hv,Y,hr,Z⟩;exact⟨g,o,c,hv,hP g Y,Rd.carry (hG p) (y.gdheap J p) hr,Z.same (y.heap g Y)⟩
 have a4:∀ {p:Bool} {a:Ty} {x:a.den} {v:Value},r9 V W w p a x v->r9 V W' w' p a x v:=by
  rintro p a x v ⟨b,ob,g,o,c,hv,I,a0,Y,hr,Z⟩;exact⟨b,ob,g,o,c,hv,hP b I,by rw[kw (y.heap b I)];exact a0,hP g Y,Rd.carry (hG p) (y.gdheap J p) hr,Z.same (y.heap g Y)⟩
 cases l with
 |int k n=>exact h
 |bool b=>exact h
 |str s=>exact h
 |nil=>exact h
 |hdr n=>exact h
 |ro p E e xs=>exact Rd.carry (hG p) (y.gdheap J p) h
 |own p hh E e xs =>
  obtain⟨rfl,I⟩:=a2 trivial;exact OwH.carry h (hG p) (y.gdheap J p) I
 |nal p ks ep a7 E e xs =>
  obtain⟨z,H,O⟩:=h;refine⟨BL z (y.ver EPO).1,λk M=>BL (H k M) (y.ver k.1).1,λhe M ho=>?_⟩;obtain⟨e1,e2⟩:=wE y z H he M;have h5:=y.places ho e1 e2 he M;have X:=O e1 e2 (λk R=>(h5 k R).1);refine⟨Rd.carry ?_ ?_ X.rd,λi sz off hl=>?_⟩
  ·grind
  ·rintro b (I|⟨k,R,I⟩)
   ·exact y.gdheap J p b I
   ·grind
  ·obtain⟨r,j,n,rfl,g,a5,a6,h6,h7,h8,h9⟩:=X.at_ i sz off hl;have R:(r,j,n)∈[(r,j,n)]:=CK ..;have a3:(st' r).ver=(st r).ver:=(M _ R).trans (e2 _ R).symm;refine⟨r,j,n,rfl,g,a5,a6,by rw[(y.ver r).2 a3];exact h6,h7,by rw[(h5 _ R).2.1];exact h8,?_⟩;rw[kw ((h5 _ R).2.2 g h8)];exact h9
 |np p ks ep a x off =>
  obtain⟨z,H,O⟩:=h;refine⟨BL z (y.ver EPO).1,λk M=>BL (H k M) (y.ver k.1).1,λhe M ho=>?_⟩;obtain⟨e1,e2⟩:=wE y z H he M;have h5:=y.places ho e1 e2 he M;have X:=O e1 e2 (λk R=>(h5 k R).1);have hS:∀ b,(gd V W p b\/∃ k∈ks,b∈W.bs k.1 k.2.1)->(gd V W' p b\/∃ k∈ks,b∈W'.bs k.1 k.2.1):=by
   grind
  have hW:∀ b,(gd V W p b\/∃ k∈ks,b∈W.bs k.1 k.2.1)->w'.heap[b]?=w.heap[b]?:=by
   rintro b (I|⟨k,R,I⟩)
   ·exact y.gdheap J p b I
   ·grind
  obtain⟨g,o,c,hv,Y,hr,Z⟩:=X.rd;exact⟨g,o,c,hv,hS g Y,Rd.carry hS hW hr,Z.same (hW g Y)⟩
 |al r j n =>
  obtain⟨z,H⟩:=h;obtain⟨O,X⟩:=y.ver r;refine⟨BL z O,λhv=>?_⟩
  grind
 |ep r j n i sz off =>
  obtain⟨z,H⟩:=h;obtain⟨O,X⟩:=y.ver r;refine⟨BL z O,λhv=>?_⟩
  grind
 |rp p a x off=>exact hR h
 |rpp p a x=>exact a4 h
 |clr f a1 =>
  obtain⟨us,z,H,O⟩:=h;refine⟨us,z,H,λi c u Z hu=>?_⟩;have X:=O i c u Z hu;unfold iK at X ⊢
  grind
 |bp b off =>
  obtain⟨z,H,O⟩:=h;obtain⟨X,h5⟩:=y.box b ⟨z,H⟩;exact⟨z,X.2,by rw[h5];exact O⟩
 |clo f a1 =>
  obtain⟨z,H⟩:=h;refine⟨?_,λb I=>(y.box b (H b I)).1⟩;rw[z];congr 2;refine List.map_congr_left λb I=>?_
  rw[(y.box b (H b I)).2]
 |fn As B φ=>exact h
 |dead=>trivial
def aB (P:Program)(V:Env)(W:Wit)(st:St)(w:World):List Leaf->List Value->Prop
 |[],[]=>True
 |l::r,v::u=>(aJ P V W st w [] l v/\¬ an l/\v.oneCell'=true)/\aB P V W st w r u
 |_,_=>False
theorem aB.length:∀ {ls:List Leaf} {cs:List Value},aB P V W st w ls cs->ls.length=cs.length
 |[],[],_=>rfl
 |_::_,_::_,h=>by simp[aB.length h.2]
theorem aB.at_:∀ {ls:List Leaf} {cs:List Value},aB P V W st w ls cs->∀ (j:Nat) (l:Leaf) (v:Value),ls[j]?=some l->cs[j]?=some v->aJ P V W st w [] l v/\¬ an l/\v.oneCell'=true
 |_::_,_::_,h,0,l,v,r,u=>by
  simp at r u;subst r;subst u;exact h.1
 |_::_,_::_,h,j+1,l,v,r,u=>aB.at_ h.2 j l v (by simpa using r) (by simpa using u)
theorem aB.one':∀ {ls:List Leaf} {cs:List Value},aB P V W st w ls cs->∀ v∈cs,v.oneCell'=true
 |[],[],_,_,r=>by simp at r
 |_::_,_::_,h,v,r=>by
  rcases CI.1 r with rfl|r
  ·exact h.1.2.2
  ·exact aB.one' h.2 v r
theorem aB.mk:∀ {ls:List Leaf} {cs:List Value},ls.length=cs.length->(∀ (j:Nat) (l:Leaf) (v:Value),ls[j]?=some l->cs[j]?=some v->aJ P V W st w [] l v/\¬ an l/\v.oneCell'=true)->aB P V W st w ls cs
 |[],[],_,_=>trivial
 |_::_,_::_,h,H=>⟨H 0 _ _ rfl rfl,aB.mk (by simpa using h) λj l v r u=>H (j+1) l v (by simpa using r) (by simpa using u)⟩
theorem aB.drop {ls:List Leaf}{cs:List Value}(h:aB P V W st w ls cs)(n:Nat):aB P V W st w (ls.drop n) (cs.drop n) :=
 aB.mk (by simp[h.length]) λj l v r u=>h.at_ (n+j) l v (by simpa using r) (by simpa using u)
theorem aB.take {ls:List Leaf}{cs:List Value}(h:aB P V W st w ls cs)(n:Nat):aB P V W st w (ls.take n) (cs.take n) :=
 aB.mk (by simp[h.length]) λj l v r u=>by
  rw[BP]at r u;split at r
  ·rename_i y;rw[if_pos y]at u;exact h.at_ j l v r u
  ·grind
theorem aB.append {y z:List Leaf}{r H:List Value}(u:aB P V W st w y r)(J:aB P V W st w z H):aB P V W st w (y++z) (r++H):=by
 induction y generalizing r with
 |nil =>
  cases r with
  |nil=>simpa using J
  |cons=>simp[aB]at u
 |cons l M I =>
  cases r with
  |nil=>simp[aB]at u
  |cons v O=>exact⟨u.1,I u.2⟩
theorem aB.carry (r:∀ k,V.ro0 k->V.prot k)(u:cH V W W' st st' w w'):∀ {ls:List Leaf} {cs:List Value},aB P V W st w ls cs->aB P V W' st' w' ls cs
 |[],[],_=>trivial
 |_::_,_::_,h=>⟨⟨h.1.1.carry r u (λy=>absurd y h.1.2.1),h.1.2⟩,aB.carry r u h.2⟩
theorem eT {G:Nat->Prop}{p:Bool}(y:∀ k,G k->gd V W p k):∀ {a:Ty} {x:a.den} {cs:List Value},Rd w G a x cs->aB P V W st w (cN p a x) cs
 |.int _,_,_,h=>by rw[show _=_ from h];exact⟨⟨rfl,id,rfl⟩,trivial⟩
 |.bool,_,_,h=>by rw[show _=_ from h];exact⟨⟨rfl,id,rfl⟩,trivial⟩
 |.str,_,_,h=>by rw[show _=_ from h];exact⟨⟨rfl,id,rfl⟩,trivial⟩
 |.unit,_,_,h=>by rw[show _=_ from h];trivial
 |.hdr,_,_,⟨A,r,e⟩=>by rw[e];exact⟨⟨⟨A,r,rfl⟩,id,rfl⟩,trivial⟩
 |.pair _ _,_,_,⟨M,J,e,H,u⟩=>by rw[e];exact (eT y H).append (eT y u)
 |.list m E e,I,_,h=>by
  obtain⟨A,r,rfl,u,z⟩:=h;exact⟨⟨Rd.mono y (⟨A,r,rfl,u,z⟩:Rd w _ (.list false E e) I _),id,rfl⟩,trivial⟩
theorem gJ (p:Bool):∀ (a:Ty) (x:a.den),(cN p a x).length=a.cells
 |.int _,_=>rfl
 |.bool,_=>rfl
 |.str,_=>rfl
 |.unit,_=>rfl
 |.hdr,_=>rfl
 |.pair a b,x=>by simp[cN,Ty.cells,gJ p a,gJ p b]
 |.list _ _ _,_=>rfl
theorem cM (p:Bool):∀ (a:Ty) (x:a.den),(aq p a x).length=a.cells
 |.int _,_=>rfl
 |.bool,_=>rfl
 |.str,_=>rfl
 |.unit,_=>rfl
 |.hdr,_=>rfl
 |.pair a b,x=>by simp[aq,Ty.cells,cM p a,cM p b]
 |.list _ _ _,_=>rfl
theorem iL (t n:Nat):∀ (j:Nat) (ls:List Leaf),(bG t n j ls).length=ls.length
 |_,[]=>rfl
 |j,_::ls=>by simp[bG,iL t n (j+1) ls]
theorem nV (t n:Nat):∀ (j:Nat) (ls:List Leaf) (i:Nat) (l:Leaf),ls[i]?=some l->(bG t n j ls)[i]?=some (lG t (j+i) n l)
 |j,r::ls,0,l,h=>by
  simp at h;subst h;simp[bG]
 |j,r::ls,i+1,l,h=>by
  have:=nV t n (j+1) ls i l (by simpa using h);simp only[bG]
  grind
theorem iv {a:Act}(h:ap P V W st a w)(r:Nat):aB P V W st w (bG r (st r).ver 0 (st r).ls) (W.cs r):=by
 refine aB.mk (by rw[iL,h.len]) λj l v u y=>?_
 have M:j<(st r).ls.length:=by
  have:=(BC.1 u).1;simpa[iL]using this
 have I:(st r).ls[j]?=some (st r).ls[j]:=BE M;have J:=nV r (st r).ver 0 (st r).ls j _ I;rw[J]at u;have z:=h.leaf r j _ v I y;have H:=h.one r v (List.mem_of_getElem? y);simp at u;subst u;generalize O:(st r).ls[j]=q at z;cases q with
 |own p X E e R=>exact⟨⟨BI _,λ_=>by simpa using y⟩,id,H⟩
 |_=>exact⟨z,id,H⟩
theorem sq {v:Value}{l:Leaf}(h:ir v=some l):aJ P V W st w [] l v/\¬ an l/\v.oneCell'=true:=by
 unfold ir at h;split at h <;> simp at h <;> subst h <;> exact⟨rfl,id,rfl⟩
theorem cX {a:Act}(h:ap P V W st a w)(x:Operand) :
  ∃ r,ee (au st x).1 (a.eval x) r/\aB P V W st w (au st x).2 r:=by
 cases x with
 |tmp t =>
  simp only[au];cases y:Bx t GH with
  |false=>exact⟨[],rfl,trivial⟩
  |true=>exact⟨W.cs t,h.slots t (by simpa using y),iv h t⟩
 |const v =>
  simp only[au];cases u:ir v with
  |none=>exact⟨[],rfl,trivial⟩
  |some l=>exact⟨[v],rfl,⟨sq u,trivial⟩⟩
 |func f=>exact⟨[.func (.func f) #[] #[]],rfl,⟨⟨⟨rfl,λb z=>by simp at z⟩,id,rfl⟩,trivial⟩⟩
 |global g=>exact⟨[],rfl,trivial⟩
theorem bt {a:Act}(h:ap P V W st a w)(x:Operand)(z:one st x≠.dead) :
  aJ P V W st w [] (one st x) (a.eval x)/\¬ an (one st x)/\(a.eval x).oneCell'=true/\(au st x).1=.one/\(au st x).2=[one st x]:=by
 obtain⟨I,y,r⟩:=cX h x;unfold one at z ⊢;split at z
 ·rename_i l H;simp only[H]at y r ⊢;have u:I=[a.eval x]:=y;subst u;exact⟨r.1.1,r.1.2.1,r.1.2.2,by simp,by simp⟩
 ·grind
theorem eZ {r j n:Nat}{l:Leaf}(u:aD st (.al r j n)=l)(z:l≠.dead):(st r).ver=n/\(st r).ls[j]?=some l:=by
 simp only[aD]at u;cases y:BA (st r).ver n with
 |false=>simp only[y]at u;exact absurd u.symm z
 |true =>
  simp only[y,cond_true]at u;refine⟨BB y,?_⟩;rw[BS]at u;cases H:(st r).ls[j]? with
  |none=>simp only[H]at u;exact absurd u.symm z
  |some I =>
   simp only[H,Option.getD_some]at u;cases I with
   |nal=>simp only[pf]at u;exact absurd u.symm z
   |_=>simp only[pf]at u;rw[u]
theorem iM {r j n:Nat}{p:Bool}{ks:List (Nat×Nat×Nat)}{ep:Nat}{u:Option (Nat×Nat×Nat)}{E:TypeId}{e:Ty}{xs:List e.den}:aD st (.al r j n)≠.nal p ks ep u E e xs:=by
 simp only[aD];cases BA (st r).ver n with
 |false=>simp
 |true =>
  cases (st r).ls.getD j .dead <;> simp[pf]
theorem kc {a:Act}(h:ap P V W st a w){r j n:Nat}{p:Bool}{u:Option (Nat×Nat)}{E:TypeId}{e:Ty}{xs:List e.den}{v:Value}(J:aD st (.al r j n)=.own p u E e xs)
  (I:aJ P V W st w [] (.al r j n) v):(W.cs r)[j]?=some v/\OwH w (gd V W p) u E e xs v (W.bs r j)/\(st r).ls[j]?=some (.own p u E e xs)/\(st r).ver=n:=by
 obtain⟨y,z⟩:=eZ J (by simp);have H:=I.2 y;exact⟨H,h.leaf r j _ v z H,z,y⟩
theorem vk {ls:List Leaf}{j:Nat}(h:ll (ls.getD j .dead)=true):∃ l,ls[j]?=some l/\an l:=by
 rw[BS]at h;cases r:ls[j]? with
 |none=>rw[r]at h;simp[ll]at h
 |some l =>
  rw[r]at h;refine⟨l,rfl,?_⟩;cases l <;> simp[ll]at h;trivial
theorem cD {ks:List (Nat×Nat×Nat)}{ep:Nat}(h:br st ks ep=true):(st EPO).ver=ep/\(∀ k∈ks,(st k.1).ver=k.2.2)/\sa st ks:=by
 simp only[br,BD,List.all_eq_true]at h;exact⟨BB h.1,λk r=>BB (h.2 k r).1,λk r=>vk (h.2 k r).2⟩
theorem pn {p:Bool}{ks:List (Nat×Nat×Nat)}{ep:Nat}{r:Option (Nat×Nat×Nat)}{E:TypeId}{e:Ty}{xs:List e.den}{v:Value}(u:br st ks ep=true)
 (y:aJ P V W st w [] (.nal p ks ep r E e xs) v):sb V W w p ks r E e xs v:=y.2.2 (cD u).1 (cD u).2.1 (cD u).2.2
def bm (V:Env)(W:Wit)(p:Bool)(ks:List (Nat×Nat))(k:Nat):Prop:=gd V W p k\/∃ x∈ks,k∈W.bs x.1 x.2
theorem jD {E:TypeId}{e:Ty}{E':TypeId}{e':Ty}{xs:List e'.den}{r:List e.den}(h:lH E e E' e' xs=some r) :
  ∃ (y:E'=E) (u:e'=e),u ▸ xs=r:=by
 unfold lH at h
 grind
theorem tV {e e':Ty}{xs:List e'.den}{r:List e.den}(h:castSh e e' xs=some r):e'.sh=e.sh/\HEq xs r:=by
 unfold castSh at h
 grind
theorem Rd.castSh {G:Nat->Prop}{m m':Bool}{E E':TypeId}{e e':Ty}{xs:List e'.den}{y:List e.den}{cs:List Value}(h:castSh e e' xs=some y)(M:Rd w G (.list m E' e') xs cs):Rd w G (.list m' E e) y cs:=by
 obtain⟨O,I⟩:=tV h;have J:Rd w G (.list m E e) y cs:=by
  refine Rd.flags (a:=.list m E e') (x:=xs) (by simp only[Ty.sh,O]) I ?_;obtain⟨A,r,z,H,u⟩:=M;exact⟨A,r,z,H,u⟩
 obtain⟨A,r,z,H,u⟩:=J;exact⟨A,r,z,H,u⟩
theorem kd (st:St):∀ (u r:List Leaf),bz st (u++r)=bz st u++bz st r
 |[],_=>rfl
 |l::u,r=>by
  have:=kd st u r;cases l <;> simp[bz,this]
theorem sr (st:St):∀ (u r:List Leaf),cd st (u++r)=cd st u++cd st r
 |[],_=>rfl
 |l::u,r=>by
  have:=sr st u r;cases l <;> simp[cd,this]
theorem kx {a:Act}(h:ap P V W st a w){m:Bool}{E:TypeId}{e:Ty}{l:Leaf}{v:Value}{p:Bool}{xs:List e.den}
  (hl:aJ P V W st w [] l v) (a0:¬ an l) (u:dk e (aD st l)=some (p,xs)):Rd w (bm V W p (bz st [l])) (.list m E e) xs [v]:=by
 have H:∀ (q:Leaf) (bs:List Nat) (S:Nat->Prop),aJ P V W st w bs q v->dk e q=some (p,xs)->(∀ k,gd V W p k->S k)->(an q->∀ k∈bs,S k) ->
   (∀ q' J ep z E' I O,q=.nal q' J ep z E' I O->br st J ep=true/\∀ k∈J,∀ b∈W.bs k.1 k.2.1,S b)->Rd w S (.list m E e) xs [v]:=by
  intro q bs S M u hS hb hn;cases q with
  |ro q E' I Y =>
   simp only[dk,BO]at u;obtain⟨zs,Z,rfl,rfl⟩:=u;exact Rd.castSh Z (Rd.mono hS M)
  |nil =>
   obtain⟨rfl,rfl⟩:=u;rw[show v=_ from M];exact Rd.nil w _ m E e
  |own q hh E' I Y =>
   cases hh with
   |some _=>simp[dk]at u
   |none =>
    simp only[dk,BO]at u;obtain⟨zs,Z,rfl,rfl⟩:=u;refine Rd.castSh Z (Rd.mono (λk y=>?_) (OwH.rd (m:=false) (E':=E') M));exact y.elim (hS k) (hb trivial k)
  |nal q J ep z E' I Y =>
   simp only[dk,BO,CW]at u;obtain⟨zs,Z,rfl,rfl⟩:=u;obtain⟨X,hn⟩:=hn _ _ _ _ _ _ _ rfl;have h1:sb V W w q J z E' I Y v:=M.2.2 (cD X).1 (cD X).2.1 (cD X).2.2;refine Rd.castSh Z (Rd.mono (λk y=>?_) h1.rd);rcases y with y|⟨x,hx,y⟩
   ·grind
   ·grind
  |_=>simp[dk]at u
 cases l with
 |al r j n =>
  by_cases hd:aD st (.al r j n)=.dead
  ·rw[hd]at u;simp[dk]at u
  ·obtain⟨h1,h2⟩:=eZ rfl hd;have h3:=h.leaf r j _ v h2 (hl.2 h1);generalize M:aD st (.al r j n)=q at u h2 h3;refine H q (W.bs r j) _ h3 u (λk y=>.inl y) (λR k y=>.inr ⟨(r,j),?_,y⟩) ?_
   ·cases q <;> first|exact R.elim|simp[bz,M]
   ·rintro q' J ep z E' I O rfl;exact absurd M iM
 |own q hh E' I Y=>exact absurd trivial a0
 |nal q J ep z E' I Y =>
  simp only[aD]at u;cases X:br st J ep with
  |false=>simp[X,dk]at u
  |true =>
   simp only[X]at u;refine H _ [] _ hl u (λk y=>.inl y) (λR=>R.elim) ?_;intro q' a5 a6 a2 a4 a3 O a1;cases a1;refine⟨X,λk y b hb=>.inr ⟨(k.1,k.2.1),?_,hb⟩⟩;simp only[bz,aD]
   grind
 |ro q E' I Y=>exact H _ [] _ hl u (λk y=>.inl y) (λR=>R.elim) (λ_ _ _ _ _ _ _ h=>by cases h)
 |nil=>exact H _ [] _ hl u (λk y=>.inl y) (λR=>R.elim) (λ_ _ _ _ _ _ _ h=>by cases h)
 |_=>simp[aD,dk]at u
theorem wF {a:Act}(h:ap P V W st a w){l:Leaf}{v:Value}{n:Nat}(X:aJ P V W st w [] l v)(Y:¬ an l)(u:fV (aD st l)=some n):Rd w (λ_=>False) .hdr n [v]:=by
 have H:∀ (q:Leaf) (bs:List Nat),aJ P V W st w bs q v->fV q=some n->(∀ p I ep z E e O,q=.nal p I ep z E e O->br st I ep=true)->Rd w (λ_=>False) .hdr n [v]:=by
  intro q bs J u hn;cases q with
  |ro p E e O =>
   simp only[fV,BH]at u;subst u;obtain⟨A,y,M,_⟩:=J;exact⟨A,y,M⟩
  |own p hh E e O =>
   simp only[fV,BH]at u;subst u;obtain⟨A,y,M,_⟩:=OwH.slice J;exact⟨A,y,by rw[M]⟩
  |nal p I ep z E e O =>
   simp only[fV,BH]at u;subst u;have R:=hn _ _ _ _ _ _ _ rfl;obtain⟨A,y,M,_⟩:=(J.2.2 (cD R).1 (cD R).2.1 (cD R).2.2:sb V W w p I z E e O v).rd;exact⟨A,y,M⟩
  |nil =>
   simp only[fV,BH]at u;subst u;exact⟨none,0,by rw[show v=_ from J]⟩
  |hdr m =>
   simp only[fV,BH]at u;subst u;obtain⟨A,y,M⟩:=J;exact⟨A,y,by rw[M]⟩
  |_=>simp[fV]at u
 cases l with
 |al r j m =>
  by_cases hd:aD st (.al r j m)=.dead
  ·rw[hd]at u;simp[fV]at u
  ·obtain⟨h1,h2⟩:=eZ rfl hd;have h3:=h.leaf r j _ v h2 (X.2 h1);refine H _ _ h3 u λp I ep z E e O J=>absurd J iM
 |own q hh E' e' Z=>exact absurd trivial Y
 |nal q I ep z E' e' Z =>
  simp only[aD]at u;cases R:br st I ep with
  |false=>simp[R,fV]at u
  |true =>
   grind
 |ro q E' e' Z=>exact H _ [] X u (λ_ _ _ _ _ _ _ h=>by cases h)
 |nil=>exact H _ [] X u (λ_ _ _ _ _ _ _ h=>by cases h)
 |hdr m=>exact H _ [] X u (λ_ _ _ _ _ _ _ h=>by cases h)
 |_=>simp[aD,fV]at u
theorem ky {a:Act}(h:ap P V W st a w):∀ (b:Ty) (ls:List Leaf) (cs:List Value) (p:Bool) (x:b.den) (r:List Leaf),aB P V W st w ls cs ->
  aZ st b ls=some (p,x,r)->∃ M R O,cs=M++R/\ls=O++r/\aB P V W st w O M/\aB P V W st w r R/\Rd w (bm V W p (bz st O)) b x M
 |.int k,ls,cs,p,x,r,H,u=>by
  simp only[aZ]at u;split at u
  ·rename_i k' n ls;split at u
   ·rename_i I;obtain⟨rfl,rfl,rfl⟩:=u;cases cs with
    |nil=>exact H.elim
    |cons v cs=>exact⟨[v],cs,[_],rfl,rfl,⟨H.1,trivial⟩,H.2,by rw[show v=_ from H.1.1,I];rfl⟩
   ·grind
  ·grind
 |.bool,ls,cs,p,x,r,H,u=>by
  simp only[aZ]at u;split at u
  ·simp at u;obtain⟨rfl,rfl,rfl⟩:=u;cases cs with
   |nil=>exact H.elim
   |cons v cs=>exact⟨[v],cs,[_],rfl,rfl,⟨H.1,trivial⟩,H.2,by rw[show v=_ from H.1.1];rfl⟩
  ·grind
 |.str,ls,cs,p,x,r,H,u=>by
  simp only[aZ]at u;split at u
  ·simp at u;obtain⟨rfl,rfl,rfl⟩:=u;cases cs with
   |nil=>exact H.elim
   |cons v cs=>exact⟨[v],cs,[_],rfl,rfl,⟨H.1,trivial⟩,H.2,by rw[show v=_ from H.1.1];rfl⟩
  ·grind
 |.unit,ls,cs,p,x,r,H,u=>by
  obtain⟨rfl,_,rfl⟩:=u;exact⟨[],cs,[],rfl,rfl,trivial,H,rfl⟩
 |.hdr,ls,cs,p,x,r,H,u=>by
  simp only[aZ]at u;split at u
  ·rename_i l J;split at u
   ·rename_i n hn;obtain⟨rfl,rfl,rfl⟩:=u;cases cs with
    |nil=>exact H.elim
    |cons v cs=>exact⟨[v],cs,[l],rfl,rfl,⟨H.1,trivial⟩,H.2,wF h H.1.1 H.1.2.1 hn⟩
   ·grind
  ·grind
 |.pair b c,ls,cs,p,x,r,H,u=>by
  simp only[aZ]at u;split at u
  ·rename_i q y J hb;split at u
   ·rename_i q' z Y hc;simp at u;obtain⟨rfl,rfl,rfl⟩:=u;obtain⟨M,R,O,e1,e2,h1,h2,h3⟩:=ky h b ls cs q y J H hb;obtain⟨Z,c4,l2,e3,e4,h4,h5,h6⟩:=ky h c J R q' z Y h2 hc;refine⟨M++Z,c4,O++l2,by rw[e1,e3,BZ],by rw[e2,e4,BZ],h1.append h4,h5,M,Z,rfl,?_,?_⟩
    ·refine Rd.mono (λk I=>?_) h3;rcases I with I|⟨y,X,I⟩
     ·exact .inl (bU (by simp_all) (λ_ h=>h) k I)
     ·exact .inr ⟨y,by rw[kd];exact BG _ X,I⟩
    ·refine Rd.mono (λk I=>?_) h6;rcases I with I|⟨y,X,I⟩
     ·exact .inl (bU (by simp_all) (λ_ h=>h) k I)
     ·exact .inr ⟨y,by rw[kd];exact BF _ X,I⟩
   ·grind
  ·grind
 |.list m E e,ls,cs,p,x,r,H,u=>by
  simp only[aZ]at u;split at u
  ·rename_i l J;split at u
   ·rename_i q ys ha;obtain⟨rfl,rfl,rfl⟩:=u;cases cs with
    |nil=>exact H.elim
    |cons v cs=>exact⟨[v],cs,[l],rfl,rfl,⟨H.1,trivial⟩,H.2,kx h H.1.1 H.1.2.1 ha⟩
   ·grind
  ·grind
theorem ey {a:Act}(h:ap P V W st a w){b:Ty}{ls:List Leaf}{cs:List Value}{p:Bool}{x:b.den}(H:aB P V W st w ls cs)
  (u:cR st b ls=some (p,x)):Rd w (bm V W p (bz st ls)) b x cs:=by
 unfold cR at u;split at u
 ·rename_i q y I;obtain⟨X,r,Y,R,M,O,z,J⟩:=ky h b ls cs _ _ _ H I;have:r=[]:=by
   cases r with
   |nil=>rfl
   |cons=>exact z.elim
  simp_all
 ·grind
end
section
variable {P:Program} {V:Env} {W W':Wit} {st st':St} {w w':World} {a:Act}
theorem bB (A B:Upd)(st:St):ac (A++B) st=ac A (ac B st):=by
 funext q;induction A with
 |nil=>rfl
 |cons x A u=>obtain⟨r,c⟩:=x;simp only[CS,ac,u]
theorem aO (r:Nat)(c:bT)(U:Upd)(st:St):ac ((r,c)::U) st=ac [(r,c)] (ac U st):=bB [(r,c)] U st
theorem bj (r:Nat)(c:bT)(st:St):ac [(r,c)] st r=c:=by simp[ac]
theorem aI {r q:Nat}(h:q≠r)(c:bT)(st:St):ac [(r,c)] st q=st q:=by
 have:BA q r=false:=by
  cases u:BA q r with
  |false=>rfl
  |true=>exact absurd (BB u) h
 simp[ac,this]
theorem aj (r q:Nat)(c:bT)(st:St):(q=r/\ac [(r,c)] st q=c)\/(q≠r/\ac [(r,c)] st q=st q):=by
 by_cases h:q=r
 ·subst h;exact .inl ⟨rfl,bj q c st⟩
 ·exact .inr ⟨h,aI h c st⟩
def cg (V:Env)(W:Wit)(st:St)(k:Nat):Prop :=
 W.nw k\/V.prot k\/(∃ b,live st b/\W.β b=k)\/∃ r j l,(st r).ls[j]?=some l/\an l/\k∈W.bs r j
theorem ap.own_lt (h:ap P V W st a w){r j:Nat}{l:Leaf}(u:(st r).ls[j]?=some l)(y:an l):∀ k∈W.bs r j,k<w.heap.size:=by
 have z:j<(W.cs r).length:=by rw[<- h.len];exact (BC.1 u).1
 have:=h.leaf r j l _ u (BE z);cases l <;> simp only[an]at y;exact OwH.lt this
theorem ap.box_lt (h:ap P V W st a w){b:Nat}(r:live st b):W.β b<w.heap.size:=by
 rcases h.boxes b r.1 with ⟨u,_⟩|⟨_,E,y⟩
 ·exact absurd (u.symm.trans r.2) (by simp)
 ·grind
theorem ap.used_lt (h:ap P V W st a w):∀ k,cg V W st k->k<w.heap.size:=by
 intro k u;rcases u with u|u|⟨b,H,rfl⟩|⟨r,j,l,y,z,I⟩
 ·exact (h.nwlt k u).1
 ·exact BW u.1 h.size
 ·exact h.box_lt H
 ·exact h.own_lt y z k I
theorem ap.world (Z:ay V)(h:ap P V W st a w)(R:w.heap.size<=w'.heap.size)(M:w'.os=w.os)(Y:w'.tape=w.tape)(O:w'.output=w.output)
  (y:∀ k,cg V W st k->w'.heap[k]?=w.heap[k]?):ap P V W st a w':=by
 have H:cH V W W st st w w':=⟨λr=>⟨BI _,λ_=>rfl⟩,λb J=>⟨J,rfl⟩,λ_ h=>h,λk h=>y k (h.elim .inl (λh=>.inr (.inl h))),
  λ_ r j l u I _=>⟨⟨l,u,I⟩,rfl,λk z=>y k (.inr (.inr (.inr ⟨r,j,l,u,I,z⟩)))⟩⟩
 exact {
  nt:=h.nt,df:=h.df,slots:=h.slots,
  boxes:=λb J=>(h.boxes b J).imp id λ⟨u,E,I⟩=>⟨u,E,by rw[y _ (.inr (.inr (.inl ⟨b,⟨J,u⟩,rfl⟩)))];exact I⟩
  len:=h.len,one:=h.one,
  leaf:=λr j l v u I=>(h.leaf r j l v u I).carry Z.ro H (λO=>⟨rfl,λk z=>y k (.inr (.inr (.inr ⟨r,j,l,u,O,z⟩)))⟩)
  ownb:=h.ownb,sep:=h.sep,box:=h.box,inj:=h.inj,
  nwlt:=λk y=>⟨BW (h.nwlt k y).1 R,(h.nwlt k y).2⟩
  os:=M.trans h.os,tape:=Y.trans h.tape,output:=O.trans h.output,size:=BL h.size R,
  keep:=λk X=>(y k (.inr (.inl X))).trans (h.keep k X)
  fixb:=h.fixb,fixt:=h.fixt }
theorem ap.below (y:ay V)(h:ap P V W st a w)(r:Below w.heap.size w w'):ap P V W st a w' :=
 h.world y r.size r.os r.tape r.output λk u=>r.block k (h.used_lt k u)
theorem ap.relabel (hV:ay V)(h:ap P V W st a w)(r:Nat)(c:bT)(nw':Nat->Prop)(a2:(st r).ver<=c.ver)(X:c.sh=(st r).sh)
    (Y:c.ls.length=(st r).ls.length) (a0:∀ k,W.nw k->nw' k) (O:∀ k,nw' k->k<w.heap.size/\¬ V.prot k)
    (a1:∀ (j:Nat) (l:Leaf) (v:Value),c.ls[j]?=some l->(W.cs r)[j]?=some v->aJ P V { W with nw:=nw' } (ac [(r,c)] st) w (W.bs r j) l v)
    (a3:∀ (j:Nat) (l:Leaf),c.ls[j]?=some l->an l->(st r).ls[j]?=some l)
    (I:∀ (q j:Nat) (l:Leaf),(ac [(r,c)] st q).ls[j]?=some l->an l->∀ k∈W.bs q j,¬ nw' k)
    (J:∀ b,live st b->¬ nw' (W.β b)):ap P V { W with nw:=nw' } (ac [(r,c)] st) a w:=by
  have M:∀ b,live (ac [(r,c)] st) b<->live st b:=by
    intro b;rcases aj r b c st with ⟨rfl,e⟩|⟨_,e⟩
    · simp[live,e,X]
    · simp[live,e]
  have u:∀ (q j:Nat) (l:Leaf),(ac [(r,c)] st q).ls[j]?=some l->an l->(st q).ls[j]?=some l:=by
    intro q j l z y;rcases aj r q c st with ⟨rfl,e⟩|⟨_,e⟩
    · grind
    · grind
  have R:cH V W { W with nw:=nw' } st (ac [(r,c)] st) w w :=
    ⟨λq=>by
      rcases aj r q c st with ⟨rfl,e⟩|⟨_,e⟩
      · grind
      · rw[e];exact⟨BI _,λ_=>rfl⟩,
     λb H=>⟨(M b).2 H,rfl⟩,a0,λ_ _=>rfl,λ_ q j l z y h3=>⟨⟨l,u q j l z y,y⟩,rfl,λ_ _=>rfl⟩⟩
  exact {
    nt:=h.nt,df:=h.df,
    slots:=λt ht=>by
      rcases aj r t c st with ⟨rfl,e⟩|⟨_,e⟩
      · rw[e,X];exact h.slots t ht
      · rw[e];exact h.slots t ht
    boxes:=λb H=>by
      rcases aj r b c st with ⟨rfl,e⟩|⟨_,e⟩
      · rw[e,X]
        rcases h.boxes b H with ⟨z,y⟩|z
        · grind
        · grind
      · rw[e];exact h.boxes b H
    len:=λq=>by
      rcases aj r q c st with ⟨rfl,e⟩|⟨_,e⟩
      · rw[e,Y];exact h.len q
      · rw[e];exact h.len q
    one:=h.one
    leaf:=λq j l v z y=>by
      rcases aj r q c st with ⟨rfl,e⟩|⟨_,e⟩
      · grind
      · rw[e]at z
        exact (h.leaf q j l v z y).carry hV.ro R (λ_=>⟨rfl,λ_ _=>rfl⟩)
    ownb:=λq j l z y k hk=>⟨I q j l z y k hk,(h.ownb q j l (u q j l z y) y k hk).2.1,λb H=>(h.ownb q j l (u q j l z y) y k hk).2.2 b ((M b).1 H)⟩
    sep:=λq j l q' j' l' z y h3 h4=>h.sep q j l q' j' l' (u q j l z y) y (u q' j' l' h3 h4) h4
    box:=λb H=>⟨J b ((M b).1 H),(h.box b ((M b).1 H)).2⟩
    inj:=λb b' H Z=>h.inj b b' ((M b).1 H) ((M b').1 Z)
    nwlt:=O
    os:=h.os,tape:=h.tape,output:=h.output,size:=h.size,keep:=h.keep,
    fixb:=λx hx=>⟨(M _).2 (h.fixb x hx).1,(h.fixb x hx).2⟩,fixt:=h.fixt }
theorem aQ {α:Type}(ls:List α)(j i:Nat)(x y:α)(h:(ls.set j x)[i]?=some y):(i=j/\y=x/\j<ls.length)\/(i≠j/\ls[i]?=some y):=by
 grind
theorem ap.kill1 (J:ay V)(h:ap P V W st a w)(r j:Nat):ap P V W (ac [(r,fW (st r) j)] st) a w:=by
 refine h.relabel J r _ W.nw (BI _) rfl (by simp[fW,aR]) (λ_ h=>h) h.nwlt ?_ ?_ ?_ λb z=>(h.box b z).1
 ·intro i l v u y;rcases aQ _ _ _ _ _ u with ⟨_,rfl,_⟩|⟨H,u⟩
  ·trivial
  ·refine (h.leaf r i l v u y).carry J.ro ⟨λq=>?_,λb z=>?_,λ_ h=>h,λ_ _=>rfl,λ_ q Y R I O X=>?_⟩ (λ_=>⟨rfl,λ_ _=>rfl⟩)
   ·rcases aj r q (fW (st r) j) st with ⟨rfl,e⟩|⟨_,e⟩
    ·rw[e];exact⟨BI _,λ_=>rfl⟩
    ·grind
   ·refine⟨⟨z.1,?_⟩,rfl⟩;rcases aj r b (fW (st r) j) st with ⟨rfl,e⟩|⟨_,e⟩
    ·rw[e];exact z.2
    ·rw[e];exact z.2
   ·rcases aj r q (fW (st r) j) st with ⟨rfl,e⟩|⟨_,e⟩
    ·rw[e]at I;rcases aQ _ _ _ _ _ I with ⟨_,rfl,_⟩|⟨_,I⟩
     ·exact O.elim
     ·grind
    ·grind
 ·intro i l u y;rcases aQ _ _ _ _ _ u with ⟨_,rfl,_⟩|⟨H,u⟩
  ·exact y.elim
  ·omega
 ·intro q i l u y;have:(st q).ls[i]?=some l:=by
   rcases aj r q (fW (st r) j) st with ⟨rfl,e⟩|⟨_,e⟩
   ·rw[e]at u;rcases aQ _ _ _ _ _ u with ⟨_,rfl,_⟩|⟨H,u⟩
    ·exact y.elim
    ·omega
   ·grind
  exact λk M=>(h.ownb q i l this y k M).1
theorem ap.frz1 (hV:ay V)(h:ap P V W st a w)(r j:Nat) :
  ap P V { W with nw:=λk=>W.nw k\/((∃ l,(st r).ls[j]?=some l/\an l)/\k∈W.bs r j) } (ac [(r,fT (st r) j)] st) a w:=by
 have O:∀ l,(st r).ls[j]?=some l->(st r).ls.getD j .dead=l:=λl hl=>by rw[BS,hl];rfl
 have u:∀ (i:Nat) (l:Leaf),(aR (st r).ls j (ux ((st r).ls.getD j .dead)))[i]?=some l->an l->(st r).ls[i]?=some l/\i≠j:=by
  intro i l z y;rcases aQ _ _ _ _ _ z with ⟨rfl,rfl,hj⟩|⟨Z,z⟩
  ·rw[O _ (BE hj)]at y;generalize (st r).ls[i]=l at y;cases l with
   |own p hh E e xs=>cases hh <;> exact y.elim
   |_=>exact y.elim
  ·grind
 have I:cH V W { W with nw:=λk=>W.nw k\/((∃ l,(st r).ls[j]?=some l/\an l)/\k∈W.bs r j) } st (ac [(r,fT (st r) j)] st) w w:=by
  refine⟨λq=>?_,λb Y=>?_,λ_ h=>.inl h,λ_ _=>rfl,λ_ q j' X J M h5=>?_⟩
  ·rcases aj r q (fT (st r) j) st with ⟨rfl,e⟩|⟨_,e⟩
   ·rw[e];exact⟨BI _,λ_=>rfl⟩
   ·grind
  ·refine⟨⟨Y.1,?_⟩,rfl⟩;rcases aj r b (fT (st r) j) st with ⟨rfl,e⟩|⟨_,e⟩
   ·rw[e];exact Y.2
   ·rw[e];exact Y.2
  ·rcases aj r q (fT (st r) j) st with ⟨rfl,e⟩|⟨_,e⟩
   ·rw[e]at J;exact⟨⟨X,(u j' X J M).1,M⟩,rfl,λ_ _=>rfl⟩
   ·grind
 refine h.relabel hV r _ _ (BI _) rfl (by simp[fT,aR]) (λ_ h=>.inl h) ?_ ?_ (λi l z y=>(u i l z y).1) ?_ ?_
 ·rintro k (H|⟨⟨l,z,y⟩,H⟩)
  ·exact h.nwlt k H
  ·exact⟨h.own_lt z y k H,(h.ownb r j l z y k H).2.1⟩
 ·intro i l v z y;rcases aQ _ _ _ _ _ z with ⟨rfl,rfl,hj⟩|⟨Z,z⟩
  ·have J:(st r).ls[i]?=some (st r).ls[i]:=BE hj;have M:=h.leaf r i _ v J y;rw[O _ J];generalize hq:(st r).ls[i]=q at J M;cases q with
   |own p hh E e xs =>
    cases hh with
    |some _=>trivial
    |none =>
     refine Rd.mono (λk H=>?_) (OwH.rd (m:=false) (E':=E) M);rcases H with H|H
     ·exact bU (W':={ W with nw:=_ }) (λh=>h) (λ_ h=>.inl h) k H
     ·exact .inl (.inr ⟨⟨_,J,trivial⟩,H⟩)
   |_=>exact M.carry hV.ro I (λho=>ho.elim)
  ·exact (h.leaf r i l v z y).carry hV.ro I (λ_=>⟨rfl,λ_ _=>rfl⟩)
 ·intro q i l z y k H;have J:(st q).ls[i]?=some l/\(q,i)≠(r,j):=by
   rcases aj r q (fT (st r) j) st with ⟨rfl,e⟩|⟨Z,e⟩
   ·rw[e]at z;have:=u i l z y
    simp_all
   ·grind
  rintro (R|⟨⟨X,M,h5⟩,R⟩)
  ·exact (h.ownb q i l J.1 y k H).1 R
  ·obtain⟨rfl,rfl⟩:=h.sep q i l r j X J.1 y M h5 k H R
   simp_all
 ·rintro b Y (R|⟨⟨X,M,h5⟩,R⟩)
  ·exact (h.box b Y).1 R
  ·exact (h.ownb r j X M h5 _ R).2.2 b Y rfl
theorem lR (H:ay V):∀ (ks:List (Nat×Nat)),ap P V W st a w->ap P V W (ac (aM st ks) st) a w /\
  (∀ (q i:Nat) (l:Leaf),(ac (aM st ks) st q).ls[i]?=some l->an l->(st q).ls[i]?=some l/\(q,i)∉ks) /\
  (∀ q,(ac (aM st ks) st q).sh=(st q).sh/\(st q).ver<=(ac (aM st ks) st q).ver)
 |[],h=>⟨h,λ_ _ _ y _=>⟨y,by simp⟩,λ_=>⟨rfl,BI _⟩⟩
 |(r,j)::ks,h=>by
  obtain⟨y,O,I⟩:=lR H ks h;have e:ac (aM st ((r,j)::ks)) st=ac [(r,fW (ac (aM st ks) st r) j)] (ac (aM st ks) st):=aO _ _ _ _;rw[e];refine⟨y.kill1 H r j,λq i l z J=>?_,λq=>?_⟩
  ·have M:(ac (aM st ks) st q).ls[i]?=some l/\(q,i)≠(r,j):=by
    rcases aj r q (fW (ac (aM st ks) st r) j) (ac (aM st ks) st) with ⟨rfl,e⟩|⟨u,e⟩
    ·rw[e]at z;rcases aQ _ _ _ _ _ z with ⟨_,rfl,_⟩|⟨u,z⟩
     ·exact J.elim
     ·grind
    ·grind
   simp_all
  ·rcases aj r q (fW (ac (aM st ks) st r) j) (ac (aM st ks) st) with ⟨rfl,e⟩|⟨u,e⟩
   ·rw[e];exact⟨(I q).1,(I q).2⟩
   ·grind
def Wit.frz (W:Wit)(st:St)(ks:List (Nat×Nat)):Wit :=
 { W with nw:=λk=>W.nw k\/∃ x∈ks,(∃ l,(st x.1).ls[x.2]?=some l/\an l)/\k∈W.bs x.1 x.2 }
theorem ap.nw_congr (h:ap P V W st a w){nw':Nat->Prop}(e:∀ k,W.nw k<->nw' k):ap P V { W with nw:=nw' } st a w:=by
 have:nw'=W.nw:=funext λk=>propext (e k).symm
 subst this;exact h
theorem lq (Y:ay V):∀ (ks:List (Nat×Nat)),ap P V W st a w->ap P V (W.frz st ks) (ac (aE st ks) st) a w /\
  (∀ (q i:Nat) (l:Leaf),(ac (aE st ks) st q).ls[i]?=some l->an l->(st q).ls[i]?=some l/\(q,i)∉ks) /\
  (∀ q,(ac (aE st ks) st q).sh=(st q).sh/\(st q).ver<=(ac (aE st ks) st q).ver)
 |[],h=>⟨h.nw_congr (λk=>by simp),λ_ _ _ I _=>⟨I,by simp⟩,λ_=>⟨rfl,BI _⟩⟩
 |(r,j)::ks,h=>by
  obtain⟨I,h2,X⟩:=lq Y ks h;have e:ac (aE st ((r,j)::ks)) st=ac [(r,fT (ac (aE st ks) st r) j)] (ac (aE st ks) st):=aO _ _ _ _;rw[e];refine⟨?_,λq i l R M=>?_,λq=>?_⟩
  ·have h7:=I.frz1 Y r j;have h8:=h7.nw_congr (nw':=(W.frz st ((r,j)::ks)).nw) (λk=>?_)
   ·exact h8
   ·simp only[Wit.frz];constructor
    ·rintro ((y|⟨x,O,y⟩)|⟨⟨l,u,H⟩,y⟩)
     ·grind
     ·grind
     ·exact .inr ⟨(r,j),CK ..,⟨l,(h2 r j l u H).1,H⟩,y⟩
    ·rintro (y|⟨x,O,⟨l,u,H⟩,y⟩)
     ·grind
     ·rcases CI.1 O with rfl|O
      ·by_cases J:(r,j)∈ks
       ·exact .inl (.inr ⟨(r,j),J,⟨l,u,H⟩,y⟩)
       ·refine .inr ⟨⟨l,?_,H⟩,y⟩;exact iI ks J u
      ·grind
  ·have h6:(ac (aE st ks) st q).ls[i]?=some l/\(q,i)≠(r,j):=by
    rcases aj r q (fT (ac (aE st ks) st r) j) (ac (aE st ks) st) with ⟨rfl,e⟩|⟨z,e⟩
    ·rw[e]at R;rcases aQ _ _ _ _ _ R with ⟨rfl,rfl,hj⟩|⟨z,R⟩
     ·exfalso;generalize (ac (aE st ks) st q).ls.getD i .dead=Z at M;cases Z with
      |own p hh E e xs=>cases hh <;> exact M.elim
      |_=>exact M.elim
     ·grind
    ·grind
   simp_all
  ·rcases aj r q (fT (ac (aE st ks) st r) j) (ac (aE st ks) st) with ⟨rfl,e⟩|⟨z,e⟩
   ·rw[e];exact⟨(X q).1,(X q).2⟩
   ·grind
where
 iI:∀ (ks:List (Nat×Nat)) {r j:Nat} {l:Leaf},(r,j)∉ks->(st r).ls[j]?=some l->(ac (aE st ks) st r).ls[j]?=some l
  |[],_,_,_,_,u=>u
  |(q,i)::ks,r,j,l,hn,u=>by
   have I:=iI ks (λJ=>hn (CC _ J)) u;have e:ac (aE st ((q,i)::ks)) st=ac [(q,fT (ac (aE st ks) st q) i)] (ac (aE st ks) st):=aO _ _ _ _;rw[e];rcases aj q r (fT (ac (aE st ks) st q) i) (ac (aE st ks) st) with ⟨rfl,e⟩|⟨z,e⟩
   ·rw[e];simp only[fT,aR]
    grind
   ·grind
theorem ap.put (hV:ay V)(h:ap P V W st a w)(d:Nat)(hd:d<V.nt)(a3:∀ x∈V.fixt,x.1≠d)(n:Nat)(sh:aH)(ls:List Leaf)(v:Value)
  (I:List Value) (J:Nat->List Nat) (hn:(st d).ver<n) (hs:ee sh v I) (hl:ls.length=I.length) (h1:∀ u∈I,u.oneCell'=true)
  (a2:∀ (j:Nat) (l:Leaf) (u:Value),ls[j]?=some l->I[j]?=some u->aJ P V W st w (J j) l u)
  (a0:∀ (j:Nat) (l:Leaf),ls[j]?=some l->an l->∀ k∈J j,¬ W.nw k/\¬ V.prot k/\(∀ b,live st b->W.β b≠k) /\
   ∀ (r1 j1:Nat) (l1:Leaf),r1≠d->(st r1).ls[j1]?=some l1->an l1->k∉W.bs r1 j1)
  (a4:∀ (j Z:Nat) (l l':Leaf),ls[j]?=some l->an l->ls[Z]?=some l'->an l'->∀ k,k∈J j->k∈J Z->j=Z) :
  ap P V { W with cs:=λr=>if r=d then I else W.cs r,bs:=λr j=>if r=d then J j else W.bs r j } (ac [(d,⟨n,sh,ls⟩)] st) (a.put (some d) v) w:=by
 have a6:d<B0:=BW hd hV.ntB;have Y:∀ b,live (ac [(d,⟨n,sh,ls⟩)] st) b<->live st b:=by
  intro b;by_cases hb:B0<=b
  ·rw[live,live,aI (by omega)]
  ·simp[live,hb]
 have O:cH V W { W with cs:=λr=>if r=d then I else W.cs r,bs:=λr j=>if r=d then J j else W.bs r j } st (ac [(d,⟨n,sh,ls⟩)] st) w w:=by
  refine⟨λq=>?_,λb hb=>⟨(Y b).2 hb,rfl⟩,λ_ h=>h,λ_ _=>rfl,λ_ q Z l' M h4 h5=>?_⟩;rcases aj d q ⟨n,sh,ls⟩ st with ⟨rfl,e⟩|⟨y,e⟩
  ·grind
  ·grind
  rcases aj d q ⟨n,sh,ls⟩ st with ⟨rfl,e⟩|⟨y,e⟩
  ·grind
  ·grind
 have a1:∀ t,(a.put (some d) v).tmps.getD t undef=if t=d then v else a.tmps.getD t undef:=by
  intro t;by_cases ht:t=d
  ·subst ht;have:t<a.tmps.size:=by rw[h.nt];exact hd
   simp[Ca,this]
  ·simp only[Ca,if_neg ht];rw[By,By,Array.getElem?_setIfInBounds_ne (λe=>ht e.symm)]
 exact {
  nt:=by simp[Ca,h.nt],df:=by simp[Ca,h.df]
  slots:=λt ht=>by
   rw[a1];rcases aj d t ⟨n,sh,ls⟩ st with ⟨rfl,e⟩|⟨y,e⟩
   ·grind
   ·rw[e];simpa[y]using h.slots t ht
  boxes:=λb hb=>by
   have:b≠d:=by omega
   rw[aI this];simpa[this]using h.boxes b hb
  len:=λq=>by
   rcases aj d q ⟨n,sh,ls⟩ st with ⟨rfl,e⟩|⟨y,e⟩
   ·grind
   ·rw[e];simpa[y]using h.len q
  one:=λq u hu=>by
   by_cases hq:q=d
   ·grind
   ·simp only[hq]at hu;exact h.one q u hu
  leaf:=λq j l u H M=>by
   rcases aj d q ⟨n,sh,ls⟩ st with ⟨rfl,e⟩|⟨y,e⟩
   ·rw[e]at H;simp at M;exact (a2 j l u H M).carry hV.ro O (λ_=>⟨by simp,λ_ _=>rfl⟩)
   ·rw[e]at H;simp only[y]at M;exact (h.leaf q j l u H M).carry hV.ro O (λ_=>⟨by simp[y],λ_ _=>rfl⟩)
  ownb:=λq j l H M k R=>by
   rcases aj d q ⟨n,sh,ls⟩ st with ⟨rfl,e⟩|⟨y,e⟩
   ·grind
   ·rw[e]at H;simp only[y]at R;have:=h.ownb q j l H M k R
    grind
  sep:=λq j l q' Z l' H M h4 h5 k R z=>by
   rcases aj d q ⟨n,sh,ls⟩ st with ⟨e0,e⟩|⟨y,e⟩ <;> rcases aj d q' ⟨n,sh,ls⟩ st with ⟨e1,e'⟩|⟨X,e'⟩
   ·rw[e]at H;rw[e']at h4;simp only[e0]at R;simp only[e1]at z;exact⟨e0.trans e1.symm,a4 j Z l l' H M h4 h5 k R z⟩
   ·rw[e]at H;rw[e']at h4;simp only[e0]at R;simp only[X]at z;exact absurd z ((a0 j l H M k R).2.2.2 q' Z l' X h4 h5)
   ·rw[e]at H;rw[e']at h4;simp only[y]at R;simp only[e1]at z;exact absurd R ((a0 Z l' h4 h5 k z).2.2.2 q j l y H M)
   ·rw[e]at H;rw[e']at h4;simp only[y]at R;simp only[X]at z;exact h.sep q j l q' Z l' H M h4 h5 k R z
  box:=λb hb=>h.box b ((Y b).1 hb)
  inj:=λb b' hb a5=>h.inj b b' ((Y b).1 hb) ((Y b').1 a5)
  nwlt:=h.nwlt
  os:=h.os,tape:=h.tape,output:=h.output,size:=h.size,keep:=h.keep
  fixb:=λx hx=>⟨(Y _).2 (h.fixb x hx).1,(h.fixb x hx).2⟩
  fixt:=λx hx=>by rw[a1,if_neg (a3 x hx)];exact h.fixt x hx }
theorem ap.putLs (X:ay V)(h:ap P V W st a w)(d:Nat)(M:d<V.nt)(y:∀ x∈V.fixt,x.1≠d)(n:Nat)(sh:aH)(ls:List Leaf)(v:Value)
  (r:List Value) (R:(st d).ver<n) (J:ee sh v r) (z:aB P V W st w ls r) :
  Rel P V (ac [(d,⟨n,sh,ls⟩)] st) (a.put (some d) v) w :=
 ⟨_,h.put X d M y n sh ls v r (λ_=>[]) R J z.length z.one' (λj l u O I=>(z.at_ j l u O I).1) (λ_ _ _ _ k H=>by simp at H)
  (λ_ _ _ _ _ _ _ _ k H=>by simp at H)⟩
end
def zeroCells:Ty->List Value
 |.int k=>[.int k 0]
 |.bool=>[.bool false]
 |.str=>[.string BV]
 |.unit=>[]
 |.pair a b=>zeroCells a++zeroCells b
 |.hdr=>[.slice none 0 0]
 |.list _ _ _=>[.slice none 0 0]
def bR (P:Program)(t:TypeId)(n:Nat):Prop:=(P.info? t).map (·.size)=some n
def d5 (P:Program)(t:TypeId)(z:Value):Prop:=(P.info? t).map (·.zero)=some (some z)
def EqAt (P:Program)(t:TypeId)(a:Ty):Prop:=a.flat=true->∀ (w:World) (G:Nat->Prop) (x y:a.den) (u r:List Value),Rd w G a x u->Rd w G a y r ->
 (Op.equal t (.agg u.toArray) (.agg r.toArray)).run P w=.ok (a.eqv x y) w
def oF (P:Program)(t:TypeId):TI->Prop
 |.int k=>P.underlying t=some (.int k)/\bR P t 1/\d5 P t (.int k 0)
 |.bool=>P.underlying t=some .bool/\bR P t 1/\d5 P t (.bool false)
 |.str=>P.underlying t=some .string/\bR P t 1/\d5 P t (.string BV)
 |.slice E e r=>P.underlying t=some (.slice E)/\bR P t 1/\d5 P t (.slice none 0 0)/\0<e.cells/\(0<r/\(e=.int .u8->P.underlying E=some (.int .u8))) /\
  ∃ i z,P.info? E=some i/\i.size=e.cells/\i.bytes=r/\i.zero=some z/\z.cells.toList=zeroCells e
 |.struct a u=>(∃ H,P.underlying t=some (.struct H)/\H.toList.mapM (λf=>(P.info? f.type).map λi=>(f.offset,i.size))=some (u.map λx=>(x.1,x.2.1)) /\
  ∀ (i off n:Nat) (agg:Bool),u[i]?=some (off,n,agg)->(agg=false->n=1)/\∃ f:Field,H[i]?=some f/\f.offset=off/\0<n/\off+n<=a.cells/\bR P f.type n /\
   (P.underlying f.type).map (λd=>match d with|.struct _|.array _ _=>true|_=>false)=some agg) /\
  bR P t a.cells/\d5 P t (.agg (zeroCells a).toArray)/\EqAt P t a/\P.eqGuardType P.depth t=false
 |.arr e n=>(∃ E,P.underlying t=some (.array n E)/\bR P E e.cells/\(P.underlying E).map (λd=>match d with|.struct _|.array _ _=>true|_=>false)=some e.isAgg)/\0<e.cells /\
  bR P t (n*e.cells)/\d5 P t (.agg ((BR n (zeroCells e)).flatten).toArray)
 |.ptr=>(∃ e,P.underlying t=some (.pointer e))/\bR P t 1/\d5 P t (.pointer none)
 |.fn=>(∃ x y z,P.underlying t=some (.func x y z))/\bR P t 1/\d5 P t .nilFunc
 |.none=>True
def TOk (P:Program)(T:TypeId->TI):Prop:=∀ t,oF P t (T t)
theorem su {P:Program}:∀ {l:List (TypeId×TI)},(∀ x∈l,oF P x.1 x.2)->TOk P (gD l)
 |[],_,_=>trivial
 |(t,i)::l,h,u=>by
  simp only[gD];cases y:BA t u with
  |false=>exact su (λx r=>h x (CC _ r)) u
  |true =>
   simp_all
section
variable {P:Program} {V:Env} {W:Wit} {st:St} {w:World} {a:Act} {o:Oper}
def mF (P:Program)(V:Env)(o:Oper)(st:St)(U:Upd)(a:Act)(w:World):Prop :=
 ∀ (next:Act->World->Prop) (Q:Exit->Act->World->Prop),(∀ r u,Rel P V (ac U st) r u->next r u)->o.wp P a w next Q
theorem dX {v:Value}{w':World}{next:Act->World->Prop}{Q:Exit->Act->World->Prop}(h:(execOp a.eval o).run P w=.ok (.value v) w')(r:next (a.put o.dst v) w'):o.wp P a w next Q:=by
 unfold Oper.wp;rw[h];exact r
theorem po {w':World}{next:Act->World->Prop}{Q:Exit->Act->World->Prop}(h:(execOp a.eval o).run P w=.ok .skip w')(r:next (a.put o.dst undef) w'):o.wp P a w next Q:=by
 unfold Oper.wp;rw[h];exact r
def bO (V:Env)(o:Oper):Prop:=∀ d,o.dst=some d->d<V.nt/\∀ x∈V.fixt,x.1≠d
theorem dY (H:ay V)(h:ap P V W st a w){d:Nat}(y:o.dst=some d)(u:bO V o){v:Value}{sh:aH}{ls:List Leaf}{cs:List Value}
  (r:(execOp a.eval o).run P w=.ok (.value v) w) (I:ee sh v cs) (J:aB P V W st w ls cs):mF P V o st (cm st [] d sh ls) a w:=by
 intro next Q z;refine dX r ?_;rw[y];exact z _ _ (h.putLs H d (u d y).1 (u d y).2 _ sh ls v cs (B9 _) I J)
theorem aN (H:ay V)(h:ap P V W st a w){d:Nat}(J:o.dst=some d)(y:bO V o){v:Value}{l:Leaf}
  (r:(execOp a.eval o).run P w=.ok (.value v) w) (I:aJ P V W st w [] l v) (u:¬ an l) (z:v.oneCell'=true):mF P V o st (cm st [] d .one [l]) a w :=
 dY H h J y r (cs:=[v]) rfl ⟨⟨I,u,z⟩,trivial⟩
theorem jZ {agg:Bool}{v:Value}{cs:List Value}(h:dg agg v cs):ee (bh agg) v cs:=by
 cases agg <;> exact h
theorem bF (h:ap P V W st a w){x:Operand}{k:IntKind}{n:Int}(r:one st x=.int k n):a.eval x=.int k n:=by
 have:=(bt h x (by rw[r];simp)).1;rw[r]at this;exact this
theorem ib (h:ap P V W st a w){x:Operand}{b:Bool}(r:one st x=.bool b):a.eval x=.bool b:=by
 have:=(bt h x (by rw[r];simp)).1;rw[r]at this;exact this
theorem iw (h:ap P V W st a w){x:Operand}{b:ByteArray}(r:one st x=.str b):a.eval x=.string b:=by
 have:=(bt h x (by rw[r];simp)).1;rw[r]at this;exact this
theorem vm (r:BinOp)(k:IntKind)(t t':TypeId)(x y:Operand)(m n:Int)(l:Leaf)(u:sj r k m n=some l)(z:a.eval x=.int k m)(I:a.eval y=.int k n)(H:o.op=.binOp r t x y t') :
  ∃ v,(execOp a.eval o).run P w=.ok (.value v) w/\aJ P V W st w [] l v/\¬ an l/\v.oneCell'=true:=by
 cases r <;> simp only[sj,BH,reduceCtorEq]at u <;> subst u <;>
  exact⟨_,by simp[execOp,H,z,I,eqGuard,Go.binOp,Op.intArith,Op.intCmp],rfl,id,rfl⟩
theorem Bu (H:ay V)(h:ap P V W st a w)(ks:List (Nat×Nat)):cH V W W st (ac (aM st ks) st) w w:=by
 obtain⟨_,z,y⟩:=lR H ks h;exact⟨λq=>⟨(y q).2,λ_=>rfl⟩,λb u=>⟨⟨u.1,by rw[(y b).1];exact u.2⟩,rfl⟩,λ_ h=>h,λ_ _=>rfl,λ_ q j l I r _=>⟨⟨l,(z q j l I r).1,r⟩,rfl,λ_ _=>rfl⟩⟩
theorem step_frz (H:ay V)(h:ap P V W st a w)(ks:List (Nat×Nat)):cH V W (W.frz st ks) st (ac (aE st ks) st) w w:=by
 obtain⟨_,z,y⟩:=lq H ks h;exact⟨λq=>⟨(y q).2,λ_=>rfl⟩,λb u=>⟨⟨u.1,by rw[(y b).1];exact u.2⟩,rfl⟩,λ_ h=>.inl h,λ_ _=>rfl,λ_ q j l I r _=>⟨⟨l,(z q j l I r).1,r⟩,rfl,λ_ _=>rfl⟩⟩
def du (W:Wit)(ls:List Leaf)(j:Nat):List Nat :=
 match ls[j]? with
 |some (.al r i _)=>W.bs r i
 |_=>[]
theorem wG:∀ {ls:List Leaf} {j r i n:Nat},ls[j]?=some (.al r i n)->an (aD st (.al r i n))->(r,i)∈bz st ls
 |l::ls,0,r,i,n,h,u=>by
  simp at h;subst h;generalize y:aD st (.al r i n)=q at u;cases q <;> first|exact u.elim|simp[bz,y]
 |l::ls,j+1,r,i,n,h,u=>by
  have:=wG (ls:=ls) (by simpa using h) u;cases l <;> simp[bz,this]
theorem mG:∀ {ls:List Leaf} {j r i n:Nat},ls[j]?=some (.al r i n)->an (aD st (.al r i n))->(r,i)∈cd st ls
 |l::ls,0,r,i,n,h,u=>by
  simp at h;subst h;generalize y:aD st (.al r i n)=q at u;cases q <;> first|exact u.elim|simp[cd,y]
 |l::ls,j+1,r,i,n,h,u=>by
  have:=mG (ls:=ls) (by simpa using h) u;cases l <;> simp[cd,this]
theorem nW:∀ {ls:List Leaf} {j u r i n I:Nat},aY (cd st ls)=true->ls[j]?=some (.al r i n)->an (aD st (.al r i n)) ->
    ls[u]?=some (.al r i I)->an (aD st (.al r i I))->j=u
  |l::ls,j,u,r,i,n,I,y,h1,O,R,h4=>by
    have X:∀ (m:Nat) (k:Nat),l=.al r i m->an (aD st (.al r i m))->(∃ z,ls[k]?=some (.al r i z)/\an (aD st (.al r i z)))->False:=by
      rintro m k rfl J ⟨z,M,Y⟩;have h7:=mG M Y;have h8:cd st (.al r i m::ls)=(r,i)::cd st ls:=by
        generalize Z:aD st (.al r i m)=q at J;cases q <;> first|exact J.elim|simp[cd,Z]
      rw[h8]at y;simp only[aY,BD,B5]at y;have:=y.1;rw[B6]at this;have:=this _ h7;simp at this
    have H:aY (cd st ls)=true:=by
      cases l <;> first
        |exact y
        | (rename_i r' u v'
           simp only[cd]at y;split at y
           · simp only[CS,aY]at y
             grind
           · simpa using y)
    cases j with
    |zero =>
      cases u with
      |zero=>rfl
      |succ u =>
        grind
    |succ j =>
      cases u with
      |zero =>
        grind
      |succ u =>
        have:=nW (ls:=ls) H (by simpa using h1) O (by simpa using R) h4;omega
theorem lS (Y:ay V)(h:ap P V W st a w){l:Leaf}{v:Value}(u:aJ P V W st w [] l v)(y:¬ an l) :
  (∃ r i n,l=.al r i n/\an (aD st l)/\aJ P V W st w (W.bs r i) (aD st l) v/\(st r).ls[i]?=some (aD st l)) \/
  (¬ an (aD st l)/\aJ P V W st w [] (aD st l) v):=by
 cases l with
 |al r j n =>
  by_cases z:aD st (.al r j n)=.dead
  ·rw[z];exact .inr ⟨id,trivial⟩
  ·obtain⟨O,J⟩:=eZ rfl z;have X:=u.2 O;have M:=h.leaf r j _ v J X;by_cases H:an (aD st (.al r j n))
   ·grind
   ·exact .inr ⟨H,M.carry Y.ro (cH.refl V W st w) (λh=>absurd h H)⟩
 |own p hh E e Z=>exact absurd trivial y
 |nal p I ep R E e Z =>
  simp only[aD];cases br st I ep with
  |false=>exact .inr ⟨id,trivial⟩
  |true=>exact .inr ⟨id,u⟩
 |_=>exact .inr ⟨id,u⟩
end
section
variable {P:Program} {V:Env} {W:Wit} {st:St} {w w':World} {a:Act} {o:Oper} {ls:List Leaf} {cs:List Value}
theorem iy {st st':St}(h:∀ q,(st' q).sh=(st q).sh)(b:Nat):live st' b<->live st b:=by simp[live,h]
def aA (st:St)(x:Nat×Nat):Prop:=∃ l,(st x.1).ls[x.2]?=some l/\an l
def aW (W:Wit)(ks:List (Nat×Nat)):List Nat:=ks.flatMap λx=>W.bs x.1 x.2
theorem dL (W:Wit)(a b:List (Nat×Nat)):aW W (a++b)=aW W a++aW W b:=List.flatMap_append
theorem gf {W:Wit}{ks:List (Nat×Nat)}{k:Nat}:k∈aW W ks<->∃ x∈ks,k∈W.bs x.1 x.2:=List.mem_flatMap
theorem ke {W:Wit}{p:Bool}{ks:List (Nat×Nat)}(u:∀ x∈ks,aA st x):∀ k,bm V W p ks k->gd V (W.frz st ks) p k:=by
 rintro k (r|⟨x,y,r⟩)
 ·exact bU (W':=W.frz st ks) (λh=>h) (λ_ h=>Or.inl h) k r
 ·exact .inl (.inr ⟨x,y,u x y,r⟩)
theorem nE {a b:List (Nat×Nat)}(h:dG a b=true):∀ x∈a,x∉b:=by
 intro x r u;simp only[dG,B5,B6]at h;have:=h x r;simp only[CR,B6]at this;have:=this x u;simp[is]at this
theorem fE (hV:ay V){W:Wit}{a:Act}{w:World}(h:ap P V W st a w){frz kill:List (Nat×Nat)}(R:dG frz kill=true)(X:∀ x∈kill,aA st x) :
  ap P V (W.frz st frz) (ac (aM (ac (aE st frz) st) kill++aE st frz) st) a w /\
  (∀ (q i:Nat) (l:Leaf),(ac (aM (ac (aE st frz) st) kill++aE st frz) st q).ls[i]?=some l->an l->(st q).ls[i]?=some l/\(q,i)∉frz/\(q,i)∉kill) /\
  (∀ q,(ac (aM (ac (aE st frz) st) kill++aE st frz) st q).sh=(st q).sh/\(st q).ver<=(ac (aM (ac (aE st frz) st) kill++aE st frz) st q).ver) /\
  (∀ k∈aW W kill,¬ (W.frz st frz).nw k/\¬ V.prot k/\k<w.heap.size/\(∀ b,live (ac (aM (ac (aE st frz) st) kill++aE st frz) st) b->W.β b≠k) /\
   ∀ (H i:Nat) (l:Leaf),(ac (aM (ac (aE st frz) st) kill++aE st frz) st H).ls[i]?=some l->an l->k∉W.bs H i):=by
 obtain⟨h1,h2,h3⟩:=lq hV frz h;obtain⟨h4,h5,Y⟩:=lR hV kill h1;rw[<- bB]at h4 h5 Y;have J:∀ q,(ac (aM (ac (aE st frz) st) kill++aE st frz) st q).sh=(st q).sh:=λq=>(Y q).1.trans (h3 q).1
 have u:∀ (q i:Nat) (l:Leaf),(ac (aM (ac (aE st frz) st) kill++aE st frz) st q).ls[i]?=some l->an l->(st q).ls[i]?=some l/\(q,i)∉frz/\(q,i)∉kill:=by
  simp_all
 refine⟨h4,u,λq=>⟨J q,BL (h3 q).2 (Y q).2⟩,λk z=>?_⟩;obtain⟨x,hx,z⟩:=gf.1 z;obtain⟨l,M,r⟩:=X x hx;have h7:=h.ownb x.1 x.2 l M r k z;refine⟨?_,h7.2.1,h.own_lt M r k z,λb hb=>h7.2.2 b ((iy J b).1 hb),λH i l1 h8 h9 Z=>?_⟩
 ·rintro (hn|⟨y,hy,⟨l2,a0,I⟩,a1⟩)
  ·grind
  ·obtain⟨e1,e2⟩:=h.sep y.1 y.2 l2 x.1 x.2 l a0 I M r k a1 z;exact nE R y hy (by rw[show y=x from Prod.ext e1 e2];exact hx)
 ·obtain⟨O,_,a2⟩:=u H i l1 h8 h9;obtain⟨e1,e2⟩:=h.sep x.1 x.2 l H i l1 M r O h9 k z Z
  simp_all
theorem zw (z:ay V)(h:ap P V W st a w)(frz kill:List (Nat×Nat)):cH V W (W.frz st frz) st (ac (aM (ac (aE st frz) st) kill++aE st frz) st) w w:=by
 obtain⟨J,M,I⟩:=lq z frz h;obtain⟨_,y,r⟩:=lR z kill J;rw[<- bB]at y r;exact⟨λq=>⟨BL (I q).2 (r q).2,λ_=>rfl⟩,λb H=>⟨⟨H.1,by rw[(r b).1,(I b).1];exact H.2⟩,rfl⟩,λ_ h=>.inl h,λ_ _=>rfl,
  λ_ q j l O u _=>⟨⟨l,(M q j l (y q j l O u).1 u).1,u⟩,rfl,λ_ _=>rfl⟩⟩
theorem sv:∀ {ls:List Leaf} {j:Nat} {p:Bool} {ks:List (Nat×Nat×Nat)} {ep:Nat} {E:TypeId} {e:Ty} {xs:List e.den},ls[j]?=some (.nal p ks ep none E e xs)->br st ks ep=true->∀ k∈ks,(k.1,k.2.1)∈dA st ls
 |l::ls,0,p,ks,ep,E,e,xs,h,y,k,u=>by
  simp at h;subst h;simp only[dA,aD]
  grind
 |l::ls,j+1,p,ks,ep,E,e,xs,h,y,k,u=>by
  have:=sv (ls:=ls) (by simpa using h) y k u;cases l with
  |nal O z H r J M I=>cases r <;> simp[dA,this]
  |_=>simp[dA,this]
theorem sw {ls:List Leaf}(h:hX st ls=true):aY (cd st ls)=true/\dG (dA st ls) (cd st ls)=true:=by
 simpa[hX]using h
theorem nX (y:aB P V W st w ls cs){x:Nat×Nat}(u:x∈cd st ls):aA st x:=by
 induction ls generalizing cs with
 |nil=>simp[cd]at u
 |cons l ls z =>
  cases cs with
  |nil=>exact y.elim
  |cons v cs =>
   cases l with
   |al r j n =>
    simp only[cd,BN]at u;rcases u with u|u
    ·split at u
     ·rename_i p J E e I H;simp at u;subst u;exact⟨_,(eZ H (by simp)).2,trivial⟩
     ·grind
    ·exact z y.2 u
   |_=>exact z y.2 u
theorem Az {l:Leaf}(h:an (gb st l)):an (aD st l)/\gb st l=aD st l:=by
 unfold gb at h ⊢;split at h
 ·exact h.elim
 ·exact⟨h,rfl⟩
theorem oG (hV:ay V)(h:ap P V W st a w){ls:List Leaf}{cs:List Value}(hl:aB P V W st w ls cs)(ad:hX st ls=true) :
    ap P V (W.frz st (dA st ls)) (ac (mvU st ls) st) a w/\(dK st ls).length=cs.length /\
    (∀ (j:Nat) (l:Leaf) (u:Value),(dK st ls)[j]?=some l->cs[j]?=some u->aJ P V (W.frz st (dA st ls)) (ac (mvU st ls) st) w (du W ls j) l u) /\
    (∀ (j:Nat) (l:Leaf),(dK st ls)[j]?=some l->an l->∀ k∈du W ls j,¬ (W.frz st (dA st ls)).nw k/\¬ V.prot k/\k<w.heap.size /\
      (∀ b,live (ac (mvU st ls) st) b->W.β b≠k) /\
      ∀ (r1 j1:Nat) (l1:Leaf),(ac (mvU st ls) st r1).ls[j1]?=some l1->an l1->k∉W.bs r1 j1) /\
    (∀ (j j':Nat) (l l':Leaf),(dK st ls)[j]?=some l->an l->(dK st ls)[j']?=some l'->an l'->∀ k,k∈du W ls j->k∈du W ls j'->j=j'):=by
  obtain⟨hd,a4⟩:=sw ad;obtain⟨h1,h2,h3,b0⟩:=fE hV h a4 (λx hx=>nX hl hx);have I:=zw hV h (dA st ls) (cd st ls);show ap P V (W.frz st (dA st ls)) (ac (aM (ac (aE st (dA st ls)) st) (cd st ls)++aE st (dA st ls)) st) a w/\_;have R:∀ (j:Nat) (l:Leaf),(dK st ls)[j]?=some l->∃ z u,ls[j]?=some z/\cs[j]?=some u/\gb st z=l/\aJ P V W st w [] z u/\¬ an z:=by
    intro j l M;simp only[dK,CN,BO]at M;obtain⟨z,H,X⟩:=M;have b1:j<cs.length:=by rw[<- hl.length];exact (BC.1 H).1
    have O:=BE b1;have h7:=hl.at_ j z _ H O
    simp_all
  have y:∀ (j:Nat) (l:Leaf),(dK st ls)[j]?=some l->an l->∃ r i n,ls[j]?=some (.al r i n)/\an (aD st (.al r i n))/\(st r).ls[i]?=some l:=by
    intro j l M ho;obtain⟨z,u,H,X,rfl,O,h7⟩:=R j l M;obtain⟨Z,e0⟩:=Az ho;rcases lS hV h O h7 with ⟨r,i,n,rfl,h8,_,h9⟩|⟨h8,_⟩
    · grind
    · grind
  refine⟨h1,by simp[dK,hl.length],λj l u M hu=>?_,λj l M ho k J=>?_,λj j' l l' M ho a6 Z k J a1=>?_⟩
  · obtain ⟨z, u', H, X, rfl, O, h7⟩ := R j l M
    obtain rfl:u=u':=Option.some.inj (hu.symm.trans X);have a0:gb st z=aD st z->aJ P V (W.frz st (dA st ls)) (ac (mvU st ls) st) w (du W ls j) (gb st z) u:=by
      intro e0;rw[e0];rcases lS hV h O h7 with ⟨r,i,n,rfl,h8,h9,_⟩|⟨h8,h9⟩
      · have:du W ls j=W.bs r i:=by simp[du,H]
        rw[this];exact h9.carry hV.ro I (λ_=>⟨rfl,λ_ _=>rfl⟩)
      · exact h9.carry hV.ro I (λh=>absurd h h8)
    by_cases Y:∃ p ks ep E e xs,aD st z=.nal p ks ep none E e xs
    · obtain⟨p,ks,ep,E,e,xs,Y⟩:=Y
      have e0:gb st z=.ro p E e xs:=by unfold gb;rw[Y]
      rw[e0];have a3:z=.nal p ks ep none E e xs/\br st ks ep=true:=by
        cases z with
        |al r i n=>exact absurd Y iM
        |nal p' a8 a9 b2 E' e' b3 =>
          simp only[aD]at Y;cases hv:br st a8 a9 with
          |false=>simp[hv]at Y
          |true =>
            simp_all
        |_=>simp[aD]at Y
      obtain⟨rfl,hv⟩:=a3;refine Rd.mono (λk J=>?_) (pn hv O).rd;rcases J with J|⟨x,hx,J⟩
      · exact bU (W':=W.frz st (dA st ls)) (λh=>h) (λ_ h=>Or.inl h) k J
      · exact .inl (.inr ⟨(x.1,x.2.1),sv H hv x hx,(cD hv).2.2 x hx,J⟩)
    · refine a0 ?_
      unfold gb
      grind
  · obtain⟨r,i,n,H,X,O⟩:=y j l M ho
    have e:du W ls j=W.bs r i:=by simp[du,H]
    rw[e]at J;exact b0 k (gf.2 ⟨(r,i),mG H X,J⟩)
  · obtain⟨r,i,n,H,X,O⟩:=y j l M ho
    obtain⟨r',i',n',a2,a7,a5⟩:=y j' l' a6 Z;have e:du W ls j=W.bs r i:=by simp[du,H]
    have e':du W ls j'=W.bs r' i':=by simp[du,a2]
    rw[e]at J;rw[e']at a1;obtain⟨rfl,rfl⟩:=h.sep r i l r' i' l' O ho a5 Z k J a1;exact nW hd H X a2 a7
theorem zk (y:ay V)(h:ap P V W st a w)(z:aB P V W st w ls cs)(r:hX st ls=true):∀ q,(ac (mvU st ls) st q).sh=(st q).sh/\(st q).ver<=(ac (mvU st ls) st q).ver :=
 (fE y h (sw r).2 (λ_ u=>nX z u)).2.2.1
theorem ap.putMoved (M:ay V)(h:ap P V W st a w){ls:List Leaf}{cs:List Value}(J:aB P V W st w ls cs)(hd:hX st ls=true)
  (d:Nat) (I:d<V.nt) (r:∀ x∈V.fixt,x.1≠d) {sh:aH} {v:Value} (Z:ee sh v cs) :
  Rel P V (ac (cm st (mvU st ls) d sh (dK st ls)) st) (a.put (some d) v) w:=by
 obtain⟨h1,R,X,H,O⟩:=oG M h J hd;exact⟨_,h1.put M d I r _ sh (dK st ls) v cs (du W ls) (B9 _) Z R J.one' X
  (λj l y z k u=>⟨(H j l y z k u).1,(H j l y z k u).2.1,(H j l y z k u).2.2.2.1,λY j1 l1 _=>(H j l y z k u).2.2.2.2 Y j1 l1⟩) O⟩
theorem ap.setBoxG (hV:ay V)(h:ap P V W st a w)(b:Nat)(hb:B0<=b)(n:Nat)(ls:List Leaf)(a3:List Value)(X:Nat->List Nat)(g:Nat)(E:TypeId)
    (hn:(st b).ver<n) (hg:(live st b/\W.β b=g)\/(¬ live st b/\¬ cg V W st g/\∀ (j:Nat) (l:Leaf),ls[j]?=some l->an l->∀ k∈X j,k≠g)) (b9:w'.heap[g]?=some (.cells a3.toArray E (0,0)))
    (ad:∀ k,cg V W st k->k≠g->w'.heap[k]?=w.heap[k]?) (a6:∀ (j:Nat) (l:Leaf),ls[j]?=some l->an l->∀ k∈X j,k≠g->w'.heap[k]?=w.heap[k]?) (b1:w.heap.size<=w'.heap.size) (b5:w'.os=w.os) (ht:w'.tape=w.tape) (ho:w'.output=w.output)
    (hl:ls.length=a3.length) (h1:∀ u∈a3,u.oneCell'=true)
    (a9:∀ (j:Nat) (l:Leaf) (u:Value),ls[j]?=some l->a3[j]?=some u->aJ P V W st w (X j) l u)
    (a8:∀ (j:Nat) (l:Leaf),ls[j]?=some l->an l->∀ k∈X j,¬ W.nw k/\¬ V.prot k/\(∀ b,live st b->W.β b≠k) /\
      ∀ (r1 j1:Nat) (l1:Leaf),r1≠b->(st r1).ls[j1]?=some l1->an l1->k∉W.bs r1 j1)
    (b2:∀ (j j':Nat) (l l':Leaf),ls[j]?=some l->an l->ls[j']?=some l'->an l'->∀ k,k∈X j->k∈X j'->j=j') :
    ap P V { W with β:=λr=>if r=b then g else W.β r,cs:=λr=>if r=b then a3 else W.cs r,bs:=λr j=>if r=b then X j else W.bs r j }
      (ac [(b,⟨n,.agg,ls⟩)] st) a w':=by
  have Y:¬ W.nw g/\¬ V.prot g/\(∀ q,q≠b->live st q->W.β q≠g)/\∀ (r1 j1:Nat) (l1:Leaf),(st r1).ls[j1]?=some l1->an l1->g∉W.bs r1 j1:=by
    rcases hg with ⟨a0,rfl⟩|⟨a0,hg⟩
    · exact⟨(h.box b a0).1,(h.box b a0).2,λq hq b6 e=>hq (h.inj q b b6 a0 e),λr1 j1 l1 y J H=>(h.ownb r1 j1 l1 y J _ H).2.2 b a0 rfl⟩
    · have hu:=hg.1
      simp only[cg,not_or,not_exists,not_and]at hu
      grind
  have b0:∀ (j:Nat) (l:Leaf),ls[j]?=some l->an l->∀ k∈X j,k≠g:=by
    grind
  have I:∀ q,live (ac [(b,⟨n,.agg,ls⟩)] st) q<->(q=b\/live st q):=by
    intro q;rcases aj b q ⟨n,.agg,ls⟩ st with ⟨e0,e⟩|⟨z,e⟩
    · subst e0
      simp[live,e,hb]
    · simp[live,e,z]
  have M:∀ k,cg V W st k->k≠g->w'.heap[k]?=w.heap[k]?:=ad;have a4:cH V W { W with β:=λr=>if r=b then g else W.β r,cs:=λr=>if r=b then a3 else W.cs r,bs:=λr j=>if r=b then X j else W.bs r j } st (ac [(b,⟨n,.agg,ls⟩)] st) w w':=by
    refine⟨λq=>?_,λq hq=>⟨(I q).2 (.inr hq),?_⟩,λ_ h=>h,λk H=>M k (H.elim .inl (λh=>.inr (.inl h))) ?_,λ_ q j l y J Z=>?_⟩
    · rcases aj b q ⟨n,.agg,ls⟩ st with ⟨rfl,e⟩|⟨z,e⟩
      · grind
      · grind
    · grind
    · grind
    · rcases aj b q ⟨n,.agg,ls⟩ st with ⟨rfl,e⟩|⟨z,e⟩
      · grind
      · rw[e]at y
        refine⟨⟨l,y,J⟩,by simp[z],λk H=>M k (.inr (.inr (.inr ⟨q,j,l,y,J,H⟩))) ?_⟩
        grind
  exact {
    nt:=h.nt,df:=h.df
    slots:=λt b4=>by
      have : t ≠ b := by have : GH <= B0 := by decide
                         omega
      rw[aI this];simpa[this]using h.slots t b4
    boxes:=λq hq=>by
      rcases aj b q ⟨n,.agg,ls⟩ st with ⟨rfl,e⟩|⟨z,e⟩
      · grind
      · rw[e]
        refine (h.boxes q hq).imp id λ⟨y,E',J⟩=>⟨y,E',?_⟩
        simp only[z,if_false];rw[M _ (.inr (.inr (.inl ⟨q,⟨hq,y⟩,rfl⟩))) (Y.2.2.1 q z ⟨hq,y⟩)];exact J
    len:=λq=>by
      rcases aj b q ⟨n,.agg,ls⟩ st with ⟨rfl,e⟩|⟨z,e⟩
      · rw[e];simpa using hl
      · rw[e];simpa[z]using h.len q
    one:=λq u hu=>by
      by_cases hq:q=b
      · grind
      · simp only[hq]at hu;exact h.one q u hu
    leaf:=λq j l u y J=>by
      rcases aj b q ⟨n,.agg,ls⟩ st with ⟨rfl,e⟩|⟨z,e⟩
      · rw[e]at y
        simp only at J;exact (a9 j l u y J).carry hV.ro a4 (λho=>⟨by simp,λk H=>a6 j l y ho k H (b0 j l y ho k H)⟩)
      · rw[e]at y
        simp only[z]at J;refine (h.leaf q j l u y J).carry hV.ro a4 (λho=>⟨by simp[z],λk H=>M k (.inr (.inr (.inr ⟨q,j,l,y,ho,H⟩))) ?_⟩);rintro rfl;exact Y.2.2.2 q j l y ho H
    ownb:=λq j l y J k H=>by
      rcases aj b q ⟨n,.agg,ls⟩ st with ⟨rfl,e⟩|⟨z,e⟩
      · rw[e]at y
        simp only[if_true]at H;have Z:=a8 j l y J k H;refine⟨Z.1,Z.2.1,λp hp=>?_⟩;by_cases a2:p=q
        · simp only[a2,if_true];exact λe=>b0 j l y J k H e.symm
        · simp only[a2,if_false];exact Z.2.2.1 p (((I p).1 hp).resolve_left a2)
      · rw[e]at y
        simp only[z,if_false]at H;have Z:=h.ownb q j l y J k H;refine⟨Z.1,Z.2.1,λp hp=>?_⟩;by_cases a2:p=b
        · simp only[a2,if_true];rintro rfl;exact Y.2.2.2 q j l y J H
        · simp only[a2,if_false];exact Z.2.2 p (((I p).1 hp).resolve_left a2)
    sep:=λq j l q' j' l' y J Z h5 k H a1=>by
      rcases aj b q ⟨n,.agg,ls⟩ st with ⟨e0,e⟩|⟨z,e⟩ <;> rcases aj b q' ⟨n,.agg,ls⟩ st with ⟨e1,e'⟩|⟨a5,e'⟩
      · rw[e]at y;rw[e']at Z
        simp only[e0,if_true]at H;simp only[e1,if_true]at a1;exact⟨e0.trans e1.symm,b2 j j' l l' y J Z h5 k H a1⟩
      · rw[e]at y;rw[e']at Z
        simp only[e0,if_true]at H;simp only[a5,if_false]at a1;exact absurd a1 ((a8 j l y J k H).2.2.2 q' j' l' a5 Z h5)
      · rw[e]at y;rw[e']at Z
        simp only[z,if_false]at H;simp only[e1,if_true]at a1
        grind
      · rw[e]at y;rw[e']at Z
        simp only[z]at H;simp only[a5,if_false]at a1;exact h.sep q j l q' j' l' y J Z h5 k H a1
    box:=λq hq=>by
      by_cases O:q=b
      · simp only[O,if_true];exact⟨Y.1,Y.2.1⟩
      · simp only[O,if_false];exact h.box q (((I q).1 hq).resolve_left O)
    inj:=λq q' hq b3 e=>by
      by_cases O:q=b <;> by_cases R:q'=b
      · omega
      · simp only[O,if_true,R,if_false]at e
        exact absurd e.symm (Y.2.2.1 q' R (((I q').1 b3).resolve_left R))
      · simp only[O,if_false,R,if_true]at e
        exact absurd e (Y.2.2.1 q O (((I q).1 hq).resolve_left O))
      · simp only[O,if_false,R,if_false]at e
        exact h.inj q q' (((I q).1 hq).resolve_left O) (((I q').1 b3).resolve_left R) e
    nwlt:=λk H=>⟨BW (h.nwlt k H).1 b1,(h.nwlt k H).2⟩
    os:=b5.trans h.os,tape:=ht.trans h.tape,output:=ho.trans h.output,size:=BL h.size b1
    keep:=λk hp=>by
      rw[M k (.inr (.inl hp)) (by rintro rfl;exact Y.2.1 hp)];exact h.keep k hp
    fixb:=λx hx=>by
      obtain⟨y,J⟩:=h.fixb x hx;refine⟨(I _).2 (.inr y),?_⟩;by_cases a7:x.1=b
      · simp only[a7,if_true]
        rcases hg with ⟨_,e⟩|⟨a0,_⟩
        · rw[<- e,<- a7];exact J
        · exact absurd (a7 ▸ y) a0
      · simpa only[a7,if_false]using J
    fixt:=h.fixt }
theorem ap.setBox (hV:ay V)(h:ap P V W st a w)(b:Nat)(hb:B0<=b)(n:Nat)(ls:List Leaf)(z:List Value)(H:Nat->List Nat)(g:Nat)(E:TypeId)
  (hn:(st b).ver<n) (hg:(live st b/\W.β b=g)\/(¬ live st b/\w.heap.size<=g)) (Y:w'.heap[g]?=some (.cells z.toArray E (0,0)))
  (I:∀ k,k<w.heap.size->k≠g->w'.heap[k]?=w.heap[k]?) (a0:w.heap.size<=w'.heap.size) (a1:w'.os=w.os) (ht:w'.tape=w.tape) (ho:w'.output=w.output)
  (hl:ls.length=z.length) (h1:∀ u∈z,u.oneCell'=true)
  (X:∀ (j:Nat) (l:Leaf) (u:Value),ls[j]?=some l->z[j]?=some u->aJ P V W st w (H j) l u)
  (y:∀ (j:Nat) (l:Leaf),ls[j]?=some l->an l->∀ k∈H j,¬ W.nw k/\¬ V.prot k/\k<w.heap.size/\(∀ b,live st b->W.β b≠k) /\
   ∀ (r1 j1:Nat) (l1:Leaf),r1≠b->(st r1).ls[j1]?=some l1->an l1->k∉W.bs r1 j1)
  (Z:∀ (j j':Nat) (l l':Leaf),ls[j]?=some l->an l->ls[j']?=some l'->an l'->∀ k,k∈H j->k∈H j'->j=j') :
  ap P V { W with β:=λr=>if r=b then g else W.β r,cs:=λr=>if r=b then z else W.cs r,bs:=λr j=>if r=b then H j else W.bs r j }
   (ac [(b,⟨n,.agg,ls⟩)] st) a w' :=
 h.setBoxG hV b hb n ls z H g E hn (hg.imp id λ⟨h2,h3⟩=>⟨h2,λhu=>by have:=h.used_lt g hu;omega,λj l O M k J=>by have:=(y j l O M k J).2.2.1;omega⟩) Y
  (λk J R=>I k (h.used_lt k J) R) (λj l O M k J R=>I k (y j l O M k J).2.2.1 R) a0 a1 ht ho hl h1 X
  (λj l O M k J=>⟨(y j l O M k J).1,(y j l O M k J).2.1,(y j l O M k J).2.2.2.1,(y j l O M k J).2.2.2.2⟩) Z
theorem ei (y:aB P V W st w ls cs){x:Nat×Nat}(u:x∈bz st ls):aA st x:=by
 induction ls generalizing cs with
 |nil=>simp[bz]at u
 |cons l ls H =>
  cases cs with
  |nil=>exact y.elim
  |cons v cs =>
   cases l with
   |al r j n =>
    simp only[bz,BN]at u;rcases u with u|u
    ·split at u
     ·rename_i p X E e R z;simp at u;subst u;exact⟨_,(eZ z (by simp)).2,trivial⟩
     ·grind
    ·exact H y.2 u
   |nal p J ep O E e R =>
    simp only[bz,BN]at u;rcases u with u|u
    ·split at u
     ·rename_i z;simp only[aD]at z;cases I:br st J ep with
      |false=>simp[I]at z
      |true =>
       obtain⟨k,M,rfl⟩:=List.mem_map.1 u;exact (cD I).2.2 k M
     ·grind
    ·exact H y.2 u
   |_=>exact H y.2 u
theorem Bv (z:aB P V W st w ls cs){ks:List (Nat×Nat)}(u:∀ x∈bz st ls,x∈ks)(p:Bool):∀ k,bm V W p (bz st ls) k->gd V (W.frz st ks) p k:=by
 intro k r;rcases r with r|⟨x,y,r⟩
 ·exact bU (W':=W.frz st ks) (λh=>h) (λ_ h=>Or.inl h) k r
 ·exact .inl (.inr ⟨x,u x y,ei z y,r⟩)
end
section
variable {P:Program} {V:Env} {Γ:List Ctr} {T:TypeId->TI} {st:St} {o:Oper} {R:Type} {κ:Upd->Option R} {r:R}
def bW (P:Program)(V:Env)(o:Oper)(st:St)(κ:Upd->Option R)(r:R):Prop :=
 ∃ U,κ U=some r/\∀ W a w,ap P V W st a w->mF P V o st U a w
theorem x7 (H:ay V)(y:bO V o){x:Operand}(u:o.op=.move x)(h:act Γ T o st κ=some r):bW P V o st κ r:=by
 simp only[act,wrU,u]at h;split at h
 ·rename_i d M;refine⟨_,h,λW a w z=>?_⟩;obtain⟨O,I,J⟩:=cX z x;exact dY H z M y (by simp[execOp,u]) I J
 ·grind
theorem vn (M:ay V)(y:bO V o){x:Operand}(z:o.op=.assign x)(h:act Γ T o st κ=some r):bW P V o st κ r:=by
 simp only[act,z]at h;split at h
 ·rename_i d H;cases u:hX st (au st x).2 with
  |false=>simp[u]at h
  |true =>
   simp only[u]at h;refine⟨_,h,λW a w I=>?_⟩;obtain⟨Y,O,X⟩:=cX I x;intro next Q J;refine dX (v:=a.eval x) (w':=w) (by simp[execOp,z]) ?_;rw[H];exact J _ _ (I.putMoved M X u d (y d H).1 (y d H).2 O)
 ·grind
theorem x8 (X:ay V)(H:bO V o){c x y:Operand}(u:o.op=.pick c x y)(h:act Γ T o st κ=some r):bW P V o st κ r:=by
 simp only[act,wrU,u]at h;split at h
 ·rename_i t O;cases t with
  |true =>
   split at h
   ·rename_i d M;refine⟨_,h,λW a w z=>?_⟩;obtain⟨Y,J,I⟩:=cX z x;exact dY X z M H (v:=a.eval x) (by simp[execOp,u,ib z O,asBool]) J I
   ·grind
  |false =>
   split at h
   ·rename_i d M;refine⟨_,h,λW a w z=>?_⟩;obtain⟨Y,J,I⟩:=cX z y;exact dY X z M H (v:=a.eval y) (by simp[execOp,u,ib z O,asBool]) J I
   ·grind
 ·grind
theorem sx (hV:ay V)(a0:bO V o){x:Operand}(X:o.op=.nilCheck x)(h:act Γ T o st κ=some r):bW P V o st κ r:=by
 simp only[act,wrU,X]at h;have H:∀ {l:Leaf} {d:Nat},one st x=l->l≠.dead->(∀ W a w,ap P V W st a w->aJ P V W st w [] l (a.eval x)->∃ ad,a.eval x=.pointer (some ad))->o.dst=some d ->
   ∀ W a w,ap P V W st a w->mF P V o st (cm st [] d .one [l]) a w:=by
  intro l d z Y hp I W a w M;obtain⟨Z,h2,h3,_⟩:=bt M x (by rw[z];exact Y);rw[z]at Z h2;obtain⟨ad,O⟩:=hp W a w M Z;exact aN hV M I a0 (v:=a.eval x) (by simp[execOp,X,O]) Z h2 h3
 split at h
 ·split at h
  ·rename_i z _ d I;exact⟨_,h,H z (by simp) (λW a w M u=>by obtain⟨g,o',c,O,_⟩:=u;exact⟨_,O⟩) I⟩
  ·grind
 ·split at h
  ·rename_i z _ d I;exact⟨_,h,H z (by simp) (λW a w M u=>⟨_,u.2.2⟩) I⟩
  ·grind
 ·rename_i r' j v i sz off z;cases J:BA (st r').ver v with
  |false=>simp[J]at h
  |true =>
   simp only[J]at h;split at h
   ·rename_i d I;refine⟨_,h,H z (by simp) (λW a w M u=>?_) I⟩;obtain⟨g,a1,a2,_,_,O⟩:=u.2 (BB J)
    simp_all
   ·grind
 ·split at h
  ·rename_i z _ d I;exact⟨_,h,H z (by simp) (λW a w M u=>by obtain⟨b,ob,g,o',c,O,_⟩:=u;exact⟨_,O⟩) I⟩
  ·grind
 ·rename_i p ks ep b y off z;cases J:br st ks ep with
  |false=>simp[J]at h
  |true =>
   simp only[J]at h;split at h
   ·rename_i d I;refine⟨_,h,H z (by simp) (λW a w M u=>?_) I⟩;obtain⟨g,o',c,O,_⟩:=(u.2.2 (cD J).1 (cD J).2.1 (cD J).2.2:NpOk V W w p ks b y off _).rd
    simp_all
   ·grind
 ·grind
theorem x9 (J:ay V)(y:bO V o){M:UnOp}{t:TypeId}{x:Operand}(u:o.op=.unOp M t x)(h:act Γ T o st κ=some r):bW P V o st κ r:=by
 simp only[act,wrU,u]at h;split at h
 ·rename_i b H;split at h
  ·rename_i d I;exact⟨_,h,λW a w z=>aN J z I y (v:=.bool (!b)) (by simp[execOp,u,ib z H,Op.unary]) rfl id rfl⟩
  ·grind
 ·rename_i k n H;split at h
  ·rename_i d I;exact⟨_,h,λW a w z=>aN J z I y (v:=.int k (k.wrap (0-n))) (by simp[execOp,u,bF z H,Op.unary,Op.intArith]) rfl id rfl⟩
  ·grind
 ·grind
theorem tW (hV:ay V)(Z:bO V o){x:Operand}{i:Nat}(H:o.op=.extract x i)(h:act Γ T o st κ=some r):bW P V o st κ r:=by
 simp only[act,wrU,H]at h;split at h
 ·rename_i u ls he;split at h
  ·rename_i agg n hp;split at h
   ·rename_i d hd;refine⟨_,h,λW a w hr=>?_⟩;obtain⟨z,hs,hl⟩:=cX hr x;rw[he]at hs hl;obtain⟨y,hv,Y⟩:=hs;have M:∀ (u:List (Bool×Nat)) (y z:List Value) (i:Nat) (off:Nat),pm u y z->u[i]?=some (agg,n) ->
      ∃ v,y[i]?=some v/\dg agg v ((z.drop ((u.take i).foldl (λa b=>a+b.2) off-off)).take n)/\off<=(u.take i).foldl (λa b=>a+b.2) off:=by
     intro u;induction u with
     |nil=>intro y z i off _ I;simp at I
     |cons p u ih =>
      rintro y z i off ⟨v,a0,c,O,rfl,rfl,hc,a1,Y⟩ I;cases i with
      |zero =>
       simp_all
      |succ i =>
       obtain⟨v',X,J,h3⟩:=ih a0 O i (off+p.2) Y (by simpa using I);refine⟨v',by simpa using X,?_,by simp;omega⟩;simp;have e:(u.take i).foldl (λa b=>a+b.2) (off+p.2)-off=c.length+((u.take i).foldl (λa b=>a+b.2) (off+p.2)-(off+p.2)):=by omega
       rw[e,<- CV,List.drop_left];exact J
    obtain⟨v,X,J,_⟩:=M u y z i 0 Y hp;refine dY hV hr hd Z (v:=v) ?_ (jZ J) ((hl.drop _).take n);simp[execOp,H,hv,Instr.extract,X]
   ·grind
  ·grind
 ·grind
theorem uA {W:Wit}{a:Act}{w:World}(J:ap P V W st a w):∀ (xs:List Operand) (u l:List Nat),
  xs.foldl (λ (u:Option (List Nat)) x=>u.bind λl=>match one st x with|.bp b 0=>some (l++[b])|_=>none) (some u)=some l ->
  ∃ y,l=u++y/\xs.map a.eval=y.map (λb=>Value.pointer (some ⟨W.β b,0,none⟩))/\∀ b∈y,B0<=b/\(st b).sh=.agg
 |[],u,l,h=>⟨[],by simpa using h.symm,rfl,by simp⟩
 |x::xs,u,l,h=>by
  simp at h;have H:∀ (xs:List Operand),xs.foldl (λ (u:Option (List Nat)) x=>u.bind λl=>match one st x with|.bp b 0=>some (l++[b])|_=>none) none=none:=by
   intro xs;induction xs with
   |nil=>rfl
   |cons x xs O=>simpa using O
  split at h
  ·rename_i b I;obtain⟨y,Y,X,Z⟩:=uA J xs (u++[b]) l h;have z:=(bt J x (by rw[I];simp)).1;rw[I]at z;refine⟨b::y,by simp[Y],?_,?_⟩
   ·simp only[CX,X];rw[show a.eval x=_ from z.2.2]
   ·intro q M;rcases CI.1 M with rfl|M
    ·exact⟨z.1,z.2.1⟩
    ·grind
  ·grind
theorem sy (Y:ay V)(z:bO V o){fn:Fn}{first caps:Array Operand}(u:o.op=.makeFunc fn first caps)(h:act Γ T o st κ=some r):bW P V o st κ r:=by
 cases fn with
 |func f =>
  simp only[act,wrU,u]at h;cases y:BA first.size 0 with
  |false=>simp[y]at h
  |true =>
   simp only[y]at h;split at h
   ·rename_i l J;split at h
    ·rename_i d O;refine⟨_,h,λW a w H=>?_⟩;obtain⟨l',X,I,M⟩:=uA H caps.toList [] l J;subst X;have Z:first=#[]:=Array.eq_empty_of_size_eq_zero (BB y)
     refine aN Y H O z (v:=.func (.func f) #[] (l.map λb=>Value.pointer (some ⟨W.β b,0,none⟩)).toArray) ?_ ⟨rfl,M⟩ id rfl;rw[<- I];simp[execOp,u,Instr.makeFunc,Z,<- CA]
    ·grind
   ·grind
 |_=>simp[act,u]at h
theorem gh {α:Type}{xs:List α}{i:Int}{x:α}(h:idx xs i=some x):0<=i/\i<xs.length/\xs[i.toNat]?=some x:=by
 unfold idx at h
 grind
end
section
variable {P:Program} {V:Env} {Γ:List Ctr} {T:TypeId->TI} {st:St} {o:Oper} {R:Type} {κ:Upd->Option R} {r:R}
theorem wH {W:Wit}{a:Act}{w:World}(H:ap P V W st a w){x:Operand}{b:Ty}{p:Bool}{u:b.den}(z:(au st x).1=.agg)(M:cR st b (au st x).2=some (p,u)) :
  ∃ y G,a.eval x=.agg y.toArray/\Rd w G b u y:=by
 obtain⟨y,I,J⟩:=cX H x;rw[z]at I;exact⟨y,_,I,ey H J M⟩
theorem lr {t:TypeId}(y:P.underlying t=some .bool)(b u:Bool)(w:World):(Op.equal t (.bool b) (.bool u)).run P w=.ok (b==u) w:=by
 have e:Op.maxDepth=9999+1:=rfl;unfold Op.equal;rw[e];generalize 9999=m;unfold Op.equalIn;rw[BQ,run_underlying y];rfl
theorem wI (Z:ay V)(hT:TOk P T)(J:bO V o){op:BinOp}{t t':TypeId}{x y:Operand}(H:o.op=.binOp op t x y t')(h:act Γ T o st κ=some r):bW P V o st κ r:=by
  simp only[act,wrU,H]at h;split at h
  · rename_i k m k' n O X
    cases op
    case shl =>
      simp only at h;cases Y:decide (n<0) with
      |true=>simp[Y]at h
      |false =>
        simp only[Y,cond_false]at h;split at h
        · rename_i d M
          refine⟨_,h,λW a w z=>aN Z z M J (v:=.int k (k.wrap (m*2 ^ (min n.toNat k.bits)))) ?_ rfl id rfl⟩;have:¬ n<0:=of_decide_eq_false Y;simp[execOp,H,bF z O,bF z X,eqGuard,Go.binOp,Op.shift,this]
        · cases h
    case shr =>
      simp only at h;cases Y:decide (n<0) with
      |true=>simp[Y]at h
      |false =>
        simp only[Y,cond_false]at h;split at h
        · rename_i d M
          refine⟨_,h,λW a w z=>aN Z z M J (v:=.int k (m.fdiv (2 ^ (min n.toNat k.bits)))) ?_ rfl id rfl⟩;have:¬ n<0:=of_decide_eq_false Y;simp[execOp,H,bF z O,bF z X,eqGuard,Go.binOp,Op.shift,this]
        · cases h
    case quo =>
      simp only at h;cases Y:decide (n=0) with
      |true=>simp[Y]at h
      |false =>
        simp only[Y,cond_false]at h;cases I:decide (k=k') with
        |false=>simp[I]at h
        |true =>
          simp only[I,cond_true]at h;have I:=of_decide_eq_true I;subst I;split at h
          · rename_i d M
            refine⟨_,h,λW a w z=>aN Z z M J (v:=.int k (k.wrap (m.tdiv n))) ?_ rfl id rfl⟩;have:¬ n=0:=of_decide_eq_false Y;simp[execOp,H,bF z O,bF z X,eqGuard,Go.binOp,Op.intDiv,this]
          · cases h
    case rem =>
      simp only at h;cases Y:decide (n=0) with
      |true=>simp[Y]at h
      |false =>
        simp only[Y,cond_false]at h;cases I:decide (k=k') with
        |false=>simp[I]at h
        |true =>
          simp only[I,cond_true]at h;have I:=of_decide_eq_true I;subst I;split at h
          · rename_i d M
            refine⟨_,h,λW a w z=>aN Z z M J (v:=.int k (m.tmod n)) ?_ rfl id rfl⟩;have:¬ n=0:=of_decide_eq_false Y;simp[execOp,H,bF z O,bF z X,eqGuard,Go.binOp,Op.intDiv,this]
          · cases h
    case and =>
      simp only at h;cases I:decide (k=k') with
      |false=>simp[I]at h
      |true =>
        simp only[I,cond_true]at h;have I:=of_decide_eq_true I;subst I;split at h
        · rename_i d M
          refine⟨_,h,λW a w z=>aN Z z M J (v:=.int k (k.wrap ((BitVec.ofInt k.bits m &&& BitVec.ofInt k.bits n).toNat))) ?_ rfl id rfl⟩;simp[execOp,H,bF z O,bF z X,eqGuard,Go.binOp,Op.intBits]
        · cases h
    case xor =>
      simp only at h;cases I:decide (k=k') with
      |false=>simp[I]at h
      |true =>
        simp only[I,cond_true]at h;have I:=of_decide_eq_true I;subst I;split at h
        · rename_i d M
          refine⟨_,h,λW a w z=>aN Z z M J (v:=.int k (k.wrap ((BitVec.ofInt k.bits m ^^^ BitVec.ofInt k.bits n).toNat))) ?_ rfl id rfl⟩;simp[execOp,H,bF z O,bF z X,eqGuard,Go.binOp,Op.intBits]
        · cases h
    all_goals
      simp only at h;cases I:decide (k=k') with
      |false=>simp[I]at h
      |true =>
        simp only[I,cond_true]at h;have I:=of_decide_eq_true I;subst I;split at h
        · rename_i l hl
          split at h
          · rename_i d M
            refine⟨_,h,λW a w z=>?_⟩;obtain⟨v,h1,h2,h3,h4⟩:=vm (P:=P) (V:=V) (W:=W) (st:=st) (w:=w) _ k t t' x y m n l hl (bF z O) (bF z X) H;exact aN Z z M J h1 h2 h3 h4
          · cases h
        · cases h
  · rename_i b b' O X
    cases ht:T t with
    |bool =>
      have h1:=hT t;rw[ht]at h1;simp only[ht]at h;cases op <;> simp only at h <;> first
        |cases h;done
        | (split at h
           · rename_i d M
             first
               |exact⟨_,h,λW a w z=>aN Z z M J (v:=.bool (b==b')) (by simp[execOp,H,ib z O,ib z X,eqGuard,Go.binOp,lr h1.1]) rfl id rfl⟩
               |exact⟨_,h,λW a w z=>aN Z z M J (v:=.bool (b != b')) (by simp[execOp,H,ib z O,ib z X,eqGuard,Go.binOp,lr h1.1,bne]) rfl id rfl⟩
           · cases h)
    |_=>simp[ht]at h
  · rename_i b b' O X
    cases op <;> simp only at h <;> first
      |cases h;done
      | (cases a0 : decide (b.size + b'.size <= 9223372036854775807) with
         |false=>rw[a0]at h;cases h
         |true =>
           rw[a0]at h;simp only[cond_true]at h;split at h
           · rename_i d M
             refine⟨_,h,λW a w z=>aN Z z M J (v:=.string (b++b')) ?_ rfl id rfl⟩;have:(b.size:Int)+b'.size<=9223372036854775807:=by have:=of_decide_eq_true a0;omega
             simp[execOp,H,iw z O,iw z X,eqGuard,Go.binOp,Op.stringOp,this]
           · cases h)
      | (split at h
         · rename_i d M
           first
             |exact⟨_,h,λW a w z=>aN Z z M J (v:=.bool (b.toList==b'.toList)) (by simp[execOp,H,iw z O,iw z X,eqGuard,Go.binOp,Op.stringOp]) rfl id rfl⟩
             |exact⟨_,h,λW a w z=>aN Z z M J (v:=.bool (b.toList != b'.toList)) (by simp[execOp,H,iw z O,iw z X,eqGuard,Go.binOp,Op.stringOp,bne]) rfl id rfl⟩
         · cases h)
  · cases ht:T t with
    |struct b ad =>
      have h1:=hT t;rw[ht]at h1;obtain⟨_,_,_,a3,a2⟩:=h1;simp only[ht]at h;cases hf:b.flat&&decide ((au st x).1=.agg)&&decide ((au st y).1=.agg) with
      |false=>simp[hf]at h
      |true =>
        simp only[hf,cond_true]at h;simp only[BD,decide_eq_true_eq]at hf;obtain⟨⟨hf,a5⟩,a4⟩:=hf;split at h
        · rename_i p u q v a6 a9
          have a1:∀ (W:Wit) (a:Act) (w:World),ap P V W st a w->(Op.equal t (a.eval x) (a.eval y)).run P w=.ok (b.eqv u v) w/\(∃ cx cy:Array Value,a.eval x=.agg cx/\a.eval y=.agg cy):=by
            intro W a w z;obtain⟨cx,G,O,a7⟩:=wH z a5 a6;obtain⟨cy,G',X,a8⟩:=wH z a4 a9;rw[O,X];exact⟨a3 hf w G u v cx cy a7 (Rd.flat hf a8),_,_,rfl,rfl⟩
          cases op <;> simp only at h <;> first
            |cases h;done
            | (split at h
               · rename_i d M
                 first
                   | (refine ⟨_, h, λW a w z => aN Z z M J (v := .bool (b.eqv u v)) ?_ rfl id rfl⟩
                      obtain⟨h2,cx,cy,O,X⟩:=a1 W a w z;rw[O,X]at h2;simp[execOp,H,O,X,eqGuard,Go.binOp,a2,h2];done)
                   | (refine ⟨_, h, λW a w z => aN Z z M J (v := .bool (!b.eqv u v)) ?_ rfl id rfl⟩
                      obtain⟨h2,cx,cy,O,X⟩:=a1 W a w z;rw[O,X]at h2;simp[execOp,H,O,X,eqGuard,Go.binOp,a2,h2])
               · cases h)
        · cases h
    |_=>simp[ht]at h
end
section
variable {P:Program} {V:Env} {Γ:List Ctr} {T:TypeId->TI} {st:St} {o:Oper} {R:Type} {κ:Upd->Option R} {r:R}
theorem eU (g off n:Nat):(⟨g,off,none⟩:Addr).add n=⟨g,off+n,none⟩:=by
 unfold Addr.add;split <;> simp_all
theorem dx {t:TypeId}{n:Nat}(h:bR P t n)(w:World):(sizeOf t).run P w=.ok n w:=by
 unfold bR at h;cases u:P.info? t with
 |none=>simp[u]at h
 |some i =>
  simp[u]at h;simp[sizeOf,typeInfo,u,h]
theorem gi {t:TypeId}{z:Value}(h:d5 P t z)(w:World):(zeroValue t).run P w=.ok z w:=by
 unfold d5 at h;cases u:P.info? t with
 |none=>simp[u]at h
 |some i =>
  simp[u]at h;simp[zeroValue,typeInfo,u,h]
theorem rR (hV:ay V)(hT:TOk P T)(M:bO V o){t:TypeId}{x:Operand}{f:Nat}(a0:o.op=.fieldAddr t x f)(h:act Γ T o st κ=some r):bW P V o st κ r:=by
 simp only[act,wrU,a0]at h;cases ht:T t with
 |struct b a5 =>
  simp only[ht]at h;split at h
  ·rename_i off n agg hf;have h1:=hT t;rw[ht]at h1;obtain⟨⟨fs,hu,_,a1⟩,_⟩:=h1;obtain⟨_,fd,h2,h3,h4,h5,h6,_⟩:=a1 f off n agg hf;have I:∀ (a:Act) (w:World) (g O:Nat),a.eval x=.pointer (some ⟨g,O,none⟩)->(execOp a.eval o).run P w=.ok (.value (.pointer (some ⟨g,O+off,none⟩))) w:=by
    intro a w g O Z;have u:=dx h6 w;have h8:n≠0:=by omega
    simp[execOp,a0,Z,Instr.fieldAt,run_underlying hu,h2,CD,fieldPlace,u,h8,eU]
   split at h
   ·rename_i p b' y O z;split at h
    ·rename_i d X;refine⟨_,h,λW a w H=>?_⟩;obtain⟨u,_,_,_⟩:=bt H x (by rw[z];simp);rw[z]at u;obtain⟨g,og,c,Z,hg,Y,hc⟩:=u;exact aN hV H X M (I a w g _ Z) ⟨g,og,c,by rw[B7],hg,Y,hc⟩ id rfl
    ·grind
   ·rename_i b' O z;split at h
    ·rename_i d X;refine⟨_,h,λW a w H=>?_⟩;obtain⟨u,_,_,_⟩:=bt H x (by rw[z];simp);rw[z]at u;exact aN hV H X M (I a w _ _ u.2.2) ⟨u.1,u.2.1,rfl⟩ id rfl
    ·grind
   ·rename_i r' j v i sz O z;cases J:BA (st r').ver v with
    |false=>simp[J]at h
    |true =>
     simp only[J]at h;split at h
     ·rename_i d X;refine⟨_,h,λW a w H=>?_⟩;obtain⟨u,_,_,_⟩:=bt H x (by rw[z];simp);rw[z]at u;obtain⟨g,a3,a4,hh,a2,Z⟩:=u.2 (BB J);exact aN hV H X M (I a w g _ Z) ⟨u.1,λ_=>⟨g,a3,a4,hh,a2,by rw[B7]⟩⟩ id rfl
     ·grind
   ·rename_i p ks ep b' y O z;cases J:br st ks ep with
    |false=>simp[J]at h
    |true =>
     simp only[J]at h;split at h
     ·rename_i d X;refine⟨_,h,λW a w H=>?_⟩;obtain⟨u,_,_,_⟩:=bt H x (by rw[z];simp);rw[z]at u;have h8:NpOk V W w p ks b' y O _:=u.2.2 (cD J).1 (cD J).2.1 (cD J).2.2;obtain⟨g,og,c,Z,hg,Y,hc⟩:=h8.rd;exact aN hV H X M (I a w g _ Z) ⟨u.1,u.2.1,λ_ _ _=>⟨g,og,c,by rw[B7],hg,Y,hc⟩⟩ id rfl
     ·grind
   ·grind
  ·grind
 |_=>simp[ht]at h
theorem rS (hV:ay V)(hT:TOk P T)(a0:bO V o){t:TypeId}{x i:Operand}(a6:o.op=.indexAddr t x i)(h:act Γ T o st κ=some r):bW P V o st κ r:=by
 simp only[act,wrU,a6]at h;split at h
 ·rename_i k n hi;cases ht:T t with
  |slice E e a9 =>
   simp only[ht]at h;have h1:=hT t;rw[ht]at h1;obtain⟨hu,_,_,b6,_,ti,z,b1,a8,_⟩:=h1;have hE:bR P E e.cells:=by simp[bR,b1,a8]
   have a5:∀ (W:Wit) (a:Act) (w:World) (g Z X I:Nat),ap P V W st a w->0<=n->n<X->a.eval x=.slice (some ⟨g,Z,none⟩) X I ->
     (execOp a.eval o).run P w=.ok (.value (.pointer (some ⟨g,Z+n.toNat*e.cells,none⟩))) w:=by
    intro W a w g Z X I H h0 h1 M;have Y:=dx hE w;simp[execOp,a6,M,bF H hi,CY,asIntOf,run_underlying hu,h0,h1,Y,eU]
   split at h
   ·rename_i r' j v O;split at h
    ·rename_i p hh E' e' xs b0;cases u:BA e'.cells e.cells with
     |false=>simp[u]at h
     |true =>
      simp only[u]at h;have u:=BB u;obtain⟨y,hy,h⟩:=BJ.1 h;obtain⟨Y,h3,h4⟩:=gh hy;split at h
      ·rename_i d hd;refine⟨_,h,λW a w H=>?_⟩;obtain⟨J,_,_,_⟩:=bt H x (by rw[O];simp);rw[O]at J;obtain⟨h8,h9,b4,b9⟩:=kc H b0 J;obtain⟨_,b2,ba,ho,b5,_⟩:=h9;rcases ho.2 with ⟨hn,h0⟩|⟨g,a1,b3,_,M,_,_,_⟩
       ·omega
       ·refine aN hV H hd a0 (a5 W a w g 0 xs.length a1 H Y h3 M) ⟨by omega,λ_=>⟨g,xs.length,a1,by rw[h8,M],by omega,by simp[u]⟩⟩ id rfl
      ·grind
    ·grind
   ·rename_i p E' e' xs O;cases u:BA e'.cells e.cells with
    |false=>simp[u]at h
    |true =>
     simp only[u]at h;have u:=BB u;obtain⟨y,hy,h⟩:=BJ.1 h;obtain⟨Y,h3,h4⟩:=gh hy;split at h
     ·rename_i d hd;refine⟨_,h,λW a w H=>?_⟩;obtain⟨J,_,_,_⟩:=bt H x (by rw[O];simp);rw[O]at J;obtain⟨A,I,M,a7,a4⟩:=J;have M:a.eval x=.slice A xs.length I:=by simpa using M
      obtain⟨g,Z,rfl,hg,a2⟩:=a4 (by omega);obtain⟨c,hc,a3⟩:=a2 n.toNat y h4;refine aN hV H hd a0 (a5 W a w g Z xs.length I H Y h3 M) ⟨g,Z+n.toNat*e'.cells,c,by rw[u];rfl,?_,hc,a3⟩ id rfl;rcases hg with hg|⟨_,hg⟩
      ·grind
      ·exact .inr (hV.ro g hg)
     ·grind
   ·rename_i p ks ep bb E' e' xs O;cases u:BA e'.cells e.cells&&br st ks ep with
    |false=>simp[u]at h
    |true =>
     simp only[u]at h;simp only[BD]at u;obtain⟨u,ad⟩:=u;have u:=BB u;obtain⟨y,hy,h⟩:=BJ.1 h;obtain⟨Y,h3,h4⟩:=gh hy;split at h
     ·rename_i d hd;refine⟨_,h,λW a w H=>?_⟩;obtain⟨J,_,_,_⟩:=bt H x (by rw[O];simp);rw[O]at J;have h8:=pn ad J;obtain⟨A,I,M,a7,a4⟩:=h8.rd;have M:a.eval x=.slice A xs.length I:=by simpa using M
      obtain⟨g,Z,rfl,hg,a2⟩:=a4 (by omega);obtain⟨c,hc,a3⟩:=a2 n.toNat y h4;exact aN hV H hd a0 (a5 W a w g Z xs.length I H Y h3 M) ⟨J.1,J.2.1,λ_ _ _=>⟨g,Z+n.toNat*e'.cells,c,by rw[u];rfl,hg,hc,a3⟩⟩ id rfl
     ·grind
   ·grind
  |arr e X =>
   simp only[ht]at h;have h1:=hT t;rw[ht]at h1;obtain⟨⟨E,hu,hE,_⟩,_⟩:=h1;split at h
   ·rename_i b off O;cases u:decide (0<=n)&&decide (n<(X:Int)) with
    |false=>simp[u]at h
    |true =>
     simp only[u]at h;simp at u;split at h
     ·rename_i d hd;refine⟨_,h,λW a w H=>?_⟩;obtain⟨J,_,_,_⟩:=bt H x (by rw[O];simp);rw[O]at J;refine aN hV H hd a0 (v:=.pointer (some ⟨W.β b,off+n.toNat*e.cells,none⟩)) ?_ ⟨J.1,J.2.1,rfl⟩ id rfl;have Y:=dx hE w;simp[execOp,a6,J.2.2,bF H hi,CY,CD,asIntOf,run_underlying hu,u.1,u.2,Y,eU]
     ·grind
   ·grind
  |_=>simp[ht]at h
 ·grind
theorem wJ {t:TypeId}{i:TI}(u:oF P t i)(J:i.cells≠0\/i≠.none)(w:World):(isAgg t).run P w=.ok i.agg w:=by
 cases i with
 |none=>simp[TI.cells]at J
 |struct a I =>
  obtain⟨⟨M,H,_⟩,_⟩:=u;simp[isAgg,run_underlying H,TI.agg]
 |arr e n=>obtain⟨⟨E,H,_⟩,_⟩:=u;simp[isAgg,run_underlying H,TI.agg]
 |ptr=>obtain⟨⟨e,H⟩,_⟩:=u;simp[isAgg,run_underlying H,TI.agg]
 |fn=>obtain⟨⟨x,y,z,H⟩,_⟩:=u;simp[isAgg,run_underlying H,TI.agg]
 |int k=>simp[isAgg,run_underlying u.1,TI.agg]
 |bool=>simp[isAgg,run_underlying u.1,TI.agg]
 |str=>simp[isAgg,run_underlying u.1,TI.agg]
 |slice E e b=>simp[isAgg,run_underlying u.1,TI.agg]
theorem oH {t:TypeId}{i:TI}(u:oF P t i)(z:i≠.none):bR P t i.cells:=by
 cases i with
 |none=>exact absurd rfl z
 |struct a y=>exact u.2.1
 |arr e n=>exact u.2.2.1
 |ptr=>exact u.2.1
 |fn=>exact u.2.1
 |int k=>exact u.2.1
 |bool=>exact u.2.1
 |str=>exact u.2.1
 |slice E e b=>exact u.2.1
theorem mH {W:Wit}{a:Act}{w:World}(H:ap P V W st a w){e:Ty}:∀ (n:Nat) (ls:List Leaf) (cs:List Value) (xs:List e.den),aB P V W st w ls cs->fy st e n ls=some xs ->
  xs.length=n/\∀ (i:Nat) (x:e.den),xs[i]?=some x->∃ G,Rd w G e x ((cs.drop (i*e.cells)).take e.cells)
 |0,ls,cs,xs,_,h=>by
  simp only[fy]at h
  simp_all
 |n+1,ls,cs,xs,z,h=>by
  simp only[fy]at h;split at h
  ·rename_i p x Y O J;simp at h;subst h;obtain⟨M,X⟩:=mH H n _ _ _ (z.drop e.cells) J;refine⟨by simp[M],λi y u=>?_⟩;cases i with
   |zero =>
    simp at u;subst u;exact⟨_,by simpa using ey H (z.take e.cells) O⟩
   |succ i =>
    obtain⟨G,I⟩:=X i y (by simpa using u);rw[CV]at I
    grind
  ·cases h
theorem wK (hV:ay V)(hT:TOk P T)(Z:bO V o){t:TypeId}{x i:Operand}(M:o.op=.index t x i)(h:act Γ T o st κ=some r):bW P V o st κ r:=by
 simp only[act,wrU,M]at h;split at h
 ·rename_i k n hi;cases hs:T t with
  |str =>
   simp only[hs]at h;split at h
   ·rename_i s hx;obtain⟨y,hy,h⟩:=BJ.1 h;split at h
    ·rename_i d hd;refine⟨_,h,λW a w I=>aN hV I hd Z (v:=.int .u8 (y.toNat:Int)) ?_ rfl id rfl⟩;have h1:=hT t;rw[hs]at h1;obtain⟨h2,h3,h4⟩:=gh hy;have h5:s[n.toNat]?=some y:=by
      have h6:=(BC.1 h4);obtain⟨h7,h8⟩:=h6;have h9:n.toNat<s.size:=by rw[Array.length_toList]at h7;exact h7
      rw[getElem?_pos s n.toNat h9];congr 1
     simp[execOp,M,bF I hi,iw I hx,CT,asIntOf,run_underlying h1.1,h2,h5]
    ·grind
   ·grind
  |arr e Y =>
   simp only[hs]at h;have h1:=hT t;rw[hs]at h1;obtain⟨⟨E,hu,hE,X⟩,a4,_⟩:=h1;cases hb:e.flat&&decide ((au st x).1=.agg)&&BA (au st x).2.length (Y*e.cells)&&!BA e.cells 0 with
   |false=>simp[hb]at h
   |true =>
    simp only[hb]at h;simp only[BD,decide_eq_true_eq]at hb;obtain⟨⟨⟨hf,a2⟩,a3⟩,_⟩:=hb;split at h
    ·rename_i vs hg;obtain⟨y,hy,h⟩:=BJ.1 h;split at h
     ·rename_i d hd;refine⟨_,h,λW a w I=>?_⟩;obtain⟨cs,z,hl⟩:=cX I x;rw[a2]at z;have z:a.eval x=.agg cs.toArray:=z;obtain⟨h2,h3,h4⟩:=gh hy;obtain⟨h5,h6⟩:=mH I Y _ _ _ hl hg;obtain⟨G,h7⟩:=h6 n.toNat y h4;have h8:Rd w (λ_=>False) e y ((cs.drop (n.toNat*e.cells)).take e.cells):=Rd.flat hf h7;have h9:=h8.len;have J:(isAgg E).run P w=.ok e.isAgg w:=by
       cases O:P.underlying E with
       |none=>simp[O]at X
       |some u =>
        simp only[O,CU,BH]at X;rw[<- X];cases u <;> simp[isAgg,run_underlying O]
      have a1:=dx hE w;have hn:n<(Y:Int):=by omega
      cases H:e.isAgg with
      |true =>
       have:=dY hV I hd Z (v:=.agg ((cs.drop (n.toNat*e.cells)).take e.cells).toArray) (sh:=.agg) (ls:=cN false e y) ?_ rfl (eT (λ_ h=>h.elim) h8)
       ·exact this
       ·rw[H]at J;simp[execOp,M,bF I hi,z,CT,asIntOf,run_underlying hu,h2,hn,part,J,a1]
      |false =>
       have a0:e.cells=1:=by cases e <;> first|rfl|simp[Ty.isAgg]at H
       rw[a0]at h8 h9
       match hc:(cs.drop (n.toNat*1)).take 1,h9 with
       |[v],_ =>
        rw[hc]at h8;have:=dY hV I hd Z (v:=v) (sh:=.one) (ls:=cN false e y) (cs:=[v]) ?_ rfl (eT (λ_ h=>h.elim) h8)
        ·exact this
        ·rw[H]at J;have hv:cs[n.toNat]?=some v:=by
          have:((cs.drop (n.toNat*1)).take 1)[0]?=some v:=by rw[hc];rfl
          grind
         simp[execOp,M,bF I hi,z,CT,asIntOf,run_underlying hu,h2,hn,part,J,a1,a0,hv]
     ·grind
    ·grind
  |_=>simp[hs]at h
 ·grind
theorem nY {t:TypeId}{i:TI}(H:oF P t i)(O:i≠.none){w:World}{g off:Nat}{cs:List Value}(z:cZ w g off cs)(y:cs.length=i.cells) :
  ∃ v,(loadVar t ⟨g,off,none⟩).run P w=.ok v w/\ee (bh i.agg) v cs:=by
 have M:=wJ H (.inr O) w;cases J:i.agg with
 |true =>
  refine⟨.agg cs.toArray,?_,rfl⟩;have X:=dx (oH H O) w;have I:=run_loadCells_list (P:=P) w ⟨g,off,none⟩ cs (λj v Y=>by rw[eU];exact z j v Y);rw[y]at I;simp[loadVar,M,J,X,I]
 |false =>
  have u:i.cells=1:=by cases i <;> simp_all [TI.agg,TI.cells]
  rw[u]at y
  match cs,y with
  |[v],_ =>
   have:=z 0 v rfl;rw[Nat.add_zero]at this;exact⟨v,by simp[loadVar,M,J,this],rfl⟩
theorem cZ.sub {w:World}{g off:Nat}{cs:List Value}(h:cZ w g off cs)(k n:Nat):cZ w g (off+k) ((cs.drop k).take n):=by
 intro i v u;rw[BP]at u;split at u
 ·rw[Bz]at u;have:=h (k+i) v u
  grind
 ·cases u
theorem Mx.deep {w:World}{G G':Nat->Prop}:∀ {a:Ty} {h:Option Nat} {pos:Nat} {x:a.den} {cs:List Value} {bs:List Nat},a.shy=false->Mx w G a h pos x cs bs->Mx w G' a h pos x cs bs
 |.int _,_,_,_,_,_,_,h=>h
 |.bool,_,_,_,_,_,_,h=>h
 |.str,_,_,_,_,_,_,h=>h
 |.unit,_,_,_,_,_,_,h=>h
 |.hdr,_,_,_,_,_,_,h=>h
 |.pair _ _,_,_,_,_,_,u,⟨c1,c2,Z,b2,J,e2,I,z⟩=>by
  simp only[Ty.shy,CE]at u;exact⟨c1,c2,Z,b2,J,e2,Mx.deep u.1 I,Mx.deep u.2 z⟩
 |.list m E e,h,pos,xs,cs,bs,u,H=>by
  simp only[Ty.shy,CE,Bool.not_eq_false']at u;obtain⟨rfl,u⟩:=u;by_cases O:h=some pos
  ·subst O;rw[i8]at H ⊢;exact H
  ·rw[bK O]at H ⊢;obtain⟨v,J,y,M,I,z,Y⟩:=H;refine⟨v,J,y,M,I,z,λj x hj=>?_⟩;obtain⟨c,h4,X⟩:=Y j x hj;exact⟨c,Mx.deep u h4,X⟩
theorem OwB.shy {W:Wit}{w:World}{p:Bool}{h:Option (Nat×Nat)}{E:TypeId}{e:Ty}{xs:List e.den}{v:Value}{bs:List Nat}(H:OwB w (gd V W p) h E e xs v bs):OwB w (gd V W (p&&e.shy)) h E e xs v bs:=by
 cases M:e.shy with
 |true=>simpa using H
 |false =>
  obtain⟨u,y,O,I,J⟩:=H;refine⟨u,y,O,I,λj x X=>?_⟩;obtain⟨c,Y,z⟩:=J j x X;exact⟨c,Mx.deep M Y,z⟩
theorem i9 (p:Bool)(r j v ep i u:Nat)(h:Option Nat):∀ (a:Ty) (off:Nat) (x:a.den),(gE p r j v ep i u h a off x).length=a.cells
 |.int _,_,_=>rfl
 |.bool,_,_=>rfl
 |.str,_,_=>rfl
 |.unit,_,_=>rfl
 |.hdr,_,_=>rfl
 |.pair a b,off,x=>by simp[gE,Ty.cells,i9 p r j v ep i u h a,i9 p r j v ep i u h b]
 |.list _ _ _,_,_=>rfl
theorem lT {W:Wit}{w:World}{p:Bool}{r j g len y i sz:Nat}(O:(W.cs r)[j]?=some (.slice (some ⟨g,0,none⟩) len y))(J:i<len)(hg:g∈W.bs r j){hol:Option Nat} :
  ∀ {a:Ty} {pos:Nat} {x:a.den} {cs:List Value} {bs:List Nat},(∀ k∈bs,k∈W.bs r j)->Mx w (gd V W p) a hol pos x cs bs->cZ w g (i*sz+pos) cs->aB P V W st w (gE p r j (st r).ver (st EPO).ver i sz hol a pos x) cs
 |.int _,_,_,_,_,_,h,_=>by rw[h.1];exact⟨⟨rfl,id,rfl⟩,trivial⟩
 |.bool,_,_,_,_,_,h,_=>by rw[h.1];exact⟨⟨rfl,id,rfl⟩,trivial⟩
 |.str,_,_,_,_,_,h,_=>by rw[h.1];exact⟨⟨rfl,id,rfl⟩,trivial⟩
 |.unit,_,_,_,_,_,h,_=>by rw[h.1];trivial
 |.hdr,_,_,_,_,_,⟨⟨A,y,e⟩,_⟩,_=>by rw[e];exact⟨⟨⟨A,y,rfl⟩,id,rfl⟩,trivial⟩
 |.pair a b,pos,x,cs,bs,M,⟨c1,c2,b1,b2,e1,e2,h1,Y⟩,X=>by
  subst e1;have hl:=h1.len;refine aB.append (lT O J hg (λk z=>M k (by rw[e2];exact BG _ z)) h1 λq u hu=>X q u ?_)
   (lT O J hg (λk z=>M k (by rw[e2];exact BF _ z)) Y λq u hu=>?_)
  ·grind
  ·have:=X (a.cells+q) u (by rw[<- hl,BT (by omega)];simpa using hu)
   grind
 |.list m E e,pos,xs,cs,bs,M,H,X=>by
  have I:=H.one;simp only[gE];by_cases hp:hol=some pos
  ·have Z:decide (hol=some pos)=true:=decide_eq_true hp;rw[Z];obtain⟨v,rfl,_⟩:=H;exact⟨⟨trivial,id,I v (by simp)⟩,trivial⟩
  ·have Z:decide (hol=some pos)=false:=decide_eq_false hp;rw[Z];cases m with
   |false =>
    rw[cr]at H;obtain⟨A,y,rfl,Y,h3⟩:=H.2;exact⟨⟨⟨A,y,rfl,Y,h3⟩,id,rfl⟩,trivial⟩
   |true =>
    rw[bK hp]at H;obtain⟨v,rfl,hO⟩:=H;have h1:=X 0 v rfl;refine⟨⟨⟨BI _,λk z=>?_,λ_ _ _=>⟨?_,λi' a3 a0 he=>?_⟩⟩,id,I v (by simp)⟩,trivial⟩
    ·grind
    ·obtain⟨a1,a2,h4,h5,h6⟩:=OwB.shy hO;refine so h4 (λk z=>.inr ⟨_,BX _,M k (by rw[h5];exact BG _ z)⟩) λq x hq=>?_
     obtain⟨c,h7,h8⟩:=h6 q x hq;exact⟨c,h7.rd (λk z=>.inl z) (λk z=>.inr ⟨_,BX _,M k (by rw[h5];exact BF _ (dW.2 ⟨q,(BC.1 hq).1,z⟩))⟩),h8⟩
    ·grind
theorem jO {W:Wit}{w:World}{p:Bool}{ks:List (Nat×Nat×Nat)}{ep:Nat}(u:ep<=(st EPO).ver)(y:∀ k∈ks,k.2.2<=(st k.1).ver) :
  ∀ {a:Ty} {x:a.den} {cs:List Value},Rd w (λb=>gd V W p b\/∃ k∈ks,b∈W.bs k.1 k.2.1) a x cs->aB P V W st w (lj p ks ep a x) cs
 |.int _,_,_,h=>by rw[show _=_ from h];exact⟨⟨rfl,id,rfl⟩,trivial⟩
 |.bool,_,_,h=>by rw[show _=_ from h];exact⟨⟨rfl,id,rfl⟩,trivial⟩
 |.str,_,_,h=>by rw[show _=_ from h];exact⟨⟨rfl,id,rfl⟩,trivial⟩
 |.unit,_,_,h=>by rw[show _=_ from h];trivial
 |.hdr,_,_,⟨A,z,e⟩=>by rw[e];exact⟨⟨⟨A,z,rfl⟩,id,rfl⟩,trivial⟩
 |.pair _ _,_,_,⟨X,O,e,J,H⟩=>by rw[e];exact (jO u y J).append (jO u y H)
 |.list m E e,Z,_,h=>by
  obtain⟨A,z,rfl,H,I⟩:=h;exact⟨⟨⟨u,y,λ_ _ _=>⟨⟨A,z,rfl,H,I⟩,λi Y off M=>by cases M⟩⟩,id,rfl⟩,trivial⟩
theorem zx {W:Wit}{a:Act}{w:World}(hr:ap P V W st a w){r j n g len M i:Nat}{p:Bool}{hh:Option (Nat×Nat)}{E:TypeId}{e:Ty}{xs:List e.den}{y:e.den}(h8:(st r).ver=n)(h9:(st r).ls[j]?=some (.own p hh E e xs))
  (H:(W.cs r)[j]?=some (.slice (some ⟨g,0,none⟩) len M)) (I:i<len) (hy:xs[i]?=some y) :
  ∃ c,cZ w g (i*e.cells) c/\aB P V W st w (gE p r j n (st EPO).ver i e.cells (cS hh i) e 0 y) c:=by
 subst h8;obtain⟨_,a0,a1,ho,J,O⟩:=hr.leaf r j _ _ h9 H;obtain⟨c,h1,h2⟩:=O i y hy;have Y:=h1.len;have hi:i<xs.length:=(BC.1 hy).1;have z:len=xs.length:=by
  obtain⟨A,Z,e0,_⟩:=ho.slice
  simp_all
 subst z;have X:cZ w g (i*e.cells) c:=by
  intro q u hu;have hq:=(BC.1 hu).1;rw[ho.cellAt _ (by
   have:i*e.cells+e.cells<=xs.length*e.cells:=by
    have:=Nat.mul_le_mul_right e.cells (show i+1<=xs.length from hi)
    grind
   omega)]
  grind
 refine⟨c,X,lT H I (by rw[J];simp[BY]) (λk hk=>?_) h1 X⟩
 grind
theorem ya (hV:ay V)(hT:TOk P T)(a9:bO V o){t:TypeId}{x:Operand}(a3:o.op=.load t x)(h:act Γ T o st κ=some r):bW P V o st κ r:=by
 simp only[act,wrU,a3,lL]at h;have a8:=hT t;have Y:∀ (W:Wit) (a:Act) (w:World) (g off:Nat) (cs:List Value) (ls:List Leaf) (d:Nat),ap P V W st a w->o.dst=some d->T t≠.none->a.eval x=.pointer (some ⟨g,off,none⟩)->cZ w g off cs ->
   cs.length=(T t).cells->aB P V W st w ls cs->mF P V o st (cm st [] d (bh (T t).agg) ls) a w:=by
  intro W a w g off cs ls d z hd hn O X hl a0;obtain⟨v,h1,h2⟩:=nY a8 hn X hl;exact dY hV z hd a9 (v:=v) (by simp[execOp,a3,O,Instr.loadAt,CD,h1]) h2 a0
 cases M:decide ((T t).cells=0) with
 |true=>simp[M]at h
 |false =>
  simp only[M]at h;have M:(T t).cells≠0:=of_decide_eq_false M;have Z:T t≠.none:=by intro e;rw[e]at M;exact M rfl
  split at h
  ·rename_i p b y off J;cases u:decide (off+(T t).cells<=b.cells) with
   |false=>simp[u]at h
   |true =>
    simp only[u]at h;split at h
    ·rename_i d hd;refine⟨_,h,λW a w z=>?_⟩;obtain⟨H,_,_,_⟩:=bt z x (by rw[J];simp);rw[J]at H;obtain⟨g,og,c,O,hg,I,X⟩:=H;refine Y W a w g _ ((c.drop off).take (T t).cells) _ d z hd Z O (X.sub off _) ?_ (((eT (λ_ h=>h) I).drop off).take _);have:=I.len
     grind
    ·grind
  ·rename_i b off J;cases u:decide ((st b).sh=.agg)&&decide (off+(T t).cells<=(st b).ls.length) with
   |false=>simp[u]at h
   |true =>
    simp only[u]at h;split at h
    ·rename_i d hd;refine⟨_,h,λW a w z=>?_⟩;obtain⟨H,_,_,_⟩:=bt z x (by rw[J];simp);rw[J]at H;obtain⟨hB,b0,O⟩:=H;rcases z.boxes b hB with ⟨h8,_⟩|⟨_,E,h8⟩
     ·grind
     ·have X:cZ w (W.β b) 0 (W.cs b):=λi v O=>by
       rw[CM,cell_of_row w (W.β b) i _ E (0,0) h8]
       simp_all
      have ad:=z.len b;have a2:=X.sub off (T t).cells;rw[CM]at a2;refine Y W a w (W.β b) off _ _ d z hd Z O a2 ?_ (((iv z b).drop off).take _)
      grind
    ·grind
  ·rename_i p b y J;cases u:BA (T t).cells 1&&!(T t).agg with
   |false=>simp[u]at h
   |true =>
    simp only[u]at h;simp only[BD,B5]at u;split at h
    ·rename_i d hd;refine⟨_,h,λW a w z=>?_⟩;obtain⟨H,_,_,_⟩:=bt z x (by rw[J];simp);rw[J]at H;obtain⟨q,oq,g,og,c,O,_,a1,hg,I,X⟩:=H;have:=Y W a w q oq [.pointer (some ⟨g,og,none⟩)] [.rp p b y 0] d z hd Z O (λi v hi=>by
      cases i with
      |zero=>simp at hi;subst hi;exact a1
      |succ i=>simp at hi) (by simp[BB u.1]) ⟨⟨⟨g,og,c,rfl,hg,I,X⟩,id,rfl⟩,trivial⟩
     rw[u.2]at this;exact this
    ·grind
  ·rename_i p ks ep b y off J;cases u:br st ks ep&&decide (off+(T t).cells<=b.cells) with
   |false=>simp[u]at h
   |true =>
    simp only[u]at h;simp at u;split at h
    ·rename_i d hd;refine⟨_,h,λW a w z=>?_⟩;obtain⟨H,_,_,_⟩:=bt z x (by rw[J];simp);rw[J]at H;have h8:NpOk V W w p ks b y off _:=H.2.2 (cD u.1).1 (cD u.1).2.1 (cD u.1).2.2;obtain⟨g,og,c,O,hg,I,X⟩:=h8.rd;refine Y W a w g _ ((c.drop off).take (T t).cells) _ d z hd Z O (X.sub off _) ?_ (((jO H.1 H.2.1 I).drop off).take _);have:=I.len
     grind
    ·grind
  ·rename_i r' j v i sz off J;split at h
   ·rename_i p hh E e xs a4;cases u:BA sz e.cells&&decide (off+(T t).cells<=e.cells) with
    |false=>simp[u]at h
    |true =>
     simp only[u]at h;simp only[BD]at u;have a6:=BB u.1;subst a6;obtain⟨y,hy,h⟩:=BJ.1 h;obtain⟨_,_,h4⟩:=gh hy;split at h
     ·rename_i d hd;refine⟨_,h,λW a w z=>?_⟩;obtain⟨H,_,_,_⟩:=bt z x (by rw[J];simp);rw[J]at H;obtain⟨h8,h9⟩:=eZ a4 (by simp);obtain⟨g,b1,b2,a5,a7,O⟩:=H.2 h8;obtain⟨c,X,a0⟩:=zx z h8 h9 a5 a7 h4;refine Y W a w g _ _ _ d z hd Z O (X.sub off _) ?_ ((a0.drop off).take _);have:=a0.length;rw[i9]at this
      grind
     ·grind
   ·grind
  ·grind
end
section
variable {P:Program} {V:Env} {Γ:List Ctr} {T:TypeId->TI} {st:St} {o:Oper} {R:Type} {κ:Upd->Option R} {r:R}
theorem wL (hV:ay V)(hT:TOk P T)(X:bO V o){t:TypeId}{x:Operand}{f:Nat}(J:o.op=.field t x f)(h:act Γ T o st κ=some r):bW P V o st κ r:=by
 simp only[act,wrU,J]at h;cases ht:T t with
 |struct b a2 =>
  simp only[ht]at h;split at h
  ·rename_i off n agg hf;have h1:=hT t;rw[ht]at h1;obtain⟨⟨fs,hu,_,a0⟩,_⟩:=h1;obtain⟨I,Y,h2,h3,h4,h5,h6,Z⟩:=a0 f off n agg hf;cases O:decide ((au st x).1=.agg)&&decide ((au st x).2.length=b.cells) with
   |false=>simp[O]at h
   |true =>
    simp only[O,cond_true]at h;simp only[BD,decide_eq_true_eq]at O;split at h
    ·rename_i d hd;refine⟨_,h,λW a w hr=>?_⟩;obtain⟨u,hs,hl⟩:=cX hr x;rw[O.1]at hs;have M:=hl.length;rw[O.2]at M;have z:(isAgg Y.type).run P w=.ok agg w:=by
      unfold isAgg;cases H:P.underlying Y.type with
      |none=>simp[H]at Z
      |some dd =>
       rw[H]at Z;simp only[CU,BH]at Z;subst Z;rw[BQ,run_underlying H w];cases dd <;> rfl
     have a1:=dx h6 w;cases agg with
     |true =>
      refine dY hV hr hd X (v:=.agg ((u.drop off).take n).toArray) ?_ rfl ((hl.drop off).take n);have e:u.toArray.extract off (off+n)=((u.drop off).take n).toArray:=by
       rw[List.extract_toArray,List.extract_eq_take_drop,Nat.add_sub_cancel_left]
      have hp:(part Y.type u.toArray off).run P w=.ok (.agg ((u.drop off).take n).toArray) w:=by
       simp only[part,BQ,z,BM,if_true,a1,BU,e]
      simp only[execOp,J,show a.eval x=_ from hs,Cc,BQ,run_underlying hu,BM,h2,asAgg,BU,h3,hp]
     |false =>
      have I:=I rfl;subst I;have y:off<u.length:=by omega
      have hv:((u.drop off).take 1)=[u[off]]:=by
       rw[List.take_one,List.head?_drop,BE y];rfl
      refine dY hV hr hd X (v:=u[off]) ?_ (show ee .one _ ((u.drop off).take 1) from hv) ((hl.drop off).take 1);have e:u.toArray[off]?=some u[off]:=by simp[y]
      have hp:(part Y.type u.toArray off).run P w=.ok u[off] w:=by
       simp only[part,BQ,z,BM,Bool.false_eq_true,if_false,e,BU]
      simp only[execOp,J,show a.eval x=_ from hs,Cc,BQ,run_underlying hu,BM,h2,asAgg,BU,h3,hp]
    ·cases h
  ·cases h
 |_=>simp[ht]at h
theorem Ay {α:Type}(u y:List α)(off:Nat)(h:off+y.length<=u.length):(u.take off++y++u.drop (off+y.length)).length=u.length:=by
 simp;omega
theorem kQ (cs c:List Value)(off:Nat)(h:off+c.length<=cs.length) :
  (c.zipIdx 0).foldl (λcs (x:Value×Nat)=>cs.setIfInBounds (off+x.2) x.1) cs.toArray=(cs.take off++c++cs.drop (off+c.length)).toArray:=by
 obtain⟨H,z⟩:=Great.foldl_set off c 0 cs.toArray;apply Array.ext_getElem?;intro k;rw[z k];simp only[Nat.add_zero,List.size_toArray,List.getElem?_toArray];by_cases y:off<=k/\k<off+c.length/\k<cs.length
 ·rw[if_pos y,BZ,BT (by simp;omega),B3 (by simp;omega)];congr 1;simp;omega
 ·rw[if_neg y];by_cases u:k<off
  ·rw[BZ,B3 (by simp;omega),BP,if_pos u]
  ·rw[BT (by simp;omega),Bz];congr 1;simp;omega
theorem gT {agg:Bool}{v:Value}{cs:List Value}(h:ee (bh agg) v cs)(y:∀ u∈cs,u.oneCell'=true):v.cells=cs.toArray:=by
 cases agg with
 |true=>rw[show v=_ from h];rfl
 |false =>
  have h:cs=[v]:=h;subst h;have:=y v (CL.2 rfl);cases v <;> first|rfl|simp[BK]at this
theorem lU {W:Wit}{a:Act}{w:World}(hr:ap P V W st a w){z:List (Nat×Nat×Bool)}{pl:Nat->Option (Nat×Nat)}(O:∀ (i off n:Nat) (agg:Bool),z[i]?=some (off,n,agg)->pl i=some (off,n)):∀ (ps:List (Nat×Operand)) (ls u:List Leaf) (cs:List Value),
  aB P V W st w ls cs->fh st z ps ls=some u ->
  ∃ y,aB P V W st w u y/\Instr.fill pl cs.toArray (ps.map λx=>(x.1,a.eval x.2))=some y.toArray
 |[],ls,u,cs,J,h=>by
  simp[fh]at h;subst h;exact⟨cs,J,rfl⟩
 |(i,x)::ps,ls,u,cs,J,h=>by
  simp only[fh]at h;split at h
  ·rename_i off n agg hf;cases X:BA (au st x).2.length n&&decide ((au st x).1=bh agg)&&decide (off+n<=ls.length) with
   |false=>simp[X]at h
   |true =>
    simp only[X,cond_true]at h;simp only[BD,decide_eq_true_eq]at X;obtain⟨⟨M,Y⟩,a3⟩:=X;have M:=BB M;obtain⟨c,hs,I⟩:=cX hr x;rw[Y]at hs;have hc:=gT hs I.one';have a1:=J.length;have H:=I.length;have a0:aB P V W st w (js ls (au st x).2 off) (cs.take off++c++cs.drop (off+c.length)):=by
     unfold js;rw[H];exact ((J.take off).append I).append (J.drop _)
    obtain⟨y,h1,h2⟩:=lU hr O ps _ u _ a0 h;refine⟨y,h1,?_⟩;simp only[CX,Instr.fill];have Z:pl i=some (off,n):=O _ _ _ _ hf;have a2:c.toArray.size=n:=by simp;omega
    simp only[Z,hc];rw[if_neg (by simp;omega)];have e:c.toArray.zipIdx.foldl (λcs (x:Value×Nat)=>cs.setIfInBounds (off+x.2) x.1) cs.toArray=(c.zipIdx 0).foldl (λcs (x:Value×Nat)=>cs.setIfInBounds (off+x.2) x.1) cs.toArray:=by
     rw[<- Array.foldl_toList];simp
    have e2:=kQ cs c off (by omega);rw[<- e2,<- e]at h2;exact h2
  ·cases h
theorem lu {W:Wit}{w:World}:∀ (b:Ty),aB P V W st w (eR b) (zeroCells b)
 |.int _=>⟨⟨rfl,id,rfl⟩,trivial⟩
 |.bool=>⟨⟨rfl,id,rfl⟩,trivial⟩
 |.str=>⟨⟨rfl,id,rfl⟩,trivial⟩
 |.unit=>trivial
 |.pair a b=>(lu a).append (lu b)
 |.hdr=>⟨⟨rfl,id,rfl⟩,trivial⟩
 |.list _ _ _=>⟨⟨rfl,id,rfl⟩,trivial⟩
theorem oI {W:Wit}{w:World}(e:Ty):∀ (n:Nat),aB P V W st w (BR n (eR e)).flatten (BR n (zeroCells e)).flatten
 |0=>trivial
 |n+1=>by
  rw[CH,CH,CO,CO];exact (lu e).append (oI e n)
theorem wM (hV:ay V)(hT:TOk P T)(a0:bO V o){t:TypeId}{u:Array (Nat×Operand)}(O:o.op=.build t u)(h:act Γ T o st κ=some r):bW P V o st κ r:=by
 simp only[act,wrU,O]at h;cases ht:T t with
 |struct b X =>
  simp only[ht]at h;split at h
  ·rename_i ls J;split at h
   ·rename_i d hd;refine⟨_,h,λW a w Z=>?_⟩;have h1:=hT t;rw[ht]at h1;obtain⟨⟨fs,hu,a1,_⟩,_,H,_⟩:=h1;obtain⟨z,h2,h3⟩:=lU Z (pl:=((X.map λx=>(x.1,x.2.1)).toArray[·]?)) (λi off n agg I=>by simp[I]) u.toList _ ls _ (lu b) J;refine dY hV Z hd a0 (v:=.agg z.toArray) ?_ rfl h2;have y:P.built t (u.map λ (i,x)=>(i,a.eval x)).toList=some z.toArray:=by
     unfold d5 at H;unfold CZ;cases Y:P.info? t with
     |none=>simp[Y]at H
     |some ti =>
      simp[Y]at H;simp only[hu,H,a1];rw[CA];exact h3
    simp[execOp,O,run_build w t _ _ y]
   ·cases h
  ·cases h
 |arr e n =>
  simp only[ht]at h;split at h
  ·rename_i ls J;split at h
   ·rename_i d hd;refine⟨_,h,λW a w Z=>?_⟩;have h1:=hT t;rw[ht]at h1;obtain⟨⟨E,hu,hE,_⟩,_,_,H⟩:=h1;obtain⟨z,h2,h3⟩:=lU Z (pl:=λi=>some (i*e.cells,e.cells)) (λi off n agg I=>by
     rw[CN]at I;obtain⟨j,hj,I⟩:=BO.1 I;rw[List.getElem?_range (by simpa using (BC.1 hj).1)]at hj;simp only[BH]at hj;subst hj;simp only[CW]at I;simp[<- I.1,<- I.2.1]) u.toList _ ls _ (oI e n) J
    refine dY hV Z hd a0 (v:=.agg z.toArray) ?_ rfl h2;have y:P.built t (u.map λ (i,x)=>(i,a.eval x)).toList=some z.toArray:=by
     unfold d5 at H;unfold bR at hE;unfold CZ;cases Y:P.info? t with
     |none=>simp[Y]at H
     |some ti =>
      simp[Y]at H;cases M:P.info? E with
      |none=>simp[M]at hE
      |some ie =>
       simp[M]at hE;simp only[hu,H,M,hE];rw[CA];exact h3
    simp[execOp,O,run_build w t _ _ y]
   ·cases h
  ·cases h
 |_=>simp[ht]at h
theorem mI {W:Wit}{a:Act}{w:World}(z:ap P V W st a w){x:Option Operand}{u n:Int}(h:dl st x u=some n) :
  (x=none/\n=u)\/∃ y k,x=some y/\a.eval y=.int k n:=by
 unfold dl at h;split at h
 ·simp at h;exact .inl ⟨rfl,h.symm⟩
 ·split at h
  ·rename_i l k m H;simp at h;subst h;exact .inr ⟨_,k,rfl,bF z H⟩
  ·cases h
theorem jP (u:Bool)(len y:Nat)(Z:len<=y)(O H:Option Value)(i h:Int)(M:0<=i)(I:i<=h)(hh:h<=len)(X:(O=none/\i=0)\/∃ k,O=some (.int k i))
  (J:(H=none/\h=len)\/∃ k,H=some (.int k h)) (w:World):(CP u len y O H none).run P w=.ok (i.toNat,h.toNat,y) w:=by
 have h0:0<=h:=by omega
 have Y:h<=(y:Int):=by omega
 have z:i<=((h.toNat:Nat):Int):=by omega
 rcases X with ⟨rfl,rfl⟩|⟨k,rfl⟩ <;> rcases J with ⟨rfl,rfl⟩|⟨k',rfl⟩ <;>
  simp[CP,Instr.sliceBound,asIntOf,M,h0,Y,z,I,-Int.ofNat_toNat]
theorem jm (M:ay V){W:Wit}{a:Act}{w:World}(I:ap P V W st a w){x:Operand}{l:Leaf}(y:aD st (one st x)=l)(X:l≠.dead)(z:¬ an l):aJ P V W st w [] l (a.eval x):=by
 have H:one st x≠.dead:=by intro e;rw[e]at y;exact X y.symm
 obtain⟨J,O,_⟩:=bt I x H;rcases lS M I J O with ⟨_,_,_,_,u,_⟩|⟨_,u⟩
 ·rw[y]at u;exact absurd u z
 ·rw[y]at u;exact u
theorem wN (X:ay V){W:Wit}{a:Act}{w:World}(M:ap P V W st a w){x:Operand}{p:Bool}{ks:List (Nat×Nat×Nat)}{ep:Nat}{y:Option (Nat×Nat×Nat)}{E:TypeId}{e:Ty}{xs:List e.den}
  (u:aD st (one st x)=.nal p ks ep y E e xs):aJ P V W st w [] (.nal p ks ep y E e xs) (a.eval x)/\br st ks ep=true:=by
 refine⟨jm X M u (by simp) (by simp[an]),?_⟩;generalize one st x=l at u;cases l with
 |nal p' z H J Y Z O =>
  simp only[aD]at u;cases I:br st z H with
  |false=>simp[I]at u
  |true =>
   simp only[I,cond_true]at u;cases u;exact I
 |al r j n=>exact absurd u iM
 |_=>simp[aD]at u
theorem tX (Z:ay V){W:Wit}{a:Act}{w:World}(H:ap P V W st a w){x:Operand}{p:Bool}{J:Option (Nat×Nat)}{E:TypeId}{e:Ty}{xs:List e.den}(u:aD st (one st x)=.own p J E e xs) :
  ∃ r i n,one st x=.al r i n/\(st r).ls[i]?=some (.own p J E e xs)/\OwH w (gd V W p) J E e xs (a.eval x) (W.bs r i)/\(W.cs r)[i]?=some (a.eval x)/\(st r).ver=n:=by
 have z:one st x≠.dead:=by intro e;rw[e]at u;cases u
 obtain⟨I,X,_⟩:=bt H x z;rcases lS Z H I X with ⟨r,i,n,M,_,_,_⟩|⟨y,_⟩
 ·rw[M]at u I;obtain⟨y,h4,O,Y⟩:=kc H u I;exact⟨r,i,n,M,O,h4,y,Y⟩
 ·rw[u]at y;exact absurd trivial y
theorem goes_frz (H:ay V){W:Wit}{a:Act}{w:World}(h:ap P V W st a w){d:Nat}(z:o.dst=some d)(y:bO V o)(ks:List (Nat×Nat)){v:Value}{sh:aH}{ls:List Leaf}{cs:List Value}
  (u:(execOp a.eval o).run P w=.ok (.value v) w) (J:ee sh v cs) (I:aB P V (W.frz st ks) (ac (aE st ks) st) w ls cs):mF P V o st (cm st (aE st ks) d sh ls) a w:=by
 intro next Q M;refine dX u ?_;rw[z];refine M _ _ ?_;rw[cm,aO];exact (lq H ks h).1.putLs H d (y d z).1 (y d z).2 _ sh ls v cs (B9 _) J I
theorem cZ.shift {w:World}{g o:Nat}{c:List Value}{k s j:Nat}(h:cZ w g (o+(k+j)*s) c):cZ w g (o+k*s+j*s) c:=by
 rwa [B7,<- Nat.add_mul]
theorem Rd.cut {w:World}{G:Nat->Prop}{E:TypeId}{e:Ty}{xs:List e.den}{A:Option Addr}{u:Nat}(h:Rd w G (.list false E e) xs [.slice A xs.length u])(i n:Nat)(Z:i<=n)(hn:n<=xs.length) :
  Rd w G (.list false E e) ((xs.take n).drop i) [.slice (if u=i then A else A.map (·.add (i*e.cells))) (n-i) (u-i)]:=by
 obtain⟨A',J,M,hc,O⟩:=h;simp at M;obtain⟨rfl,rfl⟩:=M;have z:((xs.take n).drop i).length=n-i:=by simp;omega
 refine⟨_,u-i,by rw[z],by rw[z];omega,λY=>?_⟩;rw[z]at Y;obtain⟨g,o,rfl,hg,I⟩:=O (by omega);refine⟨g,o+i*e.cells,?_,hg,λj x y=>?_⟩
 ·rw[if_neg (by omega)];simp[eU]
 ·rw[Bz,BP]at y;split at y
  ·obtain⟨c,X,H⟩:=I (i+j) x y;exact⟨c,X,H.shift⟩
  ·cases y
theorem vo (hV:ay V)(hT:TOk P T)(a7:bO V o){t:TypeId}{x:Operand}{lo hi:Option Operand}(a5:o.op=.slice t x lo hi none)(h:act Γ T o st κ=some r):bW P V o st κ r:=by
 simp only[act,wrU,a5]at h;cases hd:o.dst with
 |none=>simp[hd]at h
 |some d =>
  simp only[hd]at h;split at h
  ·cases h
  ·rename_i i a6;have h1:=hT t;have Y:∀ (W:Wit) (a:Act) (w:World) (y:Option Operand) (a1 n:Int),ap P V W st a w->dl st y a1=some n->(y.map a.eval=none/\n=a1)\/∃ k,y.map a.eval=some (.int k n):=by
    intro W a w y a1 n O u;rcases mI O u with ⟨rfl,rfl⟩|⟨z,k,rfl,hz⟩
    ·exact .inl ⟨rfl,rfl⟩
    ·exact .inr ⟨k,by simp[hz]⟩
   split at h
   ·rename_i s ht hx;rw[ht]at h1;split at h
    ·rename_i n Z;cases u:decide (0<=i)&&decide (i<=n)&&decide (n<=(s.size:Int)) with
     |false=>simp[u]at h
     |true =>
      simp only[u,cond_true]at h;simp only[BD,decide_eq_true_eq]at u;refine⟨_,h,λW a w O=>aN hV O hd a7 (v:=.string (s.extract i.toNat n.toNat)) ?_ rfl id rfl⟩;have J:=jP (P:=P) false s.size s.size (BI _) (lo.map a.eval) (hi.map a.eval) i n u.1.1 u.1.2 u.2 (Y W a w lo 0 i O a6) (Y W a w hi _ n O Z) w;have b1:a.eval x=.string s:=(jm hV O hx (by simp) (by simp[an]));simp[execOp,a5,b1,B8,CF,run_underlying h1.1,J]
    ·cases h
   ·rename_i E' e' a3 p ks ep b3 E e xs ht hx;rw[ht]at h1;obtain⟨hu,_,_,_,_,ti,z,a4,a2,_⟩:=h1;split at h
    ·rename_i n Z;cases u:decide (0<=i)&&decide (i<=n)&&decide (n<=(xs.length:Int))&&BA e'.cells e.cells with
     |false=>simp[u]at h
     |true =>
      simp only[u,cond_true]at h;simp only[BD,decide_eq_true_eq]at u;obtain⟨u,M⟩:=u;have M:=BB M;refine⟨_,h,λW a w O=>?_⟩;obtain⟨hl,b2⟩:=wN hV O hx;have h8:=pn b2 hl;obtain⟨A,H,hv,I,a0⟩:=h8.rd;have hv:a.eval x=.slice A xs.length H:=by simpa using hv
      have J:=jP (P:=P) true xs.length H I (lo.map a.eval) (hi.map a.eval) i n u.1.1 u.1.2 u.2 (Y W a w lo 0 i O a6) (Y W a w hi _ n O Z) w;have hE:=dx (P:=P) (t:=E') (n:=e.cells) (by simp[bR,a4,a2,M]) w;have X:=Rd.cut (E:=E) (⟨A,H,rfl,I,a0⟩:Rd w _ (.list false E e) xs [.slice A xs.length H]) i.toNat n.toNat (by omega) (by omega);refine aN hV O hd a7 (v:=.slice (if H=i.toNat then A else A.map (·.add (i.toNat*e.cells))) (n.toNat-i.toNat) (H-i.toNat)) ?_ ⟨hl.1,hl.2.1,λ_ _ _=>⟨X,λi' sz off he=>by cases he⟩⟩ id rfl;simp only[execOp,a5,hv,B8,CF,BQ,run_underlying hu,BM,CB,J,hE,BU]
    ·cases h
   ·rename_i E' e' a3 p E e xs ht hx;rw[ht]at h1;obtain⟨hu,_,_,_,_,ti,z,a4,a2,_⟩:=h1;split at h
    ·rename_i n Z;cases u:decide (0<=i)&&decide (i<=n)&&decide (n<=(xs.length:Int))&&BA e'.cells e.cells with
     |false=>simp[u]at h
     |true =>
      simp only[u,cond_true]at h;simp only[BD,decide_eq_true_eq]at u;obtain⟨u,M⟩:=u;have M:=BB M;refine⟨_,h,λW a w O=>?_⟩;have hl:=jm hV O hx (by simp) (by simp[an]);obtain⟨A,H,hv,I,a0⟩:=hl;have hv:a.eval x=.slice A xs.length H:=by simpa using hv
      have J:=jP (P:=P) true xs.length H I (lo.map a.eval) (hi.map a.eval) i n u.1.1 u.1.2 u.2 (Y W a w lo 0 i O a6) (Y W a w hi _ n O Z) w;have hE:=dx (P:=P) (t:=E') (n:=e.cells) (by simp[bR,a4,a2,M]) w;have X:=Rd.cut (E:=E) (⟨A,H,rfl,I,a0⟩:Rd w (gd V W p) (.list false E e) xs [.slice A xs.length H]) i.toNat n.toNat (by omega) (by omega);refine aN hV O hd a7 (v:=.slice (if H=i.toNat then A else A.map (·.add (i.toNat*e.cells))) (n.toNat-i.toNat) (H-i.toNat)) ?_ X id rfl;simp only[execOp,a5,hv,B8,CF,BQ,run_underlying hu,BM,CB,J,hE,BU]
    ·cases h
   ·rename_i E' e' a3 p E e xs ht hx;rw[ht]at h1;obtain⟨hu,_,_,_,_,ti,z,a4,a2,_⟩:=h1;split at h
    ·rename_i n Z;cases u:decide (0<=i)&&decide (i<=n)&&decide (n<=(xs.length:Int))&&BA e'.cells e.cells with
     |false=>simp[u]at h
     |true =>
      simp only[u,cond_true]at h;simp only[BD,decide_eq_true_eq]at u;obtain⟨u,M⟩:=u;have M:=BB M;split at h
      ·rename_i r' j n' e1;refine⟨_,h,λW a w O=>?_⟩;obtain⟨r1,j1,n1,ad,h2,a8,_,a9⟩:=tX hV O hx;rw[e1]at ad;obtain⟨rfl,rfl,rfl⟩:r'=r1/\j=j1/\n'=n1:=by cases ad;exact⟨rfl,rfl,rfl⟩
       obtain⟨A,H,hv,I⟩:=a8.slice;have J:=jP (P:=P) true xs.length H I (lo.map a.eval) (hi.map a.eval) i n u.1.1 u.1.2 u.2 (Y W a w lo 0 i O a6) (Y W a w hi _ n O Z) w;have hE:=dx (P:=P) (t:=E') (n:=e.cells) (by simp[bR,a4,a2,M]) w;have b0:=OwH.rd (m:=false) (E':=E) a8;rw[hv]at b0;have X:=Rd.cut b0 i.toNat n.toNat (by omega) (by omega);refine aN hV O hd a7 (v:=.slice (if H=i.toNat then A else A.map (·.add (i.toNat*e.cells))) (n.toNat-i.toNat) (H-i.toNat)) ?_
        ⟨BI _,λk hk=>?_,λ_ _ _=>⟨Rd.mono (λk hk=>?_) X,λi' sz off he=>by cases he⟩⟩ id rfl
       ·simp only[execOp,a5,hv,B8,CF,BQ,run_underlying hu,BM,CB,J,hE,BU]
       ·simp only[CL]at hk;subst hk;exact Nat.le_of_eq a9.symm
       ·rcases hk with hk|hk
        ·exact .inl hk
        ·exact .inr ⟨_,BX _,hk⟩
      ·cases h
    ·cases h
   ·cases h
theorem zy (hV:ay V)(hT:TOk P T)(M:bO V o){c:Call}(X:o.op=.call c)(hc:c.callee=.builtin .len)(h:act Γ T o st κ=some r):bW P V o st κ r:=by
 simp only[act,wrU,X,hc]at h;split at h
 ·cases h
 ·rename_i d hd;simp only[hd]at h;split at h
  ·rename_i x hx;split at h
   ·rename_i t ht;have u:c.args=#[x]:=by rw[<- CG (xs:=c.args),hx]
    have I:c.argTypes=#[t]:=by rw[<- CG (xs:=c.argTypes),ht]
    have Y:=hT t;have H:∀ (a:Act) (w:World) (n:Int),(CQ #[t] o.type #[a.eval x]).run P w=.ok (.int .i64 n) w->(execOp a.eval o).run P w=.ok (.value (.int .i64 n)) w:=by
     intro a w n J;simp[execOp,X,hc,resolve,invoke,builtin,u,I,J]
    split at h
    ·rename_i E e b y;rw[y]at Y;split at h
     ·rename_i n J;refine⟨_,h,λW a w z=>aN hV z hd M (H a w _ ?_) rfl id rfl⟩;have Z:one st x≠.dead:=by intro e;rw[e]at J;simp[aD,fV]at J
      obtain⟨h2,h3,_⟩:=bt z x Z;obtain⟨A,a1,O⟩:=wF z h2 h3 J;have O:a.eval x=.slice A n a1:=by simpa using O
      simp[CQ,run_underlying Y.1,O,goInt]
     ·cases h
    ·rename_i s y a0;rw[y]at Y;refine⟨_,h,λW a w z=>aN hV z hd M (H a w _ ?_) rfl id rfl⟩;have O:a.eval x=.string s:=jm hV z a0 (by simp) (by simp[an]);simp[CQ,run_underlying Y.1,O,goInt]
    ·cases h
   ·cases h
  ·cases h
end
end Go.Proofs.YtadlacffdemoiaaGreatEv
