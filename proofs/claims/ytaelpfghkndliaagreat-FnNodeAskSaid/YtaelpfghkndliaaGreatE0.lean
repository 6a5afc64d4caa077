/- The value evaluator, second form: what a Go function's code computes, on plain values. No proof here but definitions. -/
import Derived.Calls
import Derived.Orders
import Derived.KernelRfl
import Derived.Below
import Derived.Maps.AppendAt
import Derived.Laws.OwnMore
import Derived.Lib.ConvBytes
import Derived.WalkKit
import Derived.Great.BuildSlice
set_option linter.unusedVariables false
set_option linter.unusedSimpArgs false
open Array renaming getD_eq_getD_getElem?->Bt,toList_map->B5,toArray_toList->CB
open Bool renaming and_eq_true->BD,not_eq_true'->Bx,or_eq_false_iff->B9,not_eq_true->CM
open ByteArray renaming empty->BV
open Go.Act renaming put->CV
open Go.Builtin renaming len_->CL
open Go.Instr renaming sliceAt->B3,sureAddr->B8,slice->CA,sliceBounds->CK,index->CO,indexAt->CT,field->CX
open Go.Program renaming built->CU
open Go.Result renaming andThen_ok->BM
open Go.Sem renaming run_bind->BQ,run_pure->BU
open Go.Value renaming oneCell'->BK,ownBlock->BY
open Go.World renaming cell?->CW
open List renaming getElem?_eq_some_iff->BC,getElem?_eq_getElem->BE,mem_append_right->BF,mem_append_left->BG,mem_append->BN,getElem?_take->BP,replicate->BR,getD_eq_getElem?_getD->BS,getElem?_append_right->BT,mem_singleton_self->BX,append_assoc->BZ,range->Br,getElem?_drop->Bu,getElem?_append_left->Bv,any_eq_false->By,mem_cons_of_mem->B7,replicate_succ->CC,mem_cons->CD,length_append->CE,mem_cons_self->CF,mem_singleton->CG,getElem?_map->CI,flatten_cons->CJ,cons_append->CN,drop_drop->CQ,map_cons->CS
open Nat renaming beq->BA,eq_of_beq_eq_true->BB,le_refl->BI,le_trans->BL,lt_of_lt_of_le->BW,blt->Bs,ble->Bw,add_assoc->Bz,lt_succ_self->B4,zero_add->CH
open Option renaming bind_eq_some_iff->BJ,map_eq_some_iff->BO,map_none->B6,map_some->CP
open Option.some renaming injEq->BH
open Prod.mk renaming injEq->CR
namespace Go.Proofs.YtaelpfghkndliaaGreatEv
open Go
inductive Ty where
 |int (k:IntKind)|bool|str|unit
 |hdr
 |pair (a b:Ty)
 |list (m:Bool) (E:TypeId) (e:Ty)
 deriving DecidableEq
abbrev Ty.den:Ty->Type
 |.int _=>Int
 |.bool=>Bool
 |.str=>ByteArray
 |.unit=>Unit
 |.hdr=>Nat
 |.pair a b=>a.den×b.den
 |.list _ _ e=>List e.den
def Ty.cells:Ty->Nat
 |.unit=>0
 |.pair a b=>a.cells+b.cells
 |_=>1
def Ty.zero:(a:Ty)->a.den
 |.int _=>(0:Int)
 |.bool=>false
 |.str=>BV
 |.unit=>()
 |.hdr=>(0:Nat)
 |.pair a b=>(a.zero,b.zero)
 |.list _ _ e=>([]:List e.den)
def Ty.flat:Ty->Bool
 |.list _ _ _=>false
 |.pair a b=>a.flat&&b.flat
 |_=>true
def Ty.sh:Ty->Ty
 |.pair a b=>.pair a.sh b.sh
 |.list _ E e=>.list false E e.sh
 |a=>a
def Ty.shy:Ty->Bool
 |.list m _ e=>!m||e.shy
 |.pair a b=>a.shy||b.shy
 |_=>false
theorem mE:∀ a:Ty,a.sh.den=a.den
 |.int _|.bool|.str|.unit|.hdr=>rfl
 |.pair a b=>by
  show (a.sh.den×b.sh.den)=(a.den×b.den);rw[mE a,mE b]
 |.list _ _ e=>congrArg List (mE e)
theorem jq {a b:Ty}(h:a.sh=b.sh):a.den=b.den:=(mE a).symm.trans ((congrArg Ty.den h).trans (mE b))
def Ty.eqv:(a:Ty)->a.den->a.den->Bool
 |.int _,x,y=>decide ((x:Int)=y)
 |.bool,x,y=>(x:Bool)==y
 |.str,x,y=>decide ((x:ByteArray)=y)
 |.unit,_,_=>true
 |.hdr,_,_=>false
 |.pair a b,x,y=>a.eqv x.1 y.1&&b.eqv x.2 y.2
 |.list _ _ _,_,_=>false
abbrev Tup:List Ty->Type
 |[]=>Unit
 |a::as=>a.den×Tup as
inductive Leaf where
 |int (k:IntKind) (n:Int)
 |bool (b:Bool)
 |str (s:ByteArray)
 |nil
 |hdr (n:Nat)
 |ro (p:Bool) (E:TypeId) (e:Ty) (xs:List e.den)
 |own (p:Bool) (h:Option (Nat×Nat)) (E:TypeId) (e:Ty) (xs:List e.den)
 |al (r j v:Nat)
 |nal (p:Bool) (ks:List (Nat×Nat×Nat)) (ep:Nat) (loc:Option (Nat×Nat×Nat)) (E:TypeId) (e:Ty) (xs:List e.den)
 |ep (r j v:Nat) (i sz off:Nat)
 |np (p:Bool) (ks:List (Nat×Nat×Nat)) (ep:Nat) (a:Ty) (x:a.den) (off:Nat)
 |rp (p:Bool) (a:Ty) (x:a.den) (off:Nat)
 |rpp (p:Bool) (a:Ty) (x:a.den)
 |bp (b off:Nat)
 |clo (f:FuncId) (caps:List Nat)
 |clr (f:FuncId) (caps:List (Bool×Bool×(a:Ty)×a.den))
 |fn (As:List Ty) (B:Ty) (φ:Tup As->Option B.den)
 |dead
inductive aI where
 |off|und|one|agg
 |tup (ps:List (Bool×Nat))
 deriving DecidableEq
structure bT where
 ver:Nat
 sh:aI
 ls:List Leaf
abbrev St:=Nat->bT
def bT.none:bT:=⟨0,.off,[]⟩
def GH:Nat:=99000
def TMP:Nat:=99998
def EPO:Nat:=99999
def B0:Nat:=100000
abbrev Upd:=List (Nat×bT)
def ae (U:Upd)(st:St)(q:Nat):bT :=
 match U with
 |[]=>st q
 |(r,c)::u=>bif BA q r then c else ae u st q
inductive TI where
 |int (k:IntKind)|bool|str
 |slice (E:TypeId) (e:Ty) (bytes:Nat)
 |struct (a:Ty) (flds:List (Nat×Nat×Bool))
 |arr (e:Ty) (n:Nat)
 |ptr|fn
 |none
def fY:List (TypeId×TI)->TypeId->TI
 |[],_=>.none
 |(t,i)::l,u=>bif BA t u then i else fY l u
def TI.cells:TI->Nat
 |.struct a _=>a.cells
 |.arr e n=>n*e.cells
 |.none=>0
 |_=>1
def TI.agg:TI->Bool
 |.struct _ _=>true
 |.arr _ _=>true
 |_=>false
def eR:Ty->List Leaf
 |.int k=>[.int k 0]
 |.bool=>[.bool false]
 |.str=>[.str BV]
 |.unit=>[]
 |.hdr=>[.nil]
 |.pair a b=>eR a++eR b
 |.list _ _ _=>[.nil]
def TI.zero:TI->List Leaf
 |.int k=>[.int k 0]
 |.bool=>[.bool false]
 |.str=>[.str BV]
 |.slice _ _ _=>[.nil]
 |.struct a _=>eR a
 |.arr e n=>(BR n (eR e)).flatten
 |.ptr=>[.dead]
 |.fn=>[.dead]
 |.none=>[]
def ar (p:Bool):(a:Ty)->a.den->List Leaf
 |.int k,n=>[.int k n]
 |.bool,b=>[.bool b]
 |.str,s=>[.str s]
 |.unit,_=>[]
 |.hdr,n=>[.hdr n]
 |.pair a b,x=>ar p a x.1++ar p b x.2
 |.list m E e,r=>[bif m then .own (p&&e.shy) none E e r else .ro p E e r]
def cK (p:Bool):(a:Ty)->a.den->List Leaf
 |.int k,n=>[.int k n]
 |.bool,b=>[.bool b]
 |.str,s=>[.str s]
 |.unit,_=>[]
 |.hdr,n=>[.hdr n]
 |.pair a b,x=>cK p a x.1++cK p b x.2
 |.list _ E e,r=>[.ro p E e r]
def li (p:Bool)(ks:List (Nat×Nat×Nat))(ep:Nat):(a:Ty)->a.den->List Leaf
 |.int k,n=>[.int k n]
 |.bool,b=>[.bool b]
 |.str,s=>[.str s]
 |.unit,_=>[]
 |.hdr,n=>[.hdr n]
 |.pair a b,x=>li p ks ep a x.1++li p ks ep b x.2
 |.list _ E e,r=>[.nal p ks ep none E e r]
def gF (p:Bool)(r j v ep i u:Nat)(h:Option Nat):(a:Ty)->Nat->a.den->List Leaf
 |.int k,_,n=>[.int k n]
 |.bool,_,b=>[.bool b]
 |.str,_,s=>[.str s]
 |.unit,_,_=>[]
 |.hdr,_,n=>[.hdr n]
 |.pair a b,off,x=>gF p r j v ep i u h a off x.1++gF p r j v ep i u h b (off+a.cells) x.2
 |.list m E e,off,y=>[bif decide (h=some off) then .dead else bif m then .nal (p&&e.shy) [(r,j,v)] ep (some (i,u,off)) E e y else .ro p E e y]
def lj (p:Bool)(r j v ep i u:Nat)(h:Option (Bool×Nat)):(a:Ty)->Nat->a.den->List Leaf
 |.int k,_,n=>[.int k n]
 |.bool,_,b=>[.bool b]
 |.str,_,s=>[.str s]
 |.unit,_,_=>[]
 |.hdr,_,n=>[.hdr n]
 |.pair a b,off,x=>lj p r j v ep i u h a off x.1++lj p r j v ep i u h b (off+a.cells) x.2
 |.list m E e,off,y=>[bif (match h with|some (b,o)=>BA o off&&b|Option.none=>false) then .dead else bif m then .nal (p&&e.shy) [(r,j,v)] ep (some (i,u,off)) E e y else .ro p E e y]
def bg (agg:Bool):aI:=bif agg then .agg else .one
def lk:Leaf->Bool
 |.own _ _ _ _ _=>true
 |_=>false
def bk (st:St)(ks:List (Nat×Nat×Nat))(ep:Nat):Bool:=BA (st EPO).ver ep&&ks.all λk=>BA (st k.1).ver k.2.2&&lk ((st k.1).ls.getD k.2.1 .dead)
def pm:Leaf->Leaf
 |.nal _ _ _ _ _ _ _=>.dead
 |l=>l
def aE (st:St):Leaf->Leaf
 |.al r j v=>bif BA (st r).ver v then pm ((st r).ls.getD j .dead) else .dead
 |.nal p y ep u E e z=>bif bk st y ep then .nal p y ep u E e z else .dead
 |l=>l
def lE (t j r:Nat):Leaf->Leaf
 |.own _ _ _ _ _=>.al t j r
 |l=>l
def bE (t r:Nat):Nat->List Leaf->List Leaf
 |_,[]=>[]
 |j,l::u=>lE t j r l::bE t r (j+1) u
def iv:Value->Option Leaf
 |.int k n=>some (.int k n)
 |.bool b=>some (.bool b)
 |.string s=>some (.str s)
 |.slice Option.none 0 0=>some .nil
 |_=>Option.none
def av (st:St):Operand->aI×List Leaf
 |.tmp t=>bif Bs t GH then ((st t).sh,bE t (st t).ver 0 (st t).ls) else (.off,[])
 |.const v=>match iv v with
  |some l=>(.one,[l])
  |Option.none=>(.off,[])
 |.func f=>(.one,[.clo f []])
 |.global _=>(.off,[])
def one (st:St)(x:Operand):Leaf :=
 match av st x with
 |(.one,[l])=>l
 |_=>.dead
def castSh (e e':Ty)(xs:List e'.den):Option (List e.den) :=
 if h:e'.sh=e.sh then some (cast (congrArg List (jq h)) xs) else Option.none
def lF (E:TypeId)(e:Ty)(E':TypeId)(e':Ty)(xs:List e'.den):Option (List e.den) :=
 if h:E'=E/\e'=e then some (h.2 ▸ xs) else Option.none
def dh (e:Ty):Leaf->Option (Bool×List e.den)
 |.ro p _ u r=>(castSh e u r).map (p,·)
 |.own p none _ u r=>(castSh e u r).map (p,·)
 |.nal p _ _ _ _ u r=>(castSh e u r).map (p,·)
 |.nil=>some (false,[])
 |_=>Option.none
def fZ:Leaf->Option Nat
 |.ro _ _ _ r=>some r.length
 |.own _ _ _ _ r=>some r.length
 |.nal _ _ _ _ _ _ r=>some r.length
 |.nil=>some 0
 |.hdr n=>some n
 |_=>Option.none
def a7 (st:St):(a:Ty)->List Leaf->Option (Bool×a.den×List Leaf)
 |.int k,r=>match r with
  |.int z n::r=>if k=z then some (false,(n:Int),r) else Option.none
  |_=>Option.none
 |.bool,r=>match r with
  |.bool b::r=>some (false,b,r)
  |_=>Option.none
 |.str,r=>match r with
  |.str s::r=>some (false,s,r)
  |_=>Option.none
 |.unit,r=>some (false,(),r)
 |.hdr,r=>match r with
  |l::r=>match fZ (aE st l) with
   |some n=>some (false,(n:Nat),r)
   |Option.none=>Option.none
  |_=>Option.none
 |.pair a b,r=>match a7 st a r with
  |some (p,x,r)=>match a7 st b r with
   |some (q,y,r)=>some (p||q,(x,y),r)
   |Option.none=>Option.none
  |Option.none=>Option.none
 |.list _ _ e,r=>match r with
  |l::r=>match dh e (aE st l) with
   |some (p,u)=>some (p,u,r)
   |Option.none=>Option.none
  |_=>Option.none
def cP (st:St)(a:Ty)(ls:List Leaf):Option (Bool×a.den) :=
 match a7 st a ls with
 |some (p,x,[])=>some (p,x)
 |_=>Option.none
structure cL (α:Type) where
 p:Bool
 val:α
 frz:List (Nat×Nat)
 kill:List (Nat×Nat)
 rest:List Leaf
def bu (st:St):List Leaf->List (Nat×Nat)
 |[]=>[]
 |.al r j v::u=>(match aE st (.al r j v) with|.own _ _ _ _ _=>[(r,j)]|_=>[])++bu st u
 |.nal p z ep y E e H::u=>(match aE st (.nal p z ep y E e H) with|.nal _ _ _ _ _ _ _=>z.map (λk=>(k.1,k.2.1))|_=>[])++bu st u
 |_::u=>bu st u
def b8 (st:St):List Leaf->List (Nat×Nat)
 |[]=>[]
 |.al r j v::u=>(match aE st (.al r j v) with|.own _ _ _ _ _=>[(r,j)]|_=>[])++b8 st u
 |_::u=>b8 st u
def take (st : St) : (a : Ty) -> List Leaf -> Option (cL a.den)
  |.int k,u=>(a7 st (.int k) u).map λx=>⟨false,x.2.1,[],[],x.2.2⟩
  |.bool,u=>(a7 st .bool u).map λx=>⟨false,x.2.1,[],[],x.2.2⟩
  |.str,u=>(a7 st .str u).map λx=>⟨false,x.2.1,[],[],x.2.2⟩
  |.unit,u=>some ⟨false,(),[],[],u⟩
  |.hdr,u=>(a7 st .hdr u).map λx=>⟨false,x.2.1,[],[],x.2.2⟩
  |.pair a b,u=>match take st a u with
    |some x=>match take st b x.rest with
      |some y=>some ⟨x.p||y.p,(x.val,y.val),x.frz++y.frz,x.kill++y.kill,y.rest⟩
      |Option.none=>Option.none
    |Option.none=>Option.none
  |.list m E e,u=>match u with
    |[]=>Option.none
    |l::u=>bif m then (match l with
        |.al r j v=>match aE st (.al r j v) with
          |.own p none H I z=>(lF E e H I z).map λz=>⟨p,z,[],[(r,j)],u⟩
          |_=>Option.none
        |.nil=>some ⟨false,([]:List e.den),[],[],u⟩
        |_=>Option.none)
      else match dh e (aE st l) with
        |some (p,z)=>some ⟨p,z,bu st [l],[],u⟩
        |Option.none=>Option.none
def ci (st:St)(a:Ty)(ls:List Leaf):Option (cL a.den) :=
 match take st a ls with
 |some ⟨p,x,f,k,[]⟩=>some ⟨p,x,f,k,[]⟩
 |_=>Option.none
def c9 (st:St)(off n:Nat):(a:Ty)->Nat->a.den->List Leaf->Option (cL a.den)
 |.pair a b,pos,x,r=>match c9 st off n a pos x.1 r with
  |some u=>match c9 st off n b (pos+a.cells) x.2 u.rest with
   |some v=>some ⟨u.p||v.p,(u.val,v.val),u.frz++v.frz,u.kill++v.kill,v.rest⟩
   |Option.none=>Option.none
  |Option.none=>Option.none
 |.int k,pos,x,r=>bif Bw off pos&&Bs pos (off+n) then take st (.int k) r else some ⟨false,x,[],[],r⟩
 |.bool,pos,x,r=>bif Bw off pos&&Bs pos (off+n) then take st .bool r else some ⟨false,x,[],[],r⟩
 |.str,pos,x,r=>bif Bw off pos&&Bs pos (off+n) then take st .str r else some ⟨false,x,[],[],r⟩
 |.unit,_,x,r=>some ⟨false,x,[],[],r⟩
 |.hdr,_,_,_=>Option.none
 |.list m E e,pos,x,r=>bif Bw off pos&&Bs pos (off+n) then take st (.list m E e) r else some ⟨false,x,[],[],r⟩
def bM (off:Nat)(E:TypeId)(e:Ty)(r:List e.den):(a:Ty)->Nat->a.den->Option a.den
 |.pair a b,pos,x=>match bM off E e r a pos x.1 with
  |some u=>some (u,x.2)
  |Option.none=>(bM off E e r b (pos+a.cells) x.2).map λv=>(x.1,v)
 |.list m y z,pos,_=>bif m&&BA pos off then lF y z E e r else Option.none
 |.int _,_,_|.bool,_,_|.str,_,_|.unit,_,_|.hdr,_,_=>Option.none
def ax:List Leaf->List Nat
 |[]=>[]
 |.al r _ _::u=>r::ax u
 |.ep r _ _ _ _ _::u=>r::ax u
 |.nal _ y _ _ _ _ _::u=>EPO::y.map (·.1)++ax u
 |.np _ y _ _ _ _::u=>EPO::y.map (·.1)++ax u
 |_::u=>ax u
def aT (ls:List Leaf)(j:Nat)(l:Leaf):List Leaf:=ls.set j l
def f9 (c:bT)(j:Nat):bT:=⟨c.ver,c.sh,aT c.ls j .dead⟩
def aN (st:St):List (Nat×Nat)->Upd
 |[]=>[]
 |(r,j)::u=>let U:=aN st u;let c:=ae U st r;(r,f9 c j)::U
def uA:Leaf->Leaf
 |.own p none E e r=>.ro p E e r
 |.own _ (some _) _ _ _=>.dead
 |l=>l
def fV (c:bT)(j:Nat):bT:=⟨c.ver,c.sh,aT c.ls j (uA (c.ls.getD j .dead))⟩
def aF (st:St):List (Nat×Nat)->Upd
 |[]=>[]
 |(r,j)::u=>let U:=aF st u;let c:=ae U st r;(r,fV c j)::U
def bV (c:bT):bT:=⟨c.ver+1,c.sh,c.ls⟩
def epoU (st:St):Upd:=[(EPO,bV (st EPO))]
def dy (st:St):List Leaf->List (Nat×Nat)
 |[]=>[]
 |.nal p u ep none E e y::r=>(match aE st (.nal p u ep none E e y) with|.nal _ _ _ _ _ _ _=>u.map (λk=>(k.1,k.2.1))|_=>[])++dy st r
 |_::r=>dy st r
def gh (st:St)(l:Leaf):Leaf:=match aE st l with
 |.nal p _ _ none E e r=>.ro p E e r
 |l=>l
def dH (st:St)(ls:List Leaf):List Leaf:=ls.map (gh st)
def mvU (st:St)(ls:List Leaf):Upd:=let U:=aF st (dy st ls);aN (ae U st) (b8 st ls)++U
def aY:List (Nat×Nat)->Bool
 |[]=>true
 |x::r=>!(r.any λy=>BA x.1 y.1&&BA x.2 y.2)&&aY r
def iw (a b:Nat×Nat):Bool:=BA a.1 b.1&&BA a.2 b.2
def dD (a b:List (Nat×Nat)):Bool:=!(a.any λk=>b.any (iw k))
def hZ (st:St)(ls:List Leaf):Bool:=aY (b8 st ls)&&dD (dy st ls) (b8 st ls)
def sg (st:St):Operand->Bool
 |.tmp q=>BA (st q).ver 7
 |_=>false
def idx {α:Type}(xs:List α)(i:Int):Option α:=if i<0 then Option.none else xs[i.toNat]?
def jr (r u:List Leaf)(off:Nat):List Leaf:=r.take off++u++r.drop (off+u.length)
def si (r:BinOp)(k:IntKind)(x y:Int):Option Leaf :=
 match r with
 |.add=>some (.int k (k.wrap (x+y)))
 |.sub=>some (.int k (k.wrap (x-y)))
 |.mul=>some (.int k (k.wrap (x*y)))
 |.eql=>some (.bool (x==y))
 |.neq=>some (.bool (x != y))
 |.lss=>some (.bool (decide (x<y)))
 |.leq=>some (.bool (decide (x<=y)))
 |.gtr=>some (.bool (decide (x>y)))
 |.geq=>some (.bool (decide (x>=y)))
 |_=>Option.none
def bd (off:Nat):(a:Ty)->Nat->a.den->Option ((E:TypeId)×(e:Ty)×List e.den)
 |.pair a b,pos,x=>match bd off a pos x.1 with
  |some u=>some u
  |Option.none=>bd off b (pos+a.cells) x.2
 |.list m E e,pos,r=>bif m&&BA pos off then some ⟨E,e,r⟩ else Option.none
 |.int _,_,_|.bool,_,_|.str,_,_|.unit,_,_|.hdr,_,_=>Option.none
def cm (st:St):Leaf->Option (Upd×Leaf)
  |.nal p I ep H E e X=>bif bk st I ep then (match I,H with
      | [(r, j, _)], some (i, R, off) => (match (st r).ls.getD j .dead with
        |.own J none M z u=>bif !BA r TMP&&!BA r EPO&&BA R z.cells then
            (match u[i]? with
            |some y=>match bd off z 0 y with
              |some ⟨E,e,O⟩=>some ([(r,⟨(st r).ver,(st r).sh,aT (st r).ls j (.own J (some (i,off)) M z u)⟩),(TMP,⟨(st TMP).ver+1,.one,[.own (J&&z.shy) none E e O]⟩),(EPO,bV (st EPO))],.al TMP 0 ((st TMP).ver+1))
              |Option.none=>Option.none
            |Option.none=>Option.none)
          else Option.none
        |_=>Option.none)
      |_,_=>Option.none)
    else Option.none
  |_=>Option.none
def jj:Leaf->Bool
 |.nal _ _ _ _ _ _ _=>true
 |_=>false
inductive PK where
 |rd (a:Ty)
 |own (a:Ty)
 |io (a:Ty)
 |rref (a:Ty)
 |rref2 (a:Ty)
 |iop (a:Ty)
 |fn (As:List Ty) (B:Ty)
 |clo (f:FuncId) (cs:List (Bool×Ty))
 |hol (a:Ty) (c off:Nat)
 deriving DecidableEq
inductive RK where
 |v (a:Ty)
 |bv (a:Ty)
 |box (a:Ty)
 deriving DecidableEq
abbrev lG:List (Bool×Ty)->Type
 |[]=>Unit
 |c::r=>c.2.den×lG r
abbrev PK.den:PK->Type
 |.rd a|.own a|.io a|.rref a|.rref2 a|.iop a=>a.den
 |.fn r B=>Tup r->Option B.den
 |.clo _ u=>lG u
 |.hol a _ _=>a.den×Nat
abbrev ac:List PK->Type
 |[]=>Unit
 |p::r=>p.den×ac r
abbrev ai:List PK->Type
 |[]=>Unit
 |.io a::r=>a.den×ai r
 |.iop a::r=>a.den×ai r
 |_::r=>ai r
abbrev RK.den:RK->Type
 |.v a|.bv a|.box a=>a.den
abbrev aj:List RK->Type
 |[]=>Unit
 |r::u=>r.den×aj u
structure Ctr where
 f:FuncId
 ps:List PK
 rs:List RK
 fresh:Bool
 den:ac ps->Option (aj rs×ai ps)
def Ty.isAgg:Ty->Bool
 |.pair _ _|.unit=>true
 |_=>false
def target (st:St):Leaf->Option (List Leaf)
 |.bp b 0=>bif decide ((st b).sh=.agg) then some (bE b (st b).ver 0 (st b).ls) else none
 |.rp p a x 0=>some (cK p a x)
 |.rpp p a x=>some [.rp p a x 0]
 |_=>none
structure Got (α:Type) where
 p:Bool
 val:α
 frz:List (Nat×Nat)
 kill:List (Nat×Nat)
 see:List Nat
 lend:List Nat
def Got.ofRd {α:Type}(r:List Nat)(x:Bool×α)(frz:List (Nat×Nat)):Got α:=⟨x.1,x.2,frz,[],r,[]⟩
def lH (Γ:List Ctr)(f:FuncId):Option Ctr:=match Γ with
 |[]=>none
 |c::r=>bif BA c.f f then some c else lH r f
def cn (x:aI×List Leaf):Leaf :=
 match x with
 |(.one,[l])=>l
 |_=>.dead
def fe:List Leaf->List Nat
 |[]=>[]
 |.bp b _::r=>b::fe r
 |_::r=>fe r
def ff (st:St)(c:Bool×Ty)(l:Leaf):Option (Got c.2.den) :=
 bif c.1 then (match target st l with
  |some [u]=>match target st u with
   |some r=>(cP st c.2 r).map λy=>.ofRd (fe [l,u]) y (bu st r)
   |none=>none
  |_=>none)
 else match target st l with
  |some r=>(cP st c.2 r).map λy=>.ofRd (fe [l]) y (bu st r)
  |none=>none
def cB (st:St):(cs:List (Bool×Ty))->List Leaf->Option (Got (lG cs))
 |[],[]=>some ⟨false,(),[],[],[],[]⟩
 |c::cs,l::r=>match ff st c l with
  |some g=>match cB st cs r with
   |some h=>some ⟨g.p||h.p,(g.val,h.val),g.frz++h.frz,[],g.see++h.see,[]⟩
   |none=>none
  |none=>none
 |_,_=>none
def eM (c:Bool×Bool×(a:Ty)×a.den):Leaf:=bif c.2.1 then .rpp c.1 c.2.2.1 c.2.2.2 else .rp c.1 c.2.2.1 c.2.2.2 0
def bf (st : St) : (pk : PK) -> aI × List Leaf -> Option (Got pk.den)
  |.rd a,x=>bif decide (x.1=bg a.isAgg) then (cP st a x.2).map λy=>.ofRd [] y (bu st x.2) else none
  |.own a,x=>bif decide (x.1=bg a.isAgg) then (ci st a x.2).map λt=>⟨t.p,t.val,t.frz,t.kill,[],[]⟩ else none
  |.io a,x=>bif decide (x.1=bg a.isAgg) then (ci st a x.2).map λt=>⟨t.p,t.val,t.frz,t.kill,[],[]⟩ else none
  |.rref a,x=>ff st (false,a) (cn x)
  |.rref2 a,x=>ff st (true,a) (cn x)
  |.iop a,x=>match cn x with
    |.bp b 0=>bif decide ((st b).sh=.agg) then (ci st a (bE b (st b).ver 0 (st b).ls)).map λt=>⟨t.p,t.val,t.frz,t.kill,[],[b]⟩ else none
    |_=>none
  |.fn J B,x=>match cn x with
    |.fn H M O=>if h:H=J/\M=B then some ⟨false,(h.1 ▸ h.2 ▸ O:Tup J->Option B.den),[],[],[],[]⟩ else none
    |_=>none
  |.clo f I,x=>match cn x with
    |.clo z u=>bif BA z f then cB st I (u.map λb=>.bp b 0) else none
    |.clr z u=>bif BA z f then cB st I (u.map eM) else none
    |_=>none
  |.hol a c off,x=>bif decide (x.1=bg a.isAgg) then (match x.2.getD c .dead with
      |.al r j v=>(match aE st (.al r j v) with
        |.own p (some (i,o)) E e R=>bif BA o off then (match ci st a (aT x.2 c .nil) with
            |some t=>(match bM c E e R a 0 t.val with
              |some y=>some ⟨p||t.p,(y,i),t.frz,(r,j)::t.kill,[],[]⟩
              |none=>none)
            |none=>none) else none
        |_=>none)
      |_=>none) else none
def a8 (ga:(pk:PK)->aI×List Leaf->Option (Got pk.den)):(ps:List PK)->List (aI×List Leaf)->Option (Got (ac ps))
 |[],[]=>some ⟨false,(),[],[],[],[]⟩
 |p::ps,x::r=>match ga p x with
  |some g=>match a8 ga ps r with
   |some h=>some ⟨g.p||h.p,(g.val,h.val),g.frz++h.frz,g.kill++h.kill,g.see++h.see,g.lend++h.lend⟩
   |none=>none
  |none=>none
 |_,_=>none
def uB (st:St):(ps:List PK)->List (aI×List Leaf)->Option (Got (ac ps)):=a8 (bf st)
def ca (st:St):List Leaf->List Leaf->Upd
 |.al r j _::u,l::y=>let U:=ca st u y;(match l with|.own p h E e ys=>let c:=ae U st r;[(r,⟨c.ver,c.sh,aT c.ls j (.own p h E e ys)⟩),(EPO,bV (ae U st EPO))]|_=>[])++U
 |_::u,_::y=>ca st u y
 |_,_=>[]
def aG (st:St)(p:Bool):(ps:List PK)->List (aI×List Leaf)->ai ps->Upd
 |[],_,_=>[]
 |.io a::ps,x::r,o=>let U:=aG st p ps r o.2;ca (ae U st) x.2 (ar p a o.1)++U
 |.iop a::ps,x::r,o=>let U:=aG st p ps r o.2;(match cn x with
  |.bp b _=>let c:=ae U st b;[(b,⟨c.ver+2,.agg,ar p a o.1⟩)]
  |_=>[])++U
 |.rd _::ps,_::r,o=>aG st p ps r o
 |.own _::ps,_::r,o=>aG st p ps r o
 |.rref _::ps,_::r,o=>aG st p ps r o
 |.rref2 _::ps,_::r,o=>aG st p ps r o
 |.fn _ _::ps,_::r,o=>aG st p ps r o
 |.clo _ _::ps,_::r,o=>aG st p ps r o
 |.hol _ _ _::ps,_::r,o=>aG st p ps r o
 |_::_,[],_=>[]
def pn (d v:Nat)(p q:Bool)(ks:List (Nat×Nat×Nat))(ep:Nat):(r:RK)->r.den->(Bool×List Leaf)×Upd
 |.v a,y=>((a.isAgg,ar p a y),[])
 |.bv a,y=>((a.isAgg,li q ks ep a y),[])
 |.box a,y=>((false,[.bp (B0+d) 0]),[(B0+d,⟨v+1,.agg,ar p a y⟩)])
def bC (d v:Nat)(p q:Bool)(ks:List (Nat×Nat×Nat))(ep:Nat):(u:List RK)->aj u->List (Bool×List Leaf)×Upd
 |[],_=>([],[])
 |r::u,y=>let a:=pn d v p q ks ep r y.1;let b:=bC d v p q ks ep u y.2;(a.1::b.1,a.2++b.2)
def eN (r:Nat)(l:List (Bool×List Leaf)):bT :=
 match l with
 |[(agg,u)]=>⟨r,bg agg,u⟩
 |l=>⟨r,.tup (l.map λx=>(x.1,x.2.length)),(l.map (·.2)).flatten⟩
def cl (st:St)(U:Upd)(d:Nat)(sh:aI)(ls:List Leaf):Upd:=(d,⟨(ae U st d).ver+1,sh,ls⟩)::U
def PK.reads:PK->Bool
 |.rd _|.rref _|.rref2 _=>true
 |_=>false
def nE (caps:List PK)(z:ac caps):(r:List Ty)->Tup r->ac (r.map .rd++caps)
 |[],_=>z
 |_::as,x=>(x.1,nE caps z as x.2)
def rV (st:St)(z:List Ty)(B:Ty)(ls:List Leaf)(ps:List PK)(H:List RK)(r:Bool)(u:ac ps->Option (aj H×ai ps))(q:List PK):Option (Got (Tup z->Option B.den)) :=
 if h:ps=z.map .rd++q/\H=[.v B] then
  bif q.all PK.reads&&B.flat&&r then
   match uB st q (ls.map λl=>(.one,[l])) with
   |some g=>some ⟨g.p,λx=>(u (h.1 ▸ nE _ g.val z x)).map λy=>(h.2 ▸ y.1:aj [.v B]).1,g.frz,[],g.see,[]⟩
   |none=>none
  else none
 else none
def ku (Γ:List Ctr)(st:St)(r:List Ty)(B:Ty)(f:FuncId)(ls:List Leaf):Option (Got (Tup r->Option B.den)) :=
 match lH Γ f with
 |some c=>rV st r B ls c.ps c.rs c.fresh c.den (c.ps.drop r.length)
 |none=>none
def vk:Leaf->Option (FuncId×List Leaf)
 |.clo f r=>some (f,r.map λb=>.bp b 0)
 |.clr f r=>some (f,r.map eM)
 |_=>none
def ce (Γ:List Ctr)(st:St):(pk:PK)->aI×List Leaf->Option (Got pk.den)
 |.fn u B,x=>match vk (cn x) with
  |some r=>ku Γ st u B r.1 r.2
  |none=>bf st (.fn u B) x
 |.rd a,x=>bf st (.rd a) x
 |.own a,x=>bf st (.own a) x
 |.io a,x=>bf st (.io a) x
 |.rref a,x=>bf st (.rref a) x
 |.rref2 a,x=>bf st (.rref2 a) x
 |.iop a,x=>bf st (.iop a) x
 |.clo f y,x=>bf st (.clo f y) x
 |.hol a c off,x=>bf st (.hol a c off) x
def oH (Γ:List Ctr)(st:St):(ps:List PK)->List (aI×List Leaf)->Option (Got (ac ps)):=a8 (ce Γ st)
def PK.takes:PK->Bool
 |.own _|.io _=>true
 |_=>false
def PK.isIo:PK->Bool
 |.io _=>true
 |_=>false
def po:Ty->Nat->Bool
 |.pair a b,j=>bif Bs j a.cells then po a j else po b (j-a.cells)
 |.list m _ _,j=>m&&BA j 0
 |_,_=>false
def ll (a:Ty):Nat->List Leaf->Option Nat
 |_,[]=>none
 |j,l::r=>bif jj l&&po a j then some j else ll a (j+1) r
def PK.nest:PK->List Leaf->Option Nat
 |.own a,r=>ll a 0 r
 |.io a,r=>ll a 0 r
 |_,_=>none
def j0:Leaf->Nat×Nat
 |.nal _ ((r,j,_)::_) _ _ _ _ _=>(r,j)
 |_=>(0,0)
def cX (st:St):List PK->List (aI×List Leaf)->Option (Upd×List (aI×List Leaf)×Option (Bool×Nat×Nat))
 |p::y,x::r=>match p.nest x.2 with
  |some k=>(cm st (x.2.getD k .dead)).map λu=>(u.1,(x.1,aT x.2 k u.2)::r,some (p.isIo,j0 (x.2.getD k .dead)))
  |none=>(cX st y r).map λu=>(u.1,x::u.2.1,u.2.2)
 |_,r=>some ([],r,none)
section
variable {R:Type}
def lI (st : St) (l : Leaf) (Y : Upd -> Leaf -> Option R) : Option R :=
  match l with
  |.nal _ I ep H _ _ _=>bif bk st I ep then (match I,H with
      | [(r, j, _)], some (i, X, off) => (match (st r).ls.getD j .dead with
        |.own J none M z u=>bif !BA r TMP&&!BA r EPO&&BA X z.cells then
            (idx u (i:Int)).bind λy=>match bd off z 0 y with
              |some ⟨E,e,O⟩=>Y [(r,⟨(st r).ver,(st r).sh,aT (st r).ls j (.own J (some (i,off)) M z u)⟩),(TMP,⟨(st TMP).ver+1,.one,[.own (J&&z.shy) none E e O]⟩),(EPO,bV (st EPO))] (.al TMP 0 ((st TMP).ver+1))
              |Option.none=>Option.none
          else Option.none
        |_=>Option.none)
      |_,_=>Option.none)
    else Option.none
  |_=>Option.none
def kv (st:St):List PK->List (aI×List Leaf)->(Upd->List (aI×List Leaf)->Option (Bool×Nat×Nat)->Option R)->Option R
 |p::z,x::u,r=>match p.nest x.2 with
  |some k=>lI st (x.2.getD k .dead) λU l=>r U ((x.1,aT x.2 k l)::u) (some (p.isIo,j0 (x.2.getD k .dead)))
  |none=>kv st z u λU y b=>r U (x::y) b
 |_,u,r=>r [] u none
def iL (st:St):(u:List Ty)->List (aI×List Leaf)->Option (Tup u)
 |[],[]=>some ()
 |a::as,x::r=>bif decide (x.1=bg a.isAgg) then match cP st a x.2 with
   |some (_,y)=>(iL st as r).map (y,·)
   |none=>none
  else none
 |_,_=>none
def RK.isV:RK->Bool
 |.v _|.bv _=>true
 |.box _=>false
def RK.isBv:RK->Bool
 |.bv _=>true
 |_=>false
def gG (st:St)(d:Nat):List RK->Bool
 |[.box _]=>decide ((st (B0+d)).sh=.off)
 |rs=>rs.all RK.isV
def oI (b:Option (Bool×Nat×Nat))(frz kill:List (Nat×Nat))(d:Nat):Bool :=
 match b with
 |some (true,r,j)=>!(kill.any (iw (r,j)))&&!(frz.any (iw (r,j)))&&!BA r d&&!BA r (B0+d)
 |_=>true
def jN (st:St)(b:Option (Bool×Nat×Nat))(U:Upd)(H:Upd->Option R):Option R :=
 match b with
 |some (true,r,j) =>
  match (ae U st r).ls.getD j .dead,(ae U st TMP).ls with
  |.own p (some (i,off)) J u I,[.own q none E e M]=>(idx I (i:Int)).bind λy=>match bM off E e M u 0 y with
   |some z=>H ((r,⟨(ae U st r).ver,(ae U st r).sh,aT (ae U st r).ls j (.own (p||q) none J u (I.set i z))⟩)::(TMP,⟨(ae U st TMP).ver+1,.off,[]⟩)::(EPO,bV (ae U st EPO))::U)
   |none=>none
  |_,_=>none
 |_=>H U
def jk (Γ:List Ctr)(st:St)(d:Nat)(f:FuncId)(xs:List (aI×List Leaf))(J:Upd->Option R):Option R :=
 match lH Γ f with
 |some c=>kv st c.ps xs λu xs b =>
  match oH Γ (ae u st) c.ps xs with
  |some g=>bif aY g.kill&&dD g.frz g.kill&&gG st d c.rs&&!(g.see.any λq=>g.lend.any (BA q))&&Bw g.lend.length 1&&(g.lend.isEmpty||!(c.ps.any PK.isIo))&&((c.fresh&&g.lend.isEmpty)||!(c.rs.any RK.isBv))&&(g.kill.all λk=>!BA k.1 EPO)&&oI b g.frz g.kill d then
   (c.den g.val).bind λy =>
    let H:=(let U:=(bif c.fresh then [] else aF (ae u st) g.frz);aN (ae U (ae u st)) g.kill++U)++u;let z:=aG (ae H st) (g.p&&!c.fresh) c.ps xs y.2++H;let r:=bC d (ae z st (B0+d)).ver (g.p&&!c.fresh) g.p (g.frz.map λk=>(k.1,k.2,(ae z st k.1).ver)) (ae z st EPO).ver c.rs y.1;let I:=r.2++z
    jN st b ((d,eN ((ae I st d).ver+1) r.1)::I) J
   else none
  |none=>none
 |none=>none
def ao:Nat:=140737488355328
def fO (st:St)(E:TypeId)(e:Ty)(y:Leaf):Option (cL (List e.den)) :=
 bif e.flat then (dh e (aE st y)).map λx=>⟨false,x.2,[],[],[]⟩
 else bif decide (e.sh=e) then (dh e (aE st y)).map λx=>⟨x.1,x.2,bu st [y],[],[]⟩
 else (ci st (.list true E e) [y]).map λt=>⟨t.p,t.val,t.frz,t.kill,[]⟩
def dU (st u:St)(z:Upd)(d:Nat)(E:TypeId)(e:Ty)(r:Nat)(p:Bool)(xs:List e.den)(ks:List (Nat×Nat))(y:Leaf)(H:Upd->Option R):Option R :=
 match fO u E e y with
 |some t=>bif aY (t.kill++ks)&&dD t.frz (t.kill++ks)&&decide ((xs.length+t.val.length)*r<=ao) then
   let U:=aF u t.frz
   H (cl st (aN (ae U u) (t.kill++ks)++U++z) d .one [.own (p||t.p) none E e (xs++t.val)])
  else none
 |none=>none
def eq (st:St)(z:Upd)(d:Nat)(E:TypeId)(e:Ty)(u:Nat)(x y:Leaf)(I:Upd->Option R):Option R :=
 match x with
 |.al r j v=>match aE (ae z st) (.al r j v) with
  |.own p none H J M=>bif BA H E&&decide (J.sh=e.sh) then dU st (ae z st) z d H J u p M [(r,j)] y I else none
  |_=>none
 |.nil=>dU st (ae z st) z d E e u false [] [] y I
 |_=>none
def iy (st:St)(d:Nat)(E:TypeId)(e:Ty)(r:Nat)(x y:Leaf)(u:Upd->Option R):Option R :=
 bif jj x then lI st x λz x=>eq st z d E e r x y u else eq st [] d E e r x y u
def di (st:St)(x:Option Operand)(r:Int):Option Int :=
 match x with
 |none=>some r
 |some l=>match one st l with
  |.int _ n=>some n
  |_=>none
def fg (st:St)(r:List (Nat×Nat×Bool)):List (Nat×Operand)->List Leaf->Option (List Leaf)
 |[],u=>some u
 |(i,x)::y,u=>match r[i]? with
  |some (off,n,agg)=>bif BA (av st x).2.length n&&decide ((av st x).1=bg agg)&&decide (off+n<=u.length) then fg st r y (jr u (av st x).2 off) else none
  |none=>none
def ey (st:St)(e:Ty):Nat->List (Nat×Operand)->Option (cL (List e.den))
  |_,[]=>some ⟨false,[],[],[],[]⟩
  |k,(i,x)::r=>bif BA i k&&decide ((av st x).1=bg e.isAgg) then
      match ci st e (av st x).2,ey st e (k+1) r with
      |some t,some u=>some ⟨t.p||u.p,t.val::u.val,t.frz++u.frz,t.kill++u.kill,[]⟩
      |_,_=>none
    else none
def fy (st:St)(e:Ty):Nat->List Leaf->Option (List e.den)
 |0,_=>some []
 |n+1,r=>match cP st e (r.take e.cells),fy st e n (r.drop e.cells) with
  |some (_,x),some u=>some (x::u)
  |_,_=>none
def sj (st:St)(xs:List Operand):Option (List Nat) :=
 xs.foldl (λ (r:Option (List Nat)) x=>r.bind λl=>match one st x with
  |.bp b 0=>some (l++[b])
  |_=>none) (some [])
def wrU (o:Oper)(st:St)(r:Upd->Option R)(sh:aI)(ls:List Leaf):Option R:=match o.dst with
 |some d=>r (cl st [] d sh ls)
 |none=>none
def cQ (h:Option (Nat×Nat))(i:Nat):Option Nat:=match h with
 |some (r,u)=>bif BA r i then some u else none
 |none=>none
def holB (h:Option (Nat×Nat))(i:Nat):Option (Bool×Nat):=match h with
 |some (r,u)=>some (BA r i,u)
 |none=>none
theorem lJ (p:Bool)(r j v ep i u:Nat)(h:Option (Nat×Nat))(n:Nat):∀ (a:Ty) (off:Nat) (x:a.den),lj p r j v ep i u (holB h n) a off x=gF p r j v ep i u (cQ h n) a off x
 |.int _,_,_|.bool,_,_|.str,_,_|.unit,_,_|.hdr,_,_=>rfl
 |.pair a b,off,x=>by
  show _++_=_++_;rw[lJ p r j v ep i u h n a,lJ p r j v ep i u h n b]
 |.list m E e,off,I=>by
  simp only[lj,gF];congr 2;cases h with
  |none=>rfl
  |some q =>
   obtain⟨z,H⟩:=q;simp only[holB,cQ];by_cases y:BA z n=true
   ·simp only[y,Bool.and_true,cond_true,BH];rw[Bool.eq_iff_iff,Nat.beq_eq,decide_eq_true_eq]
   ·simp only[CM]at y;simp[y]
def gH (st:St)(r j i off:Nat)(n:Nat)(p:Bool)(E:TypeId)(e:Ty)(xs:List e.den)(h:Option (Nat×Nat))(ls:List Leaf)(M:Upd->Option R):Option R :=
 (idx xs (i:Int)).bind λz =>
  match c9 st off n e 0 z ls with
  |some t=>bif t.rest.isEmpty&&aY t.kill&&dD t.frz t.kill&&!((t.kill++t.frz).any λk=>BA k.1 r) then
    let J:=aF st t.frz;let I:=aN (ae J st) t.kill++J;let u (l:Leaf):Option R:=M ((r,⟨(st r).ver,(st r).sh,aT (st r).ls j l⟩)::(EPO,bV (ae I st EPO))::I)
    match h with
    |none=>u (.own (p||t.p) none E e (xs.set i t.val))
    |some (H,y)=>bif Bw off y&&Bs y (off+n) then (bif BA i H then u (.own (p||t.p) none E e (xs.set i t.val)) else none)
     else u (.own (p||t.p) (some (H,y)) E e (xs.set i t.val))
   else none
  |none=>none
def rW (r:Nat):Bool:=!BA r TMP&&!BA r EPO
def er (s:ByteArray):List Int:=s.data.toList.map λb=>(b.toNat:Int)
def gI (xs:List Int):ByteArray:=ByteArray.mk (xs.map λn=>UInt8.ofNat n.toNat).toArray
def act (Γ:List Ctr)(T:TypeId->TI)(o:Oper)(st:St)(O:Upd->Option R):Option R :=
 let w (sh:aI) (ls:List Leaf):Option R:=wrU o st O sh ls;let w1 (l:Leaf):Option R:=w .one [l]
 match o.op with
 |.move x=>let v:=av st x;w v.1 v.2
 |.assign x=>match o.dst with
  |some d=>let v:=av st x;bif hZ st v.2 then O (cl st (mvU st v.2) d v.1 (dH st v.2)) else none
  |none=>none
 |.pick c a b=>match one st c with
  |.bool t=>bif t then (let v:=av st a;w v.1 v.2) else (let v:=av st b;w v.1 v.2)
  |_=>none
 |.alloc t=>match o.dst with
  |some d=>bif decide ((st (B0+d)).sh=.off)&&!decide ((T t).cells=0) then O ((B0+d,⟨(st (B0+d)).ver+1,.agg,(T t).zero⟩)::cl st [] d .one [.bp (B0+d) 0]) else none
  |none=>none
 |.box t x=>match o.dst with
  |some d=>let v:=av st x
   bif decide ((st (B0+d)).sh=.off)&&decide (v.2.length=(T t).cells)&&decide (v.1=bg (T t).agg)&&hZ st v.2 then
    (bif sg st x then O ((B0+d,⟨(st (B0+d)).ver+1,.agg,v.2⟩)::cl st [] d .one [.bp (B0+d) 0])
    else (let U:=mvU st v.2
     O ((B0+d,⟨(ae U st (B0+d)).ver+1,.agg,dH st v.2⟩)::cl st U d .one [.bp (B0+d) 0])))
   else none
  |none=>none
 |.build t H=>match T t with
  |.struct a J=>match fg st J H.toList (eR a) with
   |some ls=>w .agg ls
   |none=>none
  |.arr e n=>match fg st ((Br n).map λi=>(i*e.cells,e.cells,e.isAgg)) H.toList (BR n (eR e)).flatten with
   |some ls=>w .agg ls
   |none=>none
  |_=>none
 |.buildSlice t n H=>match T t with
  |.slice E e _=>match ey st e 0 H.toList with
   |some u=>bif BA u.val.length n&&decide (n*e.cells<=16777216)&&aY u.kill&&dD u.frz u.kill then (match o.dst with
     |some d=>let U:=aF st u.frz;O (cl st (aN (ae U st) u.kill++U) d .one [.own u.p none E e u.val])
     |none=>none) else none
   |none=>none
  |_=>none
 |.load t x =>
  bif decide ((T t).cells=0) then none else
  match one st x with
  |.rp p a y off=>bif decide (off+(T t).cells<=a.cells) then w (bg (T t).agg) (((cK p a y).drop off).take (T t).cells) else none
  |.bp b off=>bif decide ((st b).sh=.agg)&&decide (off+(T t).cells<=(st b).ls.length) then w (bg (T t).agg) (((bE b (st b).ver 0 (st b).ls).drop off).take (T t).cells) else none
  |.rpp p a y=>bif BA (T t).cells 1&&!(T t).agg then w1 (.rp p a y 0) else none
  |.np p Y ep a y off=>bif bk st Y ep&&decide (off+(T t).cells<=a.cells) then w (bg (T t).agg) (((li p Y ep a y).drop off).take (T t).cells) else none
  |.ep r j v i sz off=>match aE st (.al r j v) with
   |.own p h _ e z=>bif BA sz e.cells&&decide (off+(T t).cells<=e.cells) then (idx z (i:Int)).bind λy=>w (bg (T t).agg) (((lj p r j v (st EPO).ver i sz (holB h i) e 0 y).drop off).take (T t).cells) else none
   |_=>none
  |_=>none
 |.store t x y=>match o.dst with
  |some _=>none
  |none =>
  let v:=(av st y).2
  bif BA v.length (T t).cells&&decide ((av st y).1=bg (T t).agg)&&!decide ((T t).cells=0) then
   match one st x with
   |.bp b off=>bif decide ((st b).sh=.agg)&&decide (off+v.length<=(st b).ls.length)&&hZ st v then
     let U:=mvU st v;let c:=ae U st b
     O ((b,⟨c.ver+1,.agg,jr c.ls (dH st v) off⟩)::U)
    else none
   |.ep r j a0 i sz off=>match aE st (.al r j a0) with
    |.own p h E e z=>bif BA sz e.cells&&decide (off+v.length<=e.cells)&&rW r then gH st r j i off v.length p E e z h v O else none
    |_=>none
   |_=>none
  else none
 |.nilCheck x=>match one st x with
  |.rp p a y off=>w1 (.rp p a y off)
  |.bp b off=>w1 (.bp b off)
  |.ep r j v i sz off=>bif BA (st r).ver v then w1 (.ep r j v i sz off) else none
  |.rpp p a y=>w1 (.rpp p a y)
  |.np p Y ep a y off=>bif bk st Y ep then w1 (.np p Y ep a y off) else none
  |_=>none
 |.binOp op t x y _=>match one st x,one st y with
  |.int k a,.int k' b =>
   match op with
   |.shl=>bif decide (b<0) then none else w1 (.int k (k.wrap (a*2 ^ (min b.toNat k.bits))))
   |.shr=>bif decide (b<0) then none else w1 (.int k (a.fdiv (2 ^ (min b.toNat k.bits))))
   |.quo=>bif decide (b=0) then none else bif decide (k=k') then w1 (.int k (k.wrap (a.tdiv b))) else none
   |.rem=>bif decide (b=0) then none else bif decide (k=k') then w1 (.int k (a.tmod b)) else none
   |.and=>bif decide (k=k') then w1 (.int k (k.wrap ((BitVec.ofInt k.bits a &&& BitVec.ofInt k.bits b).toNat))) else none
   |.xor=>bif decide (k=k') then w1 (.int k (k.wrap ((BitVec.ofInt k.bits a ^^^ BitVec.ofInt k.bits b).toNat))) else none
   |_=>bif decide (k=k') then (match si op k a b with|some l=>w1 l|none=>none) else none
  |.bool a,.bool b=>match T t with
   |.bool=>match op with
    |.eql=>w1 (.bool (a==b))
    |.neq=>w1 (.bool (a != b))
    |_=>none
   |_=>none
  |.str a,.str b=>match op with
   |.eql=>w1 (.bool (a.toList==b.toList))
   |.neq=>w1 (.bool (a.toList != b.toList))
   |.add=>bif decide (a.size+b.size<=9223372036854775807) then w1 (.str (a++b)) else none
   |_=>none
  |_,_=>match T t with
   |.struct a _=>bif a.flat&&decide ((av st x).1=.agg)&&decide ((av st y).1=.agg) then
     match cP st a (av st x).2,cP st a (av st y).2 with
     |some (_,u),some (_,v)=>match op with
      |.eql=>w1 (.bool (a.eqv u v))
      |.neq=>w1 (.bool (!a.eqv u v))
      |_=>none
     |_,_=>none
    else none
   |_=>none
 |.unOp op _ x=>match op,one st x with
  |.not,.bool b=>w1 (.bool (!b))
  |.neg,.int k n=>w1 (.int k (k.wrap (0-n)))
  |_,_=>none
 |.convert s t x=>match T s,T t,one st x with
  |.int _,.int k,.int _ n=>w1 (.int k (k.wrap n))
  |.slice _ (.int .u8) _,.str,l=>match dh (.int .u8) (aE st l) with
   |some (_,z)=>w1 (.str (gI z))
   |none=>none
  |.str,.slice E (.int .u8) _,.str s=>bif BA E 5 then w1 (.own false none E (.int .u8) (er s)) else none
  |_,_,_=>none
 |.makeSlice t n c=>match T t,one st n,one st c with
  |.slice E e X,.int _ a,.int _ b =>
   bif decide (0<=a)&&decide (a=b)&&decide (a*X<=ao) then w1 (.own false none E e (BR a.toNat e.zero)) else none
  |_,_,_=>none
 |.slice t x lo hi mx=>match mx,o.dst with
  |none,some d=>match di st lo 0 with
   |none=>none
   |some i=>match T t,aE st (one st x) with
    |.str,.str s=>(match di st hi s.size with
     |some h=>bif decide (0<=i)&&decide (i<=h)&&decide (h<=(s.size:Int)) then O (cl st [] d .one [.str (s.extract i.toNat h.toNat)]) else none
     |none=>none)
    |.slice _ M _,.nal p Y ep _ E e z=>(match di st hi z.length with
     |some h=>bif decide (0<=i)&&decide (i<=h)&&decide (h<=(z.length:Int))&&BA M.cells e.cells then
       O (cl st [] d .one [.nal p Y ep none E e ((z.take h.toNat).drop i.toNat)]) else none
     |none=>none)
    |.slice _ M _,.ro p E e z=>(match di st hi z.length with
     |some h=>bif decide (0<=i)&&decide (i<=h)&&decide (h<=(z.length:Int))&&BA M.cells e.cells then
       O (cl st [] d .one [.ro p E e ((z.take h.toNat).drop i.toNat)]) else none
     |none=>none)
    |.slice _ M _,.own p none E e z=>(match di st hi z.length with
     |some h=>bif decide (0<=i)&&decide (i<=h)&&decide (h<=(z.length:Int))&&BA M.cells e.cells then
       (match one st x with
       |.al r j v=>O (cl st [] d .one [.nal p [(r,j,v)] (st EPO).ver none E e ((z.take h.toNat).drop i.toNat)])
       |_=>none) else none
     |none=>none)
    |_,_=>none
  |some m,some d=>match lo,T t,one st x with
   |none,.slice _ M _,.al r j v=>(match aE st (.al r j v) with
    |.own p none E e z=>(match di st hi z.length,di st (some m) 0 with
     |some h,some k=>bif hi.isSome&&decide (h=(z.length:Int))&&decide (k=(z.length:Int))&&BA M.cells e.cells then O (cl st (aN st [(r,j)]) d .one [.own p none E e z]) else none
     |_,_=>none)
    |_=>none)
   |_,_,_=>none
  |_,_=>none
 |.fieldAddr t x f=>match T t with
  |.struct _ J=>match J[f]? with
   |some (off,_,_)=>match one st x with
    |.rp p a y o'=>w1 (.rp p a y (o'+off))
    |.bp b o'=>w1 (.bp b (o'+off))
    |.ep r j v i sz o'=>bif BA (st r).ver v then w1 (.ep r j v i sz (o'+off)) else none
    |.np p Y ep a y o'=>bif bk st Y ep then w1 (.np p Y ep a y (o'+off)) else none
    |_=>none
   |none=>none
  |_=>none
 |.field t x f=>match T t with
  |.struct a J=>match J[f]? with
   |some (off,n,agg)=>bif decide ((av st x).1=.agg)&&decide ((av st x).2.length=a.cells) then w (bg agg) (((av st x).2.drop off).take n) else none
   |none=>none
  |_=>none
 |.indexAddr t x i=>match one st i with
  |.int _ n=>match T t with
   |.arr e Z=>match one st x with
    |.bp b off=>bif decide (0<=n)&&decide (n<(Z:Int)) then w1 (.bp b (off+n.toNat*e.cells)) else none
    |_=>none
   |.slice _ e _=>match one st x with
    |.al r j v=>match aE st (.al r j v) with
     |.own _ _ _ M z=>bif BA M.cells e.cells then (idx z n).bind λ_=>w1 (.ep r j v n.toNat M.cells 0) else none
     |_=>none
    |.ro p _ M z=>bif BA M.cells e.cells then (idx z n).bind λy=>w1 (.rp p M y 0) else none
    |.nal p Y ep _ _ M z=>bif BA M.cells e.cells&&bk st Y ep then (idx z n).bind λy=>w1 (.np p Y ep M y 0) else none
    |_=>none
   |_=>none
  |_=>none
 |.index t x i=>match one st i with
  |.int _ n=>match T t with
   |.str=>match one st x with
    |.str s=>(idx s.data.toList n).bind λy=>w1 (.int .u8 y.toNat)
    |_=>none
   |.arr e Z=>bif e.flat&&decide ((av st x).1=.agg)&&BA (av st x).2.length (Z*e.cells)&&!BA e.cells 0 then (match fy st e Z (av st x).2 with
     |some vs=>(idx vs n).bind λy=>w (bg e.isAgg) (cK false e y)
     |none=>none) else none
   |_=>none
  |_=>none
 |.extract x i=>match av st x with
  |(.tup ps,ls)=>match ps[i]? with
   |some (agg,n)=>w (bg agg) ((ls.drop ((ps.take i).foldl (λa b=>a+b.2) 0)).take n)
   |none=>none
  |_=>none
 |.makeFunc (.func f) first I=>bif BA first.size 0 then
   match sj st I.toList with
   |some l=>w1 (.clo f l)
   |none=>none
  else none
 |.call c=>match o.dst with
  |none=>none
  |some d=>match c.callee with
   |.value f =>
    let z:=c.args.toList.map (av st)
    match one st f with
    |.clo g I=>jk Γ st d g (z++I.map λb=>(.one,[.bp b 0])) O
    |.clr g I=>jk Γ st d g (z++I.map λc=>(.one,[eM c])) O
    |.fn As B φ=>bif B.flat then match iL st As z with
      |some x=>(φ x).bind λy=>w (bg B.isAgg) (ar false B y)
      |none=>none
     else none
    |_=>none
   |.builtin .len=>match c.args.toList with
    |[x]=>match c.argTypes.toList with
     |[t]=>match T t,aE st (one st x) with
      |.slice _ _ _,l=>(match fZ l with
       |some n=>w1 (.int .i64 n)
       |none=>none)
      |.str,.str s=>w1 (.int .i64 s.size)
      |_,_=>none
     |_=>none
    |_=>none
   |.builtin .append=>match c.args.toList,c.argTypes.toList with
    |[x,y],[t,u]=>match T t with
     |.slice E e X=>bif BA t u then iy st d E e X (one st x) (one st y) O else none
     |_=>none
    |_,_=>none
   |.builtin .min=>match c.args.toList with
    |[x,y]=>match one st x,one st y with
     |.int k a,.int _ b=>w1 (.int k (bif decide (b<a) then b else a))
     |_,_=>none
    |_=>none
   |.builtin .max=>match c.args.toList with
    |[x,y]=>match one st x,one st y with
     |.int k a,.int _ b=>w1 (.int k (bif decide (a<b) then b else a))
     |_,_=>none
    |_=>none
   |_=>none
 |_=>none
def az:List Leaf->List Nat
 |[]=>[]
 |.al r _ _::u=>r::az u
 |.ep r _ _ _ _ _::u=>EPO::r::az u
 |.nal _ z _ _ _ _ _::u=>EPO::z.map (·.1)++az u
 |.np _ z _ _ _ _::u=>EPO::z.map (·.1)++az u
 |.bp b _::u=>b::az u
 |.clo _ y::u=>y++az u
 |_::u=>az u
def iz (xs:List Operand):List Nat :=
 match xs with
 |[]=>[]
 |.tmp t::xs=>t::iz xs
 |_::xs=>iz xs
def kw (st:St)(r:List Nat):List Nat :=
 let a:=r.flatMap λt=>az (st t).ls
 let b:=a.flatMap λt=>az (st t).ls
 let c:=b.flatMap λt=>az (st t).ls
 r++a++b++c
def co (st:St)(u:Op):List Nat :=
 let r:=iz u.operands.toList
 match u with
 |.move _|.pick _ _ _|.build _ _|.field _ _ _|.extract _ _|.makeFunc _ _ _|.unOp _ _ _|.makeSlice _ _ _|.alloc _=>r
 |.slice _ _ _ _ _=>EPO::(r++r.flatMap λt=>ax (st t).ls)
 |.assign _|.box _ _|.buildSlice _ _ _|.indexAddr _ _ _|.nilCheck _|.fieldAddr _ _ _|.convert _ _ _|.binOp _ _ _ _ _|.index _ _ _=>r++r.flatMap λt=>ax (st t).ls
 |.load _ _|.store _ _ _=>r++r.flatMap λt=>az (st t).ls
 |.call c=>match c.callee with
  |.builtin _=>TMP::(r++r.flatMap λt=>ax (st t).ls)
  |_=>TMP::EPO::kw st r
 |_=>kw st r
def zf (o:Oper):List Nat:=match o.dst with
 |some d=>[d,B0+d]
 |none=>[]
def eS (st:St)(u:Op):List Nat :=
 let r:=iz u.operands.toList
 match u with
 |.move _=>r
 |.indexAddr _ _ _=>r++r.flatMap λt=>ax (st t).ls
 |_=>[]
def fh (st:St)(o:Oper):List Nat:=(match o.op with|.move _|.indexAddr _ _ _=>[]|op=>co st op)++zf o
def d4 (st:St)(o:Oper):List Nat:=match o.op with
 |.store _ x _=>match one st x with
  |.ep r _ _ _ _ _=>[r]
  |_=>[]
 |_=>[]
structure cM where
 rd:List Nat
 hd:List Nat
 wr:List Nat
 cw:List Nat
def lK (a b:List Nat):Bool:=a.any λx=>b.any λy=>BA x y
def cM.apart (x y:cM):Bool:=!lK (x.wr++x.cw) (y.wr++y.cw)&&!lK (x.wr++x.cw) y.rd&&!lK x.rd (y.wr++y.cw)&&!lK x.wr y.hd&&!lK x.hd y.wr
def jD:List Oper->List Nat->List Nat
 |[],r=>r
 |o::u,r=>jD u (r++[o.after.toList.foldl (λs e=>bif Region.binds .any e then s ||| 2 ^ e.on ||| r.getD e.on 0 else s) 0])
def pq (r:List Nat)(u:List cM):Bool :=
 (Br u.length).all λj=>(Br j).all λi =>
  (r.getD j 0).testBit i||(match u[i]?,u[j]? with
   |some x,some y=>x.apart y
   |_,_=>false)
def lit (st:St)(t:Nat)(b:Bool):St:=ae [(t,⟨(st t).ver,.one,[.bool b]⟩)] st
def eF (st:St)(o:Oper):Upd :=
 match o.dst with
 |some d=>[(d,⟨(st d).ver+1,.und,[]⟩)]
 |none=>[]
def opK (Γ:List Ctr)(T:TypeId->TI)(z:Array Oper)(o:Oper)(st:St)(H:St->cM->Option R):Option R :=
 let y (st:St) (r:List Nat):Option R:=act Γ T o st (λU=>H (ae U st) ⟨r++fh st o,eS st o.op,(U.map (·.1)).filter (λq=>!((d4 st o).any (BA q))),d4 st o⟩);let no (st:St) (r:List Nat):Option R:=H (ae (eF st o) st) ⟨r,[],o.dst.toList,[]⟩
 match o.guard with
 |none=>y st []
 |some (j,u)=>match (z[j]?).bind (·.dst) with
  |some t=>match (st t).sh,(st t).ls with
   |.one,[.bool b]=>bif b then (bif u then y (lit st t true) [t] else no (lit st t true) [t]) else (bif u then no (lit st t false) [t] else y (lit st t false) [t])
   |.und,_=>no st [t]
   |_,_=>none
  |none=>none
def qj (Γ:List Ctr)(T:TypeId->TI)(u:Array Oper):List Oper->St->List cM->(St->List cM->Option R)->Option R
 |[],H,y,z=>z H y
 |o::r,H,y,z=>opK Γ T u o H (λI t=>qj Γ T u r I (y++[t]) z)
def nF (ops:Array Oper):Bool:=(Br ops.size).all λi=>match ops[i]? with
 |some o=>o.after.toList.all λe=>!Region.binds .any e||decide (e.on<i)
 |none=>true
def regK (Γ:List Ctr)(T:TypeId->TI)(ops:Array Oper)(u:Bool)(st:St)(y:St->Option R):Option R :=
 bif u then
  qj Γ T ops ops.toList st [] (λr z=>bif nF ops&&pq (jD ops.toList []) z then y r else none)
 else qj Γ T ops ops.toList st [] (λr _=>y r)
inductive Ex where
 |normal|exit (id:Nat)|ret
def qk (y:St->(Ex->St->Option R)->Option R)(u:Ex->St->Option R):Ex->St->Option R
 |.normal,r=>y r u
 |e,r=>u e r
def sk (id:Nat)(y:Ex->St->Option R):Ex->St->Option R
 |.exit r,u=>bif BA r id then y .normal u else y (.exit r) u
 |e,u=>y e u
def aw (L:List (Nat×bT)):St:=λq=>ae L (λ_=>bT.none) q
inductive Coe where
 |keep|kill
 |own (p:Bool) (E:TypeId) (e:Ty)|ro (p:Bool) (E:TypeId) (e:Ty)|rp (p:Bool)
def bt (st:St)(live:List Nat):Coe->Leaf->Leaf
 |.kill,_=>.dead
 |.own p E e,.nil=>.own p none E e []
 |.own p _ _,.own q none E e y=>bif !q||p then .own p none E e y else .dead
 |.ro p E e,.nil=>.ro p E e []
 |.ro p E e,.ro q _ H y=>bif !q||p then (match castSh e H y with | some z=>.ro p E e z | none=>.dead) else .dead
 |.ro p E e,.own q none _ H y=>bif !q||p then (match castSh e H y with | some z=>.ro p E e z | none=>.dead) else .dead
 |.rp p,.rpp q a x=>bif !q||p then .rpp p a x else .dead
 |.rp p,.rp q a x off=>bif !q||p then .rp p a x off else .dead
 |.keep,.int k n=>.int k n
 |.keep,.bool b=>.bool b
 |.keep,.str s=>.str s
 |.keep,.nil=>.nil
 |.keep,.hdr n=>.hdr n
 |.keep,.fn M B I=>.fn M B I
 |.keep,.clr f J=>.clr f J
 |.keep,.bp b off=>bif live.any (BA b) then .bp b off else .dead
 |.keep,.clo f u=>bif u.all (λb=>live.any (BA b)) then .clo f u else .dead
 |.keep,.al r j v=>bif live.any (BA r)&&BA (st r).ver v then .al r j 0 else .dead
 |_,_=>.dead
def cY (st:St)(live:List Nat):List Coe->List Leaf->List Leaf
 |c::u,l::r=>bt st live c l::cY st live u r
 |[],_::r=>.dead::cY st live [] r
 |_,[]=>[]
def lL (live:List (Nat×List Coe))(st:St):St:=aw (live.map λr=>(r.1,⟨0,(st r.1).sh,cY st (live.map (·.1)) r.2 (st r.1).ls⟩))
def gJ (live:List (Nat×List Coe))(rec:St->Option R)(u:Ex->St->Option R):Ex->St->Option R
 |.normal,r=>rec (lL live r)
 |e,r=>u e r
def aW (live:List (Nat×List Coe))(y:St->(Ex->St->Option R)->Option R):Nat->St->(Ex->St->Option R)->Option R
 |0,_,_=>none
 |k+1,z,u=>y z (gJ live (λr=>aW live y k r u) u)
def eO:Code->Nat
 |.region id _ _=>id+1
 |.seq a b=>match eO a with
  |0=>eO b
  |n=>n
 |.cond _ a b=>match eO a with
  |0=>eO b
  |n=>n
 |.block _ c=>eO c
 |.loop c=>eO c
 |.scope c=>eO c
 |_=>0
def lm (L:List (Nat×List (Nat×List Coe)))(k:Nat):List (Nat×List Coe):=match L with
 |[]=>[]
 |(n,l)::r=>bif BA n k then l else lm r k
def zg (st:St)(c:Operand)(r no:St->Option R):Option R :=
 match c with
 |.tmp t=>match (st t).sh,(st t).ls with
  |.one,[.bool b]=>bif b then r (lit st t true) else no (lit st t false)
  |_,_=>none
 |.const (.bool b)=>bif b then r st else no st
 |_=>none
def evK (Γ:List Ctr)(T:TypeId->TI)(L:List (Nat×List (Nat×List Coe)))(r:Nat):Code->St->(Ex->St->Option R)->Option R
 |.skip,u,z=>z .normal u
 |.region _ I H,u,z=>regK Γ T I H u (z .normal)
 |.seq a b,u,z=>evK Γ T L r a u (qk (evK Γ T L r b) z)
 |.cond c x y,u,z=>zg u c (λu=>evK Γ T L r x u z) (λu=>evK Γ T L r y u z)
 |.block id c,u,z=>evK Γ T L r c u (sk id z)
 |.loop c,u,z=>aW (lm L (eO c)) (evK Γ T L r c) r (lL (lm L (eO c)) u) z
 |.exit id,u,z=>z (.exit id) u
 |.ret,u,z=>z .ret u
 |_,_,_=>none
def sub:Code->List Nat->Code
 |.seq a _,0::p=>sub a p
 |.seq _ b,1::p=>sub b p
 |.cond _ x _,0::p=>sub x p
 |.cond _ _ y,1::p=>sub y p
 |.block _ c,0::p=>sub c p
 |.loop c,0::p=>sub c p
 |c,_=>c
def kAt (u:Code->St->(Ex->St->Option R)->Option R):Code->List Nat->(Ex->St->Option R)->Ex->St->Option R
 |.seq a b,0::p,r=>kAt u a p (qk (u b) r)
 |.seq _ b,1::p,r=>kAt u b p r
 |.cond _ x _,0::p,r=>kAt u x p r
 |.cond _ _ y,1::p,r=>kAt u y p r
 |.block id c,0::p,r=>kAt u c p (sk id r)
 |_,_,r=>r
def cN (fn:Func):Code:=match fn.body with
 |some c=>c
 |none=>.skip
def af {A:Type}(step:(A->Option R)->A->Option R):Nat->A->Option R
 |0,_=>none
 |k+1,a=>step (af step k) a
theorem kQ {A:Type}(live:List (Nat×List Coe))(u:St->(Ex->St->Option R)->Option R)(r:Ex->St->Option R)(S:A->St)
  (step:(A->Option R)->A->Option R) (h:∀ (rec:St->Option R) (a:A),u (S a) (gJ live rec r)=step (λa=>rec (S a)) a) :
  ∀ (k:Nat) (a:A),aW live u k (S a) r=af step k a
 |0,_=>rfl
 |k+1,a=>by
  have y:=kQ live u r S step h k;simp only[aW,af];rw[h];exact congrArg (λg=>step g a) (funext y)
abbrev wr (k:IntKind)(n:Int):Int:=k.wrap n
def bB (k:IntKind)(a b:Int):Int:=k.wrap ((BitVec.ofInt k.bits a &&& BitVec.ofInt k.bits b).toNat)
def ql (k:IntKind)(a b:Int):Int:=k.wrap ((BitVec.ofInt k.bits a ^^^ BitVec.ofInt k.bits b).toNat)
def jO (p:Bool):(cs:List (Bool×Ty))->lG cs->List (Bool×Bool×(a:Ty)×a.den)
 |[],_=>[]
 |c::cs,x=>(p,c.1,⟨c.2,x.1⟩)::jO p cs x.2
def uC (i off:Nat):Leaf->Leaf
 |.own p _ E e r=>.own p (some (i,off)) E e r
 |l=>l
def dj (t:Nat):(ps:List PK)->ac ps->Upd
 |[],_=>[]
 |.rd a::ps,x=>(t,⟨0,bg a.isAgg,cK true a x.1⟩)::dj (t+1) ps x.2
 |.own a::ps,x=>(t,⟨0,bg a.isAgg,ar true a x.1⟩)::dj (t+1) ps x.2
 |.io a::ps,x=>(t,⟨7,bg a.isAgg,ar true a x.1⟩)::dj (t+1) ps x.2
 |.rref a::ps,x=>(t,⟨0,.one,[.rp true a x.1 0]⟩)::dj (t+1) ps x.2
 |.rref2 a::ps,x=>(t,⟨0,.one,[.rpp true a x.1]⟩)::dj (t+1) ps x.2
 |.iop a::ps,x=>(t,⟨0,.one,[.bp (B0+t) 0]⟩)::(B0+t,⟨0,.agg,ar true a x.1⟩)::dj (t+1) ps x.2
 |.fn r B::ps,x=>(t,⟨0,.one,[.fn r B x.1]⟩)::dj (t+1) ps x.2
 |.clo f u::ps,x=>(t,⟨0,.one,[.clr f (jO true u x.1)]⟩)::dj (t+1) ps x.2
 |.hol a c off::ps,x=>(t,⟨0,bg a.isAgg,aT (ar true a x.1.1) c (uC x.1.2 off ((ar true a x.1.1).getD c .dead))⟩)::dj (t+1) ps x.2
def ia (st:St)(t:Nat):(ps:List PK)->Option (cL (ai ps))
 |[]=>some ⟨false,(),[],[],[]⟩
 |.io a::ps=>match (bif decide ((av st (.tmp t)).1=bg a.isAgg) then ci st a (av st (.tmp t)).2 else none),ia st (t+1) ps with
  |some x,some y=>some ⟨x.p||y.p,(x.val,y.val),x.frz++y.frz,x.kill++y.kill,[]⟩
  |_,_=>none
 |.iop a::ps=>match ci st a (bE (B0+t) (st (B0+t)).ver 0 (st (B0+t)).ls),ia st (t+1) ps with
  |some x,some y=>some ⟨x.p||y.p,(x.val,y.val),x.frz++y.frz,x.kill++y.kill,[]⟩
  |_,_=>none
 |.rd _::ps=>ia st (t+1) ps
 |.own _::ps=>ia st (t+1) ps
 |.rref _::ps=>ia st (t+1) ps
 |.rref2 _::ps=>ia st (t+1) ps
 |.fn _ _::ps=>ia st (t+1) ps
 |.clo _ _::ps=>ia st (t+1) ps
 |.hol _ _ _::ps=>ia st (t+1) ps
def vm (st:St)(T:TypeId->TI):ResultVar->List Leaf
 |.tmp t=>(av st (.tmp t)).2
 |.cell t r=>match one st (.tmp t) with
  |.bp b off=>((bE b (st b).ver 0 (st b).ls).drop off).take (T r).cells
  |_=>[]
def pt (st:St)(T:TypeId->TI):ResultVar->aI
 |.tmp t=>(av st (.tmp t)).1
 |.cell t r=>match one st (.tmp t) with
  |.bp b off=>bif decide ((st b).sh=.agg)&&Bw (off+(T r).cells) (st b).ls.length&&!BA (T r).cells 0 then bg (T r).agg else .off
  |_=>.off
def RK.sh:RK->aI
 |.v a=>bg a.isAgg
 |.bv a=>bg a.isAgg
 |.box _=>.one
def bF (t:Nat):List PK->List Nat
 |[]=>[]
 |.iop _::r=>(B0+t)::bF (t+1) r
 |_::r=>bF (t+1) r
def gi (t:Nat):List PK->List Nat
 |[]=>[]
 |.io _::r=>t::gi (t+1) r
 |.iop _::r=>t::gi (t+1) r
 |_::r=>gi (t+1) r
def rX (st:St)(z:List Nat):(r:RK)->List Leaf->Option (cL r.den)
 |.v a,u=>ci st a u
 |.bv a,u=>(cP st a u).map λy=>⟨false,y.2,bu st u,[],[]⟩
 |.box a,u=>match u with
  |[.bp b 0]=>bif !(z.any (BA b)) then ci st a (bE b (st b).ver 0 (st b).ls) else none
  |_=>none
def kd (st:St)(T:TypeId->TI)(H:List Nat):(u:List RK)->List ResultVar->Option (cL (aj u))
 |[],[]=>some ⟨false,(),[],[],[]⟩
 |r::u,x::I=>bif decide (pt st T x=r.sh) then match rX st H r (vm st T x),kd st T H u I with
  |some y,some z=>some ⟨y.p||z.p,(y.val,z.val),y.frz++z.frz,y.kill++z.kill,[]⟩
  |_,_=>none else none
 |_,_=>none
def finR (T:TypeId->TI)(ps:List PK)(z:List RK)(r:Bool)(u:List ResultVar)(st:St):Option (aj z×ai ps) :=
 match kd st T (bF 0 ps) z u,ia st 0 ps with
 |some y,some o=>bif aY (y.kill++o.kill)&&dD (y.frz++o.frz) (y.kill++o.kill)&&(!r||!(y.p||o.p)) then some (y.val,o.val) else none
 |_,_=>none
def de (T:TypeId->TI)(ps:List PK)(y:List RK)(r:Bool)(u:List ResultVar):Ex->St->Option (aj y×ai ps)
 |.exit _,_=>none
 |_,z=>finR T ps y r u z
def ln (nt:Nat)(fix:List Nat)(r:Array Oper)(o:Oper):Bool :=
 (match o.dst with
  |some d=>Bs d nt&&!(fix.any (BA d))
  |none=>true) &&
 (match o.guard with
  |some (j,_)=>match (r[j]?).bind (·.dst) with
   |some s=>Bs s nt
   |none=>true
  |none=>true)
def wD (nt:Nat):Operand->Bool
 |.tmp t=>Bs t nt
 |_=>true
def dP (nt:Nat)(fix:List Nat):Code->Bool
 |.region _ r _=>r.toList.all (ln nt fix r)
 |.seq a b=>dP nt fix a&&dP nt fix b
 |.cond c a b=>wD nt c&&dP nt fix a&&dP nt fix b
 |.block _ c=>dP nt fix c
 |.loop c=>dP nt fix c
 |_=>true
def qm:List RK->Bool
 |[.box _]=>true
 |rs=>rs.all RK.isV
def dp (L:List (Nat×List (Nat×List Coe)))(u:List Nat):Code->Bool
 |.seq a b=>dp L u a&&dp L u b
 |.cond _ a b=>dp L u a&&dp L u b
 |.block _ c=>dp L u c
 |.loop c=>(u.all λb=>(lm L (eO c)).any λr=>BA r.1 b)&&dp L u c
 |_=>true
def evF (Γ:List Ctr)(T:TypeId->TI)(L:List (Nat×List (Nat×List Coe)))(u:Nat)(fn:Func)(ps:List PK)(y:List RK)(r:Bool)(x:ac ps):Option (aj y×ai ps) :=
 match fn.body with
 |some c=>bif dP fn.ntmps (gi 0 ps) c&&Bw ps.length fn.ntmps&&Bw fn.ntmps GH&&qm y&&dp L (bF 0 ps) c then
  evK Γ T L u c (aw (dj 0 ps x)) (de T ps y r fn.results.toList) else none
 |none=>none
end
def fJ (e:Ty)(r:Nat)(xs:List e.den):Option ((List e.den×Unit)×Unit):=bif decide ((0+xs.length)*r<=ao) then some ((xs,()),()) else none
theorem lM (e:Ty)(r:Nat):fJ e r []=some (([],()),()):=by
 unfold fJ;simp[ao]
def lN:Code->Nat->Oper
 |.region _ r _,i=>(r[i]?).getD ⟨none,.move (.tmp 0),0,"",#[],none⟩
 |_,_=>⟨none,.move (.tmp 0),0,"",#[],none⟩
def fP (e:Ty)(r:Nat)(xs:List e.den)(i:Int)(u:List e.den):Option ((List e.den×Unit)×Unit) :=
 if 0<=i/\i<=(xs.length:Int)/\0<u.length/\(xs.length+u.length)*r<=ao then some ((xs.take i.toNat++u++xs.drop i.toNat,()),()) else none
def lO {α:Type}(u:α×Unit->Option Bool):List α->Option (List α)
 |[]=>some []
 |x::y=>(u (x,())).bind λb=>(lO u y).map λr=>bif b then r else x::r
def gK (e:Ty)(xs:List e.den)(u:e.den×Unit->Option Bool):Option ((List e.den×Unit)×Unit):=if xs.length<=1048576 then (lO u xs).map λr=>((r,()),()) else none
abbrev Ty.hd:Ty->Ty
 |.pair a b=>.pair a.hd b.hd
 |.list _ _ _=>.hdr
 |a=>a
abbrev hdD:(a:Ty)->a.den->a.hd.den
 |.pair a b,x=>(hdD a x.1,hdD b x.2)
 |.list _ _ e,r=>List.length (α:=e.den) r
 |.int _,x=>x
 |.bool,x=>x
 |.str,x=>x
 |.unit,x=>x
 |.hdr,x=>x
noncomputable def zu (e:Ty)(r:Nat)(xs:List e.den):Option ((List e.hd.den×Unit)×Unit):=(fJ e r xs).map λy=>((y.1.1.map (hdD e),()),())
def insI (n:Int):List Int->List Int
 |[]=>[n]
 |m::r=>if n<=m then n::m::r else m::insI n r
def zh:List Int->List Int
 |[]=>[]
 |n::r=>insI n (zh r)
def medianM (xs:List Int):Option ((Int×Unit)×Unit) :=
 let l:=zh (xs.drop (xs.length-3))
 some ((l.getD ((l.length-1) / 2) 0,()),())
def aV {R:Type}(x y:ByteArray)(k:ByteArray->Option R):Option R:=bif decide (x.size+y.size<=9223372036854775807) then k (x++y) else none
open Go.RowKit
def cV (w:World)(g off:Nat)(cs:List Value):Prop:=∀ i v,cs[i]?=some v->w.cell? ⟨g,off+i,none⟩=some v
theorem cV.same {w w':World}{g off:Nat}{cs:List Value}(h:cV w g off cs)(r:w'.heap[g]?=w.heap[g]?):cV w' g off cs:=by
 intro i v u;have:=h i v u;simpa[CW,r]using this
def Rd (w:World)(G:Nat->Prop):(a:Ty)->a.den->List Value->Prop
 |.int k,n,r=>r=[.int k n]
 |.bool,b,r=>r=[.bool b]
 |.str,s,r=>r=[.string s]
 |.unit,_,r=>r=[]
 |.hdr,n,r=>∃ A u,r=[.slice A n u]
 |.pair a b,x,r=>∃ H z,r=H++z/\Rd w G a x.1 H/\Rd w G b x.2 z
 |.list _ _ e,y,r=>∃ A u,r=[.slice A y.length u]/\y.length<=u /\
  (0<y.length->∃ g o,A=some ⟨g,o,none⟩/\G g/\∀ j (x:e.den),y[j]?=some x->∃ c,Rd w G e x c/\cV w g (o+j*e.cells) c)
theorem Rd.carry {w w':World}{G G':Nat->Prop}(r:∀ k,G k->G' k)(u:∀ k,G k->w'.heap[k]?=w.heap[k]?) :
  ∀ {a:Ty} {x:a.den} {cs:List Value},Rd w G a x cs->Rd w' G' a x cs
 |.int _,_,_,h=>h
 |.bool,_,_,h=>h
 |.str,_,_,h=>h
 |.unit,_,_,h=>h
 |.hdr,_,_,h=>h
 |.pair _ _,_,_,⟨c1,Y,e,R,O⟩=>⟨c1,Y,e,Rd.carry r u R,Rd.carry r u O⟩
 |.list _ _ _,_,_,⟨A,z,e,I,h⟩=>⟨A,z,e,I,λJ=>by
   obtain⟨g,o,hA,H,Z⟩:=h J;exact⟨g,o,hA,r g H,λj x X=>by
    obtain⟨c,M,y⟩:=Z j x X;exact⟨c,Rd.carry r u M,y.same (u g H)⟩⟩⟩
theorem Rd.mono {w:World}{G G':Nat->Prop}(r:∀ k,G k->G' k){a:Ty}{x:a.den}{cs:List Value}(h:Rd w G a x cs):Rd w G' a x cs :=
 Rd.carry r (λ_ _=>rfl) h
theorem Rd.len {w:World}{G:Nat->Prop}:∀ {a:Ty} {x:a.den} {cs:List Value},Rd w G a x cs->cs.length=a.cells
 |.int _,_,_,h=>by rw[show _=_ from h];rfl
 |.bool,_,_,h=>by rw[show _=_ from h];rfl
 |.str,_,_,h=>by rw[show _=_ from h];rfl
 |.unit,_,_,h=>by rw[show _=_ from h];rfl
 |.hdr,_,_,⟨A,r,e⟩=>by rw[e];rfl
 |.pair _ _,_,_,⟨H,z,e,y,u⟩=>by rw[e,CE,Rd.len y,Rd.len u];rfl
 |.list _ _ _,_,_,⟨A,r,e,_,_⟩=>by rw[e];rfl
theorem Rd.one {w:World}{G:Nat->Prop}:∀ {a:Ty} {x:a.den} {cs:List Value},Rd w G a x cs->∀ v∈cs,v.oneCell'=true
 |.int _,_,_,h=>by rw[show _=_ from h];simp[BK]
 |.bool,_,_,h=>by rw[show _=_ from h];simp[BK]
 |.str,_,_,h=>by rw[show _=_ from h];simp[BK]
 |.unit,_,_,h=>by rw[show _=_ from h];simp
 |.hdr,_,_,⟨A,u,e⟩=>by rw[e];simp[BK]
 |.pair _ _,_,_,⟨I,H,e,y,z⟩=>by
  rw[e];intro v r;rcases BN.1 r with r|r
  ·exact Rd.one y v r
  ·exact Rd.one z v r
 |.list _ _ _,_,_,⟨A,u,e,_,_⟩=>by rw[e];simp[BK]
theorem Rd.flat {w w':World}{G G':Nat->Prop}:∀ {a:Ty} {x:a.den} {cs:List Value},a.flat=true->Rd w G a x cs->Rd w' G' a x cs
 |.int _,_,_,_,h=>h
 |.bool,_,_,_,h=>h
 |.str,_,_,_,h=>h
 |.unit,_,_,_,h=>h
 |.hdr,_,_,_,h=>h
 |.pair _ _,_,_,r,⟨H,u,e,y,z⟩=>by
  simp only[Ty.flat,BD]at r;exact⟨H,u,e,Rd.flat r.1 y,Rd.flat r.2 z⟩
theorem ib:∀ {a b:Ty},a.sh=b.sh->a.cells=b.cells
 |.pair a b,.pair c d,h=>by
  simp only[Ty.sh,Ty.pair.injEq]at h;simp only[Ty.cells,ib h.1,ib h.2]
 |.int _,.int _,_|.int _,.bool,_|.int _,.str,_|.int _,.hdr,_|.int _,.list _ _ _,_=>rfl
 |.bool,.int _,_|.bool,.bool,_|.bool,.str,_|.bool,.hdr,_|.bool,.list _ _ _,_=>rfl
 |.str,.int _,_|.str,.bool,_|.str,.str,_|.str,.hdr,_|.str,.list _ _ _,_=>rfl
 |.hdr,.int _,_|.hdr,.bool,_|.hdr,.str,_|.hdr,.hdr,_|.hdr,.list _ _ _,_=>rfl
 |.list _ _ _,.int _,_|.list _ _ _,.bool,_|.list _ _ _,.str,_|.list _ _ _,.hdr,_|.list _ _ _,.list _ _ _,_=>rfl
 |.unit,.unit,_=>rfl
theorem sl {A u B r:Type}(H:A=u)(z:B=r){x:A×B}{y:u×r}(h:HEq x y):HEq x.1 y.1/\HEq x.2 y.2:=by
 subst H;subst z;cases h;exact⟨HEq.rfl,HEq.rfl⟩
theorem sm {A u:Type}(z:A=u){xs:List A}{r:List u}(h:HEq xs r):xs.length=r.length/\∀ (j:Nat) (y:u),r[j]?=some y->∃ x:A,xs[j]?=some x/\HEq x y:=by
 subst z;cases h;exact⟨rfl,λj y H=>⟨y,H,HEq.rfl⟩⟩
theorem Rd.flags {w:World}{G:Nat->Prop}:∀ {a b:Ty} {x:a.den} {y:b.den} {cs:List Value},a.sh=b.sh->HEq x y->Rd w G a x cs->Rd w G b y cs
 |.pair a b,.pair c d,x,y,cs,h,r,⟨c1,Y,e,u,I⟩=>by
  simp only[Ty.sh,Ty.pair.injEq]at h;obtain⟨J,z⟩:=sl (jq h.1) (jq h.2) r;exact⟨c1,Y,e,Rd.flags h.1 J u,Rd.flags h.2 z I⟩
 |.list _ _ e,.list _ _ e',xs,ys,cs,h,r,⟨A,H,u,I,J⟩=>by
  simp only[Ty.sh,Ty.list.injEq,true_and]at h;obtain⟨z,h5⟩:=sm (jq h.2) r;refine⟨A,H,by rw[<- z];exact u,by rw[<- z];exact I,λO=>?_⟩;obtain⟨g,o,hA,hg,Z⟩:=J (by rw[z];exact O);refine⟨g,o,hA,hg,λj y X=>?_⟩;obtain⟨x,h6,h7⟩:=h5 j y X;obtain⟨c,R,M⟩:=Z j x h6;rw[<- ib h.2];exact⟨c,Rd.flags h.2 h7 R,M⟩
 |.int k,.int k',x,y,cs,h,r,u=>by
  simp only[Ty.sh]at h
  grind
 |.bool,.bool,x,y,cs,h,r,u=>by cases r;exact u
 |.str,.str,x,y,cs,h,r,u=>by cases r;exact u
 |.unit,.unit,x,y,cs,h,r,u=>u
 |.hdr,.hdr,x,y,cs,h,r,u=>by cases r;exact u
def Row (w:World)(E:TypeId)(s:Nat)(v:Value)(n:Nat)(flat:List Value):Prop :=
 flat.length=n*s/\((v=.slice none 0 0/\n=0) \/
  ∃ g u r mk,v=.slice (some ⟨g,0,none⟩) n u/\w.heap[g]?=some (.cells r E mk)/\n<=u/\(mk=(0,0)/\u<=maxLen\/E=5/\r.size<=mk.1)/\u*s<=r.size/\r.toList.take (n*s)=flat)
theorem Row.of {w:World}{b:Nat}{E:TypeId}{s n:Nat}{v:Value}{flat:List Value}(h:w.ownsRow b E s v n flat):Row w E s v n flat:=by
 refine⟨h.1,h.2.imp id ?_⟩
 grind
theorem Row.same {w w':World}{E:TypeId}{s n:Nat}{v:Value}{flat:List Value}(h:Row w E s v n flat)(H:∀ k∈v.ownBlock.toList,w'.heap[k]?=w.heap[k]?):Row w' E s v n flat:=by
 refine⟨h.1,?_⟩;rcases h.2 with I|⟨g,y,u,mk,rfl,z,r⟩
 ·grind
 ·exact .inr ⟨g,y,u,mk,rfl,by rw[H g (by simp[BY])];exact z,r⟩
theorem Row.lt {w:World}{E:TypeId}{s n:Nat}{v:Value}{flat:List Value}(h:Row w E s v n flat):∀ k∈v.ownBlock.toList,k<w.heap.size:=by
 intro k r;rcases h.2 with ⟨rfl,_⟩|⟨g,y,u,_,rfl,z,_⟩
 ·simp[BY]at r
 ·simp[BY]at r
  grind
theorem Row.slice {w:World}{E:TypeId}{s n:Nat}{v:Value}{flat:List Value}(h:Row w E s v n flat):∃ A r,v=.slice A n r/\n<=r:=by
 rcases h.2 with ⟨rfl,z⟩|⟨g,r,u,_,rfl,_,y,_⟩
 ·grind
 ·grind
theorem Row.nil (w:World)(E:TypeId)(s:Nat):Row w E s (.slice none 0 0) 0 []:=⟨by simp,.inl ⟨rfl,rfl⟩⟩
theorem Row.cellAt {w:World}{E:TypeId}{s n g u:Nat}{flat:List Value}(h:Row w E s (.slice (some ⟨g,0,none⟩) n u) n flat)(j:Nat)(I:j<n*s):w.cell? ⟨g,j,none⟩=flat[j]?:=by
 rcases h.2 with ⟨y,_⟩|⟨M,H,z,mk,y,J,_,_,_,r⟩
 ·grind
 ·simp at y;obtain⟨rfl,rfl⟩:=y;rw[cell_of_row w g j z E mk J,<- r,BP,if_pos I];simp
theorem zi {mk:Nat×Nat}{E z c:Nat}(h:mk=(0,0)/\c<=maxLen\/E=5/\z<=mk.1):mk.2=0\/z<=mk.1:=h.imp (λh=>by rw[h.1]) (·.2)
theorem qQ {w:World}{g j:Nat}{cs:Array Value}{E:TypeId}{mk:Nat×Nat}(r:w.heap[g]?=some (.cells cs E mk))(u:mk.2=0\/cs.size<=mk.1)(y:j<cs.size):w.frozen? ⟨g,j,none⟩=false:=by
 simp only[World.frozen?,r,Bool.and_eq_false_iff,decide_eq_false_iff_not];omega
def Mx (w:World)(G:Nat->Prop):(a:Ty)->Option Nat->Nat->a.den->List Value->List Nat->Prop
 |.int k,_,_,n,y,r=>y=[.int k n]/\r=[]
 |.bool,_,_,b,y,r=>y=[.bool b]/\r=[]
 |.str,_,_,s,y,r=>y=[.string s]/\r=[]
 |.unit,_,_,_,y,r=>y=[]/\r=[]
 |.hdr,_,_,n,y,r=>(∃ A J,y=[.slice A n J])/\r=[]
 |.pair a b,h,pos,x,y,r=>∃ O M R X,y=O++M/\r=R++X/\Mx w G a h pos x.1 O R/\Mx w G b h (pos+a.cells) x.2 M X
 |.list m E e,h,pos,I,y,r=>∃ v,y=[v]/\v.oneCell'=true /\
  (if m=true then (if h=some pos then r=[] else ∃ z H,Row w E e.cells v I.length z/\r=v.ownBlock.toList++(Br I.length).flatMap H /\
    ∀ j (x:e.den),I[j]?=some x->∃ c,Mx w G e none 0 x c (H j)/\∀ i u,c[i]?=some u->z[j*e.cells+i]?=some u)
   else r=[]/\Rd w G (.list m E e) I [v])
def OwB (w:World)(G:Nat->Prop)(h:Option (Nat×Nat))(E:TypeId)(e:Ty)(xs:List e.den)(v:Value)(bs:List Nat):Prop :=
 ∃ r y,Row w E e.cells v xs.length r/\bs=v.ownBlock.toList++(Br xs.length).flatMap y /\
  ∀ j (x:e.den),xs[j]?=some x->∃ c,Mx w G e (cQ h j) 0 x c (y j)/\∀ i u,c[i]?=some u->r[j*e.cells+i]?=some u
def OwH (w:World)(G:Nat->Prop)(h:Option (Nat×Nat))(E:TypeId)(e:Ty)(xs:List e.den)(v:Value)(bs:List Nat):Prop:=bs.Nodup/\OwB w G h E e xs v bs
abbrev Ow (w:World)(G:Nat->Prop)(E:TypeId)(e:Ty)(xs:List e.den)(v:Value)(bs:List Nat):Prop:=OwH w G none E e xs v bs
theorem OwB.one {w:World}{G:Nat->Prop}{h:Option (Nat×Nat)}{E:TypeId}{e:Ty}{xs:List e.den}{v:Value}{bs:List Nat}(H:OwB w G h E e xs v bs):v.oneCell'=true:=by
 obtain⟨r,u,z,_⟩:=H;obtain⟨A,y,rfl,_⟩:=z.slice;rfl
theorem bH {w:World}{G:Nat->Prop}{h:Option Nat}{E:TypeId}{e:Ty}{pos:Nat}{xs:List e.den}{cs:List Value}{bs:List Nat}(r:h≠some pos) :
  Mx w G (.list true E e) h pos xs cs bs<->∃ v,cs=[v]/\OwB w G none E e xs v bs:=by
 simp only[Mx,if_neg r];constructor
 ·rintro⟨v,h1,h2,h3⟩;exact⟨v,h1,h3⟩
 ·rintro⟨v,h1,h3⟩;exact⟨v,h1,h3.one,h3⟩
theorem iZ {w:World}{G:Nat->Prop}{E:TypeId}{e:Ty}{pos:Nat}{xs:List e.den}{cs:List Value}{bs:List Nat} :
  Mx w G (.list true E e) (some pos) pos xs cs bs<->∃ v,cs=[v]/\v.oneCell'=true/\bs=[]:=by
 simp only[Mx,if_true]
theorem cq {w:World}{G:Nat->Prop}{h:Option Nat}{E:TypeId}{e:Ty}{pos:Nat}{xs:List e.den}{cs:List Value}{bs:List Nat} :
  Mx w G (.list false E e) h pos xs cs bs<->bs=[]/\Rd w G (.list false E e) xs cs:=by
 simp only[Mx];constructor
 ·grind
 ·rintro⟨h1,h2⟩;obtain⟨A,r,y,u⟩:=h2;exact⟨_,y,rfl,h1,A,r,rfl,u⟩
theorem dV {n:Nat}{r:Nat->List Nat}{k:Nat}:k∈(Br n).flatMap r<->∃ j,j<n/\k∈r j:=by simp
theorem Mx.carry {w w':World}{G G':Nat->Prop}(I:∀ k,G k->G' k)(J:∀ k,G k->w'.heap[k]?=w.heap[k]?) :
  ∀ {a:Ty} {h:Option Nat} {pos:Nat} {x:a.den} {cs:List Value} {bs:List Nat},(∀ k∈bs,w'.heap[k]?=w.heap[k]?)->Mx w G a h pos x cs bs->Mx w' G' a h pos x cs bs
 |.int _,_,_,_,_,_,_,h=>h
 |.bool,_,_,_,_,_,_,h=>h
 |.str,_,_,_,_,_,_,h=>h
 |.unit,_,_,_,_,_,_,h=>h
 |.hdr,_,_,_,_,_,_,h=>h
 |.pair _ _,_,_,_,_,_,u,⟨c1,c2,b1,b2,X,M,O,y⟩=>⟨c1,c2,b1,b2,X,M,Mx.carry I J (λk r=>u k (by rw[M];exact BG _ r)) O,Mx.carry I J (λk r=>u k (by rw[M];exact BF _ r)) y⟩
 |.list m E e,h,pos,xs,cs,bs,u,H=>by
  cases m with
  |false =>
   rw[cq]at H ⊢;exact⟨H.1,H.2.carry I J⟩
  |true =>
   by_cases Y:h=some pos
   ·subst Y;rw[iZ]at H ⊢;exact H
   ·rw[bH Y]at H ⊢;obtain⟨v,X,z,R,O,y,h3⟩:=H;refine⟨v,X,z,R,O.same (λk r=>u k (by rw[y];exact BG _ r)),y,λj x Z=>?_⟩;obtain⟨c,h4,h5⟩:=h3 j x Z;refine⟨c,?_,h5⟩;exact Mx.carry I J (λk r=>u k (by rw[y];exact BF _ (dV.2 ⟨j,(BC.1 Z).1,r⟩))) h4
theorem Mx.mono {w:World}{G G':Nat->Prop}(r:∀ k,G k->G' k){a:Ty}{h:Option Nat}{pos:Nat}{x:a.den}{cs:List Value}{bs:List Nat}(H:Mx w G a h pos x cs bs):Mx w G' a h pos x cs bs :=
 Mx.carry r (λ_ _=>rfl) (λ_ _=>rfl) H
theorem OwB.carry {w w':World}{G G':Nat->Prop}{h:Option (Nat×Nat)}{E:TypeId}{e:Ty}{xs:List e.den}{v:Value}{bs:List Nat}(H:OwB w G h E e xs v bs)
  (R:∀ k,G k->G' k) (X:∀ k,G k->w'.heap[k]?=w.heap[k]?) (I:∀ k∈bs,w'.heap[k]?=w.heap[k]?):OwB w' G' h E e xs v bs:=by
 obtain⟨r,z,M,y,Y⟩:=H;refine⟨r,z,M.same (λk u=>I k (by rw[y];exact BG _ u)),y,λj x J=>?_⟩;obtain⟨c,O,Z⟩:=Y j x J;exact⟨c,Mx.carry R X (λk u=>I k (by rw[y];exact BF _ (dV.2 ⟨j,(BC.1 J).1,u⟩))) O,Z⟩
theorem OwH.carry {w w':World}{G G':Nat->Prop}{h:Option (Nat×Nat)}{E:TypeId}{e:Ty}{xs:List e.den}{v:Value}{bs:List Nat}(H:OwH w G h E e xs v bs)
 (r:∀ k,G k->G' k) (u:∀ k,G k->w'.heap[k]?=w.heap[k]?) (y:∀ k∈bs,w'.heap[k]?=w.heap[k]?):OwH w' G' h E e xs v bs:=⟨H.1,H.2.carry r u y⟩
theorem Mx.len {w:World}{G:Nat->Prop}:∀ {a:Ty} {h:Option Nat} {pos:Nat} {x:a.den} {cs:List Value} {bs:List Nat},Mx w G a h pos x cs bs->cs.length=a.cells
 |.int _,_,_,_,_,_,h=>by rw[h.1];rfl
 |.bool,_,_,_,_,_,h=>by rw[h.1];rfl
 |.str,_,_,_,_,_,h=>by rw[h.1];rfl
 |.unit,_,_,_,_,_,h=>by rw[h.1];rfl
 |.hdr,_,_,_,_,_,⟨⟨A,r,e⟩,_⟩=>by rw[e];rfl
 |.pair _ _,_,_,_,_,_,⟨J,I,M,O,z,H,y,u⟩=>by rw[z,CE,y.len,u.len];rfl
 |.list _ _ _,_,_,_,_,_,⟨v,e,_⟩=>by rw[e];rfl
theorem Mx.one {w:World}{G:Nat->Prop}:∀ {a:Ty} {h:Option Nat} {pos:Nat} {x:a.den} {cs:List Value} {bs:List Nat},Mx w G a h pos x cs bs->∀ v∈cs,v.oneCell'=true
 |.int _,_,_,_,_,_,h=>by rw[h.1];simp[BK]
 |.bool,_,_,_,_,_,h=>by rw[h.1];simp[BK]
 |.str,_,_,_,_,_,h=>by rw[h.1];simp[BK]
 |.unit,_,_,_,_,_,h=>by rw[h.1];simp
 |.hdr,_,_,_,_,_,⟨⟨A,y,e⟩,_⟩=>by rw[e];simp[BK]
 |.pair _ _,_,_,_,_,_,⟨M,J,O,R,H,I,u,z⟩=>by
  rw[H];intro v r;rcases BN.1 r with r|r
  ·exact u.one v r
  ·exact z.one v r
 |.list _ _ _,_,_,_,_,_,⟨v,e,u,_⟩=>by rw[e];simpa using u
theorem Mx.lt {w:World}{G:Nat->Prop}:∀ {a:Ty} {h:Option Nat} {pos:Nat} {x:a.den} {cs:List Value} {bs:List Nat},Mx w G a h pos x cs bs->∀ k∈bs,k<w.heap.size
 |.int _,_,_,_,_,_,h=>by rw[h.2];simp
 |.bool,_,_,_,_,_,h=>by rw[h.2];simp
 |.str,_,_,_,_,_,h=>by rw[h.2];simp
 |.unit,_,_,_,_,_,h=>by rw[h.2];simp
 |.hdr,_,_,_,_,_,h=>by rw[h.2];simp
 |.pair _ _,_,_,_,_,_,⟨c1,Z,b1,b2,Y,J,y,u⟩=>by
  rw[J];intro k r;rcases BN.1 r with r|r
  ·exact y.lt k r
  ·exact u.lt k r
 |.list m E e,h,pos,xs,cs,bs,H=>by
  cases m with
  |false=>rw[cq]at H;rw[H.1];simp
  |true =>
   by_cases z:h=some pos
   ·subst z;rw[iZ]at H
    grind
   ·rw[bH z]at H;obtain⟨v,Y,I,R,y,u,X⟩:=H;rw[u];intro k r;rcases BN.1 r with r|r
    ·exact y.lt k r
    ·obtain⟨j,M,r⟩:=dV.1 r;obtain⟨c,O,_⟩:=X j _ (BE M);exact O.lt k r
theorem OwB.lt {w:World}{G:Nat->Prop}{h:Option (Nat×Nat)}{E:TypeId}{e:Ty}{xs:List e.den}{v:Value}{bs:List Nat}(H:OwB w G h E e xs v bs):∀ k∈bs,k<w.heap.size:=by
 obtain⟨u,M,z,y,O⟩:=H;rw[y];intro k r;rcases BN.1 r with r|r
 ·exact z.lt k r
 ·obtain⟨j,I,r⟩:=dV.1 r;obtain⟨c,J,_⟩:=O j _ (BE I);exact J.lt k r
theorem OwH.lt {w:World}{G:Nat->Prop}{h:Option (Nat×Nat)}{E:TypeId}{e:Ty}{xs:List e.den}{v:Value}{bs:List Nat}(H:OwH w G h E e xs v bs):∀ k∈bs,k<w.heap.size:=H.2.lt
theorem OwH.nodup {w:World}{G:Nat->Prop}{h:Option (Nat×Nat)}{E:TypeId}{e:Ty}{xs:List e.den}{v:Value}{bs:List Nat}(H:OwH w G h E e xs v bs):bs.Nodup:=H.1
theorem OwH.slice {w:World}{G:Nat->Prop}{h:Option (Nat×Nat)}{E:TypeId}{e:Ty}{xs:List e.den}{v:Value}{bs:List Nat}(H:OwH w G h E e xs v bs) :
  ∃ A r,v=.slice A xs.length r/\xs.length<=r:=by
 obtain⟨_,u,y,z,_⟩:=H;exact z.slice
theorem OwH.one {w:World}{G:Nat->Prop}{h:Option (Nat×Nat)}{E:TypeId}{e:Ty}{xs:List e.den}{v:Value}{bs:List Nat}(H:OwH w G h E e xs v bs):v.oneCell'=true:=H.2.one
theorem sn {w:World}{m:Bool}{E E':TypeId}{e:Ty}{xs:List e.den}{v:Value}{flat:List Value}{S:Nat->Prop}(J:Row w E e.cells v xs.length flat)(Z:∀ k∈v.ownBlock.toList,S k)
  (X:∀ j (x:e.den),xs[j]?=some x->∃ c,Rd w S e x c/\∀ i u,c[i]?=some u->flat[j*e.cells+i]?=some u):Rd w S (.list m E' e) xs [v]:=by
 rcases J.2 with ⟨rfl,R⟩|⟨g,y,z,mk,rfl,Y,H,hm,hs,O⟩
 ·exact⟨none,0,by rw[R],by omega,λhp=>by omega⟩
 ·refine⟨some ⟨g,0,none⟩,y,rfl,H,λ_=>⟨g,0,rfl,Z g (by simp[BY]),λj x M=>?_⟩⟩;obtain⟨c,I,r⟩:=X j x M;refine⟨c,I,λi u hu=>?_⟩;have:=r i u hu;rw[<- O,BP]at this;split at this
  ·rw[CH,cell_of_row w g _ z E mk Y]
   simp_all
  ·grind
theorem Mx.rd {w:World}{G S:Nat->Prop}(z:∀ k,G k->S k):∀ {a:Ty} {pos:Nat} {x:a.den} {cs:List Value} {bs:List Nat},(∀ k∈bs,S k)->Mx w G a none pos x cs bs->Rd w S a x cs
 |.int _,_,_,_,_,_,h=>h.1
 |.bool,_,_,_,_,_,h=>h.1
 |.str,_,_,_,_,_,h=>h.1
 |.unit,_,_,_,_,_,h=>h.1
 |.hdr,_,_,_,_,_,h=>h.1
 |.pair _ _,_,_,_,_,u,⟨c1,c2,b1,b2,O,R,I,y⟩=>⟨c1,c2,O,Mx.rd z (λk r=>u k (by rw[R];exact BG _ r)) I,Mx.rd z (λk r=>u k (by rw[R];exact BF _ r)) y⟩
 |.list m E e,pos,xs,cs,bs,u,H=>by
  cases m with
  |false=>rw[cq]at H;exact H.2.mono z
  |true =>
   rw[bH (by simp)]at H;obtain⟨v,O,X,J,I,y,h3⟩:=H;rw[O];refine sn I (λk r=>u k (by rw[y];exact BG _ r)) λj x Y=>?_
   obtain⟨c,Z,h5⟩:=h3 j x Y;have M:Mx w G e none 0 x c (J j):=Z;exact⟨c,Mx.rd z (λk r=>u k (by rw[y];exact BF _ (dV.2 ⟨j,(BC.1 Y).1,r⟩))) M,h5⟩
theorem OwH.rd {w:World}{G:Nat->Prop}{m:Bool}{E E':TypeId}{e:Ty}{xs:List e.den}{v:Value}{bs:List Nat}(H:Ow w G E e xs v bs) :
  Rd w (λk=>G k\/k∈bs) (.list m E' e) xs [v]:=by
 obtain⟨_,I,u,M,z,R⟩:=H;refine sn M (λk r=>.inr (by rw[z];exact BG _ r)) λj x J=>?_
 obtain⟨c,O,X⟩:=R j x J;have y:Mx w G e none 0 x c (u j):=O;exact⟨c,y.rd (λk r=>.inl r) (λk r=>.inr (by rw[z];exact BF _ (dV.2 ⟨j,(BC.1 J).1,r⟩))),X⟩
theorem OwH.nil (w:World)(G:Nat->Prop)(E:TypeId)(e:Ty):Ow w G E e [] (.slice none 0 0) [] :=
 ⟨List.nodup_nil,[],λ_=>[],Row.nil w E e.cells,rfl,λj x r=>by simp at r⟩
theorem Rd.nil (w:World)(G:Nat->Prop)(m:Bool)(E:TypeId)(e:Ty):Rd w G (.list m E e) [] [.slice none 0 0] :=
 ⟨none,0,rfl,BI _,λh=>by simp at h⟩
theorem Mx.flat {w w':World}{G G':Nat->Prop}:∀ {a:Ty} {h:Option Nat} {pos:Nat} {x:a.den} {cs:List Value},a.flat=true->Rd w G a x cs->Mx w' G' a h pos x cs []
 |.int _,_,_,_,_,_,h=>⟨h,rfl⟩
 |.bool,_,_,_,_,_,h=>⟨h,rfl⟩
 |.str,_,_,_,_,_,h=>⟨h,rfl⟩
 |.unit,_,_,_,_,_,h=>⟨h,rfl⟩
 |.hdr,_,_,_,_,_,h=>⟨h,rfl⟩
 |.pair _ _,_,_,_,_,r,⟨H,u,e,y,z⟩=>by
  simp only[Ty.flat,BD]at r;exact⟨H,u,[],[],e,rfl,Mx.flat r.1 y,Mx.flat r.2 z⟩
theorem Mx.shared {w:World}{G:Nat->Prop}:∀ {a:Ty} {h:Option Nat} {pos:Nat} {x:a.den} {cs:List Value},a.sh=a->Rd w G a x cs->Mx w G a h pos x cs []
 |.int _,_,_,_,_,_,h=>⟨h,rfl⟩
 |.bool,_,_,_,_,_,h=>⟨h,rfl⟩
 |.str,_,_,_,_,_,h=>⟨h,rfl⟩
 |.unit,_,_,_,_,_,h=>⟨h,rfl⟩
 |.hdr,_,_,_,_,_,h=>⟨h,rfl⟩
 |.pair _ _,_,_,_,_,r,⟨H,u,e,z,y⟩=>by
  simp only[Ty.sh,Ty.pair.injEq]at r;exact⟨H,u,[],[],e,rfl,Mx.shared r.1 z,Mx.shared r.2 y⟩
 |.list m E e,_,_,_,_,r,h=>by
  simp only[Ty.sh,Ty.list.injEq]at r;obtain⟨rfl,_⟩:=r;exact cq.2 ⟨rfl,h⟩
def da (agg:Bool)(v:Value)(cs:List Value):Prop:=if agg then v=.agg cs.toArray else cs=[v]
def rY (w:World)(G:Nat->Prop):(y:List Ty)->Tup y->List Value->Prop
 |[],_,u=>u=[]
 |a::as,x,u=>∃ v c r,u=v::r/\da a.isAgg v c/\Rd w G a x.1 c/\rY w G as x.2 r
def fQ (P:Program)(f:FuncId):Prop:=∀ (r:Array Value) (w:World),(callFunc f r).run P w=.ok (.enter f r) w
def ic (P:Program)(w0:World)(S:Nat->Prop)(H:List Ty)(B:Ty)(I:Tup H->Option B.den)(v:Value):Prop :=
 ∃ f r,v=.func (.func f) #[] r/\fQ P f /\
  ∀ w1:World,w0.heap.size<=w1.heap.size->(∀ k,S k->w1.heap[k]?=w0.heap[k]?) ->
   ∀ (x:Tup H) (z:List Value) (y:B.den),rY w1 (λk=>k<w1.heap.size) H x z->I x=some y ->
    Calls P f (z.toArray++r) w1 (λe w2=>∃ u c,e=.returned u/\da B.isAgg u c/\Rd w2 (λ_=>False) B y c/\Below w1.heap.size w1 w2)
structure Env where
 w0:World
 ro0:Nat->Prop
 own0:List Nat
 nt:Nat
 fixb:List (Nat×Nat)
 fixt:List (Nat×Value)
def Env.prot (V:Env)(k:Nat):Prop:=k<V.w0.heap.size/\k∉V.own0
structure Wit where
 β:Nat->Nat
 cs:Nat->List Value
 bs:Nat->Nat->List Nat
 nw:Nat->Prop
def gd (V:Env)(W:Wit)(p:Bool)(k:Nat):Prop:=W.nw k\/(p=true/\V.ro0 k)
def ap:Leaf->Prop
 |.own _ _ _ _ _=>True
 |_=>False
def RpOk (V:Env)(W:Wit)(w:World)(p:Bool)(a:Ty)(x:a.den)(off:Nat)(v:Value):Prop :=
 ∃ g o c,v=.pointer (some ⟨g,o+off,none⟩)/\(W.nw g\/V.prot g)/\Rd w (gd V W p) a x c/\cV w g o c
def rZ (V:Env)(W:Wit)(w:World)(p:Bool)(a:Ty)(x:a.den)(v:Value):Prop :=
 ∃ b r g o c,v=.pointer (some ⟨b,r,none⟩)/\(W.nw b\/V.prot b)/\w.cell? ⟨b,r,none⟩=some (.pointer (some ⟨g,o,none⟩)) /\
  (W.nw g\/V.prot g)/\Rd w (gd V W p) a x c/\cV w g o c
def iM (V:Env)(W:Wit)(w:World)(c:Bool×Bool×(a:Ty)×a.den)(v:Value):Prop :=
 if c.2.1=true then rZ V W w c.1 c.2.2.1 c.2.2.2 v else RpOk V W w c.1 c.2.2.1 c.2.2.2 0 v
def r8 (st:St)(ks:List (Nat×Nat×Nat)):Prop:=∀ k∈ks,∃ l,(st k.1).ls[k.2.1]?=some l/\ap l
structure r9 (V:Env) (W:Wit) (w:World) (p:Bool) (ks:List (Nat×Nat×Nat)) (loc:Option (Nat×Nat×Nat)) (E:TypeId) (e:Ty) (xs:List e.den) (v:Value):Prop where
 rd:Rd w (λb=>gd V W p b\/∃ k∈ks,b∈W.bs k.1 k.2.1) (.list false E e) xs [v]
 at_:∀ i sz off,loc=some (i,sz,off)->∃ r j n,ks=[(r,j,n)]/\∃ g len cap,(W.cs r)[j]?=some (.slice (some ⟨g,0,none⟩) len cap)/\i<len/\g∈W.bs r j/\w.cell? ⟨g,i*sz+off,none⟩=some v
structure NpOk (V:Env) (W:Wit) (w:World) (p:Bool) (ks:List (Nat×Nat×Nat)) (a:Ty) (x:a.den) (off:Nat) (v:Value):Prop where
 rd:∃ g o c,v=.pointer (some ⟨g,o+off,none⟩)/\(gd V W p g\/∃ k∈ks,g∈W.bs k.1 k.2.1)/\Rd w (λb=>gd V W p b\/∃ k∈ks,b∈W.bs k.1 k.2.1) a x c/\cV w g o c
def aK (P:Program)(V:Env)(W:Wit)(st:St)(w:World)(bs:List Nat):Leaf->Value->Prop
 |.int k n,v=>v=.int k n
 |.bool b,v=>v=.bool b
 |.str s,v=>v=.string s
 |.nil,v=>v=.slice none 0 0
 |.hdr n,v=>∃ A H,v=.slice A n H
 |.ro p E e J,v=>Rd w (gd V W p) (.list false E e) J [v]
 |.own p h E e J,v=>OwH w (gd V W p) h E e J v bs
 |.al r j n,v=>n<=(st r).ver/\((st r).ver=n->(W.cs r)[j]?=some v)
 |.nal p z ep O E e J,v=>ep<=(st EPO).ver/\(∀ k∈z,k.2.2<=(st k.1).ver)/\((st EPO).ver=ep->(∀ k∈z,(st k.1).ver=k.2.2)->r8 st z->r9 V W w p z O E e J v)
 |.ep r j n i X off,v=>n<=(st r).ver/\((st r).ver=n->∃ g I H,(W.cs r)[j]?=some (.slice (some ⟨g,0,none⟩) I H)/\i<I/\v=.pointer (some ⟨g,i*X+off,none⟩))
 |.np p z ep a x off,v=>ep<=(st EPO).ver/\(∀ k∈z,k.2.2<=(st k.1).ver)/\((st EPO).ver=ep->(∀ k∈z,(st k.1).ver=k.2.2)->r8 st z->NpOk V W w p z a x off v)
 |.rp p a x off,v=>RpOk V W w p a x off v
 |.rpp p a x,v=>rZ V W w p a x v
 |.bp b off,v=>B0<=b/\(st b).sh=.agg/\v=.pointer (some ⟨W.β b,off,none⟩)
 |.clo f y,v=>v=.func (.func f) #[] (y.map λb=>Value.pointer (some ⟨W.β b,0,none⟩)).toArray/\∀ b∈y,B0<=b/\(st b).sh=.agg
 |.clr f y,v=>∃ M:List Value,v=.func (.func f) #[] M.toArray/\M.length=y.length/\∀ (i:Nat) (c:Bool×Bool×(a:Ty)×a.den) (u:Value),y[i]?=some c->M[i]?=some u->iM V W w c u
 |.fn Y B R,v=>ic P V.w0 V.prot Y B R v
 |.dead,_=>True
def pu:List (Bool×Nat)->List Value->List Value->Prop
 |[],y,z=>y=[]/\z=[]
 |(agg,n)::H,y,z=>∃ v u c r,y=v::u/\z=c++r/\c.length=n/\da agg v c/\pu H u r
def ee:aI->Value->List Value->Prop
 |.off,_,r=>r=[]
 |.und,v,r=>v=undef/\r=[]
 |.one,v,r=>r=[v]
 |.agg,v,r=>v=.agg r.toArray
 |.tup y,v,r=>∃ u,v=.tuple u.toArray/\pu y u r
def live (st:St)(b:Nat):Prop:=B0<=b/\(st b).sh=.agg
structure aq (P:Program) (V:Env) (W:Wit) (st:St) (a:Act) (w:World):Prop where
 nt:a.tmps.size=V.nt
 df:a.defers=[]
 slots:∀ t,t<GH->ee (st t).sh (a.tmps.getD t undef) (W.cs t)
 boxes:∀ b,B0<=b->((st b).sh=.off/\(st b).ls=[])\/((st b).sh=.agg/\∃ E,w.heap[W.β b]?=some (.cells (W.cs b).toArray E (0,0)))
 len:∀ r,(st r).ls.length=(W.cs r).length
 one:∀ r,∀ v∈W.cs r,v.oneCell'=true
 leaf:∀ r j l v,(st r).ls[j]?=some l->(W.cs r)[j]?=some v->aK P V W st w (W.bs r j) l v
 ownb:∀ r j l,(st r).ls[j]?=some l->ap l->∀ k∈W.bs r j,¬ W.nw k/\¬ V.prot k/\∀ b,live st b->W.β b≠k
 sep:∀ r j l r' j' l',(st r).ls[j]?=some l->ap l->(st r').ls[j']?=some l'->ap l'->∀ k,k∈W.bs r j->k∈W.bs r' j'->r=r'/\j=j'
 box:∀ b,live st b->¬ W.nw (W.β b)/\¬ V.prot (W.β b)
 inj:∀ b b',live st b->live st b'->W.β b=W.β b'->b=b'
 nwlt:∀ k,W.nw k->k<w.heap.size/\¬ V.prot k
 os:w.os=V.w0.os
 tape:w.tape=V.w0.tape
 output:w.output=V.w0.output
 size:V.w0.heap.size<=w.heap.size
 keep:∀ k,V.prot k->w.heap[k]?=V.w0.heap[k]?
 fixb:∀ x∈V.fixb,live st x.1/\W.β x.1=x.2
 fixt:∀ x∈V.fixt,a.tmps.getD x.1 undef=x.2
def Rel (P:Program)(V:Env)(st:St)(a:Act)(w:World):Prop:=∃ W,aq P V W st a w
structure ay (V:Env):Prop where
 ro:∀ k,V.ro0 k->V.prot k
 nt:V.nt<=GH
theorem ay.ntB {V:Env}(h:ay V):V.nt<=B0:=BL h.nt (by decide)
section
variable {P:Program} {V:Env} {W W':Wit} {st st':St} {w w':World}
theorem bU {p q:Bool}(u:p=true->q=true)(y:∀ k,W.nw k->W'.nw k):∀ k,gd V W p k->gd V W' q k:=by
 intro k r;rcases r with r|⟨z,r⟩
 ·exact .inl (y k r)
 ·exact .inr ⟨u z,r⟩
structure cF (V:Env) (W W':Wit) (st st':St) (w w':World):Prop where
 ver:∀ r,(st r).ver<=(st' r).ver/\((st' r).ver=(st r).ver->W'.cs r=W.cs r)
 box:∀ b,live st b->live st' b/\W'.β b=W.β b
 nw:∀ k,W.nw k->W'.nw k
 heap:∀ k,(W.nw k\/V.prot k)->w'.heap[k]?=w.heap[k]?
 epo:(st' EPO).ver=(st EPO).ver->∀ (r j:Nat) (l:Leaf),(st' r).ls[j]?=some l->ap l->(st' r).ver=(st r).ver ->
  (∃ l',(st r).ls[j]?=some l'/\ap l')/\W'.bs r j=W.bs r j/\∀ k∈W.bs r j,w'.heap[k]?=w.heap[k]?
theorem cF.refl (V:Env)(W:Wit)(st:St)(w:World):cF V W W st st w w :=
 ⟨λ_=>⟨BI _,λ_=>rfl⟩,λ_ y=>⟨y,rfl⟩,λ_ h=>h,λ_ _=>rfl,λ_ _ _ l u r _=>⟨⟨l,u,r⟩,rfl,λ_ _=>rfl⟩⟩
theorem kx {w w':World}{a:Addr}(h:w'.heap[a.block]?=w.heap[a.block]?):w'.cell? a=w.cell? a:=by simp[CW,h]
theorem cF.gdheap (u:∀ k,V.ro0 k->V.prot k)(h:cF V W W' st st' w w')(p:Bool):∀ k,gd V W p k->w'.heap[k]?=w.heap[k]?:=by
 intro k r;rcases r with r|⟨_,r⟩
 ·exact h.heap k (.inl r)
 ·exact h.heap k (.inr (u k r))
theorem wE {ks:List (Nat×Nat×Nat)}{ep:Nat}(u:cF V W W' st st' w w')(I:ep<=(st EPO).ver)(z:∀ k∈ks,k.2.2<=(st k.1).ver)(H:(st' EPO).ver=ep)(y:∀ k∈ks,(st' k.1).ver=k.2.2) :
  (st EPO).ver=ep/\∀ k∈ks,(st k.1).ver=k.2.2 :=
 ⟨by have:=(u.ver EPO).1;omega,λk r=>by have:=(u.ver k.1).1;have:=z k r;have:=y k r;omega⟩
theorem cF.places {ks:List (Nat×Nat×Nat)}{ep:Nat}(J:cF V W W' st st' w w')(M:r8 st' ks)(R:(st EPO).ver=ep)(y:∀ k∈ks,(st k.1).ver=k.2.2)
  (O:(st' EPO).ver=ep) (H:∀ k∈ks,(st' k.1).ver=k.2.2) :
  ∀ k∈ks,(∃ u,(st k.1).ls[k.2.1]?=some u/\ap u)/\W'.bs k.1 k.2.1=W.bs k.1 k.2.1/\∀ b∈W.bs k.1 k.2.1,w'.heap[b]?=w.heap[b]?:=λk r=>by
 obtain⟨l,I,z⟩:=M k r;exact J.epo (by omega) k.1 k.2.1 l I z (by rw[H k r,y k r])
theorem aK.carry (J:∀ k,V.ro0 k->V.prot k){bs bs':List Nat}{l:Leaf}{v:Value}(h:aK P V W st w bs l v)(y:cF V W W' st st' w w')
  (a2:ap l->bs'=bs/\∀ k∈bs,w'.heap[k]?=w.heap[k]?):aK P V W' st' w' bs' l v:=by
 have hG:∀ p k,gd V W p k->gd V W' p k:=λp=>bU (λh=>h) y.nw
 have hP:∀ k,(W.nw k\/V.prot k)->(W'.nw k\/V.prot k):=λk M=>M.imp (y.nw k) id
 have hR:∀ {p:Bool} {a:Ty} {x:a.den} {off:Nat} {v:Value},RpOk V W w p a x off v->RpOk V W' w' p a x off v:=by
  rintro p a x off v ⟨g,o,c,hv,Y,hr,Z⟩;exact⟨g,o,c,hv,hP g Y,Rd.carry (hG p) (y.gdheap J p) hr,Z.same (y.heap g Y)⟩
 have a3:∀ {p:Bool} {a:Ty} {x:a.den} {v:Value},rZ V W w p a x v->rZ V W' w' p a x v:=by
  rintro p a x v ⟨b,ob,g,o,c,hv,H,a0,Y,hr,Z⟩;exact⟨b,ob,g,o,c,hv,hP b H,by rw[kx (y.heap b H)];exact a0,hP g Y,Rd.carry (hG p) (y.gdheap J p) hr,Z.same (y.heap g Y)⟩
 cases l with
 |int k n=>exact h
 |bool b=>exact h
 |str s=>exact h
 |nil=>exact h
 |hdr n=>exact h
 |ro p E e xs=>exact Rd.carry (hG p) (y.gdheap J p) h
 |own p hh E e xs =>
  obtain⟨rfl,H⟩:=a2 trivial;exact OwH.carry h (hG p) (y.gdheap J p) H
 |nal p ks ep a9 E e xs =>
  obtain⟨z,I,O⟩:=h;refine⟨BL z (y.ver EPO).1,λk M=>BL (I k M) (y.ver k.1).1,λhe M ho=>?_⟩;obtain⟨e1,e2⟩:=wE y z I he M;have h5:=y.places ho e1 e2 he M;have R:=O e1 e2 (λk X=>(h5 k X).1);refine⟨Rd.carry ?_ ?_ R.rd,λi sz off hl=>?_⟩
  ·grind
  ·rintro b (H|⟨k,X,H⟩)
   ·exact y.gdheap J p b H
   ·grind
  ·obtain⟨r,j,n,rfl,g,a6,a5,h6,h7,h8,h9⟩:=R.at_ i sz off hl;have X:(r,j,n)∈[(r,j,n)]:=CF ..;have a4:(st' r).ver=(st r).ver:=(M _ X).trans (e2 _ X).symm;refine⟨r,j,n,rfl,g,a6,a5,by rw[(y.ver r).2 a4];exact h6,h7,by rw[(h5 _ X).2.1];exact h8,?_⟩;rw[kx ((h5 _ X).2.2 g h8)];exact h9
 |np p ks ep a x off =>
  obtain⟨z,I,O⟩:=h;refine⟨BL z (y.ver EPO).1,λk M=>BL (I k M) (y.ver k.1).1,λhe M ho=>?_⟩;obtain⟨e1,e2⟩:=wE y z I he M;have h5:=y.places ho e1 e2 he M;have R:=O e1 e2 (λk X=>(h5 k X).1);have hS:∀ b,(gd V W p b\/∃ k∈ks,b∈W.bs k.1 k.2.1)->(gd V W' p b\/∃ k∈ks,b∈W'.bs k.1 k.2.1):=by
   grind
  have hW:∀ b,(gd V W p b\/∃ k∈ks,b∈W.bs k.1 k.2.1)->w'.heap[b]?=w.heap[b]?:=by
   rintro b (H|⟨k,X,H⟩)
   ·exact y.gdheap J p b H
   ·grind
  obtain⟨g,o,c,hv,Y,hr,Z⟩:=R.rd;exact⟨g,o,c,hv,hS g Y,Rd.carry hS hW hr,Z.same (hW g Y)⟩
 |al r j n =>
  obtain⟨z,I⟩:=h;obtain⟨O,R⟩:=y.ver r;refine⟨BL z O,λhv=>?_⟩
  grind
 |ep r j n i sz off =>
  obtain⟨z,I⟩:=h;obtain⟨O,R⟩:=y.ver r;refine⟨BL z O,λhv=>?_⟩
  grind
 |rp p a x off=>exact hR h
 |rpp p a x=>exact a3 h
 |clr f a1 =>
  obtain⟨us,z,I,O⟩:=h;refine⟨us,z,I,λi c u Z hu=>?_⟩;have R:=O i c u Z hu;unfold iM at R ⊢
  grind
 |bp b off =>
  obtain⟨z,I,O⟩:=h;obtain⟨R,h5⟩:=y.box b ⟨z,I⟩;exact⟨z,R.2,by rw[h5];exact O⟩
 |clo f a1 =>
  obtain⟨z,I⟩:=h;refine⟨?_,λb H=>(y.box b (I b H)).1⟩;rw[z];congr 2;refine List.map_congr_left λb H=>?_
  rw[(y.box b (I b H)).2]
 |fn As B φ=>exact h
 |dead=>trivial
def aD (P:Program)(V:Env)(W:Wit)(st:St)(w:World):List Leaf->List Value->Prop
 |[],[]=>True
 |l::u,v::r=>(aK P V W st w [] l v/\¬ ap l/\v.oneCell'=true)/\aD P V W st w u r
 |_,_=>False
theorem aD.length:∀ {ls:List Leaf} {cs:List Value},aD P V W st w ls cs->ls.length=cs.length
 |[],[],_=>rfl
 |_::_,_::_,h=>by simp[aD.length h.2]
theorem aD.at_:∀ {ls:List Leaf} {cs:List Value},aD P V W st w ls cs->∀ (j:Nat) (l:Leaf) (v:Value),ls[j]?=some l->cs[j]?=some v->aK P V W st w [] l v/\¬ ap l/\v.oneCell'=true
 |_::_,_::_,h,0,l,v,u,r=>by
  simp at u r;subst u;subst r;exact h.1
 |_::_,_::_,h,j+1,l,v,u,r=>aD.at_ h.2 j l v (by simpa using u) (by simpa using r)
theorem aD.one':∀ {ls:List Leaf} {cs:List Value},aD P V W st w ls cs->∀ v∈cs,v.oneCell'=true
 |[],[],_,_,r=>by simp at r
 |_::_,_::_,h,v,r=>by
  rcases CD.1 r with rfl|r
  ·exact h.1.2.2
  ·exact aD.one' h.2 v r
theorem aD.mk:∀ {ls:List Leaf} {cs:List Value},ls.length=cs.length->(∀ (j:Nat) (l:Leaf) (v:Value),ls[j]?=some l->cs[j]?=some v->aK P V W st w [] l v/\¬ ap l/\v.oneCell'=true)->aD P V W st w ls cs
 |[],[],_,_=>trivial
 |_::_,_::_,h,H=>⟨H 0 _ _ rfl rfl,aD.mk (by simpa using h) λj l v u r=>H (j+1) l v (by simpa using u) (by simpa using r)⟩
theorem aD.drop {ls:List Leaf}{cs:List Value}(h:aD P V W st w ls cs)(n:Nat):aD P V W st w (ls.drop n) (cs.drop n) :=
 aD.mk (by simp[h.length]) λj l v u r=>h.at_ (n+j) l v (by simpa using u) (by simpa using r)
theorem aD.take {ls:List Leaf}{cs:List Value}(h:aD P V W st w ls cs)(n:Nat):aD P V W st w (ls.take n) (cs.take n) :=
 aD.mk (by simp[h.length]) λj l v y u=>by
  rw[BP]at y u;split at y
  ·rename_i r;rw[if_pos r]at u;exact h.at_ j l v y u
  ·grind
theorem aD.append {y z:List Leaf}{r H:List Value}(u:aD P V W st w y r)(J:aD P V W st w z H):aD P V W st w (y++z) (r++H):=by
 induction y generalizing r with
 |nil =>
  cases r with
  |nil=>simpa using J
  |cons=>simp[aD]at u
 |cons l O I =>
  cases r with
  |nil=>simp[aD]at u
  |cons v M=>exact⟨u.1,I u.2⟩
theorem aD.carry (r:∀ k,V.ro0 k->V.prot k)(u:cF V W W' st st' w w'):∀ {ls:List Leaf} {cs:List Value},aD P V W st w ls cs->aD P V W' st' w' ls cs
 |[],[],_=>trivial
 |_::_,_::_,h=>⟨⟨h.1.1.carry r u (λy=>absurd y h.1.2.1),h.1.2⟩,aD.carry r u h.2⟩
theorem eT {G:Nat->Prop}{p:Bool}(y:∀ k,G k->gd V W p k):∀ {a:Ty} {x:a.den} {cs:List Value},Rd w G a x cs->aD P V W st w (cK p a x) cs
 |.int _,_,_,h=>by rw[show _=_ from h];exact⟨⟨rfl,id,rfl⟩,trivial⟩
 |.bool,_,_,h=>by rw[show _=_ from h];exact⟨⟨rfl,id,rfl⟩,trivial⟩
 |.str,_,_,h=>by rw[show _=_ from h];exact⟨⟨rfl,id,rfl⟩,trivial⟩
 |.unit,_,_,h=>by rw[show _=_ from h];trivial
 |.hdr,_,_,⟨A,r,e⟩=>by rw[e];exact⟨⟨⟨A,r,rfl⟩,id,rfl⟩,trivial⟩
 |.pair _ _,_,_,⟨M,J,e,z,u⟩=>by rw[e];exact (eT y z).append (eT y u)
 |.list m E e,I,_,h=>by
  obtain⟨A,r,rfl,u,H⟩:=h;exact⟨⟨Rd.mono y (⟨A,r,rfl,u,H⟩:Rd w _ (.list false E e) I _),id,rfl⟩,trivial⟩
theorem gL (p:Bool):∀ (a:Ty) (x:a.den),(cK p a x).length=a.cells
 |.int _,_=>rfl
 |.bool,_=>rfl
 |.str,_=>rfl
 |.unit,_=>rfl
 |.hdr,_=>rfl
 |.pair a b,x=>by simp[cK,Ty.cells,gL p a,gL p b]
 |.list _ _ _,_=>rfl
theorem cJ (p:Bool):∀ (a:Ty) (x:a.den),(ar p a x).length=a.cells
 |.int _,_=>rfl
 |.bool,_=>rfl
 |.str,_=>rfl
 |.unit,_=>rfl
 |.hdr,_=>rfl
 |.pair a b,x=>by simp[ar,Ty.cells,cJ p a,cJ p b]
 |.list _ _ _,_=>rfl
theorem iN (t n:Nat):∀ (j:Nat) (ls:List Leaf),(bE t n j ls).length=ls.length
 |_,[]=>rfl
 |j,_::ls=>by simp[bE,iN t n (j+1) ls]
theorem nX (t n:Nat):∀ (j:Nat) (ls:List Leaf) (i:Nat) (l:Leaf),ls[i]?=some l->(bE t n j ls)[i]?=some (lE t (j+i) n l)
 |j,r::ls,0,l,h=>by
  simp at h;subst h;simp[bE]
 |j,r::ls,i+1,l,h=>by
  have:=nX t n (j+1) ls i l (by simpa using h);simp only[bE]
  grind
theorem iA {a:Act}(h:aq P V W st a w)(r:Nat):aD P V W st w (bE r (st r).ver 0 (st r).ls) (W.cs r):=by
 refine aD.mk (by rw[iN,h.len]) λj l v u y=>?_
 have M:j<(st r).ls.length:=by
  have:=(BC.1 u).1;simpa[iN]using this
 have z:(st r).ls[j]?=some (st r).ls[j]:=BE M;have J:=nX r (st r).ver 0 (st r).ls j _ z;rw[J]at u;have H:=h.leaf r j _ v z y;have I:=h.one r v (List.mem_of_getElem? y);simp at u;subst u;generalize R:(st r).ls[j]=q at H;cases q with
 |own p O E e X=>exact⟨⟨BI _,λ_=>by simpa using y⟩,id,I⟩
 |_=>exact⟨H,id,I⟩
theorem so {v:Value}{l:Leaf}(h:iv v=some l):aK P V W st w [] l v/\¬ ap l/\v.oneCell'=true:=by
 unfold iv at h;split at h <;> simp at h <;> subst h <;> exact⟨rfl,id,rfl⟩
theorem cU {a:Act}(h:aq P V W st a w)(x:Operand) :
  ∃ r,ee (av st x).1 (a.eval x) r/\aD P V W st w (av st x).2 r:=by
 cases x with
 |tmp t =>
  simp only[av];cases z:Bs t GH with
  |false=>exact⟨[],rfl,trivial⟩
  |true=>exact⟨W.cs t,h.slots t (by simpa using z),iA h t⟩
 |const v =>
  simp only[av];cases u:iv v with
  |none=>exact⟨[],rfl,trivial⟩
  |some l=>exact⟨[v],rfl,⟨so u,trivial⟩⟩
 |func f=>exact⟨[.func (.func f) #[] #[]],rfl,⟨⟨⟨rfl,λb y=>by simp at y⟩,id,rfl⟩,trivial⟩⟩
 |global g=>exact⟨[],rfl,trivial⟩
theorem bq {a:Act}(h:aq P V W st a w)(x:Operand)(y:one st x≠.dead) :
  aK P V W st w [] (one st x) (a.eval x)/\¬ ap (one st x)/\(a.eval x).oneCell'=true/\(av st x).1=.one/\(av st x).2=[one st x]:=by
 obtain⟨I,z,r⟩:=cU h x;unfold one at y ⊢;split at y
 ·rename_i l H;simp only[H]at z r ⊢;have u:I=[a.eval x]:=z;subst u;exact⟨r.1.1,r.1.2.1,r.1.2.2,by simp,by simp⟩
 ·grind
theorem eY {r j n:Nat}{l:Leaf}(u:aE st (.al r j n)=l)(y:l≠.dead):(st r).ver=n/\(st r).ls[j]?=some l:=by
 simp only[aE]at u;cases z:BA (st r).ver n with
 |false=>simp only[z]at u;exact absurd u.symm y
 |true =>
  simp only[z,cond_true]at u;refine⟨BB z,?_⟩;rw[BS]at u;cases H:(st r).ls[j]? with
  |none=>simp only[H]at u;exact absurd u.symm y
  |some I =>
   simp only[H,Option.getD_some]at u;cases I with
   |nal=>simp only[pm]at u;exact absurd u.symm y
   |_=>simp only[pm]at u;rw[u]
theorem iO {r j n:Nat}{p:Bool}{ks:List (Nat×Nat×Nat)}{ep:Nat}{u:Option (Nat×Nat×Nat)}{E:TypeId}{e:Ty}{xs:List e.den}:aE st (.al r j n)≠.nal p ks ep u E e xs:=by
 simp only[aE];cases BA (st r).ver n with
 |false=>simp
 |true =>
  cases (st r).ls.getD j .dead <;> simp[pm]
theorem ke {a:Act}(h:aq P V W st a w){r j n:Nat}{p:Bool}{u:Option (Nat×Nat)}{E:TypeId}{e:Ty}{xs:List e.den}{v:Value}(I:aE st (.al r j n)=.own p u E e xs)
  (J:aK P V W st w [] (.al r j n) v):(W.cs r)[j]?=some v/\OwH w (gd V W p) u E e xs v (W.bs r j)/\(st r).ls[j]?=some (.own p u E e xs)/\(st r).ver=n:=by
 obtain⟨z,y⟩:=eY I (by simp);have H:=J.2 z;exact⟨H,h.leaf r j _ v y H,y,z⟩
theorem vn {ls:List Leaf}{j:Nat}(h:lk (ls.getD j .dead)=true):∃ l,ls[j]?=some l/\ap l:=by
 rw[BS]at h;cases r:ls[j]? with
 |none=>rw[r]at h;simp[lk]at h
 |some l =>
  rw[r]at h;refine⟨l,rfl,?_⟩;cases l <;> simp[lk]at h;trivial
theorem cC {ks:List (Nat×Nat×Nat)}{ep:Nat}(h:bk st ks ep=true):(st EPO).ver=ep/\(∀ k∈ks,(st k.1).ver=k.2.2)/\r8 st ks:=by
 simp only[bk,BD,List.all_eq_true]at h;exact⟨BB h.1,λk r=>BB (h.2 k r).1,λk r=>vn (h.2 k r).2⟩
theorem pv {p:Bool}{ks:List (Nat×Nat×Nat)}{ep:Nat}{r:Option (Nat×Nat×Nat)}{E:TypeId}{e:Ty}{xs:List e.den}{v:Value}(u:bk st ks ep=true)
 (y:aK P V W st w [] (.nal p ks ep r E e xs) v):r9 V W w p ks r E e xs v:=y.2.2 (cC u).1 (cC u).2.1 (cC u).2.2
def bj (V:Env)(W:Wit)(p:Bool)(ks:List (Nat×Nat))(k:Nat):Prop:=gd V W p k\/∃ x∈ks,k∈W.bs x.1 x.2
theorem jE {E:TypeId}{e:Ty}{E':TypeId}{e':Ty}{xs:List e'.den}{r:List e.den}(h:lF E e E' e' xs=some r) :
  ∃ (y:E'=E) (u:e'=e),u ▸ xs=r:=by
 unfold lF at h
 grind
theorem tU {e e':Ty}{xs:List e'.den}{r:List e.den}(h:castSh e e' xs=some r):e'.sh=e.sh/\HEq xs r:=by
 unfold castSh at h
 grind
theorem Rd.castSh {G:Nat->Prop}{m m':Bool}{E E':TypeId}{e e':Ty}{xs:List e'.den}{u:List e.den}{cs:List Value}(h:castSh e e' xs=some u)(I:Rd w G (.list m E' e') xs cs):Rd w G (.list m' E e) u cs:=by
 obtain⟨M,J⟩:=tU h;have O:Rd w G (.list m E e) u cs:=by
  refine Rd.flags (a:=.list m E e') (x:=xs) (by simp only[Ty.sh,M]) J ?_;obtain⟨A,r,H,y,z⟩:=I;exact⟨A,r,H,y,z⟩
 obtain⟨A,r,H,y,z⟩:=O;exact⟨A,r,H,y,z⟩
theorem kf (st:St):∀ (u r:List Leaf),bu st (u++r)=bu st u++bu st r
 |[],_=>rfl
 |l::u,r=>by
  have:=kf st u r;cases l <;> simp[bu,this]
theorem sq (st:St):∀ (u r:List Leaf),b8 st (u++r)=b8 st u++b8 st r
 |[],_=>rfl
 |l::u,r=>by
  have:=sq st u r;cases l <;> simp[b8,this]
theorem ky {a:Act}(h:aq P V W st a w){m:Bool}{E:TypeId}{e:Ty}{l:Leaf}{v:Value}{p:Bool}{xs:List e.den}
  (hl:aK P V W st w [] l v) (a0:¬ ap l) (u:dh e (aE st l)=some (p,xs)):Rd w (bj V W p (bu st [l])) (.list m E e) xs [v]:=by
 have H:∀ (q:Leaf) (bs:List Nat) (S:Nat->Prop),aK P V W st w bs q v->dh e q=some (p,xs)->(∀ k,gd V W p k->S k)->(ap q->∀ k∈bs,S k) ->
   (∀ q' J ep z E' I X,q=.nal q' J ep z E' I X->bk st J ep=true/\∀ k∈J,∀ b∈W.bs k.1 k.2.1,S b)->Rd w S (.list m E e) xs [v]:=by
  intro q bs S O u hS hb hn;cases q with
  |ro q E' I Y =>
   simp only[dh,BO]at u;obtain⟨zs,Z,rfl,rfl⟩:=u;exact Rd.castSh Z (Rd.mono hS O)
  |nil =>
   obtain⟨rfl,rfl⟩:=u;rw[show v=_ from O];exact Rd.nil w _ m E e
  |own q hh E' I Y =>
   cases hh with
   |some _=>simp[dh]at u
   |none =>
    simp only[dh,BO]at u;obtain⟨zs,Z,rfl,rfl⟩:=u;refine Rd.castSh Z (Rd.mono (λk y=>?_) (OwH.rd (m:=false) (E':=E') O));exact y.elim (hS k) (hb trivial k)
  |nal q J ep z E' I Y =>
   simp only[dh,BO,CR]at u;obtain⟨zs,Z,rfl,rfl⟩:=u;obtain⟨R,hn⟩:=hn _ _ _ _ _ _ _ rfl;have h1:r9 V W w q J z E' I Y v:=O.2.2 (cC R).1 (cC R).2.1 (cC R).2.2;refine Rd.castSh Z (Rd.mono (λk y=>?_) h1.rd);rcases y with y|⟨x,hx,y⟩
   ·grind
   ·grind
  |_=>simp[dh]at u
 cases l with
 |al r j n =>
  by_cases hd:aE st (.al r j n)=.dead
  ·rw[hd]at u;simp[dh]at u
  ·obtain⟨h1,h2⟩:=eY rfl hd;have h3:=h.leaf r j _ v h2 (hl.2 h1);generalize O:aE st (.al r j n)=q at u h2 h3;refine H q (W.bs r j) _ h3 u (λk y=>.inl y) (λM k y=>.inr ⟨(r,j),?_,y⟩) ?_
   ·cases q <;> first|exact M.elim|simp[bu,O]
   ·rintro q' J ep z E' I X rfl;exact absurd O iO
 |own q hh E' I Y=>exact absurd trivial a0
 |nal q J ep z E' I Y =>
  simp only[aE]at u;cases R:bk st J ep with
  |false=>simp[R,dh]at u
  |true =>
   simp only[R]at u;refine H _ [] _ hl u (λk y=>.inl y) (λM=>M.elim) ?_;intro q' a4 a5 a2 a6 a3 X a1;cases a1;refine⟨R,λk y b hb=>.inr ⟨(k.1,k.2.1),?_,hb⟩⟩;simp only[bu,aE]
   grind
 |ro q E' I Y=>exact H _ [] _ hl u (λk y=>.inl y) (λM=>M.elim) (λ_ _ _ _ _ _ _ h=>by cases h)
 |nil=>exact H _ [] _ hl u (λk y=>.inl y) (λM=>M.elim) (λ_ _ _ _ _ _ _ h=>by cases h)
 |_=>simp[aE,dh]at u
theorem wF {a:Act}(h:aq P V W st a w){l:Leaf}{v:Value}{n:Nat}(X:aK P V W st w [] l v)(Y:¬ ap l)(u:fZ (aE st l)=some n):Rd w (λ_=>False) .hdr n [v]:=by
 have H:∀ (q:Leaf) (bs:List Nat),aK P V W st w bs q v->fZ q=some n->(∀ p J ep z E e O,q=.nal p J ep z E e O->bk st J ep=true)->Rd w (λ_=>False) .hdr n [v]:=by
  intro q bs I u hn;cases q with
  |ro p E e O =>
   simp only[fZ,BH]at u;subst u;obtain⟨A,y,M,_⟩:=I;exact⟨A,y,M⟩
  |own p hh E e O =>
   simp only[fZ,BH]at u;subst u;obtain⟨A,y,M,_⟩:=OwH.slice I;exact⟨A,y,by rw[M]⟩
  |nal p J ep z E e O =>
   simp only[fZ,BH]at u;subst u;have R:=hn _ _ _ _ _ _ _ rfl;obtain⟨A,y,M,_⟩:=(I.2.2 (cC R).1 (cC R).2.1 (cC R).2.2:r9 V W w p J z E e O v).rd;exact⟨A,y,M⟩
  |nil =>
   simp only[fZ,BH]at u;subst u;exact⟨none,0,by rw[show v=_ from I]⟩
  |hdr m =>
   simp only[fZ,BH]at u;subst u;obtain⟨A,y,M⟩:=I;exact⟨A,y,by rw[M]⟩
  |_=>simp[fZ]at u
 cases l with
 |al r j m =>
  by_cases hd:aE st (.al r j m)=.dead
  ·rw[hd]at u;simp[fZ]at u
  ·obtain⟨h1,h2⟩:=eY rfl hd;have h3:=h.leaf r j _ v h2 (X.2 h1);refine H _ _ h3 u λp J ep z E e O I=>absurd I iO
 |own q hh Z e' ys=>exact absurd trivial Y
 |nal q J ep z Z e' ys =>
  simp only[aE]at u;cases R:bk st J ep with
  |false=>simp[R,fZ]at u
  |true =>
   grind
 |ro q Z e' ys=>exact H _ [] X u (λ_ _ _ _ _ _ _ h=>by cases h)
 |nil=>exact H _ [] X u (λ_ _ _ _ _ _ _ h=>by cases h)
 |hdr m=>exact H _ [] X u (λ_ _ _ _ _ _ _ h=>by cases h)
 |_=>simp[aE,fZ]at u
theorem kz {a:Act}(h:aq P V W st a w):∀ (b:Ty) (ls:List Leaf) (cs:List Value) (p:Bool) (x:b.den) (r:List Leaf),aD P V W st w ls cs ->
  a7 st b ls=some (p,x,r)->∃ M R O,cs=M++R/\ls=O++r/\aD P V W st w O M/\aD P V W st w r R/\Rd w (bj V W p (bu st O)) b x M
 |.int k,ls,cs,p,x,r,H,u=>by
  simp only[a7]at u;split at u
  ·rename_i k' n ls;split at u
   ·rename_i I;obtain⟨rfl,rfl,rfl⟩:=u;cases cs with
    |nil=>exact H.elim
    |cons v cs=>exact⟨[v],cs,[_],rfl,rfl,⟨H.1,trivial⟩,H.2,by rw[show v=_ from H.1.1,I];rfl⟩
   ·grind
  ·grind
 |.bool,ls,cs,p,x,r,H,u=>by
  simp only[a7]at u;split at u
  ·simp at u;obtain⟨rfl,rfl,rfl⟩:=u;cases cs with
   |nil=>exact H.elim
   |cons v cs=>exact⟨[v],cs,[_],rfl,rfl,⟨H.1,trivial⟩,H.2,by rw[show v=_ from H.1.1];rfl⟩
  ·grind
 |.str,ls,cs,p,x,r,H,u=>by
  simp only[a7]at u;split at u
  ·simp at u;obtain⟨rfl,rfl,rfl⟩:=u;cases cs with
   |nil=>exact H.elim
   |cons v cs=>exact⟨[v],cs,[_],rfl,rfl,⟨H.1,trivial⟩,H.2,by rw[show v=_ from H.1.1];rfl⟩
  ·grind
 |.unit,ls,cs,p,x,r,H,u=>by
  obtain⟨rfl,_,rfl⟩:=u;exact⟨[],cs,[],rfl,rfl,trivial,H,rfl⟩
 |.hdr,ls,cs,p,x,r,H,u=>by
  simp only[a7]at u;split at u
  ·rename_i l J;split at u
   ·rename_i n hn;obtain⟨rfl,rfl,rfl⟩:=u;cases cs with
    |nil=>exact H.elim
    |cons v cs=>exact⟨[v],cs,[l],rfl,rfl,⟨H.1,trivial⟩,H.2,wF h H.1.1 H.1.2.1 hn⟩
   ·grind
  ·grind
 |.pair b c,ls,cs,p,x,r,H,u=>by
  simp only[a7]at u;split at u
  ·rename_i q y J hb;split at u
   ·rename_i q' z Y hc;simp at u;obtain⟨rfl,rfl,rfl⟩:=u;obtain⟨M,R,O,e1,e2,h1,h2,h3⟩:=kz h b ls cs q y J H hb;obtain⟨Z,c4,l2,e3,e4,h4,h5,h6⟩:=kz h c J R q' z Y h2 hc;refine⟨M++Z,c4,O++l2,by rw[e1,e3,BZ],by rw[e2,e4,BZ],h1.append h4,h5,M,Z,rfl,?_,?_⟩
    ·refine Rd.mono (λk I=>?_) h3;rcases I with I|⟨y,X,I⟩
     ·exact .inl (bU (by simp_all) (λ_ h=>h) k I)
     ·exact .inr ⟨y,by rw[kf];exact BG _ X,I⟩
    ·refine Rd.mono (λk I=>?_) h6;rcases I with I|⟨y,X,I⟩
     ·exact .inl (bU (by simp_all) (λ_ h=>h) k I)
     ·exact .inr ⟨y,by rw[kf];exact BF _ X,I⟩
   ·grind
  ·grind
 |.list m E e,ls,cs,p,x,r,H,u=>by
  simp only[a7]at u;split at u
  ·rename_i l J;split at u
   ·rename_i q ys ha;obtain⟨rfl,rfl,rfl⟩:=u;cases cs with
    |nil=>exact H.elim
    |cons v cs=>exact⟨[v],cs,[l],rfl,rfl,⟨H.1,trivial⟩,H.2,ky h H.1.1 H.1.2.1 ha⟩
   ·grind
  ·grind
theorem ez {a:Act}(h:aq P V W st a w){b:Ty}{ls:List Leaf}{cs:List Value}{p:Bool}{x:b.den}(H:aD P V W st w ls cs)
  (u:cP st b ls=some (p,x)):Rd w (bj V W p (bu st ls)) b x cs:=by
 unfold cP at u;split at u
 ·rename_i q y z;obtain⟨X,r,O,Y,J,M,I,R⟩:=kz h b ls cs _ _ _ H z;have:r=[]:=by
   cases r with
   |nil=>rfl
   |cons=>exact I.elim
  simp_all
 ·grind
end
section
variable {P:Program} {V:Env} {W W':Wit} {st st':St} {w w':World} {a:Act}
theorem bA (A B:Upd)(st:St):ae (A++B) st=ae A (ae B st):=by
 funext q;induction A with
 |nil=>rfl
 |cons x A u=>obtain⟨r,c⟩:=x;simp only[CN,ae,u]
theorem aP (r:Nat)(c:bT)(U:Upd)(st:St):ae ((r,c)::U) st=ae [(r,c)] (ae U st):=bA [(r,c)] U st
theorem bh (r:Nat)(c:bT)(st:St):ae [(r,c)] st r=c:=by simp[ae]
theorem aJ {r q:Nat}(h:q≠r)(c:bT)(st:St):ae [(r,c)] st q=st q:=by
 have:BA q r=false:=by
  cases u:BA q r with
  |false=>rfl
  |true=>exact absurd (BB u) h
 simp[ae,this]
theorem an (r q:Nat)(c:bT)(st:St):(q=r/\ae [(r,c)] st q=c)\/(q≠r/\ae [(r,c)] st q=st q):=by
 by_cases h:q=r
 ·subst h;exact .inl ⟨rfl,bh q c st⟩
 ·exact .inr ⟨h,aJ h c st⟩
def cf (V:Env)(W:Wit)(st:St)(k:Nat):Prop :=
 W.nw k\/V.prot k\/(∃ b,live st b/\W.β b=k)\/∃ r j l,(st r).ls[j]?=some l/\ap l/\k∈W.bs r j
theorem aq.own_lt (h:aq P V W st a w){r j:Nat}{l:Leaf}(u:(st r).ls[j]?=some l)(z:ap l):∀ k∈W.bs r j,k<w.heap.size:=by
 have y:j<(W.cs r).length:=by rw[<- h.len];exact (BC.1 u).1
 have:=h.leaf r j l _ u (BE y);cases l <;> simp only[ap]at z;exact OwH.lt this
theorem aq.box_lt (h:aq P V W st a w){b:Nat}(r:live st b):W.β b<w.heap.size:=by
 rcases h.boxes b r.1 with ⟨u,_⟩|⟨_,E,y⟩
 ·exact absurd (u.symm.trans r.2) (by simp)
 ·grind
theorem aq.used_lt (h:aq P V W st a w):∀ k,cf V W st k->k<w.heap.size:=by
 intro k u;rcases u with u|u|⟨b,I,rfl⟩|⟨r,j,l,z,y,H⟩
 ·exact (h.nwlt k u).1
 ·exact BW u.1 h.size
 ·exact h.box_lt I
 ·exact h.own_lt z y k H
theorem aq.world (Y:ay V)(h:aq P V W st a w)(X:w.heap.size<=w'.heap.size)(M:w'.os=w.os)(Z:w'.tape=w.tape)(O:w'.output=w.output)
  (u:∀ k,cf V W st k->w'.heap[k]?=w.heap[k]?):aq P V W st a w':=by
 have H:cF V W W st st w w':=⟨λr=>⟨BI _,λ_=>rfl⟩,λb J=>⟨J,rfl⟩,λ_ h=>h,λk h=>u k (h.elim .inl (λh=>.inr (.inl h))),
  λ_ r j l y I _=>⟨⟨l,y,I⟩,rfl,λk z=>u k (.inr (.inr (.inr ⟨r,j,l,y,I,z⟩)))⟩⟩
 exact {
  nt:=h.nt,df:=h.df,slots:=h.slots,
  boxes:=λb J=>(h.boxes b J).imp id λ⟨y,E,I⟩=>⟨y,E,by rw[u _ (.inr (.inr (.inl ⟨b,⟨J,y⟩,rfl⟩)))];exact I⟩
  len:=h.len,one:=h.one,
  leaf:=λr j l v y I=>(h.leaf r j l v y I).carry Y.ro H (λO=>⟨rfl,λk z=>u k (.inr (.inr (.inr ⟨r,j,l,y,O,z⟩)))⟩)
  ownb:=h.ownb,sep:=h.sep,box:=h.box,inj:=h.inj,
  nwlt:=λk u=>⟨BW (h.nwlt k u).1 X,(h.nwlt k u).2⟩
  os:=M.trans h.os,tape:=Z.trans h.tape,output:=O.trans h.output,size:=BL h.size X,
  keep:=λk R=>(u k (.inr (.inl R))).trans (h.keep k R)
  fixb:=h.fixb,fixt:=h.fixt }
theorem aq.below (y:ay V)(h:aq P V W st a w)(r:Below w.heap.size w w'):aq P V W st a w' :=
 h.world y r.size r.os r.tape r.output λk u=>r.block k (h.used_lt k u)
theorem aq.relabel (hV:ay V)(h:aq P V W st a w)(r:Nat)(c:bT)(nw':Nat->Prop)(a3:(st r).ver<=c.ver)(R:c.sh=(st r).sh)
    (Y:c.ls.length=(st r).ls.length) (a2:∀ k,W.nw k->nw' k) (M:∀ k,nw' k->k<w.heap.size/\¬ V.prot k)
    (a1:∀ (j:Nat) (l:Leaf) (v:Value),c.ls[j]?=some l->(W.cs r)[j]?=some v->aK P V { W with nw:=nw' } (ae [(r,c)] st) w (W.bs r j) l v)
    (a4:∀ (j:Nat) (l:Leaf),c.ls[j]?=some l->ap l->(st r).ls[j]?=some l)
    (J:∀ (q j:Nat) (l:Leaf),(ae [(r,c)] st q).ls[j]?=some l->ap l->∀ k∈W.bs q j,¬ nw' k)
    (I:∀ b,live st b->¬ nw' (W.β b)):aq P V { W with nw:=nw' } (ae [(r,c)] st) a w:=by
  have O:∀ b,live (ae [(r,c)] st) b<->live st b:=by
    intro b;rcases an r b c st with ⟨rfl,e⟩|⟨_,e⟩
    · simp[live,e,R]
    · simp[live,e]
  have u:∀ (q j:Nat) (l:Leaf),(ae [(r,c)] st q).ls[j]?=some l->ap l->(st q).ls[j]?=some l:=by
    intro q j l z y;rcases an r q c st with ⟨rfl,e⟩|⟨_,e⟩
    · grind
    · grind
  have X:cF V W { W with nw:=nw' } st (ae [(r,c)] st) w w :=
    ⟨λq=>by
      rcases an r q c st with ⟨rfl,e⟩|⟨_,e⟩
      · grind
      · rw[e];exact⟨BI _,λ_=>rfl⟩,
     λb H=>⟨(O b).2 H,rfl⟩,a2,λ_ _=>rfl,λ_ q j l z y h3=>⟨⟨l,u q j l z y,y⟩,rfl,λ_ _=>rfl⟩⟩
  exact {
    nt:=h.nt,df:=h.df,
    slots:=λt ht=>by
      rcases an r t c st with ⟨rfl,e⟩|⟨_,e⟩
      · rw[e,R];exact h.slots t ht
      · rw[e];exact h.slots t ht
    boxes:=λb H=>by
      rcases an r b c st with ⟨rfl,e⟩|⟨_,e⟩
      · rw[e,R]
        rcases h.boxes b H with ⟨z,y⟩|z
        · grind
        · grind
      · rw[e];exact h.boxes b H
    len:=λq=>by
      rcases an r q c st with ⟨rfl,e⟩|⟨_,e⟩
      · rw[e,Y];exact h.len q
      · rw[e];exact h.len q
    one:=h.one
    leaf:=λq j l v z y=>by
      rcases an r q c st with ⟨rfl,e⟩|⟨_,e⟩
      · grind
      · rw[e]at z
        exact (h.leaf q j l v z y).carry hV.ro X (λ_=>⟨rfl,λ_ _=>rfl⟩)
    ownb:=λq j l z y k Z=>⟨J q j l z y k Z,(h.ownb q j l (u q j l z y) y k Z).2.1,λb H=>(h.ownb q j l (u q j l z y) y k Z).2.2 b ((O b).1 H)⟩
    sep:=λq j l q' j' l' z y h3 h4=>h.sep q j l q' j' l' (u q j l z y) y (u q' j' l' h3 h4) h4
    box:=λb H=>⟨I b ((O b).1 H),(h.box b ((O b).1 H)).2⟩
    inj:=λb b' H a0=>h.inj b b' ((O b).1 H) ((O b').1 a0)
    nwlt:=M
    os:=h.os,tape:=h.tape,output:=h.output,size:=h.size,keep:=h.keep,
    fixb:=λx hx=>⟨(O _).2 (h.fixb x hx).1,(h.fixb x hx).2⟩,fixt:=h.fixt }
theorem aR {α:Type}(ls:List α)(j i:Nat)(x y:α)(h:(ls.set j x)[i]?=some y):(i=j/\y=x/\j<ls.length)\/(i≠j/\ls[i]?=some y):=by
 grind
theorem aq.kill1 (J:ay V)(h:aq P V W st a w)(r j:Nat):aq P V W (ae [(r,f9 (st r) j)] st) a w:=by
 refine h.relabel J r _ W.nw (BI _) rfl (by simp[f9,aT]) (λ_ h=>h) h.nwlt ?_ ?_ ?_ λb z=>(h.box b z).1
 ·intro i l v u y;rcases aR _ _ _ _ _ u with ⟨_,rfl,_⟩|⟨H,u⟩
  ·trivial
  ·refine (h.leaf r i l v u y).carry J.ro ⟨λq=>?_,λb z=>?_,λ_ h=>h,λ_ _=>rfl,λ_ q X R I O Y=>?_⟩ (λ_=>⟨rfl,λ_ _=>rfl⟩)
   ·rcases an r q (f9 (st r) j) st with ⟨rfl,e⟩|⟨_,e⟩
    ·rw[e];exact⟨BI _,λ_=>rfl⟩
    ·grind
   ·refine⟨⟨z.1,?_⟩,rfl⟩;rcases an r b (f9 (st r) j) st with ⟨rfl,e⟩|⟨_,e⟩
    ·rw[e];exact z.2
    ·rw[e];exact z.2
   ·rcases an r q (f9 (st r) j) st with ⟨rfl,e⟩|⟨_,e⟩
    ·rw[e]at I;rcases aR _ _ _ _ _ I with ⟨_,rfl,_⟩|⟨_,I⟩
     ·exact O.elim
     ·grind
    ·grind
 ·intro i l u y;rcases aR _ _ _ _ _ u with ⟨_,rfl,_⟩|⟨H,u⟩
  ·exact y.elim
  ·omega
 ·intro q i l u y;have:(st q).ls[i]?=some l:=by
   rcases an r q (f9 (st r) j) st with ⟨rfl,e⟩|⟨_,e⟩
   ·rw[e]at u;rcases aR _ _ _ _ _ u with ⟨_,rfl,_⟩|⟨H,u⟩
    ·exact y.elim
    ·omega
   ·grind
  exact λk M=>(h.ownb q i l this y k M).1
theorem aq.frz1 (hV:ay V)(h:aq P V W st a w)(r j:Nat) :
  aq P V { W with nw:=λk=>W.nw k\/((∃ l,(st r).ls[j]?=some l/\ap l)/\k∈W.bs r j) } (ae [(r,fV (st r) j)] st) a w:=by
 have O:∀ l,(st r).ls[j]?=some l->(st r).ls.getD j .dead=l:=λl hl=>by rw[BS,hl];rfl
 have u:∀ (i:Nat) (l:Leaf),(aT (st r).ls j (uA ((st r).ls.getD j .dead)))[i]?=some l->ap l->(st r).ls[i]?=some l/\i≠j:=by
  intro i l z y;rcases aR _ _ _ _ _ z with ⟨rfl,rfl,hj⟩|⟨Z,z⟩
  ·rw[O _ (BE hj)]at y;generalize (st r).ls[i]=l at y;cases l with
   |own p hh E e xs=>cases hh <;> exact y.elim
   |_=>exact y.elim
  ·grind
 have I:cF V W { W with nw:=λk=>W.nw k\/((∃ l,(st r).ls[j]?=some l/\ap l)/\k∈W.bs r j) } st (ae [(r,fV (st r) j)] st) w w:=by
  refine⟨λq=>?_,λb X=>?_,λ_ h=>.inl h,λ_ _=>rfl,λ_ q j' Y M J h5=>?_⟩
  ·rcases an r q (fV (st r) j) st with ⟨rfl,e⟩|⟨_,e⟩
   ·rw[e];exact⟨BI _,λ_=>rfl⟩
   ·grind
  ·refine⟨⟨X.1,?_⟩,rfl⟩;rcases an r b (fV (st r) j) st with ⟨rfl,e⟩|⟨_,e⟩
   ·rw[e];exact X.2
   ·rw[e];exact X.2
  ·rcases an r q (fV (st r) j) st with ⟨rfl,e⟩|⟨_,e⟩
   ·rw[e]at M;exact⟨⟨Y,(u j' Y M J).1,J⟩,rfl,λ_ _=>rfl⟩
   ·grind
 refine h.relabel hV r _ _ (BI _) rfl (by simp[fV,aT]) (λ_ h=>.inl h) ?_ ?_ (λi l z y=>(u i l z y).1) ?_ ?_
 ·rintro k (H|⟨⟨l,z,y⟩,H⟩)
  ·exact h.nwlt k H
  ·exact⟨h.own_lt z y k H,(h.ownb r j l z y k H).2.1⟩
 ·intro i l v z y;rcases aR _ _ _ _ _ z with ⟨rfl,rfl,hj⟩|⟨Z,z⟩
  ·have M:(st r).ls[i]?=some (st r).ls[i]:=BE hj;have J:=h.leaf r i _ v M y;rw[O _ M];generalize hq:(st r).ls[i]=q at M J;cases q with
   |own p hh E e xs =>
    cases hh with
    |some _=>trivial
    |none =>
     refine Rd.mono (λk H=>?_) (OwH.rd (m:=false) (E':=E) J);rcases H with H|H
     ·exact bU (W':={ W with nw:=_ }) (λh=>h) (λ_ h=>.inl h) k H
     ·exact .inl (.inr ⟨⟨_,M,trivial⟩,H⟩)
   |_=>exact J.carry hV.ro I (λho=>ho.elim)
  ·exact (h.leaf r i l v z y).carry hV.ro I (λ_=>⟨rfl,λ_ _=>rfl⟩)
 ·intro q i l z y k H;have M:(st q).ls[i]?=some l/\(q,i)≠(r,j):=by
   rcases an r q (fV (st r) j) st with ⟨rfl,e⟩|⟨Z,e⟩
   ·rw[e]at z;have:=u i l z y
    simp_all
   ·grind
  rintro (R|⟨⟨Y,J,h5⟩,R⟩)
  ·exact (h.ownb q i l M.1 y k H).1 R
  ·obtain⟨rfl,rfl⟩:=h.sep q i l r j Y M.1 y J h5 k H R
   simp_all
 ·rintro b X (R|⟨⟨Y,J,h5⟩,R⟩)
  ·exact (h.box b X).1 R
  ·exact (h.ownb r j Y J h5 _ R).2.2 b X rfl
theorem lP (H:ay V):∀ (ks:List (Nat×Nat)),aq P V W st a w->aq P V W (ae (aN st ks) st) a w /\
  (∀ (q i:Nat) (l:Leaf),(ae (aN st ks) st q).ls[i]?=some l->ap l->(st q).ls[i]?=some l/\(q,i)∉ks) /\
  (∀ q,(ae (aN st ks) st q).sh=(st q).sh/\(st q).ver<=(ae (aN st ks) st q).ver)
 |[],h=>⟨h,λ_ _ _ y _=>⟨y,by simp⟩,λ_=>⟨rfl,BI _⟩⟩
 |(r,j)::ks,h=>by
  obtain⟨y,M,I⟩:=lP H ks h;have e:ae (aN st ((r,j)::ks)) st=ae [(r,f9 (ae (aN st ks) st r) j)] (ae (aN st ks) st):=aP _ _ _ _;rw[e];refine⟨y.kill1 H r j,λq i l z J=>?_,λq=>?_⟩
  ·have O:(ae (aN st ks) st q).ls[i]?=some l/\(q,i)≠(r,j):=by
    rcases an r q (f9 (ae (aN st ks) st r) j) (ae (aN st ks) st) with ⟨rfl,e⟩|⟨u,e⟩
    ·rw[e]at z;rcases aR _ _ _ _ _ z with ⟨_,rfl,_⟩|⟨u,z⟩
     ·exact J.elim
     ·grind
    ·grind
   simp_all
  ·rcases an r q (f9 (ae (aN st ks) st r) j) (ae (aN st ks) st) with ⟨rfl,e⟩|⟨u,e⟩
   ·rw[e];exact⟨(I q).1,(I q).2⟩
   ·grind
def Wit.frz (W:Wit)(st:St)(ks:List (Nat×Nat)):Wit :=
 { W with nw:=λk=>W.nw k\/∃ x∈ks,(∃ l,(st x.1).ls[x.2]?=some l/\ap l)/\k∈W.bs x.1 x.2 }
theorem aq.nw_congr (h:aq P V W st a w){nw':Nat->Prop}(e:∀ k,W.nw k<->nw' k):aq P V { W with nw:=nw' } st a w:=by
 have:nw'=W.nw:=funext λk=>propext (e k).symm
 subst this;exact h
theorem lp (X:ay V):∀ (ks:List (Nat×Nat)),aq P V W st a w->aq P V (W.frz st ks) (ae (aF st ks) st) a w /\
  (∀ (q i:Nat) (l:Leaf),(ae (aF st ks) st q).ls[i]?=some l->ap l->(st q).ls[i]?=some l/\(q,i)∉ks) /\
  (∀ q,(ae (aF st ks) st q).sh=(st q).sh/\(st q).ver<=(ae (aF st ks) st q).ver)
 |[],h=>⟨h.nw_congr (λk=>by simp),λ_ _ _ I _=>⟨I,by simp⟩,λ_=>⟨rfl,BI _⟩⟩
 |(r,j)::ks,h=>by
  obtain⟨I,h2,Y⟩:=lp X ks h;have e:ae (aF st ((r,j)::ks)) st=ae [(r,fV (ae (aF st ks) st r) j)] (ae (aF st ks) st):=aP _ _ _ _;rw[e];refine⟨?_,λq i l M R=>?_,λq=>?_⟩
  ·have h7:=I.frz1 X r j;have h8:=h7.nw_congr (nw':=(W.frz st ((r,j)::ks)).nw) (λk=>?_)
   ·exact h8
   ·simp only[Wit.frz];constructor
    ·rintro ((y|⟨x,O,y⟩)|⟨⟨l,u,H⟩,y⟩)
     ·grind
     ·grind
     ·exact .inr ⟨(r,j),CF ..,⟨l,(h2 r j l u H).1,H⟩,y⟩
    ·rintro (y|⟨x,O,⟨l,u,H⟩,y⟩)
     ·grind
     ·rcases CD.1 O with rfl|O
      ·by_cases J:(r,j)∈ks
       ·exact .inl (.inr ⟨(r,j),J,⟨l,u,H⟩,y⟩)
       ·refine .inr ⟨⟨l,?_,H⟩,y⟩;exact iK ks J u
      ·grind
  ·have h6:(ae (aF st ks) st q).ls[i]?=some l/\(q,i)≠(r,j):=by
    rcases an r q (fV (ae (aF st ks) st r) j) (ae (aF st ks) st) with ⟨rfl,e⟩|⟨z,e⟩
    ·rw[e]at M;rcases aR _ _ _ _ _ M with ⟨rfl,rfl,hj⟩|⟨z,M⟩
     ·exfalso;generalize (ae (aF st ks) st q).ls.getD i .dead=Z at R;cases Z with
      |own p hh E e xs=>cases hh <;> exact R.elim
      |_=>exact R.elim
     ·grind
    ·grind
   simp_all
  ·rcases an r q (fV (ae (aF st ks) st r) j) (ae (aF st ks) st) with ⟨rfl,e⟩|⟨z,e⟩
   ·rw[e];exact⟨(Y q).1,(Y q).2⟩
   ·grind
where
 iK:∀ (ks:List (Nat×Nat)) {r j:Nat} {l:Leaf},(r,j)∉ks->(st r).ls[j]?=some l->(ae (aF st ks) st r).ls[j]?=some l
  |[],_,_,_,_,u=>u
  |(q,i)::ks,r,j,l,hn,u=>by
   have I:=iK ks (λJ=>hn (B7 _ J)) u;have e:ae (aF st ((q,i)::ks)) st=ae [(q,fV (ae (aF st ks) st q) i)] (ae (aF st ks) st):=aP _ _ _ _;rw[e];rcases an q r (fV (ae (aF st ks) st q) i) (ae (aF st ks) st) with ⟨rfl,e⟩|⟨z,e⟩
   ·rw[e];simp only[fV,aT]
    grind
   ·grind
theorem aq.put (hV:ay V)(h:aq P V W st a w)(d:Nat)(hd:d<V.nt)(a4:∀ x∈V.fixt,x.1≠d)(n:Nat)(sh:aI)(ls:List Leaf)(v:Value)
  (J:List Value) (I:Nat->List Nat) (hn:(st d).ver<n) (hs:ee sh v J) (hl:ls.length=J.length) (h1:∀ u∈J,u.oneCell'=true)
  (a2:∀ (j:Nat) (l:Leaf) (u:Value),ls[j]?=some l->J[j]?=some u->aK P V W st w (I j) l u)
  (a1:∀ (j:Nat) (l:Leaf),ls[j]?=some l->ap l->∀ k∈I j,¬ W.nw k/\¬ V.prot k/\(∀ b,live st b->W.β b≠k) /\
   ∀ (r1 j1:Nat) (l1:Leaf),r1≠d->(st r1).ls[j1]?=some l1->ap l1->k∉W.bs r1 j1)
  (a3:∀ (j j':Nat) (l l':Leaf),ls[j]?=some l->ap l->ls[j']?=some l'->ap l'->∀ k,k∈I j->k∈I j'->j=j') :
  aq P V { W with cs:=λr=>if r=d then J else W.cs r,bs:=λr j=>if r=d then I j else W.bs r j } (ae [(d,⟨n,sh,ls⟩)] st) (a.put (some d) v) w:=by
 have a6:d<B0:=BW hd hV.ntB;have R:∀ b,live (ae [(d,⟨n,sh,ls⟩)] st) b<->live st b:=by
  intro b;by_cases Z:B0<=b
  ·rw[live,live,aJ (by omega)]
  ·simp[live,Z]
 have Y:cF V W { W with cs:=λr=>if r=d then J else W.cs r,bs:=λr j=>if r=d then I j else W.bs r j } st (ae [(d,⟨n,sh,ls⟩)] st) w w:=by
  refine⟨λq=>?_,λb Z=>⟨(R b).2 Z,rfl⟩,λ_ h=>h,λ_ _=>rfl,λ_ q j' l' M h4 h5=>?_⟩;rcases an d q ⟨n,sh,ls⟩ st with ⟨rfl,e⟩|⟨y,e⟩
  ·grind
  ·grind
  rcases an d q ⟨n,sh,ls⟩ st with ⟨rfl,e⟩|⟨y,e⟩
  ·grind
  ·grind
 have a0:∀ t,(a.put (some d) v).tmps.getD t undef=if t=d then v else a.tmps.getD t undef:=by
  intro t;by_cases ht:t=d
  ·subst ht;have:t<a.tmps.size:=by rw[h.nt];exact hd
   simp[CV,this]
  ·simp only[CV,if_neg ht];rw[Bt,Bt,Array.getElem?_setIfInBounds_ne (λe=>ht e.symm)]
 exact {
  nt:=by simp[CV,h.nt],df:=by simp[CV,h.df]
  slots:=λt ht=>by
   rw[a0];rcases an d t ⟨n,sh,ls⟩ st with ⟨rfl,e⟩|⟨y,e⟩
   ·grind
   ·rw[e];simpa[y]using h.slots t ht
  boxes:=λb Z=>by
   have:b≠d:=by omega
   rw[aJ this];simpa[this]using h.boxes b Z
  len:=λq=>by
   rcases an d q ⟨n,sh,ls⟩ st with ⟨rfl,e⟩|⟨y,e⟩
   ·grind
   ·rw[e];simpa[y]using h.len q
  one:=λq u hu=>by
   by_cases hq:q=d
   ·grind
   ·simp only[hq]at hu;exact h.one q u hu
  leaf:=λq j l u H M=>by
   rcases an d q ⟨n,sh,ls⟩ st with ⟨rfl,e⟩|⟨y,e⟩
   ·rw[e]at H;simp at M;exact (a2 j l u H M).carry hV.ro Y (λ_=>⟨by simp,λ_ _=>rfl⟩)
   ·rw[e]at H;simp only[y]at M;exact (h.leaf q j l u H M).carry hV.ro Y (λ_=>⟨by simp[y],λ_ _=>rfl⟩)
  ownb:=λq j l H M k O=>by
   rcases an d q ⟨n,sh,ls⟩ st with ⟨rfl,e⟩|⟨y,e⟩
   ·grind
   ·rw[e]at H;simp only[y]at O;have:=h.ownb q j l H M k O
    grind
  sep:=λq j l q' j' l' H M h4 h5 k O z=>by
   rcases an d q ⟨n,sh,ls⟩ st with ⟨e0,e⟩|⟨y,e⟩ <;> rcases an d q' ⟨n,sh,ls⟩ st with ⟨e1,e'⟩|⟨X,e'⟩
   ·rw[e]at H;rw[e']at h4;simp only[e0]at O;simp only[e1]at z;exact⟨e0.trans e1.symm,a3 j j' l l' H M h4 h5 k O z⟩
   ·rw[e]at H;rw[e']at h4;simp only[e0]at O;simp only[X]at z;exact absurd z ((a1 j l H M k O).2.2.2 q' j' l' X h4 h5)
   ·rw[e]at H;rw[e']at h4;simp only[y]at O;simp only[e1]at z;exact absurd O ((a1 j' l' h4 h5 k z).2.2.2 q j l y H M)
   ·rw[e]at H;rw[e']at h4;simp only[y]at O;simp only[X]at z;exact h.sep q j l q' j' l' H M h4 h5 k O z
  box:=λb Z=>h.box b ((R b).1 Z)
  inj:=λb b' Z a5=>h.inj b b' ((R b).1 Z) ((R b').1 a5)
  nwlt:=h.nwlt
  os:=h.os,tape:=h.tape,output:=h.output,size:=h.size,keep:=h.keep
  fixb:=λx hx=>⟨(R _).2 (h.fixb x hx).1,(h.fixb x hx).2⟩
  fixt:=λx hx=>by rw[a0,if_neg (a4 x hx)];exact h.fixt x hx }
theorem aq.putLs (I:ay V)(h:aq P V W st a w)(d:Nat)(O:d<V.nt)(y:∀ x∈V.fixt,x.1≠d)(n:Nat)(sh:aI)(ls:List Leaf)(v:Value)
  (r:List Value) (R:(st d).ver<n) (X:ee sh v r) (H:aD P V W st w ls r) :
  Rel P V (ae [(d,⟨n,sh,ls⟩)] st) (a.put (some d) v) w :=
 ⟨_,h.put I d O y n sh ls v r (λ_=>[]) R X H.length H.one' (λj l u M J=>(H.at_ j l u M J).1) (λ_ _ _ _ k z=>by simp at z)
  (λ_ _ _ _ _ _ _ _ k z=>by simp at z)⟩
end
def zeroCells:Ty->List Value
 |.int k=>[.int k 0]
 |.bool=>[.bool false]
 |.str=>[.string BV]
 |.unit=>[]
 |.pair a b=>zeroCells a++zeroCells b
 |.hdr=>[.slice none 0 0]
 |.list _ _ _=>[.slice none 0 0]
def bQ (P:Program)(t:TypeId)(n:Nat):Prop:=(P.info? t).map (·.size)=some n
def d5 (P:Program)(t:TypeId)(z:Value):Prop:=(P.info? t).map (·.zero)=some (some z)
def EqAt (P:Program)(t:TypeId)(a:Ty):Prop:=a.flat=true->∀ (w:World) (G:Nat->Prop) (x y:a.den) (u r:List Value),Rd w G a x u->Rd w G a y r ->
 (Op.equal t (.agg u.toArray) (.agg r.toArray)).run P w=.ok (a.eqv x y) w
def oJ (P:Program)(t:TypeId):TI->Prop
 |.int k=>P.underlying t=some (.int k)/\bQ P t 1/\d5 P t (.int k 0)
 |.bool=>P.underlying t=some .bool/\bQ P t 1/\d5 P t (.bool false)
 |.str=>P.underlying t=some .string/\bQ P t 1/\d5 P t (.string BV)
 |.slice E e r=>P.underlying t=some (.slice E)/\bQ P t 1/\d5 P t (.slice none 0 0)/\0<e.cells/\(0<r/\(e=.int .u8->P.underlying E=some (.int .u8))) /\
  ∃ i z,P.info? E=some i/\i.size=e.cells/\i.bytes=r/\i.zero=some z/\z.cells.toList=zeroCells e
 |.struct a u=>(∃ H,P.underlying t=some (.struct H)/\H.toList.mapM (λf=>(P.info? f.type).map λi=>(f.offset,i.size))=some (u.map λx=>(x.1,x.2.1)) /\
  ∀ (i off n:Nat) (agg:Bool),u[i]?=some (off,n,agg)->(agg=false->n=1)/\∃ f:Field,H[i]?=some f/\f.offset=off/\0<n/\off+n<=a.cells/\bQ P f.type n /\
   (P.underlying f.type).map (λd=>match d with|.struct _|.array _ _=>true|_=>false)=some agg) /\
  bQ P t a.cells/\d5 P t (.agg (zeroCells a).toArray)/\EqAt P t a/\P.eqGuardType P.depth t=false
 |.arr e n=>(∃ E,P.underlying t=some (.array n E)/\bQ P E e.cells/\(P.underlying E).map (λd=>match d with|.struct _|.array _ _=>true|_=>false)=some e.isAgg)/\0<e.cells /\
  bQ P t (n*e.cells)/\d5 P t (.agg ((BR n (zeroCells e)).flatten).toArray)
 |.ptr=>(∃ e,P.underlying t=some (.pointer e))/\bQ P t 1/\d5 P t (.pointer none)
 |.fn=>(∃ x y z,P.underlying t=some (.func x y z))/\bQ P t 1/\d5 P t .nilFunc
 |.none=>True
def TOk (P:Program)(T:TypeId->TI):Prop:=∀ t,oJ P t (T t)
theorem sr {P:Program}:∀ {l:List (TypeId×TI)},(∀ x∈l,oJ P x.1 x.2)->TOk P (fY l)
 |[],_,_=>trivial
 |(t,i)::l,h,u=>by
  simp only[fY];cases y:BA t u with
  |false=>exact sr (λx r=>h x (B7 _ r)) u
  |true =>
   simp_all
section
variable {P:Program} {V:Env} {W:Wit} {st:St} {w:World} {a:Act} {o:Oper}
def mF (P:Program)(V:Env)(o:Oper)(st:St)(U:Upd)(a:Act)(w:World):Prop :=
 ∀ (next:Act->World->Prop) (Q:Exit->Act->World->Prop),(∀ r u,Rel P V (ae U st) r u->next r u)->o.wp P a w next Q
theorem dW {v:Value}{w':World}{next:Act->World->Prop}{Q:Exit->Act->World->Prop}(h:(execOp a.eval o).run P w=.ok (.value v) w')(r:next (a.put o.dst v) w'):o.wp P a w next Q:=by
 unfold Oper.wp;rw[h];exact r
theorem pw {w':World}{next:Act->World->Prop}{Q:Exit->Act->World->Prop}(h:(execOp a.eval o).run P w=.ok .skip w')(r:next (a.put o.dst undef) w'):o.wp P a w next Q:=by
 unfold Oper.wp;rw[h];exact r
def bN (V:Env)(o:Oper):Prop:=∀ d,o.dst=some d->d<V.nt/\∀ x∈V.fixt,x.1≠d
theorem dX (H:ay V)(h:aq P V W st a w){d:Nat}(y:o.dst=some d)(u:bN V o){v:Value}{sh:aI}{ls:List Leaf}{cs:List Value}
  (r:(execOp a.eval o).run P w=.ok (.value v) w) (J:ee sh v cs) (I:aD P V W st w ls cs):mF P V o st (cl st [] d sh ls) a w:=by
 intro next Q z;refine dW r ?_;rw[y];exact z _ _ (h.putLs H d (u d y).1 (u d y).2 _ sh ls v cs (B4 _) J I)
theorem aO (H:ay V)(h:aq P V W st a w){d:Nat}(z:o.dst=some d)(y:bN V o){v:Value}{l:Leaf}
  (r:(execOp a.eval o).run P w=.ok (.value v) w) (I:aK P V W st w [] l v) (u:¬ ap l) (J:v.oneCell'=true):mF P V o st (cl st [] d .one [l]) a w :=
 dX H h z y r (cs:=[v]) rfl ⟨⟨I,u,J⟩,trivial⟩
theorem j8 {agg:Bool}{v:Value}{cs:List Value}(h:da agg v cs):ee (bg agg) v cs:=by
 cases agg <;> exact h
theorem bD (h:aq P V W st a w){x:Operand}{k:IntKind}{n:Int}(r:one st x=.int k n):a.eval x=.int k n:=by
 have:=(bq h x (by rw[r];simp)).1;rw[r]at this;exact this
theorem ig (h:aq P V W st a w){x:Operand}{b:Bool}(r:one st x=.bool b):a.eval x=.bool b:=by
 have:=(bq h x (by rw[r];simp)).1;rw[r]at this;exact this
theorem iB (h:aq P V W st a w){x:Operand}{b:ByteArray}(r:one st x=.str b):a.eval x=.string b:=by
 have:=(bq h x (by rw[r];simp)).1;rw[r]at this;exact this
theorem vo (r:BinOp)(k:IntKind)(t t':TypeId)(x y:Operand)(m n:Int)(l:Leaf)(u:si r k m n=some l)(I:a.eval x=.int k m)(H:a.eval y=.int k n)(z:o.op=.binOp r t x y t') :
  ∃ v,(execOp a.eval o).run P w=.ok (.value v) w/\aK P V W st w [] l v/\¬ ap l/\v.oneCell'=true:=by
 cases r <;> simp only[si,BH,reduceCtorEq]at u <;> subst u <;>
  exact⟨_,by simp[execOp,z,I,H,eqGuard,Go.binOp,Op.intArith,Op.intCmp],rfl,id,rfl⟩
theorem Bp (z:ay V)(h:aq P V W st a w)(ks:List (Nat×Nat)):cF V W W st (ae (aN st ks) st) w w:=by
 obtain⟨_,H,y⟩:=lP z ks h;exact⟨λq=>⟨(y q).2,λ_=>rfl⟩,λb u=>⟨⟨u.1,by rw[(y b).1];exact u.2⟩,rfl⟩,λ_ h=>h,λ_ _=>rfl,λ_ q j l I r _=>⟨⟨l,(H q j l I r).1,r⟩,rfl,λ_ _=>rfl⟩⟩
theorem step_frz (z:ay V)(h:aq P V W st a w)(ks:List (Nat×Nat)):cF V W (W.frz st ks) st (ae (aF st ks) st) w w:=by
 obtain⟨_,H,y⟩:=lp z ks h;exact⟨λq=>⟨(y q).2,λ_=>rfl⟩,λb u=>⟨⟨u.1,by rw[(y b).1];exact u.2⟩,rfl⟩,λ_ h=>.inl h,λ_ _=>rfl,λ_ q j l I r _=>⟨⟨l,(H q j l I r).1,r⟩,rfl,λ_ _=>rfl⟩⟩
def dq (W:Wit)(ls:List Leaf)(j:Nat):List Nat :=
 match ls[j]? with
 |some (.al r i _)=>W.bs r i
 |_=>[]
theorem wG:∀ {ls:List Leaf} {j r i n:Nat},ls[j]?=some (.al r i n)->ap (aE st (.al r i n))->(r,i)∈bu st ls
 |l::ls,0,r,i,n,h,u=>by
  simp at h;subst h;generalize y:aE st (.al r i n)=q at u;cases q <;> first|exact u.elim|simp[bu,y]
 |l::ls,j+1,r,i,n,h,u=>by
  have:=wG (ls:=ls) (by simpa using h) u;cases l <;> simp[bu,this]
theorem mG:∀ {ls:List Leaf} {j r i n:Nat},ls[j]?=some (.al r i n)->ap (aE st (.al r i n))->(r,i)∈b8 st ls
 |l::ls,0,r,i,n,h,u=>by
  simp at h;subst h;generalize y:aE st (.al r i n)=q at u;cases q <;> first|exact u.elim|simp[b8,y]
 |l::ls,j+1,r,i,n,h,u=>by
  have:=mG (ls:=ls) (by simpa using h) u;cases l <;> simp[b8,this]
theorem nY:∀ {ls:List Leaf} {j u r i n I:Nat},aY (b8 st ls)=true->ls[j]?=some (.al r i n)->ap (aE st (.al r i n)) ->
    ls[u]?=some (.al r i I)->ap (aE st (.al r i I))->j=u
  |l::ls,j,u,r,i,n,I,y,Y,X,h3,Z=>by
    have O:∀ (m:Nat) (k:Nat),l=.al r i m->ap (aE st (.al r i m))->(∃ z,ls[k]?=some (.al r i z)/\ap (aE st (.al r i z)))->False:=by
      rintro m k rfl J ⟨z,h5,h6⟩;have h7:=mG h5 h6;have M:b8 st (.al r i m::ls)=(r,i)::b8 st ls:=by
        generalize R:aE st (.al r i m)=q at J;cases q <;> first|exact J.elim|simp[b8,R]
      rw[M]at y;simp only[aY,BD,Bx]at y;have:=y.1;rw[By]at this;have:=this _ h7;simp at this
    have H:aY (b8 st ls)=true:=by
      cases l <;> first
        |exact y
        | (rename_i r' u v'
           simp only[b8]at y;split at y
           · simp only[CN,aY]at y
             grind
           · simpa using y)
    cases j with
    |zero =>
      cases u with
      |zero=>rfl
      |succ u =>
        grind
    |succ j =>
      cases u with
      |zero =>
        grind
      |succ u =>
        have:=nY (ls:=ls) H (by simpa using Y) X (by simpa using h3) Z;omega
theorem lQ (I:ay V)(h:aq P V W st a w){l:Leaf}{v:Value}(u:aK P V W st w [] l v)(y:¬ ap l) :
  (∃ r i n,l=.al r i n/\ap (aE st l)/\aK P V W st w (W.bs r i) (aE st l) v/\(st r).ls[i]?=some (aE st l)) \/
  (¬ ap (aE st l)/\aK P V W st w [] (aE st l) v):=by
 cases l with
 |al r j n =>
  by_cases H:aE st (.al r j n)=.dead
  ·rw[H];exact .inr ⟨id,trivial⟩
  ·obtain⟨M,J⟩:=eY rfl H;have R:=u.2 M;have X:=h.leaf r j _ v J R;by_cases z:ap (aE st (.al r j n))
   ·grind
   ·exact .inr ⟨z,X.carry I.ro (cF.refl V W st w) (λh=>absurd h z)⟩
 |own p hh E e Z=>exact absurd trivial y
 |nal p Y ep O E e Z =>
  simp only[aE];cases bk st Y ep with
  |false=>exact .inr ⟨id,trivial⟩
  |true=>exact .inr ⟨id,u⟩
 |_=>exact .inr ⟨id,u⟩
end
section
variable {P:Program} {V:Env} {W:Wit} {st:St} {w w':World} {a:Act} {o:Oper} {ls:List Leaf} {cs:List Value}
theorem iC {st st':St}(h:∀ q,(st' q).sh=(st q).sh)(b:Nat):live st' b<->live st b:=by simp[live,h]
def aC (st:St)(x:Nat×Nat):Prop:=∃ l,(st x.1).ls[x.2]?=some l/\ap l
def aX (W:Wit)(ks:List (Nat×Nat)):List Nat:=ks.flatMap λx=>W.bs x.1 x.2
theorem dI (W:Wit)(a b:List (Nat×Nat)):aX W (a++b)=aX W a++aX W b:=List.flatMap_append
theorem gj {W:Wit}{ks:List (Nat×Nat)}{k:Nat}:k∈aX W ks<->∃ x∈ks,k∈W.bs x.1 x.2:=List.mem_flatMap
theorem kg {W:Wit}{p:Bool}{ks:List (Nat×Nat)}(u:∀ x∈ks,aC st x):∀ k,bj V W p ks k->gd V (W.frz st ks) p k:=by
 rintro k (r|⟨x,y,r⟩)
 ·exact bU (W':=W.frz st ks) (λh=>h) (λ_ h=>Or.inl h) k r
 ·exact .inl (.inr ⟨x,y,u x y,r⟩)
theorem nG {a b:List (Nat×Nat)}(h:dD a b=true):∀ x∈a,x∉b:=by
 intro x u r;simp only[dD,Bx,By]at h;have:=h x u;simp only[CM,By]at this;have:=this x r;simp[iw]at this
theorem fE (hV:ay V){W:Wit}{a:Act}{w:World}(h:aq P V W st a w){frz kill:List (Nat×Nat)}(a0:dD frz kill=true)(X:∀ x∈kill,aC st x) :
  aq P V (W.frz st frz) (ae (aN (ae (aF st frz) st) kill++aF st frz) st) a w /\
  (∀ (q i:Nat) (l:Leaf),(ae (aN (ae (aF st frz) st) kill++aF st frz) st q).ls[i]?=some l->ap l->(st q).ls[i]?=some l/\(q,i)∉frz/\(q,i)∉kill) /\
  (∀ q,(ae (aN (ae (aF st frz) st) kill++aF st frz) st q).sh=(st q).sh/\(st q).ver<=(ae (aN (ae (aF st frz) st) kill++aF st frz) st q).ver) /\
  (∀ k∈aX W kill,¬ (W.frz st frz).nw k/\¬ V.prot k/\k<w.heap.size/\(∀ b,live (ae (aN (ae (aF st frz) st) kill++aF st frz) st) b->W.β b≠k) /\
   ∀ (H i:Nat) (l:Leaf),(ae (aN (ae (aF st frz) st) kill++aF st frz) st H).ls[i]?=some l->ap l->k∉W.bs H i):=by
 obtain⟨h1,h2,h3⟩:=lp hV frz h;obtain⟨h4,h5,Z⟩:=lP hV kill h1;rw[<- bA]at h4 h5 Z;have I:∀ q,(ae (aN (ae (aF st frz) st) kill++aF st frz) st q).sh=(st q).sh:=λq=>(Z q).1.trans (h3 q).1
 have u:∀ (q i:Nat) (l:Leaf),(ae (aN (ae (aF st frz) st) kill++aF st frz) st q).ls[i]?=some l->ap l->(st q).ls[i]?=some l/\(q,i)∉frz/\(q,i)∉kill:=by
  simp_all
 refine⟨h4,u,λq=>⟨I q,BL (h3 q).2 (Z q).2⟩,λk z=>?_⟩;obtain⟨x,hx,z⟩:=gj.1 z;obtain⟨l,M,r⟩:=X x hx;have h7:=h.ownb x.1 x.2 l M r k z;refine⟨?_,h7.2.1,h.own_lt M r k z,λb hb=>h7.2.2 b ((iC I b).1 hb),λH i l1 h8 h9 Y=>?_⟩
 ·rintro (hn|⟨y,hy,⟨l2,a1,J⟩,R⟩)
  ·grind
  ·obtain⟨e1,e2⟩:=h.sep y.1 y.2 l2 x.1 x.2 l a1 J M r k R z;exact nG a0 y hy (by rw[show y=x from Prod.ext e1 e2];exact hx)
 ·obtain⟨O,_,a2⟩:=u H i l1 h8 h9;obtain⟨e1,e2⟩:=h.sep x.1 x.2 l H i l1 M r O h9 k z Y
  simp_all
theorem zv (y:ay V)(h:aq P V W st a w)(frz kill:List (Nat×Nat)):cF V W (W.frz st frz) st (ae (aN (ae (aF st frz) st) kill++aF st frz) st) w w:=by
 obtain⟨O,M,H⟩:=lp y frz h;obtain⟨_,z,u⟩:=lP y kill O;rw[<- bA]at z u;exact⟨λq=>⟨BL (H q).2 (u q).2,λ_=>rfl⟩,λb I=>⟨⟨I.1,by rw[(u b).1,(H b).1];exact I.2⟩,rfl⟩,λ_ h=>.inl h,λ_ _=>rfl,
  λ_ q j l J r _=>⟨⟨l,(M q j l (z q j l J r).1 r).1,r⟩,rfl,λ_ _=>rfl⟩⟩
theorem su:∀ {ls:List Leaf} {j:Nat} {p:Bool} {ks:List (Nat×Nat×Nat)} {ep:Nat} {E:TypeId} {e:Ty} {xs:List e.den},ls[j]?=some (.nal p ks ep none E e xs)->bk st ks ep=true->∀ k∈ks,(k.1,k.2.1)∈dy st ls
 |l::ls,0,p,ks,ep,E,e,xs,h,y,k,u=>by
  simp at h;subst h;simp only[dy,aE]
  grind
 |l::ls,j+1,p,ks,ep,E,e,xs,h,y,k,u=>by
  have:=su (ls:=ls) (by simpa using h) y k u;cases l with
  |nal O z I r J M H=>cases r <;> simp[dy,this]
  |_=>simp[dy,this]
theorem sv {ls:List Leaf}(h:hZ st ls=true):aY (b8 st ls)=true/\dD (dy st ls) (b8 st ls)=true:=by
 simpa[hZ]using h
theorem nZ (y:aD P V W st w ls cs){x:Nat×Nat}(u:x∈b8 st ls):aC st x:=by
 induction ls generalizing cs with
 |nil=>simp[b8]at u
 |cons l ls z =>
  cases cs with
  |nil=>exact y.elim
  |cons v cs =>
   cases l with
   |al r j n =>
    simp only[b8,BN]at u;rcases u with u|u
    ·split at u
     ·rename_i p I E e J H;simp at u;subst u;exact⟨_,(eY H (by simp)).2,trivial⟩
     ·grind
    ·exact z y.2 u
   |_=>exact z y.2 u
theorem Aw {l:Leaf}(h:ap (gh st l)):ap (aE st l)/\gh st l=aE st l:=by
 unfold gh at h ⊢;split at h
 ·exact h.elim
 ·exact⟨h,rfl⟩
theorem oK (hV:ay V)(h:aq P V W st a w){ls:List Leaf}{cs:List Value}(hl:aD P V W st w ls cs)(a9:hZ st ls=true) :
    aq P V (W.frz st (dy st ls)) (ae (mvU st ls) st) a w/\(dH st ls).length=cs.length /\
    (∀ (j:Nat) (l:Leaf) (u:Value),(dH st ls)[j]?=some l->cs[j]?=some u->aK P V (W.frz st (dy st ls)) (ae (mvU st ls) st) w (dq W ls j) l u) /\
    (∀ (j:Nat) (l:Leaf),(dH st ls)[j]?=some l->ap l->∀ k∈dq W ls j,¬ (W.frz st (dy st ls)).nw k/\¬ V.prot k/\k<w.heap.size /\
      (∀ b,live (ae (mvU st ls) st) b->W.β b≠k) /\
      ∀ (r1 j1:Nat) (l1:Leaf),(ae (mvU st ls) st r1).ls[j1]?=some l1->ap l1->k∉W.bs r1 j1) /\
    (∀ (j j':Nat) (l l':Leaf),(dH st ls)[j]?=some l->ap l->(dH st ls)[j']?=some l'->ap l'->∀ k,k∈dq W ls j->k∈dq W ls j'->j=j'):=by
  obtain⟨hd,b2⟩:=sv a9;obtain⟨h1,h2,h3,a4⟩:=fE hV h b2 (λx hx=>nZ hl hx);have J:=zv hV h (dy st ls) (b8 st ls);show aq P V (W.frz st (dy st ls)) (ae (aN (ae (aF st (dy st ls)) st) (b8 st ls)++aF st (dy st ls)) st) a w/\_;have R:∀ (j:Nat) (l:Leaf),(dH st ls)[j]?=some l->∃ z u,ls[j]?=some z/\cs[j]?=some u/\gh st z=l/\aK P V W st w [] z u/\¬ ap z:=by
    intro j l M;simp only[dH,CI,BO]at M;obtain⟨z,H,Z⟩:=M;have b0:j<cs.length:=by rw[<- hl.length];exact (BC.1 H).1
    have O:=BE b0;have h7:=hl.at_ j z _ H O
    simp_all
  have y:∀ (j:Nat) (l:Leaf),(dH st ls)[j]?=some l->ap l->∃ r i n,ls[j]?=some (.al r i n)/\ap (aE st (.al r i n))/\(st r).ls[i]?=some l:=by
    intro j l M ho;obtain⟨z,u,H,Z,rfl,O,h7⟩:=R j l M;obtain⟨X,e0⟩:=Aw ho;rcases lQ hV h O h7 with ⟨r,i,n,rfl,h8,_,h9⟩|⟨h8,_⟩
    · grind
    · grind
  refine⟨h1,by simp[dH,hl.length],λj l u M hu=>?_,λj l M ho k I=>?_,λj j' l l' M ho a5 X k I a2=>?_⟩
  · obtain ⟨z, u', H, Z, rfl, O, h7⟩ := R j l M
    obtain rfl:u=u':=Option.some.inj (hu.symm.trans Z);have a0:gh st z=aE st z->aK P V (W.frz st (dy st ls)) (ae (mvU st ls) st) w (dq W ls j) (gh st z) u:=by
      intro e0;rw[e0];rcases lQ hV h O h7 with ⟨r,i,n,rfl,h8,h9,_⟩|⟨h8,h9⟩
      · have:dq W ls j=W.bs r i:=by simp[dq,H]
        rw[this];exact h9.carry hV.ro J (λ_=>⟨rfl,λ_ _=>rfl⟩)
      · exact h9.carry hV.ro J (λh=>absurd h h8)
    by_cases Y:∃ p ks ep E e xs,aE st z=.nal p ks ep none E e xs
    · obtain⟨p,ks,ep,E,e,xs,Y⟩:=Y
      have e0:gh st z=.ro p E e xs:=by unfold gh;rw[Y]
      rw[e0];have a1:z=.nal p ks ep none E e xs/\bk st ks ep=true:=by
        cases z with
        |al r i n=>exact absurd Y iO
        |nal p' a6 ab b3 E' e' b4 =>
          simp only[aE]at Y;cases hv:bk st a6 ab with
          |false=>simp[hv]at Y
          |true =>
            simp_all
        |_=>simp[aE]at Y
      obtain⟨rfl,hv⟩:=a1;refine Rd.mono (λk I=>?_) (pv hv O).rd;rcases I with I|⟨x,hx,I⟩
      · exact bU (W':=W.frz st (dy st ls)) (λh=>h) (λ_ h=>Or.inl h) k I
      · exact .inl (.inr ⟨(x.1,x.2.1),su H hv x hx,(cC hv).2.2 x hx,I⟩)
    · refine a0 ?_
      unfold gh
      grind
  · obtain⟨r,i,n,H,Z,O⟩:=y j l M ho
    have e:dq W ls j=W.bs r i:=by simp[dq,H]
    rw[e]at I;exact a4 k (gj.2 ⟨(r,i),mG H Z,I⟩)
  · obtain⟨r,i,n,H,Z,O⟩:=y j l M ho
    obtain⟨r',i',n',a3,ad,b1⟩:=y j' l' a5 X;have e:dq W ls j=W.bs r i:=by simp[dq,H]
    have e':dq W ls j'=W.bs r' i':=by simp[dq,a3]
    rw[e]at I;rw[e']at a2;obtain⟨rfl,rfl⟩:=h.sep r i l r' i' l' O ho b1 X k I a2;exact nY hd H Z a3 ad
theorem zj (y:ay V)(h:aq P V W st a w)(u:aD P V W st w ls cs)(r:hZ st ls=true):∀ q,(ae (mvU st ls) st q).sh=(st q).sh/\(st q).ver<=(ae (mvU st ls) st q).ver :=
 (fE y h (sv r).2 (λ_ z=>nZ u z)).2.2.1
theorem aq.putMoved (M:ay V)(h:aq P V W st a w){ls:List Leaf}{cs:List Value}(J:aD P V W st w ls cs)(Z:hZ st ls=true)
  (d:Nat) (I:d<V.nt) (r:∀ x∈V.fixt,x.1≠d) {sh:aI} {v:Value} (hs:ee sh v cs) :
  Rel P V (ae (cl st (mvU st ls) d sh (dH st ls)) st) (a.put (some d) v) w:=by
 obtain⟨X,R,h3,H,h5⟩:=oK M h J Z;exact⟨_,X.put M d I r _ sh (dH st ls) v cs (dq W ls) (B4 _) hs R J.one' h3
  (λj l z y k u=>⟨(H j l z y k u).1,(H j l z y k u).2.1,(H j l z y k u).2.2.2.1,λO j1 Y _=>(H j l z y k u).2.2.2.2 O j1 Y⟩) h5⟩
theorem aq.setBoxG (hV:ay V)(h:aq P V W st a w)(b:Nat)(hb:B0<=b)(n:Nat)(ls:List Leaf)(a3:List Value)(X:Nat->List Nat)(g:Nat)(E:TypeId)
    (hn:(st b).ver<n) (hg:(live st b/\W.β b=g)\/(¬ live st b/\¬ cf V W st g/\∀ (j:Nat) (l:Leaf),ls[j]?=some l->ap l->∀ k∈X j,k≠g)) (ba:w'.heap[g]?=some (.cells a3.toArray E (0,0)))
    (ad:∀ k,cf V W st k->k≠g->w'.heap[k]?=w.heap[k]?) (a9:∀ (j:Nat) (l:Leaf),ls[j]?=some l->ap l->∀ k∈X j,k≠g->w'.heap[k]?=w.heap[k]?) (b1:w.heap.size<=w'.heap.size) (b5:w'.os=w.os) (ht:w'.tape=w.tape) (ho:w'.output=w.output)
    (hl:ls.length=a3.length) (h1:∀ u∈a3,u.oneCell'=true)
    (b0:∀ (j:Nat) (l:Leaf) (u:Value),ls[j]?=some l->a3[j]?=some u->aK P V W st w (X j) l u)
    (ab:∀ (j:Nat) (l:Leaf),ls[j]?=some l->ap l->∀ k∈X j,¬ W.nw k/\¬ V.prot k/\(∀ b,live st b->W.β b≠k) /\
      ∀ (r1 j1:Nat) (l1:Leaf),r1≠b->(st r1).ls[j1]?=some l1->ap l1->k∉W.bs r1 j1)
    (b2:∀ (j j':Nat) (l l':Leaf),ls[j]?=some l->ap l->ls[j']?=some l'->ap l'->∀ k,k∈X j->k∈X j'->j=j') :
    aq P V { W with β:=λr=>if r=b then g else W.β r,cs:=λr=>if r=b then a3 else W.cs r,bs:=λr j=>if r=b then X j else W.bs r j }
      (ae [(b,⟨n,.agg,ls⟩)] st) a w':=by
  have Y:¬ W.nw g/\¬ V.prot g/\(∀ q,q≠b->live st q->W.β q≠g)/\∀ (r1 j1:Nat) (l1:Leaf),(st r1).ls[j1]?=some l1->ap l1->g∉W.bs r1 j1:=by
    rcases hg with ⟨a2,rfl⟩|⟨a2,hg⟩
    · exact⟨(h.box b a2).1,(h.box b a2).2,λq hq b9 e=>hq (h.inj q b b9 a2 e),λr1 j1 l1 y M H=>(h.ownb r1 j1 l1 y M _ H).2.2 b a2 rfl⟩
    · have hu:=hg.1
      simp only[cf,not_or,not_exists,not_and]at hu
      grind
  have b3:∀ (j:Nat) (l:Leaf),ls[j]?=some l->ap l->∀ k∈X j,k≠g:=by
    grind
  have I:∀ q,live (ae [(b,⟨n,.agg,ls⟩)] st) q<->(q=b\/live st q):=by
    intro q;rcases an b q ⟨n,.agg,ls⟩ st with ⟨e0,e⟩|⟨z,e⟩
    · subst e0
      simp[live,e,hb]
    · simp[live,e,z]
  have J:∀ k,cf V W st k->k≠g->w'.heap[k]?=w.heap[k]?:=ad;have a5:cF V W { W with β:=λr=>if r=b then g else W.β r,cs:=λr=>if r=b then a3 else W.cs r,bs:=λr j=>if r=b then X j else W.bs r j } st (ae [(b,⟨n,.agg,ls⟩)] st) w w':=by
    refine⟨λq=>?_,λq hq=>⟨(I q).2 (.inr hq),?_⟩,λ_ h=>h,λk H=>J k (H.elim .inl (λh=>.inr (.inl h))) ?_,λ_ q j l y M Z=>?_⟩
    · rcases an b q ⟨n,.agg,ls⟩ st with ⟨rfl,e⟩|⟨z,e⟩
      · grind
      · grind
    · grind
    · grind
    · rcases an b q ⟨n,.agg,ls⟩ st with ⟨rfl,e⟩|⟨z,e⟩
      · grind
      · rw[e]at y
        refine⟨⟨l,y,M⟩,by simp[z],λk H=>J k (.inr (.inr (.inr ⟨q,j,l,y,M,H⟩))) ?_⟩
        grind
  exact {
    nt:=h.nt,df:=h.df
    slots:=λt b6=>by
      have : t ≠ b := by have : GH <= B0 := by decide
                         omega
      rw[aJ this];simpa[this]using h.slots t b6
    boxes:=λq hq=>by
      rcases an b q ⟨n,.agg,ls⟩ st with ⟨rfl,e⟩|⟨z,e⟩
      · grind
      · rw[e]
        refine (h.boxes q hq).imp id λ⟨y,E',M⟩=>⟨y,E',?_⟩
        simp only[z,if_false];rw[J _ (.inr (.inr (.inl ⟨q,⟨hq,y⟩,rfl⟩))) (Y.2.2.1 q z ⟨hq,y⟩)];exact M
    len:=λq=>by
      rcases an b q ⟨n,.agg,ls⟩ st with ⟨rfl,e⟩|⟨z,e⟩
      · rw[e];simpa using hl
      · rw[e];simpa[z]using h.len q
    one:=λq u hu=>by
      by_cases hq:q=b
      · grind
      · simp only[hq]at hu;exact h.one q u hu
    leaf:=λq j l u y M=>by
      rcases an b q ⟨n,.agg,ls⟩ st with ⟨rfl,e⟩|⟨z,e⟩
      · rw[e]at y
        simp only at M;exact (b0 j l u y M).carry hV.ro a5 (λho=>⟨by simp,λk H=>a9 j l y ho k H (b3 j l y ho k H)⟩)
      · rw[e]at y
        simp only[z]at M;refine (h.leaf q j l u y M).carry hV.ro a5 (λho=>⟨by simp[z],λk H=>J k (.inr (.inr (.inr ⟨q,j,l,y,ho,H⟩))) ?_⟩);rintro rfl;exact Y.2.2.2 q j l y ho H
    ownb:=λq j l y M k H=>by
      rcases an b q ⟨n,.agg,ls⟩ st with ⟨rfl,e⟩|⟨z,e⟩
      · rw[e]at y
        simp only[if_true]at H;have Z:=ab j l y M k H;refine⟨Z.1,Z.2.1,λp hp=>?_⟩;by_cases a0:p=q
        · simp only[a0,if_true];exact λe=>b3 j l y M k H e.symm
        · simp only[a0,if_false];exact Z.2.2.1 p (((I p).1 hp).resolve_left a0)
      · rw[e]at y
        simp only[z,if_false]at H;have Z:=h.ownb q j l y M k H;refine⟨Z.1,Z.2.1,λp hp=>?_⟩;by_cases a0:p=b
        · simp only[a0,if_true];rintro rfl;exact Y.2.2.2 q j l y M H
        · simp only[a0,if_false];exact Z.2.2 p (((I p).1 hp).resolve_left a0)
    sep:=λq j l q' j' l' y M Z h5 k H a1=>by
      rcases an b q ⟨n,.agg,ls⟩ st with ⟨e0,e⟩|⟨z,e⟩ <;> rcases an b q' ⟨n,.agg,ls⟩ st with ⟨e1,e'⟩|⟨a4,e'⟩
      · rw[e]at y;rw[e']at Z
        simp only[e0,if_true]at H;simp only[e1,if_true]at a1;exact⟨e0.trans e1.symm,b2 j j' l l' y M Z h5 k H a1⟩
      · rw[e]at y;rw[e']at Z
        simp only[e0,if_true]at H;simp only[a4,if_false]at a1;exact absurd a1 ((ab j l y M k H).2.2.2 q' j' l' a4 Z h5)
      · rw[e]at y;rw[e']at Z
        simp only[z,if_false]at H;simp only[e1,if_true]at a1
        grind
      · rw[e]at y;rw[e']at Z
        simp only[z]at H;simp only[a4,if_false]at a1;exact h.sep q j l q' j' l' y M Z h5 k H a1
    box:=λq hq=>by
      by_cases O:q=b
      · simp only[O,if_true];exact⟨Y.1,Y.2.1⟩
      · simp only[O,if_false];exact h.box q (((I q).1 hq).resolve_left O)
    inj:=λq q' hq b4 e=>by
      by_cases O:q=b <;> by_cases R:q'=b
      · omega
      · simp only[O,if_true,R,if_false]at e
        exact absurd e.symm (Y.2.2.1 q' R (((I q').1 b4).resolve_left R))
      · simp only[O,if_false,R,if_true]at e
        exact absurd e (Y.2.2.1 q O (((I q).1 hq).resolve_left O))
      · simp only[O,if_false,R,if_false]at e
        exact h.inj q q' (((I q).1 hq).resolve_left O) (((I q').1 b4).resolve_left R) e
    nwlt:=λk H=>⟨BW (h.nwlt k H).1 b1,(h.nwlt k H).2⟩
    os:=b5.trans h.os,tape:=ht.trans h.tape,output:=ho.trans h.output,size:=BL h.size b1
    keep:=λk hp=>by
      rw[J k (.inr (.inl hp)) (by rintro rfl;exact Y.2.1 hp)];exact h.keep k hp
    fixb:=λx hx=>by
      obtain⟨y,M⟩:=h.fixb x hx;refine⟨(I _).2 (.inr y),?_⟩;by_cases a6:x.1=b
      · simp only[a6,if_true]
        rcases hg with ⟨_,e⟩|⟨a2,_⟩
        · rw[<- e,<- a6];exact M
        · exact absurd (a6 ▸ y) a2
      · simpa only[a6,if_false]using M
    fixt:=h.fixt }
theorem aq.setBox (hV:ay V)(h:aq P V W st a w)(b:Nat)(hb:B0<=b)(n:Nat)(ls:List Leaf)(H:List Value)(z:Nat->List Nat)(g:Nat)(E:TypeId)
  (hn:(st b).ver<n) (hg:(live st b/\W.β b=g)\/(¬ live st b/\w.heap.size<=g)) (Y:w'.heap[g]?=some (.cells H.toArray E (0,0)))
  (I:∀ k,k<w.heap.size->k≠g->w'.heap[k]?=w.heap[k]?) (a0:w.heap.size<=w'.heap.size) (a1:w'.os=w.os) (ht:w'.tape=w.tape) (ho:w'.output=w.output)
  (hl:ls.length=H.length) (h1:∀ u∈H,u.oneCell'=true)
  (X:∀ (j:Nat) (l:Leaf) (u:Value),ls[j]?=some l->H[j]?=some u->aK P V W st w (z j) l u)
  (y:∀ (j:Nat) (l:Leaf),ls[j]?=some l->ap l->∀ k∈z j,¬ W.nw k/\¬ V.prot k/\k<w.heap.size/\(∀ b,live st b->W.β b≠k) /\
   ∀ (r1 j1:Nat) (l1:Leaf),r1≠b->(st r1).ls[j1]?=some l1->ap l1->k∉W.bs r1 j1)
  (Z:∀ (j j':Nat) (l l':Leaf),ls[j]?=some l->ap l->ls[j']?=some l'->ap l'->∀ k,k∈z j->k∈z j'->j=j') :
  aq P V { W with β:=λr=>if r=b then g else W.β r,cs:=λr=>if r=b then H else W.cs r,bs:=λr j=>if r=b then z j else W.bs r j }
   (ae [(b,⟨n,.agg,ls⟩)] st) a w' :=
 h.setBoxG hV b hb n ls H z g E hn (hg.imp id λ⟨h2,h3⟩=>⟨h2,λhu=>by have:=h.used_lt g hu;omega,λj l M O k J=>by have:=(y j l M O k J).2.2.1;omega⟩) Y
  (λk J R=>I k (h.used_lt k J) R) (λj l M O k J R=>I k (y j l M O k J).2.2.1 R) a0 a1 ht ho hl h1 X
  (λj l M O k J=>⟨(y j l M O k J).1,(y j l M O k J).2.1,(y j l M O k J).2.2.2.1,(y j l M O k J).2.2.2.2⟩) Z
theorem ek (y:aD P V W st w ls cs){x:Nat×Nat}(u:x∈bu st ls):aC st x:=by
 induction ls generalizing cs with
 |nil=>simp[bu]at u
 |cons l ls H =>
  cases cs with
  |nil=>exact y.elim
  |cons v cs =>
   cases l with
   |al r j n =>
    simp only[bu,BN]at u;rcases u with u|u
    ·split at u
     ·rename_i p X E e R z;simp at u;subst u;exact⟨_,(eY z (by simp)).2,trivial⟩
     ·grind
    ·exact H y.2 u
   |nal p O ep M E e R =>
    simp only[bu,BN]at u;rcases u with u|u
    ·split at u
     ·rename_i z;simp only[aE]at z;cases I:bk st O ep with
      |false=>simp[I]at z
      |true =>
       obtain⟨k,J,rfl⟩:=List.mem_map.1 u;exact (cC I).2.2 k J
     ·grind
    ·exact H y.2 u
   |_=>exact H y.2 u
theorem Bq (z:aD P V W st w ls cs){ks:List (Nat×Nat)}(u:∀ x∈bu st ls,x∈ks)(p:Bool):∀ k,bj V W p (bu st ls) k->gd V (W.frz st ks) p k:=by
 intro k r;rcases r with r|⟨x,y,r⟩
 ·exact bU (W':=W.frz st ks) (λh=>h) (λ_ h=>Or.inl h) k r
 ·exact .inl (.inr ⟨x,u x y,ek z y,r⟩)
end
section
variable {P:Program} {V:Env} {Γ:List Ctr} {T:TypeId->TI} {st:St} {o:Oper} {R:Type} {κ:Upd->Option R} {r:R}
def bW (P:Program)(V:Env)(o:Oper)(st:St)(κ:Upd->Option R)(r:R):Prop :=
 ∃ U,κ U=some r/\∀ W a w,aq P V W st a w->mF P V o st U a w
theorem x3 (I:ay V)(y:bN V o){x:Operand}(u:o.op=.move x)(h:act Γ T o st κ=some r):bW P V o st κ r:=by
 simp only[act,wrU,u]at h;split at h
 ·rename_i d H;refine⟨_,h,λW a w z=>?_⟩;obtain⟨O,M,J⟩:=cU z x;exact dX I z H y (by simp[execOp,u]) M J
 ·grind
theorem vp (M:ay V)(z:bN V o){x:Operand}(y:o.op=.assign x)(h:act Γ T o st κ=some r):bW P V o st κ r:=by
 simp only[act,y]at h;split at h
 ·rename_i d H;cases u:hZ st (av st x).2 with
  |false=>simp[u]at h
  |true =>
   simp only[u]at h;refine⟨_,h,λW a w I=>?_⟩;obtain⟨Y,X,O⟩:=cU I x;intro next Q J;refine dW (v:=a.eval x) (w':=w) (by simp[execOp,y]) ?_;rw[H];exact J _ _ (I.putMoved M O u d (z d H).1 (z d H).2 X)
 ·grind
theorem x4 (X:ay V)(H:bN V o){c x y:Operand}(u:o.op=.pick c x y)(h:act Γ T o st κ=some r):bW P V o st κ r:=by
 simp only[act,wrU,u]at h;split at h
 ·rename_i t O;cases t with
  |true =>
   split at h
   ·rename_i d I;refine⟨_,h,λW a w z=>?_⟩;obtain⟨Y,M,J⟩:=cU z x;exact dX X z I H (v:=a.eval x) (by simp[execOp,u,ig z O,asBool]) M J
   ·grind
  |false =>
   split at h
   ·rename_i d I;refine⟨_,h,λW a w z=>?_⟩;obtain⟨Y,M,J⟩:=cU z y;exact dX X z I H (v:=a.eval y) (by simp[execOp,u,ig z O,asBool]) M J
   ·grind
 ·grind
theorem sw (hV:ay V)(a0:bN V o){x:Operand}(X:o.op=.nilCheck x)(h:act Γ T o st κ=some r):bW P V o st κ r:=by
 simp only[act,wrU,X]at h;have H:∀ {l:Leaf} {d:Nat},one st x=l->l≠.dead->(∀ W a w,aq P V W st a w->aK P V W st w [] l (a.eval x)->∃ ad,a.eval x=.pointer (some ad))->o.dst=some d ->
   ∀ W a w,aq P V W st a w->mF P V o st (cl st [] d .one [l]) a w:=by
  intro l d z Z hp I W a w M;obtain⟨Y,h2,h3,_⟩:=bq M x (by rw[z];exact Z);rw[z]at Y h2;obtain⟨ad,O⟩:=hp W a w M Y;exact aO hV M I a0 (v:=a.eval x) (by simp[execOp,X,O]) Y h2 h3
 split at h
 ·split at h
  ·rename_i z _ d I;exact⟨_,h,H z (by simp) (λW a w M u=>by obtain⟨g,o',c,O,_⟩:=u;exact⟨_,O⟩) I⟩
  ·grind
 ·split at h
  ·rename_i z _ d I;exact⟨_,h,H z (by simp) (λW a w M u=>⟨_,u.2.2⟩) I⟩
  ·grind
 ·rename_i r' j v i sz off z;cases J:BA (st r').ver v with
  |false=>simp[J]at h
  |true =>
   simp only[J]at h;split at h
   ·rename_i d I;refine⟨_,h,H z (by simp) (λW a w M u=>?_) I⟩;obtain⟨g,a2,a1,_,_,O⟩:=u.2 (BB J)
    simp_all
   ·grind
 ·split at h
  ·rename_i z _ d I;exact⟨_,h,H z (by simp) (λW a w M u=>by obtain⟨b,ob,g,o',c,O,_⟩:=u;exact⟨_,O⟩) I⟩
  ·grind
 ·rename_i p ks ep b y off z;cases J:bk st ks ep with
  |false=>simp[J]at h
  |true =>
   simp only[J]at h;split at h
   ·rename_i d I;refine⟨_,h,H z (by simp) (λW a w M u=>?_) I⟩;obtain⟨g,o',c,O,_⟩:=(u.2.2 (cC J).1 (cC J).2.1 (cC J).2.2:NpOk V W w p ks b y off _).rd
    simp_all
   ·grind
 ·grind
theorem x5 (J:ay V)(y:bN V o){M:UnOp}{t:TypeId}{x:Operand}(u:o.op=.unOp M t x)(h:act Γ T o st κ=some r):bW P V o st κ r:=by
 simp only[act,wrU,u]at h;split at h
 ·rename_i b H;split at h
  ·rename_i d I;exact⟨_,h,λW a w z=>aO J z I y (v:=.bool (!b)) (by simp[execOp,u,ig z H,Op.unary]) rfl id rfl⟩
  ·grind
 ·rename_i k n H;split at h
  ·rename_i d I;exact⟨_,h,λW a w z=>aO J z I y (v:=.int k (k.wrap (0-n))) (by simp[execOp,u,bD z H,Op.unary,Op.intArith]) rfl id rfl⟩
  ·grind
 ·grind
theorem tV (hV:ay V)(Y:bN V o){x:Operand}{i:Nat}(H:o.op=.extract x i)(h:act Γ T o st κ=some r):bW P V o st κ r:=by
 simp only[act,wrU,H]at h;split at h
 ·rename_i u ls he;split at h
  ·rename_i agg n hp;split at h
   ·rename_i d hd;refine⟨_,h,λW a w hr=>?_⟩;obtain⟨z,hs,hl⟩:=cU hr x;rw[he]at hs hl;obtain⟨y,hv,X⟩:=hs;have J:∀ (u:List (Bool×Nat)) (y z:List Value) (i:Nat) (off:Nat),pu u y z->u[i]?=some (agg,n) ->
      ∃ v,y[i]?=some v/\da agg v ((z.drop ((u.take i).foldl (λa b=>a+b.2) off-off)).take n)/\off<=(u.take i).foldl (λa b=>a+b.2) off:=by
     intro u;induction u with
     |nil=>intro y z i off _ I;simp at I
     |cons p u ih =>
      rintro y z i off ⟨v,Z,c,a0,rfl,rfl,hc,a1,X⟩ I;cases i with
      |zero =>
       simp_all
      |succ i =>
       obtain⟨v',M,O,h3⟩:=ih Z a0 i (off+p.2) X (by simpa using I);refine⟨v',by simpa using M,?_,by simp;omega⟩;simp;have e:(u.take i).foldl (λa b=>a+b.2) (off+p.2)-off=c.length+((u.take i).foldl (λa b=>a+b.2) (off+p.2)-(off+p.2)):=by omega
       rw[e,<- CQ,List.drop_left];exact O
    obtain⟨v,M,O,_⟩:=J u y z i 0 X hp;refine dX hV hr hd Y (v:=v) ?_ (j8 O) ((hl.drop _).take n);simp[execOp,H,hv,Instr.extract,M]
   ·grind
  ·grind
 ·grind
theorem uD {W:Wit}{a:Act}{w:World}(I:aq P V W st a w):∀ (xs:List Operand) (u l:List Nat),
  xs.foldl (λ (u:Option (List Nat)) x=>u.bind λl=>match one st x with|.bp b 0=>some (l++[b])|_=>none) (some u)=some l ->
  ∃ y,l=u++y/\xs.map a.eval=y.map (λb=>Value.pointer (some ⟨W.β b,0,none⟩))/\∀ b∈y,B0<=b/\(st b).sh=.agg
 |[],u,l,h=>⟨[],by simpa using h.symm,rfl,by simp⟩
 |x::xs,u,l,h=>by
  simp at h;have H:∀ (xs:List Operand),xs.foldl (λ (u:Option (List Nat)) x=>u.bind λl=>match one st x with|.bp b 0=>some (l++[b])|_=>none) none=none:=by
   intro xs;induction xs with
   |nil=>rfl
   |cons x xs O=>simpa using O
  split at h
  ·rename_i b M;obtain⟨y,Y,X,Z⟩:=uD I xs (u++[b]) l h;have z:=(bq I x (by rw[M];simp)).1;rw[M]at z;refine⟨b::y,by simp[Y],?_,?_⟩
   ·simp only[CS,X];rw[show a.eval x=_ from z.2.2]
   ·intro q J;rcases CD.1 J with rfl|J
    ·exact⟨z.1,z.2.1⟩
    ·grind
  ·grind
theorem sx (I:ay V)(z:bN V o){fn:Fn}{first caps:Array Operand}(u:o.op=.makeFunc fn first caps)(h:act Γ T o st κ=some r):bW P V o st κ r:=by
 cases fn with
 |func f =>
  simp only[act,wrU,u]at h;cases y:BA first.size 0 with
  |false=>simp[y]at h
  |true =>
   simp only[y]at h;split at h
   ·rename_i l J;split at h
    ·rename_i d Y;refine⟨_,h,λW a w H=>?_⟩;obtain⟨l',O,M,Z⟩:=uD H caps.toList [] l J;subst O;have X:first=#[]:=Array.eq_empty_of_size_eq_zero (BB y)
     refine aO I H Y z (v:=.func (.func f) #[] (l.map λb=>Value.pointer (some ⟨W.β b,0,none⟩)).toArray) ?_ ⟨rfl,Z⟩ id rfl;rw[<- M];simp[execOp,u,Instr.makeFunc,X,<- B5]
    ·grind
   ·grind
 |_=>simp[act,u]at h
theorem gl {α:Type}{xs:List α}{i:Int}{x:α}(h:idx xs i=some x):0<=i/\i<xs.length/\xs[i.toNat]?=some x:=by
 unfold idx at h
 grind
end
section
variable {P:Program} {V:Env} {Γ:List Ctr} {T:TypeId->TI} {st:St} {o:Oper} {R:Type} {κ:Upd->Option R} {r:R}
theorem wH {W:Wit}{a:Act}{w:World}(H:aq P V W st a w){x:Operand}{b:Ty}{p:Bool}{u:b.den}(z:(av st x).1=.agg)(J:cP st b (av st x).2=some (p,u)) :
  ∃ y G,a.eval x=.agg y.toArray/\Rd w G b u y:=by
 obtain⟨y,I,M⟩:=cU H x;rw[z]at I;exact⟨y,_,I,ez H M J⟩
theorem lq {t:TypeId}(y:P.underlying t=some .bool)(b u:Bool)(w:World):(Op.equal t (.bool b) (.bool u)).run P w=.ok (b==u) w:=by
 have e:Op.maxDepth=9999+1:=rfl;unfold Op.equal;rw[e];generalize 9999=m;unfold Op.equalIn;rw[BQ,run_underlying y];rfl
theorem wI (Z:ay V)(hT:TOk P T)(J:bN V o){op:BinOp}{t t':TypeId}{x y:Operand}(H:o.op=.binOp op t x y t')(h:act Γ T o st κ=some r):bW P V o st κ r:=by
  simp only[act,wrU,H]at h;split at h
  · rename_i k m k' n X O
    cases op
    case shl =>
      simp only at h;cases Y:decide (n<0) with
      |true=>simp[Y]at h
      |false =>
        simp only[Y,cond_false]at h;split at h
        · rename_i d M
          refine⟨_,h,λW a w z=>aO Z z M J (v:=.int k (k.wrap (m*2 ^ (min n.toNat k.bits)))) ?_ rfl id rfl⟩;have:¬ n<0:=of_decide_eq_false Y;simp[execOp,H,bD z X,bD z O,eqGuard,Go.binOp,Op.shift,this]
        · cases h
    case shr =>
      simp only at h;cases Y:decide (n<0) with
      |true=>simp[Y]at h
      |false =>
        simp only[Y,cond_false]at h;split at h
        · rename_i d M
          refine⟨_,h,λW a w z=>aO Z z M J (v:=.int k (m.fdiv (2 ^ (min n.toNat k.bits)))) ?_ rfl id rfl⟩;have:¬ n<0:=of_decide_eq_false Y;simp[execOp,H,bD z X,bD z O,eqGuard,Go.binOp,Op.shift,this]
        · cases h
    case quo =>
      simp only at h;cases Y:decide (n=0) with
      |true=>simp[Y]at h
      |false =>
        simp only[Y,cond_false]at h;cases I:decide (k=k') with
        |false=>simp[I]at h
        |true =>
          simp only[I,cond_true]at h;have I:=of_decide_eq_true I;subst I;split at h
          · rename_i d M
            refine⟨_,h,λW a w z=>aO Z z M J (v:=.int k (k.wrap (m.tdiv n))) ?_ rfl id rfl⟩;have:¬ n=0:=of_decide_eq_false Y;simp[execOp,H,bD z X,bD z O,eqGuard,Go.binOp,Op.intDiv,this]
          · cases h
    case rem =>
      simp only at h;cases Y:decide (n=0) with
      |true=>simp[Y]at h
      |false =>
        simp only[Y,cond_false]at h;cases I:decide (k=k') with
        |false=>simp[I]at h
        |true =>
          simp only[I,cond_true]at h;have I:=of_decide_eq_true I;subst I;split at h
          · rename_i d M
            refine⟨_,h,λW a w z=>aO Z z M J (v:=.int k (m.tmod n)) ?_ rfl id rfl⟩;have:¬ n=0:=of_decide_eq_false Y;simp[execOp,H,bD z X,bD z O,eqGuard,Go.binOp,Op.intDiv,this]
          · cases h
    case and =>
      simp only at h;cases I:decide (k=k') with
      |false=>simp[I]at h
      |true =>
        simp only[I,cond_true]at h;have I:=of_decide_eq_true I;subst I;split at h
        · rename_i d M
          refine⟨_,h,λW a w z=>aO Z z M J (v:=.int k (k.wrap ((BitVec.ofInt k.bits m &&& BitVec.ofInt k.bits n).toNat))) ?_ rfl id rfl⟩;simp[execOp,H,bD z X,bD z O,eqGuard,Go.binOp,Op.intBits]
        · cases h
    case xor =>
      simp only at h;cases I:decide (k=k') with
      |false=>simp[I]at h
      |true =>
        simp only[I,cond_true]at h;have I:=of_decide_eq_true I;subst I;split at h
        · rename_i d M
          refine⟨_,h,λW a w z=>aO Z z M J (v:=.int k (k.wrap ((BitVec.ofInt k.bits m ^^^ BitVec.ofInt k.bits n).toNat))) ?_ rfl id rfl⟩;simp[execOp,H,bD z X,bD z O,eqGuard,Go.binOp,Op.intBits]
        · cases h
    all_goals
      simp only at h;cases I:decide (k=k') with
      |false=>simp[I]at h
      |true =>
        simp only[I,cond_true]at h;have I:=of_decide_eq_true I;subst I;split at h
        · rename_i l hl
          split at h
          · rename_i d M
            refine⟨_,h,λW a w z=>?_⟩;obtain⟨v,h1,h2,h3,h4⟩:=vo (P:=P) (V:=V) (W:=W) (st:=st) (w:=w) _ k t t' x y m n l hl (bD z X) (bD z O) H;exact aO Z z M J h1 h2 h3 h4
          · cases h
        · cases h
  · rename_i b b' X O
    cases ht:T t with
    |bool =>
      have h1:=hT t;rw[ht]at h1;simp only[ht]at h;cases op <;> simp only at h <;> first
        |cases h;done
        | (split at h
           · rename_i d M
             first
               |exact⟨_,h,λW a w z=>aO Z z M J (v:=.bool (b==b')) (by simp[execOp,H,ig z X,ig z O,eqGuard,Go.binOp,lq h1.1]) rfl id rfl⟩
               |exact⟨_,h,λW a w z=>aO Z z M J (v:=.bool (b != b')) (by simp[execOp,H,ig z X,ig z O,eqGuard,Go.binOp,lq h1.1,bne]) rfl id rfl⟩
           · cases h)
    |_=>simp[ht]at h
  · rename_i b b' X O
    cases op <;> simp only at h <;> first
      |cases h;done
      | (cases a0 : decide (b.size + b'.size <= 9223372036854775807) with
         |false=>rw[a0]at h;cases h
         |true =>
           rw[a0]at h;simp only[cond_true]at h;split at h
           · rename_i d M
             refine⟨_,h,λW a w z=>aO Z z M J (v:=.string (b++b')) ?_ rfl id rfl⟩;have:(b.size:Int)+b'.size<=9223372036854775807:=by have:=of_decide_eq_true a0;omega
             simp[execOp,H,iB z X,iB z O,eqGuard,Go.binOp,Op.stringOp,this]
           · cases h)
      | (split at h
         · rename_i d M
           first
             |exact⟨_,h,λW a w z=>aO Z z M J (v:=.bool (b.toList==b'.toList)) (by simp[execOp,H,iB z X,iB z O,eqGuard,Go.binOp,Op.stringOp]) rfl id rfl⟩
             |exact⟨_,h,λW a w z=>aO Z z M J (v:=.bool (b.toList != b'.toList)) (by simp[execOp,H,iB z X,iB z O,eqGuard,Go.binOp,Op.stringOp,bne]) rfl id rfl⟩
         · cases h)
  · cases ht:T t with
    |struct b b0 =>
      have h1:=hT t;rw[ht]at h1;obtain⟨_,_,_,a9,a2⟩:=h1;simp only[ht]at h;cases hf:b.flat&&decide ((av st x).1=.agg)&&decide ((av st y).1=.agg) with
      |false=>simp[hf]at h
      |true =>
        simp only[hf,cond_true]at h;simp only[BD,decide_eq_true_eq]at hf;obtain⟨⟨hf,a3⟩,ab⟩:=hf;split at h
        · rename_i p u q v ad a4
          have a1:∀ (W:Wit) (a:Act) (w:World),aq P V W st a w->(Op.equal t (a.eval x) (a.eval y)).run P w=.ok (b.eqv u v) w/\(∃ cx cy:Array Value,a.eval x=.agg cx/\a.eval y=.agg cy):=by
            intro W a w z;obtain⟨cx,G,X,a5⟩:=wH z a3 ad;obtain⟨cy,G',O,a6⟩:=wH z ab a4;rw[X,O];exact⟨a9 hf w G u v cx cy a5 (Rd.flat hf a6),_,_,rfl,rfl⟩
          cases op <;> simp only at h <;> first
            |cases h;done
            | (split at h
               · rename_i d M
                 first
                   | (refine ⟨_, h, λW a w z => aO Z z M J (v := .bool (b.eqv u v)) ?_ rfl id rfl⟩
                      obtain⟨h2,cx,cy,X,O⟩:=a1 W a w z;rw[X,O]at h2;simp[execOp,H,X,O,eqGuard,Go.binOp,a2,h2];done)
                   | (refine ⟨_, h, λW a w z => aO Z z M J (v := .bool (!b.eqv u v)) ?_ rfl id rfl⟩
                      obtain⟨h2,cx,cy,X,O⟩:=a1 W a w z;rw[X,O]at h2;simp[execOp,H,X,O,eqGuard,Go.binOp,a2,h2])
               · cases h)
        · cases h
    |_=>simp[ht]at h
end
section
variable {P:Program} {V:Env} {Γ:List Ctr} {T:TypeId->TI} {st:St} {o:Oper} {R:Type} {κ:Upd->Option R} {r:R}
theorem eU (g off n:Nat):(⟨g,off,none⟩:Addr).add n=⟨g,off+n,none⟩:=by
 unfold Addr.add;split <;> simp_all
theorem du {t:TypeId}{n:Nat}(h:bQ P t n)(w:World):(sizeOf t).run P w=.ok n w:=by
 unfold bQ at h;cases u:P.info? t with
 |none=>simp[u]at h
 |some i =>
  simp[u]at h;simp[sizeOf,typeInfo,u,h]
theorem gm {t:TypeId}{z:Value}(h:d5 P t z)(w:World):(zeroValue t).run P w=.ok z w:=by
 unfold d5 at h;cases u:P.info? t with
 |none=>simp[u]at h
 |some i =>
  simp[u]at h;simp[zeroValue,typeInfo,u,h]
theorem rP (hV:ay V)(hT:TOk P T)(M:bN V o){t:TypeId}{x:Operand}{f:Nat}(a0:o.op=.fieldAddr t x f)(h:act Γ T o st κ=some r):bW P V o st κ r:=by
 simp only[act,wrU,a0]at h;cases ht:T t with
 |struct b a5 =>
  simp only[ht]at h;split at h
  ·rename_i off n agg hf;have h1:=hT t;rw[ht]at h1;obtain⟨⟨fs,hu,_,a2⟩,_⟩:=h1;obtain⟨_,fd,h2,h3,h4,h5,h6,_⟩:=a2 f off n agg hf;have J:∀ (a:Act) (w:World) (g O:Nat),a.eval x=.pointer (some ⟨g,O,none⟩)->(execOp a.eval o).run P w=.ok (.value (.pointer (some ⟨g,O+off,none⟩))) w:=by
    intro a w g O Z;have u:=du h6 w;have h8:n≠0:=by omega
    simp[execOp,a0,Z,Instr.fieldAt,run_underlying hu,h2,B8,fieldPlace,u,h8,eU]
   split at h
   ·rename_i p b' y O H;split at h
    ·rename_i d Y;refine⟨_,h,λW a w z=>?_⟩;obtain⟨u,_,_,_⟩:=bq z x (by rw[H];simp);rw[H]at u;obtain⟨g,og,c,Z,hg,X,hc⟩:=u;exact aO hV z Y M (J a w g _ Z) ⟨g,og,c,by rw[Bz],hg,X,hc⟩ id rfl
    ·grind
   ·rename_i b' O H;split at h
    ·rename_i d Y;refine⟨_,h,λW a w z=>?_⟩;obtain⟨u,_,_,_⟩:=bq z x (by rw[H];simp);rw[H]at u;exact aO hV z Y M (J a w _ _ u.2.2) ⟨u.1,u.2.1,rfl⟩ id rfl
    ·grind
   ·rename_i r' j v i sz O H;cases I:BA (st r').ver v with
    |false=>simp[I]at h
    |true =>
     simp only[I]at h;split at h
     ·rename_i d Y;refine⟨_,h,λW a w z=>?_⟩;obtain⟨u,_,_,_⟩:=bq z x (by rw[H];simp);rw[H]at u;obtain⟨g,a3,a1,hh,a4,Z⟩:=u.2 (BB I);exact aO hV z Y M (J a w g _ Z) ⟨u.1,λ_=>⟨g,a3,a1,hh,a4,by rw[Bz]⟩⟩ id rfl
     ·grind
   ·rename_i p ks ep b' y O H;cases I:bk st ks ep with
    |false=>simp[I]at h
    |true =>
     simp only[I]at h;split at h
     ·rename_i d Y;refine⟨_,h,λW a w z=>?_⟩;obtain⟨u,_,_,_⟩:=bq z x (by rw[H];simp);rw[H]at u;have h8:NpOk V W w p ks b' y O _:=u.2.2 (cC I).1 (cC I).2.1 (cC I).2.2;obtain⟨g,og,c,Z,hg,X,hc⟩:=h8.rd;exact aO hV z Y M (J a w g _ Z) ⟨u.1,u.2.1,λ_ _ _=>⟨g,og,c,by rw[Bz],hg,X,hc⟩⟩ id rfl
     ·grind
   ·grind
  ·grind
 |_=>simp[ht]at h
theorem rQ (hV:ay V)(hT:TOk P T)(Y:bN V o){t:TypeId}{x i:Operand}(a1:o.op=.indexAddr t x i)(h:act Γ T o st κ=some r):bW P V o st κ r:=by
 simp only[act,wrU,a1]at h;split at h
 ·rename_i k n hi;cases ht:T t with
  |slice E e b1 =>
   simp only[ht]at h;have h1:=hT t;rw[ht]at h1;obtain⟨hu,_,_,b3,_,ti,z,a9,ab,_⟩:=h1;have hE:bQ P E e.cells:=by simp[bQ,a9,ab]
   have a2:∀ (W:Wit) (a:Act) (w:World) (g o' O I:Nat),aq P V W st a w->0<=n->n<O->a.eval x=.slice (some ⟨g,o',none⟩) O I ->
     (execOp a.eval o).run P w=.ok (.value (.pointer (some ⟨g,o'+n.toNat*e.cells,none⟩))) w:=by
    intro W a w g o' O I H h0 h1 M;have Z:=du hE w;simp[execOp,a1,M,bD H hi,CT,asIntOf,run_underlying hu,h0,h1,Z,eU]
   split at h
   ·rename_i r' j v X;split at h
    ·rename_i p hh E' e' xs ad;cases u:BA e'.cells e.cells with
     |false=>simp[u]at h
     |true =>
      simp only[u]at h;have u:=BB u;obtain⟨y,hy,h⟩:=BJ.1 h;obtain⟨Z,h3,h4⟩:=gl hy;split at h
      ·rename_i d hd;refine⟨_,h,λW a w H=>?_⟩;obtain⟨J,_,_,_⟩:=bq H x (by rw[X];simp);rw[X]at J;obtain⟨h8,h9,b9,b6⟩:=ke H ad J;obtain⟨_,b2,ba,ho,bb,_⟩:=h9;rcases ho.2 with ⟨hn,h0⟩|⟨g,a0,b5,_,M,_,_,_⟩
       ·omega
       ·refine aO hV H hd Y (a2 W a w g 0 xs.length a0 H Z h3 M) ⟨by omega,λ_=>⟨g,xs.length,a0,by rw[h8,M],by omega,by simp[u]⟩⟩ id rfl
      ·grind
    ·grind
   ·rename_i p E' e' xs X;cases u:BA e'.cells e.cells with
    |false=>simp[u]at h
    |true =>
     simp only[u]at h;have u:=BB u;obtain⟨y,hy,h⟩:=BJ.1 h;obtain⟨Z,h3,h4⟩:=gl hy;split at h
     ·rename_i d hd;refine⟨_,h,λW a w H=>?_⟩;obtain⟨J,_,_,_⟩:=bq H x (by rw[X];simp);rw[X]at J;obtain⟨A,I,M,a6,a4⟩:=J;have M:a.eval x=.slice A xs.length I:=by simpa using M
      obtain⟨g,o',rfl,hg,a5⟩:=a4 (by omega);obtain⟨c,hc,a3⟩:=a5 n.toNat y h4;refine aO hV H hd Y (a2 W a w g o' xs.length I H Z h3 M) ⟨g,o'+n.toNat*e'.cells,c,by rw[u];rfl,?_,hc,a3⟩ id rfl;rcases hg with hg|⟨_,hg⟩
      ·grind
      ·exact .inr (hV.ro g hg)
     ·grind
   ·rename_i p ks ep b4 E' e' xs X;cases u:BA e'.cells e.cells&&bk st ks ep with
    |false=>simp[u]at h
    |true =>
     simp only[u]at h;simp only[BD]at u;obtain⟨u,b0⟩:=u;have u:=BB u;obtain⟨y,hy,h⟩:=BJ.1 h;obtain⟨Z,h3,h4⟩:=gl hy;split at h
     ·rename_i d hd;refine⟨_,h,λW a w H=>?_⟩;obtain⟨J,_,_,_⟩:=bq H x (by rw[X];simp);rw[X]at J;have h8:=pv b0 J;obtain⟨A,I,M,a6,a4⟩:=h8.rd;have M:a.eval x=.slice A xs.length I:=by simpa using M
      obtain⟨g,o',rfl,hg,a5⟩:=a4 (by omega);obtain⟨c,hc,a3⟩:=a5 n.toNat y h4;exact aO hV H hd Y (a2 W a w g o' xs.length I H Z h3 M) ⟨J.1,J.2.1,λ_ _ _=>⟨g,o'+n.toNat*e'.cells,c,by rw[u];rfl,hg,hc,a3⟩⟩ id rfl
     ·grind
   ·grind
  |arr e O =>
   simp only[ht]at h;have h1:=hT t;rw[ht]at h1;obtain⟨⟨E,hu,hE,_⟩,_⟩:=h1;split at h
   ·rename_i b off X;cases u:decide (0<=n)&&decide (n<(O:Int)) with
    |false=>simp[u]at h
    |true =>
     simp only[u]at h;simp at u;split at h
     ·rename_i d hd;refine⟨_,h,λW a w H=>?_⟩;obtain⟨J,_,_,_⟩:=bq H x (by rw[X];simp);rw[X]at J;refine aO hV H hd Y (v:=.pointer (some ⟨W.β b,off+n.toNat*e.cells,none⟩)) ?_ ⟨J.1,J.2.1,rfl⟩ id rfl;have Z:=du hE w;simp[execOp,a1,J.2.2,bD H hi,CT,B8,asIntOf,run_underlying hu,u.1,u.2,Z,eU]
     ·grind
   ·grind
  |_=>simp[ht]at h
 ·grind
theorem wJ {t:TypeId}{i:TI}(u:oJ P t i)(J:i.cells≠0\/i≠.none)(w:World):(isAgg t).run P w=.ok i.agg w:=by
 cases i with
 |none=>simp[TI.cells]at J
 |struct a I =>
  obtain⟨⟨M,H,_⟩,_⟩:=u;simp[isAgg,run_underlying H,TI.agg]
 |arr e n=>obtain⟨⟨E,H,_⟩,_⟩:=u;simp[isAgg,run_underlying H,TI.agg]
 |ptr=>obtain⟨⟨e,H⟩,_⟩:=u;simp[isAgg,run_underlying H,TI.agg]
 |fn=>obtain⟨⟨x,y,z,H⟩,_⟩:=u;simp[isAgg,run_underlying H,TI.agg]
 |int k=>simp[isAgg,run_underlying u.1,TI.agg]
 |bool=>simp[isAgg,run_underlying u.1,TI.agg]
 |str=>simp[isAgg,run_underlying u.1,TI.agg]
 |slice E e b=>simp[isAgg,run_underlying u.1,TI.agg]
theorem oL {t:TypeId}{i:TI}(u:oJ P t i)(z:i≠.none):bQ P t i.cells:=by
 cases i with
 |none=>exact absurd rfl z
 |struct a y=>exact u.2.1
 |arr e n=>exact u.2.2.1
 |ptr=>exact u.2.1
 |fn=>exact u.2.1
 |int k=>exact u.2.1
 |bool=>exact u.2.1
 |str=>exact u.2.1
 |slice E e b=>exact u.2.1
theorem mH {W:Wit}{a:Act}{w:World}(z:aq P V W st a w){e:Ty}:∀ (n:Nat) (ls:List Leaf) (cs:List Value) (xs:List e.den),aD P V W st w ls cs->fy st e n ls=some xs ->
  xs.length=n/\∀ (i:Nat) (x:e.den),xs[i]?=some x->∃ G,Rd w G e x ((cs.drop (i*e.cells)).take e.cells)
 |0,ls,cs,xs,_,h=>by
  simp only[fy]at h
  simp_all
 |n+1,ls,cs,xs,H,h=>by
  simp only[fy]at h;split at h
  ·rename_i p x Y J I;simp at h;subst h;obtain⟨O,M⟩:=mH z n _ _ _ (H.drop e.cells) I;refine⟨by simp[O],λi y u=>?_⟩;cases i with
   |zero =>
    simp at u;subst u;exact⟨_,by simpa using ez z (H.take e.cells) J⟩
   |succ i =>
    obtain⟨G,X⟩:=M i y (by simpa using u);rw[CQ]at X
    grind
  ·cases h
theorem wK (hV:ay V)(hT:TOk P T)(Y:bN V o){t:TypeId}{x i:Operand}(J:o.op=.index t x i)(h:act Γ T o st κ=some r):bW P V o st κ r:=by
 simp only[act,wrU,J]at h;split at h
 ·rename_i k n hi;cases hs:T t with
  |str =>
   simp only[hs]at h;split at h
   ·rename_i s hx;obtain⟨y,hy,h⟩:=BJ.1 h;split at h
    ·rename_i d hd;refine⟨_,h,λW a w I=>aO hV I hd Y (v:=.int .u8 (y.toNat:Int)) ?_ rfl id rfl⟩;have h1:=hT t;rw[hs]at h1;obtain⟨h2,h3,h4⟩:=gl hy;have h5:s[n.toNat]?=some y:=by
      have h6:=(BC.1 h4);obtain⟨h7,h8⟩:=h6;have h9:n.toNat<s.size:=by rw[Array.length_toList]at h7;exact h7
      rw[getElem?_pos s n.toNat h9];congr 1
     simp[execOp,J,bD I hi,iB I hx,CO,asIntOf,run_underlying h1.1,h2,h5]
    ·grind
   ·grind
  |arr e X =>
   simp only[hs]at h;have h1:=hT t;rw[hs]at h1;obtain⟨⟨E,hu,hE,O⟩,a3,_⟩:=h1;cases hb:e.flat&&decide ((av st x).1=.agg)&&BA (av st x).2.length (X*e.cells)&&!BA e.cells 0 with
   |false=>simp[hb]at h
   |true =>
    simp only[hb]at h;simp only[BD,decide_eq_true_eq]at hb;obtain⟨⟨⟨hf,a2⟩,a4⟩,_⟩:=hb;split at h
    ·rename_i vs hg;obtain⟨y,hy,h⟩:=BJ.1 h;split at h
     ·rename_i d hd;refine⟨_,h,λW a w I=>?_⟩;obtain⟨cs,H,hl⟩:=cU I x;rw[a2]at H;have H:a.eval x=.agg cs.toArray:=H;obtain⟨h2,h3,h4⟩:=gl hy;obtain⟨h5,h6⟩:=mH I X _ _ _ hl hg;obtain⟨G,h7⟩:=h6 n.toNat y h4;have h8:Rd w (λ_=>False) e y ((cs.drop (n.toNat*e.cells)).take e.cells):=Rd.flat hf h7;have h9:=h8.len;have M:(isAgg E).run P w=.ok e.isAgg w:=by
       cases Z:P.underlying E with
       |none=>simp[Z]at O
       |some u =>
        simp only[Z,CP,BH]at O;rw[<- O];cases u <;> simp[isAgg,run_underlying Z]
      have a0:=du hE w;have hn:n<(X:Int):=by omega
      cases z:e.isAgg with
      |true =>
       have:=dX hV I hd Y (v:=.agg ((cs.drop (n.toNat*e.cells)).take e.cells).toArray) (sh:=.agg) (ls:=cK false e y) ?_ rfl (eT (λ_ h=>h.elim) h8)
       ·exact this
       ·rw[z]at M;simp[execOp,J,bD I hi,H,CO,asIntOf,run_underlying hu,h2,hn,part,M,a0]
      |false =>
       have a1:e.cells=1:=by cases e <;> first|rfl|simp[Ty.isAgg]at z
       rw[a1]at h8 h9
       match hc:(cs.drop (n.toNat*1)).take 1,h9 with
       |[v],_ =>
        rw[hc]at h8;have:=dX hV I hd Y (v:=v) (sh:=.one) (ls:=cK false e y) (cs:=[v]) ?_ rfl (eT (λ_ h=>h.elim) h8)
        ·exact this
        ·rw[z]at M;have hv:cs[n.toNat]?=some v:=by
          have:((cs.drop (n.toNat*1)).take 1)[0]?=some v:=by rw[hc];rfl
          grind
         simp[execOp,J,bD I hi,H,CO,asIntOf,run_underlying hu,h2,hn,part,M,a0,a1,hv]
     ·grind
    ·grind
  |_=>simp[hs]at h
 ·grind
theorem n9 {t:TypeId}{i:TI}(H:oJ P t i)(M:i≠.none){w:World}{g off:Nat}{cs:List Value}(z:cV w g off cs)(y:cs.length=i.cells) :
  ∃ v,(loadVar t ⟨g,off,none⟩).run P w=.ok v w/\ee (bg i.agg) v cs:=by
 have I:=wJ H (.inr M) w;cases J:i.agg with
 |true =>
  refine⟨.agg cs.toArray,?_,rfl⟩;have X:=du (oL H M) w;have O:=run_loadCells_list (P:=P) w ⟨g,off,none⟩ cs (λj v Y=>by rw[eU];exact z j v Y);rw[y]at O;simp[loadVar,I,J,X,O]
 |false =>
  have u:i.cells=1:=by cases i <;> simp_all [TI.agg,TI.cells]
  rw[u]at y
  match cs,y with
  |[v],_ =>
   have:=z 0 v rfl;rw[Nat.add_zero]at this;exact⟨v,by simp[loadVar,I,J,this],rfl⟩
theorem cV.sub {w:World}{g off:Nat}{cs:List Value}(h:cV w g off cs)(k n:Nat):cV w g (off+k) ((cs.drop k).take n):=by
 intro i v u;rw[BP]at u;split at u
 ·rw[Bu]at u;have:=h (k+i) v u
  grind
 ·cases u
theorem Mx.deep {w:World}{G G':Nat->Prop}:∀ {a:Ty} {h:Option Nat} {pos:Nat} {x:a.den} {cs:List Value} {bs:List Nat},a.shy=false->Mx w G a h pos x cs bs->Mx w G' a h pos x cs bs
 |.int _,_,_,_,_,_,_,h=>h
 |.bool,_,_,_,_,_,_,h=>h
 |.str,_,_,_,_,_,_,h=>h
 |.unit,_,_,_,_,_,_,h=>h
 |.hdr,_,_,_,_,_,_,h=>h
 |.pair _ _,_,_,_,_,_,u,⟨c1,c2,b1,b2,M,X,I,z⟩=>by
  simp only[Ty.shy,B9]at u;exact⟨c1,c2,b1,b2,M,X,Mx.deep u.1 I,Mx.deep u.2 z⟩
 |.list m E e,h,pos,xs,cs,bs,u,H=>by
  simp only[Ty.shy,B9,Bool.not_eq_false']at u;obtain⟨rfl,u⟩:=u;by_cases O:h=some pos
  ·subst O;rw[iZ]at H ⊢;exact H
  ·rw[bH O]at H ⊢;obtain⟨v,M,y,J,I,z,h3⟩:=H;refine⟨v,M,y,J,I,z,λj x Y=>?_⟩;obtain⟨c,Z,h5⟩:=h3 j x Y;exact⟨c,Mx.deep u Z,h5⟩
theorem OwB.shy {W:Wit}{w:World}{p:Bool}{h:Option (Nat×Nat)}{E:TypeId}{e:Ty}{xs:List e.den}{v:Value}{bs:List Nat}(H:OwB w (gd V W p) h E e xs v bs):OwB w (gd V W (p&&e.shy)) h E e xs v bs:=by
 cases Y:e.shy with
 |true=>simpa using H
 |false =>
  obtain⟨u,y,I,z,O⟩:=H;refine⟨u,y,I,z,λj x J=>?_⟩;obtain⟨c,M,X⟩:=O j x J;exact⟨c,Mx.deep Y M,X⟩
theorem i8 (p:Bool)(r j v ep i u:Nat)(h:Option Nat):∀ (a:Ty) (off:Nat) (x:a.den),(gF p r j v ep i u h a off x).length=a.cells
 |.int _,_,_=>rfl
 |.bool,_,_=>rfl
 |.str,_,_=>rfl
 |.unit,_,_=>rfl
 |.hdr,_,_=>rfl
 |.pair a b,off,x=>by simp[gF,Ty.cells,i8 p r j v ep i u h a,i8 p r j v ep i u h b]
 |.list _ _ _,_,_=>rfl
theorem lR {W:Wit}{w:World}{p:Bool}{r j g len y i sz:Nat}(M:(W.cs r)[j]?=some (.slice (some ⟨g,0,none⟩) len y))(O:i<len)(hg:g∈W.bs r j){hol:Option Nat} :
  ∀ {a:Ty} {pos:Nat} {x:a.den} {cs:List Value} {bs:List Nat},(∀ k∈bs,k∈W.bs r j)->Mx w (gd V W p) a hol pos x cs bs->cV w g (i*sz+pos) cs->aD P V W st w (gF p r j (st r).ver (st EPO).ver i sz hol a pos x) cs
 |.int _,_,_,_,_,_,h,_=>by rw[h.1];exact⟨⟨rfl,id,rfl⟩,trivial⟩
 |.bool,_,_,_,_,_,h,_=>by rw[h.1];exact⟨⟨rfl,id,rfl⟩,trivial⟩
 |.str,_,_,_,_,_,h,_=>by rw[h.1];exact⟨⟨rfl,id,rfl⟩,trivial⟩
 |.unit,_,_,_,_,_,h,_=>by rw[h.1];trivial
 |.hdr,_,_,_,_,_,⟨⟨A,y,e⟩,_⟩,_=>by rw[e];exact⟨⟨⟨A,y,rfl⟩,id,rfl⟩,trivial⟩
 |.pair a b,pos,x,cs,bs,J,⟨c1,c2,b1,b2,e1,e2,h1,Z⟩,X=>by
  subst e1;have hl:=h1.len;refine aD.append (lR M O hg (λk z=>J k (by rw[e2];exact BG _ z)) h1 λq u hu=>X q u ?_)
   (lR M O hg (λk z=>J k (by rw[e2];exact BF _ z)) Z λq u hu=>?_)
  ·grind
  ·have:=X (a.cells+q) u (by rw[<- hl,BT (by omega)];simpa using hu)
   grind
 |.list m E e,pos,xs,cs,bs,J,H,X=>by
  have I:=H.one;simp only[gF];by_cases Y:hol=some pos
  ·have e0:decide (hol=some pos)=true:=decide_eq_true Y;rw[e0];obtain⟨v,rfl,_⟩:=H;exact⟨⟨trivial,id,I v (by simp)⟩,trivial⟩
  ·have e0:decide (hol=some pos)=false:=decide_eq_false Y;rw[e0];cases m with
   |false =>
    rw[cq]at H;obtain⟨A,y,rfl,Z,h3⟩:=H.2;exact⟨⟨⟨A,y,rfl,Z,h3⟩,id,rfl⟩,trivial⟩
   |true =>
    rw[bH Y]at H;obtain⟨v,rfl,hO⟩:=H;have h1:=X 0 v rfl;refine⟨⟨⟨BI _,λk z=>?_,λ_ _ _=>⟨?_,λi' a3 a0 he=>?_⟩⟩,id,I v (by simp)⟩,trivial⟩
    ·grind
    ·obtain⟨a1,a2,h4,h5,h6⟩:=OwB.shy hO;refine sn h4 (λk z=>.inr ⟨_,BX _,J k (by rw[h5];exact BG _ z)⟩) λq x hq=>?_
     obtain⟨c,h7,h8⟩:=h6 q x hq;exact⟨c,h7.rd (λk z=>.inl z) (λk z=>.inr ⟨_,BX _,J k (by rw[h5];exact BF _ (dV.2 ⟨q,(BC.1 hq).1,z⟩))⟩),h8⟩
    ·grind
theorem jP {W:Wit}{w:World}{p:Bool}{ks:List (Nat×Nat×Nat)}{ep:Nat}(z:ep<=(st EPO).ver)(y:∀ k∈ks,k.2.2<=(st k.1).ver) :
  ∀ {a:Ty} {x:a.den} {cs:List Value},Rd w (λb=>gd V W p b\/∃ k∈ks,b∈W.bs k.1 k.2.1) a x cs->aD P V W st w (li p ks ep a x) cs
 |.int _,_,_,h=>by rw[show _=_ from h];exact⟨⟨rfl,id,rfl⟩,trivial⟩
 |.bool,_,_,h=>by rw[show _=_ from h];exact⟨⟨rfl,id,rfl⟩,trivial⟩
 |.str,_,_,h=>by rw[show _=_ from h];exact⟨⟨rfl,id,rfl⟩,trivial⟩
 |.unit,_,_,h=>by rw[show _=_ from h];trivial
 |.hdr,_,_,⟨A,u,e⟩=>by rw[e];exact⟨⟨⟨A,u,rfl⟩,id,rfl⟩,trivial⟩
 |.pair _ _,_,_,⟨X,O,e,J,H⟩=>by rw[e];exact (jP z y J).append (jP z y H)
 |.list m E e,Z,_,h=>by
  obtain⟨A,u,rfl,H,M⟩:=h;exact⟨⟨⟨z,y,λ_ _ _=>⟨⟨A,u,rfl,H,M⟩,λi Y off I=>by cases I⟩⟩,id,rfl⟩,trivial⟩
theorem zw {W:Wit}{a:Act}{w:World}(hr:aq P V W st a w){r j n g len I i:Nat}{p:Bool}{Z:Option (Nat×Nat)}{E:TypeId}{e:Ty}{xs:List e.den}{y:e.den}(h8:(st r).ver=n)(h9:(st r).ls[j]?=some (.own p Z E e xs))
  (H:(W.cs r)[j]?=some (.slice (some ⟨g,0,none⟩) len I)) (M:i<len) (hy:xs[i]?=some y) :
  ∃ c,cV w g (i*e.cells) c/\aD P V W st w (gF p r j n (st EPO).ver i e.cells (cQ Z i) e 0 y) c:=by
 subst h8;obtain⟨_,a0,a3,Y,O,J⟩:=hr.leaf r j _ _ h9 H;obtain⟨c,h1,h2⟩:=J i y hy;have a2:=h1.len;have hi:i<xs.length:=(BC.1 hy).1;have z:len=xs.length:=by
  obtain⟨A,a1,e0,_⟩:=Y.slice
  simp_all
 subst z;have X:cV w g (i*e.cells) c:=by
  intro q u hu;have hq:=(BC.1 hu).1;rw[Y.cellAt _ (by
   have:i*e.cells+e.cells<=xs.length*e.cells:=by
    have:=Nat.mul_le_mul_right e.cells (show i+1<=xs.length from hi)
    grind
   omega)]
  grind
 refine⟨c,X,lR H M (by rw[O];simp[BY]) (λk hk=>?_) h1 X⟩
 grind
theorem x6 (hV:ay V)(hT:TOk P T)(ab:bN V o){t:TypeId}{x:Operand}(a2:o.op=.load t x)(h:act Γ T o st κ=some r):bW P V o st κ r:=by
 simp only[act,wrU,a2,lJ]at h;have a6:=hT t;have Z:∀ (W:Wit) (a:Act) (w:World) (g off:Nat) (cs:List Value) (ls:List Leaf) (d:Nat),aq P V W st a w->o.dst=some d->T t≠.none->a.eval x=.pointer (some ⟨g,off,none⟩)->cV w g off cs ->
   cs.length=(T t).cells->aD P V W st w ls cs->mF P V o st (cl st [] d (bg (T t).agg) ls) a w:=by
  intro W a w g off cs ls d z hd hn O X hl a0;obtain⟨v,h1,h2⟩:=n9 a6 hn X hl;exact dX hV z hd ab (v:=v) (by simp[execOp,a2,O,Instr.loadAt,B8,h1]) h2 a0
 cases M:decide ((T t).cells=0) with
 |true=>simp[M]at h
 |false =>
  simp only[M]at h;have M:(T t).cells≠0:=of_decide_eq_false M;have Y:T t≠.none:=by intro e;rw[e]at M;exact M rfl
  split at h
  ·rename_i p b y off J;cases u:decide (off+(T t).cells<=b.cells) with
   |false=>simp[u]at h
   |true =>
    simp only[u]at h;split at h
    ·rename_i d hd;refine⟨_,h,λW a w z=>?_⟩;obtain⟨H,_,_,_⟩:=bq z x (by rw[J];simp);rw[J]at H;obtain⟨g,og,c,O,hg,I,X⟩:=H;refine Z W a w g _ ((c.drop off).take (T t).cells) _ d z hd Y O (X.sub off _) ?_ (((eT (λ_ h=>h) I).drop off).take _);have:=I.len
     grind
    ·grind
  ·rename_i b off J;cases u:decide ((st b).sh=.agg)&&decide (off+(T t).cells<=(st b).ls.length) with
   |false=>simp[u]at h
   |true =>
    simp only[u]at h;split at h
    ·rename_i d hd;refine⟨_,h,λW a w z=>?_⟩;obtain⟨H,_,_,_⟩:=bq z x (by rw[J];simp);rw[J]at H;obtain⟨hB,b2,O⟩:=H;rcases z.boxes b hB with ⟨h8,_⟩|⟨_,E,h8⟩
     ·grind
     ·have X:cV w (W.β b) 0 (W.cs b):=λi v O=>by
       rw[CH,cell_of_row w (W.β b) i _ E (0,0) h8]
       simp_all
      have b0:=z.len b;have a3:=X.sub off (T t).cells;rw[CH]at a3;refine Z W a w (W.β b) off _ _ d z hd Y O a3 ?_ (((iA z b).drop off).take _)
      grind
    ·grind
  ·rename_i p b y J;cases u:BA (T t).cells 1&&!(T t).agg with
   |false=>simp[u]at h
   |true =>
    simp only[u]at h;simp only[BD,Bx]at u;split at h
    ·rename_i d hd;refine⟨_,h,λW a w z=>?_⟩;obtain⟨H,_,_,_⟩:=bq z x (by rw[J];simp);rw[J]at H;obtain⟨q,oq,g,og,c,O,_,a1,hg,I,X⟩:=H;have:=Z W a w q oq [.pointer (some ⟨g,og,none⟩)] [.rp p b y 0] d z hd Y O (λi v hi=>by
      cases i with
      |zero=>simp at hi;subst hi;exact a1
      |succ i=>simp at hi) (by simp[BB u.1]) ⟨⟨⟨g,og,c,rfl,hg,I,X⟩,id,rfl⟩,trivial⟩
     rw[u.2]at this;exact this
    ·grind
  ·rename_i p ks ep b y off J;cases u:bk st ks ep&&decide (off+(T t).cells<=b.cells) with
   |false=>simp[u]at h
   |true =>
    simp only[u]at h;simp at u;split at h
    ·rename_i d hd;refine⟨_,h,λW a w z=>?_⟩;obtain⟨H,_,_,_⟩:=bq z x (by rw[J];simp);rw[J]at H;have h8:NpOk V W w p ks b y off _:=H.2.2 (cC u.1).1 (cC u.1).2.1 (cC u.1).2.2;obtain⟨g,og,c,O,hg,I,X⟩:=h8.rd;refine Z W a w g _ ((c.drop off).take (T t).cells) _ d z hd Y O (X.sub off _) ?_ (((jP H.1 H.2.1 I).drop off).take _);have:=I.len
     grind
    ·grind
  ·rename_i r' j v i sz off J;split at h
   ·rename_i p hh E e xs a5;cases u:BA sz e.cells&&decide (off+(T t).cells<=e.cells) with
    |false=>simp[u]at h
    |true =>
     simp only[u]at h;simp only[BD]at u;have a4:=BB u.1;subst a4;obtain⟨y,hy,h⟩:=BJ.1 h;obtain⟨_,_,h4⟩:=gl hy;split at h
     ·rename_i d hd;refine⟨_,h,λW a w z=>?_⟩;obtain⟨H,_,_,_⟩:=bq z x (by rw[J];simp);rw[J]at H;obtain⟨h8,h9⟩:=eY a5 (by simp);obtain⟨g,b3,b1,a9,ad,O⟩:=H.2 h8;obtain⟨c,X,a0⟩:=zw z h8 h9 a9 ad h4;refine Z W a w g _ _ _ d z hd Y O (X.sub off _) ?_ ((a0.drop off).take _);have:=a0.length;rw[i8]at this
      grind
     ·grind
   ·grind
  ·grind
end
section
variable {P:Program} {V:Env} {Γ:List Ctr} {T:TypeId->TI} {st:St} {o:Oper} {R:Type} {κ:Upd->Option R} {r:R}
theorem wL (hV:ay V)(hT:TOk P T)(O:bN V o){t:TypeId}{x:Operand}{f:Nat}(H:o.op=.field t x f)(h:act Γ T o st κ=some r):bW P V o st κ r:=by
 simp only[act,wrU,H]at h;cases ht:T t with
 |struct b a2 =>
  simp only[ht]at h;split at h
  ·rename_i off n agg hf;have h1:=hT t;rw[ht]at h1;obtain⟨⟨fs,hu,_,a1⟩,_⟩:=h1;obtain⟨J,Y,h2,h3,h4,h5,h6,Z⟩:=a1 f off n agg hf;cases M:decide ((av st x).1=.agg)&&decide ((av st x).2.length=b.cells) with
   |false=>simp[M]at h
   |true =>
    simp only[M,cond_true]at h;simp only[BD,decide_eq_true_eq]at M;split at h
    ·rename_i d hd;refine⟨_,h,λW a w hr=>?_⟩;obtain⟨u,hs,hl⟩:=cU hr x;rw[M.1]at hs;have X:=hl.length;rw[M.2]at X;have y:(isAgg Y.type).run P w=.ok agg w:=by
      unfold isAgg;cases I:P.underlying Y.type with
      |none=>simp[I]at Z
      |some dd =>
       rw[I]at Z;simp only[CP,BH]at Z;subst Z;rw[BQ,run_underlying I w];cases dd <;> rfl
     have a0:=du h6 w;cases agg with
     |true =>
      refine dX hV hr hd O (v:=.agg ((u.drop off).take n).toArray) ?_ rfl ((hl.drop off).take n);have e:u.toArray.extract off (off+n)=((u.drop off).take n).toArray:=by
       rw[List.extract_toArray,List.extract_eq_take_drop,Nat.add_sub_cancel_left]
      have hp:(part Y.type u.toArray off).run P w=.ok (.agg ((u.drop off).take n).toArray) w:=by
       simp only[part,BQ,y,BM,if_true,a0,BU,e]
      simp only[execOp,H,show a.eval x=_ from hs,CX,BQ,run_underlying hu,BM,h2,asAgg,BU,h3,hp]
     |false =>
      have J:=J rfl;subst J;have z:off<u.length:=by omega
      have hv:((u.drop off).take 1)=[u[off]]:=by
       rw[List.take_one,List.head?_drop,BE z];rfl
      refine dX hV hr hd O (v:=u[off]) ?_ (show ee .one _ ((u.drop off).take 1) from hv) ((hl.drop off).take 1);have e:u.toArray[off]?=some u[off]:=by simp[z]
      have hp:(part Y.type u.toArray off).run P w=.ok u[off] w:=by
       simp only[part,BQ,y,BM,Bool.false_eq_true,if_false,e,BU]
      simp only[execOp,H,show a.eval x=_ from hs,CX,BQ,run_underlying hu,BM,h2,asAgg,BU,h3,hp]
    ·cases h
  ·cases h
 |_=>simp[ht]at h
theorem Av {α:Type}(u y:List α)(off:Nat)(h:off+y.length<=u.length):(u.take off++y++u.drop (off+y.length)).length=u.length:=by
 simp;omega
theorem kR (cs c:List Value)(off:Nat)(h:off+c.length<=cs.length) :
  (c.zipIdx 0).foldl (λcs (x:Value×Nat)=>cs.setIfInBounds (off+x.2) x.1) cs.toArray=(cs.take off++c++cs.drop (off+c.length)).toArray:=by
 obtain⟨H,z⟩:=Great.foldl_set off c 0 cs.toArray;apply Array.ext_getElem?;intro k;rw[z k];simp only[Nat.add_zero,List.size_toArray,List.getElem?_toArray];by_cases y:off<=k/\k<off+c.length/\k<cs.length
 ·rw[if_pos y,BZ,BT (by simp;omega),Bv (by simp;omega)];congr 1;simp;omega
 ·rw[if_neg y];by_cases u:k<off
  ·rw[BZ,Bv (by simp;omega),BP,if_pos u]
  ·rw[BT (by simp;omega),Bu];congr 1;simp;omega
theorem gU {agg:Bool}{v:Value}{cs:List Value}(h:ee (bg agg) v cs)(y:∀ u∈cs,u.oneCell'=true):v.cells=cs.toArray:=by
 cases agg with
 |true=>rw[show v=_ from h];rfl
 |false =>
  have h:cs=[v]:=h;subst h;have:=y v (CG.2 rfl);cases v <;> first|rfl|simp[BK]at this
theorem lS {W:Wit}{a:Act}{w:World}(hr:aq P V W st a w){z:List (Nat×Nat×Bool)}{pl:Nat->Option (Nat×Nat)}(O:∀ (i off n:Nat) (agg:Bool),z[i]?=some (off,n,agg)->pl i=some (off,n)):∀ (ps:List (Nat×Operand)) (ls u:List Leaf) (cs:List Value),
  aD P V W st w ls cs->fg st z ps ls=some u ->
  ∃ y,aD P V W st w u y/\Instr.fill pl cs.toArray (ps.map λx=>(x.1,a.eval x.2))=some y.toArray
 |[],ls,u,cs,J,h=>by
  simp[fg]at h;subst h;exact⟨cs,J,rfl⟩
 |(i,x)::ps,ls,u,cs,J,h=>by
  simp only[fg]at h;split at h
  ·rename_i off n agg hf;cases X:BA (av st x).2.length n&&decide ((av st x).1=bg agg)&&decide (off+n<=ls.length) with
   |false=>simp[X]at h
   |true =>
    simp only[X,cond_true]at h;simp only[BD,decide_eq_true_eq]at X;obtain⟨⟨M,Z⟩,a2⟩:=X;have M:=BB M;obtain⟨c,hs,I⟩:=cU hr x;rw[Z]at hs;have hc:=gU hs I.one';have a1:=J.length;have H:=I.length;have a0:aD P V W st w (jr ls (av st x).2 off) (cs.take off++c++cs.drop (off+c.length)):=by
     unfold jr;rw[H];exact ((J.take off).append I).append (J.drop _)
    obtain⟨y,h1,h2⟩:=lS hr O ps _ u _ a0 h;refine⟨y,h1,?_⟩;simp only[CS,Instr.fill];have Y:pl i=some (off,n):=O _ _ _ _ hf;have a3:c.toArray.size=n:=by simp;omega
    simp only[Y,hc];rw[if_neg (by simp;omega)];have e:c.toArray.zipIdx.foldl (λcs (x:Value×Nat)=>cs.setIfInBounds (off+x.2) x.1) cs.toArray=(c.zipIdx 0).foldl (λcs (x:Value×Nat)=>cs.setIfInBounds (off+x.2) x.1) cs.toArray:=by
     rw[<- Array.foldl_toList];simp
    have e2:=kR cs c off (by omega);rw[<- e2,<- e]at h2;exact h2
  ·cases h
theorem lr {W:Wit}{w:World}:∀ (b:Ty),aD P V W st w (eR b) (zeroCells b)
 |.int _=>⟨⟨rfl,id,rfl⟩,trivial⟩
 |.bool=>⟨⟨rfl,id,rfl⟩,trivial⟩
 |.str=>⟨⟨rfl,id,rfl⟩,trivial⟩
 |.unit=>trivial
 |.pair a b=>(lr a).append (lr b)
 |.hdr=>⟨⟨rfl,id,rfl⟩,trivial⟩
 |.list _ _ _=>⟨⟨rfl,id,rfl⟩,trivial⟩
theorem oM {W:Wit}{w:World}(e:Ty):∀ (n:Nat),aD P V W st w (BR n (eR e)).flatten (BR n (zeroCells e)).flatten
 |0=>trivial
 |n+1=>by
  rw[CC,CC,CJ,CJ];exact (lr e).append (oM e n)
theorem wM (hV:ay V)(hT:TOk P T)(a0:bN V o){t:TypeId}{u:Array (Nat×Operand)}(J:o.op=.build t u)(h:act Γ T o st κ=some r):bW P V o st κ r:=by
 simp only[act,wrU,J]at h;cases ht:T t with
 |struct b a1 =>
  simp only[ht]at h;split at h
  ·rename_i ls M;split at h
   ·rename_i d hd;refine⟨_,h,λW a w Y=>?_⟩;have Z:=hT t;rw[ht]at Z;obtain⟨⟨fs,hu,a2,_⟩,_,H,_⟩:=Z;obtain⟨z,h2,h3⟩:=lS Y (pl:=((a1.map λx=>(x.1,x.2.1)).toArray[·]?)) (λi off n agg I=>by simp[I]) u.toList _ ls _ (lr b) M;refine dX hV Y hd a0 (v:=.agg z.toArray) ?_ rfl h2;have y:P.built t (u.map λ (i,x)=>(i,a.eval x)).toList=some z.toArray:=by
     unfold d5 at H;unfold CU;cases X:P.info? t with
     |none=>simp[X]at H
     |some ti =>
      simp[X]at H;simp only[hu,H,a2];rw[B5];exact h3
    simp[execOp,J,run_build w t _ _ y]
   ·cases h
  ·cases h
 |arr e n =>
  simp only[ht]at h;split at h
  ·rename_i ls M;split at h
   ·rename_i d hd;refine⟨_,h,λW a w Y=>?_⟩;have Z:=hT t;rw[ht]at Z;obtain⟨⟨E,hu,hE,_⟩,_,_,H⟩:=Z;obtain⟨z,h2,h3⟩:=lS Y (pl:=λi=>some (i*e.cells,e.cells)) (λi off n agg I=>by
     rw[CI]at I;obtain⟨j,hj,I⟩:=BO.1 I;rw[List.getElem?_range (by simpa using (BC.1 hj).1)]at hj;simp only[BH]at hj;subst hj;simp only[CR]at I;simp[<- I.1,<- I.2.1]) u.toList _ ls _ (oM e n) M
    refine dX hV Y hd a0 (v:=.agg z.toArray) ?_ rfl h2;have y:P.built t (u.map λ (i,x)=>(i,a.eval x)).toList=some z.toArray:=by
     unfold d5 at H;unfold bQ at hE;unfold CU;cases X:P.info? t with
     |none=>simp[X]at H
     |some ti =>
      simp[X]at H;cases O:P.info? E with
      |none=>simp[O]at hE
      |some ie =>
       simp[O]at hE;simp only[hu,H,O,hE];rw[B5];exact h3
    simp[execOp,J,run_build w t _ _ y]
   ·cases h
  ·cases h
 |_=>simp[ht]at h
theorem mI {W:Wit}{a:Act}{w:World}(H:aq P V W st a w){x:Option Operand}{u n:Int}(h:di st x u=some n) :
  (x=none/\n=u)\/∃ y k,x=some y/\a.eval y=.int k n:=by
 unfold di at h;split at h
 ·simp at h;exact .inl ⟨rfl,h.symm⟩
 ·split at h
  ·rename_i l k m z;simp at h;subst h;exact .inr ⟨_,k,rfl,bD H z⟩
  ·cases h
theorem jQ (u:Bool)(len y:Nat)(a0:len<=y)(M J:Option Value)(i h:Int)(I:0<=i)(H:i<=h)(hh:h<=len)(X:(M=none/\i=0)\/∃ k,M=some (.int k i))
  (O:(J=none/\h=len)\/∃ k,J=some (.int k h)) (w:World):(CK u len y M J none).run P w=.ok (i.toNat,h.toNat,y) w:=by
 have Y:0<=h:=by omega
 have Z:h<=(y:Int):=by omega
 have z:i<=((h.toNat:Nat):Int):=by omega
 rcases X with ⟨rfl,rfl⟩|⟨k,rfl⟩ <;> rcases O with ⟨rfl,rfl⟩|⟨k',rfl⟩ <;>
  simp[CK,Instr.sliceBound,asIntOf,I,Y,Z,z,H,-Int.ofNat_toNat]
theorem jl (M:ay V){W:Wit}{a:Act}{w:World}(I:aq P V W st a w){x:Operand}{l:Leaf}(y:aE st (one st x)=l)(J:l≠.dead)(z:¬ ap l):aK P V W st w [] l (a.eval x):=by
 have H:one st x≠.dead:=by intro e;rw[e]at y;exact J y.symm
 obtain⟨X,O,_⟩:=bq I x H;rcases lQ M I X O with ⟨_,_,_,_,u,_⟩|⟨_,u⟩
 ·rw[y]at u;exact absurd u z
 ·rw[y]at u;exact u
theorem wN (O:ay V){W:Wit}{a:Act}{w:World}(M:aq P V W st a w){x:Operand}{p:Bool}{ks:List (Nat×Nat×Nat)}{ep:Nat}{y:Option (Nat×Nat×Nat)}{E:TypeId}{e:Ty}{xs:List e.den}
  (u:aE st (one st x)=.nal p ks ep y E e xs):aK P V W st w [] (.nal p ks ep y E e xs) (a.eval x)/\bk st ks ep=true:=by
 refine⟨jl O M u (by simp) (by simp[ap]),?_⟩;generalize one st x=l at u;cases l with
 |nal p' z I J Y Z X =>
  simp only[aE]at u;cases H:bk st z I with
  |false=>simp[H]at u
  |true =>
   simp only[H,cond_true]at u;cases u;exact H
 |al r j n=>exact absurd u iO
 |_=>simp[aE]at u
theorem tW (O:ay V){W:Wit}{a:Act}{w:World}(H:aq P V W st a w){x:Operand}{p:Bool}{I:Option (Nat×Nat)}{E:TypeId}{e:Ty}{xs:List e.den}(u:aE st (one st x)=.own p I E e xs) :
  ∃ r i n,one st x=.al r i n/\(st r).ls[i]?=some (.own p I E e xs)/\OwH w (gd V W p) I E e xs (a.eval x) (W.bs r i)/\(W.cs r)[i]?=some (a.eval x)/\(st r).ver=n:=by
 have z:one st x≠.dead:=by intro e;rw[e]at u;cases u
 obtain⟨J,X,_⟩:=bq H x z;rcases lQ O H J X with ⟨r,i,n,M,_,_,_⟩|⟨y,_⟩
 ·rw[M]at u J;obtain⟨y,Y,Z,h6⟩:=ke H u J;exact⟨r,i,n,M,Z,Y,y,h6⟩
 ·rw[u]at y;exact absurd trivial y
theorem goes_frz (H:ay V){W:Wit}{a:Act}{w:World}(h:aq P V W st a w){d:Nat}(z:o.dst=some d)(y:bN V o)(ks:List (Nat×Nat)){v:Value}{sh:aI}{ls:List Leaf}{cs:List Value}
  (u:(execOp a.eval o).run P w=.ok (.value v) w) (M:ee sh v cs) (I:aD P V (W.frz st ks) (ae (aF st ks) st) w ls cs):mF P V o st (cl st (aF st ks) d sh ls) a w:=by
 intro next Q J;refine dW u ?_;rw[z];refine J _ _ ?_;rw[cl,aP];exact (lp H ks h).1.putLs H d (y d z).1 (y d z).2 _ sh ls v cs (B4 _) M I
theorem cV.shift {w:World}{g o:Nat}{c:List Value}{k s j:Nat}(h:cV w g (o+(k+j)*s) c):cV w g (o+k*s+j*s) c:=by
 rwa [Bz,<- Nat.add_mul]
theorem Rd.cut {w:World}{G:Nat->Prop}{E:TypeId}{e:Ty}{xs:List e.den}{A:Option Addr}{u:Nat}(h:Rd w G (.list false E e) xs [.slice A xs.length u])(i n:Nat)(O:i<=n)(hn:n<=xs.length) :
  Rd w G (.list false E e) ((xs.take n).drop i) [.slice (if u=i then A else A.map (·.add (i*e.cells))) (n-i) (u-i)]:=by
 obtain⟨A',M,J,hc,Z⟩:=h;simp at J;obtain⟨rfl,rfl⟩:=J;have H:((xs.take n).drop i).length=n-i:=by simp;omega
 refine⟨_,u-i,by rw[H],by rw[H];omega,λX=>?_⟩;rw[H]at X;obtain⟨g,o,rfl,hg,I⟩:=Z (by omega);refine⟨g,o+i*e.cells,?_,hg,λj x y=>?_⟩
 ·rw[if_neg (by omega)];simp[eU]
 ·rw[Bu,BP]at y;split at y
  ·obtain⟨c,Y,z⟩:=I (i+j) x y;exact⟨c,Y,z.shift⟩
  ·cases y
theorem vq (hV:ay V)(hT:TOk P T)(a9:bN V o){t:TypeId}{x:Operand}{lo hi:Option Operand}(a1:o.op=.slice t x lo hi none)(h:act Γ T o st κ=some r):bW P V o st κ r:=by
 simp only[act,wrU,a1]at h;cases hd:o.dst with
 |none=>simp[hd]at h
 |some d =>
  simp only[hd]at h;split at h
  ·cases h
  ·rename_i i a6;have h1:=hT t;have Y:∀ (W:Wit) (a:Act) (w:World) (y:Option Operand) (a4 n:Int),aq P V W st a w->di st y a4=some n->(y.map a.eval=none/\n=a4)\/∃ k,y.map a.eval=some (.int k n):=by
    intro W a w y a4 n O H;rcases mI O H with ⟨rfl,rfl⟩|⟨z,k,rfl,hz⟩
    ·exact .inl ⟨rfl,rfl⟩
    ·exact .inr ⟨k,by simp[hz]⟩
   split at h
   ·rename_i s ht hx;rw[ht]at h1;split at h
    ·rename_i n Z;cases H:decide (0<=i)&&decide (i<=n)&&decide (n<=(s.size:Int)) with
     |false=>simp[H]at h
     |true =>
      simp only[H,cond_true]at h;simp only[BD,decide_eq_true_eq]at H;refine⟨_,h,λW a w O=>aO hV O hd a9 (v:=.string (s.extract i.toNat n.toNat)) ?_ rfl id rfl⟩;have I:=jQ (P:=P) false s.size s.size (BI _) (lo.map a.eval) (hi.map a.eval) i n H.1.1 H.1.2 H.2 (Y W a w lo 0 i O a6) (Y W a w hi _ n O Z) w;have b3:a.eval x=.string s:=(jl hV O hx (by simp) (by simp[ap]));simp[execOp,a1,b3,B3,CA,run_underlying h1.1,I]
    ·cases h
   ·rename_i E' e' a5 p ks ep b4 E e xs ht hx;rw[ht]at h1;obtain⟨hu,_,_,_,_,ti,z,a3,a2,_⟩:=h1;split at h
    ·rename_i n Z;cases H:decide (0<=i)&&decide (i<=n)&&decide (n<=(xs.length:Int))&&BA e'.cells e.cells with
     |false=>simp[H]at h
     |true =>
      simp only[H,cond_true]at h;simp only[BD,decide_eq_true_eq]at H;obtain⟨H,M⟩:=H;have M:=BB M;refine⟨_,h,λW a w O=>?_⟩;obtain⟨hl,b2⟩:=wN hV O hx;have h8:=pv b2 hl;obtain⟨A,u,hv,J,a0⟩:=h8.rd;have hv:a.eval x=.slice A xs.length u:=by simpa using hv
      have I:=jQ (P:=P) true xs.length u J (lo.map a.eval) (hi.map a.eval) i n H.1.1 H.1.2 H.2 (Y W a w lo 0 i O a6) (Y W a w hi _ n O Z) w;have hE:=du (P:=P) (t:=E') (n:=e.cells) (by simp[bQ,a3,a2,M]) w;have X:=Rd.cut (E:=E) (⟨A,u,rfl,J,a0⟩:Rd w _ (.list false E e) xs [.slice A xs.length u]) i.toNat n.toNat (by omega) (by omega);refine aO hV O hd a9 (v:=.slice (if u=i.toNat then A else A.map (·.add (i.toNat*e.cells))) (n.toNat-i.toNat) (u-i.toNat)) ?_ ⟨hl.1,hl.2.1,λ_ _ _=>⟨X,λi' sz off he=>by cases he⟩⟩ id rfl;simp only[execOp,a1,hv,B3,CA,BQ,run_underlying hu,BM,B6,I,hE,BU]
    ·cases h
   ·rename_i E' e' a5 p E e xs ht hx;rw[ht]at h1;obtain⟨hu,_,_,_,_,ti,z,a3,a2,_⟩:=h1;split at h
    ·rename_i n Z;cases H:decide (0<=i)&&decide (i<=n)&&decide (n<=(xs.length:Int))&&BA e'.cells e.cells with
     |false=>simp[H]at h
     |true =>
      simp only[H,cond_true]at h;simp only[BD,decide_eq_true_eq]at H;obtain⟨H,M⟩:=H;have M:=BB M;refine⟨_,h,λW a w O=>?_⟩;have hl:=jl hV O hx (by simp) (by simp[ap]);obtain⟨A,u,hv,J,a0⟩:=hl;have hv:a.eval x=.slice A xs.length u:=by simpa using hv
      have I:=jQ (P:=P) true xs.length u J (lo.map a.eval) (hi.map a.eval) i n H.1.1 H.1.2 H.2 (Y W a w lo 0 i O a6) (Y W a w hi _ n O Z) w;have hE:=du (P:=P) (t:=E') (n:=e.cells) (by simp[bQ,a3,a2,M]) w;have X:=Rd.cut (E:=E) (⟨A,u,rfl,J,a0⟩:Rd w (gd V W p) (.list false E e) xs [.slice A xs.length u]) i.toNat n.toNat (by omega) (by omega);refine aO hV O hd a9 (v:=.slice (if u=i.toNat then A else A.map (·.add (i.toNat*e.cells))) (n.toNat-i.toNat) (u-i.toNat)) ?_ X id rfl;simp only[execOp,a1,hv,B3,CA,BQ,run_underlying hu,BM,B6,I,hE,BU]
    ·cases h
   ·rename_i E' e' a5 p E e xs ht hx;rw[ht]at h1;obtain⟨hu,_,_,_,_,ti,z,a3,a2,_⟩:=h1;split at h
    ·rename_i n Z;cases H:decide (0<=i)&&decide (i<=n)&&decide (n<=(xs.length:Int))&&BA e'.cells e.cells with
     |false=>simp[H]at h
     |true =>
      simp only[H,cond_true]at h;simp only[BD,decide_eq_true_eq]at H;obtain⟨H,M⟩:=H;have M:=BB M;split at h
      ·rename_i r' j n' e1;refine⟨_,h,λW a w O=>?_⟩;obtain⟨r1,j1,n1,ad,h2,b1,_,b0⟩:=tW hV O hx;rw[e1]at ad;obtain⟨rfl,rfl,rfl⟩:r'=r1/\j=j1/\n'=n1:=by cases ad;exact⟨rfl,rfl,rfl⟩
       obtain⟨A,u,hv,J⟩:=b1.slice;have I:=jQ (P:=P) true xs.length u J (lo.map a.eval) (hi.map a.eval) i n H.1.1 H.1.2 H.2 (Y W a w lo 0 i O a6) (Y W a w hi _ n O Z) w;have hE:=du (P:=P) (t:=E') (n:=e.cells) (by simp[bQ,a3,a2,M]) w;have ab:=OwH.rd (m:=false) (E':=E) b1;rw[hv]at ab;have X:=Rd.cut ab i.toNat n.toNat (by omega) (by omega);refine aO hV O hd a9 (v:=.slice (if u=i.toNat then A else A.map (·.add (i.toNat*e.cells))) (n.toNat-i.toNat) (u-i.toNat)) ?_
        ⟨BI _,λk hk=>?_,λ_ _ _=>⟨Rd.mono (λk hk=>?_) X,λi' sz off he=>by cases he⟩⟩ id rfl
       ·simp only[execOp,a1,hv,B3,CA,BQ,run_underlying hu,BM,B6,I,hE,BU]
       ·simp only[CG]at hk;subst hk;exact Nat.le_of_eq b0.symm
       ·rcases hk with hk|hk
        ·exact .inl hk
        ·exact .inr ⟨_,BX _,hk⟩
      ·cases h
    ·cases h
   ·cases h
theorem zx (hV:ay V)(hT:TOk P T)(X:bN V o){c:Call}(H:o.op=.call c)(hc:c.callee=.builtin .len)(h:act Γ T o st κ=some r):bW P V o st κ r:=by
 simp only[act,wrU,H,hc]at h;split at h
 ·cases h
 ·rename_i d hd;simp only[hd]at h;split at h
  ·rename_i x hx;split at h
   ·rename_i t ht;have y:c.args=#[x]:=by rw[<- CB (xs:=c.args),hx]
    have I:c.argTypes=#[t]:=by rw[<- CB (xs:=c.argTypes),ht]
    have Y:=hT t;have J:∀ (a:Act) (w:World) (n:Int),(CL #[t] o.type #[a.eval x]).run P w=.ok (.int .i64 n) w->(execOp a.eval o).run P w=.ok (.value (.int .i64 n)) w:=by
     intro a w n M;simp[execOp,H,hc,resolve,invoke,builtin,y,I,M]
    split at h
    ·rename_i E e b u;rw[u]at Y;split at h
     ·rename_i n M;refine⟨_,h,λW a w z=>aO hV z hd X (J a w _ ?_) rfl id rfl⟩;have a0:one st x≠.dead:=by intro e;rw[e]at M;simp[aE,fZ]at M
      obtain⟨h2,h3,_⟩:=bq z x a0;obtain⟨A,Z,O⟩:=wF z h2 h3 M;have O:a.eval x=.slice A n Z:=by simpa using O
      simp[CL,run_underlying Y.1,O,goInt]
     ·cases h
    ·rename_i s u a1;rw[u]at Y;refine⟨_,h,λW a w z=>aO hV z hd X (J a w _ ?_) rfl id rfl⟩;have O:a.eval x=.string s:=jl hV z a1 (by simp) (by simp[ap]);simp[CL,run_underlying Y.1,O,goInt]
    ·cases h
   ·cases h
  ·cases h
end
end Go.Proofs.YtaelpfghkndliaaGreatEv
