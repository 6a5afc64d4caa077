/- The value evaluator, second form: what a Go function's code computes, on plain values. No proof here but definitions. -/
import Derived.Calls
import Derived.Orders
import Derived.KernelRfl
import Derived.Below
import Derived.Maps.AppendAt
import Derived.Laws.OwnMore
import Derived.Lib.ConvBytes
import Derived.WalkKit
import Derived.Great.BuildSlice
set_option linter.unusedVariables false
set_option linter.unusedSimpArgs false
open Array renaming getD_eq_getD_getElem?->CL,toList_map->CU,toArray_toList->Ca
open Bool renaming and_eq_true->BT,not_eq_true'->CP,or_eq_false_iff->CY,not_eq_true->Cl
open ByteArray renaming empty->CE
open Go.Act renaming put->Cu
open Go.Builtin renaming len_->Ck
open Go.Instr renaming sliceAt->CS,sureAddr->CX,slice->CZ,sliceBounds->Cj,index->Cn,indexAt->Cs,field->Cw
open Go.Program renaming built->Ct
open Go.Result renaming andThen_ok->B5
open Go.Sem renaming run_bind->B9,run_pure->CD
open Go.Value renaming oneCell'->B3,ownBlock->CH
open Go.World renaming cell?->Cv
open List renaming getElem?_eq_some_iff->BS,getElem?_eq_getElem->BU,mem_append_right->BV,mem_append_left->BW,mem_append->B6,getElem?_take->B8,replicate->CA,getD_eq_getElem?_getD->CB,getElem?_append_right->CC,mem_singleton_self->CG,append_assoc->CI,range->CJ,getElem?_drop->CM,getElem?_append_left->CN,any_eq_false->CQ,mem_cons_of_mem->CW,replicate_succ->Cb,mem_cons->Cc,length_append->Cd,mem_cons_self->Ce,mem_singleton->Cf,getElem?_map->Ch,flatten_cons->Ci,cons_append->Cm,drop_drop->Cp,map_cons->Cr
open Nat renaming beq->BQ,eq_of_beq_eq_true->BR,le_refl->BY,le_trans->B4,lt_of_lt_of_le->CF,blt->CK,ble->CO,add_assoc->CR,lt_succ_self->CT,zero_add->Cg
open Option renaming bind_eq_some_iff->BZ,map_eq_some_iff->B7,map_none->CV,map_some->Co
open Option.some renaming injEq->BX
open Prod.mk renaming injEq->Cq
namespace Go.Proofs.YtadlacffdemoiaaGreatEv
open Go
inductive Ty where
 |int (k:IntKind)|bool|str|unit
 |hdr
 |pair (a b:Ty)
 |list (m:Bool) (E:TypeId) (e:Ty)
 deriving DecidableEq
abbrev Ty.den:Ty->Type
 |.int _=>Int
 |.bool=>Bool
 |.str=>ByteArray
 |.unit=>Unit
 |.hdr=>Nat
 |.pair a b=>a.den×b.den
 |.list _ _ e=>List e.den
def Ty.cells:Ty->Nat
 |.unit=>0
 |.pair a b=>a.cells+b.cells
 |_=>1
def Ty.zero:(a:Ty)->a.den
 |.int _=>(0:Int)
 |.bool=>false
 |.str=>CE
 |.unit=>()
 |.hdr=>(0:Nat)
 |.pair a b=>(a.zero,b.zero)
 |.list _ _ e=>([]:List e.den)
def Ty.flat:Ty->Bool
 |.list _ _ _=>false
 |.pair a b=>a.flat&&b.flat
 |_=>true
def Ty.sh:Ty->Ty
 |.pair a b=>.pair a.sh b.sh
 |.list _ E e=>.list false E e.sh
 |a=>a
def Ty.shy:Ty->Bool
 |.list m _ e=>!m||e.shy
 |.pair a b=>a.shy||b.shy
 |_=>false
theorem mO:∀ a:Ty,a.sh.den=a.den
 |.int _|.bool|.str|.unit|.hdr=>rfl
 |.pair a b=>by
  show (a.sh.den×b.sh.den)=(a.den×b.den);rw[mO a,mO b]
 |.list _ _ e=>congrArg List (mO e)
theorem jy {a b:Ty}(h:a.sh=b.sh):a.den=b.den:=(mO a).symm.trans ((congrArg Ty.den h).trans (mO b))
def Ty.eqv:(a:Ty)->a.den->a.den->Bool
 |.int _,x,y=>decide ((x:Int)=y)
 |.bool,x,y=>(x:Bool)==y
 |.str,x,y=>decide ((x:ByteArray)=y)
 |.unit,_,_=>true
 |.hdr,_,_=>false
 |.pair a b,x,y=>a.eqv x.1 y.1&&b.eqv x.2 y.2
 |.list _ _ _,_,_=>false
abbrev Tup:List Ty->Type
 |[]=>Unit
 |a::as=>a.den×Tup as
inductive Leaf where
 |int (k:IntKind) (n:Int)
 |bool (b:Bool)
 |str (s:ByteArray)
 |nil
 |hdr (n:Nat)
 |ro (p:Bool) (E:TypeId) (e:Ty) (xs:List e.den)
 |own (p:Bool) (h:Option (Nat×Nat)) (E:TypeId) (e:Ty) (xs:List e.den)
 |al (r j v:Nat)
 |nal (p:Bool) (ks:List (Nat×Nat×Nat)) (ep:Nat) (loc:Option (Nat×Nat×Nat)) (E:TypeId) (e:Ty) (xs:List e.den)
 |ep (r j v:Nat) (i sz off:Nat)
 |np (p:Bool) (ks:List (Nat×Nat×Nat)) (ep:Nat) (a:Ty) (x:a.den) (off:Nat)
 |rp (p:Bool) (a:Ty) (x:a.den) (off:Nat)
 |rpp (p:Bool) (a:Ty) (x:a.den)
 |bp (b off:Nat)
 |clo (f:FuncId) (caps:List Nat)
 |clr (f:FuncId) (caps:List (Bool×Bool×(a:Ty)×a.den))
 |fn (As:List Ty) (B:Ty) (φ:Tup As->Option B.den)
 |dead
inductive aG where
 |off|und|one|agg
 |tup (ps:List (Bool×Nat))
 deriving DecidableEq
structure bT where
 ver:Nat
 sh:aG
 ls:List Leaf
abbrev St:=Nat->bT
def bT.none:bT:=⟨0,.off,[]⟩
def GH:Nat:=99000
def TMP:Nat:=99998
def EPO:Nat:=99999
def B0:Nat:=100000
abbrev Upd:=List (Nat×bT)
def ac (U:Upd)(st:St)(q:Nat):bT :=
 match U with
 |[]=>st q
 |(r,c)::u=>bif BQ q r then c else ac u st q
inductive TI where
 |int (k:IntKind)|bool|str
 |slice (E:TypeId) (e:Ty) (bytes:Nat)
 |struct (a:Ty) (flds:List (Nat×Nat×Bool))
 |arr (e:Ty) (n:Nat)
 |ptr|fn
 |none
def gf:List (TypeId×TI)->TypeId->TI
 |[],_=>.none
 |(t,i)::l,u=>bif BQ t u then i else gf l u
def TI.cells:TI->Nat
 |.struct a _=>a.cells
 |.arr e n=>n*e.cells
 |.none=>0
 |_=>1
def TI.agg:TI->Bool
 |.struct _ _=>true
 |.arr _ _=>true
 |_=>false
def eX:Ty->List Leaf
 |.int k=>[.int k 0]
 |.bool=>[.bool false]
 |.str=>[.str CE]
 |.unit=>[]
 |.hdr=>[.nil]
 |.pair a b=>eX a++eX b
 |.list _ _ _=>[.nil]
def TI.zero:TI->List Leaf
 |.int k=>[.int k 0]
 |.bool=>[.bool false]
 |.str=>[.str CE]
 |.slice _ _ _=>[.nil]
 |.struct a _=>eX a
 |.arr e n=>(CA n (eX e)).flatten
 |.ptr=>[.dead]
 |.fn=>[.dead]
 |.none=>[]
def aq (p:Bool):(a:Ty)->a.den->List Leaf
 |.int k,n=>[.int k n]
 |.bool,b=>[.bool b]
 |.str,s=>[.str s]
 |.unit,_=>[]
 |.hdr,n=>[.hdr n]
 |.pair a b,x=>aq p a x.1++aq p b x.2
 |.list m E e,r=>[bif m then .own (p&&e.shy) none E e r else .ro p E e r]
def cN (p:Bool):(a:Ty)->a.den->List Leaf
 |.int k,n=>[.int k n]
 |.bool,b=>[.bool b]
 |.str,s=>[.str s]
 |.unit,_=>[]
 |.hdr,n=>[.hdr n]
 |.pair a b,x=>cN p a x.1++cN p b x.2
 |.list _ E e,r=>[.ro p E e r]
def lp (p:Bool)(ks:List (Nat×Nat×Nat))(ep:Nat):(a:Ty)->a.den->List Leaf
 |.int k,n=>[.int k n]
 |.bool,b=>[.bool b]
 |.str,s=>[.str s]
 |.unit,_=>[]
 |.hdr,n=>[.hdr n]
 |.pair a b,x=>lp p ks ep a x.1++lp p ks ep b x.2
 |.list _ E e,r=>[.nal p ks ep none E e r]
def gK (p:Bool)(r j v ep i u:Nat)(h:Option Nat):(a:Ty)->Nat->a.den->List Leaf
 |.int k,_,n=>[.int k n]
 |.bool,_,b=>[.bool b]
 |.str,_,s=>[.str s]
 |.unit,_,_=>[]
 |.hdr,_,n=>[.hdr n]
 |.pair a b,off,x=>gK p r j v ep i u h a off x.1++gK p r j v ep i u h b (off+a.cells) x.2
 |.list m E e,off,y=>[bif decide (h=some off) then .dead else bif m then .nal (p&&e.shy) [(r,j,v)] ep (some (i,u,off)) E e y else .ro p E e y]
def lq (p:Bool)(r j v ep i u:Nat)(h:Option (Bool×Nat)):(a:Ty)->Nat->a.den->List Leaf
 |.int k,_,n=>[.int k n]
 |.bool,_,b=>[.bool b]
 |.str,_,s=>[.str s]
 |.unit,_,_=>[]
 |.hdr,_,n=>[.hdr n]
 |.pair a b,off,x=>lq p r j v ep i u h a off x.1++lq p r j v ep i u h b (off+a.cells) x.2
 |.list m E e,off,y=>[bif (match h with|some (b,o)=>BQ o off&&b|Option.none=>false) then .dead else bif m then .nal (p&&e.shy) [(r,j,v)] ep (some (i,u,off)) E e y else .ro p E e y]
def bg (agg:Bool):aG:=bif agg then .agg else .one
def lr:Leaf->Bool
 |.own _ _ _ _ _=>true
 |_=>false
def bq (st:St)(ks:List (Nat×Nat×Nat))(ep:Nat):Bool:=BQ (st EPO).ver ep&&ks.all λk=>BQ (st k.1).ver k.2.2&&lr ((st k.1).ls.getD k.2.1 .dead)
def pG:Leaf->Leaf
 |.nal _ _ _ _ _ _ _=>.dead
 |l=>l
def aD (st:St):Leaf->Leaf
 |.al r j v=>bif BQ (st r).ver v then pG ((st r).ls.getD j .dead) else .dead
 |.nal p y ep u E e z=>bif bq st y ep then .nal p y ep u E e z else .dead
 |l=>l
def lO (t j r:Nat):Leaf->Leaf
 |.own _ _ _ _ _=>.al t j r
 |l=>l
def bF (t r:Nat):Nat->List Leaf->List Leaf
 |_,[]=>[]
 |j,l::u=>lO t j r l::bF t r (j+1) u
def iz:Value->Option Leaf
 |.int k n=>some (.int k n)
 |.bool b=>some (.bool b)
 |.string s=>some (.str s)
 |.slice Option.none 0 0=>some .nil
 |_=>Option.none
def au (st:St):Operand->aG×List Leaf
 |.tmp t=>bif CK t GH then ((st t).sh,bF t (st t).ver 0 (st t).ls) else (.off,[])
 |.const v=>match iz v with
  |some l=>(.one,[l])
  |Option.none=>(.off,[])
 |.func f=>(.one,[.clo f []])
 |.global _=>(.off,[])
def one (st:St)(x:Operand):Leaf :=
 match au st x with
 |(.one,[l])=>l
 |_=>.dead
def castSh (e e':Ty)(xs:List e'.den):Option (List e.den) :=
 if h:e'.sh=e.sh then some (cast (congrArg List (jy h)) xs) else Option.none
def lP (E:TypeId)(e:Ty)(E':TypeId)(e':Ty)(xs:List e'.den):Option (List e.den) :=
 if h:E'=E/\e'=e then some (h.2 ▸ xs) else Option.none
def dl (e:Ty):Leaf->Option (Bool×List e.den)
 |.ro p _ u r=>(castSh e u r).map (p,·)
 |.own p none _ u r=>(castSh e u r).map (p,·)
 |.nal p _ _ _ _ u r=>(castSh e u r).map (p,·)
 |.nil=>some (false,[])
 |_=>Option.none
def gh:Leaf->Option Nat
 |.ro _ _ _ r=>some r.length
 |.own _ _ _ _ r=>some r.length
 |.nal _ _ _ _ _ _ r=>some r.length
 |.nil=>some 0
 |.hdr n=>some n
 |_=>Option.none
def a7 (st:St):(a:Ty)->List Leaf->Option (Bool×a.den×List Leaf)
 |.int k,r=>match r with
  |.int u n::r=>if k=u then some (false,(n:Int),r) else Option.none
  |_=>Option.none
 |.bool,r=>match r with
  |.bool b::r=>some (false,b,r)
  |_=>Option.none
 |.str,r=>match r with
  |.str s::r=>some (false,s,r)
  |_=>Option.none
 |.unit,r=>some (false,(),r)
 |.hdr,r=>match r with
  |l::r=>match gh (aD st l) with
   |some n=>some (false,(n:Nat),r)
   |Option.none=>Option.none
  |_=>Option.none
 |.pair a b,r=>match a7 st a r with
  |some (p,x,r)=>match a7 st b r with
   |some (q,y,r)=>some (p||q,(x,y),r)
   |Option.none=>Option.none
  |Option.none=>Option.none
 |.list _ _ e,r=>match r with
  |l::r=>match dl e (aD st l) with
   |some (p,z)=>some (p,z,r)
   |Option.none=>Option.none
  |_=>Option.none
def cR (st:St)(a:Ty)(ls:List Leaf):Option (Bool×a.den) :=
 match a7 st a ls with
 |some (p,x,[])=>some (p,x)
 |_=>Option.none
structure cO (α:Type) where
 p:Bool
 val:α
 frz:List (Nat×Nat)
 kill:List (Nat×Nat)
 rest:List Leaf
def bw (st:St):List Leaf->List (Nat×Nat)
 |[]=>[]
 |.al r j v::u=>(match aD st (.al r j v) with|.own _ _ _ _ _=>[(r,j)]|_=>[])++bw st u
 |.nal p z ep y E e H::u=>(match aD st (.nal p z ep y E e H) with|.nal _ _ _ _ _ _ _=>z.map (λk=>(k.1,k.2.1))|_=>[])++bw st u
 |_::u=>bw st u
def b8 (st:St):List Leaf->List (Nat×Nat)
 |[]=>[]
 |.al r j v::u=>(match aD st (.al r j v) with|.own _ _ _ _ _=>[(r,j)]|_=>[])++b8 st u
 |_::u=>b8 st u
def take (st : St) : (a : Ty) -> List Leaf -> Option (cO a.den)
  |.int k,u=>(a7 st (.int k) u).map λx=>⟨false,x.2.1,[],[],x.2.2⟩
  |.bool,u=>(a7 st .bool u).map λx=>⟨false,x.2.1,[],[],x.2.2⟩
  |.str,u=>(a7 st .str u).map λx=>⟨false,x.2.1,[],[],x.2.2⟩
  |.unit,u=>some ⟨false,(),[],[],u⟩
  |.hdr,u=>(a7 st .hdr u).map λx=>⟨false,x.2.1,[],[],x.2.2⟩
  |.pair a b,u=>match take st a u with
    |some x=>match take st b x.rest with
      |some y=>some ⟨x.p||y.p,(x.val,y.val),x.frz++y.frz,x.kill++y.kill,y.rest⟩
      |Option.none=>Option.none
    |Option.none=>Option.none
  |.list m E e,u=>match u with
    |[]=>Option.none
    |l::u=>bif m then (match l with
        |.al r j v=>match aD st (.al r j v) with
          |.own p none H I z=>(lP E e H I z).map λz=>⟨p,z,[],[(r,j)],u⟩
          |_=>Option.none
        |.nil=>some ⟨false,([]:List e.den),[],[],u⟩
        |_=>Option.none)
      else match dl e (aD st l) with
        |some (p,z)=>some ⟨p,z,bw st [l],[],u⟩
        |Option.none=>Option.none
def cj (st:St)(a:Ty)(ls:List Leaf):Option (cO a.den) :=
 match take st a ls with
 |some ⟨p,x,f,k,[]⟩=>some ⟨p,x,f,k,[]⟩
 |_=>Option.none
def dh (st:St)(off n:Nat):(a:Ty)->Nat->a.den->List Leaf->Option (cO a.den)
 |.pair a b,pos,x,r=>match dh st off n a pos x.1 r with
  |some u=>match dh st off n b (pos+a.cells) x.2 u.rest with
   |some v=>some ⟨u.p||v.p,(u.val,v.val),u.frz++v.frz,u.kill++v.kill,v.rest⟩
   |Option.none=>Option.none
  |Option.none=>Option.none
 |.int k,pos,x,r=>bif CO off pos&&CK pos (off+n) then take st (.int k) r else some ⟨false,x,[],[],r⟩
 |.bool,pos,x,r=>bif CO off pos&&CK pos (off+n) then take st .bool r else some ⟨false,x,[],[],r⟩
 |.str,pos,x,r=>bif CO off pos&&CK pos (off+n) then take st .str r else some ⟨false,x,[],[],r⟩
 |.unit,_,x,r=>some ⟨false,x,[],[],r⟩
 |.hdr,_,_,_=>Option.none
 |.list m E e,pos,x,r=>bif CO off pos&&CK pos (off+n) then take st (.list m E e) r else some ⟨false,x,[],[],r⟩
def bM (off:Nat)(E:TypeId)(e:Ty)(r:List e.den):(a:Ty)->Nat->a.den->Option a.den
 |.pair a b,pos,x=>match bM off E e r a pos x.1 with
  |some u=>some (u,x.2)
  |Option.none=>(bM off E e r b (pos+a.cells) x.2).map λv=>(x.1,v)
 |.list m z y,pos,_=>bif m&&BQ pos off then lP z y E e r else Option.none
 |.int _,_,_|.bool,_,_|.str,_,_|.unit,_,_|.hdr,_,_=>Option.none
def aw:List Leaf->List Nat
 |[]=>[]
 |.al r _ _::u=>r::aw u
 |.ep r _ _ _ _ _::u=>r::aw u
 |.nal _ y _ _ _ _ _::u=>EPO::y.map (·.1)++aw u
 |.np _ y _ _ _ _::u=>EPO::y.map (·.1)++aw u
 |_::u=>aw u
def aS (ls:List Leaf)(j:Nat)(l:Leaf):List Leaf:=ls.set j l
def gi (c:bT)(j:Nat):bT:=⟨c.ver,c.sh,aS c.ls j .dead⟩
def aM (st:St):List (Nat×Nat)->Upd
 |[]=>[]
 |(r,j)::u=>let U:=aM st u;let c:=ac U st r;(r,gi c j)::U
def uV:Leaf->Leaf
 |.own p none E e r=>.ro p E e r
 |.own _ (some _) _ _ _=>.dead
 |l=>l
def f9 (c:bT)(j:Nat):bT:=⟨c.ver,c.sh,aS c.ls j (uV (c.ls.getD j .dead))⟩
def aE (st:St):List (Nat×Nat)->Upd
 |[]=>[]
 |(r,j)::u=>let U:=aE st u;let c:=ac U st r;(r,f9 c j)::U
def bV (c:bT):bT:=⟨c.ver+1,c.sh,c.ls⟩
def epoU (st:St):Upd:=[(EPO,bV (st EPO))]
def dA (st:St):List Leaf->List (Nat×Nat)
 |[]=>[]
 |.nal p u ep none E e y::r=>(match aD st (.nal p u ep none E e y) with|.nal _ _ _ _ _ _ _=>u.map (λk=>(k.1,k.2.1))|_=>[])++dA st r
 |_::r=>dA st r
def gn (st:St)(l:Leaf):Leaf:=match aD st l with
 |.nal p _ _ none E e r=>.ro p E e r
 |l=>l
def dJ (st:St)(ls:List Leaf):List Leaf:=ls.map (gn st)
def mvU (st:St)(ls:List Leaf):Upd:=let U:=aE st (dA st ls);aM (ac U st) (b8 st ls)++U
def aZ:List (Nat×Nat)->Bool
 |[]=>true
 |x::r=>!(r.any λy=>BQ x.1 y.1&&BQ x.2 y.2)&&aZ r
def iA (a b:Nat×Nat):Bool:=BQ a.1 b.1&&BQ a.2 b.2
def dF (a b:List (Nat×Nat)):Bool:=!(a.any λk=>b.any (iA k))
def ii (st:St)(ls:List Leaf):Bool:=aZ (b8 st ls)&&dF (dA st ls) (b8 st ls)
def sE (st:St):Operand->Bool
 |.tmp q=>BQ (st q).ver 7
 |_=>false
def idx {α:Type}(xs:List α)(i:Int):Option α:=if i<0 then Option.none else xs[i.toNat]?
def jz (u r:List Leaf)(off:Nat):List Leaf:=u.take off++r++u.drop (off+r.length)
def sG (r:BinOp)(k:IntKind)(x y:Int):Option Leaf :=
 match r with
 |.add=>some (.int k (k.wrap (x+y)))
 |.sub=>some (.int k (k.wrap (x-y)))
 |.mul=>some (.int k (k.wrap (x*y)))
 |.eql=>some (.bool (x==y))
 |.neq=>some (.bool (x != y))
 |.lss=>some (.bool (decide (x<y)))
 |.leq=>some (.bool (decide (x<=y)))
 |.gtr=>some (.bool (decide (x>y)))
 |.geq=>some (.bool (decide (x>=y)))
 |_=>Option.none
def bd (off:Nat):(a:Ty)->Nat->a.den->Option ((E:TypeId)×(e:Ty)×List e.den)
 |.pair a b,pos,x=>match bd off a pos x.1 with
  |some u=>some u
  |Option.none=>bd off b (pos+a.cells) x.2
 |.list m E e,pos,r=>bif m&&BQ pos off then some ⟨E,e,r⟩ else Option.none
 |.int _,_,_|.bool,_,_|.str,_,_|.unit,_,_|.hdr,_,_=>Option.none
def cn (st:St):Leaf->Option (Upd×Leaf)
  |.nal p I ep H E e X=>bif bq st I ep then (match I,H with
      | [(r, j, _)], some (i, M, off) => (match (st r).ls.getD j .dead with
        |.own J none O z u=>bif !BQ r TMP&&!BQ r EPO&&BQ M z.cells then
            (match u[i]? with
            |some y=>match bd off z 0 y with
              |some ⟨E,e,R⟩=>some ([(r,⟨(st r).ver,(st r).sh,aS (st r).ls j (.own J (some (i,off)) O z u)⟩),(TMP,⟨(st TMP).ver+1,.one,[.own (J&&z.shy) none E e R]⟩),(EPO,bV (st EPO))],.al TMP 0 ((st TMP).ver+1))
              |Option.none=>Option.none
            |Option.none=>Option.none)
          else Option.none
        |_=>Option.none)
      |_,_=>Option.none)
    else Option.none
  |_=>Option.none
def jp:Leaf->Bool
 |.nal _ _ _ _ _ _ _=>true
 |_=>false
inductive PK where
 |rd (a:Ty)
 |own (a:Ty)
 |io (a:Ty)
 |rref (a:Ty)
 |rref2 (a:Ty)
 |iop (a:Ty)
 |fn (As:List Ty) (B:Ty)
 |clo (f:FuncId) (cs:List (Bool×Ty))
 |hol (a:Ty) (c off:Nat)
 deriving DecidableEq
inductive RK where
 |v (a:Ty)
 |bv (a:Ty)
 |box (a:Ty)
 deriving DecidableEq
abbrev lQ:List (Bool×Ty)->Type
 |[]=>Unit
 |c::r=>c.2.den×lQ r
abbrev PK.den:PK->Type
 |.rd a|.own a|.io a|.rref a|.rref2 a|.iop a=>a.den
 |.fn r B=>Tup r->Option B.den
 |.clo _ u=>lQ u
 |.hol a _ _=>a.den×Nat
abbrev ab:List PK->Type
 |[]=>Unit
 |p::r=>p.den×ab r
abbrev ai:List PK->Type
 |[]=>Unit
 |.io a::r=>a.den×ai r
 |.iop a::r=>a.den×ai r
 |_::r=>ai r
abbrev RK.den:RK->Type
 |.v a|.bv a|.box a=>a.den
abbrev aj:List RK->Type
 |[]=>Unit
 |r::u=>r.den×aj u
structure Ctr where
 f:FuncId
 ps:List PK
 rs:List RK
 fresh:Bool
 den:ab ps->Option (aj rs×ai ps)
def Ty.isAgg:Ty->Bool
 |.pair _ _|.unit=>true
 |_=>false
def target (st:St):Leaf->Option (List Leaf)
 |.bp b 0=>bif decide ((st b).sh=.agg) then some (bF b (st b).ver 0 (st b).ls) else none
 |.rp p a x 0=>some (cN p a x)
 |.rpp p a x=>some [.rp p a x 0]
 |_=>none
structure Got (α:Type) where
 p:Bool
 val:α
 frz:List (Nat×Nat)
 kill:List (Nat×Nat)
 see:List Nat
 lend:List Nat
def Got.ofRd {α:Type}(r:List Nat)(x:Bool×α)(frz:List (Nat×Nat)):Got α:=⟨x.1,x.2,frz,[],r,[]⟩
def lR (Γ:List Ctr)(f:FuncId):Option Ctr:=match Γ with
 |[]=>none
 |c::r=>bif BQ c.f f then some c else lR r f
def co (x:aG×List Leaf):Leaf :=
 match x with
 |(.one,[l])=>l
 |_=>.dead
def fj:List Leaf->List Nat
 |[]=>[]
 |.bp b _::r=>b::fj r
 |_::r=>fj r
def fk (st:St)(c:Bool×Ty)(l:Leaf):Option (Got c.2.den) :=
 bif c.1 then (match target st l with
  |some [u]=>match target st u with
   |some r=>(cR st c.2 r).map λy=>.ofRd (fj [l,u]) y (bw st r)
   |none=>none
  |_=>none)
 else match target st l with
  |some r=>(cR st c.2 r).map λy=>.ofRd (fj [l]) y (bw st r)
  |none=>none
def cC (st:St):(cs:List (Bool×Ty))->List Leaf->Option (Got (lQ cs))
 |[],[]=>some ⟨false,(),[],[],[],[]⟩
 |c::cs,l::r=>match fk st c l with
  |some g=>match cC st cs r with
   |some h=>some ⟨g.p||h.p,(g.val,h.val),g.frz++h.frz,[],g.see++h.see,[]⟩
   |none=>none
  |none=>none
 |_,_=>none
def eR (c:Bool×Bool×(a:Ty)×a.den):Leaf:=bif c.2.1 then .rpp c.1 c.2.2.1 c.2.2.2 else .rp c.1 c.2.2.1 c.2.2.2 0
def bf (st : St) : (pk : PK) -> aG × List Leaf -> Option (Got pk.den)
  |.rd a,x=>bif decide (x.1=bg a.isAgg) then (cR st a x.2).map λy=>.ofRd [] y (bw st x.2) else none
  |.own a,x=>bif decide (x.1=bg a.isAgg) then (cj st a x.2).map λt=>⟨t.p,t.val,t.frz,t.kill,[],[]⟩ else none
  |.io a,x=>bif decide (x.1=bg a.isAgg) then (cj st a x.2).map λt=>⟨t.p,t.val,t.frz,t.kill,[],[]⟩ else none
  |.rref a,x=>fk st (false,a) (co x)
  |.rref2 a,x=>fk st (true,a) (co x)
  |.iop a,x=>match co x with
    |.bp b 0=>bif decide ((st b).sh=.agg) then (cj st a (bF b (st b).ver 0 (st b).ls)).map λt=>⟨t.p,t.val,t.frz,t.kill,[],[b]⟩ else none
    |_=>none
  |.fn J B,x=>match co x with
    |.fn H R M=>if h:H=J/\R=B then some ⟨false,(h.1 ▸ h.2 ▸ M:Tup J->Option B.den),[],[],[],[]⟩ else none
    |_=>none
  |.clo f I,x=>match co x with
    |.clo z u=>bif BQ z f then cC st I (u.map λb=>.bp b 0) else none
    |.clr z u=>bif BQ z f then cC st I (u.map eR) else none
    |_=>none
  |.hol a c off,x=>bif decide (x.1=bg a.isAgg) then (match x.2.getD c .dead with
      |.al r j v=>(match aD st (.al r j v) with
        |.own p (some (i,o)) E e O=>bif BQ o off then (match cj st a (aS x.2 c .nil) with
            |some t=>(match bM c E e O a 0 t.val with
              |some y=>some ⟨p||t.p,(y,i),t.frz,(r,j)::t.kill,[],[]⟩
              |none=>none)
            |none=>none) else none
        |_=>none)
      |_=>none) else none
def a8 (ga:(pk:PK)->aG×List Leaf->Option (Got pk.den)):(ps:List PK)->List (aG×List Leaf)->Option (Got (ab ps))
 |[],[]=>some ⟨false,(),[],[],[],[]⟩
 |p::ps,x::r=>match ga p x with
  |some g=>match a8 ga ps r with
   |some h=>some ⟨g.p||h.p,(g.val,h.val),g.frz++h.frz,g.kill++h.kill,g.see++h.see,g.lend++h.lend⟩
   |none=>none
  |none=>none
 |_,_=>none
def uW (st:St):(ps:List PK)->List (aG×List Leaf)->Option (Got (ab ps)):=a8 (bf st)
def ca (st:St):List Leaf->List Leaf->Upd
 |.al r j _::y,l::u=>let U:=ca st y u;(match l with|.own p h E e ys=>let c:=ac U st r;[(r,⟨c.ver,c.sh,aS c.ls j (.own p h E e ys)⟩),(EPO,bV (ac U st EPO))]|_=>[])++U
 |_::y,_::u=>ca st y u
 |_,_=>[]
def aF (st:St)(p:Bool):(ps:List PK)->List (aG×List Leaf)->ai ps->Upd
 |[],_,_=>[]
 |.io a::ps,x::r,o=>let U:=aF st p ps r o.2;ca (ac U st) x.2 (aq p a o.1)++U
 |.iop a::ps,x::r,o=>let U:=aF st p ps r o.2;(match co x with
  |.bp b _=>let c:=ac U st b;[(b,⟨c.ver+2,.agg,aq p a o.1⟩)]
  |_=>[])++U
 |.rd _::ps,_::r,o=>aF st p ps r o
 |.own _::ps,_::r,o=>aF st p ps r o
 |.rref _::ps,_::r,o=>aF st p ps r o
 |.rref2 _::ps,_::r,o=>aF st p ps r o
 |.fn _ _::ps,_::r,o=>aF st p ps r o
 |.clo _ _::ps,_::r,o=>aF st p ps r o
 |.hol _ _ _::ps,_::r,o=>aF st p ps r o
 |_::_,[],_=>[]
def pH (d v:Nat)(p q:Bool)(ks:List (Nat×Nat×Nat))(ep:Nat):(r:RK)->r.den->(Bool×List Leaf)×Upd
 |.v a,y=>((a.isAgg,aq p a y),[])
 |.bv a,y=>((a.isAgg,lp q ks ep a y),[])
 |.box a,y=>((false,[.bp (B0+d) 0]),[(B0+d,⟨v+1,.agg,aq p a y⟩)])
def bD (d v:Nat)(p q:Bool)(ks:List (Nat×Nat×Nat))(ep:Nat):(u:List RK)->aj u->List (Bool×List Leaf)×Upd
 |[],_=>([],[])
 |r::u,y=>let a:=pH d v p q ks ep r y.1;let b:=bD d v p q ks ep u y.2;(a.1::b.1,a.2++b.2)
def eS (r:Nat)(l:List (Bool×List Leaf)):bT :=
 match l with
 |[(agg,u)]=>⟨r,bg agg,u⟩
 |l=>⟨r,.tup (l.map λx=>(x.1,x.2.length)),(l.map (·.2)).flatten⟩
def cm (st:St)(U:Upd)(d:Nat)(sh:aG)(ls:List Leaf):Upd:=(d,⟨(ac U st d).ver+1,sh,ls⟩)::U
def PK.reads:PK->Bool
 |.rd _|.rref _|.rref2 _=>true
 |_=>false
def nO (caps:List PK)(z:ab caps):(r:List Ty)->Tup r->ab (r.map .rd++caps)
 |[],_=>z
 |_::as,x=>(x.1,nO caps z as x.2)
def sm (st:St)(u:List Ty)(B:Ty)(ls:List Leaf)(ps:List PK)(H:List RK)(r:Bool)(z:ab ps->Option (aj H×ai ps))(q:List PK):Option (Got (Tup u->Option B.den)) :=
 if h:ps=u.map .rd++q/\H=[.v B] then
  bif q.all PK.reads&&B.flat&&r then
   match uW st q (ls.map λl=>(.one,[l])) with
   |some g=>some ⟨g.p,λx=>(z (h.1 ▸ nO _ g.val u x)).map λy=>(h.2 ▸ y.1:aj [.v B]).1,g.frz,[],g.see,[]⟩
   |none=>none
  else none
 else none
def ky (Γ:List Ctr)(st:St)(r:List Ty)(B:Ty)(f:FuncId)(ls:List Leaf):Option (Got (Tup r->Option B.den)) :=
 match lR Γ f with
 |some c=>sm st r B ls c.ps c.rs c.fresh c.den (c.ps.drop r.length)
 |none=>none
def vK:Leaf->Option (FuncId×List Leaf)
 |.clo f r=>some (f,r.map λb=>.bp b 0)
 |.clr f r=>some (f,r.map eR)
 |_=>none
def ce (Γ:List Ctr)(st:St):(pk:PK)->aG×List Leaf->Option (Got pk.den)
 |.fn r B,x=>match vK (co x) with
  |some u=>ky Γ st r B u.1 u.2
  |none=>bf st (.fn r B) x
 |.rd a,x=>bf st (.rd a) x
 |.own a,x=>bf st (.own a) x
 |.io a,x=>bf st (.io a) x
 |.rref a,x=>bf st (.rref a) x
 |.rref2 a,x=>bf st (.rref2 a) x
 |.iop a,x=>bf st (.iop a) x
 |.clo f y,x=>bf st (.clo f y) x
 |.hol a c off,x=>bf st (.hol a c off) x
def oT (Γ:List Ctr)(st:St):(ps:List PK)->List (aG×List Leaf)->Option (Got (ab ps)):=a8 (ce Γ st)
def PK.takes:PK->Bool
 |.own _|.io _=>true
 |_=>false
def PK.isIo:PK->Bool
 |.io _=>true
 |_=>false
def pI:Ty->Nat->Bool
 |.pair a b,j=>bif CK j a.cells then pI a j else pI b (j-a.cells)
 |.list m _ _,j=>m&&BQ j 0
 |_,_=>false
def lu (a:Ty):Nat->List Leaf->Option Nat
 |_,[]=>none
 |j,l::r=>bif jp l&&pI a j then some j else lu a (j+1) r
def PK.nest:PK->List Leaf->Option Nat
 |.own a,r=>lu a 0 r
 |.io a,r=>lu a 0 r
 |_,_=>none
def kd:Leaf->Nat×Nat
 |.nal _ ((r,j,_)::_) _ _ _ _ _=>(r,j)
 |_=>(0,0)
def c8 (st:St):List PK->List (aG×List Leaf)->Option (Upd×List (aG×List Leaf)×Option (Bool×Nat×Nat))
 |p::y,x::r=>match p.nest x.2 with
  |some k=>(cn st (x.2.getD k .dead)).map λu=>(u.1,(x.1,aS x.2 k u.2)::r,some (p.isIo,kd (x.2.getD k .dead)))
  |none=>(c8 st y r).map λu=>(u.1,x::u.2.1,u.2.2)
 |_,r=>some ([],r,none)
section
variable {R:Type}
def lS (st : St) (l : Leaf) (Y : Upd -> Leaf -> Option R) : Option R :=
  match l with
  |.nal _ I ep H _ _ _=>bif bq st I ep then (match I,H with
      | [(r, j, _)], some (i, M, off) => (match (st r).ls.getD j .dead with
        |.own J none O z u=>bif !BQ r TMP&&!BQ r EPO&&BQ M z.cells then
            (idx u (i:Int)).bind λy=>match bd off z 0 y with
              |some ⟨E,e,X⟩=>Y [(r,⟨(st r).ver,(st r).sh,aS (st r).ls j (.own J (some (i,off)) O z u)⟩),(TMP,⟨(st TMP).ver+1,.one,[.own (J&&z.shy) none E e X]⟩),(EPO,bV (st EPO))] (.al TMP 0 ((st TMP).ver+1))
              |Option.none=>Option.none
          else Option.none
        |_=>Option.none)
      |_,_=>Option.none)
    else Option.none
  |_=>Option.none
def kz (st:St):List PK->List (aG×List Leaf)->(Upd->List (aG×List Leaf)->Option (Bool×Nat×Nat)->Option R)->Option R
 |p::y,x::u,r=>match p.nest x.2 with
  |some k=>lS st (x.2.getD k .dead) λU l=>r U ((x.1,aS x.2 k l)::u) (some (p.isIo,kd (x.2.getD k .dead)))
  |none=>kz st y u λU z b=>r U (x::z) b
 |_,u,r=>r [] u none
def iO (st:St):(u:List Ty)->List (aG×List Leaf)->Option (Tup u)
 |[],[]=>some ()
 |a::as,x::r=>bif decide (x.1=bg a.isAgg) then match cR st a x.2 with
   |some (_,y)=>(iO st as r).map (y,·)
   |none=>none
  else none
 |_,_=>none
def RK.isV:RK->Bool
 |.v _|.bv _=>true
 |.box _=>false
def RK.isBv:RK->Bool
 |.bv _=>true
 |_=>false
def gL (st:St)(d:Nat):List RK->Bool
 |[.box _]=>decide ((st (B0+d)).sh=.off)
 |rs=>rs.all RK.isV
def oU (b:Option (Bool×Nat×Nat))(frz kill:List (Nat×Nat))(d:Nat):Bool :=
 match b with
 |some (true,r,j)=>!(kill.any (iA (r,j)))&&!(frz.any (iA (r,j)))&&!BQ r d&&!BQ r (B0+d)
 |_=>true
def jT (st:St)(b:Option (Bool×Nat×Nat))(U:Upd)(H:Upd->Option R):Option R :=
 match b with
 |some (true,r,j) =>
  match (ac U st r).ls.getD j .dead,(ac U st TMP).ls with
  |.own p (some (i,off)) J u I,[.own q none E e M]=>(idx I (i:Int)).bind λy=>match bM off E e M u 0 y with
   |some z=>H ((r,⟨(ac U st r).ver,(ac U st r).sh,aS (ac U st r).ls j (.own (p||q) none J u (I.set i z))⟩)::(TMP,⟨(ac U st TMP).ver+1,.off,[]⟩)::(EPO,bV (ac U st EPO))::U)
   |none=>none
  |_,_=>none
 |_=>H U
def jq (Γ:List Ctr)(st:St)(d:Nat)(f:FuncId)(xs:List (aG×List Leaf))(J:Upd->Option R):Option R :=
 match lR Γ f with
 |some c=>kz st c.ps xs λu xs b =>
  match oT Γ (ac u st) c.ps xs with
  |some g=>bif aZ g.kill&&dF g.frz g.kill&&gL st d c.rs&&!(g.see.any λq=>g.lend.any (BQ q))&&CO g.lend.length 1&&(g.lend.isEmpty||!(c.ps.any PK.isIo))&&((c.fresh&&g.lend.isEmpty)||!(c.rs.any RK.isBv))&&(g.kill.all λk=>!BQ k.1 EPO)&&oU b g.frz g.kill d then
   (c.den g.val).bind λy =>
    let I:=(let U:=(bif c.fresh then [] else aE (ac u st) g.frz);aM (ac U (ac u st)) g.kill++U)++u;let z:=aF (ac I st) (g.p&&!c.fresh) c.ps xs y.2++I;let r:=bD d (ac z st (B0+d)).ver (g.p&&!c.fresh) g.p (g.frz.map λk=>(k.1,k.2,(ac z st k.1).ver)) (ac z st EPO).ver c.rs y.1;let H:=r.2++z
    jT st b ((d,eS ((ac H st d).ver+1) r.1)::H) J
   else none
  |none=>none
 |none=>none
def an:Nat:=140737488355328
def fU (st:St)(E:TypeId)(e:Ty)(y:Leaf):Option (cO (List e.den)) :=
 bif e.flat then (dl e (aD st y)).map λx=>⟨false,x.2,[],[],[]⟩
 else bif decide (e.sh=e) then (dl e (aD st y)).map λx=>⟨x.1,x.2,bw st [y],[],[]⟩
 else (cj st (.list true E e) [y]).map λt=>⟨t.p,t.val,t.frz,t.kill,[]⟩
def dW (st r:St)(z:Upd)(d:Nat)(E:TypeId)(e:Ty)(u:Nat)(p:Bool)(xs:List e.den)(ks:List (Nat×Nat))(y:Leaf)(H:Upd->Option R):Option R :=
 match fU r E e y with
 |some t=>bif aZ (t.kill++ks)&&dF t.frz (t.kill++ks)&&decide ((xs.length+t.val.length)*u<=an) then
   let U:=aE r t.frz
   H (cm st (aM (ac U r) (t.kill++ks)++U++z) d .one [.own (p||t.p) none E e (xs++t.val)])
  else none
 |none=>none
def ew (st:St)(z:Upd)(d:Nat)(E:TypeId)(e:Ty)(u:Nat)(x y:Leaf)(I:Upd->Option R):Option R :=
 match x with
 |.al r j v=>match aD (ac z st) (.al r j v) with
  |.own p none J H M=>bif BQ J E&&decide (H.sh=e.sh) then dW st (ac z st) z d J H u p M [(r,j)] y I else none
  |_=>none
 |.nil=>dW st (ac z st) z d E e u false [] [] y I
 |_=>none
def iB (st:St)(d:Nat)(E:TypeId)(e:Ty)(r:Nat)(x y:Leaf)(u:Upd->Option R):Option R :=
 bif jp x then lS st x λz x=>ew st z d E e r x y u else ew st [] d E e r x y u
def dm (st:St)(x:Option Operand)(r:Int):Option Int :=
 match x with
 |none=>some r
 |some l=>match one st l with
  |.int _ n=>some n
  |_=>none
def fm (st:St)(r:List (Nat×Nat×Bool)):List (Nat×Operand)->List Leaf->Option (List Leaf)
 |[],u=>some u
 |(i,x)::y,u=>match r[i]? with
  |some (off,n,agg)=>bif BQ (au st x).2.length n&&decide ((au st x).1=bg agg)&&decide (off+n<=u.length) then fm st r y (jz u (au st x).2 off) else none
  |none=>none
def eC (st:St)(e:Ty):Nat->List (Nat×Operand)->Option (cO (List e.den))
  |_,[]=>some ⟨false,[],[],[],[]⟩
  |k,(i,x)::r=>bif BQ i k&&decide ((au st x).1=bg e.isAgg) then
      match cj st e (au st x).2,eC st e (k+1) r with
      |some t,some u=>some ⟨t.p||u.p,t.val::u.val,t.frz++u.frz,t.kill++u.kill,[]⟩
      |_,_=>none
    else none
def fF (st:St)(e:Ty):Nat->List Leaf->Option (List e.den)
 |0,_=>some []
 |n+1,r=>match cR st e (r.take e.cells),fF st e n (r.drop e.cells) with
  |some (_,x),some u=>some (x::u)
  |_,_=>none
def sH (st:St)(xs:List Operand):Option (List Nat) :=
 xs.foldl (λ (r:Option (List Nat)) x=>r.bind λl=>match one st x with
  |.bp b 0=>some (l++[b])
  |_=>none) (some [])
def wrU (o:Oper)(st:St)(r:Upd->Option R)(sh:aG)(ls:List Leaf):Option R:=match o.dst with
 |some d=>r (cm st [] d sh ls)
 |none=>none
def cS (h:Option (Nat×Nat))(i:Nat):Option Nat:=match h with
 |some (u,r)=>bif BQ u i then some r else none
 |none=>none
def holB (h:Option (Nat×Nat))(i:Nat):Option (Bool×Nat):=match h with
 |some (u,r)=>some (BQ u i,r)
 |none=>none
theorem lT (p:Bool)(r j v ep i u:Nat)(h:Option (Nat×Nat))(n:Nat):∀ (a:Ty) (off:Nat) (x:a.den),lq p r j v ep i u (holB h n) a off x=gK p r j v ep i u (cS h n) a off x
 |.int _,_,_|.bool,_,_|.str,_,_|.unit,_,_|.hdr,_,_=>rfl
 |.pair a b,off,x=>by
  show _++_=_++_;rw[lT p r j v ep i u h n a,lT p r j v ep i u h n b]
 |.list m E e,off,I=>by
  simp only[lq,gK];congr 2;cases h with
  |none=>rfl
  |some q =>
   obtain⟨z,H⟩:=q;simp only[holB,cS];by_cases y:BQ z n=true
   ·simp only[y,Bool.and_true,cond_true,BX];rw[Bool.eq_iff_iff,Nat.beq_eq,decide_eq_true_eq]
   ·simp only[Cl]at y;simp[y]
def gM (st:St)(r j i off:Nat)(n:Nat)(p:Bool)(E:TypeId)(e:Ty)(xs:List e.den)(h:Option (Nat×Nat))(ls:List Leaf)(M:Upd->Option R):Option R :=
 (idx xs (i:Int)).bind λz =>
  match dh st off n e 0 z ls with
  |some t=>bif t.rest.isEmpty&&aZ t.kill&&dF t.frz t.kill&&!((t.kill++t.frz).any λk=>BQ k.1 r) then
    let H:=aE st t.frz;let I:=aM (ac H st) t.kill++H;let u (l:Leaf):Option R:=M ((r,⟨(st r).ver,(st r).sh,aS (st r).ls j l⟩)::(EPO,bV (ac I st EPO))::I)
    match h with
    |none=>u (.own (p||t.p) none E e (xs.set i t.val))
    |some (J,y)=>bif CO off y&&CK y (off+n) then (bif BQ i J then u (.own (p||t.p) none E e (xs.set i t.val)) else none)
     else u (.own (p||t.p) (some (J,y)) E e (xs.set i t.val))
   else none
  |none=>none
def sn (r:Nat):Bool:=!BQ r TMP&&!BQ r EPO
def ez (s:ByteArray):List Int:=s.data.toList.map λb=>(b.toNat:Int)
def gN (xs:List Int):ByteArray:=ByteArray.mk (xs.map λn=>UInt8.ofNat n.toNat).toArray
def act (Γ:List Ctr)(T:TypeId->TI)(o:Oper)(st:St)(O:Upd->Option R):Option R :=
 let w (sh:aG) (ls:List Leaf):Option R:=wrU o st O sh ls;let w1 (l:Leaf):Option R:=w .one [l]
 match o.op with
 |.move x=>let v:=au st x;w v.1 v.2
 |.assign x=>match o.dst with
  |some d=>let v:=au st x;bif ii st v.2 then O (cm st (mvU st v.2) d v.1 (dJ st v.2)) else none
  |none=>none
 |.pick c a b=>match one st c with
  |.bool t=>bif t then (let v:=au st a;w v.1 v.2) else (let v:=au st b;w v.1 v.2)
  |_=>none
 |.alloc t=>match o.dst with
  |some d=>bif decide ((st (B0+d)).sh=.off)&&!decide ((T t).cells=0) then O ((B0+d,⟨(st (B0+d)).ver+1,.agg,(T t).zero⟩)::cm st [] d .one [.bp (B0+d) 0]) else none
  |none=>none
 |.box t x=>match o.dst with
  |some d=>let v:=au st x
   bif decide ((st (B0+d)).sh=.off)&&decide (v.2.length=(T t).cells)&&decide (v.1=bg (T t).agg)&&ii st v.2 then
    (bif sE st x then O ((B0+d,⟨(st (B0+d)).ver+1,.agg,v.2⟩)::cm st [] d .one [.bp (B0+d) 0])
    else (let U:=mvU st v.2
     O ((B0+d,⟨(ac U st (B0+d)).ver+1,.agg,dJ st v.2⟩)::cm st U d .one [.bp (B0+d) 0])))
   else none
  |none=>none
 |.build t H=>match T t with
  |.struct a I=>match fm st I H.toList (eX a) with
   |some ls=>w .agg ls
   |none=>none
  |.arr e n=>match fm st ((CJ n).map λi=>(i*e.cells,e.cells,e.isAgg)) H.toList (CA n (eX e)).flatten with
   |some ls=>w .agg ls
   |none=>none
  |_=>none
 |.buildSlice t n H=>match T t with
  |.slice E e _=>match eC st e 0 H.toList with
   |some u=>bif BQ u.val.length n&&decide (n*e.cells<=16777216)&&aZ u.kill&&dF u.frz u.kill then (match o.dst with
     |some d=>let U:=aE st u.frz;O (cm st (aM (ac U st) u.kill++U) d .one [.own u.p none E e u.val])
     |none=>none) else none
   |none=>none
  |_=>none
 |.load t x =>
  bif decide ((T t).cells=0) then none else
  match one st x with
  |.rp p a y off=>bif decide (off+(T t).cells<=a.cells) then w (bg (T t).agg) (((cN p a y).drop off).take (T t).cells) else none
  |.bp b off=>bif decide ((st b).sh=.agg)&&decide (off+(T t).cells<=(st b).ls.length) then w (bg (T t).agg) (((bF b (st b).ver 0 (st b).ls).drop off).take (T t).cells) else none
  |.rpp p a y=>bif BQ (T t).cells 1&&!(T t).agg then w1 (.rp p a y 0) else none
  |.np p Y ep a y off=>bif bq st Y ep&&decide (off+(T t).cells<=a.cells) then w (bg (T t).agg) (((lp p Y ep a y).drop off).take (T t).cells) else none
  |.ep r j v i sz off=>match aD st (.al r j v) with
   |.own p h _ e z=>bif BQ sz e.cells&&decide (off+(T t).cells<=e.cells) then (idx z (i:Int)).bind λy=>w (bg (T t).agg) (((lq p r j v (st EPO).ver i sz (holB h i) e 0 y).drop off).take (T t).cells) else none
   |_=>none
  |_=>none
 |.store t x y=>match o.dst with
  |some _=>none
  |none =>
  let v:=(au st y).2
  bif BQ v.length (T t).cells&&decide ((au st y).1=bg (T t).agg)&&!decide ((T t).cells=0) then
   match one st x with
   |.bp b off=>bif decide ((st b).sh=.agg)&&decide (off+v.length<=(st b).ls.length)&&ii st v then
     let U:=mvU st v;let c:=ac U st b
     O ((b,⟨c.ver+1,.agg,jz c.ls (dJ st v) off⟩)::U)
    else none
   |.ep r j a0 i sz off=>match aD st (.al r j a0) with
    |.own p h E e z=>bif BQ sz e.cells&&decide (off+v.length<=e.cells)&&sn r then gM st r j i off v.length p E e z h v O else none
    |_=>none
   |_=>none
  else none
 |.nilCheck x=>match one st x with
  |.rp p a y off=>w1 (.rp p a y off)
  |.bp b off=>w1 (.bp b off)
  |.ep r j v i sz off=>bif BQ (st r).ver v then w1 (.ep r j v i sz off) else none
  |.rpp p a y=>w1 (.rpp p a y)
  |.np p Y ep a y off=>bif bq st Y ep then w1 (.np p Y ep a y off) else none
  |_=>none
 |.binOp op t x y _=>match one st x,one st y with
  |.int k a,.int k' b =>
   match op with
   |.shl=>bif decide (b<0) then none else w1 (.int k (k.wrap (a*2 ^ (min b.toNat k.bits))))
   |.shr=>bif decide (b<0) then none else w1 (.int k (a.fdiv (2 ^ (min b.toNat k.bits))))
   |.quo=>bif decide (b=0) then none else bif decide (k=k') then w1 (.int k (k.wrap (a.tdiv b))) else none
   |.rem=>bif decide (b=0) then none else bif decide (k=k') then w1 (.int k (a.tmod b)) else none
   |.and=>bif decide (k=k') then w1 (.int k (k.wrap ((BitVec.ofInt k.bits a &&& BitVec.ofInt k.bits b).toNat))) else none
   |.xor=>bif decide (k=k') then w1 (.int k (k.wrap ((BitVec.ofInt k.bits a ^^^ BitVec.ofInt k.bits b).toNat))) else none
   |_=>bif decide (k=k') then (match sG op k a b with|some l=>w1 l|none=>none) else none
  |.bool a,.bool b=>match T t with
   |.bool=>match op with
    |.eql=>w1 (.bool (a==b))
    |.neq=>w1 (.bool (a != b))
    |_=>none
   |_=>none
  |.str a,.str b=>match op with
   |.eql=>w1 (.bool (a.toList==b.toList))
   |.neq=>w1 (.bool (a.toList != b.toList))
   |.add=>bif decide (a.size+b.size<=9223372036854775807) then w1 (.str (a++b)) else none
   |_=>none
  |_,_=>match T t with
   |.struct a _=>bif a.flat&&decide ((au st x).1=.agg)&&decide ((au st y).1=.agg) then
     match cR st a (au st x).2,cR st a (au st y).2 with
     |some (_,u),some (_,v)=>match op with
      |.eql=>w1 (.bool (a.eqv u v))
      |.neq=>w1 (.bool (!a.eqv u v))
      |_=>none
     |_,_=>none
    else none
   |_=>none
 |.unOp op _ x=>match op,one st x with
  |.not,.bool b=>w1 (.bool (!b))
  |.neg,.int k n=>w1 (.int k (k.wrap (0-n)))
  |_,_=>none
 |.convert s t x=>match T s,T t,one st x with
  |.int _,.int k,.int _ n=>w1 (.int k (k.wrap n))
  |.slice _ (.int .u8) _,.str,l=>match dl (.int .u8) (aD st l) with
   |some (_,z)=>w1 (.str (gN z))
   |none=>none
  |.str,.slice E (.int .u8) _,.str s=>bif BQ E 5 then w1 (.own false none E (.int .u8) (ez s)) else none
  |_,_,_=>none
 |.makeSlice t n c=>match T t,one st n,one st c with
  |.slice E e X,.int _ a,.int _ b =>
   bif decide (0<=a)&&decide (a=b)&&decide (a*X<=an) then w1 (.own false none E e (CA a.toNat e.zero)) else none
  |_,_,_=>none
 |.slice t x lo hi mx=>match mx,o.dst with
  |none,some d=>match dm st lo 0 with
   |none=>none
   |some i=>match T t,aD st (one st x) with
    |.str,.str s=>(match dm st hi s.size with
     |some h=>bif decide (0<=i)&&decide (i<=h)&&decide (h<=(s.size:Int)) then O (cm st [] d .one [.str (s.extract i.toNat h.toNat)]) else none
     |none=>none)
    |.slice _ M _,.nal p Y ep _ E e z=>(match dm st hi z.length with
     |some h=>bif decide (0<=i)&&decide (i<=h)&&decide (h<=(z.length:Int))&&BQ M.cells e.cells then
       O (cm st [] d .one [.nal p Y ep none E e ((z.take h.toNat).drop i.toNat)]) else none
     |none=>none)
    |.slice _ M _,.ro p E e z=>(match dm st hi z.length with
     |some h=>bif decide (0<=i)&&decide (i<=h)&&decide (h<=(z.length:Int))&&BQ M.cells e.cells then
       O (cm st [] d .one [.ro p E e ((z.take h.toNat).drop i.toNat)]) else none
     |none=>none)
    |.slice _ M _,.own p none E e z=>(match dm st hi z.length with
     |some h=>bif decide (0<=i)&&decide (i<=h)&&decide (h<=(z.length:Int))&&BQ M.cells e.cells then
       (match one st x with
       |.al r j v=>O (cm st [] d .one [.nal p [(r,j,v)] (st EPO).ver none E e ((z.take h.toNat).drop i.toNat)])
       |_=>none) else none
     |none=>none)
    |_,_=>none
  |some m,some d=>match lo,T t,one st x with
   |none,.slice _ M _,.al r j v=>(match aD st (.al r j v) with
    |.own p none E e z=>(match dm st hi z.length,dm st (some m) 0 with
     |some h,some k=>bif hi.isSome&&decide (h=(z.length:Int))&&decide (k=(z.length:Int))&&BQ M.cells e.cells then O (cm st (aM st [(r,j)]) d .one [.own p none E e z]) else none
     |_,_=>none)
    |_=>none)
   |_,_,_=>none
  |_,_=>none
 |.fieldAddr t x f=>match T t with
  |.struct _ I=>match I[f]? with
   |some (off,_,_)=>match one st x with
    |.rp p a y o'=>w1 (.rp p a y (o'+off))
    |.bp b o'=>w1 (.bp b (o'+off))
    |.ep r j v i sz o'=>bif BQ (st r).ver v then w1 (.ep r j v i sz (o'+off)) else none
    |.np p Y ep a y o'=>bif bq st Y ep then w1 (.np p Y ep a y (o'+off)) else none
    |_=>none
   |none=>none
  |_=>none
 |.field t x f=>match T t with
  |.struct a I=>match I[f]? with
   |some (off,n,agg)=>bif decide ((au st x).1=.agg)&&decide ((au st x).2.length=a.cells) then w (bg agg) (((au st x).2.drop off).take n) else none
   |none=>none
  |_=>none
 |.indexAddr t x i=>match one st i with
  |.int _ n=>match T t with
   |.arr e Z=>match one st x with
    |.bp b off=>bif decide (0<=n)&&decide (n<(Z:Int)) then w1 (.bp b (off+n.toNat*e.cells)) else none
    |_=>none
   |.slice _ e _=>match one st x with
    |.al r j v=>match aD st (.al r j v) with
     |.own _ _ _ M z=>bif BQ M.cells e.cells then (idx z n).bind λ_=>w1 (.ep r j v n.toNat M.cells 0) else none
     |_=>none
    |.ro p _ M z=>bif BQ M.cells e.cells then (idx z n).bind λy=>w1 (.rp p M y 0) else none
    |.nal p Y ep _ _ M z=>bif BQ M.cells e.cells&&bq st Y ep then (idx z n).bind λy=>w1 (.np p Y ep M y 0) else none
    |_=>none
   |_=>none
  |_=>none
 |.index t x i=>match one st i with
  |.int _ n=>match T t with
   |.str=>match one st x with
    |.str s=>(idx s.data.toList n).bind λy=>w1 (.int .u8 y.toNat)
    |_=>none
   |.arr e Z=>bif e.flat&&decide ((au st x).1=.agg)&&BQ (au st x).2.length (Z*e.cells)&&!BQ e.cells 0 then (match fF st e Z (au st x).2 with
     |some vs=>(idx vs n).bind λy=>w (bg e.isAgg) (cN false e y)
     |none=>none) else none
   |_=>none
  |_=>none
 |.extract x i=>match au st x with
  |(.tup ps,ls)=>match ps[i]? with
   |some (agg,n)=>w (bg agg) ((ls.drop ((ps.take i).foldl (λa b=>a+b.2) 0)).take n)
   |none=>none
  |_=>none
 |.makeFunc (.func f) first J=>bif BQ first.size 0 then
   match sH st J.toList with
   |some l=>w1 (.clo f l)
   |none=>none
  else none
 |.call c=>match o.dst with
  |none=>none
  |some d=>match c.callee with
   |.value f =>
    let z:=c.args.toList.map (au st)
    match one st f with
    |.clo g J=>jq Γ st d g (z++J.map λb=>(.one,[.bp b 0])) O
    |.clr g J=>jq Γ st d g (z++J.map λc=>(.one,[eR c])) O
    |.fn As B φ=>bif B.flat then match iO st As z with
      |some x=>(φ x).bind λy=>w (bg B.isAgg) (aq false B y)
      |none=>none
     else none
    |_=>none
   |.builtin .len=>match c.args.toList with
    |[x]=>match c.argTypes.toList with
     |[t]=>match T t,aD st (one st x) with
      |.slice _ _ _,l=>(match gh l with
       |some n=>w1 (.int .i64 n)
       |none=>none)
      |.str,.str s=>w1 (.int .i64 s.size)
      |_,_=>none
     |_=>none
    |_=>none
   |.builtin .append=>match c.args.toList,c.argTypes.toList with
    |[x,y],[t,u]=>match T t with
     |.slice E e X=>bif BQ t u then iB st d E e X (one st x) (one st y) O else none
     |_=>none
    |_,_=>none
   |.builtin .min=>match c.args.toList with
    |[x,y]=>match one st x,one st y with
     |.int k a,.int _ b=>w1 (.int k (bif decide (b<a) then b else a))
     |_,_=>none
    |_=>none
   |.builtin .max=>match c.args.toList with
    |[x,y]=>match one st x,one st y with
     |.int k a,.int _ b=>w1 (.int k (bif decide (a<b) then b else a))
     |_,_=>none
    |_=>none
   |_=>none
 |_=>none
def az:List Leaf->List Nat
 |[]=>[]
 |.al r _ _::u=>r::az u
 |.ep r _ _ _ _ _::u=>EPO::r::az u
 |.nal _ z _ _ _ _ _::u=>EPO::z.map (·.1)++az u
 |.np _ z _ _ _ _::u=>EPO::z.map (·.1)++az u
 |.bp b _::u=>b::az u
 |.clo _ y::u=>y++az u
 |_::u=>az u
def iC (xs:List Operand):List Nat :=
 match xs with
 |[]=>[]
 |.tmp t::xs=>t::iC xs
 |_::xs=>iC xs
def kA (st:St)(r:List Nat):List Nat :=
 let a:=r.flatMap λt=>az (st t).ls
 let b:=a.flatMap λt=>az (st t).ls
 let c:=b.flatMap λt=>az (st t).ls
 r++a++b++c
def cq (st:St)(u:Op):List Nat :=
 let r:=iC u.operands.toList
 match u with
 |.move _|.pick _ _ _|.build _ _|.field _ _ _|.extract _ _|.makeFunc _ _ _|.unOp _ _ _|.makeSlice _ _ _|.alloc _=>r
 |.slice _ _ _ _ _=>EPO::(r++r.flatMap λt=>aw (st t).ls)
 |.assign _|.box _ _|.buildSlice _ _ _|.indexAddr _ _ _|.nilCheck _|.fieldAddr _ _ _|.convert _ _ _|.binOp _ _ _ _ _|.index _ _ _=>r++r.flatMap λt=>aw (st t).ls
 |.load _ _|.store _ _ _=>r++r.flatMap λt=>az (st t).ls
 |.call c=>match c.callee with
  |.builtin _=>TMP::(r++r.flatMap λt=>aw (st t).ls)
  |_=>TMP::EPO::kA st r
 |_=>kA st r
def zF (o:Oper):List Nat:=match o.dst with
 |some d=>[d,B0+d]
 |none=>[]
def eY (st:St)(u:Op):List Nat :=
 let r:=iC u.operands.toList
 match u with
 |.move _=>r
 |.indexAddr _ _ _=>r++r.flatMap λt=>aw (st t).ls
 |_=>[]
def fp (st:St)(o:Oper):List Nat:=(match o.op with|.move _|.indexAddr _ _ _=>[]|op=>cq st op)++zF o
def d6 (st:St)(o:Oper):List Nat:=match o.op with
 |.store _ x _=>match one st x with
  |.ep r _ _ _ _ _=>[r]
  |_=>[]
 |_=>[]
structure cP where
 rd:List Nat
 hd:List Nat
 wr:List Nat
 cw:List Nat
def lU (a b:List Nat):Bool:=a.any λx=>b.any λy=>BQ x y
def cP.apart (x y:cP):Bool:=!lU (x.wr++x.cw) (y.wr++y.cw)&&!lU (x.wr++x.cw) y.rd&&!lU x.rd (y.wr++y.cw)&&!lU x.wr y.hd&&!lU x.hd y.wr
def jJ:List Oper->List Nat->List Nat
 |[],r=>r
 |o::u,r=>jJ u (r++[o.after.toList.foldl (λs e=>bif Region.binds .any e then s ||| 2 ^ e.on ||| r.getD e.on 0 else s) 0])
def pJ (r:List Nat)(u:List cP):Bool :=
 (CJ u.length).all λj=>(CJ j).all λi =>
  (r.getD j 0).testBit i||(match u[i]?,u[j]? with
   |some x,some y=>x.apart y
   |_,_=>false)
def lit (st:St)(t:Nat)(b:Bool):St:=ac [(t,⟨(st t).ver,.one,[.bool b]⟩)] st
def eL (st:St)(o:Oper):Upd :=
 match o.dst with
 |some d=>[(d,⟨(st d).ver+1,.und,[]⟩)]
 |none=>[]
def opK (Γ:List Ctr)(T:TypeId->TI)(y:Array Oper)(o:Oper)(st:St)(H:St->cP->Option R):Option R :=
 let z (st:St) (r:List Nat):Option R:=act Γ T o st (λU=>H (ac U st) ⟨r++fp st o,eY st o.op,(U.map (·.1)).filter (λq=>!((d6 st o).any (BQ q))),d6 st o⟩);let no (st:St) (r:List Nat):Option R:=H (ac (eL st o) st) ⟨r,[],o.dst.toList,[]⟩
 match o.guard with
 |none=>z st []
 |some (j,u)=>match (y[j]?).bind (·.dst) with
  |some t=>match (st t).sh,(st t).ls with
   |.one,[.bool b]=>bif b then (bif u then z (lit st t true) [t] else no (lit st t true) [t]) else (bif u then no (lit st t false) [t] else z (lit st t false) [t])
   |.und,_=>no st [t]
   |_,_=>none
  |none=>none
def qz (Γ:List Ctr)(T:TypeId->TI)(u:Array Oper):List Oper->St->List cP->(St->List cP->Option R)->Option R
 |[],I,H,z=>z I H
 |o::r,I,H,z=>opK Γ T u o I (λy t=>qz Γ T u r y (H++[t]) z)
def nP (ops:Array Oper):Bool:=(CJ ops.size).all λi=>match ops[i]? with
 |some o=>o.after.toList.all λe=>!Region.binds .any e||decide (e.on<i)
 |none=>true
def regK (Γ:List Ctr)(T:TypeId->TI)(ops:Array Oper)(u:Bool)(st:St)(y:St->Option R):Option R :=
 bif u then
  qz Γ T ops ops.toList st [] (λr z=>bif nP ops&&pJ (jJ ops.toList []) z then y r else none)
 else qz Γ T ops ops.toList st [] (λr _=>y r)
inductive Ex where
 |normal|exit (id:Nat)|ret
def qA (y:St->(Ex->St->Option R)->Option R)(u:Ex->St->Option R):Ex->St->Option R
 |.normal,r=>y r u
 |e,r=>u e r
def sI (id:Nat)(y:Ex->St->Option R):Ex->St->Option R
 |.exit r,u=>bif BQ r id then y .normal u else y (.exit r) u
 |e,u=>y e u
def av (L:List (Nat×bT)):St:=λq=>ac L (λ_=>bT.none) q
inductive Coe where
 |keep|kill
 |own (p:Bool) (E:TypeId) (e:Ty)|ro (p:Bool) (E:TypeId) (e:Ty)|rp (p:Bool)
def bu (st:St)(live:List Nat):Coe->Leaf->Leaf
 |.kill,_=>.dead
 |.own p E e,.nil=>.own p none E e []
 |.own p _ _,.own q none E e y=>bif !q||p then .own p none E e y else .dead
 |.ro p E e,.nil=>.ro p E e []
 |.ro p E e,.ro q _ z y=>bif !q||p then (match castSh e z y with | some H=>.ro p E e H | none=>.dead) else .dead
 |.ro p E e,.own q none _ z y=>bif !q||p then (match castSh e z y with | some H=>.ro p E e H | none=>.dead) else .dead
 |.rp p,.rpp q a x=>bif !q||p then .rpp p a x else .dead
 |.rp p,.rp q a x off=>bif !q||p then .rp p a x off else .dead
 |.keep,.int k n=>.int k n
 |.keep,.bool b=>.bool b
 |.keep,.str s=>.str s
 |.keep,.nil=>.nil
 |.keep,.hdr n=>.hdr n
 |.keep,.fn J B M=>.fn J B M
 |.keep,.clr f I=>.clr f I
 |.keep,.bp b off=>bif live.any (BQ b) then .bp b off else .dead
 |.keep,.clo f u=>bif u.all (λb=>live.any (BQ b)) then .clo f u else .dead
 |.keep,.al r j v=>bif live.any (BQ r)&&BQ (st r).ver v then .al r j 0 else .dead
 |_,_=>.dead
def da (st:St)(live:List Nat):List Coe->List Leaf->List Leaf
 |c::u,l::r=>bu st live c l::da st live u r
 |[],_::r=>.dead::da st live [] r
 |_,[]=>[]
def lV (live:List (Nat×List Coe))(st:St):St:=av (live.map λr=>(r.1,⟨0,(st r.1).sh,da st (live.map (·.1)) r.2 (st r.1).ls⟩))
def gO (live:List (Nat×List Coe))(rec:St->Option R)(u:Ex->St->Option R):Ex->St->Option R
 |.normal,r=>rec (lV live r)
 |e,r=>u e r
def aT (live:List (Nat×List Coe))(y:St->(Ex->St->Option R)->Option R):Nat->St->(Ex->St->Option R)->Option R
 |0,_,_=>none
 |k+1,z,u=>y z (gO live (λr=>aT live y k r u) u)
def eT:Code->Nat
 |.region id _ _=>id+1
 |.seq a b=>match eT a with
  |0=>eT b
  |n=>n
 |.cond _ a b=>match eT a with
  |0=>eT b
  |n=>n
 |.block _ c=>eT c
 |.loop c=>eT c
 |.scope c=>eT c
 |_=>0
def lv (L:List (Nat×List (Nat×List Coe)))(k:Nat):List (Nat×List Coe):=match L with
 |[]=>[]
 |(n,l)::r=>bif BQ n k then l else lv r k
def zG (st:St)(c:Operand)(r no:St->Option R):Option R :=
 match c with
 |.tmp t=>match (st t).sh,(st t).ls with
  |.one,[.bool b]=>bif b then r (lit st t true) else no (lit st t false)
  |_,_=>none
 |.const (.bool b)=>bif b then r st else no st
 |_=>none
def evK (Γ:List Ctr)(T:TypeId->TI)(L:List (Nat×List (Nat×List Coe)))(r:Nat):Code->St->(Ex->St->Option R)->Option R
 |.skip,u,z=>z .normal u
 |.region _ I H,u,z=>regK Γ T I H u (z .normal)
 |.seq a b,u,z=>evK Γ T L r a u (qA (evK Γ T L r b) z)
 |.cond c x y,u,z=>zG u c (λu=>evK Γ T L r x u z) (λu=>evK Γ T L r y u z)
 |.block id c,u,z=>evK Γ T L r c u (sI id z)
 |.loop c,u,z=>aT (lv L (eT c)) (evK Γ T L r c) r (lV (lv L (eT c)) u) z
 |.exit id,u,z=>z (.exit id) u
 |.ret,u,z=>z .ret u
 |_,_,_=>none
def sub:Code->List Nat->Code
 |.seq a _,0::p=>sub a p
 |.seq _ b,1::p=>sub b p
 |.cond _ x _,0::p=>sub x p
 |.cond _ _ y,1::p=>sub y p
 |.block _ c,0::p=>sub c p
 |.loop c,0::p=>sub c p
 |c,_=>c
def kAt (u:Code->St->(Ex->St->Option R)->Option R):Code->List Nat->(Ex->St->Option R)->Ex->St->Option R
 |.seq a b,0::p,r=>kAt u a p (qA (u b) r)
 |.seq _ b,1::p,r=>kAt u b p r
 |.cond _ x _,0::p,r=>kAt u x p r
 |.cond _ _ y,1::p,r=>kAt u y p r
 |.block id c,0::p,r=>kAt u c p (sI id r)
 |_,_,r=>r
def cG (fn:Func):Code:=match fn.body with
 |some c=>c
 |none=>.skip
def ae {A:Type}(step:(A->Option R)->A->Option R):Nat->A->Option R
 |0,_=>none
 |k+1,a=>step (ae step k) a
theorem kV {A:Type}(live:List (Nat×List Coe))(u:St->(Ex->St->Option R)->Option R)(r:Ex->St->Option R)(S:A->St)
  (step:(A->Option R)->A->Option R) (h:∀ (rec:St->Option R) (a:A),u (S a) (gO live rec r)=step (λa=>rec (S a)) a) :
  ∀ (k:Nat) (a:A),aT live u k (S a) r=ae step k a
 |0,_=>rfl
 |k+1,a=>by
  have y:=kV live u r S step h k;simp only[aT,ae];rw[h];exact congrArg (λg=>step g a) (funext y)
abbrev wr (k:IntKind)(n:Int):Int:=k.wrap n
def bB (k:IntKind)(a b:Int):Int:=k.wrap ((BitVec.ofInt k.bits a &&& BitVec.ofInt k.bits b).toNat)
def qB (k:IntKind)(a b:Int):Int:=k.wrap ((BitVec.ofInt k.bits a ^^^ BitVec.ofInt k.bits b).toNat)
def jU (p:Bool):(cs:List (Bool×Ty))->lQ cs->List (Bool×Bool×(a:Ty)×a.den)
 |[],_=>[]
 |c::cs,x=>(p,c.1,⟨c.2,x.1⟩)::jU p cs x.2
def uX (i off:Nat):Leaf->Leaf
 |.own p _ E e r=>.own p (some (i,off)) E e r
 |l=>l
def dn (t:Nat):(ps:List PK)->ab ps->Upd
 |[],_=>[]
 |.rd a::ps,x=>(t,⟨0,bg a.isAgg,cN true a x.1⟩)::dn (t+1) ps x.2
 |.own a::ps,x=>(t,⟨0,bg a.isAgg,aq true a x.1⟩)::dn (t+1) ps x.2
 |.io a::ps,x=>(t,⟨7,bg a.isAgg,aq true a x.1⟩)::dn (t+1) ps x.2
 |.rref a::ps,x=>(t,⟨0,.one,[.rp true a x.1 0]⟩)::dn (t+1) ps x.2
 |.rref2 a::ps,x=>(t,⟨0,.one,[.rpp true a x.1]⟩)::dn (t+1) ps x.2
 |.iop a::ps,x=>(t,⟨0,.one,[.bp (B0+t) 0]⟩)::(B0+t,⟨0,.agg,aq true a x.1⟩)::dn (t+1) ps x.2
 |.fn r B::ps,x=>(t,⟨0,.one,[.fn r B x.1]⟩)::dn (t+1) ps x.2
 |.clo f u::ps,x=>(t,⟨0,.one,[.clr f (jU true u x.1)]⟩)::dn (t+1) ps x.2
 |.hol a c off::ps,x=>(t,⟨0,bg a.isAgg,aS (aq true a x.1.1) c (uX x.1.2 off ((aq true a x.1.1).getD c .dead))⟩)::dn (t+1) ps x.2
def ij (st:St)(t:Nat):(ps:List PK)->Option (cO (ai ps))
 |[]=>some ⟨false,(),[],[],[]⟩
 |.io a::ps=>match (bif decide ((au st (.tmp t)).1=bg a.isAgg) then cj st a (au st (.tmp t)).2 else none),ij st (t+1) ps with
  |some x,some y=>some ⟨x.p||y.p,(x.val,y.val),x.frz++y.frz,x.kill++y.kill,[]⟩
  |_,_=>none
 |.iop a::ps=>match cj st a (bF (B0+t) (st (B0+t)).ver 0 (st (B0+t)).ls),ij st (t+1) ps with
  |some x,some y=>some ⟨x.p||y.p,(x.val,y.val),x.frz++y.frz,x.kill++y.kill,[]⟩
  |_,_=>none
 |.rd _::ps=>ij st (t+1) ps
 |.own _::ps=>ij st (t+1) ps
 |.rref _::ps=>ij st (t+1) ps
 |.rref2 _::ps=>ij st (t+1) ps
 |.fn _ _::ps=>ij st (t+1) ps
 |.clo _ _::ps=>ij st (t+1) ps
 |.hol _ _ _::ps=>ij st (t+1) ps
def vL (st:St)(T:TypeId->TI):ResultVar->List Leaf
 |.tmp t=>(au st (.tmp t)).2
 |.cell t r=>match one st (.tmp t) with
  |.bp b off=>((bF b (st b).ver 0 (st b).ls).drop off).take (T r).cells
  |_=>[]
def pK (st:St)(T:TypeId->TI):ResultVar->aG
 |.tmp t=>(au st (.tmp t)).1
 |.cell t r=>match one st (.tmp t) with
  |.bp b off=>bif decide ((st b).sh=.agg)&&CO (off+(T r).cells) (st b).ls.length&&!BQ (T r).cells 0 then bg (T r).agg else .off
  |_=>.off
def RK.sh:RK->aG
 |.v a=>bg a.isAgg
 |.bv a=>bg a.isAgg
 |.box _=>.one
def bG (t:Nat):List PK->List Nat
 |[]=>[]
 |.iop _::r=>(B0+t)::bG (t+1) r
 |_::r=>bG (t+1) r
def gp (t:Nat):List PK->List Nat
 |[]=>[]
 |.io _::r=>t::gp (t+1) r
 |.iop _::r=>t::gp (t+1) r
 |_::r=>gp (t+1) r
def so (st:St)(z:List Nat):(r:RK)->List Leaf->Option (cO r.den)
 |.v a,u=>cj st a u
 |.bv a,u=>(cR st a u).map λy=>⟨false,y.2,bw st u,[],[]⟩
 |.box a,u=>match u with
  |[.bp b 0]=>bif !(z.any (BQ b)) then cj st a (bF b (st b).ver 0 (st b).ls) else none
  |_=>none
def kj (st:St)(T:TypeId->TI)(H:List Nat):(u:List RK)->List ResultVar->Option (cO (aj u))
 |[],[]=>some ⟨false,(),[],[],[]⟩
 |r::u,x::I=>bif decide (pK st T x=r.sh) then match so st H r (vL st T x),kj st T H u I with
  |some y,some z=>some ⟨y.p||z.p,(y.val,z.val),y.frz++z.frz,y.kill++z.kill,[]⟩
  |_,_=>none else none
 |_,_=>none
def finR (T:TypeId->TI)(ps:List PK)(z:List RK)(r:Bool)(u:List ResultVar)(st:St):Option (aj z×ai ps) :=
 match kj st T (bG 0 ps) z u,ij st 0 ps with
 |some y,some o=>bif aZ (y.kill++o.kill)&&dF (y.frz++o.frz) (y.kill++o.kill)&&(!r||!(y.p||o.p)) then some (y.val,o.val) else none
 |_,_=>none
def c9 (T:TypeId->TI)(ps:List PK)(y:List RK)(r:Bool)(u:List ResultVar):Ex->St->Option (aj y×ai ps)
 |.exit _,_=>none
 |_,z=>finR T ps y r u z
def lw (nt:Nat)(fix:List Nat)(r:Array Oper)(o:Oper):Bool :=
 (match o.dst with
  |some d=>CK d nt&&!(fix.any (BQ d))
  |none=>true) &&
 (match o.guard with
  |some (j,_)=>match (r[j]?).bind (·.dst) with
   |some s=>CK s nt
   |none=>true
  |none=>true)
def wZ (nt:Nat):Operand->Bool
 |.tmp t=>CK t nt
 |_=>true
def dQ (nt:Nat)(fix:List Nat):Code->Bool
 |.region _ r _=>r.toList.all (lw nt fix r)
 |.seq a b=>dQ nt fix a&&dQ nt fix b
 |.cond c a b=>wZ nt c&&dQ nt fix a&&dQ nt fix b
 |.block _ c=>dQ nt fix c
 |.loop c=>dQ nt fix c
 |_=>true
def qC:List RK->Bool
 |[.box _]=>true
 |rs=>rs.all RK.isV
def dt (L:List (Nat×List (Nat×List Coe)))(u:List Nat):Code->Bool
 |.seq a b=>dt L u a&&dt L u b
 |.cond _ a b=>dt L u a&&dt L u b
 |.block _ c=>dt L u c
 |.loop c=>(u.all λb=>(lv L (eT c)).any λr=>BQ r.1 b)&&dt L u c
 |_=>true
def evF (Γ:List Ctr)(T:TypeId->TI)(L:List (Nat×List (Nat×List Coe)))(u:Nat)(fn:Func)(ps:List PK)(y:List RK)(r:Bool)(x:ab ps):Option (aj y×ai ps) :=
 match fn.body with
 |some c=>bif dQ fn.ntmps (gp 0 ps) c&&CO ps.length fn.ntmps&&CO fn.ntmps GH&&qC y&&dt L (bG 0 ps) c then
  evK Γ T L u c (av (dn 0 ps x)) (c9 T ps y r fn.results.toList) else none
 |none=>none
end
def fR (e:Ty)(r:Nat)(xs:List e.den):Option ((List e.den×Unit)×Unit):=bif decide ((0+xs.length)*r<=an) then some ((xs,()),()) else none
theorem lW (e:Ty)(r:Nat):fR e r []=some (([],()),()):=by
 unfold fR;simp[an]
def lX:Code->Nat->Oper
 |.region _ r _,i=>(r[i]?).getD ⟨none,.move (.tmp 0),0,"",#[],none⟩
 |_,_=>⟨none,.move (.tmp 0),0,"",#[],none⟩
def fV (e:Ty)(r:Nat)(xs:List e.den)(i:Int)(u:List e.den):Option ((List e.den×Unit)×Unit) :=
 if 0<=i/\i<=(xs.length:Int)/\0<u.length/\(xs.length+u.length)*r<=an then some ((xs.take i.toNat++u++xs.drop i.toNat,()),()) else none
def lY {α:Type}(r:α×Unit->Option Bool):List α->Option (List α)
 |[]=>some []
 |x::y=>(r (x,())).bind λb=>(lY r y).map λu=>bif b then u else x::u
def gP (e:Ty)(xs:List e.den)(r:e.den×Unit->Option Bool):Option ((List e.den×Unit)×Unit):=if xs.length<=1048576 then (lY r xs).map λu=>((u,()),()) else none
abbrev Ty.hd:Ty->Ty
 |.pair a b=>.pair a.hd b.hd
 |.list _ _ _=>.hdr
 |a=>a
abbrev hdD:(a:Ty)->a.den->a.hd.den
 |.pair a b,x=>(hdD a x.1,hdD b x.2)
 |.list _ _ e,r=>List.length (α:=e.den) r
 |.int _,x=>x
 |.bool,x=>x
 |.str,x=>x
 |.unit,x=>x
 |.hdr,x=>x
noncomputable def zT (e:Ty)(r:Nat)(xs:List e.den):Option ((List e.hd.den×Unit)×Unit):=(fR e r xs).map λy=>((y.1.1.map (hdD e),()),())
def insI (n:Int):List Int->List Int
 |[]=>[n]
 |m::r=>if n<=m then n::m::r else m::insI n r
def zH:List Int->List Int
 |[]=>[]
 |n::r=>insI n (zH r)
def medianM (xs:List Int):Option ((Int×Unit)×Unit) :=
 let l:=zH (xs.drop (xs.length-3))
 some ((l.getD ((l.length-1) / 2) 0,()),())
def aV {R:Type}(x y:ByteArray)(k:ByteArray->Option R):Option R:=bif decide (x.size+y.size<=9223372036854775807) then k (x++y) else none
open Go.RowKit
def cY (w:World)(g off:Nat)(cs:List Value):Prop:=∀ i v,cs[i]?=some v->w.cell? ⟨g,off+i,none⟩=some v
theorem cY.same {w w':World}{g off:Nat}{cs:List Value}(h:cY w g off cs)(r:w'.heap[g]?=w.heap[g]?):cY w' g off cs:=by
 intro i v u;have:=h i v u;simpa[Cv,r]using this
def Rd (w:World)(G:Nat->Prop):(a:Ty)->a.den->List Value->Prop
 |.int k,n,r=>r=[.int k n]
 |.bool,b,r=>r=[.bool b]
 |.str,s,r=>r=[.string s]
 |.unit,_,r=>r=[]
 |.hdr,n,r=>∃ A u,r=[.slice A n u]
 |.pair a b,x,r=>∃ z H,r=z++H/\Rd w G a x.1 z/\Rd w G b x.2 H
 |.list _ _ e,y,r=>∃ A u,r=[.slice A y.length u]/\y.length<=u /\
  (0<y.length->∃ g o,A=some ⟨g,o,none⟩/\G g/\∀ j (x:e.den),y[j]?=some x->∃ c,Rd w G e x c/\cY w g (o+j*e.cells) c)
theorem Rd.carry {w w':World}{G G':Nat->Prop}(r:∀ k,G k->G' k)(u:∀ k,G k->w'.heap[k]?=w.heap[k]?) :
  ∀ {a:Ty} {x:a.den} {cs:List Value},Rd w G a x cs->Rd w' G' a x cs
 |.int _,_,_,h=>h
 |.bool,_,_,h=>h
 |.str,_,_,h=>h
 |.unit,_,_,h=>h
 |.hdr,_,_,h=>h
 |.pair _ _,_,_,⟨I,R,e,J,h2⟩=>⟨I,R,e,Rd.carry r u J,Rd.carry r u h2⟩
 |.list _ _ _,_,_,⟨A,z,e,X,h⟩=>⟨A,z,e,X,λhp=>by
   obtain⟨g,o,Y,H,O⟩:=h hp;exact⟨g,o,Y,r g H,λj x M=>by
    obtain⟨c,Z,y⟩:=O j x M;exact⟨c,Rd.carry r u Z,y.same (u g H)⟩⟩⟩
theorem Rd.mono {w:World}{G G':Nat->Prop}(r:∀ k,G k->G' k){a:Ty}{x:a.den}{cs:List Value}(h:Rd w G a x cs):Rd w G' a x cs :=
 Rd.carry r (λ_ _=>rfl) h
theorem Rd.len {w:World}{G:Nat->Prop}:∀ {a:Ty} {x:a.den} {cs:List Value},Rd w G a x cs->cs.length=a.cells
 |.int _,_,_,h=>by rw[show _=_ from h];rfl
 |.bool,_,_,h=>by rw[show _=_ from h];rfl
 |.str,_,_,h=>by rw[show _=_ from h];rfl
 |.unit,_,_,h=>by rw[show _=_ from h];rfl
 |.hdr,_,_,⟨A,r,e⟩=>by rw[e];rfl
 |.pair _ _,_,_,⟨z,H,e,u,y⟩=>by rw[e,Cd,Rd.len u,Rd.len y];rfl
 |.list _ _ _,_,_,⟨A,r,e,_,_⟩=>by rw[e];rfl
theorem Rd.one {w:World}{G:Nat->Prop}:∀ {a:Ty} {x:a.den} {cs:List Value},Rd w G a x cs->∀ v∈cs,v.oneCell'=true
 |.int _,_,_,h=>by rw[show _=_ from h];simp[B3]
 |.bool,_,_,h=>by rw[show _=_ from h];simp[B3]
 |.str,_,_,h=>by rw[show _=_ from h];simp[B3]
 |.unit,_,_,h=>by rw[show _=_ from h];simp
 |.hdr,_,_,⟨A,u,e⟩=>by rw[e];simp[B3]
 |.pair _ _,_,_,⟨H,I,e,y,z⟩=>by
  rw[e];intro v r;rcases B6.1 r with r|r
  ·exact Rd.one y v r
  ·exact Rd.one z v r
 |.list _ _ _,_,_,⟨A,u,e,_,_⟩=>by rw[e];simp[B3]
theorem Rd.flat {w w':World}{G G':Nat->Prop}:∀ {a:Ty} {x:a.den} {cs:List Value},a.flat=true->Rd w G a x cs->Rd w' G' a x cs
 |.int _,_,_,_,h=>h
 |.bool,_,_,_,h=>h
 |.str,_,_,_,h=>h
 |.unit,_,_,_,h=>h
 |.hdr,_,_,_,h=>h
 |.pair _ _,_,_,r,⟨u,H,e,y,z⟩=>by
  simp only[Ty.flat,BT]at r;exact⟨u,H,e,Rd.flat r.1 y,Rd.flat r.2 z⟩
theorem ik:∀ {a b:Ty},a.sh=b.sh->a.cells=b.cells
 |.pair a b,.pair c d,h=>by
  simp only[Ty.sh,Ty.pair.injEq]at h;simp only[Ty.cells,ik h.1,ik h.2]
 |.int _,.int _,_|.int _,.bool,_|.int _,.str,_|.int _,.hdr,_|.int _,.list _ _ _,_=>rfl
 |.bool,.int _,_|.bool,.bool,_|.bool,.str,_|.bool,.hdr,_|.bool,.list _ _ _,_=>rfl
 |.str,.int _,_|.str,.bool,_|.str,.str,_|.str,.hdr,_|.str,.list _ _ _,_=>rfl
 |.hdr,.int _,_|.hdr,.bool,_|.hdr,.str,_|.hdr,.hdr,_|.hdr,.list _ _ _,_=>rfl
 |.list _ _ _,.int _,_|.list _ _ _,.bool,_|.list _ _ _,.str,_|.list _ _ _,.hdr,_|.list _ _ _,.list _ _ _,_=>rfl
 |.unit,.unit,_=>rfl
theorem sJ {A u B r:Type}(z:A=u)(H:B=r){x:A×B}{y:u×r}(h:HEq x y):HEq x.1 y.1/\HEq x.2 y.2:=by
 subst z;subst H;cases h;exact⟨HEq.rfl,HEq.rfl⟩
theorem sK {A r:Type}(z:A=r){xs:List A}{u:List r}(h:HEq xs u):xs.length=u.length/\∀ (j:Nat) (y:r),u[j]?=some y->∃ x:A,xs[j]?=some x/\HEq x y:=by
 subst z;cases h;exact⟨rfl,λj y H=>⟨y,H,HEq.rfl⟩⟩
theorem Rd.flags {w:World}{G:Nat->Prop}:∀ {a b:Ty} {x:a.den} {y:b.den} {cs:List Value},a.sh=b.sh->HEq x y->Rd w G a x cs->Rd w G b y cs
 |.pair a b,.pair c d,x,y,cs,h,r,⟨M,Y,e,u,I⟩=>by
  simp only[Ty.sh,Ty.pair.injEq]at h;obtain⟨J,z⟩:=sJ (jy h.1) (jy h.2) r;exact⟨M,Y,e,Rd.flags h.1 J u,Rd.flags h.2 z I⟩
 |.list _ _ e,.list _ _ e',xs,ys,cs,h,r,⟨A,H,u,I,J⟩=>by
  simp only[Ty.sh,Ty.list.injEq,true_and]at h;obtain⟨z,h5⟩:=sK (jy h.2) r;refine⟨A,H,by rw[<- z];exact u,by rw[<- z];exact I,λhp=>?_⟩;obtain⟨g,o,Z,hg,X⟩:=J (by rw[z];exact hp);refine⟨g,o,Z,hg,λj y R=>?_⟩;obtain⟨x,h6,h7⟩:=h5 j y R;obtain⟨c,h8,O⟩:=X j x h6;rw[<- ik h.2];exact⟨c,Rd.flags h.2 h7 h8,O⟩
 |.int k,.int k',x,y,cs,h,r,u=>by
  simp only[Ty.sh]at h
  grind
 |.bool,.bool,x,y,cs,h,r,u=>by cases r;exact u
 |.str,.str,x,y,cs,h,r,u=>by cases r;exact u
 |.unit,.unit,x,y,cs,h,r,u=>u
 |.hdr,.hdr,x,y,cs,h,r,u=>by cases r;exact u
def Row (w:World)(E:TypeId)(s:Nat)(v:Value)(n:Nat)(flat:List Value):Prop :=
 flat.length=n*s/\((v=.slice none 0 0/\n=0) \/
  ∃ g r u mk,v=.slice (some ⟨g,0,none⟩) n r/\w.heap[g]?=some (.cells u E mk)/\n<=r/\(mk=(0,0)/\r<=maxLen\/E=5/\u.size<=mk.1)/\r*s<=u.size/\u.toList.take (n*s)=flat)
theorem Row.of {w:World}{b:Nat}{E:TypeId}{s n:Nat}{v:Value}{flat:List Value}(h:w.ownsRow b E s v n flat):Row w E s v n flat:=by
 refine⟨h.1,h.2.imp id ?_⟩
 grind
theorem Row.same {w w':World}{E:TypeId}{s n:Nat}{v:Value}{flat:List Value}(h:Row w E s v n flat)(z:∀ k∈v.ownBlock.toList,w'.heap[k]?=w.heap[k]?):Row w' E s v n flat:=by
 refine⟨h.1,?_⟩;rcases h.2 with I|⟨g,u,y,mk,rfl,H,r⟩
 ·grind
 ·exact .inr ⟨g,u,y,mk,rfl,by rw[z g (by simp[CH])];exact H,r⟩
theorem Row.lt {w:World}{E:TypeId}{s n:Nat}{v:Value}{flat:List Value}(h:Row w E s v n flat):∀ k∈v.ownBlock.toList,k<w.heap.size:=by
 intro k r;rcases h.2 with ⟨rfl,_⟩|⟨g,u,y,_,rfl,z,_⟩
 ·simp[CH]at r
 ·simp[CH]at r
  grind
theorem Row.slice {w:World}{E:TypeId}{s n:Nat}{v:Value}{flat:List Value}(h:Row w E s v n flat):∃ A r,v=.slice A n r/\n<=r:=by
 rcases h.2 with ⟨rfl,z⟩|⟨g,r,u,_,rfl,_,y,_⟩
 ·grind
 ·grind
theorem Row.nil (w:World)(E:TypeId)(s:Nat):Row w E s (.slice none 0 0) 0 []:=⟨by simp,.inl ⟨rfl,rfl⟩⟩
theorem Row.cellAt {w:World}{E:TypeId}{s n g u:Nat}{flat:List Value}(h:Row w E s (.slice (some ⟨g,0,none⟩) n u) n flat)(j:Nat)(I:j<n*s):w.cell? ⟨g,j,none⟩=flat[j]?:=by
 rcases h.2 with ⟨y,_⟩|⟨M,H,z,mk,y,J,_,_,_,r⟩
 ·grind
 ·simp at y;obtain⟨rfl,rfl⟩:=y;rw[cell_of_row w g j z E mk J,<- r,B8,if_pos I];simp
theorem zI {mk:Nat×Nat}{E z c:Nat}(h:mk=(0,0)/\c<=maxLen\/E=5/\z<=mk.1):mk.2=0\/z<=mk.1:=h.imp (λh=>by rw[h.1]) (·.2)
theorem rj {w:World}{g j:Nat}{cs:Array Value}{E:TypeId}{mk:Nat×Nat}(r:w.heap[g]?=some (.cells cs E mk))(y:mk.2=0\/cs.size<=mk.1)(u:j<cs.size):w.frozen? ⟨g,j,none⟩=false:=by
 simp only[World.frozen?,r,Bool.and_eq_false_iff,decide_eq_false_iff_not];omega
def Mx (w:World)(G:Nat->Prop):(a:Ty)->Option Nat->Nat->a.den->List Value->List Nat->Prop
 |.int k,_,_,n,y,r=>y=[.int k n]/\r=[]
 |.bool,_,_,b,y,r=>y=[.bool b]/\r=[]
 |.str,_,_,s,y,r=>y=[.string s]/\r=[]
 |.unit,_,_,_,y,r=>y=[]/\r=[]
 |.hdr,_,_,n,y,r=>(∃ A J,y=[.slice A n J])/\r=[]
 |.pair a b,h,pos,x,y,r=>∃ M R O X,y=M++R/\r=O++X/\Mx w G a h pos x.1 M O/\Mx w G b h (pos+a.cells) x.2 R X
 |.list m E e,h,pos,I,y,r=>∃ v,y=[v]/\v.oneCell'=true /\
  (if m=true then (if h=some pos then r=[] else ∃ z H,Row w E e.cells v I.length z/\r=v.ownBlock.toList++(CJ I.length).flatMap H /\
    ∀ j (x:e.den),I[j]?=some x->∃ c,Mx w G e none 0 x c (H j)/\∀ i u,c[i]?=some u->z[j*e.cells+i]?=some u)
   else r=[]/\Rd w G (.list m E e) I [v])
def OwB (w:World)(G:Nat->Prop)(h:Option (Nat×Nat))(E:TypeId)(e:Ty)(xs:List e.den)(v:Value)(bs:List Nat):Prop :=
 ∃ r y,Row w E e.cells v xs.length r/\bs=v.ownBlock.toList++(CJ xs.length).flatMap y /\
  ∀ j (x:e.den),xs[j]?=some x->∃ c,Mx w G e (cS h j) 0 x c (y j)/\∀ i u,c[i]?=some u->r[j*e.cells+i]?=some u
def OwH (w:World)(G:Nat->Prop)(h:Option (Nat×Nat))(E:TypeId)(e:Ty)(xs:List e.den)(v:Value)(bs:List Nat):Prop:=bs.Nodup/\OwB w G h E e xs v bs
abbrev Ow (w:World)(G:Nat->Prop)(E:TypeId)(e:Ty)(xs:List e.den)(v:Value)(bs:List Nat):Prop:=OwH w G none E e xs v bs
theorem OwB.one {w:World}{G:Nat->Prop}{h:Option (Nat×Nat)}{E:TypeId}{e:Ty}{xs:List e.den}{v:Value}{bs:List Nat}(H:OwB w G h E e xs v bs):v.oneCell'=true:=by
 obtain⟨r,z,y,_⟩:=H;obtain⟨A,u,rfl,_⟩:=y.slice;rfl
theorem bJ {w:World}{G:Nat->Prop}{h:Option Nat}{E:TypeId}{e:Ty}{pos:Nat}{xs:List e.den}{cs:List Value}{bs:List Nat}(r:h≠some pos) :
  Mx w G (.list true E e) h pos xs cs bs<->∃ v,cs=[v]/\OwB w G none E e xs v bs:=by
 simp only[Mx,if_neg r];constructor
 ·rintro⟨v,h1,h2,h3⟩;exact⟨v,h1,h3⟩
 ·rintro⟨v,h1,h3⟩;exact⟨v,h1,h3.one,h3⟩
theorem jc {w:World}{G:Nat->Prop}{E:TypeId}{e:Ty}{pos:Nat}{xs:List e.den}{cs:List Value}{bs:List Nat} :
  Mx w G (.list true E e) (some pos) pos xs cs bs<->∃ v,cs=[v]/\v.oneCell'=true/\bs=[]:=by
 simp only[Mx,if_true]
theorem cr {w:World}{G:Nat->Prop}{h:Option Nat}{E:TypeId}{e:Ty}{pos:Nat}{xs:List e.den}{cs:List Value}{bs:List Nat} :
  Mx w G (.list false E e) h pos xs cs bs<->bs=[]/\Rd w G (.list false E e) xs cs:=by
 simp only[Mx];constructor
 ·grind
 ·rintro⟨h1,h2⟩;obtain⟨A,r,u,y⟩:=h2;exact⟨_,u,rfl,h1,A,r,rfl,y⟩
theorem dX {n:Nat}{r:Nat->List Nat}{k:Nat}:k∈(CJ n).flatMap r<->∃ j,j<n/\k∈r j:=by simp
theorem Mx.carry {w w':World}{G G':Nat->Prop}(I:∀ k,G k->G' k)(J:∀ k,G k->w'.heap[k]?=w.heap[k]?) :
  ∀ {a:Ty} {h:Option Nat} {pos:Nat} {x:a.den} {cs:List Value} {bs:List Nat},(∀ k∈bs,w'.heap[k]?=w.heap[k]?)->Mx w G a h pos x cs bs->Mx w' G' a h pos x cs bs
 |.int _,_,_,_,_,_,_,h=>h
 |.bool,_,_,_,_,_,_,h=>h
 |.str,_,_,_,_,_,_,h=>h
 |.unit,_,_,_,_,_,_,h=>h
 |.hdr,_,_,_,_,_,_,h=>h
 |.pair _ _,_,_,_,_,_,u,⟨c1,c2,b1,b2,R,O,M,z⟩=>⟨c1,c2,b1,b2,R,O,Mx.carry I J (λk r=>u k (by rw[O];exact BW _ r)) M,Mx.carry I J (λk r=>u k (by rw[O];exact BV _ r)) z⟩
 |.list m E e,h,pos,xs,cs,bs,u,H=>by
  cases m with
  |false =>
   rw[cr]at H ⊢;exact⟨H.1,H.2.carry I J⟩
  |true =>
   by_cases Z:h=some pos
   ·subst Z;rw[jc]at H ⊢;exact H
   ·rw[bJ Z]at H ⊢;obtain⟨v,R,y,X,M,z,h3⟩:=H;refine⟨v,R,y,X,M.same (λk r=>u k (by rw[z];exact BW _ r)),z,λj x Y=>?_⟩;obtain⟨c,h4,h5⟩:=h3 j x Y;refine⟨c,?_,h5⟩;exact Mx.carry I J (λk r=>u k (by rw[z];exact BV _ (dX.2 ⟨j,(BS.1 Y).1,r⟩))) h4
theorem Mx.mono {w:World}{G G':Nat->Prop}(r:∀ k,G k->G' k){a:Ty}{h:Option Nat}{pos:Nat}{x:a.den}{cs:List Value}{bs:List Nat}(H:Mx w G a h pos x cs bs):Mx w G' a h pos x cs bs :=
 Mx.carry r (λ_ _=>rfl) (λ_ _=>rfl) H
theorem OwB.carry {w w':World}{G G':Nat->Prop}{h:Option (Nat×Nat)}{E:TypeId}{e:Ty}{xs:List e.den}{v:Value}{bs:List Nat}(H:OwB w G h E e xs v bs)
  (M:∀ k,G k->G' k) (X:∀ k,G k->w'.heap[k]?=w.heap[k]?) (I:∀ k∈bs,w'.heap[k]?=w.heap[k]?):OwB w' G' h E e xs v bs:=by
 obtain⟨r,z,O,y,Z⟩:=H;refine⟨r,z,O.same (λk u=>I k (by rw[y];exact BW _ u)),y,λj x J=>?_⟩;obtain⟨c,R,Y⟩:=Z j x J;exact⟨c,Mx.carry M X (λk u=>I k (by rw[y];exact BV _ (dX.2 ⟨j,(BS.1 J).1,u⟩))) R,Y⟩
theorem OwH.carry {w w':World}{G G':Nat->Prop}{h:Option (Nat×Nat)}{E:TypeId}{e:Ty}{xs:List e.den}{v:Value}{bs:List Nat}(H:OwH w G h E e xs v bs)
 (y:∀ k,G k->G' k) (u:∀ k,G k->w'.heap[k]?=w.heap[k]?) (r:∀ k∈bs,w'.heap[k]?=w.heap[k]?):OwH w' G' h E e xs v bs:=⟨H.1,H.2.carry y u r⟩
theorem Mx.len {w:World}{G:Nat->Prop}:∀ {a:Ty} {h:Option Nat} {pos:Nat} {x:a.den} {cs:List Value} {bs:List Nat},Mx w G a h pos x cs bs->cs.length=a.cells
 |.int _,_,_,_,_,_,h=>by rw[h.1];rfl
 |.bool,_,_,_,_,_,h=>by rw[h.1];rfl
 |.str,_,_,_,_,_,h=>by rw[h.1];rfl
 |.unit,_,_,_,_,_,h=>by rw[h.1];rfl
 |.hdr,_,_,_,_,_,⟨⟨A,u,e⟩,_⟩=>by rw[e];rfl
 |.pair _ _,_,_,_,_,_,⟨H,M,J,O,y,I,r,z⟩=>by rw[y,Cd,r.len,z.len];rfl
 |.list _ _ _,_,_,_,_,_,⟨v,e,_⟩=>by rw[e];rfl
theorem Mx.one {w:World}{G:Nat->Prop}:∀ {a:Ty} {h:Option Nat} {pos:Nat} {x:a.den} {cs:List Value} {bs:List Nat},Mx w G a h pos x cs bs->∀ v∈cs,v.oneCell'=true
 |.int _,_,_,_,_,_,h=>by rw[h.1];simp[B3]
 |.bool,_,_,_,_,_,h=>by rw[h.1];simp[B3]
 |.str,_,_,_,_,_,h=>by rw[h.1];simp[B3]
 |.unit,_,_,_,_,_,h=>by rw[h.1];simp
 |.hdr,_,_,_,_,_,⟨⟨A,y,e⟩,_⟩=>by rw[e];simp[B3]
 |.pair _ _,_,_,_,_,_,⟨I,O,M,R,z,J,u,H⟩=>by
  rw[z];intro v r;rcases B6.1 r with r|r
  ·exact u.one v r
  ·exact H.one v r
 |.list _ _ _,_,_,_,_,_,⟨v,e,u,_⟩=>by rw[e];simpa using u
theorem Mx.lt {w:World}{G:Nat->Prop}:∀ {a:Ty} {h:Option Nat} {pos:Nat} {x:a.den} {cs:List Value} {bs:List Nat},Mx w G a h pos x cs bs->∀ k∈bs,k<w.heap.size
 |.int _,_,_,_,_,_,h=>by rw[h.2];simp
 |.bool,_,_,_,_,_,h=>by rw[h.2];simp
 |.str,_,_,_,_,_,h=>by rw[h.2];simp
 |.unit,_,_,_,_,_,h=>by rw[h.2];simp
 |.hdr,_,_,_,_,_,h=>by rw[h.2];simp
 |.pair _ _,_,_,_,_,_,⟨Z,c2,b1,b2,R,M,u,y⟩=>by
  rw[M];intro k r;rcases B6.1 r with r|r
  ·exact u.lt k r
  ·exact y.lt k r
 |.list m E e,h,pos,xs,cs,bs,H=>by
  cases m with
  |false=>rw[cr]at H;rw[H.1];simp
  |true =>
   by_cases I:h=some pos
   ·subst I;rw[jc]at H
    grind
   ·rw[bJ I]at H;obtain⟨v,R,z,X,u,y,Y⟩:=H;rw[y];intro k r;rcases B6.1 r with r|r
    ·exact u.lt k r
    ·obtain⟨j,O,r⟩:=dX.1 r;obtain⟨c,J,_⟩:=Y j _ (BU O);exact J.lt k r
theorem OwB.lt {w:World}{G:Nat->Prop}{h:Option (Nat×Nat)}{E:TypeId}{e:Ty}{xs:List e.den}{v:Value}{bs:List Nat}(H:OwB w G h E e xs v bs):∀ k∈bs,k<w.heap.size:=by
 obtain⟨u,M,y,J,O⟩:=H;rw[J];intro k r;rcases B6.1 r with r|r
 ·exact y.lt k r
 ·obtain⟨j,I,r⟩:=dX.1 r;obtain⟨c,z,_⟩:=O j _ (BU I);exact z.lt k r
theorem OwH.lt {w:World}{G:Nat->Prop}{h:Option (Nat×Nat)}{E:TypeId}{e:Ty}{xs:List e.den}{v:Value}{bs:List Nat}(H:OwH w G h E e xs v bs):∀ k∈bs,k<w.heap.size:=H.2.lt
theorem OwH.nodup {w:World}{G:Nat->Prop}{h:Option (Nat×Nat)}{E:TypeId}{e:Ty}{xs:List e.den}{v:Value}{bs:List Nat}(H:OwH w G h E e xs v bs):bs.Nodup:=H.1
theorem OwH.slice {w:World}{G:Nat->Prop}{h:Option (Nat×Nat)}{E:TypeId}{e:Ty}{xs:List e.den}{v:Value}{bs:List Nat}(H:OwH w G h E e xs v bs) :
  ∃ A r,v=.slice A xs.length r/\xs.length<=r:=by
 obtain⟨_,u,z,y,_⟩:=H;exact y.slice
theorem OwH.one {w:World}{G:Nat->Prop}{h:Option (Nat×Nat)}{E:TypeId}{e:Ty}{xs:List e.den}{v:Value}{bs:List Nat}(H:OwH w G h E e xs v bs):v.oneCell'=true:=H.2.one
theorem sL {w:World}{m:Bool}{E E':TypeId}{e:Ty}{xs:List e.den}{v:Value}{flat:List Value}{S:Nat->Prop}(I:Row w E e.cells v xs.length flat)(O:∀ k∈v.ownBlock.toList,S k)
  (h3:∀ j (x:e.den),xs[j]?=some x->∃ c,Rd w S e x c/\∀ i u,c[i]?=some u->flat[j*e.cells+i]?=some u):Rd w S (.list m E' e) xs [v]:=by
 rcases I.2 with ⟨rfl,H⟩|⟨g,y,z,mk,rfl,Y,X,hm,hs,J⟩
 ·exact⟨none,0,by rw[H],by omega,λhp=>by omega⟩
 ·refine⟨some ⟨g,0,none⟩,y,rfl,X,λ_=>⟨g,0,rfl,O g (by simp[CH]),λj x R=>?_⟩⟩;obtain⟨c,Z,r⟩:=h3 j x R;refine⟨c,Z,λi u M=>?_⟩;have:=r i u M;rw[<- J,B8]at this;split at this
  ·rw[Cg,cell_of_row w g _ z E mk Y]
   simp_all
  ·grind
theorem Mx.rd {w:World}{G S:Nat->Prop}(y:∀ k,G k->S k):∀ {a:Ty} {pos:Nat} {x:a.den} {cs:List Value} {bs:List Nat},(∀ k∈bs,S k)->Mx w G a none pos x cs bs->Rd w S a x cs
 |.int _,_,_,_,_,_,h=>h.1
 |.bool,_,_,_,_,_,h=>h.1
 |.str,_,_,_,_,_,h=>h.1
 |.unit,_,_,_,_,_,h=>h.1
 |.hdr,_,_,_,_,_,h=>h.1
 |.pair _ _,_,_,_,_,u,⟨Z,c2,b1,b2,J,R,I,z⟩=>⟨Z,c2,J,Mx.rd y (λk r=>u k (by rw[R];exact BW _ r)) I,Mx.rd y (λk r=>u k (by rw[R];exact BV _ r)) z⟩
 |.list m E e,pos,xs,cs,bs,u,H=>by
  cases m with
  |false=>rw[cr]at H;exact H.2.mono y
  |true =>
   rw[bJ (by simp)]at H;obtain⟨v,J,X,O,I,z,h3⟩:=H;rw[J];refine sL I (λk r=>u k (by rw[z];exact BW _ r)) λj x Y=>?_
   obtain⟨c,h4,h5⟩:=h3 j x Y;have M:Mx w G e none 0 x c (O j):=h4;exact⟨c,Mx.rd y (λk r=>u k (by rw[z];exact BV _ (dX.2 ⟨j,(BS.1 Y).1,r⟩))) M,h5⟩
theorem OwH.rd {w:World}{G:Nat->Prop}{m:Bool}{E E':TypeId}{e:Ty}{xs:List e.den}{v:Value}{bs:List Nat}(H:Ow w G E e xs v bs) :
  Rd w (λk=>G k\/k∈bs) (.list m E' e) xs [v]:=by
 obtain⟨_,z,y,M,J,X⟩:=H;refine sL M (λk r=>.inr (by rw[J];exact BW _ r)) λj x I=>?_
 obtain⟨c,O,R⟩:=X j x I;have u:Mx w G e none 0 x c (y j):=O;exact⟨c,u.rd (λk r=>.inl r) (λk r=>.inr (by rw[J];exact BV _ (dX.2 ⟨j,(BS.1 I).1,r⟩))),R⟩
theorem OwH.nil (w:World)(G:Nat->Prop)(E:TypeId)(e:Ty):Ow w G E e [] (.slice none 0 0) [] :=
 ⟨List.nodup_nil,[],λ_=>[],Row.nil w E e.cells,rfl,λj x r=>by simp at r⟩
theorem Rd.nil (w:World)(G:Nat->Prop)(m:Bool)(E:TypeId)(e:Ty):Rd w G (.list m E e) [] [.slice none 0 0] :=
 ⟨none,0,rfl,BY _,λh=>by simp at h⟩
theorem Mx.flat {w w':World}{G G':Nat->Prop}:∀ {a:Ty} {h:Option Nat} {pos:Nat} {x:a.den} {cs:List Value},a.flat=true->Rd w G a x cs->Mx w' G' a h pos x cs []
 |.int _,_,_,_,_,_,h=>⟨h,rfl⟩
 |.bool,_,_,_,_,_,h=>⟨h,rfl⟩
 |.str,_,_,_,_,_,h=>⟨h,rfl⟩
 |.unit,_,_,_,_,_,h=>⟨h,rfl⟩
 |.hdr,_,_,_,_,_,h=>⟨h,rfl⟩
 |.pair _ _,_,_,_,_,r,⟨u,H,e,y,z⟩=>by
  simp only[Ty.flat,BT]at r;exact⟨u,H,[],[],e,rfl,Mx.flat r.1 y,Mx.flat r.2 z⟩
theorem Mx.shared {w:World}{G:Nat->Prop}:∀ {a:Ty} {h:Option Nat} {pos:Nat} {x:a.den} {cs:List Value},a.sh=a->Rd w G a x cs->Mx w G a h pos x cs []
 |.int _,_,_,_,_,_,h=>⟨h,rfl⟩
 |.bool,_,_,_,_,_,h=>⟨h,rfl⟩
 |.str,_,_,_,_,_,h=>⟨h,rfl⟩
 |.unit,_,_,_,_,_,h=>⟨h,rfl⟩
 |.hdr,_,_,_,_,_,h=>⟨h,rfl⟩
 |.pair _ _,_,_,_,_,r,⟨u,H,e,y,z⟩=>by
  simp only[Ty.sh,Ty.pair.injEq]at r;exact⟨u,H,[],[],e,rfl,Mx.shared r.1 y,Mx.shared r.2 z⟩
 |.list m E e,_,_,_,_,r,h=>by
  simp only[Ty.sh,Ty.list.injEq]at r;obtain⟨rfl,_⟩:=r;exact cr.2 ⟨rfl,h⟩
def di (agg:Bool)(v:Value)(cs:List Value):Prop:=if agg then v=.agg cs.toArray else cs=[v]
def sq (w:World)(G:Nat->Prop):(y:List Ty)->Tup y->List Value->Prop
 |[],_,u=>u=[]
 |a::as,x,u=>∃ v c r,u=v::r/\di a.isAgg v c/\Rd w G a x.1 c/\sq w G as x.2 r
def fW (P:Program)(f:FuncId):Prop:=∀ (r:Array Value) (w:World),(callFunc f r).run P w=.ok (.enter f r) w
def il (P:Program)(w0:World)(S:Nat->Prop)(H:List Ty)(B:Ty)(I:Tup H->Option B.den)(v:Value):Prop :=
 ∃ f z,v=.func (.func f) #[] z/\fW P f /\
  ∀ w1:World,w0.heap.size<=w1.heap.size->(∀ k,S k->w1.heap[k]?=w0.heap[k]?) ->
   ∀ (x:Tup H) (r:List Value) (y:B.den),sq w1 (λk=>k<w1.heap.size) H x r->I x=some y ->
    Calls P f (r.toArray++z) w1 (λe w2=>∃ u c,e=.returned u/\di B.isAgg u c/\Rd w2 (λ_=>False) B y c/\Below w1.heap.size w1 w2)
structure Env where
 w0:World
 ro0:Nat->Prop
 own0:List Nat
 nt:Nat
 fixb:List (Nat×Nat)
 fixt:List (Nat×Value)
def Env.prot (V:Env)(k:Nat):Prop:=k<V.w0.heap.size/\k∉V.own0
structure Wit where
 β:Nat->Nat
 cs:Nat->List Value
 bs:Nat->Nat->List Nat
 nw:Nat->Prop
def gd (V:Env)(W:Wit)(p:Bool)(k:Nat):Prop:=W.nw k\/(p=true/\V.ro0 k)
def ao:Leaf->Prop
 |.own _ _ _ _ _=>True
 |_=>False
def RpOk (V:Env)(W:Wit)(w:World)(p:Bool)(a:Ty)(x:a.den)(off:Nat)(v:Value):Prop :=
 ∃ g o c,v=.pointer (some ⟨g,o+off,none⟩)/\(W.nw g\/V.prot g)/\Rd w (gd V W p) a x c/\cY w g o c
def sr (V:Env)(W:Wit)(w:World)(p:Bool)(a:Ty)(x:a.den)(v:Value):Prop :=
 ∃ b r g o c,v=.pointer (some ⟨b,r,none⟩)/\(W.nw b\/V.prot b)/\w.cell? ⟨b,r,none⟩=some (.pointer (some ⟨g,o,none⟩)) /\
  (W.nw g\/V.prot g)/\Rd w (gd V W p) a x c/\cY w g o c
def iP (V:Env)(W:Wit)(w:World)(c:Bool×Bool×(a:Ty)×a.den)(v:Value):Prop :=
 if c.2.1=true then sr V W w c.1 c.2.2.1 c.2.2.2 v else RpOk V W w c.1 c.2.2.1 c.2.2.2 0 v
def su (st:St)(ks:List (Nat×Nat×Nat)):Prop:=∀ k∈ks,∃ l,(st k.1).ls[k.2.1]?=some l/\ao l
structure sv (V:Env) (W:Wit) (w:World) (p:Bool) (ks:List (Nat×Nat×Nat)) (loc:Option (Nat×Nat×Nat)) (E:TypeId) (e:Ty) (xs:List e.den) (v:Value):Prop where
 rd:Rd w (λb=>gd V W p b\/∃ k∈ks,b∈W.bs k.1 k.2.1) (.list false E e) xs [v]
 at_:∀ i sz off,loc=some (i,sz,off)->∃ r j n,ks=[(r,j,n)]/\∃ g len cap,(W.cs r)[j]?=some (.slice (some ⟨g,0,none⟩) len cap)/\i<len/\g∈W.bs r j/\w.cell? ⟨g,i*sz+off,none⟩=some v
structure NpOk (V:Env) (W:Wit) (w:World) (p:Bool) (ks:List (Nat×Nat×Nat)) (a:Ty) (x:a.den) (off:Nat) (v:Value):Prop where
 rd:∃ g o c,v=.pointer (some ⟨g,o+off,none⟩)/\(gd V W p g\/∃ k∈ks,g∈W.bs k.1 k.2.1)/\Rd w (λb=>gd V W p b\/∃ k∈ks,b∈W.bs k.1 k.2.1) a x c/\cY w g o c
def aI (P:Program)(V:Env)(W:Wit)(st:St)(w:World)(bs:List Nat):Leaf->Value->Prop
 |.int k n,v=>v=.int k n
 |.bool b,v=>v=.bool b
 |.str s,v=>v=.string s
 |.nil,v=>v=.slice none 0 0
 |.hdr n,v=>∃ A H,v=.slice A n H
 |.ro p E e J,v=>Rd w (gd V W p) (.list false E e) J [v]
 |.own p h E e J,v=>OwH w (gd V W p) h E e J v bs
 |.al r j n,v=>n<=(st r).ver/\((st r).ver=n->(W.cs r)[j]?=some v)
 |.nal p z ep O E e J,v=>ep<=(st EPO).ver/\(∀ k∈z,k.2.2<=(st k.1).ver)/\((st EPO).ver=ep->(∀ k∈z,(st k.1).ver=k.2.2)->su st z->sv V W w p z O E e J v)
 |.ep r j n i R off,v=>n<=(st r).ver/\((st r).ver=n->∃ g I H,(W.cs r)[j]?=some (.slice (some ⟨g,0,none⟩) I H)/\i<I/\v=.pointer (some ⟨g,i*R+off,none⟩))
 |.np p z ep a x off,v=>ep<=(st EPO).ver/\(∀ k∈z,k.2.2<=(st k.1).ver)/\((st EPO).ver=ep->(∀ k∈z,(st k.1).ver=k.2.2)->su st z->NpOk V W w p z a x off v)
 |.rp p a x off,v=>RpOk V W w p a x off v
 |.rpp p a x,v=>sr V W w p a x v
 |.bp b off,v=>B0<=b/\(st b).sh=.agg/\v=.pointer (some ⟨W.β b,off,none⟩)
 |.clo f y,v=>v=.func (.func f) #[] (y.map λb=>Value.pointer (some ⟨W.β b,0,none⟩)).toArray/\∀ b∈y,B0<=b/\(st b).sh=.agg
 |.clr f y,v=>∃ M:List Value,v=.func (.func f) #[] M.toArray/\M.length=y.length/\∀ (i:Nat) (c:Bool×Bool×(a:Ty)×a.den) (u:Value),y[i]?=some c->M[i]?=some u->iP V W w c u
 |.fn X B Y,v=>il P V.w0 V.prot X B Y v
 |.dead,_=>True
def pL:List (Bool×Nat)->List Value->List Value->Prop
 |[],y,z=>y=[]/\z=[]
 |(agg,n)::H,y,z=>∃ v r c u,y=v::r/\z=c++u/\c.length=n/\di agg v c/\pL H r u
def ei:aG->Value->List Value->Prop
 |.off,_,r=>r=[]
 |.und,v,r=>v=undef/\r=[]
 |.one,v,r=>r=[v]
 |.agg,v,r=>v=.agg r.toArray
 |.tup y,v,r=>∃ u,v=.tuple u.toArray/\pL y u r
def live (st:St)(b:Nat):Prop:=B0<=b/\(st b).sh=.agg
structure ap (P:Program) (V:Env) (W:Wit) (st:St) (a:Act) (w:World):Prop where
 nt:a.tmps.size=V.nt
 df:a.defers=[]
 slots:∀ t,t<GH->ei (st t).sh (a.tmps.getD t undef) (W.cs t)
 boxes:∀ b,B0<=b->((st b).sh=.off/\(st b).ls=[])\/((st b).sh=.agg/\∃ E,w.heap[W.β b]?=some (.cells (W.cs b).toArray E (0,0)))
 len:∀ r,(st r).ls.length=(W.cs r).length
 one:∀ r,∀ v∈W.cs r,v.oneCell'=true
 leaf:∀ r j l v,(st r).ls[j]?=some l->(W.cs r)[j]?=some v->aI P V W st w (W.bs r j) l v
 ownb:∀ r j l,(st r).ls[j]?=some l->ao l->∀ k∈W.bs r j,¬ W.nw k/\¬ V.prot k/\∀ b,live st b->W.β b≠k
 sep:∀ r j l r' j' l',(st r).ls[j]?=some l->ao l->(st r').ls[j']?=some l'->ao l'->∀ k,k∈W.bs r j->k∈W.bs r' j'->r=r'/\j=j'
 box:∀ b,live st b->¬ W.nw (W.β b)/\¬ V.prot (W.β b)
 inj:∀ b b',live st b->live st b'->W.β b=W.β b'->b=b'
 nwlt:∀ k,W.nw k->k<w.heap.size/\¬ V.prot k
 os:w.os=V.w0.os
 tape:w.tape=V.w0.tape
 output:w.output=V.w0.output
 size:V.w0.heap.size<=w.heap.size
 keep:∀ k,V.prot k->w.heap[k]?=V.w0.heap[k]?
 fixb:∀ x∈V.fixb,live st x.1/\W.β x.1=x.2
 fixt:∀ x∈V.fixt,a.tmps.getD x.1 undef=x.2
def Rel (P:Program)(V:Env)(st:St)(a:Act)(w:World):Prop:=∃ W,ap P V W st a w
structure ay (V:Env):Prop where
 ro:∀ k,V.ro0 k->V.prot k
 nt:V.nt<=GH
theorem ay.ntB {V:Env}(h:ay V):V.nt<=B0:=B4 h.nt (by decide)
section
variable {P:Program} {V:Env} {W W':Wit} {st st':St} {w w':World}
theorem bU {p q:Bool}(u:p=true->q=true)(y:∀ k,W.nw k->W'.nw k):∀ k,gd V W p k->gd V W' q k:=by
 intro k r;rcases r with r|⟨z,r⟩
 ·exact .inl (y k r)
 ·exact .inr ⟨u z,r⟩
structure cH (V:Env) (W W':Wit) (st st':St) (w w':World):Prop where
 ver:∀ r,(st r).ver<=(st' r).ver/\((st' r).ver=(st r).ver->W'.cs r=W.cs r)
 box:∀ b,live st b->live st' b/\W'.β b=W.β b
 nw:∀ k,W.nw k->W'.nw k
 heap:∀ k,(W.nw k\/V.prot k)->w'.heap[k]?=w.heap[k]?
 epo:(st' EPO).ver=(st EPO).ver->∀ (r j:Nat) (l:Leaf),(st' r).ls[j]?=some l->ao l->(st' r).ver=(st r).ver ->
  (∃ l',(st r).ls[j]?=some l'/\ao l')/\W'.bs r j=W.bs r j/\∀ k∈W.bs r j,w'.heap[k]?=w.heap[k]?
theorem cH.refl (V:Env)(W:Wit)(st:St)(w:World):cH V W W st st w w :=
 ⟨λ_=>⟨BY _,λ_=>rfl⟩,λ_ r=>⟨r,rfl⟩,λ_ h=>h,λ_ _=>rfl,λ_ _ _ l u y _=>⟨⟨l,u,y⟩,rfl,λ_ _=>rfl⟩⟩
theorem kD {w w':World}{a:Addr}(h:w'.heap[a.block]?=w.heap[a.block]?):w'.cell? a=w.cell? a:=by simp[Cv,h]
theorem cH.gdheap (u:∀ k,V.ro0 k->V.prot k)(h:cH V W W' st st' w w')(p:Bool):∀ k,gd V W p k->w'.heap[k]?=w.heap[k]?:=by
 intro k r;rcases r with r|⟨_,r⟩
 ·exact h.heap k (.inl r)
 ·exact h.heap k (.inr (u k r))
theorem w8 {ks:List (Nat×Nat×Nat)}{ep:Nat}(r:cH V W W' st st' w w')(I:ep<=(st EPO).ver)(y:∀ k∈ks,k.2.2<=(st k.1).ver)(H:(st' EPO).ver=ep)(z:∀ k∈ks,(st' k.1).ver=k.2.2) :
  (st EPO).ver=ep/\∀ k∈ks,(st k.1).ver=k.2.2 :=
 ⟨by have:=(r.ver EPO).1;omega,λk u=>by have:=(r.ver k.1).1;have:=y k u;have:=z k u;omega⟩
theorem cH.places {ks:List (Nat×Nat×Nat)}{ep:Nat}(y:cH V W W' st st' w w')(J:su st' ks)(R:(st EPO).ver=ep)(M:∀ k∈ks,(st k.1).ver=k.2.2)
  (O:(st' EPO).ver=ep) (I:∀ k∈ks,(st' k.1).ver=k.2.2) :
  ∀ k∈ks,(∃ u,(st k.1).ls[k.2.1]?=some u/\ao u)/\W'.bs k.1 k.2.1=W.bs k.1 k.2.1/\∀ b∈W.bs k.1 k.2.1,w'.heap[b]?=w.heap[b]?:=λk r=>by
 obtain⟨l,z,H⟩:=J k r;exact y.epo (by omega) k.1 k.2.1 l z H (by rw[I k r,M k r])
theorem aI.carry (J:∀ k,V.ro0 k->V.prot k){bs bs':List Nat}{l:Leaf}{v:Value}(h:aI P V W st w bs l v)(y:cH V W W' st st' w w')
  (a1:ao l->bs'=bs/\∀ k∈bs,w'.heap[k]?=w.heap[k]?):aI P V W' st' w' bs' l v:=by
 have hG:∀ p k,gd V W p k->gd V W' p k:=λp=>bU (λh=>h) y.nw
 have hP:∀ k,(W.nw k\/V.prot k)->(W'.nw k\/V.prot k):=λk M=>M.imp (y.nw k) id
 have hR:∀ {p:Bool} {a:Ty} {x:a.den} {off:Nat} {v:Value},RpOk V W w p a x off v->RpOk V W' w' p a x off v:=by
  rintro p a x off v ⟨g,o,c,hv,Y,hr,Z⟩;exact⟨g,o,c,hv,hP g Y,Rd.carry (hG p) (y.gdheap J p) hr,Z.same (y.heap g Y)⟩
 have a3:∀ {p:Bool} {a:Ty} {x:a.den} {v:Value},sr V W w p a x v->sr V W' w' p a x v:=by
  rintro p a x v ⟨b,ob,g,o,c,hv,H,a0,Y,hr,Z⟩;exact⟨b,ob,g,o,c,hv,hP b H,by rw[kD (y.heap b H)];exact a0,hP g Y,Rd.carry (hG p) (y.gdheap J p) hr,Z.same (y.heap g Y)⟩
 cases l with
 |int k n=>exact h
 |bool b=>exact h
 |str s=>exact h
 |nil=>exact h
 |hdr n=>exact h
 |ro p E e xs=>exact Rd.carry (hG p) (y.gdheap J p) h
 |own p hh E e xs =>
  obtain⟨rfl,H⟩:=a1 trivial;exact OwH.carry h (hG p) (y.gdheap J p) H
 |nal p ks ep a9 E e xs =>
  obtain⟨z,I,O⟩:=h;refine⟨B4 z (y.ver EPO).1,λk M=>B4 (I k M) (y.ver k.1).1,λhe M ho=>?_⟩;obtain⟨e1,e2⟩:=w8 y z I he M;have h5:=y.places ho e1 e2 he M;have R:=O e1 e2 (λk X=>(h5 k X).1);refine⟨Rd.carry ?_ ?_ R.rd,λi sz off hl=>?_⟩
  ·grind
  ·rintro b (H|⟨k,X,H⟩)
   ·exact y.gdheap J p b H
   ·grind
  ·obtain⟨r,j,n,rfl,g,a5,a4,h6,h7,h8,h9⟩:=R.at_ i sz off hl;have X:(r,j,n)∈[(r,j,n)]:=Ce ..;have a6:(st' r).ver=(st r).ver:=(M _ X).trans (e2 _ X).symm;refine⟨r,j,n,rfl,g,a5,a4,by rw[(y.ver r).2 a6];exact h6,h7,by rw[(h5 _ X).2.1];exact h8,?_⟩;rw[kD ((h5 _ X).2.2 g h8)];exact h9
 |np p ks ep a x off =>
  obtain⟨z,I,O⟩:=h;refine⟨B4 z (y.ver EPO).1,λk M=>B4 (I k M) (y.ver k.1).1,λhe M ho=>?_⟩;obtain⟨e1,e2⟩:=w8 y z I he M;have h5:=y.places ho e1 e2 he M;have R:=O e1 e2 (λk X=>(h5 k X).1);have hS:∀ b,(gd V W p b\/∃ k∈ks,b∈W.bs k.1 k.2.1)->(gd V W' p b\/∃ k∈ks,b∈W'.bs k.1 k.2.1):=by
   grind
  have hW:∀ b,(gd V W p b\/∃ k∈ks,b∈W.bs k.1 k.2.1)->w'.heap[b]?=w.heap[b]?:=by
   rintro b (H|⟨k,X,H⟩)
   ·exact y.gdheap J p b H
   ·grind
  obtain⟨g,o,c,hv,Y,hr,Z⟩:=R.rd;exact⟨g,o,c,hv,hS g Y,Rd.carry hS hW hr,Z.same (hW g Y)⟩
 |al r j n =>
  obtain⟨z,I⟩:=h;obtain⟨O,R⟩:=y.ver r;refine⟨B4 z O,λhv=>?_⟩
  grind
 |ep r j n i sz off =>
  obtain⟨z,I⟩:=h;obtain⟨O,R⟩:=y.ver r;refine⟨B4 z O,λhv=>?_⟩
  grind
 |rp p a x off=>exact hR h
 |rpp p a x=>exact a3 h
 |clr f a2 =>
  obtain⟨us,z,I,O⟩:=h;refine⟨us,z,I,λi c u Z hu=>?_⟩;have R:=O i c u Z hu;unfold iP at R ⊢
  grind
 |bp b off =>
  obtain⟨z,I,O⟩:=h;obtain⟨R,h5⟩:=y.box b ⟨z,I⟩;exact⟨z,R.2,by rw[h5];exact O⟩
 |clo f a2 =>
  obtain⟨z,I⟩:=h;refine⟨?_,λb H=>(y.box b (I b H)).1⟩;rw[z];congr 2;refine List.map_congr_left λb H=>?_
  rw[(y.box b (I b H)).2]
 |fn As B φ=>exact h
 |dead=>trivial
def aC (P:Program)(V:Env)(W:Wit)(st:St)(w:World):List Leaf->List Value->Prop
 |[],[]=>True
 |l::r,v::u=>(aI P V W st w [] l v/\¬ ao l/\v.oneCell'=true)/\aC P V W st w r u
 |_,_=>False
theorem aC.length:∀ {ls:List Leaf} {cs:List Value},aC P V W st w ls cs->ls.length=cs.length
 |[],[],_=>rfl
 |_::_,_::_,h=>by simp[aC.length h.2]
theorem aC.at_:∀ {ls:List Leaf} {cs:List Value},aC P V W st w ls cs->∀ (j:Nat) (l:Leaf) (v:Value),ls[j]?=some l->cs[j]?=some v->aI P V W st w [] l v/\¬ ao l/\v.oneCell'=true
 |_::_,_::_,h,0,l,v,r,u=>by
  simp at r u;subst r;subst u;exact h.1
 |_::_,_::_,h,j+1,l,v,r,u=>aC.at_ h.2 j l v (by simpa using r) (by simpa using u)
theorem aC.one':∀ {ls:List Leaf} {cs:List Value},aC P V W st w ls cs->∀ v∈cs,v.oneCell'=true
 |[],[],_,_,r=>by simp at r
 |_::_,_::_,h,v,r=>by
  rcases Cc.1 r with rfl|r
  ·exact h.1.2.2
  ·exact aC.one' h.2 v r
theorem aC.mk:∀ {ls:List Leaf} {cs:List Value},ls.length=cs.length->(∀ (j:Nat) (l:Leaf) (v:Value),ls[j]?=some l->cs[j]?=some v->aI P V W st w [] l v/\¬ ao l/\v.oneCell'=true)->aC P V W st w ls cs
 |[],[],_,_=>trivial
 |_::_,_::_,h,H=>⟨H 0 _ _ rfl rfl,aC.mk (by simpa using h) λj l v r u=>H (j+1) l v (by simpa using r) (by simpa using u)⟩
theorem aC.drop {ls:List Leaf}{cs:List Value}(h:aC P V W st w ls cs)(n:Nat):aC P V W st w (ls.drop n) (cs.drop n) :=
 aC.mk (by simp[h.length]) λj l v r u=>h.at_ (n+j) l v (by simpa using r) (by simpa using u)
theorem aC.take {ls:List Leaf}{cs:List Value}(h:aC P V W st w ls cs)(n:Nat):aC P V W st w (ls.take n) (cs.take n) :=
 aC.mk (by simp[h.length]) λj l v u y=>by
  rw[B8]at u y;split at u
  ·rename_i r;rw[if_pos r]at y;exact h.at_ j l v u y
  ·grind
theorem aC.append {y z:List Leaf}{r H:List Value}(u:aC P V W st w y r)(I:aC P V W st w z H):aC P V W st w (y++z) (r++H):=by
 induction y generalizing r with
 |nil =>
  cases r with
  |nil=>simpa using I
  |cons=>simp[aC]at u
 |cons l M J =>
  cases r with
  |nil=>simp[aC]at u
  |cons v O=>exact⟨u.1,J u.2⟩
theorem aC.carry (r:∀ k,V.ro0 k->V.prot k)(u:cH V W W' st st' w w'):∀ {ls:List Leaf} {cs:List Value},aC P V W st w ls cs->aC P V W' st' w' ls cs
 |[],[],_=>trivial
 |_::_,_::_,h=>⟨⟨h.1.1.carry r u (λy=>absurd y h.1.2.1),h.1.2⟩,aC.carry r u h.2⟩
theorem eZ {G:Nat->Prop}{p:Bool}(u:∀ k,G k->gd V W p k):∀ {a:Ty} {x:a.den} {cs:List Value},Rd w G a x cs->aC P V W st w (cN p a x) cs
 |.int _,_,_,h=>by rw[show _=_ from h];exact⟨⟨rfl,id,rfl⟩,trivial⟩
 |.bool,_,_,h=>by rw[show _=_ from h];exact⟨⟨rfl,id,rfl⟩,trivial⟩
 |.str,_,_,h=>by rw[show _=_ from h];exact⟨⟨rfl,id,rfl⟩,trivial⟩
 |.unit,_,_,h=>by rw[show _=_ from h];trivial
 |.hdr,_,_,⟨A,r,e⟩=>by rw[e];exact⟨⟨⟨A,r,rfl⟩,id,rfl⟩,trivial⟩
 |.pair _ _,_,_,⟨J,M,e,z,y⟩=>by rw[e];exact (eZ u z).append (eZ u y)
 |.list m E e,H,_,h=>by
  obtain⟨A,r,rfl,y,I⟩:=h;exact⟨⟨Rd.mono u (⟨A,r,rfl,y,I⟩:Rd w _ (.list false E e) H _),id,rfl⟩,trivial⟩
theorem gQ (p:Bool):∀ (a:Ty) (x:a.den),(cN p a x).length=a.cells
 |.int _,_=>rfl
 |.bool,_=>rfl
 |.str,_=>rfl
 |.unit,_=>rfl
 |.hdr,_=>rfl
 |.pair a b,x=>by simp[cN,Ty.cells,gQ p a,gQ p b]
 |.list _ _ _,_=>rfl
theorem cM (p:Bool):∀ (a:Ty) (x:a.den),(aq p a x).length=a.cells
 |.int _,_=>rfl
 |.bool,_=>rfl
 |.str,_=>rfl
 |.unit,_=>rfl
 |.hdr,_=>rfl
 |.pair a b,x=>by simp[aq,Ty.cells,cM p a,cM p b]
 |.list _ _ _,_=>rfl
theorem iQ (t n:Nat):∀ (j:Nat) (ls:List Leaf),(bF t n j ls).length=ls.length
 |_,[]=>rfl
 |j,_::ls=>by simp[bF,iQ t n (j+1) ls]
theorem ol (t n:Nat):∀ (j:Nat) (ls:List Leaf) (i:Nat) (l:Leaf),ls[i]?=some l->(bF t n j ls)[i]?=some (lO t (j+i) n l)
 |j,r::ls,0,l,h=>by
  simp at h;subst h;simp[bF]
 |j,r::ls,i+1,l,h=>by
  have:=ol t n (j+1) ls i l (by simpa using h);simp only[bF]
  grind
theorem iD {a:Act}(h:ap P V W st a w)(r:Nat):aC P V W st w (bF r (st r).ver 0 (st r).ls) (W.cs r):=by
 refine aC.mk (by rw[iQ,h.len]) λj l v u y=>?_
 have M:j<(st r).ls.length:=by
  have:=(BS.1 u).1;simpa[iQ]using this
 have z:(st r).ls[j]?=some (st r).ls[j]:=BU M;have J:=ol r (st r).ver 0 (st r).ls j _ z;rw[J]at u;have H:=h.leaf r j _ v z y;have I:=h.one r v (List.mem_of_getElem? y);simp at u;subst u;generalize X:(st r).ls[j]=q at H;cases q with
 |own p O E e R=>exact⟨⟨BY _,λ_=>by simpa using y⟩,id,I⟩
 |_=>exact⟨H,id,I⟩
theorem sM {v:Value}{l:Leaf}(h:iz v=some l):aI P V W st w [] l v/\¬ ao l/\v.oneCell'=true:=by
 unfold iz at h;split at h <;> simp at h <;> subst h <;> exact⟨rfl,id,rfl⟩
theorem cW {a:Act}(h:ap P V W st a w)(x:Operand) :
  ∃ r,ei (au st x).1 (a.eval x) r/\aC P V W st w (au st x).2 r:=by
 cases x with
 |tmp t =>
  simp only[au];cases u:CK t GH with
  |false=>exact⟨[],rfl,trivial⟩
  |true=>exact⟨W.cs t,h.slots t (by simpa using u),iD h t⟩
 |const v =>
  simp only[au];cases y:iz v with
  |none=>exact⟨[],rfl,trivial⟩
  |some l=>exact⟨[v],rfl,⟨sM y,trivial⟩⟩
 |func f=>exact⟨[.func (.func f) #[] #[]],rfl,⟨⟨⟨rfl,λb z=>by simp at z⟩,id,rfl⟩,trivial⟩⟩
 |global g=>exact⟨[],rfl,trivial⟩
theorem br {a:Act}(h:ap P V W st a w)(x:Operand)(z:one st x≠.dead) :
  aI P V W st w [] (one st x) (a.eval x)/\¬ ao (one st x)/\(a.eval x).oneCell'=true/\(au st x).1=.one/\(au st x).2=[one st x]:=by
 obtain⟨I,y,r⟩:=cW h x;unfold one at z ⊢;split at z
 ·rename_i l H;simp only[H]at y r ⊢;have u:I=[a.eval x]:=y;subst u;exact⟨r.1.1,r.1.2.1,r.1.2.2,by simp,by simp⟩
 ·grind
theorem fe {r j n:Nat}{l:Leaf}(u:aD st (.al r j n)=l)(z:l≠.dead):(st r).ver=n/\(st r).ls[j]?=some l:=by
 simp only[aD]at u;cases y:BQ (st r).ver n with
 |false=>simp only[y]at u;exact absurd u.symm z
 |true =>
  simp only[y,cond_true]at u;refine⟨BR y,?_⟩;rw[CB]at u;cases H:(st r).ls[j]? with
  |none=>simp only[H]at u;exact absurd u.symm z
  |some I =>
   simp only[H,Option.getD_some]at u;cases I with
   |nal=>simp only[pG]at u;exact absurd u.symm z
   |_=>simp only[pG]at u;rw[u]
theorem iR {r j n:Nat}{p:Bool}{ks:List (Nat×Nat×Nat)}{ep:Nat}{u:Option (Nat×Nat×Nat)}{E:TypeId}{e:Ty}{xs:List e.den}:aD st (.al r j n)≠.nal p ks ep u E e xs:=by
 simp only[aD];cases BQ (st r).ver n with
 |false=>simp
 |true =>
  cases (st r).ls.getD j .dead <;> simp[pG]
theorem kk {a:Act}(h:ap P V W st a w){r j n:Nat}{p:Bool}{u:Option (Nat×Nat)}{E:TypeId}{e:Ty}{xs:List e.den}{v:Value}(J:aD st (.al r j n)=.own p u E e xs)
  (I:aI P V W st w [] (.al r j n) v):(W.cs r)[j]?=some v/\OwH w (gd V W p) u E e xs v (W.bs r j)/\(st r).ls[j]?=some (.own p u E e xs)/\(st r).ver=n:=by
 obtain⟨y,z⟩:=fe J (by simp);have H:=I.2 y;exact⟨H,h.leaf r j _ v z H,z,y⟩
theorem vM {ls:List Leaf}{j:Nat}(h:lr (ls.getD j .dead)=true):∃ l,ls[j]?=some l/\ao l:=by
 rw[CB]at h;cases r:ls[j]? with
 |none=>rw[r]at h;simp[lr]at h
 |some l =>
  rw[r]at h;refine⟨l,rfl,?_⟩;cases l <;> simp[lr]at h;trivial
theorem cD {ks:List (Nat×Nat×Nat)}{ep:Nat}(h:bq st ks ep=true):(st EPO).ver=ep/\(∀ k∈ks,(st k.1).ver=k.2.2)/\su st ks:=by
 simp only[bq,BT,List.all_eq_true]at h;exact⟨BR h.1,λk r=>BR (h.2 k r).1,λk r=>vM (h.2 k r).2⟩
theorem pM {p:Bool}{ks:List (Nat×Nat×Nat)}{ep:Nat}{r:Option (Nat×Nat×Nat)}{E:TypeId}{e:Ty}{xs:List e.den}{v:Value}(u:bq st ks ep=true)
 (y:aI P V W st w [] (.nal p ks ep r E e xs) v):sv V W w p ks r E e xs v:=y.2.2 (cD u).1 (cD u).2.1 (cD u).2.2
def bo (V:Env)(W:Wit)(p:Bool)(ks:List (Nat×Nat))(k:Nat):Prop:=gd V W p k\/∃ x∈ks,k∈W.bs x.1 x.2
theorem jK {E:TypeId}{e:Ty}{E':TypeId}{e':Ty}{xs:List e'.den}{r:List e.den}(h:lP E e E' e' xs=some r) :
  ∃ (y:E'=E) (u:e'=e),u ▸ xs=r:=by
 unfold lP at h
 grind
theorem uq {e e':Ty}{xs:List e'.den}{r:List e.den}(h:castSh e e' xs=some r):e'.sh=e.sh/\HEq xs r:=by
 unfold castSh at h
 grind
theorem Rd.castSh {G:Nat->Prop}{m m':Bool}{E E':TypeId}{e e':Ty}{xs:List e'.den}{y:List e.den}{cs:List Value}(h:castSh e e' xs=some y)(J:Rd w G (.list m E' e') xs cs):Rd w G (.list m' E e) y cs:=by
 obtain⟨I,M⟩:=uq h;have O:Rd w G (.list m E e) y cs:=by
  refine Rd.flags (a:=.list m E e') (x:=xs) (by simp only[Ty.sh,I]) M ?_;obtain⟨A,r,z,u,H⟩:=J;exact⟨A,r,z,u,H⟩
 obtain⟨A,r,z,u,H⟩:=O;exact⟨A,r,z,u,H⟩
theorem kl (st:St):∀ (r u:List Leaf),bw st (r++u)=bw st r++bw st u
 |[],_=>rfl
 |l::r,u=>by
  have:=kl st r u;cases l <;> simp[bw,this]
theorem sN (st:St):∀ (r u:List Leaf),b8 st (r++u)=b8 st r++b8 st u
 |[],_=>rfl
 |l::r,u=>by
  have:=sN st r u;cases l <;> simp[b8,this]
theorem kE {a:Act}(h:ap P V W st a w){m:Bool}{E:TypeId}{e:Ty}{l:Leaf}{v:Value}{p:Bool}{xs:List e.den}
  (hl:aI P V W st w [] l v) (a0:¬ ao l) (u:dl e (aD st l)=some (p,xs)):Rd w (bo V W p (bw st [l])) (.list m E e) xs [v]:=by
 have I:∀ (q:Leaf) (bs:List Nat) (S:Nat->Prop),aI P V W st w bs q v->dl e q=some (p,xs)->(∀ k,gd V W p k->S k)->(ao q->∀ k∈bs,S k) ->
   (∀ q' J ep z E' H M,q=.nal q' J ep z E' H M->bq st J ep=true/\∀ k∈J,∀ b∈W.bs k.1 k.2.1,S b)->Rd w S (.list m E e) xs [v]:=by
  intro q bs S X u hS hb hn;cases q with
  |ro q E' H Y =>
   simp only[dl,B7]at u;obtain⟨zs,Z,rfl,rfl⟩:=u;exact Rd.castSh Z (Rd.mono hS X)
  |nil =>
   obtain⟨rfl,rfl⟩:=u;rw[show v=_ from X];exact Rd.nil w _ m E e
  |own q hh E' H Y =>
   cases hh with
   |some _=>simp[dl]at u
   |none =>
    simp only[dl,B7]at u;obtain⟨zs,Z,rfl,rfl⟩:=u;refine Rd.castSh Z (Rd.mono (λk y=>?_) (OwH.rd (m:=false) (E':=E') X));exact y.elim (hS k) (hb trivial k)
  |nal q J ep z E' H Y =>
   simp only[dl,B7,Cq]at u;obtain⟨zs,Z,rfl,rfl⟩:=u;obtain⟨R,hn⟩:=hn _ _ _ _ _ _ _ rfl;have h1:sv V W w q J z E' H Y v:=X.2.2 (cD R).1 (cD R).2.1 (cD R).2.2;refine Rd.castSh Z (Rd.mono (λk y=>?_) h1.rd);rcases y with y|⟨x,hx,y⟩
   ·grind
   ·grind
  |_=>simp[dl]at u
 cases l with
 |al r j n =>
  by_cases hd:aD st (.al r j n)=.dead
  ·rw[hd]at u;simp[dl]at u
  ·obtain⟨h1,h2⟩:=fe rfl hd;have h3:=h.leaf r j _ v h2 (hl.2 h1);generalize X:aD st (.al r j n)=q at u h2 h3;refine I q (W.bs r j) _ h3 u (λk y=>.inl y) (λO k y=>.inr ⟨(r,j),?_,y⟩) ?_
   ·cases q <;> first|exact O.elim|simp[bw,X]
   ·rintro q' J ep z E' H M rfl;exact absurd X iR
 |own q hh E' H Y=>exact absurd trivial a0
 |nal q J ep z E' H Y =>
  simp only[aD]at u;cases R:bq st J ep with
  |false=>simp[R,dl]at u
  |true =>
   simp only[R]at u;refine I _ [] _ hl u (λk y=>.inl y) (λO=>O.elim) ?_;intro q' a6 a4 a2 a3 a5 M a1;cases a1;refine⟨R,λk y b hb=>.inr ⟨(k.1,k.2.1),?_,hb⟩⟩;simp only[bw,aD]
   grind
 |ro q E' H Y=>exact I _ [] _ hl u (λk y=>.inl y) (λO=>O.elim) (λ_ _ _ _ _ _ _ h=>by cases h)
 |nil=>exact I _ [] _ hl u (λk y=>.inl y) (λO=>O.elim) (λ_ _ _ _ _ _ _ h=>by cases h)
 |_=>simp[aD,dl]at u
theorem xa {a:Act}(h:ap P V W st a w){l:Leaf}{v:Value}{n:Nat}(X:aI P V W st w [] l v)(Y:¬ ao l)(u:gh (aD st l)=some n):Rd w (λ_=>False) .hdr n [v]:=by
 have H:∀ (q:Leaf) (bs:List Nat),aI P V W st w bs q v->gh q=some n->(∀ p J ep z E e O,q=.nal p J ep z E e O->bq st J ep=true)->Rd w (λ_=>False) .hdr n [v]:=by
  intro q bs M u hn;cases q with
  |ro p E e O =>
   simp only[gh,BX]at u;subst u;obtain⟨A,y,I,_⟩:=M;exact⟨A,y,I⟩
  |own p hh E e O =>
   simp only[gh,BX]at u;subst u;obtain⟨A,y,I,_⟩:=OwH.slice M;exact⟨A,y,by rw[I]⟩
  |nal p J ep z E e O =>
   simp only[gh,BX]at u;subst u;have R:=hn _ _ _ _ _ _ _ rfl;obtain⟨A,y,I,_⟩:=(M.2.2 (cD R).1 (cD R).2.1 (cD R).2.2:sv V W w p J z E e O v).rd;exact⟨A,y,I⟩
  |nil =>
   simp only[gh,BX]at u;subst u;exact⟨none,0,by rw[show v=_ from M]⟩
  |hdr m =>
   simp only[gh,BX]at u;subst u;obtain⟨A,y,I⟩:=M;exact⟨A,y,by rw[I]⟩
  |_=>simp[gh]at u
 cases l with
 |al r j m =>
  by_cases hd:aD st (.al r j m)=.dead
  ·rw[hd]at u;simp[gh]at u
  ·obtain⟨h1,h2⟩:=fe rfl hd;have h3:=h.leaf r j _ v h2 (X.2 h1);refine H _ _ h3 u λp J ep z E e O M=>absurd M iR
 |own q hh Z e' ys=>exact absurd trivial Y
 |nal q J ep z Z e' ys =>
  simp only[aD]at u;cases R:bq st J ep with
  |false=>simp[R,gh]at u
  |true =>
   grind
 |ro q Z e' ys=>exact H _ [] X u (λ_ _ _ _ _ _ _ h=>by cases h)
 |nil=>exact H _ [] X u (λ_ _ _ _ _ _ _ h=>by cases h)
 |hdr m=>exact H _ [] X u (λ_ _ _ _ _ _ _ h=>by cases h)
 |_=>simp[aD,gh]at u
theorem kF {a:Act}(h:ap P V W st a w):∀ (b:Ty) (ls:List Leaf) (cs:List Value) (p:Bool) (x:b.den) (r:List Leaf),aC P V W st w ls cs ->
  a7 st b ls=some (p,x,r)->∃ M R O,cs=M++R/\ls=O++r/\aC P V W st w O M/\aC P V W st w r R/\Rd w (bo V W p (bw st O)) b x M
 |.int k,ls,cs,p,x,r,H,u=>by
  simp only[a7]at u;split at u
  ·rename_i k' n ls;split at u
   ·rename_i I;obtain⟨rfl,rfl,rfl⟩:=u;cases cs with
    |nil=>exact H.elim
    |cons v cs=>exact⟨[v],cs,[_],rfl,rfl,⟨H.1,trivial⟩,H.2,by rw[show v=_ from H.1.1,I];rfl⟩
   ·grind
  ·grind
 |.bool,ls,cs,p,x,r,H,u=>by
  simp only[a7]at u;split at u
  ·simp at u;obtain⟨rfl,rfl,rfl⟩:=u;cases cs with
   |nil=>exact H.elim
   |cons v cs=>exact⟨[v],cs,[_],rfl,rfl,⟨H.1,trivial⟩,H.2,by rw[show v=_ from H.1.1];rfl⟩
  ·grind
 |.str,ls,cs,p,x,r,H,u=>by
  simp only[a7]at u;split at u
  ·simp at u;obtain⟨rfl,rfl,rfl⟩:=u;cases cs with
   |nil=>exact H.elim
   |cons v cs=>exact⟨[v],cs,[_],rfl,rfl,⟨H.1,trivial⟩,H.2,by rw[show v=_ from H.1.1];rfl⟩
  ·grind
 |.unit,ls,cs,p,x,r,H,u=>by
  obtain⟨rfl,_,rfl⟩:=u;exact⟨[],cs,[],rfl,rfl,trivial,H,rfl⟩
 |.hdr,ls,cs,p,x,r,H,u=>by
  simp only[a7]at u;split at u
  ·rename_i l J;split at u
   ·rename_i n hn;obtain⟨rfl,rfl,rfl⟩:=u;cases cs with
    |nil=>exact H.elim
    |cons v cs=>exact⟨[v],cs,[l],rfl,rfl,⟨H.1,trivial⟩,H.2,xa h H.1.1 H.1.2.1 hn⟩
   ·grind
  ·grind
 |.pair b c,ls,cs,p,x,r,H,u=>by
  simp only[a7]at u;split at u
  ·rename_i q y J hb;split at u
   ·rename_i q' z Y hc;simp at u;obtain⟨rfl,rfl,rfl⟩:=u;obtain⟨M,R,O,e1,e2,h1,h2,h3⟩:=kF h b ls cs q y J H hb;obtain⟨Z,c4,l2,e3,e4,h4,h5,h6⟩:=kF h c J R q' z Y h2 hc;refine⟨M++Z,c4,O++l2,by rw[e1,e3,CI],by rw[e2,e4,CI],h1.append h4,h5,M,Z,rfl,?_,?_⟩
    ·refine Rd.mono (λk I=>?_) h3;rcases I with I|⟨y,X,I⟩
     ·exact .inl (bU (by simp_all) (λ_ h=>h) k I)
     ·exact .inr ⟨y,by rw[kl];exact BW _ X,I⟩
    ·refine Rd.mono (λk I=>?_) h6;rcases I with I|⟨y,X,I⟩
     ·exact .inl (bU (by simp_all) (λ_ h=>h) k I)
     ·exact .inr ⟨y,by rw[kl];exact BV _ X,I⟩
   ·grind
  ·grind
 |.list m E e,ls,cs,p,x,r,H,u=>by
  simp only[a7]at u;split at u
  ·rename_i l J;split at u
   ·rename_i q ys ha;obtain⟨rfl,rfl,rfl⟩:=u;cases cs with
    |nil=>exact H.elim
    |cons v cs=>exact⟨[v],cs,[l],rfl,rfl,⟨H.1,trivial⟩,H.2,kE h H.1.1 H.1.2.1 ha⟩
   ·grind
  ·grind
theorem eD {a:Act}(h:ap P V W st a w){b:Ty}{ls:List Leaf}{cs:List Value}{p:Bool}{x:b.den}(z:aC P V W st w ls cs)
  (u:cR st b ls=some (p,x)):Rd w (bo V W p (bw st ls)) b x cs:=by
 unfold cR at u;split at u
 ·rename_i q y I;obtain⟨J,r,R,X,O,M,H,Y⟩:=kF h b ls cs _ _ _ z I;have:r=[]:=by
   cases r with
   |nil=>rfl
   |cons=>exact H.elim
  simp_all
 ·grind
end
section
variable {P:Program} {V:Env} {W W':Wit} {st st':St} {w w':World} {a:Act}
theorem bA (A B:Upd)(st:St):ac (A++B) st=ac A (ac B st):=by
 funext q;induction A with
 |nil=>rfl
 |cons x A u=>obtain⟨r,c⟩:=x;simp only[Cm,ac,u]
theorem aP (r:Nat)(c:bT)(U:Upd)(st:St):ac ((r,c)::U) st=ac [(r,c)] (ac U st):=bA [(r,c)] U st
theorem bk (r:Nat)(c:bT)(st:St):ac [(r,c)] st r=c:=by simp[ac]
theorem aH {r q:Nat}(h:q≠r)(c:bT)(st:St):ac [(r,c)] st q=st q:=by
 have:BQ q r=false:=by
  cases u:BQ q r with
  |false=>rfl
  |true=>exact absurd (BR u) h
 simp[ac,this]
theorem am (r q:Nat)(c:bT)(st:St):(q=r/\ac [(r,c)] st q=c)\/(q≠r/\ac [(r,c)] st q=st q):=by
 by_cases h:q=r
 ·subst h;exact .inl ⟨rfl,bk q c st⟩
 ·exact .inr ⟨h,aH h c st⟩
def cf (V:Env)(W:Wit)(st:St)(k:Nat):Prop :=
 W.nw k\/V.prot k\/(∃ b,live st b/\W.β b=k)\/∃ r j l,(st r).ls[j]?=some l/\ao l/\k∈W.bs r j
theorem ap.own_lt (h:ap P V W st a w){r j:Nat}{l:Leaf}(u:(st r).ls[j]?=some l)(z:ao l):∀ k∈W.bs r j,k<w.heap.size:=by
 have y:j<(W.cs r).length:=by rw[<- h.len];exact (BS.1 u).1
 have:=h.leaf r j l _ u (BU y);cases l <;> simp only[ao]at z;exact OwH.lt this
theorem ap.box_lt (h:ap P V W st a w){b:Nat}(r:live st b):W.β b<w.heap.size:=by
 rcases h.boxes b r.1 with ⟨u,_⟩|⟨_,E,y⟩
 ·exact absurd (u.symm.trans r.2) (by simp)
 ·grind
theorem ap.used_lt (h:ap P V W st a w):∀ k,cf V W st k->k<w.heap.size:=by
 intro k u;rcases u with u|u|⟨b,y,rfl⟩|⟨r,j,l,z,H,I⟩
 ·exact (h.nwlt k u).1
 ·exact CF u.1 h.size
 ·exact h.box_lt y
 ·exact h.own_lt z H k I
theorem ap.world (Y:ay V)(h:ap P V W st a w)(X:w.heap.size<=w'.heap.size)(O:w'.os=w.os)(Z:w'.tape=w.tape)(M:w'.output=w.output)
  (y:∀ k,cf V W st k->w'.heap[k]?=w.heap[k]?):ap P V W st a w':=by
 have H:cH V W W st st w w':=⟨λr=>⟨BY _,λ_=>rfl⟩,λb J=>⟨J,rfl⟩,λ_ h=>h,λk h=>y k (h.elim .inl (λh=>.inr (.inl h))),
  λ_ r j l u I _=>⟨⟨l,u,I⟩,rfl,λk z=>y k (.inr (.inr (.inr ⟨r,j,l,u,I,z⟩)))⟩⟩
 exact {
  nt:=h.nt,df:=h.df,slots:=h.slots,
  boxes:=λb J=>(h.boxes b J).imp id λ⟨u,E,I⟩=>⟨u,E,by rw[y _ (.inr (.inr (.inl ⟨b,⟨J,u⟩,rfl⟩)))];exact I⟩
  len:=h.len,one:=h.one,
  leaf:=λr j l v u I=>(h.leaf r j l v u I).carry Y.ro H (λM=>⟨rfl,λk z=>y k (.inr (.inr (.inr ⟨r,j,l,u,M,z⟩)))⟩)
  ownb:=h.ownb,sep:=h.sep,box:=h.box,inj:=h.inj,
  nwlt:=λk y=>⟨CF (h.nwlt k y).1 X,(h.nwlt k y).2⟩
  os:=O.trans h.os,tape:=Z.trans h.tape,output:=M.trans h.output,size:=B4 h.size X,
  keep:=λk R=>(y k (.inr (.inl R))).trans (h.keep k R)
  fixb:=h.fixb,fixt:=h.fixt }
theorem ap.below (u:ay V)(h:ap P V W st a w)(r:Below w.heap.size w w'):ap P V W st a w' :=
 h.world u r.size r.os r.tape r.output λk y=>r.block k (h.used_lt k y)
theorem ap.relabel (hV:ay V)(h:ap P V W st a w)(r:Nat)(c:bT)(nw':Nat->Prop)(a4:(st r).ver<=c.ver)(M:c.sh=(st r).sh)
    (Y:c.ls.length=(st r).ls.length) (a2:∀ k,W.nw k->nw' k) (X:∀ k,nw' k->k<w.heap.size/\¬ V.prot k)
    (a1:∀ (j:Nat) (l:Leaf) (v:Value),c.ls[j]?=some l->(W.cs r)[j]?=some v->aI P V { W with nw:=nw' } (ac [(r,c)] st) w (W.bs r j) l v)
    (a3:∀ (j:Nat) (l:Leaf),c.ls[j]?=some l->ao l->(st r).ls[j]?=some l)
    (I:∀ (q j:Nat) (l:Leaf),(ac [(r,c)] st q).ls[j]?=some l->ao l->∀ k∈W.bs q j,¬ nw' k)
    (J:∀ b,live st b->¬ nw' (W.β b)):ap P V { W with nw:=nw' } (ac [(r,c)] st) a w:=by
  have R:∀ b,live (ac [(r,c)] st) b<->live st b:=by
    intro b;rcases am r b c st with ⟨rfl,e⟩|⟨_,e⟩
    · simp[live,e,M]
    · simp[live,e]
  have u:∀ (q j:Nat) (l:Leaf),(ac [(r,c)] st q).ls[j]?=some l->ao l->(st q).ls[j]?=some l:=by
    intro q j l z y;rcases am r q c st with ⟨rfl,e⟩|⟨_,e⟩
    · grind
    · grind
  have O:cH V W { W with nw:=nw' } st (ac [(r,c)] st) w w :=
    ⟨λq=>by
      rcases am r q c st with ⟨rfl,e⟩|⟨_,e⟩
      · grind
      · rw[e];exact⟨BY _,λ_=>rfl⟩,
     λb H=>⟨(R b).2 H,rfl⟩,a2,λ_ _=>rfl,λ_ q j l z y h3=>⟨⟨l,u q j l z y,y⟩,rfl,λ_ _=>rfl⟩⟩
  exact {
    nt:=h.nt,df:=h.df,
    slots:=λt ht=>by
      rcases am r t c st with ⟨rfl,e⟩|⟨_,e⟩
      · rw[e,M];exact h.slots t ht
      · rw[e];exact h.slots t ht
    boxes:=λb H=>by
      rcases am r b c st with ⟨rfl,e⟩|⟨_,e⟩
      · rw[e,M]
        rcases h.boxes b H with ⟨z,y⟩|z
        · grind
        · grind
      · rw[e];exact h.boxes b H
    len:=λq=>by
      rcases am r q c st with ⟨rfl,e⟩|⟨_,e⟩
      · rw[e,Y];exact h.len q
      · rw[e];exact h.len q
    one:=h.one
    leaf:=λq j l v z y=>by
      rcases am r q c st with ⟨rfl,e⟩|⟨_,e⟩
      · grind
      · rw[e]at z
        exact (h.leaf q j l v z y).carry hV.ro O (λ_=>⟨rfl,λ_ _=>rfl⟩)
    ownb:=λq j l z y k Z=>⟨I q j l z y k Z,(h.ownb q j l (u q j l z y) y k Z).2.1,λb H=>(h.ownb q j l (u q j l z y) y k Z).2.2 b ((R b).1 H)⟩
    sep:=λq j l q' j' l' z y h3 h4=>h.sep q j l q' j' l' (u q j l z y) y (u q' j' l' h3 h4) h4
    box:=λb H=>⟨J b ((R b).1 H),(h.box b ((R b).1 H)).2⟩
    inj:=λb b' H a0=>h.inj b b' ((R b).1 H) ((R b').1 a0)
    nwlt:=X
    os:=h.os,tape:=h.tape,output:=h.output,size:=h.size,keep:=h.keep,
    fixb:=λx hx=>⟨(R _).2 (h.fixb x hx).1,(h.fixb x hx).2⟩,fixt:=h.fixt }
theorem aR {α:Type}(ls:List α)(j i:Nat)(x y:α)(h:(ls.set j x)[i]?=some y):(i=j/\y=x/\j<ls.length)\/(i≠j/\ls[i]?=some y):=by
 grind
theorem ap.kill1 (J:ay V)(h:ap P V W st a w)(r j:Nat):ap P V W (ac [(r,gi (st r) j)] st) a w:=by
 refine h.relabel J r _ W.nw (BY _) rfl (by simp[gi,aS]) (λ_ h=>h) h.nwlt ?_ ?_ ?_ λb z=>(h.box b z).1
 ·intro i l v u y;rcases aR _ _ _ _ _ u with ⟨_,rfl,_⟩|⟨H,u⟩
  ·trivial
  ·refine (h.leaf r i l v u y).carry J.ro ⟨λq=>?_,λb z=>?_,λ_ h=>h,λ_ _=>rfl,λ_ q Y R I M X=>?_⟩ (λ_=>⟨rfl,λ_ _=>rfl⟩)
   ·rcases am r q (gi (st r) j) st with ⟨rfl,e⟩|⟨_,e⟩
    ·rw[e];exact⟨BY _,λ_=>rfl⟩
    ·grind
   ·refine⟨⟨z.1,?_⟩,rfl⟩;rcases am r b (gi (st r) j) st with ⟨rfl,e⟩|⟨_,e⟩
    ·rw[e];exact z.2
    ·rw[e];exact z.2
   ·rcases am r q (gi (st r) j) st with ⟨rfl,e⟩|⟨_,e⟩
    ·rw[e]at I;rcases aR _ _ _ _ _ I with ⟨_,rfl,_⟩|⟨_,I⟩
     ·exact M.elim
     ·grind
    ·grind
 ·intro i l u y;rcases aR _ _ _ _ _ u with ⟨_,rfl,_⟩|⟨H,u⟩
  ·exact y.elim
  ·omega
 ·intro q i l u y;have:(st q).ls[i]?=some l:=by
   rcases am r q (gi (st r) j) st with ⟨rfl,e⟩|⟨_,e⟩
   ·rw[e]at u;rcases aR _ _ _ _ _ u with ⟨_,rfl,_⟩|⟨H,u⟩
    ·exact y.elim
    ·omega
   ·grind
  exact λk O=>(h.ownb q i l this y k O).1
theorem ap.frz1 (hV:ay V)(h:ap P V W st a w)(r j:Nat) :
  ap P V { W with nw:=λk=>W.nw k\/((∃ l,(st r).ls[j]?=some l/\ao l)/\k∈W.bs r j) } (ac [(r,f9 (st r) j)] st) a w:=by
 have O:∀ l,(st r).ls[j]?=some l->(st r).ls.getD j .dead=l:=λl hl=>by rw[CB,hl];rfl
 have u:∀ (i:Nat) (l:Leaf),(aS (st r).ls j (uV ((st r).ls.getD j .dead)))[i]?=some l->ao l->(st r).ls[i]?=some l/\i≠j:=by
  intro i l z y;rcases aR _ _ _ _ _ z with ⟨rfl,rfl,hj⟩|⟨Z,z⟩
  ·rw[O _ (BU hj)]at y;generalize (st r).ls[i]=l at y;cases l with
   |own p hh E e xs=>cases hh <;> exact y.elim
   |_=>exact y.elim
  ·grind
 have I:cH V W { W with nw:=λk=>W.nw k\/((∃ l,(st r).ls[j]?=some l/\ao l)/\k∈W.bs r j) } st (ac [(r,f9 (st r) j)] st) w w:=by
  refine⟨λq=>?_,λb X=>?_,λ_ h=>.inl h,λ_ _=>rfl,λ_ q j' Y M J h5=>?_⟩
  ·rcases am r q (f9 (st r) j) st with ⟨rfl,e⟩|⟨_,e⟩
   ·rw[e];exact⟨BY _,λ_=>rfl⟩
   ·grind
  ·refine⟨⟨X.1,?_⟩,rfl⟩;rcases am r b (f9 (st r) j) st with ⟨rfl,e⟩|⟨_,e⟩
   ·rw[e];exact X.2
   ·rw[e];exact X.2
  ·rcases am r q (f9 (st r) j) st with ⟨rfl,e⟩|⟨_,e⟩
   ·rw[e]at M;exact⟨⟨Y,(u j' Y M J).1,J⟩,rfl,λ_ _=>rfl⟩
   ·grind
 refine h.relabel hV r _ _ (BY _) rfl (by simp[f9,aS]) (λ_ h=>.inl h) ?_ ?_ (λi l z y=>(u i l z y).1) ?_ ?_
 ·rintro k (H|⟨⟨l,z,y⟩,H⟩)
  ·exact h.nwlt k H
  ·exact⟨h.own_lt z y k H,(h.ownb r j l z y k H).2.1⟩
 ·intro i l v z y;rcases aR _ _ _ _ _ z with ⟨rfl,rfl,hj⟩|⟨Z,z⟩
  ·have M:(st r).ls[i]?=some (st r).ls[i]:=BU hj;have J:=h.leaf r i _ v M y;rw[O _ M];generalize hq:(st r).ls[i]=q at M J;cases q with
   |own p hh E e xs =>
    cases hh with
    |some _=>trivial
    |none =>
     refine Rd.mono (λk H=>?_) (OwH.rd (m:=false) (E':=E) J);rcases H with H|H
     ·exact bU (W':={ W with nw:=_ }) (λh=>h) (λ_ h=>.inl h) k H
     ·exact .inl (.inr ⟨⟨_,M,trivial⟩,H⟩)
   |_=>exact J.carry hV.ro I (λho=>ho.elim)
  ·exact (h.leaf r i l v z y).carry hV.ro I (λ_=>⟨rfl,λ_ _=>rfl⟩)
 ·intro q i l z y k H;have M:(st q).ls[i]?=some l/\(q,i)≠(r,j):=by
   rcases am r q (f9 (st r) j) st with ⟨rfl,e⟩|⟨Z,e⟩
   ·rw[e]at z;have:=u i l z y
    simp_all
   ·grind
  rintro (R|⟨⟨Y,J,h5⟩,R⟩)
  ·exact (h.ownb q i l M.1 y k H).1 R
  ·obtain⟨rfl,rfl⟩:=h.sep q i l r j Y M.1 y J h5 k H R
   simp_all
 ·rintro b X (R|⟨⟨Y,J,h5⟩,R⟩)
  ·exact (h.box b X).1 R
  ·exact (h.ownb r j Y J h5 _ R).2.2 b X rfl
theorem lZ (H:ay V):∀ (ks:List (Nat×Nat)),ap P V W st a w->ap P V W (ac (aM st ks) st) a w /\
  (∀ (q i:Nat) (l:Leaf),(ac (aM st ks) st q).ls[i]?=some l->ao l->(st q).ls[i]?=some l/\(q,i)∉ks) /\
  (∀ q,(ac (aM st ks) st q).sh=(st q).sh/\(st q).ver<=(ac (aM st ks) st q).ver)
 |[],h=>⟨h,λ_ _ _ y _=>⟨y,by simp⟩,λ_=>⟨rfl,BY _⟩⟩
 |(r,j)::ks,h=>by
  obtain⟨y,O,I⟩:=lZ H ks h;have e:ac (aM st ((r,j)::ks)) st=ac [(r,gi (ac (aM st ks) st r) j)] (ac (aM st ks) st):=aP _ _ _ _;rw[e];refine⟨y.kill1 H r j,λq i l z J=>?_,λq=>?_⟩
  ·have M:(ac (aM st ks) st q).ls[i]?=some l/\(q,i)≠(r,j):=by
    rcases am r q (gi (ac (aM st ks) st r) j) (ac (aM st ks) st) with ⟨rfl,e⟩|⟨u,e⟩
    ·rw[e]at z;rcases aR _ _ _ _ _ z with ⟨_,rfl,_⟩|⟨u,z⟩
     ·exact J.elim
     ·grind
    ·grind
   simp_all
  ·rcases am r q (gi (ac (aM st ks) st r) j) (ac (aM st ks) st) with ⟨rfl,e⟩|⟨u,e⟩
   ·rw[e];exact⟨(I q).1,(I q).2⟩
   ·grind
def Wit.frz (W:Wit)(st:St)(ks:List (Nat×Nat)):Wit :=
 { W with nw:=λk=>W.nw k\/∃ x∈ks,(∃ l,(st x.1).ls[x.2]?=some l/\ao l)/\k∈W.bs x.1 x.2 }
theorem ap.nw_congr (h:ap P V W st a w){nw':Nat->Prop}(e:∀ k,W.nw k<->nw' k):ap P V { W with nw:=nw' } st a w:=by
 have:nw'=W.nw:=funext λk=>propext (e k).symm
 subst this;exact h
theorem lx (X:ay V):∀ (ks:List (Nat×Nat)),ap P V W st a w->ap P V (W.frz st ks) (ac (aE st ks) st) a w /\
  (∀ (q i:Nat) (l:Leaf),(ac (aE st ks) st q).ls[i]?=some l->ao l->(st q).ls[i]?=some l/\(q,i)∉ks) /\
  (∀ q,(ac (aE st ks) st q).sh=(st q).sh/\(st q).ver<=(ac (aE st ks) st q).ver)
 |[],h=>⟨h.nw_congr (λk=>by simp),λ_ _ _ I _=>⟨I,by simp⟩,λ_=>⟨rfl,BY _⟩⟩
 |(r,j)::ks,h=>by
  obtain⟨I,h2,Y⟩:=lx X ks h;have e:ac (aE st ((r,j)::ks)) st=ac [(r,f9 (ac (aE st ks) st r) j)] (ac (aE st ks) st):=aP _ _ _ _;rw[e];refine⟨?_,λq i l M R=>?_,λq=>?_⟩
  ·have h7:=I.frz1 X r j;have h8:=h7.nw_congr (nw':=(W.frz st ((r,j)::ks)).nw) (λk=>?_)
   ·exact h8
   ·simp only[Wit.frz];constructor
    ·rintro ((z|⟨x,O,z⟩)|⟨⟨l,u,H⟩,z⟩)
     ·grind
     ·grind
     ·exact .inr ⟨(r,j),Ce ..,⟨l,(h2 r j l u H).1,H⟩,z⟩
    ·rintro (z|⟨x,O,⟨l,u,H⟩,z⟩)
     ·grind
     ·rcases Cc.1 O with rfl|O
      ·by_cases J:(r,j)∈ks
       ·exact .inl (.inr ⟨(r,j),J,⟨l,u,H⟩,z⟩)
       ·refine .inr ⟨⟨l,?_,H⟩,z⟩;exact iN ks J u
      ·grind
  ·have h6:(ac (aE st ks) st q).ls[i]?=some l/\(q,i)≠(r,j):=by
    rcases am r q (f9 (ac (aE st ks) st r) j) (ac (aE st ks) st) with ⟨rfl,e⟩|⟨y,e⟩
    ·rw[e]at M;rcases aR _ _ _ _ _ M with ⟨rfl,rfl,hj⟩|⟨y,M⟩
     ·exfalso;generalize (ac (aE st ks) st q).ls.getD i .dead=l' at R;cases l' with
      |own p hh E e xs=>cases hh <;> exact R.elim
      |_=>exact R.elim
     ·grind
    ·grind
   simp_all
  ·rcases am r q (f9 (ac (aE st ks) st r) j) (ac (aE st ks) st) with ⟨rfl,e⟩|⟨y,e⟩
   ·rw[e];exact⟨(Y q).1,(Y q).2⟩
   ·grind
where
 iN:∀ (ks:List (Nat×Nat)) {r j:Nat} {l:Leaf},(r,j)∉ks->(st r).ls[j]?=some l->(ac (aE st ks) st r).ls[j]?=some l
  |[],_,_,_,_,u=>u
  |(q,i)::ks,r,j,l,Z,u=>by
   have I:=iN ks (λJ=>Z (CW _ J)) u;have e:ac (aE st ((q,i)::ks)) st=ac [(q,f9 (ac (aE st ks) st q) i)] (ac (aE st ks) st):=aP _ _ _ _;rw[e];rcases am q r (f9 (ac (aE st ks) st q) i) (ac (aE st ks) st) with ⟨rfl,e⟩|⟨y,e⟩
   ·rw[e];simp only[f9,aS]
    grind
   ·grind
theorem ap.put (hV:ay V)(h:ap P V W st a w)(d:Nat)(hd:d<V.nt)(a3:∀ x∈V.fixt,x.1≠d)(n:Nat)(sh:aG)(ls:List Leaf)(v:Value)
  (J:List Value) (I:Nat->List Nat) (hn:(st d).ver<n) (hs:ei sh v J) (hl:ls.length=J.length) (h1:∀ u∈J,u.oneCell'=true)
  (a2:∀ (j:Nat) (l:Leaf) (u:Value),ls[j]?=some l->J[j]?=some u->aI P V W st w (I j) l u)
  (a0:∀ (j:Nat) (l:Leaf),ls[j]?=some l->ao l->∀ k∈I j,¬ W.nw k/\¬ V.prot k/\(∀ b,live st b->W.β b≠k) /\
   ∀ (r1 j1:Nat) (l1:Leaf),r1≠d->(st r1).ls[j1]?=some l1->ao l1->k∉W.bs r1 j1)
  (a4:∀ (j j':Nat) (l l':Leaf),ls[j]?=some l->ao l->ls[j']?=some l'->ao l'->∀ k,k∈I j->k∈I j'->j=j') :
  ap P V { W with cs:=λr=>if r=d then J else W.cs r,bs:=λr j=>if r=d then I j else W.bs r j } (ac [(d,⟨n,sh,ls⟩)] st) (a.put (some d) v) w:=by
 have a6:d<B0:=CF hd hV.ntB;have X:∀ b,live (ac [(d,⟨n,sh,ls⟩)] st) b<->live st b:=by
  intro b;by_cases Z:B0<=b
  ·rw[live,live,aH (by omega)]
  ·simp[live,Z]
 have Y:cH V W { W with cs:=λr=>if r=d then J else W.cs r,bs:=λr j=>if r=d then I j else W.bs r j } st (ac [(d,⟨n,sh,ls⟩)] st) w w:=by
  refine⟨λq=>?_,λb Z=>⟨(X b).2 Z,rfl⟩,λ_ h=>h,λ_ _=>rfl,λ_ q j' l' M h4 h5=>?_⟩;rcases am d q ⟨n,sh,ls⟩ st with ⟨rfl,e⟩|⟨y,e⟩
  ·grind
  ·grind
  rcases am d q ⟨n,sh,ls⟩ st with ⟨rfl,e⟩|⟨y,e⟩
  ·grind
  ·grind
 have a1:∀ t,(a.put (some d) v).tmps.getD t undef=if t=d then v else a.tmps.getD t undef:=by
  intro t;by_cases ht:t=d
  ·subst ht;have:t<a.tmps.size:=by rw[h.nt];exact hd
   simp[Cu,this]
  ·simp only[Cu,if_neg ht];rw[CL,CL,Array.getElem?_setIfInBounds_ne (λe=>ht e.symm)]
 exact {
  nt:=by simp[Cu,h.nt],df:=by simp[Cu,h.df]
  slots:=λt ht=>by
   rw[a1];rcases am d t ⟨n,sh,ls⟩ st with ⟨rfl,e⟩|⟨y,e⟩
   ·grind
   ·rw[e];simpa[y]using h.slots t ht
  boxes:=λb Z=>by
   have:b≠d:=by omega
   rw[aH this];simpa[this]using h.boxes b Z
  len:=λq=>by
   rcases am d q ⟨n,sh,ls⟩ st with ⟨rfl,e⟩|⟨y,e⟩
   ·grind
   ·rw[e];simpa[y]using h.len q
  one:=λq u hu=>by
   by_cases hq:q=d
   ·grind
   ·simp only[hq]at hu;exact h.one q u hu
  leaf:=λq j l u H M=>by
   rcases am d q ⟨n,sh,ls⟩ st with ⟨rfl,e⟩|⟨y,e⟩
   ·rw[e]at H;simp at M;exact (a2 j l u H M).carry hV.ro Y (λ_=>⟨by simp,λ_ _=>rfl⟩)
   ·rw[e]at H;simp only[y]at M;exact (h.leaf q j l u H M).carry hV.ro Y (λ_=>⟨by simp[y],λ_ _=>rfl⟩)
  ownb:=λq j l H M k R=>by
   rcases am d q ⟨n,sh,ls⟩ st with ⟨rfl,e⟩|⟨y,e⟩
   ·grind
   ·rw[e]at H;simp only[y]at R;have:=h.ownb q j l H M k R
    grind
  sep:=λq j l q' j' l' H M h4 h5 k R z=>by
   rcases am d q ⟨n,sh,ls⟩ st with ⟨e0,e⟩|⟨y,e⟩ <;> rcases am d q' ⟨n,sh,ls⟩ st with ⟨e1,e'⟩|⟨O,e'⟩
   ·rw[e]at H;rw[e']at h4;simp only[e0]at R;simp only[e1]at z;exact⟨e0.trans e1.symm,a4 j j' l l' H M h4 h5 k R z⟩
   ·rw[e]at H;rw[e']at h4;simp only[e0]at R;simp only[O]at z;exact absurd z ((a0 j l H M k R).2.2.2 q' j' l' O h4 h5)
   ·rw[e]at H;rw[e']at h4;simp only[y]at R;simp only[e1]at z;exact absurd R ((a0 j' l' h4 h5 k z).2.2.2 q j l y H M)
   ·rw[e]at H;rw[e']at h4;simp only[y]at R;simp only[O]at z;exact h.sep q j l q' j' l' H M h4 h5 k R z
  box:=λb Z=>h.box b ((X b).1 Z)
  inj:=λb b' Z a5=>h.inj b b' ((X b).1 Z) ((X b').1 a5)
  nwlt:=h.nwlt
  os:=h.os,tape:=h.tape,output:=h.output,size:=h.size,keep:=h.keep
  fixb:=λx hx=>⟨(X _).2 (h.fixb x hx).1,(h.fixb x hx).2⟩
  fixt:=λx hx=>by rw[a1,if_neg (a3 x hx)];exact h.fixt x hx }
theorem ap.putLs (J:ay V)(h:ap P V W st a w)(d:Nat)(R:d<V.nt)(y:∀ x∈V.fixt,x.1≠d)(n:Nat)(sh:aG)(ls:List Leaf)(v:Value)
  (r:List Value) (I:(st d).ver<n) (X:ei sh v r) (H:aC P V W st w ls r) :
  Rel P V (ac [(d,⟨n,sh,ls⟩)] st) (a.put (some d) v) w :=
 ⟨_,h.put J d R y n sh ls v r (λ_=>[]) I X H.length H.one' (λj l u M O=>(H.at_ j l u M O).1) (λ_ _ _ _ k z=>by simp at z)
  (λ_ _ _ _ _ _ _ _ k z=>by simp at z)⟩
end
def zeroCells:Ty->List Value
 |.int k=>[.int k 0]
 |.bool=>[.bool false]
 |.str=>[.string CE]
 |.unit=>[]
 |.pair a b=>zeroCells a++zeroCells b
 |.hdr=>[.slice none 0 0]
 |.list _ _ _=>[.slice none 0 0]
def bQ (P:Program)(t:TypeId)(n:Nat):Prop:=(P.info? t).map (·.size)=some n
def d7 (P:Program)(t:TypeId)(z:Value):Prop:=(P.info? t).map (·.zero)=some (some z)
def EqAt (P:Program)(t:TypeId)(a:Ty):Prop:=a.flat=true->∀ (w:World) (G:Nat->Prop) (x y:a.den) (r u:List Value),Rd w G a x r->Rd w G a y u ->
 (Op.equal t (.agg r.toArray) (.agg u.toArray)).run P w=.ok (a.eqv x y) w
def oV (P:Program)(t:TypeId):TI->Prop
 |.int k=>P.underlying t=some (.int k)/\bQ P t 1/\d7 P t (.int k 0)
 |.bool=>P.underlying t=some .bool/\bQ P t 1/\d7 P t (.bool false)
 |.str=>P.underlying t=some .string/\bQ P t 1/\d7 P t (.string CE)
 |.slice E e r=>P.underlying t=some (.slice E)/\bQ P t 1/\d7 P t (.slice none 0 0)/\0<e.cells/\(0<r/\(e=.int .u8->P.underlying E=some (.int .u8))) /\
  ∃ i z,P.info? E=some i/\i.size=e.cells/\i.bytes=r/\i.zero=some z/\z.cells.toList=zeroCells e
 |.struct a u=>(∃ H,P.underlying t=some (.struct H)/\H.toList.mapM (λf=>(P.info? f.type).map λi=>(f.offset,i.size))=some (u.map λx=>(x.1,x.2.1)) /\
  ∀ (i off n:Nat) (agg:Bool),u[i]?=some (off,n,agg)->(agg=false->n=1)/\∃ f:Field,H[i]?=some f/\f.offset=off/\0<n/\off+n<=a.cells/\bQ P f.type n /\
   (P.underlying f.type).map (λd=>match d with|.struct _|.array _ _=>true|_=>false)=some agg) /\
  bQ P t a.cells/\d7 P t (.agg (zeroCells a).toArray)/\EqAt P t a/\P.eqGuardType P.depth t=false
 |.arr e n=>(∃ E,P.underlying t=some (.array n E)/\bQ P E e.cells/\(P.underlying E).map (λd=>match d with|.struct _|.array _ _=>true|_=>false)=some e.isAgg)/\0<e.cells /\
  bQ P t (n*e.cells)/\d7 P t (.agg ((CA n (zeroCells e)).flatten).toArray)
 |.ptr=>(∃ e,P.underlying t=some (.pointer e))/\bQ P t 1/\d7 P t (.pointer none)
 |.fn=>(∃ x y z,P.underlying t=some (.func x y z))/\bQ P t 1/\d7 P t .nilFunc
 |.none=>True
def TOk (P:Program)(T:TypeId->TI):Prop:=∀ t,oV P t (T t)
theorem sO {P:Program}:∀ {l:List (TypeId×TI)},(∀ x∈l,oV P x.1 x.2)->TOk P (gf l)
 |[],_,_=>trivial
 |(t,i)::l,h,u=>by
  simp only[gf];cases y:BQ t u with
  |false=>exact sO (λx r=>h x (CW _ r)) u
  |true =>
   simp_all
section
variable {P:Program} {V:Env} {W:Wit} {st:St} {w:World} {a:Act} {o:Oper}
def mP (P:Program)(V:Env)(o:Oper)(st:St)(U:Upd)(a:Act)(w:World):Prop :=
 ∀ (next:Act->World->Prop) (Q:Exit->Act->World->Prop),(∀ r u,Rel P V (ac U st) r u->next r u)->o.wp P a w next Q
theorem dY {v:Value}{w':World}{next:Act->World->Prop}{Q:Exit->Act->World->Prop}(h:(execOp a.eval o).run P w=.ok (.value v) w')(r:next (a.put o.dst v) w'):o.wp P a w next Q:=by
 unfold Oper.wp;rw[h];exact r
theorem pN {w':World}{next:Act->World->Prop}{Q:Exit->Act->World->Prop}(h:(execOp a.eval o).run P w=.ok .skip w')(r:next (a.put o.dst undef) w'):o.wp P a w next Q:=by
 unfold Oper.wp;rw[h];exact r
def bN (V:Env)(o:Oper):Prop:=∀ d,o.dst=some d->d<V.nt/\∀ x∈V.fixt,x.1≠d
theorem dZ (H:ay V)(h:ap P V W st a w){d:Nat}(y:o.dst=some d)(u:bN V o){v:Value}{sh:aG}{ls:List Leaf}{cs:List Value}
  (r:(execOp a.eval o).run P w=.ok (.value v) w) (J:ei sh v cs) (I:aC P V W st w ls cs):mP P V o st (cm st [] d sh ls) a w:=by
 intro next Q z;refine dY r ?_;rw[y];exact z _ _ (h.putLs H d (u d y).1 (u d y).2 _ sh ls v cs (CT _) J I)
theorem aO (z:ay V)(h:ap P V W st a w){d:Nat}(J:o.dst=some d)(y:bN V o){v:Value}{l:Leaf}
  (r:(execOp a.eval o).run P w=.ok (.value v) w) (H:aI P V W st w [] l v) (u:¬ ao l) (I:v.oneCell'=true):mP P V o st (cm st [] d .one [l]) a w :=
 dZ z h J y r (cs:=[v]) rfl ⟨⟨H,u,I⟩,trivial⟩
theorem ke {agg:Bool}{v:Value}{cs:List Value}(h:di agg v cs):ei (bg agg) v cs:=by
 cases agg <;> exact h
theorem bE (h:ap P V W st a w){x:Operand}{k:IntKind}{n:Int}(r:one st x=.int k n):a.eval x=.int k n:=by
 have:=(br h x (by rw[r];simp)).1;rw[r]at this;exact this
theorem im (h:ap P V W st a w){x:Operand}{b:Bool}(r:one st x=.bool b):a.eval x=.bool b:=by
 have:=(br h x (by rw[r];simp)).1;rw[r]at this;exact this
theorem iE (h:ap P V W st a w){x:Operand}{b:ByteArray}(r:one st x=.str b):a.eval x=.string b:=by
 have:=(br h x (by rw[r];simp)).1;rw[r]at this;exact this
theorem vN (r:BinOp)(k:IntKind)(t t':TypeId)(x y:Operand)(m n:Int)(l:Leaf)(u:sG r k m n=some l)(I:a.eval x=.int k m)(z:a.eval y=.int k n)(H:o.op=.binOp r t x y t') :
  ∃ v,(execOp a.eval o).run P w=.ok (.value v) w/\aI P V W st w [] l v/\¬ ao l/\v.oneCell'=true:=by
 cases r <;> simp only[sG,BX,reduceCtorEq]at u <;> subst u <;>
  exact⟨_,by simp[execOp,H,I,z,eqGuard,Go.binOp,Op.intArith,Op.intCmp],rfl,id,rfl⟩
theorem BO (z:ay V)(h:ap P V W st a w)(ks:List (Nat×Nat)):cH V W W st (ac (aM st ks) st) w w:=by
 obtain⟨_,H,y⟩:=lZ z ks h;exact⟨λq=>⟨(y q).2,λ_=>rfl⟩,λb r=>⟨⟨r.1,by rw[(y b).1];exact r.2⟩,rfl⟩,λ_ h=>h,λ_ _=>rfl,λ_ q j l I u _=>⟨⟨l,(H q j l I u).1,u⟩,rfl,λ_ _=>rfl⟩⟩
theorem step_frz (z:ay V)(h:ap P V W st a w)(ks:List (Nat×Nat)):cH V W (W.frz st ks) st (ac (aE st ks) st) w w:=by
 obtain⟨_,H,y⟩:=lx z ks h;exact⟨λq=>⟨(y q).2,λ_=>rfl⟩,λb r=>⟨⟨r.1,by rw[(y b).1];exact r.2⟩,rfl⟩,λ_ h=>.inl h,λ_ _=>rfl,λ_ q j l I u _=>⟨⟨l,(H q j l I u).1,u⟩,rfl,λ_ _=>rfl⟩⟩
def du (W:Wit)(ls:List Leaf)(j:Nat):List Nat :=
 match ls[j]? with
 |some (.al r i _)=>W.bs r i
 |_=>[]
theorem xb:∀ {ls:List Leaf} {j r i n:Nat},ls[j]?=some (.al r i n)->ao (aD st (.al r i n))->(r,i)∈bw st ls
 |l::ls,0,r,i,n,h,u=>by
  simp at h;subst h;generalize y:aD st (.al r i n)=q at u;cases q <;> first|exact u.elim|simp[bw,y]
 |l::ls,j+1,r,i,n,h,u=>by
  have:=xb (ls:=ls) (by simpa using h) u;cases l <;> simp[bw,this]
theorem mQ:∀ {ls:List Leaf} {j r i n:Nat},ls[j]?=some (.al r i n)->ao (aD st (.al r i n))->(r,i)∈b8 st ls
 |l::ls,0,r,i,n,h,u=>by
  simp at h;subst h;generalize y:aD st (.al r i n)=q at u;cases q <;> first|exact u.elim|simp[b8,y]
 |l::ls,j+1,r,i,n,h,u=>by
  have:=mQ (ls:=ls) (by simpa using h) u;cases l <;> simp[b8,this]
theorem om:∀ {ls:List Leaf} {j y r i n I:Nat},aZ (b8 st ls)=true->ls[j]?=some (.al r i n)->ao (aD st (.al r i n)) ->
    ls[y]?=some (.al r i I)->ao (aD st (.al r i I))->j=y
  |l::ls,j,y,r,i,n,I,u,M,Y,h3,O=>by
    have R:∀ (m:Nat) (k:Nat),l=.al r i m->ao (aD st (.al r i m))->(∃ z,ls[k]?=some (.al r i z)/\ao (aD st (.al r i z)))->False:=by
      rintro m k rfl J ⟨z,h5,h6⟩;have X:=mQ h5 h6;have Z:b8 st (.al r i m::ls)=(r,i)::b8 st ls:=by
        generalize hq:aD st (.al r i m)=q at J;cases q <;> first|exact J.elim|simp[b8,hq]
      rw[Z]at u;simp only[aZ,BT,CP]at u;have:=u.1;rw[CQ]at this;have:=this _ X;simp at this
    have H:aZ (b8 st ls)=true:=by
      cases l <;> first
        |exact u
        | (rename_i r' y v'
           simp only[b8]at u;split at u
           · simp only[Cm,aZ]at u
             grind
           · simpa using u)
    cases j with
    |zero =>
      cases y with
      |zero=>rfl
      |succ y =>
        grind
    |succ j =>
      cases y with
      |zero =>
        grind
      |succ y =>
        have:=om (ls:=ls) H (by simpa using M) Y (by simpa using h3) O;omega
theorem l6 (I:ay V)(h:ap P V W st a w){l:Leaf}{v:Value}(y:aI P V W st w [] l v)(u:¬ ao l) :
  (∃ r i n,l=.al r i n/\ao (aD st l)/\aI P V W st w (W.bs r i) (aD st l) v/\(st r).ls[i]?=some (aD st l)) \/
  (¬ ao (aD st l)/\aI P V W st w [] (aD st l) v):=by
 cases l with
 |al r j n =>
  by_cases H:aD st (.al r j n)=.dead
  ·rw[H];exact .inr ⟨id,trivial⟩
  ·obtain⟨J,M⟩:=fe rfl H;have X:=y.2 J;have Z:=h.leaf r j _ v M X;by_cases z:ao (aD st (.al r j n))
   ·grind
   ·exact .inr ⟨z,Z.carry I.ro (cH.refl V W st w) (λh=>absurd h z)⟩
 |own p hh E e Y=>exact absurd trivial u
 |nal p O ep R E e Y =>
  simp only[aD];cases bq st O ep with
  |false=>exact .inr ⟨id,trivial⟩
  |true=>exact .inr ⟨id,y⟩
 |_=>exact .inr ⟨id,y⟩
end
section
variable {P:Program} {V:Env} {W:Wit} {st:St} {w w':World} {a:Act} {o:Oper} {ls:List Leaf} {cs:List Value}
theorem iF {st st':St}(h:∀ q,(st' q).sh=(st q).sh)(b:Nat):live st' b<->live st b:=by simp[live,h]
def aB (st:St)(x:Nat×Nat):Prop:=∃ l,(st x.1).ls[x.2]?=some l/\ao l
def aY (W:Wit)(ks:List (Nat×Nat)):List Nat:=ks.flatMap λx=>W.bs x.1 x.2
theorem dK (W:Wit)(a b:List (Nat×Nat)):aY W (a++b)=aY W a++aY W b:=List.flatMap_append
theorem gq {W:Wit}{ks:List (Nat×Nat)}{k:Nat}:k∈aY W ks<->∃ x∈ks,k∈W.bs x.1 x.2:=List.mem_flatMap
theorem km {W:Wit}{p:Bool}{ks:List (Nat×Nat)}(r:∀ x∈ks,aB st x):∀ k,bo V W p ks k->gd V (W.frz st ks) p k:=by
 rintro k (u|⟨x,y,u⟩)
 ·exact bU (W':=W.frz st ks) (λh=>h) (λ_ h=>Or.inl h) k u
 ·exact .inl (.inr ⟨x,y,r x y,u⟩)
theorem nQ {a b:List (Nat×Nat)}(h:dF a b=true):∀ x∈a,x∉b:=by
 intro x u r;simp only[dF,CP,CQ]at h;have:=h x u;simp only[Cl,CQ]at this;have:=this x r;simp[iA]at this
theorem fJ (hV:ay V){W:Wit}{a:Act}{w:World}(h:ap P V W st a w){frz kill:List (Nat×Nat)}(X:dF frz kill=true)(O:∀ x∈kill,aB st x) :
  ap P V (W.frz st frz) (ac (aM (ac (aE st frz) st) kill++aE st frz) st) a w /\
  (∀ (q i:Nat) (l:Leaf),(ac (aM (ac (aE st frz) st) kill++aE st frz) st q).ls[i]?=some l->ao l->(st q).ls[i]?=some l/\(q,i)∉frz/\(q,i)∉kill) /\
  (∀ q,(ac (aM (ac (aE st frz) st) kill++aE st frz) st q).sh=(st q).sh/\(st q).ver<=(ac (aM (ac (aE st frz) st) kill++aE st frz) st q).ver) /\
  (∀ k∈aY W kill,¬ (W.frz st frz).nw k/\¬ V.prot k/\k<w.heap.size/\(∀ b,live (ac (aM (ac (aE st frz) st) kill++aE st frz) st) b->W.β b≠k) /\
   ∀ (I i:Nat) (l:Leaf),(ac (aM (ac (aE st frz) st) kill++aE st frz) st I).ls[i]?=some l->ao l->k∉W.bs I i):=by
 obtain⟨h1,h2,h3⟩:=lx hV frz h;obtain⟨h4,h5,h6⟩:=lZ hV kill h1;rw[<- bA]at h4 h5 h6;have H:∀ q,(ac (aM (ac (aE st frz) st) kill++aE st frz) st q).sh=(st q).sh:=λq=>(h6 q).1.trans (h3 q).1
 have u:∀ (q i:Nat) (l:Leaf),(ac (aM (ac (aE st frz) st) kill++aE st frz) st q).ls[i]?=some l->ao l->(st q).ls[i]?=some l/\(q,i)∉frz/\(q,i)∉kill:=by
  simp_all
 refine⟨h4,u,λq=>⟨H q,B4 (h3 q).2 (h6 q).2⟩,λk z=>?_⟩;obtain⟨x,hx,z⟩:=gq.1 z;obtain⟨l,M,r⟩:=O x hx;have h7:=h.ownb x.1 x.2 l M r k z;refine⟨?_,h7.2.1,h.own_lt M r k z,λb hb=>h7.2.2 b ((iF H b).1 hb),λI i l1 h8 h9 R=>?_⟩
 ·rintro (hn|⟨y,hy,⟨l2,a0,J⟩,Z⟩)
  ·grind
  ·obtain⟨e1,e2⟩:=h.sep y.1 y.2 l2 x.1 x.2 l a0 J M r k Z z;exact nQ X y hy (by rw[show y=x from Prod.ext e1 e2];exact hx)
 ·obtain⟨Y,_,a1⟩:=u I i l1 h8 h9;obtain⟨e1,e2⟩:=h.sep x.1 x.2 l I i l1 M r Y h9 k z R
  simp_all
theorem zU (z:ay V)(h:ap P V W st a w)(frz kill:List (Nat×Nat)):cH V W (W.frz st frz) st (ac (aM (ac (aE st frz) st) kill++aE st frz) st) w w:=by
 obtain⟨M,O,I⟩:=lx z frz h;obtain⟨_,H,u⟩:=lZ z kill M;rw[<- bA]at H u;exact⟨λq=>⟨B4 (I q).2 (u q).2,λ_=>rfl⟩,λb y=>⟨⟨y.1,by rw[(u b).1,(I b).1];exact y.2⟩,rfl⟩,λ_ h=>.inl h,λ_ _=>rfl,
  λ_ q j l J r _=>⟨⟨l,(O q j l (H q j l J r).1 r).1,r⟩,rfl,λ_ _=>rfl⟩⟩
theorem sP:∀ {ls:List Leaf} {j:Nat} {p:Bool} {ks:List (Nat×Nat×Nat)} {ep:Nat} {E:TypeId} {e:Ty} {xs:List e.den},ls[j]?=some (.nal p ks ep none E e xs)->bq st ks ep=true->∀ k∈ks,(k.1,k.2.1)∈dA st ls
 |l::ls,0,p,ks,ep,E,e,xs,h,y,k,u=>by
  simp at h;subst h;simp only[dA,aD]
  grind
 |l::ls,j+1,p,ks,ep,E,e,xs,h,y,k,u=>by
  have:=sP (ls:=ls) (by simpa using h) y k u;cases l with
  |nal O I H r J M z=>cases r <;> simp[dA,this]
  |_=>simp[dA,this]
theorem sQ {ls:List Leaf}(h:ii st ls=true):aZ (b8 st ls)=true/\dF (dA st ls) (b8 st ls)=true:=by
 simpa[ii]using h
theorem oo (y:aC P V W st w ls cs){x:Nat×Nat}(u:x∈b8 st ls):aB st x:=by
 induction ls generalizing cs with
 |nil=>simp[b8]at u
 |cons l ls z =>
  cases cs with
  |nil=>exact y.elim
  |cons v cs =>
   cases l with
   |al r j n =>
    simp only[b8,B6]at u;rcases u with u|u
    ·split at u
     ·rename_i p J E e I H;simp at u;subst u;exact⟨_,(fe H (by simp)).2,trivial⟩
     ·grind
    ·exact z y.2 u
   |_=>exact z y.2 u
theorem AV {l:Leaf}(h:ao (gn st l)):ao (aD st l)/\gn st l=aD st l:=by
 unfold gn at h ⊢;split at h
 ·exact h.elim
 ·exact⟨h,rfl⟩
theorem oW (hV:ay V)(h:ap P V W st a w){ls:List Leaf}{cs:List Value}(hl:aC P V W st w ls cs)(a5:ii st ls=true) :
    ap P V (W.frz st (dA st ls)) (ac (mvU st ls) st) a w/\(dJ st ls).length=cs.length /\
    (∀ (j:Nat) (l:Leaf) (u:Value),(dJ st ls)[j]?=some l->cs[j]?=some u->aI P V (W.frz st (dA st ls)) (ac (mvU st ls) st) w (du W ls j) l u) /\
    (∀ (j:Nat) (l:Leaf),(dJ st ls)[j]?=some l->ao l->∀ k∈du W ls j,¬ (W.frz st (dA st ls)).nw k/\¬ V.prot k/\k<w.heap.size /\
      (∀ b,live (ac (mvU st ls) st) b->W.β b≠k) /\
      ∀ (r1 j1:Nat) (l1:Leaf),(ac (mvU st ls) st r1).ls[j1]?=some l1->ao l1->k∉W.bs r1 j1) /\
    (∀ (j j':Nat) (l l':Leaf),(dJ st ls)[j]?=some l->ao l->(dJ st ls)[j']?=some l'->ao l'->∀ k,k∈du W ls j->k∈du W ls j'->j=j'):=by
  obtain⟨hd,b1⟩:=sQ a5;obtain⟨h1,h2,h3,a9⟩:=fJ hV h b1 (λx hx=>oo hl hx);have J:=zU hV h (dA st ls) (b8 st ls);show ap P V (W.frz st (dA st ls)) (ac (aM (ac (aE st (dA st ls)) st) (b8 st ls)++aE st (dA st ls)) st) a w/\_;have R:∀ (j:Nat) (l:Leaf),(dJ st ls)[j]?=some l->∃ z u,ls[j]?=some z/\cs[j]?=some u/\gn st z=l/\aI P V W st w [] z u/\¬ ao z:=by
    intro j l M;simp only[dJ,Ch,B7]at M;obtain⟨z,H,h5⟩:=M;have ad:j<cs.length:=by rw[<- hl.length];exact (BS.1 H).1
    have O:=BU ad;have h7:=hl.at_ j z _ H O
    simp_all
  have y:∀ (j:Nat) (l:Leaf),(dJ st ls)[j]?=some l->ao l->∃ r i n,ls[j]?=some (.al r i n)/\ao (aD st (.al r i n))/\(st r).ls[i]?=some l:=by
    intro j l M ho;obtain⟨z,u,H,h5,rfl,O,h7⟩:=R j l M;obtain⟨Y,e0⟩:=AV ho;rcases l6 hV h O h7 with ⟨r,i,n,rfl,h8,_,h9⟩|⟨h8,_⟩
    · grind
    · grind
  refine⟨h1,by simp[dJ,hl.length],λj l u M hu=>?_,λj l M ho k I=>?_,λj j' l l' M ho b0 Y k I a1=>?_⟩
  · obtain ⟨z, u', H, h5, rfl, O, h7⟩ := R j l M
    obtain rfl:u=u':=Option.some.inj (hu.symm.trans h5);have Z:gn st z=aD st z->aI P V (W.frz st (dA st ls)) (ac (mvU st ls) st) w (du W ls j) (gn st z) u:=by
      intro e0;rw[e0];rcases l6 hV h O h7 with ⟨r,i,n,rfl,h8,h9,_⟩|⟨h8,h9⟩
      · have:du W ls j=W.bs r i:=by simp[du,H]
        rw[this];exact h9.carry hV.ro J (λ_=>⟨rfl,λ_ _=>rfl⟩)
      · exact h9.carry hV.ro J (λh=>absurd h h8)
    by_cases X:∃ p ks ep E e xs,aD st z=.nal p ks ep none E e xs
    · obtain⟨p,ks,ep,E,e,xs,X⟩:=X
      have e0:gn st z=.ro p E e xs:=by unfold gn;rw[X]
      rw[e0];have a2:z=.nal p ks ep none E e xs/\bq st ks ep=true:=by
        cases z with
        |al r i n=>exact absurd X iR
        |nal p' b2 a3 b3 E' e' b4 =>
          simp only[aD]at X;cases hv:bq st b2 a3 with
          |false=>simp[hv]at X
          |true =>
            simp_all
        |_=>simp[aD]at X
      obtain⟨rfl,hv⟩:=a2;refine Rd.mono (λk I=>?_) (pM hv O).rd;rcases I with I|⟨x,hx,I⟩
      · exact bU (W':=W.frz st (dA st ls)) (λh=>h) (λ_ h=>Or.inl h) k I
      · exact .inl (.inr ⟨(x.1,x.2.1),sP H hv x hx,(cD hv).2.2 x hx,I⟩)
    · refine Z ?_
      unfold gn
      grind
  · obtain⟨r,i,n,H,h5,O⟩:=y j l M ho
    have e:du W ls j=W.bs r i:=by simp[du,H]
    rw[e]at I;exact a9 k (gq.2 ⟨(r,i),mQ H h5,I⟩)
  · obtain⟨r,i,n,H,h5,O⟩:=y j l M ho
    obtain⟨r',i',n',a0,a6,a4⟩:=y j' l' b0 Y;have e:du W ls j=W.bs r i:=by simp[du,H]
    have e':du W ls j'=W.bs r' i':=by simp[du,a0]
    rw[e]at I;rw[e']at a1;obtain⟨rfl,rfl⟩:=h.sep r i l r' i' l' O ho a4 Y k I a1;exact om hd H h5 a0 a6
theorem zJ (u:ay V)(h:ap P V W st a w)(y:aC P V W st w ls cs)(r:ii st ls=true):∀ q,(ac (mvU st ls) st q).sh=(st q).sh/\(st q).ver<=(ac (mvU st ls) st q).ver :=
 (fJ u h (sQ r).2 (λ_ z=>oo y z)).2.2.1
theorem ap.putMoved (J:ay V)(h:ap P V W st a w){ls:List Leaf}{cs:List Value}(M:aC P V W st w ls cs)(Z:ii st ls=true)
  (d:Nat) (I:d<V.nt) (r:∀ x∈V.fixt,x.1≠d) {sh:aG} {v:Value} (hs:ei sh v cs) :
  Rel P V (ac (cm st (mvU st ls) d sh (dJ st ls)) st) (a.put (some d) v) w:=by
 obtain⟨O,Y,h3,u,h5⟩:=oW J h M Z;exact⟨_,O.put J d I r _ sh (dJ st ls) v cs (du W ls) (CT _) hs Y M.one' h3
  (λj l H y k z=>⟨(u j l H y k z).1,(u j l H y k z).2.1,(u j l H y k z).2.2.2.1,λR j1 X _=>(u j l H y k z).2.2.2.2 R j1 X⟩) h5⟩
theorem ap.setBoxG (hV:ay V)(h:ap P V W st a w)(b:Nat)(hb:B0<=b)(n:Nat)(ls:List Leaf)(a3:List Value)(X:Nat->List Nat)(g:Nat)(E:TypeId)
    (hn:(st b).ver<n) (hg:(live st b/\W.β b=g)\/(¬ live st b/\¬ cf V W st g/\∀ (j:Nat) (l:Leaf),ls[j]?=some l->ao l->∀ k∈X j,k≠g)) (bb:w'.heap[g]?=some (.cells a3.toArray E (0,0)))
    (b0:∀ k,cf V W st k->k≠g->w'.heap[k]?=w.heap[k]?) (a9:∀ (j:Nat) (l:Leaf),ls[j]?=some l->ao l->∀ k∈X j,k≠g->w'.heap[k]?=w.heap[k]?) (b5:w.heap.size<=w'.heap.size) (b9:w'.os=w.os) (ht:w'.tape=w.tape) (ho:w'.output=w.output)
    (hl:ls.length=a3.length) (h1:∀ u∈a3,u.oneCell'=true)
    (b1:∀ (j:Nat) (l:Leaf) (u:Value),ls[j]?=some l->a3[j]?=some u->aI P V W st w (X j) l u)
    (ad:∀ (j:Nat) (l:Leaf),ls[j]?=some l->ao l->∀ k∈X j,¬ W.nw k/\¬ V.prot k/\(∀ b,live st b->W.β b≠k) /\
      ∀ (r1 j1:Nat) (l1:Leaf),r1≠b->(st r1).ls[j1]?=some l1->ao l1->k∉W.bs r1 j1)
    (b4:∀ (j j':Nat) (l l':Leaf),ls[j]?=some l->ao l->ls[j']?=some l'->ao l'->∀ k,k∈X j->k∈X j'->j=j') :
    ap P V { W with β:=λr=>if r=b then g else W.β r,cs:=λr=>if r=b then a3 else W.cs r,bs:=λr j=>if r=b then X j else W.bs r j }
      (ac [(b,⟨n,.agg,ls⟩)] st) a w':=by
  have Y:¬ W.nw g/\¬ V.prot g/\(∀ q,q≠b->live st q->W.β q≠g)/\∀ (r1 j1:Nat) (l1:Leaf),(st r1).ls[j1]?=some l1->ao l1->g∉W.bs r1 j1:=by
    rcases hg with ⟨a1,rfl⟩|⟨a1,hg⟩
    · exact⟨(h.box b a1).1,(h.box b a1).2,λq hq b6 e=>hq (h.inj q b b6 a1 e),λr1 j1 l1 y M H=>(h.ownb r1 j1 l1 y M _ H).2.2 b a1 rfl⟩
    · have hu:=hg.1
      simp only[cf,not_or,not_exists,not_and]at hu
      grind
  have b3:∀ (j:Nat) (l:Leaf),ls[j]?=some l->ao l->∀ k∈X j,k≠g:=by
    grind
  have I:∀ q,live (ac [(b,⟨n,.agg,ls⟩)] st) q<->(q=b\/live st q):=by
    intro q;rcases am b q ⟨n,.agg,ls⟩ st with ⟨e0,e⟩|⟨z,e⟩
    · subst e0
      simp[live,e,hb]
    · simp[live,e,z]
  have J:∀ k,cf V W st k->k≠g->w'.heap[k]?=w.heap[k]?:=b0;have a5:cH V W { W with β:=λr=>if r=b then g else W.β r,cs:=λr=>if r=b then a3 else W.cs r,bs:=λr j=>if r=b then X j else W.bs r j } st (ac [(b,⟨n,.agg,ls⟩)] st) w w':=by
    refine⟨λq=>?_,λq hq=>⟨(I q).2 (.inr hq),?_⟩,λ_ h=>h,λk H=>J k (H.elim .inl (λh=>.inr (.inl h))) ?_,λ_ q j l y M Z=>?_⟩
    · rcases am b q ⟨n,.agg,ls⟩ st with ⟨rfl,e⟩|⟨z,e⟩
      · grind
      · grind
    · grind
    · grind
    · rcases am b q ⟨n,.agg,ls⟩ st with ⟨rfl,e⟩|⟨z,e⟩
      · grind
      · rw[e]at y
        refine⟨⟨l,y,M⟩,by simp[z],λk H=>J k (.inr (.inr (.inr ⟨q,j,l,y,M,H⟩))) ?_⟩
        grind
  exact {
    nt:=h.nt,df:=h.df
    slots:=λt ba=>by
      have : t ≠ b := by have : GH <= B0 := by decide
                         omega
      rw[aH this];simpa[this]using h.slots t ba
    boxes:=λq hq=>by
      rcases am b q ⟨n,.agg,ls⟩ st with ⟨rfl,e⟩|⟨z,e⟩
      · grind
      · rw[e]
        refine (h.boxes q hq).imp id λ⟨y,E',M⟩=>⟨y,E',?_⟩
        simp only[z,if_false];rw[J _ (.inr (.inr (.inl ⟨q,⟨hq,y⟩,rfl⟩))) (Y.2.2.1 q z ⟨hq,y⟩)];exact M
    len:=λq=>by
      rcases am b q ⟨n,.agg,ls⟩ st with ⟨rfl,e⟩|⟨z,e⟩
      · rw[e];simpa using hl
      · rw[e];simpa[z]using h.len q
    one:=λq u hu=>by
      by_cases hq:q=b
      · grind
      · simp only[hq]at hu;exact h.one q u hu
    leaf:=λq j l u y M=>by
      rcases am b q ⟨n,.agg,ls⟩ st with ⟨rfl,e⟩|⟨z,e⟩
      · rw[e]at y
        simp only at M;exact (b1 j l u y M).carry hV.ro a5 (λho=>⟨by simp,λk H=>a9 j l y ho k H (b3 j l y ho k H)⟩)
      · rw[e]at y
        simp only[z]at M;refine (h.leaf q j l u y M).carry hV.ro a5 (λho=>⟨by simp[z],λk H=>J k (.inr (.inr (.inr ⟨q,j,l,y,ho,H⟩))) ?_⟩);rintro rfl;exact Y.2.2.2 q j l y ho H
    ownb:=λq j l y M k H=>by
      rcases am b q ⟨n,.agg,ls⟩ st with ⟨rfl,e⟩|⟨z,e⟩
      · rw[e]at y
        simp only[if_true]at H;have Z:=ad j l y M k H;refine⟨Z.1,Z.2.1,λp hp=>?_⟩;by_cases a0:p=q
        · simp only[a0,if_true];exact λe=>b3 j l y M k H e.symm
        · simp only[a0,if_false];exact Z.2.2.1 p (((I p).1 hp).resolve_left a0)
      · rw[e]at y
        simp only[z,if_false]at H;have Z:=h.ownb q j l y M k H;refine⟨Z.1,Z.2.1,λp hp=>?_⟩;by_cases a0:p=b
        · simp only[a0,if_true];rintro rfl;exact Y.2.2.2 q j l y M H
        · simp only[a0,if_false];exact Z.2.2 p (((I p).1 hp).resolve_left a0)
    sep:=λq j l q' j' l' y M Z h5 k H a2=>by
      rcases am b q ⟨n,.agg,ls⟩ st with ⟨e0,e⟩|⟨z,e⟩ <;> rcases am b q' ⟨n,.agg,ls⟩ st with ⟨e1,e'⟩|⟨a4,e'⟩
      · rw[e]at y;rw[e']at Z
        simp only[e0,if_true]at H;simp only[e1,if_true]at a2;exact⟨e0.trans e1.symm,b4 j j' l l' y M Z h5 k H a2⟩
      · rw[e]at y;rw[e']at Z
        simp only[e0,if_true]at H;simp only[a4,if_false]at a2;exact absurd a2 ((ad j l y M k H).2.2.2 q' j' l' a4 Z h5)
      · rw[e]at y;rw[e']at Z
        simp only[z,if_false]at H;simp only[e1,if_true]at a2
        grind
      · rw[e]at y;rw[e']at Z
        simp only[z]at H;simp only[a4,if_false]at a2;exact h.sep q j l q' j' l' y M Z h5 k H a2
    box:=λq hq=>by
      by_cases O:q=b
      · simp only[O,if_true];exact⟨Y.1,Y.2.1⟩
      · simp only[O,if_false];exact h.box q (((I q).1 hq).resolve_left O)
    inj:=λq q' hq b2 e=>by
      by_cases O:q=b <;> by_cases R:q'=b
      · omega
      · simp only[O,if_true,R,if_false]at e
        exact absurd e.symm (Y.2.2.1 q' R (((I q').1 b2).resolve_left R))
      · simp only[O,if_false,R,if_true]at e
        exact absurd e (Y.2.2.1 q O (((I q).1 hq).resolve_left O))
      · simp only[O,if_false,R,if_false]at e
        exact h.inj q q' (((I q).1 hq).resolve_left O) (((I q').1 b2).resolve_left R) e
    nwlt:=λk H=>⟨CF (h.nwlt k H).1 b5,(h.nwlt k H).2⟩
    os:=b9.trans h.os,tape:=ht.trans h.tape,output:=ho.trans h.output,size:=B4 h.size b5
    keep:=λk hp=>by
      rw[J k (.inr (.inl hp)) (by rintro rfl;exact Y.2.1 hp)];exact h.keep k hp
    fixb:=λx hx=>by
      obtain⟨y,M⟩:=h.fixb x hx;refine⟨(I _).2 (.inr y),?_⟩;by_cases a6:x.1=b
      · simp only[a6,if_true]
        rcases hg with ⟨_,e⟩|⟨a1,_⟩
        · rw[<- e,<- a6];exact M
        · exact absurd (a6 ▸ y) a1
      · simpa only[a6,if_false]using M
    fixt:=h.fixt }
theorem ap.setBox (hV:ay V)(h:ap P V W st a w)(b:Nat)(hb:B0<=b)(n:Nat)(ls:List Leaf)(H:List Value)(z:Nat->List Nat)(g:Nat)(E:TypeId)
  (hn:(st b).ver<n) (hg:(live st b/\W.β b=g)\/(¬ live st b/\w.heap.size<=g)) (Y:w'.heap[g]?=some (.cells H.toArray E (0,0)))
  (I:∀ k,k<w.heap.size->k≠g->w'.heap[k]?=w.heap[k]?) (a1:w.heap.size<=w'.heap.size) (a0:w'.os=w.os) (ht:w'.tape=w.tape) (ho:w'.output=w.output)
  (hl:ls.length=H.length) (h1:∀ u∈H,u.oneCell'=true)
  (X:∀ (j:Nat) (l:Leaf) (u:Value),ls[j]?=some l->H[j]?=some u->aI P V W st w (z j) l u)
  (y:∀ (j:Nat) (l:Leaf),ls[j]?=some l->ao l->∀ k∈z j,¬ W.nw k/\¬ V.prot k/\k<w.heap.size/\(∀ b,live st b->W.β b≠k) /\
   ∀ (r1 j1:Nat) (l1:Leaf),r1≠b->(st r1).ls[j1]?=some l1->ao l1->k∉W.bs r1 j1)
  (Z:∀ (j j':Nat) (l l':Leaf),ls[j]?=some l->ao l->ls[j']?=some l'->ao l'->∀ k,k∈z j->k∈z j'->j=j') :
  ap P V { W with β:=λr=>if r=b then g else W.β r,cs:=λr=>if r=b then H else W.cs r,bs:=λr j=>if r=b then z j else W.bs r j }
   (ac [(b,⟨n,.agg,ls⟩)] st) a w' :=
 h.setBoxG hV b hb n ls H z g E hn (hg.imp id λ⟨h2,h3⟩=>⟨h2,λhu=>by have:=h.used_lt g hu;omega,λj l M O k J=>by have:=(y j l M O k J).2.2.1;omega⟩) Y
  (λk J R=>I k (h.used_lt k J) R) (λj l M O k J R=>I k (y j l M O k J).2.2.1 R) a1 a0 ht ho hl h1 X
  (λj l M O k J=>⟨(y j l M O k J).1,(y j l M O k J).2.1,(y j l M O k J).2.2.2.1,(y j l M O k J).2.2.2.2⟩) Z
theorem eo (y:aC P V W st w ls cs){x:Nat×Nat}(u:x∈bw st ls):aB st x:=by
 induction ls generalizing cs with
 |nil=>simp[bw]at u
 |cons l ls H =>
  cases cs with
  |nil=>exact y.elim
  |cons v cs =>
   cases l with
   |al r j n =>
    simp only[bw,B6]at u;rcases u with u|u
    ·split at u
     ·rename_i p X E e R z;simp at u;subst u;exact⟨_,(fe z (by simp)).2,trivial⟩
     ·grind
    ·exact H y.2 u
   |nal p M ep O E e R =>
    simp only[bw,B6]at u;rcases u with u|u
    ·split at u
     ·rename_i z;simp only[aD]at z;cases I:bq st M ep with
      |false=>simp[I]at z
      |true =>
       obtain⟨k,J,rfl⟩:=List.mem_map.1 u;exact (cD I).2.2 k J
     ·grind
    ·exact H y.2 u
   |_=>exact H y.2 u
theorem BP (z:aC P V W st w ls cs){ks:List (Nat×Nat)}(u:∀ x∈bw st ls,x∈ks)(p:Bool):∀ k,bo V W p (bw st ls) k->gd V (W.frz st ks) p k:=by
 intro k r;rcases r with r|⟨x,y,r⟩
 ·exact bU (W':=W.frz st ks) (λh=>h) (λ_ h=>Or.inl h) k r
 ·exact .inl (.inr ⟨x,u x y,eo z y,r⟩)
end
section
variable {P:Program} {V:Env} {Γ:List Ctr} {T:TypeId->TI} {st:St} {o:Oper} {R:Type} {κ:Upd->Option R} {r:R}
def bW (P:Program)(V:Env)(o:Oper)(st:St)(κ:Upd->Option R)(r:R):Prop :=
 ∃ U,κ U=some r/\∀ W a w,ap P V W st a w->mP P V o st U a w
theorem yt (H:ay V)(y:bN V o){x:Operand}(u:o.op=.move x)(h:act Γ T o st κ=some r):bW P V o st κ r:=by
 simp only[act,wrU,u]at h;split at h
 ·rename_i d M;refine⟨_,h,λW a w z=>?_⟩;obtain⟨O,J,I⟩:=cW z x;exact dZ H z M y (by simp[execOp,u]) J I
 ·grind
theorem vO (M:ay V)(y:bN V o){x:Operand}(z:o.op=.assign x)(h:act Γ T o st κ=some r):bW P V o st κ r:=by
 simp only[act,z]at h;split at h
 ·rename_i d H;cases u:ii st (au st x).2 with
  |false=>simp[u]at h
  |true =>
   simp only[u]at h;refine⟨_,h,λW a w I=>?_⟩;obtain⟨Y,X,O⟩:=cW I x;intro next Q J;refine dY (v:=a.eval x) (w':=w) (by simp[execOp,z]) ?_;rw[H];exact J _ _ (I.putMoved M O u d (y d H).1 (y d H).2 X)
 ·grind
theorem yu (X:ay V)(H:bN V o){c x y:Operand}(z:o.op=.pick c x y)(h:act Γ T o st κ=some r):bW P V o st κ r:=by
 simp only[act,wrU,z]at h;split at h
 ·rename_i t O;cases t with
  |true =>
   split at h
   ·rename_i d M;refine⟨_,h,λW a w u=>?_⟩;obtain⟨Y,J,I⟩:=cW u x;exact dZ X u M H (v:=a.eval x) (by simp[execOp,z,im u O,asBool]) J I
   ·grind
  |false =>
   split at h
   ·rename_i d M;refine⟨_,h,λW a w u=>?_⟩;obtain⟨Y,J,I⟩:=cW u y;exact dZ X u M H (v:=a.eval y) (by simp[execOp,z,im u O,asBool]) J I
   ·grind
 ·grind
theorem sR (hV:ay V)(Z:bN V o){x:Operand}(X:o.op=.nilCheck x)(h:act Γ T o st κ=some r):bW P V o st κ r:=by
 simp only[act,wrU,X]at h;have H:∀ {l:Leaf} {d:Nat},one st x=l->l≠.dead->(∀ W a w,ap P V W st a w->aI P V W st w [] l (a.eval x)->∃ ad,a.eval x=.pointer (some ad))->o.dst=some d ->
   ∀ W a w,ap P V W st a w->mP P V o st (cm st [] d .one [l]) a w:=by
  intro l d z a0 hp I W a w M;obtain⟨Y,h2,h3,_⟩:=br M x (by rw[z];exact a0);rw[z]at Y h2;obtain⟨ad,O⟩:=hp W a w M Y;exact aO hV M I Z (v:=a.eval x) (by simp[execOp,X,O]) Y h2 h3
 split at h
 ·split at h
  ·rename_i z _ d I;exact⟨_,h,H z (by simp) (λW a w M u=>by obtain⟨g,o',c,O,_⟩:=u;exact⟨_,O⟩) I⟩
  ·grind
 ·split at h
  ·rename_i z _ d I;exact⟨_,h,H z (by simp) (λW a w M u=>⟨_,u.2.2⟩) I⟩
  ·grind
 ·rename_i r' j v i sz off z;cases J:BQ (st r').ver v with
  |false=>simp[J]at h
  |true =>
   simp only[J]at h;split at h
   ·rename_i d I;refine⟨_,h,H z (by simp) (λW a w M u=>?_) I⟩;obtain⟨g,a2,a1,_,_,O⟩:=u.2 (BR J)
    simp_all
   ·grind
 ·split at h
  ·rename_i z _ d I;exact⟨_,h,H z (by simp) (λW a w M u=>by obtain⟨b,ob,g,o',c,O,_⟩:=u;exact⟨_,O⟩) I⟩
  ·grind
 ·rename_i p ks ep b y off z;cases J:bq st ks ep with
  |false=>simp[J]at h
  |true =>
   simp only[J]at h;split at h
   ·rename_i d I;refine⟨_,h,H z (by simp) (λW a w M u=>?_) I⟩;obtain⟨g,o',c,O,_⟩:=(u.2.2 (cD J).1 (cD J).2.1 (cD J).2.2:NpOk V W w p ks b y off _).rd
    simp_all
   ·grind
 ·grind
theorem yw (J:ay V)(z:bN V o){M:UnOp}{t:TypeId}{x:Operand}(u:o.op=.unOp M t x)(h:act Γ T o st κ=some r):bW P V o st κ r:=by
 simp only[act,wrU,u]at h;split at h
 ·rename_i b H;split at h
  ·rename_i d I;exact⟨_,h,λW a w y=>aO J y I z (v:=.bool (!b)) (by simp[execOp,u,im y H,Op.unary]) rfl id rfl⟩
  ·grind
 ·rename_i k n H;split at h
  ·rename_i d I;exact⟨_,h,λW a w y=>aO J y I z (v:=.int k (k.wrap (0-n))) (by simp[execOp,u,bE y H,Op.unary,Op.intArith]) rfl id rfl⟩
  ·grind
 ·grind
theorem ur (hV:ay V)(O:bN V o){x:Operand}{i:Nat}(H:o.op=.extract x i)(h:act Γ T o st κ=some r):bW P V o st κ r:=by
 simp only[act,wrU,H]at h;split at h
 ·rename_i u ls he;split at h
  ·rename_i agg n hp;split at h
   ·rename_i d hd;refine⟨_,h,λW a w hr=>?_⟩;obtain⟨y,hs,hl⟩:=cW hr x;rw[he]at hs hl;obtain⟨z,hv,M⟩:=hs;have Y:∀ (u:List (Bool×Nat)) (z y:List Value) (i:Nat) (off:Nat),pL u z y->u[i]?=some (agg,n) ->
      ∃ v,z[i]?=some v/\di agg v ((y.drop ((u.take i).foldl (λa b=>a+b.2) off-off)).take n)/\off<=(u.take i).foldl (λa b=>a+b.2) off:=by
     intro u;induction u with
     |nil=>intro z y i off _ hi;simp at hi
     |cons p u ih =>
      rintro z y i off ⟨v,J,c,X,rfl,rfl,hc,a0,M⟩ hi;cases i with
      |zero =>
       simp_all
      |succ i =>
       obtain⟨v',I,Z,h3⟩:=ih J X i (off+p.2) M (by simpa using hi);refine⟨v',by simpa using I,?_,by simp;omega⟩;simp;have e:(u.take i).foldl (λa b=>a+b.2) (off+p.2)-off=c.length+((u.take i).foldl (λa b=>a+b.2) (off+p.2)-(off+p.2)):=by omega
       rw[e,<- Cp,List.drop_left];exact Z
    obtain⟨v,I,Z,_⟩:=Y u z y i 0 M hp;refine dZ hV hr hd O (v:=v) ?_ (ke Z) ((hl.drop _).take n);simp[execOp,H,hv,Instr.extract,I]
   ·grind
  ·grind
 ·grind
theorem uY {W:Wit}{a:Act}{w:World}(J:ap P V W st a w):∀ (xs:List Operand) (u l:List Nat),
  xs.foldl (λ (u:Option (List Nat)) x=>u.bind λl=>match one st x with|.bp b 0=>some (l++[b])|_=>none) (some u)=some l ->
  ∃ y,l=u++y/\xs.map a.eval=y.map (λb=>Value.pointer (some ⟨W.β b,0,none⟩))/\∀ b∈y,B0<=b/\(st b).sh=.agg
 |[],u,l,h=>⟨[],by simpa using h.symm,rfl,by simp⟩
 |x::xs,u,l,h=>by
  simp at h;have H:∀ (xs:List Operand),xs.foldl (λ (u:Option (List Nat)) x=>u.bind λl=>match one st x with|.bp b 0=>some (l++[b])|_=>none) none=none:=by
   intro xs;induction xs with
   |nil=>rfl
   |cons x xs Y=>simpa using Y
  split at h
  ·rename_i b I;obtain⟨y,O,X,Z⟩:=uY J xs (u++[b]) l h;have z:=(br J x (by rw[I];simp)).1;rw[I]at z;refine⟨b::y,by simp[O],?_,?_⟩
   ·simp only[Cr,X];rw[show a.eval x=_ from z.2.2]
   ·intro q M;rcases Cc.1 M with rfl|M
    ·exact⟨z.1,z.2.1⟩
    ·grind
  ·grind
theorem sS (I:ay V)(z:bN V o){fn:Fn}{first caps:Array Operand}(u:o.op=.makeFunc fn first caps)(h:act Γ T o st κ=some r):bW P V o st κ r:=by
 cases fn with
 |func f =>
  simp only[act,wrU,u]at h;cases y:BQ first.size 0 with
  |false=>simp[y]at h
  |true =>
   simp only[y]at h;split at h
   ·rename_i l O;split at h
    ·rename_i d Y;refine⟨_,h,λW a w H=>?_⟩;obtain⟨l',J,X,Z⟩:=uY H caps.toList [] l O;subst J;have M:first=#[]:=Array.eq_empty_of_size_eq_zero (BR y)
     refine aO I H Y z (v:=.func (.func f) #[] (l.map λb=>Value.pointer (some ⟨W.β b,0,none⟩)).toArray) ?_ ⟨rfl,Z⟩ id rfl;rw[<- X];simp[execOp,u,Instr.makeFunc,M,<- CU]
    ·grind
   ·grind
 |_=>simp[act,u]at h
theorem gr {α:Type}{xs:List α}{i:Int}{x:α}(h:idx xs i=some x):0<=i/\i<xs.length/\xs[i.toNat]?=some x:=by
 unfold idx at h
 grind
end
section
variable {P:Program} {V:Env} {Γ:List Ctr} {T:TypeId->TI} {st:St} {o:Oper} {R:Type} {κ:Upd->Option R} {r:R}
theorem xc {W:Wit}{a:Act}{w:World}(I:ap P V W st a w){x:Operand}{b:Ty}{p:Bool}{u:b.den}(z:(au st x).1=.agg)(J:cR st b (au st x).2=some (p,u)) :
  ∃ y G,a.eval x=.agg y.toArray/\Rd w G b u y:=by
 obtain⟨y,H,M⟩:=cW I x;rw[z]at H;exact⟨y,_,H,eD I M J⟩
theorem ly {t:TypeId}(y:P.underlying t=some .bool)(b u:Bool)(w:World):(Op.equal t (.bool b) (.bool u)).run P w=.ok (b==u) w:=by
 have e:Op.maxDepth=9999+1:=rfl;unfold Op.equal;rw[e];generalize 9999=m;unfold Op.equalIn;rw[B9,run_underlying y];rfl
theorem xd (Z:ay V)(hT:TOk P T)(J:bN V o){op:BinOp}{t t':TypeId}{x y:Operand}(H:o.op=.binOp op t x y t')(h:act Γ T o st κ=some r):bW P V o st κ r:=by
  simp only[act,wrU,H]at h;split at h
  · rename_i k m k' n X O
    cases op
    case shl =>
      simp only at h;cases Y:decide (n<0) with
      |true=>simp[Y]at h
      |false =>
        simp only[Y,cond_false]at h;split at h
        · rename_i d M
          refine⟨_,h,λW a w z=>aO Z z M J (v:=.int k (k.wrap (m*2 ^ (min n.toNat k.bits)))) ?_ rfl id rfl⟩;have:¬ n<0:=of_decide_eq_false Y;simp[execOp,H,bE z X,bE z O,eqGuard,Go.binOp,Op.shift,this]
        · cases h
    case shr =>
      simp only at h;cases Y:decide (n<0) with
      |true=>simp[Y]at h
      |false =>
        simp only[Y,cond_false]at h;split at h
        · rename_i d M
          refine⟨_,h,λW a w z=>aO Z z M J (v:=.int k (m.fdiv (2 ^ (min n.toNat k.bits)))) ?_ rfl id rfl⟩;have:¬ n<0:=of_decide_eq_false Y;simp[execOp,H,bE z X,bE z O,eqGuard,Go.binOp,Op.shift,this]
        · cases h
    case quo =>
      simp only at h;cases Y:decide (n=0) with
      |true=>simp[Y]at h
      |false =>
        simp only[Y,cond_false]at h;cases I:decide (k=k') with
        |false=>simp[I]at h
        |true =>
          simp only[I,cond_true]at h;have I:=of_decide_eq_true I;subst I;split at h
          · rename_i d M
            refine⟨_,h,λW a w z=>aO Z z M J (v:=.int k (k.wrap (m.tdiv n))) ?_ rfl id rfl⟩;have:¬ n=0:=of_decide_eq_false Y;simp[execOp,H,bE z X,bE z O,eqGuard,Go.binOp,Op.intDiv,this]
          · cases h
    case rem =>
      simp only at h;cases Y:decide (n=0) with
      |true=>simp[Y]at h
      |false =>
        simp only[Y,cond_false]at h;cases I:decide (k=k') with
        |false=>simp[I]at h
        |true =>
          simp only[I,cond_true]at h;have I:=of_decide_eq_true I;subst I;split at h
          · rename_i d M
            refine⟨_,h,λW a w z=>aO Z z M J (v:=.int k (m.tmod n)) ?_ rfl id rfl⟩;have:¬ n=0:=of_decide_eq_false Y;simp[execOp,H,bE z X,bE z O,eqGuard,Go.binOp,Op.intDiv,this]
          · cases h
    case and =>
      simp only at h;cases I:decide (k=k') with
      |false=>simp[I]at h
      |true =>
        simp only[I,cond_true]at h;have I:=of_decide_eq_true I;subst I;split at h
        · rename_i d M
          refine⟨_,h,λW a w z=>aO Z z M J (v:=.int k (k.wrap ((BitVec.ofInt k.bits m &&& BitVec.ofInt k.bits n).toNat))) ?_ rfl id rfl⟩;simp[execOp,H,bE z X,bE z O,eqGuard,Go.binOp,Op.intBits]
        · cases h
    case xor =>
      simp only at h;cases I:decide (k=k') with
      |false=>simp[I]at h
      |true =>
        simp only[I,cond_true]at h;have I:=of_decide_eq_true I;subst I;split at h
        · rename_i d M
          refine⟨_,h,λW a w z=>aO Z z M J (v:=.int k (k.wrap ((BitVec.ofInt k.bits m ^^^ BitVec.ofInt k.bits n).toNat))) ?_ rfl id rfl⟩;simp[execOp,H,bE z X,bE z O,eqGuard,Go.binOp,Op.intBits]
        · cases h
    all_goals
      simp only at h;cases I:decide (k=k') with
      |false=>simp[I]at h
      |true =>
        simp only[I,cond_true]at h;have I:=of_decide_eq_true I;subst I;split at h
        · rename_i l hl
          split at h
          · rename_i d M
            refine⟨_,h,λW a w z=>?_⟩;obtain⟨v,h1,h2,h3,h4⟩:=vN (P:=P) (V:=V) (W:=W) (st:=st) (w:=w) _ k t t' x y m n l hl (bE z X) (bE z O) H;exact aO Z z M J h1 h2 h3 h4
          · cases h
        · cases h
  · rename_i b b' X O
    cases ht:T t with
    |bool =>
      have h1:=hT t;rw[ht]at h1;simp only[ht]at h;cases op <;> simp only at h <;> first
        |cases h;done
        | (split at h
           · rename_i d M
             first
               |exact⟨_,h,λW a w z=>aO Z z M J (v:=.bool (b==b')) (by simp[execOp,H,im z X,im z O,eqGuard,Go.binOp,ly h1.1]) rfl id rfl⟩
               |exact⟨_,h,λW a w z=>aO Z z M J (v:=.bool (b != b')) (by simp[execOp,H,im z X,im z O,eqGuard,Go.binOp,ly h1.1,bne]) rfl id rfl⟩
           · cases h)
    |_=>simp[ht]at h
  · rename_i b b' X O
    cases op <;> simp only at h <;> first
      |cases h;done
      | (cases a0 : decide (b.size + b'.size <= 9223372036854775807) with
         |false=>rw[a0]at h;cases h
         |true =>
           rw[a0]at h;simp only[cond_true]at h;split at h
           · rename_i d M
             refine⟨_,h,λW a w z=>aO Z z M J (v:=.string (b++b')) ?_ rfl id rfl⟩;have:(b.size:Int)+b'.size<=9223372036854775807:=by have:=of_decide_eq_true a0;omega
             simp[execOp,H,iE z X,iE z O,eqGuard,Go.binOp,Op.stringOp,this]
           · cases h)
      | (split at h
         · rename_i d M
           first
             |exact⟨_,h,λW a w z=>aO Z z M J (v:=.bool (b.toList==b'.toList)) (by simp[execOp,H,iE z X,iE z O,eqGuard,Go.binOp,Op.stringOp]) rfl id rfl⟩
             |exact⟨_,h,λW a w z=>aO Z z M J (v:=.bool (b.toList != b'.toList)) (by simp[execOp,H,iE z X,iE z O,eqGuard,Go.binOp,Op.stringOp,bne]) rfl id rfl⟩
         · cases h)
  · cases ht:T t with
    |struct b b1 =>
      have h1:=hT t;rw[ht]at h1;obtain⟨_,_,_,a4,a2⟩:=h1;simp only[ht]at h;cases hf:b.flat&&decide ((au st x).1=.agg)&&decide ((au st y).1=.agg) with
      |false=>simp[hf]at h
      |true =>
        simp only[hf,cond_true]at h;simp only[BT,decide_eq_true_eq]at hf;obtain⟨⟨hf,a3⟩,a5⟩:=hf;split at h
        · rename_i p u q v b0 a6
          have a1:∀ (W:Wit) (a:Act) (w:World),ap P V W st a w->(Op.equal t (a.eval x) (a.eval y)).run P w=.ok (b.eqv u v) w/\(∃ cx cy:Array Value,a.eval x=.agg cx/\a.eval y=.agg cy):=by
            intro W a w z;obtain⟨cx,G,X,a9⟩:=xc z a3 b0;obtain⟨cy,G',O,ad⟩:=xc z a5 a6;rw[X,O];exact⟨a4 hf w G u v cx cy a9 (Rd.flat hf ad),_,_,rfl,rfl⟩
          cases op <;> simp only at h <;> first
            |cases h;done
            | (split at h
               · rename_i d M
                 first
                   | (refine ⟨_, h, λW a w z => aO Z z M J (v := .bool (b.eqv u v)) ?_ rfl id rfl⟩
                      obtain⟨h2,cx,cy,X,O⟩:=a1 W a w z;rw[X,O]at h2;simp[execOp,H,X,O,eqGuard,Go.binOp,a2,h2];done)
                   | (refine ⟨_, h, λW a w z => aO Z z M J (v := .bool (!b.eqv u v)) ?_ rfl id rfl⟩
                      obtain⟨h2,cx,cy,X,O⟩:=a1 W a w z;rw[X,O]at h2;simp[execOp,H,X,O,eqGuard,Go.binOp,a2,h2])
               · cases h)
        · cases h
    |_=>simp[ht]at h
end
section
variable {P:Program} {V:Env} {Γ:List Ctr} {T:TypeId->TI} {st:St} {o:Oper} {R:Type} {κ:Upd->Option R} {r:R}
theorem e8 (g off n:Nat):(⟨g,off,none⟩:Addr).add n=⟨g,off+n,none⟩:=by
 unfold Addr.add;split <;> simp_all
theorem dx {t:TypeId}{n:Nat}(h:bQ P t n)(w:World):(sizeOf t).run P w=.ok n w:=by
 unfold bQ at h;cases u:P.info? t with
 |none=>simp[u]at h
 |some i =>
  simp[u]at h;simp[sizeOf,typeInfo,u,h]
theorem gu {t:TypeId}{z:Value}(h:d7 P t z)(w:World):(zeroValue t).run P w=.ok z w:=by
 unfold d7 at h;cases u:P.info? t with
 |none=>simp[u]at h
 |some i =>
  simp[u]at h;simp[zeroValue,typeInfo,u,h]
theorem sg (hV:ay V)(hT:TOk P T)(M:bN V o){t:TypeId}{x:Operand}{f:Nat}(a0:o.op=.fieldAddr t x f)(h:act Γ T o st κ=some r):bW P V o st κ r:=by
 simp only[act,wrU,a0]at h;cases ht:T t with
 |struct b a5 =>
  simp only[ht]at h;split at h
  ·rename_i off n agg hf;have h1:=hT t;rw[ht]at h1;obtain⟨⟨fs,hu,_,a3⟩,_⟩:=h1;obtain⟨_,fd,h2,h3,h4,h5,h6,_⟩:=a3 f off n agg hf;have J:∀ (a:Act) (w:World) (g O:Nat),a.eval x=.pointer (some ⟨g,O,none⟩)->(execOp a.eval o).run P w=.ok (.value (.pointer (some ⟨g,O+off,none⟩))) w:=by
    intro a w g O Z;have u:=dx h6 w;have h8:n≠0:=by omega
    simp[execOp,a0,Z,Instr.fieldAt,run_underlying hu,h2,CX,fieldPlace,u,h8,e8]
   split at h
   ·rename_i p b' y O z;split at h
    ·rename_i d Y;refine⟨_,h,λW a w H=>?_⟩;obtain⟨u,_,_,_⟩:=br H x (by rw[z];simp);rw[z]at u;obtain⟨g,og,c,Z,hg,X,hc⟩:=u;exact aO hV H Y M (J a w g _ Z) ⟨g,og,c,by rw[CR],hg,X,hc⟩ id rfl
    ·grind
   ·rename_i b' O z;split at h
    ·rename_i d Y;refine⟨_,h,λW a w H=>?_⟩;obtain⟨u,_,_,_⟩:=br H x (by rw[z];simp);rw[z]at u;exact aO hV H Y M (J a w _ _ u.2.2) ⟨u.1,u.2.1,rfl⟩ id rfl
    ·grind
   ·rename_i r' j v i sz O z;cases I:BQ (st r').ver v with
    |false=>simp[I]at h
    |true =>
     simp only[I]at h;split at h
     ·rename_i d Y;refine⟨_,h,λW a w H=>?_⟩;obtain⟨u,_,_,_⟩:=br H x (by rw[z];simp);rw[z]at u;obtain⟨g,a4,a1,hh,a2,Z⟩:=u.2 (BR I);exact aO hV H Y M (J a w g _ Z) ⟨u.1,λ_=>⟨g,a4,a1,hh,a2,by rw[CR]⟩⟩ id rfl
     ·grind
   ·rename_i p ks ep b' y O z;cases I:bq st ks ep with
    |false=>simp[I]at h
    |true =>
     simp only[I]at h;split at h
     ·rename_i d Y;refine⟨_,h,λW a w H=>?_⟩;obtain⟨u,_,_,_⟩:=br H x (by rw[z];simp);rw[z]at u;have h8:NpOk V W w p ks b' y O _:=u.2.2 (cD I).1 (cD I).2.1 (cD I).2.2;obtain⟨g,og,c,Z,hg,X,hc⟩:=h8.rd;exact aO hV H Y M (J a w g _ Z) ⟨u.1,u.2.1,λ_ _ _=>⟨g,og,c,by rw[CR],hg,X,hc⟩⟩ id rfl
     ·grind
   ·grind
  ·grind
 |_=>simp[ht]at h
theorem si (hV:ay V)(hT:TOk P T)(a0:bN V o){t:TypeId}{x i:Operand}(a5:o.op=.indexAddr t x i)(h:act Γ T o st κ=some r):bW P V o st κ r:=by
 simp only[act,wrU,a5]at h;split at h
 ·rename_i k n hi;cases ht:T t with
  |slice E e ad =>
   simp only[ht]at h;have h1:=hT t;rw[ht]at h1;obtain⟨hu,_,_,b5,_,ti,z,b0,b2,_⟩:=h1;have hE:bQ P E e.cells:=by simp[bQ,b0,b2]
   have a2:∀ (W:Wit) (a:Act) (w:World) (g Z O I:Nat),ap P V W st a w->0<=n->n<O->a.eval x=.slice (some ⟨g,Z,none⟩) O I ->
     (execOp a.eval o).run P w=.ok (.value (.pointer (some ⟨g,Z+n.toNat*e.cells,none⟩))) w:=by
    intro W a w g Z O I H h0 h1 M;have Y:=dx hE w;simp[execOp,a5,M,bE H hi,Cs,asIntOf,run_underlying hu,h0,h1,Y,e8]
   split at h
   ·rename_i r' j v X;split at h
    ·rename_i p hh E' e' xs b1;cases u:BQ e'.cells e.cells with
     |false=>simp[u]at h
     |true =>
      simp only[u]at h;have u:=BR u;obtain⟨y,hy,h⟩:=BZ.1 h;obtain⟨Y,h3,h4⟩:=gr hy;split at h
      ·rename_i d hd;refine⟨_,h,λW a w H=>?_⟩;obtain⟨J,_,_,_⟩:=br H x (by rw[X];simp);rw[X]at J;obtain⟨h8,h9,bl,b6⟩:=kk H b1 J;obtain⟨_,b4,bb,ho,ba,_⟩:=h9;rcases ho.2 with ⟨hn,h0⟩|⟨g,a1,bn,_,M,_,_,_⟩
       ·omega
       ·refine aO hV H hd a0 (a2 W a w g 0 xs.length a1 H Y h3 M) ⟨by omega,λ_=>⟨g,xs.length,a1,by rw[h8,M],by omega,by simp[u]⟩⟩ id rfl
      ·grind
    ·grind
   ·rename_i p E' e' xs X;cases u:BQ e'.cells e.cells with
    |false=>simp[u]at h
    |true =>
     simp only[u]at h;have u:=BR u;obtain⟨y,hy,h⟩:=BZ.1 h;obtain⟨Y,h3,h4⟩:=gr hy;split at h
     ·rename_i d hd;refine⟨_,h,λW a w H=>?_⟩;obtain⟨J,_,_,_⟩:=br H x (by rw[X];simp);rw[X]at J;obtain⟨A,I,M,a9,a3⟩:=J;have M:a.eval x=.slice A xs.length I:=by simpa using M
      obtain⟨g,Z,rfl,hg,a4⟩:=a3 (by omega);obtain⟨c,hc,a6⟩:=a4 n.toNat y h4;refine aO hV H hd a0 (a2 W a w g Z xs.length I H Y h3 M) ⟨g,Z+n.toNat*e'.cells,c,by rw[u];rfl,?_,hc,a6⟩ id rfl;rcases hg with hg|⟨_,hg⟩
      ·grind
      ·exact .inr (hV.ro g hg)
     ·grind
   ·rename_i p ks ep b9 E' e' xs X;cases u:BQ e'.cells e.cells&&bq st ks ep with
    |false=>simp[u]at h
    |true =>
     simp only[u]at h;simp only[BT]at u;obtain⟨u,b3⟩:=u;have u:=BR u;obtain⟨y,hy,h⟩:=BZ.1 h;obtain⟨Y,h3,h4⟩:=gr hy;split at h
     ·rename_i d hd;refine⟨_,h,λW a w H=>?_⟩;obtain⟨J,_,_,_⟩:=br H x (by rw[X];simp);rw[X]at J;have h8:=pM b3 J;obtain⟨A,I,M,a9,a3⟩:=h8.rd;have M:a.eval x=.slice A xs.length I:=by simpa using M
      obtain⟨g,Z,rfl,hg,a4⟩:=a3 (by omega);obtain⟨c,hc,a6⟩:=a4 n.toNat y h4;exact aO hV H hd a0 (a2 W a w g Z xs.length I H Y h3 M) ⟨J.1,J.2.1,λ_ _ _=>⟨g,Z+n.toNat*e'.cells,c,by rw[u];rfl,hg,hc,a6⟩⟩ id rfl
     ·grind
   ·grind
  |arr e O =>
   simp only[ht]at h;have h1:=hT t;rw[ht]at h1;obtain⟨⟨E,hu,hE,_⟩,_⟩:=h1;split at h
   ·rename_i b off X;cases u:decide (0<=n)&&decide (n<(O:Int)) with
    |false=>simp[u]at h
    |true =>
     simp only[u]at h;simp at u;split at h
     ·rename_i d hd;refine⟨_,h,λW a w H=>?_⟩;obtain⟨J,_,_,_⟩:=br H x (by rw[X];simp);rw[X]at J;refine aO hV H hd a0 (v:=.pointer (some ⟨W.β b,off+n.toNat*e.cells,none⟩)) ?_ ⟨J.1,J.2.1,rfl⟩ id rfl;have Y:=dx hE w;simp[execOp,a5,J.2.2,bE H hi,Cs,CX,asIntOf,run_underlying hu,u.1,u.2,Y,e8]
     ·grind
   ·grind
  |_=>simp[ht]at h
 ·grind
theorem xe {t:TypeId}{i:TI}(u:oV P t i)(J:i.cells≠0\/i≠.none)(w:World):(isAgg t).run P w=.ok i.agg w:=by
 cases i with
 |none=>simp[TI.cells]at J
 |struct a I =>
  obtain⟨⟨M,H,_⟩,_⟩:=u;simp[isAgg,run_underlying H,TI.agg]
 |arr e n=>obtain⟨⟨E,H,_⟩,_⟩:=u;simp[isAgg,run_underlying H,TI.agg]
 |ptr=>obtain⟨⟨e,H⟩,_⟩:=u;simp[isAgg,run_underlying H,TI.agg]
 |fn=>obtain⟨⟨x,y,z,H⟩,_⟩:=u;simp[isAgg,run_underlying H,TI.agg]
 |int k=>simp[isAgg,run_underlying u.1,TI.agg]
 |bool=>simp[isAgg,run_underlying u.1,TI.agg]
 |str=>simp[isAgg,run_underlying u.1,TI.agg]
 |slice E e b=>simp[isAgg,run_underlying u.1,TI.agg]
theorem oX {t:TypeId}{i:TI}(u:oV P t i)(z:i≠.none):bQ P t i.cells:=by
 cases i with
 |none=>exact absurd rfl z
 |struct a y=>exact u.2.1
 |arr e n=>exact u.2.2.1
 |ptr=>exact u.2.1
 |fn=>exact u.2.1
 |int k=>exact u.2.1
 |bool=>exact u.2.1
 |str=>exact u.2.1
 |slice E e b=>exact u.2.1
theorem mR {W:Wit}{a:Act}{w:World}(H:ap P V W st a w){e:Ty}:∀ (n:Nat) (ls:List Leaf) (cs:List Value) (xs:List e.den),aC P V W st w ls cs->fF st e n ls=some xs ->
  xs.length=n/\∀ (i:Nat) (x:e.den),xs[i]?=some x->∃ G,Rd w G e x ((cs.drop (i*e.cells)).take e.cells)
 |0,ls,cs,xs,_,h=>by
  simp only[fF]at h
  simp_all
 |n+1,ls,cs,xs,z,h=>by
  simp only[fF]at h;split at h
  ·rename_i p x Y I M;simp at h;subst h;obtain⟨X,J⟩:=mR H n _ _ _ (z.drop e.cells) M;refine⟨by simp[X],λi y u=>?_⟩;cases i with
   |zero =>
    simp at u;subst u;exact⟨_,by simpa using eD H (z.take e.cells) I⟩
   |succ i =>
    obtain⟨G,O⟩:=J i y (by simpa using u);rw[Cp]at O
    grind
  ·cases h
theorem xf (hV:ay V)(hT:TOk P T)(X:bN V o){t:TypeId}{x i:Operand}(M:o.op=.index t x i)(h:act Γ T o st κ=some r):bW P V o st κ r:=by
 simp only[act,wrU,M]at h;split at h
 ·rename_i k n hi;cases hs:T t with
  |str =>
   simp only[hs]at h;split at h
   ·rename_i s hx;obtain⟨y,hy,h⟩:=BZ.1 h;split at h
    ·rename_i d hd;refine⟨_,h,λW a w I=>aO hV I hd X (v:=.int .u8 (y.toNat:Int)) ?_ rfl id rfl⟩;have h1:=hT t;rw[hs]at h1;obtain⟨h2,h3,h4⟩:=gr hy;have h5:s[n.toNat]?=some y:=by
      have h6:=(BS.1 h4);obtain⟨h7,h8⟩:=h6;have h9:n.toNat<s.size:=by rw[Array.length_toList]at h7;exact h7
      rw[getElem?_pos s n.toNat h9];congr 1
     simp[execOp,M,bE I hi,iE I hx,Cn,asIntOf,run_underlying h1.1,h2,h5]
    ·grind
   ·grind
  |arr e Y =>
   simp only[hs]at h;have h1:=hT t;rw[hs]at h1;obtain⟨⟨E,hu,hE,Z⟩,a3,_⟩:=h1;cases hb:e.flat&&decide ((au st x).1=.agg)&&BQ (au st x).2.length (Y*e.cells)&&!BQ e.cells 0 with
   |false=>simp[hb]at h
   |true =>
    simp only[hb]at h;simp only[BT,decide_eq_true_eq]at hb;obtain⟨⟨⟨hf,a2⟩,a4⟩,_⟩:=hb;split at h
    ·rename_i vs hg;obtain⟨y,hy,h⟩:=BZ.1 h;split at h
     ·rename_i d hd;refine⟨_,h,λW a w I=>?_⟩;obtain⟨cs,z,hl⟩:=cW I x;rw[a2]at z;have z:a.eval x=.agg cs.toArray:=z;obtain⟨h2,h3,h4⟩:=gr hy;obtain⟨h5,h6⟩:=mR I Y _ _ _ hl hg;obtain⟨G,h7⟩:=h6 n.toNat y h4;have h8:Rd w (λ_=>False) e y ((cs.drop (n.toNat*e.cells)).take e.cells):=Rd.flat hf h7;have h9:=h8.len;have J:(isAgg E).run P w=.ok e.isAgg w:=by
       cases O:P.underlying E with
       |none=>simp[O]at Z
       |some u =>
        simp only[O,Co,BX]at Z;rw[<- Z];cases u <;> simp[isAgg,run_underlying O]
      have a0:=dx hE w;have hn:n<(Y:Int):=by omega
      cases H:e.isAgg with
      |true =>
       have:=dZ hV I hd X (v:=.agg ((cs.drop (n.toNat*e.cells)).take e.cells).toArray) (sh:=.agg) (ls:=cN false e y) ?_ rfl (eZ (λ_ h=>h.elim) h8)
       ·exact this
       ·rw[H]at J;simp[execOp,M,bE I hi,z,Cn,asIntOf,run_underlying hu,h2,hn,part,J,a0]
      |false =>
       have a1:e.cells=1:=by cases e <;> first|rfl|simp[Ty.isAgg]at H
       rw[a1]at h8 h9
       match hc:(cs.drop (n.toNat*1)).take 1,h9 with
       |[v],_ =>
        rw[hc]at h8;have:=dZ hV I hd X (v:=v) (sh:=.one) (ls:=cN false e y) (cs:=[v]) ?_ rfl (eZ (λ_ h=>h.elim) h8)
        ·exact this
        ·rw[H]at J;have hv:cs[n.toNat]?=some v:=by
          have:((cs.drop (n.toNat*1)).take 1)[0]?=some v:=by rw[hc];rfl
          grind
         simp[execOp,M,bE I hi,z,Cn,asIntOf,run_underlying hu,h2,hn,part,J,a0,a1,hv]
     ·grind
    ·grind
  |_=>simp[hs]at h
 ·grind
theorem ou {t:TypeId}{i:TI}(O:oV P t i)(z:i≠.none){w:World}{g off:Nat}{cs:List Value}(I:cY w g off cs)(y:cs.length=i.cells) :
  ∃ v,(loadVar t ⟨g,off,none⟩).run P w=.ok v w/\ei (bg i.agg) v cs:=by
 have H:=xe O (.inr z) w;cases J:i.agg with
 |true =>
  refine⟨.agg cs.toArray,?_,rfl⟩;have X:=dx (oX O z) w;have M:=run_loadCells_list (P:=P) w ⟨g,off,none⟩ cs (λj v Y=>by rw[e8];exact I j v Y);rw[y]at M;simp[loadVar,H,J,X,M]
 |false =>
  have u:i.cells=1:=by cases i <;> simp_all [TI.agg,TI.cells]
  rw[u]at y
  match cs,y with
  |[v],_ =>
   have:=I 0 v rfl;rw[Nat.add_zero]at this;exact⟨v,by simp[loadVar,H,J,this],rfl⟩
theorem cY.sub {w:World}{g off:Nat}{cs:List Value}(h:cY w g off cs)(k n:Nat):cY w g (off+k) ((cs.drop k).take n):=by
 intro i v u;rw[B8]at u;split at u
 ·rw[CM]at u;have:=h (k+i) v u
  grind
 ·cases u
theorem Mx.deep {w:World}{G G':Nat->Prop}:∀ {a:Ty} {h:Option Nat} {pos:Nat} {x:a.den} {cs:List Value} {bs:List Nat},a.shy=false->Mx w G a h pos x cs bs->Mx w G' a h pos x cs bs
 |.int _,_,_,_,_,_,_,h=>h
 |.bool,_,_,_,_,_,_,h=>h
 |.str,_,_,_,_,_,_,h=>h
 |.unit,_,_,_,_,_,_,h=>h
 |.hdr,_,_,_,_,_,_,h=>h
 |.pair _ _,_,_,_,_,_,u,⟨X,c2,b1,b2,I,Z,z,J⟩=>by
  simp only[Ty.shy,CY]at u;exact⟨X,c2,b1,b2,I,Z,Mx.deep u.1 z,Mx.deep u.2 J⟩
 |.list m E e,h,pos,xs,cs,bs,u,H=>by
  simp only[Ty.shy,CY,Bool.not_eq_false']at u;obtain⟨rfl,u⟩:=u;by_cases O:h=some pos
  ·subst O;rw[jc]at H ⊢;exact H
  ·rw[bJ O]at H ⊢;obtain⟨v,I,y,M,z,J,h3⟩:=H;refine⟨v,I,y,M,z,J,λj x hj=>?_⟩;obtain⟨c,Y,h5⟩:=h3 j x hj;exact⟨c,Mx.deep u Y,h5⟩
theorem OwB.shy {W:Wit}{w:World}{p:Bool}{h:Option (Nat×Nat)}{E:TypeId}{e:Ty}{xs:List e.den}{v:Value}{bs:List Nat}(H:OwB w (gd V W p) h E e xs v bs):OwB w (gd V W (p&&e.shy)) h E e xs v bs:=by
 cases O:e.shy with
 |true=>simpa using H
 |false =>
  obtain⟨u,y,z,M,Y⟩:=H;refine⟨u,y,z,M,λj x J=>?_⟩;obtain⟨c,I,X⟩:=Y j x J;exact⟨c,Mx.deep O I,X⟩
theorem jd (p:Bool)(r j v ep i u:Nat)(h:Option Nat):∀ (a:Ty) (off:Nat) (x:a.den),(gK p r j v ep i u h a off x).length=a.cells
 |.int _,_,_=>rfl
 |.bool,_,_=>rfl
 |.str,_,_=>rfl
 |.unit,_,_=>rfl
 |.hdr,_,_=>rfl
 |.pair a b,off,x=>by simp[gK,Ty.cells,jd p r j v ep i u h a,jd p r j v ep i u h b]
 |.list _ _ _,_,_=>rfl
theorem l7 {W:Wit}{w:World}{p:Bool}{r j g len y i sz:Nat}(M:(W.cs r)[j]?=some (.slice (some ⟨g,0,none⟩) len y))(O:i<len)(hg:g∈W.bs r j){hol:Option Nat} :
  ∀ {a:Ty} {pos:Nat} {x:a.den} {cs:List Value} {bs:List Nat},(∀ k∈bs,k∈W.bs r j)->Mx w (gd V W p) a hol pos x cs bs->cY w g (i*sz+pos) cs->aC P V W st w (gK p r j (st r).ver (st EPO).ver i sz hol a pos x) cs
 |.int _,_,_,_,_,_,h,_=>by rw[h.1];exact⟨⟨rfl,id,rfl⟩,trivial⟩
 |.bool,_,_,_,_,_,h,_=>by rw[h.1];exact⟨⟨rfl,id,rfl⟩,trivial⟩
 |.str,_,_,_,_,_,h,_=>by rw[h.1];exact⟨⟨rfl,id,rfl⟩,trivial⟩
 |.unit,_,_,_,_,_,h,_=>by rw[h.1];trivial
 |.hdr,_,_,_,_,_,⟨⟨A,y,e⟩,_⟩,_=>by rw[e];exact⟨⟨⟨A,y,rfl⟩,id,rfl⟩,trivial⟩
 |.pair a b,pos,x,cs,bs,J,⟨c1,c2,b1,b2,e1,e2,Z,h2⟩,X=>by
  subst e1;have hl:=Z.len;refine aC.append (l7 M O hg (λk z=>J k (by rw[e2];exact BW _ z)) Z λq u hu=>X q u ?_)
   (l7 M O hg (λk z=>J k (by rw[e2];exact BV _ z)) h2 λq u hu=>?_)
  ·grind
  ·have:=X (a.cells+q) u (by rw[<- hl,CC (by omega)];simpa using hu)
   grind
 |.list m E e,pos,xs,cs,bs,J,H,X=>by
  have I:=H.one;simp only[gK];by_cases hp:hol=some pos
  ·have Y:decide (hol=some pos)=true:=decide_eq_true hp;rw[Y];obtain⟨v,rfl,_⟩:=H;exact⟨⟨trivial,id,I v (by simp)⟩,trivial⟩
  ·have Y:decide (hol=some pos)=false:=decide_eq_false hp;rw[Y];cases m with
   |false =>
    rw[cr]at H;obtain⟨A,y,rfl,h2,h3⟩:=H.2;exact⟨⟨⟨A,y,rfl,h2,h3⟩,id,rfl⟩,trivial⟩
   |true =>
    rw[bJ hp]at H;obtain⟨v,rfl,hO⟩:=H;have Z:=X 0 v rfl;refine⟨⟨⟨BY _,λk z=>?_,λ_ _ _=>⟨?_,λi' a2 a0 he=>?_⟩⟩,id,I v (by simp)⟩,trivial⟩
    ·grind
    ·obtain⟨a1,a3,h4,h5,h6⟩:=OwB.shy hO;refine sL h4 (λk z=>.inr ⟨_,CG _,J k (by rw[h5];exact BW _ z)⟩) λq x hq=>?_
     obtain⟨c,h7,h8⟩:=h6 q x hq;exact⟨c,h7.rd (λk z=>.inl z) (λk z=>.inr ⟨_,CG _,J k (by rw[h5];exact BV _ (dX.2 ⟨q,(BS.1 hq).1,z⟩))⟩),h8⟩
    ·grind
theorem jV {W:Wit}{w:World}{p:Bool}{ks:List (Nat×Nat×Nat)}{ep:Nat}(y:ep<=(st EPO).ver)(z:∀ k∈ks,k.2.2<=(st k.1).ver) :
  ∀ {a:Ty} {x:a.den} {cs:List Value},Rd w (λb=>gd V W p b\/∃ k∈ks,b∈W.bs k.1 k.2.1) a x cs->aC P V W st w (lp p ks ep a x) cs
 |.int _,_,_,h=>by rw[show _=_ from h];exact⟨⟨rfl,id,rfl⟩,trivial⟩
 |.bool,_,_,h=>by rw[show _=_ from h];exact⟨⟨rfl,id,rfl⟩,trivial⟩
 |.str,_,_,h=>by rw[show _=_ from h];exact⟨⟨rfl,id,rfl⟩,trivial⟩
 |.unit,_,_,h=>by rw[show _=_ from h];trivial
 |.hdr,_,_,⟨A,u,e⟩=>by rw[e];exact⟨⟨⟨A,u,rfl⟩,id,rfl⟩,trivial⟩
 |.pair _ _,_,_,⟨O,Y,e,J,H⟩=>by rw[e];exact (jV y z J).append (jV y z H)
 |.list m E e,Z,_,h=>by
  obtain⟨A,u,rfl,H,M⟩:=h;exact⟨⟨⟨y,z,λ_ _ _=>⟨⟨A,u,rfl,H,M⟩,λi X off I=>by cases I⟩⟩,id,rfl⟩,trivial⟩
theorem zV {W:Wit}{a:Act}{w:World}(hr:ap P V W st a w){r j n g len I i:Nat}{p:Bool}{hh:Option (Nat×Nat)}{E:TypeId}{e:Ty}{xs:List e.den}{y:e.den}(h8:(st r).ver=n)(h9:(st r).ls[j]?=some (.own p hh E e xs))
  (H:(W.cs r)[j]?=some (.slice (some ⟨g,0,none⟩) len I)) (J:i<len) (hy:xs[i]?=some y) :
  ∃ c,cY w g (i*e.cells) c/\aC P V W st w (gK p r j n (st EPO).ver i e.cells (cS hh i) e 0 y) c:=by
 subst h8;obtain⟨_,Z,a2,Y,O,M⟩:=hr.leaf r j _ _ h9 H;obtain⟨c,X,h2⟩:=M i y hy;have a1:=X.len;have hi:i<xs.length:=(BS.1 hy).1;have z:len=xs.length:=by
  obtain⟨A,a0,e0,_⟩:=Y.slice
  simp_all
 subst z;have hc:cY w g (i*e.cells) c:=by
  intro q u hu;have hq:=(BS.1 hu).1;rw[Y.cellAt _ (by
   have:i*e.cells+e.cells<=xs.length*e.cells:=by
    have:=Nat.mul_le_mul_right e.cells (show i+1<=xs.length from hi)
    grind
   omega)]
  grind
 refine⟨c,hc,l7 H J (by rw[O];simp[CH]) (λk hk=>?_) X hc⟩
 grind
theorem yx (hV:ay V)(hT:TOk P T)(b0:bN V o){t:TypeId}{x:Operand}(a4:o.op=.load t x)(h:act Γ T o st κ=some r):bW P V o st κ r:=by
 simp only[act,wrU,a4,lT]at h;have a5:=hT t;have X:∀ (W:Wit) (a:Act) (w:World) (g off:Nat) (cs:List Value) (ls:List Leaf) (d:Nat),ap P V W st a w->o.dst=some d->T t≠.none->a.eval x=.pointer (some ⟨g,off,none⟩)->cY w g off cs ->
   cs.length=(T t).cells->aC P V W st w ls cs->mP P V o st (cm st [] d (bg (T t).agg) ls) a w:=by
  intro W a w g off cs ls d z Z hn O Y hl a1;obtain⟨v,h1,h2⟩:=ou a5 hn Y hl;exact dZ hV z Z b0 (v:=v) (by simp[execOp,a4,O,Instr.loadAt,CX,h1]) h2 a1
 cases M:decide ((T t).cells=0) with
 |true=>simp[M]at h
 |false =>
  simp only[M]at h;have M:(T t).cells≠0:=of_decide_eq_false M;have a0:T t≠.none:=by intro e;rw[e]at M;exact M rfl
  split at h
  ·rename_i p b y off J;cases u:decide (off+(T t).cells<=b.cells) with
   |false=>simp[u]at h
   |true =>
    simp only[u]at h;split at h
    ·rename_i d Z;refine⟨_,h,λW a w z=>?_⟩;obtain⟨H,_,_,_⟩:=br z x (by rw[J];simp);rw[J]at H;obtain⟨g,og,c,O,hg,I,Y⟩:=H;refine X W a w g _ ((c.drop off).take (T t).cells) _ d z Z a0 O (Y.sub off _) ?_ (((eZ (λ_ h=>h) I).drop off).take _);have:=I.len
     grind
    ·grind
  ·rename_i b off J;cases u:decide ((st b).sh=.agg)&&decide (off+(T t).cells<=(st b).ls.length) with
   |false=>simp[u]at h
   |true =>
    simp only[u]at h;split at h
    ·rename_i d Z;refine⟨_,h,λW a w z=>?_⟩;obtain⟨H,_,_,_⟩:=br z x (by rw[J];simp);rw[J]at H;obtain⟨hB,b3,O⟩:=H;rcases z.boxes b hB with ⟨h8,_⟩|⟨_,E,h8⟩
     ·grind
     ·have Y:cY w (W.β b) 0 (W.cs b):=λi v O=>by
       rw[Cg,cell_of_row w (W.β b) i _ E (0,0) h8]
       simp_all
      have b2:=z.len b;have a3:=Y.sub off (T t).cells;rw[Cg]at a3;refine X W a w (W.β b) off _ _ d z Z a0 O a3 ?_ (((iD z b).drop off).take _)
      grind
    ·grind
  ·rename_i p b y J;cases u:BQ (T t).cells 1&&!(T t).agg with
   |false=>simp[u]at h
   |true =>
    simp only[u]at h;simp only[BT,CP]at u;split at h
    ·rename_i d Z;refine⟨_,h,λW a w z=>?_⟩;obtain⟨H,_,_,_⟩:=br z x (by rw[J];simp);rw[J]at H;obtain⟨q,oq,g,og,c,O,_,a2,hg,I,Y⟩:=H;have:=X W a w q oq [.pointer (some ⟨g,og,none⟩)] [.rp p b y 0] d z Z a0 O (λi v hi=>by
      cases i with
      |zero=>simp at hi;subst hi;exact a2
      |succ i=>simp at hi) (by simp[BR u.1]) ⟨⟨⟨g,og,c,rfl,hg,I,Y⟩,id,rfl⟩,trivial⟩
     rw[u.2]at this;exact this
    ·grind
  ·rename_i p ks ep b y off J;cases u:bq st ks ep&&decide (off+(T t).cells<=b.cells) with
   |false=>simp[u]at h
   |true =>
    simp only[u]at h;simp at u;split at h
    ·rename_i d Z;refine⟨_,h,λW a w z=>?_⟩;obtain⟨H,_,_,_⟩:=br z x (by rw[J];simp);rw[J]at H;have h8:NpOk V W w p ks b y off _:=H.2.2 (cD u.1).1 (cD u.1).2.1 (cD u.1).2.2;obtain⟨g,og,c,O,hg,I,Y⟩:=h8.rd;refine X W a w g _ ((c.drop off).take (T t).cells) _ d z Z a0 O (Y.sub off _) ?_ (((jV H.1 H.2.1 I).drop off).take _);have:=I.len
     grind
    ·grind
  ·rename_i r' j v i sz off J;split at h
   ·rename_i p hh E e xs a6;cases u:BQ sz e.cells&&decide (off+(T t).cells<=e.cells) with
    |false=>simp[u]at h
    |true =>
     simp only[u]at h;simp only[BT]at u;have b1:=BR u.1;subst b1;obtain⟨y,hy,h⟩:=BZ.1 h;obtain⟨_,_,h4⟩:=gr hy;split at h
     ·rename_i d Z;refine⟨_,h,λW a w z=>?_⟩;obtain⟨H,_,_,_⟩:=br z x (by rw[J];simp);rw[J]at H;obtain⟨h8,h9⟩:=fe a6 (by simp);obtain⟨g,b5,b4,a9,ad,O⟩:=H.2 h8;obtain⟨c,Y,a1⟩:=zV z h8 h9 a9 ad h4;refine X W a w g _ _ _ d z Z a0 O (Y.sub off _) ?_ ((a1.drop off).take _);have:=a1.length;rw[jd]at this
      grind
     ·grind
   ·grind
  ·grind
end
section
variable {P:Program} {V:Env} {Γ:List Ctr} {T:TypeId->TI} {st:St} {o:Oper} {R:Type} {κ:Upd->Option R} {r:R}
theorem xg (hV:ay V)(hT:TOk P T)(X:bN V o){t:TypeId}{x:Operand}{f:Nat}(J:o.op=.field t x f)(h:act Γ T o st κ=some r):bW P V o st κ r:=by
 simp only[act,wrU,J]at h;cases ht:T t with
 |struct b a2 =>
  simp only[ht]at h;split at h
  ·rename_i off n agg hf;have h1:=hT t;rw[ht]at h1;obtain⟨⟨fs,hu,_,a0⟩,_⟩:=h1;obtain⟨H,Z,h2,h3,h4,h5,h6,Y⟩:=a0 f off n agg hf;cases M:decide ((au st x).1=.agg)&&decide ((au st x).2.length=b.cells) with
   |false=>simp[M]at h
   |true =>
    simp only[M,cond_true]at h;simp only[BT,decide_eq_true_eq]at M;split at h
    ·rename_i d hd;refine⟨_,h,λW a w hr=>?_⟩;obtain⟨u,hs,hl⟩:=cW hr x;rw[M.1]at hs;have O:=hl.length;rw[M.2]at O;have y:(isAgg Z.type).run P w=.ok agg w:=by
      unfold isAgg;cases I:P.underlying Z.type with
      |none=>simp[I]at Y
      |some dd =>
       rw[I]at Y;simp only[Co,BX]at Y;subst Y;rw[B9,run_underlying I w];cases dd <;> rfl
     have a1:=dx h6 w;cases agg with
     |true =>
      refine dZ hV hr hd X (v:=.agg ((u.drop off).take n).toArray) ?_ rfl ((hl.drop off).take n);have e:u.toArray.extract off (off+n)=((u.drop off).take n).toArray:=by
       rw[List.extract_toArray,List.extract_eq_take_drop,Nat.add_sub_cancel_left]
      have hp:(part Z.type u.toArray off).run P w=.ok (.agg ((u.drop off).take n).toArray) w:=by
       simp only[part,B9,y,B5,if_true,a1,CD,e]
      simp only[execOp,J,show a.eval x=_ from hs,Cw,B9,run_underlying hu,B5,h2,asAgg,CD,h3,hp]
     |false =>
      have H:=H rfl;subst H;have z:off<u.length:=by omega
      have hv:((u.drop off).take 1)=[u[off]]:=by
       rw[List.take_one,List.head?_drop,BU z];rfl
      refine dZ hV hr hd X (v:=u[off]) ?_ (show ei .one _ ((u.drop off).take 1) from hv) ((hl.drop off).take 1);have e:u.toArray[off]?=some u[off]:=by simp[z]
      have hp:(part Z.type u.toArray off).run P w=.ok u[off] w:=by
       simp only[part,B9,y,B5,Bool.false_eq_true,if_false,e,CD]
      simp only[execOp,J,show a.eval x=_ from hs,Cw,B9,run_underlying hu,B5,h2,asAgg,CD,h3,hp]
    ·cases h
  ·cases h
 |_=>simp[ht]at h
theorem AU {α:Type}(u y:List α)(off:Nat)(h:off+y.length<=u.length):(u.take off++y++u.drop (off+y.length)).length=u.length:=by
 simp;omega
theorem kW (cs c:List Value)(off:Nat)(h:off+c.length<=cs.length) :
  (c.zipIdx 0).foldl (λcs (x:Value×Nat)=>cs.setIfInBounds (off+x.2) x.1) cs.toArray=(cs.take off++c++cs.drop (off+c.length)).toArray:=by
 obtain⟨H,z⟩:=Great.foldl_set off c 0 cs.toArray;apply Array.ext_getElem?;intro k;rw[z k];simp only[Nat.add_zero,List.size_toArray,List.getElem?_toArray];by_cases y:off<=k/\k<off+c.length/\k<cs.length
 ·rw[if_pos y,CI,CC (by simp;omega),CN (by simp;omega)];congr 1;simp;omega
 ·rw[if_neg y];by_cases u:k<off
  ·rw[CI,CN (by simp;omega),B8,if_pos u]
  ·rw[CC (by simp;omega),CM];congr 1;simp;omega
theorem gY {agg:Bool}{v:Value}{cs:List Value}(h:ei (bg agg) v cs)(y:∀ u∈cs,u.oneCell'=true):v.cells=cs.toArray:=by
 cases agg with
 |true=>rw[show v=_ from h];rfl
 |false =>
  have h:cs=[v]:=h;subst h;have:=y v (Cf.2 rfl);cases v <;> first|rfl|simp[B3]at this
theorem l8 {W:Wit}{a:Act}{w:World}(hr:ap P V W st a w){z:List (Nat×Nat×Bool)}{pl:Nat->Option (Nat×Nat)}(O:∀ (i off n:Nat) (agg:Bool),z[i]?=some (off,n,agg)->pl i=some (off,n)):∀ (ps:List (Nat×Operand)) (ls u:List Leaf) (cs:List Value),
  aC P V W st w ls cs->fm st z ps ls=some u ->
  ∃ y,aC P V W st w u y/\Instr.fill pl cs.toArray (ps.map λx=>(x.1,a.eval x.2))=some y.toArray
 |[],ls,u,cs,J,h=>by
  simp[fm]at h;subst h;exact⟨cs,J,rfl⟩
 |(i,x)::ps,ls,u,cs,J,h=>by
  simp only[fm]at h;split at h
  ·rename_i off n agg hf;cases X:BQ (au st x).2.length n&&decide ((au st x).1=bg agg)&&decide (off+n<=ls.length) with
   |false=>simp[X]at h
   |true =>
    simp only[X,cond_true]at h;simp only[BT,decide_eq_true_eq]at X;obtain⟨⟨M,Y⟩,a2⟩:=X;have M:=BR M;obtain⟨c,hs,I⟩:=cW hr x;rw[Y]at hs;have hc:=gY hs I.one';have a1:=J.length;have H:=I.length;have a0:aC P V W st w (jz ls (au st x).2 off) (cs.take off++c++cs.drop (off+c.length)):=by
     unfold jz;rw[H];exact ((J.take off).append I).append (J.drop _)
    obtain⟨y,h1,h2⟩:=l8 hr O ps _ u _ a0 h;refine⟨y,h1,?_⟩;simp only[Cr,Instr.fill];have Z:pl i=some (off,n):=O _ _ _ _ hf;have a3:c.toArray.size=n:=by simp;omega
    simp only[Z,hc];rw[if_neg (by simp;omega)];have e:c.toArray.zipIdx.foldl (λcs (x:Value×Nat)=>cs.setIfInBounds (off+x.2) x.1) cs.toArray=(c.zipIdx 0).foldl (λcs (x:Value×Nat)=>cs.setIfInBounds (off+x.2) x.1) cs.toArray:=by
     rw[<- Array.foldl_toList];simp
    have e2:=kW cs c off (by omega);rw[<- e2,<- e]at h2;exact h2
  ·cases h
theorem lz {W:Wit}{w:World}:∀ (b:Ty),aC P V W st w (eX b) (zeroCells b)
 |.int _=>⟨⟨rfl,id,rfl⟩,trivial⟩
 |.bool=>⟨⟨rfl,id,rfl⟩,trivial⟩
 |.str=>⟨⟨rfl,id,rfl⟩,trivial⟩
 |.unit=>trivial
 |.pair a b=>(lz a).append (lz b)
 |.hdr=>⟨⟨rfl,id,rfl⟩,trivial⟩
 |.list _ _ _=>⟨⟨rfl,id,rfl⟩,trivial⟩
theorem oY {W:Wit}{w:World}(e:Ty):∀ (n:Nat),aC P V W st w (CA n (eX e)).flatten (CA n (zeroCells e)).flatten
 |0=>trivial
 |n+1=>by
  rw[Cb,Cb,Ci,Ci];exact (lz e).append (oY e n)
theorem xh (hV:ay V)(hT:TOk P T)(Z:bN V o){t:TypeId}{u:Array (Nat×Operand)}(J:o.op=.build t u)(h:act Γ T o st κ=some r):bW P V o st κ r:=by
 simp only[act,wrU,J]at h;cases Y:T t with
 |struct b a0 =>
  simp only[Y]at h;split at h
  ·rename_i ls M;split at h
   ·rename_i d hd;refine⟨_,h,λW a w hr=>?_⟩;have X:=hT t;rw[Y]at X;obtain⟨⟨fs,hu,a1,_⟩,_,H,_⟩:=X;obtain⟨z,h2,h3⟩:=l8 hr (pl:=((a0.map λx=>(x.1,x.2.1)).toArray[·]?)) (λi off n agg I=>by simp[I]) u.toList _ ls _ (lz b) M;refine dZ hV hr hd Z (v:=.agg z.toArray) ?_ rfl h2;have y:P.built t (u.map λ (i,x)=>(i,a.eval x)).toList=some z.toArray:=by
     unfold d7 at H;unfold Ct;cases hi:P.info? t with
     |none=>simp[hi]at H
     |some ti =>
      simp[hi]at H;simp only[hu,H,a1];rw[CU];exact h3
    simp[execOp,J,run_build w t _ _ y]
   ·cases h
  ·cases h
 |arr e n =>
  simp only[Y]at h;split at h
  ·rename_i ls M;split at h
   ·rename_i d hd;refine⟨_,h,λW a w hr=>?_⟩;have X:=hT t;rw[Y]at X;obtain⟨⟨E,hu,hE,_⟩,_,_,H⟩:=X;obtain⟨z,h2,h3⟩:=l8 hr (pl:=λi=>some (i*e.cells,e.cells)) (λi off n agg I=>by
     rw[Ch]at I;obtain⟨j,hj,I⟩:=B7.1 I;rw[List.getElem?_range (by simpa using (BS.1 hj).1)]at hj;simp only[BX]at hj;subst hj;simp only[Cq]at I;simp[<- I.1,<- I.2.1]) u.toList _ ls _ (oY e n) M
    refine dZ hV hr hd Z (v:=.agg z.toArray) ?_ rfl h2;have y:P.built t (u.map λ (i,x)=>(i,a.eval x)).toList=some z.toArray:=by
     unfold d7 at H;unfold bQ at hE;unfold Ct;cases hi:P.info? t with
     |none=>simp[hi]at H
     |some ti =>
      simp[hi]at H;cases O:P.info? E with
      |none=>simp[O]at hE
      |some ie =>
       simp[O]at hE;simp only[hu,H,O,hE];rw[CU];exact h3
    simp[execOp,J,run_build w t _ _ y]
   ·cases h
  ·cases h
 |_=>simp[Y]at h
theorem mS {W:Wit}{a:Act}{w:World}(H:ap P V W st a w){x:Option Operand}{u n:Int}(h:dm st x u=some n) :
  (x=none/\n=u)\/∃ y k,x=some y/\a.eval y=.int k n:=by
 unfold dm at h;split at h
 ·simp at h;exact .inl ⟨rfl,h.symm⟩
 ·split at h
  ·rename_i l k m z;simp at h;subst h;exact .inr ⟨_,k,rfl,bE H z⟩
  ·cases h
theorem jW (u:Bool)(len y:Nat)(a0:len<=y)(M X:Option Value)(i h:Int)(I:0<=i)(H:i<=h)(hh:h<=len)(O:(M=none/\i=0)\/∃ k,M=some (.int k i))
  (J:(X=none/\h=len)\/∃ k,X=some (.int k h)) (w:World):(Cj u len y M X none).run P w=.ok (i.toNat,h.toNat,y) w:=by
 have Y:0<=h:=by omega
 have Z:h<=(y:Int):=by omega
 have z:i<=((h.toNat:Nat):Int):=by omega
 rcases O with ⟨rfl,rfl⟩|⟨k,rfl⟩ <;> rcases J with ⟨rfl,rfl⟩|⟨k',rfl⟩ <;>
  simp[Cj,Instr.sliceBound,asIntOf,I,Y,Z,z,H,-Int.ofNat_toNat]
theorem jr (J:ay V){W:Wit}{a:Act}{w:World}(I:ap P V W st a w){x:Operand}{l:Leaf}(y:aD st (one st x)=l)(X:l≠.dead)(z:¬ ao l):aI P V W st w [] l (a.eval x):=by
 have H:one st x≠.dead:=by intro e;rw[e]at y;exact X y.symm
 obtain⟨M,O,_⟩:=br I x H;rcases l6 J I M O with ⟨_,_,_,_,u,_⟩|⟨_,u⟩
 ·rw[y]at u;exact absurd u z
 ·rw[y]at u;exact u
theorem xi (O:ay V){W:Wit}{a:Act}{w:World}(X:ap P V W st a w){x:Operand}{p:Bool}{ks:List (Nat×Nat×Nat)}{ep:Nat}{y:Option (Nat×Nat×Nat)}{E:TypeId}{e:Ty}{xs:List e.den}
  (u:aD st (one st x)=.nal p ks ep y E e xs):aI P V W st w [] (.nal p ks ep y E e xs) (a.eval x)/\bq st ks ep=true:=by
 refine⟨jr O X u (by simp) (by simp[ao]),?_⟩;generalize one st x=l at u;cases l with
 |nal p' I z J Y Z M =>
  simp only[aD]at u;cases H:bq st I z with
  |false=>simp[H]at u
  |true =>
   simp only[H,cond_true]at u;cases u;exact H
 |al r j n=>exact absurd u iR
 |_=>simp[aD]at u
theorem ut (O:ay V){W:Wit}{a:Act}{w:World}(I:ap P V W st a w){x:Operand}{p:Bool}{J:Option (Nat×Nat)}{E:TypeId}{e:Ty}{xs:List e.den}(u:aD st (one st x)=.own p J E e xs) :
  ∃ r i n,one st x=.al r i n/\(st r).ls[i]?=some (.own p J E e xs)/\OwH w (gd V W p) J E e xs (a.eval x) (W.bs r i)/\(W.cs r)[i]?=some (a.eval x)/\(st r).ver=n:=by
 have H:one st x≠.dead:=by intro e;rw[e]at u;cases u
 obtain⟨z,Y,_⟩:=br I x H;rcases l6 O I z Y with ⟨r,i,n,M,_,_,_⟩|⟨y,_⟩
 ·rw[M]at u z;obtain⟨y,X,Z,h6⟩:=kk I u z;exact⟨r,i,n,M,Z,X,y,h6⟩
 ·rw[u]at y;exact absurd trivial y
theorem goes_frz (H:ay V){W:Wit}{a:Act}{w:World}(h:ap P V W st a w){d:Nat}(z:o.dst=some d)(y:bN V o)(ks:List (Nat×Nat)){v:Value}{sh:aG}{ls:List Leaf}{cs:List Value}
  (u:(execOp a.eval o).run P w=.ok (.value v) w) (M:ei sh v cs) (J:aC P V (W.frz st ks) (ac (aE st ks) st) w ls cs):mP P V o st (cm st (aE st ks) d sh ls) a w:=by
 intro next Q I;refine dY u ?_;rw[z];refine I _ _ ?_;rw[cm,aP];exact (lx H ks h).1.putLs H d (y d z).1 (y d z).2 _ sh ls v cs (CT _) M J
theorem cY.shift {w:World}{g o:Nat}{c:List Value}{k s j:Nat}(h:cY w g (o+(k+j)*s) c):cY w g (o+k*s+j*s) c:=by
 rwa [CR,<- Nat.add_mul]
theorem Rd.cut {w:World}{G:Nat->Prop}{E:TypeId}{e:Ty}{xs:List e.den}{A:Option Addr}{u:Nat}(h:Rd w G (.list false E e) xs [.slice A xs.length u])(i n:Nat)(O:i<=n)(hn:n<=xs.length) :
  Rd w G (.list false E e) ((xs.take n).drop i) [.slice (if u=i then A else A.map (·.add (i*e.cells))) (n-i) (u-i)]:=by
 obtain⟨A',M,J,hc,X⟩:=h;simp at J;obtain⟨rfl,rfl⟩:=J;have H:((xs.take n).drop i).length=n-i:=by simp;omega
 refine⟨_,u-i,by rw[H],by rw[H];omega,λhp=>?_⟩;rw[H]at hp;obtain⟨g,o,rfl,Y,I⟩:=X (by omega);refine⟨g,o+i*e.cells,?_,Y,λj x y=>?_⟩
 ·rw[if_neg (by omega)];simp[e8]
 ·rw[CM,B8]at y;split at y
  ·obtain⟨c,Z,z⟩:=I (i+j) x y;exact⟨c,Z,z.shift⟩
  ·cases y
theorem vP (hV:ay V)(hT:TOk P T)(a6:bN V o){t:TypeId}{x:Operand}{lo hi:Option Operand}(a4:o.op=.slice t x lo hi none)(h:act Γ T o st κ=some r):bW P V o st κ r:=by
 simp only[act,wrU,a4]at h;cases hd:o.dst with
 |none=>simp[hd]at h
 |some d =>
  simp only[hd]at h;split at h
  ·cases h
  ·rename_i i a9;have h1:=hT t;have X:∀ (W:Wit) (a:Act) (w:World) (y:Option Operand) (a3 n:Int),ap P V W st a w->dm st y a3=some n->(y.map a.eval=none/\n=a3)\/∃ k,y.map a.eval=some (.int k n):=by
    intro W a w y a3 n O u;rcases mS O u with ⟨rfl,rfl⟩|⟨z,k,rfl,hz⟩
    ·exact .inl ⟨rfl,rfl⟩
    ·exact .inr ⟨k,by simp[hz]⟩
   split at h
   ·rename_i s ht hx;rw[ht]at h1;split at h
    ·rename_i n Z;cases u:decide (0<=i)&&decide (i<=n)&&decide (n<=(s.size:Int)) with
     |false=>simp[u]at h
     |true =>
      simp only[u,cond_true]at h;simp only[BT,decide_eq_true_eq]at u;refine⟨_,h,λW a w O=>aO hV O hd a6 (v:=.string (s.extract i.toNat n.toNat)) ?_ rfl id rfl⟩;have M:=jW (P:=P) false s.size s.size (BY _) (lo.map a.eval) (hi.map a.eval) i n u.1.1 u.1.2 u.2 (X W a w lo 0 i O a9) (X W a w hi _ n O Z) w;have b3:a.eval x=.string s:=(jr hV O hx (by simp) (by simp[ao]));simp[execOp,a4,b3,CS,CZ,run_underlying h1.1,M]
    ·cases h
   ·rename_i E' e' a2 p ks ep b5 E e xs ht hx;rw[ht]at h1;obtain⟨hu,_,_,_,_,ti,z,a1,a5,_⟩:=h1;split at h
    ·rename_i n Z;cases u:decide (0<=i)&&decide (i<=n)&&decide (n<=(xs.length:Int))&&BQ e'.cells e.cells with
     |false=>simp[u]at h
     |true =>
      simp only[u,cond_true]at h;simp only[BT,decide_eq_true_eq]at u;obtain⟨u,I⟩:=u;have I:=BR I;refine⟨_,h,λW a w O=>?_⟩;obtain⟨hl,b4⟩:=xi hV O hx;have h8:=pM b4 hl;obtain⟨A,H,hv,J,a0⟩:=h8.rd;have hv:a.eval x=.slice A xs.length H:=by simpa using hv
      have M:=jW (P:=P) true xs.length H J (lo.map a.eval) (hi.map a.eval) i n u.1.1 u.1.2 u.2 (X W a w lo 0 i O a9) (X W a w hi _ n O Z) w;have hE:=dx (P:=P) (t:=E') (n:=e.cells) (by simp[bQ,a1,a5,I]) w;have Y:=Rd.cut (E:=E) (⟨A,H,rfl,J,a0⟩:Rd w _ (.list false E e) xs [.slice A xs.length H]) i.toNat n.toNat (by omega) (by omega);refine aO hV O hd a6 (v:=.slice (if H=i.toNat then A else A.map (·.add (i.toNat*e.cells))) (n.toNat-i.toNat) (H-i.toNat)) ?_ ⟨hl.1,hl.2.1,λ_ _ _=>⟨Y,λi' sz off he=>by cases he⟩⟩ id rfl;simp only[execOp,a4,hv,CS,CZ,B9,run_underlying hu,B5,CV,M,hE,CD]
    ·cases h
   ·rename_i E' e' a2 p E e xs ht hx;rw[ht]at h1;obtain⟨hu,_,_,_,_,ti,z,a1,a5,_⟩:=h1;split at h
    ·rename_i n Z;cases u:decide (0<=i)&&decide (i<=n)&&decide (n<=(xs.length:Int))&&BQ e'.cells e.cells with
     |false=>simp[u]at h
     |true =>
      simp only[u,cond_true]at h;simp only[BT,decide_eq_true_eq]at u;obtain⟨u,I⟩:=u;have I:=BR I;refine⟨_,h,λW a w O=>?_⟩;have hl:=jr hV O hx (by simp) (by simp[ao]);obtain⟨A,H,hv,J,a0⟩:=hl;have hv:a.eval x=.slice A xs.length H:=by simpa using hv
      have M:=jW (P:=P) true xs.length H J (lo.map a.eval) (hi.map a.eval) i n u.1.1 u.1.2 u.2 (X W a w lo 0 i O a9) (X W a w hi _ n O Z) w;have hE:=dx (P:=P) (t:=E') (n:=e.cells) (by simp[bQ,a1,a5,I]) w;have Y:=Rd.cut (E:=E) (⟨A,H,rfl,J,a0⟩:Rd w (gd V W p) (.list false E e) xs [.slice A xs.length H]) i.toNat n.toNat (by omega) (by omega);refine aO hV O hd a6 (v:=.slice (if H=i.toNat then A else A.map (·.add (i.toNat*e.cells))) (n.toNat-i.toNat) (H-i.toNat)) ?_ Y id rfl;simp only[execOp,a4,hv,CS,CZ,B9,run_underlying hu,B5,CV,M,hE,CD]
    ·cases h
   ·rename_i E' e' a2 p E e xs ht hx;rw[ht]at h1;obtain⟨hu,_,_,_,_,ti,z,a1,a5,_⟩:=h1;split at h
    ·rename_i n Z;cases u:decide (0<=i)&&decide (i<=n)&&decide (n<=(xs.length:Int))&&BQ e'.cells e.cells with
     |false=>simp[u]at h
     |true =>
      simp only[u,cond_true]at h;simp only[BT,decide_eq_true_eq]at u;obtain⟨u,I⟩:=u;have I:=BR I;split at h
      ·rename_i r' j n' e1;refine⟨_,h,λW a w O=>?_⟩;obtain⟨r1,j1,n1,ad,h2,b1,_,b0⟩:=ut hV O hx;rw[e1]at ad;obtain⟨rfl,rfl,rfl⟩:r'=r1/\j=j1/\n'=n1:=by cases ad;exact⟨rfl,rfl,rfl⟩
       obtain⟨A,H,hv,J⟩:=b1.slice;have M:=jW (P:=P) true xs.length H J (lo.map a.eval) (hi.map a.eval) i n u.1.1 u.1.2 u.2 (X W a w lo 0 i O a9) (X W a w hi _ n O Z) w;have hE:=dx (P:=P) (t:=E') (n:=e.cells) (by simp[bQ,a1,a5,I]) w;have b2:=OwH.rd (m:=false) (E':=E) b1;rw[hv]at b2;have Y:=Rd.cut b2 i.toNat n.toNat (by omega) (by omega);refine aO hV O hd a6 (v:=.slice (if H=i.toNat then A else A.map (·.add (i.toNat*e.cells))) (n.toNat-i.toNat) (H-i.toNat)) ?_
        ⟨BY _,λk hk=>?_,λ_ _ _=>⟨Rd.mono (λk hk=>?_) Y,λi' sz off he=>by cases he⟩⟩ id rfl
       ·simp only[execOp,a4,hv,CS,CZ,B9,run_underlying hu,B5,CV,M,hE,CD]
       ·simp only[Cf]at hk;subst hk;exact Nat.le_of_eq b0.symm
       ·rcases hk with hk|hk
        ·exact .inl hk
        ·exact .inr ⟨_,CG _,hk⟩
      ·cases h
    ·cases h
   ·cases h
theorem zW (Z:ay V)(hT:TOk P T)(J:bN V o){c:Call}(M:o.op=.call c)(hc:c.callee=.builtin .len)(h:act Γ T o st κ=some r):bW P V o st κ r:=by
 simp only[act,wrU,M,hc]at h;split at h
 ·cases h
 ·rename_i d hd;simp only[hd]at h;split at h
  ·rename_i x hx;split at h
   ·rename_i t ht;have y:c.args=#[x]:=by rw[<- Ca (xs:=c.args),hx]
    have O:c.argTypes=#[t]:=by rw[<- Ca (xs:=c.argTypes),ht]
    have Y:=hT t;have I:∀ (a:Act) (w:World) (n:Int),(Ck #[t] o.type #[a.eval x]).run P w=.ok (.int .i64 n) w->(execOp a.eval o).run P w=.ok (.value (.int .i64 n)) w:=by
     intro a w n H;simp[execOp,M,hc,resolve,invoke,builtin,y,O,H]
    split at h
    ·rename_i E e b u;rw[u]at Y;split at h
     ·rename_i n H;refine⟨_,h,λW a w z=>aO Z z hd J (I a w _ ?_) rfl id rfl⟩;have a0:one st x≠.dead:=by intro e;rw[e]at H;simp[aD,gh]at H
      obtain⟨h2,h3,_⟩:=br z x a0;obtain⟨A,a1,X⟩:=xa z h2 h3 H;have X:a.eval x=.slice A n a1:=by simpa using X
      simp[Ck,run_underlying Y.1,X,goInt]
     ·cases h
    ·rename_i s u a2;rw[u]at Y;refine⟨_,h,λW a w z=>aO Z z hd J (I a w _ ?_) rfl id rfl⟩;have X:a.eval x=.string s:=jr Z z a2 (by simp) (by simp[ao]);simp[Ck,run_underlying Y.1,X,goInt]
    ·cases h
   ·cases h
  ·cases h
end
end Go.Proofs.YtadlacffdemoiaaGreatEv
