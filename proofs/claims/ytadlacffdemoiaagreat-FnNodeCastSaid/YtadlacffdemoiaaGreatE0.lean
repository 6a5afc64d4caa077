/- The value evaluator, second form: what a Go function's code computes, on plain values. No proof here but definitions. -/
import Derived.Calls
import Derived.Orders
import Derived.KernelRfl
import Derived.Below
import Derived.Maps.AppendAt
import Derived.Laws.OwnMore
import Derived.Lib.ConvBytes
import Derived.WalkKit
import Derived.Great.BuildSlice
set_option linter.unusedVariables false
set_option linter.unusedSimpArgs false
open Array renaming getD_eq_getD_getElem?->B5,toList_map->CE,toArray_toList->CK
open Bool renaming and_eq_true->BD,not_eq_true'->B9,or_eq_false_iff->CI,not_eq_true->CV
open ByteArray renaming empty->BV
open Go.Act renaming put->Ce
open Go.Builtin renaming len_->CU
open Go.Instr renaming sliceAt->CC,sureAddr->CH,slice->CJ,sliceBounds->CT,index->CX,indexAt->Cc,field->Cg
open Go.Program renaming built->Cd
open Go.Result renaming andThen_ok->BM
open Go.Sem renaming run_bind->BQ,run_pure->BU
open Go.Value renaming oneCell'->BK,ownBlock->BY
open Go.World renaming cell?->Cf
open List renaming getElem?_eq_some_iff->BC,getElem?_eq_getElem->BE,mem_append_right->BF,mem_append_left->BG,mem_append->BN,getElem?_take->BP,replicate->BR,getD_eq_getElem?_getD->BS,getElem?_append_right->BT,mem_singleton_self->BX,append_assoc->BZ,range->B3,getElem?_drop->B6,getElem?_append_left->B7,any_eq_false->CA,mem_cons_of_mem->CG,replicate_succ->CL,mem_cons->CM,length_append->CN,mem_cons_self->CO,mem_singleton->CP,getElem?_map->CR,flatten_cons->CS,cons_append->CW,drop_drop->CZ,map_cons->Cb
open Nat renaming beq->BA,eq_of_beq_eq_true->BB,le_refl->BI,le_trans->BL,lt_of_lt_of_le->BW,blt->B4,ble->B8,add_assoc->CB,lt_succ_self->CD,zero_add->CQ
open Option renaming bind_eq_some_iff->BJ,map_eq_some_iff->BO,map_none->CF,map_some->CY
open Option.some renaming injEq->BH
open Prod.mk renaming injEq->Ca
namespace Go.Proofs.YtadlacffdemoiaaGreatEv
open Go
inductive Ty where
 |int (k:IntKind)|bool|str|unit
 |hdr
 |pair (a b:Ty)
 |list (m:Bool) (E:TypeId) (e:Ty)
 deriving DecidableEq
abbrev Ty.den:Ty->Type
 |.int _=>Int
 |.bool=>Bool
 |.str=>ByteArray
 |.unit=>Unit
 |.hdr=>Nat
 |.pair a b=>a.den×b.den
 |.list _ _ e=>List e.den
def Ty.cells:Ty->Nat
 |.unit=>0
 |.pair a b=>a.cells+b.cells
 |_=>1
def Ty.zero:(a:Ty)->a.den
 |.int _=>(0:Int)
 |.bool=>false
 |.str=>BV
 |.unit=>()
 |.hdr=>(0:Nat)
 |.pair a b=>(a.zero,b.zero)
 |.list _ _ e=>([]:List e.den)
def Ty.flat:Ty->Bool
 |.list _ _ _=>false
 |.pair a b=>a.flat&&b.flat
 |_=>true
def Ty.sh:Ty->Ty
 |.pair a b=>.pair a.sh b.sh
 |.list _ E e=>.list false E e.sh
 |a=>a
def Ty.shy:Ty->Bool
 |.list m _ e=>!m||e.shy
 |.pair a b=>a.shy||b.shy
 |_=>false
theorem mG:∀ a:Ty,a.sh.den=a.den
 |.int _|.bool|.str|.unit|.hdr=>rfl
 |.pair a b=>by
  show (a.sh.den×b.sh.den)=(a.den×b.den);rw[mG a,mG b]
 |.list _ _ e=>congrArg List (mG e)
theorem js {a b:Ty}(h:a.sh=b.sh):a.den=b.den:=(mG a).symm.trans ((congrArg Ty.den h).trans (mG b))
def Ty.eqv:(a:Ty)->a.den->a.den->Bool
 |.int _,x,y=>decide ((x:Int)=y)
 |.bool,x,y=>(x:Bool)==y
 |.str,x,y=>decide ((x:ByteArray)=y)
 |.unit,_,_=>true
 |.hdr,_,_=>false
 |.pair a b,x,y=>a.eqv x.1 y.1&&b.eqv x.2 y.2
 |.list _ _ _,_,_=>false
abbrev Tup:List Ty->Type
 |[]=>Unit
 |a::as=>a.den×Tup as
inductive Leaf where
 |int (k:IntKind) (n:Int)
 |bool (b:Bool)
 |str (s:ByteArray)
 |nil
 |hdr (n:Nat)
 |ro (p:Bool) (E:TypeId) (e:Ty) (xs:List e.den)
 |own (p:Bool) (h:Option (Nat×Nat)) (E:TypeId) (e:Ty) (xs:List e.den)
 |al (r j v:Nat)
 |nal (p:Bool) (ks:List (Nat×Nat×Nat)) (ep:Nat) (loc:Option (Nat×Nat×Nat)) (E:TypeId) (e:Ty) (xs:List e.den)
 |ep (r j v:Nat) (i sz off:Nat)
 |np (p:Bool) (ks:List (Nat×Nat×Nat)) (ep:Nat) (a:Ty) (x:a.den) (off:Nat)
 |rp (p:Bool) (a:Ty) (x:a.den) (off:Nat)
 |rpp (p:Bool) (a:Ty) (x:a.den)
 |bp (b off:Nat)
 |clo (f:FuncId) (caps:List Nat)
 |clr (f:FuncId) (caps:List (Bool×Bool×(a:Ty)×a.den))
 |fn (As:List Ty) (B:Ty) (φ:Tup As->Option B.den)
 |dead
inductive aH where
 |off|und|one|agg
 |tup (ps:List (Bool×Nat))
 deriving DecidableEq
structure bS where
 ver:Nat
 sh:aH
 ls:List Leaf
abbrev St:=Nat->bS
def bS.none:bS:=⟨0,.off,[]⟩
def GH:Nat:=99000
def TMP:Nat:=99998
def EPO:Nat:=99999
def B0:Nat:=100000
abbrev Upd:=List (Nat×bS)
def ac (U:Upd)(st:St)(q:Nat):bS :=
 match U with
 |[]=>st q
 |(r,c)::u=>bif BA q r then c else ac u st q
inductive TI where
 |int (k:IntKind)|bool|str
 |slice (E:TypeId) (e:Ty) (bytes:Nat)
 |struct (a:Ty) (flds:List (Nat×Nat×Bool))
 |arr (e:Ty) (n:Nat)
 |ptr|fn
 |none
def fY:List (TypeId×TI)->TypeId->TI
 |[],_=>.none
 |(t,i)::l,u=>bif BA t u then i else fY l u
def TI.cells:TI->Nat
 |.struct a _=>a.cells
 |.arr e n=>n*e.cells
 |.none=>0
 |_=>1
def TI.agg:TI->Bool
 |.struct _ _=>true
 |.arr _ _=>true
 |_=>false
def eQ:Ty->List Leaf
 |.int k=>[.int k 0]
 |.bool=>[.bool false]
 |.str=>[.str BV]
 |.unit=>[]
 |.hdr=>[.nil]
 |.pair a b=>eQ a++eQ b
 |.list _ _ _=>[.nil]
def TI.zero:TI->List Leaf
 |.int k=>[.int k 0]
 |.bool=>[.bool false]
 |.str=>[.str BV]
 |.slice _ _ _=>[.nil]
 |.struct a _=>eQ a
 |.arr e n=>(BR n (eQ e)).flatten
 |.ptr=>[.dead]
 |.fn=>[.dead]
 |.none=>[]
def aq (p:Bool):(a:Ty)->a.den->List Leaf
 |.int k,n=>[.int k n]
 |.bool,b=>[.bool b]
 |.str,s=>[.str s]
 |.unit,_=>[]
 |.hdr,n=>[.hdr n]
 |.pair a b,x=>aq p a x.1++aq p b x.2
 |.list m E e,r=>[bif m then .own (p&&e.shy) none E e r else .ro p E e r]
def cL (p:Bool):(a:Ty)->a.den->List Leaf
 |.int k,n=>[.int k n]
 |.bool,b=>[.bool b]
 |.str,s=>[.str s]
 |.unit,_=>[]
 |.hdr,n=>[.hdr n]
 |.pair a b,x=>cL p a x.1++cL p b x.2
 |.list _ E e,r=>[.ro p E e r]
def ll (p:Bool)(ks:List (Nat×Nat×Nat))(ep:Nat):(a:Ty)->a.den->List Leaf
 |.int k,n=>[.int k n]
 |.bool,b=>[.bool b]
 |.str,s=>[.str s]
 |.unit,_=>[]
 |.hdr,n=>[.hdr n]
 |.pair a b,x=>ll p ks ep a x.1++ll p ks ep b x.2
 |.list _ E e,r=>[.nal p ks ep none E e r]
def gF (p:Bool)(r j v ep i u:Nat)(h:Option Nat):(a:Ty)->Nat->a.den->List Leaf
 |.int k,_,n=>[.int k n]
 |.bool,_,b=>[.bool b]
 |.str,_,s=>[.str s]
 |.unit,_,_=>[]
 |.hdr,_,n=>[.hdr n]
 |.pair a b,off,x=>gF p r j v ep i u h a off x.1++gF p r j v ep i u h b (off+a.cells) x.2
 |.list m E e,off,y=>[bif decide (h=some off) then .dead else bif m then .nal (p&&e.shy) [(r,j,v)] ep (some (i,u,off)) E e y else .ro p E e y]
def lm (p:Bool)(r j v ep i u:Nat)(h:Option (Bool×Nat)):(a:Ty)->Nat->a.den->List Leaf
 |.int k,_,n=>[.int k n]
 |.bool,_,b=>[.bool b]
 |.str,_,s=>[.str s]
 |.unit,_,_=>[]
 |.hdr,_,n=>[.hdr n]
 |.pair a b,off,x=>lm p r j v ep i u h a off x.1++lm p r j v ep i u h b (off+a.cells) x.2
 |.list m E e,off,y=>[bif (match h with|some (b,o)=>BA o off&&b|Option.none=>false) then .dead else bif m then .nal (p&&e.shy) [(r,j,v)] ep (some (i,u,off)) E e y else .ro p E e y]
def bg (agg:Bool):aH:=bif agg then .agg else .one
def ln:Leaf->Bool
 |.own _ _ _ _ _=>true
 |_=>false
def bm (st:St)(ks:List (Nat×Nat×Nat))(ep:Nat):Bool:=BA (st EPO).ver ep&&ks.all λk=>BA (st k.1).ver k.2.2&&ln ((st k.1).ls.getD k.2.1 .dead)
def pn:Leaf->Leaf
 |.nal _ _ _ _ _ _ _=>.dead
 |l=>l
def aD (st:St):Leaf->Leaf
 |.al r j v=>bif BA (st r).ver v then pn ((st r).ls.getD j .dead) else .dead
 |.nal p y ep u E e z=>bif bm st y ep then .nal p y ep u E e z else .dead
 |l=>l
def lH (t j r:Nat):Leaf->Leaf
 |.own _ _ _ _ _=>.al t j r
 |l=>l
def bF (t r:Nat):Nat->List Leaf->List Leaf
 |_,[]=>[]
 |j,l::u=>lH t j r l::bF t r (j+1) u
def ir:Value->Option Leaf
 |.int k n=>some (.int k n)
 |.bool b=>some (.bool b)
 |.string s=>some (.str s)
 |.slice Option.none 0 0=>some .nil
 |_=>Option.none
def au (st:St):Operand->aH×List Leaf
 |.tmp t=>bif B4 t GH then ((st t).sh,bF t (st t).ver 0 (st t).ls) else (.off,[])
 |.const v=>match ir v with
  |some l=>(.one,[l])
  |Option.none=>(.off,[])
 |.func f=>(.one,[.clo f []])
 |.global _=>(.off,[])
def one (st:St)(x:Operand):Leaf :=
 match au st x with
 |(.one,[l])=>l
 |_=>.dead
def castSh (e e':Ty)(xs:List e'.den):Option (List e.den) :=
 if h:e'.sh=e.sh then some (cast (congrArg List (js h)) xs) else Option.none
def lI (E:TypeId)(e:Ty)(E':TypeId)(e':Ty)(xs:List e'.den):Option (List e.den) :=
 if h:E'=E/\e'=e then some (h.2 ▸ xs) else Option.none
def dh (e:Ty):Leaf->Option (Bool×List e.den)
 |.ro p _ r u=>(castSh e r u).map (p,·)
 |.own p none _ r u=>(castSh e r u).map (p,·)
 |.nal p _ _ _ _ r u=>(castSh e r u).map (p,·)
 |.nil=>some (false,[])
 |_=>Option.none
def fZ:Leaf->Option Nat
 |.ro _ _ _ r=>some r.length
 |.own _ _ _ _ r=>some r.length
 |.nal _ _ _ _ _ _ r=>some r.length
 |.nil=>some 0
 |.hdr n=>some n
 |_=>Option.none
def aZ (st:St):(a:Ty)->List Leaf->Option (Bool×a.den×List Leaf)
 |.int k,r=>match r with
  |.int z n::r=>if k=z then some (false,(n:Int),r) else Option.none
  |_=>Option.none
 |.bool,r=>match r with
  |.bool b::r=>some (false,b,r)
  |_=>Option.none
 |.str,r=>match r with
  |.str s::r=>some (false,s,r)
  |_=>Option.none
 |.unit,r=>some (false,(),r)
 |.hdr,r=>match r with
  |l::r=>match fZ (aD st l) with
   |some n=>some (false,(n:Nat),r)
   |Option.none=>Option.none
  |_=>Option.none
 |.pair a b,r=>match aZ st a r with
  |some (p,x,r)=>match aZ st b r with
   |some (q,y,r)=>some (p||q,(x,y),r)
   |Option.none=>Option.none
  |Option.none=>Option.none
 |.list _ _ e,r=>match r with
  |l::r=>match dh e (aD st l) with
   |some (p,u)=>some (p,u,r)
   |Option.none=>Option.none
  |_=>Option.none
def cQ (st:St)(a:Ty)(ls:List Leaf):Option (Bool×a.den) :=
 match aZ st a ls with
 |some (p,x,[])=>some (p,x)
 |_=>Option.none
structure cM (α:Type) where
 p:Bool
 val:α
 frz:List (Nat×Nat)
 kill:List (Nat×Nat)
 rest:List Leaf
def bu (st:St):List Leaf->List (Nat×Nat)
 |[]=>[]
 |.al r j v::u=>(match aD st (.al r j v) with|.own _ _ _ _ _=>[(r,j)]|_=>[])++bu st u
 |.nal p z ep y E e H::u=>(match aD st (.nal p z ep y E e H) with|.nal _ _ _ _ _ _ _=>z.map (λk=>(k.1,k.2.1))|_=>[])++bu st u
 |_::u=>bu st u
def b6 (st:St):List Leaf->List (Nat×Nat)
 |[]=>[]
 |.al r j v::u=>(match aD st (.al r j v) with|.own _ _ _ _ _=>[(r,j)]|_=>[])++b6 st u
 |_::u=>b6 st u
def take (st : St) : (a : Ty) -> List Leaf -> Option (cM a.den)
  |.int k,u=>(aZ st (.int k) u).map λx=>⟨false,x.2.1,[],[],x.2.2⟩
  |.bool,u=>(aZ st .bool u).map λx=>⟨false,x.2.1,[],[],x.2.2⟩
  |.str,u=>(aZ st .str u).map λx=>⟨false,x.2.1,[],[],x.2.2⟩
  |.unit,u=>some ⟨false,(),[],[],u⟩
  |.hdr,u=>(aZ st .hdr u).map λx=>⟨false,x.2.1,[],[],x.2.2⟩
  |.pair a b,u=>match take st a u with
    |some x=>match take st b x.rest with
      |some y=>some ⟨x.p||y.p,(x.val,y.val),x.frz++y.frz,x.kill++y.kill,y.rest⟩
      |Option.none=>Option.none
    |Option.none=>Option.none
  |.list m E e,u=>match u with
    |[]=>Option.none
    |l::u=>bif m then (match l with
        |.al r j v=>match aD st (.al r j v) with
          |.own p none H I z=>(lI E e H I z).map λz=>⟨p,z,[],[(r,j)],u⟩
          |_=>Option.none
        |.nil=>some ⟨false,([]:List e.den),[],[],u⟩
        |_=>Option.none)
      else match dh e (aD st l) with
        |some (p,z)=>some ⟨p,z,bu st [l],[],u⟩
        |Option.none=>Option.none
def cg (st:St)(a:Ty)(ls:List Leaf):Option (cM a.den) :=
 match take st a ls with
 |some ⟨p,x,f,k,[]⟩=>some ⟨p,x,f,k,[]⟩
 |_=>Option.none
def da (st:St)(off n:Nat):(a:Ty)->Nat->a.den->List Leaf->Option (cM a.den)
 |.pair a b,pos,x,r=>match da st off n a pos x.1 r with
  |some u=>match da st off n b (pos+a.cells) x.2 u.rest with
   |some v=>some ⟨u.p||v.p,(u.val,v.val),u.frz++v.frz,u.kill++v.kill,v.rest⟩
   |Option.none=>Option.none
  |Option.none=>Option.none
 |.int k,pos,x,r=>bif B8 off pos&&B4 pos (off+n) then take st (.int k) r else some ⟨false,x,[],[],r⟩
 |.bool,pos,x,r=>bif B8 off pos&&B4 pos (off+n) then take st .bool r else some ⟨false,x,[],[],r⟩
 |.str,pos,x,r=>bif B8 off pos&&B4 pos (off+n) then take st .str r else some ⟨false,x,[],[],r⟩
 |.unit,_,x,r=>some ⟨false,x,[],[],r⟩
 |.hdr,_,_,_=>Option.none
 |.list m E e,pos,x,r=>bif B8 off pos&&B4 pos (off+n) then take st (.list m E e) r else some ⟨false,x,[],[],r⟩
def bL (off:Nat)(E:TypeId)(e:Ty)(r:List e.den):(a:Ty)->Nat->a.den->Option a.den
 |.pair a b,pos,x=>match bL off E e r a pos x.1 with
  |some u=>some (u,x.2)
  |Option.none=>(bL off E e r b (pos+a.cells) x.2).map λv=>(x.1,v)
 |.list m z y,pos,_=>bif m&&BA pos off then lI z y E e r else Option.none
 |.int _,_,_|.bool,_,_|.str,_,_|.unit,_,_|.hdr,_,_=>Option.none
def aw:List Leaf->List Nat
 |[]=>[]
 |.al r _ _::u=>r::aw u
 |.ep r _ _ _ _ _::u=>r::aw u
 |.nal _ y _ _ _ _ _::u=>EPO::y.map (·.1)++aw u
 |.np _ y _ _ _ _::u=>EPO::y.map (·.1)++aw u
 |_::u=>aw u
def aS (ls:List Leaf)(j:Nat)(l:Leaf):List Leaf:=ls.set j l
def f9 (c:bS)(j:Nat):bS:=⟨c.ver,c.sh,aS c.ls j .dead⟩
def aM (st:St):List (Nat×Nat)->Upd
 |[]=>[]
 |(r,j)::u=>let U:=aM st u;let c:=ac U st r;(r,f9 c j)::U
def uC:Leaf->Leaf
 |.own p none E e r=>.ro p E e r
 |.own _ (some _) _ _ _=>.dead
 |l=>l
def fU (c:bS)(j:Nat):bS:=⟨c.ver,c.sh,aS c.ls j (uC (c.ls.getD j .dead))⟩
def aE (st:St):List (Nat×Nat)->Upd
 |[]=>[]
 |(r,j)::u=>let U:=aE st u;let c:=ac U st r;(r,fU c j)::U
def bV (c:bS):bS:=⟨c.ver+1,c.sh,c.ls⟩
def epoU (st:St):Upd:=[(EPO,bV (st EPO))]
def dw (st:St):List Leaf->List (Nat×Nat)
 |[]=>[]
 |.nal p u ep none E e y::r=>(match aD st (.nal p u ep none E e y) with|.nal _ _ _ _ _ _ _=>u.map (λk=>(k.1,k.2.1))|_=>[])++dw st r
 |_::r=>dw st r
def gi (st:St)(l:Leaf):Leaf:=match aD st l with
 |.nal p _ _ none E e r=>.ro p E e r
 |l=>l
def dH (st:St)(ls:List Leaf):List Leaf:=ls.map (gi st)
def mvU (st:St)(ls:List Leaf):Upd:=let U:=aE st (dw st ls);aM (ac U st) (b6 st ls)++U
def aY:List (Nat×Nat)->Bool
 |[]=>true
 |x::r=>!(r.any λy=>BA x.1 y.1&&BA x.2 y.2)&&aY r
def is (a b:Nat×Nat):Bool:=BA a.1 b.1&&BA a.2 b.2
def dC (a b:List (Nat×Nat)):Bool:=!(a.any λk=>b.any (is k))
def hX (st:St)(ls:List Leaf):Bool:=aY (b6 st ls)&&dC (dw st ls) (b6 st ls)
def sj (st:St):Operand->Bool
 |.tmp q=>BA (st q).ver 7
 |_=>false
def idx {α:Type}(xs:List α)(i:Int):Option α:=if i<0 then Option.none else xs[i.toNat]?
def jt (u r:List Leaf)(off:Nat):List Leaf:=u.take off++r++u.drop (off+r.length)
def sk (r:BinOp)(k:IntKind)(x y:Int):Option Leaf :=
 match r with
 |.add=>some (.int k (k.wrap (x+y)))
 |.sub=>some (.int k (k.wrap (x-y)))
 |.mul=>some (.int k (k.wrap (x*y)))
 |.eql=>some (.bool (x==y))
 |.neq=>some (.bool (x != y))
 |.lss=>some (.bool (decide (x<y)))
 |.leq=>some (.bool (decide (x<=y)))
 |.gtr=>some (.bool (decide (x>y)))
 |.geq=>some (.bool (decide (x>=y)))
 |_=>Option.none
def bc (off:Nat):(a:Ty)->Nat->a.den->Option ((E:TypeId)×(e:Ty)×List e.den)
 |.pair a b,pos,x=>match bc off a pos x.1 with
  |some u=>some u
  |Option.none=>bc off b (pos+a.cells) x.2
 |.list m E e,pos,r=>bif m&&BA pos off then some ⟨E,e,r⟩ else Option.none
 |.int _,_,_|.bool,_,_|.str,_,_|.unit,_,_|.hdr,_,_=>Option.none
def ck (st:St):Leaf->Option (Upd×Leaf)
  |.nal p J ep H E e X=>bif bm st J ep then (match J,H with
      | [(r, j, _)], some (i, R, off) => (match (st r).ls.getD j .dead with
        |.own I none O z u=>bif !BA r TMP&&!BA r EPO&&BA R z.cells then
            (match u[i]? with
            |some y=>match bc off z 0 y with
              |some ⟨E,e,M⟩=>some ([(r,⟨(st r).ver,(st r).sh,aS (st r).ls j (.own I (some (i,off)) O z u)⟩),(TMP,⟨(st TMP).ver+1,.one,[.own (I&&z.shy) none E e M]⟩),(EPO,bV (st EPO))],.al TMP 0 ((st TMP).ver+1))
              |Option.none=>Option.none
            |Option.none=>Option.none)
          else Option.none
        |_=>Option.none)
      |_,_=>Option.none)
    else Option.none
  |_=>Option.none
def jl:Leaf->Bool
 |.nal _ _ _ _ _ _ _=>true
 |_=>false
inductive PK where
 |rd (a:Ty)
 |own (a:Ty)
 |io (a:Ty)
 |rref (a:Ty)
 |rref2 (a:Ty)
 |iop (a:Ty)
 |fn (As:List Ty) (B:Ty)
 |clo (f:FuncId) (cs:List (Bool×Ty))
 |hol (a:Ty) (c off:Nat)
 deriving DecidableEq
inductive RK where
 |v (a:Ty)
 |bv (a:Ty)
 |box (a:Ty)
 deriving DecidableEq
abbrev lJ:List (Bool×Ty)->Type
 |[]=>Unit
 |c::r=>c.2.den×lJ r
abbrev PK.den:PK->Type
 |.rd a|.own a|.io a|.rref a|.rref2 a|.iop a=>a.den
 |.fn r B=>Tup r->Option B.den
 |.clo _ u=>lJ u
 |.hol a _ _=>a.den×Nat
abbrev ab:List PK->Type
 |[]=>Unit
 |p::r=>p.den×ab r
abbrev ah:List PK->Type
 |[]=>Unit
 |.io a::r=>a.den×ah r
 |.iop a::r=>a.den×ah r
 |_::r=>ah r
abbrev RK.den:RK->Type
 |.v a|.bv a|.box a=>a.den
abbrev ai:List RK->Type
 |[]=>Unit
 |r::u=>r.den×ai u
structure Ctr where
 f:FuncId
 ps:List PK
 rs:List RK
 fresh:Bool
 den:ab ps->Option (ai rs×ah ps)
def Ty.isAgg:Ty->Bool
 |.pair _ _|.unit=>true
 |_=>false
def target (st:St):Leaf->Option (List Leaf)
 |.bp b 0=>bif decide ((st b).sh=.agg) then some (bF b (st b).ver 0 (st b).ls) else none
 |.rp p a x 0=>some (cL p a x)
 |.rpp p a x=>some [.rp p a x 0]
 |_=>none
structure Got (α:Type) where
 p:Bool
 val:α
 frz:List (Nat×Nat)
 kill:List (Nat×Nat)
 see:List Nat
 lend:List Nat
def Got.ofRd {α:Type}(r:List Nat)(x:Bool×α)(frz:List (Nat×Nat)):Got α:=⟨x.1,x.2,frz,[],r,[]⟩
def lK (Γ:List Ctr)(f:FuncId):Option Ctr:=match Γ with
 |[]=>none
 |c::r=>bif BA c.f f then some c else lK r f
def cl (x:aH×List Leaf):Leaf :=
 match x with
 |(.one,[l])=>l
 |_=>.dead
def ff:List Leaf->List Nat
 |[]=>[]
 |.bp b _::r=>b::ff r
 |_::r=>ff r
def fg (st:St)(c:Bool×Ty)(l:Leaf):Option (Got c.2.den) :=
 bif c.1 then (match target st l with
  |some [u]=>match target st u with
   |some r=>(cQ st c.2 r).map λy=>.ofRd (ff [l,u]) y (bu st r)
   |none=>none
  |_=>none)
 else match target st l with
  |some r=>(cQ st c.2 r).map λy=>.ofRd (ff [l]) y (bu st r)
  |none=>none
def cz (st:St):(cs:List (Bool×Ty))->List Leaf->Option (Got (lJ cs))
 |[],[]=>some ⟨false,(),[],[],[],[]⟩
 |c::cs,l::r=>match fg st c l with
  |some g=>match cz st cs r with
   |some h=>some ⟨g.p||h.p,(g.val,h.val),g.frz++h.frz,[],g.see++h.see,[]⟩
   |none=>none
  |none=>none
 |_,_=>none
def eK (c:Bool×Bool×(a:Ty)×a.den):Leaf:=bif c.2.1 then .rpp c.1 c.2.2.1 c.2.2.2 else .rp c.1 c.2.2.1 c.2.2.2 0
def be (st : St) : (pk : PK) -> aH × List Leaf -> Option (Got pk.den)
  |.rd a,x=>bif decide (x.1=bg a.isAgg) then (cQ st a x.2).map λy=>.ofRd [] y (bu st x.2) else none
  |.own a,x=>bif decide (x.1=bg a.isAgg) then (cg st a x.2).map λt=>⟨t.p,t.val,t.frz,t.kill,[],[]⟩ else none
  |.io a,x=>bif decide (x.1=bg a.isAgg) then (cg st a x.2).map λt=>⟨t.p,t.val,t.frz,t.kill,[],[]⟩ else none
  |.rref a,x=>fg st (false,a) (cl x)
  |.rref2 a,x=>fg st (true,a) (cl x)
  |.iop a,x=>match cl x with
    |.bp b 0=>bif decide ((st b).sh=.agg) then (cg st a (bF b (st b).ver 0 (st b).ls)).map λt=>⟨t.p,t.val,t.frz,t.kill,[],[b]⟩ else none
    |_=>none
  |.fn I B,x=>match cl x with
    |.fn z M R=>if h:z=I/\M=B then some ⟨false,(h.1 ▸ h.2 ▸ R:Tup I->Option B.den),[],[],[],[]⟩ else none
    |_=>none
  |.clo f J,x=>match cl x with
    |.clo H u=>bif BA H f then cz st J (u.map λb=>.bp b 0) else none
    |.clr H u=>bif BA H f then cz st J (u.map eK) else none
    |_=>none
  |.hol a c off,x=>bif decide (x.1=bg a.isAgg) then (match x.2.getD c .dead with
      |.al r j v=>(match aD st (.al r j v) with
        |.own p (some (i,o)) E e O=>bif BA o off then (match cg st a (aS x.2 c .nil) with
            |some t=>(match bL c E e O a 0 t.val with
              |some y=>some ⟨p||t.p,(y,i),t.frz,(r,j)::t.kill,[],[]⟩
              |none=>none)
            |none=>none) else none
        |_=>none)
      |_=>none) else none
def a7 (ga:(pk:PK)->aH×List Leaf->Option (Got pk.den)):(ps:List PK)->List (aH×List Leaf)->Option (Got (ab ps))
 |[],[]=>some ⟨false,(),[],[],[],[]⟩
 |p::ps,x::r=>match ga p x with
  |some g=>match a7 ga ps r with
   |some h=>some ⟨g.p||h.p,(g.val,h.val),g.frz++h.frz,g.kill++h.kill,g.see++h.see,g.lend++h.lend⟩
   |none=>none
  |none=>none
 |_,_=>none
def uD (st:St):(ps:List PK)->List (aH×List Leaf)->Option (Got (ab ps)):=a7 (be st)
def b7 (st:St):List Leaf->List Leaf->Upd
 |.al r j _::y,l::u=>let U:=b7 st y u;(match l with|.own p h E e ys=>let c:=ac U st r;[(r,⟨c.ver,c.sh,aS c.ls j (.own p h E e ys)⟩),(EPO,bV (ac U st EPO))]|_=>[])++U
 |_::y,_::u=>b7 st y u
 |_,_=>[]
def aG (st:St)(p:Bool):(ps:List PK)->List (aH×List Leaf)->ah ps->Upd
 |[],_,_=>[]
 |.io a::ps,x::r,o=>let U:=aG st p ps r o.2;b7 (ac U st) x.2 (aq p a o.1)++U
 |.iop a::ps,x::r,o=>let U:=aG st p ps r o.2;(match cl x with
  |.bp b _=>let c:=ac U st b;[(b,⟨c.ver+2,.agg,aq p a o.1⟩)]
  |_=>[])++U
 |.rd _::ps,_::r,o=>aG st p ps r o
 |.own _::ps,_::r,o=>aG st p ps r o
 |.rref _::ps,_::r,o=>aG st p ps r o
 |.rref2 _::ps,_::r,o=>aG st p ps r o
 |.fn _ _::ps,_::r,o=>aG st p ps r o
 |.clo _ _::ps,_::r,o=>aG st p ps r o
 |.hol _ _ _::ps,_::r,o=>aG st p ps r o
 |_::_,[],_=>[]
def po (d v:Nat)(p q:Bool)(ks:List (Nat×Nat×Nat))(ep:Nat):(r:RK)->r.den->(Bool×List Leaf)×Upd
 |.v a,y=>((a.isAgg,aq p a y),[])
 |.bv a,y=>((a.isAgg,ll q ks ep a y),[])
 |.box a,y=>((false,[.bp (B0+d) 0]),[(B0+d,⟨v+1,.agg,aq p a y⟩)])
def bD (d v:Nat)(p q:Bool)(ks:List (Nat×Nat×Nat))(ep:Nat):(u:List RK)->ai u->List (Bool×List Leaf)×Upd
 |[],_=>([],[])
 |r::u,y=>let a:=po d v p q ks ep r y.1;let b:=bD d v p q ks ep u y.2;(a.1::b.1,a.2++b.2)
def eL (r:Nat)(l:List (Bool×List Leaf)):bS :=
 match l with
 |[(agg,u)]=>⟨r,bg agg,u⟩
 |l=>⟨r,.tup (l.map λx=>(x.1,x.2.length)),(l.map (·.2)).flatten⟩
def cj (st:St)(U:Upd)(d:Nat)(sh:aH)(ls:List Leaf):Upd:=(d,⟨(ac U st d).ver+1,sh,ls⟩)::U
def PK.reads:PK->Bool
 |.rd _|.rref _|.rref2 _=>true
 |_=>false
def nG (caps:List PK)(z:ab caps):(r:List Ty)->Tup r->ab (r.map .rd++caps)
 |[],_=>z
 |_::as,x=>(x.1,nG caps z as x.2)
def rX (st:St)(u:List Ty)(B:Ty)(ls:List Leaf)(ps:List PK)(H:List RK)(r:Bool)(z:ab ps->Option (ai H×ah ps))(q:List PK):Option (Got (Tup u->Option B.den)) :=
 if h:ps=u.map .rd++q/\H=[.v B] then
  bif q.all PK.reads&&B.flat&&r then
   match uD st q (ls.map λl=>(.one,[l])) with
   |some g=>some ⟨g.p,λx=>(z (h.1 ▸ nG _ g.val u x)).map λy=>(h.2 ▸ y.1:ai [.v B]).1,g.frz,[],g.see,[]⟩
   |none=>none
  else none
 else none
def ku (Γ:List Ctr)(st:St)(r:List Ty)(B:Ty)(f:FuncId)(ls:List Leaf):Option (Got (Tup r->Option B.den)) :=
 match lK Γ f with
 |some c=>rX st r B ls c.ps c.rs c.fresh c.den (c.ps.drop r.length)
 |none=>none
def vp:Leaf->Option (FuncId×List Leaf)
 |.clo f r=>some (f,r.map λb=>.bp b 0)
 |.clr f r=>some (f,r.map eK)
 |_=>none
def ca (Γ:List Ctr)(st:St):(pk:PK)->aH×List Leaf->Option (Got pk.den)
 |.fn r B,x=>match vp (cl x) with
  |some u=>ku Γ st r B u.1 u.2
  |none=>be st (.fn r B) x
 |.rd a,x=>be st (.rd a) x
 |.own a,x=>be st (.own a) x
 |.io a,x=>be st (.io a) x
 |.rref a,x=>be st (.rref a) x
 |.rref2 a,x=>be st (.rref2 a) x
 |.iop a,x=>be st (.iop a) x
 |.clo f y,x=>be st (.clo f y) x
 |.hol a c off,x=>be st (.hol a c off) x
def oI (Γ:List Ctr)(st:St):(ps:List PK)->List (aH×List Leaf)->Option (Got (ab ps)):=a7 (ca Γ st)
def PK.takes:PK->Bool
 |.own _|.io _=>true
 |_=>false
def PK.isIo:PK->Bool
 |.io _=>true
 |_=>false
def pq:Ty->Nat->Bool
 |.pair a b,j=>bif B4 j a.cells then pq a j else pq b (j-a.cells)
 |.list m _ _,j=>m&&BA j 0
 |_,_=>false
def lp (a:Ty):Nat->List Leaf->Option Nat
 |_,[]=>none
 |j,l::r=>bif jl l&&pq a j then some j else lp a (j+1) r
def PK.nest:PK->List Leaf->Option Nat
 |.own a,r=>lp a 0 r
 |.io a,r=>lp a 0 r
 |_,_=>none
def jZ:Leaf->Nat×Nat
 |.nal _ ((r,j,_)::_) _ _ _ _ _=>(r,j)
 |_=>(0,0)
def cX (st:St):List PK->List (aH×List Leaf)->Option (Upd×List (aH×List Leaf)×Option (Bool×Nat×Nat))
 |p::y,x::r=>match p.nest x.2 with
  |some k=>(ck st (x.2.getD k .dead)).map λu=>(u.1,(x.1,aS x.2 k u.2)::r,some (p.isIo,jZ (x.2.getD k .dead)))
  |none=>(cX st y r).map λu=>(u.1,x::u.2.1,u.2.2)
 |_,r=>some ([],r,none)
section
variable {R:Type}
def lL (st : St) (l : Leaf) (Y : Upd -> Leaf -> Option R) : Option R :=
  match l with
  |.nal _ J ep H _ _ _=>bif bm st J ep then (match J,H with
      | [(r, j, _)], some (i, X, off) => (match (st r).ls.getD j .dead with
        |.own I none O z u=>bif !BA r TMP&&!BA r EPO&&BA X z.cells then
            (idx u (i:Int)).bind λy=>match bc off z 0 y with
              |some ⟨E,e,M⟩=>Y [(r,⟨(st r).ver,(st r).sh,aS (st r).ls j (.own I (some (i,off)) O z u)⟩),(TMP,⟨(st TMP).ver+1,.one,[.own (I&&z.shy) none E e M]⟩),(EPO,bV (st EPO))] (.al TMP 0 ((st TMP).ver+1))
              |Option.none=>Option.none
          else Option.none
        |_=>Option.none)
      |_,_=>Option.none)
    else Option.none
  |_=>Option.none
def kv (st:St):List PK->List (aH×List Leaf)->(Upd->List (aH×List Leaf)->Option (Bool×Nat×Nat)->Option R)->Option R
 |p::z,x::u,r=>match p.nest x.2 with
  |some k=>lL st (x.2.getD k .dead) λU l=>r U ((x.1,aS x.2 k l)::u) (some (p.isIo,jZ (x.2.getD k .dead)))
  |none=>kv st z u λU y b=>r U (x::y) b
 |_,u,r=>r [] u none
def iJ (st:St):(r:List Ty)->List (aH×List Leaf)->Option (Tup r)
 |[],[]=>some ()
 |a::as,x::u=>bif decide (x.1=bg a.isAgg) then match cQ st a x.2 with
   |some (_,y)=>(iJ st as u).map (y,·)
   |none=>none
  else none
 |_,_=>none
def RK.isV:RK->Bool
 |.v _|.bv _=>true
 |.box _=>false
def RK.isBv:RK->Bool
 |.bv _=>true
 |_=>false
def gG (st:St)(d:Nat):List RK->Bool
 |[.box _]=>decide ((st (B0+d)).sh=.off)
 |rs=>rs.all RK.isV
def oJ (b:Option (Bool×Nat×Nat))(frz kill:List (Nat×Nat))(d:Nat):Bool :=
 match b with
 |some (true,r,j)=>!(kill.any (is (r,j)))&&!(frz.any (is (r,j)))&&!BA r d&&!BA r (B0+d)
 |_=>true
def jN (st:St)(b:Option (Bool×Nat×Nat))(U:Upd)(H:Upd->Option R):Option R :=
 match b with
 |some (true,r,j) =>
  match (ac U st r).ls.getD j .dead,(ac U st TMP).ls with
  |.own p (some (i,off)) M I u,[.own q none E e J]=>(idx u (i:Int)).bind λy=>match bL off E e J I 0 y with
   |some z=>H ((r,⟨(ac U st r).ver,(ac U st r).sh,aS (ac U st r).ls j (.own (p||q) none M I (u.set i z))⟩)::(TMP,⟨(ac U st TMP).ver+1,.off,[]⟩)::(EPO,bV (ac U st EPO))::U)
   |none=>none
  |_,_=>none
 |_=>H U
def jm (Γ:List Ctr)(st:St)(d:Nat)(f:FuncId)(xs:List (aH×List Leaf))(J:Upd->Option R):Option R :=
 match lK Γ f with
 |some c=>kv st c.ps xs λu xs b =>
  match oI Γ (ac u st) c.ps xs with
  |some g=>bif aY g.kill&&dC g.frz g.kill&&gG st d c.rs&&!(g.see.any λq=>g.lend.any (BA q))&&B8 g.lend.length 1&&(g.lend.isEmpty||!(c.ps.any PK.isIo))&&((c.fresh&&g.lend.isEmpty)||!(c.rs.any RK.isBv))&&(g.kill.all λk=>!BA k.1 EPO)&&oJ b g.frz g.kill d then
   (c.den g.val).bind λy =>
    let I:=(let U:=(bif c.fresh then [] else aE (ac u st) g.frz);aM (ac U (ac u st)) g.kill++U)++u;let z:=aG (ac I st) (g.p&&!c.fresh) c.ps xs y.2++I;let r:=bD d (ac z st (B0+d)).ver (g.p&&!c.fresh) g.p (g.frz.map λk=>(k.1,k.2,(ac z st k.1).ver)) (ac z st EPO).ver c.rs y.1;let H:=r.2++z
    jN st b ((d,eL ((ac H st d).ver+1) r.1)::H) J
   else none
  |none=>none
 |none=>none
def an:Nat:=140737488355328
def fN (st:St)(E:TypeId)(e:Ty)(y:Leaf):Option (cM (List e.den)) :=
 bif e.flat then (dh e (aD st y)).map λx=>⟨false,x.2,[],[],[]⟩
 else bif decide (e.sh=e) then (dh e (aD st y)).map λx=>⟨x.1,x.2,bu st [y],[],[]⟩
 else (cg st (.list true E e) [y]).map λt=>⟨t.p,t.val,t.frz,t.kill,[]⟩
def dS (st u:St)(z:Upd)(d:Nat)(E:TypeId)(e:Ty)(r:Nat)(p:Bool)(xs:List e.den)(ks:List (Nat×Nat))(y:Leaf)(H:Upd->Option R):Option R :=
 match fN u E e y with
 |some t=>bif aY (t.kill++ks)&&dC t.frz (t.kill++ks)&&decide ((xs.length+t.val.length)*r<=an) then
   let U:=aE u t.frz
   H (cj st (aM (ac U u) (t.kill++ks)++U++z) d .one [.own (p||t.p) none E e (xs++t.val)])
  else none
 |none=>none
def el (st:St)(z:Upd)(d:Nat)(E:TypeId)(e:Ty)(u:Nat)(x y:Leaf)(J:Upd->Option R):Option R :=
 match x with
 |.al r j v=>match aD (ac z st) (.al r j v) with
  |.own p none I H M=>bif BA I E&&decide (H.sh=e.sh) then dS st (ac z st) z d I H u p M [(r,j)] y J else none
  |_=>none
 |.nil=>dS st (ac z st) z d E e u false [] [] y J
 |_=>none
def it (st:St)(d:Nat)(E:TypeId)(e:Ty)(r:Nat)(x y:Leaf)(u:Upd->Option R):Option R :=
 bif jl x then lL st x λz x=>el st z d E e r x y u else el st [] d E e r x y u
def di (st:St)(x:Option Operand)(r:Int):Option Int :=
 match x with
 |none=>some r
 |some l=>match one st l with
  |.int _ n=>some n
  |_=>none
def fh (st:St)(r:List (Nat×Nat×Bool)):List (Nat×Operand)->List Leaf->Option (List Leaf)
 |[],u=>some u
 |(i,x)::y,u=>match r[i]? with
  |some (off,n,agg)=>bif BA (au st x).2.length n&&decide ((au st x).1=bg agg)&&decide (off+n<=u.length) then fh st r y (jt u (au st x).2 off) else none
  |none=>none
def ew (st:St)(e:Ty):Nat->List (Nat×Operand)->Option (cM (List e.den))
  |_,[]=>some ⟨false,[],[],[],[]⟩
  |k,(i,x)::r=>bif BA i k&&decide ((au st x).1=bg e.isAgg) then
      match cg st e (au st x).2,ew st e (k+1) r with
      |some t,some u=>some ⟨t.p||u.p,t.val::u.val,t.frz++u.frz,t.kill++u.kill,[]⟩
      |_,_=>none
    else none
def fw (st:St)(e:Ty):Nat->List Leaf->Option (List e.den)
 |0,_=>some []
 |n+1,r=>match cQ st e (r.take e.cells),fw st e n (r.drop e.cells) with
  |some (_,x),some u=>some (x::u)
  |_,_=>none
def sl (st:St)(xs:List Operand):Option (List Nat) :=
 xs.foldl (λ (r:Option (List Nat)) x=>r.bind λl=>match one st x with
  |.bp b 0=>some (l++[b])
  |_=>none) (some [])
def wrU (o:Oper)(st:St)(r:Upd->Option R)(sh:aH)(ls:List Leaf):Option R:=match o.dst with
 |some d=>r (cj st [] d sh ls)
 |none=>none
def cR (h:Option (Nat×Nat))(i:Nat):Option Nat:=match h with
 |some (u,r)=>bif BA u i then some r else none
 |none=>none
def holB (h:Option (Nat×Nat))(i:Nat):Option (Bool×Nat):=match h with
 |some (u,r)=>some (BA u i,r)
 |none=>none
theorem lM (p:Bool)(r j v ep i u:Nat)(h:Option (Nat×Nat))(n:Nat):∀ (a:Ty) (off:Nat) (x:a.den),lm p r j v ep i u (holB h n) a off x=gF p r j v ep i u (cR h n) a off x
 |.int _,_,_|.bool,_,_|.str,_,_|.unit,_,_|.hdr,_,_=>rfl
 |.pair a b,off,x=>by
  show _++_=_++_;rw[lM p r j v ep i u h n a,lM p r j v ep i u h n b]
 |.list m E e,off,I=>by
  simp only[lm,gF];congr 2;cases h with
  |none=>rfl
  |some q =>
   obtain⟨z,H⟩:=q;simp only[holB,cR];by_cases y:BA z n=true
   ·simp only[y,Bool.and_true,cond_true,BH];rw[Bool.eq_iff_iff,Nat.beq_eq,decide_eq_true_eq]
   ·simp only[CV]at y;simp[y]
def gH (st:St)(r j i off:Nat)(n:Nat)(p:Bool)(E:TypeId)(e:Ty)(xs:List e.den)(h:Option (Nat×Nat))(ls:List Leaf)(M:Upd->Option R):Option R :=
 (idx xs (i:Int)).bind λz =>
  match da st off n e 0 z ls with
  |some t=>bif t.rest.isEmpty&&aY t.kill&&dC t.frz t.kill&&!((t.kill++t.frz).any λk=>BA k.1 r) then
    let H:=aE st t.frz;let J:=aM (ac H st) t.kill++H;let u (l:Leaf):Option R:=M ((r,⟨(st r).ver,(st r).sh,aS (st r).ls j l⟩)::(EPO,bV (ac J st EPO))::J)
    match h with
    |none=>u (.own (p||t.p) none E e (xs.set i t.val))
    |some (I,y)=>bif B8 off y&&B4 y (off+n) then (bif BA i I then u (.own (p||t.p) none E e (xs.set i t.val)) else none)
     else u (.own (p||t.p) (some (I,y)) E e (xs.set i t.val))
   else none
  |none=>none
def rY (r:Nat):Bool:=!BA r TMP&&!BA r EPO
def eo (s:ByteArray):List Int:=s.data.toList.map λb=>(b.toNat:Int)
def gI (xs:List Int):ByteArray:=ByteArray.mk (xs.map λn=>UInt8.ofNat n.toNat).toArray
def act (Γ:List Ctr)(T:TypeId->TI)(o:Oper)(st:St)(M:Upd->Option R):Option R :=
 let w (sh:aH) (ls:List Leaf):Option R:=wrU o st M sh ls;let w1 (l:Leaf):Option R:=w .one [l]
 match o.op with
 |.move x=>let v:=au st x;w v.1 v.2
 |.assign x=>match o.dst with
  |some d=>let v:=au st x;bif hX st v.2 then M (cj st (mvU st v.2) d v.1 (dH st v.2)) else none
  |none=>none
 |.pick c a b=>match one st c with
  |.bool t=>bif t then (let v:=au st a;w v.1 v.2) else (let v:=au st b;w v.1 v.2)
  |_=>none
 |.alloc t=>match o.dst with
  |some d=>bif decide ((st (B0+d)).sh=.off)&&!decide ((T t).cells=0) then M ((B0+d,⟨(st (B0+d)).ver+1,.agg,(T t).zero⟩)::cj st [] d .one [.bp (B0+d) 0]) else none
  |none=>none
 |.box t x=>match o.dst with
  |some d=>let v:=au st x
   bif decide ((st (B0+d)).sh=.off)&&decide (v.2.length=(T t).cells)&&decide (v.1=bg (T t).agg)&&hX st v.2 then
    (bif sj st x then M ((B0+d,⟨(st (B0+d)).ver+1,.agg,v.2⟩)::cj st [] d .one [.bp (B0+d) 0])
    else (let U:=mvU st v.2
     M ((B0+d,⟨(ac U st (B0+d)).ver+1,.agg,dH st v.2⟩)::cj st U d .one [.bp (B0+d) 0])))
   else none
  |none=>none
 |.build t H=>match T t with
  |.struct a J=>match fh st J H.toList (eQ a) with
   |some ls=>w .agg ls
   |none=>none
  |.arr e n=>match fh st ((B3 n).map λi=>(i*e.cells,e.cells,e.isAgg)) H.toList (BR n (eQ e)).flatten with
   |some ls=>w .agg ls
   |none=>none
  |_=>none
 |.buildSlice t n H=>match T t with
  |.slice E e _=>match ew st e 0 H.toList with
   |some u=>bif BA u.val.length n&&decide (n*e.cells<=16777216)&&aY u.kill&&dC u.frz u.kill then (match o.dst with
     |some d=>let U:=aE st u.frz;M (cj st (aM (ac U st) u.kill++U) d .one [.own u.p none E e u.val])
     |none=>none) else none
   |none=>none
  |_=>none
 |.load t x =>
  bif decide ((T t).cells=0) then none else
  match one st x with
  |.rp p a y off=>bif decide (off+(T t).cells<=a.cells) then w (bg (T t).agg) (((cL p a y).drop off).take (T t).cells) else none
  |.bp b off=>bif decide ((st b).sh=.agg)&&decide (off+(T t).cells<=(st b).ls.length) then w (bg (T t).agg) (((bF b (st b).ver 0 (st b).ls).drop off).take (T t).cells) else none
  |.rpp p a y=>bif BA (T t).cells 1&&!(T t).agg then w1 (.rp p a y 0) else none
  |.np p Y ep a y off=>bif bm st Y ep&&decide (off+(T t).cells<=a.cells) then w (bg (T t).agg) (((ll p Y ep a y).drop off).take (T t).cells) else none
  |.ep r j v i sz off=>match aD st (.al r j v) with
   |.own p h _ e z=>bif BA sz e.cells&&decide (off+(T t).cells<=e.cells) then (idx z (i:Int)).bind λy=>w (bg (T t).agg) (((lm p r j v (st EPO).ver i sz (holB h i) e 0 y).drop off).take (T t).cells) else none
   |_=>none
  |_=>none
 |.store t x y=>match o.dst with
  |some _=>none
  |none =>
  let v:=(au st y).2
  bif BA v.length (T t).cells&&decide ((au st y).1=bg (T t).agg)&&!decide ((T t).cells=0) then
   match one st x with
   |.bp b off=>bif decide ((st b).sh=.agg)&&decide (off+v.length<=(st b).ls.length)&&hX st v then
     let U:=mvU st v;let c:=ac U st b
     M ((b,⟨c.ver+1,.agg,jt c.ls (dH st v) off⟩)::U)
    else none
   |.ep r j a0 i sz off=>match aD st (.al r j a0) with
    |.own p h E e z=>bif BA sz e.cells&&decide (off+v.length<=e.cells)&&rY r then gH st r j i off v.length p E e z h v M else none
    |_=>none
   |_=>none
  else none
 |.nilCheck x=>match one st x with
  |.rp p a y off=>w1 (.rp p a y off)
  |.bp b off=>w1 (.bp b off)
  |.ep r j v i sz off=>bif BA (st r).ver v then w1 (.ep r j v i sz off) else none
  |.rpp p a y=>w1 (.rpp p a y)
  |.np p Y ep a y off=>bif bm st Y ep then w1 (.np p Y ep a y off) else none
  |_=>none
 |.binOp op t x y _=>match one st x,one st y with
  |.int k a,.int k' b =>
   match op with
   |.shl=>bif decide (b<0) then none else w1 (.int k (k.wrap (a*2 ^ (min b.toNat k.bits))))
   |.shr=>bif decide (b<0) then none else w1 (.int k (a.fdiv (2 ^ (min b.toNat k.bits))))
   |.quo=>bif decide (b=0) then none else bif decide (k=k') then w1 (.int k (k.wrap (a.tdiv b))) else none
   |.rem=>bif decide (b=0) then none else bif decide (k=k') then w1 (.int k (a.tmod b)) else none
   |.and=>bif decide (k=k') then w1 (.int k (k.wrap ((BitVec.ofInt k.bits a &&& BitVec.ofInt k.bits b).toNat))) else none
   |.xor=>bif decide (k=k') then w1 (.int k (k.wrap ((BitVec.ofInt k.bits a ^^^ BitVec.ofInt k.bits b).toNat))) else none
   |_=>bif decide (k=k') then (match sk op k a b with|some l=>w1 l|none=>none) else none
  |.bool a,.bool b=>match T t with
   |.bool=>match op with
    |.eql=>w1 (.bool (a==b))
    |.neq=>w1 (.bool (a != b))
    |_=>none
   |_=>none
  |.str a,.str b=>match op with
   |.eql=>w1 (.bool (a.toList==b.toList))
   |.neq=>w1 (.bool (a.toList != b.toList))
   |.add=>bif decide (a.size+b.size<=9223372036854775807) then w1 (.str (a++b)) else none
   |_=>none
  |_,_=>match T t with
   |.struct a _=>bif a.flat&&decide ((au st x).1=.agg)&&decide ((au st y).1=.agg) then
     match cQ st a (au st x).2,cQ st a (au st y).2 with
     |some (_,u),some (_,v)=>match op with
      |.eql=>w1 (.bool (a.eqv u v))
      |.neq=>w1 (.bool (!a.eqv u v))
      |_=>none
     |_,_=>none
    else none
   |_=>none
 |.unOp op _ x=>match op,one st x with
  |.not,.bool b=>w1 (.bool (!b))
  |.neg,.int k n=>w1 (.int k (k.wrap (0-n)))
  |_,_=>none
 |.convert s t x=>match T s,T t,one st x with
  |.int _,.int k,.int _ n=>w1 (.int k (k.wrap n))
  |.slice _ (.int .u8) _,.str,l=>match dh (.int .u8) (aD st l) with
   |some (_,z)=>w1 (.str (gI z))
   |none=>none
  |.str,.slice E (.int .u8) _,.str s=>bif BA E 5 then w1 (.own false none E (.int .u8) (eo s)) else none
  |_,_,_=>none
 |.makeSlice t n c=>match T t,one st n,one st c with
  |.slice E e X,.int _ a,.int _ b =>
   bif decide (0<=a)&&decide (a=b)&&decide (a*X<=an) then w1 (.own false none E e (BR a.toNat e.zero)) else none
  |_,_,_=>none
 |.slice t x lo hi mx=>match mx,o.dst with
  |none,some d=>match di st lo 0 with
   |none=>none
   |some i=>match T t,aD st (one st x) with
    |.str,.str s=>(match di st hi s.size with
     |some h=>bif decide (0<=i)&&decide (i<=h)&&decide (h<=(s.size:Int)) then M (cj st [] d .one [.str (s.extract i.toNat h.toNat)]) else none
     |none=>none)
    |.slice _ O _,.nal p Y ep _ E e z=>(match di st hi z.length with
     |some h=>bif decide (0<=i)&&decide (i<=h)&&decide (h<=(z.length:Int))&&BA O.cells e.cells then
       M (cj st [] d .one [.nal p Y ep none E e ((z.take h.toNat).drop i.toNat)]) else none
     |none=>none)
    |.slice _ O _,.ro p E e z=>(match di st hi z.length with
     |some h=>bif decide (0<=i)&&decide (i<=h)&&decide (h<=(z.length:Int))&&BA O.cells e.cells then
       M (cj st [] d .one [.ro p E e ((z.take h.toNat).drop i.toNat)]) else none
     |none=>none)
    |.slice _ O _,.own p none E e z=>(match di st hi z.length with
     |some h=>bif decide (0<=i)&&decide (i<=h)&&decide (h<=(z.length:Int))&&BA O.cells e.cells then
       (match one st x with
       |.al r j v=>M (cj st [] d .one [.nal p [(r,j,v)] (st EPO).ver none E e ((z.take h.toNat).drop i.toNat)])
       |_=>none) else none
     |none=>none)
    |_,_=>none
  |some m,some d=>match lo,T t,one st x with
   |none,.slice _ O _,.al r j v=>(match aD st (.al r j v) with
    |.own p none E e z=>(match di st hi z.length,di st (some m) 0 with
     |some h,some k=>bif hi.isSome&&decide (h=(z.length:Int))&&decide (k=(z.length:Int))&&BA O.cells e.cells then M (cj st (aM st [(r,j)]) d .one [.own p none E e z]) else none
     |_,_=>none)
    |_=>none)
   |_,_,_=>none
  |_,_=>none
 |.fieldAddr t x f=>match T t with
  |.struct _ J=>match J[f]? with
   |some (off,_,_)=>match one st x with
    |.rp p a y o'=>w1 (.rp p a y (o'+off))
    |.bp b o'=>w1 (.bp b (o'+off))
    |.ep r j v i sz o'=>bif BA (st r).ver v then w1 (.ep r j v i sz (o'+off)) else none
    |.np p Y ep a y o'=>bif bm st Y ep then w1 (.np p Y ep a y (o'+off)) else none
    |_=>none
   |none=>none
  |_=>none
 |.field t x f=>match T t with
  |.struct a J=>match J[f]? with
   |some (off,n,agg)=>bif decide ((au st x).1=.agg)&&decide ((au st x).2.length=a.cells) then w (bg agg) (((au st x).2.drop off).take n) else none
   |none=>none
  |_=>none
 |.indexAddr t x i=>match one st i with
  |.int _ n=>match T t with
   |.arr e Z=>match one st x with
    |.bp b off=>bif decide (0<=n)&&decide (n<(Z:Int)) then w1 (.bp b (off+n.toNat*e.cells)) else none
    |_=>none
   |.slice _ e _=>match one st x with
    |.al r j v=>match aD st (.al r j v) with
     |.own _ _ _ O z=>bif BA O.cells e.cells then (idx z n).bind λ_=>w1 (.ep r j v n.toNat O.cells 0) else none
     |_=>none
    |.ro p _ O z=>bif BA O.cells e.cells then (idx z n).bind λy=>w1 (.rp p O y 0) else none
    |.nal p Y ep _ _ O z=>bif BA O.cells e.cells&&bm st Y ep then (idx z n).bind λy=>w1 (.np p Y ep O y 0) else none
    |_=>none
   |_=>none
  |_=>none
 |.index t x i=>match one st i with
  |.int _ n=>match T t with
   |.str=>match one st x with
    |.str s=>(idx s.data.toList n).bind λy=>w1 (.int .u8 y.toNat)
    |_=>none
   |.arr e Z=>bif e.flat&&decide ((au st x).1=.agg)&&BA (au st x).2.length (Z*e.cells)&&!BA e.cells 0 then (match fw st e Z (au st x).2 with
     |some vs=>(idx vs n).bind λy=>w (bg e.isAgg) (cL false e y)
     |none=>none) else none
   |_=>none
  |_=>none
 |.extract x i=>match au st x with
  |(.tup ps,ls)=>match ps[i]? with
   |some (agg,n)=>w (bg agg) ((ls.drop ((ps.take i).foldl (λa b=>a+b.2) 0)).take n)
   |none=>none
  |_=>none
 |.makeFunc (.func f) first I=>bif BA first.size 0 then
   match sl st I.toList with
   |some l=>w1 (.clo f l)
   |none=>none
  else none
 |.call c=>match o.dst with
  |none=>none
  |some d=>match c.callee with
   |.value f =>
    let z:=c.args.toList.map (au st)
    match one st f with
    |.clo g I=>jm Γ st d g (z++I.map λb=>(.one,[.bp b 0])) M
    |.clr g I=>jm Γ st d g (z++I.map λc=>(.one,[eK c])) M
    |.fn As B φ=>bif B.flat then match iJ st As z with
      |some x=>(φ x).bind λy=>w (bg B.isAgg) (aq false B y)
      |none=>none
     else none
    |_=>none
   |.builtin .len=>match c.args.toList with
    |[x]=>match c.argTypes.toList with
     |[t]=>match T t,aD st (one st x) with
      |.slice _ _ _,l=>(match fZ l with
       |some n=>w1 (.int .i64 n)
       |none=>none)
      |.str,.str s=>w1 (.int .i64 s.size)
      |_,_=>none
     |_=>none
    |_=>none
   |.builtin .append=>match c.args.toList,c.argTypes.toList with
    |[x,y],[t,u]=>match T t with
     |.slice E e X=>bif BA t u then it st d E e X (one st x) (one st y) M else none
     |_=>none
    |_,_=>none
   |.builtin .min=>match c.args.toList with
    |[x,y]=>match one st x,one st y with
     |.int k a,.int _ b=>w1 (.int k (bif decide (b<a) then b else a))
     |_,_=>none
    |_=>none
   |.builtin .max=>match c.args.toList with
    |[x,y]=>match one st x,one st y with
     |.int k a,.int _ b=>w1 (.int k (bif decide (a<b) then b else a))
     |_,_=>none
    |_=>none
   |_=>none
 |_=>none
def ay:List Leaf->List Nat
 |[]=>[]
 |.al r _ _::u=>r::ay u
 |.ep r _ _ _ _ _::u=>EPO::r::ay u
 |.nal _ z _ _ _ _ _::u=>EPO::z.map (·.1)++ay u
 |.np _ z _ _ _ _::u=>EPO::z.map (·.1)++ay u
 |.bp b _::u=>b::ay u
 |.clo _ y::u=>y++ay u
 |_::u=>ay u
def iu (xs:List Operand):List Nat :=
 match xs with
 |[]=>[]
 |.tmp t::xs=>t::iu xs
 |_::xs=>iu xs
def kw (st:St)(r:List Nat):List Nat :=
 let a:=r.flatMap λt=>ay (st t).ls
 let b:=a.flatMap λt=>ay (st t).ls
 let c:=b.flatMap λt=>ay (st t).ls
 r++a++b++c
def cm (st:St)(u:Op):List Nat :=
 let r:=iu u.operands.toList
 match u with
 |.move _|.pick _ _ _|.build _ _|.field _ _ _|.extract _ _|.makeFunc _ _ _|.unOp _ _ _|.makeSlice _ _ _|.alloc _=>r
 |.slice _ _ _ _ _=>EPO::(r++r.flatMap λt=>aw (st t).ls)
 |.assign _|.box _ _|.buildSlice _ _ _|.indexAddr _ _ _|.nilCheck _|.fieldAddr _ _ _|.convert _ _ _|.binOp _ _ _ _ _|.index _ _ _=>r++r.flatMap λt=>aw (st t).ls
 |.load _ _|.store _ _ _=>r++r.flatMap λt=>ay (st t).ls
 |.call c=>match c.callee with
  |.builtin _=>TMP::(r++r.flatMap λt=>aw (st t).ls)
  |_=>TMP::EPO::kw st r
 |_=>kw st r
def zq (o:Oper):List Nat:=match o.dst with
 |some d=>[d,B0+d]
 |none=>[]
def eR (st:St)(u:Op):List Nat :=
 let r:=iu u.operands.toList
 match u with
 |.move _=>r
 |.indexAddr _ _ _=>r++r.flatMap λt=>aw (st t).ls
 |_=>[]
def fj (st:St)(o:Oper):List Nat:=(match o.op with|.move _|.indexAddr _ _ _=>[]|op=>cm st op)++zq o
def dY (st:St)(o:Oper):List Nat:=match o.op with
 |.store _ x _=>match one st x with
  |.ep r _ _ _ _ _=>[r]
  |_=>[]
 |_=>[]
structure cN where
 rd:List Nat
 hd:List Nat
 wr:List Nat
 cw:List Nat
def lN (a b:List Nat):Bool:=a.any λx=>b.any λy=>BA x y
def cN.apart (x y:cN):Bool:=!lN (x.wr++x.cw) (y.wr++y.cw)&&!lN (x.wr++x.cw) y.rd&&!lN x.rd (y.wr++y.cw)&&!lN x.wr y.hd&&!lN x.hd y.wr
def jD:List Oper->List Nat->List Nat
 |[],r=>r
 |o::u,r=>jD u (r++[o.after.toList.foldl (λs e=>bif Region.binds .any e then s ||| 2 ^ e.on ||| r.getD e.on 0 else s) 0])
def pt (r:List Nat)(u:List cN):Bool :=
 (B3 u.length).all λj=>(B3 j).all λi =>
  (r.getD j 0).testBit i||(match u[i]?,u[j]? with
   |some x,some y=>x.apart y
   |_,_=>false)
def lit (st:St)(t:Nat)(b:Bool):St:=ac [(t,⟨(st t).ver,.one,[.bool b]⟩)] st
def eD (st:St)(o:Oper):Upd :=
 match o.dst with
 |some d=>[(d,⟨(st d).ver+1,.und,[]⟩)]
 |none=>[]
def opK (Γ:List Ctr)(T:TypeId->TI)(y:Array Oper)(o:Oper)(st:St)(H:St->cN->Option R):Option R :=
 let z (st:St) (r:List Nat):Option R:=act Γ T o st (λU=>H (ac U st) ⟨r++fj st o,eR st o.op,(U.map (·.1)).filter (λq=>!((dY st o).any (BA q))),dY st o⟩);let no (st:St) (r:List Nat):Option R:=H (ac (eD st o) st) ⟨r,[],o.dst.toList,[]⟩
 match o.guard with
 |none=>z st []
 |some (j,u)=>match (y[j]?).bind (·.dst) with
  |some t=>match (st t).sh,(st t).ls with
   |.one,[.bool b]=>bif b then (bif u then z (lit st t true) [t] else no (lit st t true) [t]) else (bif u then no (lit st t false) [t] else z (lit st t false) [t])
   |.und,_=>no st [t]
   |_,_=>none
  |none=>none
def ql (Γ:List Ctr)(T:TypeId->TI)(u:Array Oper):List Oper->St->List cN->(St->List cN->Option R)->Option R
 |[],H,z,I=>I H z
 |o::r,H,z,I=>opK Γ T u o H (λy t=>ql Γ T u r y (z++[t]) I)
def nH (ops:Array Oper):Bool:=(B3 ops.size).all λi=>match ops[i]? with
 |some o=>o.after.toList.all λe=>!Region.binds .any e||decide (e.on<i)
 |none=>true
def regK (Γ:List Ctr)(T:TypeId->TI)(ops:Array Oper)(u:Bool)(st:St)(y:St->Option R):Option R :=
 bif u then
  ql Γ T ops ops.toList st [] (λr z=>bif nH ops&&pt (jD ops.toList []) z then y r else none)
 else ql Γ T ops ops.toList st [] (λr _=>y r)
inductive Ex where
 |normal|exit (id:Nat)|ret
def qm (y:St->(Ex->St->Option R)->Option R)(u:Ex->St->Option R):Ex->St->Option R
 |.normal,r=>y r u
 |e,r=>u e r
def sm (id:Nat)(y:Ex->St->Option R):Ex->St->Option R
 |.exit r,u=>bif BA r id then y .normal u else y (.exit r) u
 |e,u=>y e u
def av (L:List (Nat×bS)):St:=λq=>ac L (λ_=>bS.none) q
inductive Coe where
 |keep|kill
 |own (p:Bool) (E:TypeId) (e:Ty)|ro (p:Bool) (E:TypeId) (e:Ty)|rp (p:Bool)
def bt (st:St)(live:List Nat):Coe->Leaf->Leaf
 |.kill,_=>.dead
 |.own p E e,.nil=>.own p none E e []
 |.own p _ _,.own q none E e y=>bif !q||p then .own p none E e y else .dead
 |.ro p E e,.nil=>.ro p E e []
 |.ro p E e,.ro q _ H y=>bif !q||p then (match castSh e H y with | some z=>.ro p E e z | none=>.dead) else .dead
 |.ro p E e,.own q none _ H y=>bif !q||p then (match castSh e H y with | some z=>.ro p E e z | none=>.dead) else .dead
 |.rp p,.rpp q a x=>bif !q||p then .rpp p a x else .dead
 |.rp p,.rp q a x off=>bif !q||p then .rp p a x off else .dead
 |.keep,.int k n=>.int k n
 |.keep,.bool b=>.bool b
 |.keep,.str s=>.str s
 |.keep,.nil=>.nil
 |.keep,.hdr n=>.hdr n
 |.keep,.fn I B M=>.fn I B M
 |.keep,.clr f J=>.clr f J
 |.keep,.bp b off=>bif live.any (BA b) then .bp b off else .dead
 |.keep,.clo f u=>bif u.all (λb=>live.any (BA b)) then .clo f u else .dead
 |.keep,.al r j v=>bif live.any (BA r)&&BA (st r).ver v then .al r j 0 else .dead
 |_,_=>.dead
def cZ (st:St)(live:List Nat):List Coe->List Leaf->List Leaf
 |c::u,l::r=>bt st live c l::cZ st live u r
 |[],_::r=>.dead::cZ st live [] r
 |_,[]=>[]
def lO (live:List (Nat×List Coe))(st:St):St:=av (live.map λr=>(r.1,⟨0,(st r.1).sh,cZ st (live.map (·.1)) r.2 (st r.1).ls⟩))
def gb (live:List (Nat×List Coe))(rec:St->Option R)(u:Ex->St->Option R):Ex->St->Option R
 |.normal,r=>rec (lO live r)
 |e,r=>u e r
def aT (live:List (Nat×List Coe))(y:St->(Ex->St->Option R)->Option R):Nat->St->(Ex->St->Option R)->Option R
 |0,_,_=>none
 |k+1,z,u=>y z (gb live (λr=>aT live y k r u) u)
def eM:Code->Nat
 |.region id _ _=>id+1
 |.seq a b=>match eM a with
  |0=>eM b
  |n=>n
 |.cond _ a b=>match eM a with
  |0=>eM b
  |n=>n
 |.block _ c=>eM c
 |.loop c=>eM c
 |.scope c=>eM c
 |_=>0
def lq (L:List (Nat×List (Nat×List Coe)))(k:Nat):List (Nat×List Coe):=match L with
 |[]=>[]
 |(n,l)::r=>bif BA n k then l else lq r k
def zr (st:St)(c:Operand)(r no:St->Option R):Option R :=
 match c with
 |.tmp t=>match (st t).sh,(st t).ls with
  |.one,[.bool b]=>bif b then r (lit st t true) else no (lit st t false)
  |_,_=>none
 |.const (.bool b)=>bif b then r st else no st
 |_=>none
def evK (Γ:List Ctr)(T:TypeId->TI)(L:List (Nat×List (Nat×List Coe)))(r:Nat):Code->St->(Ex->St->Option R)->Option R
 |.skip,u,z=>z .normal u
 |.region _ I H,u,z=>regK Γ T I H u (z .normal)
 |.seq a b,u,z=>evK Γ T L r a u (qm (evK Γ T L r b) z)
 |.cond c x y,u,z=>zr u c (λu=>evK Γ T L r x u z) (λu=>evK Γ T L r y u z)
 |.block id c,u,z=>evK Γ T L r c u (sm id z)
 |.loop c,u,z=>aT (lq L (eM c)) (evK Γ T L r c) r (lO (lq L (eM c)) u) z
 |.exit id,u,z=>z (.exit id) u
 |.ret,u,z=>z .ret u
 |_,_,_=>none
def sub:Code->List Nat->Code
 |.seq a _,0::p=>sub a p
 |.seq _ b,1::p=>sub b p
 |.cond _ x _,0::p=>sub x p
 |.cond _ _ y,1::p=>sub y p
 |.block _ c,0::p=>sub c p
 |.loop c,0::p=>sub c p
 |c,_=>c
def kAt (u:Code->St->(Ex->St->Option R)->Option R):Code->List Nat->(Ex->St->Option R)->Ex->St->Option R
 |.seq a b,0::p,r=>kAt u a p (qm (u b) r)
 |.seq _ b,1::p,r=>kAt u b p r
 |.cond _ x _,0::p,r=>kAt u x p r
 |.cond _ _ y,1::p,r=>kAt u y p r
 |.block id c,0::p,r=>kAt u c p (sm id r)
 |_,_,r=>r
def cE (fn:Func):Code:=match fn.body with
 |some c=>c
 |none=>.skip
def ae {A:Type}(step:(A->Option R)->A->Option R):Nat->A->Option R
 |0,_=>none
 |k+1,a=>step (ae step k) a
theorem kQ {A:Type}(live:List (Nat×List Coe))(u:St->(Ex->St->Option R)->Option R)(r:Ex->St->Option R)(S:A->St)
  (step:(A->Option R)->A->Option R) (h:∀ (rec:St->Option R) (a:A),u (S a) (gb live rec r)=step (λa=>rec (S a)) a) :
  ∀ (k:Nat) (a:A),aT live u k (S a) r=ae step k a
 |0,_=>rfl
 |k+1,a=>by
  have y:=kQ live u r S step h k;simp only[aT,ae];rw[h];exact congrArg (λg=>step g a) (funext y)
abbrev wr (k:IntKind)(n:Int):Int:=k.wrap n
def bA (k:IntKind)(a b:Int):Int:=k.wrap ((BitVec.ofInt k.bits a &&& BitVec.ofInt k.bits b).toNat)
def qn (k:IntKind)(a b:Int):Int:=k.wrap ((BitVec.ofInt k.bits a ^^^ BitVec.ofInt k.bits b).toNat)
def jO (p:Bool):(cs:List (Bool×Ty))->lJ cs->List (Bool×Bool×(a:Ty)×a.den)
 |[],_=>[]
 |c::cs,x=>(p,c.1,⟨c.2,x.1⟩)::jO p cs x.2
def uE (i off:Nat):Leaf->Leaf
 |.own p _ E e r=>.own p (some (i,off)) E e r
 |l=>l
def dj (t:Nat):(ps:List PK)->ab ps->Upd
 |[],_=>[]
 |.rd a::ps,x=>(t,⟨0,bg a.isAgg,cL true a x.1⟩)::dj (t+1) ps x.2
 |.own a::ps,x=>(t,⟨0,bg a.isAgg,aq true a x.1⟩)::dj (t+1) ps x.2
 |.io a::ps,x=>(t,⟨7,bg a.isAgg,aq true a x.1⟩)::dj (t+1) ps x.2
 |.rref a::ps,x=>(t,⟨0,.one,[.rp true a x.1 0]⟩)::dj (t+1) ps x.2
 |.rref2 a::ps,x=>(t,⟨0,.one,[.rpp true a x.1]⟩)::dj (t+1) ps x.2
 |.iop a::ps,x=>(t,⟨0,.one,[.bp (B0+t) 0]⟩)::(B0+t,⟨0,.agg,aq true a x.1⟩)::dj (t+1) ps x.2
 |.fn r B::ps,x=>(t,⟨0,.one,[.fn r B x.1]⟩)::dj (t+1) ps x.2
 |.clo f u::ps,x=>(t,⟨0,.one,[.clr f (jO true u x.1)]⟩)::dj (t+1) ps x.2
 |.hol a c off::ps,x=>(t,⟨0,bg a.isAgg,aS (aq true a x.1.1) c (uE x.1.2 off ((aq true a x.1.1).getD c .dead))⟩)::dj (t+1) ps x.2
def hY (st:St)(t:Nat):(ps:List PK)->Option (cM (ah ps))
 |[]=>some ⟨false,(),[],[],[]⟩
 |.io a::ps=>match (bif decide ((au st (.tmp t)).1=bg a.isAgg) then cg st a (au st (.tmp t)).2 else none),hY st (t+1) ps with
  |some x,some y=>some ⟨x.p||y.p,(x.val,y.val),x.frz++y.frz,x.kill++y.kill,[]⟩
  |_,_=>none
 |.iop a::ps=>match cg st a (bF (B0+t) (st (B0+t)).ver 0 (st (B0+t)).ls),hY st (t+1) ps with
  |some x,some y=>some ⟨x.p||y.p,(x.val,y.val),x.frz++y.frz,x.kill++y.kill,[]⟩
  |_,_=>none
 |.rd _::ps=>hY st (t+1) ps
 |.own _::ps=>hY st (t+1) ps
 |.rref _::ps=>hY st (t+1) ps
 |.rref2 _::ps=>hY st (t+1) ps
 |.fn _ _::ps=>hY st (t+1) ps
 |.clo _ _::ps=>hY st (t+1) ps
 |.hol _ _ _::ps=>hY st (t+1) ps
def vq (st:St)(T:TypeId->TI):ResultVar->List Leaf
 |.tmp t=>(au st (.tmp t)).2
 |.cell t r=>match one st (.tmp t) with
  |.bp b off=>((bF b (st b).ver 0 (st b).ls).drop off).take (T r).cells
  |_=>[]
def pu (st:St)(T:TypeId->TI):ResultVar->aH
 |.tmp t=>(au st (.tmp t)).1
 |.cell t r=>match one st (.tmp t) with
  |.bp b off=>bif decide ((st b).sh=.agg)&&B8 (off+(T r).cells) (st b).ls.length&&!BA (T r).cells 0 then bg (T r).agg else .off
  |_=>.off
def RK.sh:RK->aH
 |.v a=>bg a.isAgg
 |.bv a=>bg a.isAgg
 |.box _=>.one
def bG (t:Nat):List PK->List Nat
 |[]=>[]
 |.iop _::r=>(B0+t)::bG (t+1) r
 |_::r=>bG (t+1) r
def gj (t:Nat):List PK->List Nat
 |[]=>[]
 |.io _::r=>t::gj (t+1) r
 |.iop _::r=>t::gj (t+1) r
 |_::r=>gj (t+1) r
def rZ (st:St)(z:List Nat):(r:RK)->List Leaf->Option (cM r.den)
 |.v a,u=>cg st a u
 |.bv a,u=>(cQ st a u).map λy=>⟨false,y.2,bu st u,[],[]⟩
 |.box a,u=>match u with
  |[.bp b 0]=>bif !(z.any (BA b)) then cg st a (bF b (st b).ver 0 (st b).ls) else none
  |_=>none
def kd (st:St)(T:TypeId->TI)(H:List Nat):(u:List RK)->List ResultVar->Option (cM (ai u))
 |[],[]=>some ⟨false,(),[],[],[]⟩
 |r::u,x::I=>bif decide (pu st T x=r.sh) then match rZ st H r (vq st T x),kd st T H u I with
  |some y,some z=>some ⟨y.p||z.p,(y.val,z.val),y.frz++z.frz,y.kill++z.kill,[]⟩
  |_,_=>none else none
 |_,_=>none
def finR (T:TypeId->TI)(ps:List PK)(z:List RK)(r:Bool)(u:List ResultVar)(st:St):Option (ai z×ah ps) :=
 match kd st T (bG 0 ps) z u,hY st 0 ps with
 |some y,some o=>bif aY (y.kill++o.kill)&&dC (y.frz++o.frz) (y.kill++o.kill)&&(!r||!(y.p||o.p)) then some (y.val,o.val) else none
 |_,_=>none
def cY (T:TypeId->TI)(ps:List PK)(y:List RK)(r:Bool)(u:List ResultVar):Ex->St->Option (ai y×ah ps)
 |.exit _,_=>none
 |_,z=>finR T ps y r u z
def lr (nt:Nat)(fix:List Nat)(r:Array Oper)(o:Oper):Bool :=
 (match o.dst with
  |some d=>B4 d nt&&!(fix.any (BA d))
  |none=>true) &&
 (match o.guard with
  |some (j,_)=>match (r[j]?).bind (·.dst) with
   |some s=>B4 s nt
   |none=>true
  |none=>true)
def wI (nt:Nat):Operand->Bool
 |.tmp t=>B4 t nt
 |_=>true
def dO (nt:Nat)(fix:List Nat):Code->Bool
 |.region _ r _=>r.toList.all (lr nt fix r)
 |.seq a b=>dO nt fix a&&dO nt fix b
 |.cond c a b=>wI nt c&&dO nt fix a&&dO nt fix b
 |.block _ c=>dO nt fix c
 |.loop c=>dO nt fix c
 |_=>true
def qo:List RK->Bool
 |[.box _]=>true
 |rs=>rs.all RK.isV
def dp (L:List (Nat×List (Nat×List Coe)))(u:List Nat):Code->Bool
 |.seq a b=>dp L u a&&dp L u b
 |.cond _ a b=>dp L u a&&dp L u b
 |.block _ c=>dp L u c
 |.loop c=>(u.all λb=>(lq L (eM c)).any λr=>BA r.1 b)&&dp L u c
 |_=>true
def evF (Γ:List Ctr)(T:TypeId->TI)(L:List (Nat×List (Nat×List Coe)))(u:Nat)(fn:Func)(ps:List PK)(y:List RK)(r:Bool)(x:ab ps):Option (ai y×ah ps) :=
 match fn.body with
 |some c=>bif dO fn.ntmps (gj 0 ps) c&&B8 ps.length fn.ntmps&&B8 fn.ntmps GH&&qo y&&dp L (bG 0 ps) c then
  evK Γ T L u c (av (dj 0 ps x)) (cY T ps y r fn.results.toList) else none
 |none=>none
end
def fH (e:Ty)(r:Nat)(xs:List e.den):Option ((List e.den×Unit)×Unit):=bif decide ((0+xs.length)*r<=an) then some ((xs,()),()) else none
theorem lP (e:Ty)(r:Nat):fH e r []=some (([],()),()):=by
 unfold fH;simp[an]
def lQ:Code->Nat->Oper
 |.region _ r _,i=>(r[i]?).getD ⟨none,.move (.tmp 0),0,"",#[],none⟩
 |_,_=>⟨none,.move (.tmp 0),0,"",#[],none⟩
def fO (e:Ty)(r:Nat)(xs:List e.den)(i:Int)(u:List e.den):Option ((List e.den×Unit)×Unit) :=
 if 0<=i/\i<=(xs.length:Int)/\0<u.length/\(xs.length+u.length)*r<=an then some ((xs.take i.toNat++u++xs.drop i.toNat,()),()) else none
def lR {α:Type}(u:α×Unit->Option Bool):List α->Option (List α)
 |[]=>some []
 |x::y=>(u (x,())).bind λb=>(lR u y).map λr=>bif b then r else x::r
def gJ (e:Ty)(xs:List e.den)(r:e.den×Unit->Option Bool):Option ((List e.den×Unit)×Unit):=if xs.length<=1048576 then (lR r xs).map λu=>((u,()),()) else none
abbrev Ty.hd:Ty->Ty
 |.pair a b=>.pair a.hd b.hd
 |.list _ _ _=>.hdr
 |a=>a
abbrev hdD:(a:Ty)->a.den->a.hd.den
 |.pair a b,x=>(hdD a x.1,hdD b x.2)
 |.list _ _ e,r=>List.length (α:=e.den) r
 |.int _,x=>x
 |.bool,x=>x
 |.str,x=>x
 |.unit,x=>x
 |.hdr,x=>x
noncomputable def zG (e:Ty)(r:Nat)(xs:List e.den):Option ((List e.hd.den×Unit)×Unit):=(fH e r xs).map λy=>((y.1.1.map (hdD e),()),())
def insI (n:Int):List Int->List Int
 |[]=>[n]
 |m::r=>if n<=m then n::m::r else m::insI n r
def zt:List Int->List Int
 |[]=>[]
 |n::r=>insI n (zt r)
def medianM (xs:List Int):Option ((Int×Unit)×Unit) :=
 let l:=zt (xs.drop (xs.length-3))
 some ((l.getD ((l.length-1) / 2) 0,()),())
def aW {R:Type}(x y:ByteArray)(k:ByteArray->Option R):Option R:=bif decide (x.size+y.size<=9223372036854775807) then k (x++y) else none
open Go.RowKit
def cV (w:World)(g off:Nat)(cs:List Value):Prop:=∀ i v,cs[i]?=some v->w.cell? ⟨g,off+i,none⟩=some v
theorem cV.same {w w':World}{g off:Nat}{cs:List Value}(h:cV w g off cs)(r:w'.heap[g]?=w.heap[g]?):cV w' g off cs:=by
 intro i v u;have:=h i v u;simpa[Cf,r]using this
def Rd (w:World)(G:Nat->Prop):(a:Ty)->a.den->List Value->Prop
 |.int k,n,r=>r=[.int k n]
 |.bool,b,r=>r=[.bool b]
 |.str,s,r=>r=[.string s]
 |.unit,_,r=>r=[]
 |.hdr,n,r=>∃ A u,r=[.slice A n u]
 |.pair a b,x,r=>∃ z H,r=z++H/\Rd w G a x.1 z/\Rd w G b x.2 H
 |.list _ _ e,y,r=>∃ A u,r=[.slice A y.length u]/\y.length<=u /\
  (0<y.length->∃ g o,A=some ⟨g,o,none⟩/\G g/\∀ j (x:e.den),y[j]?=some x->∃ c,Rd w G e x c/\cV w g (o+j*e.cells) c)
theorem Rd.carry {w w':World}{G G':Nat->Prop}(u:∀ k,G k->G' k)(r:∀ k,G k->w'.heap[k]?=w.heap[k]?) :
  ∀ {a:Ty} {x:a.den} {cs:List Value},Rd w G a x cs->Rd w' G' a x cs
 |.int _,_,_,h=>h
 |.bool,_,_,h=>h
 |.str,_,_,h=>h
 |.unit,_,_,h=>h
 |.hdr,_,_,h=>h
 |.pair _ _,_,_,⟨J,c2,e,M,h2⟩=>⟨J,c2,e,Rd.carry u r M,Rd.carry u r h2⟩
 |.list _ _ _,_,_,⟨A,y,e,Y,h⟩=>⟨A,y,e,Y,λO=>by
   obtain⟨g,o,I,H,X⟩:=h O;exact⟨g,o,I,u g H,λj x Z=>by
    obtain⟨c,R,z⟩:=X j x Z;exact⟨c,Rd.carry u r R,z.same (r g H)⟩⟩⟩
theorem Rd.mono {w:World}{G G':Nat->Prop}(r:∀ k,G k->G' k){a:Ty}{x:a.den}{cs:List Value}(h:Rd w G a x cs):Rd w G' a x cs :=
 Rd.carry r (λ_ _=>rfl) h
theorem Rd.len {w:World}{G:Nat->Prop}:∀ {a:Ty} {x:a.den} {cs:List Value},Rd w G a x cs->cs.length=a.cells
 |.int _,_,_,h=>by rw[show _=_ from h];rfl
 |.bool,_,_,h=>by rw[show _=_ from h];rfl
 |.str,_,_,h=>by rw[show _=_ from h];rfl
 |.unit,_,_,h=>by rw[show _=_ from h];rfl
 |.hdr,_,_,⟨A,r,e⟩=>by rw[e];rfl
 |.pair _ _,_,_,⟨H,z,e,y,u⟩=>by rw[e,CN,Rd.len y,Rd.len u];rfl
 |.list _ _ _,_,_,⟨A,r,e,_,_⟩=>by rw[e];rfl
theorem Rd.one {w:World}{G:Nat->Prop}:∀ {a:Ty} {x:a.den} {cs:List Value},Rd w G a x cs->∀ v∈cs,v.oneCell'=true
 |.int _,_,_,h=>by rw[show _=_ from h];simp[BK]
 |.bool,_,_,h=>by rw[show _=_ from h];simp[BK]
 |.str,_,_,h=>by rw[show _=_ from h];simp[BK]
 |.unit,_,_,h=>by rw[show _=_ from h];simp
 |.hdr,_,_,⟨A,u,e⟩=>by rw[e];simp[BK]
 |.pair _ _,_,_,⟨I,H,e,z,y⟩=>by
  rw[e];intro v r;rcases BN.1 r with r|r
  ·exact Rd.one z v r
  ·exact Rd.one y v r
 |.list _ _ _,_,_,⟨A,u,e,_,_⟩=>by rw[e];simp[BK]
theorem Rd.flat {w w':World}{G G':Nat->Prop}:∀ {a:Ty} {x:a.den} {cs:List Value},a.flat=true->Rd w G a x cs->Rd w' G' a x cs
 |.int _,_,_,_,h=>h
 |.bool,_,_,_,h=>h
 |.str,_,_,_,h=>h
 |.unit,_,_,_,h=>h
 |.hdr,_,_,_,h=>h
 |.pair _ _,_,_,r,⟨z,y,e,H,u⟩=>by
  simp only[Ty.flat,BD]at r;exact⟨z,y,e,Rd.flat r.1 H,Rd.flat r.2 u⟩
theorem hZ:∀ {a b:Ty},a.sh=b.sh->a.cells=b.cells
 |.pair a b,.pair c d,h=>by
  simp only[Ty.sh,Ty.pair.injEq]at h;simp only[Ty.cells,hZ h.1,hZ h.2]
 |.int _,.int _,_|.int _,.bool,_|.int _,.str,_|.int _,.hdr,_|.int _,.list _ _ _,_=>rfl
 |.bool,.int _,_|.bool,.bool,_|.bool,.str,_|.bool,.hdr,_|.bool,.list _ _ _,_=>rfl
 |.str,.int _,_|.str,.bool,_|.str,.str,_|.str,.hdr,_|.str,.list _ _ _,_=>rfl
 |.hdr,.int _,_|.hdr,.bool,_|.hdr,.str,_|.hdr,.hdr,_|.hdr,.list _ _ _,_=>rfl
 |.list _ _ _,.int _,_|.list _ _ _,.bool,_|.list _ _ _,.str,_|.list _ _ _,.hdr,_|.list _ _ _,.list _ _ _,_=>rfl
 |.unit,.unit,_=>rfl
theorem sn {A u B r:Type}(z:A=u)(H:B=r){x:A×B}{y:u×r}(h:HEq x y):HEq x.1 y.1/\HEq x.2 y.2:=by
 subst z;subst H;cases h;exact⟨HEq.rfl,HEq.rfl⟩
theorem so {A u:Type}(z:A=u){xs:List A}{r:List u}(h:HEq xs r):xs.length=r.length/\∀ (j:Nat) (y:u),r[j]?=some y->∃ x:A,xs[j]?=some x/\HEq x y:=by
 subst z;cases h;exact⟨rfl,λj y H=>⟨y,H,HEq.rfl⟩⟩
theorem Rd.flags {w:World}{G:Nat->Prop}:∀ {a b:Ty} {x:a.den} {y:b.den} {cs:List Value},a.sh=b.sh->HEq x y->Rd w G a x cs->Rd w G b y cs
 |.pair a b,.pair c d,x,y,cs,h,r,⟨R,c2,e,u,J⟩=>by
  simp only[Ty.sh,Ty.pair.injEq]at h;obtain⟨I,z⟩:=sn (js h.1) (js h.2) r;exact⟨R,c2,e,Rd.flags h.1 I u,Rd.flags h.2 z J⟩
 |.list _ _ e,.list _ _ e',xs,ys,cs,h,r,⟨A,H,u,J,I⟩=>by
  simp only[Ty.sh,Ty.list.injEq,true_and]at h;obtain⟨z,h5⟩:=so (js h.2) r;refine⟨A,H,by rw[<- z];exact u,by rw[<- z];exact J,λY=>?_⟩;obtain⟨g,o,M,Z,hx⟩:=I (by rw[z];exact Y);refine⟨g,o,M,Z,λj y hj=>?_⟩;obtain⟨x,h6,h7⟩:=h5 j y hj;obtain⟨c,O,X⟩:=hx j x h6;rw[<- hZ h.2];exact⟨c,Rd.flags h.2 h7 O,X⟩
 |.int k,.int k',x,y,cs,h,r,u=>by
  simp only[Ty.sh]at h
  grind
 |.bool,.bool,x,y,cs,h,r,u=>by cases r;exact u
 |.str,.str,x,y,cs,h,r,u=>by cases r;exact u
 |.unit,.unit,x,y,cs,h,r,u=>u
 |.hdr,.hdr,x,y,cs,h,r,u=>by cases r;exact u
def Row (w:World)(E:TypeId)(s:Nat)(v:Value)(n:Nat)(flat:List Value):Prop :=
 flat.length=n*s/\((v=.slice none 0 0/\n=0) \/
  ∃ g r u mk,v=.slice (some ⟨g,0,none⟩) n r/\w.heap[g]?=some (.cells u E mk)/\n<=r/\(mk=(0,0)/\r<=maxLen\/E=5/\u.size<=mk.1)/\r*s<=u.size/\u.toList.take (n*s)=flat)
theorem Row.of {w:World}{b:Nat}{E:TypeId}{s n:Nat}{v:Value}{flat:List Value}(h:w.ownsRow b E s v n flat):Row w E s v n flat:=by
 refine⟨h.1,h.2.imp id ?_⟩
 grind
theorem Row.same {w w':World}{E:TypeId}{s n:Nat}{v:Value}{flat:List Value}(h:Row w E s v n flat)(H:∀ k∈v.ownBlock.toList,w'.heap[k]?=w.heap[k]?):Row w' E s v n flat:=by
 refine⟨h.1,?_⟩;rcases h.2 with I|⟨g,u,y,mk,rfl,z,r⟩
 ·grind
 ·exact .inr ⟨g,u,y,mk,rfl,by rw[H g (by simp[BY])];exact z,r⟩
theorem Row.lt {w:World}{E:TypeId}{s n:Nat}{v:Value}{flat:List Value}(h:Row w E s v n flat):∀ k∈v.ownBlock.toList,k<w.heap.size:=by
 intro k r;rcases h.2 with ⟨rfl,_⟩|⟨g,u,y,_,rfl,z,_⟩
 ·simp[BY]at r
 ·simp[BY]at r
  grind
theorem Row.slice {w:World}{E:TypeId}{s n:Nat}{v:Value}{flat:List Value}(h:Row w E s v n flat):∃ A r,v=.slice A n r/\n<=r:=by
 rcases h.2 with ⟨rfl,y⟩|⟨g,r,u,_,rfl,_,z,_⟩
 ·grind
 ·grind
theorem Row.nil (w:World)(E:TypeId)(s:Nat):Row w E s (.slice none 0 0) 0 []:=⟨by simp,.inl ⟨rfl,rfl⟩⟩
theorem Row.cellAt {w:World}{E:TypeId}{s n g y:Nat}{flat:List Value}(h:Row w E s (.slice (some ⟨g,0,none⟩) n y) n flat)(j:Nat)(J:j<n*s):w.cell? ⟨g,j,none⟩=flat[j]?:=by
 rcases h.2 with ⟨u,_⟩|⟨M,H,z,mk,u,I,_,_,_,r⟩
 ·grind
 ·simp at u;obtain⟨rfl,rfl⟩:=u;rw[cell_of_row w g j z E mk I,<- r,BP,if_pos J];simp
theorem zu {mk:Nat×Nat}{E z c:Nat}(h:mk=(0,0)/\c<=maxLen\/E=5/\z<=mk.1):mk.2=0\/z<=mk.1:=h.imp (λh=>by rw[h.1]) (·.2)
theorem qS {w:World}{g j:Nat}{cs:Array Value}{E:TypeId}{mk:Nat×Nat}(r:w.heap[g]?=some (.cells cs E mk))(y:mk.2=0\/cs.size<=mk.1)(u:j<cs.size):w.frozen? ⟨g,j,none⟩=false:=by
 simp only[World.frozen?,r,Bool.and_eq_false_iff,decide_eq_false_iff_not];omega
def Mx (w:World)(G:Nat->Prop):(a:Ty)->Option Nat->Nat->a.den->List Value->List Nat->Prop
 |.int k,_,_,n,y,r=>y=[.int k n]/\r=[]
 |.bool,_,_,b,y,r=>y=[.bool b]/\r=[]
 |.str,_,_,s,y,r=>y=[.string s]/\r=[]
 |.unit,_,_,_,y,r=>y=[]/\r=[]
 |.hdr,_,_,n,y,r=>(∃ A J,y=[.slice A n J])/\r=[]
 |.pair a b,h,pos,x,y,r=>∃ M X R O,y=M++X/\r=R++O/\Mx w G a h pos x.1 M R/\Mx w G b h (pos+a.cells) x.2 X O
 |.list m E e,h,pos,I,y,r=>∃ v,y=[v]/\v.oneCell'=true /\
  (if m=true then (if h=some pos then r=[] else ∃ z H,Row w E e.cells v I.length z/\r=v.ownBlock.toList++(B3 I.length).flatMap H /\
    ∀ j (x:e.den),I[j]?=some x->∃ c,Mx w G e none 0 x c (H j)/\∀ i u,c[i]?=some u->z[j*e.cells+i]?=some u)
   else r=[]/\Rd w G (.list m E e) I [v])
def OwB (w:World)(G:Nat->Prop)(h:Option (Nat×Nat))(E:TypeId)(e:Ty)(xs:List e.den)(v:Value)(bs:List Nat):Prop :=
 ∃ r y,Row w E e.cells v xs.length r/\bs=v.ownBlock.toList++(B3 xs.length).flatMap y /\
  ∀ j (x:e.den),xs[j]?=some x->∃ c,Mx w G e (cR h j) 0 x c (y j)/\∀ i u,c[i]?=some u->r[j*e.cells+i]?=some u
def OwH (w:World)(G:Nat->Prop)(h:Option (Nat×Nat))(E:TypeId)(e:Ty)(xs:List e.den)(v:Value)(bs:List Nat):Prop:=bs.Nodup/\OwB w G h E e xs v bs
abbrev Ow (w:World)(G:Nat->Prop)(E:TypeId)(e:Ty)(xs:List e.den)(v:Value)(bs:List Nat):Prop:=OwH w G none E e xs v bs
theorem OwB.one {w:World}{G:Nat->Prop}{h:Option (Nat×Nat)}{E:TypeId}{e:Ty}{xs:List e.den}{v:Value}{bs:List Nat}(H:OwB w G h E e xs v bs):v.oneCell'=true:=by
 obtain⟨r,y,z,_⟩:=H;obtain⟨A,u,rfl,_⟩:=z.slice;rfl
theorem bI {w:World}{G:Nat->Prop}{h:Option Nat}{E:TypeId}{e:Ty}{pos:Nat}{xs:List e.den}{cs:List Value}{bs:List Nat}(r:h≠some pos) :
  Mx w G (.list true E e) h pos xs cs bs<->∃ v,cs=[v]/\OwB w G none E e xs v bs:=by
 simp only[Mx,if_neg r];constructor
 ·rintro⟨v,h1,h2,h3⟩;exact⟨v,h1,h3⟩
 ·rintro⟨v,h1,h3⟩;exact⟨v,h1,h3.one,h3⟩
theorem iZ {w:World}{G:Nat->Prop}{E:TypeId}{e:Ty}{pos:Nat}{xs:List e.den}{cs:List Value}{bs:List Nat} :
  Mx w G (.list true E e) (some pos) pos xs cs bs<->∃ v,cs=[v]/\v.oneCell'=true/\bs=[]:=by
 simp only[Mx,if_true]
theorem cn {w:World}{G:Nat->Prop}{h:Option Nat}{E:TypeId}{e:Ty}{pos:Nat}{xs:List e.den}{cs:List Value}{bs:List Nat} :
  Mx w G (.list false E e) h pos xs cs bs<->bs=[]/\Rd w G (.list false E e) xs cs:=by
 simp only[Mx];constructor
 ·grind
 ·rintro⟨h1,h2⟩;obtain⟨A,r,u,y⟩:=h2;exact⟨_,u,rfl,h1,A,r,rfl,y⟩
theorem dU {n:Nat}{r:Nat->List Nat}{k:Nat}:k∈(B3 n).flatMap r<->∃ j,j<n/\k∈r j:=by simp
theorem Mx.carry {w w':World}{G G':Nat->Prop}(J:∀ k,G k->G' k)(I:∀ k,G k->w'.heap[k]?=w.heap[k]?) :
  ∀ {a:Ty} {h:Option Nat} {pos:Nat} {x:a.den} {cs:List Value} {bs:List Nat},(∀ k∈bs,w'.heap[k]?=w.heap[k]?)->Mx w G a h pos x cs bs->Mx w' G' a h pos x cs bs
 |.int _,_,_,_,_,_,_,h=>h
 |.bool,_,_,_,_,_,_,h=>h
 |.str,_,_,_,_,_,_,h=>h
 |.unit,_,_,_,_,_,_,h=>h
 |.hdr,_,_,_,_,_,_,h=>h
 |.pair _ _,_,_,_,_,_,y,⟨c1,c2,b1,b2,X,M,O,z⟩=>⟨c1,c2,b1,b2,X,M,Mx.carry J I (λk r=>y k (by rw[M];exact BG _ r)) O,Mx.carry J I (λk r=>y k (by rw[M];exact BF _ r)) z⟩
 |.list m E e,h,pos,xs,cs,bs,y,H=>by
  cases m with
  |false =>
   rw[cn]at H ⊢;exact⟨H.1,H.2.carry J I⟩
  |true =>
   by_cases Y:h=some pos
   ·subst Y;rw[iZ]at H ⊢;exact H
   ·rw[bI Y]at H ⊢;obtain⟨v,X,u,R,O,z,h3⟩:=H;refine⟨v,X,u,R,O.same (λk r=>y k (by rw[z];exact BG _ r)),z,λj x Z=>?_⟩;obtain⟨c,h4,h5⟩:=h3 j x Z;refine⟨c,?_,h5⟩;exact Mx.carry J I (λk r=>y k (by rw[z];exact BF _ (dU.2 ⟨j,(BC.1 Z).1,r⟩))) h4
theorem Mx.mono {w:World}{G G':Nat->Prop}(r:∀ k,G k->G' k){a:Ty}{h:Option Nat}{pos:Nat}{x:a.den}{cs:List Value}{bs:List Nat}(H:Mx w G a h pos x cs bs):Mx w G' a h pos x cs bs :=
 Mx.carry r (λ_ _=>rfl) (λ_ _=>rfl) H
theorem OwB.carry {w w':World}{G G':Nat->Prop}{h:Option (Nat×Nat)}{E:TypeId}{e:Ty}{xs:List e.den}{v:Value}{bs:List Nat}(H:OwB w G h E e xs v bs)
  (Z:∀ k,G k->G' k) (R:∀ k,G k->w'.heap[k]?=w.heap[k]?) (I:∀ k∈bs,w'.heap[k]?=w.heap[k]?):OwB w' G' h E e xs v bs:=by
 obtain⟨r,u,O,z,Y⟩:=H;refine⟨r,u,O.same (λk y=>I k (by rw[z];exact BG _ y)),z,λj x J=>?_⟩;obtain⟨c,M,X⟩:=Y j x J;exact⟨c,Mx.carry Z R (λk y=>I k (by rw[z];exact BF _ (dU.2 ⟨j,(BC.1 J).1,y⟩))) M,X⟩
theorem OwH.carry {w w':World}{G G':Nat->Prop}{h:Option (Nat×Nat)}{E:TypeId}{e:Ty}{xs:List e.den}{v:Value}{bs:List Nat}(H:OwH w G h E e xs v bs)
 (u:∀ k,G k->G' k) (y:∀ k,G k->w'.heap[k]?=w.heap[k]?) (r:∀ k∈bs,w'.heap[k]?=w.heap[k]?):OwH w' G' h E e xs v bs:=⟨H.1,H.2.carry u y r⟩
theorem Mx.len {w:World}{G:Nat->Prop}:∀ {a:Ty} {h:Option Nat} {pos:Nat} {x:a.den} {cs:List Value} {bs:List Nat},Mx w G a h pos x cs bs->cs.length=a.cells
 |.int _,_,_,_,_,_,h=>by rw[h.1];rfl
 |.bool,_,_,_,_,_,h=>by rw[h.1];rfl
 |.str,_,_,_,_,_,h=>by rw[h.1];rfl
 |.unit,_,_,_,_,_,h=>by rw[h.1];rfl
 |.hdr,_,_,_,_,_,⟨⟨A,u,e⟩,_⟩=>by rw[e];rfl
 |.pair _ _,_,_,_,_,_,⟨H,O,M,J,y,I,r,z⟩=>by rw[y,CN,r.len,z.len];rfl
 |.list _ _ _,_,_,_,_,_,⟨v,e,_⟩=>by rw[e];rfl
theorem Mx.one {w:World}{G:Nat->Prop}:∀ {a:Ty} {h:Option Nat} {pos:Nat} {x:a.den} {cs:List Value} {bs:List Nat},Mx w G a h pos x cs bs->∀ v∈cs,v.oneCell'=true
 |.int _,_,_,_,_,_,h=>by rw[h.1];simp[BK]
 |.bool,_,_,_,_,_,h=>by rw[h.1];simp[BK]
 |.str,_,_,_,_,_,h=>by rw[h.1];simp[BK]
 |.unit,_,_,_,_,_,h=>by rw[h.1];simp
 |.hdr,_,_,_,_,_,⟨⟨A,y,e⟩,_⟩=>by rw[e];simp[BK]
 |.pair _ _,_,_,_,_,_,⟨I,R,O,M,z,J,u,H⟩=>by
  rw[z];intro v r;rcases BN.1 r with r|r
  ·exact u.one v r
  ·exact H.one v r
 |.list _ _ _,_,_,_,_,_,⟨v,e,u,_⟩=>by rw[e];simpa using u
theorem Mx.lt {w:World}{G:Nat->Prop}:∀ {a:Ty} {h:Option Nat} {pos:Nat} {x:a.den} {cs:List Value} {bs:List Nat},Mx w G a h pos x cs bs->∀ k∈bs,k<w.heap.size
 |.int _,_,_,_,_,_,h=>by rw[h.2];simp
 |.bool,_,_,_,_,_,h=>by rw[h.2];simp
 |.str,_,_,_,_,_,h=>by rw[h.2];simp
 |.unit,_,_,_,_,_,h=>by rw[h.2];simp
 |.hdr,_,_,_,_,_,h=>by rw[h.2];simp
 |.pair _ _,_,_,_,_,_,⟨Z,c2,b1,b2,R,M,u,y⟩=>by
  rw[M];intro k r;rcases BN.1 r with r|r
  ·exact u.lt k r
  ·exact y.lt k r
 |.list m E e,h,pos,xs,cs,bs,H=>by
  cases m with
  |false=>rw[cn]at H;rw[H.1];simp
  |true =>
   by_cases I:h=some pos
   ·subst I;rw[iZ]at H
    grind
   ·rw[bI I]at H;obtain⟨v,R,z,O,u,y,Y⟩:=H;rw[y];intro k r;rcases BN.1 r with r|r
    ·exact u.lt k r
    ·obtain⟨j,X,r⟩:=dU.1 r;obtain⟨c,J,_⟩:=Y j _ (BE X);exact J.lt k r
theorem OwB.lt {w:World}{G:Nat->Prop}{h:Option (Nat×Nat)}{E:TypeId}{e:Ty}{xs:List e.den}{v:Value}{bs:List Nat}(H:OwB w G h E e xs v bs):∀ k∈bs,k<w.heap.size:=by
 obtain⟨u,z,y,M,J⟩:=H;rw[M];intro k r;rcases BN.1 r with r|r
 ·exact y.lt k r
 ·obtain⟨j,I,r⟩:=dU.1 r;obtain⟨c,O,_⟩:=J j _ (BE I);exact O.lt k r
theorem OwH.lt {w:World}{G:Nat->Prop}{h:Option (Nat×Nat)}{E:TypeId}{e:Ty}{xs:List e.den}{v:Value}{bs:List Nat}(H:OwH w G h E e xs v bs):∀ k∈bs,k<w.heap.size:=H.2.lt
theorem OwH.nodup {w:World}{G:Nat->Prop}{h:Option (Nat×Nat)}{E:TypeId}{e:Ty}{xs:List e.den}{v:Value}{bs:List Nat}(H:OwH w G h E e xs v bs):bs.Nodup:=H.1
theorem OwH.slice {w:World}{G:Nat->Prop}{h:Option (Nat×Nat)}{E:TypeId}{e:Ty}{xs:List e.den}{v:Value}{bs:List Nat}(H:OwH w G h E e xs v bs) :
  ∃ A r,v=.slice A xs.length r/\xs.length<=r:=by
 obtain⟨_,u,y,z,_⟩:=H;exact z.slice
theorem OwH.one {w:World}{G:Nat->Prop}{h:Option (Nat×Nat)}{E:TypeId}{e:Ty}{xs:List e.den}{v:Value}{bs:List Nat}(H:OwH w G h E e xs v bs):v.oneCell'=true:=H.2.one
theorem sq {w:World}{m:Bool}{E E':TypeId}{e:Ty}{xs:List e.den}{v:Value}{flat:List Value}{S:Nat->Prop}(H:Row w E e.cells v xs.length flat)(R:∀ k∈v.ownBlock.toList,S k)
  (Y:∀ j (x:e.den),xs[j]?=some x->∃ c,Rd w S e x c/\∀ i u,c[i]?=some u->flat[j*e.cells+i]?=some u):Rd w S (.list m E' e) xs [v]:=by
 rcases H.2 with ⟨rfl,J⟩|⟨g,r,y,mk,rfl,I,O,hm,hs,Z⟩
 ·exact⟨none,0,by rw[J],by omega,λhp=>by omega⟩
 ·refine⟨some ⟨g,0,none⟩,r,rfl,O,λ_=>⟨g,0,rfl,R g (by simp[BY]),λj x X=>?_⟩⟩;obtain⟨c,M,z⟩:=Y j x X;refine⟨c,M,λi u hu=>?_⟩;have:=z i u hu;rw[<- Z,BP]at this;split at this
  ·rw[CQ,cell_of_row w g _ y E mk I]
   simp_all
  ·grind
theorem Mx.rd {w:World}{G S:Nat->Prop}(z:∀ k,G k->S k):∀ {a:Ty} {pos:Nat} {x:a.den} {cs:List Value} {bs:List Nat},(∀ k∈bs,S k)->Mx w G a none pos x cs bs->Rd w S a x cs
 |.int _,_,_,_,_,_,h=>h.1
 |.bool,_,_,_,_,_,h=>h.1
 |.str,_,_,_,_,_,h=>h.1
 |.unit,_,_,_,_,_,h=>h.1
 |.hdr,_,_,_,_,_,h=>h.1
 |.pair _ _,_,_,_,_,u,⟨c1,c2,b1,b2,O,X,I,y⟩=>⟨c1,c2,O,Mx.rd z (λk r=>u k (by rw[X];exact BG _ r)) I,Mx.rd z (λk r=>u k (by rw[X];exact BF _ r)) y⟩
 |.list m E e,pos,xs,cs,bs,u,H=>by
  cases m with
  |false=>rw[cn]at H;exact H.2.mono z
  |true =>
   rw[bI (by simp)]at H;obtain⟨v,O,R,J,I,y,h3⟩:=H;rw[O];refine sq I (λk r=>u k (by rw[y];exact BG _ r)) λj x Y=>?_
   obtain⟨c,Z,h5⟩:=h3 j x Y;have M:Mx w G e none 0 x c (J j):=Z;exact⟨c,Mx.rd z (λk r=>u k (by rw[y];exact BF _ (dU.2 ⟨j,(BC.1 Y).1,r⟩))) M,h5⟩
theorem OwH.rd {w:World}{G:Nat->Prop}{m:Bool}{E E':TypeId}{e:Ty}{xs:List e.den}{v:Value}{bs:List Nat}(H:Ow w G E e xs v bs) :
  Rd w (λk=>G k\/k∈bs) (.list m E' e) xs [v]:=by
 obtain⟨_,z,u,M,J,R⟩:=H;refine sq M (λk r=>.inr (by rw[J];exact BG _ r)) λj x I=>?_
 obtain⟨c,X,O⟩:=R j x I;have y:Mx w G e none 0 x c (u j):=X;exact⟨c,y.rd (λk r=>.inl r) (λk r=>.inr (by rw[J];exact BF _ (dU.2 ⟨j,(BC.1 I).1,r⟩))),O⟩
theorem OwH.nil (w:World)(G:Nat->Prop)(E:TypeId)(e:Ty):Ow w G E e [] (.slice none 0 0) [] :=
 ⟨List.nodup_nil,[],λ_=>[],Row.nil w E e.cells,rfl,λj x r=>by simp at r⟩
theorem Rd.nil (w:World)(G:Nat->Prop)(m:Bool)(E:TypeId)(e:Ty):Rd w G (.list m E e) [] [.slice none 0 0] :=
 ⟨none,0,rfl,BI _,λh=>by simp at h⟩
theorem Mx.flat {w w':World}{G G':Nat->Prop}:∀ {a:Ty} {h:Option Nat} {pos:Nat} {x:a.den} {cs:List Value},a.flat=true->Rd w G a x cs->Mx w' G' a h pos x cs []
 |.int _,_,_,_,_,_,h=>⟨h,rfl⟩
 |.bool,_,_,_,_,_,h=>⟨h,rfl⟩
 |.str,_,_,_,_,_,h=>⟨h,rfl⟩
 |.unit,_,_,_,_,_,h=>⟨h,rfl⟩
 |.hdr,_,_,_,_,_,h=>⟨h,rfl⟩
 |.pair _ _,_,_,_,_,r,⟨z,y,e,H,u⟩=>by
  simp only[Ty.flat,BD]at r;exact⟨z,y,[],[],e,rfl,Mx.flat r.1 H,Mx.flat r.2 u⟩
theorem Mx.shared {w:World}{G:Nat->Prop}:∀ {a:Ty} {h:Option Nat} {pos:Nat} {x:a.den} {cs:List Value},a.sh=a->Rd w G a x cs->Mx w G a h pos x cs []
 |.int _,_,_,_,_,_,h=>⟨h,rfl⟩
 |.bool,_,_,_,_,_,h=>⟨h,rfl⟩
 |.str,_,_,_,_,_,h=>⟨h,rfl⟩
 |.unit,_,_,_,_,_,h=>⟨h,rfl⟩
 |.hdr,_,_,_,_,_,h=>⟨h,rfl⟩
 |.pair _ _,_,_,_,_,r,⟨z,y,e,H,u⟩=>by
  simp only[Ty.sh,Ty.pair.injEq]at r;exact⟨z,y,[],[],e,rfl,Mx.shared r.1 H,Mx.shared r.2 u⟩
 |.list m E e,_,_,_,_,r,h=>by
  simp only[Ty.sh,Ty.list.injEq]at r;obtain⟨rfl,_⟩:=r;exact cn.2 ⟨rfl,h⟩
def db (agg:Bool)(v:Value)(cs:List Value):Prop:=if agg then v=.agg cs.toArray else cs=[v]
def r8 (w:World)(G:Nat->Prop):(y:List Ty)->Tup y->List Value->Prop
 |[],_,u=>u=[]
 |a::as,x,u=>∃ v c r,u=v::r/\db a.isAgg v c/\Rd w G a x.1 c/\r8 w G as x.2 r
def fP (P:Program)(f:FuncId):Prop:=∀ (r:Array Value) (w:World),(callFunc f r).run P w=.ok (.enter f r) w
def ia (P:Program)(w0:World)(S:Nat->Prop)(H:List Ty)(B:Ty)(I:Tup H->Option B.den)(v:Value):Prop :=
 ∃ f z,v=.func (.func f) #[] z/\fP P f /\
  ∀ w1:World,w0.heap.size<=w1.heap.size->(∀ k,S k->w1.heap[k]?=w0.heap[k]?) ->
   ∀ (x:Tup H) (r:List Value) (y:B.den),r8 w1 (λk=>k<w1.heap.size) H x r->I x=some y ->
    Calls P f (r.toArray++z) w1 (λe w2=>∃ u c,e=.returned u/\db B.isAgg u c/\Rd w2 (λ_=>False) B y c/\Below w1.heap.size w1 w2)
structure Env where
 w0:World
 ro0:Nat->Prop
 own0:List Nat
 nt:Nat
 fixb:List (Nat×Nat)
 fixt:List (Nat×Value)
def Env.prot (V:Env)(k:Nat):Prop:=k<V.w0.heap.size/\k∉V.own0
structure Wit where
 β:Nat->Nat
 cs:Nat->List Value
 bs:Nat->Nat->List Nat
 nw:Nat->Prop
def gd (V:Env)(W:Wit)(p:Bool)(k:Nat):Prop:=W.nw k\/(p=true/\V.ro0 k)
def ao:Leaf->Prop
 |.own _ _ _ _ _=>True
 |_=>False
def RpOk (V:Env)(W:Wit)(w:World)(p:Bool)(a:Ty)(x:a.den)(off:Nat)(v:Value):Prop :=
 ∃ g o c,v=.pointer (some ⟨g,o+off,none⟩)/\(W.nw g\/V.prot g)/\Rd w (gd V W p) a x c/\cV w g o c
def r9 (V:Env)(W:Wit)(w:World)(p:Bool)(a:Ty)(x:a.den)(v:Value):Prop :=
 ∃ b r g o c,v=.pointer (some ⟨b,r,none⟩)/\(W.nw b\/V.prot b)/\w.cell? ⟨b,r,none⟩=some (.pointer (some ⟨g,o,none⟩)) /\
  (W.nw g\/V.prot g)/\Rd w (gd V W p) a x c/\cV w g o c
def iK (V:Env)(W:Wit)(w:World)(c:Bool×Bool×(a:Ty)×a.den)(v:Value):Prop :=
 if c.2.1=true then r9 V W w c.1 c.2.2.1 c.2.2.2 v else RpOk V W w c.1 c.2.2.1 c.2.2.2 0 v
def sa (st:St)(ks:List (Nat×Nat×Nat)):Prop:=∀ k∈ks,∃ l,(st k.1).ls[k.2.1]?=some l/\ao l
structure sb (V:Env) (W:Wit) (w:World) (p:Bool) (ks:List (Nat×Nat×Nat)) (loc:Option (Nat×Nat×Nat)) (E:TypeId) (e:Ty) (xs:List e.den) (v:Value):Prop where
 rd:Rd w (λb=>gd V W p b\/∃ k∈ks,b∈W.bs k.1 k.2.1) (.list false E e) xs [v]
 at_:∀ i sz off,loc=some (i,sz,off)->∃ r j n,ks=[(r,j,n)]/\∃ g len cap,(W.cs r)[j]?=some (.slice (some ⟨g,0,none⟩) len cap)/\i<len/\g∈W.bs r j/\w.cell? ⟨g,i*sz+off,none⟩=some v
structure NpOk (V:Env) (W:Wit) (w:World) (p:Bool) (ks:List (Nat×Nat×Nat)) (a:Ty) (x:a.den) (off:Nat) (v:Value):Prop where
 rd:∃ g o c,v=.pointer (some ⟨g,o+off,none⟩)/\(gd V W p g\/∃ k∈ks,g∈W.bs k.1 k.2.1)/\Rd w (λb=>gd V W p b\/∃ k∈ks,b∈W.bs k.1 k.2.1) a x c/\cV w g o c
def aK (P:Program)(V:Env)(W:Wit)(st:St)(w:World)(bs:List Nat):Leaf->Value->Prop
 |.int k n,v=>v=.int k n
 |.bool b,v=>v=.bool b
 |.str s,v=>v=.string s
 |.nil,v=>v=.slice none 0 0
 |.hdr n,v=>∃ A H,v=.slice A n H
 |.ro p E e J,v=>Rd w (gd V W p) (.list false E e) J [v]
 |.own p h E e J,v=>OwH w (gd V W p) h E e J v bs
 |.al r j n,v=>n<=(st r).ver/\((st r).ver=n->(W.cs r)[j]?=some v)
 |.nal p z ep O E e J,v=>ep<=(st EPO).ver/\(∀ k∈z,k.2.2<=(st k.1).ver)/\((st EPO).ver=ep->(∀ k∈z,(st k.1).ver=k.2.2)->sa st z->sb V W w p z O E e J v)
 |.ep r j n i X off,v=>n<=(st r).ver/\((st r).ver=n->∃ g I H,(W.cs r)[j]?=some (.slice (some ⟨g,0,none⟩) I H)/\i<I/\v=.pointer (some ⟨g,i*X+off,none⟩))
 |.np p z ep a x off,v=>ep<=(st EPO).ver/\(∀ k∈z,k.2.2<=(st k.1).ver)/\((st EPO).ver=ep->(∀ k∈z,(st k.1).ver=k.2.2)->sa st z->NpOk V W w p z a x off v)
 |.rp p a x off,v=>RpOk V W w p a x off v
 |.rpp p a x,v=>r9 V W w p a x v
 |.bp b off,v=>B0<=b/\(st b).sh=.agg/\v=.pointer (some ⟨W.β b,off,none⟩)
 |.clo f y,v=>v=.func (.func f) #[] (y.map λb=>Value.pointer (some ⟨W.β b,0,none⟩)).toArray/\∀ b∈y,B0<=b/\(st b).sh=.agg
 |.clr f y,v=>∃ M:List Value,v=.func (.func f) #[] M.toArray/\M.length=y.length/\∀ (i:Nat) (c:Bool×Bool×(a:Ty)×a.den) (u:Value),y[i]?=some c->M[i]?=some u->iK V W w c u
 |.fn R B Y,v=>ia P V.w0 V.prot R B Y v
 |.dead,_=>True
def pv:List (Bool×Nat)->List Value->List Value->Prop
 |[],z,y=>z=[]/\y=[]
 |(agg,n)::H,z,y=>∃ v r c u,z=v::r/\y=c++u/\c.length=n/\db agg v c/\pv H r u
def d9:aH->Value->List Value->Prop
 |.off,_,r=>r=[]
 |.und,v,r=>v=undef/\r=[]
 |.one,v,r=>r=[v]
 |.agg,v,r=>v=.agg r.toArray
 |.tup y,v,r=>∃ u,v=.tuple u.toArray/\pv y u r
def live (st:St)(b:Nat):Prop:=B0<=b/\(st b).sh=.agg
structure ap (P:Program) (V:Env) (W:Wit) (st:St) (a:Act) (w:World):Prop where
 nt:a.tmps.size=V.nt
 df:a.defers=[]
 slots:∀ t,t<GH->d9 (st t).sh (a.tmps.getD t undef) (W.cs t)
 boxes:∀ b,B0<=b->((st b).sh=.off/\(st b).ls=[])\/((st b).sh=.agg/\∃ E,w.heap[W.β b]?=some (.cells (W.cs b).toArray E (0,0)))
 len:∀ r,(st r).ls.length=(W.cs r).length
 one:∀ r,∀ v∈W.cs r,v.oneCell'=true
 leaf:∀ r j l v,(st r).ls[j]?=some l->(W.cs r)[j]?=some v->aK P V W st w (W.bs r j) l v
 ownb:∀ r j l,(st r).ls[j]?=some l->ao l->∀ k∈W.bs r j,¬ W.nw k/\¬ V.prot k/\∀ b,live st b->W.β b≠k
 sep:∀ r j l r' j' l',(st r).ls[j]?=some l->ao l->(st r').ls[j']?=some l'->ao l'->∀ k,k∈W.bs r j->k∈W.bs r' j'->r=r'/\j=j'
 box:∀ b,live st b->¬ W.nw (W.β b)/\¬ V.prot (W.β b)
 inj:∀ b b',live st b->live st b'->W.β b=W.β b'->b=b'
 nwlt:∀ k,W.nw k->k<w.heap.size/\¬ V.prot k
 os:w.os=V.w0.os
 tape:w.tape=V.w0.tape
 output:w.output=V.w0.output
 size:V.w0.heap.size<=w.heap.size
 keep:∀ k,V.prot k->w.heap[k]?=V.w0.heap[k]?
 fixb:∀ x∈V.fixb,live st x.1/\W.β x.1=x.2
 fixt:∀ x∈V.fixt,a.tmps.getD x.1 undef=x.2
def Rel (P:Program)(V:Env)(st:St)(a:Act)(w:World):Prop:=∃ W,ap P V W st a w
structure ax (V:Env):Prop where
 ro:∀ k,V.ro0 k->V.prot k
 nt:V.nt<=GH
theorem ax.ntB {V:Env}(h:ax V):V.nt<=B0:=BL h.nt (by decide)
section
variable {P:Program} {V:Env} {W W':Wit} {st st':St} {w w':World}
theorem bU {p q:Bool}(y:p=true->q=true)(u:∀ k,W.nw k->W'.nw k):∀ k,gd V W p k->gd V W' q k:=by
 intro k r;rcases r with r|⟨z,r⟩
 ·exact .inl (u k r)
 ·exact .inr ⟨y z,r⟩
structure cF (V:Env) (W W':Wit) (st st':St) (w w':World):Prop where
 ver:∀ r,(st r).ver<=(st' r).ver/\((st' r).ver=(st r).ver->W'.cs r=W.cs r)
 box:∀ b,live st b->live st' b/\W'.β b=W.β b
 nw:∀ k,W.nw k->W'.nw k
 heap:∀ k,(W.nw k\/V.prot k)->w'.heap[k]?=w.heap[k]?
 epo:(st' EPO).ver=(st EPO).ver->∀ (r j:Nat) (l:Leaf),(st' r).ls[j]?=some l->ao l->(st' r).ver=(st r).ver ->
  (∃ l',(st r).ls[j]?=some l'/\ao l')/\W'.bs r j=W.bs r j/\∀ k∈W.bs r j,w'.heap[k]?=w.heap[k]?
theorem cF.refl (V:Env)(W:Wit)(st:St)(w:World):cF V W W st st w w :=
 ⟨λ_=>⟨BI _,λ_=>rfl⟩,λ_ r=>⟨r,rfl⟩,λ_ h=>h,λ_ _=>rfl,λ_ _ _ l y u _=>⟨⟨l,y,u⟩,rfl,λ_ _=>rfl⟩⟩
theorem kx {w w':World}{a:Addr}(h:w'.heap[a.block]?=w.heap[a.block]?):w'.cell? a=w.cell? a:=by simp[Cf,h]
theorem cF.gdheap (u:∀ k,V.ro0 k->V.prot k)(h:cF V W W' st st' w w')(p:Bool):∀ k,gd V W p k->w'.heap[k]?=w.heap[k]?:=by
 intro k r;rcases r with r|⟨_,r⟩
 ·exact h.heap k (.inl r)
 ·exact h.heap k (.inr (u k r))
theorem wJ {ks:List (Nat×Nat×Nat)}{ep:Nat}(r:cF V W W' st st' w w')(I:ep<=(st EPO).ver)(y:∀ k∈ks,k.2.2<=(st k.1).ver)(H:(st' EPO).ver=ep)(z:∀ k∈ks,(st' k.1).ver=k.2.2) :
  (st EPO).ver=ep/\∀ k∈ks,(st k.1).ver=k.2.2 :=
 ⟨by have:=(r.ver EPO).1;omega,λk u=>by have:=(r.ver k.1).1;have:=y k u;have:=z k u;omega⟩
theorem cF.places {ks:List (Nat×Nat×Nat)}{ep:Nat}(J:cF V W W' st st' w w')(I:sa st' ks)(O:(st EPO).ver=ep)(M:∀ k∈ks,(st k.1).ver=k.2.2)
  (R:(st' EPO).ver=ep) (H:∀ k∈ks,(st' k.1).ver=k.2.2) :
  ∀ k∈ks,(∃ u,(st k.1).ls[k.2.1]?=some u/\ao u)/\W'.bs k.1 k.2.1=W.bs k.1 k.2.1/\∀ b∈W.bs k.1 k.2.1,w'.heap[b]?=w.heap[b]?:=λk r=>by
 obtain⟨l,y,z⟩:=I k r;exact J.epo (by omega) k.1 k.2.1 l y z (by rw[H k r,M k r])
theorem aK.carry (J:∀ k,V.ro0 k->V.prot k){bs bs':List Nat}{l:Leaf}{v:Value}(h:aK P V W st w bs l v)(y:cF V W W' st st' w w')
  (a1:ao l->bs'=bs/\∀ k∈bs,w'.heap[k]?=w.heap[k]?):aK P V W' st' w' bs' l v:=by
 have hG:∀ p k,gd V W p k->gd V W' p k:=λp=>bU (λh=>h) y.nw
 have hP:∀ k,(W.nw k\/V.prot k)->(W'.nw k\/V.prot k):=λk M=>M.imp (y.nw k) id
 have hR:∀ {p:Bool} {a:Ty} {x:a.den} {off:Nat} {v:Value},RpOk V W w p a x off v->RpOk V W' w' p a x off v:=by
  rintro p a x off v ⟨g,o,c,Z,Y,hr,hc⟩;exact⟨g,o,c,Z,hP g Y,Rd.carry (hG p) (y.gdheap J p) hr,hc.same (y.heap g Y)⟩
 have a5:∀ {p:Bool} {a:Ty} {x:a.den} {v:Value},r9 V W w p a x v->r9 V W' w' p a x v:=by
  rintro p a x v ⟨b,ob,g,o,c,Z,H,a0,Y,hr,hc⟩;exact⟨b,ob,g,o,c,Z,hP b H,by rw[kx (y.heap b H)];exact a0,hP g Y,Rd.carry (hG p) (y.gdheap J p) hr,hc.same (y.heap g Y)⟩
 cases l with
 |int k n=>exact h
 |bool b=>exact h
 |str s=>exact h
 |nil=>exact h
 |hdr n=>exact h
 |ro p E e xs=>exact Rd.carry (hG p) (y.gdheap J p) h
 |own p hh E e xs =>
  obtain⟨rfl,H⟩:=a1 trivial;exact OwH.carry h (hG p) (y.gdheap J p) H
 |nal p ks ep a9 E e xs =>
  obtain⟨z,I,O⟩:=h;refine⟨BL z (y.ver EPO).1,λk M=>BL (I k M) (y.ver k.1).1,λhe M ho=>?_⟩;obtain⟨e1,e2⟩:=wJ y z I he M;have h5:=y.places ho e1 e2 he M;have X:=O e1 e2 (λk R=>(h5 k R).1);refine⟨Rd.carry ?_ ?_ X.rd,λi sz off hl=>?_⟩
  ·grind
  ·rintro b (H|⟨k,R,H⟩)
   ·exact y.gdheap J p b H
   ·grind
  ·obtain⟨r,j,n,rfl,g,a4,a6,h6,h7,h8,h9⟩:=X.at_ i sz off hl;have R:(r,j,n)∈[(r,j,n)]:=CO ..;have a3:(st' r).ver=(st r).ver:=(M _ R).trans (e2 _ R).symm;refine⟨r,j,n,rfl,g,a4,a6,by rw[(y.ver r).2 a3];exact h6,h7,by rw[(h5 _ R).2.1];exact h8,?_⟩;rw[kx ((h5 _ R).2.2 g h8)];exact h9
 |np p ks ep a x off =>
  obtain⟨z,I,O⟩:=h;refine⟨BL z (y.ver EPO).1,λk M=>BL (I k M) (y.ver k.1).1,λhe M ho=>?_⟩;obtain⟨e1,e2⟩:=wJ y z I he M;have h5:=y.places ho e1 e2 he M;have X:=O e1 e2 (λk R=>(h5 k R).1);have hS:∀ b,(gd V W p b\/∃ k∈ks,b∈W.bs k.1 k.2.1)->(gd V W' p b\/∃ k∈ks,b∈W'.bs k.1 k.2.1):=by
   grind
  have hW:∀ b,(gd V W p b\/∃ k∈ks,b∈W.bs k.1 k.2.1)->w'.heap[b]?=w.heap[b]?:=by
   rintro b (H|⟨k,R,H⟩)
   ·exact y.gdheap J p b H
   ·grind
  obtain⟨g,o,c,Z,Y,hr,hc⟩:=X.rd;exact⟨g,o,c,Z,hS g Y,Rd.carry hS hW hr,hc.same (hW g Y)⟩
 |al r j n =>
  obtain⟨z,I⟩:=h;obtain⟨O,X⟩:=y.ver r;refine⟨BL z O,λZ=>?_⟩
  grind
 |ep r j n i sz off =>
  obtain⟨z,I⟩:=h;obtain⟨O,X⟩:=y.ver r;refine⟨BL z O,λZ=>?_⟩
  grind
 |rp p a x off=>exact hR h
 |rpp p a x=>exact a5 h
 |clr f a2 =>
  obtain⟨us,z,I,O⟩:=h;refine⟨us,z,I,λi c u hc hu=>?_⟩;have X:=O i c u hc hu;unfold iK at X ⊢
  grind
 |bp b off =>
  obtain⟨z,I,O⟩:=h;obtain⟨X,h5⟩:=y.box b ⟨z,I⟩;exact⟨z,X.2,by rw[h5];exact O⟩
 |clo f a2 =>
  obtain⟨z,I⟩:=h;refine⟨?_,λb H=>(y.box b (I b H)).1⟩;rw[z];congr 2;refine List.map_congr_left λb H=>?_
  rw[(y.box b (I b H)).2]
 |fn As B φ=>exact h
 |dead=>trivial
def aC (P:Program)(V:Env)(W:Wit)(st:St)(w:World):List Leaf->List Value->Prop
 |[],[]=>True
 |l::r,v::u=>(aK P V W st w [] l v/\¬ ao l/\v.oneCell'=true)/\aC P V W st w r u
 |_,_=>False
theorem aC.length:∀ {ls:List Leaf} {cs:List Value},aC P V W st w ls cs->ls.length=cs.length
 |[],[],_=>rfl
 |_::_,_::_,h=>by simp[aC.length h.2]
theorem aC.at_:∀ {ls:List Leaf} {cs:List Value},aC P V W st w ls cs->∀ (j:Nat) (l:Leaf) (v:Value),ls[j]?=some l->cs[j]?=some v->aK P V W st w [] l v/\¬ ao l/\v.oneCell'=true
 |_::_,_::_,h,0,l,v,u,r=>by
  simp at u r;subst u;subst r;exact h.1
 |_::_,_::_,h,j+1,l,v,u,r=>aC.at_ h.2 j l v (by simpa using u) (by simpa using r)
theorem aC.one':∀ {ls:List Leaf} {cs:List Value},aC P V W st w ls cs->∀ v∈cs,v.oneCell'=true
 |[],[],_,_,r=>by simp at r
 |_::_,_::_,h,v,r=>by
  rcases CM.1 r with rfl|r
  ·exact h.1.2.2
  ·exact aC.one' h.2 v r
theorem aC.mk:∀ {ls:List Leaf} {cs:List Value},ls.length=cs.length->(∀ (j:Nat) (l:Leaf) (v:Value),ls[j]?=some l->cs[j]?=some v->aK P V W st w [] l v/\¬ ao l/\v.oneCell'=true)->aC P V W st w ls cs
 |[],[],_,_=>trivial
 |_::_,_::_,h,H=>⟨H 0 _ _ rfl rfl,aC.mk (by simpa using h) λj l v u r=>H (j+1) l v (by simpa using u) (by simpa using r)⟩
theorem aC.drop {ls:List Leaf}{cs:List Value}(h:aC P V W st w ls cs)(n:Nat):aC P V W st w (ls.drop n) (cs.drop n) :=
 aC.mk (by simp[h.length]) λj l v u r=>h.at_ (n+j) l v (by simpa using u) (by simpa using r)
theorem aC.take {ls:List Leaf}{cs:List Value}(h:aC P V W st w ls cs)(n:Nat):aC P V W st w (ls.take n) (cs.take n) :=
 aC.mk (by simp[h.length]) λj l v y r=>by
  rw[BP]at y r;split at y
  ·rename_i u;rw[if_pos u]at r;exact h.at_ j l v y r
  ·grind
theorem aC.append {y H:List Leaf}{r z:List Value}(u:aC P V W st w y r)(I:aC P V W st w H z):aC P V W st w (y++H) (r++z):=by
 induction y generalizing r with
 |nil =>
  cases r with
  |nil=>simpa using I
  |cons=>simp[aC]at u
 |cons l M J =>
  cases r with
  |nil=>simp[aC]at u
  |cons v O=>exact⟨u.1,J u.2⟩
theorem aC.carry (r:∀ k,V.ro0 k->V.prot k)(u:cF V W W' st st' w w'):∀ {ls:List Leaf} {cs:List Value},aC P V W st w ls cs->aC P V W' st' w' ls cs
 |[],[],_=>trivial
 |_::_,_::_,h=>⟨⟨h.1.1.carry r u (λy=>absurd y h.1.2.1),h.1.2⟩,aC.carry r u h.2⟩
theorem eS {G:Nat->Prop}{p:Bool}(y:∀ k,G k->gd V W p k):∀ {a:Ty} {x:a.den} {cs:List Value},Rd w G a x cs->aC P V W st w (cL p a x) cs
 |.int _,_,_,h=>by rw[show _=_ from h];exact⟨⟨rfl,id,rfl⟩,trivial⟩
 |.bool,_,_,h=>by rw[show _=_ from h];exact⟨⟨rfl,id,rfl⟩,trivial⟩
 |.str,_,_,h=>by rw[show _=_ from h];exact⟨⟨rfl,id,rfl⟩,trivial⟩
 |.unit,_,_,h=>by rw[show _=_ from h];trivial
 |.hdr,_,_,⟨A,r,e⟩=>by rw[e];exact⟨⟨⟨A,r,rfl⟩,id,rfl⟩,trivial⟩
 |.pair _ _,_,_,⟨J,M,e,z,u⟩=>by rw[e];exact (eS y z).append (eS y u)
 |.list m E e,H,_,h=>by
  obtain⟨A,r,rfl,u,I⟩:=h;exact⟨⟨Rd.mono y (⟨A,r,rfl,u,I⟩:Rd w _ (.list false E e) H _),id,rfl⟩,trivial⟩
theorem gK (p:Bool):∀ (a:Ty) (x:a.den),(cL p a x).length=a.cells
 |.int _,_=>rfl
 |.bool,_=>rfl
 |.str,_=>rfl
 |.unit,_=>rfl
 |.hdr,_=>rfl
 |.pair a b,x=>by simp[cL,Ty.cells,gK p a,gK p b]
 |.list _ _ _,_=>rfl
theorem cK (p:Bool):∀ (a:Ty) (x:a.den),(aq p a x).length=a.cells
 |.int _,_=>rfl
 |.bool,_=>rfl
 |.str,_=>rfl
 |.unit,_=>rfl
 |.hdr,_=>rfl
 |.pair a b,x=>by simp[aq,Ty.cells,cK p a,cK p b]
 |.list _ _ _,_=>rfl
theorem iL (t n:Nat):∀ (j:Nat) (ls:List Leaf),(bF t n j ls).length=ls.length
 |_,[]=>rfl
 |j,_::ls=>by simp[bF,iL t n (j+1) ls]
theorem n9 (t n:Nat):∀ (j:Nat) (ls:List Leaf) (i:Nat) (l:Leaf),ls[i]?=some l->(bF t n j ls)[i]?=some (lH t (j+i) n l)
 |j,r::ls,0,l,h=>by
  simp at h;subst h;simp[bF]
 |j,r::ls,i+1,l,h=>by
  have:=n9 t n (j+1) ls i l (by simpa using h);simp only[bF]
  grind
theorem iv {a:Act}(h:ap P V W st a w)(r:Nat):aC P V W st w (bF r (st r).ver 0 (st r).ls) (W.cs r):=by
 refine aC.mk (by rw[iL,h.len]) λj l v u y=>?_
 have M:j<(st r).ls.length:=by
  have:=(BC.1 u).1;simpa[iL]using this
 have z:(st r).ls[j]?=some (st r).ls[j]:=BE M;have J:=n9 r (st r).ver 0 (st r).ls j _ z;rw[J]at u;have I:=h.leaf r j _ v z y;have H:=h.one r v (List.mem_of_getElem? y);simp at u;subst u;generalize X:(st r).ls[j]=q at I;cases q with
 |own p O E e R=>exact⟨⟨BI _,λ_=>by simpa using y⟩,id,H⟩
 |_=>exact⟨I,id,H⟩
theorem sr {v:Value}{l:Leaf}(h:ir v=some l):aK P V W st w [] l v/\¬ ao l/\v.oneCell'=true:=by
 unfold ir at h;split at h <;> simp at h <;> subst h <;> exact⟨rfl,id,rfl⟩
theorem cU {a:Act}(h:ap P V W st a w)(x:Operand) :
  ∃ r,d9 (au st x).1 (a.eval x) r/\aC P V W st w (au st x).2 r:=by
 cases x with
 |tmp t =>
  simp only[au];cases y:B4 t GH with
  |false=>exact⟨[],rfl,trivial⟩
  |true=>exact⟨W.cs t,h.slots t (by simpa using y),iv h t⟩
 |const v =>
  simp only[au];cases z:ir v with
  |none=>exact⟨[],rfl,trivial⟩
  |some l=>exact⟨[v],rfl,⟨sr z,trivial⟩⟩
 |func f=>exact⟨[.func (.func f) #[] #[]],rfl,⟨⟨⟨rfl,λb u=>by simp at u⟩,id,rfl⟩,trivial⟩⟩
 |global g=>exact⟨[],rfl,trivial⟩
theorem bo {a:Act}(h:ap P V W st a w)(x:Operand)(y:one st x≠.dead) :
  aK P V W st w [] (one st x) (a.eval x)/\¬ ao (one st x)/\(a.eval x).oneCell'=true/\(au st x).1=.one/\(au st x).2=[one st x]:=by
 obtain⟨H,z,r⟩:=cU h x;unfold one at y ⊢;split at y
 ·rename_i l I;simp only[I]at z r ⊢;have u:H=[a.eval x]:=z;subst u;exact⟨r.1.1,r.1.2.1,r.1.2.2,by simp,by simp⟩
 ·grind
theorem eZ {r j n:Nat}{l:Leaf}(u:aD st (.al r j n)=l)(y:l≠.dead):(st r).ver=n/\(st r).ls[j]?=some l:=by
 simp only[aD]at u;cases z:BA (st r).ver n with
 |false=>simp only[z]at u;exact absurd u.symm y
 |true =>
  simp only[z,cond_true]at u;refine⟨BB z,?_⟩;rw[BS]at u;cases H:(st r).ls[j]? with
  |none=>simp only[H]at u;exact absurd u.symm y
  |some I =>
   simp only[H,Option.getD_some]at u;cases I with
   |nal=>simp only[pn]at u;exact absurd u.symm y
   |_=>simp only[pn]at u;rw[u]
theorem iM {r j n:Nat}{p:Bool}{ks:List (Nat×Nat×Nat)}{ep:Nat}{u:Option (Nat×Nat×Nat)}{E:TypeId}{e:Ty}{xs:List e.den}:aD st (.al r j n)≠.nal p ks ep u E e xs:=by
 simp only[aD];cases BA (st r).ver n with
 |false=>simp
 |true =>
  cases (st r).ls.getD j .dead <;> simp[pn]
theorem ke {a:Act}(h:ap P V W st a w){r j n:Nat}{p:Bool}{u:Option (Nat×Nat)}{E:TypeId}{e:Ty}{xs:List e.den}{v:Value}(J:aD st (.al r j n)=.own p u E e xs)
  (I:aK P V W st w [] (.al r j n) v):(W.cs r)[j]?=some v/\OwH w (gd V W p) u E e xs v (W.bs r j)/\(st r).ls[j]?=some (.own p u E e xs)/\(st r).ver=n:=by
 obtain⟨H,z⟩:=eZ J (by simp);have y:=I.2 H;exact⟨y,h.leaf r j _ v z y,z,H⟩
theorem vr {ls:List Leaf}{j:Nat}(h:ln (ls.getD j .dead)=true):∃ l,ls[j]?=some l/\ao l:=by
 rw[BS]at h;cases r:ls[j]? with
 |none=>rw[r]at h;simp[ln]at h
 |some l =>
  rw[r]at h;refine⟨l,rfl,?_⟩;cases l <;> simp[ln]at h;trivial
theorem cA {ks:List (Nat×Nat×Nat)}{ep:Nat}(h:bm st ks ep=true):(st EPO).ver=ep/\(∀ k∈ks,(st k.1).ver=k.2.2)/\sa st ks:=by
 simp only[bm,BD,List.all_eq_true]at h;exact⟨BB h.1,λk r=>BB (h.2 k r).1,λk r=>vr (h.2 k r).2⟩
theorem pw {p:Bool}{ks:List (Nat×Nat×Nat)}{ep:Nat}{r:Option (Nat×Nat×Nat)}{E:TypeId}{e:Ty}{xs:List e.den}{v:Value}(u:bm st ks ep=true)
 (y:aK P V W st w [] (.nal p ks ep r E e xs) v):sb V W w p ks r E e xs v:=y.2.2 (cA u).1 (cA u).2.1 (cA u).2.2
def bk (V:Env)(W:Wit)(p:Bool)(ks:List (Nat×Nat))(k:Nat):Prop:=gd V W p k\/∃ x∈ks,k∈W.bs x.1 x.2
theorem jE {E:TypeId}{e:Ty}{E':TypeId}{e':Ty}{xs:List e'.den}{r:List e.den}(h:lI E e E' e' xs=some r) :
  ∃ (y:E'=E) (u:e'=e),u ▸ xs=r:=by
 unfold lI at h
 grind
theorem tV {e e':Ty}{xs:List e'.den}{r:List e.den}(h:castSh e e' xs=some r):e'.sh=e.sh/\HEq xs r:=by
 unfold castSh at h
 grind
theorem Rd.castSh {G:Nat->Prop}{m m':Bool}{E E':TypeId}{e e':Ty}{xs:List e'.den}{u:List e.den}{cs:List Value}(h:castSh e e' xs=some u)(J:Rd w G (.list m E' e') xs cs):Rd w G (.list m' E e) u cs:=by
 obtain⟨I,O⟩:=tV h;have M:Rd w G (.list m E e) u cs:=by
  refine Rd.flags (a:=.list m E e') (x:=xs) (by simp only[Ty.sh,I]) O ?_;obtain⟨A,r,z,H,y⟩:=J;exact⟨A,r,z,H,y⟩
 obtain⟨A,r,z,H,y⟩:=M;exact⟨A,r,z,H,y⟩
theorem kf (st:St):∀ (r u:List Leaf),bu st (r++u)=bu st r++bu st u
 |[],_=>rfl
 |l::r,u=>by
  have:=kf st r u;cases l <;> simp[bu,this]
theorem su (st:St):∀ (r u:List Leaf),b6 st (r++u)=b6 st r++b6 st u
 |[],_=>rfl
 |l::r,u=>by
  have:=su st r u;cases l <;> simp[b6,this]
theorem ky {a:Act}(h:ap P V W st a w){m:Bool}{E:TypeId}{e:Ty}{l:Leaf}{v:Value}{p:Bool}{xs:List e.den}
  (hl:aK P V W st w [] l v) (a0:¬ ao l) (u:dh e (aD st l)=some (p,xs)):Rd w (bk V W p (bu st [l])) (.list m E e) xs [v]:=by
 have H:∀ (q:Leaf) (bs:List Nat) (S:Nat->Prop),aK P V W st w bs q v->dh e q=some (p,xs)->(∀ k,gd V W p k->S k)->(ao q->∀ k∈bs,S k) ->
   (∀ q' J ep z E' I X,q=.nal q' J ep z E' I X->bm st J ep=true/\∀ k∈J,∀ b∈W.bs k.1 k.2.1,S b)->Rd w S (.list m E e) xs [v]:=by
  intro q bs S R u hS hb hn;cases q with
  |ro q E' I Y =>
   simp only[dh,BO]at u;obtain⟨zs,Z,rfl,rfl⟩:=u;exact Rd.castSh Z (Rd.mono hS R)
  |nil =>
   obtain⟨rfl,rfl⟩:=u;rw[show v=_ from R];exact Rd.nil w _ m E e
  |own q hh E' I Y =>
   cases hh with
   |some _=>simp[dh]at u
   |none =>
    simp only[dh,BO]at u;obtain⟨zs,Z,rfl,rfl⟩:=u;refine Rd.castSh Z (Rd.mono (λk y=>?_) (OwH.rd (m:=false) (E':=E') R));exact y.elim (hS k) (hb trivial k)
  |nal q J ep z E' I Y =>
   simp only[dh,BO,Ca]at u;obtain⟨zs,Z,rfl,rfl⟩:=u;obtain⟨O,hn⟩:=hn _ _ _ _ _ _ _ rfl;have h1:sb V W w q J z E' I Y v:=R.2.2 (cA O).1 (cA O).2.1 (cA O).2.2;refine Rd.castSh Z (Rd.mono (λk y=>?_) h1.rd);rcases y with y|⟨x,hx,y⟩
   ·grind
   ·grind
  |_=>simp[dh]at u
 cases l with
 |al r j n =>
  by_cases hd:aD st (.al r j n)=.dead
  ·rw[hd]at u;simp[dh]at u
  ·obtain⟨h1,h2⟩:=eZ rfl hd;have h3:=h.leaf r j _ v h2 (hl.2 h1);generalize R:aD st (.al r j n)=q at u h2 h3;refine H q (W.bs r j) _ h3 u (λk y=>.inl y) (λM k y=>.inr ⟨(r,j),?_,y⟩) ?_
   ·cases q <;> first|exact M.elim|simp[bu,R]
   ·rintro q' J ep z E' I X rfl;exact absurd R iM
 |own q hh E' I Y=>exact absurd trivial a0
 |nal q J ep z E' I Y =>
  simp only[aD]at u;cases O:bm st J ep with
  |false=>simp[O,dh]at u
  |true =>
   simp only[O]at u;refine H _ [] _ hl u (λk y=>.inl y) (λM=>M.elim) ?_;intro q' a5 a6 a2 a4 a3 X a1;cases a1;refine⟨O,λk y b hb=>.inr ⟨(k.1,k.2.1),?_,hb⟩⟩;simp only[bu,aD]
   grind
 |ro q E' I Y=>exact H _ [] _ hl u (λk y=>.inl y) (λM=>M.elim) (λ_ _ _ _ _ _ _ h=>by cases h)
 |nil=>exact H _ [] _ hl u (λk y=>.inl y) (λM=>M.elim) (λ_ _ _ _ _ _ _ h=>by cases h)
 |_=>simp[aD,dh]at u
theorem wK {a:Act}(h:ap P V W st a w){l:Leaf}{v:Value}{n:Nat}(X:aK P V W st w [] l v)(Y:¬ ao l)(u:fZ (aD st l)=some n):Rd w (λ_=>False) .hdr n [v]:=by
 have H:∀ (q:Leaf) (bs:List Nat),aK P V W st w bs q v->fZ q=some n->(∀ p J ep z E e O,q=.nal p J ep z E e O->bm st J ep=true)->Rd w (λ_=>False) .hdr n [v]:=by
  intro q bs M u hn;cases q with
  |ro p E e O =>
   simp only[fZ,BH]at u;subst u;obtain⟨A,y,I,_⟩:=M;exact⟨A,y,I⟩
  |own p hh E e O =>
   simp only[fZ,BH]at u;subst u;obtain⟨A,y,I,_⟩:=OwH.slice M;exact⟨A,y,by rw[I]⟩
  |nal p J ep z E e O =>
   simp only[fZ,BH]at u;subst u;have R:=hn _ _ _ _ _ _ _ rfl;obtain⟨A,y,I,_⟩:=(M.2.2 (cA R).1 (cA R).2.1 (cA R).2.2:sb V W w p J z E e O v).rd;exact⟨A,y,I⟩
  |nil =>
   simp only[fZ,BH]at u;subst u;exact⟨none,0,by rw[show v=_ from M]⟩
  |hdr m =>
   simp only[fZ,BH]at u;subst u;obtain⟨A,y,I⟩:=M;exact⟨A,y,by rw[I]⟩
  |_=>simp[fZ]at u
 cases l with
 |al r j m =>
  by_cases hd:aD st (.al r j m)=.dead
  ·rw[hd]at u;simp[fZ]at u
  ·obtain⟨h1,h2⟩:=eZ rfl hd;have h3:=h.leaf r j _ v h2 (X.2 h1);refine H _ _ h3 u λp J ep z E e O M=>absurd M iM
 |own q hh E' e' Z=>exact absurd trivial Y
 |nal q J ep z E' e' Z =>
  simp only[aD]at u;cases R:bm st J ep with
  |false=>simp[R,fZ]at u
  |true =>
   grind
 |ro q E' e' Z=>exact H _ [] X u (λ_ _ _ _ _ _ _ h=>by cases h)
 |nil=>exact H _ [] X u (λ_ _ _ _ _ _ _ h=>by cases h)
 |hdr m=>exact H _ [] X u (λ_ _ _ _ _ _ _ h=>by cases h)
 |_=>simp[aD,fZ]at u
theorem kz {a:Act}(h:ap P V W st a w):∀ (b:Ty) (ls:List Leaf) (cs:List Value) (p:Bool) (x:b.den) (u:List Leaf),aC P V W st w ls cs ->
  aZ st b ls=some (p,x,u)->∃ M R O,cs=M++R/\ls=O++u/\aC P V W st w O M/\aC P V W st w u R/\Rd w (bk V W p (bu st O)) b x M
 |.int k,ls,cs,p,x,u,H,r=>by
  simp only[aZ]at r;split at r
  ·rename_i k' n ls;split at r
   ·rename_i I;obtain⟨rfl,rfl,rfl⟩:=r;cases cs with
    |nil=>exact H.elim
    |cons v cs=>exact⟨[v],cs,[_],rfl,rfl,⟨H.1,trivial⟩,H.2,by rw[show v=_ from H.1.1,I];rfl⟩
   ·grind
  ·grind
 |.bool,ls,cs,p,x,u,H,r=>by
  simp only[aZ]at r;split at r
  ·simp at r;obtain⟨rfl,rfl,rfl⟩:=r;cases cs with
   |nil=>exact H.elim
   |cons v cs=>exact⟨[v],cs,[_],rfl,rfl,⟨H.1,trivial⟩,H.2,by rw[show v=_ from H.1.1];rfl⟩
  ·grind
 |.str,ls,cs,p,x,u,H,r=>by
  simp only[aZ]at r;split at r
  ·simp at r;obtain⟨rfl,rfl,rfl⟩:=r;cases cs with
   |nil=>exact H.elim
   |cons v cs=>exact⟨[v],cs,[_],rfl,rfl,⟨H.1,trivial⟩,H.2,by rw[show v=_ from H.1.1];rfl⟩
  ·grind
 |.unit,ls,cs,p,x,u,H,r=>by
  obtain⟨rfl,_,rfl⟩:=r;exact⟨[],cs,[],rfl,rfl,trivial,H,rfl⟩
 |.hdr,ls,cs,p,x,u,H,r=>by
  simp only[aZ]at r;split at r
  ·rename_i l J;split at r
   ·rename_i n hn;obtain⟨rfl,rfl,rfl⟩:=r;cases cs with
    |nil=>exact H.elim
    |cons v cs=>exact⟨[v],cs,[l],rfl,rfl,⟨H.1,trivial⟩,H.2,wK h H.1.1 H.1.2.1 hn⟩
   ·grind
  ·grind
 |.pair b c,ls,cs,p,x,u,H,r=>by
  simp only[aZ]at r;split at r
  ·rename_i q y J hb;split at r
   ·rename_i q' z Y hc;simp at r;obtain⟨rfl,rfl,rfl⟩:=r;obtain⟨M,R,O,e1,e2,h1,h2,h3⟩:=kz h b ls cs q y J H hb;obtain⟨Z,c4,l2,e3,e4,h4,h5,h6⟩:=kz h c J R q' z Y h2 hc;refine⟨M++Z,c4,O++l2,by rw[e1,e3,BZ],by rw[e2,e4,BZ],h1.append h4,h5,M,Z,rfl,?_,?_⟩
    ·refine Rd.mono (λk I=>?_) h3;rcases I with I|⟨y,X,I⟩
     ·exact .inl (bU (by simp_all) (λ_ h=>h) k I)
     ·exact .inr ⟨y,by rw[kf];exact BG _ X,I⟩
    ·refine Rd.mono (λk I=>?_) h6;rcases I with I|⟨y,X,I⟩
     ·exact .inl (bU (by simp_all) (λ_ h=>h) k I)
     ·exact .inr ⟨y,by rw[kf];exact BF _ X,I⟩
   ·grind
  ·grind
 |.list m E e,ls,cs,p,x,u,H,r=>by
  simp only[aZ]at r;split at r
  ·rename_i l J;split at r
   ·rename_i q ys ha;obtain⟨rfl,rfl,rfl⟩:=r;cases cs with
    |nil=>exact H.elim
    |cons v cs=>exact⟨[v],cs,[l],rfl,rfl,⟨H.1,trivial⟩,H.2,ky h H.1.1 H.1.2.1 ha⟩
   ·grind
  ·grind
theorem ey {a:Act}(h:ap P V W st a w){b:Ty}{ls:List Leaf}{cs:List Value}{p:Bool}{x:b.den}(z:aC P V W st w ls cs)
  (r:cQ st b ls=some (p,x)):Rd w (bk V W p (bu st ls)) b x cs:=by
 unfold cQ at r;split at r
 ·rename_i q y I;obtain⟨J,u,R,X,M,O,H,Y⟩:=kz h b ls cs _ _ _ z I;have:u=[]:=by
   cases u with
   |nil=>rfl
   |cons=>exact H.elim
  simp_all
 ·grind
end
section
variable {P:Program} {V:Env} {W W':Wit} {st st':St} {w w':World} {a:Act}
theorem bz (A B:Upd)(st:St):ac (A++B) st=ac A (ac B st):=by
 funext q;induction A with
 |nil=>rfl
 |cons x A u=>obtain⟨r,c⟩:=x;simp only[CW,ac,u]
theorem aO (r:Nat)(c:bS)(U:Upd)(st:St):ac ((r,c)::U) st=ac [(r,c)] (ac U st):=bz [(r,c)] U st
theorem bi (r:Nat)(c:bS)(st:St):ac [(r,c)] st r=c:=by simp[ac]
theorem aI {r q:Nat}(h:q≠r)(c:bS)(st:St):ac [(r,c)] st q=st q:=by
 have:BA q r=false:=by
  cases u:BA q r with
  |false=>rfl
  |true=>exact absurd (BB u) h
 simp[ac,this]
theorem am (r q:Nat)(c:bS)(st:St):(q=r/\ac [(r,c)] st q=c)\/(q≠r/\ac [(r,c)] st q=st q):=by
 by_cases h:q=r
 ·subst h;exact .inl ⟨rfl,bi q c st⟩
 ·exact .inr ⟨h,aI h c st⟩
def cd (V:Env)(W:Wit)(st:St)(k:Nat):Prop :=
 W.nw k\/V.prot k\/(∃ b,live st b/\W.β b=k)\/∃ r j l,(st r).ls[j]?=some l/\ao l/\k∈W.bs r j
theorem ap.own_lt (h:ap P V W st a w){r j:Nat}{l:Leaf}(u:(st r).ls[j]?=some l)(z:ao l):∀ k∈W.bs r j,k<w.heap.size:=by
 have y:j<(W.cs r).length:=by rw[<- h.len];exact (BC.1 u).1
 have:=h.leaf r j l _ u (BE y);cases l <;> simp only[ao]at z;exact OwH.lt this
theorem ap.box_lt (h:ap P V W st a w){b:Nat}(r:live st b):W.β b<w.heap.size:=by
 rcases h.boxes b r.1 with ⟨u,_⟩|⟨_,E,y⟩
 ·exact absurd (u.symm.trans r.2) (by simp)
 ·grind
theorem ap.used_lt (h:ap P V W st a w):∀ k,cd V W st k->k<w.heap.size:=by
 intro k u;rcases u with u|u|⟨b,y,rfl⟩|⟨r,j,l,I,H,z⟩
 ·exact (h.nwlt k u).1
 ·exact BW u.1 h.size
 ·exact h.box_lt y
 ·exact h.own_lt I H k z
theorem ap.world (Y:ax V)(h:ap P V W st a w)(X:w.heap.size<=w'.heap.size)(O:w'.os=w.os)(Z:w'.tape=w.tape)(M:w'.output=w.output)
  (y:∀ k,cd V W st k->w'.heap[k]?=w.heap[k]?):ap P V W st a w':=by
 have H:cF V W W st st w w':=⟨λr=>⟨BI _,λ_=>rfl⟩,λb J=>⟨J,rfl⟩,λ_ h=>h,λk h=>y k (h.elim .inl (λh=>.inr (.inl h))),
  λ_ r j l u I _=>⟨⟨l,u,I⟩,rfl,λk z=>y k (.inr (.inr (.inr ⟨r,j,l,u,I,z⟩)))⟩⟩
 exact {
  nt:=h.nt,df:=h.df,slots:=h.slots,
  boxes:=λb J=>(h.boxes b J).imp id λ⟨u,E,I⟩=>⟨u,E,by rw[y _ (.inr (.inr (.inl ⟨b,⟨J,u⟩,rfl⟩)))];exact I⟩
  len:=h.len,one:=h.one,
  leaf:=λr j l v u I=>(h.leaf r j l v u I).carry Y.ro H (λM=>⟨rfl,λk z=>y k (.inr (.inr (.inr ⟨r,j,l,u,M,z⟩)))⟩)
  ownb:=h.ownb,sep:=h.sep,box:=h.box,inj:=h.inj,
  nwlt:=λk y=>⟨BW (h.nwlt k y).1 X,(h.nwlt k y).2⟩
  os:=O.trans h.os,tape:=Z.trans h.tape,output:=M.trans h.output,size:=BL h.size X,
  keep:=λk R=>(y k (.inr (.inl R))).trans (h.keep k R)
  fixb:=h.fixb,fixt:=h.fixt }
theorem ap.below (y:ax V)(h:ap P V W st a w)(r:Below w.heap.size w w'):ap P V W st a w' :=
 h.world y r.size r.os r.tape r.output λk u=>r.block k (h.used_lt k u)
theorem ap.relabel (hV:ax V)(h:ap P V W st a w)(r:Nat)(c:bS)(nw':Nat->Prop)(a3:(st r).ver<=c.ver)(X:c.sh=(st r).sh)
    (Y:c.ls.length=(st r).ls.length) (a0:∀ k,W.nw k->nw' k) (M:∀ k,nw' k->k<w.heap.size/\¬ V.prot k)
    (Z:∀ (j:Nat) (l:Leaf) (v:Value),c.ls[j]?=some l->(W.cs r)[j]?=some v->aK P V { W with nw:=nw' } (ac [(r,c)] st) w (W.bs r j) l v)
    (a2:∀ (j:Nat) (l:Leaf),c.ls[j]?=some l->ao l->(st r).ls[j]?=some l)
    (I:∀ (q j:Nat) (l:Leaf),(ac [(r,c)] st q).ls[j]?=some l->ao l->∀ k∈W.bs q j,¬ nw' k)
    (J:∀ b,live st b->¬ nw' (W.β b)):ap P V { W with nw:=nw' } (ac [(r,c)] st) a w:=by
  have R:∀ b,live (ac [(r,c)] st) b<->live st b:=by
    intro b;rcases am r b c st with ⟨rfl,e⟩|⟨_,e⟩
    · simp[live,e,X]
    · simp[live,e]
  have u:∀ (q j:Nat) (l:Leaf),(ac [(r,c)] st q).ls[j]?=some l->ao l->(st q).ls[j]?=some l:=by
    intro q j l z y;rcases am r q c st with ⟨rfl,e⟩|⟨_,e⟩
    · grind
    · grind
  have O:cF V W { W with nw:=nw' } st (ac [(r,c)] st) w w :=
    ⟨λq=>by
      rcases am r q c st with ⟨rfl,e⟩|⟨_,e⟩
      · grind
      · rw[e];exact⟨BI _,λ_=>rfl⟩,
     λb H=>⟨(R b).2 H,rfl⟩,a0,λ_ _=>rfl,λ_ q j l z y h3=>⟨⟨l,u q j l z y,y⟩,rfl,λ_ _=>rfl⟩⟩
  exact {
    nt:=h.nt,df:=h.df,
    slots:=λt ht=>by
      rcases am r t c st with ⟨rfl,e⟩|⟨_,e⟩
      · rw[e,X];exact h.slots t ht
      · rw[e];exact h.slots t ht
    boxes:=λb H=>by
      rcases am r b c st with ⟨rfl,e⟩|⟨_,e⟩
      · rw[e,X]
        rcases h.boxes b H with ⟨z,y⟩|z
        · grind
        · grind
      · rw[e];exact h.boxes b H
    len:=λq=>by
      rcases am r q c st with ⟨rfl,e⟩|⟨_,e⟩
      · rw[e,Y];exact h.len q
      · rw[e];exact h.len q
    one:=h.one
    leaf:=λq j l v z y=>by
      rcases am r q c st with ⟨rfl,e⟩|⟨_,e⟩
      · grind
      · rw[e]at z
        exact (h.leaf q j l v z y).carry hV.ro O (λ_=>⟨rfl,λ_ _=>rfl⟩)
    ownb:=λq j l z y k hk=>⟨I q j l z y k hk,(h.ownb q j l (u q j l z y) y k hk).2.1,λb H=>(h.ownb q j l (u q j l z y) y k hk).2.2 b ((R b).1 H)⟩
    sep:=λq j l q' j' l' z y h3 h4=>h.sep q j l q' j' l' (u q j l z y) y (u q' j' l' h3 h4) h4
    box:=λb H=>⟨J b ((R b).1 H),(h.box b ((R b).1 H)).2⟩
    inj:=λb b' H a1=>h.inj b b' ((R b).1 H) ((R b').1 a1)
    nwlt:=M
    os:=h.os,tape:=h.tape,output:=h.output,size:=h.size,keep:=h.keep,
    fixb:=λx hx=>⟨(R _).2 (h.fixb x hx).1,(h.fixb x hx).2⟩,fixt:=h.fixt }
theorem aR {α:Type}(ls:List α)(j i:Nat)(x y:α)(h:(ls.set j x)[i]?=some y):(i=j/\y=x/\j<ls.length)\/(i≠j/\ls[i]?=some y):=by
 grind
theorem ap.kill1 (J:ax V)(h:ap P V W st a w)(r j:Nat):ap P V W (ac [(r,f9 (st r) j)] st) a w:=by
 refine h.relabel J r _ W.nw (BI _) rfl (by simp[f9,aS]) (λ_ h=>h) h.nwlt ?_ ?_ ?_ λb z=>(h.box b z).1
 ·intro i l v u y;rcases aR _ _ _ _ _ u with ⟨_,rfl,_⟩|⟨H,u⟩
  ·trivial
  ·refine (h.leaf r i l v u y).carry J.ro ⟨λq=>?_,λb z=>?_,λ_ h=>h,λ_ _=>rfl,λ_ q Y R I O X=>?_⟩ (λ_=>⟨rfl,λ_ _=>rfl⟩)
   ·rcases am r q (f9 (st r) j) st with ⟨rfl,e⟩|⟨_,e⟩
    ·rw[e];exact⟨BI _,λ_=>rfl⟩
    ·grind
   ·refine⟨⟨z.1,?_⟩,rfl⟩;rcases am r b (f9 (st r) j) st with ⟨rfl,e⟩|⟨_,e⟩
    ·rw[e];exact z.2
    ·rw[e];exact z.2
   ·rcases am r q (f9 (st r) j) st with ⟨rfl,e⟩|⟨_,e⟩
    ·rw[e]at I;rcases aR _ _ _ _ _ I with ⟨_,rfl,_⟩|⟨_,I⟩
     ·exact O.elim
     ·grind
    ·grind
 ·intro i l u y;rcases aR _ _ _ _ _ u with ⟨_,rfl,_⟩|⟨H,u⟩
  ·exact y.elim
  ·omega
 ·intro q i l u y;have:(st q).ls[i]?=some l:=by
   rcases am r q (f9 (st r) j) st with ⟨rfl,e⟩|⟨_,e⟩
   ·rw[e]at u;rcases aR _ _ _ _ _ u with ⟨_,rfl,_⟩|⟨H,u⟩
    ·exact y.elim
    ·omega
   ·grind
  exact λk M=>(h.ownb q i l this y k M).1
theorem ap.frz1 (hV:ax V)(h:ap P V W st a w)(r j:Nat) :
  ap P V { W with nw:=λk=>W.nw k\/((∃ l,(st r).ls[j]?=some l/\ao l)/\k∈W.bs r j) } (ac [(r,fU (st r) j)] st) a w:=by
 have O:∀ l,(st r).ls[j]?=some l->(st r).ls.getD j .dead=l:=λl hl=>by rw[BS,hl];rfl
 have u:∀ (i:Nat) (l:Leaf),(aS (st r).ls j (uC ((st r).ls.getD j .dead)))[i]?=some l->ao l->(st r).ls[i]?=some l/\i≠j:=by
  intro i l z y;rcases aR _ _ _ _ _ z with ⟨rfl,rfl,hj⟩|⟨Z,z⟩
  ·rw[O _ (BE hj)]at y;generalize (st r).ls[i]=l at y;cases l with
   |own p hh E e xs=>cases hh <;> exact y.elim
   |_=>exact y.elim
  ·grind
 have I:cF V W { W with nw:=λk=>W.nw k\/((∃ l,(st r).ls[j]?=some l/\ao l)/\k∈W.bs r j) } st (ac [(r,fU (st r) j)] st) w w:=by
  refine⟨λq=>?_,λb X=>?_,λ_ h=>.inl h,λ_ _=>rfl,λ_ q j' Y J M h5=>?_⟩
  ·rcases am r q (fU (st r) j) st with ⟨rfl,e⟩|⟨_,e⟩
   ·rw[e];exact⟨BI _,λ_=>rfl⟩
   ·grind
  ·refine⟨⟨X.1,?_⟩,rfl⟩;rcases am r b (fU (st r) j) st with ⟨rfl,e⟩|⟨_,e⟩
   ·rw[e];exact X.2
   ·rw[e];exact X.2
  ·rcases am r q (fU (st r) j) st with ⟨rfl,e⟩|⟨_,e⟩
   ·rw[e]at J;exact⟨⟨Y,(u j' Y J M).1,M⟩,rfl,λ_ _=>rfl⟩
   ·grind
 refine h.relabel hV r _ _ (BI _) rfl (by simp[fU,aS]) (λ_ h=>.inl h) ?_ ?_ (λi l z y=>(u i l z y).1) ?_ ?_
 ·rintro k (H|⟨⟨l,z,y⟩,H⟩)
  ·exact h.nwlt k H
  ·exact⟨h.own_lt z y k H,(h.ownb r j l z y k H).2.1⟩
 ·intro i l v z y;rcases aR _ _ _ _ _ z with ⟨rfl,rfl,hj⟩|⟨Z,z⟩
  ·have J:(st r).ls[i]?=some (st r).ls[i]:=BE hj;have M:=h.leaf r i _ v J y;rw[O _ J];generalize hq:(st r).ls[i]=q at J M;cases q with
   |own p hh E e xs =>
    cases hh with
    |some _=>trivial
    |none =>
     refine Rd.mono (λk H=>?_) (OwH.rd (m:=false) (E':=E) M);rcases H with H|H
     ·exact bU (W':={ W with nw:=_ }) (λh=>h) (λ_ h=>.inl h) k H
     ·exact .inl (.inr ⟨⟨_,J,trivial⟩,H⟩)
   |_=>exact M.carry hV.ro I (λho=>ho.elim)
  ·exact (h.leaf r i l v z y).carry hV.ro I (λ_=>⟨rfl,λ_ _=>rfl⟩)
 ·intro q i l z y k H;have J:(st q).ls[i]?=some l/\(q,i)≠(r,j):=by
   rcases am r q (fU (st r) j) st with ⟨rfl,e⟩|⟨Z,e⟩
   ·rw[e]at z;have:=u i l z y
    simp_all
   ·grind
  rintro (R|⟨⟨Y,M,h5⟩,R⟩)
  ·exact (h.ownb q i l J.1 y k H).1 R
  ·obtain⟨rfl,rfl⟩:=h.sep q i l r j Y J.1 y M h5 k H R
   simp_all
 ·rintro b X (R|⟨⟨Y,M,h5⟩,R⟩)
  ·exact (h.box b X).1 R
  ·exact (h.ownb r j Y M h5 _ R).2.2 b X rfl
theorem lS (I:ax V):∀ (ks:List (Nat×Nat)),ap P V W st a w->ap P V W (ac (aM st ks) st) a w /\
  (∀ (q i:Nat) (l:Leaf),(ac (aM st ks) st q).ls[i]?=some l->ao l->(st q).ls[i]?=some l/\(q,i)∉ks) /\
  (∀ q,(ac (aM st ks) st q).sh=(st q).sh/\(st q).ver<=(ac (aM st ks) st q).ver)
 |[],h=>⟨h,λ_ _ _ z _=>⟨z,by simp⟩,λ_=>⟨rfl,BI _⟩⟩
 |(r,j)::ks,h=>by
  obtain⟨z,O,H⟩:=lS I ks h;have e:ac (aM st ((r,j)::ks)) st=ac [(r,f9 (ac (aM st ks) st r) j)] (ac (aM st ks) st):=aO _ _ _ _;rw[e];refine⟨z.kill1 I r j,λq i l y J=>?_,λq=>?_⟩
  ·have M:(ac (aM st ks) st q).ls[i]?=some l/\(q,i)≠(r,j):=by
    rcases am r q (f9 (ac (aM st ks) st r) j) (ac (aM st ks) st) with ⟨rfl,e⟩|⟨u,e⟩
    ·rw[e]at y;rcases aR _ _ _ _ _ y with ⟨_,rfl,_⟩|⟨u,y⟩
     ·exact J.elim
     ·grind
    ·grind
   simp_all
  ·rcases am r q (f9 (ac (aM st ks) st r) j) (ac (aM st ks) st) with ⟨rfl,e⟩|⟨u,e⟩
   ·rw[e];exact⟨(H q).1,(H q).2⟩
   ·grind
def Wit.frz (W:Wit)(st:St)(ks:List (Nat×Nat)):Wit :=
 { W with nw:=λk=>W.nw k\/∃ x∈ks,(∃ l,(st x.1).ls[x.2]?=some l/\ao l)/\k∈W.bs x.1 x.2 }
theorem ap.nw_congr (h:ap P V W st a w){nw':Nat->Prop}(e:∀ k,W.nw k<->nw' k):ap P V { W with nw:=nw' } st a w:=by
 have:nw'=W.nw:=funext λk=>propext (e k).symm
 subst this;exact h
theorem lu (X:ax V):∀ (ks:List (Nat×Nat)),ap P V W st a w->ap P V (W.frz st ks) (ac (aE st ks) st) a w /\
  (∀ (q i:Nat) (l:Leaf),(ac (aE st ks) st q).ls[i]?=some l->ao l->(st q).ls[i]?=some l/\(q,i)∉ks) /\
  (∀ q,(ac (aE st ks) st q).sh=(st q).sh/\(st q).ver<=(ac (aE st ks) st q).ver)
 |[],h=>⟨h.nw_congr (λk=>by simp),λ_ _ _ J _=>⟨J,by simp⟩,λ_=>⟨rfl,BI _⟩⟩
 |(r,j)::ks,h=>by
  obtain⟨J,h2,Y⟩:=lu X ks h;have e:ac (aE st ((r,j)::ks)) st=ac [(r,fU (ac (aE st ks) st r) j)] (ac (aE st ks) st):=aO _ _ _ _;rw[e];refine⟨?_,λq i l R O=>?_,λq=>?_⟩
  ·have h7:=J.frz1 X r j;have Z:=h7.nw_congr (nw':=(W.frz st ((r,j)::ks)).nw) (λk=>?_)
   ·exact Z
   ·simp only[Wit.frz];constructor
    ·rintro ((z|⟨x,M,z⟩)|⟨⟨l,u,H⟩,z⟩)
     ·grind
     ·grind
     ·exact .inr ⟨(r,j),CO ..,⟨l,(h2 r j l u H).1,H⟩,z⟩
    ·rintro (z|⟨x,M,⟨l,u,H⟩,z⟩)
     ·grind
     ·rcases CM.1 M with rfl|M
      ·by_cases I:(r,j)∈ks
       ·exact .inl (.inr ⟨(r,j),I,⟨l,u,H⟩,z⟩)
       ·refine .inr ⟨⟨l,?_,H⟩,z⟩;exact iI ks I u
      ·grind
  ·have h6:(ac (aE st ks) st q).ls[i]?=some l/\(q,i)≠(r,j):=by
    rcases am r q (fU (ac (aE st ks) st r) j) (ac (aE st ks) st) with ⟨rfl,e⟩|⟨y,e⟩
    ·rw[e]at R;rcases aR _ _ _ _ _ R with ⟨rfl,rfl,hj⟩|⟨y,R⟩
     ·exfalso;generalize (ac (aE st ks) st q).ls.getD i .dead=l' at O;cases l' with
      |own p hh E e xs=>cases hh <;> exact O.elim
      |_=>exact O.elim
     ·grind
    ·grind
   simp_all
  ·rcases am r q (fU (ac (aE st ks) st r) j) (ac (aE st ks) st) with ⟨rfl,e⟩|⟨y,e⟩
   ·rw[e];exact⟨(Y q).1,(Y q).2⟩
   ·grind
where
 iI:∀ (ks:List (Nat×Nat)) {r j:Nat} {l:Leaf},(r,j)∉ks->(st r).ls[j]?=some l->(ac (aE st ks) st r).ls[j]?=some l
  |[],_,_,_,_,u=>u
  |(q,i)::ks,r,j,l,hn,u=>by
   have J:=iI ks (λI=>hn (CG _ I)) u;have e:ac (aE st ((q,i)::ks)) st=ac [(q,fU (ac (aE st ks) st q) i)] (ac (aE st ks) st):=aO _ _ _ _;rw[e];rcases am q r (fU (ac (aE st ks) st q) i) (ac (aE st ks) st) with ⟨rfl,e⟩|⟨y,e⟩
   ·rw[e];simp only[fU,aS]
    grind
   ·grind
theorem ap.put (hV:ax V)(h:ap P V W st a w)(d:Nat)(hd:d<V.nt)(a4:∀ x∈V.fixt,x.1≠d)(n:Nat)(sh:aH)(ls:List Leaf)(v:Value)
  (I:List Value) (J:Nat->List Nat) (hn:(st d).ver<n) (hs:d9 sh v I) (hl:ls.length=I.length) (h1:∀ u∈I,u.oneCell'=true)
  (a2:∀ (j:Nat) (l:Leaf) (u:Value),ls[j]?=some l->I[j]?=some u->aK P V W st w (J j) l u)
  (a1:∀ (j:Nat) (l:Leaf),ls[j]?=some l->ao l->∀ k∈J j,¬ W.nw k/\¬ V.prot k/\(∀ b,live st b->W.β b≠k) /\
   ∀ (r1 j1:Nat) (l1:Leaf),r1≠d->(st r1).ls[j1]?=some l1->ao l1->k∉W.bs r1 j1)
  (a3:∀ (j j':Nat) (l l':Leaf),ls[j]?=some l->ao l->ls[j']?=some l'->ao l'->∀ k,k∈J j->k∈J j'->j=j') :
  ap P V { W with cs:=λr=>if r=d then I else W.cs r,bs:=λr j=>if r=d then J j else W.bs r j } (ac [(d,⟨n,sh,ls⟩)] st) (a.put (some d) v) w:=by
 have a6:d<B0:=BW hd hV.ntB;have Y:∀ b,live (ac [(d,⟨n,sh,ls⟩)] st) b<->live st b:=by
  intro b;by_cases hb:B0<=b
  ·rw[live,live,aI (by omega)]
  ·simp[live,hb]
 have R:cF V W { W with cs:=λr=>if r=d then I else W.cs r,bs:=λr j=>if r=d then J j else W.bs r j } st (ac [(d,⟨n,sh,ls⟩)] st) w w:=by
  refine⟨λq=>?_,λb hb=>⟨(Y b).2 hb,rfl⟩,λ_ h=>h,λ_ _=>rfl,λ_ q j' l' M Z h5=>?_⟩;rcases am d q ⟨n,sh,ls⟩ st with ⟨rfl,e⟩|⟨y,e⟩
  ·grind
  ·grind
  rcases am d q ⟨n,sh,ls⟩ st with ⟨rfl,e⟩|⟨y,e⟩
  ·grind
  ·grind
 have a0:∀ t,(a.put (some d) v).tmps.getD t undef=if t=d then v else a.tmps.getD t undef:=by
  intro t;by_cases ht:t=d
  ·subst ht;have:t<a.tmps.size:=by rw[h.nt];exact hd
   simp[Ce,this]
  ·simp only[Ce,if_neg ht];rw[B5,B5,Array.getElem?_setIfInBounds_ne (λe=>ht e.symm)]
 exact {
  nt:=by simp[Ce,h.nt],df:=by simp[Ce,h.df]
  slots:=λt ht=>by
   rw[a0];rcases am d t ⟨n,sh,ls⟩ st with ⟨rfl,e⟩|⟨y,e⟩
   ·grind
   ·rw[e];simpa[y]using h.slots t ht
  boxes:=λb hb=>by
   have:b≠d:=by omega
   rw[aI this];simpa[this]using h.boxes b hb
  len:=λq=>by
   rcases am d q ⟨n,sh,ls⟩ st with ⟨rfl,e⟩|⟨y,e⟩
   ·grind
   ·rw[e];simpa[y]using h.len q
  one:=λq u hu=>by
   by_cases hq:q=d
   ·grind
   ·simp only[hq]at hu;exact h.one q u hu
  leaf:=λq j l u H M=>by
   rcases am d q ⟨n,sh,ls⟩ st with ⟨rfl,e⟩|⟨y,e⟩
   ·rw[e]at H;simp at M;exact (a2 j l u H M).carry hV.ro R (λ_=>⟨by simp,λ_ _=>rfl⟩)
   ·rw[e]at H;simp only[y]at M;exact (h.leaf q j l u H M).carry hV.ro R (λ_=>⟨by simp[y],λ_ _=>rfl⟩)
  ownb:=λq j l H M k X=>by
   rcases am d q ⟨n,sh,ls⟩ st with ⟨rfl,e⟩|⟨y,e⟩
   ·grind
   ·rw[e]at H;simp only[y]at X;have:=h.ownb q j l H M k X
    grind
  sep:=λq j l q' j' l' H M Z h5 k X z=>by
   rcases am d q ⟨n,sh,ls⟩ st with ⟨e0,e⟩|⟨y,e⟩ <;> rcases am d q' ⟨n,sh,ls⟩ st with ⟨e1,e'⟩|⟨O,e'⟩
   ·rw[e]at H;rw[e']at Z;simp only[e0]at X;simp only[e1]at z;exact⟨e0.trans e1.symm,a3 j j' l l' H M Z h5 k X z⟩
   ·rw[e]at H;rw[e']at Z;simp only[e0]at X;simp only[O]at z;exact absurd z ((a1 j l H M k X).2.2.2 q' j' l' O Z h5)
   ·rw[e]at H;rw[e']at Z;simp only[y]at X;simp only[e1]at z;exact absurd X ((a1 j' l' Z h5 k z).2.2.2 q j l y H M)
   ·rw[e]at H;rw[e']at Z;simp only[y]at X;simp only[O]at z;exact h.sep q j l q' j' l' H M Z h5 k X z
  box:=λb hb=>h.box b ((Y b).1 hb)
  inj:=λb b' hb a5=>h.inj b b' ((Y b).1 hb) ((Y b').1 a5)
  nwlt:=h.nwlt
  os:=h.os,tape:=h.tape,output:=h.output,size:=h.size,keep:=h.keep
  fixb:=λx hx=>⟨(Y _).2 (h.fixb x hx).1,(h.fixb x hx).2⟩
  fixt:=λx hx=>by rw[a0,if_neg (a4 x hx)];exact h.fixt x hx }
theorem ap.putLs (R:ax V)(h:ap P V W st a w)(d:Nat)(I:d<V.nt)(y:∀ x∈V.fixt,x.1≠d)(n:Nat)(sh:aH)(ls:List Leaf)(v:Value)
  (r:List Value) (M:(st d).ver<n) (O:d9 sh v r) (H:aC P V W st w ls r) :
  Rel P V (ac [(d,⟨n,sh,ls⟩)] st) (a.put (some d) v) w :=
 ⟨_,h.put R d I y n sh ls v r (λ_=>[]) M O H.length H.one' (λj l u J X=>(H.at_ j l u J X).1) (λ_ _ _ _ k z=>by simp at z)
  (λ_ _ _ _ _ _ _ _ k z=>by simp at z)⟩
end
def zeroCells:Ty->List Value
 |.int k=>[.int k 0]
 |.bool=>[.bool false]
 |.str=>[.string BV]
 |.unit=>[]
 |.pair a b=>zeroCells a++zeroCells b
 |.hdr=>[.slice none 0 0]
 |.list _ _ _=>[.slice none 0 0]
def bQ (P:Program)(t:TypeId)(n:Nat):Prop:=(P.info? t).map (·.size)=some n
def dZ (P:Program)(t:TypeId)(z:Value):Prop:=(P.info? t).map (·.zero)=some (some z)
def EqAt (P:Program)(t:TypeId)(a:Ty):Prop:=a.flat=true->∀ (w:World) (G:Nat->Prop) (x y:a.den) (u r:List Value),Rd w G a x u->Rd w G a y r ->
 (Op.equal t (.agg u.toArray) (.agg r.toArray)).run P w=.ok (a.eqv x y) w
def oK (P:Program)(t:TypeId):TI->Prop
 |.int k=>P.underlying t=some (.int k)/\bQ P t 1/\dZ P t (.int k 0)
 |.bool=>P.underlying t=some .bool/\bQ P t 1/\dZ P t (.bool false)
 |.str=>P.underlying t=some .string/\bQ P t 1/\dZ P t (.string BV)
 |.slice E e r=>P.underlying t=some (.slice E)/\bQ P t 1/\dZ P t (.slice none 0 0)/\0<e.cells/\(0<r/\(e=.int .u8->P.underlying E=some (.int .u8))) /\
  ∃ i z,P.info? E=some i/\i.size=e.cells/\i.bytes=r/\i.zero=some z/\z.cells.toList=zeroCells e
 |.struct a u=>(∃ H,P.underlying t=some (.struct H)/\H.toList.mapM (λf=>(P.info? f.type).map λi=>(f.offset,i.size))=some (u.map λx=>(x.1,x.2.1)) /\
  ∀ (i off n:Nat) (agg:Bool),u[i]?=some (off,n,agg)->(agg=false->n=1)/\∃ f:Field,H[i]?=some f/\f.offset=off/\0<n/\off+n<=a.cells/\bQ P f.type n /\
   (P.underlying f.type).map (λd=>match d with|.struct _|.array _ _=>true|_=>false)=some agg) /\
  bQ P t a.cells/\dZ P t (.agg (zeroCells a).toArray)/\EqAt P t a/\P.eqGuardType P.depth t=false
 |.arr e n=>(∃ E,P.underlying t=some (.array n E)/\bQ P E e.cells/\(P.underlying E).map (λd=>match d with|.struct _|.array _ _=>true|_=>false)=some e.isAgg)/\0<e.cells /\
  bQ P t (n*e.cells)/\dZ P t (.agg ((BR n (zeroCells e)).flatten).toArray)
 |.ptr=>(∃ e,P.underlying t=some (.pointer e))/\bQ P t 1/\dZ P t (.pointer none)
 |.fn=>(∃ x y z,P.underlying t=some (.func x y z))/\bQ P t 1/\dZ P t .nilFunc
 |.none=>True
def TOk (P:Program)(T:TypeId->TI):Prop:=∀ t,oK P t (T t)
theorem sv {P:Program}:∀ {l:List (TypeId×TI)},(∀ x∈l,oK P x.1 x.2)->TOk P (fY l)
 |[],_,_=>trivial
 |(t,i)::l,h,u=>by
  simp only[fY];cases y:BA t u with
  |false=>exact sv (λx r=>h x (CG _ r)) u
  |true =>
   simp_all
section
variable {P:Program} {V:Env} {W:Wit} {st:St} {w:World} {a:Act} {o:Oper}
def mH (P:Program)(V:Env)(o:Oper)(st:St)(U:Upd)(a:Act)(w:World):Prop :=
 ∀ (next:Act->World->Prop) (Q:Exit->Act->World->Prop),(∀ r u,Rel P V (ac U st) r u->next r u)->o.wp P a w next Q
theorem dV {v:Value}{w':World}{next:Act->World->Prop}{Q:Exit->Act->World->Prop}(h:(execOp a.eval o).run P w=.ok (.value v) w')(r:next (a.put o.dst v) w'):o.wp P a w next Q:=by
 unfold Oper.wp;rw[h];exact r
theorem pz {w':World}{next:Act->World->Prop}{Q:Exit->Act->World->Prop}(h:(execOp a.eval o).run P w=.ok .skip w')(r:next (a.put o.dst undef) w'):o.wp P a w next Q:=by
 unfold Oper.wp;rw[h];exact r
def bM (V:Env)(o:Oper):Prop:=∀ d,o.dst=some d->d<V.nt/\∀ x∈V.fixt,x.1≠d
theorem dW (J:ax V)(h:ap P V W st a w){d:Nat}(y:o.dst=some d)(u:bM V o){v:Value}{sh:aH}{ls:List Leaf}{cs:List Value}
  (r:(execOp a.eval o).run P w=.ok (.value v) w) (I:d9 sh v cs) (H:aC P V W st w ls cs):mH P V o st (cj st [] d sh ls) a w:=by
 intro next Q z;refine dV r ?_;rw[y];exact z _ _ (h.putLs J d (u d y).1 (u d y).2 _ sh ls v cs (CD _) I H)
theorem aN (I:ax V)(h:ap P V W st a w){d:Nat}(H:o.dst=some d)(u:bM V o){v:Value}{l:Leaf}
  (r:(execOp a.eval o).run P w=.ok (.value v) w) (z:aK P V W st w [] l v) (y:¬ ao l) (J:v.oneCell'=true):mH P V o st (cj st [] d .one [l]) a w :=
 dW I h H u r (cs:=[v]) rfl ⟨⟨z,y,J⟩,trivial⟩
theorem j0 {agg:Bool}{v:Value}{cs:List Value}(h:db agg v cs):d9 (bg agg) v cs:=by
 cases agg <;> exact h
theorem bE (h:ap P V W st a w){x:Operand}{k:IntKind}{n:Int}(r:one st x=.int k n):a.eval x=.int k n:=by
 have:=(bo h x (by rw[r];simp)).1;rw[r]at this;exact this
theorem ib (h:ap P V W st a w){x:Operand}{b:Bool}(r:one st x=.bool b):a.eval x=.bool b:=by
 have:=(bo h x (by rw[r];simp)).1;rw[r]at this;exact this
theorem iw (h:ap P V W st a w){x:Operand}{b:ByteArray}(r:one st x=.str b):a.eval x=.string b:=by
 have:=(bo h x (by rw[r];simp)).1;rw[r]at this;exact this
theorem vt (r:BinOp)(k:IntKind)(t t':TypeId)(x y:Operand)(m n:Int)(l:Leaf)(u:sk r k m n=some l)(H:a.eval x=.int k m)(z:a.eval y=.int k n)(I:o.op=.binOp r t x y t') :
  ∃ v,(execOp a.eval o).run P w=.ok (.value v) w/\aK P V W st w [] l v/\¬ ao l/\v.oneCell'=true:=by
 cases r <;> simp only[sk,BH,reduceCtorEq]at u <;> subst u <;>
  exact⟨_,by simp[execOp,I,H,z,eqGuard,Go.binOp,Op.intArith,Op.intCmp],rfl,id,rfl⟩
theorem By (I:ax V)(h:ap P V W st a w)(ks:List (Nat×Nat)):cF V W W st (ac (aM st ks) st) w w:=by
 obtain⟨_,z,u⟩:=lS I ks h;exact⟨λq=>⟨(u q).2,λ_=>rfl⟩,λb r=>⟨⟨r.1,by rw[(u b).1];exact r.2⟩,rfl⟩,λ_ h=>h,λ_ _=>rfl,λ_ q j l H y _=>⟨⟨l,(z q j l H y).1,y⟩,rfl,λ_ _=>rfl⟩⟩
theorem step_frz (I:ax V)(h:ap P V W st a w)(ks:List (Nat×Nat)):cF V W (W.frz st ks) st (ac (aE st ks) st) w w:=by
 obtain⟨_,z,u⟩:=lu I ks h;exact⟨λq=>⟨(u q).2,λ_=>rfl⟩,λb r=>⟨⟨r.1,by rw[(u b).1];exact r.2⟩,rfl⟩,λ_ h=>.inl h,λ_ _=>rfl,λ_ q j l H y _=>⟨⟨l,(z q j l H y).1,y⟩,rfl,λ_ _=>rfl⟩⟩
def dq (W:Wit)(ls:List Leaf)(j:Nat):List Nat :=
 match ls[j]? with
 |some (.al r i _)=>W.bs r i
 |_=>[]
theorem wL:∀ {ls:List Leaf} {j r i n:Nat},ls[j]?=some (.al r i n)->ao (aD st (.al r i n))->(r,i)∈bu st ls
 |l::ls,0,r,i,n,h,u=>by
  simp at h;subst h;generalize y:aD st (.al r i n)=q at u;cases q <;> first|exact u.elim|simp[bu,y]
 |l::ls,j+1,r,i,n,h,u=>by
  have:=wL (ls:=ls) (by simpa using h) u;cases l <;> simp[bu,this]
theorem mI:∀ {ls:List Leaf} {j r i n:Nat},ls[j]?=some (.al r i n)->ao (aD st (.al r i n))->(r,i)∈b6 st ls
 |l::ls,0,r,i,n,h,u=>by
  simp at h;subst h;generalize y:aD st (.al r i n)=q at u;cases q <;> first|exact u.elim|simp[b6,y]
 |l::ls,j+1,r,i,n,h,u=>by
  have:=mI (ls:=ls) (by simpa using h) u;cases l <;> simp[b6,this]
theorem oa:∀ {ls:List Leaf} {j y r i n H:Nat},aY (b6 st ls)=true->ls[j]?=some (.al r i n)->ao (aD st (.al r i n)) ->
    ls[y]?=some (.al r i H)->ao (aD st (.al r i H))->j=y
  |l::ls,j,y,r,i,n,H,u,R,h2,h3,h4=>by
    have M:∀ (m:Nat) (k:Nat),l=.al r i m->ao (aD st (.al r i m))->(∃ z,ls[k]?=some (.al r i z)/\ao (aD st (.al r i z)))->False:=by
      rintro m k rfl J ⟨z,Z,X⟩;have Y:=mI Z X;have O:b6 st (.al r i m::ls)=(r,i)::b6 st ls:=by
        generalize hq:aD st (.al r i m)=q at J;cases q <;> first|exact J.elim|simp[b6,hq]
      rw[O]at u;simp only[aY,BD,B9]at u;have:=u.1;rw[CA]at this;have:=this _ Y;simp at this
    have I:aY (b6 st ls)=true:=by
      cases l <;> first
        |exact u
        | (rename_i r' y v'
           simp only[b6]at u;split at u
           · simp only[CW,aY]at u
             grind
           · simpa using u)
    cases j with
    |zero =>
      cases y with
      |zero=>rfl
      |succ y =>
        grind
    |succ j =>
      cases y with
      |zero =>
        grind
      |succ y =>
        have:=oa (ls:=ls) I (by simpa using R) h2 (by simpa using h3) h4;omega
theorem lT (R:ax V)(h:ap P V W st a w){l:Leaf}{v:Value}(y:aK P V W st w [] l v)(u:¬ ao l) :
  (∃ r i n,l=.al r i n/\ao (aD st l)/\aK P V W st w (W.bs r i) (aD st l) v/\(st r).ls[i]?=some (aD st l)) \/
  (¬ ao (aD st l)/\aK P V W st w [] (aD st l) v):=by
 cases l with
 |al r j n =>
  by_cases H:aD st (.al r j n)=.dead
  ·rw[H];exact .inr ⟨id,trivial⟩
  ·obtain⟨M,Y⟩:=eZ rfl H;have J:=y.2 M;have X:=h.leaf r j _ v Y J;by_cases z:ao (aD st (.al r j n))
   ·grind
   ·exact .inr ⟨z,X.carry R.ro (cF.refl V W st w) (λh=>absurd h z)⟩
 |own p hh E e O=>exact absurd trivial u
 |nal p Z ep I E e O =>
  simp only[aD];cases bm st Z ep with
  |false=>exact .inr ⟨id,trivial⟩
  |true=>exact .inr ⟨id,y⟩
 |_=>exact .inr ⟨id,y⟩
end
section
variable {P:Program} {V:Env} {W:Wit} {st:St} {w w':World} {a:Act} {o:Oper} {ls:List Leaf} {cs:List Value}
theorem iy {st st':St}(h:∀ q,(st' q).sh=(st q).sh)(b:Nat):live st' b<->live st b:=by simp[live,h]
def aB (st:St)(x:Nat×Nat):Prop:=∃ l,(st x.1).ls[x.2]?=some l/\ao l
def aX (W:Wit)(ks:List (Nat×Nat)):List Nat:=ks.flatMap λx=>W.bs x.1 x.2
theorem dI (W:Wit)(a b:List (Nat×Nat)):aX W (a++b)=aX W a++aX W b:=List.flatMap_append
theorem gl {W:Wit}{ks:List (Nat×Nat)}{k:Nat}:k∈aX W ks<->∃ x∈ks,k∈W.bs x.1 x.2:=List.mem_flatMap
theorem kg {W:Wit}{p:Bool}{ks:List (Nat×Nat)}(r:∀ x∈ks,aB st x):∀ k,bk V W p ks k->gd V (W.frz st ks) p k:=by
 rintro k (u|⟨x,y,u⟩)
 ·exact bU (W':=W.frz st ks) (λh=>h) (λ_ h=>Or.inl h) k u
 ·exact .inl (.inr ⟨x,y,r x y,u⟩)
theorem nI {a b:List (Nat×Nat)}(h:dC a b=true):∀ x∈a,x∉b:=by
 intro x u r;simp only[dC,B9,CA]at h;have:=h x u;simp only[CV,CA]at this;have:=this x r;simp[is]at this
theorem fD (hV:ax V){W:Wit}{a:Act}{w:World}(h:ap P V W st a w){frz kill:List (Nat×Nat)}(X:dC frz kill=true)(a0:∀ x∈kill,aB st x) :
  ap P V (W.frz st frz) (ac (aM (ac (aE st frz) st) kill++aE st frz) st) a w /\
  (∀ (q i:Nat) (l:Leaf),(ac (aM (ac (aE st frz) st) kill++aE st frz) st q).ls[i]?=some l->ao l->(st q).ls[i]?=some l/\(q,i)∉frz/\(q,i)∉kill) /\
  (∀ q,(ac (aM (ac (aE st frz) st) kill++aE st frz) st q).sh=(st q).sh/\(st q).ver<=(ac (aM (ac (aE st frz) st) kill++aE st frz) st q).ver) /\
  (∀ k∈aX W kill,¬ (W.frz st frz).nw k/\¬ V.prot k/\k<w.heap.size/\(∀ b,live (ac (aM (ac (aE st frz) st) kill++aE st frz) st) b->W.β b≠k) /\
   ∀ (J i:Nat) (l:Leaf),(ac (aM (ac (aE st frz) st) kill++aE st frz) st J).ls[i]?=some l->ao l->k∉W.bs J i):=by
 obtain⟨h1,h2,h3⟩:=lu hV frz h;obtain⟨h4,h5,Z⟩:=lS hV kill h1;rw[<- bz]at h4 h5 Z;have I:∀ q,(ac (aM (ac (aE st frz) st) kill++aE st frz) st q).sh=(st q).sh:=λq=>(Z q).1.trans (h3 q).1
 have u:∀ (q i:Nat) (l:Leaf),(ac (aM (ac (aE st frz) st) kill++aE st frz) st q).ls[i]?=some l->ao l->(st q).ls[i]?=some l/\(q,i)∉frz/\(q,i)∉kill:=by
  simp_all
 refine⟨h4,u,λq=>⟨I q,BL (h3 q).2 (Z q).2⟩,λk z=>?_⟩;obtain⟨x,hx,z⟩:=gl.1 z;obtain⟨l,M,r⟩:=a0 x hx;have h7:=h.ownb x.1 x.2 l M r k z;refine⟨?_,h7.2.1,h.own_lt M r k z,λb hb=>h7.2.2 b ((iy I b).1 hb),λJ i l1 h8 h9 O=>?_⟩
 ·rintro (hn|⟨y,hy,⟨l2,Y,H⟩,R⟩)
  ·grind
  ·obtain⟨e1,e2⟩:=h.sep y.1 y.2 l2 x.1 x.2 l Y H M r k R z;exact nI X y hy (by rw[show y=x from Prod.ext e1 e2];exact hx)
 ·obtain⟨a1,_,a2⟩:=u J i l1 h8 h9;obtain⟨e1,e2⟩:=h.sep x.1 x.2 l J i l1 M r a1 h9 k z O
  simp_all
theorem zH (I:ax V)(h:ap P V W st a w)(frz kill:List (Nat×Nat)):cF V W (W.frz st frz) st (ac (aM (ac (aE st frz) st) kill++aE st frz) st) w w:=by
 obtain⟨O,M,z⟩:=lu I frz h;obtain⟨_,H,r⟩:=lS I kill O;rw[<- bz]at H r;exact⟨λq=>⟨BL (z q).2 (r q).2,λ_=>rfl⟩,λb y=>⟨⟨y.1,by rw[(r b).1,(z b).1];exact y.2⟩,rfl⟩,λ_ h=>.inl h,λ_ _=>rfl,
  λ_ q j l J u _=>⟨⟨l,(M q j l (H q j l J u).1 u).1,u⟩,rfl,λ_ _=>rfl⟩⟩
theorem sw:∀ {ls:List Leaf} {j:Nat} {p:Bool} {ks:List (Nat×Nat×Nat)} {ep:Nat} {E:TypeId} {e:Ty} {xs:List e.den},ls[j]?=some (.nal p ks ep none E e xs)->bm st ks ep=true->∀ k∈ks,(k.1,k.2.1)∈dw st ls
 |l::ls,0,p,ks,ep,E,e,xs,h,u,k,y=>by
  simp at h;subst h;simp only[dw,aD]
  grind
 |l::ls,j+1,p,ks,ep,E,e,xs,h,u,k,y=>by
  have:=sw (ls:=ls) (by simpa using h) u k y;cases l with
  |nal M z H r J O I=>cases r <;> simp[dw,this]
  |_=>simp[dw,this]
theorem sx {ls:List Leaf}(h:hX st ls=true):aY (b6 st ls)=true/\dC (dw st ls) (b6 st ls)=true:=by
 simpa[hX]using h
theorem oc (y:aC P V W st w ls cs){x:Nat×Nat}(u:x∈b6 st ls):aB st x:=by
 induction ls generalizing cs with
 |nil=>simp[b6]at u
 |cons l ls z =>
  cases cs with
  |nil=>exact y.elim
  |cons v cs =>
   cases l with
   |al r j n =>
    simp only[b6,BN]at u;rcases u with u|u
    ·split at u
     ·rename_i p I E e J H;simp at u;subst u;exact⟨_,(eZ H (by simp)).2,trivial⟩
     ·grind
    ·exact z y.2 u
   |_=>exact z y.2 u
theorem AG {l:Leaf}(h:ao (gi st l)):ao (aD st l)/\gi st l=aD st l:=by
 unfold gi at h ⊢;split at h
 ·exact h.elim
 ·exact⟨h,rfl⟩
theorem oL (hV:ax V)(h:ap P V W st a w){ls:List Leaf}{cs:List Value}(hl:aC P V W st w ls cs)(b0:hX st ls=true) :
    ap P V (W.frz st (dw st ls)) (ac (mvU st ls) st) a w/\(dH st ls).length=cs.length /\
    (∀ (j:Nat) (l:Leaf) (u:Value),(dH st ls)[j]?=some l->cs[j]?=some u->aK P V (W.frz st (dw st ls)) (ac (mvU st ls) st) w (dq W ls j) l u) /\
    (∀ (j:Nat) (l:Leaf),(dH st ls)[j]?=some l->ao l->∀ k∈dq W ls j,¬ (W.frz st (dw st ls)).nw k/\¬ V.prot k/\k<w.heap.size /\
      (∀ b,live (ac (mvU st ls) st) b->W.β b≠k) /\
      ∀ (r1 j1:Nat) (l1:Leaf),(ac (mvU st ls) st r1).ls[j1]?=some l1->ao l1->k∉W.bs r1 j1) /\
    (∀ (j j':Nat) (l l':Leaf),(dH st ls)[j]?=some l->ao l->(dH st ls)[j']?=some l'->ao l'->∀ k,k∈dq W ls j->k∈dq W ls j'->j=j'):=by
  obtain⟨hd,a6⟩:=sx b0;obtain⟨h1,h2,h3,b2⟩:=fD hV h a6 (λx hx=>oc hl hx);have I:=zH hV h (dw st ls) (b6 st ls);show ap P V (W.frz st (dw st ls)) (ac (aM (ac (aE st (dw st ls)) st) (b6 st ls)++aE st (dw st ls)) st) a w/\_;have R:∀ (j:Nat) (l:Leaf),(dH st ls)[j]?=some l->∃ z u,ls[j]?=some z/\cs[j]?=some u/\gi st z=l/\aK P V W st w [] z u/\¬ ao z:=by
    intro j l M;simp only[dH,CR,BO]at M;obtain⟨z,H,Z⟩:=M;have a5:j<cs.length:=by rw[<- hl.length];exact (BC.1 H).1
    have O:=BE a5;have h7:=hl.at_ j z _ H O
    simp_all
  have y:∀ (j:Nat) (l:Leaf),(dH st ls)[j]?=some l->ao l->∃ r i n,ls[j]?=some (.al r i n)/\ao (aD st (.al r i n))/\(st r).ls[i]?=some l:=by
    intro j l M ho;obtain⟨z,u,H,Z,rfl,O,h7⟩:=R j l M;obtain⟨a0,e0⟩:=AG ho;rcases lT hV h O h7 with ⟨r,i,n,rfl,h8,_,h9⟩|⟨h8,_⟩
    · grind
    · grind
  refine⟨h1,by simp[dH,hl.length],λj l u M hu=>?_,λj l M ho k J=>?_,λj j' l l' M ho a9 a0 k J a2=>?_⟩
  · obtain ⟨z, u', H, Z, rfl, O, h7⟩ := R j l M
    obtain rfl:u=u':=Option.some.inj (hu.symm.trans Z);have X:gi st z=aD st z->aK P V (W.frz st (dw st ls)) (ac (mvU st ls) st) w (dq W ls j) (gi st z) u:=by
      intro e0;rw[e0];rcases lT hV h O h7 with ⟨r,i,n,rfl,h8,h9,_⟩|⟨h8,h9⟩
      · have:dq W ls j=W.bs r i:=by simp[dq,H]
        rw[this];exact h9.carry hV.ro I (λ_=>⟨rfl,λ_ _=>rfl⟩)
      · exact h9.carry hV.ro I (λh=>absurd h h8)
    by_cases Y:∃ p ks ep E e xs,aD st z=.nal p ks ep none E e xs
    · obtain⟨p,ks,ep,E,e,xs,Y⟩:=Y
      have e0:gi st z=.ro p E e xs:=by unfold gi;rw[Y]
      rw[e0];have a1:z=.nal p ks ep none E e xs/\bm st ks ep=true:=by
        cases z with
        |al r i n=>exact absurd Y iM
        |nal p' b1 b3 b4 E' e' b5 =>
          simp only[aD]at Y;cases hv:bm st b1 b3 with
          |false=>simp[hv]at Y
          |true =>
            simp_all
        |_=>simp[aD]at Y
      obtain⟨rfl,hv⟩:=a1;refine Rd.mono (λk J=>?_) (pw hv O).rd;rcases J with J|⟨x,hx,J⟩
      · exact bU (W':=W.frz st (dw st ls)) (λh=>h) (λ_ h=>Or.inl h) k J
      · exact .inl (.inr ⟨(x.1,x.2.1),sw H hv x hx,(cA hv).2.2 x hx,J⟩)
    · refine X ?_
      unfold gi
      grind
  · obtain⟨r,i,n,H,Z,O⟩:=y j l M ho
    have e:dq W ls j=W.bs r i:=by simp[dq,H]
    rw[e]at J;exact b2 k (gl.2 ⟨(r,i),mI H Z,J⟩)
  · obtain⟨r,i,n,H,Z,O⟩:=y j l M ho
    obtain⟨r',i',n',a3,ad,a4⟩:=y j' l' a9 a0;have e:dq W ls j=W.bs r i:=by simp[dq,H]
    have e':dq W ls j'=W.bs r' i':=by simp[dq,a3]
    rw[e]at J;rw[e']at a2;obtain⟨rfl,rfl⟩:=h.sep r i l r' i' l' O ho a4 a0 k J a2;exact oa hd H Z a3 ad
theorem zv (z:ax V)(h:ap P V W st a w)(u:aC P V W st w ls cs)(r:hX st ls=true):∀ q,(ac (mvU st ls) st q).sh=(st q).sh/\(st q).ver<=(ac (mvU st ls) st q).ver :=
 (fD z h (sx r).2 (λ_ y=>oc u y)).2.2.1
theorem ap.putMoved (M:ax V)(h:ap P V W st a w){ls:List Leaf}{cs:List Value}(J:aC P V W st w ls cs)(O:hX st ls=true)
  (d:Nat) (I:d<V.nt) (r:∀ x∈V.fixt,x.1≠d) {sh:aH} {v:Value} (Z:d9 sh v cs) :
  Rel P V (ac (cj st (mvU st ls) d sh (dH st ls)) st) (a.put (some d) v) w:=by
 obtain⟨R,h2,h3,u,h5⟩:=oL M h J O;exact⟨_,R.put M d I r _ sh (dH st ls) v cs (dq W ls) (CD _) Z h2 J.one' h3
  (λj l H y k z=>⟨(u j l H y k z).1,(u j l H y k z).2.1,(u j l H y k z).2.2.2.1,λr1 Y X _=>(u j l H y k z).2.2.2.2 r1 Y X⟩) h5⟩
theorem ap.setBoxG (hV:ax V)(h:ap P V W st a w)(b:Nat)(hb:B0<=b)(n:Nat)(ls:List Leaf)(a3:List Value)(X:Nat->List Nat)(g:Nat)(E:TypeId)
    (hn:(st b).ver<n) (hg:(live st b/\W.β b=g)\/(¬ live st b/\¬ cd V W st g/\∀ (j:Nat) (l:Leaf),ls[j]?=some l->ao l->∀ k∈X j,k≠g)) (bl:w'.heap[g]?=some (.cells a3.toArray E (0,0)))
    (b1:∀ k,cd V W st k->k≠g->w'.heap[k]?=w.heap[k]?) (a9:∀ (j:Nat) (l:Leaf),ls[j]?=some l->ao l->∀ k∈X j,k≠g->w'.heap[k]?=w.heap[k]?) (b4:w.heap.size<=w'.heap.size) (b9:w'.os=w.os) (ht:w'.tape=w.tape) (ho:w'.output=w.output)
    (hl:ls.length=a3.length) (h1:∀ u∈a3,u.oneCell'=true)
    (b0:∀ (j:Nat) (l:Leaf) (u:Value),ls[j]?=some l->a3[j]?=some u->aK P V W st w (X j) l u)
    (ad:∀ (j:Nat) (l:Leaf),ls[j]?=some l->ao l->∀ k∈X j,¬ W.nw k/\¬ V.prot k/\(∀ b,live st b->W.β b≠k) /\
      ∀ (r1 j1:Nat) (l1:Leaf),r1≠b->(st r1).ls[j1]?=some l1->ao l1->k∉W.bs r1 j1)
    (b3:∀ (j j':Nat) (l l':Leaf),ls[j]?=some l->ao l->ls[j']?=some l'->ao l'->∀ k,k∈X j->k∈X j'->j=j') :
    ap P V { W with β:=λr=>if r=b then g else W.β r,cs:=λr=>if r=b then a3 else W.cs r,bs:=λr j=>if r=b then X j else W.bs r j }
      (ac [(b,⟨n,.agg,ls⟩)] st) a w':=by
  have Y:¬ W.nw g/\¬ V.prot g/\(∀ q,q≠b->live st q->W.β q≠g)/\∀ (r1 j1:Nat) (l1:Leaf),(st r1).ls[j1]?=some l1->ao l1->g∉W.bs r1 j1:=by
    rcases hg with ⟨a1,rfl⟩|⟨a1,hg⟩
    · exact⟨(h.box b a1).1,(h.box b a1).2,λq hq ba e=>hq (h.inj q b ba a1 e),λr1 j1 l1 y M H=>(h.ownb r1 j1 l1 y M _ H).2.2 b a1 rfl⟩
    · have hu:=hg.1
      simp only[cd,not_or,not_exists,not_and]at hu
      grind
  have b5:∀ (j:Nat) (l:Leaf),ls[j]?=some l->ao l->∀ k∈X j,k≠g:=by
    grind
  have I:∀ q,live (ac [(b,⟨n,.agg,ls⟩)] st) q<->(q=b\/live st q):=by
    intro q;rcases am b q ⟨n,.agg,ls⟩ st with ⟨e0,e⟩|⟨z,e⟩
    · subst e0
      simp[live,e,hb]
    · simp[live,e,z]
  have J:∀ k,cd V W st k->k≠g->w'.heap[k]?=w.heap[k]?:=b1;have a5:cF V W { W with β:=λr=>if r=b then g else W.β r,cs:=λr=>if r=b then a3 else W.cs r,bs:=λr j=>if r=b then X j else W.bs r j } st (ac [(b,⟨n,.agg,ls⟩)] st) w w':=by
    refine⟨λq=>?_,λq hq=>⟨(I q).2 (.inr hq),?_⟩,λ_ h=>h,λk H=>J k (H.elim .inl (λh=>.inr (.inl h))) ?_,λ_ q j l y M Z=>?_⟩
    · rcases am b q ⟨n,.agg,ls⟩ st with ⟨rfl,e⟩|⟨z,e⟩
      · grind
      · grind
    · grind
    · grind
    · rcases am b q ⟨n,.agg,ls⟩ st with ⟨rfl,e⟩|⟨z,e⟩
      · grind
      · rw[e]at y
        refine⟨⟨l,y,M⟩,by simp[z],λk H=>J k (.inr (.inr (.inr ⟨q,j,l,y,M,H⟩))) ?_⟩
        grind
  exact {
    nt:=h.nt,df:=h.df
    slots:=λt bb=>by
      have : t ≠ b := by have : GH <= B0 := by decide
                         omega
      rw[aI this];simpa[this]using h.slots t bb
    boxes:=λq hq=>by
      rcases am b q ⟨n,.agg,ls⟩ st with ⟨rfl,e⟩|⟨z,e⟩
      · grind
      · rw[e]
        refine (h.boxes q hq).imp id λ⟨y,E',M⟩=>⟨y,E',?_⟩
        simp only[z,if_false];rw[J _ (.inr (.inr (.inl ⟨q,⟨hq,y⟩,rfl⟩))) (Y.2.2.1 q z ⟨hq,y⟩)];exact M
    len:=λq=>by
      rcases am b q ⟨n,.agg,ls⟩ st with ⟨rfl,e⟩|⟨z,e⟩
      · rw[e];simpa using hl
      · rw[e];simpa[z]using h.len q
    one:=λq u hu=>by
      by_cases hq:q=b
      · grind
      · simp only[hq]at hu;exact h.one q u hu
    leaf:=λq j l u y M=>by
      rcases am b q ⟨n,.agg,ls⟩ st with ⟨rfl,e⟩|⟨z,e⟩
      · rw[e]at y
        simp only at M;exact (b0 j l u y M).carry hV.ro a5 (λho=>⟨by simp,λk H=>a9 j l y ho k H (b5 j l y ho k H)⟩)
      · rw[e]at y
        simp only[z]at M;refine (h.leaf q j l u y M).carry hV.ro a5 (λho=>⟨by simp[z],λk H=>J k (.inr (.inr (.inr ⟨q,j,l,y,ho,H⟩))) ?_⟩);rintro rfl;exact Y.2.2.2 q j l y ho H
    ownb:=λq j l y M k H=>by
      rcases am b q ⟨n,.agg,ls⟩ st with ⟨rfl,e⟩|⟨z,e⟩
      · rw[e]at y
        simp only[if_true]at H;have Z:=ad j l y M k H;refine⟨Z.1,Z.2.1,λp hp=>?_⟩;by_cases a2:p=q
        · simp only[a2,if_true];exact λe=>b5 j l y M k H e.symm
        · simp only[a2,if_false];exact Z.2.2.1 p (((I p).1 hp).resolve_left a2)
      · rw[e]at y
        simp only[z,if_false]at H;have Z:=h.ownb q j l y M k H;refine⟨Z.1,Z.2.1,λp hp=>?_⟩;by_cases a2:p=b
        · simp only[a2,if_true];rintro rfl;exact Y.2.2.2 q j l y M H
        · simp only[a2,if_false];exact Z.2.2 p (((I p).1 hp).resolve_left a2)
    sep:=λq j l q' j' l' y M Z h5 k H a0=>by
      rcases am b q ⟨n,.agg,ls⟩ st with ⟨e0,e⟩|⟨z,e⟩ <;> rcases am b q' ⟨n,.agg,ls⟩ st with ⟨e1,e'⟩|⟨a4,e'⟩
      · rw[e]at y;rw[e']at Z
        simp only[e0,if_true]at H;simp only[e1,if_true]at a0;exact⟨e0.trans e1.symm,b3 j j' l l' y M Z h5 k H a0⟩
      · rw[e]at y;rw[e']at Z
        simp only[e0,if_true]at H;simp only[a4,if_false]at a0;exact absurd a0 ((ad j l y M k H).2.2.2 q' j' l' a4 Z h5)
      · rw[e]at y;rw[e']at Z
        simp only[z,if_false]at H;simp only[e1,if_true]at a0
        grind
      · rw[e]at y;rw[e']at Z
        simp only[z]at H;simp only[a4,if_false]at a0;exact h.sep q j l q' j' l' y M Z h5 k H a0
    box:=λq hq=>by
      by_cases O:q=b
      · simp only[O,if_true];exact⟨Y.1,Y.2.1⟩
      · simp only[O,if_false];exact h.box q (((I q).1 hq).resolve_left O)
    inj:=λq q' hq b2 e=>by
      by_cases O:q=b <;> by_cases R:q'=b
      · omega
      · simp only[O,if_true,R,if_false]at e
        exact absurd e.symm (Y.2.2.1 q' R (((I q').1 b2).resolve_left R))
      · simp only[O,if_false,R,if_true]at e
        exact absurd e (Y.2.2.1 q O (((I q).1 hq).resolve_left O))
      · simp only[O,if_false,R,if_false]at e
        exact h.inj q q' (((I q).1 hq).resolve_left O) (((I q').1 b2).resolve_left R) e
    nwlt:=λk H=>⟨BW (h.nwlt k H).1 b4,(h.nwlt k H).2⟩
    os:=b9.trans h.os,tape:=ht.trans h.tape,output:=ho.trans h.output,size:=BL h.size b4
    keep:=λk hp=>by
      rw[J k (.inr (.inl hp)) (by rintro rfl;exact Y.2.1 hp)];exact h.keep k hp
    fixb:=λx hx=>by
      obtain⟨y,M⟩:=h.fixb x hx;refine⟨(I _).2 (.inr y),?_⟩;by_cases a6:x.1=b
      · simp only[a6,if_true]
        rcases hg with ⟨_,e⟩|⟨a1,_⟩
        · rw[<- e,<- a6];exact M
        · exact absurd (a6 ▸ y) a1
      · simpa only[a6,if_false]using M
    fixt:=h.fixt }
theorem ap.setBox (hV:ax V)(h:ap P V W st a w)(b:Nat)(hb:B0<=b)(n:Nat)(ls:List Leaf)(z:List Value)(H:Nat->List Nat)(g:Nat)(E:TypeId)
  (hn:(st b).ver<n) (hg:(live st b/\W.β b=g)\/(¬ live st b/\w.heap.size<=g)) (Y:w'.heap[g]?=some (.cells z.toArray E (0,0)))
  (I:∀ k,k<w.heap.size->k≠g->w'.heap[k]?=w.heap[k]?) (a1:w.heap.size<=w'.heap.size) (a0:w'.os=w.os) (ht:w'.tape=w.tape) (ho:w'.output=w.output)
  (hl:ls.length=z.length) (h1:∀ u∈z,u.oneCell'=true)
  (X:∀ (j:Nat) (l:Leaf) (u:Value),ls[j]?=some l->z[j]?=some u->aK P V W st w (H j) l u)
  (y:∀ (j:Nat) (l:Leaf),ls[j]?=some l->ao l->∀ k∈H j,¬ W.nw k/\¬ V.prot k/\k<w.heap.size/\(∀ b,live st b->W.β b≠k) /\
   ∀ (r1 j1:Nat) (l1:Leaf),r1≠b->(st r1).ls[j1]?=some l1->ao l1->k∉W.bs r1 j1)
  (Z:∀ (j j':Nat) (l l':Leaf),ls[j]?=some l->ao l->ls[j']?=some l'->ao l'->∀ k,k∈H j->k∈H j'->j=j') :
  ap P V { W with β:=λr=>if r=b then g else W.β r,cs:=λr=>if r=b then z else W.cs r,bs:=λr j=>if r=b then H j else W.bs r j }
   (ac [(b,⟨n,.agg,ls⟩)] st) a w' :=
 h.setBoxG hV b hb n ls z H g E hn (hg.imp id λ⟨h2,h3⟩=>⟨h2,λhu=>by have:=h.used_lt g hu;omega,λj l M O k J=>by have:=(y j l M O k J).2.2.1;omega⟩) Y
  (λk J R=>I k (h.used_lt k J) R) (λj l M O k J R=>I k (y j l M O k J).2.2.1 R) a1 a0 ht ho hl h1 X
  (λj l M O k J=>⟨(y j l M O k J).1,(y j l M O k J).2.1,(y j l M O k J).2.2.2.1,(y j l M O k J).2.2.2.2⟩) Z
theorem eh (z:aC P V W st w ls cs){x:Nat×Nat}(u:x∈bu st ls):aB st x:=by
 induction ls generalizing cs with
 |nil=>simp[bu]at u
 |cons l ls H =>
  cases cs with
  |nil=>exact z.elim
  |cons v cs =>
   cases l with
   |al r j n =>
    simp only[bu,BN]at u;rcases u with u|u
    ·split at u
     ·rename_i p X E e M y;simp at u;subst u;exact⟨_,(eZ y (by simp)).2,trivial⟩
     ·grind
    ·exact H z.2 u
   |nal p R ep J E e M =>
    simp only[bu,BN]at u;rcases u with u|u
    ·split at u
     ·rename_i y;simp only[aD]at y;cases I:bm st R ep with
      |false=>simp[I]at y
      |true =>
       obtain⟨k,O,rfl⟩:=List.mem_map.1 u;exact (cA I).2.2 k O
     ·grind
    ·exact H z.2 u
   |_=>exact H z.2 u
theorem Bz (z:aC P V W st w ls cs){ks:List (Nat×Nat)}(u:∀ x∈bu st ls,x∈ks)(p:Bool):∀ k,bk V W p (bu st ls) k->gd V (W.frz st ks) p k:=by
 intro k r;rcases r with r|⟨x,y,r⟩
 ·exact bU (W':=W.frz st ks) (λh=>h) (λ_ h=>Or.inl h) k r
 ·exact .inl (.inr ⟨x,u x y,eh z y,r⟩)
end
section
variable {P:Program} {V:Env} {Γ:List Ctr} {T:TypeId->TI} {st:St} {o:Oper} {R:Type} {κ:Upd->Option R} {r:R}
def bW (P:Program)(V:Env)(o:Oper)(st:St)(κ:Upd->Option R)(r:R):Prop :=
 ∃ U,κ U=some r/\∀ W a w,ap P V W st a w->mH P V o st U a w
theorem ya (M:ax V)(y:bM V o){x:Operand}(u:o.op=.move x)(h:act Γ T o st κ=some r):bW P V o st κ r:=by
 simp only[act,wrU,u]at h;split at h
 ·rename_i d J;refine⟨_,h,λW a w z=>?_⟩;obtain⟨O,I,H⟩:=cU z x;exact dW M z J y (by simp[execOp,u]) I H
 ·grind
theorem vu (X:ax V)(z:bM V o){x:Operand}(y:o.op=.assign x)(h:act Γ T o st κ=some r):bW P V o st κ r:=by
 simp only[act,y]at h;split at h
 ·rename_i d H;cases u:hX st (au st x).2 with
  |false=>simp[u]at h
  |true =>
   simp only[u]at h;refine⟨_,h,λW a w I=>?_⟩;obtain⟨Y,O,M⟩:=cU I x;intro next Q J;refine dV (v:=a.eval x) (w':=w) (by simp[execOp,y]) ?_;rw[H];exact J _ _ (I.putMoved X M u d (z d H).1 (z d H).2 O)
 ·grind
theorem yb (X:ax V)(H:bM V o){c x y:Operand}(z:o.op=.pick c x y)(h:act Γ T o st κ=some r):bW P V o st κ r:=by
 simp only[act,wrU,z]at h;split at h
 ·rename_i t O;cases t with
  |true =>
   split at h
   ·rename_i d M;refine⟨_,h,λW a w u=>?_⟩;obtain⟨Y,J,I⟩:=cU u x;exact dW X u M H (v:=a.eval x) (by simp[execOp,z,ib u O,asBool]) J I
   ·grind
  |false =>
   split at h
   ·rename_i d M;refine⟨_,h,λW a w u=>?_⟩;obtain⟨Y,J,I⟩:=cU u y;exact dW X u M H (v:=a.eval y) (by simp[execOp,z,ib u O,asBool]) J I
   ·grind
 ·grind
theorem sy (hV:ax V)(Z:bM V o){x:Operand}(X:o.op=.nilCheck x)(h:act Γ T o st κ=some r):bW P V o st κ r:=by
 simp only[act,wrU,X]at h;have H:∀ {l:Leaf} {d:Nat},one st x=l->l≠.dead->(∀ W a w,ap P V W st a w->aK P V W st w [] l (a.eval x)->∃ ad,a.eval x=.pointer (some ad))->o.dst=some d ->
   ∀ W a w,ap P V W st a w->mH P V o st (cj st [] d .one [l]) a w:=by
  intro l d z a0 hp I W a w M;obtain⟨Y,h2,h3,_⟩:=bo M x (by rw[z];exact a0);rw[z]at Y h2;obtain⟨ad,O⟩:=hp W a w M Y;exact aN hV M I Z (v:=a.eval x) (by simp[execOp,X,O]) Y h2 h3
 split at h
 ·split at h
  ·rename_i z _ d I;exact⟨_,h,H z (by simp) (λW a w M u=>by obtain⟨g,o',c,O,_⟩:=u;exact⟨_,O⟩) I⟩
  ·grind
 ·split at h
  ·rename_i z _ d I;exact⟨_,h,H z (by simp) (λW a w M u=>⟨_,u.2.2⟩) I⟩
  ·grind
 ·rename_i r' j v i sz off z;cases J:BA (st r').ver v with
  |false=>simp[J]at h
  |true =>
   simp only[J]at h;split at h
   ·rename_i d I;refine⟨_,h,H z (by simp) (λW a w M u=>?_) I⟩;obtain⟨g,a1,a2,_,_,O⟩:=u.2 (BB J)
    simp_all
   ·grind
 ·split at h
  ·rename_i z _ d I;exact⟨_,h,H z (by simp) (λW a w M u=>by obtain⟨b,ob,g,o',c,O,_⟩:=u;exact⟨_,O⟩) I⟩
  ·grind
 ·rename_i p ks ep b y off z;cases J:bm st ks ep with
  |false=>simp[J]at h
  |true =>
   simp only[J]at h;split at h
   ·rename_i d I;refine⟨_,h,H z (by simp) (λW a w M u=>?_) I⟩;obtain⟨g,o',c,O,_⟩:=(u.2.2 (cA J).1 (cA J).2.1 (cA J).2.2:NpOk V W w p ks b y off _).rd
    simp_all
   ·grind
 ·grind
theorem yc (J:ax V)(z:bM V o){M:UnOp}{t:TypeId}{x:Operand}(u:o.op=.unOp M t x)(h:act Γ T o st κ=some r):bW P V o st κ r:=by
 simp only[act,wrU,u]at h;split at h
 ·rename_i b H;split at h
  ·rename_i d I;exact⟨_,h,λW a w y=>aN J y I z (v:=.bool (!b)) (by simp[execOp,u,ib y H,Op.unary]) rfl id rfl⟩
  ·grind
 ·rename_i k n H;split at h
  ·rename_i d I;exact⟨_,h,λW a w y=>aN J y I z (v:=.int k (k.wrap (0-n))) (by simp[execOp,u,bE y H,Op.unary,Op.intArith]) rfl id rfl⟩
  ·grind
 ·grind
theorem tW (hV:ax V)(O:bM V o){x:Operand}{i:Nat}(H:o.op=.extract x i)(h:act Γ T o st κ=some r):bW P V o st κ r:=by
 simp only[act,wrU,H]at h;split at h
 ·rename_i u ls he;split at h
  ·rename_i agg n hp;split at h
   ·rename_i d hd;refine⟨_,h,λW a w hr=>?_⟩;obtain⟨z,hs,hl⟩:=cU hr x;rw[he]at hs hl;obtain⟨y,hv,X⟩:=hs;have I:∀ (u:List (Bool×Nat)) (y z:List Value) (i:Nat) (off:Nat),pv u y z->u[i]?=some (agg,n) ->
      ∃ v,y[i]?=some v/\db agg v ((z.drop ((u.take i).foldl (λa b=>a+b.2) off-off)).take n)/\off<=(u.take i).foldl (λa b=>a+b.2) off:=by
     intro u;induction u with
     |nil=>intro y z i off _ M;simp at M
     |cons p u ih =>
      rintro y z i off ⟨v,Y,c,a0,rfl,rfl,hc,a1,X⟩ M;cases i with
      |zero =>
       simp_all
      |succ i =>
       obtain⟨v',J,Z,h3⟩:=ih Y a0 i (off+p.2) X (by simpa using M);refine⟨v',by simpa using J,?_,by simp;omega⟩;simp;have e:(u.take i).foldl (λa b=>a+b.2) (off+p.2)-off=c.length+((u.take i).foldl (λa b=>a+b.2) (off+p.2)-(off+p.2)):=by omega
       rw[e,<- CZ,List.drop_left];exact Z
    obtain⟨v,J,Z,_⟩:=I u y z i 0 X hp;refine dW hV hr hd O (v:=v) ?_ (j0 Z) ((hl.drop _).take n);simp[execOp,H,hv,Instr.extract,J]
   ·grind
  ·grind
 ·grind
theorem uF {W:Wit}{a:Act}{w:World}(I:ap P V W st a w):∀ (xs:List Operand) (u l:List Nat),
  xs.foldl (λ (u:Option (List Nat)) x=>u.bind λl=>match one st x with|.bp b 0=>some (l++[b])|_=>none) (some u)=some l ->
  ∃ y,l=u++y/\xs.map a.eval=y.map (λb=>Value.pointer (some ⟨W.β b,0,none⟩))/\∀ b∈y,B0<=b/\(st b).sh=.agg
 |[],u,l,h=>⟨[],by simpa using h.symm,rfl,by simp⟩
 |x::xs,u,l,h=>by
  simp at h;have H:∀ (xs:List Operand),xs.foldl (λ (u:Option (List Nat)) x=>u.bind λl=>match one st x with|.bp b 0=>some (l++[b])|_=>none) none=none:=by
   intro xs;induction xs with
   |nil=>rfl
   |cons x xs X=>simpa using X
  split at h
  ·rename_i b J;obtain⟨y,O,Y,Z⟩:=uF I xs (u++[b]) l h;have z:=(bo I x (by rw[J];simp)).1;rw[J]at z;refine⟨b::y,by simp[O],?_,?_⟩
   ·simp only[Cb,Y];rw[show a.eval x=_ from z.2.2]
   ·intro q M;rcases CM.1 M with rfl|M
    ·exact⟨z.1,z.2.1⟩
    ·grind
  ·grind
theorem sA (O:ax V)(z:bM V o){fn:Fn}{first caps:Array Operand}(u:o.op=.makeFunc fn first caps)(h:act Γ T o st κ=some r):bW P V o st κ r:=by
 cases fn with
 |func f =>
  simp only[act,wrU,u]at h;cases y:BA first.size 0 with
  |false=>simp[y]at h
  |true =>
   simp only[y]at h;split at h
   ·rename_i l M;split at h
    ·rename_i d I;refine⟨_,h,λW a w H=>?_⟩;obtain⟨l',J,Y,X⟩:=uF H caps.toList [] l M;subst J;have Z:first=#[]:=Array.eq_empty_of_size_eq_zero (BB y)
     refine aN O H I z (v:=.func (.func f) #[] (l.map λb=>Value.pointer (some ⟨W.β b,0,none⟩)).toArray) ?_ ⟨rfl,X⟩ id rfl;rw[<- Y];simp[execOp,u,Instr.makeFunc,Z,<- CE]
    ·grind
   ·grind
 |_=>simp[act,u]at h
theorem gm {α:Type}{xs:List α}{i:Int}{x:α}(h:idx xs i=some x):0<=i/\i<xs.length/\xs[i.toNat]?=some x:=by
 unfold idx at h
 grind
end
section
variable {P:Program} {V:Env} {Γ:List Ctr} {T:TypeId->TI} {st:St} {o:Oper} {R:Type} {κ:Upd->Option R} {r:R}
theorem wM {W:Wit}{a:Act}{w:World}(H:ap P V W st a w){x:Operand}{b:Ty}{p:Bool}{u:b.den}(z:(au st x).1=.agg)(J:cQ st b (au st x).2=some (p,u)) :
  ∃ y G,a.eval x=.agg y.toArray/\Rd w G b u y:=by
 obtain⟨y,I,M⟩:=cU H x;rw[z]at I;exact⟨y,_,I,ey H M J⟩
theorem lv {t:TypeId}(y:P.underlying t=some .bool)(b u:Bool)(w:World):(Op.equal t (.bool b) (.bool u)).run P w=.ok (b==u) w:=by
 have e:Op.maxDepth=9999+1:=rfl;unfold Op.equal;rw[e];generalize 9999=m;unfold Op.equalIn;rw[BQ,run_underlying y];rfl
theorem wN (Z:ax V)(hT:TOk P T)(I:bM V o){op:BinOp}{t t':TypeId}{x y:Operand}(H:o.op=.binOp op t x y t')(h:act Γ T o st κ=some r):bW P V o st κ r:=by
  simp only[act,wrU,H]at h;split at h
  · rename_i k m k' n X O
    cases op
    case shl =>
      simp only at h;cases Y:decide (n<0) with
      |true=>simp[Y]at h
      |false =>
        simp only[Y,cond_false]at h;split at h
        · rename_i d M
          refine⟨_,h,λW a w z=>aN Z z M I (v:=.int k (k.wrap (m*2 ^ (min n.toNat k.bits)))) ?_ rfl id rfl⟩;have:¬ n<0:=of_decide_eq_false Y;simp[execOp,H,bE z X,bE z O,eqGuard,Go.binOp,Op.shift,this]
        · cases h
    case shr =>
      simp only at h;cases Y:decide (n<0) with
      |true=>simp[Y]at h
      |false =>
        simp only[Y,cond_false]at h;split at h
        · rename_i d M
          refine⟨_,h,λW a w z=>aN Z z M I (v:=.int k (m.fdiv (2 ^ (min n.toNat k.bits)))) ?_ rfl id rfl⟩;have:¬ n<0:=of_decide_eq_false Y;simp[execOp,H,bE z X,bE z O,eqGuard,Go.binOp,Op.shift,this]
        · cases h
    case quo =>
      simp only at h;cases Y:decide (n=0) with
      |true=>simp[Y]at h
      |false =>
        simp only[Y,cond_false]at h;cases J:decide (k=k') with
        |false=>simp[J]at h
        |true =>
          simp only[J,cond_true]at h;have J:=of_decide_eq_true J;subst J;split at h
          · rename_i d M
            refine⟨_,h,λW a w z=>aN Z z M I (v:=.int k (k.wrap (m.tdiv n))) ?_ rfl id rfl⟩;have:¬ n=0:=of_decide_eq_false Y;simp[execOp,H,bE z X,bE z O,eqGuard,Go.binOp,Op.intDiv,this]
          · cases h
    case rem =>
      simp only at h;cases Y:decide (n=0) with
      |true=>simp[Y]at h
      |false =>
        simp only[Y,cond_false]at h;cases J:decide (k=k') with
        |false=>simp[J]at h
        |true =>
          simp only[J,cond_true]at h;have J:=of_decide_eq_true J;subst J;split at h
          · rename_i d M
            refine⟨_,h,λW a w z=>aN Z z M I (v:=.int k (m.tmod n)) ?_ rfl id rfl⟩;have:¬ n=0:=of_decide_eq_false Y;simp[execOp,H,bE z X,bE z O,eqGuard,Go.binOp,Op.intDiv,this]
          · cases h
    case and =>
      simp only at h;cases J:decide (k=k') with
      |false=>simp[J]at h
      |true =>
        simp only[J,cond_true]at h;have J:=of_decide_eq_true J;subst J;split at h
        · rename_i d M
          refine⟨_,h,λW a w z=>aN Z z M I (v:=.int k (k.wrap ((BitVec.ofInt k.bits m &&& BitVec.ofInt k.bits n).toNat))) ?_ rfl id rfl⟩;simp[execOp,H,bE z X,bE z O,eqGuard,Go.binOp,Op.intBits]
        · cases h
    case xor =>
      simp only at h;cases J:decide (k=k') with
      |false=>simp[J]at h
      |true =>
        simp only[J,cond_true]at h;have J:=of_decide_eq_true J;subst J;split at h
        · rename_i d M
          refine⟨_,h,λW a w z=>aN Z z M I (v:=.int k (k.wrap ((BitVec.ofInt k.bits m ^^^ BitVec.ofInt k.bits n).toNat))) ?_ rfl id rfl⟩;simp[execOp,H,bE z X,bE z O,eqGuard,Go.binOp,Op.intBits]
        · cases h
    all_goals
      simp only at h;cases J:decide (k=k') with
      |false=>simp[J]at h
      |true =>
        simp only[J,cond_true]at h;have J:=of_decide_eq_true J;subst J;split at h
        · rename_i l hl
          split at h
          · rename_i d M
            refine⟨_,h,λW a w z=>?_⟩;obtain⟨v,h1,h2,h3,h4⟩:=vt (P:=P) (V:=V) (W:=W) (st:=st) (w:=w) _ k t t' x y m n l hl (bE z X) (bE z O) H;exact aN Z z M I h1 h2 h3 h4
          · cases h
        · cases h
  · rename_i b b' X O
    cases ht:T t with
    |bool =>
      have h1:=hT t;rw[ht]at h1;simp only[ht]at h;cases op <;> simp only at h <;> first
        |cases h;done
        | (split at h
           · rename_i d M
             first
               |exact⟨_,h,λW a w z=>aN Z z M I (v:=.bool (b==b')) (by simp[execOp,H,ib z X,ib z O,eqGuard,Go.binOp,lv h1.1]) rfl id rfl⟩
               |exact⟨_,h,λW a w z=>aN Z z M I (v:=.bool (b != b')) (by simp[execOp,H,ib z X,ib z O,eqGuard,Go.binOp,lv h1.1,bne]) rfl id rfl⟩
           · cases h)
    |_=>simp[ht]at h
  · rename_i b b' X O
    cases op <;> simp only at h <;> first
      |cases h;done
      | (cases a0 : decide (b.size + b'.size <= 9223372036854775807) with
         |false=>rw[a0]at h;cases h
         |true =>
           rw[a0]at h;simp only[cond_true]at h;split at h
           · rename_i d M
             refine⟨_,h,λW a w z=>aN Z z M I (v:=.string (b++b')) ?_ rfl id rfl⟩;have:(b.size:Int)+b'.size<=9223372036854775807:=by have:=of_decide_eq_true a0;omega
             simp[execOp,H,iw z X,iw z O,eqGuard,Go.binOp,Op.stringOp,this]
           · cases h)
      | (split at h
         · rename_i d M
           first
             |exact⟨_,h,λW a w z=>aN Z z M I (v:=.bool (b.toList==b'.toList)) (by simp[execOp,H,iw z X,iw z O,eqGuard,Go.binOp,Op.stringOp]) rfl id rfl⟩
             |exact⟨_,h,λW a w z=>aN Z z M I (v:=.bool (b.toList != b'.toList)) (by simp[execOp,H,iw z X,iw z O,eqGuard,Go.binOp,Op.stringOp,bne]) rfl id rfl⟩
         · cases h)
  · cases ht:T t with
    |struct b b1 =>
      have h1:=hT t;rw[ht]at h1;obtain⟨_,_,_,a6,a2⟩:=h1;simp only[ht]at h;cases hf:b.flat&&decide ((au st x).1=.agg)&&decide ((au st y).1=.agg) with
      |false=>simp[hf]at h
      |true =>
        simp only[hf,cond_true]at h;simp only[BD,decide_eq_true_eq]at hf;obtain⟨⟨hf,a5⟩,a3⟩:=hf;split at h
        · rename_i p u q v b0 ad
          have a1:∀ (W:Wit) (a:Act) (w:World),ap P V W st a w->(Op.equal t (a.eval x) (a.eval y)).run P w=.ok (b.eqv u v) w/\(∃ cx cy:Array Value,a.eval x=.agg cx/\a.eval y=.agg cy):=by
            intro W a w z;obtain⟨cx,G,X,a4⟩:=wM z a5 b0;obtain⟨cy,G',O,a9⟩:=wM z a3 ad;rw[X,O];exact⟨a6 hf w G u v cx cy a4 (Rd.flat hf a9),_,_,rfl,rfl⟩
          cases op <;> simp only at h <;> first
            |cases h;done
            | (split at h
               · rename_i d M
                 first
                   | (refine ⟨_, h, λW a w z => aN Z z M I (v := .bool (b.eqv u v)) ?_ rfl id rfl⟩
                      obtain⟨h2,cx,cy,X,O⟩:=a1 W a w z;rw[X,O]at h2;simp[execOp,H,X,O,eqGuard,Go.binOp,a2,h2];done)
                   | (refine ⟨_, h, λW a w z => aN Z z M I (v := .bool (!b.eqv u v)) ?_ rfl id rfl⟩
                      obtain⟨h2,cx,cy,X,O⟩:=a1 W a w z;rw[X,O]at h2;simp[execOp,H,X,O,eqGuard,Go.binOp,a2,h2])
               · cases h)
        · cases h
    |_=>simp[ht]at h
end
section
variable {P:Program} {V:Env} {Γ:List Ctr} {T:TypeId->TI} {st:St} {o:Oper} {R:Type} {κ:Upd->Option R} {r:R}
theorem eT (g off n:Nat):(⟨g,off,none⟩:Addr).add n=⟨g,off+n,none⟩:=by
 unfold Addr.add;split <;> simp_all
theorem dt {t:TypeId}{n:Nat}(h:bQ P t n)(w:World):(sizeOf t).run P w=.ok n w:=by
 unfold bQ at h;cases u:P.info? t with
 |none=>simp[u]at h
 |some i =>
  simp[u]at h;simp[sizeOf,typeInfo,u,h]
theorem gn {t:TypeId}{z:Value}(h:dZ P t z)(w:World):(zeroValue t).run P w=.ok z w:=by
 unfold dZ at h;cases u:P.info? t with
 |none=>simp[u]at h
 |some i =>
  simp[u]at h;simp[zeroValue,typeInfo,u,h]
theorem rS (hV:ax V)(hT:TOk P T)(M:bM V o){t:TypeId}{x:Operand}{f:Nat}(a0:o.op=.fieldAddr t x f)(h:act Γ T o st κ=some r):bW P V o st κ r:=by
 simp only[act,wrU,a0]at h;cases ht:T t with
 |struct b a5 =>
  simp only[ht]at h;split at h
  ·rename_i off n agg hf;have h1:=hT t;rw[ht]at h1;obtain⟨⟨fs,hu,_,a4⟩,_⟩:=h1;obtain⟨_,fd,h2,h3,h4,h5,h6,_⟩:=a4 f off n agg hf;have J:∀ (a:Act) (w:World) (g O:Nat),a.eval x=.pointer (some ⟨g,O,none⟩)->(execOp a.eval o).run P w=.ok (.value (.pointer (some ⟨g,O+off,none⟩))) w:=by
    intro a w g O Y;have u:=dt h6 w;have h8:n≠0:=by omega
    simp[execOp,a0,Y,Instr.fieldAt,run_underlying hu,h2,CH,fieldPlace,u,h8,eT]
   split at h
   ·rename_i p b' y O H;split at h
    ·rename_i d X;refine⟨_,h,λW a w z=>?_⟩;obtain⟨u,_,_,_⟩:=bo z x (by rw[H];simp);rw[H]at u;obtain⟨g,og,c,Y,hg,Z,hc⟩:=u;exact aN hV z X M (J a w g _ Y) ⟨g,og,c,by rw[CB],hg,Z,hc⟩ id rfl
    ·grind
   ·rename_i b' O H;split at h
    ·rename_i d X;refine⟨_,h,λW a w z=>?_⟩;obtain⟨u,_,_,_⟩:=bo z x (by rw[H];simp);rw[H]at u;exact aN hV z X M (J a w _ _ u.2.2) ⟨u.1,u.2.1,rfl⟩ id rfl
    ·grind
   ·rename_i r' j v i sz O H;cases I:BA (st r').ver v with
    |false=>simp[I]at h
    |true =>
     simp only[I]at h;split at h
     ·rename_i d X;refine⟨_,h,λW a w z=>?_⟩;obtain⟨u,_,_,_⟩:=bo z x (by rw[H];simp);rw[H]at u;obtain⟨g,a2,a3,hh,a1,Y⟩:=u.2 (BB I);exact aN hV z X M (J a w g _ Y) ⟨u.1,λ_=>⟨g,a2,a3,hh,a1,by rw[CB]⟩⟩ id rfl
     ·grind
   ·rename_i p ks ep b' y O H;cases I:bm st ks ep with
    |false=>simp[I]at h
    |true =>
     simp only[I]at h;split at h
     ·rename_i d X;refine⟨_,h,λW a w z=>?_⟩;obtain⟨u,_,_,_⟩:=bo z x (by rw[H];simp);rw[H]at u;have h8:NpOk V W w p ks b' y O _:=u.2.2 (cA I).1 (cA I).2.1 (cA I).2.2;obtain⟨g,og,c,Y,hg,Z,hc⟩:=h8.rd;exact aN hV z X M (J a w g _ Y) ⟨u.1,u.2.1,λ_ _ _=>⟨g,og,c,by rw[CB],hg,Z,hc⟩⟩ id rfl
     ·grind
   ·grind
  ·grind
 |_=>simp[ht]at h
theorem rT (hV:ax V)(hT:TOk P T)(Z:bM V o){t:TypeId}{x i:Operand}(a1:o.op=.indexAddr t x i)(h:act Γ T o st κ=some r):bW P V o st κ r:=by
 simp only[act,wrU,a1]at h;split at h
 ·rename_i k n hi;cases ht:T t with
  |slice E e ad =>
   simp only[ht]at h;have h1:=hT t;rw[ht]at h1;obtain⟨hu,_,_,b9,_,ti,z,b2,a9,_⟩:=h1;have hE:bQ P E e.cells:=by simp[bQ,b2,a9]
   have a3:∀ (W:Wit) (a:Act) (w:World) (g Y O I:Nat),ap P V W st a w->0<=n->n<O->a.eval x=.slice (some ⟨g,Y,none⟩) O I ->
     (execOp a.eval o).run P w=.ok (.value (.pointer (some ⟨g,Y+n.toNat*e.cells,none⟩))) w:=by
    intro W a w g Y O I H h0 h1 M;have h2:=dt hE w;simp[execOp,a1,M,bE H hi,Cc,asIntOf,run_underlying hu,h0,h1,h2,eT]
   split at h
   ·rename_i r' j v X;split at h
    ·rename_i p hh E' e' xs b1;cases u:BA e'.cells e.cells with
     |false=>simp[u]at h
     |true =>
      simp only[u]at h;have u:=BB u;obtain⟨y,hy,h⟩:=BJ.1 h;obtain⟨h2,h3,h4⟩:=gm hy;split at h
      ·rename_i d hd;refine⟨_,h,λW a w H=>?_⟩;obtain⟨J,_,_,_⟩:=bo H x (by rw[X];simp);rw[X]at J;obtain⟨h8,h9,b4,bb⟩:=ke H b1 J;obtain⟨_,b3,bn,ho,ba,_⟩:=h9;rcases ho.2 with ⟨hn,h0⟩|⟨g,a0,bl,_,M,_,_,_⟩
       ·omega
       ·refine aN hV H hd Z (a3 W a w g 0 xs.length a0 H h2 h3 M) ⟨by omega,λ_=>⟨g,xs.length,a0,by rw[h8,M],by omega,by simp[u]⟩⟩ id rfl
      ·grind
    ·grind
   ·rename_i p E' e' xs X;cases u:BA e'.cells e.cells with
    |false=>simp[u]at h
    |true =>
     simp only[u]at h;have u:=BB u;obtain⟨y,hy,h⟩:=BJ.1 h;obtain⟨h2,h3,h4⟩:=gm hy;split at h
     ·rename_i d hd;refine⟨_,h,λW a w H=>?_⟩;obtain⟨J,_,_,_⟩:=bo H x (by rw[X];simp);rw[X]at J;obtain⟨A,I,M,a6,a5⟩:=J;have M:a.eval x=.slice A xs.length I:=by simpa using M
      obtain⟨g,Y,rfl,hg,a4⟩:=a5 (by omega);obtain⟨c,hc,a2⟩:=a4 n.toNat y h4;refine aN hV H hd Z (a3 W a w g Y xs.length I H h2 h3 M) ⟨g,Y+n.toNat*e'.cells,c,by rw[u];rfl,?_,hc,a2⟩ id rfl;rcases hg with hg|⟨_,hg⟩
      ·grind
      ·exact .inr (hV.ro g hg)
     ·grind
   ·rename_i p ks ep b5 E' e' xs X;cases u:BA e'.cells e.cells&&bm st ks ep with
    |false=>simp[u]at h
    |true =>
     simp only[u]at h;simp only[BD]at u;obtain⟨u,b0⟩:=u;have u:=BB u;obtain⟨y,hy,h⟩:=BJ.1 h;obtain⟨h2,h3,h4⟩:=gm hy;split at h
     ·rename_i d hd;refine⟨_,h,λW a w H=>?_⟩;obtain⟨J,_,_,_⟩:=bo H x (by rw[X];simp);rw[X]at J;have h8:=pw b0 J;obtain⟨A,I,M,a6,a5⟩:=h8.rd;have M:a.eval x=.slice A xs.length I:=by simpa using M
      obtain⟨g,Y,rfl,hg,a4⟩:=a5 (by omega);obtain⟨c,hc,a2⟩:=a4 n.toNat y h4;exact aN hV H hd Z (a3 W a w g Y xs.length I H h2 h3 M) ⟨J.1,J.2.1,λ_ _ _=>⟨g,Y+n.toNat*e'.cells,c,by rw[u];rfl,hg,hc,a2⟩⟩ id rfl
     ·grind
   ·grind
  |arr e O =>
   simp only[ht]at h;have h1:=hT t;rw[ht]at h1;obtain⟨⟨E,hu,hE,_⟩,_⟩:=h1;split at h
   ·rename_i b off X;cases u:decide (0<=n)&&decide (n<(O:Int)) with
    |false=>simp[u]at h
    |true =>
     simp only[u]at h;simp at u;split at h
     ·rename_i d hd;refine⟨_,h,λW a w H=>?_⟩;obtain⟨J,_,_,_⟩:=bo H x (by rw[X];simp);rw[X]at J;refine aN hV H hd Z (v:=.pointer (some ⟨W.β b,off+n.toNat*e.cells,none⟩)) ?_ ⟨J.1,J.2.1,rfl⟩ id rfl;have h2:=dt hE w;simp[execOp,a1,J.2.2,bE H hi,Cc,CH,asIntOf,run_underlying hu,u.1,u.2,h2,eT]
     ·grind
   ·grind
  |_=>simp[ht]at h
 ·grind
theorem wO {t:TypeId}{i:TI}(u:oK P t i)(J:i.cells≠0\/i≠.none)(w:World):(isAgg t).run P w=.ok i.agg w:=by
 cases i with
 |none=>simp[TI.cells]at J
 |struct a I =>
  obtain⟨⟨M,H,_⟩,_⟩:=u;simp[isAgg,run_underlying H,TI.agg]
 |arr e n=>obtain⟨⟨E,H,_⟩,_⟩:=u;simp[isAgg,run_underlying H,TI.agg]
 |ptr=>obtain⟨⟨e,H⟩,_⟩:=u;simp[isAgg,run_underlying H,TI.agg]
 |fn=>obtain⟨⟨x,y,z,H⟩,_⟩:=u;simp[isAgg,run_underlying H,TI.agg]
 |int k=>simp[isAgg,run_underlying u.1,TI.agg]
 |bool=>simp[isAgg,run_underlying u.1,TI.agg]
 |str=>simp[isAgg,run_underlying u.1,TI.agg]
 |slice E e b=>simp[isAgg,run_underlying u.1,TI.agg]
theorem oM {t:TypeId}{i:TI}(u:oK P t i)(z:i≠.none):bQ P t i.cells:=by
 cases i with
 |none=>exact absurd rfl z
 |struct a y=>exact u.2.1
 |arr e n=>exact u.2.2.1
 |ptr=>exact u.2.1
 |fn=>exact u.2.1
 |int k=>exact u.2.1
 |bool=>exact u.2.1
 |str=>exact u.2.1
 |slice E e b=>exact u.2.1
theorem mJ {W:Wit}{a:Act}{w:World}(z:ap P V W st a w){e:Ty}:∀ (n:Nat) (ls:List Leaf) (cs:List Value) (xs:List e.den),aC P V W st w ls cs->fw st e n ls=some xs ->
  xs.length=n/\∀ (i:Nat) (x:e.den),xs[i]?=some x->∃ G,Rd w G e x ((cs.drop (i*e.cells)).take e.cells)
 |0,ls,cs,xs,_,h=>by
  simp only[fw]at h
  simp_all
 |n+1,ls,cs,xs,H,h=>by
  simp only[fw]at h;split at h
  ·rename_i p x Y I O;simp at h;subst h;obtain⟨M,X⟩:=mJ z n _ _ _ (H.drop e.cells) O;refine⟨by simp[M],λi y u=>?_⟩;cases i with
   |zero =>
    simp at u;subst u;exact⟨_,by simpa using ey z (H.take e.cells) I⟩
   |succ i =>
    obtain⟨G,J⟩:=X i y (by simpa using u);rw[CZ]at J
    grind
  ·cases h
theorem wP (hV:ax V)(hT:TOk P T)(Y:bM V o){t:TypeId}{x i:Operand}(J:o.op=.index t x i)(h:act Γ T o st κ=some r):bW P V o st κ r:=by
 simp only[act,wrU,J]at h;split at h
 ·rename_i k n hi;cases hs:T t with
  |str =>
   simp only[hs]at h;split at h
   ·rename_i s hx;obtain⟨y,hy,h⟩:=BJ.1 h;split at h
    ·rename_i d hd;refine⟨_,h,λW a w I=>aN hV I hd Y (v:=.int .u8 (y.toNat:Int)) ?_ rfl id rfl⟩;have h1:=hT t;rw[hs]at h1;obtain⟨h2,h3,h4⟩:=gm hy;have h5:s[n.toNat]?=some y:=by
      have h6:=(BC.1 h4);obtain⟨h7,h8⟩:=h6;have h9:n.toNat<s.size:=by rw[Array.length_toList]at h7;exact h7
      rw[getElem?_pos s n.toNat h9];congr 1
     simp[execOp,J,bE I hi,iw I hx,CX,asIntOf,run_underlying h1.1,h2,h5]
    ·grind
   ·grind
  |arr e X =>
   simp only[hs]at h;have h1:=hT t;rw[hs]at h1;obtain⟨⟨E,hu,hE,Z⟩,a3,_⟩:=h1;cases hb:e.flat&&decide ((au st x).1=.agg)&&BA (au st x).2.length (X*e.cells)&&!BA e.cells 0 with
   |false=>simp[hb]at h
   |true =>
    simp only[hb]at h;simp only[BD,decide_eq_true_eq]at hb;obtain⟨⟨⟨hf,a2⟩,a4⟩,_⟩:=hb;split at h
    ·rename_i vs hg;obtain⟨y,hy,h⟩:=BJ.1 h;split at h
     ·rename_i d hd;refine⟨_,h,λW a w I=>?_⟩;obtain⟨cs,z,hl⟩:=cU I x;rw[a2]at z;have z:a.eval x=.agg cs.toArray:=z;obtain⟨h2,h3,h4⟩:=gm hy;obtain⟨h5,h6⟩:=mJ I X _ _ _ hl hg;obtain⟨G,h7⟩:=h6 n.toNat y h4;have h8:Rd w (λ_=>False) e y ((cs.drop (n.toNat*e.cells)).take e.cells):=Rd.flat hf h7;have h9:=h8.len;have M:(isAgg E).run P w=.ok e.isAgg w:=by
       cases O:P.underlying E with
       |none=>simp[O]at Z
       |some u =>
        simp only[O,CY,BH]at Z;rw[<- Z];cases u <;> simp[isAgg,run_underlying O]
      have a1:=dt hE w;have hn:n<(X:Int):=by omega
      cases H:e.isAgg with
      |true =>
       have:=dW hV I hd Y (v:=.agg ((cs.drop (n.toNat*e.cells)).take e.cells).toArray) (sh:=.agg) (ls:=cL false e y) ?_ rfl (eS (λ_ h=>h.elim) h8)
       ·exact this
       ·rw[H]at M;simp[execOp,J,bE I hi,z,CX,asIntOf,run_underlying hu,h2,hn,part,M,a1]
      |false =>
       have a0:e.cells=1:=by cases e <;> first|rfl|simp[Ty.isAgg]at H
       rw[a0]at h8 h9
       match hc:(cs.drop (n.toNat*1)).take 1,h9 with
       |[v],_ =>
        rw[hc]at h8;have:=dW hV I hd Y (v:=v) (sh:=.one) (ls:=cL false e y) (cs:=[v]) ?_ rfl (eS (λ_ h=>h.elim) h8)
        ·exact this
        ·rw[H]at M;have hv:cs[n.toNat]?=some v:=by
          have:((cs.drop (n.toNat*1)).take 1)[0]?=some v:=by rw[hc];rfl
          grind
         simp[execOp,J,bE I hi,z,CX,asIntOf,run_underlying hu,h2,hn,part,M,a1,a0,hv]
     ·grind
    ·grind
  |_=>simp[hs]at h
 ·grind
theorem od {t:TypeId}{i:TI}(I:oK P t i)(J:i≠.none){w:World}{g off:Nat}{cs:List Value}(M:cV w g off cs)(y:cs.length=i.cells) :
  ∃ v,(loadVar t ⟨g,off,none⟩).run P w=.ok v w/\d9 (bg i.agg) v cs:=by
 have H:=wO I (.inr J) w;cases z:i.agg with
 |true =>
  refine⟨.agg cs.toArray,?_,rfl⟩;have Y:=dt (oM I J) w;have O:=run_loadCells_list (P:=P) w ⟨g,off,none⟩ cs (λj v X=>by rw[eT];exact M j v X);rw[y]at O;simp[loadVar,H,z,Y,O]
 |false =>
  have u:i.cells=1:=by cases i <;> simp_all [TI.agg,TI.cells]
  rw[u]at y
  match cs,y with
  |[v],_ =>
   have:=M 0 v rfl;rw[Nat.add_zero]at this;exact⟨v,by simp[loadVar,H,z,this],rfl⟩
theorem cV.sub {w:World}{g off:Nat}{cs:List Value}(h:cV w g off cs)(k n:Nat):cV w g (off+k) ((cs.drop k).take n):=by
 intro i v u;rw[BP]at u;split at u
 ·rw[B6]at u;have:=h (k+i) v u
  grind
 ·cases u
theorem Mx.deep {w:World}{G G':Nat->Prop}:∀ {a:Ty} {h:Option Nat} {pos:Nat} {x:a.den} {cs:List Value} {bs:List Nat},a.shy=false->Mx w G a h pos x cs bs->Mx w G' a h pos x cs bs
 |.int _,_,_,_,_,_,_,h=>h
 |.bool,_,_,_,_,_,_,h=>h
 |.str,_,_,_,_,_,_,h=>h
 |.unit,_,_,_,_,_,_,h=>h
 |.hdr,_,_,_,_,_,_,h=>h
 |.pair _ _,_,_,_,_,_,u,⟨Y,c2,b1,b2,J,Z,z,M⟩=>by
  simp only[Ty.shy,CI]at u;exact⟨Y,c2,b1,b2,J,Z,Mx.deep u.1 z,Mx.deep u.2 M⟩
 |.list m E e,h,pos,xs,cs,bs,u,H=>by
  simp only[Ty.shy,CI,Bool.not_eq_false']at u;obtain⟨rfl,u⟩:=u;by_cases O:h=some pos
  ·subst O;rw[iZ]at H ⊢;exact H
  ·rw[bI O]at H ⊢;obtain⟨v,J,y,I,z,M,h3⟩:=H;refine⟨v,J,y,I,z,M,λj x hj=>?_⟩;obtain⟨c,X,h5⟩:=h3 j x hj;exact⟨c,Mx.deep u X,h5⟩
theorem OwB.shy {W:Wit}{w:World}{p:Bool}{h:Option (Nat×Nat)}{E:TypeId}{e:Ty}{xs:List e.den}{v:Value}{bs:List Nat}(H:OwB w (gd V W p) h E e xs v bs):OwB w (gd V W (p&&e.shy)) h E e xs v bs:=by
 cases I:e.shy with
 |true=>simpa using H
 |false =>
  obtain⟨u,y,z,X,O⟩:=H;refine⟨u,y,z,X,λj x M=>?_⟩;obtain⟨c,Y,J⟩:=O j x M;exact⟨c,Mx.deep I Y,J⟩
theorem i8 (p:Bool)(r j v ep i u:Nat)(h:Option Nat):∀ (a:Ty) (off:Nat) (x:a.den),(gF p r j v ep i u h a off x).length=a.cells
 |.int _,_,_=>rfl
 |.bool,_,_=>rfl
 |.str,_,_=>rfl
 |.unit,_,_=>rfl
 |.hdr,_,_=>rfl
 |.pair a b,off,x=>by simp[gF,Ty.cells,i8 p r j v ep i u h a,i8 p r j v ep i u h b]
 |.list _ _ _,_,_=>rfl
theorem lU {W:Wit}{w:World}{p:Bool}{r j g len y i sz:Nat}(O:(W.cs r)[j]?=some (.slice (some ⟨g,0,none⟩) len y))(M:i<len)(hg:g∈W.bs r j){hol:Option Nat} :
  ∀ {a:Ty} {pos:Nat} {x:a.den} {cs:List Value} {bs:List Nat},(∀ k∈bs,k∈W.bs r j)->Mx w (gd V W p) a hol pos x cs bs->cV w g (i*sz+pos) cs->aC P V W st w (gF p r j (st r).ver (st EPO).ver i sz hol a pos x) cs
 |.int _,_,_,_,_,_,h,_=>by rw[h.1];exact⟨⟨rfl,id,rfl⟩,trivial⟩
 |.bool,_,_,_,_,_,h,_=>by rw[h.1];exact⟨⟨rfl,id,rfl⟩,trivial⟩
 |.str,_,_,_,_,_,h,_=>by rw[h.1];exact⟨⟨rfl,id,rfl⟩,trivial⟩
 |.unit,_,_,_,_,_,h,_=>by rw[h.1];trivial
 |.hdr,_,_,_,_,_,⟨⟨A,y,e⟩,_⟩,_=>by rw[e];exact⟨⟨⟨A,y,rfl⟩,id,rfl⟩,trivial⟩
 |.pair a b,pos,x,cs,bs,J,⟨c1,c2,b1,b2,e1,e2,Z,h2⟩,X=>by
  subst e1;have hl:=Z.len;refine aC.append (lU O M hg (λk z=>J k (by rw[e2];exact BG _ z)) Z λq u hu=>X q u ?_)
   (lU O M hg (λk z=>J k (by rw[e2];exact BF _ z)) h2 λq u hu=>?_)
  ·grind
  ·have:=X (a.cells+q) u (by rw[<- hl,BT (by omega)];simpa using hu)
   grind
 |.list m E e,pos,xs,cs,bs,J,H,X=>by
  have I:=H.one;simp only[gF];by_cases hp:hol=some pos
  ·have Y:decide (hol=some pos)=true:=decide_eq_true hp;rw[Y];obtain⟨v,rfl,_⟩:=H;exact⟨⟨trivial,id,I v (by simp)⟩,trivial⟩
  ·have Y:decide (hol=some pos)=false:=decide_eq_false hp;rw[Y];cases m with
   |false =>
    rw[cn]at H;obtain⟨A,y,rfl,h2,h3⟩:=H.2;exact⟨⟨⟨A,y,rfl,h2,h3⟩,id,rfl⟩,trivial⟩
   |true =>
    rw[bI hp]at H;obtain⟨v,rfl,hO⟩:=H;have Z:=X 0 v rfl;refine⟨⟨⟨BI _,λk z=>?_,λ_ _ _=>⟨?_,λi' a2 a1 he=>?_⟩⟩,id,I v (by simp)⟩,trivial⟩
    ·grind
    ·obtain⟨a0,a3,h4,h5,h6⟩:=OwB.shy hO;refine sq h4 (λk z=>.inr ⟨_,BX _,J k (by rw[h5];exact BG _ z)⟩) λq x hq=>?_
     obtain⟨c,h7,h8⟩:=h6 q x hq;exact⟨c,h7.rd (λk z=>.inl z) (λk z=>.inr ⟨_,BX _,J k (by rw[h5];exact BF _ (dU.2 ⟨q,(BC.1 hq).1,z⟩))⟩),h8⟩
    ·grind
theorem jP {W:Wit}{w:World}{p:Bool}{ks:List (Nat×Nat×Nat)}{ep:Nat}(u:ep<=(st EPO).ver)(z:∀ k∈ks,k.2.2<=(st k.1).ver) :
  ∀ {a:Ty} {x:a.den} {cs:List Value},Rd w (λb=>gd V W p b\/∃ k∈ks,b∈W.bs k.1 k.2.1) a x cs->aC P V W st w (ll p ks ep a x) cs
 |.int _,_,_,h=>by rw[show _=_ from h];exact⟨⟨rfl,id,rfl⟩,trivial⟩
 |.bool,_,_,h=>by rw[show _=_ from h];exact⟨⟨rfl,id,rfl⟩,trivial⟩
 |.str,_,_,h=>by rw[show _=_ from h];exact⟨⟨rfl,id,rfl⟩,trivial⟩
 |.unit,_,_,h=>by rw[show _=_ from h];trivial
 |.hdr,_,_,⟨A,y,e⟩=>by rw[e];exact⟨⟨⟨A,y,rfl⟩,id,rfl⟩,trivial⟩
 |.pair _ _,_,_,⟨O,Z,e,I,H⟩=>by rw[e];exact (jP u z I).append (jP u z H)
 |.list m E e,X,_,h=>by
  obtain⟨A,y,rfl,H,J⟩:=h;exact⟨⟨⟨u,z,λ_ _ _=>⟨⟨A,y,rfl,H,J⟩,λi Y off M=>by cases M⟩⟩,id,rfl⟩,trivial⟩
theorem zI {W:Wit}{a:Act}{w:World}(hr:ap P V W st a w){r j n g len M i:Nat}{p:Bool}{hh:Option (Nat×Nat)}{E:TypeId}{e:Ty}{xs:List e.den}{y:e.den}(h8:(st r).ver=n)(h9:(st r).ls[j]?=some (.own p hh E e xs))
  (H:(W.cs r)[j]?=some (.slice (some ⟨g,0,none⟩) len M)) (I:i<len) (hy:xs[i]?=some y) :
  ∃ c,cV w g (i*e.cells) c/\aC P V W st w (gF p r j n (st EPO).ver i e.cells (cR hh i) e 0 y) c:=by
 subst h8;obtain⟨_,X,a2,Y,O,J⟩:=hr.leaf r j _ _ h9 H;obtain⟨c,Z,h2⟩:=J i y hy;have a1:=Z.len;have hi:i<xs.length:=(BC.1 hy).1;have z:len=xs.length:=by
  obtain⟨A,a0,e0,_⟩:=Y.slice
  simp_all
 subst z;have hc:cV w g (i*e.cells) c:=by
  intro q u hu;have hq:=(BC.1 hu).1;rw[Y.cellAt _ (by
   have:i*e.cells+e.cells<=xs.length*e.cells:=by
    have:=Nat.mul_le_mul_right e.cells (show i+1<=xs.length from hi)
    grind
   omega)]
  grind
 refine⟨c,hc,lU H I (by rw[O];simp[BY]) (λk hk=>?_) Z hc⟩
 grind
theorem yd (hV:ax V)(hT:TOk P T)(ad:bM V o){t:TypeId}{x:Operand}(a3:o.op=.load t x)(h:act Γ T o st κ=some r):bW P V o st κ r:=by
 simp only[act,wrU,a3,lM]at h;have b1:=hT t;have X:∀ (W:Wit) (a:Act) (w:World) (g off:Nat) (cs:List Value) (ls:List Leaf) (d:Nat),ap P V W st a w->o.dst=some d->T t≠.none->a.eval x=.pointer (some ⟨g,off,none⟩)->cV w g off cs ->
   cs.length=(T t).cells->aC P V W st w ls cs->mH P V o st (cj st [] d (bg (T t).agg) ls) a w:=by
  intro W a w g off cs ls d z Y hn O Z hl a1;obtain⟨v,h1,h2⟩:=od b1 hn Z hl;exact dW hV z Y ad (v:=v) (by simp[execOp,a3,O,Instr.loadAt,CH,h1]) h2 a1
 cases M:decide ((T t).cells=0) with
 |true=>simp[M]at h
 |false =>
  simp only[M]at h;have M:(T t).cells≠0:=of_decide_eq_false M;have a0:T t≠.none:=by intro e;rw[e]at M;exact M rfl
  split at h
  ·rename_i p b y off J;cases u:decide (off+(T t).cells<=b.cells) with
   |false=>simp[u]at h
   |true =>
    simp only[u]at h;split at h
    ·rename_i d Y;refine⟨_,h,λW a w z=>?_⟩;obtain⟨H,_,_,_⟩:=bo z x (by rw[J];simp);rw[J]at H;obtain⟨g,og,c,O,hg,I,Z⟩:=H;refine X W a w g _ ((c.drop off).take (T t).cells) _ d z Y a0 O (Z.sub off _) ?_ (((eS (λ_ h=>h) I).drop off).take _);have:=I.len
     grind
    ·grind
  ·rename_i b off J;cases u:decide ((st b).sh=.agg)&&decide (off+(T t).cells<=(st b).ls.length) with
   |false=>simp[u]at h
   |true =>
    simp only[u]at h;split at h
    ·rename_i d Y;refine⟨_,h,λW a w z=>?_⟩;obtain⟨H,_,_,_⟩:=bo z x (by rw[J];simp);rw[J]at H;obtain⟨hB,b5,O⟩:=H;rcases z.boxes b hB with ⟨h8,_⟩|⟨_,E,h8⟩
     ·grind
     ·have Z:cV w (W.β b) 0 (W.cs b):=λi v O=>by
       rw[CQ,cell_of_row w (W.β b) i _ E (0,0) h8]
       simp_all
      have b2:=z.len b;have a4:=Z.sub off (T t).cells;rw[CQ]at a4;refine X W a w (W.β b) off _ _ d z Y a0 O a4 ?_ (((iv z b).drop off).take _)
      grind
    ·grind
  ·rename_i p b y J;cases u:BA (T t).cells 1&&!(T t).agg with
   |false=>simp[u]at h
   |true =>
    simp only[u]at h;simp only[BD,B9]at u;split at h
    ·rename_i d Y;refine⟨_,h,λW a w z=>?_⟩;obtain⟨H,_,_,_⟩:=bo z x (by rw[J];simp);rw[J]at H;obtain⟨q,oq,g,og,c,O,_,a2,hg,I,Z⟩:=H;have:=X W a w q oq [.pointer (some ⟨g,og,none⟩)] [.rp p b y 0] d z Y a0 O (λi v hi=>by
      cases i with
      |zero=>simp at hi;subst hi;exact a2
      |succ i=>simp at hi) (by simp[BB u.1]) ⟨⟨⟨g,og,c,rfl,hg,I,Z⟩,id,rfl⟩,trivial⟩
     rw[u.2]at this;exact this
    ·grind
  ·rename_i p ks ep b y off J;cases u:bm st ks ep&&decide (off+(T t).cells<=b.cells) with
   |false=>simp[u]at h
   |true =>
    simp only[u]at h;simp at u;split at h
    ·rename_i d Y;refine⟨_,h,λW a w z=>?_⟩;obtain⟨H,_,_,_⟩:=bo z x (by rw[J];simp);rw[J]at H;have h8:NpOk V W w p ks b y off _:=H.2.2 (cA u.1).1 (cA u.1).2.1 (cA u.1).2.2;obtain⟨g,og,c,O,hg,I,Z⟩:=h8.rd;refine X W a w g _ ((c.drop off).take (T t).cells) _ d z Y a0 O (Z.sub off _) ?_ (((jP H.1 H.2.1 I).drop off).take _);have:=I.len
     grind
    ·grind
  ·rename_i r' j v i sz off J;split at h
   ·rename_i p hh E e xs a9;cases u:BA sz e.cells&&decide (off+(T t).cells<=e.cells) with
    |false=>simp[u]at h
    |true =>
     simp only[u]at h;simp only[BD]at u;have b0:=BB u.1;subst b0;obtain⟨y,hy,h⟩:=BJ.1 h;obtain⟨_,_,h4⟩:=gm hy;split at h
     ·rename_i d Y;refine⟨_,h,λW a w z=>?_⟩;obtain⟨H,_,_,_⟩:=bo z x (by rw[J];simp);rw[J]at H;obtain⟨h8,h9⟩:=eZ a9 (by simp);obtain⟨g,b3,b4,a6,a5,O⟩:=H.2 h8;obtain⟨c,Z,a1⟩:=zI z h8 h9 a6 a5 h4;refine X W a w g _ _ _ d z Y a0 O (Z.sub off _) ?_ ((a1.drop off).take _);have:=a1.length;rw[i8]at this
      grind
     ·grind
   ·grind
  ·grind
end
section
variable {P:Program} {V:Env} {Γ:List Ctr} {T:TypeId->TI} {st:St} {o:Oper} {R:Type} {κ:Upd->Option R} {r:R}
theorem wQ (hV:ax V)(hT:TOk P T)(X:bM V o){t:TypeId}{x:Operand}{f:Nat}(J:o.op=.field t x f)(h:act Γ T o st κ=some r):bW P V o st κ r:=by
 simp only[act,wrU,J]at h;cases ht:T t with
 |struct b a2 =>
  simp only[ht]at h;split at h
  ·rename_i off n agg hf;have h1:=hT t;rw[ht]at h1;obtain⟨⟨fs,hu,_,a1⟩,_⟩:=h1;obtain⟨I,Y,h2,h3,h4,h5,h6,Z⟩:=a1 f off n agg hf;cases M:decide ((au st x).1=.agg)&&decide ((au st x).2.length=b.cells) with
   |false=>simp[M]at h
   |true =>
    simp only[M,cond_true]at h;simp only[BD,decide_eq_true_eq]at M;split at h
    ·rename_i d hd;refine⟨_,h,λW a w hr=>?_⟩;obtain⟨u,hs,hl⟩:=cU hr x;rw[M.1]at hs;have O:=hl.length;rw[M.2]at O;have z:(isAgg Y.type).run P w=.ok agg w:=by
      unfold isAgg;cases H:P.underlying Y.type with
      |none=>simp[H]at Z
      |some dd =>
       rw[H]at Z;simp only[CY,BH]at Z;subst Z;rw[BQ,run_underlying H w];cases dd <;> rfl
     have a0:=dt h6 w;cases agg with
     |true =>
      refine dW hV hr hd X (v:=.agg ((u.drop off).take n).toArray) ?_ rfl ((hl.drop off).take n);have e:u.toArray.extract off (off+n)=((u.drop off).take n).toArray:=by
       rw[List.extract_toArray,List.extract_eq_take_drop,Nat.add_sub_cancel_left]
      have hp:(part Y.type u.toArray off).run P w=.ok (.agg ((u.drop off).take n).toArray) w:=by
       simp only[part,BQ,z,BM,if_true,a0,BU,e]
      simp only[execOp,J,show a.eval x=_ from hs,Cg,BQ,run_underlying hu,BM,h2,asAgg,BU,h3,hp]
     |false =>
      have I:=I rfl;subst I;have y:off<u.length:=by omega
      have hv:((u.drop off).take 1)=[u[off]]:=by
       rw[List.take_one,List.head?_drop,BE y];rfl
      refine dW hV hr hd X (v:=u[off]) ?_ (show d9 .one _ ((u.drop off).take 1) from hv) ((hl.drop off).take 1);have e:u.toArray[off]?=some u[off]:=by simp[y]
      have hp:(part Y.type u.toArray off).run P w=.ok u[off] w:=by
       simp only[part,BQ,z,BM,Bool.false_eq_true,if_false,e,BU]
      simp only[execOp,J,show a.eval x=_ from hs,Cg,BQ,run_underlying hu,BM,h2,asAgg,BU,h3,hp]
    ·cases h
  ·cases h
 |_=>simp[ht]at h
theorem AF {α:Type}(u y:List α)(off:Nat)(h:off+y.length<=u.length):(u.take off++y++u.drop (off+y.length)).length=u.length:=by
 simp;omega
theorem kR (cs c:List Value)(off:Nat)(h:off+c.length<=cs.length) :
  (c.zipIdx 0).foldl (λcs (x:Value×Nat)=>cs.setIfInBounds (off+x.2) x.1) cs.toArray=(cs.take off++c++cs.drop (off+c.length)).toArray:=by
 obtain⟨H,z⟩:=Great.foldl_set off c 0 cs.toArray;apply Array.ext_getElem?;intro k;rw[z k];simp only[Nat.add_zero,List.size_toArray,List.getElem?_toArray];by_cases y:off<=k/\k<off+c.length/\k<cs.length
 ·rw[if_pos y,BZ,BT (by simp;omega),B7 (by simp;omega)];congr 1;simp;omega
 ·rw[if_neg y];by_cases u:k<off
  ·rw[BZ,B7 (by simp;omega),BP,if_pos u]
  ·rw[BT (by simp;omega),B6];congr 1;simp;omega
theorem gT {agg:Bool}{v:Value}{cs:List Value}(h:d9 (bg agg) v cs)(y:∀ u∈cs,u.oneCell'=true):v.cells=cs.toArray:=by
 cases agg with
 |true=>rw[show v=_ from h];rfl
 |false =>
  have h:cs=[v]:=h;subst h;have:=y v (CP.2 rfl);cases v <;> first|rfl|simp[BK]at this
theorem lV {W:Wit}{a:Act}{w:World}(hr:ap P V W st a w){z:List (Nat×Nat×Bool)}{pl:Nat->Option (Nat×Nat)}(O:∀ (i off n:Nat) (agg:Bool),z[i]?=some (off,n,agg)->pl i=some (off,n)):∀ (ps:List (Nat×Operand)) (ls u:List Leaf) (cs:List Value),
  aC P V W st w ls cs->fh st z ps ls=some u ->
  ∃ y,aC P V W st w u y/\Instr.fill pl cs.toArray (ps.map λx=>(x.1,a.eval x.2))=some y.toArray
 |[],ls,u,cs,M,h=>by
  simp[fh]at h;subst h;exact⟨cs,M,rfl⟩
 |(i,x)::ps,ls,u,cs,M,h=>by
  simp only[fh]at h;split at h
  ·rename_i off n agg hf;cases X:BA (au st x).2.length n&&decide ((au st x).1=bg agg)&&decide (off+n<=ls.length) with
   |false=>simp[X]at h
   |true =>
    simp only[X,cond_true]at h;simp only[BD,decide_eq_true_eq]at X;obtain⟨⟨J,a0⟩,a2⟩:=X;have J:=BB J;obtain⟨c,hs,H⟩:=cU hr x;rw[a0]at hs;have hc:=gT hs H.one';have a1:=M.length;have I:=H.length;have Y:aC P V W st w (jt ls (au st x).2 off) (cs.take off++c++cs.drop (off+c.length)):=by
     unfold jt;rw[I];exact ((M.take off).append H).append (M.drop _)
    obtain⟨y,h1,h2⟩:=lV hr O ps _ u _ Y h;refine⟨y,h1,?_⟩;simp only[Cb,Instr.fill];have Z:pl i=some (off,n):=O _ _ _ _ hf;have a3:c.toArray.size=n:=by simp;omega
    simp only[Z,hc];rw[if_neg (by simp;omega)];have e:c.toArray.zipIdx.foldl (λcs (x:Value×Nat)=>cs.setIfInBounds (off+x.2) x.1) cs.toArray=(c.zipIdx 0).foldl (λcs (x:Value×Nat)=>cs.setIfInBounds (off+x.2) x.1) cs.toArray:=by
     rw[<- Array.foldl_toList];simp
    have e2:=kR cs c off (by omega);rw[<- e2,<- e]at h2;exact h2
  ·cases h
theorem lw {W:Wit}{w:World}:∀ (b:Ty),aC P V W st w (eQ b) (zeroCells b)
 |.int _=>⟨⟨rfl,id,rfl⟩,trivial⟩
 |.bool=>⟨⟨rfl,id,rfl⟩,trivial⟩
 |.str=>⟨⟨rfl,id,rfl⟩,trivial⟩
 |.unit=>trivial
 |.pair a b=>(lw a).append (lw b)
 |.hdr=>⟨⟨rfl,id,rfl⟩,trivial⟩
 |.list _ _ _=>⟨⟨rfl,id,rfl⟩,trivial⟩
theorem oN {W:Wit}{w:World}(e:Ty):∀ (n:Nat),aC P V W st w (BR n (eQ e)).flatten (BR n (zeroCells e)).flatten
 |0=>trivial
 |n+1=>by
  rw[CL,CL,CS,CS];exact (lw e).append (oN e n)
theorem wR (hV:ax V)(hT:TOk P T)(Z:bM V o){t:TypeId}{u:Array (Nat×Operand)}(M:o.op=.build t u)(h:act Γ T o st κ=some r):bW P V o st κ r:=by
 simp only[act,wrU,M]at h;cases ht:T t with
 |struct b a0 =>
  simp only[ht]at h;split at h
  ·rename_i ls O;split at h
   ·rename_i d hd;refine⟨_,h,λW a w hr=>?_⟩;have X:=hT t;rw[ht]at X;obtain⟨⟨fs,hu,a1,_⟩,_,H,_⟩:=X;obtain⟨z,h2,h3⟩:=lV hr (pl:=((a0.map λx=>(x.1,x.2.1)).toArray[·]?)) (λi off n agg I=>by simp[I]) u.toList _ ls _ (lw b) O;refine dW hV hr hd Z (v:=.agg z.toArray) ?_ rfl h2;have y:P.built t (u.map λ (i,x)=>(i,a.eval x)).toList=some z.toArray:=by
     unfold dZ at H;unfold Cd;cases Y:P.info? t with
     |none=>simp[Y]at H
     |some ti =>
      simp[Y]at H;simp only[hu,H,a1];rw[CE];exact h3
    simp[execOp,M,run_build w t _ _ y]
   ·cases h
  ·cases h
 |arr e n =>
  simp only[ht]at h;split at h
  ·rename_i ls O;split at h
   ·rename_i d hd;refine⟨_,h,λW a w hr=>?_⟩;have X:=hT t;rw[ht]at X;obtain⟨⟨E,hu,hE,_⟩,_,_,H⟩:=X;obtain⟨z,h2,h3⟩:=lV hr (pl:=λi=>some (i*e.cells,e.cells)) (λi off n agg I=>by
     rw[CR]at I;obtain⟨j,hj,I⟩:=BO.1 I;rw[List.getElem?_range (by simpa using (BC.1 hj).1)]at hj;simp only[BH]at hj;subst hj;simp only[Ca]at I;simp[<- I.1,<- I.2.1]) u.toList _ ls _ (oN e n) O
    refine dW hV hr hd Z (v:=.agg z.toArray) ?_ rfl h2;have y:P.built t (u.map λ (i,x)=>(i,a.eval x)).toList=some z.toArray:=by
     unfold dZ at H;unfold bQ at hE;unfold Cd;cases Y:P.info? t with
     |none=>simp[Y]at H
     |some ti =>
      simp[Y]at H;cases J:P.info? E with
      |none=>simp[J]at hE
      |some ie =>
       simp[J]at hE;simp only[hu,H,J,hE];rw[CE];exact h3
    simp[execOp,M,run_build w t _ _ y]
   ·cases h
  ·cases h
 |_=>simp[ht]at h
theorem mK {W:Wit}{a:Act}{w:World}(z:ap P V W st a w){x:Option Operand}{u n:Int}(h:di st x u=some n) :
  (x=none/\n=u)\/∃ y k,x=some y/\a.eval y=.int k n:=by
 unfold di at h;split at h
 ·simp at h;exact .inl ⟨rfl,h.symm⟩
 ·split at h
  ·rename_i l k m H;simp at h;subst h;exact .inr ⟨_,k,rfl,bE z H⟩
  ·cases h
theorem jQ (u:Bool)(len y:Nat)(a0:len<=y)(O M:Option Value)(i h:Int)(X:0<=i)(J:i<=h)(hh:h<=len)(I:(O=none/\i=0)\/∃ k,O=some (.int k i))
  (H:(M=none/\h=len)\/∃ k,M=some (.int k h)) (w:World):(CT u len y O M none).run P w=.ok (i.toNat,h.toNat,y) w:=by
 have Y:0<=h:=by omega
 have Z:h<=(y:Int):=by omega
 have z:i<=((h.toNat:Nat):Int):=by omega
 rcases I with ⟨rfl,rfl⟩|⟨k,rfl⟩ <;> rcases H with ⟨rfl,rfl⟩|⟨k',rfl⟩ <;>
  simp[CT,Instr.sliceBound,asIntOf,X,Y,Z,z,J,-Int.ofNat_toNat]
theorem jn (O:ax V){W:Wit}{a:Act}{w:World}(I:ap P V W st a w){x:Operand}{l:Leaf}(y:aD st (one st x)=l)(M:l≠.dead)(H:¬ ao l):aK P V W st w [] l (a.eval x):=by
 have z:one st x≠.dead:=by intro e;rw[e]at y;exact M y.symm
 obtain⟨X,J,_⟩:=bo I x z;rcases lT O I X J with ⟨_,_,_,_,u,_⟩|⟨_,u⟩
 ·rw[y]at u;exact absurd u H
 ·rw[y]at u;exact u
theorem wS (O:ax V){W:Wit}{a:Act}{w:World}(M:ap P V W st a w){x:Operand}{p:Bool}{ks:List (Nat×Nat×Nat)}{ep:Nat}{y:Option (Nat×Nat×Nat)}{E:TypeId}{e:Ty}{xs:List e.den}
  (u:aD st (one st x)=.nal p ks ep y E e xs):aK P V W st w [] (.nal p ks ep y E e xs) (a.eval x)/\bm st ks ep=true:=by
 refine⟨jn O M u (by simp) (by simp[ao]),?_⟩;generalize one st x=l at u;cases l with
 |nal Z H I J Y e' X =>
  simp only[aD]at u;cases z:bm st H I with
  |false=>simp[z]at u
  |true =>
   simp only[z,cond_true]at u;cases u;exact z
 |al r j n=>exact absurd u iM
 |_=>simp[aD]at u
theorem tX (X:ax V){W:Wit}{a:Act}{w:World}(I:ap P V W st a w){x:Operand}{p:Bool}{J:Option (Nat×Nat)}{E:TypeId}{e:Ty}{xs:List e.den}(u:aD st (one st x)=.own p J E e xs) :
  ∃ r i n,one st x=.al r i n/\(st r).ls[i]?=some (.own p J E e xs)/\OwH w (gd V W p) J E e xs (a.eval x) (W.bs r i)/\(W.cs r)[i]?=some (a.eval x)/\(st r).ver=n:=by
 have H:one st x≠.dead:=by intro e;rw[e]at u;cases u
 obtain⟨z,Z,_⟩:=bo I x H;rcases lT X I z Z with ⟨r,i,n,M,_,_,_⟩|⟨y,_⟩
 ·rw[M]at u z;obtain⟨y,h4,Y,O⟩:=ke I u z;exact⟨r,i,n,M,Y,h4,y,O⟩
 ·rw[u]at y;exact absurd trivial y
theorem goes_frz (H:ax V){W:Wit}{a:Act}{w:World}(h:ap P V W st a w){d:Nat}(z:o.dst=some d)(y:bM V o)(ks:List (Nat×Nat)){v:Value}{sh:aH}{ls:List Leaf}{cs:List Value}
  (u:(execOp a.eval o).run P w=.ok (.value v) w) (J:d9 sh v cs) (M:aC P V (W.frz st ks) (ac (aE st ks) st) w ls cs):mH P V o st (cj st (aE st ks) d sh ls) a w:=by
 intro next Q I;refine dV u ?_;rw[z];refine I _ _ ?_;rw[cj,aO];exact (lu H ks h).1.putLs H d (y d z).1 (y d z).2 _ sh ls v cs (CD _) J M
theorem cV.shift {w:World}{g o:Nat}{c:List Value}{k s j:Nat}(h:cV w g (o+(k+j)*s) c):cV w g (o+k*s+j*s) c:=by
 rwa [CB,<- Nat.add_mul]
theorem Rd.cut {w:World}{G:Nat->Prop}{E:TypeId}{e:Ty}{xs:List e.den}{A:Option Addr}{u:Nat}(h:Rd w G (.list false E e) xs [.slice A xs.length u])(i n:Nat)(Z:i<=n)(hn:n<=xs.length) :
  Rd w G (.list false E e) ((xs.take n).drop i) [.slice (if u=i then A else A.map (·.add (i*e.cells))) (n-i) (u-i)]:=by
 obtain⟨A',J,M,hc,hx⟩:=h;simp at M;obtain⟨rfl,rfl⟩:=M;have H:((xs.take n).drop i).length=n-i:=by simp;omega
 refine⟨_,u-i,by rw[H],by rw[H];omega,λO=>?_⟩;rw[H]at O;obtain⟨g,o,rfl,X,z⟩:=hx (by omega);refine⟨g,o+i*e.cells,?_,X,λj x y=>?_⟩
 ·rw[if_neg (by omega)];simp[eT]
 ·rw[B6,BP]at y;split at y
  ·obtain⟨c,Y,I⟩:=z (i+j) x y;exact⟨c,Y,I.shift⟩
  ·cases y
theorem vv (hV:ax V)(hT:TOk P T)(a9:bM V o){t:TypeId}{x:Operand}{lo hi:Option Operand}(a4:o.op=.slice t x lo hi none)(h:act Γ T o st κ=some r):bW P V o st κ r:=by
 simp only[act,wrU,a4]at h;cases hd:o.dst with
 |none=>simp[hd]at h
 |some d =>
  simp only[hd]at h;split at h
  ·cases h
  ·rename_i i a6;have h1:=hT t;have Y:∀ (W:Wit) (a:Act) (w:World) (y:Option Operand) (a1 n:Int),ap P V W st a w->di st y a1=some n->(y.map a.eval=none/\n=a1)\/∃ k,y.map a.eval=some (.int k n):=by
    intro W a w y a1 n O u;rcases mK O u with ⟨rfl,rfl⟩|⟨z,k,rfl,hz⟩
    ·exact .inl ⟨rfl,rfl⟩
    ·exact .inr ⟨k,by simp[hz]⟩
   split at h
   ·rename_i s ht hx;rw[ht]at h1;split at h
    ·rename_i n a0;cases u:decide (0<=i)&&decide (i<=n)&&decide (n<=(s.size:Int)) with
     |false=>simp[u]at h
     |true =>
      simp only[u,cond_true]at h;simp only[BD,decide_eq_true_eq]at u;refine⟨_,h,λW a w O=>aN hV O hd a9 (v:=.string (s.extract i.toNat n.toNat)) ?_ rfl id rfl⟩;have J:=jQ (P:=P) false s.size s.size (BI _) (lo.map a.eval) (hi.map a.eval) i n u.1.1 u.1.2 u.2 (Y W a w lo 0 i O a6) (Y W a w hi _ n O a0) w;have b4:a.eval x=.string s:=(jn hV O hx (by simp) (by simp[ao]));simp[execOp,a4,b4,CC,CJ,run_underlying h1.1,J]
    ·cases h
   ·rename_i E' e' a2 p ks ep b5 E e xs ht hx;rw[ht]at h1;obtain⟨hu,_,_,_,_,ti,z,a5,a3,_⟩:=h1;split at h
    ·rename_i n a0;cases u:decide (0<=i)&&decide (i<=n)&&decide (n<=(xs.length:Int))&&BA e'.cells e.cells with
     |false=>simp[u]at h
     |true =>
      simp only[u,cond_true]at h;simp only[BD,decide_eq_true_eq]at u;obtain⟨u,M⟩:=u;have M:=BB M;refine⟨_,h,λW a w O=>?_⟩;obtain⟨hl,b3⟩:=wS hV O hx;have h8:=pw b3 hl;obtain⟨A,H,hv,I,Z⟩:=h8.rd;have hv:a.eval x=.slice A xs.length H:=by simpa using hv
      have J:=jQ (P:=P) true xs.length H I (lo.map a.eval) (hi.map a.eval) i n u.1.1 u.1.2 u.2 (Y W a w lo 0 i O a6) (Y W a w hi _ n O a0) w;have hE:=dt (P:=P) (t:=E') (n:=e.cells) (by simp[bQ,a5,a3,M]) w;have X:=Rd.cut (E:=E) (⟨A,H,rfl,I,Z⟩:Rd w _ (.list false E e) xs [.slice A xs.length H]) i.toNat n.toNat (by omega) (by omega);refine aN hV O hd a9 (v:=.slice (if H=i.toNat then A else A.map (·.add (i.toNat*e.cells))) (n.toNat-i.toNat) (H-i.toNat)) ?_ ⟨hl.1,hl.2.1,λ_ _ _=>⟨X,λi' sz off he=>by cases he⟩⟩ id rfl;simp only[execOp,a4,hv,CC,CJ,BQ,run_underlying hu,BM,CF,J,hE,BU]
    ·cases h
   ·rename_i E' e' a2 p E e xs ht hx;rw[ht]at h1;obtain⟨hu,_,_,_,_,ti,z,a5,a3,_⟩:=h1;split at h
    ·rename_i n a0;cases u:decide (0<=i)&&decide (i<=n)&&decide (n<=(xs.length:Int))&&BA e'.cells e.cells with
     |false=>simp[u]at h
     |true =>
      simp only[u,cond_true]at h;simp only[BD,decide_eq_true_eq]at u;obtain⟨u,M⟩:=u;have M:=BB M;refine⟨_,h,λW a w O=>?_⟩;have hl:=jn hV O hx (by simp) (by simp[ao]);obtain⟨A,H,hv,I,Z⟩:=hl;have hv:a.eval x=.slice A xs.length H:=by simpa using hv
      have J:=jQ (P:=P) true xs.length H I (lo.map a.eval) (hi.map a.eval) i n u.1.1 u.1.2 u.2 (Y W a w lo 0 i O a6) (Y W a w hi _ n O a0) w;have hE:=dt (P:=P) (t:=E') (n:=e.cells) (by simp[bQ,a5,a3,M]) w;have X:=Rd.cut (E:=E) (⟨A,H,rfl,I,Z⟩:Rd w (gd V W p) (.list false E e) xs [.slice A xs.length H]) i.toNat n.toNat (by omega) (by omega);refine aN hV O hd a9 (v:=.slice (if H=i.toNat then A else A.map (·.add (i.toNat*e.cells))) (n.toNat-i.toNat) (H-i.toNat)) ?_ X id rfl;simp only[execOp,a4,hv,CC,CJ,BQ,run_underlying hu,BM,CF,J,hE,BU]
    ·cases h
   ·rename_i E' e' a2 p E e xs ht hx;rw[ht]at h1;obtain⟨hu,_,_,_,_,ti,z,a5,a3,_⟩:=h1;split at h
    ·rename_i n a0;cases u:decide (0<=i)&&decide (i<=n)&&decide (n<=(xs.length:Int))&&BA e'.cells e.cells with
     |false=>simp[u]at h
     |true =>
      simp only[u,cond_true]at h;simp only[BD,decide_eq_true_eq]at u;obtain⟨u,M⟩:=u;have M:=BB M;split at h
      ·rename_i r' j n' e1;refine⟨_,h,λW a w O=>?_⟩;obtain⟨r1,j1,n1,ad,h2,b0,_,b2⟩:=tX hV O hx;rw[e1]at ad;obtain⟨rfl,rfl,rfl⟩:r'=r1/\j=j1/\n'=n1:=by cases ad;exact⟨rfl,rfl,rfl⟩
       obtain⟨A,H,hv,I⟩:=b0.slice;have J:=jQ (P:=P) true xs.length H I (lo.map a.eval) (hi.map a.eval) i n u.1.1 u.1.2 u.2 (Y W a w lo 0 i O a6) (Y W a w hi _ n O a0) w;have hE:=dt (P:=P) (t:=E') (n:=e.cells) (by simp[bQ,a5,a3,M]) w;have b1:=OwH.rd (m:=false) (E':=E) b0;rw[hv]at b1;have X:=Rd.cut b1 i.toNat n.toNat (by omega) (by omega);refine aN hV O hd a9 (v:=.slice (if H=i.toNat then A else A.map (·.add (i.toNat*e.cells))) (n.toNat-i.toNat) (H-i.toNat)) ?_
        ⟨BI _,λk hk=>?_,λ_ _ _=>⟨Rd.mono (λk hk=>?_) X,λi' sz off he=>by cases he⟩⟩ id rfl
       ·simp only[execOp,a4,hv,CC,CJ,BQ,run_underlying hu,BM,CF,J,hE,BU]
       ·simp only[CP]at hk;subst hk;exact Nat.le_of_eq b2.symm
       ·rcases hk with hk|hk
        ·exact .inl hk
        ·exact .inr ⟨_,BX _,hk⟩
      ·cases h
    ·cases h
   ·cases h
theorem zJ (hV:ax V)(hT:TOk P T)(J:bM V o){c:Call}(O:o.op=.call c)(hc:c.callee=.builtin .len)(h:act Γ T o st κ=some r):bW P V o st κ r:=by
 simp only[act,wrU,O,hc]at h;split at h
 ·cases h
 ·rename_i d Z;simp only[Z]at h;split at h
  ·rename_i x hx;split at h
   ·rename_i t ht;have y:c.args=#[x]:=by rw[<- CK (xs:=c.args),hx]
    have X:c.argTypes=#[t]:=by rw[<- CK (xs:=c.argTypes),ht]
    have Y:=hT t;have H:∀ (a:Act) (w:World) (n:Int),(CU #[t] o.type #[a.eval x]).run P w=.ok (.int .i64 n) w->(execOp a.eval o).run P w=.ok (.value (.int .i64 n)) w:=by
     intro a w n M;simp[execOp,O,hc,resolve,invoke,builtin,y,X,M]
    split at h
    ·rename_i E e b u;rw[u]at Y;split at h
     ·rename_i n M;refine⟨_,h,λW a w z=>aN hV z Z J (H a w _ ?_) rfl id rfl⟩;have a0:one st x≠.dead:=by intro e;rw[e]at M;simp[aD,fZ]at M
      obtain⟨h2,h3,_⟩:=bo z x a0;obtain⟨A,a1,I⟩:=wK z h2 h3 M;have I:a.eval x=.slice A n a1:=by simpa using I
      simp[CU,run_underlying Y.1,I,goInt]
     ·cases h
    ·rename_i s u a2;rw[u]at Y;refine⟨_,h,λW a w z=>aN hV z Z J (H a w _ ?_) rfl id rfl⟩;have I:a.eval x=.string s:=jn hV z a2 (by simp) (by simp[ao]);simp[CU,run_underlying Y.1,I,goInt]
    ·cases h
   ·cases h
  ·cases h
end
end Go.Proofs.YtadlacffdemoiaaGreatEv
