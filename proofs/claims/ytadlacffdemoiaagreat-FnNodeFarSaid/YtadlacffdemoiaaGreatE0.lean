/- The value evaluator, second form: what a Go function's code computes, on plain values. No proof here but definitions. -/
import Derived.Calls
import Derived.Orders
import Derived.KernelRfl
import Derived.Below
import Derived.Maps.AppendAt
import Derived.Laws.OwnMore
import Derived.Lib.ConvBytes
import Derived.WalkKit
import Derived.Great.BuildSlice
set_option linter.unusedVariables false
set_option linter.unusedSimpArgs false
open Array renaming getD_eq_getD_getElem?->CQ,toList_map->CZ,toArray_toList->Cf
open Bool renaming and_eq_true->BY,not_eq_true'->CU,or_eq_false_iff->Cd,not_eq_true->Cq
open ByteArray renaming empty->CJ
open Go.Act renaming put->Cz
open Go.Builtin renaming len_->Cp
open Go.Instr renaming sliceAt->CX,sureAddr->Cc,slice->Ce,sliceBounds->Co,index->Cs,indexAt->Cx,field->C3
open Go.Program renaming built->Cy
open Go.Result renaming andThen_ok->CA
open Go.Sem renaming run_bind->CE,run_pure->CI
open Go.Value renaming oneCell'->B8,ownBlock->CM
open Go.World renaming cell?->C0
open List renaming getElem?_eq_some_iff->BX,getElem?_eq_getElem->BZ,mem_append_right->B3,mem_append_left->B4,mem_append->CB,getElem?_take->CD,replicate->CF,getD_eq_getElem?_getD->CG,getElem?_append_right->CH,mem_singleton_self->CL,append_assoc->CN,range->CO,getElem?_drop->CR,getElem?_append_left->CS,any_eq_false->CV,mem_cons_of_mem->Cb,replicate_succ->Cg,mem_cons->Ch,length_append->Ci,mem_cons_self->Cj,mem_singleton->Ck,getElem?_map->Cm,flatten_cons->Cn,cons_append->Cr,drop_drop->Cu,map_cons->Cw
open Nat renaming beq->BV,eq_of_beq_eq_true->BW,le_refl->B6,le_trans->B9,lt_of_lt_of_le->CK,blt->CP,ble->CT,add_assoc->CW,lt_succ_self->CY,zero_add->Cl
open Option renaming bind_eq_some_iff->B7,map_eq_some_iff->CC,map_none->Ca,map_some->Ct
open Option.some renaming injEq->B5
open Prod.mk renaming injEq->Cv
namespace Go.Proofs.YtadlacffdemoiaaGreatEv
open Go
inductive Ty where
 |int (k:IntKind)|bool|str|unit
 |hdr
 |pair (a b:Ty)
 |list (m:Bool) (E:TypeId) (e:Ty)
 deriving DecidableEq
abbrev Ty.den:Ty->Type
 |.int _=>Int
 |.bool=>Bool
 |.str=>ByteArray
 |.unit=>Unit
 |.hdr=>Nat
 |.pair a b=>a.den×b.den
 |.list _ _ e=>List e.den
def Ty.cells:Ty->Nat
 |.unit=>0
 |.pair a b=>a.cells+b.cells
 |_=>1
def Ty.zero:(a:Ty)->a.den
 |.int _=>(0:Int)
 |.bool=>false
 |.str=>CJ
 |.unit=>()
 |.hdr=>(0:Nat)
 |.pair a b=>(a.zero,b.zero)
 |.list _ _ e=>([]:List e.den)
def Ty.flat:Ty->Bool
 |.list _ _ _=>false
 |.pair a b=>a.flat&&b.flat
 |_=>true
def Ty.sh:Ty->Ty
 |.pair a b=>.pair a.sh b.sh
 |.list _ E e=>.list false E e.sh
 |a=>a
def Ty.shy:Ty->Bool
 |.list m _ e=>!m||e.shy
 |.pair a b=>a.shy||b.shy
 |_=>false
theorem mR:∀ a:Ty,a.sh.den=a.den
 |.int _|.bool|.str|.unit|.hdr=>rfl
 |.pair a b=>by
  show (a.sh.den×b.sh.den)=(a.den×b.den);rw[mR a,mR b]
 |.list _ _ e=>congrArg List (mR e)
theorem jz {a b:Ty}(h:a.sh=b.sh):a.den=b.den:=(mR a).symm.trans ((congrArg Ty.den h).trans (mR b))
def Ty.eqv:(a:Ty)->a.den->a.den->Bool
 |.int _,x,y=>decide ((x:Int)=y)
 |.bool,x,y=>(x:Bool)==y
 |.str,x,y=>decide ((x:ByteArray)=y)
 |.unit,_,_=>true
 |.hdr,_,_=>false
 |.pair a b,x,y=>a.eqv x.1 y.1&&b.eqv x.2 y.2
 |.list _ _ _,_,_=>false
abbrev Tup:List Ty->Type
 |[]=>Unit
 |a::as=>a.den×Tup as
inductive Leaf where
 |int (k:IntKind) (n:Int)
 |bool (b:Bool)
 |str (s:ByteArray)
 |nil
 |hdr (n:Nat)
 |ro (p:Bool) (E:TypeId) (e:Ty) (xs:List e.den)
 |own (p:Bool) (h:Option (Nat×Nat)) (E:TypeId) (e:Ty) (xs:List e.den)
 |al (r j v:Nat)
 |nal (p:Bool) (ks:List (Nat×Nat×Nat)) (ep:Nat) (loc:Option (Nat×Nat×Nat)) (E:TypeId) (e:Ty) (xs:List e.den)
 |ep (r j v:Nat) (i sz off:Nat)
 |np (p:Bool) (ks:List (Nat×Nat×Nat)) (ep:Nat) (a:Ty) (x:a.den) (off:Nat)
 |rp (p:Bool) (a:Ty) (x:a.den) (off:Nat)
 |rpp (p:Bool) (a:Ty) (x:a.den)
 |bp (b off:Nat)
 |clo (f:FuncId) (caps:List Nat)
 |clr (f:FuncId) (caps:List (Bool×Bool×(a:Ty)×a.den))
 |fn (As:List Ty) (B:Ty) (φ:Tup As->Option B.den)
 |dead
inductive aG where
 |off|und|one|agg
 |tup (ps:List (Bool×Nat))
 deriving DecidableEq
structure bU where
 ver:Nat
 sh:aG
 ls:List Leaf
abbrev St:=Nat->bU
def bU.none:bU:=⟨0,.off,[]⟩
def GH:Nat:=99000
def TMP:Nat:=99998
def EPO:Nat:=99999
def B0:Nat:=100000
abbrev Upd:=List (Nat×bU)
def ac (U:Upd)(st:St)(q:Nat):bU :=
 match U with
 |[]=>st q
 |(r,c)::u=>bif BV q r then c else ac u st q
inductive TI where
 |int (k:IntKind)|bool|str
 |slice (E:TypeId) (e:Ty) (bytes:Nat)
 |struct (a:Ty) (flds:List (Nat×Nat×Bool))
 |arr (e:Ty) (n:Nat)
 |ptr|fn
 |none
def gf:List (TypeId×TI)->TypeId->TI
 |[],_=>.none
 |(t,i)::l,u=>bif BV t u then i else gf l u
def TI.cells:TI->Nat
 |.struct a _=>a.cells
 |.arr e n=>n*e.cells
 |.none=>0
 |_=>1
def TI.agg:TI->Bool
 |.struct _ _=>true
 |.arr _ _=>true
 |_=>false
def eW:Ty->List Leaf
 |.int k=>[.int k 0]
 |.bool=>[.bool false]
 |.str=>[.str CJ]
 |.unit=>[]
 |.hdr=>[.nil]
 |.pair a b=>eW a++eW b
 |.list _ _ _=>[.nil]
def TI.zero:TI->List Leaf
 |.int k=>[.int k 0]
 |.bool=>[.bool false]
 |.str=>[.str CJ]
 |.slice _ _ _=>[.nil]
 |.struct a _=>eW a
 |.arr e n=>(CF n (eW e)).flatten
 |.ptr=>[.dead]
 |.fn=>[.dead]
 |.none=>[]
def aq (p:Bool):(a:Ty)->a.den->List Leaf
 |.int k,n=>[.int k n]
 |.bool,b=>[.bool b]
 |.str,s=>[.str s]
 |.unit,_=>[]
 |.hdr,n=>[.hdr n]
 |.pair a b,x=>aq p a x.1++aq p b x.2
 |.list m E e,r=>[bif m then .own (p&&e.shy) none E e r else .ro p E e r]
def cJ (p:Bool):(a:Ty)->a.den->List Leaf
 |.int k,n=>[.int k n]
 |.bool,b=>[.bool b]
 |.str,s=>[.str s]
 |.unit,_=>[]
 |.hdr,n=>[.hdr n]
 |.pair a b,x=>cJ p a x.1++cJ p b x.2
 |.list _ E e,r=>[.ro p E e r]
def lr (p:Bool)(ks:List (Nat×Nat×Nat))(ep:Nat):(a:Ty)->a.den->List Leaf
 |.int k,n=>[.int k n]
 |.bool,b=>[.bool b]
 |.str,s=>[.str s]
 |.unit,_=>[]
 |.hdr,n=>[.hdr n]
 |.pair a b,x=>lr p ks ep a x.1++lr p ks ep b x.2
 |.list _ E e,r=>[.nal p ks ep none E e r]
def gK (p:Bool)(r j v ep i u:Nat)(h:Option Nat):(a:Ty)->Nat->a.den->List Leaf
 |.int k,_,n=>[.int k n]
 |.bool,_,b=>[.bool b]
 |.str,_,s=>[.str s]
 |.unit,_,_=>[]
 |.hdr,_,n=>[.hdr n]
 |.pair a b,off,x=>gK p r j v ep i u h a off x.1++gK p r j v ep i u h b (off+a.cells) x.2
 |.list m E e,off,y=>[bif decide (h=some off) then .dead else bif m then .nal (p&&e.shy) [(r,j,v)] ep (some (i,u,off)) E e y else .ro p E e y]
def lu (p:Bool)(r j v ep i u:Nat)(h:Option (Bool×Nat)):(a:Ty)->Nat->a.den->List Leaf
 |.int k,_,n=>[.int k n]
 |.bool,_,b=>[.bool b]
 |.str,_,s=>[.str s]
 |.unit,_,_=>[]
 |.hdr,_,n=>[.hdr n]
 |.pair a b,off,x=>lu p r j v ep i u h a off x.1++lu p r j v ep i u h b (off+a.cells) x.2
 |.list m E e,off,y=>[bif (match h with|some (b,o)=>BV o off&&b|Option.none=>false) then .dead else bif m then .nal (p&&e.shy) [(r,j,v)] ep (some (i,u,off)) E e y else .ro p E e y]
def bk (agg:Bool):aG:=bif agg then .agg else .one
def lv:Leaf->Bool
 |.own _ _ _ _ _=>true
 |_=>false
def br (st:St)(ks:List (Nat×Nat×Nat))(ep:Nat):Bool:=BV (st EPO).ver ep&&ks.all λk=>BV (st k.1).ver k.2.2&&lv ((st k.1).ls.getD k.2.1 .dead)
def pG:Leaf->Leaf
 |.nal _ _ _ _ _ _ _=>.dead
 |l=>l
def aD (st:St):Leaf->Leaf
 |.al r j v=>bif BV (st r).ver v then pG ((st r).ls.getD j .dead) else .dead
 |.nal p y ep u E e z=>bif br st y ep then .nal p y ep u E e z else .dead
 |l=>l
def lP (t j r:Nat):Leaf->Leaf
 |.own _ _ _ _ _=>.al t j r
 |l=>l
def bG (t r:Nat):Nat->List Leaf->List Leaf
 |_,[]=>[]
 |j,l::u=>lP t j r l::bG t r (j+1) u
def iz:Value->Option Leaf
 |.int k n=>some (.int k n)
 |.bool b=>some (.bool b)
 |.string s=>some (.str s)
 |.slice Option.none 0 0=>some .nil
 |_=>Option.none
def au (st:St):Operand->aG×List Leaf
 |.tmp t=>bif CP t GH then ((st t).sh,bG t (st t).ver 0 (st t).ls) else (.off,[])
 |.const v=>match iz v with
  |some l=>(.one,[l])
  |Option.none=>(.off,[])
 |.func f=>(.one,[.clo f []])
 |.global _=>(.off,[])
def one (st:St)(x:Operand):Leaf :=
 match au st x with
 |(.one,[l])=>l
 |_=>.dead
def castSh (e e':Ty)(xs:List e'.den):Option (List e.den) :=
 if h:e'.sh=e.sh then some (cast (congrArg List (jz h)) xs) else Option.none
def lQ (E:TypeId)(e:Ty)(E':TypeId)(e':Ty)(xs:List e'.den):Option (List e.den) :=
 if h:E'=E/\e'=e then some (h.2 ▸ xs) else Option.none
def dh (e:Ty):Leaf->Option (Bool×List e.den)
 |.ro p _ u r=>(castSh e u r).map (p,·)
 |.own p none _ u r=>(castSh e u r).map (p,·)
 |.nal p _ _ _ _ u r=>(castSh e u r).map (p,·)
 |.nil=>some (false,[])
 |_=>Option.none
def gh:Leaf->Option Nat
 |.ro _ _ _ r=>some r.length
 |.own _ _ _ _ r=>some r.length
 |.nal _ _ _ _ _ _ r=>some r.length
 |.nil=>some 0
 |.hdr n=>some n
 |_=>Option.none
def bc (st:St):(a:Ty)->List Leaf->Option (Bool×a.den×List Leaf)
 |.int k,r=>match r with
  |.int u n::r=>if k=u then some (false,(n:Int),r) else Option.none
  |_=>Option.none
 |.bool,r=>match r with
  |.bool b::r=>some (false,b,r)
  |_=>Option.none
 |.str,r=>match r with
  |.str s::r=>some (false,s,r)
  |_=>Option.none
 |.unit,r=>some (false,(),r)
 |.hdr,r=>match r with
  |l::r=>match gh (aD st l) with
   |some n=>some (false,(n:Nat),r)
   |Option.none=>Option.none
  |_=>Option.none
 |.pair a b,r=>match bc st a r with
  |some (p,x,r)=>match bc st b r with
   |some (q,y,r)=>some (p||q,(x,y),r)
   |Option.none=>Option.none
  |Option.none=>Option.none
 |.list _ _ e,r=>match r with
  |l::r=>match dh e (aD st l) with
   |some (p,z)=>some (p,z,r)
   |Option.none=>Option.none
  |_=>Option.none
def cO (st:St)(a:Ty)(ls:List Leaf):Option (Bool×a.den) :=
 match bc st a ls with
 |some (p,x,[])=>some (p,x)
 |_=>Option.none
structure cK (α:Type) where
 p:Bool
 val:α
 frz:List (Nat×Nat)
 kill:List (Nat×Nat)
 rest:List Leaf
def bz (st:St):List Leaf->List (Nat×Nat)
 |[]=>[]
 |.al r j v::u=>(match aD st (.al r j v) with|.own _ _ _ _ _=>[(r,j)]|_=>[])++bz st u
 |.nal p z ep y E e H::u=>(match aD st (.nal p z ep y E e H) with|.nal _ _ _ _ _ _ _=>z.map (λk=>(k.1,k.2.1))|_=>[])++bz st u
 |_::u=>bz st u
def b7 (st:St):List Leaf->List (Nat×Nat)
 |[]=>[]
 |.al r j v::u=>(match aD st (.al r j v) with|.own _ _ _ _ _=>[(r,j)]|_=>[])++b7 st u
 |_::u=>b7 st u
def take (st : St) : (a : Ty) -> List Leaf -> Option (cK a.den)
  |.int k,u=>(bc st (.int k) u).map λx=>⟨false,x.2.1,[],[],x.2.2⟩
  |.bool,u=>(bc st .bool u).map λx=>⟨false,x.2.1,[],[],x.2.2⟩
  |.str,u=>(bc st .str u).map λx=>⟨false,x.2.1,[],[],x.2.2⟩
  |.unit,u=>some ⟨false,(),[],[],u⟩
  |.hdr,u=>(bc st .hdr u).map λx=>⟨false,x.2.1,[],[],x.2.2⟩
  |.pair a b,u=>match take st a u with
    |some x=>match take st b x.rest with
      |some y=>some ⟨x.p||y.p,(x.val,y.val),x.frz++y.frz,x.kill++y.kill,y.rest⟩
      |Option.none=>Option.none
    |Option.none=>Option.none
  |.list m E e,u=>match u with
    |[]=>Option.none
    |l::u=>bif m then (match l with
        |.al r j v=>match aD st (.al r j v) with
          |.own p none H I z=>(lQ E e H I z).map λz=>⟨p,z,[],[(r,j)],u⟩
          |_=>Option.none
        |.nil=>some ⟨false,([]:List e.den),[],[],u⟩
        |_=>Option.none)
      else match dh e (aD st l) with
        |some (p,z)=>some ⟨p,z,bz st [l],[],u⟩
        |Option.none=>Option.none
def ch (st:St)(a:Ty)(ls:List Leaf):Option (cK a.den) :=
 match take st a ls with
 |some ⟨p,x,f,k,[]⟩=>some ⟨p,x,f,k,[]⟩
 |_=>Option.none
def da (st:St)(off n:Nat):(a:Ty)->Nat->a.den->List Leaf->Option (cK a.den)
 |.pair a b,pos,x,r=>match da st off n a pos x.1 r with
  |some u=>match da st off n b (pos+a.cells) x.2 u.rest with
   |some v=>some ⟨u.p||v.p,(u.val,v.val),u.frz++v.frz,u.kill++v.kill,v.rest⟩
   |Option.none=>Option.none
  |Option.none=>Option.none
 |.int k,pos,x,r=>bif CT off pos&&CP pos (off+n) then take st (.int k) r else some ⟨false,x,[],[],r⟩
 |.bool,pos,x,r=>bif CT off pos&&CP pos (off+n) then take st .bool r else some ⟨false,x,[],[],r⟩
 |.str,pos,x,r=>bif CT off pos&&CP pos (off+n) then take st .str r else some ⟨false,x,[],[],r⟩
 |.unit,_,x,r=>some ⟨false,x,[],[],r⟩
 |.hdr,_,_,_=>Option.none
 |.list m E e,pos,x,r=>bif CT off pos&&CP pos (off+n) then take st (.list m E e) r else some ⟨false,x,[],[],r⟩
def bO (off:Nat)(E:TypeId)(e:Ty)(r:List e.den):(a:Ty)->Nat->a.den->Option a.den
 |.pair a b,pos,x=>match bO off E e r a pos x.1 with
  |some u=>some (u,x.2)
  |Option.none=>(bO off E e r b (pos+a.cells) x.2).map λv=>(x.1,v)
 |.list m y z,pos,_=>bif m&&BV pos off then lQ y z E e r else Option.none
 |.int _,_,_|.bool,_,_|.str,_,_|.unit,_,_|.hdr,_,_=>Option.none
def ax:List Leaf->List Nat
 |[]=>[]
 |.al r _ _::u=>r::ax u
 |.ep r _ _ _ _ _::u=>r::ax u
 |.nal _ y _ _ _ _ _::u=>EPO::y.map (·.1)++ax u
 |.np _ y _ _ _ _::u=>EPO::y.map (·.1)++ax u
 |_::u=>ax u
def aT (ls:List Leaf)(j:Nat)(l:Leaf):List Leaf:=ls.set j l
def gi (c:bU)(j:Nat):bU:=⟨c.ver,c.sh,aT c.ls j .dead⟩
def aM (st:St):List (Nat×Nat)->Upd
 |[]=>[]
 |(r,j)::u=>let U:=aM st u;let c:=ac U st r;(r,gi c j)::U
def uS:Leaf->Leaf
 |.own p none E e r=>.ro p E e r
 |.own _ (some _) _ _ _=>.dead
 |l=>l
def fZ (c:bU)(j:Nat):bU:=⟨c.ver,c.sh,aT c.ls j (uS (c.ls.getD j .dead))⟩
def aE (st:St):List (Nat×Nat)->Upd
 |[]=>[]
 |(r,j)::u=>let U:=aE st u;let c:=ac U st r;(r,fZ c j)::U
def bX (c:bU):bU:=⟨c.ver+1,c.sh,c.ls⟩
def epoU (st:St):Upd:=[(EPO,bX (st EPO))]
def dy (st:St):List Leaf->List (Nat×Nat)
 |[]=>[]
 |.nal p u ep none E e y::r=>(match aD st (.nal p u ep none E e y) with|.nal _ _ _ _ _ _ _=>u.map (λk=>(k.1,k.2.1))|_=>[])++dy st r
 |_::r=>dy st r
def gq (st:St)(l:Leaf):Leaf:=match aD st l with
 |.nal p _ _ none E e r=>.ro p E e r
 |l=>l
def dJ (st:St)(ls:List Leaf):List Leaf:=ls.map (gq st)
def mvU (st:St)(ls:List Leaf):Upd:=let U:=aE st (dy st ls);aM (ac U st) (b7 st ls)++U
def a8:List (Nat×Nat)->Bool
 |[]=>true
 |x::r=>!(r.any λy=>BV x.1 y.1&&BV x.2 y.2)&&a8 r
def iA (a b:Nat×Nat):Bool:=BV a.1 b.1&&BV a.2 b.2
def dE (a b:List (Nat×Nat)):Bool:=!(a.any λk=>b.any (iA k))
def ii (st:St)(ls:List Leaf):Bool:=a8 (b7 st ls)&&dE (dy st ls) (b7 st ls)
def sA (st:St):Operand->Bool
 |.tmp q=>BV (st q).ver 7
 |_=>false
def idx {α:Type}(xs:List α)(i:Int):Option α:=if i<0 then Option.none else xs[i.toNat]?
def jA (r u:List Leaf)(off:Nat):List Leaf:=r.take off++u++r.drop (off+u.length)
def sC (r:BinOp)(k:IntKind)(x y:Int):Option Leaf :=
 match r with
 |.add=>some (.int k (k.wrap (x+y)))
 |.sub=>some (.int k (k.wrap (x-y)))
 |.mul=>some (.int k (k.wrap (x*y)))
 |.eql=>some (.bool (x==y))
 |.neq=>some (.bool (x != y))
 |.lss=>some (.bool (decide (x<y)))
 |.leq=>some (.bool (decide (x<=y)))
 |.gtr=>some (.bool (decide (x>y)))
 |.geq=>some (.bool (decide (x>=y)))
 |_=>Option.none
def bf (off:Nat):(a:Ty)->Nat->a.den->Option ((E:TypeId)×(e:Ty)×List e.den)
 |.pair a b,pos,x=>match bf off a pos x.1 with
  |some u=>some u
  |Option.none=>bf off b (pos+a.cells) x.2
 |.list m E e,pos,r=>bif m&&BV pos off then some ⟨E,e,r⟩ else Option.none
 |.int _,_,_|.bool,_,_|.str,_,_|.unit,_,_|.hdr,_,_=>Option.none
def cl (st:St):Leaf->Option (Upd×Leaf)
  |.nal p J ep H E e X=>bif br st J ep then (match J,H with
      | [(r, j, _)], some (i, O, off) => (match (st r).ls.getD j .dead with
        |.own I none M z u=>bif !BV r TMP&&!BV r EPO&&BV O z.cells then
            (match u[i]? with
            |some y=>match bf off z 0 y with
              |some ⟨E,e,R⟩=>some ([(r,⟨(st r).ver,(st r).sh,aT (st r).ls j (.own I (some (i,off)) M z u)⟩),(TMP,⟨(st TMP).ver+1,.one,[.own (I&&z.shy) none E e R]⟩),(EPO,bX (st EPO))],.al TMP 0 ((st TMP).ver+1))
              |Option.none=>Option.none
            |Option.none=>Option.none)
          else Option.none
        |_=>Option.none)
      |_,_=>Option.none)
    else Option.none
  |_=>Option.none
def jr:Leaf->Bool
 |.nal _ _ _ _ _ _ _=>true
 |_=>false
inductive PK where
 |rd (a:Ty)
 |own (a:Ty)
 |io (a:Ty)
 |rref (a:Ty)
 |rref2 (a:Ty)
 |iop (a:Ty)
 |fn (As:List Ty) (B:Ty)
 |clo (f:FuncId) (cs:List (Bool×Ty))
 |hol (a:Ty) (c off:Nat)
 deriving DecidableEq
inductive RK where
 |v (a:Ty)
 |bv (a:Ty)
 |box (a:Ty)
 deriving DecidableEq
abbrev lR:List (Bool×Ty)->Type
 |[]=>Unit
 |c::r=>c.2.den×lR r
abbrev PK.den:PK->Type
 |.rd a|.own a|.io a|.rref a|.rref2 a|.iop a=>a.den
 |.fn u B=>Tup u->Option B.den
 |.clo _ r=>lR r
 |.hol a _ _=>a.den×Nat
abbrev ab:List PK->Type
 |[]=>Unit
 |p::r=>p.den×ab r
abbrev ah:List PK->Type
 |[]=>Unit
 |.io a::r=>a.den×ah r
 |.iop a::r=>a.den×ah r
 |_::r=>ah r
abbrev RK.den:RK->Type
 |.v a|.bv a|.box a=>a.den
abbrev ai:List RK->Type
 |[]=>Unit
 |r::u=>r.den×ai u
structure Ctr where
 f:FuncId
 ps:List PK
 rs:List RK
 fresh:Bool
 den:ab ps->Option (ai rs×ah ps)
def Ty.isAgg:Ty->Bool
 |.pair _ _|.unit=>true
 |_=>false
def target (st:St):Leaf->Option (List Leaf)
 |.bp b 0=>bif decide ((st b).sh=.agg) then some (bG b (st b).ver 0 (st b).ls) else none
 |.rp p a x 0=>some (cJ p a x)
 |.rpp p a x=>some [.rp p a x 0]
 |_=>none
structure Got (α:Type) where
 p:Bool
 val:α
 frz:List (Nat×Nat)
 kill:List (Nat×Nat)
 see:List Nat
 lend:List Nat
def Got.ofRd {α:Type}(r:List Nat)(x:Bool×α)(frz:List (Nat×Nat)):Got α:=⟨x.1,x.2,frz,[],r,[]⟩
def lS (Γ:List Ctr)(f:FuncId):Option Ctr:=match Γ with
 |[]=>none
 |c::r=>bif BV c.f f then some c else lS r f
def cm (x:aG×List Leaf):Leaf :=
 match x with
 |(.one,[l])=>l
 |_=>.dead
def fj:List Leaf->List Nat
 |[]=>[]
 |.bp b _::r=>b::fj r
 |_::r=>fj r
def fk (st:St)(c:Bool×Ty)(l:Leaf):Option (Got c.2.den) :=
 bif c.1 then (match target st l with
  |some [u]=>match target st u with
   |some r=>(cO st c.2 r).map λy=>.ofRd (fj [l,u]) y (bz st r)
   |none=>none
  |_=>none)
 else match target st l with
  |some r=>(cO st c.2 r).map λy=>.ofRd (fj [l]) y (bz st r)
  |none=>none
def cA (st:St):(cs:List (Bool×Ty))->List Leaf->Option (Got (lR cs))
 |[],[]=>some ⟨false,(),[],[],[],[]⟩
 |c::cs,l::r=>match fk st c l with
  |some g=>match cA st cs r with
   |some h=>some ⟨g.p||h.p,(g.val,h.val),g.frz++h.frz,[],g.see++h.see,[]⟩
   |none=>none
  |none=>none
 |_,_=>none
def eR (c:Bool×Bool×(a:Ty)×a.den):Leaf:=bif c.2.1 then .rpp c.1 c.2.2.1 c.2.2.2 else .rp c.1 c.2.2.1 c.2.2.2 0
def bi (st : St) : (pk : PK) -> aG × List Leaf -> Option (Got pk.den)
  |.rd a,x=>bif decide (x.1=bk a.isAgg) then (cO st a x.2).map λy=>.ofRd [] y (bz st x.2) else none
  |.own a,x=>bif decide (x.1=bk a.isAgg) then (ch st a x.2).map λt=>⟨t.p,t.val,t.frz,t.kill,[],[]⟩ else none
  |.io a,x=>bif decide (x.1=bk a.isAgg) then (ch st a x.2).map λt=>⟨t.p,t.val,t.frz,t.kill,[],[]⟩ else none
  |.rref a,x=>fk st (false,a) (cm x)
  |.rref2 a,x=>fk st (true,a) (cm x)
  |.iop a,x=>match cm x with
    |.bp b 0=>bif decide ((st b).sh=.agg) then (ch st a (bG b (st b).ver 0 (st b).ls)).map λt=>⟨t.p,t.val,t.frz,t.kill,[],[b]⟩ else none
    |_=>none
  |.fn J B,x=>match cm x with
    |.fn z O M=>if h:z=J/\O=B then some ⟨false,(h.1 ▸ h.2 ▸ M:Tup J->Option B.den),[],[],[],[]⟩ else none
    |_=>none
  |.clo f I,x=>match cm x with
    |.clo H u=>bif BV H f then cA st I (u.map λb=>.bp b 0) else none
    |.clr H u=>bif BV H f then cA st I (u.map eR) else none
    |_=>none
  |.hol a c off,x=>bif decide (x.1=bk a.isAgg) then (match x.2.getD c .dead with
      |.al r j v=>(match aD st (.al r j v) with
        |.own p (some (i,o)) E e R=>bif BV o off then (match ch st a (aT x.2 c .nil) with
            |some t=>(match bO c E e R a 0 t.val with
              |some y=>some ⟨p||t.p,(y,i),t.frz,(r,j)::t.kill,[],[]⟩
              |none=>none)
            |none=>none) else none
        |_=>none)
      |_=>none) else none
def bd (ga:(pk:PK)->aG×List Leaf->Option (Got pk.den)):(ps:List PK)->List (aG×List Leaf)->Option (Got (ab ps))
 |[],[]=>some ⟨false,(),[],[],[],[]⟩
 |p::ps,x::r=>match ga p x with
  |some g=>match bd ga ps r with
   |some h=>some ⟨g.p||h.p,(g.val,h.val),g.frz++h.frz,g.kill++h.kill,g.see++h.see,g.lend++h.lend⟩
   |none=>none
  |none=>none
 |_,_=>none
def uT (st:St):(ps:List PK)->List (aG×List Leaf)->Option (Got (ab ps)):=bd (bi st)
def b8 (st:St):List Leaf->List Leaf->Upd
 |.al r j _::u,l::y=>let U:=b8 st u y;(match l with|.own p h E e ys=>let c:=ac U st r;[(r,⟨c.ver,c.sh,aT c.ls j (.own p h E e ys)⟩),(EPO,bX (ac U st EPO))]|_=>[])++U
 |_::u,_::y=>b8 st u y
 |_,_=>[]
def aF (st:St)(p:Bool):(ps:List PK)->List (aG×List Leaf)->ah ps->Upd
 |[],_,_=>[]
 |.io a::ps,x::r,o=>let U:=aF st p ps r o.2;b8 (ac U st) x.2 (aq p a o.1)++U
 |.iop a::ps,x::r,o=>let U:=aF st p ps r o.2;(match cm x with
  |.bp b _=>let c:=ac U st b;[(b,⟨c.ver+2,.agg,aq p a o.1⟩)]
  |_=>[])++U
 |.rd _::ps,_::r,o=>aF st p ps r o
 |.own _::ps,_::r,o=>aF st p ps r o
 |.rref _::ps,_::r,o=>aF st p ps r o
 |.rref2 _::ps,_::r,o=>aF st p ps r o
 |.fn _ _::ps,_::r,o=>aF st p ps r o
 |.clo _ _::ps,_::r,o=>aF st p ps r o
 |.hol _ _ _::ps,_::r,o=>aF st p ps r o
 |_::_,[],_=>[]
def pH (d v:Nat)(p q:Bool)(ks:List (Nat×Nat×Nat))(ep:Nat):(r:RK)->r.den->(Bool×List Leaf)×Upd
 |.v a,y=>((a.isAgg,aq p a y),[])
 |.bv a,y=>((a.isAgg,lr q ks ep a y),[])
 |.box a,y=>((false,[.bp (B0+d) 0]),[(B0+d,⟨v+1,.agg,aq p a y⟩)])
def bE (d v:Nat)(p q:Bool)(ks:List (Nat×Nat×Nat))(ep:Nat):(u:List RK)->ai u->List (Bool×List Leaf)×Upd
 |[],_=>([],[])
 |r::u,y=>let a:=pH d v p q ks ep r y.1;let b:=bE d v p q ks ep u y.2;(a.1::b.1,a.2++b.2)
def eS (r:Nat)(l:List (Bool×List Leaf)):bU :=
 match l with
 |[(agg,u)]=>⟨r,bk agg,u⟩
 |l=>⟨r,.tup (l.map λx=>(x.1,x.2.length)),(l.map (·.2)).flatten⟩
def ck (st:St)(U:Upd)(d:Nat)(sh:aG)(ls:List Leaf):Upd:=(d,⟨(ac U st d).ver+1,sh,ls⟩)::U
def PK.reads:PK->Bool
 |.rd _|.rref _|.rref2 _=>true
 |_=>false
def nS (caps:List PK)(z:ab caps):(r:List Ty)->Tup r->ab (r.map .rd++caps)
 |[],_=>z
 |_::as,x=>(x.1,nS caps z as x.2)
def sk (st:St)(z:List Ty)(B:Ty)(ls:List Leaf)(ps:List PK)(H:List RK)(r:Bool)(u:ab ps->Option (ai H×ah ps))(q:List PK):Option (Got (Tup z->Option B.den)) :=
 if h:ps=z.map .rd++q/\H=[.v B] then
  bif q.all PK.reads&&B.flat&&r then
   match uT st q (ls.map λl=>(.one,[l])) with
   |some g=>some ⟨g.p,λx=>(u (h.1 ▸ nS _ g.val z x)).map λy=>(h.2 ▸ y.1:ai [.v B]).1,g.frz,[],g.see,[]⟩
   |none=>none
  else none
 else none
def kA (Γ:List Ctr)(st:St)(r:List Ty)(B:Ty)(f:FuncId)(ls:List Leaf):Option (Got (Tup r->Option B.den)) :=
 match lS Γ f with
 |some c=>sk st r B ls c.ps c.rs c.fresh c.den (c.ps.drop r.length)
 |none=>none
def vI:Leaf->Option (FuncId×List Leaf)
 |.clo f r=>some (f,r.map λb=>.bp b 0)
 |.clr f r=>some (f,r.map eR)
 |_=>none
def cd (Γ:List Ctr)(st:St):(pk:PK)->aG×List Leaf->Option (Got pk.den)
 |.fn u B,x=>match vI (cm x) with
  |some r=>kA Γ st u B r.1 r.2
  |none=>bi st (.fn u B) x
 |.rd a,x=>bi st (.rd a) x
 |.own a,x=>bi st (.own a) x
 |.io a,x=>bi st (.io a) x
 |.rref a,x=>bi st (.rref a) x
 |.rref2 a,x=>bi st (.rref2 a) x
 |.iop a,x=>bi st (.iop a) x
 |.clo f y,x=>bi st (.clo f y) x
 |.hol a c off,x=>bi st (.hol a c off) x
def oW (Γ:List Ctr)(st:St):(ps:List PK)->List (aG×List Leaf)->Option (Got (ab ps)):=bd (cd Γ st)
def PK.takes:PK->Bool
 |.own _|.io _=>true
 |_=>false
def PK.isIo:PK->Bool
 |.io _=>true
 |_=>false
def pI:Ty->Nat->Bool
 |.pair a b,j=>bif CP j a.cells then pI a j else pI b (j-a.cells)
 |.list m _ _,j=>m&&BV j 0
 |_,_=>false
def lw (a:Ty):Nat->List Leaf->Option Nat
 |_,[]=>none
 |j,l::r=>bif jr l&&pI a j then some j else lw a (j+1) r
def PK.nest:PK->List Leaf->Option Nat
 |.own a,r=>lw a 0 r
 |.io a,r=>lw a 0 r
 |_,_=>none
def ke:Leaf->Nat×Nat
 |.nal _ ((r,j,_)::_) _ _ _ _ _=>(r,j)
 |_=>(0,0)
def cY (st:St):List PK->List (aG×List Leaf)->Option (Upd×List (aG×List Leaf)×Option (Bool×Nat×Nat))
 |p::y,x::r=>match p.nest x.2 with
  |some k=>(cl st (x.2.getD k .dead)).map λu=>(u.1,(x.1,aT x.2 k u.2)::r,some (p.isIo,ke (x.2.getD k .dead)))
  |none=>(cY st y r).map λu=>(u.1,x::u.2.1,u.2.2)
 |_,r=>some ([],r,none)
section
variable {R:Type}
def lT (st : St) (l : Leaf) (X : Upd -> Leaf -> Option R) : Option R :=
  match l with
  |.nal _ J ep H _ _ _=>bif br st J ep then (match J,H with
      | [(r, j, _)], some (i, O, off) => (match (st r).ls.getD j .dead with
        |.own I none M z u=>bif !BV r TMP&&!BV r EPO&&BV O z.cells then
            (idx u (i:Int)).bind λy=>match bf off z 0 y with
              |some ⟨E,e,Y⟩=>X [(r,⟨(st r).ver,(st r).sh,aT (st r).ls j (.own I (some (i,off)) M z u)⟩),(TMP,⟨(st TMP).ver+1,.one,[.own (I&&z.shy) none E e Y]⟩),(EPO,bX (st EPO))] (.al TMP 0 ((st TMP).ver+1))
              |Option.none=>Option.none
          else Option.none
        |_=>Option.none)
      |_,_=>Option.none)
    else Option.none
  |_=>Option.none
def kD (st:St):List PK->List (aG×List Leaf)->(Upd->List (aG×List Leaf)->Option (Bool×Nat×Nat)->Option R)->Option R
 |p::z,x::r,u=>match p.nest x.2 with
  |some k=>lT st (x.2.getD k .dead) λU l=>u U ((x.1,aT x.2 k l)::r) (some (p.isIo,ke (x.2.getD k .dead)))
  |none=>kD st z r λU y b=>u U (x::y) b
 |_,r,u=>u [] r none
def iQ (st:St):(u:List Ty)->List (aG×List Leaf)->Option (Tup u)
 |[],[]=>some ()
 |a::as,x::r=>bif decide (x.1=bk a.isAgg) then match cO st a x.2 with
   |some (_,y)=>(iQ st as r).map (y,·)
   |none=>none
  else none
 |_,_=>none
def RK.isV:RK->Bool
 |.v _|.bv _=>true
 |.box _=>false
def RK.isBv:RK->Bool
 |.bv _=>true
 |_=>false
def gL (st:St)(d:Nat):List RK->Bool
 |[.box _]=>decide ((st (B0+d)).sh=.off)
 |rs=>rs.all RK.isV
def oX (b:Option (Bool×Nat×Nat))(frz kill:List (Nat×Nat))(d:Nat):Bool :=
 match b with
 |some (true,r,j)=>!(kill.any (iA (r,j)))&&!(frz.any (iA (r,j)))&&!BV r d&&!BV r (B0+d)
 |_=>true
def jU (st:St)(b:Option (Bool×Nat×Nat))(U:Upd)(H:Upd->Option R):Option R :=
 match b with
 |some (true,r,j) =>
  match (ac U st r).ls.getD j .dead,(ac U st TMP).ls with
  |.own p (some (i,off)) J u I,[.own q none E e M]=>(idx I (i:Int)).bind λy=>match bO off E e M u 0 y with
   |some z=>H ((r,⟨(ac U st r).ver,(ac U st r).sh,aT (ac U st r).ls j (.own (p||q) none J u (I.set i z))⟩)::(TMP,⟨(ac U st TMP).ver+1,.off,[]⟩)::(EPO,bX (ac U st EPO))::U)
   |none=>none
  |_,_=>none
 |_=>H U
def js (Γ:List Ctr)(st:St)(d:Nat)(f:FuncId)(xs:List (aG×List Leaf))(J:Upd->Option R):Option R :=
 match lS Γ f with
 |some c=>kD st c.ps xs λu xs b =>
  match oW Γ (ac u st) c.ps xs with
  |some g=>bif a8 g.kill&&dE g.frz g.kill&&gL st d c.rs&&!(g.see.any λq=>g.lend.any (BV q))&&CT g.lend.length 1&&(g.lend.isEmpty||!(c.ps.any PK.isIo))&&((c.fresh&&g.lend.isEmpty)||!(c.rs.any RK.isBv))&&(g.kill.all λk=>!BV k.1 EPO)&&oX b g.frz g.kill d then
   (c.den g.val).bind λy =>
    let H:=(let U:=(bif c.fresh then [] else aE (ac u st) g.frz);aM (ac U (ac u st)) g.kill++U)++u;let z:=aF (ac H st) (g.p&&!c.fresh) c.ps xs y.2++H;let r:=bE d (ac z st (B0+d)).ver (g.p&&!c.fresh) g.p (g.frz.map λk=>(k.1,k.2,(ac z st k.1).ver)) (ac z st EPO).ver c.rs y.1;let I:=r.2++z
    jU st b ((d,eS ((ac I st d).ver+1) r.1)::I) J
   else none
  |none=>none
 |none=>none
def an:Nat:=140737488355328
def fT (st:St)(E:TypeId)(e:Ty)(y:Leaf):Option (cK (List e.den)) :=
 bif e.flat then (dh e (aD st y)).map λx=>⟨false,x.2,[],[],[]⟩
 else bif decide (e.sh=e) then (dh e (aD st y)).map λx=>⟨x.1,x.2,bz st [y],[],[]⟩
 else (ch st (.list true E e) [y]).map λt=>⟨t.p,t.val,t.frz,t.kill,[]⟩
def dW (st r:St)(z:Upd)(d:Nat)(E:TypeId)(e:Ty)(u:Nat)(p:Bool)(xs:List e.den)(ks:List (Nat×Nat))(y:Leaf)(H:Upd->Option R):Option R :=
 match fT r E e y with
 |some t=>bif a8 (t.kill++ks)&&dE t.frz (t.kill++ks)&&decide ((xs.length+t.val.length)*u<=an) then
   let U:=aE r t.frz
   H (ck st (aM (ac U r) (t.kill++ks)++U++z) d .one [.own (p||t.p) none E e (xs++t.val)])
  else none
 |none=>none
def ew (st:St)(z:Upd)(d:Nat)(E:TypeId)(e:Ty)(u:Nat)(x y:Leaf)(J:Upd->Option R):Option R :=
 match x with
 |.al r j v=>match aD (ac z st) (.al r j v) with
  |.own p none H I M=>bif BV H E&&decide (I.sh=e.sh) then dW st (ac z st) z d H I u p M [(r,j)] y J else none
  |_=>none
 |.nil=>dW st (ac z st) z d E e u false [] [] y J
 |_=>none
def iB (st:St)(d:Nat)(E:TypeId)(e:Ty)(r:Nat)(x y:Leaf)(u:Upd->Option R):Option R :=
 bif jr x then lT st x λz x=>ew st z d E e r x y u else ew st [] d E e r x y u
def di (st:St)(x:Option Operand)(r:Int):Option Int :=
 match x with
 |none=>some r
 |some l=>match one st l with
  |.int _ n=>some n
  |_=>none
def fm (st:St)(r:List (Nat×Nat×Bool)):List (Nat×Operand)->List Leaf->Option (List Leaf)
 |[],u=>some u
 |(i,x)::y,u=>match r[i]? with
  |some (off,n,agg)=>bif BV (au st x).2.length n&&decide ((au st x).1=bk agg)&&decide (off+n<=u.length) then fm st r y (jA u (au st x).2 off) else none
  |none=>none
def eD (st:St)(e:Ty):Nat->List (Nat×Operand)->Option (cK (List e.den))
  |_,[]=>some ⟨false,[],[],[],[]⟩
  |k,(i,x)::r=>bif BV i k&&decide ((au st x).1=bk e.isAgg) then
      match ch st e (au st x).2,eD st e (k+1) r with
      |some t,some u=>some ⟨t.p||u.p,t.val::u.val,t.frz++u.frz,t.kill++u.kill,[]⟩
      |_,_=>none
    else none
def fC (st:St)(e:Ty):Nat->List Leaf->Option (List e.den)
 |0,_=>some []
 |n+1,r=>match cO st e (r.take e.cells),fC st e n (r.drop e.cells) with
  |some (_,x),some u=>some (x::u)
  |_,_=>none
def sD (st:St)(xs:List Operand):Option (List Nat) :=
 xs.foldl (λ (r:Option (List Nat)) x=>r.bind λl=>match one st x with
  |.bp b 0=>some (l++[b])
  |_=>none) (some [])
def wrU (o:Oper)(st:St)(r:Upd->Option R)(sh:aG)(ls:List Leaf):Option R:=match o.dst with
 |some d=>r (ck st [] d sh ls)
 |none=>none
def cP (h:Option (Nat×Nat))(i:Nat):Option Nat:=match h with
 |some (r,u)=>bif BV r i then some u else none
 |none=>none
def holB (h:Option (Nat×Nat))(i:Nat):Option (Bool×Nat):=match h with
 |some (r,u)=>some (BV r i,u)
 |none=>none
theorem lU (p:Bool)(r j v ep i u:Nat)(h:Option (Nat×Nat))(n:Nat):∀ (a:Ty) (off:Nat) (x:a.den),lu p r j v ep i u (holB h n) a off x=gK p r j v ep i u (cP h n) a off x
 |.int _,_,_|.bool,_,_|.str,_,_|.unit,_,_|.hdr,_,_=>rfl
 |.pair a b,off,x=>by
  show _++_=_++_;rw[lU p r j v ep i u h n a,lU p r j v ep i u h n b]
 |.list m E e,off,I=>by
  simp only[lu,gK];congr 2;cases h with
  |none=>rfl
  |some q =>
   obtain⟨z,H⟩:=q;simp only[holB,cP];by_cases y:BV z n=true
   ·simp only[y,Bool.and_true,cond_true,B5];rw[Bool.eq_iff_iff,Nat.beq_eq,decide_eq_true_eq]
   ·simp only[Cq]at y;simp[y]
def gM (st:St)(r j i off:Nat)(n:Nat)(p:Bool)(E:TypeId)(e:Ty)(xs:List e.den)(h:Option (Nat×Nat))(ls:List Leaf)(M:Upd->Option R):Option R :=
 (idx xs (i:Int)).bind λy =>
  match da st off n e 0 y ls with
  |some t=>bif t.rest.isEmpty&&a8 t.kill&&dE t.frz t.kill&&!((t.kill++t.frz).any λk=>BV k.1 r) then
    let J:=aE st t.frz;let H:=aM (ac J st) t.kill++J;let u (l:Leaf):Option R:=M ((r,⟨(st r).ver,(st r).sh,aT (st r).ls j l⟩)::(EPO,bX (ac H st EPO))::H)
    match h with
    |none=>u (.own (p||t.p) none E e (xs.set i t.val))
    |some (I,z)=>bif CT off z&&CP z (off+n) then (bif BV i I then u (.own (p||t.p) none E e (xs.set i t.val)) else none)
     else u (.own (p||t.p) (some (I,z)) E e (xs.set i t.val))
   else none
  |none=>none
def sl (r:Nat):Bool:=!BV r TMP&&!BV r EPO
def eA (s:ByteArray):List Int:=s.data.toList.map λb=>(b.toNat:Int)
def gN (xs:List Int):ByteArray:=ByteArray.mk (xs.map λn=>UInt8.ofNat n.toNat).toArray
def act (Γ:List Ctr)(T:TypeId->TI)(o:Oper)(st:St)(O:Upd->Option R):Option R :=
 let w (sh:aG) (ls:List Leaf):Option R:=wrU o st O sh ls;let w1 (l:Leaf):Option R:=w .one [l]
 match o.op with
 |.move x=>let v:=au st x;w v.1 v.2
 |.assign x=>match o.dst with
  |some d=>let v:=au st x;bif ii st v.2 then O (ck st (mvU st v.2) d v.1 (dJ st v.2)) else none
  |none=>none
 |.pick c a b=>match one st c with
  |.bool t=>bif t then (let v:=au st a;w v.1 v.2) else (let v:=au st b;w v.1 v.2)
  |_=>none
 |.alloc t=>match o.dst with
  |some d=>bif decide ((st (B0+d)).sh=.off)&&!decide ((T t).cells=0) then O ((B0+d,⟨(st (B0+d)).ver+1,.agg,(T t).zero⟩)::ck st [] d .one [.bp (B0+d) 0]) else none
  |none=>none
 |.box t x=>match o.dst with
  |some d=>let v:=au st x
   bif decide ((st (B0+d)).sh=.off)&&decide (v.2.length=(T t).cells)&&decide (v.1=bk (T t).agg)&&ii st v.2 then
    (bif sA st x then O ((B0+d,⟨(st (B0+d)).ver+1,.agg,v.2⟩)::ck st [] d .one [.bp (B0+d) 0])
    else (let U:=mvU st v.2
     O ((B0+d,⟨(ac U st (B0+d)).ver+1,.agg,dJ st v.2⟩)::ck st U d .one [.bp (B0+d) 0])))
   else none
  |none=>none
 |.build t H=>match T t with
  |.struct a I=>match fm st I H.toList (eW a) with
   |some ls=>w .agg ls
   |none=>none
  |.arr e n=>match fm st ((CO n).map λi=>(i*e.cells,e.cells,e.isAgg)) H.toList (CF n (eW e)).flatten with
   |some ls=>w .agg ls
   |none=>none
  |_=>none
 |.buildSlice t n H=>match T t with
  |.slice E e _=>match eD st e 0 H.toList with
   |some u=>bif BV u.val.length n&&decide (n*e.cells<=16777216)&&a8 u.kill&&dE u.frz u.kill then (match o.dst with
     |some d=>let U:=aE st u.frz;O (ck st (aM (ac U st) u.kill++U) d .one [.own u.p none E e u.val])
     |none=>none) else none
   |none=>none
  |_=>none
 |.load t x =>
  bif decide ((T t).cells=0) then none else
  match one st x with
  |.rp p a y off=>bif decide (off+(T t).cells<=a.cells) then w (bk (T t).agg) (((cJ p a y).drop off).take (T t).cells) else none
  |.bp b off=>bif decide ((st b).sh=.agg)&&decide (off+(T t).cells<=(st b).ls.length) then w (bk (T t).agg) (((bG b (st b).ver 0 (st b).ls).drop off).take (T t).cells) else none
  |.rpp p a y=>bif BV (T t).cells 1&&!(T t).agg then w1 (.rp p a y 0) else none
  |.np p Y ep a y off=>bif br st Y ep&&decide (off+(T t).cells<=a.cells) then w (bk (T t).agg) (((lr p Y ep a y).drop off).take (T t).cells) else none
  |.ep r j v i sz off=>match aD st (.al r j v) with
   |.own p h _ e z=>bif BV sz e.cells&&decide (off+(T t).cells<=e.cells) then (idx z (i:Int)).bind λy=>w (bk (T t).agg) (((lu p r j v (st EPO).ver i sz (holB h i) e 0 y).drop off).take (T t).cells) else none
   |_=>none
  |_=>none
 |.store t x y=>match o.dst with
  |some _=>none
  |none =>
  let v:=(au st y).2
  bif BV v.length (T t).cells&&decide ((au st y).1=bk (T t).agg)&&!decide ((T t).cells=0) then
   match one st x with
   |.bp b off=>bif decide ((st b).sh=.agg)&&decide (off+v.length<=(st b).ls.length)&&ii st v then
     let U:=mvU st v;let c:=ac U st b
     O ((b,⟨c.ver+1,.agg,jA c.ls (dJ st v) off⟩)::U)
    else none
   |.ep r j a0 i sz off=>match aD st (.al r j a0) with
    |.own p h E e z=>bif BV sz e.cells&&decide (off+v.length<=e.cells)&&sl r then gM st r j i off v.length p E e z h v O else none
    |_=>none
   |_=>none
  else none
 |.nilCheck x=>match one st x with
  |.rp p a y off=>w1 (.rp p a y off)
  |.bp b off=>w1 (.bp b off)
  |.ep r j v i sz off=>bif BV (st r).ver v then w1 (.ep r j v i sz off) else none
  |.rpp p a y=>w1 (.rpp p a y)
  |.np p Y ep a y off=>bif br st Y ep then w1 (.np p Y ep a y off) else none
  |_=>none
 |.binOp op t x y _=>match one st x,one st y with
  |.int k a,.int k' b =>
   match op with
   |.shl=>bif decide (b<0) then none else w1 (.int k (k.wrap (a*2 ^ (min b.toNat k.bits))))
   |.shr=>bif decide (b<0) then none else w1 (.int k (a.fdiv (2 ^ (min b.toNat k.bits))))
   |.quo=>bif decide (b=0) then none else bif decide (k=k') then w1 (.int k (k.wrap (a.tdiv b))) else none
   |.rem=>bif decide (b=0) then none else bif decide (k=k') then w1 (.int k (a.tmod b)) else none
   |.and=>bif decide (k=k') then w1 (.int k (k.wrap ((BitVec.ofInt k.bits a &&& BitVec.ofInt k.bits b).toNat))) else none
   |.xor=>bif decide (k=k') then w1 (.int k (k.wrap ((BitVec.ofInt k.bits a ^^^ BitVec.ofInt k.bits b).toNat))) else none
   |_=>bif decide (k=k') then (match sC op k a b with|some l=>w1 l|none=>none) else none
  |.bool a,.bool b=>match T t with
   |.bool=>match op with
    |.eql=>w1 (.bool (a==b))
    |.neq=>w1 (.bool (a != b))
    |_=>none
   |_=>none
  |.str a,.str b=>match op with
   |.eql=>w1 (.bool (a.toList==b.toList))
   |.neq=>w1 (.bool (a.toList != b.toList))
   |.add=>bif decide (a.size+b.size<=9223372036854775807) then w1 (.str (a++b)) else none
   |_=>none
  |_,_=>match T t with
   |.struct a _=>bif a.flat&&decide ((au st x).1=.agg)&&decide ((au st y).1=.agg) then
     match cO st a (au st x).2,cO st a (au st y).2 with
     |some (_,u),some (_,v)=>match op with
      |.eql=>w1 (.bool (a.eqv u v))
      |.neq=>w1 (.bool (!a.eqv u v))
      |_=>none
     |_,_=>none
    else none
   |_=>none
 |.unOp op _ x=>match op,one st x with
  |.not,.bool b=>w1 (.bool (!b))
  |.neg,.int k n=>w1 (.int k (k.wrap (0-n)))
  |_,_=>none
 |.convert s t x=>match T s,T t,one st x with
  |.int _,.int k,.int _ n=>w1 (.int k (k.wrap n))
  |.slice _ (.int .u8) _,.str,l=>match dh (.int .u8) (aD st l) with
   |some (_,z)=>w1 (.str (gN z))
   |none=>none
  |.str,.slice E (.int .u8) _,.str s=>bif BV E 5 then w1 (.own false none E (.int .u8) (eA s)) else none
  |_,_,_=>none
 |.makeSlice t n c=>match T t,one st n,one st c with
  |.slice E e X,.int _ a,.int _ b =>
   bif decide (0<=a)&&decide (a=b)&&decide (a*X<=an) then w1 (.own false none E e (CF a.toNat e.zero)) else none
  |_,_,_=>none
 |.slice t x lo hi mx=>match mx,o.dst with
  |none,some d=>match di st lo 0 with
   |none=>none
   |some i=>match T t,aD st (one st x) with
    |.str,.str s=>(match di st hi s.size with
     |some h=>bif decide (0<=i)&&decide (i<=h)&&decide (h<=(s.size:Int)) then O (ck st [] d .one [.str (s.extract i.toNat h.toNat)]) else none
     |none=>none)
    |.slice _ M _,.nal p Y ep _ E e z=>(match di st hi z.length with
     |some h=>bif decide (0<=i)&&decide (i<=h)&&decide (h<=(z.length:Int))&&BV M.cells e.cells then
       O (ck st [] d .one [.nal p Y ep none E e ((z.take h.toNat).drop i.toNat)]) else none
     |none=>none)
    |.slice _ M _,.ro p E e z=>(match di st hi z.length with
     |some h=>bif decide (0<=i)&&decide (i<=h)&&decide (h<=(z.length:Int))&&BV M.cells e.cells then
       O (ck st [] d .one [.ro p E e ((z.take h.toNat).drop i.toNat)]) else none
     |none=>none)
    |.slice _ M _,.own p none E e z=>(match di st hi z.length with
     |some h=>bif decide (0<=i)&&decide (i<=h)&&decide (h<=(z.length:Int))&&BV M.cells e.cells then
       (match one st x with
       |.al r j v=>O (ck st [] d .one [.nal p [(r,j,v)] (st EPO).ver none E e ((z.take h.toNat).drop i.toNat)])
       |_=>none) else none
     |none=>none)
    |_,_=>none
  |some m,some d=>match lo,T t,one st x with
   |none,.slice _ M _,.al r j v=>(match aD st (.al r j v) with
    |.own p none E e z=>(match di st hi z.length,di st (some m) 0 with
     |some h,some k=>bif hi.isSome&&decide (h=(z.length:Int))&&decide (k=(z.length:Int))&&BV M.cells e.cells then O (ck st (aM st [(r,j)]) d .one [.own p none E e z]) else none
     |_,_=>none)
    |_=>none)
   |_,_,_=>none
  |_,_=>none
 |.fieldAddr t x f=>match T t with
  |.struct _ I=>match I[f]? with
   |some (off,_,_)=>match one st x with
    |.rp p a y o'=>w1 (.rp p a y (o'+off))
    |.bp b o'=>w1 (.bp b (o'+off))
    |.ep r j v i sz o'=>bif BV (st r).ver v then w1 (.ep r j v i sz (o'+off)) else none
    |.np p Y ep a y o'=>bif br st Y ep then w1 (.np p Y ep a y (o'+off)) else none
    |_=>none
   |none=>none
  |_=>none
 |.field t x f=>match T t with
  |.struct a I=>match I[f]? with
   |some (off,n,agg)=>bif decide ((au st x).1=.agg)&&decide ((au st x).2.length=a.cells) then w (bk agg) (((au st x).2.drop off).take n) else none
   |none=>none
  |_=>none
 |.indexAddr t x i=>match one st i with
  |.int _ n=>match T t with
   |.arr e Z=>match one st x with
    |.bp b off=>bif decide (0<=n)&&decide (n<(Z:Int)) then w1 (.bp b (off+n.toNat*e.cells)) else none
    |_=>none
   |.slice _ e _=>match one st x with
    |.al r j v=>match aD st (.al r j v) with
     |.own _ _ _ M z=>bif BV M.cells e.cells then (idx z n).bind λ_=>w1 (.ep r j v n.toNat M.cells 0) else none
     |_=>none
    |.ro p _ M z=>bif BV M.cells e.cells then (idx z n).bind λy=>w1 (.rp p M y 0) else none
    |.nal p Y ep _ _ M z=>bif BV M.cells e.cells&&br st Y ep then (idx z n).bind λy=>w1 (.np p Y ep M y 0) else none
    |_=>none
   |_=>none
  |_=>none
 |.index t x i=>match one st i with
  |.int _ n=>match T t with
   |.str=>match one st x with
    |.str s=>(idx s.data.toList n).bind λy=>w1 (.int .u8 y.toNat)
    |_=>none
   |.arr e Z=>bif e.flat&&decide ((au st x).1=.agg)&&BV (au st x).2.length (Z*e.cells)&&!BV e.cells 0 then (match fC st e Z (au st x).2 with
     |some vs=>(idx vs n).bind λy=>w (bk e.isAgg) (cJ false e y)
     |none=>none) else none
   |_=>none
  |_=>none
 |.extract x i=>match au st x with
  |(.tup ps,ls)=>match ps[i]? with
   |some (agg,n)=>w (bk agg) ((ls.drop ((ps.take i).foldl (λa b=>a+b.2) 0)).take n)
   |none=>none
  |_=>none
 |.makeFunc (.func f) first J=>bif BV first.size 0 then
   match sD st J.toList with
   |some l=>w1 (.clo f l)
   |none=>none
  else none
 |.call c=>match o.dst with
  |none=>none
  |some d=>match c.callee with
   |.value f =>
    let z:=c.args.toList.map (au st)
    match one st f with
    |.clo g J=>js Γ st d g (z++J.map λb=>(.one,[.bp b 0])) O
    |.clr g J=>js Γ st d g (z++J.map λc=>(.one,[eR c])) O
    |.fn As B φ=>bif B.flat then match iQ st As z with
      |some x=>(φ x).bind λy=>w (bk B.isAgg) (aq false B y)
      |none=>none
     else none
    |_=>none
   |.builtin .len=>match c.args.toList with
    |[x]=>match c.argTypes.toList with
     |[t]=>match T t,aD st (one st x) with
      |.slice _ _ _,l=>(match gh l with
       |some n=>w1 (.int .i64 n)
       |none=>none)
      |.str,.str s=>w1 (.int .i64 s.size)
      |_,_=>none
     |_=>none
    |_=>none
   |.builtin .append=>match c.args.toList,c.argTypes.toList with
    |[x,y],[t,u]=>match T t with
     |.slice E e X=>bif BV t u then iB st d E e X (one st x) (one st y) O else none
     |_=>none
    |_,_=>none
   |.builtin .min=>match c.args.toList with
    |[x,y]=>match one st x,one st y with
     |.int k a,.int _ b=>w1 (.int k (bif decide (b<a) then b else a))
     |_,_=>none
    |_=>none
   |.builtin .max=>match c.args.toList with
    |[x,y]=>match one st x,one st y with
     |.int k a,.int _ b=>w1 (.int k (bif decide (a<b) then b else a))
     |_,_=>none
    |_=>none
   |_=>none
 |_=>none
def az:List Leaf->List Nat
 |[]=>[]
 |.al r _ _::u=>r::az u
 |.ep r _ _ _ _ _::u=>EPO::r::az u
 |.nal _ z _ _ _ _ _::u=>EPO::z.map (·.1)++az u
 |.np _ z _ _ _ _::u=>EPO::z.map (·.1)++az u
 |.bp b _::u=>b::az u
 |.clo _ y::u=>y++az u
 |_::u=>az u
def iC (xs:List Operand):List Nat :=
 match xs with
 |[]=>[]
 |.tmp t::xs=>t::iC xs
 |_::xs=>iC xs
def kE (st:St)(r:List Nat):List Nat :=
 let a:=r.flatMap λt=>az (st t).ls
 let b:=a.flatMap λt=>az (st t).ls
 let c:=b.flatMap λt=>az (st t).ls
 r++a++b++c
def cn (st:St)(u:Op):List Nat :=
 let r:=iC u.operands.toList
 match u with
 |.move _|.pick _ _ _|.build _ _|.field _ _ _|.extract _ _|.makeFunc _ _ _|.unOp _ _ _|.makeSlice _ _ _|.alloc _=>r
 |.slice _ _ _ _ _=>EPO::(r++r.flatMap λt=>ax (st t).ls)
 |.assign _|.box _ _|.buildSlice _ _ _|.indexAddr _ _ _|.nilCheck _|.fieldAddr _ _ _|.convert _ _ _|.binOp _ _ _ _ _|.index _ _ _=>r++r.flatMap λt=>ax (st t).ls
 |.load _ _|.store _ _ _=>r++r.flatMap λt=>az (st t).ls
 |.call c=>match c.callee with
  |.builtin _=>TMP::(r++r.flatMap λt=>ax (st t).ls)
  |_=>TMP::EPO::kE st r
 |_=>kE st r
def zK (o:Oper):List Nat:=match o.dst with
 |some d=>[d,B0+d]
 |none=>[]
def eX (st:St)(u:Op):List Nat :=
 let r:=iC u.operands.toList
 match u with
 |.move _=>r
 |.indexAddr _ _ _=>r++r.flatMap λt=>ax (st t).ls
 |_=>[]
def fp (st:St)(o:Oper):List Nat:=(match o.op with|.move _|.indexAddr _ _ _=>[]|op=>cn st op)++zK o
def d6 (st:St)(o:Oper):List Nat:=match o.op with
 |.store _ x _=>match one st x with
  |.ep r _ _ _ _ _=>[r]
  |_=>[]
 |_=>[]
structure cL where
 rd:List Nat
 hd:List Nat
 wr:List Nat
 cw:List Nat
def lV (a b:List Nat):Bool:=a.any λx=>b.any λy=>BV x y
def cL.apart (x y:cL):Bool:=!lV (x.wr++x.cw) (y.wr++y.cw)&&!lV (x.wr++x.cw) y.rd&&!lV x.rd (y.wr++y.cw)&&!lV x.wr y.hd&&!lV x.hd y.wr
def jK:List Oper->List Nat->List Nat
 |[],r=>r
 |o::u,r=>jK u (r++[o.after.toList.foldl (λs e=>bif Region.binds .any e then s ||| 2 ^ e.on ||| r.getD e.on 0 else s) 0])
def pJ (r:List Nat)(u:List cL):Bool :=
 (CO u.length).all λj=>(CO j).all λi =>
  (r.getD j 0).testBit i||(match u[i]?,u[j]? with
   |some x,some y=>x.apart y
   |_,_=>false)
def lit (st:St)(t:Nat)(b:Bool):St:=ac [(t,⟨(st t).ver,.one,[.bool b]⟩)] st
def eM (st:St)(o:Oper):Upd :=
 match o.dst with
 |some d=>[(d,⟨(st d).ver+1,.und,[]⟩)]
 |none=>[]
def opK (Γ:List Ctr)(T:TypeId->TI)(y:Array Oper)(o:Oper)(st:St)(H:St->cL->Option R):Option R :=
 let z (st:St) (r:List Nat):Option R:=act Γ T o st (λU=>H (ac U st) ⟨r++fp st o,eX st o.op,(U.map (·.1)).filter (λq=>!((d6 st o).any (BV q))),d6 st o⟩);let no (st:St) (r:List Nat):Option R:=H (ac (eM st o) st) ⟨r,[],o.dst.toList,[]⟩
 match o.guard with
 |none=>z st []
 |some (j,u)=>match (y[j]?).bind (·.dst) with
  |some t=>match (st t).sh,(st t).ls with
   |.one,[.bool b]=>bif b then (bif u then z (lit st t true) [t] else no (lit st t true) [t]) else (bif u then no (lit st t false) [t] else z (lit st t false) [t])
   |.und,_=>no st [t]
   |_,_=>none
  |none=>none
def qx (Γ:List Ctr)(T:TypeId->TI)(r:Array Oper):List Oper->St->List cL->(St->List cL->Option R)->Option R
 |[],z,I,H=>H z I
 |o::u,z,I,H=>opK Γ T r o z (λy t=>qx Γ T r u y (I++[t]) H)
def nT (ops:Array Oper):Bool:=(CO ops.size).all λi=>match ops[i]? with
 |some o=>o.after.toList.all λe=>!Region.binds .any e||decide (e.on<i)
 |none=>true
def regK (Γ:List Ctr)(T:TypeId->TI)(ops:Array Oper)(u:Bool)(st:St)(y:St->Option R):Option R :=
 bif u then
  qx Γ T ops ops.toList st [] (λr z=>bif nT ops&&pJ (jK ops.toList []) z then y r else none)
 else qx Γ T ops ops.toList st [] (λr _=>y r)
inductive Ex where
 |normal|exit (id:Nat)|ret
def qy (y:St->(Ex->St->Option R)->Option R)(u:Ex->St->Option R):Ex->St->Option R
 |.normal,r=>y r u
 |e,r=>u e r
def sE (id:Nat)(y:Ex->St->Option R):Ex->St->Option R
 |.exit r,u=>bif BV r id then y .normal u else y (.exit r) u
 |e,u=>y e u
def av (L:List (Nat×bU)):St:=λq=>ac L (λ_=>bU.none) q
inductive Coe where
 |keep|kill
 |own (p:Bool) (E:TypeId) (e:Ty)|ro (p:Bool) (E:TypeId) (e:Ty)|rp (p:Bool)
def bw (st:St)(live:List Nat):Coe->Leaf->Leaf
 |.kill,_=>.dead
 |.own p E e,.nil=>.own p none E e []
 |.own p _ _,.own q none E e y=>bif !q||p then .own p none E e y else .dead
 |.ro p E e,.nil=>.ro p E e []
 |.ro p E e,.ro q _ z y=>bif !q||p then (match castSh e z y with | some H=>.ro p E e H | none=>.dead) else .dead
 |.ro p E e,.own q none _ z y=>bif !q||p then (match castSh e z y with | some H=>.ro p E e H | none=>.dead) else .dead
 |.rp p,.rpp q a x=>bif !q||p then .rpp p a x else .dead
 |.rp p,.rp q a x off=>bif !q||p then .rp p a x off else .dead
 |.keep,.int k n=>.int k n
 |.keep,.bool b=>.bool b
 |.keep,.str s=>.str s
 |.keep,.nil=>.nil
 |.keep,.hdr n=>.hdr n
 |.keep,.fn M B J=>.fn M B J
 |.keep,.clr f I=>.clr f I
 |.keep,.bp b off=>bif live.any (BV b) then .bp b off else .dead
 |.keep,.clo f u=>bif u.all (λb=>live.any (BV b)) then .clo f u else .dead
 |.keep,.al r j v=>bif live.any (BV r)&&BV (st r).ver v then .al r j 0 else .dead
 |_,_=>.dead
def c7 (st:St)(live:List Nat):List Coe->List Leaf->List Leaf
 |c::u,l::r=>bw st live c l::c7 st live u r
 |[],_::r=>.dead::c7 st live [] r
 |_,[]=>[]
def lW (live:List (Nat×List Coe))(st:St):St:=av (live.map λr=>(r.1,⟨0,(st r.1).sh,c7 st (live.map (·.1)) r.2 (st r.1).ls⟩))
def gj (live:List (Nat×List Coe))(rec:St->Option R)(u:Ex->St->Option R):Ex->St->Option R
 |.normal,r=>rec (lW live r)
 |e,r=>u e r
def aU (live:List (Nat×List Coe))(u:St->(Ex->St->Option R)->Option R):Nat->St->(Ex->St->Option R)->Option R
 |0,_,_=>none
 |k+1,z,y=>u z (gj live (λr=>aU live u k r y) y)
def eT:Code->Nat
 |.region id _ _=>id+1
 |.seq a b=>match eT a with
  |0=>eT b
  |n=>n
 |.cond _ a b=>match eT a with
  |0=>eT b
  |n=>n
 |.block _ c=>eT c
 |.loop c=>eT c
 |.scope c=>eT c
 |_=>0
def lx (L:List (Nat×List (Nat×List Coe)))(k:Nat):List (Nat×List Coe):=match L with
 |[]=>[]
 |(n,l)::r=>bif BV n k then l else lx r k
def zL (st:St)(c:Operand)(r no:St->Option R):Option R :=
 match c with
 |.tmp t=>match (st t).sh,(st t).ls with
  |.one,[.bool b]=>bif b then r (lit st t true) else no (lit st t false)
  |_,_=>none
 |.const (.bool b)=>bif b then r st else no st
 |_=>none
def evK (Γ:List Ctr)(T:TypeId->TI)(L:List (Nat×List (Nat×List Coe)))(r:Nat):Code->St->(Ex->St->Option R)->Option R
 |.skip,u,z=>z .normal u
 |.region _ I H,u,z=>regK Γ T I H u (z .normal)
 |.seq a b,u,z=>evK Γ T L r a u (qy (evK Γ T L r b) z)
 |.cond c x y,u,z=>zL u c (λu=>evK Γ T L r x u z) (λu=>evK Γ T L r y u z)
 |.block id c,u,z=>evK Γ T L r c u (sE id z)
 |.loop c,u,z=>aU (lx L (eT c)) (evK Γ T L r c) r (lW (lx L (eT c)) u) z
 |.exit id,u,z=>z (.exit id) u
 |.ret,u,z=>z .ret u
 |_,_,_=>none
def sub:Code->List Nat->Code
 |.seq a _,0::p=>sub a p
 |.seq _ b,1::p=>sub b p
 |.cond _ x _,0::p=>sub x p
 |.cond _ _ y,1::p=>sub y p
 |.block _ c,0::p=>sub c p
 |.loop c,0::p=>sub c p
 |c,_=>c
def kAt (u:Code->St->(Ex->St->Option R)->Option R):Code->List Nat->(Ex->St->Option R)->Ex->St->Option R
 |.seq a b,0::p,r=>kAt u a p (qy (u b) r)
 |.seq _ b,1::p,r=>kAt u b p r
 |.cond _ x _,0::p,r=>kAt u x p r
 |.cond _ _ y,1::p,r=>kAt u y p r
 |.block id c,0::p,r=>kAt u c p (sE id r)
 |_,_,r=>r
def cD (fn:Func):Code:=match fn.body with
 |some c=>c
 |none=>.skip
def ae {A:Type}(step:(A->Option R)->A->Option R):Nat->A->Option R
 |0,_=>none
 |k+1,a=>step (ae step k) a
theorem kW {A:Type}(live:List (Nat×List Coe))(r:St->(Ex->St->Option R)->Option R)(u:Ex->St->Option R)(S:A->St)
  (step:(A->Option R)->A->Option R) (h:∀ (rec:St->Option R) (a:A),r (S a) (gj live rec u)=step (λa=>rec (S a)) a) :
  ∀ (k:Nat) (a:A),aU live r k (S a) u=ae step k a
 |0,_=>rfl
 |k+1,a=>by
  have y:=kW live r u S step h k;simp only[aU,ae];rw[h];exact congrArg (λg=>step g a) (funext y)
abbrev wr (k:IntKind)(n:Int):Int:=k.wrap n
def bC (k:IntKind)(a b:Int):Int:=k.wrap ((BitVec.ofInt k.bits a &&& BitVec.ofInt k.bits b).toNat)
def qz (k:IntKind)(a b:Int):Int:=k.wrap ((BitVec.ofInt k.bits a ^^^ BitVec.ofInt k.bits b).toNat)
def jV (p:Bool):(cs:List (Bool×Ty))->lR cs->List (Bool×Bool×(a:Ty)×a.den)
 |[],_=>[]
 |c::cs,x=>(p,c.1,⟨c.2,x.1⟩)::jV p cs x.2
def uU (i off:Nat):Leaf->Leaf
 |.own p _ E e r=>.own p (some (i,off)) E e r
 |l=>l
def dj (t:Nat):(ps:List PK)->ab ps->Upd
 |[],_=>[]
 |.rd a::ps,x=>(t,⟨0,bk a.isAgg,cJ true a x.1⟩)::dj (t+1) ps x.2
 |.own a::ps,x=>(t,⟨0,bk a.isAgg,aq true a x.1⟩)::dj (t+1) ps x.2
 |.io a::ps,x=>(t,⟨7,bk a.isAgg,aq true a x.1⟩)::dj (t+1) ps x.2
 |.rref a::ps,x=>(t,⟨0,.one,[.rp true a x.1 0]⟩)::dj (t+1) ps x.2
 |.rref2 a::ps,x=>(t,⟨0,.one,[.rpp true a x.1]⟩)::dj (t+1) ps x.2
 |.iop a::ps,x=>(t,⟨0,.one,[.bp (B0+t) 0]⟩)::(B0+t,⟨0,.agg,aq true a x.1⟩)::dj (t+1) ps x.2
 |.fn u B::ps,x=>(t,⟨0,.one,[.fn u B x.1]⟩)::dj (t+1) ps x.2
 |.clo f r::ps,x=>(t,⟨0,.one,[.clr f (jV true r x.1)]⟩)::dj (t+1) ps x.2
 |.hol a c off::ps,x=>(t,⟨0,bk a.isAgg,aT (aq true a x.1.1) c (uU x.1.2 off ((aq true a x.1.1).getD c .dead))⟩)::dj (t+1) ps x.2
def ij (st:St)(t:Nat):(ps:List PK)->Option (cK (ah ps))
 |[]=>some ⟨false,(),[],[],[]⟩
 |.io a::ps=>match (bif decide ((au st (.tmp t)).1=bk a.isAgg) then ch st a (au st (.tmp t)).2 else none),ij st (t+1) ps with
  |some x,some y=>some ⟨x.p||y.p,(x.val,y.val),x.frz++y.frz,x.kill++y.kill,[]⟩
  |_,_=>none
 |.iop a::ps=>match ch st a (bG (B0+t) (st (B0+t)).ver 0 (st (B0+t)).ls),ij st (t+1) ps with
  |some x,some y=>some ⟨x.p||y.p,(x.val,y.val),x.frz++y.frz,x.kill++y.kill,[]⟩
  |_,_=>none
 |.rd _::ps=>ij st (t+1) ps
 |.own _::ps=>ij st (t+1) ps
 |.rref _::ps=>ij st (t+1) ps
 |.rref2 _::ps=>ij st (t+1) ps
 |.fn _ _::ps=>ij st (t+1) ps
 |.clo _ _::ps=>ij st (t+1) ps
 |.hol _ _ _::ps=>ij st (t+1) ps
def vJ (st:St)(T:TypeId->TI):ResultVar->List Leaf
 |.tmp t=>(au st (.tmp t)).2
 |.cell t r=>match one st (.tmp t) with
  |.bp b off=>((bG b (st b).ver 0 (st b).ls).drop off).take (T r).cells
  |_=>[]
def pK (st:St)(T:TypeId->TI):ResultVar->aG
 |.tmp t=>(au st (.tmp t)).1
 |.cell t r=>match one st (.tmp t) with
  |.bp b off=>bif decide ((st b).sh=.agg)&&CT (off+(T r).cells) (st b).ls.length&&!BV (T r).cells 0 then bk (T r).agg else .off
  |_=>.off
def RK.sh:RK->aG
 |.v a=>bk a.isAgg
 |.bv a=>bk a.isAgg
 |.box _=>.one
def bH (t:Nat):List PK->List Nat
 |[]=>[]
 |.iop _::r=>(B0+t)::bH (t+1) r
 |_::r=>bH (t+1) r
def gr (t:Nat):List PK->List Nat
 |[]=>[]
 |.io _::r=>t::gr (t+1) r
 |.iop _::r=>t::gr (t+1) r
 |_::r=>gr (t+1) r
def sm (st:St)(z:List Nat):(r:RK)->List Leaf->Option (cK r.den)
 |.v a,u=>ch st a u
 |.bv a,u=>(cO st a u).map λy=>⟨false,y.2,bz st u,[],[]⟩
 |.box a,u=>match u with
  |[.bp b 0]=>bif !(z.any (BV b)) then ch st a (bG b (st b).ver 0 (st b).ls) else none
  |_=>none
def kl (st:St)(T:TypeId->TI)(H:List Nat):(u:List RK)->List ResultVar->Option (cK (ai u))
 |[],[]=>some ⟨false,(),[],[],[]⟩
 |r::u,x::I=>bif decide (pK st T x=r.sh) then match sm st H r (vJ st T x),kl st T H u I with
  |some y,some z=>some ⟨y.p||z.p,(y.val,z.val),y.frz++z.frz,y.kill++z.kill,[]⟩
  |_,_=>none else none
 |_,_=>none
def finR (T:TypeId->TI)(ps:List PK)(z:List RK)(r:Bool)(u:List ResultVar)(st:St):Option (ai z×ah ps) :=
 match kl st T (bH 0 ps) z u,ij st 0 ps with
 |some y,some o=>bif a8 (y.kill++o.kill)&&dE (y.frz++o.frz) (y.kill++o.kill)&&(!r||!(y.p||o.p)) then some (y.val,o.val) else none
 |_,_=>none
def cZ (T:TypeId->TI)(ps:List PK)(y:List RK)(r:Bool)(u:List ResultVar):Ex->St->Option (ai y×ah ps)
 |.exit _,_=>none
 |_,z=>finR T ps y r u z
def ly (nt:Nat)(fix:List Nat)(r:Array Oper)(o:Oper):Bool :=
 (match o.dst with
  |some d=>CP d nt&&!(fix.any (BV d))
  |none=>true) &&
 (match o.guard with
  |some (j,_)=>match (r[j]?).bind (·.dst) with
   |some s=>CP s nt
   |none=>true
  |none=>true)
def xb (nt:Nat):Operand->Bool
 |.tmp t=>CP t nt
 |_=>true
def dQ (nt:Nat)(fix:List Nat):Code->Bool
 |.region _ r _=>r.toList.all (ly nt fix r)
 |.seq a b=>dQ nt fix a&&dQ nt fix b
 |.cond c a b=>xb nt c&&dQ nt fix a&&dQ nt fix b
 |.block _ c=>dQ nt fix c
 |.loop c=>dQ nt fix c
 |_=>true
def qA:List RK->Bool
 |[.box _]=>true
 |rs=>rs.all RK.isV
def dp (L:List (Nat×List (Nat×List Coe)))(u:List Nat):Code->Bool
 |.seq a b=>dp L u a&&dp L u b
 |.cond _ a b=>dp L u a&&dp L u b
 |.block _ c=>dp L u c
 |.loop c=>(u.all λb=>(lx L (eT c)).any λr=>BV r.1 b)&&dp L u c
 |_=>true
def evF (Γ:List Ctr)(T:TypeId->TI)(L:List (Nat×List (Nat×List Coe)))(u:Nat)(fn:Func)(ps:List PK)(y:List RK)(r:Bool)(x:ab ps):Option (ai y×ah ps) :=
 match fn.body with
 |some c=>bif dQ fn.ntmps (gr 0 ps) c&&CT ps.length fn.ntmps&&CT fn.ntmps GH&&qA y&&dp L (bH 0 ps) c then
  evK Γ T L u c (av (dj 0 ps x)) (cZ T ps y r fn.results.toList) else none
 |none=>none
end
def fP (e:Ty)(r:Nat)(xs:List e.den):Option ((List e.den×Unit)×Unit):=bif decide ((0+xs.length)*r<=an) then some ((xs,()),()) else none
theorem lX (e:Ty)(r:Nat):fP e r []=some (([],()),()):=by
 unfold fP;simp[an]
def lY:Code->Nat->Oper
 |.region _ r _,i=>(r[i]?).getD ⟨none,.move (.tmp 0),0,"",#[],none⟩
 |_,_=>⟨none,.move (.tmp 0),0,"",#[],none⟩
def fU (e:Ty)(r:Nat)(xs:List e.den)(i:Int)(u:List e.den):Option ((List e.den×Unit)×Unit) :=
 if 0<=i/\i<=(xs.length:Int)/\0<u.length/\(xs.length+u.length)*r<=an then some ((xs.take i.toNat++u++xs.drop i.toNat,()),()) else none
def lZ {α:Type}(u:α×Unit->Option Bool):List α->Option (List α)
 |[]=>some []
 |x::y=>(u (x,())).bind λb=>(lZ u y).map λr=>bif b then r else x::r
def gO (e:Ty)(xs:List e.den)(u:e.den×Unit->Option Bool):Option ((List e.den×Unit)×Unit):=if xs.length<=1048576 then (lZ u xs).map λr=>((r,()),()) else none
abbrev Ty.hd:Ty->Ty
 |.pair a b=>.pair a.hd b.hd
 |.list _ _ _=>.hdr
 |a=>a
abbrev hdD:(a:Ty)->a.den->a.hd.den
 |.pair a b,x=>(hdD a x.1,hdD b x.2)
 |.list _ _ e,r=>List.length (α:=e.den) r
 |.int _,x=>x
 |.bool,x=>x
 |.str,x=>x
 |.unit,x=>x
 |.hdr,x=>x
noncomputable def zY (e:Ty)(r:Nat)(xs:List e.den):Option ((List e.hd.den×Unit)×Unit):=(fP e r xs).map λy=>((y.1.1.map (hdD e),()),())
def insI (n:Int):List Int->List Int
 |[]=>[n]
 |m::r=>if n<=m then n::m::r else m::insI n r
def zM:List Int->List Int
 |[]=>[]
 |n::r=>insI n (zM r)
def medianM (xs:List Int):Option ((Int×Unit)×Unit) :=
 let l:=zM (xs.drop (xs.length-3))
 some ((l.getD ((l.length-1) / 2) 0,()),())
def aX {R:Type}(x y:ByteArray)(k:ByteArray->Option R):Option R:=bif decide (x.size+y.size<=9223372036854775807) then k (x++y) else none
open Go.RowKit
def cW (w:World)(g off:Nat)(cs:List Value):Prop:=∀ i v,cs[i]?=some v->w.cell? ⟨g,off+i,none⟩=some v
theorem cW.same {w w':World}{g off:Nat}{cs:List Value}(h:cW w g off cs)(u:w'.heap[g]?=w.heap[g]?):cW w' g off cs:=by
 intro i v r;have:=h i v r;simpa[C0,u]using this
def Rd (w:World)(G:Nat->Prop):(a:Ty)->a.den->List Value->Prop
 |.int k,n,r=>r=[.int k n]
 |.bool,b,r=>r=[.bool b]
 |.str,s,r=>r=[.string s]
 |.unit,_,r=>r=[]
 |.hdr,n,r=>∃ A u,r=[.slice A n u]
 |.pair a b,x,r=>∃ z H,r=z++H/\Rd w G a x.1 z/\Rd w G b x.2 H
 |.list _ _ e,y,r=>∃ A u,r=[.slice A y.length u]/\y.length<=u /\
  (0<y.length->∃ g o,A=some ⟨g,o,none⟩/\G g/\∀ j (x:e.den),y[j]?=some x->∃ c,Rd w G e x c/\cW w g (o+j*e.cells) c)
theorem Rd.carry {w w':World}{G G':Nat->Prop}(u:∀ k,G k->G' k)(r:∀ k,G k->w'.heap[k]?=w.heap[k]?) :
  ∀ {a:Ty} {x:a.den} {cs:List Value},Rd w G a x cs->Rd w' G' a x cs
 |.int _,_,_,h=>h
 |.bool,_,_,h=>h
 |.str,_,_,h=>h
 |.unit,_,_,h=>h
 |.hdr,_,_,h=>h
 |.pair _ _,_,_,⟨M,R,e,X,I⟩=>⟨M,R,e,Rd.carry u r X,Rd.carry u r I⟩
 |.list _ _ _,_,_,⟨A,z,e,hc,h⟩=>⟨A,z,e,hc,λY=>by
   obtain⟨g,o,hA,H,Z⟩:=h Y;exact⟨g,o,hA,u g H,λj x J=>by
    obtain⟨c,O,y⟩:=Z j x J;exact⟨c,Rd.carry u r O,y.same (r g H)⟩⟩⟩
theorem Rd.mono {w:World}{G G':Nat->Prop}(r:∀ k,G k->G' k){a:Ty}{x:a.den}{cs:List Value}(h:Rd w G a x cs):Rd w G' a x cs :=
 Rd.carry r (λ_ _=>rfl) h
theorem Rd.len {w:World}{G:Nat->Prop}:∀ {a:Ty} {x:a.den} {cs:List Value},Rd w G a x cs->cs.length=a.cells
 |.int _,_,_,h=>by rw[show _=_ from h];rfl
 |.bool,_,_,h=>by rw[show _=_ from h];rfl
 |.str,_,_,h=>by rw[show _=_ from h];rfl
 |.unit,_,_,h=>by rw[show _=_ from h];rfl
 |.hdr,_,_,⟨A,r,e⟩=>by rw[e];rfl
 |.pair _ _,_,_,⟨H,z,e,y,u⟩=>by rw[e,Ci,Rd.len y,Rd.len u];rfl
 |.list _ _ _,_,_,⟨A,r,e,_,_⟩=>by rw[e];rfl
theorem Rd.one {w:World}{G:Nat->Prop}:∀ {a:Ty} {x:a.den} {cs:List Value},Rd w G a x cs->∀ v∈cs,v.oneCell'=true
 |.int _,_,_,h=>by rw[show _=_ from h];simp[B8]
 |.bool,_,_,h=>by rw[show _=_ from h];simp[B8]
 |.str,_,_,h=>by rw[show _=_ from h];simp[B8]
 |.unit,_,_,h=>by rw[show _=_ from h];simp
 |.hdr,_,_,⟨A,u,e⟩=>by rw[e];simp[B8]
 |.pair _ _,_,_,⟨I,H,e,z,y⟩=>by
  rw[e];intro v r;rcases CB.1 r with r|r
  ·exact Rd.one z v r
  ·exact Rd.one y v r
 |.list _ _ _,_,_,⟨A,u,e,_,_⟩=>by rw[e];simp[B8]
theorem Rd.flat {w w':World}{G G':Nat->Prop}:∀ {a:Ty} {x:a.den} {cs:List Value},a.flat=true->Rd w G a x cs->Rd w' G' a x cs
 |.int _,_,_,_,h=>h
 |.bool,_,_,_,h=>h
 |.str,_,_,_,h=>h
 |.unit,_,_,_,h=>h
 |.hdr,_,_,_,h=>h
 |.pair _ _,_,_,r,⟨z,u,e,H,y⟩=>by
  simp only[Ty.flat,BY]at r;exact⟨z,u,e,Rd.flat r.1 H,Rd.flat r.2 y⟩
theorem ik:∀ {a b:Ty},a.sh=b.sh->a.cells=b.cells
 |.pair a b,.pair c d,h=>by
  simp only[Ty.sh,Ty.pair.injEq]at h;simp only[Ty.cells,ik h.1,ik h.2]
 |.int _,.int _,_|.int _,.bool,_|.int _,.str,_|.int _,.hdr,_|.int _,.list _ _ _,_=>rfl
 |.bool,.int _,_|.bool,.bool,_|.bool,.str,_|.bool,.hdr,_|.bool,.list _ _ _,_=>rfl
 |.str,.int _,_|.str,.bool,_|.str,.str,_|.str,.hdr,_|.str,.list _ _ _,_=>rfl
 |.hdr,.int _,_|.hdr,.bool,_|.hdr,.str,_|.hdr,.hdr,_|.hdr,.list _ _ _,_=>rfl
 |.list _ _ _,.int _,_|.list _ _ _,.bool,_|.list _ _ _,.str,_|.list _ _ _,.hdr,_|.list _ _ _,.list _ _ _,_=>rfl
 |.unit,.unit,_=>rfl
theorem sG {A u B r:Type}(H:A=u)(z:B=r){x:A×B}{y:u×r}(h:HEq x y):HEq x.1 y.1/\HEq x.2 y.2:=by
 subst H;subst z;cases h;exact⟨HEq.rfl,HEq.rfl⟩
theorem sH {A u:Type}(H:A=u){xs:List A}{r:List u}(h:HEq xs r):xs.length=r.length/\∀ (j:Nat) (y:u),r[j]?=some y->∃ x:A,xs[j]?=some x/\HEq x y:=by
 subst H;cases h;exact⟨rfl,λj y z=>⟨y,z,HEq.rfl⟩⟩
theorem Rd.flags {w:World}{G:Nat->Prop}:∀ {a b:Ty} {x:a.den} {y:b.den} {cs:List Value},a.sh=b.sh->HEq x y->Rd w G a x cs->Rd w G b y cs
 |.pair a b,.pair c d,x,y,cs,h,r,⟨O,R,e,u,H⟩=>by
  simp only[Ty.sh,Ty.pair.injEq]at h;obtain⟨I,z⟩:=sG (jz h.1) (jz h.2) r;exact⟨O,R,e,Rd.flags h.1 I u,Rd.flags h.2 z H⟩
 |.list _ _ e,.list _ _ e',xs,ys,cs,h,r,⟨A,J,u,H,I⟩=>by
  simp only[Ty.sh,Ty.list.injEq,true_and]at h;obtain⟨z,h5⟩:=sH (jz h.2) r;refine⟨A,J,by rw[<- z];exact u,by rw[<- z];exact H,λhp=>?_⟩;obtain⟨g,o,hA,Z,hx⟩:=I (by rw[z];exact hp);refine⟨g,o,hA,Z,λj y M=>?_⟩;obtain⟨x,X,h7⟩:=h5 j y M;obtain⟨c,Y,h9⟩:=hx j x X;rw[<- ik h.2];exact⟨c,Rd.flags h.2 h7 Y,h9⟩
 |.int k,.int k',x,y,cs,h,r,u=>by
  simp only[Ty.sh]at h
  grind
 |.bool,.bool,x,y,cs,h,r,u=>by cases r;exact u
 |.str,.str,x,y,cs,h,r,u=>by cases r;exact u
 |.unit,.unit,x,y,cs,h,r,u=>u
 |.hdr,.hdr,x,y,cs,h,r,u=>by cases r;exact u
def Row (w:World)(E:TypeId)(s:Nat)(v:Value)(n:Nat)(flat:List Value):Prop :=
 flat.length=n*s/\((v=.slice none 0 0/\n=0) \/
  ∃ g u r mk,v=.slice (some ⟨g,0,none⟩) n u/\w.heap[g]?=some (.cells r E mk)/\n<=u/\(mk=(0,0)/\u<=maxLen\/E=5/\r.size<=mk.1)/\u*s<=r.size/\r.toList.take (n*s)=flat)
theorem Row.of {w:World}{b:Nat}{E:TypeId}{s n:Nat}{v:Value}{flat:List Value}(h:w.ownsRow b E s v n flat):Row w E s v n flat:=by
 refine⟨h.1,h.2.imp id ?_⟩
 grind
theorem Row.same {w w':World}{E:TypeId}{s n:Nat}{v:Value}{flat:List Value}(h:Row w E s v n flat)(z:∀ k∈v.ownBlock.toList,w'.heap[k]?=w.heap[k]?):Row w' E s v n flat:=by
 refine⟨h.1,?_⟩;rcases h.2 with I|⟨g,y,u,mk,rfl,H,r⟩
 ·grind
 ·exact .inr ⟨g,y,u,mk,rfl,by rw[z g (by simp[CM])];exact H,r⟩
theorem Row.lt {w:World}{E:TypeId}{s n:Nat}{v:Value}{flat:List Value}(h:Row w E s v n flat):∀ k∈v.ownBlock.toList,k<w.heap.size:=by
 intro k r;rcases h.2 with ⟨rfl,_⟩|⟨g,y,u,_,rfl,z,_⟩
 ·simp[CM]at r
 ·simp[CM]at r
  grind
theorem Row.slice {w:World}{E:TypeId}{s n:Nat}{v:Value}{flat:List Value}(h:Row w E s v n flat):∃ A r,v=.slice A n r/\n<=r:=by
 rcases h.2 with ⟨rfl,z⟩|⟨g,r,u,_,rfl,_,y,_⟩
 ·grind
 ·grind
theorem Row.nil (w:World)(E:TypeId)(s:Nat):Row w E s (.slice none 0 0) 0 []:=⟨by simp,.inl ⟨rfl,rfl⟩⟩
theorem Row.cellAt {w:World}{E:TypeId}{s n g y:Nat}{flat:List Value}(h:Row w E s (.slice (some ⟨g,0,none⟩) n y) n flat)(j:Nat)(I:j<n*s):w.cell? ⟨g,j,none⟩=flat[j]?:=by
 rcases h.2 with ⟨z,_⟩|⟨M,H,u,mk,z,J,_,_,_,r⟩
 ·grind
 ·simp at z;obtain⟨rfl,rfl⟩:=z;rw[cell_of_row w g j u E mk J,<- r,CD,if_pos I];simp
theorem zN {mk:Nat×Nat}{E z c:Nat}(h:mk=(0,0)/\c<=maxLen\/E=5/\z<=mk.1):mk.2=0\/z<=mk.1:=h.imp (λh=>by rw[h.1]) (·.2)
theorem rg {w:World}{g j:Nat}{cs:Array Value}{E:TypeId}{mk:Nat×Nat}(r:w.heap[g]?=some (.cells cs E mk))(u:mk.2=0\/cs.size<=mk.1)(y:j<cs.size):w.frozen? ⟨g,j,none⟩=false:=by
 simp only[World.frozen?,r,Bool.and_eq_false_iff,decide_eq_false_iff_not];omega
def Mx (w:World)(G:Nat->Prop):(a:Ty)->Option Nat->Nat->a.den->List Value->List Nat->Prop
 |.int k,_,_,n,y,r=>y=[.int k n]/\r=[]
 |.bool,_,_,b,y,r=>y=[.bool b]/\r=[]
 |.str,_,_,s,y,r=>y=[.string s]/\r=[]
 |.unit,_,_,_,y,r=>y=[]/\r=[]
 |.hdr,_,_,n,y,r=>(∃ A J,y=[.slice A n J])/\r=[]
 |.pair a b,h,pos,x,y,r=>∃ M R X O,y=M++R/\r=X++O/\Mx w G a h pos x.1 M X/\Mx w G b h (pos+a.cells) x.2 R O
 |.list m E e,h,pos,I,y,r=>∃ v,y=[v]/\v.oneCell'=true /\
  (if m=true then (if h=some pos then r=[] else ∃ z H,Row w E e.cells v I.length z/\r=v.ownBlock.toList++(CO I.length).flatMap H /\
    ∀ j (x:e.den),I[j]?=some x->∃ c,Mx w G e none 0 x c (H j)/\∀ i u,c[i]?=some u->z[j*e.cells+i]?=some u)
   else r=[]/\Rd w G (.list m E e) I [v])
def OwB (w:World)(G:Nat->Prop)(h:Option (Nat×Nat))(E:TypeId)(e:Ty)(xs:List e.den)(v:Value)(bs:List Nat):Prop :=
 ∃ r y,Row w E e.cells v xs.length r/\bs=v.ownBlock.toList++(CO xs.length).flatMap y /\
  ∀ j (x:e.den),xs[j]?=some x->∃ c,Mx w G e (cP h j) 0 x c (y j)/\∀ i u,c[i]?=some u->r[j*e.cells+i]?=some u
def OwH (w:World)(G:Nat->Prop)(h:Option (Nat×Nat))(E:TypeId)(e:Ty)(xs:List e.den)(v:Value)(bs:List Nat):Prop:=bs.Nodup/\OwB w G h E e xs v bs
abbrev Ow (w:World)(G:Nat->Prop)(E:TypeId)(e:Ty)(xs:List e.den)(v:Value)(bs:List Nat):Prop:=OwH w G none E e xs v bs
theorem OwB.one {w:World}{G:Nat->Prop}{h:Option (Nat×Nat)}{E:TypeId}{e:Ty}{xs:List e.den}{v:Value}{bs:List Nat}(H:OwB w G h E e xs v bs):v.oneCell'=true:=by
 obtain⟨r,u,z,_⟩:=H;obtain⟨A,y,rfl,_⟩:=z.slice;rfl
theorem bJ {w:World}{G:Nat->Prop}{h:Option Nat}{E:TypeId}{e:Ty}{pos:Nat}{xs:List e.den}{cs:List Value}{bs:List Nat}(r:h≠some pos) :
  Mx w G (.list true E e) h pos xs cs bs<->∃ v,cs=[v]/\OwB w G none E e xs v bs:=by
 simp only[Mx,if_neg r];constructor
 ·rintro⟨v,h1,h2,h3⟩;exact⟨v,h1,h3⟩
 ·rintro⟨v,h1,h3⟩;exact⟨v,h1,h3.one,h3⟩
theorem jd {w:World}{G:Nat->Prop}{E:TypeId}{e:Ty}{pos:Nat}{xs:List e.den}{cs:List Value}{bs:List Nat} :
  Mx w G (.list true E e) (some pos) pos xs cs bs<->∃ v,cs=[v]/\v.oneCell'=true/\bs=[]:=by
 simp only[Mx,if_true]
theorem co {w:World}{G:Nat->Prop}{h:Option Nat}{E:TypeId}{e:Ty}{pos:Nat}{xs:List e.den}{cs:List Value}{bs:List Nat} :
  Mx w G (.list false E e) h pos xs cs bs<->bs=[]/\Rd w G (.list false E e) xs cs:=by
 simp only[Mx];constructor
 ·grind
 ·rintro⟨h1,h2⟩;obtain⟨A,r,y,u⟩:=h2;exact⟨_,y,rfl,h1,A,r,rfl,u⟩
theorem dX {n:Nat}{r:Nat->List Nat}{k:Nat}:k∈(CO n).flatMap r<->∃ j,j<n/\k∈r j:=by simp
theorem Mx.carry {w w':World}{G G':Nat->Prop}(J:∀ k,G k->G' k)(I:∀ k,G k->w'.heap[k]?=w.heap[k]?) :
  ∀ {a:Ty} {h:Option Nat} {pos:Nat} {x:a.den} {cs:List Value} {bs:List Nat},(∀ k∈bs,w'.heap[k]?=w.heap[k]?)->Mx w G a h pos x cs bs->Mx w' G' a h pos x cs bs
 |.int _,_,_,_,_,_,_,h=>h
 |.bool,_,_,_,_,_,_,h=>h
 |.str,_,_,_,_,_,_,h=>h
 |.unit,_,_,_,_,_,_,h=>h
 |.hdr,_,_,_,_,_,_,h=>h
 |.pair _ _,_,_,_,_,_,y,⟨c1,c2,b1,b2,O,M,R,u⟩=>⟨c1,c2,b1,b2,O,M,Mx.carry J I (λk r=>y k (by rw[M];exact B4 _ r)) R,Mx.carry J I (λk r=>y k (by rw[M];exact B3 _ r)) u⟩
 |.list m E e,h,pos,xs,cs,bs,y,H=>by
  cases m with
  |false =>
   rw[co]at H ⊢;exact⟨H.1,H.2.carry J I⟩
  |true =>
   by_cases Z:h=some pos
   ·subst Z;rw[jd]at H ⊢;exact H
   ·rw[bJ Z]at H ⊢;obtain⟨v,O,z,X,R,u,h3⟩:=H;refine⟨v,O,z,X,R.same (λk r=>y k (by rw[u];exact B4 _ r)),u,λj x Y=>?_⟩;obtain⟨c,h4,h5⟩:=h3 j x Y;refine⟨c,?_,h5⟩;exact Mx.carry J I (λk r=>y k (by rw[u];exact B3 _ (dX.2 ⟨j,(BX.1 Y).1,r⟩))) h4
theorem Mx.mono {w:World}{G G':Nat->Prop}(r:∀ k,G k->G' k){a:Ty}{h:Option Nat}{pos:Nat}{x:a.den}{cs:List Value}{bs:List Nat}(H:Mx w G a h pos x cs bs):Mx w G' a h pos x cs bs :=
 Mx.carry r (λ_ _=>rfl) (λ_ _=>rfl) H
theorem OwB.carry {w w':World}{G G':Nat->Prop}{h:Option (Nat×Nat)}{E:TypeId}{e:Ty}{xs:List e.den}{v:Value}{bs:List Nat}(H:OwB w G h E e xs v bs)
  (Y:∀ k,G k->G' k) (X:∀ k,G k->w'.heap[k]?=w.heap[k]?) (J:∀ k∈bs,w'.heap[k]?=w.heap[k]?):OwB w' G' h E e xs v bs:=by
 obtain⟨r,z,O,u,M⟩:=H;refine⟨r,z,O.same (λk y=>J k (by rw[u];exact B4 _ y)),u,λj x I=>?_⟩;obtain⟨c,R,Z⟩:=M j x I;exact⟨c,Mx.carry Y X (λk y=>J k (by rw[u];exact B3 _ (dX.2 ⟨j,(BX.1 I).1,y⟩))) R,Z⟩
theorem OwH.carry {w w':World}{G G':Nat->Prop}{h:Option (Nat×Nat)}{E:TypeId}{e:Ty}{xs:List e.den}{v:Value}{bs:List Nat}(H:OwH w G h E e xs v bs)
 (r:∀ k,G k->G' k) (y:∀ k,G k->w'.heap[k]?=w.heap[k]?) (u:∀ k∈bs,w'.heap[k]?=w.heap[k]?):OwH w' G' h E e xs v bs:=⟨H.1,H.2.carry r y u⟩
theorem Mx.len {w:World}{G:Nat->Prop}:∀ {a:Ty} {h:Option Nat} {pos:Nat} {x:a.den} {cs:List Value} {bs:List Nat},Mx w G a h pos x cs bs->cs.length=a.cells
 |.int _,_,_,_,_,_,h=>by rw[h.1];rfl
 |.bool,_,_,_,_,_,h=>by rw[h.1];rfl
 |.str,_,_,_,_,_,h=>by rw[h.1];rfl
 |.unit,_,_,_,_,_,h=>by rw[h.1];rfl
 |.hdr,_,_,_,_,_,⟨⟨A,z,e⟩,_⟩=>by rw[e];rfl
 |.pair _ _,_,_,_,_,_,⟨I,M,O,J,r,H,y,u⟩=>by rw[r,Ci,y.len,u.len];rfl
 |.list _ _ _,_,_,_,_,_,⟨v,e,_⟩=>by rw[e];rfl
theorem Mx.one {w:World}{G:Nat->Prop}:∀ {a:Ty} {h:Option Nat} {pos:Nat} {x:a.den} {cs:List Value} {bs:List Nat},Mx w G a h pos x cs bs->∀ v∈cs,v.oneCell'=true
 |.int _,_,_,_,_,_,h=>by rw[h.1];simp[B8]
 |.bool,_,_,_,_,_,h=>by rw[h.1];simp[B8]
 |.str,_,_,_,_,_,h=>by rw[h.1];simp[B8]
 |.unit,_,_,_,_,_,h=>by rw[h.1];simp
 |.hdr,_,_,_,_,_,⟨⟨A,H,e⟩,_⟩=>by rw[e];simp[B8]
 |.pair _ _,_,_,_,_,_,⟨J,O,R,M,y,I,u,z⟩=>by
  rw[y];intro v r;rcases CB.1 r with r|r
  ·exact u.one v r
  ·exact z.one v r
 |.list _ _ _,_,_,_,_,_,⟨v,e,u,_⟩=>by rw[e];simpa using u
theorem Mx.lt {w:World}{G:Nat->Prop}:∀ {a:Ty} {h:Option Nat} {pos:Nat} {x:a.den} {cs:List Value} {bs:List Nat},Mx w G a h pos x cs bs->∀ k∈bs,k<w.heap.size
 |.int _,_,_,_,_,_,h=>by rw[h.2];simp
 |.bool,_,_,_,_,_,h=>by rw[h.2];simp
 |.str,_,_,_,_,_,h=>by rw[h.2];simp
 |.unit,_,_,_,_,_,h=>by rw[h.2];simp
 |.hdr,_,_,_,_,_,h=>by rw[h.2];simp
 |.pair _ _,_,_,_,_,_,⟨Z,c2,b1,b2,M,J,y,u⟩=>by
  rw[J];intro k r;rcases CB.1 r with r|r
  ·exact y.lt k r
  ·exact u.lt k r
 |.list m E e,h,pos,xs,cs,bs,H=>by
  cases m with
  |false=>rw[co]at H;rw[H.1];simp
  |true =>
   by_cases z:h=some pos
   ·subst z;rw[jd]at H
    grind
   ·rw[bJ z]at H;obtain⟨v,M,I,Y,y,u,R⟩:=H;rw[u];intro k r;rcases CB.1 r with r|r
    ·exact y.lt k r
    ·obtain⟨j,O,r⟩:=dX.1 r;obtain⟨c,X,_⟩:=R j _ (BZ O);exact X.lt k r
theorem OwB.lt {w:World}{G:Nat->Prop}{h:Option (Nat×Nat)}{E:TypeId}{e:Ty}{xs:List e.den}{v:Value}{bs:List Nat}(H:OwB w G h E e xs v bs):∀ k∈bs,k<w.heap.size:=by
 obtain⟨u,O,J,y,I⟩:=H;rw[y];intro k r;rcases CB.1 r with r|r
 ·exact J.lt k r
 ·obtain⟨j,z,r⟩:=dX.1 r;obtain⟨c,M,_⟩:=I j _ (BZ z);exact M.lt k r
theorem OwH.lt {w:World}{G:Nat->Prop}{h:Option (Nat×Nat)}{E:TypeId}{e:Ty}{xs:List e.den}{v:Value}{bs:List Nat}(H:OwH w G h E e xs v bs):∀ k∈bs,k<w.heap.size:=H.2.lt
theorem OwH.nodup {w:World}{G:Nat->Prop}{h:Option (Nat×Nat)}{E:TypeId}{e:Ty}{xs:List e.den}{v:Value}{bs:List Nat}(H:OwH w G h E e xs v bs):bs.Nodup:=H.1
theorem OwH.slice {w:World}{G:Nat->Prop}{h:Option (Nat×Nat)}{E:TypeId}{e:Ty}{xs:List e.den}{v:Value}{bs:List Nat}(H:OwH w G h E e xs v bs) :
  ∃ A r,v=.slice A xs.length r/\xs.length<=r:=by
 obtain⟨_,u,y,z,_⟩:=H;exact z.slice
theorem OwH.one {w:World}{G:Nat->Prop}{h:Option (Nat×Nat)}{E:TypeId}{e:Ty}{xs:List e.den}{v:Value}{bs:List Nat}(H:OwH w G h E e xs v bs):v.oneCell'=true:=H.2.one
theorem sI {w:World}{m:Bool}{E E':TypeId}{e:Ty}{xs:List e.den}{v:Value}{flat:List Value}{S:Nat->Prop}(X:Row w E e.cells v xs.length flat)(hS:∀ k∈v.ownBlock.toList,S k)
  (I:∀ j (x:e.den),xs[j]?=some x->∃ c,Rd w S e x c/\∀ i u,c[i]?=some u->flat[j*e.cells+i]?=some u):Rd w S (.list m E' e) xs [v]:=by
 rcases X.2 with ⟨rfl,Z⟩|⟨g,z,y,mk,rfl,O,Y,hm,hs,R⟩
 ·exact⟨none,0,by rw[Z],by omega,λhp=>by omega⟩
 ·refine⟨some ⟨g,0,none⟩,z,rfl,Y,λ_=>⟨g,0,rfl,hS g (by simp[CM]),λj x H=>?_⟩⟩;obtain⟨c,J,r⟩:=I j x H;refine⟨c,J,λi u M=>?_⟩;have:=r i u M;rw[<- R,CD]at this;split at this
  ·rw[Cl,cell_of_row w g _ y E mk O]
   simp_all
  ·grind
theorem Mx.rd {w:World}{G S:Nat->Prop}(z:∀ k,G k->S k):∀ {a:Ty} {pos:Nat} {x:a.den} {cs:List Value} {bs:List Nat},(∀ k∈bs,S k)->Mx w G a none pos x cs bs->Rd w S a x cs
 |.int _,_,_,_,_,_,h=>h.1
 |.bool,_,_,_,_,_,h=>h.1
 |.str,_,_,_,_,_,h=>h.1
 |.unit,_,_,_,_,_,h=>h.1
 |.hdr,_,_,_,_,_,h=>h.1
 |.pair _ _,_,_,_,_,u,⟨Z,c2,b1,b2,J,R,M,y⟩=>⟨Z,c2,J,Mx.rd z (λk r=>u k (by rw[R];exact B4 _ r)) M,Mx.rd z (λk r=>u k (by rw[R];exact B3 _ r)) y⟩
 |.list m E e,pos,xs,cs,bs,u,H=>by
  cases m with
  |false=>rw[co]at H;exact H.2.mono z
  |true =>
   rw[bJ (by simp)]at H;obtain⟨v,J,Y,O,M,y,h3⟩:=H;rw[J];refine sI M (λk r=>u k (by rw[y];exact B4 _ r)) λj x X=>?_
   obtain⟨c,h4,h5⟩:=h3 j x X;have I:Mx w G e none 0 x c (O j):=h4;exact⟨c,Mx.rd z (λk r=>u k (by rw[y];exact B3 _ (dX.2 ⟨j,(BX.1 X).1,r⟩))) I,h5⟩
theorem OwH.rd {w:World}{G:Nat->Prop}{m:Bool}{E E':TypeId}{e:Ty}{xs:List e.den}{v:Value}{bs:List Nat}(H:Ow w G E e xs v bs) :
  Rd w (λk=>G k\/k∈bs) (.list m E' e) xs [v]:=by
 obtain⟨_,J,y,O,z,M⟩:=H;refine sI O (λk r=>.inr (by rw[z];exact B4 _ r)) λj x I=>?_
 obtain⟨c,R,X⟩:=M j x I;have u:Mx w G e none 0 x c (y j):=R;exact⟨c,u.rd (λk r=>.inl r) (λk r=>.inr (by rw[z];exact B3 _ (dX.2 ⟨j,(BX.1 I).1,r⟩))),X⟩
theorem OwH.nil (w:World)(G:Nat->Prop)(E:TypeId)(e:Ty):Ow w G E e [] (.slice none 0 0) [] :=
 ⟨List.nodup_nil,[],λ_=>[],Row.nil w E e.cells,rfl,λj x r=>by simp at r⟩
theorem Rd.nil (w:World)(G:Nat->Prop)(m:Bool)(E:TypeId)(e:Ty):Rd w G (.list m E e) [] [.slice none 0 0] :=
 ⟨none,0,rfl,B6 _,λh=>by simp at h⟩
theorem Mx.flat {w w':World}{G G':Nat->Prop}:∀ {a:Ty} {h:Option Nat} {pos:Nat} {x:a.den} {cs:List Value},a.flat=true->Rd w G a x cs->Mx w' G' a h pos x cs []
 |.int _,_,_,_,_,_,h=>⟨h,rfl⟩
 |.bool,_,_,_,_,_,h=>⟨h,rfl⟩
 |.str,_,_,_,_,_,h=>⟨h,rfl⟩
 |.unit,_,_,_,_,_,h=>⟨h,rfl⟩
 |.hdr,_,_,_,_,_,h=>⟨h,rfl⟩
 |.pair _ _,_,_,_,_,r,⟨z,u,e,H,y⟩=>by
  simp only[Ty.flat,BY]at r;exact⟨z,u,[],[],e,rfl,Mx.flat r.1 H,Mx.flat r.2 y⟩
theorem Mx.shared {w:World}{G:Nat->Prop}:∀ {a:Ty} {h:Option Nat} {pos:Nat} {x:a.den} {cs:List Value},a.sh=a->Rd w G a x cs->Mx w G a h pos x cs []
 |.int _,_,_,_,_,_,h=>⟨h,rfl⟩
 |.bool,_,_,_,_,_,h=>⟨h,rfl⟩
 |.str,_,_,_,_,_,h=>⟨h,rfl⟩
 |.unit,_,_,_,_,_,h=>⟨h,rfl⟩
 |.hdr,_,_,_,_,_,h=>⟨h,rfl⟩
 |.pair _ _,_,_,_,_,r,⟨z,u,e,H,y⟩=>by
  simp only[Ty.sh,Ty.pair.injEq]at r;exact⟨z,u,[],[],e,rfl,Mx.shared r.1 H,Mx.shared r.2 y⟩
 |.list m E e,_,_,_,_,r,h=>by
  simp only[Ty.sh,Ty.list.injEq]at r;obtain⟨rfl,_⟩:=r;exact co.2 ⟨rfl,h⟩
def db (agg:Bool)(v:Value)(cs:List Value):Prop:=if agg then v=.agg cs.toArray else cs=[v]
def sn (w:World)(G:Nat->Prop):(y:List Ty)->Tup y->List Value->Prop
 |[],_,u=>u=[]
 |a::as,x,u=>∃ v c r,u=v::r/\db a.isAgg v c/\Rd w G a x.1 c/\sn w G as x.2 r
def fV (P:Program)(f:FuncId):Prop:=∀ (r:Array Value) (w:World),(callFunc f r).run P w=.ok (.enter f r) w
def il (P:Program)(w0:World)(S:Nat->Prop)(H:List Ty)(B:Ty)(I:Tup H->Option B.den)(v:Value):Prop :=
 ∃ f z,v=.func (.func f) #[] z/\fV P f /\
  ∀ w1:World,w0.heap.size<=w1.heap.size->(∀ k,S k->w1.heap[k]?=w0.heap[k]?) ->
   ∀ (x:Tup H) (r:List Value) (y:B.den),sn w1 (λk=>k<w1.heap.size) H x r->I x=some y ->
    Calls P f (r.toArray++z) w1 (λe w2=>∃ u c,e=.returned u/\db B.isAgg u c/\Rd w2 (λ_=>False) B y c/\Below w1.heap.size w1 w2)
structure Env where
 w0:World
 ro0:Nat->Prop
 own0:List Nat
 nt:Nat
 fixb:List (Nat×Nat)
 fixt:List (Nat×Value)
def Env.prot (V:Env)(k:Nat):Prop:=k<V.w0.heap.size/\k∉V.own0
structure Wit where
 β:Nat->Nat
 cs:Nat->List Value
 bs:Nat->Nat->List Nat
 nw:Nat->Prop
def gd (V:Env)(W:Wit)(p:Bool)(k:Nat):Prop:=W.nw k\/(p=true/\V.ro0 k)
def ao:Leaf->Prop
 |.own _ _ _ _ _=>True
 |_=>False
def RpOk (V:Env)(W:Wit)(w:World)(p:Bool)(a:Ty)(x:a.den)(off:Nat)(v:Value):Prop :=
 ∃ g o c,v=.pointer (some ⟨g,o+off,none⟩)/\(W.nw g\/V.prot g)/\Rd w (gd V W p) a x c/\cW w g o c
def so (V:Env)(W:Wit)(w:World)(p:Bool)(a:Ty)(x:a.den)(v:Value):Prop :=
 ∃ b r g o c,v=.pointer (some ⟨b,r,none⟩)/\(W.nw b\/V.prot b)/\w.cell? ⟨b,r,none⟩=some (.pointer (some ⟨g,o,none⟩)) /\
  (W.nw g\/V.prot g)/\Rd w (gd V W p) a x c/\cW w g o c
def iR (V:Env)(W:Wit)(w:World)(c:Bool×Bool×(a:Ty)×a.den)(v:Value):Prop :=
 if c.2.1=true then so V W w c.1 c.2.2.1 c.2.2.2 v else RpOk V W w c.1 c.2.2.1 c.2.2.2 0 v
def sq (st:St)(ks:List (Nat×Nat×Nat)):Prop:=∀ k∈ks,∃ l,(st k.1).ls[k.2.1]?=some l/\ao l
structure sr (V:Env) (W:Wit) (w:World) (p:Bool) (ks:List (Nat×Nat×Nat)) (loc:Option (Nat×Nat×Nat)) (E:TypeId) (e:Ty) (xs:List e.den) (v:Value):Prop where
 rd:Rd w (λb=>gd V W p b\/∃ k∈ks,b∈W.bs k.1 k.2.1) (.list false E e) xs [v]
 at_:∀ i sz off,loc=some (i,sz,off)->∃ r j n,ks=[(r,j,n)]/\∃ g len cap,(W.cs r)[j]?=some (.slice (some ⟨g,0,none⟩) len cap)/\i<len/\g∈W.bs r j/\w.cell? ⟨g,i*sz+off,none⟩=some v
structure NpOk (V:Env) (W:Wit) (w:World) (p:Bool) (ks:List (Nat×Nat×Nat)) (a:Ty) (x:a.den) (off:Nat) (v:Value):Prop where
 rd:∃ g o c,v=.pointer (some ⟨g,o+off,none⟩)/\(gd V W p g\/∃ k∈ks,g∈W.bs k.1 k.2.1)/\Rd w (λb=>gd V W p b\/∃ k∈ks,b∈W.bs k.1 k.2.1) a x c/\cW w g o c
def aI (P:Program)(V:Env)(W:Wit)(st:St)(w:World)(bs:List Nat):Leaf->Value->Prop
 |.int k n,v=>v=.int k n
 |.bool b,v=>v=.bool b
 |.str s,v=>v=.string s
 |.nil,v=>v=.slice none 0 0
 |.hdr n,v=>∃ A H,v=.slice A n H
 |.ro p E e J,v=>Rd w (gd V W p) (.list false E e) J [v]
 |.own p h E e J,v=>OwH w (gd V W p) h E e J v bs
 |.al r j n,v=>n<=(st r).ver/\((st r).ver=n->(W.cs r)[j]?=some v)
 |.nal p z ep O E e J,v=>ep<=(st EPO).ver/\(∀ k∈z,k.2.2<=(st k.1).ver)/\((st EPO).ver=ep->(∀ k∈z,(st k.1).ver=k.2.2)->sq st z->sr V W w p z O E e J v)
 |.ep r j n i X off,v=>n<=(st r).ver/\((st r).ver=n->∃ g I H,(W.cs r)[j]?=some (.slice (some ⟨g,0,none⟩) I H)/\i<I/\v=.pointer (some ⟨g,i*X+off,none⟩))
 |.np p z ep a x off,v=>ep<=(st EPO).ver/\(∀ k∈z,k.2.2<=(st k.1).ver)/\((st EPO).ver=ep->(∀ k∈z,(st k.1).ver=k.2.2)->sq st z->NpOk V W w p z a x off v)
 |.rp p a x off,v=>RpOk V W w p a x off v
 |.rpp p a x,v=>so V W w p a x v
 |.bp b off,v=>B0<=b/\(st b).sh=.agg/\v=.pointer (some ⟨W.β b,off,none⟩)
 |.clo f y,v=>v=.func (.func f) #[] (y.map λb=>Value.pointer (some ⟨W.β b,0,none⟩)).toArray/\∀ b∈y,B0<=b/\(st b).sh=.agg
 |.clr f y,v=>∃ M:List Value,v=.func (.func f) #[] M.toArray/\M.length=y.length/\∀ (i:Nat) (c:Bool×Bool×(a:Ty)×a.den) (u:Value),y[i]?=some c->M[i]?=some u->iR V W w c u
 |.fn Y B R,v=>il P V.w0 V.prot Y B R v
 |.dead,_=>True
def pL:List (Bool×Nat)->List Value->List Value->Prop
 |[],z,y=>z=[]/\y=[]
 |(agg,n)::H,z,y=>∃ v u c r,z=v::u/\y=c++r/\c.length=n/\db agg v c/\pL H u r
def ei:aG->Value->List Value->Prop
 |.off,_,r=>r=[]
 |.und,v,r=>v=undef/\r=[]
 |.one,v,r=>r=[v]
 |.agg,v,r=>v=.agg r.toArray
 |.tup y,v,r=>∃ u,v=.tuple u.toArray/\pL y u r
def live (st:St)(b:Nat):Prop:=B0<=b/\(st b).sh=.agg
structure ap (P:Program) (V:Env) (W:Wit) (st:St) (a:Act) (w:World):Prop where
 nt:a.tmps.size=V.nt
 df:a.defers=[]
 slots:∀ t,t<GH->ei (st t).sh (a.tmps.getD t undef) (W.cs t)
 boxes:∀ b,B0<=b->((st b).sh=.off/\(st b).ls=[])\/((st b).sh=.agg/\∃ E,w.heap[W.β b]?=some (.cells (W.cs b).toArray E (0,0)))
 len:∀ r,(st r).ls.length=(W.cs r).length
 one:∀ r,∀ v∈W.cs r,v.oneCell'=true
 leaf:∀ r j l v,(st r).ls[j]?=some l->(W.cs r)[j]?=some v->aI P V W st w (W.bs r j) l v
 ownb:∀ r j l,(st r).ls[j]?=some l->ao l->∀ k∈W.bs r j,¬ W.nw k/\¬ V.prot k/\∀ b,live st b->W.β b≠k
 sep:∀ r j l r' j' l',(st r).ls[j]?=some l->ao l->(st r').ls[j']?=some l'->ao l'->∀ k,k∈W.bs r j->k∈W.bs r' j'->r=r'/\j=j'
 box:∀ b,live st b->¬ W.nw (W.β b)/\¬ V.prot (W.β b)
 inj:∀ b b',live st b->live st b'->W.β b=W.β b'->b=b'
 nwlt:∀ k,W.nw k->k<w.heap.size/\¬ V.prot k
 os:w.os=V.w0.os
 tape:w.tape=V.w0.tape
 output:w.output=V.w0.output
 size:V.w0.heap.size<=w.heap.size
 keep:∀ k,V.prot k->w.heap[k]?=V.w0.heap[k]?
 fixb:∀ x∈V.fixb,live st x.1/\W.β x.1=x.2
 fixt:∀ x∈V.fixt,a.tmps.getD x.1 undef=x.2
def Rel (P:Program)(V:Env)(st:St)(a:Act)(w:World):Prop:=∃ W,ap P V W st a w
structure ay (V:Env):Prop where
 ro:∀ k,V.ro0 k->V.prot k
 nt:V.nt<=GH
theorem ay.ntB {V:Env}(h:ay V):V.nt<=B0:=B9 h.nt (by decide)
section
variable {P:Program} {V:Env} {W W':Wit} {st st':St} {w w':World}
theorem bW {p q:Bool}(u:p=true->q=true)(y:∀ k,W.nw k->W'.nw k):∀ k,gd V W p k->gd V W' q k:=by
 intro k r;rcases r with r|⟨z,r⟩
 ·exact .inl (y k r)
 ·exact .inr ⟨u z,r⟩
structure cE (V:Env) (W W':Wit) (st st':St) (w w':World):Prop where
 ver:∀ r,(st r).ver<=(st' r).ver/\((st' r).ver=(st r).ver->W'.cs r=W.cs r)
 box:∀ b,live st b->live st' b/\W'.β b=W.β b
 nw:∀ k,W.nw k->W'.nw k
 heap:∀ k,(W.nw k\/V.prot k)->w'.heap[k]?=w.heap[k]?
 epo:(st' EPO).ver=(st EPO).ver->∀ (r j:Nat) (l:Leaf),(st' r).ls[j]?=some l->ao l->(st' r).ver=(st r).ver ->
  (∃ l',(st r).ls[j]?=some l'/\ao l')/\W'.bs r j=W.bs r j/\∀ k∈W.bs r j,w'.heap[k]?=w.heap[k]?
theorem cE.refl (V:Env)(W:Wit)(st:St)(w:World):cE V W W st st w w :=
 ⟨λ_=>⟨B6 _,λ_=>rfl⟩,λ_ u=>⟨u,rfl⟩,λ_ h=>h,λ_ _=>rfl,λ_ _ _ l y r _=>⟨⟨l,y,r⟩,rfl,λ_ _=>rfl⟩⟩
theorem kF {w w':World}{a:Addr}(h:w'.heap[a.block]?=w.heap[a.block]?):w'.cell? a=w.cell? a:=by simp[C0,h]
theorem cE.gdheap (u:∀ k,V.ro0 k->V.prot k)(h:cE V W W' st st' w w')(p:Bool):∀ k,gd V W p k->w'.heap[k]?=w.heap[k]?:=by
 intro k r;rcases r with r|⟨_,r⟩
 ·exact h.heap k (.inl r)
 ·exact h.heap k (.inr (u k r))
theorem xc {ks:List (Nat×Nat×Nat)}{ep:Nat}(u:cE V W W' st st' w w')(I:ep<=(st EPO).ver)(y:∀ k∈ks,k.2.2<=(st k.1).ver)(H:(st' EPO).ver=ep)(z:∀ k∈ks,(st' k.1).ver=k.2.2) :
  (st EPO).ver=ep/\∀ k∈ks,(st k.1).ver=k.2.2 :=
 ⟨by have:=(u.ver EPO).1;omega,λk r=>by have:=(u.ver k.1).1;have:=y k r;have:=z k r;omega⟩
theorem cE.places {ks:List (Nat×Nat×Nat)}{ep:Nat}(J:cE V W W' st st' w w')(z:sq st' ks)(O:(st EPO).ver=ep)(H:∀ k∈ks,(st k.1).ver=k.2.2)
  (R:(st' EPO).ver=ep) (M:∀ k∈ks,(st' k.1).ver=k.2.2) :
  ∀ k∈ks,(∃ u,(st k.1).ls[k.2.1]?=some u/\ao u)/\W'.bs k.1 k.2.1=W.bs k.1 k.2.1/\∀ b∈W.bs k.1 k.2.1,w'.heap[b]?=w.heap[b]?:=λk r=>by
 obtain⟨l,y,I⟩:=z k r;exact J.epo (by omega) k.1 k.2.1 l y I (by rw[M k r,H k r])
theorem aI.carry (J:∀ k,V.ro0 k->V.prot k){bs bs':List Nat}{l:Leaf}{v:Value}(h:aI P V W st w bs l v)(y:cE V W W' st st' w w')
  (a2:ao l->bs'=bs/\∀ k∈bs,w'.heap[k]?=w.heap[k]?):aI P V W' st' w' bs' l v:=by
 have hG:∀ p k,gd V W p k->gd V W' p k:=λp=>bW (λh=>h) y.nw
 have hP:∀ k,(W.nw k\/V.prot k)->(W'.nw k\/V.prot k):=λk M=>M.imp (y.nw k) id
 have hR:∀ {p:Bool} {a:Ty} {x:a.den} {off:Nat} {v:Value},RpOk V W w p a x off v->RpOk V W' w' p a x off v:=by
  rintro p a x off v ⟨g,o,c,Z,Y,hr,hc⟩;exact⟨g,o,c,Z,hP g Y,Rd.carry (hG p) (y.gdheap J p) hr,hc.same (y.heap g Y)⟩
 have a4:∀ {p:Bool} {a:Ty} {x:a.den} {v:Value},so V W w p a x v->so V W' w' p a x v:=by
  rintro p a x v ⟨b,ob,g,o,c,Z,I,a0,Y,hr,hc⟩;exact⟨b,ob,g,o,c,Z,hP b I,by rw[kF (y.heap b I)];exact a0,hP g Y,Rd.carry (hG p) (y.gdheap J p) hr,hc.same (y.heap g Y)⟩
 cases l with
 |int k n=>exact h
 |bool b=>exact h
 |str s=>exact h
 |nil=>exact h
 |hdr n=>exact h
 |ro p E e xs=>exact Rd.carry (hG p) (y.gdheap J p) h
 |own p hh E e xs =>
  obtain⟨rfl,I⟩:=a2 trivial;exact OwH.carry h (hG p) (y.gdheap J p) I
 |nal p ks ep a9 E e xs =>
  obtain⟨z,H,O⟩:=h;refine⟨B9 z (y.ver EPO).1,λk M=>B9 (H k M) (y.ver k.1).1,λhe M ho=>?_⟩;obtain⟨e1,e2⟩:=xc y z H he M;have h5:=y.places ho e1 e2 he M;have X:=O e1 e2 (λk R=>(h5 k R).1);refine⟨Rd.carry ?_ ?_ X.rd,λi sz off hl=>?_⟩
  ·grind
  ·rintro b (I|⟨k,R,I⟩)
   ·exact y.gdheap J p b I
   ·grind
  ·obtain⟨r,j,n,rfl,g,a3,a6,h6,h7,h8,h9⟩:=X.at_ i sz off hl;have R:(r,j,n)∈[(r,j,n)]:=Cj ..;have a5:(st' r).ver=(st r).ver:=(M _ R).trans (e2 _ R).symm;refine⟨r,j,n,rfl,g,a3,a6,by rw[(y.ver r).2 a5];exact h6,h7,by rw[(h5 _ R).2.1];exact h8,?_⟩;rw[kF ((h5 _ R).2.2 g h8)];exact h9
 |np p ks ep a x off =>
  obtain⟨z,H,O⟩:=h;refine⟨B9 z (y.ver EPO).1,λk M=>B9 (H k M) (y.ver k.1).1,λhe M ho=>?_⟩;obtain⟨e1,e2⟩:=xc y z H he M;have h5:=y.places ho e1 e2 he M;have X:=O e1 e2 (λk R=>(h5 k R).1);have hS:∀ b,(gd V W p b\/∃ k∈ks,b∈W.bs k.1 k.2.1)->(gd V W' p b\/∃ k∈ks,b∈W'.bs k.1 k.2.1):=by
   grind
  have hW:∀ b,(gd V W p b\/∃ k∈ks,b∈W.bs k.1 k.2.1)->w'.heap[b]?=w.heap[b]?:=by
   rintro b (I|⟨k,R,I⟩)
   ·exact y.gdheap J p b I
   ·grind
  obtain⟨g,o,c,Z,Y,hr,hc⟩:=X.rd;exact⟨g,o,c,Z,hS g Y,Rd.carry hS hW hr,hc.same (hW g Y)⟩
 |al r j n =>
  obtain⟨z,H⟩:=h;obtain⟨O,X⟩:=y.ver r;refine⟨B9 z O,λZ=>?_⟩
  grind
 |ep r j n i sz off =>
  obtain⟨z,H⟩:=h;obtain⟨O,X⟩:=y.ver r;refine⟨B9 z O,λZ=>?_⟩
  grind
 |rp p a x off=>exact hR h
 |rpp p a x=>exact a4 h
 |clr f a1 =>
  obtain⟨us,z,H,O⟩:=h;refine⟨us,z,H,λi c u hc hu=>?_⟩;have X:=O i c u hc hu;unfold iR at X ⊢
  grind
 |bp b off =>
  obtain⟨z,H,O⟩:=h;obtain⟨X,h5⟩:=y.box b ⟨z,H⟩;exact⟨z,X.2,by rw[h5];exact O⟩
 |clo f a1 =>
  obtain⟨z,H⟩:=h;refine⟨?_,λb I=>(y.box b (H b I)).1⟩;rw[z];congr 2;refine List.map_congr_left λb I=>?_
  rw[(y.box b (H b I)).2]
 |fn As B φ=>exact h
 |dead=>trivial
def aC (P:Program)(V:Env)(W:Wit)(st:St)(w:World):List Leaf->List Value->Prop
 |[],[]=>True
 |l::u,v::r=>(aI P V W st w [] l v/\¬ ao l/\v.oneCell'=true)/\aC P V W st w u r
 |_,_=>False
theorem aC.length:∀ {ls:List Leaf} {cs:List Value},aC P V W st w ls cs->ls.length=cs.length
 |[],[],_=>rfl
 |_::_,_::_,h=>by simp[aC.length h.2]
theorem aC.at_:∀ {ls:List Leaf} {cs:List Value},aC P V W st w ls cs->∀ (j:Nat) (l:Leaf) (v:Value),ls[j]?=some l->cs[j]?=some v->aI P V W st w [] l v/\¬ ao l/\v.oneCell'=true
 |_::_,_::_,h,0,l,v,u,r=>by
  simp at u r;subst u;subst r;exact h.1
 |_::_,_::_,h,j+1,l,v,u,r=>aC.at_ h.2 j l v (by simpa using u) (by simpa using r)
theorem aC.one':∀ {ls:List Leaf} {cs:List Value},aC P V W st w ls cs->∀ v∈cs,v.oneCell'=true
 |[],[],_,_,r=>by simp at r
 |_::_,_::_,h,v,r=>by
  rcases Ch.1 r with rfl|r
  ·exact h.1.2.2
  ·exact aC.one' h.2 v r
theorem aC.mk:∀ {ls:List Leaf} {cs:List Value},ls.length=cs.length->(∀ (j:Nat) (l:Leaf) (v:Value),ls[j]?=some l->cs[j]?=some v->aI P V W st w [] l v/\¬ ao l/\v.oneCell'=true)->aC P V W st w ls cs
 |[],[],_,_=>trivial
 |_::_,_::_,h,H=>⟨H 0 _ _ rfl rfl,aC.mk (by simpa using h) λj l v u r=>H (j+1) l v (by simpa using u) (by simpa using r)⟩
theorem aC.drop {ls:List Leaf}{cs:List Value}(h:aC P V W st w ls cs)(n:Nat):aC P V W st w (ls.drop n) (cs.drop n) :=
 aC.mk (by simp[h.length]) λj l v u r=>h.at_ (n+j) l v (by simpa using u) (by simpa using r)
theorem aC.take {ls:List Leaf}{cs:List Value}(h:aC P V W st w ls cs)(n:Nat):aC P V W st w (ls.take n) (cs.take n) :=
 aC.mk (by simp[h.length]) λj l v y r=>by
  rw[CD]at y r;split at y
  ·rename_i u;rw[if_pos u]at r;exact h.at_ j l v y r
  ·grind
theorem aC.append {y H:List Leaf}{r z:List Value}(u:aC P V W st w y r)(I:aC P V W st w H z):aC P V W st w (y++H) (r++z):=by
 induction y generalizing r with
 |nil =>
  cases r with
  |nil=>simpa using I
  |cons=>simp[aC]at u
 |cons l O J =>
  cases r with
  |nil=>simp[aC]at u
  |cons v M=>exact⟨u.1,J u.2⟩
theorem aC.carry (r:∀ k,V.ro0 k->V.prot k)(u:cE V W W' st st' w w'):∀ {ls:List Leaf} {cs:List Value},aC P V W st w ls cs->aC P V W' st' w' ls cs
 |[],[],_=>trivial
 |_::_,_::_,h=>⟨⟨h.1.1.carry r u (λy=>absurd y h.1.2.1),h.1.2⟩,aC.carry r u h.2⟩
theorem eY {G:Nat->Prop}{p:Bool}(y:∀ k,G k->gd V W p k):∀ {a:Ty} {x:a.den} {cs:List Value},Rd w G a x cs->aC P V W st w (cJ p a x) cs
 |.int _,_,_,h=>by rw[show _=_ from h];exact⟨⟨rfl,id,rfl⟩,trivial⟩
 |.bool,_,_,h=>by rw[show _=_ from h];exact⟨⟨rfl,id,rfl⟩,trivial⟩
 |.str,_,_,h=>by rw[show _=_ from h];exact⟨⟨rfl,id,rfl⟩,trivial⟩
 |.unit,_,_,h=>by rw[show _=_ from h];trivial
 |.hdr,_,_,⟨A,r,e⟩=>by rw[e];exact⟨⟨⟨A,r,rfl⟩,id,rfl⟩,trivial⟩
 |.pair _ _,_,_,⟨J,M,e,H,u⟩=>by rw[e];exact (eY y H).append (eY y u)
 |.list m E e,I,_,h=>by
  obtain⟨A,r,rfl,u,z⟩:=h;exact⟨⟨Rd.mono y (⟨A,r,rfl,u,z⟩:Rd w _ (.list false E e) I _),id,rfl⟩,trivial⟩
theorem gP (p:Bool):∀ (a:Ty) (x:a.den),(cJ p a x).length=a.cells
 |.int _,_=>rfl
 |.bool,_=>rfl
 |.str,_=>rfl
 |.unit,_=>rfl
 |.hdr,_=>rfl
 |.pair a b,x=>by simp[cJ,Ty.cells,gP p a,gP p b]
 |.list _ _ _,_=>rfl
theorem cI (p:Bool):∀ (a:Ty) (x:a.den),(aq p a x).length=a.cells
 |.int _,_=>rfl
 |.bool,_=>rfl
 |.str,_=>rfl
 |.unit,_=>rfl
 |.hdr,_=>rfl
 |.pair a b,x=>by simp[aq,Ty.cells,cI p a,cI p b]
 |.list _ _ _,_=>rfl
theorem iS (t n:Nat):∀ (j:Nat) (ls:List Leaf),(bG t n j ls).length=ls.length
 |_,[]=>rfl
 |j,_::ls=>by simp[bG,iS t n (j+1) ls]
theorem ot (t n:Nat):∀ (j:Nat) (ls:List Leaf) (i:Nat) (l:Leaf),ls[i]?=some l->(bG t n j ls)[i]?=some (lP t (j+i) n l)
 |j,r::ls,0,l,h=>by
  simp at h;subst h;simp[bG]
 |j,r::ls,i+1,l,h=>by
  have:=ot t n (j+1) ls i l (by simpa using h);simp only[bG]
  grind
theorem iD {a:Act}(h:ap P V W st a w)(r:Nat):aC P V W st w (bG r (st r).ver 0 (st r).ls) (W.cs r):=by
 refine aC.mk (by rw[iS,h.len]) λj l v u y=>?_
 have J:j<(st r).ls.length:=by
  have:=(BX.1 u).1;simpa[iS]using this
 have I:(st r).ls[j]?=some (st r).ls[j]:=BZ J;have M:=ot r (st r).ver 0 (st r).ls j _ I;rw[M]at u;have z:=h.leaf r j _ v I y;have H:=h.one r v (List.mem_of_getElem? y);simp at u;subst u;generalize O:(st r).ls[j]=q at z;cases q with
 |own p R E e X=>exact⟨⟨B6 _,λ_=>by simpa using y⟩,id,H⟩
 |_=>exact⟨z,id,H⟩
theorem sJ {v:Value}{l:Leaf}(h:iz v=some l):aI P V W st w [] l v/\¬ ao l/\v.oneCell'=true:=by
 unfold iz at h;split at h <;> simp at h <;> subst h <;> exact⟨rfl,id,rfl⟩
theorem cU {a:Act}(h:ap P V W st a w)(x:Operand) :
  ∃ r,ei (au st x).1 (a.eval x) r/\aC P V W st w (au st x).2 r:=by
 cases x with
 |tmp t =>
  simp only[au];cases z:CP t GH with
  |false=>exact⟨[],rfl,trivial⟩
  |true=>exact⟨W.cs t,h.slots t (by simpa using z),iD h t⟩
 |const v =>
  simp only[au];cases y:iz v with
  |none=>exact⟨[],rfl,trivial⟩
  |some l=>exact⟨[v],rfl,⟨sJ y,trivial⟩⟩
 |func f=>exact⟨[.func (.func f) #[] #[]],rfl,⟨⟨⟨rfl,λb u=>by simp at u⟩,id,rfl⟩,trivial⟩⟩
 |global g=>exact⟨[],rfl,trivial⟩
theorem bt {a:Act}(h:ap P V W st a w)(x:Operand)(y:one st x≠.dead) :
  aI P V W st w [] (one st x) (a.eval x)/\¬ ao (one st x)/\(a.eval x).oneCell'=true/\(au st x).1=.one/\(au st x).2=[one st x]:=by
 obtain⟨H,z,r⟩:=cU h x;unfold one at y ⊢;split at y
 ·rename_i l I;simp only[I]at z r ⊢;have u:H=[a.eval x]:=z;subst u;exact⟨r.1.1,r.1.2.1,r.1.2.2,by simp,by simp⟩
 ·grind
theorem fa {r j n:Nat}{l:Leaf}(u:aD st (.al r j n)=l)(z:l≠.dead):(st r).ver=n/\(st r).ls[j]?=some l:=by
 simp only[aD]at u;cases y:BV (st r).ver n with
 |false=>simp only[y]at u;exact absurd u.symm z
 |true =>
  simp only[y,cond_true]at u;refine⟨BW y,?_⟩;rw[CG]at u;cases H:(st r).ls[j]? with
  |none=>simp only[H]at u;exact absurd u.symm z
  |some I =>
   simp only[H,Option.getD_some]at u;cases I with
   |nal=>simp only[pG]at u;exact absurd u.symm z
   |_=>simp only[pG]at u;rw[u]
theorem iT {r j n:Nat}{p:Bool}{ks:List (Nat×Nat×Nat)}{ep:Nat}{u:Option (Nat×Nat×Nat)}{E:TypeId}{e:Ty}{xs:List e.den}:aD st (.al r j n)≠.nal p ks ep u E e xs:=by
 simp only[aD];cases BV (st r).ver n with
 |false=>simp
 |true =>
  cases (st r).ls.getD j .dead <;> simp[pG]
theorem km {a:Act}(h:ap P V W st a w){r j n:Nat}{p:Bool}{u:Option (Nat×Nat)}{E:TypeId}{e:Ty}{xs:List e.den}{v:Value}(I:aD st (.al r j n)=.own p u E e xs)
  (J:aI P V W st w [] (.al r j n) v):(W.cs r)[j]?=some v/\OwH w (gd V W p) u E e xs v (W.bs r j)/\(st r).ls[j]?=some (.own p u E e xs)/\(st r).ver=n:=by
 obtain⟨y,z⟩:=fa I (by simp);have H:=J.2 y;exact⟨H,h.leaf r j _ v z H,z,y⟩
theorem vK {ls:List Leaf}{j:Nat}(h:lv (ls.getD j .dead)=true):∃ l,ls[j]?=some l/\ao l:=by
 rw[CG]at h;cases r:ls[j]? with
 |none=>rw[r]at h;simp[lv]at h
 |some l =>
  rw[r]at h;refine⟨l,rfl,?_⟩;cases l <;> simp[lv]at h;trivial
theorem cB {ks:List (Nat×Nat×Nat)}{ep:Nat}(h:br st ks ep=true):(st EPO).ver=ep/\(∀ k∈ks,(st k.1).ver=k.2.2)/\sq st ks:=by
 simp only[br,BY,List.all_eq_true]at h;exact⟨BW h.1,λk r=>BW (h.2 k r).1,λk r=>vK (h.2 k r).2⟩
theorem pM {p:Bool}{ks:List (Nat×Nat×Nat)}{ep:Nat}{r:Option (Nat×Nat×Nat)}{E:TypeId}{e:Ty}{xs:List e.den}{v:Value}(u:br st ks ep=true)
 (y:aI P V W st w [] (.nal p ks ep r E e xs) v):sr V W w p ks r E e xs v:=y.2.2 (cB u).1 (cB u).2.1 (cB u).2.2
def bq (V:Env)(W:Wit)(p:Bool)(ks:List (Nat×Nat))(k:Nat):Prop:=gd V W p k\/∃ x∈ks,k∈W.bs x.1 x.2
theorem jL {E:TypeId}{e:Ty}{E':TypeId}{e':Ty}{xs:List e'.den}{r:List e.den}(h:lQ E e E' e' xs=some r) :
  ∃ (y:E'=E) (u:e'=e),u ▸ xs=r:=by
 unfold lQ at h
 grind
theorem ul {e e':Ty}{xs:List e'.den}{r:List e.den}(h:castSh e e' xs=some r):e'.sh=e.sh/\HEq xs r:=by
 unfold castSh at h
 grind
theorem Rd.castSh {G:Nat->Prop}{m m':Bool}{E E':TypeId}{e e':Ty}{xs:List e'.den}{H:List e.den}{cs:List Value}(h:castSh e e' xs=some H)(J:Rd w G (.list m E' e') xs cs):Rd w G (.list m' E e) H cs:=by
 obtain⟨O,I⟩:=ul h;have M:Rd w G (.list m E e) H cs:=by
  refine Rd.flags (a:=.list m E e') (x:=xs) (by simp only[Ty.sh,O]) I ?_;obtain⟨A,r,u,y,z⟩:=J;exact⟨A,r,u,y,z⟩
 obtain⟨A,r,u,y,z⟩:=M;exact⟨A,r,u,y,z⟩
theorem kn (st:St):∀ (u r:List Leaf),bz st (u++r)=bz st u++bz st r
 |[],_=>rfl
 |l::u,r=>by
  have:=kn st u r;cases l <;> simp[bz,this]
theorem sK (st:St):∀ (u r:List Leaf),b7 st (u++r)=b7 st u++b7 st r
 |[],_=>rfl
 |l::u,r=>by
  have:=sK st u r;cases l <;> simp[b7,this]
theorem kG {a:Act}(h:ap P V W st a w){m:Bool}{E:TypeId}{e:Ty}{l:Leaf}{v:Value}{p:Bool}{xs:List e.den}
  (hl:aI P V W st w [] l v) (a0:¬ ao l) (u:dh e (aD st l)=some (p,xs)):Rd w (bq V W p (bz st [l])) (.list m E e) xs [v]:=by
 have I:∀ (q:Leaf) (bs:List Nat) (S:Nat->Prop),aI P V W st w bs q v->dh e q=some (p,xs)->(∀ k,gd V W p k->S k)->(ao q->∀ k∈bs,S k) ->
   (∀ q' J ep z E' H X,q=.nal q' J ep z E' H X->br st J ep=true/\∀ k∈J,∀ b∈W.bs k.1 k.2.1,S b)->Rd w S (.list m E e) xs [v]:=by
  intro q bs S M u hS hb hn;cases q with
  |ro q E' H Y =>
   simp only[dh,CC]at u;obtain⟨zs,Z,rfl,rfl⟩:=u;exact Rd.castSh Z (Rd.mono hS M)
  |nil =>
   obtain⟨rfl,rfl⟩:=u;rw[show v=_ from M];exact Rd.nil w _ m E e
  |own q hh E' H Y =>
   cases hh with
   |some _=>simp[dh]at u
   |none =>
    simp only[dh,CC]at u;obtain⟨zs,Z,rfl,rfl⟩:=u;refine Rd.castSh Z (Rd.mono (λk y=>?_) (OwH.rd (m:=false) (E':=E') M));exact y.elim (hS k) (hb trivial k)
  |nal q J ep z E' H Y =>
   simp only[dh,CC,Cv]at u;obtain⟨zs,Z,rfl,rfl⟩:=u;obtain⟨R,hn⟩:=hn _ _ _ _ _ _ _ rfl;have h1:sr V W w q J z E' H Y v:=M.2.2 (cB R).1 (cB R).2.1 (cB R).2.2;refine Rd.castSh Z (Rd.mono (λk y=>?_) h1.rd);rcases y with y|⟨x,hx,y⟩
   ·grind
   ·grind
  |_=>simp[dh]at u
 cases l with
 |al r j n =>
  by_cases hd:aD st (.al r j n)=.dead
  ·rw[hd]at u;simp[dh]at u
  ·obtain⟨h1,h2⟩:=fa rfl hd;have h3:=h.leaf r j _ v h2 (hl.2 h1);generalize M:aD st (.al r j n)=q at u h2 h3;refine I q (W.bs r j) _ h3 u (λk y=>.inl y) (λO k y=>.inr ⟨(r,j),?_,y⟩) ?_
   ·cases q <;> first|exact O.elim|simp[bz,M]
   ·rintro q' J ep z E' H X rfl;exact absurd M iT
 |own q hh E' H Y=>exact absurd trivial a0
 |nal q J ep z E' H Y =>
  simp only[aD]at u;cases R:br st J ep with
  |false=>simp[R,dh]at u
  |true =>
   simp only[R]at u;refine I _ [] _ hl u (λk y=>.inl y) (λO=>O.elim) ?_;intro q' a4 a5 a2 a3 a6 X a1;cases a1;refine⟨R,λk y b hb=>.inr ⟨(k.1,k.2.1),?_,hb⟩⟩;simp only[bz,aD]
   grind
 |ro q E' H Y=>exact I _ [] _ hl u (λk y=>.inl y) (λO=>O.elim) (λ_ _ _ _ _ _ _ h=>by cases h)
 |nil=>exact I _ [] _ hl u (λk y=>.inl y) (λO=>O.elim) (λ_ _ _ _ _ _ _ h=>by cases h)
 |_=>simp[aD,dh]at u
theorem xd {a:Act}(h:ap P V W st a w){l:Leaf}{v:Value}{n:Nat}(X:aI P V W st w [] l v)(Y:¬ ao l)(u:gh (aD st l)=some n):Rd w (λ_=>False) .hdr n [v]:=by
 have H:∀ (q:Leaf) (bs:List Nat),aI P V W st w bs q v->gh q=some n->(∀ p M ep z E e O,q=.nal p M ep z E e O->br st M ep=true)->Rd w (λ_=>False) .hdr n [v]:=by
  intro q bs J u hn;cases q with
  |ro p E e O =>
   simp only[gh,B5]at u;subst u;obtain⟨A,y,I,_⟩:=J;exact⟨A,y,I⟩
  |own p hh E e O =>
   simp only[gh,B5]at u;subst u;obtain⟨A,y,I,_⟩:=OwH.slice J;exact⟨A,y,by rw[I]⟩
  |nal p M ep z E e O =>
   simp only[gh,B5]at u;subst u;have R:=hn _ _ _ _ _ _ _ rfl;obtain⟨A,y,I,_⟩:=(J.2.2 (cB R).1 (cB R).2.1 (cB R).2.2:sr V W w p M z E e O v).rd;exact⟨A,y,I⟩
  |nil =>
   simp only[gh,B5]at u;subst u;exact⟨none,0,by rw[show v=_ from J]⟩
  |hdr m =>
   simp only[gh,B5]at u;subst u;obtain⟨A,y,I⟩:=J;exact⟨A,y,by rw[I]⟩
  |_=>simp[gh]at u
 cases l with
 |al r j m =>
  by_cases hd:aD st (.al r j m)=.dead
  ·rw[hd]at u;simp[gh]at u
  ·obtain⟨h1,h2⟩:=fa rfl hd;have h3:=h.leaf r j _ v h2 (X.2 h1);refine H _ _ h3 u λp M ep z E e O J=>absurd J iT
 |own q hh Z e' ys=>exact absurd trivial Y
 |nal q M ep z Z e' ys =>
  simp only[aD]at u;cases R:br st M ep with
  |false=>simp[R,gh]at u
  |true =>
   grind
 |ro q Z e' ys=>exact H _ [] X u (λ_ _ _ _ _ _ _ h=>by cases h)
 |nil=>exact H _ [] X u (λ_ _ _ _ _ _ _ h=>by cases h)
 |hdr m=>exact H _ [] X u (λ_ _ _ _ _ _ _ h=>by cases h)
 |_=>simp[aD,gh]at u
theorem kH {a:Act}(h:ap P V W st a w):∀ (b:Ty) (ls:List Leaf) (cs:List Value) (p:Bool) (x:b.den) (r:List Leaf),aC P V W st w ls cs ->
  bc st b ls=some (p,x,r)->∃ M R O,cs=M++R/\ls=O++r/\aC P V W st w O M/\aC P V W st w r R/\Rd w (bq V W p (bz st O)) b x M
 |.int k,ls,cs,p,x,r,H,u=>by
  simp only[bc]at u;split at u
  ·rename_i k' n ls;split at u
   ·rename_i I;obtain⟨rfl,rfl,rfl⟩:=u;cases cs with
    |nil=>exact H.elim
    |cons v cs=>exact⟨[v],cs,[_],rfl,rfl,⟨H.1,trivial⟩,H.2,by rw[show v=_ from H.1.1,I];rfl⟩
   ·grind
  ·grind
 |.bool,ls,cs,p,x,r,H,u=>by
  simp only[bc]at u;split at u
  ·simp at u;obtain⟨rfl,rfl,rfl⟩:=u;cases cs with
   |nil=>exact H.elim
   |cons v cs=>exact⟨[v],cs,[_],rfl,rfl,⟨H.1,trivial⟩,H.2,by rw[show v=_ from H.1.1];rfl⟩
  ·grind
 |.str,ls,cs,p,x,r,H,u=>by
  simp only[bc]at u;split at u
  ·simp at u;obtain⟨rfl,rfl,rfl⟩:=u;cases cs with
   |nil=>exact H.elim
   |cons v cs=>exact⟨[v],cs,[_],rfl,rfl,⟨H.1,trivial⟩,H.2,by rw[show v=_ from H.1.1];rfl⟩
  ·grind
 |.unit,ls,cs,p,x,r,H,u=>by
  obtain⟨rfl,_,rfl⟩:=u;exact⟨[],cs,[],rfl,rfl,trivial,H,rfl⟩
 |.hdr,ls,cs,p,x,r,H,u=>by
  simp only[bc]at u;split at u
  ·rename_i l J;split at u
   ·rename_i n hn;obtain⟨rfl,rfl,rfl⟩:=u;cases cs with
    |nil=>exact H.elim
    |cons v cs=>exact⟨[v],cs,[l],rfl,rfl,⟨H.1,trivial⟩,H.2,xd h H.1.1 H.1.2.1 hn⟩
   ·grind
  ·grind
 |.pair b c,ls,cs,p,x,r,H,u=>by
  simp only[bc]at u;split at u
  ·rename_i q y J hb;split at u
   ·rename_i q' z Y hc;simp at u;obtain⟨rfl,rfl,rfl⟩:=u;obtain⟨M,R,O,e1,e2,h1,h2,h3⟩:=kH h b ls cs q y J H hb;obtain⟨Z,c4,l2,e3,e4,h4,h5,h6⟩:=kH h c J R q' z Y h2 hc;refine⟨M++Z,c4,O++l2,by rw[e1,e3,CN],by rw[e2,e4,CN],h1.append h4,h5,M,Z,rfl,?_,?_⟩
    ·refine Rd.mono (λk I=>?_) h3;rcases I with I|⟨y,X,I⟩
     ·exact .inl (bW (by simp_all) (λ_ h=>h) k I)
     ·exact .inr ⟨y,by rw[kn];exact B4 _ X,I⟩
    ·refine Rd.mono (λk I=>?_) h6;rcases I with I|⟨y,X,I⟩
     ·exact .inl (bW (by simp_all) (λ_ h=>h) k I)
     ·exact .inr ⟨y,by rw[kn];exact B3 _ X,I⟩
   ·grind
  ·grind
 |.list m E e,ls,cs,p,x,r,H,u=>by
  simp only[bc]at u;split at u
  ·rename_i l J;split at u
   ·rename_i q ys ha;obtain⟨rfl,rfl,rfl⟩:=u;cases cs with
    |nil=>exact H.elim
    |cons v cs=>exact⟨[v],cs,[l],rfl,rfl,⟨H.1,trivial⟩,H.2,kG h H.1.1 H.1.2.1 ha⟩
   ·grind
  ·grind
theorem eE {a:Act}(h:ap P V W st a w){b:Ty}{ls:List Leaf}{cs:List Value}{p:Bool}{x:b.den}(I:aC P V W st w ls cs)
  (u:cO st b ls=some (p,x)):Rd w (bq V W p (bz st ls)) b x cs:=by
 unfold cO at u;split at u
 ·rename_i q y H;obtain⟨O,r,Y,M,J,X,z,R⟩:=kH h b ls cs _ _ _ I H;have:r=[]:=by
   cases r with
   |nil=>rfl
   |cons=>exact z.elim
  simp_all
 ·grind
end
section
variable {P:Program} {V:Env} {W W':Wit} {st st':St} {w w':World} {a:Act}
theorem bB (A B:Upd)(st:St):ac (A++B) st=ac A (ac B st):=by
 funext q;induction A with
 |nil=>rfl
 |cons x A u=>obtain⟨r,c⟩:=x;simp only[Cr,ac,u]
theorem aQ (r:Nat)(c:bU)(U:Upd)(st:St):ac ((r,c)::U) st=ac [(r,c)] (ac U st):=bB [(r,c)] U st
theorem bm (r:Nat)(c:bU)(st:St):ac [(r,c)] st r=c:=by simp[ac]
theorem aH {r q:Nat}(h:q≠r)(c:bU)(st:St):ac [(r,c)] st q=st q:=by
 have:BV q r=false:=by
  cases u:BV q r with
  |false=>rfl
  |true=>exact absurd (BW u) h
 simp[ac,this]
theorem am (r q:Nat)(c:bU)(st:St):(q=r/\ac [(r,c)] st q=c)\/(q≠r/\ac [(r,c)] st q=st q):=by
 by_cases h:q=r
 ·subst h;exact .inl ⟨rfl,bm q c st⟩
 ·exact .inr ⟨h,aH h c st⟩
def ce (V:Env)(W:Wit)(st:St)(k:Nat):Prop :=
 W.nw k\/V.prot k\/(∃ b,live st b/\W.β b=k)\/∃ r j l,(st r).ls[j]?=some l/\ao l/\k∈W.bs r j
theorem ap.own_lt (h:ap P V W st a w){r j:Nat}{l:Leaf}(u:(st r).ls[j]?=some l)(y:ao l):∀ k∈W.bs r j,k<w.heap.size:=by
 have z:j<(W.cs r).length:=by rw[<- h.len];exact (BX.1 u).1
 have:=h.leaf r j l _ u (BZ z);cases l <;> simp only[ao]at y;exact OwH.lt this
theorem ap.box_lt (h:ap P V W st a w){b:Nat}(r:live st b):W.β b<w.heap.size:=by
 rcases h.boxes b r.1 with ⟨u,_⟩|⟨_,E,y⟩
 ·exact absurd (u.symm.trans r.2) (by simp)
 ·grind
theorem ap.used_lt (h:ap P V W st a w):∀ k,ce V W st k->k<w.heap.size:=by
 intro k u;rcases u with u|u|⟨b,H,rfl⟩|⟨r,j,l,y,z,I⟩
 ·exact (h.nwlt k u).1
 ·exact CK u.1 h.size
 ·exact h.box_lt H
 ·exact h.own_lt y z k I
theorem ap.world (Y:ay V)(h:ap P V W st a w)(X:w.heap.size<=w'.heap.size)(M:w'.os=w.os)(Z:w'.tape=w.tape)(O:w'.output=w.output)
  (u:∀ k,ce V W st k->w'.heap[k]?=w.heap[k]?):ap P V W st a w':=by
 have z:cE V W W st st w w':=⟨λr=>⟨B6 _,λ_=>rfl⟩,λb J=>⟨J,rfl⟩,λ_ h=>h,λk h=>u k (h.elim .inl (λh=>.inr (.inl h))),
  λ_ r j l y I _=>⟨⟨l,y,I⟩,rfl,λk H=>u k (.inr (.inr (.inr ⟨r,j,l,y,I,H⟩)))⟩⟩
 exact {
  nt:=h.nt,df:=h.df,slots:=h.slots,
  boxes:=λb J=>(h.boxes b J).imp id λ⟨y,E,I⟩=>⟨y,E,by rw[u _ (.inr (.inr (.inl ⟨b,⟨J,y⟩,rfl⟩)))];exact I⟩
  len:=h.len,one:=h.one,
  leaf:=λr j l v y I=>(h.leaf r j l v y I).carry Y.ro z (λO=>⟨rfl,λk H=>u k (.inr (.inr (.inr ⟨r,j,l,y,O,H⟩)))⟩)
  ownb:=h.ownb,sep:=h.sep,box:=h.box,inj:=h.inj,
  nwlt:=λk u=>⟨CK (h.nwlt k u).1 X,(h.nwlt k u).2⟩
  os:=M.trans h.os,tape:=Z.trans h.tape,output:=O.trans h.output,size:=B9 h.size X,
  keep:=λk R=>(u k (.inr (.inl R))).trans (h.keep k R)
  fixb:=h.fixb,fixt:=h.fixt }
theorem ap.below (u:ay V)(h:ap P V W st a w)(r:Below w.heap.size w w'):ap P V W st a w' :=
 h.world u r.size r.os r.tape r.output λk y=>r.block k (h.used_lt k y)
theorem ap.relabel (hV:ay V)(h:ap P V W st a w)(r:Nat)(c:bU)(nw':Nat->Prop)(a3:(st r).ver<=c.ver)(X:c.sh=(st r).sh)
    (Y:c.ls.length=(st r).ls.length) (a1:∀ k,W.nw k->nw' k) (R:∀ k,nw' k->k<w.heap.size/\¬ V.prot k)
    (a2:∀ (j:Nat) (l:Leaf) (v:Value),c.ls[j]?=some l->(W.cs r)[j]?=some v->aI P V { W with nw:=nw' } (ac [(r,c)] st) w (W.bs r j) l v)
    (a4:∀ (j:Nat) (l:Leaf),c.ls[j]?=some l->ao l->(st r).ls[j]?=some l)
    (J:∀ (q j:Nat) (l:Leaf),(ac [(r,c)] st q).ls[j]?=some l->ao l->∀ k∈W.bs q j,¬ nw' k)
    (I:∀ b,live st b->¬ nw' (W.β b)):ap P V { W with nw:=nw' } (ac [(r,c)] st) a w:=by
  have M:∀ b,live (ac [(r,c)] st) b<->live st b:=by
    intro b;rcases am r b c st with ⟨rfl,e⟩|⟨_,e⟩
    · simp[live,e,X]
    · simp[live,e]
  have u:∀ (q j:Nat) (l:Leaf),(ac [(r,c)] st q).ls[j]?=some l->ao l->(st q).ls[j]?=some l:=by
    intro q j l z y;rcases am r q c st with ⟨rfl,e⟩|⟨_,e⟩
    · grind
    · grind
  have O:cE V W { W with nw:=nw' } st (ac [(r,c)] st) w w :=
    ⟨λq=>by
      rcases am r q c st with ⟨rfl,e⟩|⟨_,e⟩
      · grind
      · rw[e];exact⟨B6 _,λ_=>rfl⟩,
     λb H=>⟨(M b).2 H,rfl⟩,a1,λ_ _=>rfl,λ_ q j l z y h3=>⟨⟨l,u q j l z y,y⟩,rfl,λ_ _=>rfl⟩⟩
  exact {
    nt:=h.nt,df:=h.df,
    slots:=λt ht=>by
      rcases am r t c st with ⟨rfl,e⟩|⟨_,e⟩
      · rw[e,X];exact h.slots t ht
      · rw[e];exact h.slots t ht
    boxes:=λb H=>by
      rcases am r b c st with ⟨rfl,e⟩|⟨_,e⟩
      · rw[e,X]
        rcases h.boxes b H with ⟨z,y⟩|z
        · grind
        · grind
      · rw[e];exact h.boxes b H
    len:=λq=>by
      rcases am r q c st with ⟨rfl,e⟩|⟨_,e⟩
      · rw[e,Y];exact h.len q
      · rw[e];exact h.len q
    one:=h.one
    leaf:=λq j l v z y=>by
      rcases am r q c st with ⟨rfl,e⟩|⟨_,e⟩
      · grind
      · rw[e]at z
        exact (h.leaf q j l v z y).carry hV.ro O (λ_=>⟨rfl,λ_ _=>rfl⟩)
    ownb:=λq j l z y k Z=>⟨J q j l z y k Z,(h.ownb q j l (u q j l z y) y k Z).2.1,λb H=>(h.ownb q j l (u q j l z y) y k Z).2.2 b ((M b).1 H)⟩
    sep:=λq j l q' j' l' z y h3 h4=>h.sep q j l q' j' l' (u q j l z y) y (u q' j' l' h3 h4) h4
    box:=λb H=>⟨I b ((M b).1 H),(h.box b ((M b).1 H)).2⟩
    inj:=λb b' H a0=>h.inj b b' ((M b).1 H) ((M b').1 a0)
    nwlt:=R
    os:=h.os,tape:=h.tape,output:=h.output,size:=h.size,keep:=h.keep,
    fixb:=λx hx=>⟨(M _).2 (h.fixb x hx).1,(h.fixb x hx).2⟩,fixt:=h.fixt }
theorem aS {α:Type}(ls:List α)(j i:Nat)(x y:α)(h:(ls.set j x)[i]?=some y):(i=j/\y=x/\j<ls.length)\/(i≠j/\ls[i]?=some y):=by
 grind
theorem ap.kill1 (J:ay V)(h:ap P V W st a w)(r j:Nat):ap P V W (ac [(r,gi (st r) j)] st) a w:=by
 refine h.relabel J r _ W.nw (B6 _) rfl (by simp[gi,aT]) (λ_ h=>h) h.nwlt ?_ ?_ ?_ λb H=>(h.box b H).1
 ·intro i l v u y;rcases aS _ _ _ _ _ u with ⟨_,rfl,_⟩|⟨z,u⟩
  ·trivial
  ·refine (h.leaf r i l v u y).carry J.ro ⟨λq=>?_,λb H=>?_,λ_ h=>h,λ_ _=>rfl,λ_ q R X I O Y=>?_⟩ (λ_=>⟨rfl,λ_ _=>rfl⟩)
   ·rcases am r q (gi (st r) j) st with ⟨rfl,e⟩|⟨_,e⟩
    ·rw[e];exact⟨B6 _,λ_=>rfl⟩
    ·grind
   ·refine⟨⟨H.1,?_⟩,rfl⟩;rcases am r b (gi (st r) j) st with ⟨rfl,e⟩|⟨_,e⟩
    ·rw[e];exact H.2
    ·rw[e];exact H.2
   ·rcases am r q (gi (st r) j) st with ⟨rfl,e⟩|⟨_,e⟩
    ·rw[e]at I;rcases aS _ _ _ _ _ I with ⟨_,rfl,_⟩|⟨_,I⟩
     ·exact O.elim
     ·grind
    ·grind
 ·intro i l u y;rcases aS _ _ _ _ _ u with ⟨_,rfl,_⟩|⟨z,u⟩
  ·exact y.elim
  ·omega
 ·intro q i l u y;have:(st q).ls[i]?=some l:=by
   rcases am r q (gi (st r) j) st with ⟨rfl,e⟩|⟨_,e⟩
   ·rw[e]at u;rcases aS _ _ _ _ _ u with ⟨_,rfl,_⟩|⟨z,u⟩
    ·exact y.elim
    ·omega
   ·grind
  exact λk M=>(h.ownb q i l this y k M).1
theorem ap.frz1 (hV:ay V)(h:ap P V W st a w)(r j:Nat) :
  ap P V { W with nw:=λk=>W.nw k\/((∃ l,(st r).ls[j]?=some l/\ao l)/\k∈W.bs r j) } (ac [(r,fZ (st r) j)] st) a w:=by
 have O:∀ l,(st r).ls[j]?=some l->(st r).ls.getD j .dead=l:=λl hl=>by rw[CG,hl];rfl
 have u:∀ (i:Nat) (l:Leaf),(aT (st r).ls j (uS ((st r).ls.getD j .dead)))[i]?=some l->ao l->(st r).ls[i]?=some l/\i≠j:=by
  intro i l z y;rcases aS _ _ _ _ _ z with ⟨rfl,rfl,hj⟩|⟨Z,z⟩
  ·rw[O _ (BZ hj)]at y;generalize (st r).ls[i]=l at y;cases l with
   |own p hh E e xs=>cases hh <;> exact y.elim
   |_=>exact y.elim
  ·grind
 have I:cE V W { W with nw:=λk=>W.nw k\/((∃ l,(st r).ls[j]?=some l/\ao l)/\k∈W.bs r j) } st (ac [(r,fZ (st r) j)] st) w w:=by
  refine⟨λq=>?_,λb Y=>?_,λ_ h=>.inl h,λ_ _=>rfl,λ_ q j' X J M h5=>?_⟩
  ·rcases am r q (fZ (st r) j) st with ⟨rfl,e⟩|⟨_,e⟩
   ·rw[e];exact⟨B6 _,λ_=>rfl⟩
   ·grind
  ·refine⟨⟨Y.1,?_⟩,rfl⟩;rcases am r b (fZ (st r) j) st with ⟨rfl,e⟩|⟨_,e⟩
   ·rw[e];exact Y.2
   ·rw[e];exact Y.2
  ·rcases am r q (fZ (st r) j) st with ⟨rfl,e⟩|⟨_,e⟩
   ·rw[e]at J;exact⟨⟨X,(u j' X J M).1,M⟩,rfl,λ_ _=>rfl⟩
   ·grind
 refine h.relabel hV r _ _ (B6 _) rfl (by simp[fZ,aT]) (λ_ h=>.inl h) ?_ ?_ (λi l z y=>(u i l z y).1) ?_ ?_
 ·rintro k (H|⟨⟨l,z,y⟩,H⟩)
  ·exact h.nwlt k H
  ·exact⟨h.own_lt z y k H,(h.ownb r j l z y k H).2.1⟩
 ·intro i l v z y;rcases aS _ _ _ _ _ z with ⟨rfl,rfl,hj⟩|⟨Z,z⟩
  ·have J:(st r).ls[i]?=some (st r).ls[i]:=BZ hj;have M:=h.leaf r i _ v J y;rw[O _ J];generalize hq:(st r).ls[i]=q at J M;cases q with
   |own p hh E e xs =>
    cases hh with
    |some _=>trivial
    |none =>
     refine Rd.mono (λk H=>?_) (OwH.rd (m:=false) (E':=E) M);rcases H with H|H
     ·exact bW (W':={ W with nw:=_ }) (λh=>h) (λ_ h=>.inl h) k H
     ·exact .inl (.inr ⟨⟨_,J,trivial⟩,H⟩)
   |_=>exact M.carry hV.ro I (λho=>ho.elim)
  ·exact (h.leaf r i l v z y).carry hV.ro I (λ_=>⟨rfl,λ_ _=>rfl⟩)
 ·intro q i l z y k H;have J:(st q).ls[i]?=some l/\(q,i)≠(r,j):=by
   rcases am r q (fZ (st r) j) st with ⟨rfl,e⟩|⟨Z,e⟩
   ·rw[e]at z;have:=u i l z y
    simp_all
   ·grind
  rintro (R|⟨⟨X,M,h5⟩,R⟩)
  ·exact (h.ownb q i l J.1 y k H).1 R
  ·obtain⟨rfl,rfl⟩:=h.sep q i l r j X J.1 y M h5 k H R
   simp_all
 ·rintro b Y (R|⟨⟨X,M,h5⟩,R⟩)
  ·exact (h.box b Y).1 R
  ·exact (h.ownb r j X M h5 _ R).2.2 b Y rfl
theorem l6 (H:ay V):∀ (ks:List (Nat×Nat)),ap P V W st a w->ap P V W (ac (aM st ks) st) a w /\
  (∀ (q i:Nat) (l:Leaf),(ac (aM st ks) st q).ls[i]?=some l->ao l->(st q).ls[i]?=some l/\(q,i)∉ks) /\
  (∀ q,(ac (aM st ks) st q).sh=(st q).sh/\(st q).ver<=(ac (aM st ks) st q).ver)
 |[],h=>⟨h,λ_ _ _ z _=>⟨z,by simp⟩,λ_=>⟨rfl,B6 _⟩⟩
 |(r,j)::ks,h=>by
  obtain⟨z,O,I⟩:=l6 H ks h;have e:ac (aM st ((r,j)::ks)) st=ac [(r,gi (ac (aM st ks) st r) j)] (ac (aM st ks) st):=aQ _ _ _ _;rw[e];refine⟨z.kill1 H r j,λq i l y J=>?_,λq=>?_⟩
  ·have M:(ac (aM st ks) st q).ls[i]?=some l/\(q,i)≠(r,j):=by
    rcases am r q (gi (ac (aM st ks) st r) j) (ac (aM st ks) st) with ⟨rfl,e⟩|⟨u,e⟩
    ·rw[e]at y;rcases aS _ _ _ _ _ y with ⟨_,rfl,_⟩|⟨u,y⟩
     ·exact J.elim
     ·grind
    ·grind
   simp_all
  ·rcases am r q (gi (ac (aM st ks) st r) j) (ac (aM st ks) st) with ⟨rfl,e⟩|⟨u,e⟩
   ·rw[e];exact⟨(I q).1,(I q).2⟩
   ·grind
def Wit.frz (W:Wit)(st:St)(ks:List (Nat×Nat)):Wit :=
 { W with nw:=λk=>W.nw k\/∃ x∈ks,(∃ l,(st x.1).ls[x.2]?=some l/\ao l)/\k∈W.bs x.1 x.2 }
theorem ap.nw_congr (h:ap P V W st a w){nw':Nat->Prop}(e:∀ k,W.nw k<->nw' k):ap P V { W with nw:=nw' } st a w:=by
 have:nw'=W.nw:=funext λk=>propext (e k).symm
 subst this;exact h
theorem lz (Y:ay V):∀ (ks:List (Nat×Nat)),ap P V W st a w->ap P V (W.frz st ks) (ac (aE st ks) st) a w /\
  (∀ (q i:Nat) (l:Leaf),(ac (aE st ks) st q).ls[i]?=some l->ao l->(st q).ls[i]?=some l/\(q,i)∉ks) /\
  (∀ q,(ac (aE st ks) st q).sh=(st q).sh/\(st q).ver<=(ac (aE st ks) st q).ver)
 |[],h=>⟨h.nw_congr (λk=>by simp),λ_ _ _ J _=>⟨J,by simp⟩,λ_=>⟨rfl,B6 _⟩⟩
 |(r,j)::ks,h=>by
  obtain⟨J,Z,X⟩:=lz Y ks h;have e:ac (aE st ((r,j)::ks)) st=ac [(r,fZ (ac (aE st ks) st r) j)] (ac (aE st ks) st):=aQ _ _ _ _;rw[e];refine⟨?_,λq i l O R=>?_,λq=>?_⟩
  ·have h7:=J.frz1 Y r j;have h8:=h7.nw_congr (nw':=(W.frz st ((r,j)::ks)).nw) (λk=>?_)
   ·exact h8
   ·simp only[Wit.frz];constructor
    ·rintro ((y|⟨x,M,y⟩)|⟨⟨l,u,H⟩,y⟩)
     ·grind
     ·grind
     ·exact .inr ⟨(r,j),Cj ..,⟨l,(Z r j l u H).1,H⟩,y⟩
    ·rintro (y|⟨x,M,⟨l,u,H⟩,y⟩)
     ·grind
     ·rcases Ch.1 M with rfl|M
      ·by_cases I:(r,j)∈ks
       ·exact .inl (.inr ⟨(r,j),I,⟨l,u,H⟩,y⟩)
       ·refine .inr ⟨⟨l,?_,H⟩,y⟩;exact iP ks I u
      ·grind
  ·have h6:(ac (aE st ks) st q).ls[i]?=some l/\(q,i)≠(r,j):=by
    rcases am r q (fZ (ac (aE st ks) st r) j) (ac (aE st ks) st) with ⟨rfl,e⟩|⟨z,e⟩
    ·rw[e]at O;rcases aS _ _ _ _ _ O with ⟨rfl,rfl,hj⟩|⟨z,O⟩
     ·exfalso;generalize (ac (aE st ks) st q).ls.getD i .dead=l' at R;cases l' with
      |own p hh E e xs=>cases hh <;> exact R.elim
      |_=>exact R.elim
     ·grind
    ·grind
   simp_all
  ·rcases am r q (fZ (ac (aE st ks) st r) j) (ac (aE st ks) st) with ⟨rfl,e⟩|⟨z,e⟩
   ·rw[e];exact⟨(X q).1,(X q).2⟩
   ·grind
where
 iP:∀ (ks:List (Nat×Nat)) {r j:Nat} {l:Leaf},(r,j)∉ks->(st r).ls[j]?=some l->(ac (aE st ks) st r).ls[j]?=some l
  |[],_,_,_,_,u=>u
  |(q,i)::ks,r,j,l,hn,u=>by
   have J:=iP ks (λI=>hn (Cb _ I)) u;have e:ac (aE st ((q,i)::ks)) st=ac [(q,fZ (ac (aE st ks) st q) i)] (ac (aE st ks) st):=aQ _ _ _ _;rw[e];rcases am q r (fZ (ac (aE st ks) st q) i) (ac (aE st ks) st) with ⟨rfl,e⟩|⟨z,e⟩
   ·rw[e];simp only[fZ,aT]
    grind
   ·grind
theorem ap.put (hV:ay V)(h:ap P V W st a w)(d:Nat)(hd:d<V.nt)(a3:∀ x∈V.fixt,x.1≠d)(n:Nat)(sh:aG)(ls:List Leaf)(v:Value)
  (J:List Value) (I:Nat->List Nat) (hn:(st d).ver<n) (hs:ei sh v J) (hl:ls.length=J.length) (h1:∀ u∈J,u.oneCell'=true)
  (a2:∀ (j:Nat) (l:Leaf) (u:Value),ls[j]?=some l->J[j]?=some u->aI P V W st w (I j) l u)
  (a0:∀ (j:Nat) (l:Leaf),ls[j]?=some l->ao l->∀ k∈I j,¬ W.nw k/\¬ V.prot k/\(∀ b,live st b->W.β b≠k) /\
   ∀ (r1 j1:Nat) (l1:Leaf),r1≠d->(st r1).ls[j1]?=some l1->ao l1->k∉W.bs r1 j1)
  (a4:∀ (j Z:Nat) (l l':Leaf),ls[j]?=some l->ao l->ls[Z]?=some l'->ao l'->∀ k,k∈I j->k∈I Z->j=Z) :
  ap P V { W with cs:=λr=>if r=d then J else W.cs r,bs:=λr j=>if r=d then I j else W.bs r j } (ac [(d,⟨n,sh,ls⟩)] st) (a.put (some d) v) w:=by
 have a6:d<B0:=CK hd hV.ntB;have Y:∀ b,live (ac [(d,⟨n,sh,ls⟩)] st) b<->live st b:=by
  intro b;by_cases hb:B0<=b
  ·rw[live,live,aH (by omega)]
  ·simp[live,hb]
 have X:cE V W { W with cs:=λr=>if r=d then J else W.cs r,bs:=λr j=>if r=d then I j else W.bs r j } st (ac [(d,⟨n,sh,ls⟩)] st) w w:=by
  refine⟨λq=>?_,λb hb=>⟨(Y b).2 hb,rfl⟩,λ_ h=>h,λ_ _=>rfl,λ_ q Z l' M h4 h5=>?_⟩;rcases am d q ⟨n,sh,ls⟩ st with ⟨rfl,e⟩|⟨y,e⟩
  ·grind
  ·grind
  rcases am d q ⟨n,sh,ls⟩ st with ⟨rfl,e⟩|⟨y,e⟩
  ·grind
  ·grind
 have a1:∀ t,(a.put (some d) v).tmps.getD t undef=if t=d then v else a.tmps.getD t undef:=by
  intro t;by_cases ht:t=d
  ·subst ht;have:t<a.tmps.size:=by rw[h.nt];exact hd
   simp[Cz,this]
  ·simp only[Cz,if_neg ht];rw[CQ,CQ,Array.getElem?_setIfInBounds_ne (λe=>ht e.symm)]
 exact {
  nt:=by simp[Cz,h.nt],df:=by simp[Cz,h.df]
  slots:=λt ht=>by
   rw[a1];rcases am d t ⟨n,sh,ls⟩ st with ⟨rfl,e⟩|⟨y,e⟩
   ·grind
   ·rw[e];simpa[y]using h.slots t ht
  boxes:=λb hb=>by
   have:b≠d:=by omega
   rw[aH this];simpa[this]using h.boxes b hb
  len:=λq=>by
   rcases am d q ⟨n,sh,ls⟩ st with ⟨rfl,e⟩|⟨y,e⟩
   ·grind
   ·rw[e];simpa[y]using h.len q
  one:=λq u hu=>by
   by_cases hq:q=d
   ·grind
   ·simp only[hq]at hu;exact h.one q u hu
  leaf:=λq j l u H M=>by
   rcases am d q ⟨n,sh,ls⟩ st with ⟨rfl,e⟩|⟨y,e⟩
   ·rw[e]at H;simp at M;exact (a2 j l u H M).carry hV.ro X (λ_=>⟨by simp,λ_ _=>rfl⟩)
   ·rw[e]at H;simp only[y]at M;exact (h.leaf q j l u H M).carry hV.ro X (λ_=>⟨by simp[y],λ_ _=>rfl⟩)
  ownb:=λq j l H M k O=>by
   rcases am d q ⟨n,sh,ls⟩ st with ⟨rfl,e⟩|⟨y,e⟩
   ·grind
   ·rw[e]at H;simp only[y]at O;have:=h.ownb q j l H M k O
    grind
  sep:=λq j l q' Z l' H M h4 h5 k O z=>by
   rcases am d q ⟨n,sh,ls⟩ st with ⟨e0,e⟩|⟨y,e⟩ <;> rcases am d q' ⟨n,sh,ls⟩ st with ⟨e1,e'⟩|⟨R,e'⟩
   ·rw[e]at H;rw[e']at h4;simp only[e0]at O;simp only[e1]at z;exact⟨e0.trans e1.symm,a4 j Z l l' H M h4 h5 k O z⟩
   ·rw[e]at H;rw[e']at h4;simp only[e0]at O;simp only[R]at z;exact absurd z ((a0 j l H M k O).2.2.2 q' Z l' R h4 h5)
   ·rw[e]at H;rw[e']at h4;simp only[y]at O;simp only[e1]at z;exact absurd O ((a0 Z l' h4 h5 k z).2.2.2 q j l y H M)
   ·rw[e]at H;rw[e']at h4;simp only[y]at O;simp only[R]at z;exact h.sep q j l q' Z l' H M h4 h5 k O z
  box:=λb hb=>h.box b ((Y b).1 hb)
  inj:=λb b' hb a5=>h.inj b b' ((Y b).1 hb) ((Y b').1 a5)
  nwlt:=h.nwlt
  os:=h.os,tape:=h.tape,output:=h.output,size:=h.size,keep:=h.keep
  fixb:=λx hx=>⟨(Y _).2 (h.fixb x hx).1,(h.fixb x hx).2⟩
  fixt:=λx hx=>by rw[a1,if_neg (a3 x hx)];exact h.fixt x hx }
theorem ap.putLs (J:ay V)(h:ap P V W st a w)(d:Nat)(O:d<V.nt)(y:∀ x∈V.fixt,x.1≠d)(n:Nat)(sh:aG)(ls:List Leaf)(v:Value)
  (r:List Value) (X:(st d).ver<n) (R:ei sh v r) (z:aC P V W st w ls r) :
  Rel P V (ac [(d,⟨n,sh,ls⟩)] st) (a.put (some d) v) w :=
 ⟨_,h.put J d O y n sh ls v r (λ_=>[]) X R z.length z.one' (λj l u M I=>(z.at_ j l u M I).1) (λ_ _ _ _ k H=>by simp at H)
  (λ_ _ _ _ _ _ _ _ k H=>by simp at H)⟩
end
def zeroCells:Ty->List Value
 |.int k=>[.int k 0]
 |.bool=>[.bool false]
 |.str=>[.string CJ]
 |.unit=>[]
 |.pair a b=>zeroCells a++zeroCells b
 |.hdr=>[.slice none 0 0]
 |.list _ _ _=>[.slice none 0 0]
def bS (P:Program)(t:TypeId)(n:Nat):Prop:=(P.info? t).map (·.size)=some n
def d7 (P:Program)(t:TypeId)(z:Value):Prop:=(P.info? t).map (·.zero)=some (some z)
def EqAt (P:Program)(t:TypeId)(a:Ty):Prop:=a.flat=true->∀ (w:World) (G:Nat->Prop) (x y:a.den) (r u:List Value),Rd w G a x r->Rd w G a y u ->
 (Op.equal t (.agg r.toArray) (.agg u.toArray)).run P w=.ok (a.eqv x y) w
def oY (P:Program)(t:TypeId):TI->Prop
 |.int k=>P.underlying t=some (.int k)/\bS P t 1/\d7 P t (.int k 0)
 |.bool=>P.underlying t=some .bool/\bS P t 1/\d7 P t (.bool false)
 |.str=>P.underlying t=some .string/\bS P t 1/\d7 P t (.string CJ)
 |.slice E e r=>P.underlying t=some (.slice E)/\bS P t 1/\d7 P t (.slice none 0 0)/\0<e.cells/\(0<r/\(e=.int .u8->P.underlying E=some (.int .u8))) /\
  ∃ i z,P.info? E=some i/\i.size=e.cells/\i.bytes=r/\i.zero=some z/\z.cells.toList=zeroCells e
 |.struct a u=>(∃ H,P.underlying t=some (.struct H)/\H.toList.mapM (λf=>(P.info? f.type).map λi=>(f.offset,i.size))=some (u.map λx=>(x.1,x.2.1)) /\
  ∀ (i off n:Nat) (agg:Bool),u[i]?=some (off,n,agg)->(agg=false->n=1)/\∃ f:Field,H[i]?=some f/\f.offset=off/\0<n/\off+n<=a.cells/\bS P f.type n /\
   (P.underlying f.type).map (λd=>match d with|.struct _|.array _ _=>true|_=>false)=some agg) /\
  bS P t a.cells/\d7 P t (.agg (zeroCells a).toArray)/\EqAt P t a/\P.eqGuardType P.depth t=false
 |.arr e n=>(∃ E,P.underlying t=some (.array n E)/\bS P E e.cells/\(P.underlying E).map (λd=>match d with|.struct _|.array _ _=>true|_=>false)=some e.isAgg)/\0<e.cells /\
  bS P t (n*e.cells)/\d7 P t (.agg ((CF n (zeroCells e)).flatten).toArray)
 |.ptr=>(∃ e,P.underlying t=some (.pointer e))/\bS P t 1/\d7 P t (.pointer none)
 |.fn=>(∃ x y z,P.underlying t=some (.func x y z))/\bS P t 1/\d7 P t .nilFunc
 |.none=>True
def TOk (P:Program)(T:TypeId->TI):Prop:=∀ t,oY P t (T t)
theorem sL {P:Program}:∀ {l:List (TypeId×TI)},(∀ x∈l,oY P x.1 x.2)->TOk P (gf l)
 |[],_,_=>trivial
 |(t,i)::l,h,u=>by
  simp only[gf];cases y:BV t u with
  |false=>exact sL (λx r=>h x (Cb _ r)) u
  |true =>
   simp_all
section
variable {P:Program} {V:Env} {W:Wit} {st:St} {w:World} {a:Act} {o:Oper}
def mS (P:Program)(V:Env)(o:Oper)(st:St)(U:Upd)(a:Act)(w:World):Prop :=
 ∀ (next:Act->World->Prop) (Q:Exit->Act->World->Prop),(∀ r u,Rel P V (ac U st) r u->next r u)->o.wp P a w next Q
theorem dY {v:Value}{w':World}{next:Act->World->Prop}{Q:Exit->Act->World->Prop}(h:(execOp a.eval o).run P w=.ok (.value v) w')(r:next (a.put o.dst v) w'):o.wp P a w next Q:=by
 unfold Oper.wp;rw[h];exact r
theorem pN {w':World}{next:Act->World->Prop}{Q:Exit->Act->World->Prop}(h:(execOp a.eval o).run P w=.ok .skip w')(r:next (a.put o.dst undef) w'):o.wp P a w next Q:=by
 unfold Oper.wp;rw[h];exact r
def bP (V:Env)(o:Oper):Prop:=∀ d,o.dst=some d->d<V.nt/\∀ x∈V.fixt,x.1≠d
theorem dZ (z:ay V)(h:ap P V W st a w){d:Nat}(y:o.dst=some d)(u:bP V o){v:Value}{sh:aG}{ls:List Leaf}{cs:List Value}
  (r:(execOp a.eval o).run P w=.ok (.value v) w) (H:ei sh v cs) (I:aC P V W st w ls cs):mS P V o st (ck st [] d sh ls) a w:=by
 intro next Q J;refine dY r ?_;rw[y];exact J _ _ (h.putLs z d (u d y).1 (u d y).2 _ sh ls v cs (CY _) H I)
theorem aN (z:ay V)(h:ap P V W st a w){d:Nat}(H:o.dst=some d)(y:bP V o){v:Value}{l:Leaf}
  (r:(execOp a.eval o).run P w=.ok (.value v) w) (I:aI P V W st w [] l v) (u:¬ ao l) (J:v.oneCell'=true):mS P V o st (ck st [] d .one [l]) a w :=
 dZ z h H y r (cs:=[v]) rfl ⟨⟨I,u,J⟩,trivial⟩
theorem kf {agg:Bool}{v:Value}{cs:List Value}(h:db agg v cs):ei (bk agg) v cs:=by
 cases agg <;> exact h
theorem bF (h:ap P V W st a w){x:Operand}{k:IntKind}{n:Int}(r:one st x=.int k n):a.eval x=.int k n:=by
 have:=(bt h x (by rw[r];simp)).1;rw[r]at this;exact this
theorem im (h:ap P V W st a w){x:Operand}{b:Bool}(r:one st x=.bool b):a.eval x=.bool b:=by
 have:=(bt h x (by rw[r];simp)).1;rw[r]at this;exact this
theorem iE (h:ap P V W st a w){x:Operand}{b:ByteArray}(r:one st x=.str b):a.eval x=.string b:=by
 have:=(bt h x (by rw[r];simp)).1;rw[r]at this;exact this
theorem vL (r:BinOp)(k:IntKind)(t t':TypeId)(x y:Operand)(m n:Int)(l:Leaf)(u:sC r k m n=some l)(z:a.eval x=.int k m)(I:a.eval y=.int k n)(H:o.op=.binOp r t x y t') :
  ∃ v,(execOp a.eval o).run P w=.ok (.value v) w/\aI P V W st w [] l v/\¬ ao l/\v.oneCell'=true:=by
 cases r <;> simp only[sC,B5,reduceCtorEq]at u <;> subst u <;>
  exact⟨_,by simp[execOp,H,z,I,eqGuard,Go.binOp,Op.intArith,Op.intCmp],rfl,id,rfl⟩
theorem BT (H:ay V)(h:ap P V W st a w)(ks:List (Nat×Nat)):cE V W W st (ac (aM st ks) st) w w:=by
 obtain⟨_,I,y⟩:=l6 H ks h;exact⟨λq=>⟨(y q).2,λ_=>rfl⟩,λb u=>⟨⟨u.1,by rw[(y b).1];exact u.2⟩,rfl⟩,λ_ h=>h,λ_ _=>rfl,λ_ q j l z r _=>⟨⟨l,(I q j l z r).1,r⟩,rfl,λ_ _=>rfl⟩⟩
theorem step_frz (H:ay V)(h:ap P V W st a w)(ks:List (Nat×Nat)):cE V W (W.frz st ks) st (ac (aE st ks) st) w w:=by
 obtain⟨_,I,y⟩:=lz H ks h;exact⟨λq=>⟨(y q).2,λ_=>rfl⟩,λb u=>⟨⟨u.1,by rw[(y b).1];exact u.2⟩,rfl⟩,λ_ h=>.inl h,λ_ _=>rfl,λ_ q j l z r _=>⟨⟨l,(I q j l z r).1,r⟩,rfl,λ_ _=>rfl⟩⟩
def dq (W:Wit)(ls:List Leaf)(j:Nat):List Nat :=
 match ls[j]? with
 |some (.al r i _)=>W.bs r i
 |_=>[]
theorem xe:∀ {ls:List Leaf} {j r i n:Nat},ls[j]?=some (.al r i n)->ao (aD st (.al r i n))->(r,i)∈bz st ls
 |l::ls,0,r,i,n,h,u=>by
  simp at h;subst h;generalize y:aD st (.al r i n)=q at u;cases q <;> first|exact u.elim|simp[bz,y]
 |l::ls,j+1,r,i,n,h,u=>by
  have:=xe (ls:=ls) (by simpa using h) u;cases l <;> simp[bz,this]
theorem mT:∀ {ls:List Leaf} {j r i n:Nat},ls[j]?=some (.al r i n)->ao (aD st (.al r i n))->(r,i)∈b7 st ls
 |l::ls,0,r,i,n,h,u=>by
  simp at h;subst h;generalize y:aD st (.al r i n)=q at u;cases q <;> first|exact u.elim|simp[b7,y]
 |l::ls,j+1,r,i,n,h,u=>by
  have:=mT (ls:=ls) (by simpa using h) u;cases l <;> simp[b7,this]
theorem ou:∀ {ls:List Leaf} {j u r i n I:Nat},a8 (b7 st ls)=true->ls[j]?=some (.al r i n)->ao (aD st (.al r i n)) ->
    ls[u]?=some (.al r i I)->ao (aD st (.al r i I))->j=u
  |l::ls,j,u,r,i,n,I,y,Z,M,R,h4=>by
    have a0:∀ (m:Nat) (k:Nat),l=.al r i m->ao (aD st (.al r i m))->(∃ z,ls[k]?=some (.al r i z)/\ao (aD st (.al r i z)))->False:=by
      rintro m k rfl J ⟨z,h5,X⟩;have h7:=mT h5 X;have Y:b7 st (.al r i m::ls)=(r,i)::b7 st ls:=by
        generalize O:aD st (.al r i m)=q at J;cases q <;> first|exact J.elim|simp[b7,O]
      rw[Y]at y;simp only[a8,BY,CU]at y;have:=y.1;rw[CV]at this;have:=this _ h7;simp at this
    have H:a8 (b7 st ls)=true:=by
      cases l <;> first
        |exact y
        | (rename_i r' u v'
           simp only[b7]at y;split at y
           · simp only[Cr,a8]at y
             grind
           · simpa using y)
    cases j with
    |zero =>
      cases u with
      |zero=>rfl
      |succ u =>
        grind
    |succ j =>
      cases u with
      |zero =>
        grind
      |succ u =>
        have:=ou (ls:=ls) H (by simpa using Z) M (by simpa using R) h4;omega
theorem l7 (M:ay V)(h:ap P V W st a w){l:Leaf}{v:Value}(u:aI P V W st w [] l v)(y:¬ ao l) :
  (∃ r i n,l=.al r i n/\ao (aD st l)/\aI P V W st w (W.bs r i) (aD st l) v/\(st r).ls[i]?=some (aD st l)) \/
  (¬ ao (aD st l)/\aI P V W st w [] (aD st l) v):=by
 cases l with
 |al r j n =>
  by_cases H:aD st (.al r j n)=.dead
  ·rw[H];exact .inr ⟨id,trivial⟩
  ·obtain⟨R,I⟩:=fa rfl H;have O:=u.2 R;have J:=h.leaf r j _ v I O;by_cases z:ao (aD st (.al r j n))
   ·grind
   ·exact .inr ⟨z,J.carry M.ro (cE.refl V W st w) (λh=>absurd h z)⟩
 |own p hh E e Y=>exact absurd trivial y
 |nal p Z ep X E e Y =>
  simp only[aD];cases br st Z ep with
  |false=>exact .inr ⟨id,trivial⟩
  |true=>exact .inr ⟨id,u⟩
 |_=>exact .inr ⟨id,u⟩
end
section
variable {P:Program} {V:Env} {W:Wit} {st:St} {w w':World} {a:Act} {o:Oper} {ls:List Leaf} {cs:List Value}
theorem iF {st st':St}(h:∀ q,(st' q).sh=(st q).sh)(b:Nat):live st' b<->live st b:=by simp[live,h]
def aB (st:St)(x:Nat×Nat):Prop:=∃ l,(st x.1).ls[x.2]?=some l/\ao l
def aZ (W:Wit)(ks:List (Nat×Nat)):List Nat:=ks.flatMap λx=>W.bs x.1 x.2
theorem dK (W:Wit)(a b:List (Nat×Nat)):aZ W (a++b)=aZ W a++aZ W b:=List.flatMap_append
theorem gu {W:Wit}{ks:List (Nat×Nat)}{k:Nat}:k∈aZ W ks<->∃ x∈ks,k∈W.bs x.1 x.2:=List.mem_flatMap
theorem ko {W:Wit}{p:Bool}{ks:List (Nat×Nat)}(r:∀ x∈ks,aB st x):∀ k,bq V W p ks k->gd V (W.frz st ks) p k:=by
 rintro k (u|⟨x,y,u⟩)
 ·exact bW (W':=W.frz st ks) (λh=>h) (λ_ h=>Or.inl h) k u
 ·exact .inl (.inr ⟨x,y,r x y,u⟩)
theorem nU {a b:List (Nat×Nat)}(h:dE a b=true):∀ x∈a,x∉b:=by
 intro x r u;simp only[dE,CU,CV]at h;have:=h x r;simp only[Cq,CV]at this;have:=this x u;simp[iA]at this
theorem fG (hV:ay V){W:Wit}{a:Act}{w:World}(h:ap P V W st a w){frz kill:List (Nat×Nat)}(a1:dE frz kill=true)(Y:∀ x∈kill,aB st x) :
  ap P V (W.frz st frz) (ac (aM (ac (aE st frz) st) kill++aE st frz) st) a w /\
  (∀ (q i:Nat) (l:Leaf),(ac (aM (ac (aE st frz) st) kill++aE st frz) st q).ls[i]?=some l->ao l->(st q).ls[i]?=some l/\(q,i)∉frz/\(q,i)∉kill) /\
  (∀ q,(ac (aM (ac (aE st frz) st) kill++aE st frz) st q).sh=(st q).sh/\(st q).ver<=(ac (aM (ac (aE st frz) st) kill++aE st frz) st q).ver) /\
  (∀ k∈aZ W kill,¬ (W.frz st frz).nw k/\¬ V.prot k/\k<w.heap.size/\(∀ b,live (ac (aM (ac (aE st frz) st) kill++aE st frz) st) b->W.β b≠k) /\
   ∀ (I i:Nat) (l:Leaf),(ac (aM (ac (aE st frz) st) kill++aE st frz) st I).ls[i]?=some l->ao l->k∉W.bs I i):=by
 obtain⟨h1,h2,h3⟩:=lz hV frz h;obtain⟨h4,h5,R⟩:=l6 hV kill h1;rw[<- bB]at h4 h5 R;have J:∀ q,(ac (aM (ac (aE st frz) st) kill++aE st frz) st q).sh=(st q).sh:=λq=>(R q).1.trans (h3 q).1
 have u:∀ (q i:Nat) (l:Leaf),(ac (aM (ac (aE st frz) st) kill++aE st frz) st q).ls[i]?=some l->ao l->(st q).ls[i]?=some l/\(q,i)∉frz/\(q,i)∉kill:=by
  simp_all
 refine⟨h4,u,λq=>⟨J q,B9 (h3 q).2 (R q).2⟩,λk z=>?_⟩;obtain⟨x,hx,z⟩:=gu.1 z;obtain⟨l,M,r⟩:=Y x hx;have h7:=h.ownb x.1 x.2 l M r k z;refine⟨?_,h7.2.1,h.own_lt M r k z,λb hb=>h7.2.2 b ((iF J b).1 hb),λI i l1 h8 h9 O=>?_⟩
 ·rintro (hn|⟨y,hy,⟨l2,X,H⟩,Z⟩)
  ·grind
  ·obtain⟨e1,e2⟩:=h.sep y.1 y.2 l2 x.1 x.2 l X H M r k Z z;exact nU a1 y hy (by rw[show y=x from Prod.ext e1 e2];exact hx)
 ·obtain⟨a0,_,a2⟩:=u I i l1 h8 h9;obtain⟨e1,e2⟩:=h.sep x.1 x.2 l I i l1 M r a0 h9 k z O
  simp_all
theorem zZ (z:ay V)(h:ap P V W st a w)(frz kill:List (Nat×Nat)):cE V W (W.frz st frz) st (ac (aM (ac (aE st frz) st) kill++aE st frz) st) w w:=by
 obtain⟨J,M,I⟩:=lz z frz h;obtain⟨_,y,r⟩:=l6 z kill J;rw[<- bB]at y r;exact⟨λq=>⟨B9 (I q).2 (r q).2,λ_=>rfl⟩,λb H=>⟨⟨H.1,by rw[(r b).1,(I b).1];exact H.2⟩,rfl⟩,λ_ h=>.inl h,λ_ _=>rfl,
  λ_ q j l O u _=>⟨⟨l,(M q j l (y q j l O u).1 u).1,u⟩,rfl,λ_ _=>rfl⟩⟩
theorem sM:∀ {ls:List Leaf} {j:Nat} {p:Bool} {ks:List (Nat×Nat×Nat)} {ep:Nat} {E:TypeId} {e:Ty} {xs:List e.den},ls[j]?=some (.nal p ks ep none E e xs)->br st ks ep=true->∀ k∈ks,(k.1,k.2.1)∈dy st ls
 |l::ls,0,p,ks,ep,E,e,xs,h,y,k,u=>by
  simp at h;subst h;simp only[dy,aD]
  grind
 |l::ls,j+1,p,ks,ep,E,e,xs,h,y,k,u=>by
  have:=sM (ls:=ls) (by simpa using h) y k u;cases l with
  |nal O H I r J M z=>cases r <;> simp[dy,this]
  |_=>simp[dy,this]
theorem sN {ls:List Leaf}(h:ii st ls=true):a8 (b7 st ls)=true/\dE (dy st ls) (b7 st ls)=true:=by
 simpa[ii]using h
theorem ov (y:aC P V W st w ls cs){x:Nat×Nat}(u:x∈b7 st ls):aB st x:=by
 induction ls generalizing cs with
 |nil=>simp[b7]at u
 |cons l ls z =>
  cases cs with
  |nil=>exact y.elim
  |cons v cs =>
   cases l with
   |al r j n =>
    simp only[b7,CB]at u;rcases u with u|u
    ·split at u
     ·rename_i p J E e I H;simp at u;subst u;exact⟨_,(fa H (by simp)).2,trivial⟩
     ·grind
    ·exact z y.2 u
   |_=>exact z y.2 u
theorem Bc {l:Leaf}(h:ao (gq st l)):ao (aD st l)/\gq st l=aD st l:=by
 unfold gq at h ⊢;split at h
 ·exact h.elim
 ·exact⟨h,rfl⟩
theorem oZ (hV:ay V)(h:ap P V W st a w){ls:List Leaf}{cs:List Value}(hl:aC P V W st w ls cs)(a5:ii st ls=true) :
    ap P V (W.frz st (dy st ls)) (ac (mvU st ls) st) a w/\(dJ st ls).length=cs.length /\
    (∀ (j:Nat) (l:Leaf) (u:Value),(dJ st ls)[j]?=some l->cs[j]?=some u->aI P V (W.frz st (dy st ls)) (ac (mvU st ls) st) w (dq W ls j) l u) /\
    (∀ (j:Nat) (l:Leaf),(dJ st ls)[j]?=some l->ao l->∀ k∈dq W ls j,¬ (W.frz st (dy st ls)).nw k/\¬ V.prot k/\k<w.heap.size /\
      (∀ b,live (ac (mvU st ls) st) b->W.β b≠k) /\
      ∀ (r1 j1:Nat) (l1:Leaf),(ac (mvU st ls) st r1).ls[j1]?=some l1->ao l1->k∉W.bs r1 j1) /\
    (∀ (j j':Nat) (l l':Leaf),(dJ st ls)[j]?=some l->ao l->(dJ st ls)[j']?=some l'->ao l'->∀ k,k∈dq W ls j->k∈dq W ls j'->j=j'):=by
  obtain⟨hd,b2⟩:=sN a5;obtain⟨h1,h2,h3,a6⟩:=fG hV h b2 (λx hx=>ov hl hx);have J:=zZ hV h (dy st ls) (b7 st ls);show ap P V (W.frz st (dy st ls)) (ac (aM (ac (aE st (dy st ls)) st) (b7 st ls)++aE st (dy st ls)) st) a w/\_;have R:∀ (j:Nat) (l:Leaf),(dJ st ls)[j]?=some l->∃ z u,ls[j]?=some z/\cs[j]?=some u/\gq st z=l/\aI P V W st w [] z u/\¬ ao z:=by
    intro j l M;simp only[dJ,Cm,CC]at M;obtain⟨z,H,h5⟩:=M;have b1:j<cs.length:=by rw[<- hl.length];exact (BX.1 H).1
    have O:=BZ b1;have h7:=hl.at_ j z _ H O
    simp_all
  have y:∀ (j:Nat) (l:Leaf),(dJ st ls)[j]?=some l->ao l->∃ r i n,ls[j]?=some (.al r i n)/\ao (aD st (.al r i n))/\(st r).ls[i]?=some l:=by
    intro j l M ho;obtain⟨z,u,H,h5,rfl,O,h7⟩:=R j l M;obtain⟨Y,e0⟩:=Bc ho;rcases l7 hV h O h7 with ⟨r,i,n,rfl,h8,_,h9⟩|⟨h8,_⟩
    · grind
    · grind
  refine⟨h1,by simp[dJ,hl.length],λj l u M hu=>?_,λj l M ho k I=>?_,λj j' l l' M ho a3 Y k I a1=>?_⟩
  · obtain ⟨z, u', H, h5, rfl, O, h7⟩ := R j l M
    obtain rfl:u=u':=Option.some.inj (hu.symm.trans h5);have X:gq st z=aD st z->aI P V (W.frz st (dy st ls)) (ac (mvU st ls) st) w (dq W ls j) (gq st z) u:=by
      intro e0;rw[e0];rcases l7 hV h O h7 with ⟨r,i,n,rfl,h8,h9,_⟩|⟨h8,h9⟩
      · have:dq W ls j=W.bs r i:=by simp[dq,H]
        rw[this];exact h9.carry hV.ro J (λ_=>⟨rfl,λ_ _=>rfl⟩)
      · exact h9.carry hV.ro J (λh=>absurd h h8)
    by_cases Z:∃ p ks ep E e xs,aD st z=.nal p ks ep none E e xs
    · obtain⟨p,ks,ep,E,e,xs,Z⟩:=Z
      have e0:gq st z=.ro p E e xs:=by unfold gq;rw[Z]
      rw[e0];have a2:z=.nal p ks ep none E e xs/\br st ks ep=true:=by
        cases z with
        |al r i n=>exact absurd Z iT
        |nal p' ad b0 b3 E' e' b4 =>
          simp only[aD]at Z;cases hv:br st ad b0 with
          |false=>simp[hv]at Z
          |true =>
            simp_all
        |_=>simp[aD]at Z
      obtain⟨rfl,hv⟩:=a2;refine Rd.mono (λk I=>?_) (pM hv O).rd;rcases I with I|⟨x,hx,I⟩
      · exact bW (W':=W.frz st (dy st ls)) (λh=>h) (λ_ h=>Or.inl h) k I
      · exact .inl (.inr ⟨(x.1,x.2.1),sM H hv x hx,(cB hv).2.2 x hx,I⟩)
    · refine X ?_
      unfold gq
      grind
  · obtain⟨r,i,n,H,h5,O⟩:=y j l M ho
    have e:dq W ls j=W.bs r i:=by simp[dq,H]
    rw[e]at I;exact a6 k (gu.2 ⟨(r,i),mT H h5,I⟩)
  · obtain⟨r,i,n,H,h5,O⟩:=y j l M ho
    obtain⟨r',i',n',a0,a9,a4⟩:=y j' l' a3 Y;have e:dq W ls j=W.bs r i:=by simp[dq,H]
    have e':dq W ls j'=W.bs r' i':=by simp[dq,a0]
    rw[e]at I;rw[e']at a1;obtain⟨rfl,rfl⟩:=h.sep r i l r' i' l' O ho a4 Y k I a1;exact ou hd H h5 a0 a9
theorem zO (y:ay V)(h:ap P V W st a w)(z:aC P V W st w ls cs)(r:ii st ls=true):∀ q,(ac (mvU st ls) st q).sh=(st q).sh/\(st q).ver<=(ac (mvU st ls) st q).ver :=
 (fG y h (sN r).2 (λ_ u=>ov z u)).2.2.1
theorem ap.putMoved (M:ay V)(h:ap P V W st a w){ls:List Leaf}{cs:List Value}(J:aC P V W st w ls cs)(Z:ii st ls=true)
  (d:Nat) (I:d<V.nt) (r:∀ x∈V.fixt,x.1≠d) {sh:aG} {v:Value} (hs:ei sh v cs) :
  Rel P V (ac (ck st (mvU st ls) d sh (dJ st ls)) st) (a.put (some d) v) w:=by
 obtain⟨Y,O,R,H,h5⟩:=oZ M h J Z;exact⟨_,Y.put M d I r _ sh (dJ st ls) v cs (dq W ls) (CY _) hs O J.one' R
  (λj l u z k y=>⟨(H j l u z k y).1,(H j l u z k y).2.1,(H j l u z k y).2.2.2.1,λX j1 l1 _=>(H j l u z k y).2.2.2.2 X j1 l1⟩) h5⟩
theorem ap.setBoxG (hV:ay V)(h:ap P V W st a w)(b:Nat)(hb:B0<=b)(n:Nat)(ls:List Leaf)(a3:List Value)(X:Nat->List Nat)(g:Nat)(E:TypeId)
    (hn:(st b).ver<n) (hg:(live st b/\W.β b=g)\/(¬ live st b/\¬ ce V W st g/\∀ (j:Nat) (l:Leaf),ls[j]?=some l->ao l->∀ k∈X j,k≠g)) (bl:w'.heap[g]?=some (.cells a3.toArray E (0,0)))
    (b1:∀ k,ce V W st k->k≠g->w'.heap[k]?=w.heap[k]?) (a9:∀ (j:Nat) (l:Leaf),ls[j]?=some l->ao l->∀ k∈X j,k≠g->w'.heap[k]?=w.heap[k]?) (b4:w.heap.size<=w'.heap.size) (b9:w'.os=w.os) (ht:w'.tape=w.tape) (ho:w'.output=w.output)
    (hl:ls.length=a3.length) (h1:∀ u∈a3,u.oneCell'=true)
    (b0:∀ (j:Nat) (l:Leaf) (u:Value),ls[j]?=some l->a3[j]?=some u->aI P V W st w (X j) l u)
    (ad:∀ (j:Nat) (l:Leaf),ls[j]?=some l->ao l->∀ k∈X j,¬ W.nw k/\¬ V.prot k/\(∀ b,live st b->W.β b≠k) /\
      ∀ (r1 j1:Nat) (l1:Leaf),r1≠b->(st r1).ls[j1]?=some l1->ao l1->k∉W.bs r1 j1)
    (b3:∀ (j j':Nat) (l l':Leaf),ls[j]?=some l->ao l->ls[j']?=some l'->ao l'->∀ k,k∈X j->k∈X j'->j=j') :
    ap P V { W with β:=λr=>if r=b then g else W.β r,cs:=λr=>if r=b then a3 else W.cs r,bs:=λr j=>if r=b then X j else W.bs r j }
      (ac [(b,⟨n,.agg,ls⟩)] st) a w':=by
  have Y:¬ W.nw g/\¬ V.prot g/\(∀ q,q≠b->live st q->W.β q≠g)/\∀ (r1 j1:Nat) (l1:Leaf),(st r1).ls[j1]?=some l1->ao l1->g∉W.bs r1 j1:=by
    rcases hg with ⟨a0,rfl⟩|⟨a0,hg⟩
    · exact⟨(h.box b a0).1,(h.box b a0).2,λq hq bb e=>hq (h.inj q b bb a0 e),λr1 j1 l1 y J I=>(h.ownb r1 j1 l1 y J _ I).2.2 b a0 rfl⟩
    · have hu:=hg.1
      simp only[ce,not_or,not_exists,not_and]at hu
      grind
  have b5:∀ (j:Nat) (l:Leaf),ls[j]?=some l->ao l->∀ k∈X j,k≠g:=by
    grind
  have H:∀ q,live (ac [(b,⟨n,.agg,ls⟩)] st) q<->(q=b\/live st q):=by
    intro q;rcases am b q ⟨n,.agg,ls⟩ st with ⟨e0,e⟩|⟨z,e⟩
    · subst e0
      simp[live,e,hb]
    · simp[live,e,z]
  have M:∀ k,ce V W st k->k≠g->w'.heap[k]?=w.heap[k]?:=b1;have a5:cE V W { W with β:=λr=>if r=b then g else W.β r,cs:=λr=>if r=b then a3 else W.cs r,bs:=λr j=>if r=b then X j else W.bs r j } st (ac [(b,⟨n,.agg,ls⟩)] st) w w':=by
    refine⟨λq=>?_,λq hq=>⟨(H q).2 (.inr hq),?_⟩,λ_ h=>h,λk I=>M k (I.elim .inl (λh=>.inr (.inl h))) ?_,λ_ q j l y J Z=>?_⟩
    · rcases am b q ⟨n,.agg,ls⟩ st with ⟨rfl,e⟩|⟨z,e⟩
      · grind
      · grind
    · grind
    · grind
    · rcases am b q ⟨n,.agg,ls⟩ st with ⟨rfl,e⟩|⟨z,e⟩
      · grind
      · rw[e]at y
        refine⟨⟨l,y,J⟩,by simp[z],λk I=>M k (.inr (.inr (.inr ⟨q,j,l,y,J,I⟩))) ?_⟩
        grind
  exact {
    nt:=h.nt,df:=h.df
    slots:=λt ba=>by
      have : t ≠ b := by have : GH <= B0 := by decide
                         omega
      rw[aH this];simpa[this]using h.slots t ba
    boxes:=λq hq=>by
      rcases am b q ⟨n,.agg,ls⟩ st with ⟨rfl,e⟩|⟨z,e⟩
      · grind
      · rw[e]
        refine (h.boxes q hq).imp id λ⟨y,E',J⟩=>⟨y,E',?_⟩
        simp only[z,if_false];rw[M _ (.inr (.inr (.inl ⟨q,⟨hq,y⟩,rfl⟩))) (Y.2.2.1 q z ⟨hq,y⟩)];exact J
    len:=λq=>by
      rcases am b q ⟨n,.agg,ls⟩ st with ⟨rfl,e⟩|⟨z,e⟩
      · rw[e];simpa using hl
      · rw[e];simpa[z]using h.len q
    one:=λq u hu=>by
      by_cases hq:q=b
      · grind
      · simp only[hq]at hu;exact h.one q u hu
    leaf:=λq j l u y J=>by
      rcases am b q ⟨n,.agg,ls⟩ st with ⟨rfl,e⟩|⟨z,e⟩
      · rw[e]at y
        simp only at J;exact (b0 j l u y J).carry hV.ro a5 (λho=>⟨by simp,λk I=>a9 j l y ho k I (b5 j l y ho k I)⟩)
      · rw[e]at y
        simp only[z]at J;refine (h.leaf q j l u y J).carry hV.ro a5 (λho=>⟨by simp[z],λk I=>M k (.inr (.inr (.inr ⟨q,j,l,y,ho,I⟩))) ?_⟩);rintro rfl;exact Y.2.2.2 q j l y ho I
    ownb:=λq j l y J k I=>by
      rcases am b q ⟨n,.agg,ls⟩ st with ⟨rfl,e⟩|⟨z,e⟩
      · rw[e]at y
        simp only[if_true]at I;have Z:=ad j l y J k I;refine⟨Z.1,Z.2.1,λp hp=>?_⟩;by_cases a2:p=q
        · simp only[a2,if_true];exact λe=>b5 j l y J k I e.symm
        · simp only[a2,if_false];exact Z.2.2.1 p (((H p).1 hp).resolve_left a2)
      · rw[e]at y
        simp only[z,if_false]at I;have Z:=h.ownb q j l y J k I;refine⟨Z.1,Z.2.1,λp hp=>?_⟩;by_cases a2:p=b
        · simp only[a2,if_true];rintro rfl;exact Y.2.2.2 q j l y J I
        · simp only[a2,if_false];exact Z.2.2 p (((H p).1 hp).resolve_left a2)
    sep:=λq j l q' j' l' y J Z h5 k I a1=>by
      rcases am b q ⟨n,.agg,ls⟩ st with ⟨e0,e⟩|⟨z,e⟩ <;> rcases am b q' ⟨n,.agg,ls⟩ st with ⟨e1,e'⟩|⟨a4,e'⟩
      · rw[e]at y;rw[e']at Z
        simp only[e0,if_true]at I;simp only[e1,if_true]at a1;exact⟨e0.trans e1.symm,b3 j j' l l' y J Z h5 k I a1⟩
      · rw[e]at y;rw[e']at Z
        simp only[e0,if_true]at I;simp only[a4,if_false]at a1;exact absurd a1 ((ad j l y J k I).2.2.2 q' j' l' a4 Z h5)
      · rw[e]at y;rw[e']at Z
        simp only[z,if_false]at I;simp only[e1,if_true]at a1
        grind
      · rw[e]at y;rw[e']at Z
        simp only[z]at I;simp only[a4,if_false]at a1;exact h.sep q j l q' j' l' y J Z h5 k I a1
    box:=λq hq=>by
      by_cases O:q=b
      · simp only[O,if_true];exact⟨Y.1,Y.2.1⟩
      · simp only[O,if_false];exact h.box q (((H q).1 hq).resolve_left O)
    inj:=λq q' hq b2 e=>by
      by_cases O:q=b <;> by_cases R:q'=b
      · omega
      · simp only[O,if_true,R,if_false]at e
        exact absurd e.symm (Y.2.2.1 q' R (((H q').1 b2).resolve_left R))
      · simp only[O,if_false,R,if_true]at e
        exact absurd e (Y.2.2.1 q O (((H q).1 hq).resolve_left O))
      · simp only[O,if_false,R,if_false]at e
        exact h.inj q q' (((H q).1 hq).resolve_left O) (((H q').1 b2).resolve_left R) e
    nwlt:=λk I=>⟨CK (h.nwlt k I).1 b4,(h.nwlt k I).2⟩
    os:=b9.trans h.os,tape:=ht.trans h.tape,output:=ho.trans h.output,size:=B9 h.size b4
    keep:=λk hp=>by
      rw[M k (.inr (.inl hp)) (by rintro rfl;exact Y.2.1 hp)];exact h.keep k hp
    fixb:=λx hx=>by
      obtain⟨y,J⟩:=h.fixb x hx;refine⟨(H _).2 (.inr y),?_⟩;by_cases a6:x.1=b
      · simp only[a6,if_true]
        rcases hg with ⟨_,e⟩|⟨a0,_⟩
        · rw[<- e,<- a6];exact J
        · exact absurd (a6 ▸ y) a0
      · simpa only[a6,if_false]using J
    fixt:=h.fixt }
theorem ap.setBox (hV:ay V)(h:ap P V W st a w)(b:Nat)(hb:B0<=b)(n:Nat)(ls:List Leaf)(H:List Value)(z:Nat->List Nat)(g:Nat)(E:TypeId)
  (hn:(st b).ver<n) (hg:(live st b/\W.β b=g)\/(¬ live st b/\w.heap.size<=g)) (Z:w'.heap[g]?=some (.cells H.toArray E (0,0)))
  (I:∀ k,k<w.heap.size->k≠g->w'.heap[k]?=w.heap[k]?) (a1:w.heap.size<=w'.heap.size) (a0:w'.os=w.os) (ht:w'.tape=w.tape) (ho:w'.output=w.output)
  (hl:ls.length=H.length) (h1:∀ u∈H,u.oneCell'=true)
  (R:∀ (j:Nat) (l:Leaf) (u:Value),ls[j]?=some l->H[j]?=some u->aI P V W st w (z j) l u)
  (y:∀ (j:Nat) (l:Leaf),ls[j]?=some l->ao l->∀ k∈z j,¬ W.nw k/\¬ V.prot k/\k<w.heap.size/\(∀ b,live st b->W.β b≠k) /\
   ∀ (r1 j1:Nat) (l1:Leaf),r1≠b->(st r1).ls[j1]?=some l1->ao l1->k∉W.bs r1 j1)
  (Y:∀ (j j':Nat) (l l':Leaf),ls[j]?=some l->ao l->ls[j']?=some l'->ao l'->∀ k,k∈z j->k∈z j'->j=j') :
  ap P V { W with β:=λr=>if r=b then g else W.β r,cs:=λr=>if r=b then H else W.cs r,bs:=λr j=>if r=b then z j else W.bs r j }
   (ac [(b,⟨n,.agg,ls⟩)] st) a w' :=
 h.setBoxG hV b hb n ls H z g E hn (hg.imp id λ⟨h2,h3⟩=>⟨h2,λhu=>by have:=h.used_lt g hu;omega,λj l M O k J=>by have:=(y j l M O k J).2.2.1;omega⟩) Z
  (λk J X=>I k (h.used_lt k J) X) (λj l M O k J X=>I k (y j l M O k J).2.2.1 X) a1 a0 ht ho hl h1 R
  (λj l M O k J=>⟨(y j l M O k J).1,(y j l M O k J).2.1,(y j l M O k J).2.2.2.1,(y j l M O k J).2.2.2.2⟩) Y
theorem eq (y:aC P V W st w ls cs){x:Nat×Nat}(u:x∈bz st ls):aB st x:=by
 induction ls generalizing cs with
 |nil=>simp[bz]at u
 |cons l ls H =>
  cases cs with
  |nil=>exact y.elim
  |cons v cs =>
   cases l with
   |al r j n =>
    simp only[bz,CB]at u;rcases u with u|u
    ·split at u
     ·rename_i p X E e O z;simp at u;subst u;exact⟨_,(fa z (by simp)).2,trivial⟩
     ·grind
    ·exact H y.2 u
   |nal p R ep M E e O =>
    simp only[bz,CB]at u;rcases u with u|u
    ·split at u
     ·rename_i z;simp only[aD]at z;cases I:br st R ep with
      |false=>simp[I]at z
      |true =>
       obtain⟨k,J,rfl⟩:=List.mem_map.1 u;exact (cB I).2.2 k J
     ·grind
    ·exact H y.2 u
   |_=>exact H y.2 u
theorem BU (z:aC P V W st w ls cs){ks:List (Nat×Nat)}(u:∀ x∈bz st ls,x∈ks)(p:Bool):∀ k,bq V W p (bz st ls) k->gd V (W.frz st ks) p k:=by
 intro k r;rcases r with r|⟨x,y,r⟩
 ·exact bW (W':=W.frz st ks) (λh=>h) (λ_ h=>Or.inl h) k r
 ·exact .inl (.inr ⟨x,u x y,eq z y,r⟩)
end
section
variable {P:Program} {V:Env} {Γ:List Ctr} {T:TypeId->TI} {st:St} {o:Oper} {R:Type} {κ:Upd->Option R} {r:R}
def bY (P:Program)(V:Env)(o:Oper)(st:St)(κ:Upd->Option R)(r:R):Prop :=
 ∃ U,κ U=some r/\∀ W a w,ap P V W st a w->mS P V o st U a w
theorem yA (H:ay V)(y:bP V o){x:Operand}(u:o.op=.move x)(h:act Γ T o st κ=some r):bY P V o st κ r:=by
 simp only[act,wrU,u]at h;split at h
 ·rename_i d I;refine⟨_,h,λW a w z=>?_⟩;obtain⟨O,J,M⟩:=cU z x;exact dZ H z I y (by simp[execOp,u]) J M
 ·grind
theorem vM (J:ay V)(z:bP V o){x:Operand}(y:o.op=.assign x)(h:act Γ T o st κ=some r):bY P V o st κ r:=by
 simp only[act,y]at h;split at h
 ·rename_i d H;cases u:ii st (au st x).2 with
  |false=>simp[u]at h
  |true =>
   simp only[u]at h;refine⟨_,h,λW a w I=>?_⟩;obtain⟨Y,O,M⟩:=cU I x;intro next Q X;refine dY (v:=a.eval x) (w':=w) (by simp[execOp,y]) ?_;rw[H];exact X _ _ (I.putMoved J M u d (z d H).1 (z d H).2 O)
 ·grind
theorem yB (O:ay V)(H:bP V o){c x y:Operand}(u:o.op=.pick c x y)(h:act Γ T o st κ=some r):bY P V o st κ r:=by
 simp only[act,wrU,u]at h;split at h
 ·rename_i t X;cases t with
  |true =>
   split at h
   ·rename_i d I;refine⟨_,h,λW a w z=>?_⟩;obtain⟨Y,J,M⟩:=cU z x;exact dZ O z I H (v:=a.eval x) (by simp[execOp,u,im z X,asBool]) J M
   ·grind
  |false =>
   split at h
   ·rename_i d I;refine⟨_,h,λW a w z=>?_⟩;obtain⟨Y,J,M⟩:=cU z y;exact dZ O z I H (v:=a.eval y) (by simp[execOp,u,im z X,asBool]) J M
   ·grind
 ·grind
theorem sO (hV:ay V)(Z:bP V o){x:Operand}(X:o.op=.nilCheck x)(h:act Γ T o st κ=some r):bY P V o st κ r:=by
 simp only[act,wrU,X]at h;have I:∀ {l:Leaf} {d:Nat},one st x=l->l≠.dead->(∀ W a w,ap P V W st a w->aI P V W st w [] l (a.eval x)->∃ ad,a.eval x=.pointer (some ad))->o.dst=some d ->
   ∀ W a w,ap P V W st a w->mS P V o st (ck st [] d .one [l]) a w:=by
  intro l d z a0 hp H W a w M;obtain⟨Y,h2,h3,_⟩:=bt M x (by rw[z];exact a0);rw[z]at Y h2;obtain⟨ad,O⟩:=hp W a w M Y;exact aN hV M H Z (v:=a.eval x) (by simp[execOp,X,O]) Y h2 h3
 split at h
 ·split at h
  ·rename_i z _ d H;exact⟨_,h,I z (by simp) (λW a w M u=>by obtain⟨g,o',c,O,_⟩:=u;exact⟨_,O⟩) H⟩
  ·grind
 ·split at h
  ·rename_i z _ d H;exact⟨_,h,I z (by simp) (λW a w M u=>⟨_,u.2.2⟩) H⟩
  ·grind
 ·rename_i r' j v i sz off z;cases J:BV (st r').ver v with
  |false=>simp[J]at h
  |true =>
   simp only[J]at h;split at h
   ·rename_i d H;refine⟨_,h,I z (by simp) (λW a w M u=>?_) H⟩;obtain⟨g,a1,a2,_,_,O⟩:=u.2 (BW J)
    simp_all
   ·grind
 ·split at h
  ·rename_i z _ d H;exact⟨_,h,I z (by simp) (λW a w M u=>by obtain⟨b,ob,g,o',c,O,_⟩:=u;exact⟨_,O⟩) H⟩
  ·grind
 ·rename_i p ks ep b y off z;cases J:br st ks ep with
  |false=>simp[J]at h
  |true =>
   simp only[J]at h;split at h
   ·rename_i d H;refine⟨_,h,I z (by simp) (λW a w M u=>?_) H⟩;obtain⟨g,o',c,O,_⟩:=(u.2.2 (cB J).1 (cB J).2.1 (cB J).2.2:NpOk V W w p ks b y off _).rd
    simp_all
   ·grind
 ·grind
theorem yC (J:ay V)(z:bP V o){M:UnOp}{t:TypeId}{x:Operand}(u:o.op=.unOp M t x)(h:act Γ T o st κ=some r):bY P V o st κ r:=by
 simp only[act,wrU,u]at h;split at h
 ·rename_i b H;split at h
  ·rename_i d I;exact⟨_,h,λW a w y=>aN J y I z (v:=.bool (!b)) (by simp[execOp,u,im y H,Op.unary]) rfl id rfl⟩
  ·grind
 ·rename_i k n H;split at h
  ·rename_i d I;exact⟨_,h,λW a w y=>aN J y I z (v:=.int k (k.wrap (0-n))) (by simp[execOp,u,bF y H,Op.unary,Op.intArith]) rfl id rfl⟩
  ·grind
 ·grind
theorem um (hV:ay V)(X:bP V o){x:Operand}{i:Nat}(H:o.op=.extract x i)(h:act Γ T o st κ=some r):bY P V o st κ r:=by
 simp only[act,wrU,H]at h;split at h
 ·rename_i u ls he;split at h
  ·rename_i agg n hp;split at h
   ·rename_i d hd;refine⟨_,h,λW a w hr=>?_⟩;obtain⟨z,hs,hl⟩:=cU hr x;rw[he]at hs hl;obtain⟨y,hv,M⟩:=hs;have Y:∀ (u:List (Bool×Nat)) (y z:List Value) (i:Nat) (off:Nat),pL u y z->u[i]?=some (agg,n) ->
      ∃ v,y[i]?=some v/\db agg v ((z.drop ((u.take i).foldl (λa b=>a+b.2) off-off)).take n)/\off<=(u.take i).foldl (λa b=>a+b.2) off:=by
     intro u;induction u with
     |nil=>intro y z i off _ J;simp at J
     |cons p u ih =>
      rintro y z i off ⟨v,a0,c,Z,rfl,rfl,hc,a1,M⟩ J;cases i with
      |zero =>
       simp_all
      |succ i =>
       obtain⟨v',O,I,h3⟩:=ih a0 Z i (off+p.2) M (by simpa using J);refine⟨v',by simpa using O,?_,by simp;omega⟩;simp;have e:(u.take i).foldl (λa b=>a+b.2) (off+p.2)-off=c.length+((u.take i).foldl (λa b=>a+b.2) (off+p.2)-(off+p.2)):=by omega
       rw[e,<- Cu,List.drop_left];exact I
    obtain⟨v,O,I,_⟩:=Y u y z i 0 M hp;refine dZ hV hr hd X (v:=v) ?_ (kf I) ((hl.drop _).take n);simp[execOp,H,hv,Instr.extract,O]
   ·grind
  ·grind
 ·grind
theorem uV {W:Wit}{a:Act}{w:World}(J:ap P V W st a w):∀ (xs:List Operand) (u l:List Nat),
  xs.foldl (λ (u:Option (List Nat)) x=>u.bind λl=>match one st x with|.bp b 0=>some (l++[b])|_=>none) (some u)=some l ->
  ∃ y,l=u++y/\xs.map a.eval=y.map (λb=>Value.pointer (some ⟨W.β b,0,none⟩))/\∀ b∈y,B0<=b/\(st b).sh=.agg
 |[],u,l,h=>⟨[],by simpa using h.symm,rfl,by simp⟩
 |x::xs,u,l,h=>by
  simp at h;have H:∀ (xs:List Operand),xs.foldl (λ (u:Option (List Nat)) x=>u.bind λl=>match one st x with|.bp b 0=>some (l++[b])|_=>none) none=none:=by
   intro xs;induction xs with
   |nil=>rfl
   |cons x xs Y=>simpa using Y
  split at h
  ·rename_i b M;obtain⟨y,X,O,Z⟩:=uV J xs (u++[b]) l h;have z:=(bt J x (by rw[M];simp)).1;rw[M]at z;refine⟨b::y,by simp[X],?_,?_⟩
   ·simp only[Cw,O];rw[show a.eval x=_ from z.2.2]
   ·intro q I;rcases Ch.1 I with rfl|I
    ·exact⟨z.1,z.2.1⟩
    ·grind
  ·grind
theorem sP (O:ay V)(y:bP V o){fn:Fn}{first caps:Array Operand}(u:o.op=.makeFunc fn first caps)(h:act Γ T o st κ=some r):bY P V o st κ r:=by
 cases fn with
 |func f =>
  simp only[act,wrU,u]at h;cases z:BV first.size 0 with
  |false=>simp[z]at h
  |true =>
   simp only[z]at h;split at h
   ·rename_i l J;split at h
    ·rename_i d Z;refine⟨_,h,λW a w H=>?_⟩;obtain⟨l',X,I,M⟩:=uV H caps.toList [] l J;subst X;have Y:first=#[]:=Array.eq_empty_of_size_eq_zero (BW z)
     refine aN O H Z y (v:=.func (.func f) #[] (l.map λb=>Value.pointer (some ⟨W.β b,0,none⟩)).toArray) ?_ ⟨rfl,M⟩ id rfl;rw[<- I];simp[execOp,u,Instr.makeFunc,Y,<- CZ]
    ·grind
   ·grind
 |_=>simp[act,u]at h
theorem gv {α:Type}{xs:List α}{i:Int}{x:α}(h:idx xs i=some x):0<=i/\i<xs.length/\xs[i.toNat]?=some x:=by
 unfold idx at h
 grind
end
section
variable {P:Program} {V:Env} {Γ:List Ctr} {T:TypeId->TI} {st:St} {o:Oper} {R:Type} {κ:Upd->Option R} {r:R}
theorem xf {W:Wit}{a:Act}{w:World}(I:ap P V W st a w){x:Operand}{b:Ty}{p:Bool}{u:b.den}(z:(au st x).1=.agg)(J:cO st b (au st x).2=some (p,u)) :
  ∃ y G,a.eval x=.agg y.toArray/\Rd w G b u y:=by
 obtain⟨y,H,M⟩:=cU I x;rw[z]at H;exact⟨y,_,H,eE I M J⟩
theorem lA {t:TypeId}(y:P.underlying t=some .bool)(b u:Bool)(w:World):(Op.equal t (.bool b) (.bool u)).run P w=.ok (b==u) w:=by
 have e:Op.maxDepth=9999+1:=rfl;unfold Op.equal;rw[e];generalize 9999=m;unfold Op.equalIn;rw[CE,run_underlying y];rfl
theorem xg (Z:ay V)(hT:TOk P T)(J:bP V o){op:BinOp}{t t':TypeId}{x y:Operand}(H:o.op=.binOp op t x y t')(h:act Γ T o st κ=some r):bY P V o st κ r:=by
  simp only[act,wrU,H]at h;split at h
  · rename_i k m k' n X O
    cases op
    case shl =>
      simp only at h;cases Y:decide (n<0) with
      |true=>simp[Y]at h
      |false =>
        simp only[Y,cond_false]at h;split at h
        · rename_i d M
          refine⟨_,h,λW a w z=>aN Z z M J (v:=.int k (k.wrap (m*2 ^ (min n.toNat k.bits)))) ?_ rfl id rfl⟩;have:¬ n<0:=of_decide_eq_false Y;simp[execOp,H,bF z X,bF z O,eqGuard,Go.binOp,Op.shift,this]
        · cases h
    case shr =>
      simp only at h;cases Y:decide (n<0) with
      |true=>simp[Y]at h
      |false =>
        simp only[Y,cond_false]at h;split at h
        · rename_i d M
          refine⟨_,h,λW a w z=>aN Z z M J (v:=.int k (m.fdiv (2 ^ (min n.toNat k.bits)))) ?_ rfl id rfl⟩;have:¬ n<0:=of_decide_eq_false Y;simp[execOp,H,bF z X,bF z O,eqGuard,Go.binOp,Op.shift,this]
        · cases h
    case quo =>
      simp only at h;cases Y:decide (n=0) with
      |true=>simp[Y]at h
      |false =>
        simp only[Y,cond_false]at h;cases I:decide (k=k') with
        |false=>simp[I]at h
        |true =>
          simp only[I,cond_true]at h;have I:=of_decide_eq_true I;subst I;split at h
          · rename_i d M
            refine⟨_,h,λW a w z=>aN Z z M J (v:=.int k (k.wrap (m.tdiv n))) ?_ rfl id rfl⟩;have:¬ n=0:=of_decide_eq_false Y;simp[execOp,H,bF z X,bF z O,eqGuard,Go.binOp,Op.intDiv,this]
          · cases h
    case rem =>
      simp only at h;cases Y:decide (n=0) with
      |true=>simp[Y]at h
      |false =>
        simp only[Y,cond_false]at h;cases I:decide (k=k') with
        |false=>simp[I]at h
        |true =>
          simp only[I,cond_true]at h;have I:=of_decide_eq_true I;subst I;split at h
          · rename_i d M
            refine⟨_,h,λW a w z=>aN Z z M J (v:=.int k (m.tmod n)) ?_ rfl id rfl⟩;have:¬ n=0:=of_decide_eq_false Y;simp[execOp,H,bF z X,bF z O,eqGuard,Go.binOp,Op.intDiv,this]
          · cases h
    case and =>
      simp only at h;cases I:decide (k=k') with
      |false=>simp[I]at h
      |true =>
        simp only[I,cond_true]at h;have I:=of_decide_eq_true I;subst I;split at h
        · rename_i d M
          refine⟨_,h,λW a w z=>aN Z z M J (v:=.int k (k.wrap ((BitVec.ofInt k.bits m &&& BitVec.ofInt k.bits n).toNat))) ?_ rfl id rfl⟩;simp[execOp,H,bF z X,bF z O,eqGuard,Go.binOp,Op.intBits]
        · cases h
    case xor =>
      simp only at h;cases I:decide (k=k') with
      |false=>simp[I]at h
      |true =>
        simp only[I,cond_true]at h;have I:=of_decide_eq_true I;subst I;split at h
        · rename_i d M
          refine⟨_,h,λW a w z=>aN Z z M J (v:=.int k (k.wrap ((BitVec.ofInt k.bits m ^^^ BitVec.ofInt k.bits n).toNat))) ?_ rfl id rfl⟩;simp[execOp,H,bF z X,bF z O,eqGuard,Go.binOp,Op.intBits]
        · cases h
    all_goals
      simp only at h;cases I:decide (k=k') with
      |false=>simp[I]at h
      |true =>
        simp only[I,cond_true]at h;have I:=of_decide_eq_true I;subst I;split at h
        · rename_i l hl
          split at h
          · rename_i d M
            refine⟨_,h,λW a w z=>?_⟩;obtain⟨v,h1,h2,h3,h4⟩:=vL (P:=P) (V:=V) (W:=W) (st:=st) (w:=w) _ k t t' x y m n l hl (bF z X) (bF z O) H;exact aN Z z M J h1 h2 h3 h4
          · cases h
        · cases h
  · rename_i b b' X O
    cases ht:T t with
    |bool =>
      have h1:=hT t;rw[ht]at h1;simp only[ht]at h;cases op <;> simp only at h <;> first
        |cases h;done
        | (split at h
           · rename_i d M
             first
               |exact⟨_,h,λW a w z=>aN Z z M J (v:=.bool (b==b')) (by simp[execOp,H,im z X,im z O,eqGuard,Go.binOp,lA h1.1]) rfl id rfl⟩
               |exact⟨_,h,λW a w z=>aN Z z M J (v:=.bool (b != b')) (by simp[execOp,H,im z X,im z O,eqGuard,Go.binOp,lA h1.1,bne]) rfl id rfl⟩
           · cases h)
    |_=>simp[ht]at h
  · rename_i b b' X O
    cases op <;> simp only at h <;> first
      |cases h;done
      | (cases a0 : decide (b.size + b'.size <= 9223372036854775807) with
         |false=>rw[a0]at h;cases h
         |true =>
           rw[a0]at h;simp only[cond_true]at h;split at h
           · rename_i d M
             refine⟨_,h,λW a w z=>aN Z z M J (v:=.string (b++b')) ?_ rfl id rfl⟩;have:(b.size:Int)+b'.size<=9223372036854775807:=by have:=of_decide_eq_true a0;omega
             simp[execOp,H,iE z X,iE z O,eqGuard,Go.binOp,Op.stringOp,this]
           · cases h)
      | (split at h
         · rename_i d M
           first
             |exact⟨_,h,λW a w z=>aN Z z M J (v:=.bool (b.toList==b'.toList)) (by simp[execOp,H,iE z X,iE z O,eqGuard,Go.binOp,Op.stringOp]) rfl id rfl⟩
             |exact⟨_,h,λW a w z=>aN Z z M J (v:=.bool (b.toList != b'.toList)) (by simp[execOp,H,iE z X,iE z O,eqGuard,Go.binOp,Op.stringOp,bne]) rfl id rfl⟩
         · cases h)
  · cases ht:T t with
    |struct b b1 =>
      have h1:=hT t;rw[ht]at h1;obtain⟨_,_,_,b0,a1⟩:=h1;simp only[ht]at h;cases hf:b.flat&&decide ((au st x).1=.agg)&&decide ((au st y).1=.agg) with
      |false=>simp[hf]at h
      |true =>
        simp only[hf,cond_true]at h;simp only[BY,decide_eq_true_eq]at hf;obtain⟨⟨hf,a4⟩,a9⟩:=hf;split at h
        · rename_i p u q v a3 ad
          have a2:∀ (W:Wit) (a:Act) (w:World),ap P V W st a w->(Op.equal t (a.eval x) (a.eval y)).run P w=.ok (b.eqv u v) w/\(∃ cx cy:Array Value,a.eval x=.agg cx/\a.eval y=.agg cy):=by
            intro W a w z;obtain⟨cx,G,X,a6⟩:=xf z a4 a3;obtain⟨cy,G',O,a5⟩:=xf z a9 ad;rw[X,O];exact⟨b0 hf w G u v cx cy a6 (Rd.flat hf a5),_,_,rfl,rfl⟩
          cases op <;> simp only at h <;> first
            |cases h;done
            | (split at h
               · rename_i d M
                 first
                   | (refine ⟨_, h, λW a w z => aN Z z M J (v := .bool (b.eqv u v)) ?_ rfl id rfl⟩
                      obtain⟨h2,cx,cy,X,O⟩:=a2 W a w z;rw[X,O]at h2;simp[execOp,H,X,O,eqGuard,Go.binOp,a1,h2];done)
                   | (refine ⟨_, h, λW a w z => aN Z z M J (v := .bool (!b.eqv u v)) ?_ rfl id rfl⟩
                      obtain⟨h2,cx,cy,X,O⟩:=a2 W a w z;rw[X,O]at h2;simp[execOp,H,X,O,eqGuard,Go.binOp,a1,h2])
               · cases h)
        · cases h
    |_=>simp[ht]at h
end
section
variable {P:Program} {V:Env} {Γ:List Ctr} {T:TypeId->TI} {st:St} {o:Oper} {R:Type} {κ:Upd->Option R} {r:R}
theorem eZ (g off n:Nat):(⟨g,off,none⟩:Addr).add n=⟨g,off+n,none⟩:=by
 unfold Addr.add;split <;> simp_all
theorem dv {t:TypeId}{n:Nat}(h:bS P t n)(w:World):(sizeOf t).run P w=.ok n w:=by
 unfold bS at h;cases u:P.info? t with
 |none=>simp[u]at h
 |some i =>
  simp[u]at h;simp[sizeOf,typeInfo,u,h]
theorem gw {t:TypeId}{z:Value}(h:d7 P t z)(w:World):(zeroValue t).run P w=.ok z w:=by
 unfold d7 at h;cases u:P.info? t with
 |none=>simp[u]at h
 |some i =>
  simp[u]at h;simp[zeroValue,typeInfo,u,h]
theorem sd (hV:ay V)(hT:TOk P T)(I:bP V o){t:TypeId}{x:Operand}{f:Nat}(a0:o.op=.fieldAddr t x f)(h:act Γ T o st κ=some r):bY P V o st κ r:=by
 simp only[act,wrU,a0]at h;cases ht:T t with
 |struct b a5 =>
  simp only[ht]at h;split at h
  ·rename_i off n agg hf;have h1:=hT t;rw[ht]at h1;obtain⟨⟨fs,hu,_,a2⟩,_⟩:=h1;obtain⟨_,fd,h2,h3,h4,h5,h6,_⟩:=a2 f off n agg hf;have M:∀ (a:Act) (w:World) (g O:Nat),a.eval x=.pointer (some ⟨g,O,none⟩)->(execOp a.eval o).run P w=.ok (.value (.pointer (some ⟨g,O+off,none⟩))) w:=by
    intro a w g O X;have u:=dv h6 w;have h8:n≠0:=by omega
    simp[execOp,a0,X,Instr.fieldAt,run_underlying hu,h2,Cc,fieldPlace,u,h8,eZ]
   split at h
   ·rename_i p b' y O H;split at h
    ·rename_i d Z;refine⟨_,h,λW a w z=>?_⟩;obtain⟨u,_,_,_⟩:=bt z x (by rw[H];simp);rw[H]at u;obtain⟨g,og,c,X,hg,Y,hc⟩:=u;exact aN hV z Z I (M a w g _ X) ⟨g,og,c,by rw[CW],hg,Y,hc⟩ id rfl
    ·grind
   ·rename_i b' O H;split at h
    ·rename_i d Z;refine⟨_,h,λW a w z=>?_⟩;obtain⟨u,_,_,_⟩:=bt z x (by rw[H];simp);rw[H]at u;exact aN hV z Z I (M a w _ _ u.2.2) ⟨u.1,u.2.1,rfl⟩ id rfl
    ·grind
   ·rename_i r' j v i sz O H;cases J:BV (st r').ver v with
    |false=>simp[J]at h
    |true =>
     simp only[J]at h;split at h
     ·rename_i d Z;refine⟨_,h,λW a w z=>?_⟩;obtain⟨u,_,_,_⟩:=bt z x (by rw[H];simp);rw[H]at u;obtain⟨g,a1,a4,hh,a3,X⟩:=u.2 (BW J);exact aN hV z Z I (M a w g _ X) ⟨u.1,λ_=>⟨g,a1,a4,hh,a3,by rw[CW]⟩⟩ id rfl
     ·grind
   ·rename_i p ks ep b' y O H;cases J:br st ks ep with
    |false=>simp[J]at h
    |true =>
     simp only[J]at h;split at h
     ·rename_i d Z;refine⟨_,h,λW a w z=>?_⟩;obtain⟨u,_,_,_⟩:=bt z x (by rw[H];simp);rw[H]at u;have h8:NpOk V W w p ks b' y O _:=u.2.2 (cB J).1 (cB J).2.1 (cB J).2.2;obtain⟨g,og,c,X,hg,Y,hc⟩:=h8.rd;exact aN hV z Z I (M a w g _ X) ⟨u.1,u.2.1,λ_ _ _=>⟨g,og,c,by rw[CW],hg,Y,hc⟩⟩ id rfl
     ·grind
   ·grind
  ·grind
 |_=>simp[ht]at h
theorem se (hV:ay V)(hT:TOk P T)(a0:bP V o){t:TypeId}{x i:Operand}(a4:o.op=.indexAddr t x i)(h:act Γ T o st κ=some r):bY P V o st κ r:=by
 simp only[act,wrU,a4]at h;split at h
 ·rename_i k n hi;cases ht:T t with
  |slice E e b2 =>
   simp only[ht]at h;have h1:=hT t;rw[ht]at h1;obtain⟨hu,_,_,bn,_,ti,z,b1,b3,_⟩:=h1;have hE:bS P E e.cells:=by simp[bS,b1,b3]
   have a5:∀ (W:Wit) (a:Act) (w:World) (g Z O I:Nat),ap P V W st a w->0<=n->n<O->a.eval x=.slice (some ⟨g,Z,none⟩) O I ->
     (execOp a.eval o).run P w=.ok (.value (.pointer (some ⟨g,Z+n.toNat*e.cells,none⟩))) w:=by
    intro W a w g Z O I H h0 h1 M;have Y:=dv hE w;simp[execOp,a4,M,bF H hi,Cx,asIntOf,run_underlying hu,h0,h1,Y,eZ]
   split at h
   ·rename_i r' j v X;split at h
    ·rename_i p hh E' e' xs b0;cases u:BV e'.cells e.cells with
     |false=>simp[u]at h
     |true =>
      simp only[u]at h;have u:=BW u;obtain⟨y,hy,h⟩:=B7.1 h;obtain⟨Y,h3,h4⟩:=gv hy;split at h
      ·rename_i d hd;refine⟨_,h,λW a w H=>?_⟩;obtain⟨J,_,_,_⟩:=bt H x (by rw[X];simp);rw[X]at J;obtain⟨h8,h9,b9,bx⟩:=km H b0 J;obtain⟨_,b4,bb,ho,ba,_⟩:=h9;rcases ho.2 with ⟨hn,h0⟩|⟨g,a1,bl,_,M,_,_,_⟩
       ·omega
       ·refine aN hV H hd a0 (a5 W a w g 0 xs.length a1 H Y h3 M) ⟨by omega,λ_=>⟨g,xs.length,a1,by rw[h8,M],by omega,by simp[u]⟩⟩ id rfl
      ·grind
    ·grind
   ·rename_i p E' e' xs X;cases u:BV e'.cells e.cells with
    |false=>simp[u]at h
    |true =>
     simp only[u]at h;have u:=BW u;obtain⟨y,hy,h⟩:=B7.1 h;obtain⟨Y,h3,h4⟩:=gv hy;split at h
     ·rename_i d hd;refine⟨_,h,λW a w H=>?_⟩;obtain⟨J,_,_,_⟩:=bt H x (by rw[X];simp);rw[X]at J;obtain⟨A,I,M,a9,a3⟩:=J;have M:a.eval x=.slice A xs.length I:=by simpa using M
      obtain⟨g,Z,rfl,hg,a6⟩:=a3 (by omega);obtain⟨c,hc,a2⟩:=a6 n.toNat y h4;refine aN hV H hd a0 (a5 W a w g Z xs.length I H Y h3 M) ⟨g,Z+n.toNat*e'.cells,c,by rw[u];rfl,?_,hc,a2⟩ id rfl;rcases hg with hg|⟨_,hg⟩
      ·grind
      ·exact .inr (hV.ro g hg)
     ·grind
   ·rename_i p ks ep b5 E' e' xs X;cases u:BV e'.cells e.cells&&br st ks ep with
    |false=>simp[u]at h
    |true =>
     simp only[u]at h;simp only[BY]at u;obtain⟨u,ad⟩:=u;have u:=BW u;obtain⟨y,hy,h⟩:=B7.1 h;obtain⟨Y,h3,h4⟩:=gv hy;split at h
     ·rename_i d hd;refine⟨_,h,λW a w H=>?_⟩;obtain⟨J,_,_,_⟩:=bt H x (by rw[X];simp);rw[X]at J;have h8:=pM ad J;obtain⟨A,I,M,a9,a3⟩:=h8.rd;have M:a.eval x=.slice A xs.length I:=by simpa using M
      obtain⟨g,Z,rfl,hg,a6⟩:=a3 (by omega);obtain⟨c,hc,a2⟩:=a6 n.toNat y h4;exact aN hV H hd a0 (a5 W a w g Z xs.length I H Y h3 M) ⟨J.1,J.2.1,λ_ _ _=>⟨g,Z+n.toNat*e'.cells,c,by rw[u];rfl,hg,hc,a2⟩⟩ id rfl
     ·grind
   ·grind
  |arr e O =>
   simp only[ht]at h;have h1:=hT t;rw[ht]at h1;obtain⟨⟨E,hu,hE,_⟩,_⟩:=h1;split at h
   ·rename_i b off X;cases u:decide (0<=n)&&decide (n<(O:Int)) with
    |false=>simp[u]at h
    |true =>
     simp only[u]at h;simp at u;split at h
     ·rename_i d hd;refine⟨_,h,λW a w H=>?_⟩;obtain⟨J,_,_,_⟩:=bt H x (by rw[X];simp);rw[X]at J;refine aN hV H hd a0 (v:=.pointer (some ⟨W.β b,off+n.toNat*e.cells,none⟩)) ?_ ⟨J.1,J.2.1,rfl⟩ id rfl;have Y:=dv hE w;simp[execOp,a4,J.2.2,bF H hi,Cx,Cc,asIntOf,run_underlying hu,u.1,u.2,Y,eZ]
     ·grind
   ·grind
  |_=>simp[ht]at h
 ·grind
theorem xh {t:TypeId}{i:TI}(u:oY P t i)(J:i.cells≠0\/i≠.none)(w:World):(isAgg t).run P w=.ok i.agg w:=by
 cases i with
 |none=>simp[TI.cells]at J
 |struct a I =>
  obtain⟨⟨M,H,_⟩,_⟩:=u;simp[isAgg,run_underlying H,TI.agg]
 |arr e n=>obtain⟨⟨E,H,_⟩,_⟩:=u;simp[isAgg,run_underlying H,TI.agg]
 |ptr=>obtain⟨⟨e,H⟩,_⟩:=u;simp[isAgg,run_underlying H,TI.agg]
 |fn=>obtain⟨⟨x,y,z,H⟩,_⟩:=u;simp[isAgg,run_underlying H,TI.agg]
 |int k=>simp[isAgg,run_underlying u.1,TI.agg]
 |bool=>simp[isAgg,run_underlying u.1,TI.agg]
 |str=>simp[isAgg,run_underlying u.1,TI.agg]
 |slice E e b=>simp[isAgg,run_underlying u.1,TI.agg]
theorem o6 {t:TypeId}{i:TI}(u:oY P t i)(z:i≠.none):bS P t i.cells:=by
 cases i with
 |none=>exact absurd rfl z
 |struct a y=>exact u.2.1
 |arr e n=>exact u.2.2.1
 |ptr=>exact u.2.1
 |fn=>exact u.2.1
 |int k=>exact u.2.1
 |bool=>exact u.2.1
 |str=>exact u.2.1
 |slice E e b=>exact u.2.1
theorem mU {W:Wit}{a:Act}{w:World}(H:ap P V W st a w){e:Ty}:∀ (n:Nat) (ls:List Leaf) (cs:List Value) (xs:List e.den),aC P V W st w ls cs->fC st e n ls=some xs ->
  xs.length=n/\∀ (i:Nat) (x:e.den),xs[i]?=some x->∃ G,Rd w G e x ((cs.drop (i*e.cells)).take e.cells)
 |0,ls,cs,xs,_,h=>by
  simp only[fC]at h
  simp_all
 |n+1,ls,cs,xs,z,h=>by
  simp only[fC]at h;split at h
  ·rename_i p x Y M I;simp at h;subst h;obtain⟨J,O⟩:=mU H n _ _ _ (z.drop e.cells) I;refine⟨by simp[J],λi y u=>?_⟩;cases i with
   |zero =>
    simp at u;subst u;exact⟨_,by simpa using eE H (z.take e.cells) M⟩
   |succ i =>
    obtain⟨G,X⟩:=O i y (by simpa using u);rw[Cu]at X
    grind
  ·cases h
theorem xi (hV:ay V)(hT:TOk P T)(Y:bP V o){t:TypeId}{x i:Operand}(M:o.op=.index t x i)(h:act Γ T o st κ=some r):bY P V o st κ r:=by
 simp only[act,wrU,M]at h;split at h
 ·rename_i k n hi;cases hs:T t with
  |str =>
   simp only[hs]at h;split at h
   ·rename_i s hx;obtain⟨y,hy,h⟩:=B7.1 h;split at h
    ·rename_i d hd;refine⟨_,h,λW a w I=>aN hV I hd Y (v:=.int .u8 (y.toNat:Int)) ?_ rfl id rfl⟩;have h1:=hT t;rw[hs]at h1;obtain⟨h2,h3,h4⟩:=gv hy;have h5:s[n.toNat]?=some y:=by
      have h6:=(BX.1 h4);obtain⟨h7,h8⟩:=h6;have h9:n.toNat<s.size:=by rw[Array.length_toList]at h7;exact h7
      rw[getElem?_pos s n.toNat h9];congr 1
     simp[execOp,M,bF I hi,iE I hx,Cs,asIntOf,run_underlying h1.1,h2,h5]
    ·grind
   ·grind
  |arr e O =>
   simp only[hs]at h;have h1:=hT t;rw[hs]at h1;obtain⟨⟨E,hu,hE,Z⟩,a3,_⟩:=h1;cases hb:e.flat&&decide ((au st x).1=.agg)&&BV (au st x).2.length (O*e.cells)&&!BV e.cells 0 with
   |false=>simp[hb]at h
   |true =>
    simp only[hb]at h;simp only[BY,decide_eq_true_eq]at hb;obtain⟨⟨⟨hf,a2⟩,a4⟩,_⟩:=hb;split at h
    ·rename_i vs hg;obtain⟨y,hy,h⟩:=B7.1 h;split at h
     ·rename_i d hd;refine⟨_,h,λW a w I=>?_⟩;obtain⟨cs,z,hl⟩:=cU I x;rw[a2]at z;have z:a.eval x=.agg cs.toArray:=z;obtain⟨h2,h3,h4⟩:=gv hy;obtain⟨h5,h6⟩:=mU I O _ _ _ hl hg;obtain⟨G,h7⟩:=h6 n.toNat y h4;have h8:Rd w (λ_=>False) e y ((cs.drop (n.toNat*e.cells)).take e.cells):=Rd.flat hf h7;have h9:=h8.len;have J:(isAgg E).run P w=.ok e.isAgg w:=by
       cases X:P.underlying E with
       |none=>simp[X]at Z
       |some u =>
        simp only[X,Ct,B5]at Z;rw[<- Z];cases u <;> simp[isAgg,run_underlying X]
      have a1:=dv hE w;have hn:n<(O:Int):=by omega
      cases H:e.isAgg with
      |true =>
       have:=dZ hV I hd Y (v:=.agg ((cs.drop (n.toNat*e.cells)).take e.cells).toArray) (sh:=.agg) (ls:=cJ false e y) ?_ rfl (eY (λ_ h=>h.elim) h8)
       ·exact this
       ·rw[H]at J;simp[execOp,M,bF I hi,z,Cs,asIntOf,run_underlying hu,h2,hn,part,J,a1]
      |false =>
       have a0:e.cells=1:=by cases e <;> first|rfl|simp[Ty.isAgg]at H
       rw[a0]at h8 h9
       match hc:(cs.drop (n.toNat*1)).take 1,h9 with
       |[v],_ =>
        rw[hc]at h8;have:=dZ hV I hd Y (v:=v) (sh:=.one) (ls:=cJ false e y) (cs:=[v]) ?_ rfl (eY (λ_ h=>h.elim) h8)
        ·exact this
        ·rw[H]at J;have hv:cs[n.toNat]?=some v:=by
          have:((cs.drop (n.toNat*1)).take 1)[0]?=some v:=by rw[hc];rfl
          grind
         simp[execOp,M,bF I hi,z,Cs,asIntOf,run_underlying hu,h2,hn,part,J,a1,a0,hv]
     ·grind
    ·grind
  |_=>simp[hs]at h
 ·grind
theorem ox {t:TypeId}{i:TI}(H:oY P t i)(O:i≠.none){w:World}{g off:Nat}{cs:List Value}(M:cW w g off cs)(y:cs.length=i.cells) :
  ∃ v,(loadVar t ⟨g,off,none⟩).run P w=.ok v w/\ei (bk i.agg) v cs:=by
 have I:=xh H (.inr O) w;cases J:i.agg with
 |true =>
  refine⟨.agg cs.toArray,?_,rfl⟩;have X:=dv (o6 H O) w;have z:=run_loadCells_list (P:=P) w ⟨g,off,none⟩ cs (λj v Y=>by rw[eZ];exact M j v Y);rw[y]at z;simp[loadVar,I,J,X,z]
 |false =>
  have u:i.cells=1:=by cases i <;> simp_all [TI.agg,TI.cells]
  rw[u]at y
  match cs,y with
  |[v],_ =>
   have:=M 0 v rfl;rw[Nat.add_zero]at this;exact⟨v,by simp[loadVar,I,J,this],rfl⟩
theorem cW.sub {w:World}{g off:Nat}{cs:List Value}(h:cW w g off cs)(k n:Nat):cW w g (off+k) ((cs.drop k).take n):=by
 intro i v u;rw[CD]at u;split at u
 ·rw[CR]at u;have:=h (k+i) v u
  grind
 ·cases u
theorem Mx.deep {w:World}{G G':Nat->Prop}:∀ {a:Ty} {h:Option Nat} {pos:Nat} {x:a.den} {cs:List Value} {bs:List Nat},a.shy=false->Mx w G a h pos x cs bs->Mx w G' a h pos x cs bs
 |.int _,_,_,_,_,_,_,h=>h
 |.bool,_,_,_,_,_,_,h=>h
 |.str,_,_,_,_,_,_,h=>h
 |.unit,_,_,_,_,_,_,h=>h
 |.hdr,_,_,_,_,_,_,h=>h
 |.pair _ _,_,_,_,_,_,u,⟨Z,c2,b1,b2,z,X,J,I⟩=>by
  simp only[Ty.shy,Cd]at u;exact⟨Z,c2,b1,b2,z,X,Mx.deep u.1 J,Mx.deep u.2 I⟩
 |.list m E e,h,pos,xs,cs,bs,u,H=>by
  simp only[Ty.shy,Cd,Bool.not_eq_false']at u;obtain⟨rfl,u⟩:=u;by_cases O:h=some pos
  ·subst O;rw[jd]at H ⊢;exact H
  ·rw[bJ O]at H ⊢;obtain⟨v,z,y,M,J,I,h3⟩:=H;refine⟨v,z,y,M,J,I,λj x Y=>?_⟩;obtain⟨c,h4,h5⟩:=h3 j x Y;exact⟨c,Mx.deep u h4,h5⟩
theorem OwB.shy {W:Wit}{w:World}{p:Bool}{h:Option (Nat×Nat)}{E:TypeId}{e:Ty}{xs:List e.den}{v:Value}{bs:List Nat}(H:OwB w (gd V W p) h E e xs v bs):OwB w (gd V W (p&&e.shy)) h E e xs v bs:=by
 cases X:e.shy with
 |true=>simpa using H
 |false =>
  obtain⟨u,y,M,z,J⟩:=H;refine⟨u,y,M,z,λj x I=>?_⟩;obtain⟨c,O,Y⟩:=J j x I;exact⟨c,Mx.deep X O,Y⟩
theorem je (p:Bool)(r j v ep i u:Nat)(h:Option Nat):∀ (a:Ty) (off:Nat) (x:a.den),(gK p r j v ep i u h a off x).length=a.cells
 |.int _,_,_=>rfl
 |.bool,_,_=>rfl
 |.str,_,_=>rfl
 |.unit,_,_=>rfl
 |.hdr,_,_=>rfl
 |.pair a b,off,x=>by simp[gK,Ty.cells,je p r j v ep i u h a,je p r j v ep i u h b]
 |.list _ _ _,_,_=>rfl
theorem l8 {W:Wit}{w:World}{p:Bool}{r j g len y i sz:Nat}(J:(W.cs r)[j]?=some (.slice (some ⟨g,0,none⟩) len y))(M:i<len)(hg:g∈W.bs r j){hol:Option Nat} :
  ∀ {a:Ty} {pos:Nat} {x:a.den} {cs:List Value} {bs:List Nat},(∀ k∈bs,k∈W.bs r j)->Mx w (gd V W p) a hol pos x cs bs->cW w g (i*sz+pos) cs->aC P V W st w (gK p r j (st r).ver (st EPO).ver i sz hol a pos x) cs
 |.int _,_,_,_,_,_,h,_=>by rw[h.1];exact⟨⟨rfl,id,rfl⟩,trivial⟩
 |.bool,_,_,_,_,_,h,_=>by rw[h.1];exact⟨⟨rfl,id,rfl⟩,trivial⟩
 |.str,_,_,_,_,_,h,_=>by rw[h.1];exact⟨⟨rfl,id,rfl⟩,trivial⟩
 |.unit,_,_,_,_,_,h,_=>by rw[h.1];trivial
 |.hdr,_,_,_,_,_,⟨⟨A,y,e⟩,_⟩,_=>by rw[e];exact⟨⟨⟨A,y,rfl⟩,id,rfl⟩,trivial⟩
 |.pair a b,pos,x,cs,bs,O,⟨c1,c2,b1,b2,e1,e2,h1,Y⟩,X=>by
  subst e1;have hl:=h1.len;refine aC.append (l8 J M hg (λk z=>O k (by rw[e2];exact B4 _ z)) h1 λq u hu=>X q u ?_)
   (l8 J M hg (λk z=>O k (by rw[e2];exact B3 _ z)) Y λq u hu=>?_)
  ·grind
  ·have:=X (a.cells+q) u (by rw[<- hl,CH (by omega)];simpa using hu)
   grind
 |.list m E e,pos,xs,cs,bs,O,H,X=>by
  have I:=H.one;simp only[gK];by_cases hp:hol=some pos
  ·have Z:decide (hol=some pos)=true:=decide_eq_true hp;rw[Z];obtain⟨v,rfl,_⟩:=H;exact⟨⟨trivial,id,I v (by simp)⟩,trivial⟩
  ·have Z:decide (hol=some pos)=false:=decide_eq_false hp;rw[Z];cases m with
   |false =>
    rw[co]at H;obtain⟨A,y,rfl,Y,h3⟩:=H.2;exact⟨⟨⟨A,y,rfl,Y,h3⟩,id,rfl⟩,trivial⟩
   |true =>
    rw[bJ hp]at H;obtain⟨v,rfl,hO⟩:=H;have h1:=X 0 v rfl;refine⟨⟨⟨B6 _,λk z=>?_,λ_ _ _=>⟨?_,λi' a2 a0 he=>?_⟩⟩,id,I v (by simp)⟩,trivial⟩
    ·grind
    ·obtain⟨a1,a3,h4,h5,h6⟩:=OwB.shy hO;refine sI h4 (λk z=>.inr ⟨_,CL _,O k (by rw[h5];exact B4 _ z)⟩) λq x hq=>?_
     obtain⟨c,h7,h8⟩:=h6 q x hq;exact⟨c,h7.rd (λk z=>.inl z) (λk z=>.inr ⟨_,CL _,O k (by rw[h5];exact B3 _ (dX.2 ⟨q,(BX.1 hq).1,z⟩))⟩),h8⟩
    ·grind
theorem jW {W:Wit}{w:World}{p:Bool}{ks:List (Nat×Nat×Nat)}{ep:Nat}(y:ep<=(st EPO).ver)(u:∀ k∈ks,k.2.2<=(st k.1).ver) :
  ∀ {a:Ty} {x:a.den} {cs:List Value},Rd w (λb=>gd V W p b\/∃ k∈ks,b∈W.bs k.1 k.2.1) a x cs->aC P V W st w (lr p ks ep a x) cs
 |.int _,_,_,h=>by rw[show _=_ from h];exact⟨⟨rfl,id,rfl⟩,trivial⟩
 |.bool,_,_,h=>by rw[show _=_ from h];exact⟨⟨rfl,id,rfl⟩,trivial⟩
 |.str,_,_,h=>by rw[show _=_ from h];exact⟨⟨rfl,id,rfl⟩,trivial⟩
 |.unit,_,_,h=>by rw[show _=_ from h];trivial
 |.hdr,_,_,⟨A,z,e⟩=>by rw[e];exact⟨⟨⟨A,z,rfl⟩,id,rfl⟩,trivial⟩
 |.pair _ _,_,_,⟨O,X,e,J,H⟩=>by rw[e];exact (jW y u J).append (jW y u H)
 |.list m E e,Z,_,h=>by
  obtain⟨A,z,rfl,H,I⟩:=h;exact⟨⟨⟨y,u,λ_ _ _=>⟨⟨A,z,rfl,H,I⟩,λi Y off M=>by cases M⟩⟩,id,rfl⟩,trivial⟩
theorem z7 {W:Wit}{a:Act}{w:World}(hr:ap P V W st a w){r j n g len O i:Nat}{p:Bool}{hh:Option (Nat×Nat)}{E:TypeId}{e:Ty}{xs:List e.den}{y:e.den}(h8:(st r).ver=n)(h9:(st r).ls[j]?=some (.own p hh E e xs))
  (H:(W.cs r)[j]?=some (.slice (some ⟨g,0,none⟩) len O)) (I:i<len) (Z:xs[i]?=some y) :
  ∃ c,cW w g (i*e.cells) c/\aC P V W st w (gK p r j n (st EPO).ver i e.cells (cP hh i) e 0 y) c:=by
 subst h8;obtain⟨_,a0,a2,Y,J,M⟩:=hr.leaf r j _ _ h9 H;obtain⟨c,h1,h2⟩:=M i y Z;have a1:=h1.len;have hi:i<xs.length:=(BX.1 Z).1;have z:len=xs.length:=by
  obtain⟨A,X,e0,_⟩:=Y.slice
  simp_all
 subst z;have hc:cW w g (i*e.cells) c:=by
  intro q u hu;have hq:=(BX.1 hu).1;rw[Y.cellAt _ (by
   have:i*e.cells+e.cells<=xs.length*e.cells:=by
    have:=Nat.mul_le_mul_right e.cells (show i+1<=xs.length from hi)
    grind
   omega)]
  grind
 refine⟨c,hc,l8 H I (by rw[J];simp[CM]) (λk hk=>?_) h1 hc⟩
 grind
theorem yD (hV:ay V)(hT:TOk P T)(b0:bP V o){t:TypeId}{x:Operand}(a3:o.op=.load t x)(h:act Γ T o st κ=some r):bY P V o st κ r:=by
 simp only[act,wrU,a3,lU]at h;have ad:=hT t;have a0:∀ (W:Wit) (a:Act) (w:World) (g off:Nat) (cs:List Value) (ls:List Leaf) (d:Nat),ap P V W st a w->o.dst=some d->T t≠.none->a.eval x=.pointer (some ⟨g,off,none⟩)->cW w g off cs ->
   cs.length=(T t).cells->aC P V W st w ls cs->mS P V o st (ck st [] d (bk (T t).agg) ls) a w:=by
  intro W a w g off cs ls d z X hn O Z hl a1;obtain⟨v,h1,h2⟩:=ox ad hn Z hl;exact dZ hV z X b0 (v:=v) (by simp[execOp,a3,O,Instr.loadAt,Cc,h1]) h2 a1
 cases M:decide ((T t).cells=0) with
 |true=>simp[M]at h
 |false =>
  simp only[M]at h;have M:(T t).cells≠0:=of_decide_eq_false M;have Y:T t≠.none:=by intro e;rw[e]at M;exact M rfl
  split at h
  ·rename_i p b y off J;cases u:decide (off+(T t).cells<=b.cells) with
   |false=>simp[u]at h
   |true =>
    simp only[u]at h;split at h
    ·rename_i d X;refine⟨_,h,λW a w z=>?_⟩;obtain⟨H,_,_,_⟩:=bt z x (by rw[J];simp);rw[J]at H;obtain⟨g,og,c,O,hg,I,Z⟩:=H;refine a0 W a w g _ ((c.drop off).take (T t).cells) _ d z X Y O (Z.sub off _) ?_ (((eY (λ_ h=>h) I).drop off).take _);have:=I.len
     grind
    ·grind
  ·rename_i b off J;cases u:decide ((st b).sh=.agg)&&decide (off+(T t).cells<=(st b).ls.length) with
   |false=>simp[u]at h
   |true =>
    simp only[u]at h;split at h
    ·rename_i d X;refine⟨_,h,λW a w z=>?_⟩;obtain⟨H,_,_,_⟩:=bt z x (by rw[J];simp);rw[J]at H;obtain⟨hB,b4,O⟩:=H;rcases z.boxes b hB with ⟨h8,_⟩|⟨_,E,h8⟩
     ·grind
     ·have Z:cW w (W.β b) 0 (W.cs b):=λi v O=>by
       rw[Cl,cell_of_row w (W.β b) i _ E (0,0) h8]
       simp_all
      have b2:=z.len b;have a4:=Z.sub off (T t).cells;rw[Cl]at a4;refine a0 W a w (W.β b) off _ _ d z X Y O a4 ?_ (((iD z b).drop off).take _)
      grind
    ·grind
  ·rename_i p b y J;cases u:BV (T t).cells 1&&!(T t).agg with
   |false=>simp[u]at h
   |true =>
    simp only[u]at h;simp only[BY,CU]at u;split at h
    ·rename_i d X;refine⟨_,h,λW a w z=>?_⟩;obtain⟨H,_,_,_⟩:=bt z x (by rw[J];simp);rw[J]at H;obtain⟨q,oq,g,og,c,O,_,a2,hg,I,Z⟩:=H;have:=a0 W a w q oq [.pointer (some ⟨g,og,none⟩)] [.rp p b y 0] d z X Y O (λi v hi=>by
      cases i with
      |zero=>simp at hi;subst hi;exact a2
      |succ i=>simp at hi) (by simp[BW u.1]) ⟨⟨⟨g,og,c,rfl,hg,I,Z⟩,id,rfl⟩,trivial⟩
     rw[u.2]at this;exact this
    ·grind
  ·rename_i p ks ep b y off J;cases u:br st ks ep&&decide (off+(T t).cells<=b.cells) with
   |false=>simp[u]at h
   |true =>
    simp only[u]at h;simp at u;split at h
    ·rename_i d X;refine⟨_,h,λW a w z=>?_⟩;obtain⟨H,_,_,_⟩:=bt z x (by rw[J];simp);rw[J]at H;have h8:NpOk V W w p ks b y off _:=H.2.2 (cB u.1).1 (cB u.1).2.1 (cB u.1).2.2;obtain⟨g,og,c,O,hg,I,Z⟩:=h8.rd;refine a0 W a w g _ ((c.drop off).take (T t).cells) _ d z X Y O (Z.sub off _) ?_ (((jW H.1 H.2.1 I).drop off).take _);have:=I.len
     grind
    ·grind
  ·rename_i r' j v i sz off J;split at h
   ·rename_i p hh E e xs a5;cases u:BV sz e.cells&&decide (off+(T t).cells<=e.cells) with
    |false=>simp[u]at h
    |true =>
     simp only[u]at h;simp only[BY]at u;have b1:=BW u.1;subst b1;obtain⟨y,hy,h⟩:=B7.1 h;obtain⟨_,_,h4⟩:=gv hy;split at h
     ·rename_i d X;refine⟨_,h,λW a w z=>?_⟩;obtain⟨H,_,_,_⟩:=bt z x (by rw[J];simp);rw[J]at H;obtain⟨h8,h9⟩:=fa a5 (by simp);obtain⟨g,b3,b5,a6,a9,O⟩:=H.2 h8;obtain⟨c,Z,a1⟩:=z7 z h8 h9 a6 a9 h4;refine a0 W a w g _ _ _ d z X Y O (Z.sub off _) ?_ ((a1.drop off).take _);have:=a1.length;rw[je]at this
      grind
     ·grind
   ·grind
  ·grind
end
section
variable {P:Program} {V:Env} {Γ:List Ctr} {T:TypeId->TI} {st:St} {o:Oper} {R:Type} {κ:Upd->Option R} {r:R}
theorem xj (hV:ay V)(hT:TOk P T)(M:bP V o){t:TypeId}{x:Operand}{f:Nat}(J:o.op=.field t x f)(h:act Γ T o st κ=some r):bY P V o st κ r:=by
 simp only[act,wrU,J]at h;cases ht:T t with
 |struct b a2 =>
  simp only[ht]at h;split at h
  ·rename_i off n agg hf;have h1:=hT t;rw[ht]at h1;obtain⟨⟨fs,hu,_,a0⟩,_⟩:=h1;obtain⟨H,Y,h2,h3,h4,h5,h6,Z⟩:=a0 f off n agg hf;cases O:decide ((au st x).1=.agg)&&decide ((au st x).2.length=b.cells) with
   |false=>simp[O]at h
   |true =>
    simp only[O,cond_true]at h;simp only[BY,decide_eq_true_eq]at O;split at h
    ·rename_i d hd;refine⟨_,h,λW a w hr=>?_⟩;obtain⟨u,hs,hl⟩:=cU hr x;rw[O.1]at hs;have X:=hl.length;rw[O.2]at X;have y:(isAgg Y.type).run P w=.ok agg w:=by
      unfold isAgg;cases I:P.underlying Y.type with
      |none=>simp[I]at Z
      |some dd =>
       rw[I]at Z;simp only[Ct,B5]at Z;subst Z;rw[CE,run_underlying I w];cases dd <;> rfl
     have a1:=dv h6 w;cases agg with
     |true =>
      refine dZ hV hr hd M (v:=.agg ((u.drop off).take n).toArray) ?_ rfl ((hl.drop off).take n);have e:u.toArray.extract off (off+n)=((u.drop off).take n).toArray:=by
       rw[List.extract_toArray,List.extract_eq_take_drop,Nat.add_sub_cancel_left]
      have hp:(part Y.type u.toArray off).run P w=.ok (.agg ((u.drop off).take n).toArray) w:=by
       simp only[part,CE,y,CA,if_true,a1,CI,e]
      simp only[execOp,J,show a.eval x=_ from hs,C3,CE,run_underlying hu,CA,h2,asAgg,CI,h3,hp]
     |false =>
      have H:=H rfl;subst H;have z:off<u.length:=by omega
      have hv:((u.drop off).take 1)=[u[off]]:=by
       rw[List.take_one,List.head?_drop,BZ z];rfl
      refine dZ hV hr hd M (v:=u[off]) ?_ (show ei .one _ ((u.drop off).take 1) from hv) ((hl.drop off).take 1);have e:u.toArray[off]?=some u[off]:=by simp[z]
      have hp:(part Y.type u.toArray off).run P w=.ok u[off] w:=by
       simp only[part,CE,y,CA,Bool.false_eq_true,if_false,e,CI]
      simp only[execOp,J,show a.eval x=_ from hs,C3,CE,run_underlying hu,CA,h2,asAgg,CI,h3,hp]
    ·cases h
  ·cases h
 |_=>simp[ht]at h
theorem Bb {α:Type}(u y:List α)(off:Nat)(h:off+y.length<=u.length):(u.take off++y++u.drop (off+y.length)).length=u.length:=by
 simp;omega
theorem kX (cs c:List Value)(off:Nat)(h:off+c.length<=cs.length) :
  (c.zipIdx 0).foldl (λcs (x:Value×Nat)=>cs.setIfInBounds (off+x.2) x.1) cs.toArray=(cs.take off++c++cs.drop (off+c.length)).toArray:=by
 obtain⟨H,z⟩:=Great.foldl_set off c 0 cs.toArray;apply Array.ext_getElem?;intro k;rw[z k];simp only[Nat.add_zero,List.size_toArray,List.getElem?_toArray];by_cases y:off<=k/\k<off+c.length/\k<cs.length
 ·rw[if_pos y,CN,CH (by simp;omega),CS (by simp;omega)];congr 1;simp;omega
 ·rw[if_neg y];by_cases u:k<off
  ·rw[CN,CS (by simp;omega),CD,if_pos u]
  ·rw[CH (by simp;omega),CR];congr 1;simp;omega
theorem gX {agg:Bool}{v:Value}{cs:List Value}(h:ei (bk agg) v cs)(y:∀ u∈cs,u.oneCell'=true):v.cells=cs.toArray:=by
 cases agg with
 |true=>rw[show v=_ from h];rfl
 |false =>
  have h:cs=[v]:=h;subst h;have:=y v (Ck.2 rfl);cases v <;> first|rfl|simp[B8]at this
theorem l9 {W:Wit}{a:Act}{w:World}(hr:ap P V W st a w){z:List (Nat×Nat×Bool)}{pl:Nat->Option (Nat×Nat)}(M:∀ (i off n:Nat) (agg:Bool),z[i]?=some (off,n,agg)->pl i=some (off,n)):∀ (ps:List (Nat×Operand)) (ls u:List Leaf) (cs:List Value),
  aC P V W st w ls cs->fm st z ps ls=some u ->
  ∃ y,aC P V W st w u y/\Instr.fill pl cs.toArray (ps.map λx=>(x.1,a.eval x.2))=some y.toArray
 |[],ls,u,cs,J,h=>by
  simp[fm]at h;subst h;exact⟨cs,J,rfl⟩
 |(i,x)::ps,ls,u,cs,J,h=>by
  simp only[fm]at h;split at h
  ·rename_i off n agg hf;cases X:BV (au st x).2.length n&&decide ((au st x).1=bk agg)&&decide (off+n<=ls.length) with
   |false=>simp[X]at h
   |true =>
    simp only[X,cond_true]at h;simp only[BY,decide_eq_true_eq]at X;obtain⟨⟨O,a0⟩,a3⟩:=X;have O:=BW O;obtain⟨c,hs,I⟩:=cU hr x;rw[a0]at hs;have hc:=gX hs I.one';have a1:=J.length;have H:=I.length;have Y:aC P V W st w (jA ls (au st x).2 off) (cs.take off++c++cs.drop (off+c.length)):=by
     unfold jA;rw[H];exact ((J.take off).append I).append (J.drop _)
    obtain⟨y,h1,h2⟩:=l9 hr M ps _ u _ Y h;refine⟨y,h1,?_⟩;simp only[Cw,Instr.fill];have Z:pl i=some (off,n):=M _ _ _ _ hf;have a2:c.toArray.size=n:=by simp;omega
    simp only[Z,hc];rw[if_neg (by simp;omega)];have e:c.toArray.zipIdx.foldl (λcs (x:Value×Nat)=>cs.setIfInBounds (off+x.2) x.1) cs.toArray=(c.zipIdx 0).foldl (λcs (x:Value×Nat)=>cs.setIfInBounds (off+x.2) x.1) cs.toArray:=by
     rw[<- Array.foldl_toList];simp
    have e2:=kX cs c off (by omega);rw[<- e2,<- e]at h2;exact h2
  ·cases h
theorem lB {W:Wit}{w:World}:∀ (b:Ty),aC P V W st w (eW b) (zeroCells b)
 |.int _=>⟨⟨rfl,id,rfl⟩,trivial⟩
 |.bool=>⟨⟨rfl,id,rfl⟩,trivial⟩
 |.str=>⟨⟨rfl,id,rfl⟩,trivial⟩
 |.unit=>trivial
 |.pair a b=>(lB a).append (lB b)
 |.hdr=>⟨⟨rfl,id,rfl⟩,trivial⟩
 |.list _ _ _=>⟨⟨rfl,id,rfl⟩,trivial⟩
theorem o7 {W:Wit}{w:World}(e:Ty):∀ (n:Nat),aC P V W st w (CF n (eW e)).flatten (CF n (zeroCells e)).flatten
 |0=>trivial
 |n+1=>by
  rw[Cg,Cg,Cn,Cn];exact (lB e).append (o7 e n)
theorem xk (hV:ay V)(hT:TOk P T)(a0:bP V o){t:TypeId}{u:Array (Nat×Operand)}(O:o.op=.build t u)(h:act Γ T o st κ=some r):bY P V o st κ r:=by
 simp only[act,wrU,O]at h;cases ht:T t with
 |struct b Z =>
  simp only[ht]at h;split at h
  ·rename_i ls M;split at h
   ·rename_i d hd;refine⟨_,h,λW a w X=>?_⟩;have h1:=hT t;rw[ht]at h1;obtain⟨⟨fs,hu,a1,_⟩,_,H,_⟩:=h1;obtain⟨z,h2,h3⟩:=l9 X (pl:=((Z.map λx=>(x.1,x.2.1)).toArray[·]?)) (λi off n agg I=>by simp[I]) u.toList _ ls _ (lB b) M;refine dZ hV X hd a0 (v:=.agg z.toArray) ?_ rfl h2;have y:P.built t (u.map λ (i,x)=>(i,a.eval x)).toList=some z.toArray:=by
     unfold d7 at H;unfold Cy;cases Y:P.info? t with
     |none=>simp[Y]at H
     |some ti =>
      simp[Y]at H;simp only[hu,H,a1];rw[CZ];exact h3
    simp[execOp,O,run_build w t _ _ y]
   ·cases h
  ·cases h
 |arr e n =>
  simp only[ht]at h;split at h
  ·rename_i ls M;split at h
   ·rename_i d hd;refine⟨_,h,λW a w X=>?_⟩;have h1:=hT t;rw[ht]at h1;obtain⟨⟨E,hu,hE,_⟩,_,_,H⟩:=h1;obtain⟨z,h2,h3⟩:=l9 X (pl:=λi=>some (i*e.cells,e.cells)) (λi off n agg I=>by
     rw[Cm]at I;obtain⟨j,hj,I⟩:=CC.1 I;rw[List.getElem?_range (by simpa using (BX.1 hj).1)]at hj;simp only[B5]at hj;subst hj;simp only[Cv]at I;simp[<- I.1,<- I.2.1]) u.toList _ ls _ (o7 e n) M
    refine dZ hV X hd a0 (v:=.agg z.toArray) ?_ rfl h2;have y:P.built t (u.map λ (i,x)=>(i,a.eval x)).toList=some z.toArray:=by
     unfold d7 at H;unfold bS at hE;unfold Cy;cases Y:P.info? t with
     |none=>simp[Y]at H
     |some ti =>
      simp[Y]at H;cases J:P.info? E with
      |none=>simp[J]at hE
      |some ie =>
       simp[J]at hE;simp only[hu,H,J,hE];rw[CZ];exact h3
    simp[execOp,O,run_build w t _ _ y]
   ·cases h
  ·cases h
 |_=>simp[ht]at h
theorem mV {W:Wit}{a:Act}{w:World}(H:ap P V W st a w){x:Option Operand}{u n:Int}(h:di st x u=some n) :
  (x=none/\n=u)\/∃ y k,x=some y/\a.eval y=.int k n:=by
 unfold di at h;split at h
 ·simp at h;exact .inl ⟨rfl,h.symm⟩
 ·split at h
  ·rename_i l k m z;simp at h;subst h;exact .inr ⟨_,k,rfl,bF H z⟩
  ·cases h
theorem jX (u:Bool)(len y:Nat)(Y:len<=y)(H J:Option Value)(i h:Int)(O:0<=i)(X:i<=h)(hh:h<=len)(M:(H=none/\i=0)\/∃ k,H=some (.int k i))
  (I:(J=none/\h=len)\/∃ k,J=some (.int k h)) (w:World):(Co u len y H J none).run P w=.ok (i.toNat,h.toNat,y) w:=by
 have h0:0<=h:=by omega
 have Z:h<=(y:Int):=by omega
 have z:i<=((h.toNat:Nat):Int):=by omega
 rcases M with ⟨rfl,rfl⟩|⟨k,rfl⟩ <;> rcases I with ⟨rfl,rfl⟩|⟨k',rfl⟩ <;>
  simp[Co,Instr.sliceBound,asIntOf,O,h0,Z,z,X,-Int.ofNat_toNat]
theorem jt (J:ay V){W:Wit}{a:Act}{w:World}(I:ap P V W st a w){x:Operand}{l:Leaf}(y:aD st (one st x)=l)(M:l≠.dead)(z:¬ ao l):aI P V W st w [] l (a.eval x):=by
 have H:one st x≠.dead:=by intro e;rw[e]at y;exact M y.symm
 obtain⟨X,O,_⟩:=bt I x H;rcases l7 J I X O with ⟨_,_,_,_,u,_⟩|⟨_,u⟩
 ·rw[y]at u;exact absurd u z
 ·rw[y]at u;exact u
theorem xm (O:ay V){W:Wit}{a:Act}{w:World}(M:ap P V W st a w){x:Operand}{p:Bool}{ks:List (Nat×Nat×Nat)}{ep:Nat}{y:Option (Nat×Nat×Nat)}{E:TypeId}{e:Ty}{xs:List e.den}
  (u:aD st (one st x)=.nal p ks ep y E e xs):aI P V W st w [] (.nal p ks ep y E e xs) (a.eval x)/\br st ks ep=true:=by
 refine⟨jt O M u (by simp) (by simp[ao]),?_⟩;generalize one st x=l at u;cases l with
 |nal p' H I J Y Z X =>
  simp only[aD]at u;cases z:br st H I with
  |false=>simp[z]at u
  |true =>
   simp only[z,cond_true]at u;cases u;exact z
 |al r j n=>exact absurd u iT
 |_=>simp[aD]at u
theorem un (Y:ay V){W:Wit}{a:Act}{w:World}(H:ap P V W st a w){x:Operand}{p:Bool}{J:Option (Nat×Nat)}{E:TypeId}{e:Ty}{xs:List e.den}(u:aD st (one st x)=.own p J E e xs) :
  ∃ r i n,one st x=.al r i n/\(st r).ls[i]?=some (.own p J E e xs)/\OwH w (gd V W p) J E e xs (a.eval x) (W.bs r i)/\(W.cs r)[i]?=some (a.eval x)/\(st r).ver=n:=by
 have z:one st x≠.dead:=by intro e;rw[e]at u;cases u
 obtain⟨I,O,_⟩:=bt H x z;rcases l7 Y H I O with ⟨r,i,n,M,_,_,_⟩|⟨y,_⟩
 ·rw[M]at u I;obtain⟨y,Z,h5,X⟩:=km H u I;exact⟨r,i,n,M,h5,Z,y,X⟩
 ·rw[u]at y;exact absurd trivial y
theorem goes_frz (H:ay V){W:Wit}{a:Act}{w:World}(h:ap P V W st a w){d:Nat}(z:o.dst=some d)(u:bP V o)(ks:List (Nat×Nat)){v:Value}{sh:aG}{ls:List Leaf}{cs:List Value}
  (y:(execOp a.eval o).run P w=.ok (.value v) w) (J:ei sh v cs) (I:aC P V (W.frz st ks) (ac (aE st ks) st) w ls cs):mS P V o st (ck st (aE st ks) d sh ls) a w:=by
 intro next Q M;refine dY y ?_;rw[z];refine M _ _ ?_;rw[ck,aQ];exact (lz H ks h).1.putLs H d (u d z).1 (u d z).2 _ sh ls v cs (CY _) J I
theorem cW.shift {w:World}{g o:Nat}{c:List Value}{k s j:Nat}(h:cW w g (o+(k+j)*s) c):cW w g (o+k*s+j*s) c:=by
 rwa [CW,<- Nat.add_mul]
theorem Rd.cut {w:World}{G:Nat->Prop}{E:TypeId}{e:Ty}{xs:List e.den}{A:Option Addr}{u:Nat}(h:Rd w G (.list false E e) xs [.slice A xs.length u])(i n:Nat)(a0:i<=n)(hn:n<=xs.length) :
  Rd w G (.list false E e) ((xs.take n).drop i) [.slice (if u=i then A else A.map (·.add (i*e.cells))) (n-i) (u-i)]:=by
 obtain⟨A',J,M,hc,Z⟩:=h;simp at M;obtain⟨rfl,rfl⟩:=M;have H:((xs.take n).drop i).length=n-i:=by simp;omega
 refine⟨_,u-i,by rw[H],by rw[H];omega,λY=>?_⟩;rw[H]at Y;obtain⟨g,o,rfl,X,I⟩:=Z (by omega);refine⟨g,o+i*e.cells,?_,X,λj x y=>?_⟩
 ·rw[if_neg (by omega)];simp[eZ]
 ·rw[CR,CD]at y;split at y
  ·obtain⟨c,O,z⟩:=I (i+j) x y;exact⟨c,O,z.shift⟩
  ·cases y
theorem vN (hV:ay V)(hT:TOk P T)(a9:bP V o){t:TypeId}{x:Operand}{lo hi:Option Operand}(a4:o.op=.slice t x lo hi none)(h:act Γ T o st κ=some r):bY P V o st κ r:=by
 simp only[act,wrU,a4]at h;cases hd:o.dst with
 |none=>simp[hd]at h
 |some d =>
  simp only[hd]at h;split at h
  ·cases h
  ·rename_i i a6;have h1:=hT t;have X:∀ (W:Wit) (a:Act) (w:World) (y:Option Operand) (a2 n:Int),ap P V W st a w->di st y a2=some n->(y.map a.eval=none/\n=a2)\/∃ k,y.map a.eval=some (.int k n):=by
    intro W a w y a2 n O u;rcases mV O u with ⟨rfl,rfl⟩|⟨z,k,rfl,hz⟩
    ·exact .inl ⟨rfl,rfl⟩
    ·exact .inr ⟨k,by simp[hz]⟩
   split at h
   ·rename_i s ht hx;rw[ht]at h1;split at h
    ·rename_i n a0;cases u:decide (0<=i)&&decide (i<=n)&&decide (n<=(s.size:Int)) with
     |false=>simp[u]at h
     |true =>
      simp only[u,cond_true]at h;simp only[BY,decide_eq_true_eq]at u;refine⟨_,h,λW a w O=>aN hV O hd a9 (v:=.string (s.extract i.toNat n.toNat)) ?_ rfl id rfl⟩;have I:=jX (P:=P) false s.size s.size (B6 _) (lo.map a.eval) (hi.map a.eval) i n u.1.1 u.1.2 u.2 (X W a w lo 0 i O a6) (X W a w hi _ n O a0) w;have b3:a.eval x=.string s:=(jt hV O hx (by simp) (by simp[ao]));simp[execOp,a4,b3,CX,Ce,run_underlying h1.1,I]
    ·cases h
   ·rename_i E' e' a3 p ks ep b5 E e xs ht hx;rw[ht]at h1;obtain⟨hu,_,_,_,_,ti,z,a1,a5,_⟩:=h1;split at h
    ·rename_i n a0;cases u:decide (0<=i)&&decide (i<=n)&&decide (n<=(xs.length:Int))&&BV e'.cells e.cells with
     |false=>simp[u]at h
     |true =>
      simp only[u,cond_true]at h;simp only[BY,decide_eq_true_eq]at u;obtain⟨u,M⟩:=u;have M:=BW M;refine⟨_,h,λW a w O=>?_⟩;obtain⟨hl,b4⟩:=xm hV O hx;have h8:=pM b4 hl;obtain⟨A,H,hv,J,Z⟩:=h8.rd;have hv:a.eval x=.slice A xs.length H:=by simpa using hv
      have I:=jX (P:=P) true xs.length H J (lo.map a.eval) (hi.map a.eval) i n u.1.1 u.1.2 u.2 (X W a w lo 0 i O a6) (X W a w hi _ n O a0) w;have hE:=dv (P:=P) (t:=E') (n:=e.cells) (by simp[bS,a1,a5,M]) w;have Y:=Rd.cut (E:=E) (⟨A,H,rfl,J,Z⟩:Rd w _ (.list false E e) xs [.slice A xs.length H]) i.toNat n.toNat (by omega) (by omega);refine aN hV O hd a9 (v:=.slice (if H=i.toNat then A else A.map (·.add (i.toNat*e.cells))) (n.toNat-i.toNat) (H-i.toNat)) ?_ ⟨hl.1,hl.2.1,λ_ _ _=>⟨Y,λi' sz off he=>by cases he⟩⟩ id rfl;simp only[execOp,a4,hv,CX,Ce,CE,run_underlying hu,CA,Ca,I,hE,CI]
    ·cases h
   ·rename_i E' e' a3 p E e xs ht hx;rw[ht]at h1;obtain⟨hu,_,_,_,_,ti,z,a1,a5,_⟩:=h1;split at h
    ·rename_i n a0;cases u:decide (0<=i)&&decide (i<=n)&&decide (n<=(xs.length:Int))&&BV e'.cells e.cells with
     |false=>simp[u]at h
     |true =>
      simp only[u,cond_true]at h;simp only[BY,decide_eq_true_eq]at u;obtain⟨u,M⟩:=u;have M:=BW M;refine⟨_,h,λW a w O=>?_⟩;have hl:=jt hV O hx (by simp) (by simp[ao]);obtain⟨A,H,hv,J,Z⟩:=hl;have hv:a.eval x=.slice A xs.length H:=by simpa using hv
      have I:=jX (P:=P) true xs.length H J (lo.map a.eval) (hi.map a.eval) i n u.1.1 u.1.2 u.2 (X W a w lo 0 i O a6) (X W a w hi _ n O a0) w;have hE:=dv (P:=P) (t:=E') (n:=e.cells) (by simp[bS,a1,a5,M]) w;have Y:=Rd.cut (E:=E) (⟨A,H,rfl,J,Z⟩:Rd w (gd V W p) (.list false E e) xs [.slice A xs.length H]) i.toNat n.toNat (by omega) (by omega);refine aN hV O hd a9 (v:=.slice (if H=i.toNat then A else A.map (·.add (i.toNat*e.cells))) (n.toNat-i.toNat) (H-i.toNat)) ?_ Y id rfl;simp only[execOp,a4,hv,CX,Ce,CE,run_underlying hu,CA,Ca,I,hE,CI]
    ·cases h
   ·rename_i E' e' a3 p E e xs ht hx;rw[ht]at h1;obtain⟨hu,_,_,_,_,ti,z,a1,a5,_⟩:=h1;split at h
    ·rename_i n a0;cases u:decide (0<=i)&&decide (i<=n)&&decide (n<=(xs.length:Int))&&BV e'.cells e.cells with
     |false=>simp[u]at h
     |true =>
      simp only[u,cond_true]at h;simp only[BY,decide_eq_true_eq]at u;obtain⟨u,M⟩:=u;have M:=BW M;split at h
      ·rename_i r' j n' e1;refine⟨_,h,λW a w O=>?_⟩;obtain⟨r1,j1,n1,b0,h2,b2,_,b1⟩:=un hV O hx;rw[e1]at b0;obtain⟨rfl,rfl,rfl⟩:r'=r1/\j=j1/\n'=n1:=by cases b0;exact⟨rfl,rfl,rfl⟩
       obtain⟨A,H,hv,J⟩:=b2.slice;have I:=jX (P:=P) true xs.length H J (lo.map a.eval) (hi.map a.eval) i n u.1.1 u.1.2 u.2 (X W a w lo 0 i O a6) (X W a w hi _ n O a0) w;have hE:=dv (P:=P) (t:=E') (n:=e.cells) (by simp[bS,a1,a5,M]) w;have ad:=OwH.rd (m:=false) (E':=E) b2;rw[hv]at ad;have Y:=Rd.cut ad i.toNat n.toNat (by omega) (by omega);refine aN hV O hd a9 (v:=.slice (if H=i.toNat then A else A.map (·.add (i.toNat*e.cells))) (n.toNat-i.toNat) (H-i.toNat)) ?_
        ⟨B6 _,λk hk=>?_,λ_ _ _=>⟨Rd.mono (λk hk=>?_) Y,λi' sz off he=>by cases he⟩⟩ id rfl
       ·simp only[execOp,a4,hv,CX,Ce,CE,run_underlying hu,CA,Ca,I,hE,CI]
       ·simp only[Ck]at hk;subst hk;exact Nat.le_of_eq b1.symm
       ·rcases hk with hk|hk
        ·exact .inl hk
        ·exact .inr ⟨_,CL _,hk⟩
      ·cases h
    ·cases h
   ·cases h
theorem z8 (hV:ay V)(hT:TOk P T)(I:bP V o){c:Call}(J:o.op=.call c)(hc:c.callee=.builtin .len)(h:act Γ T o st κ=some r):bY P V o st κ r:=by
 simp only[act,wrU,J,hc]at h;split at h
 ·cases h
 ·rename_i d hd;simp only[hd]at h;split at h
  ·rename_i x hx;split at h
   ·rename_i t ht;have y:c.args=#[x]:=by rw[<- Cf (xs:=c.args),hx]
    have X:c.argTypes=#[t]:=by rw[<- Cf (xs:=c.argTypes),ht]
    have Y:=hT t;have O:∀ (a:Act) (w:World) (n:Int),(Cp #[t] o.type #[a.eval x]).run P w=.ok (.int .i64 n) w->(execOp a.eval o).run P w=.ok (.value (.int .i64 n)) w:=by
     intro a w n M;simp[execOp,J,hc,resolve,invoke,builtin,y,X,M]
    split at h
    ·rename_i E e b u;rw[u]at Y;split at h
     ·rename_i n M;refine⟨_,h,λW a w z=>aN hV z hd I (O a w _ ?_) rfl id rfl⟩;have Z:one st x≠.dead:=by intro e;rw[e]at M;simp[aD,gh]at M
      obtain⟨h2,h3,_⟩:=bt z x Z;obtain⟨A,a1,H⟩:=xd z h2 h3 M;have H:a.eval x=.slice A n a1:=by simpa using H
      simp[Cp,run_underlying Y.1,H,goInt]
     ·cases h
    ·rename_i s u a0;rw[u]at Y;refine⟨_,h,λW a w z=>aN hV z hd I (O a w _ ?_) rfl id rfl⟩;have H:a.eval x=.string s:=jt hV z a0 (by simp) (by simp[ao]);simp[Cp,run_underlying Y.1,H,goInt]
    ·cases h
   ·cases h
  ·cases h
end
end Go.Proofs.YtadlacffdemoiaaGreatEv
