/- The value evaluator, second form: what a Go function's code computes, on plain values. No proof here but definitions. -/
import Derived.Calls
import Derived.Orders
import Derived.KernelRfl
import Derived.Below
import Derived.Maps.AppendAt
import Derived.Laws.OwnMore
import Derived.Lib.ConvBytes
import Derived.WalkKit
import Derived.Great.BuildSlice
set_option linter.unusedVariables false
set_option linter.unusedSimpArgs false
open Array renaming getD_eq_getD_getElem?->CP,toList_map->CY,toArray_toList->Ce
open Bool renaming and_eq_true->BX,not_eq_true'->CT,or_eq_false_iff->Cc,not_eq_true->Cp
open ByteArray renaming empty->CI
open Go.Act renaming put->Cy
open Go.Builtin renaming len_->Co
open Go.Instr renaming sliceAt->CW,sureAddr->Cb,slice->Cd,sliceBounds->Cn,index->Cr,indexAt->Cw,field->C0
open Go.Program renaming built->Cx
open Go.Result renaming andThen_ok->B9
open Go.Sem renaming run_bind->CD,run_pure->CH
open Go.Value renaming oneCell'->B7,ownBlock->CL
open Go.World renaming cell?->Cz
open List renaming getElem?_eq_some_iff->BW,getElem?_eq_getElem->BY,mem_append_right->BZ,mem_append_left->B3,mem_append->CA,getElem?_take->CC,replicate->CE,getD_eq_getElem?_getD->CF,getElem?_append_right->CG,mem_singleton_self->CK,append_assoc->CM,range->CN,getElem?_drop->CQ,getElem?_append_left->CR,any_eq_false->CU,mem_cons_of_mem->Ca,replicate_succ->Cf,mem_cons->Cg,length_append->Ch,mem_cons_self->Ci,mem_singleton->Cj,getElem?_map->Cl,flatten_cons->Cm,cons_append->Cq,drop_drop->Ct,map_cons->Cv
open Nat renaming beq->BU,eq_of_beq_eq_true->BV,le_refl->B5,le_trans->B8,lt_of_lt_of_le->CJ,blt->CO,ble->CS,add_assoc->CV,lt_succ_self->CX,zero_add->Ck
open Option renaming bind_eq_some_iff->B6,map_eq_some_iff->CB,map_none->CZ,map_some->Cs
open Option.some renaming injEq->B4
open Prod.mk renaming injEq->Cu
namespace Go.Proofs.YtaegajachoklkaaGreatEv
open Go
inductive Ty where
 |int (k:IntKind)|bool|str|unit
 |hdr
 |pair (a b:Ty)
 |list (m:Bool) (E:TypeId) (e:Ty)
 deriving DecidableEq
abbrev Ty.den:Ty->Type
 |.int _=>Int
 |.bool=>Bool
 |.str=>ByteArray
 |.unit=>Unit
 |.hdr=>Nat
 |.pair a b=>a.den×b.den
 |.list _ _ e=>List e.den
def Ty.cells:Ty->Nat
 |.unit=>0
 |.pair a b=>a.cells+b.cells
 |_=>1
def Ty.zero:(a:Ty)->a.den
 |.int _=>(0:Int)
 |.bool=>false
 |.str=>CI
 |.unit=>()
 |.hdr=>(0:Nat)
 |.pair a b=>(a.zero,b.zero)
 |.list _ _ e=>([]:List e.den)
def Ty.flat:Ty->Bool
 |.list _ _ _=>false
 |.pair a b=>a.flat&&b.flat
 |_=>true
def Ty.sh:Ty->Ty
 |.pair a b=>.pair a.sh b.sh
 |.list _ E e=>.list false E e.sh
 |a=>a
def Ty.shy:Ty->Bool
 |.list m _ e=>!m||e.shy
 |.pair a b=>a.shy||b.shy
 |_=>false
theorem mP:∀ a:Ty,a.sh.den=a.den
 |.int _|.bool|.str|.unit|.hdr=>rfl
 |.pair a b=>by
  show (a.sh.den×b.sh.den)=(a.den×b.den);rw[mP a,mP b]
 |.list _ _ e=>congrArg List (mP e)
theorem jH {a b:Ty}(h:a.sh=b.sh):a.den=b.den:=(mP a).symm.trans ((congrArg Ty.den h).trans (mP b))
def Ty.eqv:(a:Ty)->a.den->a.den->Bool
 |.int _,x,y=>decide ((x:Int)=y)
 |.bool,x,y=>(x:Bool)==y
 |.str,x,y=>decide ((x:ByteArray)=y)
 |.unit,_,_=>true
 |.hdr,_,_=>false
 |.pair a b,x,y=>a.eqv x.1 y.1&&b.eqv x.2 y.2
 |.list _ _ _,_,_=>false
abbrev Tup:List Ty->Type
 |[]=>Unit
 |a::as=>a.den×Tup as
inductive Leaf where
 |int (k:IntKind) (n:Int)
 |bool (b:Bool)
 |str (s:ByteArray)
 |nil
 |hdr (n:Nat)
 |ro (p:Bool) (E:TypeId) (e:Ty) (xs:List e.den)
 |own (p:Bool) (h:Option (Nat×Nat)) (E:TypeId) (e:Ty) (xs:List e.den)
 |al (r j v:Nat)
 |nal (p:Bool) (ks:List (Nat×Nat×Nat)) (ep:Nat) (loc:Option (Nat×Nat×Nat)) (E:TypeId) (e:Ty) (xs:List e.den)
 |ep (r j v:Nat) (i sz off:Nat)
 |np (p:Bool) (ks:List (Nat×Nat×Nat)) (ep:Nat) (a:Ty) (x:a.den) (off:Nat)
 |rp (p:Bool) (a:Ty) (x:a.den) (off:Nat)
 |rpp (p:Bool) (a:Ty) (x:a.den)
 |bp (b off:Nat)
 |clo (f:FuncId) (caps:List Nat)
 |clr (f:FuncId) (caps:List (Bool×Bool×(a:Ty)×a.den))
 |fn (As:List Ty) (B:Ty) (φ:Tup As->Option B.den)
 |dead
inductive aI where
 |off|und|one|agg
 |tup (ps:List (Bool×Nat))
 deriving DecidableEq
structure bV where
 ver:Nat
 sh:aI
 ls:List Leaf
abbrev St:=Nat->bV
def bV.none:bV:=⟨0,.off,[]⟩
def GH:Nat:=99000
def TMP:Nat:=99998
def EPO:Nat:=99999
def B0:Nat:=100000
abbrev Upd:=List (Nat×bV)
def ac (U:Upd)(st:St)(q:Nat):bV :=
 match U with
 |[]=>st q
 |(r,c)::u=>bif BU q r then c else ac u st q
inductive TI where
 |int (k:IntKind)|bool|str
 |slice (E:TypeId) (e:Ty) (bytes:Nat)
 |struct (a:Ty) (flds:List (Nat×Nat×Bool))
 |arr (e:Ty) (n:Nat)
 |ptr|fn
 |none
def gL:List (TypeId×TI)->TypeId->TI
 |[],_=>.none
 |(t,i)::l,u=>bif BU t u then i else gL l u
def TI.cells:TI->Nat
 |.struct a _=>a.cells
 |.arr e n=>n*e.cells
 |.none=>0
 |_=>1
def TI.agg:TI->Bool
 |.struct _ _=>true
 |.arr _ _=>true
 |_=>false
def fg:Ty->List Leaf
 |.int k=>[.int k 0]
 |.bool=>[.bool false]
 |.str=>[.str CI]
 |.unit=>[]
 |.hdr=>[.nil]
 |.pair a b=>fg a++fg b
 |.list _ _ _=>[.nil]
def TI.zero:TI->List Leaf
 |.int k=>[.int k 0]
 |.bool=>[.bool false]
 |.str=>[.str CI]
 |.slice _ _ _=>[.nil]
 |.struct a _=>fg a
 |.arr e n=>(CE n (fg e)).flatten
 |.ptr=>[.dead]
 |.fn=>[.dead]
 |.none=>[]
def ap (p:Bool):(a:Ty)->a.den->List Leaf
 |.int k,n=>[.int k n]
 |.bool,b=>[.bool b]
 |.str,s=>[.str s]
 |.unit,_=>[]
 |.hdr,n=>[.hdr n]
 |.pair a b,x=>ap p a x.1++ap p b x.2
 |.list m E e,r=>[bif m then .own (p&&e.shy) none E e r else .ro p E e r]
def cO (p:Bool):(a:Ty)->a.den->List Leaf
 |.int k,n=>[.int k n]
 |.bool,b=>[.bool b]
 |.str,s=>[.str s]
 |.unit,_=>[]
 |.hdr,n=>[.hdr n]
 |.pair a b,x=>cO p a x.1++cO p b x.2
 |.list _ E e,r=>[.ro p E e r]
def lB (p:Bool)(ks:List (Nat×Nat×Nat))(ep:Nat):(a:Ty)->a.den->List Leaf
 |.int k,n=>[.int k n]
 |.bool,b=>[.bool b]
 |.str,s=>[.str s]
 |.unit,_=>[]
 |.hdr,n=>[.hdr n]
 |.pair a b,x=>lB p ks ep a x.1++lB p ks ep b x.2
 |.list _ E e,r=>[.nal p ks ep none E e r]
def gM (p:Bool)(r j v ep i u:Nat)(h:Option Nat):(a:Ty)->Nat->a.den->List Leaf
 |.int k,_,n=>[.int k n]
 |.bool,_,b=>[.bool b]
 |.str,_,s=>[.str s]
 |.unit,_,_=>[]
 |.hdr,_,n=>[.hdr n]
 |.pair a b,off,x=>gM p r j v ep i u h a off x.1++gM p r j v ep i u h b (off+a.cells) x.2
 |.list m E e,off,y=>[bif decide (h=some off) then .dead else bif m then .nal (p&&e.shy) [(r,j,v)] ep (some (i,u,off)) E e y else .ro p E e y]
def lC (p:Bool)(r j v ep i u:Nat)(h:Option (Bool×Nat)):(a:Ty)->Nat->a.den->List Leaf
 |.int k,_,n=>[.int k n]
 |.bool,_,b=>[.bool b]
 |.str,_,s=>[.str s]
 |.unit,_,_=>[]
 |.hdr,_,n=>[.hdr n]
 |.pair a b,off,x=>lC p r j v ep i u h a off x.1++lC p r j v ep i u h b (off+a.cells) x.2
 |.list m E e,off,y=>[bif (match h with|some (b,o)=>BU o off&&b|Option.none=>false) then .dead else bif m then .nal (p&&e.shy) [(r,j,v)] ep (some (i,u,off)) E e y else .ro p E e y]
def bq (agg:Bool):aI:=bif agg then .agg else .one
def lD:Leaf->Bool
 |.own _ _ _ _ _=>true
 |_=>false
def bw (st:St)(ks:List (Nat×Nat×Nat))(ep:Nat):Bool:=BU (st EPO).ver ep&&ks.all λk=>BU (st k.1).ver k.2.2&&lD ((st k.1).ls.getD k.2.1 .dead)
def pB:Leaf->Leaf
 |.nal _ _ _ _ _ _ _=>.dead
 |l=>l
def aE (st:St):Leaf->Leaf
 |.al r j v=>bif BU (st r).ver v then pB ((st r).ls.getD j .dead) else .dead
 |.nal p y ep u E e z=>bif bw st y ep then .nal p y ep u E e z else .dead
 |l=>l
def lW (t j r:Nat):Leaf->Leaf
 |.own _ _ _ _ _=>.al t j r
 |l=>l
def bJ (t r:Nat):Nat->List Leaf->List Leaf
 |_,[]=>[]
 |j,l::u=>lW t j r l::bJ t r (j+1) u
def iA:Value->Option Leaf
 |.int k n=>some (.int k n)
 |.bool b=>some (.bool b)
 |.string s=>some (.str s)
 |.slice Option.none 0 0=>some .nil
 |_=>Option.none
def au (st:St):Operand->aI×List Leaf
 |.tmp t=>bif CO t GH then ((st t).sh,bJ t (st t).ver 0 (st t).ls) else (.off,[])
 |.const v=>match iA v with
  |some l=>(.one,[l])
  |Option.none=>(.off,[])
 |.func f=>(.one,[.clo f []])
 |.global _=>(.off,[])
def one (st:St)(x:Operand):Leaf :=
 match au st x with
 |(.one,[l])=>l
 |_=>.dead
def castSh (e e':Ty)(xs:List e'.den):Option (List e.den) :=
 if h:e'.sh=e.sh then some (cast (congrArg List (jH h)) xs) else Option.none
def lX (E:TypeId)(e:Ty)(E':TypeId)(e':Ty)(xs:List e'.den):Option (List e.den) :=
 if h:E'=E/\e'=e then some (h.2 ▸ xs) else Option.none
def dp (e:Ty):Leaf->Option (Bool×List e.den)
 |.ro p _ u r=>(castSh e u r).map (p,·)
 |.own p none _ u r=>(castSh e u r).map (p,·)
 |.nal p _ _ _ _ u r=>(castSh e u r).map (p,·)
 |.nil=>some (false,[])
 |_=>Option.none
def gl:Leaf->Option Nat
 |.ro _ _ _ r=>some r.length
 |.own _ _ _ _ r=>some r.length
 |.nal _ _ _ _ _ _ r=>some r.length
 |.nil=>some 0
 |.hdr n=>some n
 |_=>Option.none
def bf (st:St):(a:Ty)->List Leaf->Option (Bool×a.den×List Leaf)
 |.int k,r=>match r with
  |.int z n::r=>if k=z then some (false,(n:Int),r) else Option.none
  |_=>Option.none
 |.bool,r=>match r with
  |.bool b::r=>some (false,b,r)
  |_=>Option.none
 |.str,r=>match r with
  |.str s::r=>some (false,s,r)
  |_=>Option.none
 |.unit,r=>some (false,(),r)
 |.hdr,r=>match r with
  |l::r=>match gl (aE st l) with
   |some n=>some (false,(n:Nat),r)
   |Option.none=>Option.none
  |_=>Option.none
 |.pair a b,r=>match bf st a r with
  |some (p,x,r)=>match bf st b r with
   |some (q,y,r)=>some (p||q,(x,y),r)
   |Option.none=>Option.none
  |Option.none=>Option.none
 |.list _ _ e,r=>match r with
  |l::r=>match dp e (aE st l) with
   |some (p,u)=>some (p,u,r)
   |Option.none=>Option.none
  |_=>Option.none
def cU (st:St)(a:Ty)(ls:List Leaf):Option (Bool×a.den) :=
 match bf st a ls with
 |some (p,x,[])=>some (p,x)
 |_=>Option.none
structure cP (α:Type) where
 p:Bool
 val:α
 frz:List (Nat×Nat)
 kill:List (Nat×Nat)
 rest:List Leaf
def bC (st:St):List Leaf->List (Nat×Nat)
 |[]=>[]
 |.al r j v::u=>(match aE st (.al r j v) with|.own _ _ _ _ _=>[(r,j)]|_=>[])++bC st u
 |.nal p z ep y E e H::u=>(match aE st (.nal p z ep y E e H) with|.nal _ _ _ _ _ _ _=>z.map (λk=>(k.1,k.2.1))|_=>[])++bC st u
 |_::u=>bC st u
def cd (st:St):List Leaf->List (Nat×Nat)
 |[]=>[]
 |.al r j v::u=>(match aE st (.al r j v) with|.own _ _ _ _ _=>[(r,j)]|_=>[])++cd st u
 |_::u=>cd st u
def take (st : St) : (a : Ty) -> List Leaf -> Option (cP a.den)
  |.int k,u=>(bf st (.int k) u).map λx=>⟨false,x.2.1,[],[],x.2.2⟩
  |.bool,u=>(bf st .bool u).map λx=>⟨false,x.2.1,[],[],x.2.2⟩
  |.str,u=>(bf st .str u).map λx=>⟨false,x.2.1,[],[],x.2.2⟩
  |.unit,u=>some ⟨false,(),[],[],u⟩
  |.hdr,u=>(bf st .hdr u).map λx=>⟨false,x.2.1,[],[],x.2.2⟩
  |.pair a b,u=>match take st a u with
    |some x=>match take st b x.rest with
      |some y=>some ⟨x.p||y.p,(x.val,y.val),x.frz++y.frz,x.kill++y.kill,y.rest⟩
      |Option.none=>Option.none
    |Option.none=>Option.none
  |.list m E e,u=>match u with
    |[]=>Option.none
    |l::u=>bif m then (match l with
        |.al r j v=>match aE st (.al r j v) with
          |.own p none H I z=>(lX E e H I z).map λz=>⟨p,z,[],[(r,j)],u⟩
          |_=>Option.none
        |.nil=>some ⟨false,([]:List e.den),[],[],u⟩
        |_=>Option.none)
      else match dp e (aE st l) with
        |some (p,z)=>some ⟨p,z,bC st [l],[],u⟩
        |Option.none=>Option.none
def cn (st:St)(a:Ty)(ls:List Leaf):Option (cP a.den) :=
 match take st a ls with
 |some ⟨p,x,f,k,[]⟩=>some ⟨p,x,f,k,[]⟩
 |_=>Option.none
def di (st:St)(off n:Nat):(a:Ty)->Nat->a.den->List Leaf->Option (cP a.den)
 |.pair a b,pos,x,r=>match di st off n a pos x.1 r with
  |some u=>match di st off n b (pos+a.cells) x.2 u.rest with
   |some v=>some ⟨u.p||v.p,(u.val,v.val),u.frz++v.frz,u.kill++v.kill,v.rest⟩
   |Option.none=>Option.none
  |Option.none=>Option.none
 |.int k,pos,x,r=>bif CS off pos&&CO pos (off+n) then take st (.int k) r else some ⟨false,x,[],[],r⟩
 |.bool,pos,x,r=>bif CS off pos&&CO pos (off+n) then take st .bool r else some ⟨false,x,[],[],r⟩
 |.str,pos,x,r=>bif CS off pos&&CO pos (off+n) then take st .str r else some ⟨false,x,[],[],r⟩
 |.unit,_,x,r=>some ⟨false,x,[],[],r⟩
 |.hdr,_,_,_=>Option.none
 |.list m E e,pos,x,r=>bif CS off pos&&CO pos (off+n) then take st (.list m E e) r else some ⟨false,x,[],[],r⟩
def bQ (off:Nat)(E:TypeId)(e:Ty)(r:List e.den):(a:Ty)->Nat->a.den->Option a.den
 |.pair a b,pos,x=>match bQ off E e r a pos x.1 with
  |some u=>some (u,x.2)
  |Option.none=>(bQ off E e r b (pos+a.cells) x.2).map λv=>(x.1,v)
 |.list m y z,pos,_=>bif m&&BU pos off then lX y z E e r else Option.none
 |.int _,_,_|.bool,_,_|.str,_,_|.unit,_,_|.hdr,_,_=>Option.none
def aw:List Leaf->List Nat
 |[]=>[]
 |.al r _ _::u=>r::aw u
 |.ep r _ _ _ _ _::u=>r::aw u
 |.nal _ y _ _ _ _ _::u=>EPO::y.map (·.1)++aw u
 |.np _ y _ _ _ _::u=>EPO::y.map (·.1)++aw u
 |_::u=>aw u
def aV (ls:List Leaf)(j:Nat)(l:Leaf):List Leaf:=ls.set j l
def gm (c:bV)(j:Nat):bV:=⟨c.ver,c.sh,aV c.ls j .dead⟩
def aO (st:St):List (Nat×Nat)->Upd
 |[]=>[]
 |(r,j)::u=>let U:=aO st u;let c:=ac U st r;(r,gm c j)::U
def uM:Leaf->Leaf
 |.own p none E e r=>.ro p E e r
 |.own _ (some _) _ _ _=>.dead
 |l=>l
def gi (c:bV)(j:Nat):bV:=⟨c.ver,c.sh,aV c.ls j (uM (c.ls.getD j .dead))⟩
def aF (st:St):List (Nat×Nat)->Upd
 |[]=>[]
 |(r,j)::u=>let U:=aF st u;let c:=ac U st r;(r,gi c j)::U
def bY (c:bV):bV:=⟨c.ver+1,c.sh,c.ls⟩
def epoU (st:St):Upd:=[(EPO,bY (st EPO))]
def dB (st:St):List Leaf->List (Nat×Nat)
 |[]=>[]
 |.nal p u ep none E e y::r=>(match aE st (.nal p u ep none E e y) with|.nal _ _ _ _ _ _ _=>u.map (λk=>(k.1,k.2.1))|_=>[])++dB st r
 |_::r=>dB st r
def gv (st:St)(l:Leaf):Leaf:=match aE st l with
 |.nal p _ _ none E e r=>.ro p E e r
 |l=>l
def dP (st:St)(ls:List Leaf):List Leaf:=ls.map (gv st)
def mvU (st:St)(ls:List Leaf):Upd:=let U:=aF st (dB st ls);aO (ac U st) (cd st ls)++U
def be:List (Nat×Nat)->Bool
 |[]=>true
 |x::r=>!(r.any λy=>BU x.1 y.1&&BU x.2 y.2)&&be r
def iB (a b:Nat×Nat):Bool:=BU a.1 b.1&&BU a.2 b.2
def dJ (a b:List (Nat×Nat)):Bool:=!(a.any λk=>b.any (iB k))
def ik (st:St)(ls:List Leaf):Bool:=be (cd st ls)&&dJ (dB st ls) (cd st ls)
def sA (st:St):Operand->Bool
 |.tmp q=>BU (st q).ver 7
 |_=>false
def idx {α:Type}(xs:List α)(i:Int):Option α:=if i<0 then Option.none else xs[i.toNat]?
def jI (u r:List Leaf)(off:Nat):List Leaf:=u.take off++r++u.drop (off+r.length)
def sC (r:BinOp)(k:IntKind)(x y:Int):Option Leaf :=
 match r with
 |.add=>some (.int k (k.wrap (x+y)))
 |.sub=>some (.int k (k.wrap (x-y)))
 |.mul=>some (.int k (k.wrap (x*y)))
 |.eql=>some (.bool (x==y))
 |.neq=>some (.bool (x != y))
 |.lss=>some (.bool (decide (x<y)))
 |.leq=>some (.bool (decide (x<=y)))
 |.gtr=>some (.bool (decide (x>y)))
 |.geq=>some (.bool (decide (x>=y)))
 |_=>Option.none
def bi (off:Nat):(a:Ty)->Nat->a.den->Option ((E:TypeId)×(e:Ty)×List e.den)
 |.pair a b,pos,x=>match bi off a pos x.1 with
  |some u=>some u
  |Option.none=>bi off b (pos+a.cells) x.2
 |.list m E e,pos,r=>bif m&&BU pos off then some ⟨E,e,r⟩ else Option.none
 |.int _,_,_|.bool,_,_|.str,_,_|.unit,_,_|.hdr,_,_=>Option.none
def cr (st:St):Leaf->Option (Upd×Leaf)
  |.nal p I ep H E e X=>bif bw st I ep then (match I,H with
      | [(r, j, _)], some (i, O, off) => (match (st r).ls.getD j .dead with
        |.own J none M z u=>bif !BU r TMP&&!BU r EPO&&BU O z.cells then
            (match u[i]? with
            |some y=>match bi off z 0 y with
              |some ⟨E,e,R⟩=>some ([(r,⟨(st r).ver,(st r).sh,aV (st r).ls j (.own J (some (i,off)) M z u)⟩),(TMP,⟨(st TMP).ver+1,.one,[.own (J&&z.shy) none E e R]⟩),(EPO,bY (st EPO))],.al TMP 0 ((st TMP).ver+1))
              |Option.none=>Option.none
            |Option.none=>Option.none)
          else Option.none
        |_=>Option.none)
      |_,_=>Option.none)
    else Option.none
  |_=>Option.none
def jz:Leaf->Bool
 |.nal _ _ _ _ _ _ _=>true
 |_=>false
inductive PK where
 |rd (a:Ty)
 |own (a:Ty)
 |io (a:Ty)
 |rref (a:Ty)
 |rref2 (a:Ty)
 |iop (a:Ty)
 |fn (As:List Ty) (B:Ty)
 |clo (f:FuncId) (cs:List (Bool×Ty))
 |hol (a:Ty) (c off:Nat)
 deriving DecidableEq
inductive RK where
 |v (a:Ty)
 |bv (a:Ty)
 |box (a:Ty)
 deriving DecidableEq
abbrev lY:List (Bool×Ty)->Type
 |[]=>Unit
 |c::r=>c.2.den×lY r
abbrev PK.den:PK->Type
 |.rd a|.own a|.io a|.rref a|.rref2 a|.iop a=>a.den
 |.fn u B=>Tup u->Option B.den
 |.clo _ r=>lY r
 |.hol a _ _=>a.den×Nat
abbrev ab:List PK->Type
 |[]=>Unit
 |p::r=>p.den×ab r
abbrev ah:List PK->Type
 |[]=>Unit
 |.io a::r=>a.den×ah r
 |.iop a::r=>a.den×ah r
 |_::r=>ah r
abbrev RK.den:RK->Type
 |.v a|.bv a|.box a=>a.den
abbrev ai:List RK->Type
 |[]=>Unit
 |r::u=>r.den×ai u
structure Ctr where
 f:FuncId
 ps:List PK
 rs:List RK
 fresh:Bool
 den:ab ps->Option (ai rs×ah ps)
def Ty.isAgg:Ty->Bool
 |.pair _ _|.unit=>true
 |_=>false
def target (st:St):Leaf->Option (List Leaf)
 |.bp b 0=>bif decide ((st b).sh=.agg) then some (bJ b (st b).ver 0 (st b).ls) else none
 |.rp p a x 0=>some (cO p a x)
 |.rpp p a x=>some [.rp p a x 0]
 |_=>none
structure Got (α:Type) where
 p:Bool
 val:α
 frz:List (Nat×Nat)
 kill:List (Nat×Nat)
 see:List Nat
 lend:List Nat
def Got.ofRd {α:Type}(r:List Nat)(x:Bool×α)(frz:List (Nat×Nat)):Got α:=⟨x.1,x.2,frz,[],r,[]⟩
def lZ (Γ:List Ctr)(f:FuncId):Option Ctr:=match Γ with
 |[]=>none
 |c::r=>bif BU c.f f then some c else lZ r f
def ct (x:aI×List Leaf):Leaf :=
 match x with
 |(.one,[l])=>l
 |_=>.dead
def fD:List Leaf->List Nat
 |[]=>[]
 |.bp b _::r=>b::fD r
 |_::r=>fD r
def fE (st:St)(c:Bool×Ty)(l:Leaf):Option (Got c.2.den) :=
 bif c.1 then (match target st l with
  |some [u]=>match target st u with
   |some r=>(cU st c.2 r).map λy=>.ofRd (fD [l,u]) y (bC st r)
   |none=>none
  |_=>none)
 else match target st l with
  |some r=>(cU st c.2 r).map λy=>.ofRd (fD [l]) y (bC st r)
  |none=>none
def cE (st:St):(cs:List (Bool×Ty))->List Leaf->Option (Got (lY cs))
 |[],[]=>some ⟨false,(),[],[],[],[]⟩
 |c::cs,l::r=>match fE st c l with
  |some g=>match cE st cs r with
   |some h=>some ⟨g.p||h.p,(g.val,h.val),g.frz++h.frz,[],g.see++h.see,[]⟩
   |none=>none
  |none=>none
 |_,_=>none
def e9 (c:Bool×Bool×(a:Ty)×a.den):Leaf:=bif c.2.1 then .rpp c.1 c.2.2.1 c.2.2.2 else .rp c.1 c.2.2.1 c.2.2.2 0
def bm (st : St) : (pk : PK) -> aI × List Leaf -> Option (Got pk.den)
  |.rd a,x=>bif decide (x.1=bq a.isAgg) then (cU st a x.2).map λy=>.ofRd [] y (bC st x.2) else none
  |.own a,x=>bif decide (x.1=bq a.isAgg) then (cn st a x.2).map λt=>⟨t.p,t.val,t.frz,t.kill,[],[]⟩ else none
  |.io a,x=>bif decide (x.1=bq a.isAgg) then (cn st a x.2).map λt=>⟨t.p,t.val,t.frz,t.kill,[],[]⟩ else none
  |.rref a,x=>fE st (false,a) (ct x)
  |.rref2 a,x=>fE st (true,a) (ct x)
  |.iop a,x=>match ct x with
    |.bp b 0=>bif decide ((st b).sh=.agg) then (cn st a (bJ b (st b).ver 0 (st b).ls)).map λt=>⟨t.p,t.val,t.frz,t.kill,[],[b]⟩ else none
    |_=>none
  |.fn J B,x=>match ct x with
    |.fn z M R=>if h:z=J/\M=B then some ⟨false,(h.1 ▸ h.2 ▸ R:Tup J->Option B.den),[],[],[],[]⟩ else none
    |_=>none
  |.clo f I,x=>match ct x with
    |.clo H u=>bif BU H f then cE st I (u.map λb=>.bp b 0) else none
    |.clr H u=>bif BU H f then cE st I (u.map e9) else none
    |_=>none
  |.hol a c off,x=>bif decide (x.1=bq a.isAgg) then (match x.2.getD c .dead with
      |.al r j v=>(match aE st (.al r j v) with
        |.own p (some (i,o)) E e O=>bif BU o off then (match cn st a (aV x.2 c .nil) with
            |some t=>(match bQ c E e O a 0 t.val with
              |some y=>some ⟨p||t.p,(y,i),t.frz,(r,j)::t.kill,[],[]⟩
              |none=>none)
            |none=>none) else none
        |_=>none)
      |_=>none) else none
def bg (ga:(pk:PK)->aI×List Leaf->Option (Got pk.den)):(ps:List PK)->List (aI×List Leaf)->Option (Got (ab ps))
 |[],[]=>some ⟨false,(),[],[],[],[]⟩
 |p::ps,x::r=>match ga p x with
  |some g=>match bg ga ps r with
   |some h=>some ⟨g.p||h.p,(g.val,h.val),g.frz++h.frz,g.kill++h.kill,g.see++h.see,g.lend++h.lend⟩
   |none=>none
  |none=>none
 |_,_=>none
def uN (st:St):(ps:List PK)->List (aI×List Leaf)->Option (Got (ab ps)):=bg (bm st)
def ce (st:St):List Leaf->List Leaf->Upd
 |.al r j _::y,l::u=>let U:=ce st y u;(match l with|.own p h E e ys=>let c:=ac U st r;[(r,⟨c.ver,c.sh,aV c.ls j (.own p h E e ys)⟩),(EPO,bY (ac U st EPO))]|_=>[])++U
 |_::y,_::u=>ce st y u
 |_,_=>[]
def aH (st:St)(p:Bool):(ps:List PK)->List (aI×List Leaf)->ah ps->Upd
 |[],_,_=>[]
 |.io a::ps,x::r,o=>let U:=aH st p ps r o.2;ce (ac U st) x.2 (ap p a o.1)++U
 |.iop a::ps,x::r,o=>let U:=aH st p ps r o.2;(match ct x with
  |.bp b _=>let c:=ac U st b;[(b,⟨c.ver+2,.agg,ap p a o.1⟩)]
  |_=>[])++U
 |.rd _::ps,_::r,o=>aH st p ps r o
 |.own _::ps,_::r,o=>aH st p ps r o
 |.rref _::ps,_::r,o=>aH st p ps r o
 |.rref2 _::ps,_::r,o=>aH st p ps r o
 |.fn _ _::ps,_::r,o=>aH st p ps r o
 |.clo _ _::ps,_::r,o=>aH st p ps r o
 |.hol _ _ _::ps,_::r,o=>aH st p ps r o
 |_::_,[],_=>[]
def pC (d v:Nat)(p q:Bool)(ks:List (Nat×Nat×Nat))(ep:Nat):(r:RK)->r.den->(Bool×List Leaf)×Upd
 |.v a,y=>((a.isAgg,ap p a y),[])
 |.bv a,y=>((a.isAgg,lB q ks ep a y),[])
 |.box a,y=>((false,[.bp (B0+d) 0]),[(B0+d,⟨v+1,.agg,ap p a y⟩)])
def bH (d v:Nat)(p q:Bool)(ks:List (Nat×Nat×Nat))(ep:Nat):(u:List RK)->ai u->List (Bool×List Leaf)×Upd
 |[],_=>([],[])
 |r::u,y=>let a:=pC d v p q ks ep r y.1;let b:=bH d v p q ks ep u y.2;(a.1::b.1,a.2++b.2)
def fa (r:Nat)(l:List (Bool×List Leaf)):bV :=
 match l with
 |[(agg,u)]=>⟨r,bq agg,u⟩
 |l=>⟨r,.tup (l.map λx=>(x.1,x.2.length)),(l.map (·.2)).flatten⟩
def ck (st:St)(U:Upd)(d:Nat)(sh:aI)(ls:List Leaf):Upd:=(d,⟨(ac U st d).ver+1,sh,ls⟩)::U
def PK.reads:PK->Bool
 |.rd _|.rref _|.rref2 _=>true
 |_=>false
def nR (caps:List PK)(z:ab caps):(r:List Ty)->Tup r->ab (r.map .rd++caps)
 |[],_=>z
 |_::as,x=>(x.1,nR caps z as x.2)
def sj (st:St)(z:List Ty)(B:Ty)(ls:List Leaf)(ps:List PK)(H:List RK)(r:Bool)(u:ab ps->Option (ai H×ah ps))(q:List PK):Option (Got (Tup z->Option B.den)) :=
 if h:ps=z.map .rd++q/\H=[.v B] then
  bif q.all PK.reads&&B.flat&&r then
   match uN st q (ls.map λl=>(.one,[l])) with
   |some g=>some ⟨g.p,λx=>(u (h.1 ▸ nR _ g.val z x)).map λy=>(h.2 ▸ y.1:ai [.v B]).1,g.frz,[],g.see,[]⟩
   |none=>none
  else none
 else none
def kM (Γ:List Ctr)(st:St)(r:List Ty)(B:Ty)(f:FuncId)(ls:List Leaf):Option (Got (Tup r->Option B.den)) :=
 match lZ Γ f with
 |some c=>sj st r B ls c.ps c.rs c.fresh c.den (c.ps.drop r.length)
 |none=>none
def vF:Leaf->Option (FuncId×List Leaf)
 |.clo f r=>some (f,r.map λb=>.bp b 0)
 |.clr f r=>some (f,r.map e9)
 |_=>none
def cg (Γ:List Ctr)(st:St):(pk:PK)->aI×List Leaf->Option (Got pk.den)
 |.fn r B,x=>match vF (ct x) with
  |some u=>kM Γ st r B u.1 u.2
  |none=>bm st (.fn r B) x
 |.rd a,x=>bm st (.rd a) x
 |.own a,x=>bm st (.own a) x
 |.io a,x=>bm st (.io a) x
 |.rref a,x=>bm st (.rref a) x
 |.rref2 a,x=>bm st (.rref2 a) x
 |.iop a,x=>bm st (.iop a) x
 |.clo f y,x=>bm st (.clo f y) x
 |.hol a c off,x=>bm st (.hol a c off) x
def oP (Γ:List Ctr)(st:St):(ps:List PK)->List (aI×List Leaf)->Option (Got (ab ps)):=bg (cg Γ st)
def PK.takes:PK->Bool
 |.own _|.io _=>true
 |_=>false
def PK.isIo:PK->Bool
 |.io _=>true
 |_=>false
def pD:Ty->Nat->Bool
 |.pair a b,j=>bif CO j a.cells then pD a j else pD b (j-a.cells)
 |.list m _ _,j=>m&&BU j 0
 |_,_=>false
def lE (a:Ty):Nat->List Leaf->Option Nat
 |_,[]=>none
 |j,l::r=>bif jz l&&pD a j then some j else lE a (j+1) r
def PK.nest:PK->List Leaf->Option Nat
 |.own a,r=>lE a 0 r
 |.io a,r=>lE a 0 r
 |_,_=>none
def km:Leaf->Nat×Nat
 |.nal _ ((r,j,_)::_) _ _ _ _ _=>(r,j)
 |_=>(0,0)
def c9 (st:St):List PK->List (aI×List Leaf)->Option (Upd×List (aI×List Leaf)×Option (Bool×Nat×Nat))
 |p::y,x::r=>match p.nest x.2 with
  |some k=>(cr st (x.2.getD k .dead)).map λu=>(u.1,(x.1,aV x.2 k u.2)::r,some (p.isIo,km (x.2.getD k .dead)))
  |none=>(c9 st y r).map λu=>(u.1,x::u.2.1,u.2.2)
 |_,r=>some ([],r,none)
section
variable {R:Type}
def l6 (st : St) (l : Leaf) (O : Upd -> Leaf -> Option R) : Option R :=
  match l with
  |.nal _ I ep H _ _ _=>bif bw st I ep then (match I,H with
      | [(r, j, _)], some (i, X, off) => (match (st r).ls.getD j .dead with
        |.own J none M z u=>bif !BU r TMP&&!BU r EPO&&BU X z.cells then
            (idx u (i:Int)).bind λy=>match bi off z 0 y with
              |some ⟨E,e,Y⟩=>O [(r,⟨(st r).ver,(st r).sh,aV (st r).ls j (.own J (some (i,off)) M z u)⟩),(TMP,⟨(st TMP).ver+1,.one,[.own (J&&z.shy) none E e Y]⟩),(EPO,bY (st EPO))] (.al TMP 0 ((st TMP).ver+1))
              |Option.none=>Option.none
          else Option.none
        |_=>Option.none)
      |_,_=>Option.none)
    else Option.none
  |_=>Option.none
def kN (st:St):List PK->List (aI×List Leaf)->(Upd->List (aI×List Leaf)->Option (Bool×Nat×Nat)->Option R)->Option R
 |p::y,x::r,u=>match p.nest x.2 with
  |some k=>l6 st (x.2.getD k .dead) λU l=>u U ((x.1,aV x.2 k l)::r) (some (p.isIo,km (x.2.getD k .dead)))
  |none=>kN st y r λU z b=>u U (x::z) b
 |_,r,u=>u [] r none
def iU (st:St):(u:List Ty)->List (aI×List Leaf)->Option (Tup u)
 |[],[]=>some ()
 |a::as,x::r=>bif decide (x.1=bq a.isAgg) then match cU st a x.2 with
   |some (_,y)=>(iU st as r).map (y,·)
   |none=>none
  else none
 |_,_=>none
def RK.isV:RK->Bool
 |.v _|.bv _=>true
 |.box _=>false
def RK.isBv:RK->Bool
 |.bv _=>true
 |_=>false
def gN (st:St)(d:Nat):List RK->Bool
 |[.box _]=>decide ((st (B0+d)).sh=.off)
 |rs=>rs.all RK.isV
def oQ (b:Option (Bool×Nat×Nat))(frz kill:List (Nat×Nat))(d:Nat):Bool :=
 match b with
 |some (true,r,j)=>!(kill.any (iB (r,j)))&&!(frz.any (iB (r,j)))&&!BU r d&&!BU r (B0+d)
 |_=>true
def ka (st:St)(b:Option (Bool×Nat×Nat))(U:Upd)(u:Upd->Option R):Option R :=
 match b with
 |some (true,r,j) =>
  match (ac U st r).ls.getD j .dead,(ac U st TMP).ls with
  |.own p (some (i,off)) J I H,[.own q none E e M]=>(idx H (i:Int)).bind λy=>match bQ off E e M I 0 y with
   |some z=>u ((r,⟨(ac U st r).ver,(ac U st r).sh,aV (ac U st r).ls j (.own (p||q) none J I (H.set i z))⟩)::(TMP,⟨(ac U st TMP).ver+1,.off,[]⟩)::(EPO,bY (ac U st EPO))::U)
   |none=>none
  |_,_=>none
 |_=>u U
def jA (Γ:List Ctr)(st:St)(d:Nat)(f:FuncId)(xs:List (aI×List Leaf))(J:Upd->Option R):Option R :=
 match lZ Γ f with
 |some c=>kN st c.ps xs λu xs b =>
  match oP Γ (ac u st) c.ps xs with
  |some g=>bif be g.kill&&dJ g.frz g.kill&&gN st d c.rs&&!(g.see.any λq=>g.lend.any (BU q))&&CS g.lend.length 1&&(g.lend.isEmpty||!(c.ps.any PK.isIo))&&((c.fresh&&g.lend.isEmpty)||!(c.rs.any RK.isBv))&&(g.kill.all λk=>!BU k.1 EPO)&&oQ b g.frz g.kill d then
   (c.den g.val).bind λy =>
    let H:=(let U:=(bif c.fresh then [] else aF (ac u st) g.frz);aO (ac U (ac u st)) g.kill++U)++u;let z:=aH (ac H st) (g.p&&!c.fresh) c.ps xs y.2++H;let r:=bH d (ac z st (B0+d)).ver (g.p&&!c.fresh) g.p (g.frz.map λk=>(k.1,k.2,(ac z st k.1).ver)) (ac z st EPO).ver c.rs y.1;let I:=r.2++z
    ka st b ((d,fa ((ac I st d).ver+1) r.1)::I) J
   else none
  |none=>none
 |none=>none
def ak:Nat:=140737488355328
def gb (st:St)(E:TypeId)(e:Ty)(y:Leaf):Option (cP (List e.den)) :=
 bif e.flat then (dp e (aE st y)).map λx=>⟨false,x.2,[],[],[]⟩
 else bif decide (e.sh=e) then (dp e (aE st y)).map λx=>⟨x.1,x.2,bC st [y],[],[]⟩
 else (cn st (.list true E e) [y]).map λt=>⟨t.p,t.val,t.frz,t.kill,[]⟩
def d5 (st r:St)(z:Upd)(d:Nat)(E:TypeId)(e:Ty)(u:Nat)(p:Bool)(xs:List e.den)(ks:List (Nat×Nat))(y:Leaf)(H:Upd->Option R):Option R :=
 match gb r E e y with
 |some t=>bif be (t.kill++ks)&&dJ t.frz (t.kill++ks)&&decide ((xs.length+t.val.length)*u<=ak) then
   let U:=aF r t.frz
   H (ck st (aO (ac U r) (t.kill++ks)++U++z) d .one [.own (p||t.p) none E e (xs++t.val)])
  else none
 |none=>none
def eH (st:St)(z:Upd)(d:Nat)(E:TypeId)(e:Ty)(u:Nat)(x y:Leaf)(I:Upd->Option R):Option R :=
 match x with
 |.al r j v=>match aE (ac z st) (.al r j v) with
  |.own p none H J M=>bif BU H E&&decide (J.sh=e.sh) then d5 st (ac z st) z d H J u p M [(r,j)] y I else none
  |_=>none
 |.nil=>d5 st (ac z st) z d E e u false [] [] y I
 |_=>none
def iC (st:St)(d:Nat)(E:TypeId)(e:Ty)(r:Nat)(x y:Leaf)(u:Upd->Option R):Option R :=
 bif jz x then l6 st x λz x=>eH st z d E e r x y u else eH st [] d E e r x y u
def dq (st:St)(x:Option Operand)(r:Int):Option Int :=
 match x with
 |none=>some r
 |some l=>match one st l with
  |.int _ n=>some n
  |_=>none
def fF (st:St)(r:List (Nat×Nat×Bool)):List (Nat×Operand)->List Leaf->Option (List Leaf)
 |[],u=>some u
 |(i,x)::y,u=>match r[i]? with
  |some (off,n,agg)=>bif BU (au st x).2.length n&&decide ((au st x).1=bq agg)&&decide (off+n<=u.length) then fF st r y (jI u (au st x).2 off) else none
  |none=>none
def eO (st:St)(e:Ty):Nat->List (Nat×Operand)->Option (cP (List e.den))
  |_,[]=>some ⟨false,[],[],[],[]⟩
  |k,(i,x)::r=>bif BU i k&&decide ((au st x).1=bq e.isAgg) then
      match cn st e (au st x).2,eO st e (k+1) r with
      |some t,some u=>some ⟨t.p||u.p,t.val::u.val,t.frz++u.frz,t.kill++u.kill,[]⟩
      |_,_=>none
    else none
def fP (st:St)(e:Ty):Nat->List Leaf->Option (List e.den)
 |0,_=>some []
 |n+1,r=>match cU st e (r.take e.cells),fP st e n (r.drop e.cells) with
  |some (_,x),some u=>some (x::u)
  |_,_=>none
def sD (st:St)(xs:List Operand):Option (List Nat) :=
 xs.foldl (λ (r:Option (List Nat)) x=>r.bind λl=>match one st x with
  |.bp b 0=>some (l++[b])
  |_=>none) (some [])
def wrU (o:Oper)(st:St)(r:Upd->Option R)(sh:aI)(ls:List Leaf):Option R:=match o.dst with
 |some d=>r (ck st [] d sh ls)
 |none=>none
def cQ (h:Option (Nat×Nat))(i:Nat):Option Nat:=match h with
 |some (u,r)=>bif BU u i then some r else none
 |none=>none
def holB (h:Option (Nat×Nat))(i:Nat):Option (Bool×Nat):=match h with
 |some (u,r)=>some (BU u i,r)
 |none=>none
theorem l7 (p:Bool)(r j v ep i u:Nat)(h:Option (Nat×Nat))(n:Nat):∀ (a:Ty) (off:Nat) (x:a.den),lC p r j v ep i u (holB h n) a off x=gM p r j v ep i u (cQ h n) a off x
 |.int _,_,_|.bool,_,_|.str,_,_|.unit,_,_|.hdr,_,_=>rfl
 |.pair a b,off,x=>by
  show _++_=_++_;rw[l7 p r j v ep i u h n a,l7 p r j v ep i u h n b]
 |.list m E e,off,I=>by
  simp only[lC,gM];congr 2;cases h with
  |none=>rfl
  |some q =>
   obtain⟨z,H⟩:=q;simp only[holB,cQ];by_cases y:BU z n=true
   ·simp only[y,Bool.and_true,cond_true,B4];rw[Bool.eq_iff_iff,Nat.beq_eq,decide_eq_true_eq]
   ·simp only[Cp]at y;simp[y]
def gO (st:St)(r j i off:Nat)(n:Nat)(p:Bool)(E:TypeId)(e:Ty)(xs:List e.den)(h:Option (Nat×Nat))(ls:List Leaf)(M:Upd->Option R):Option R :=
 (idx xs (i:Int)).bind λz =>
  match di st off n e 0 z ls with
  |some t=>bif t.rest.isEmpty&&be t.kill&&dJ t.frz t.kill&&!((t.kill++t.frz).any λk=>BU k.1 r) then
    let I:=aF st t.frz;let J:=aO (ac I st) t.kill++I;let u (l:Leaf):Option R:=M ((r,⟨(st r).ver,(st r).sh,aV (st r).ls j l⟩)::(EPO,bY (ac J st EPO))::J)
    match h with
    |none=>u (.own (p||t.p) none E e (xs.set i t.val))
    |some (H,y)=>bif CS off y&&CO y (off+n) then (bif BU i H then u (.own (p||t.p) none E e (xs.set i t.val)) else u (.own (p||t.p) (some (H,y)) E e (xs.set i t.val)))
     else u (.own (p||t.p) (some (H,y)) E e (xs.set i t.val))
   else none
  |none=>none
def sk (r:Nat):Bool:=!BU r TMP&&!BU r EPO
def eJ (s:ByteArray):List Int:=s.data.toList.map λb=>(b.toNat:Int)
def gP (xs:List Int):ByteArray:=ByteArray.mk (xs.map λn=>UInt8.ofNat n.toNat).toArray
def act (Γ:List Ctr)(T:TypeId->TI)(o:Oper)(st:St)(M:Upd->Option R):Option R :=
 let w (sh:aI) (ls:List Leaf):Option R:=wrU o st M sh ls;let w1 (l:Leaf):Option R:=w .one [l]
 match o.op with
 |.move x=>let v:=au st x;w v.1 v.2
 |.assign x=>match o.dst with
  |some d=>let v:=au st x;bif ik st v.2 then M (ck st (mvU st v.2) d v.1 (dP st v.2)) else none
  |none=>none
 |.pick c a b=>match one st c with
  |.bool t=>bif t then (let v:=au st a;w v.1 v.2) else (let v:=au st b;w v.1 v.2)
  |_=>none
 |.alloc t=>match o.dst with
  |some d=>bif decide ((st (B0+d)).sh=.off)&&!decide ((T t).cells=0) then M ((B0+d,⟨(st (B0+d)).ver+1,.agg,(T t).zero⟩)::ck st [] d .one [.bp (B0+d) 0]) else none
  |none=>none
 |.box t x=>match o.dst with
  |some d=>let v:=au st x
   bif decide ((st (B0+d)).sh=.off)&&decide (v.2.length=(T t).cells)&&decide (v.1=bq (T t).agg)&&ik st v.2 then
    (bif sA st x then M ((B0+d,⟨(st (B0+d)).ver+1,.agg,v.2⟩)::ck st [] d .one [.bp (B0+d) 0])
    else (let U:=mvU st v.2
     M ((B0+d,⟨(ac U st (B0+d)).ver+1,.agg,dP st v.2⟩)::ck st U d .one [.bp (B0+d) 0])))
   else none
  |none=>none
 |.build t H=>match T t with
  |.struct a J=>match fF st J H.toList (fg a) with
   |some ls=>w .agg ls
   |none=>none
  |.arr e n=>match fF st ((CN n).map λi=>(i*e.cells,e.cells,e.isAgg)) H.toList (CE n (fg e)).flatten with
   |some ls=>w .agg ls
   |none=>none
  |_=>none
 |.buildSlice t n H=>match T t with
  |.slice E e _=>match eO st e 0 H.toList with
   |some u=>bif BU u.val.length n&&decide (n*e.cells<=16777216)&&be u.kill&&dJ u.frz u.kill then (match o.dst with
     |some d=>let U:=aF st u.frz;M (ck st (aO (ac U st) u.kill++U) d .one [.own u.p none E e u.val])
     |none=>none) else none
   |none=>none
  |_=>none
 |.load t x =>
  bif decide ((T t).cells=0) then none else
  match one st x with
  |.rp p a y off=>bif decide (off+(T t).cells<=a.cells) then w (bq (T t).agg) (((cO p a y).drop off).take (T t).cells) else none
  |.bp b off=>bif decide ((st b).sh=.agg)&&decide (off+(T t).cells<=(st b).ls.length) then w (bq (T t).agg) (((bJ b (st b).ver 0 (st b).ls).drop off).take (T t).cells) else none
  |.rpp p a y=>bif BU (T t).cells 1&&!(T t).agg then w1 (.rp p a y 0) else none
  |.np p Y ep a y off=>bif bw st Y ep&&decide (off+(T t).cells<=a.cells) then w (bq (T t).agg) (((lB p Y ep a y).drop off).take (T t).cells) else none
  |.ep r j v i sz off=>match aE st (.al r j v) with
   |.own p h _ e z=>bif BU sz e.cells&&decide (off+(T t).cells<=e.cells) then (idx z (i:Int)).bind λy=>w (bq (T t).agg) (((lC p r j v (st EPO).ver i sz (holB h i) e 0 y).drop off).take (T t).cells) else none
   |_=>none
  |_=>none
 |.store t x y=>match o.dst with
  |some _=>none
  |none =>
  let v:=(au st y).2
  bif BU v.length (T t).cells&&decide ((au st y).1=bq (T t).agg)&&!decide ((T t).cells=0) then
   match one st x with
   |.bp b off=>bif decide ((st b).sh=.agg)&&decide (off+v.length<=(st b).ls.length)&&ik st v then
     let U:=mvU st v;let c:=ac U st b
     M ((b,⟨c.ver+1,.agg,jI c.ls (dP st v) off⟩)::U)
    else none
   |.ep r j a0 i sz off=>match aE st (.al r j a0) with
    |.own p h E e z=>bif BU sz e.cells&&decide (off+v.length<=e.cells)&&sk r then gO st r j i off v.length p E e z h v M else none
    |_=>none
   |_=>none
  else none
 |.nilCheck x=>match one st x with
  |.rp p a y off=>w1 (.rp p a y off)
  |.bp b off=>w1 (.bp b off)
  |.ep r j v i sz off=>bif BU (st r).ver v then w1 (.ep r j v i sz off) else none
  |.rpp p a y=>w1 (.rpp p a y)
  |.np p Y ep a y off=>bif bw st Y ep then w1 (.np p Y ep a y off) else none
  |_=>none
 |.binOp op t x y _=>match one st x,one st y with
  |.int k a,.int k' b =>
   match op with
   |.shl=>bif decide (b<0) then none else w1 (.int k (k.wrap (a*2 ^ (min b.toNat k.bits))))
   |.shr=>bif decide (b<0) then none else w1 (.int k (a.fdiv (2 ^ (min b.toNat k.bits))))
   |.quo=>bif decide (b=0) then none else bif decide (k=k') then w1 (.int k (k.wrap (a.tdiv b))) else none
   |.rem=>bif decide (b=0) then none else bif decide (k=k') then w1 (.int k (a.tmod b)) else none
   |.and=>bif decide (k=k') then w1 (.int k (k.wrap ((BitVec.ofInt k.bits a &&& BitVec.ofInt k.bits b).toNat))) else none
   |.xor=>bif decide (k=k') then w1 (.int k (k.wrap ((BitVec.ofInt k.bits a ^^^ BitVec.ofInt k.bits b).toNat))) else none
   |_=>bif decide (k=k') then (match sC op k a b with|some l=>w1 l|none=>none) else none
  |.bool a,.bool b=>match T t with
   |.bool=>match op with
    |.eql=>w1 (.bool (a==b))
    |.neq=>w1 (.bool (a != b))
    |_=>none
   |_=>none
  |.str a,.str b=>match op with
   |.eql=>w1 (.bool (a.toList==b.toList))
   |.neq=>w1 (.bool (a.toList != b.toList))
   |.add=>bif decide (a.size+b.size<=9223372036854775807) then w1 (.str (a++b)) else none
   |_=>none
  |_,_=>match T t with
   |.struct a _=>bif a.flat&&decide ((au st x).1=.agg)&&decide ((au st y).1=.agg) then
     match cU st a (au st x).2,cU st a (au st y).2 with
     |some (_,u),some (_,v)=>match op with
      |.eql=>w1 (.bool (a.eqv u v))
      |.neq=>w1 (.bool (!a.eqv u v))
      |_=>none
     |_,_=>none
    else none
   |_=>none
 |.unOp op _ x=>match op,one st x with
  |.not,.bool b=>w1 (.bool (!b))
  |.neg,.int k n=>w1 (.int k (k.wrap (0-n)))
  |_,_=>none
 |.convert s t x=>match T s,T t,one st x with
  |.int _,.int k,.int _ n=>w1 (.int k (k.wrap n))
  |.slice _ (.int .u8) _,.str,l=>match dp (.int .u8) (aE st l) with
   |some (_,z)=>w1 (.str (gP z))
   |none=>none
  |.str,.slice E (.int .u8) _,.str s=>w1 (.own false none E (.int .u8) (eJ s))
  |_,_,_=>none
 |.makeSlice t n c=>match T t,one st n,one st c with
  |.slice E e X,.int _ a,.int _ b =>
   bif decide (0<=a)&&decide (a=b)&&decide (a*X<=ak) then w1 (.own false none E e (CE a.toNat e.zero)) else none
  |_,_,_=>none
 |.slice t x lo hi mx=>match mx,o.dst with
  |none,some d=>match dq st lo 0 with
   |none=>none
   |some i=>match T t,aE st (one st x) with
    |.str,.str s=>(match dq st hi s.size with
     |some h=>bif decide (0<=i)&&decide (i<=h)&&decide (h<=(s.size:Int)) then M (ck st [] d .one [.str (s.extract i.toNat h.toNat)]) else none
     |none=>none)
    |.slice _ O _,.nal p Y ep _ E e z=>(match dq st hi z.length with
     |some h=>bif decide (0<=i)&&decide (i<=h)&&decide (h<=(z.length:Int))&&BU O.cells e.cells then
       M (ck st [] d .one [.nal p Y ep none E e ((z.take h.toNat).drop i.toNat)]) else none
     |none=>none)
    |.slice _ O _,.ro p E e z=>(match dq st hi z.length with
     |some h=>bif decide (0<=i)&&decide (i<=h)&&decide (h<=(z.length:Int))&&BU O.cells e.cells then
       M (ck st [] d .one [.ro p E e ((z.take h.toNat).drop i.toNat)]) else none
     |none=>none)
    |.slice _ O _,.own p none E e z=>(match dq st hi z.length with
     |some h=>bif decide (0<=i)&&decide (i<=h)&&decide (h<=(z.length:Int))&&BU O.cells e.cells then
       (match one st x with
       |.al r j v=>M (ck st [] d .one [.nal p [(r,j,v)] (st EPO).ver none E e ((z.take h.toNat).drop i.toNat)])
       |_=>none) else none
     |none=>none)
    |_,_=>none
  |some m,some d=>match lo,T t,one st x with
   |none,.slice _ O _,.al r j v=>(match aE st (.al r j v) with
    |.own p none E e z=>(match dq st hi z.length,dq st (some m) 0 with
     |some h,some k=>bif hi.isSome&&decide (h=(z.length:Int))&&decide (k=(z.length:Int))&&BU O.cells e.cells then M (ck st (aO st [(r,j)]) d .one [.own p none E e z]) else none
     |_,_=>none)
    |_=>none)
   |_,_,_=>none
  |_,_=>none
 |.fieldAddr t x f=>match T t with
  |.struct _ J=>match J[f]? with
   |some (off,_,_)=>match one st x with
    |.rp p a y o'=>w1 (.rp p a y (o'+off))
    |.bp b o'=>w1 (.bp b (o'+off))
    |.ep r j v i sz o'=>bif BU (st r).ver v then w1 (.ep r j v i sz (o'+off)) else none
    |.np p Y ep a y o'=>bif bw st Y ep then w1 (.np p Y ep a y (o'+off)) else none
    |_=>none
   |none=>none
  |_=>none
 |.field t x f=>match T t with
  |.struct a J=>match J[f]? with
   |some (off,n,agg)=>bif decide ((au st x).1=.agg)&&decide ((au st x).2.length=a.cells) then w (bq agg) (((au st x).2.drop off).take n) else none
   |none=>none
  |_=>none
 |.indexAddr t x i=>match one st i with
  |.int _ n=>match T t with
   |.arr e Z=>match one st x with
    |.bp b off=>bif decide (0<=n)&&decide (n<(Z:Int)) then w1 (.bp b (off+n.toNat*e.cells)) else none
    |_=>none
   |.slice _ e _=>match one st x with
    |.al r j v=>match aE st (.al r j v) with
     |.own _ _ _ O z=>bif BU O.cells e.cells then (idx z n).bind λ_=>w1 (.ep r j v n.toNat O.cells 0) else none
     |_=>none
    |.ro p _ O z=>bif BU O.cells e.cells then (idx z n).bind λy=>w1 (.rp p O y 0) else none
    |.nal p Y ep _ _ O z=>bif BU O.cells e.cells&&bw st Y ep then (idx z n).bind λy=>w1 (.np p Y ep O y 0) else none
    |_=>none
   |_=>none
  |_=>none
 |.index t x i=>match one st i with
  |.int _ n=>match T t with
   |.str=>match one st x with
    |.str s=>(idx s.data.toList n).bind λy=>w1 (.int .u8 y.toNat)
    |_=>none
   |.arr e Z=>bif e.flat&&decide ((au st x).1=.agg)&&BU (au st x).2.length (Z*e.cells)&&!BU e.cells 0 then (match fP st e Z (au st x).2 with
     |some vs=>(idx vs n).bind λy=>w (bq e.isAgg) (cO false e y)
     |none=>none) else none
   |_=>none
  |_=>none
 |.extract x i=>match au st x with
  |(.tup ps,ls)=>match ps[i]? with
   |some (agg,n)=>w (bq agg) ((ls.drop ((ps.take i).foldl (λa b=>a+b.2) 0)).take n)
   |none=>none
  |_=>none
 |.makeFunc (.func f) first I=>bif BU first.size 0 then
   match sD st I.toList with
   |some l=>w1 (.clo f l)
   |none=>none
  else none
 |.call c=>match o.dst with
  |none=>none
  |some d=>match c.callee with
   |.value f =>
    let z:=c.args.toList.map (au st)
    match one st f with
    |.clo g I=>jA Γ st d g (z++I.map λb=>(.one,[.bp b 0])) M
    |.clr g I=>jA Γ st d g (z++I.map λc=>(.one,[e9 c])) M
    |.fn As B φ=>bif B.flat then match iU st As z with
      |some x=>(φ x).bind λy=>w (bq B.isAgg) (ap false B y)
      |none=>none
     else none
    |_=>none
   |.builtin .len=>match c.args.toList with
    |[x]=>match c.argTypes.toList with
     |[t]=>match T t,aE st (one st x) with
      |.slice _ _ _,l=>(match gl l with
       |some n=>w1 (.int .i64 n)
       |none=>none)
      |.str,.str s=>w1 (.int .i64 s.size)
      |_,_=>none
     |_=>none
    |_=>none
   |.builtin .append=>match c.args.toList,c.argTypes.toList with
    |[x,y],[t,u]=>match T t with
     |.slice E e X=>bif BU t u then iC st d E e X (one st x) (one st y) M else none
     |_=>none
    |_,_=>none
   |.builtin .min=>match c.args.toList with
    |[x,y]=>match one st x,one st y with
     |.int k a,.int _ b=>w1 (.int k (bif decide (b<a) then b else a))
     |_,_=>none
    |_=>none
   |.builtin .max=>match c.args.toList with
    |[x,y]=>match one st x,one st y with
     |.int k a,.int _ b=>w1 (.int k (bif decide (a<b) then b else a))
     |_,_=>none
    |_=>none
   |_=>none
 |_=>none
def ay:List Leaf->List Nat
 |[]=>[]
 |.al r _ _::u=>r::ay u
 |.ep r _ _ _ _ _::u=>EPO::r::ay u
 |.nal _ z _ _ _ _ _::u=>EPO::z.map (·.1)++ay u
 |.np _ z _ _ _ _::u=>EPO::z.map (·.1)++ay u
 |.bp b _::u=>b::ay u
 |.clo _ y::u=>y++ay u
 |_::u=>ay u
def iD (xs:List Operand):List Nat :=
 match xs with
 |[]=>[]
 |.tmp t::xs=>t::iD xs
 |_::xs=>iD xs
def kO (st:St)(r:List Nat):List Nat :=
 let a:=r.flatMap λt=>ay (st t).ls
 let b:=a.flatMap λt=>ay (st t).ls
 let c:=b.flatMap λt=>ay (st t).ls
 r++a++b++c
def cz (st:St)(u:Op):List Nat :=
 let r:=iD u.operands.toList
 match u with
 |.move _|.pick _ _ _|.build _ _|.field _ _ _|.extract _ _|.makeFunc _ _ _|.unOp _ _ _|.makeSlice _ _ _|.alloc _=>r
 |.slice _ _ _ _ _=>EPO::(r++r.flatMap λt=>aw (st t).ls)
 |.assign _|.box _ _|.buildSlice _ _ _|.indexAddr _ _ _|.nilCheck _|.fieldAddr _ _ _|.convert _ _ _|.binOp _ _ _ _ _|.index _ _ _=>r++r.flatMap λt=>aw (st t).ls
 |.load _ _|.store _ _ _=>r++r.flatMap λt=>ay (st t).ls
 |.call c=>match c.callee with
  |.builtin _=>TMP::(r++r.flatMap λt=>aw (st t).ls)
  |_=>TMP::EPO::kO st r
 |_=>kO st r
def zS (o:Oper):List Nat:=match o.dst with
 |some d=>[d,B0+d]
 |none=>[]
def fh (st:St)(u:Op):List Nat :=
 let r:=iD u.operands.toList
 match u with
 |.move _=>r
 |.indexAddr _ _ _=>r++r.flatMap λt=>aw (st t).ls
 |_=>[]
def fG (st:St)(o:Oper):List Nat:=(match o.op with|.move _|.indexAddr _ _ _=>[]|op=>cz st op)++zS o
def ee (st:St)(o:Oper):List Nat:=match o.op with
 |.store _ x _=>match one st x with
  |.ep r _ _ _ _ _=>[r]
  |_=>[]
 |_=>[]
structure cR where
 rd:List Nat
 hd:List Nat
 wr:List Nat
 cw:List Nat
def l8 (a b:List Nat):Bool:=a.any λx=>b.any λy=>BU x y
def cR.apart (x y:cR):Bool:=!l8 (x.wr++x.cw) (y.wr++y.cw)&&!l8 (x.wr++x.cw) y.rd&&!l8 x.rd (y.wr++y.cw)&&!l8 x.wr y.hd&&!l8 x.hd y.wr
def jT:List Oper->List Nat->List Nat
 |[],r=>r
 |o::u,r=>jT u (r++[o.after.toList.foldl (λs e=>bif Region.binds .any e then s ||| 2 ^ e.on ||| r.getD e.on 0 else s) 0])
def pE (r:List Nat)(u:List cR):Bool :=
 (CN u.length).all λj=>(CN j).all λi =>
  (r.getD j 0).testBit i||(match u[i]?,u[j]? with
   |some x,some y=>x.apart y
   |_,_=>false)
def lit (st:St)(t:Nat)(b:Bool):St:=ac [(t,⟨(st t).ver,.one,[.bool b]⟩)] st
def eX (st:St)(o:Oper):Upd :=
 match o.dst with
 |some d=>[(d,⟨(st d).ver+1,.und,[]⟩)]
 |none=>[]
def opK (Γ:List Ctr)(T:TypeId->TI)(z:Array Oper)(o:Oper)(st:St)(H:St->cR->Option R):Option R :=
 let y (st:St) (r:List Nat):Option R:=act Γ T o st (λU=>H (ac U st) ⟨r++fG st o,fh st o.op,(U.map (·.1)).filter (λq=>!((ee st o).any (BU q))),ee st o⟩);let no (st:St) (r:List Nat):Option R:=H (ac (eX st o) st) ⟨r,[],o.dst.toList,[]⟩
 match o.guard with
 |none=>y st []
 |some (j,u)=>match (z[j]?).bind (·.dst) with
  |some t=>match (st t).sh,(st t).ls with
   |.one,[.bool b]=>bif b then (bif u then y (lit st t true) [t] else no (lit st t true) [t]) else (bif u then no (lit st t false) [t] else y (lit st t false) [t])
   |.und,_=>no st [t]
   |_,_=>none
  |none=>none
def qu (Γ:List Ctr)(T:TypeId->TI)(r:Array Oper):List Oper->St->List cR->(St->List cR->Option R)->Option R
 |[],z,H,I=>I z H
 |o::u,z,H,I=>opK Γ T r o z (λy t=>qu Γ T r u y (H++[t]) I)
def nS (ops:Array Oper):Bool:=(CN ops.size).all λi=>match ops[i]? with
 |some o=>o.after.toList.all λe=>!Region.binds .any e||decide (e.on<i)
 |none=>true
def regK (Γ:List Ctr)(T:TypeId->TI)(ops:Array Oper)(u:Bool)(st:St)(y:St->Option R):Option R :=
 bif u then
  qu Γ T ops ops.toList st [] (λr z=>bif nS ops&&pE (jT ops.toList []) z then y r else none)
 else qu Γ T ops ops.toList st [] (λr _=>y r)
inductive Ex where
 |normal|exit (id:Nat)|ret
def oR (y:St->(Ex->St->Option R)->Option R)(u:Ex->St->Option R):Ex->St->Option R
 |.normal,r=>y r u
 |e,r=>u e r
def sE (id:Nat)(y:Ex->St->Option R):Ex->St->Option R
 |.exit r,u=>bif BU r id then y .normal u else y (.exit r) u
 |e,u=>y e u
def av (L:List (Nat×bV)):St:=λq=>ac L (λ_=>bV.none) q
inductive Coe where
 |keep|kill
 |own (p:Bool) (E:TypeId) (e:Ty)|ro (p:Bool) (E:TypeId) (e:Ty)|rp (p:Bool)
def bB (st:St)(live:List Nat):Coe->Leaf->Leaf
 |.kill,_=>.dead
 |.own p E e,.nil=>.own p none E e []
 |.own p _ _,.own q none E e y=>bif !q||p then .own p none E e y else .dead
 |.ro p E e,.nil=>.ro p E e []
 |.ro p E e,.ro q _ H y=>bif !q||p then (match castSh e H y with | some z=>.ro p E e z | none=>.dead) else .dead
 |.ro p E e,.own q none _ H y=>bif !q||p then (match castSh e H y with | some z=>.ro p E e z | none=>.dead) else .dead
 |.rp p,.rpp q a x=>bif !q||p then .rpp p a x else .dead
 |.rp p,.rp q a x off=>bif !q||p then .rp p a x off else .dead
 |.keep,.int k n=>.int k n
 |.keep,.bool b=>.bool b
 |.keep,.str s=>.str s
 |.keep,.nil=>.nil
 |.keep,.hdr n=>.hdr n
 |.keep,.fn J B M=>.fn J B M
 |.keep,.clr f I=>.clr f I
 |.keep,.bp b off=>bif live.any (BU b) then .bp b off else .dead
 |.keep,.clo f u=>bif u.all (λb=>live.any (BU b)) then .clo f u else .dead
 |.keep,.al r j v=>bif live.any (BU r)&&BU (st r).ver v then .al r j 0 else .dead
 |_,_=>.dead
def db (st:St)(live:List Nat):List Coe->List Leaf->List Leaf
 |c::u,l::r=>bB st live c l::db st live u r
 |[],_::r=>.dead::db st live [] r
 |_,[]=>[]
def l9 (live:List (Nat×List Coe))(st:St):St:=av (live.map λr=>(r.1,⟨0,(st r.1).sh,db st (live.map (·.1)) r.2 (st r.1).ls⟩))
def gQ (live:List (Nat×List Coe))(rec:St->Option R)(u:Ex->St->Option R):Ex->St->Option R
 |.normal,r=>rec (l9 live r)
 |e,r=>u e r
def bh (live:List (Nat×List Coe))(u:St->(Ex->St->Option R)->Option R):Nat->St->(Ex->St->Option R)->Option R
 |0,_,_=>none
 |k+1,z,y=>u z (gQ live (λr=>bh live u k r y) y)
def fb:Code->Nat
 |.region id _ _=>id+1
 |.seq a b=>match fb a with
  |0=>fb b
  |n=>n
 |.cond _ a b=>match fb a with
  |0=>fb b
  |n=>n
 |.block _ c=>fb c
 |.loop c=>fb c
 |.scope c=>fb c
 |_=>0
def lF (L:List (Nat×List (Nat×List Coe)))(k:Nat):List (Nat×List Coe):=match L with
 |[]=>[]
 |(n,l)::r=>bif BU n k then l else lF r k
def zT (st:St)(c:Operand)(r no:St->Option R):Option R :=
 match c with
 |.tmp t=>match (st t).sh,(st t).ls with
  |.one,[.bool b]=>bif b then r (lit st t true) else no (lit st t false)
  |_,_=>none
 |.const (.bool b)=>bif b then r st else no st
 |_=>none
def evK (Γ:List Ctr)(T:TypeId->TI)(L:List (Nat×List (Nat×List Coe)))(r:Nat):Code->St->(Ex->St->Option R)->Option R
 |.skip,u,z=>z .normal u
 |.region _ I H,u,z=>regK Γ T I H u (z .normal)
 |.seq a b,u,z=>evK Γ T L r a u (oR (evK Γ T L r b) z)
 |.cond c x y,u,z=>zT u c (λu=>evK Γ T L r x u z) (λu=>evK Γ T L r y u z)
 |.block id c,u,z=>evK Γ T L r c u (sE id z)
 |.loop c,u,z=>bh (lF L (fb c)) (evK Γ T L r c) r (l9 (lF L (fb c)) u) z
 |.exit id,u,z=>z (.exit id) u
 |.ret,u,z=>z .ret u
 |_,_,_=>none
def sub:Code->List Nat->Code
 |.seq a _,0::p=>sub a p
 |.seq _ b,1::p=>sub b p
 |.cond _ x _,0::p=>sub x p
 |.cond _ _ y,1::p=>sub y p
 |.block _ c,0::p=>sub c p
 |.loop c,0::p=>sub c p
 |c,_=>c
def kAt (u:Code->St->(Ex->St->Option R)->Option R):Code->List Nat->(Ex->St->Option R)->Ex->St->Option R
 |.seq a b,0::p,r=>kAt u a p (oR (u b) r)
 |.seq _ b,1::p,r=>kAt u b p r
 |.cond _ x _,0::p,r=>kAt u x p r
 |.cond _ _ y,1::p,r=>kAt u y p r
 |.block id c,0::p,r=>kAt u c p (sE id r)
 |_,_,r=>r
def cS (fn:Func):Code:=match fn.body with
 |some c=>c
 |none=>.skip
def ae {A:Type}(step:(A->Option R)->A->Option R):Nat->A->Option R
 |0,_=>none
 |k+1,a=>step (ae step k) a
theorem la {A:Type}(live:List (Nat×List Coe))(r:St->(Ex->St->Option R)->Option R)(u:Ex->St->Option R)(S:A->St)
  (step:(A->Option R)->A->Option R) (h:∀ (rec:St->Option R) (a:A),r (S a) (gQ live rec u)=step (λa=>rec (S a)) a) :
  ∀ (k:Nat) (a:A),bh live r k (S a) u=ae step k a
 |0,_=>rfl
 |k+1,a=>by
  have y:=la live r u S step h k;simp only[bh,ae];rw[h];exact congrArg (λg=>step g a) (funext y)
abbrev wr (k:IntKind)(n:Int):Int:=k.wrap n
def aT (k:IntKind)(a b:Int):Int:=k.wrap ((BitVec.ofInt k.bits a &&& BitVec.ofInt k.bits b).toNat)
def qv (k:IntKind)(a b:Int):Int:=k.wrap ((BitVec.ofInt k.bits a ^^^ BitVec.ofInt k.bits b).toNat)
def kb (p:Bool):(cs:List (Bool×Ty))->lY cs->List (Bool×Bool×(a:Ty)×a.den)
 |[],_=>[]
 |c::cs,x=>(p,c.1,⟨c.2,x.1⟩)::kb p cs x.2
def uO (i off:Nat):Leaf->Leaf
 |.own p _ E e r=>.own p (some (i,off)) E e r
 |l=>l
def de (t:Nat):(ps:List PK)->ab ps->Upd
 |[],_=>[]
 |.rd a::ps,x=>(t,⟨0,bq a.isAgg,cO true a x.1⟩)::de (t+1) ps x.2
 |.own a::ps,x=>(t,⟨0,bq a.isAgg,ap true a x.1⟩)::de (t+1) ps x.2
 |.io a::ps,x=>(t,⟨7,bq a.isAgg,ap true a x.1⟩)::de (t+1) ps x.2
 |.rref a::ps,x=>(t,⟨0,.one,[.rp true a x.1 0]⟩)::de (t+1) ps x.2
 |.rref2 a::ps,x=>(t,⟨0,.one,[.rpp true a x.1]⟩)::de (t+1) ps x.2
 |.iop a::ps,x=>(t,⟨0,.one,[.bp (B0+t) 0]⟩)::(B0+t,⟨0,.agg,ap true a x.1⟩)::de (t+1) ps x.2
 |.fn u B::ps,x=>(t,⟨0,.one,[.fn u B x.1]⟩)::de (t+1) ps x.2
 |.clo f r::ps,x=>(t,⟨0,.one,[.clr f (kb true r x.1)]⟩)::de (t+1) ps x.2
 |.hol a c off::ps,x=>(t,⟨0,bq a.isAgg,aV (ap true a x.1.1) c (uO x.1.2 off ((ap true a x.1.1).getD c .dead))⟩)::de (t+1) ps x.2
def il (st:St)(t:Nat):(ps:List PK)->Option (cP (ah ps))
 |[]=>some ⟨false,(),[],[],[]⟩
 |.io a::ps=>match (bif decide ((au st (.tmp t)).1=bq a.isAgg) then cn st a (au st (.tmp t)).2 else none),il st (t+1) ps with
  |some x,some y=>some ⟨x.p||y.p,(x.val,y.val),x.frz++y.frz,x.kill++y.kill,[]⟩
  |_,_=>none
 |.iop a::ps=>match cn st a (bJ (B0+t) (st (B0+t)).ver 0 (st (B0+t)).ls),il st (t+1) ps with
  |some x,some y=>some ⟨x.p||y.p,(x.val,y.val),x.frz++y.frz,x.kill++y.kill,[]⟩
  |_,_=>none
 |.rd _::ps=>il st (t+1) ps
 |.own _::ps=>il st (t+1) ps
 |.rref _::ps=>il st (t+1) ps
 |.rref2 _::ps=>il st (t+1) ps
 |.fn _ _::ps=>il st (t+1) ps
 |.clo _ _::ps=>il st (t+1) ps
 |.hol _ _ _::ps=>il st (t+1) ps
def vG (st:St)(T:TypeId->TI):ResultVar->List Leaf
 |.tmp t=>(au st (.tmp t)).2
 |.cell t r=>match one st (.tmp t) with
  |.bp b off=>((bJ b (st b).ver 0 (st b).ls).drop off).take (T r).cells
  |_=>[]
def pF (st:St)(T:TypeId->TI):ResultVar->aI
 |.tmp t=>(au st (.tmp t)).1
 |.cell t r=>match one st (.tmp t) with
  |.bp b off=>bif decide ((st b).sh=.agg)&&CS (off+(T r).cells) (st b).ls.length&&!BU (T r).cells 0 then bq (T r).agg else .off
  |_=>.off
def RK.sh:RK->aI
 |.v a=>bq a.isAgg
 |.bv a=>bq a.isAgg
 |.box _=>.one
def bK (t:Nat):List PK->List Nat
 |[]=>[]
 |.iop _::r=>(B0+t)::bK (t+1) r
 |_::r=>bK (t+1) r
def gw (t:Nat):List PK->List Nat
 |[]=>[]
 |.io _::r=>t::gw (t+1) r
 |.iop _::r=>t::gw (t+1) r
 |_::r=>gw (t+1) r
def sl (st:St)(z:List Nat):(r:RK)->List Leaf->Option (cP r.den)
 |.v a,u=>cn st a u
 |.bv a,u=>(cU st a u).map λy=>⟨false,y.2,bC st u,[],[]⟩
 |.box a,u=>match u with
  |[.bp b 0]=>bif !(z.any (BU b)) then cn st a (bJ b (st b).ver 0 (st b).ls) else none
  |_=>none
def kt (st:St)(T:TypeId->TI)(H:List Nat):(u:List RK)->List ResultVar->Option (cP (ai u))
 |[],[]=>some ⟨false,(),[],[],[]⟩
 |r::u,x::I=>bif decide (pF st T x=r.sh) then match sl st H r (vG st T x),kt st T H u I with
  |some y,some z=>some ⟨y.p||z.p,(y.val,z.val),y.frz++z.frz,y.kill++z.kill,[]⟩
  |_,_=>none else none
 |_,_=>none
def finR (T:TypeId->TI)(ps:List PK)(z:List RK)(r:Bool)(u:List ResultVar)(st:St):Option (ai z×ah ps) :=
 match kt st T (bK 0 ps) z u,il st 0 ps with
 |some y,some o=>bif be (y.kill++o.kill)&&dJ (y.frz++o.frz) (y.kill++o.kill)&&(!r||!(y.p||o.p)) then some (y.val,o.val) else none
 |_,_=>none
def da (T:TypeId->TI)(ps:List PK)(y:List RK)(r:Bool)(u:List ResultVar):Ex->St->Option (ai y×ah ps)
 |.exit _,_=>none
 |_,z=>finR T ps y r u z
def lG (nt:Nat)(fix:List Nat)(r:Array Oper)(o:Oper):Bool :=
 (match o.dst with
  |some d=>CO d nt&&!(fix.any (BU d))
  |none=>true) &&
 (match o.guard with
  |some (j,_)=>match (r[j]?).bind (·.dst) with
   |some s=>CO s nt
   |none=>true
  |none=>true)
def wZ (nt:Nat):Operand->Bool
 |.tmp t=>CO t nt
 |_=>true
def dX (nt:Nat)(fix:List Nat):Code->Bool
 |.region _ r _=>r.toList.all (lG nt fix r)
 |.seq a b=>dX nt fix a&&dX nt fix b
 |.cond c a b=>wZ nt c&&dX nt fix a&&dX nt fix b
 |.block _ c=>dX nt fix c
 |.loop c=>dX nt fix c
 |_=>true
def qw:List RK->Bool
 |[.box _]=>true
 |rs=>rs.all RK.isV
def du (L:List (Nat×List (Nat×List Coe)))(u:List Nat):Code->Bool
 |.seq a b=>du L u a&&du L u b
 |.cond _ a b=>du L u a&&du L u b
 |.block _ c=>du L u c
 |.loop c=>(u.all λb=>(lF L (fb c)).any λr=>BU r.1 b)&&du L u c
 |_=>true
def evF (Γ:List Ctr)(T:TypeId->TI)(L:List (Nat×List (Nat×List Coe)))(u:Nat)(fn:Func)(ps:List PK)(y:List RK)(r:Bool)(x:ab ps):Option (ai y×ah ps) :=
 match fn.body with
 |some c=>bif dX fn.ntmps (gw 0 ps) c&&CS ps.length fn.ntmps&&CS fn.ntmps GH&&qw y&&du L (bK 0 ps) c then
  evK Γ T L u c (av (de 0 ps x)) (da T ps y r fn.results.toList) else none
 |none=>none
end
def fj (e:Ty)(r:Nat)(xs:List e.den):Option ((List e.den×Unit)×Unit):=bif decide ((0+xs.length)*r<=ak) then some ((xs,()),()) else none
theorem kc (e:Ty)(r:Nat):fj e r []=some (([],()),()):=by
 unfold fj;simp[ak]
def jU:Code->Nat->Oper
 |.region _ r _,i=>(r[i]?).getD ⟨none,.move (.tmp 0),0,"",#[],none⟩
 |_,_=>⟨none,.move (.tmp 0),0,"",#[],none⟩
def iE (e:Ty)(r:Nat)(xs:List e.den)(i:Int)(u:List e.den):Option ((List e.den×Unit)×Unit) :=
 if 0<=i/\i<=(xs.length:Int)/\0<u.length/\(xs.length+u.length)*r<=ak then some ((xs.take i.toNat++u++xs.drop i.toNat,()),()) else none
def ma {α:Type}(r:α×Unit->Option Bool):List α->Option (List α)
 |[]=>some []
 |x::y=>(r (x,())).bind λb=>(ma r y).map λu=>bif b then u else x::u
def gR (e:Ty)(xs:List e.den)(r:e.den×Unit->Option Bool):Option ((List e.den×Unit)×Unit):=if xs.length<=1048576 then (ma r xs).map λu=>((u,()),()) else none
abbrev Ty.hd:Ty->Ty
 |.pair a b=>.pair a.hd b.hd
 |.list _ _ _=>.hdr
 |a=>a
abbrev hdD:(a:Ty)->a.den->a.hd.den
 |.pair a b,x=>(hdD a x.1,hdD b x.2)
 |.list _ _ e,r=>List.length (α:=e.den) r
 |.int _,x=>x
 |.bool,x=>x
 |.str,x=>x
 |.unit,x=>x
 |.hdr,x=>x
noncomputable def qx (e:Ty)(r:Nat)(xs:List e.den):Option ((List e.hd.den×Unit)×Unit):=(fj e r xs).map λy=>((y.1.1.map (hdD e),()),())
def insI (n:Int):List Int->List Int
 |[]=>[n]
 |m::r=>if n<=m then n::m::r else m::insI n r
def zU:List Int->List Int
 |[]=>[]
 |n::r=>insI n (zU r)
def medianM (xs:List Int):Option ((Int×Unit)×Unit) :=
 let l:=zU (xs.drop (xs.length-3))
 some ((l.getD ((l.length-1) / 2) 0,()),())
def aX {R:Type}(x y:ByteArray)(k:ByteArray->Option R):Option R:=bif decide (x.size+y.size<=9223372036854775807) then k (x++y) else none
open Go.RowKit
def c7 (w:World)(g off:Nat)(cs:List Value):Prop:=∀ i v,cs[i]?=some v->w.cell? ⟨g,off+i,none⟩=some v
theorem c7.same {w w':World}{g off:Nat}{cs:List Value}(h:c7 w g off cs)(u:w'.heap[g]?=w.heap[g]?):c7 w' g off cs:=by
 intro i v r;have:=h i v r;simpa[Cz,u]using this
def Rd (w:World)(G:Nat->Prop):(a:Ty)->a.den->List Value->Prop
 |.int k,n,r=>r=[.int k n]
 |.bool,b,r=>r=[.bool b]
 |.str,s,r=>r=[.string s]
 |.unit,_,r=>r=[]
 |.hdr,n,r=>∃ A u,r=[.slice A n u]
 |.pair a b,x,r=>∃ H z,r=H++z/\Rd w G a x.1 H/\Rd w G b x.2 z
 |.list _ _ e,y,r=>∃ A u,r=[.slice A y.length u]/\y.length<=u /\
  (0<y.length->∃ g o,A=some ⟨g,o,none⟩/\G g/\∀ j (x:e.den),y[j]?=some x->∃ c,Rd w G e x c/\c7 w g (o+j*e.cells) c)
theorem Rd.carry {w w':World}{G G':Nat->Prop}(u:∀ k,G k->G' k)(r:∀ k,G k->w'.heap[k]?=w.heap[k]?) :
  ∀ {a:Ty} {x:a.den} {cs:List Value},Rd w G a x cs->Rd w' G' a x cs
 |.int _,_,_,h=>h
 |.bool,_,_,h=>h
 |.str,_,_,h=>h
 |.unit,_,_,h=>h
 |.hdr,_,_,h=>h
 |.pair _ _,_,_,⟨Y,M,e,I,O⟩=>⟨Y,M,e,Rd.carry u r I,Rd.carry u r O⟩
 |.list _ _ _,_,_,⟨A,y,e,J,h⟩=>⟨A,y,e,J,λhp=>by
   obtain⟨g,o,hA,H,R⟩:=h hp;exact⟨g,o,hA,u g H,λj x X=>by
    obtain⟨c,Z,z⟩:=R j x X;exact⟨c,Rd.carry u r Z,z.same (r g H)⟩⟩⟩
theorem Rd.mono {w:World}{G G':Nat->Prop}(r:∀ k,G k->G' k){a:Ty}{x:a.den}{cs:List Value}(h:Rd w G a x cs):Rd w G' a x cs :=
 Rd.carry r (λ_ _=>rfl) h
theorem Rd.len {w:World}{G:Nat->Prop}:∀ {a:Ty} {x:a.den} {cs:List Value},Rd w G a x cs->cs.length=a.cells
 |.int _,_,_,h=>by rw[show _=_ from h];rfl
 |.bool,_,_,h=>by rw[show _=_ from h];rfl
 |.str,_,_,h=>by rw[show _=_ from h];rfl
 |.unit,_,_,h=>by rw[show _=_ from h];rfl
 |.hdr,_,_,⟨A,r,e⟩=>by rw[e];rfl
 |.pair _ _,_,_,⟨z,H,e,u,y⟩=>by rw[e,Ch,Rd.len u,Rd.len y];rfl
 |.list _ _ _,_,_,⟨A,r,e,_,_⟩=>by rw[e];rfl
theorem Rd.one {w:World}{G:Nat->Prop}:∀ {a:Ty} {x:a.den} {cs:List Value},Rd w G a x cs->∀ v∈cs,v.oneCell'=true
 |.int _,_,_,h=>by rw[show _=_ from h];simp[B7]
 |.bool,_,_,h=>by rw[show _=_ from h];simp[B7]
 |.str,_,_,h=>by rw[show _=_ from h];simp[B7]
 |.unit,_,_,h=>by rw[show _=_ from h];simp
 |.hdr,_,_,⟨A,u,e⟩=>by rw[e];simp[B7]
 |.pair _ _,_,_,⟨H,I,e,y,z⟩=>by
  rw[e];intro v r;rcases CA.1 r with r|r
  ·exact Rd.one y v r
  ·exact Rd.one z v r
 |.list _ _ _,_,_,⟨A,u,e,_,_⟩=>by rw[e];simp[B7]
theorem Rd.flat {w w':World}{G G':Nat->Prop}:∀ {a:Ty} {x:a.den} {cs:List Value},a.flat=true->Rd w G a x cs->Rd w' G' a x cs
 |.int _,_,_,_,h=>h
 |.bool,_,_,_,h=>h
 |.str,_,_,_,h=>h
 |.unit,_,_,_,h=>h
 |.hdr,_,_,_,h=>h
 |.pair _ _,_,_,r,⟨u,H,e,y,z⟩=>by
  simp only[Ty.flat,BX]at r;exact⟨u,H,e,Rd.flat r.1 y,Rd.flat r.2 z⟩
theorem im:∀ {a b:Ty},a.sh=b.sh->a.cells=b.cells
 |.pair a b,.pair c d,h=>by
  simp only[Ty.sh,Ty.pair.injEq]at h;simp only[Ty.cells,im h.1,im h.2]
 |.int _,.int _,_|.int _,.bool,_|.int _,.str,_|.int _,.hdr,_|.int _,.list _ _ _,_=>rfl
 |.bool,.int _,_|.bool,.bool,_|.bool,.str,_|.bool,.hdr,_|.bool,.list _ _ _,_=>rfl
 |.str,.int _,_|.str,.bool,_|.str,.str,_|.str,.hdr,_|.str,.list _ _ _,_=>rfl
 |.hdr,.int _,_|.hdr,.bool,_|.hdr,.str,_|.hdr,.hdr,_|.hdr,.list _ _ _,_=>rfl
 |.list _ _ _,.int _,_|.list _ _ _,.bool,_|.list _ _ _,.str,_|.list _ _ _,.hdr,_|.list _ _ _,.list _ _ _,_=>rfl
 |.unit,.unit,_=>rfl
theorem sG {A r B u:Type}(H:A=r)(z:B=u){x:A×B}{y:r×u}(h:HEq x y):HEq x.1 y.1/\HEq x.2 y.2:=by
 subst H;subst z;cases h;exact⟨HEq.rfl,HEq.rfl⟩
theorem sH {A r:Type}(H:A=r){xs:List A}{u:List r}(h:HEq xs u):xs.length=u.length/\∀ (j:Nat) (y:r),u[j]?=some y->∃ x:A,xs[j]?=some x/\HEq x y:=by
 subst H;cases h;exact⟨rfl,λj y z=>⟨y,z,HEq.rfl⟩⟩
theorem Rd.flags {w:World}{G:Nat->Prop}:∀ {a b:Ty} {x:a.den} {y:b.den} {cs:List Value},a.sh=b.sh->HEq x y->Rd w G a x cs->Rd w G b y cs
 |.pair a b,.pair c d,x,y,cs,h,r,⟨c1,O,e,u,I⟩=>by
  simp only[Ty.sh,Ty.pair.injEq]at h;obtain⟨H,z⟩:=sG (jH h.1) (jH h.2) r;exact⟨c1,O,e,Rd.flags h.1 H u,Rd.flags h.2 z I⟩
 |.list _ _ e,.list _ _ e',xs,ys,cs,h,r,⟨A,J,u,I,H⟩=>by
  simp only[Ty.sh,Ty.list.injEq,true_and]at h;obtain⟨z,h5⟩:=sH (jH h.2) r;refine⟨A,J,by rw[<- z];exact u,by rw[<- z];exact I,λhp=>?_⟩;obtain⟨g,o,hA,X,R⟩:=H (by rw[z];exact hp);refine⟨g,o,hA,X,λj y hj=>?_⟩;obtain⟨x,Z,Y⟩:=h5 j y hj;obtain⟨c,M,h9⟩:=R j x Z;rw[<- im h.2];exact⟨c,Rd.flags h.2 Y M,h9⟩
 |.int k,.int k',x,y,cs,h,r,u=>by
  simp only[Ty.sh]at h
  grind
 |.bool,.bool,x,y,cs,h,r,u=>by cases r;exact u
 |.str,.str,x,y,cs,h,r,u=>by cases r;exact u
 |.unit,.unit,x,y,cs,h,r,u=>u
 |.hdr,.hdr,x,y,cs,h,r,u=>by cases r;exact u
def Row (w:World)(E:TypeId)(s:Nat)(v:Value)(n:Nat)(flat:List Value):Prop :=
 flat.length=n*s/\((v=.slice none 0 0/\n=0) \/
  ∃ g r u mk,v=.slice (some ⟨g,0,none⟩) n r/\w.heap[g]?=some (.cells u E mk)/\n<=r/\(mk=(0,0)/\r<=maxLen\/s=1/\u.size<=mk.1)/\r*s<=u.size/\u.toList.take (n*s)=flat)
theorem Row.of {w:World}{b:Nat}{E:TypeId}{s n:Nat}{v:Value}{flat:List Value}(h:w.ownsRow b E s v n flat):Row w E s v n flat:=by
 refine⟨h.1,h.2.imp id ?_⟩
 grind
theorem Row.same {w w':World}{E:TypeId}{s n:Nat}{v:Value}{flat:List Value}(h:Row w E s v n flat)(H:∀ k∈v.ownBlock.toList,w'.heap[k]?=w.heap[k]?):Row w' E s v n flat:=by
 refine⟨h.1,?_⟩;rcases h.2 with I|⟨g,u,y,mk,rfl,z,r⟩
 ·grind
 ·exact .inr ⟨g,u,y,mk,rfl,by rw[H g (by simp[CL])];exact z,r⟩
theorem Row.lt {w:World}{E:TypeId}{s n:Nat}{v:Value}{flat:List Value}(h:Row w E s v n flat):∀ k∈v.ownBlock.toList,k<w.heap.size:=by
 intro k r;rcases h.2 with ⟨rfl,_⟩|⟨g,u,y,_,rfl,z,_⟩
 ·simp[CL]at r
 ·simp[CL]at r
  grind
theorem Row.slice {w:World}{E:TypeId}{s n:Nat}{v:Value}{flat:List Value}(h:Row w E s v n flat):∃ A r,v=.slice A n r/\n<=r:=by
 rcases h.2 with ⟨rfl,z⟩|⟨g,r,u,_,rfl,_,y,_⟩
 ·grind
 ·grind
theorem Row.nil (w:World)(E:TypeId)(s:Nat):Row w E s (.slice none 0 0) 0 []:=⟨by simp,.inl ⟨rfl,rfl⟩⟩
theorem Row.cellAt {w:World}{E:TypeId}{s n g y:Nat}{flat:List Value}(h:Row w E s (.slice (some ⟨g,0,none⟩) n y) n flat)(j:Nat)(J:j<n*s):w.cell? ⟨g,j,none⟩=flat[j]?:=by
 rcases h.2 with ⟨u,_⟩|⟨M,H,z,mk,u,I,_,_,_,r⟩
 ·grind
 ·simp at u;obtain⟨rfl,rfl⟩:=u;rw[cell_of_row w g j z E mk I,<- r,CC,if_pos J];simp
theorem zV {mk:Nat×Nat}{s z c:Nat}(h:mk=(0,0)/\c<=maxLen\/s=1/\z<=mk.1):mk.2=0\/z<=mk.1:=h.imp (λh=>by rw[h.1]) (·.2)
theorem rh {w:World}{g j:Nat}{cs:Array Value}{E:TypeId}{mk:Nat×Nat}(r:w.heap[g]?=some (.cells cs E mk))(y:mk.2=0\/cs.size<=mk.1)(u:j<cs.size):w.frozen? ⟨g,j,none⟩=false:=by
 simp only[World.frozen?,r,Bool.and_eq_false_iff,decide_eq_false_iff_not];omega
def Mx (w:World)(G:Nat->Prop):(a:Ty)->Option Nat->Nat->a.den->List Value->List Nat->Prop
 |.int k,_,_,n,y,r=>y=[.int k n]/\r=[]
 |.bool,_,_,b,y,r=>y=[.bool b]/\r=[]
 |.str,_,_,s,y,r=>y=[.string s]/\r=[]
 |.unit,_,_,_,y,r=>y=[]/\r=[]
 |.hdr,_,_,n,y,r=>(∃ A J,y=[.slice A n J])/\r=[]
 |.pair a b,h,pos,x,y,r=>∃ R M X O,y=R++M/\r=X++O/\Mx w G a h pos x.1 R X/\Mx w G b h (pos+a.cells) x.2 M O
 |.list m E e,h,pos,I,y,r=>∃ v,y=[v]/\v.oneCell'=true /\
  (if m=true then (if h=some pos then r=[] else ∃ z H,Row w E e.cells v I.length z/\r=v.ownBlock.toList++(CN I.length).flatMap H /\
    ∀ j (x:e.den),I[j]?=some x->∃ c,Mx w G e none 0 x c (H j)/\∀ i u,c[i]?=some u->z[j*e.cells+i]?=some u)
   else r=[]/\Rd w G (.list m E e) I [v])
def OwB (w:World)(G:Nat->Prop)(h:Option (Nat×Nat))(E:TypeId)(e:Ty)(xs:List e.den)(v:Value)(bs:List Nat):Prop :=
 ∃ r y,Row w E e.cells v xs.length r/\bs=v.ownBlock.toList++(CN xs.length).flatMap y /\
  ∀ j (x:e.den),xs[j]?=some x->∃ c,Mx w G e (cQ h j) 0 x c (y j)/\∀ i u,c[i]?=some u->r[j*e.cells+i]?=some u
def OwH (w:World)(G:Nat->Prop)(h:Option (Nat×Nat))(E:TypeId)(e:Ty)(xs:List e.den)(v:Value)(bs:List Nat):Prop:=bs.Nodup/\OwB w G h E e xs v bs
abbrev Ow (w:World)(G:Nat->Prop)(E:TypeId)(e:Ty)(xs:List e.den)(v:Value)(bs:List Nat):Prop:=OwH w G none E e xs v bs
theorem OwB.one {w:World}{G:Nat->Prop}{h:Option (Nat×Nat)}{E:TypeId}{e:Ty}{xs:List e.den}{v:Value}{bs:List Nat}(H:OwB w G h E e xs v bs):v.oneCell'=true:=by
 obtain⟨r,z,u,_⟩:=H;obtain⟨A,y,rfl,_⟩:=u.slice;rfl
theorem bM {w:World}{G:Nat->Prop}{h:Option Nat}{E:TypeId}{e:Ty}{pos:Nat}{xs:List e.den}{cs:List Value}{bs:List Nat}(r:h≠some pos) :
  Mx w G (.list true E e) h pos xs cs bs<->∃ v,cs=[v]/\OwB w G none E e xs v bs:=by
 simp only[Mx,if_neg r];constructor
 ·rintro⟨v,h1,h2,h3⟩;exact⟨v,h1,h3⟩
 ·rintro⟨v,h1,h3⟩;exact⟨v,h1,h3.one,h3⟩
theorem jl {w:World}{G:Nat->Prop}{E:TypeId}{e:Ty}{pos:Nat}{xs:List e.den}{cs:List Value}{bs:List Nat} :
  Mx w G (.list true E e) (some pos) pos xs cs bs<->∃ v,cs=[v]/\v.oneCell'=true/\bs=[]:=by
 simp only[Mx,if_true]
theorem cA {w:World}{G:Nat->Prop}{h:Option Nat}{E:TypeId}{e:Ty}{pos:Nat}{xs:List e.den}{cs:List Value}{bs:List Nat} :
  Mx w G (.list false E e) h pos xs cs bs<->bs=[]/\Rd w G (.list false E e) xs cs:=by
 simp only[Mx];constructor
 ·grind
 ·rintro⟨h1,h2⟩;obtain⟨A,r,u,y⟩:=h2;exact⟨_,u,rfl,h1,A,r,rfl,y⟩
theorem d6 {n:Nat}{r:Nat->List Nat}{k:Nat}:k∈(CN n).flatMap r<->∃ j,j<n/\k∈r j:=by simp
theorem Mx.carry {w w':World}{G G':Nat->Prop}(J:∀ k,G k->G' k)(I:∀ k,G k->w'.heap[k]?=w.heap[k]?) :
  ∀ {a:Ty} {h:Option Nat} {pos:Nat} {x:a.den} {cs:List Value} {bs:List Nat},(∀ k∈bs,w'.heap[k]?=w.heap[k]?)->Mx w G a h pos x cs bs->Mx w' G' a h pos x cs bs
 |.int _,_,_,_,_,_,_,h=>h
 |.bool,_,_,_,_,_,_,h=>h
 |.str,_,_,_,_,_,_,h=>h
 |.unit,_,_,_,_,_,_,h=>h
 |.hdr,_,_,_,_,_,_,h=>h
 |.pair _ _,_,_,_,_,_,y,⟨c1,c2,b1,b2,R,X,M,u⟩=>⟨c1,c2,b1,b2,R,X,Mx.carry J I (λk r=>y k (by rw[X];exact B3 _ r)) M,Mx.carry J I (λk r=>y k (by rw[X];exact BZ _ r)) u⟩
 |.list m E e,h,pos,xs,cs,bs,y,H=>by
  cases m with
  |false =>
   rw[cA]at H ⊢;exact⟨H.1,H.2.carry J I⟩
  |true =>
   by_cases Z:h=some pos
   ·subst Z;rw[jl]at H ⊢;exact H
   ·rw[bM Z]at H ⊢;obtain⟨v,R,z,O,M,u,h3⟩:=H;refine⟨v,R,z,O,M.same (λk r=>y k (by rw[u];exact B3 _ r)),u,λj x Y=>?_⟩;obtain⟨c,h4,h5⟩:=h3 j x Y;refine⟨c,?_,h5⟩;exact Mx.carry J I (λk r=>y k (by rw[u];exact BZ _ (d6.2 ⟨j,(BW.1 Y).1,r⟩))) h4
theorem Mx.mono {w:World}{G G':Nat->Prop}(r:∀ k,G k->G' k){a:Ty}{h:Option Nat}{pos:Nat}{x:a.den}{cs:List Value}{bs:List Nat}(H:Mx w G a h pos x cs bs):Mx w G' a h pos x cs bs :=
 Mx.carry r (λ_ _=>rfl) (λ_ _=>rfl) H
theorem OwB.carry {w w':World}{G G':Nat->Prop}{h:Option (Nat×Nat)}{E:TypeId}{e:Ty}{xs:List e.den}{v:Value}{bs:List Nat}(H:OwB w G h E e xs v bs)
  (Z:∀ k,G k->G' k) (M:∀ k,G k->w'.heap[k]?=w.heap[k]?) (J:∀ k∈bs,w'.heap[k]?=w.heap[k]?):OwB w' G' h E e xs v bs:=by
 obtain⟨r,u,O,y,R⟩:=H;refine⟨r,u,O.same (λk z=>J k (by rw[y];exact B3 _ z)),y,λj x I=>?_⟩;obtain⟨c,Y,X⟩:=R j x I;exact⟨c,Mx.carry Z M (λk z=>J k (by rw[y];exact BZ _ (d6.2 ⟨j,(BW.1 I).1,z⟩))) Y,X⟩
theorem OwH.carry {w w':World}{G G':Nat->Prop}{h:Option (Nat×Nat)}{E:TypeId}{e:Ty}{xs:List e.den}{v:Value}{bs:List Nat}(H:OwH w G h E e xs v bs)
 (y:∀ k,G k->G' k) (r:∀ k,G k->w'.heap[k]?=w.heap[k]?) (u:∀ k∈bs,w'.heap[k]?=w.heap[k]?):OwH w' G' h E e xs v bs:=⟨H.1,H.2.carry y r u⟩
theorem Mx.len {w:World}{G:Nat->Prop}:∀ {a:Ty} {h:Option Nat} {pos:Nat} {x:a.den} {cs:List Value} {bs:List Nat},Mx w G a h pos x cs bs->cs.length=a.cells
 |.int _,_,_,_,_,_,h=>by rw[h.1];rfl
 |.bool,_,_,_,_,_,h=>by rw[h.1];rfl
 |.str,_,_,_,_,_,h=>by rw[h.1];rfl
 |.unit,_,_,_,_,_,h=>by rw[h.1];rfl
 |.hdr,_,_,_,_,_,⟨⟨A,y,e⟩,_⟩=>by rw[e];rfl
 |.pair _ _,_,_,_,_,_,⟨J,H,M,I,z,O,r,u⟩=>by rw[z,Ch,r.len,u.len];rfl
 |.list _ _ _,_,_,_,_,_,⟨v,e,_⟩=>by rw[e];rfl
theorem Mx.one {w:World}{G:Nat->Prop}:∀ {a:Ty} {h:Option Nat} {pos:Nat} {x:a.den} {cs:List Value} {bs:List Nat},Mx w G a h pos x cs bs->∀ v∈cs,v.oneCell'=true
 |.int _,_,_,_,_,_,h=>by rw[h.1];simp[B7]
 |.bool,_,_,_,_,_,h=>by rw[h.1];simp[B7]
 |.str,_,_,_,_,_,h=>by rw[h.1];simp[B7]
 |.unit,_,_,_,_,_,h=>by rw[h.1];simp
 |.hdr,_,_,_,_,_,⟨⟨A,z,e⟩,_⟩=>by rw[e];simp[B7]
 |.pair _ _,_,_,_,_,_,⟨M,I,O,J,H,R,u,y⟩=>by
  rw[H];intro v r;rcases CA.1 r with r|r
  ·exact u.one v r
  ·exact y.one v r
 |.list _ _ _,_,_,_,_,_,⟨v,e,u,_⟩=>by rw[e];simpa using u
theorem Mx.lt {w:World}{G:Nat->Prop}:∀ {a:Ty} {h:Option Nat} {pos:Nat} {x:a.den} {cs:List Value} {bs:List Nat},Mx w G a h pos x cs bs->∀ k∈bs,k<w.heap.size
 |.int _,_,_,_,_,_,h=>by rw[h.2];simp
 |.bool,_,_,_,_,_,h=>by rw[h.2];simp
 |.str,_,_,_,_,_,h=>by rw[h.2];simp
 |.unit,_,_,_,_,_,h=>by rw[h.2];simp
 |.hdr,_,_,_,_,_,h=>by rw[h.2];simp
 |.pair _ _,_,_,_,_,_,⟨c1,Z,b1,b2,X,Y,u,y⟩=>by
  rw[Y];intro k r;rcases CA.1 r with r|r
  ·exact u.lt k r
  ·exact y.lt k r
 |.list m E e,h,pos,xs,cs,bs,H=>by
  cases m with
  |false=>rw[cA]at H;rw[H.1];simp
  |true =>
   by_cases I:h=some pos
   ·subst I;rw[jl]at H
    grind
   ·rw[bM I]at H;obtain⟨v,X,z,M,u,y,J⟩:=H;rw[y];intro k r;rcases CA.1 r with r|r
    ·exact u.lt k r
    ·obtain⟨j,O,r⟩:=d6.1 r;obtain⟨c,R,_⟩:=J j _ (BY O);exact R.lt k r
theorem OwB.lt {w:World}{G:Nat->Prop}{h:Option (Nat×Nat)}{E:TypeId}{e:Ty}{xs:List e.den}{v:Value}{bs:List Nat}(H:OwB w G h E e xs v bs):∀ k∈bs,k<w.heap.size:=by
 obtain⟨u,I,y,J,z⟩:=H;rw[J];intro k r;rcases CA.1 r with r|r
 ·exact y.lt k r
 ·obtain⟨j,M,r⟩:=d6.1 r;obtain⟨c,O,_⟩:=z j _ (BY M);exact O.lt k r
theorem OwH.lt {w:World}{G:Nat->Prop}{h:Option (Nat×Nat)}{E:TypeId}{e:Ty}{xs:List e.den}{v:Value}{bs:List Nat}(H:OwH w G h E e xs v bs):∀ k∈bs,k<w.heap.size:=H.2.lt
theorem OwH.nodup {w:World}{G:Nat->Prop}{h:Option (Nat×Nat)}{E:TypeId}{e:Ty}{xs:List e.den}{v:Value}{bs:List Nat}(H:OwH w G h E e xs v bs):bs.Nodup:=H.1
theorem OwH.slice {w:World}{G:Nat->Prop}{h:Option (Nat×Nat)}{E:TypeId}{e:Ty}{xs:List e.den}{v:Value}{bs:List Nat}(H:OwH w G h E e xs v bs) :
  ∃ A r,v=.slice A xs.length r/\xs.length<=r:=by
 obtain⟨_,u,z,y,_⟩:=H;exact y.slice
theorem OwH.one {w:World}{G:Nat->Prop}{h:Option (Nat×Nat)}{E:TypeId}{e:Ty}{xs:List e.den}{v:Value}{bs:List Nat}(H:OwH w G h E e xs v bs):v.oneCell'=true:=H.2.one
theorem sI {w:World}{m:Bool}{E E':TypeId}{e:Ty}{xs:List e.den}{v:Value}{flat:List Value}{S:Nat->Prop}(H:Row w E e.cells v xs.length flat)(O:∀ k∈v.ownBlock.toList,S k)
  (I:∀ j (x:e.den),xs[j]?=some x->∃ c,Rd w S e x c/\∀ i u,c[i]?=some u->flat[j*e.cells+i]?=some u):Rd w S (.list m E' e) xs [v]:=by
 rcases H.2 with ⟨rfl,Y⟩|⟨g,r,y,mk,rfl,R,J,hm,hs,ht⟩
 ·exact⟨none,0,by rw[Y],by omega,λhp=>by omega⟩
 ·refine⟨some ⟨g,0,none⟩,r,rfl,J,λ_=>⟨g,0,rfl,O g (by simp[CL]),λj x X=>?_⟩⟩;obtain⟨c,Z,z⟩:=I j x X;refine⟨c,Z,λi u M=>?_⟩;have:=z i u M;rw[<- ht,CC]at this;split at this
  ·rw[Ck,cell_of_row w g _ y E mk R]
   simp_all
  ·grind
theorem Mx.rd {w:World}{G S:Nat->Prop}(z:∀ k,G k->S k):∀ {a:Ty} {pos:Nat} {x:a.den} {cs:List Value} {bs:List Nat},(∀ k∈bs,S k)->Mx w G a none pos x cs bs->Rd w S a x cs
 |.int _,_,_,_,_,_,h=>h.1
 |.bool,_,_,_,_,_,h=>h.1
 |.str,_,_,_,_,_,h=>h.1
 |.unit,_,_,_,_,_,h=>h.1
 |.hdr,_,_,_,_,_,h=>h.1
 |.pair _ _,_,_,_,_,u,⟨c1,c2,b1,b2,M,Y,I,y⟩=>⟨c1,c2,M,Mx.rd z (λk r=>u k (by rw[Y];exact B3 _ r)) I,Mx.rd z (λk r=>u k (by rw[Y];exact BZ _ r)) y⟩
 |.list m E e,pos,xs,cs,bs,u,H=>by
  cases m with
  |false=>rw[cA]at H;exact H.2.mono z
  |true =>
   rw[bM (by simp)]at H;obtain⟨v,M,X,J,I,y,Z⟩:=H;rw[M];refine sI I (λk r=>u k (by rw[y];exact B3 _ r)) λj x R=>?_
   obtain⟨c,h4,h5⟩:=Z j x R;have O:Mx w G e none 0 x c (J j):=h4;exact⟨c,Mx.rd z (λk r=>u k (by rw[y];exact BZ _ (d6.2 ⟨j,(BW.1 R).1,r⟩))) O,h5⟩
theorem OwH.rd {w:World}{G:Nat->Prop}{m:Bool}{E E':TypeId}{e:Ty}{xs:List e.den}{v:Value}{bs:List Nat}(H:Ow w G E e xs v bs) :
  Rd w (λk=>G k\/k∈bs) (.list m E' e) xs [v]:=by
 obtain⟨_,J,u,M,z,O⟩:=H;refine sI M (λk r=>.inr (by rw[z];exact B3 _ r)) λj x I=>?_
 obtain⟨c,X,R⟩:=O j x I;have y:Mx w G e none 0 x c (u j):=X;exact⟨c,y.rd (λk r=>.inl r) (λk r=>.inr (by rw[z];exact BZ _ (d6.2 ⟨j,(BW.1 I).1,r⟩))),R⟩
theorem OwH.nil (w:World)(G:Nat->Prop)(E:TypeId)(e:Ty):Ow w G E e [] (.slice none 0 0) [] :=
 ⟨List.nodup_nil,[],λ_=>[],Row.nil w E e.cells,rfl,λj x r=>by simp at r⟩
theorem Rd.nil (w:World)(G:Nat->Prop)(m:Bool)(E:TypeId)(e:Ty):Rd w G (.list m E e) [] [.slice none 0 0] :=
 ⟨none,0,rfl,B5 _,λh=>by simp at h⟩
theorem Mx.flat {w w':World}{G G':Nat->Prop}:∀ {a:Ty} {h:Option Nat} {pos:Nat} {x:a.den} {cs:List Value},a.flat=true->Rd w G a x cs->Mx w' G' a h pos x cs []
 |.int _,_,_,_,_,_,h=>⟨h,rfl⟩
 |.bool,_,_,_,_,_,h=>⟨h,rfl⟩
 |.str,_,_,_,_,_,h=>⟨h,rfl⟩
 |.unit,_,_,_,_,_,h=>⟨h,rfl⟩
 |.hdr,_,_,_,_,_,h=>⟨h,rfl⟩
 |.pair _ _,_,_,_,_,r,⟨u,H,e,y,z⟩=>by
  simp only[Ty.flat,BX]at r;exact⟨u,H,[],[],e,rfl,Mx.flat r.1 y,Mx.flat r.2 z⟩
theorem Mx.shared {w:World}{G:Nat->Prop}:∀ {a:Ty} {h:Option Nat} {pos:Nat} {x:a.den} {cs:List Value},a.sh=a->Rd w G a x cs->Mx w G a h pos x cs []
 |.int _,_,_,_,_,_,h=>⟨h,rfl⟩
 |.bool,_,_,_,_,_,h=>⟨h,rfl⟩
 |.str,_,_,_,_,_,h=>⟨h,rfl⟩
 |.unit,_,_,_,_,_,h=>⟨h,rfl⟩
 |.hdr,_,_,_,_,_,h=>⟨h,rfl⟩
 |.pair _ _,_,_,_,_,r,⟨u,H,e,y,z⟩=>by
  simp only[Ty.sh,Ty.pair.injEq]at r;exact⟨u,H,[],[],e,rfl,Mx.shared r.1 y,Mx.shared r.2 z⟩
 |.list m E e,_,_,_,_,r,h=>by
  simp only[Ty.sh,Ty.list.injEq]at r;obtain⟨rfl,_⟩:=r;exact cA.2 ⟨rfl,h⟩
def dj (agg:Bool)(v:Value)(cs:List Value):Prop:=if agg then v=.agg cs.toArray else cs=[v]
def sm (w:World)(G:Nat->Prop):(y:List Ty)->Tup y->List Value->Prop
 |[],_,u=>u=[]
 |a::as,x,u=>∃ v c r,u=v::r/\dj a.isAgg v c/\Rd w G a x.1 c/\sm w G as x.2 r
def ge (P:Program)(f:FuncId):Prop:=∀ (r:Array Value) (w:World),(callFunc f r).run P w=.ok (.enter f r) w
def ip (P:Program)(w0:World)(S:Nat->Prop)(H:List Ty)(B:Ty)(I:Tup H->Option B.den)(v:Value):Prop :=
 ∃ f r,v=.func (.func f) #[] r/\ge P f /\
  ∀ w1:World,w0.heap.size<=w1.heap.size->(∀ k,S k->w1.heap[k]?=w0.heap[k]?) ->
   ∀ (x:Tup H) (z:List Value) (y:B.den),sm w1 (λk=>k<w1.heap.size) H x z->I x=some y ->
    Calls P f (z.toArray++r) w1 (λe w2=>∃ u c,e=.returned u/\dj B.isAgg u c/\Rd w2 (λ_=>False) B y c/\Below w1.heap.size w1 w2)
structure Env where
 w0:World
 ro0:Nat->Prop
 own0:List Nat
 nt:Nat
 fixb:List (Nat×Nat)
 fixt:List (Nat×Value)
def Env.prot (V:Env)(k:Nat):Prop:=k<V.w0.heap.size/\k∉V.own0
structure Wit where
 β:Nat->Nat
 cs:Nat->List Value
 bs:Nat->Nat->List Nat
 nw:Nat->Prop
def gd (V:Env)(W:Wit)(p:Bool)(k:Nat):Prop:=W.nw k\/(p=true/\V.ro0 k)
def am:Leaf->Prop
 |.own _ _ _ _ _=>True
 |_=>False
def RpOk (V:Env)(W:Wit)(w:World)(p:Bool)(a:Ty)(x:a.den)(off:Nat)(v:Value):Prop :=
 ∃ g o c,v=.pointer (some ⟨g,o+off,none⟩)/\(W.nw g\/V.prot g)/\Rd w (gd V W p) a x c/\c7 w g o c
def sn (V:Env)(W:Wit)(w:World)(p:Bool)(a:Ty)(x:a.den)(v:Value):Prop :=
 ∃ b r g o c,v=.pointer (some ⟨b,r,none⟩)/\(W.nw b\/V.prot b)/\w.cell? ⟨b,r,none⟩=some (.pointer (some ⟨g,o,none⟩)) /\
  (W.nw g\/V.prot g)/\Rd w (gd V W p) a x c/\c7 w g o c
def iV (V:Env)(W:Wit)(w:World)(c:Bool×Bool×(a:Ty)×a.den)(v:Value):Prop :=
 if c.2.1=true then sn V W w c.1 c.2.2.1 c.2.2.2 v else RpOk V W w c.1 c.2.2.1 c.2.2.2 0 v
def so (st:St)(ks:List (Nat×Nat×Nat)):Prop:=∀ k∈ks,∃ l,(st k.1).ls[k.2.1]?=some l/\am l
structure sq (V:Env) (W:Wit) (w:World) (p:Bool) (ks:List (Nat×Nat×Nat)) (loc:Option (Nat×Nat×Nat)) (E:TypeId) (e:Ty) (xs:List e.den) (v:Value):Prop where
 rd:Rd w (λb=>gd V W p b\/∃ k∈ks,b∈W.bs k.1 k.2.1) (.list false E e) xs [v]
 at_:∀ i sz off,loc=some (i,sz,off)->∃ r j n,ks=[(r,j,n)]/\∃ g len cap,(W.cs r)[j]?=some (.slice (some ⟨g,0,none⟩) len cap)/\i<len/\g∈W.bs r j/\w.cell? ⟨g,i*sz+off,none⟩=some v
structure NpOk (V:Env) (W:Wit) (w:World) (p:Bool) (ks:List (Nat×Nat×Nat)) (a:Ty) (x:a.den) (off:Nat) (v:Value):Prop where
 rd:∃ g o c,v=.pointer (some ⟨g,o+off,none⟩)/\(gd V W p g\/∃ k∈ks,g∈W.bs k.1 k.2.1)/\Rd w (λb=>gd V W p b\/∃ k∈ks,b∈W.bs k.1 k.2.1) a x c/\c7 w g o c
def aK (P:Program)(V:Env)(W:Wit)(st:St)(w:World)(bs:List Nat):Leaf->Value->Prop
 |.int k n,v=>v=.int k n
 |.bool b,v=>v=.bool b
 |.str s,v=>v=.string s
 |.nil,v=>v=.slice none 0 0
 |.hdr n,v=>∃ A H,v=.slice A n H
 |.ro p E e I,v=>Rd w (gd V W p) (.list false E e) I [v]
 |.own p h E e I,v=>OwH w (gd V W p) h E e I v bs
 |.al r j n,v=>n<=(st r).ver/\((st r).ver=n->(W.cs r)[j]?=some v)
 |.nal p z ep O E e I,v=>ep<=(st EPO).ver/\(∀ k∈z,k.2.2<=(st k.1).ver)/\((st EPO).ver=ep->(∀ k∈z,(st k.1).ver=k.2.2)->so st z->sq V W w p z O E e I v)
 |.ep r j n i R off,v=>n<=(st r).ver/\((st r).ver=n->∃ g J H,(W.cs r)[j]?=some (.slice (some ⟨g,0,none⟩) J H)/\i<J/\v=.pointer (some ⟨g,i*R+off,none⟩))
 |.np p z ep a x off,v=>ep<=(st EPO).ver/\(∀ k∈z,k.2.2<=(st k.1).ver)/\((st EPO).ver=ep->(∀ k∈z,(st k.1).ver=k.2.2)->so st z->NpOk V W w p z a x off v)
 |.rp p a x off,v=>RpOk V W w p a x off v
 |.rpp p a x,v=>sn V W w p a x v
 |.bp b off,v=>B0<=b/\(st b).sh=.agg/\v=.pointer (some ⟨W.β b,off,none⟩)
 |.clo f y,v=>v=.func (.func f) #[] (y.map λb=>Value.pointer (some ⟨W.β b,0,none⟩)).toArray/\∀ b∈y,B0<=b/\(st b).sh=.agg
 |.clr f y,v=>∃ M:List Value,v=.func (.func f) #[] M.toArray/\M.length=y.length/\∀ (i:Nat) (c:Bool×Bool×(a:Ty)×a.den) (u:Value),y[i]?=some c->M[i]?=some u->iV V W w c u
 |.fn X B Y,v=>ip P V.w0 V.prot X B Y v
 |.dead,_=>True
def pG:List (Bool×Nat)->List Value->List Value->Prop
 |[],z,y=>z=[]/\y=[]
 |(agg,n)::H,z,y=>∃ v u c r,z=v::u/\y=c++r/\c.length=n/\dj agg v c/\pG H u r
def er:aI->Value->List Value->Prop
 |.off,_,r=>r=[]
 |.und,v,r=>v=undef/\r=[]
 |.one,v,r=>r=[v]
 |.agg,v,r=>v=.agg r.toArray
 |.tup y,v,r=>∃ u,v=.tuple u.toArray/\pG y u r
def live (st:St)(b:Nat):Prop:=B0<=b/\(st b).sh=.agg
structure an (P:Program) (V:Env) (W:Wit) (st:St) (a:Act) (w:World):Prop where
 nt:a.tmps.size=V.nt
 df:a.defers=[]
 slots:∀ t,t<GH->er (st t).sh (a.tmps.getD t undef) (W.cs t)
 boxes:∀ b,B0<=b->((st b).sh=.off/\(st b).ls=[])\/((st b).sh=.agg/\∃ E,w.heap[W.β b]?=some (.cells (W.cs b).toArray E (0,0)))
 len:∀ r,(st r).ls.length=(W.cs r).length
 one:∀ r,∀ v∈W.cs r,v.oneCell'=true
 leaf:∀ r j l v,(st r).ls[j]?=some l->(W.cs r)[j]?=some v->aK P V W st w (W.bs r j) l v
 ownb:∀ r j l,(st r).ls[j]?=some l->am l->∀ k∈W.bs r j,¬ W.nw k/\¬ V.prot k/\∀ b,live st b->W.β b≠k
 sep:∀ r j l r' j' l',(st r).ls[j]?=some l->am l->(st r').ls[j']?=some l'->am l'->∀ k,k∈W.bs r j->k∈W.bs r' j'->r=r'/\j=j'
 box:∀ b,live st b->¬ W.nw (W.β b)/\¬ V.prot (W.β b)
 inj:∀ b b',live st b->live st b'->W.β b=W.β b'->b=b'
 nwlt:∀ k,W.nw k->k<w.heap.size/\¬ V.prot k
 os:w.os=V.w0.os
 tape:w.tape=V.w0.tape
 output:w.output=V.w0.output
 size:V.w0.heap.size<=w.heap.size
 keep:∀ k,V.prot k->w.heap[k]?=V.w0.heap[k]?
 fixb:∀ x∈V.fixb,live st x.1/\W.β x.1=x.2
 fixt:∀ x∈V.fixt,a.tmps.getD x.1 undef=x.2
def Rel (P:Program)(V:Env)(st:St)(a:Act)(w:World):Prop:=∃ W,an P V W st a w
structure ax (V:Env):Prop where
 ro:∀ k,V.ro0 k->V.prot k
 nt:V.nt<=GH
theorem ax.ntB {V:Env}(h:ax V):V.nt<=B0:=B8 h.nt (by decide)
section
variable {P:Program} {V:Env} {W W':Wit} {st st':St} {w w':World}
theorem bX {p q:Bool}(y:p=true->q=true)(u:∀ k,W.nw k->W'.nw k):∀ k,gd V W p k->gd V W' q k:=by
 intro k r;rcases r with r|⟨z,r⟩
 ·exact .inl (u k r)
 ·exact .inr ⟨y z,r⟩
structure cH (V:Env) (W W':Wit) (st st':St) (w w':World):Prop where
 ver:∀ r,(st r).ver<=(st' r).ver/\((st' r).ver=(st r).ver->W'.cs r=W.cs r)
 box:∀ b,live st b->live st' b/\W'.β b=W.β b
 nw:∀ k,W.nw k->W'.nw k
 heap:∀ k,(W.nw k\/V.prot k)->w'.heap[k]?=w.heap[k]?
 epo:(st' EPO).ver=(st EPO).ver->∀ (r j:Nat) (l:Leaf),(st' r).ls[j]?=some l->am l->(st' r).ver=(st r).ver ->
  (∃ l',(st r).ls[j]?=some l'/\am l')/\W'.bs r j=W.bs r j/\∀ k∈W.bs r j,w'.heap[k]?=w.heap[k]?
theorem cH.refl (V:Env)(W:Wit)(st:St)(w:World):cH V W W st st w w :=
 ⟨λ_=>⟨B5 _,λ_=>rfl⟩,λ_ y=>⟨y,rfl⟩,λ_ h=>h,λ_ _=>rfl,λ_ _ _ l r u _=>⟨⟨l,r,u⟩,rfl,λ_ _=>rfl⟩⟩
theorem kP {w w':World}{a:Addr}(h:w'.heap[a.block]?=w.heap[a.block]?):w'.cell? a=w.cell? a:=by simp[Cz,h]
theorem cH.gdheap (u:∀ k,V.ro0 k->V.prot k)(h:cH V W W' st st' w w')(p:Bool):∀ k,gd V W p k->w'.heap[k]?=w.heap[k]?:=by
 intro k r;rcases r with r|⟨_,r⟩
 ·exact h.heap k (.inl r)
 ·exact h.heap k (.inr (u k r))
theorem w8 {ks:List (Nat×Nat×Nat)}{ep:Nat}(r:cH V W W' st st' w w')(H:ep<=(st EPO).ver)(z:∀ k∈ks,k.2.2<=(st k.1).ver)(I:(st' EPO).ver=ep)(y:∀ k∈ks,(st' k.1).ver=k.2.2) :
  (st EPO).ver=ep/\∀ k∈ks,(st k.1).ver=k.2.2 :=
 ⟨by have:=(r.ver EPO).1;omega,λk u=>by have:=(r.ver k.1).1;have:=z k u;have:=y k u;omega⟩
theorem cH.places {ks:List (Nat×Nat×Nat)}{ep:Nat}(H:cH V W W' st st' w w')(J:so st' ks)(O:(st EPO).ver=ep)(z:∀ k∈ks,(st k.1).ver=k.2.2)
  (R:(st' EPO).ver=ep) (y:∀ k∈ks,(st' k.1).ver=k.2.2) :
  ∀ k∈ks,(∃ u,(st k.1).ls[k.2.1]?=some u/\am u)/\W'.bs k.1 k.2.1=W.bs k.1 k.2.1/\∀ b∈W.bs k.1 k.2.1,w'.heap[b]?=w.heap[b]?:=λk r=>by
 obtain⟨l,M,I⟩:=J k r;exact H.epo (by omega) k.1 k.2.1 l M I (by rw[y k r,z k r])
theorem aK.carry (J:∀ k,V.ro0 k->V.prot k){bs bs':List Nat}{l:Leaf}{v:Value}(h:aK P V W st w bs l v)(y:cH V W W' st st' w w')
  (a1:am l->bs'=bs/\∀ k∈bs,w'.heap[k]?=w.heap[k]?):aK P V W' st' w' bs' l v:=by
 have hG:∀ p k,gd V W p k->gd V W' p k:=λp=>bX (λh=>h) y.nw
 have hP:∀ k,(W.nw k\/V.prot k)->(W'.nw k\/V.prot k):=λk M=>M.imp (y.nw k) id
 have hR:∀ {p:Bool} {a:Ty} {x:a.den} {off:Nat} {v:Value},RpOk V W w p a x off v->RpOk V W' w' p a x off v:=by
  rintro p a x off v ⟨g,o,c,hv,Y,hr,Z⟩;exact⟨g,o,c,hv,hP g Y,Rd.carry (hG p) (y.gdheap J p) hr,Z.same (y.heap g Y)⟩
 have a3:∀ {p:Bool} {a:Ty} {x:a.den} {v:Value},sn V W w p a x v->sn V W' w' p a x v:=by
  rintro p a x v ⟨b,ob,g,o,c,hv,I,a0,Y,hr,Z⟩;exact⟨b,ob,g,o,c,hv,hP b I,by rw[kP (y.heap b I)];exact a0,hP g Y,Rd.carry (hG p) (y.gdheap J p) hr,Z.same (y.heap g Y)⟩
 cases l with
 |int k n=>exact h
 |bool b=>exact h
 |str s=>exact h
 |nil=>exact h
 |hdr n=>exact h
 |ro p E e xs=>exact Rd.carry (hG p) (y.gdheap J p) h
 |own p hh E e xs =>
  obtain⟨rfl,I⟩:=a1 trivial;exact OwH.carry h (hG p) (y.gdheap J p) I
 |nal p ks ep a7 E e xs =>
  obtain⟨z,H,O⟩:=h;refine⟨B8 z (y.ver EPO).1,λk M=>B8 (H k M) (y.ver k.1).1,λhe M ho=>?_⟩;obtain⟨e1,e2⟩:=w8 y z H he M;have h5:=y.places ho e1 e2 he M;have X:=O e1 e2 (λk R=>(h5 k R).1);refine⟨Rd.carry ?_ ?_ X.rd,λi sz off hl=>?_⟩
  ·grind
  ·rintro b (I|⟨k,R,I⟩)
   ·exact y.gdheap J p b I
   ·grind
  ·obtain⟨r,j,n,rfl,g,a6,a5,h6,h7,h8,h9⟩:=X.at_ i sz off hl;have R:(r,j,n)∈[(r,j,n)]:=Ci ..;have a4:(st' r).ver=(st r).ver:=(M _ R).trans (e2 _ R).symm;refine⟨r,j,n,rfl,g,a6,a5,by rw[(y.ver r).2 a4];exact h6,h7,by rw[(h5 _ R).2.1];exact h8,?_⟩;rw[kP ((h5 _ R).2.2 g h8)];exact h9
 |np p ks ep a x off =>
  obtain⟨z,H,O⟩:=h;refine⟨B8 z (y.ver EPO).1,λk M=>B8 (H k M) (y.ver k.1).1,λhe M ho=>?_⟩;obtain⟨e1,e2⟩:=w8 y z H he M;have h5:=y.places ho e1 e2 he M;have X:=O e1 e2 (λk R=>(h5 k R).1);have hS:∀ b,(gd V W p b\/∃ k∈ks,b∈W.bs k.1 k.2.1)->(gd V W' p b\/∃ k∈ks,b∈W'.bs k.1 k.2.1):=by
   grind
  have hW:∀ b,(gd V W p b\/∃ k∈ks,b∈W.bs k.1 k.2.1)->w'.heap[b]?=w.heap[b]?:=by
   rintro b (I|⟨k,R,I⟩)
   ·exact y.gdheap J p b I
   ·grind
  obtain⟨g,o,c,hv,Y,hr,Z⟩:=X.rd;exact⟨g,o,c,hv,hS g Y,Rd.carry hS hW hr,Z.same (hW g Y)⟩
 |al r j n =>
  obtain⟨z,H⟩:=h;obtain⟨O,X⟩:=y.ver r;refine⟨B8 z O,λhv=>?_⟩
  grind
 |ep r j n i sz off =>
  obtain⟨z,H⟩:=h;obtain⟨O,X⟩:=y.ver r;refine⟨B8 z O,λhv=>?_⟩
  grind
 |rp p a x off=>exact hR h
 |rpp p a x=>exact a3 h
 |clr f a2 =>
  obtain⟨us,z,H,O⟩:=h;refine⟨us,z,H,λi c u Z hu=>?_⟩;have X:=O i c u Z hu;unfold iV at X ⊢
  grind
 |bp b off =>
  obtain⟨z,H,O⟩:=h;obtain⟨X,h5⟩:=y.box b ⟨z,H⟩;exact⟨z,X.2,by rw[h5];exact O⟩
 |clo f a2 =>
  obtain⟨z,H⟩:=h;refine⟨?_,λb I=>(y.box b (H b I)).1⟩;rw[z];congr 2;refine List.map_congr_left λb I=>?_
  rw[(y.box b (H b I)).2]
 |fn As B φ=>exact h
 |dead=>trivial
def aD (P:Program)(V:Env)(W:Wit)(st:St)(w:World):List Leaf->List Value->Prop
 |[],[]=>True
 |l::u,v::r=>(aK P V W st w [] l v/\¬ am l/\v.oneCell'=true)/\aD P V W st w u r
 |_,_=>False
theorem aD.length:∀ {ls:List Leaf} {cs:List Value},aD P V W st w ls cs->ls.length=cs.length
 |[],[],_=>rfl
 |_::_,_::_,h=>by simp[aD.length h.2]
theorem aD.at_:∀ {ls:List Leaf} {cs:List Value},aD P V W st w ls cs->∀ (j:Nat) (l:Leaf) (v:Value),ls[j]?=some l->cs[j]?=some v->aK P V W st w [] l v/\¬ am l/\v.oneCell'=true
 |_::_,_::_,h,0,l,v,r,u=>by
  simp at r u;subst r;subst u;exact h.1
 |_::_,_::_,h,j+1,l,v,r,u=>aD.at_ h.2 j l v (by simpa using r) (by simpa using u)
theorem aD.one':∀ {ls:List Leaf} {cs:List Value},aD P V W st w ls cs->∀ v∈cs,v.oneCell'=true
 |[],[],_,_,r=>by simp at r
 |_::_,_::_,h,v,r=>by
  rcases Cg.1 r with rfl|r
  ·exact h.1.2.2
  ·exact aD.one' h.2 v r
theorem aD.mk:∀ {ls:List Leaf} {cs:List Value},ls.length=cs.length->(∀ (j:Nat) (l:Leaf) (v:Value),ls[j]?=some l->cs[j]?=some v->aK P V W st w [] l v/\¬ am l/\v.oneCell'=true)->aD P V W st w ls cs
 |[],[],_,_=>trivial
 |_::_,_::_,h,H=>⟨H 0 _ _ rfl rfl,aD.mk (by simpa using h) λj l v r u=>H (j+1) l v (by simpa using r) (by simpa using u)⟩
theorem aD.drop {ls:List Leaf}{cs:List Value}(h:aD P V W st w ls cs)(n:Nat):aD P V W st w (ls.drop n) (cs.drop n) :=
 aD.mk (by simp[h.length]) λj l v r u=>h.at_ (n+j) l v (by simpa using r) (by simpa using u)
theorem aD.take {ls:List Leaf}{cs:List Value}(h:aD P V W st w ls cs)(n:Nat):aD P V W st w (ls.take n) (cs.take n) :=
 aD.mk (by simp[h.length]) λj l v r u=>by
  rw[CC]at r u;split at r
  ·rename_i y;rw[if_pos y]at u;exact h.at_ j l v r u
  ·grind
theorem aD.append {y z:List Leaf}{r H:List Value}(u:aD P V W st w y r)(I:aD P V W st w z H):aD P V W st w (y++z) (r++H):=by
 induction y generalizing r with
 |nil =>
  cases r with
  |nil=>simpa using I
  |cons=>simp[aD]at u
 |cons l O J =>
  cases r with
  |nil=>simp[aD]at u
  |cons v M=>exact⟨u.1,J u.2⟩
theorem aD.carry (r:∀ k,V.ro0 k->V.prot k)(u:cH V W W' st st' w w'):∀ {ls:List Leaf} {cs:List Value},aD P V W st w ls cs->aD P V W' st' w' ls cs
 |[],[],_=>trivial
 |_::_,_::_,h=>⟨⟨h.1.1.carry r u (λy=>absurd y h.1.2.1),h.1.2⟩,aD.carry r u h.2⟩
theorem fk {G:Nat->Prop}{p:Bool}(y:∀ k,G k->gd V W p k):∀ {a:Ty} {x:a.den} {cs:List Value},Rd w G a x cs->aD P V W st w (cO p a x) cs
 |.int _,_,_,h=>by rw[show _=_ from h];exact⟨⟨rfl,id,rfl⟩,trivial⟩
 |.bool,_,_,h=>by rw[show _=_ from h];exact⟨⟨rfl,id,rfl⟩,trivial⟩
 |.str,_,_,h=>by rw[show _=_ from h];exact⟨⟨rfl,id,rfl⟩,trivial⟩
 |.unit,_,_,h=>by rw[show _=_ from h];trivial
 |.hdr,_,_,⟨A,r,e⟩=>by rw[e];exact⟨⟨⟨A,r,rfl⟩,id,rfl⟩,trivial⟩
 |.pair _ _,_,_,⟨M,J,e,z,u⟩=>by rw[e];exact (fk y z).append (fk y u)
 |.list m E e,I,_,h=>by
  obtain⟨A,r,rfl,u,H⟩:=h;exact⟨⟨Rd.mono y (⟨A,r,rfl,u,H⟩:Rd w _ (.list false E e) I _),id,rfl⟩,trivial⟩
theorem gS (p:Bool):∀ (a:Ty) (x:a.den),(cO p a x).length=a.cells
 |.int _,_=>rfl
 |.bool,_=>rfl
 |.str,_=>rfl
 |.unit,_=>rfl
 |.hdr,_=>rfl
 |.pair a b,x=>by simp[cO,Ty.cells,gS p a,gS p b]
 |.list _ _ _,_=>rfl
theorem cN (p:Bool):∀ (a:Ty) (x:a.den),(ap p a x).length=a.cells
 |.int _,_=>rfl
 |.bool,_=>rfl
 |.str,_=>rfl
 |.unit,_=>rfl
 |.hdr,_=>rfl
 |.pair a b,x=>by simp[ap,Ty.cells,cN p a,cN p b]
 |.list _ _ _,_=>rfl
theorem iW (t n:Nat):∀ (j:Nat) (ls:List Leaf),(bJ t n j ls).length=ls.length
 |_,[]=>rfl
 |j,_::ls=>by simp[bJ,iW t n (j+1) ls]
theorem oj (t n:Nat):∀ (j:Nat) (ls:List Leaf) (i:Nat) (l:Leaf),ls[i]?=some l->(bJ t n j ls)[i]?=some (lW t (j+i) n l)
 |j,r::ls,0,l,h=>by
  simp at h;subst h;simp[bJ]
 |j,r::ls,i+1,l,h=>by
  have:=oj t n (j+1) ls i l (by simpa using h);simp only[bJ]
  grind
theorem iF {a:Act}(h:an P V W st a w)(r:Nat):aD P V W st w (bJ r (st r).ver 0 (st r).ls) (W.cs r):=by
 refine aD.mk (by rw[iW,h.len]) λj l v u y=>?_
 have M:j<(st r).ls.length:=by
  have:=(BW.1 u).1;simpa[iW]using this
 have H:(st r).ls[j]?=some (st r).ls[j]:=BY M;have J:=oj r (st r).ver 0 (st r).ls j _ H;rw[J]at u;have I:=h.leaf r j _ v H y;have z:=h.one r v (List.mem_of_getElem? y);simp at u;subst u;generalize O:(st r).ls[j]=q at I;cases q with
 |own p X E e R=>exact⟨⟨B5 _,λ_=>by simpa using y⟩,id,z⟩
 |_=>exact⟨I,id,z⟩
theorem sJ {v:Value}{l:Leaf}(h:iA v=some l):aK P V W st w [] l v/\¬ am l/\v.oneCell'=true:=by
 unfold iA at h;split at h <;> simp at h <;> subst h <;> exact⟨rfl,id,rfl⟩
theorem cX {a:Act}(h:an P V W st a w)(x:Operand) :
  ∃ r,er (au st x).1 (a.eval x) r/\aD P V W st w (au st x).2 r:=by
 cases x with
 |tmp t =>
  simp only[au];cases u:CO t GH with
  |false=>exact⟨[],rfl,trivial⟩
  |true=>exact⟨W.cs t,h.slots t (by simpa using u),iF h t⟩
 |const v =>
  simp only[au];cases z:iA v with
  |none=>exact⟨[],rfl,trivial⟩
  |some l=>exact⟨[v],rfl,⟨sJ z,trivial⟩⟩
 |func f=>exact⟨[.func (.func f) #[] #[]],rfl,⟨⟨⟨rfl,λb y=>by simp at y⟩,id,rfl⟩,trivial⟩⟩
 |global g=>exact⟨[],rfl,trivial⟩
theorem bz {a:Act}(h:an P V W st a w)(x:Operand)(z:one st x≠.dead) :
  aK P V W st w [] (one st x) (a.eval x)/\¬ am (one st x)/\(a.eval x).oneCell'=true/\(au st x).1=.one/\(au st x).2=[one st x]:=by
 obtain⟨H,y,r⟩:=cX h x;unfold one at z ⊢;split at z
 ·rename_i l I;simp only[I]at y r ⊢;have u:H=[a.eval x]:=y;subst u;exact⟨r.1.1,r.1.2.1,r.1.2.2,by simp,by simp⟩
 ·grind
theorem fw {r j n:Nat}{l:Leaf}(u:aE st (.al r j n)=l)(z:l≠.dead):(st r).ver=n/\(st r).ls[j]?=some l:=by
 simp only[aE]at u;cases y:BU (st r).ver n with
 |false=>simp only[y]at u;exact absurd u.symm z
 |true =>
  simp only[y,cond_true]at u;refine⟨BV y,?_⟩;rw[CF]at u;cases H:(st r).ls[j]? with
  |none=>simp only[H]at u;exact absurd u.symm z
  |some I =>
   simp only[H,Option.getD_some]at u;cases I with
   |nal=>simp only[pB]at u;exact absurd u.symm z
   |_=>simp only[pB]at u;rw[u]
theorem iX {r j n:Nat}{p:Bool}{ks:List (Nat×Nat×Nat)}{ep:Nat}{u:Option (Nat×Nat×Nat)}{E:TypeId}{e:Ty}{xs:List e.den}:aE st (.al r j n)≠.nal p ks ep u E e xs:=by
 simp only[aE];cases BU (st r).ver n with
 |false=>simp
 |true =>
  cases (st r).ls.getD j .dead <;> simp[pB]
theorem ku {a:Act}(h:an P V W st a w){r j n:Nat}{p:Bool}{u:Option (Nat×Nat)}{E:TypeId}{e:Ty}{xs:List e.den}{v:Value}(J:aE st (.al r j n)=.own p u E e xs)
  (I:aK P V W st w [] (.al r j n) v):(W.cs r)[j]?=some v/\OwH w (gd V W p) u E e xs v (W.bs r j)/\(st r).ls[j]?=some (.own p u E e xs)/\(st r).ver=n:=by
 obtain⟨y,z⟩:=fw J (by simp);have H:=I.2 y;exact⟨H,h.leaf r j _ v z H,z,y⟩
theorem vH {ls:List Leaf}{j:Nat}(h:lD (ls.getD j .dead)=true):∃ l,ls[j]?=some l/\am l:=by
 rw[CF]at h;cases r:ls[j]? with
 |none=>rw[r]at h;simp[lD]at h
 |some l =>
  rw[r]at h;refine⟨l,rfl,?_⟩;cases l <;> simp[lD]at h;trivial
theorem cF {ks:List (Nat×Nat×Nat)}{ep:Nat}(h:bw st ks ep=true):(st EPO).ver=ep/\(∀ k∈ks,(st k.1).ver=k.2.2)/\so st ks:=by
 simp only[bw,BX,List.all_eq_true]at h;exact⟨BV h.1,λk r=>BV (h.2 k r).1,λk r=>vH (h.2 k r).2⟩
theorem pH {p:Bool}{ks:List (Nat×Nat×Nat)}{ep:Nat}{r:Option (Nat×Nat×Nat)}{E:TypeId}{e:Ty}{xs:List e.den}{v:Value}(u:bw st ks ep=true)
 (y:aK P V W st w [] (.nal p ks ep r E e xs) v):sq V W w p ks r E e xs v:=y.2.2 (cF u).1 (cF u).2.1 (cF u).2.2
def bu (V:Env)(W:Wit)(p:Bool)(ks:List (Nat×Nat))(k:Nat):Prop:=gd V W p k\/∃ x∈ks,k∈W.bs x.1 x.2
theorem jV {E:TypeId}{e:Ty}{E':TypeId}{e':Ty}{xs:List e'.den}{r:List e.den}(h:lX E e E' e' xs=some r) :
  ∃ (y:E'=E) (u:e'=e),u ▸ xs=r:=by
 unfold lX at h
 grind
theorem uj {e e':Ty}{xs:List e'.den}{r:List e.den}(h:castSh e e' xs=some r):e'.sh=e.sh/\HEq xs r:=by
 unfold castSh at h
 grind
theorem Rd.castSh {G:Nat->Prop}{m m':Bool}{E E':TypeId}{e e':Ty}{xs:List e'.den}{u:List e.den}{cs:List Value}(h:castSh e e' xs=some u)(O:Rd w G (.list m E' e') xs cs):Rd w G (.list m' E e) u cs:=by
 obtain⟨I,M⟩:=uj h;have J:Rd w G (.list m E e) u cs:=by
  refine Rd.flags (a:=.list m E e') (x:=xs) (by simp only[Ty.sh,I]) M ?_;obtain⟨A,r,H,z,y⟩:=O;exact⟨A,r,H,z,y⟩
 obtain⟨A,r,H,z,y⟩:=J;exact⟨A,r,H,z,y⟩
theorem kv (st:St):∀ (r u:List Leaf),bC st (r++u)=bC st r++bC st u
 |[],_=>rfl
 |l::r,u=>by
  have:=kv st r u;cases l <;> simp[bC,this]
theorem sK (st:St):∀ (r u:List Leaf),cd st (r++u)=cd st r++cd st u
 |[],_=>rfl
 |l::r,u=>by
  have:=sK st r u;cases l <;> simp[cd,this]
theorem kQ {a:Act}(h:an P V W st a w){m:Bool}{E:TypeId}{e:Ty}{l:Leaf}{v:Value}{p:Bool}{xs:List e.den}
  (hl:aK P V W st w [] l v) (a0:¬ am l) (u:dp e (aE st l)=some (p,xs)):Rd w (bu V W p (bC st [l])) (.list m E e) xs [v]:=by
 have H:∀ (q:Leaf) (bs:List Nat) (S:Nat->Prop),aK P V W st w bs q v->dp e q=some (p,xs)->(∀ k,gd V W p k->S k)->(am q->∀ k∈bs,S k) ->
   (∀ q' J ep z E' I X,q=.nal q' J ep z E' I X->bw st J ep=true/\∀ k∈J,∀ b∈W.bs k.1 k.2.1,S b)->Rd w S (.list m E e) xs [v]:=by
  intro q bs S M u hS hb hn;cases q with
  |ro q E' I Y =>
   simp only[dp,CB]at u;obtain⟨zs,Z,rfl,rfl⟩:=u;exact Rd.castSh Z (Rd.mono hS M)
  |nil =>
   obtain⟨rfl,rfl⟩:=u;rw[show v=_ from M];exact Rd.nil w _ m E e
  |own q hh E' I Y =>
   cases hh with
   |some _=>simp[dp]at u
   |none =>
    simp only[dp,CB]at u;obtain⟨zs,Z,rfl,rfl⟩:=u;refine Rd.castSh Z (Rd.mono (λk y=>?_) (OwH.rd (m:=false) (E':=E') M));exact y.elim (hS k) (hb trivial k)
  |nal q J ep z E' I Y =>
   simp only[dp,CB,Cu]at u;obtain⟨zs,Z,rfl,rfl⟩:=u;obtain⟨R,hn⟩:=hn _ _ _ _ _ _ _ rfl;have h1:sq V W w q J z E' I Y v:=M.2.2 (cF R).1 (cF R).2.1 (cF R).2.2;refine Rd.castSh Z (Rd.mono (λk y=>?_) h1.rd);rcases y with y|⟨x,hx,y⟩
   ·grind
   ·grind
  |_=>simp[dp]at u
 cases l with
 |al r j n =>
  by_cases hd:aE st (.al r j n)=.dead
  ·rw[hd]at u;simp[dp]at u
  ·obtain⟨h1,h2⟩:=fw rfl hd;have h3:=h.leaf r j _ v h2 (hl.2 h1);generalize M:aE st (.al r j n)=q at u h2 h3;refine H q (W.bs r j) _ h3 u (λk y=>.inl y) (λO k y=>.inr ⟨(r,j),?_,y⟩) ?_
   ·cases q <;> first|exact O.elim|simp[bC,M]
   ·rintro q' J ep z E' I X rfl;exact absurd M iX
 |own q hh E' I Y=>exact absurd trivial a0
 |nal q J ep z E' I Y =>
  simp only[aE]at u;cases R:bw st J ep with
  |false=>simp[R,dp]at u
  |true =>
   simp only[R]at u;refine H _ [] _ hl u (λk y=>.inl y) (λO=>O.elim) ?_;intro q' a3 a6 a2 a5 a4 X a1;cases a1;refine⟨R,λk y b hb=>.inr ⟨(k.1,k.2.1),?_,hb⟩⟩;simp only[bC,aE]
   grind
 |ro q E' I Y=>exact H _ [] _ hl u (λk y=>.inl y) (λO=>O.elim) (λ_ _ _ _ _ _ _ h=>by cases h)
 |nil=>exact H _ [] _ hl u (λk y=>.inl y) (λO=>O.elim) (λ_ _ _ _ _ _ _ h=>by cases h)
 |_=>simp[aE,dp]at u
theorem xa {a:Act}(h:an P V W st a w){l:Leaf}{v:Value}{n:Nat}(X:aK P V W st w [] l v)(Y:¬ am l)(u:gl (aE st l)=some n):Rd w (λ_=>False) .hdr n [v]:=by
 have H:∀ (q:Leaf) (bs:List Nat),aK P V W st w bs q v->gl q=some n->(∀ p J ep z E e O,q=.nal p J ep z E e O->bw st J ep=true)->Rd w (λ_=>False) .hdr n [v]:=by
  intro q bs I u hn;cases q with
  |ro p E e O =>
   simp only[gl,B4]at u;subst u;obtain⟨A,y,M,_⟩:=I;exact⟨A,y,M⟩
  |own p hh E e O =>
   simp only[gl,B4]at u;subst u;obtain⟨A,y,M,_⟩:=OwH.slice I;exact⟨A,y,by rw[M]⟩
  |nal p J ep z E e O =>
   simp only[gl,B4]at u;subst u;have R:=hn _ _ _ _ _ _ _ rfl;obtain⟨A,y,M,_⟩:=(I.2.2 (cF R).1 (cF R).2.1 (cF R).2.2:sq V W w p J z E e O v).rd;exact⟨A,y,M⟩
  |nil =>
   simp only[gl,B4]at u;subst u;exact⟨none,0,by rw[show v=_ from I]⟩
  |hdr m =>
   simp only[gl,B4]at u;subst u;obtain⟨A,y,M⟩:=I;exact⟨A,y,by rw[M]⟩
  |_=>simp[gl]at u
 cases l with
 |al r j m =>
  by_cases hd:aE st (.al r j m)=.dead
  ·rw[hd]at u;simp[gl]at u
  ·obtain⟨h1,h2⟩:=fw rfl hd;have h3:=h.leaf r j _ v h2 (X.2 h1);refine H _ _ h3 u λp J ep z E e O I=>absurd I iX
 |own q hh Z e' ys=>exact absurd trivial Y
 |nal q J ep z Z e' ys =>
  simp only[aE]at u;cases R:bw st J ep with
  |false=>simp[R,gl]at u
  |true =>
   grind
 |ro q Z e' ys=>exact H _ [] X u (λ_ _ _ _ _ _ _ h=>by cases h)
 |nil=>exact H _ [] X u (λ_ _ _ _ _ _ _ h=>by cases h)
 |hdr m=>exact H _ [] X u (λ_ _ _ _ _ _ _ h=>by cases h)
 |_=>simp[aE,gl]at u
theorem kR {a:Act}(h:an P V W st a w):∀ (b:Ty) (ls:List Leaf) (cs:List Value) (p:Bool) (x:b.den) (u:List Leaf),aD P V W st w ls cs ->
  bf st b ls=some (p,x,u)->∃ M R O,cs=M++R/\ls=O++u/\aD P V W st w O M/\aD P V W st w u R/\Rd w (bu V W p (bC st O)) b x M
 |.int k,ls,cs,p,x,u,H,r=>by
  simp only[bf]at r;split at r
  ·rename_i k' n ls;split at r
   ·rename_i I;obtain⟨rfl,rfl,rfl⟩:=r;cases cs with
    |nil=>exact H.elim
    |cons v cs=>exact⟨[v],cs,[_],rfl,rfl,⟨H.1,trivial⟩,H.2,by rw[show v=_ from H.1.1,I];rfl⟩
   ·grind
  ·grind
 |.bool,ls,cs,p,x,u,H,r=>by
  simp only[bf]at r;split at r
  ·simp at r;obtain⟨rfl,rfl,rfl⟩:=r;cases cs with
   |nil=>exact H.elim
   |cons v cs=>exact⟨[v],cs,[_],rfl,rfl,⟨H.1,trivial⟩,H.2,by rw[show v=_ from H.1.1];rfl⟩
  ·grind
 |.str,ls,cs,p,x,u,H,r=>by
  simp only[bf]at r;split at r
  ·simp at r;obtain⟨rfl,rfl,rfl⟩:=r;cases cs with
   |nil=>exact H.elim
   |cons v cs=>exact⟨[v],cs,[_],rfl,rfl,⟨H.1,trivial⟩,H.2,by rw[show v=_ from H.1.1];rfl⟩
  ·grind
 |.unit,ls,cs,p,x,u,H,r=>by
  obtain⟨rfl,_,rfl⟩:=r;exact⟨[],cs,[],rfl,rfl,trivial,H,rfl⟩
 |.hdr,ls,cs,p,x,u,H,r=>by
  simp only[bf]at r;split at r
  ·rename_i l J;split at r
   ·rename_i n hn;obtain⟨rfl,rfl,rfl⟩:=r;cases cs with
    |nil=>exact H.elim
    |cons v cs=>exact⟨[v],cs,[l],rfl,rfl,⟨H.1,trivial⟩,H.2,xa h H.1.1 H.1.2.1 hn⟩
   ·grind
  ·grind
 |.pair b c,ls,cs,p,x,u,H,r=>by
  simp only[bf]at r;split at r
  ·rename_i q y J hb;split at r
   ·rename_i q' z Y hc;simp at r;obtain⟨rfl,rfl,rfl⟩:=r;obtain⟨M,R,O,e1,e2,h1,h2,h3⟩:=kR h b ls cs q y J H hb;obtain⟨Z,c4,l2,e3,e4,h4,h5,h6⟩:=kR h c J R q' z Y h2 hc;refine⟨M++Z,c4,O++l2,by rw[e1,e3,CM],by rw[e2,e4,CM],h1.append h4,h5,M,Z,rfl,?_,?_⟩
    ·refine Rd.mono (λk I=>?_) h3;rcases I with I|⟨y,X,I⟩
     ·exact .inl (bX (by simp_all) (λ_ h=>h) k I)
     ·exact .inr ⟨y,by rw[kv];exact B3 _ X,I⟩
    ·refine Rd.mono (λk I=>?_) h6;rcases I with I|⟨y,X,I⟩
     ·exact .inl (bX (by simp_all) (λ_ h=>h) k I)
     ·exact .inr ⟨y,by rw[kv];exact BZ _ X,I⟩
   ·grind
  ·grind
 |.list m E e,ls,cs,p,x,u,H,r=>by
  simp only[bf]at r;split at r
  ·rename_i l J;split at r
   ·rename_i q ys ha;obtain⟨rfl,rfl,rfl⟩:=r;cases cs with
    |nil=>exact H.elim
    |cons v cs=>exact⟨[v],cs,[l],rfl,rfl,⟨H.1,trivial⟩,H.2,kQ h H.1.1 H.1.2.1 ha⟩
   ·grind
  ·grind
theorem eP {a:Act}(h:an P V W st a w){b:Ty}{ls:List Leaf}{cs:List Value}{p:Bool}{x:b.den}(I:aD P V W st w ls cs)
  (u:cU st b ls=some (p,x)):Rd w (bu V W p (bC st ls)) b x cs:=by
 unfold cU at u;split at u
 ·rename_i q y z;obtain⟨O,r,R,X,Y,J,H,M⟩:=kR h b ls cs _ _ _ I z;have:r=[]:=by
   cases r with
   |nil=>rfl
   |cons=>exact H.elim
  simp_all
 ·grind
end
section
variable {P:Program} {V:Env} {W W':Wit} {st st':St} {w w':World} {a:Act}
theorem bF (A B:Upd)(st:St):ac (A++B) st=ac A (ac B st):=by
 funext q;induction A with
 |nil=>rfl
 |cons x A u=>obtain⟨r,c⟩:=x;simp only[Cq,ac,u]
theorem aR (r:Nat)(c:bV)(U:Upd)(st:St):ac ((r,c)::U) st=ac [(r,c)] (ac U st):=bF [(r,c)] U st
theorem br (r:Nat)(c:bV)(st:St):ac [(r,c)] st r=c:=by simp[ac]
theorem aJ {r q:Nat}(h:q≠r)(c:bV)(st:St):ac [(r,c)] st q=st q:=by
 have:BU q r=false:=by
  cases u:BU q r with
  |false=>rfl
  |true=>exact absurd (BV u) h
 simp[ac,this]
theorem aj (r q:Nat)(c:bV)(st:St):(q=r/\ac [(r,c)] st q=c)\/(q≠r/\ac [(r,c)] st q=st q):=by
 by_cases h:q=r
 ·subst h;exact .inl ⟨rfl,br q c st⟩
 ·exact .inr ⟨h,aJ h c st⟩
def ch (V:Env)(W:Wit)(st:St)(k:Nat):Prop :=
 W.nw k\/V.prot k\/(∃ b,live st b/\W.β b=k)\/∃ r j l,(st r).ls[j]?=some l/\am l/\k∈W.bs r j
theorem an.own_lt (h:an P V W st a w){r j:Nat}{l:Leaf}(u:(st r).ls[j]?=some l)(z:am l):∀ k∈W.bs r j,k<w.heap.size:=by
 have y:j<(W.cs r).length:=by rw[<- h.len];exact (BW.1 u).1
 have:=h.leaf r j l _ u (BY y);cases l <;> simp only[am]at z;exact OwH.lt this
theorem an.box_lt (h:an P V W st a w){b:Nat}(r:live st b):W.β b<w.heap.size:=by
 rcases h.boxes b r.1 with ⟨u,_⟩|⟨_,E,y⟩
 ·exact absurd (u.symm.trans r.2) (by simp)
 ·grind
theorem an.used_lt (h:an P V W st a w):∀ k,ch V W st k->k<w.heap.size:=by
 intro k u;rcases u with u|u|⟨b,I,rfl⟩|⟨r,j,l,y,z,H⟩
 ·exact (h.nwlt k u).1
 ·exact CJ u.1 h.size
 ·exact h.box_lt I
 ·exact h.own_lt y z k H
theorem an.world (Y:ax V)(h:an P V W st a w)(R:w.heap.size<=w'.heap.size)(O:w'.os=w.os)(Z:w'.tape=w.tape)(M:w'.output=w.output)
  (y:∀ k,ch V W st k->w'.heap[k]?=w.heap[k]?):an P V W st a w':=by
 have H:cH V W W st st w w':=⟨λr=>⟨B5 _,λ_=>rfl⟩,λb J=>⟨J,rfl⟩,λ_ h=>h,λk h=>y k (h.elim .inl (λh=>.inr (.inl h))),
  λ_ r j l u I _=>⟨⟨l,u,I⟩,rfl,λk z=>y k (.inr (.inr (.inr ⟨r,j,l,u,I,z⟩)))⟩⟩
 exact {
  nt:=h.nt,df:=h.df,slots:=h.slots,
  boxes:=λb J=>(h.boxes b J).imp id λ⟨u,E,I⟩=>⟨u,E,by rw[y _ (.inr (.inr (.inl ⟨b,⟨J,u⟩,rfl⟩)))];exact I⟩
  len:=h.len,one:=h.one,
  leaf:=λr j l v u I=>(h.leaf r j l v u I).carry Y.ro H (λM=>⟨rfl,λk z=>y k (.inr (.inr (.inr ⟨r,j,l,u,M,z⟩)))⟩)
  ownb:=h.ownb,sep:=h.sep,box:=h.box,inj:=h.inj,
  nwlt:=λk y=>⟨CJ (h.nwlt k y).1 R,(h.nwlt k y).2⟩
  os:=O.trans h.os,tape:=Z.trans h.tape,output:=M.trans h.output,size:=B8 h.size R,
  keep:=λk X=>(y k (.inr (.inl X))).trans (h.keep k X)
  fixb:=h.fixb,fixt:=h.fixt }
theorem an.below (u:ax V)(h:an P V W st a w)(r:Below w.heap.size w w'):an P V W st a w' :=
 h.world u r.size r.os r.tape r.output λk y=>r.block k (h.used_lt k y)
theorem an.relabel (hV:ax V)(h:an P V W st a w)(r:Nat)(c:bV)(nw':Nat->Prop)(a2:(st r).ver<=c.ver)(M:c.sh=(st r).sh)
    (Y:c.ls.length=(st r).ls.length) (a0:∀ k,W.nw k->nw' k) (O:∀ k,nw' k->k<w.heap.size/\¬ V.prot k)
    (Z:∀ (j:Nat) (l:Leaf) (v:Value),c.ls[j]?=some l->(W.cs r)[j]?=some v->aK P V { W with nw:=nw' } (ac [(r,c)] st) w (W.bs r j) l v)
    (a3:∀ (j:Nat) (l:Leaf),c.ls[j]?=some l->am l->(st r).ls[j]?=some l)
    (I:∀ (q j:Nat) (l:Leaf),(ac [(r,c)] st q).ls[j]?=some l->am l->∀ k∈W.bs q j,¬ nw' k)
    (J:∀ b,live st b->¬ nw' (W.β b)):an P V { W with nw:=nw' } (ac [(r,c)] st) a w:=by
  have X:∀ b,live (ac [(r,c)] st) b<->live st b:=by
    intro b;rcases aj r b c st with ⟨rfl,e⟩|⟨_,e⟩
    · simp[live,e,M]
    · simp[live,e]
  have u:∀ (q j:Nat) (l:Leaf),(ac [(r,c)] st q).ls[j]?=some l->am l->(st q).ls[j]?=some l:=by
    intro q j l z y;rcases aj r q c st with ⟨rfl,e⟩|⟨_,e⟩
    · grind
    · grind
  have R:cH V W { W with nw:=nw' } st (ac [(r,c)] st) w w :=
    ⟨λq=>by
      rcases aj r q c st with ⟨rfl,e⟩|⟨_,e⟩
      · grind
      · rw[e];exact⟨B5 _,λ_=>rfl⟩,
     λb H=>⟨(X b).2 H,rfl⟩,a0,λ_ _=>rfl,λ_ q j l z y h3=>⟨⟨l,u q j l z y,y⟩,rfl,λ_ _=>rfl⟩⟩
  exact {
    nt:=h.nt,df:=h.df,
    slots:=λt ht=>by
      rcases aj r t c st with ⟨rfl,e⟩|⟨_,e⟩
      · rw[e,M];exact h.slots t ht
      · rw[e];exact h.slots t ht
    boxes:=λb H=>by
      rcases aj r b c st with ⟨rfl,e⟩|⟨_,e⟩
      · rw[e,M]
        rcases h.boxes b H with ⟨z,y⟩|z
        · grind
        · grind
      · rw[e];exact h.boxes b H
    len:=λq=>by
      rcases aj r q c st with ⟨rfl,e⟩|⟨_,e⟩
      · rw[e,Y];exact h.len q
      · rw[e];exact h.len q
    one:=h.one
    leaf:=λq j l v z y=>by
      rcases aj r q c st with ⟨rfl,e⟩|⟨_,e⟩
      · grind
      · rw[e]at z
        exact (h.leaf q j l v z y).carry hV.ro R (λ_=>⟨rfl,λ_ _=>rfl⟩)
    ownb:=λq j l z y k hk=>⟨I q j l z y k hk,(h.ownb q j l (u q j l z y) y k hk).2.1,λb H=>(h.ownb q j l (u q j l z y) y k hk).2.2 b ((X b).1 H)⟩
    sep:=λq j l q' j' l' z y h3 h4=>h.sep q j l q' j' l' (u q j l z y) y (u q' j' l' h3 h4) h4
    box:=λb H=>⟨J b ((X b).1 H),(h.box b ((X b).1 H)).2⟩
    inj:=λb b' H a1=>h.inj b b' ((X b).1 H) ((X b').1 a1)
    nwlt:=O
    os:=h.os,tape:=h.tape,output:=h.output,size:=h.size,keep:=h.keep,
    fixb:=λx hx=>⟨(X _).2 (h.fixb x hx).1,(h.fixb x hx).2⟩,fixt:=h.fixt }
theorem aU {α:Type}(ls:List α)(j i:Nat)(x y:α)(h:(ls.set j x)[i]?=some y):(i=j/\y=x/\j<ls.length)\/(i≠j/\ls[i]?=some y):=by
 grind
theorem an.kill1 (J:ax V)(h:an P V W st a w)(r j:Nat):an P V W (ac [(r,gm (st r) j)] st) a w:=by
 refine h.relabel J r _ W.nw (B5 _) rfl (by simp[gm,aV]) (λ_ h=>h) h.nwlt ?_ ?_ ?_ λb H=>(h.box b H).1
 ·intro i l v u y;rcases aU _ _ _ _ _ u with ⟨_,rfl,_⟩|⟨z,u⟩
  ·trivial
  ·refine (h.leaf r i l v u y).carry J.ro ⟨λq=>?_,λb H=>?_,λ_ h=>h,λ_ _=>rfl,λ_ q R X I O Y=>?_⟩ (λ_=>⟨rfl,λ_ _=>rfl⟩)
   ·rcases aj r q (gm (st r) j) st with ⟨rfl,e⟩|⟨_,e⟩
    ·rw[e];exact⟨B5 _,λ_=>rfl⟩
    ·grind
   ·refine⟨⟨H.1,?_⟩,rfl⟩;rcases aj r b (gm (st r) j) st with ⟨rfl,e⟩|⟨_,e⟩
    ·rw[e];exact H.2
    ·rw[e];exact H.2
   ·rcases aj r q (gm (st r) j) st with ⟨rfl,e⟩|⟨_,e⟩
    ·rw[e]at I;rcases aU _ _ _ _ _ I with ⟨_,rfl,_⟩|⟨_,I⟩
     ·exact O.elim
     ·grind
    ·grind
 ·intro i l u y;rcases aU _ _ _ _ _ u with ⟨_,rfl,_⟩|⟨z,u⟩
  ·exact y.elim
  ·omega
 ·intro q i l u y;have:(st q).ls[i]?=some l:=by
   rcases aj r q (gm (st r) j) st with ⟨rfl,e⟩|⟨_,e⟩
   ·rw[e]at u;rcases aU _ _ _ _ _ u with ⟨_,rfl,_⟩|⟨z,u⟩
    ·exact y.elim
    ·omega
   ·grind
  exact λk M=>(h.ownb q i l this y k M).1
theorem an.frz1 (hV:ax V)(h:an P V W st a w)(r j:Nat) :
  an P V { W with nw:=λk=>W.nw k\/((∃ l,(st r).ls[j]?=some l/\am l)/\k∈W.bs r j) } (ac [(r,gi (st r) j)] st) a w:=by
 have O:∀ l,(st r).ls[j]?=some l->(st r).ls.getD j .dead=l:=λl hl=>by rw[CF,hl];rfl
 have u:∀ (i:Nat) (l:Leaf),(aV (st r).ls j (uM ((st r).ls.getD j .dead)))[i]?=some l->am l->(st r).ls[i]?=some l/\i≠j:=by
  intro i l z y;rcases aU _ _ _ _ _ z with ⟨rfl,rfl,hj⟩|⟨Z,z⟩
  ·rw[O _ (BY hj)]at y;generalize (st r).ls[i]=l at y;cases l with
   |own p hh E e xs=>cases hh <;> exact y.elim
   |_=>exact y.elim
  ·grind
 have I:cH V W { W with nw:=λk=>W.nw k\/((∃ l,(st r).ls[j]?=some l/\am l)/\k∈W.bs r j) } st (ac [(r,gi (st r) j)] st) w w:=by
  refine⟨λq=>?_,λb Y=>?_,λ_ h=>.inl h,λ_ _=>rfl,λ_ q j' X J M h5=>?_⟩
  ·rcases aj r q (gi (st r) j) st with ⟨rfl,e⟩|⟨_,e⟩
   ·rw[e];exact⟨B5 _,λ_=>rfl⟩
   ·grind
  ·refine⟨⟨Y.1,?_⟩,rfl⟩;rcases aj r b (gi (st r) j) st with ⟨rfl,e⟩|⟨_,e⟩
   ·rw[e];exact Y.2
   ·rw[e];exact Y.2
  ·rcases aj r q (gi (st r) j) st with ⟨rfl,e⟩|⟨_,e⟩
   ·rw[e]at J;exact⟨⟨X,(u j' X J M).1,M⟩,rfl,λ_ _=>rfl⟩
   ·grind
 refine h.relabel hV r _ _ (B5 _) rfl (by simp[gi,aV]) (λ_ h=>.inl h) ?_ ?_ (λi l z y=>(u i l z y).1) ?_ ?_
 ·rintro k (H|⟨⟨l,z,y⟩,H⟩)
  ·exact h.nwlt k H
  ·exact⟨h.own_lt z y k H,(h.ownb r j l z y k H).2.1⟩
 ·intro i l v z y;rcases aU _ _ _ _ _ z with ⟨rfl,rfl,hj⟩|⟨Z,z⟩
  ·have J:(st r).ls[i]?=some (st r).ls[i]:=BY hj;have M:=h.leaf r i _ v J y;rw[O _ J];generalize hq:(st r).ls[i]=q at J M;cases q with
   |own p hh E e xs =>
    cases hh with
    |some _=>trivial
    |none =>
     refine Rd.mono (λk H=>?_) (OwH.rd (m:=false) (E':=E) M);rcases H with H|H
     ·exact bX (W':={ W with nw:=_ }) (λh=>h) (λ_ h=>.inl h) k H
     ·exact .inl (.inr ⟨⟨_,J,trivial⟩,H⟩)
   |_=>exact M.carry hV.ro I (λho=>ho.elim)
  ·exact (h.leaf r i l v z y).carry hV.ro I (λ_=>⟨rfl,λ_ _=>rfl⟩)
 ·intro q i l z y k H;have J:(st q).ls[i]?=some l/\(q,i)≠(r,j):=by
   rcases aj r q (gi (st r) j) st with ⟨rfl,e⟩|⟨Z,e⟩
   ·rw[e]at z;have:=u i l z y
    simp_all
   ·grind
  rintro (R|⟨⟨X,M,h5⟩,R⟩)
  ·exact (h.ownb q i l J.1 y k H).1 R
  ·obtain⟨rfl,rfl⟩:=h.sep q i l r j X J.1 y M h5 k H R
   simp_all
 ·rintro b Y (R|⟨⟨X,M,h5⟩,R⟩)
  ·exact (h.box b Y).1 R
  ·exact (h.ownb r j X M h5 _ R).2.2 b Y rfl
theorem mb (H:ax V):∀ (ks:List (Nat×Nat)),an P V W st a w->an P V W (ac (aO st ks) st) a w /\
  (∀ (q i:Nat) (l:Leaf),(ac (aO st ks) st q).ls[i]?=some l->am l->(st q).ls[i]?=some l/\(q,i)∉ks) /\
  (∀ q,(ac (aO st ks) st q).sh=(st q).sh/\(st q).ver<=(ac (aO st ks) st q).ver)
 |[],h=>⟨h,λ_ _ _ y _=>⟨y,by simp⟩,λ_=>⟨rfl,B5 _⟩⟩
 |(r,j)::ks,h=>by
  obtain⟨y,M,I⟩:=mb H ks h;have e:ac (aO st ((r,j)::ks)) st=ac [(r,gm (ac (aO st ks) st r) j)] (ac (aO st ks) st):=aR _ _ _ _;rw[e];refine⟨y.kill1 H r j,λq i l z J=>?_,λq=>?_⟩
  ·have O:(ac (aO st ks) st q).ls[i]?=some l/\(q,i)≠(r,j):=by
    rcases aj r q (gm (ac (aO st ks) st r) j) (ac (aO st ks) st) with ⟨rfl,e⟩|⟨u,e⟩
    ·rw[e]at z;rcases aU _ _ _ _ _ z with ⟨_,rfl,_⟩|⟨u,z⟩
     ·exact J.elim
     ·grind
    ·grind
   simp_all
  ·rcases aj r q (gm (ac (aO st ks) st r) j) (ac (aO st ks) st) with ⟨rfl,e⟩|⟨u,e⟩
   ·rw[e];exact⟨(I q).1,(I q).2⟩
   ·grind
def Wit.frz (W:Wit)(st:St)(ks:List (Nat×Nat)):Wit :=
 { W with nw:=λk=>W.nw k\/∃ x∈ks,(∃ l,(st x.1).ls[x.2]?=some l/\am l)/\k∈W.bs x.1 x.2 }
theorem an.nw_congr (h:an P V W st a w){nw':Nat->Prop}(e:∀ k,W.nw k<->nw' k):an P V { W with nw:=nw' } st a w:=by
 have:nw'=W.nw:=funext λk=>propext (e k).symm
 subst this;exact h
theorem lH (Y:ax V):∀ (ks:List (Nat×Nat)),an P V W st a w->an P V (W.frz st ks) (ac (aF st ks) st) a w /\
  (∀ (q i:Nat) (l:Leaf),(ac (aF st ks) st q).ls[i]?=some l->am l->(st q).ls[i]?=some l/\(q,i)∉ks) /\
  (∀ q,(ac (aF st ks) st q).sh=(st q).sh/\(st q).ver<=(ac (aF st ks) st q).ver)
 |[],h=>⟨h.nw_congr (λk=>by simp),λ_ _ _ I _=>⟨I,by simp⟩,λ_=>⟨rfl,B5 _⟩⟩
 |(r,j)::ks,h=>by
  obtain⟨I,h2,X⟩:=lH Y ks h;have e:ac (aF st ((r,j)::ks)) st=ac [(r,gi (ac (aF st ks) st r) j)] (ac (aF st ks) st):=aR _ _ _ _;rw[e];refine⟨?_,λq i l R O=>?_,λq=>?_⟩
  ·have h7:=I.frz1 Y r j;have Z:=h7.nw_congr (nw':=(W.frz st ((r,j)::ks)).nw) (λk=>?_)
   ·exact Z
   ·simp only[Wit.frz];constructor
    ·rintro ((z|⟨x,M,z⟩)|⟨⟨l,u,H⟩,z⟩)
     ·grind
     ·grind
     ·exact .inr ⟨(r,j),Ci ..,⟨l,(h2 r j l u H).1,H⟩,z⟩
    ·rintro (z|⟨x,M,⟨l,u,H⟩,z⟩)
     ·grind
     ·rcases Cg.1 M with rfl|M
      ·by_cases J:(r,j)∈ks
       ·exact .inl (.inr ⟨(r,j),J,⟨l,u,H⟩,z⟩)
       ·refine .inr ⟨⟨l,?_,H⟩,z⟩;exact iT ks J u
      ·grind
  ·have h6:(ac (aF st ks) st q).ls[i]?=some l/\(q,i)≠(r,j):=by
    rcases aj r q (gi (ac (aF st ks) st r) j) (ac (aF st ks) st) with ⟨rfl,e⟩|⟨y,e⟩
    ·rw[e]at R;rcases aU _ _ _ _ _ R with ⟨rfl,rfl,hj⟩|⟨y,R⟩
     ·exfalso;generalize (ac (aF st ks) st q).ls.getD i .dead=l' at O;cases l' with
      |own p hh E e xs=>cases hh <;> exact O.elim
      |_=>exact O.elim
     ·grind
    ·grind
   simp_all
  ·rcases aj r q (gi (ac (aF st ks) st r) j) (ac (aF st ks) st) with ⟨rfl,e⟩|⟨y,e⟩
   ·rw[e];exact⟨(X q).1,(X q).2⟩
   ·grind
where
 iT:∀ (ks:List (Nat×Nat)) {r j:Nat} {l:Leaf},(r,j)∉ks->(st r).ls[j]?=some l->(ac (aF st ks) st r).ls[j]?=some l
  |[],_,_,_,_,u=>u
  |(q,i)::ks,r,j,l,hn,u=>by
   have I:=iT ks (λJ=>hn (Ca _ J)) u;have e:ac (aF st ((q,i)::ks)) st=ac [(q,gi (ac (aF st ks) st q) i)] (ac (aF st ks) st):=aR _ _ _ _;rw[e];rcases aj q r (gi (ac (aF st ks) st q) i) (ac (aF st ks) st) with ⟨rfl,e⟩|⟨y,e⟩
   ·rw[e];simp only[gi,aV]
    grind
   ·grind
theorem an.put (hV:ax V)(h:an P V W st a w)(d:Nat)(hd:d<V.nt)(a3:∀ x∈V.fixt,x.1≠d)(n:Nat)(sh:aI)(ls:List Leaf)(v:Value)
  (I:List Value) (J:Nat->List Nat) (hn:(st d).ver<n) (hs:er sh v I) (hl:ls.length=I.length) (h1:∀ u∈I,u.oneCell'=true)
  (a2:∀ (j:Nat) (l:Leaf) (u:Value),ls[j]?=some l->I[j]?=some u->aK P V W st w (J j) l u)
  (a0:∀ (j:Nat) (l:Leaf),ls[j]?=some l->am l->∀ k∈J j,¬ W.nw k/\¬ V.prot k/\(∀ b,live st b->W.β b≠k) /\
   ∀ (r1 j1:Nat) (l1:Leaf),r1≠d->(st r1).ls[j1]?=some l1->am l1->k∉W.bs r1 j1)
  (a4:∀ (j Z:Nat) (l l':Leaf),ls[j]?=some l->am l->ls[Z]?=some l'->am l'->∀ k,k∈J j->k∈J Z->j=Z) :
  an P V { W with cs:=λr=>if r=d then I else W.cs r,bs:=λr j=>if r=d then J j else W.bs r j } (ac [(d,⟨n,sh,ls⟩)] st) (a.put (some d) v) w:=by
 have a6:d<B0:=CJ hd hV.ntB;have R:∀ b,live (ac [(d,⟨n,sh,ls⟩)] st) b<->live st b:=by
  intro b;by_cases hb:B0<=b
  ·rw[live,live,aJ (by omega)]
  ·simp[live,hb]
 have Y:cH V W { W with cs:=λr=>if r=d then I else W.cs r,bs:=λr j=>if r=d then J j else W.bs r j } st (ac [(d,⟨n,sh,ls⟩)] st) w w:=by
  refine⟨λq=>?_,λb hb=>⟨(R b).2 hb,rfl⟩,λ_ h=>h,λ_ _=>rfl,λ_ q Z l' M h4 h5=>?_⟩;rcases aj d q ⟨n,sh,ls⟩ st with ⟨rfl,e⟩|⟨y,e⟩
  ·grind
  ·grind
  rcases aj d q ⟨n,sh,ls⟩ st with ⟨rfl,e⟩|⟨y,e⟩
  ·grind
  ·grind
 have a1:∀ t,(a.put (some d) v).tmps.getD t undef=if t=d then v else a.tmps.getD t undef:=by
  intro t;by_cases ht:t=d
  ·subst ht;have:t<a.tmps.size:=by rw[h.nt];exact hd
   simp[Cy,this]
  ·simp only[Cy,if_neg ht];rw[CP,CP,Array.getElem?_setIfInBounds_ne (λe=>ht e.symm)]
 exact {
  nt:=by simp[Cy,h.nt],df:=by simp[Cy,h.df]
  slots:=λt ht=>by
   rw[a1];rcases aj d t ⟨n,sh,ls⟩ st with ⟨rfl,e⟩|⟨y,e⟩
   ·grind
   ·rw[e];simpa[y]using h.slots t ht
  boxes:=λb hb=>by
   have:b≠d:=by omega
   rw[aJ this];simpa[this]using h.boxes b hb
  len:=λq=>by
   rcases aj d q ⟨n,sh,ls⟩ st with ⟨rfl,e⟩|⟨y,e⟩
   ·grind
   ·rw[e];simpa[y]using h.len q
  one:=λq u hu=>by
   by_cases hq:q=d
   ·grind
   ·simp only[hq]at hu;exact h.one q u hu
  leaf:=λq j l u H M=>by
   rcases aj d q ⟨n,sh,ls⟩ st with ⟨rfl,e⟩|⟨y,e⟩
   ·rw[e]at H;simp at M;exact (a2 j l u H M).carry hV.ro Y (λ_=>⟨by simp,λ_ _=>rfl⟩)
   ·rw[e]at H;simp only[y]at M;exact (h.leaf q j l u H M).carry hV.ro Y (λ_=>⟨by simp[y],λ_ _=>rfl⟩)
  ownb:=λq j l H M k X=>by
   rcases aj d q ⟨n,sh,ls⟩ st with ⟨rfl,e⟩|⟨y,e⟩
   ·grind
   ·rw[e]at H;simp only[y]at X;have:=h.ownb q j l H M k X
    grind
  sep:=λq j l q' Z l' H M h4 h5 k X z=>by
   rcases aj d q ⟨n,sh,ls⟩ st with ⟨e0,e⟩|⟨y,e⟩ <;> rcases aj d q' ⟨n,sh,ls⟩ st with ⟨e1,e'⟩|⟨O,e'⟩
   ·rw[e]at H;rw[e']at h4;simp only[e0]at X;simp only[e1]at z;exact⟨e0.trans e1.symm,a4 j Z l l' H M h4 h5 k X z⟩
   ·rw[e]at H;rw[e']at h4;simp only[e0]at X;simp only[O]at z;exact absurd z ((a0 j l H M k X).2.2.2 q' Z l' O h4 h5)
   ·rw[e]at H;rw[e']at h4;simp only[y]at X;simp only[e1]at z;exact absurd X ((a0 Z l' h4 h5 k z).2.2.2 q j l y H M)
   ·rw[e]at H;rw[e']at h4;simp only[y]at X;simp only[O]at z;exact h.sep q j l q' Z l' H M h4 h5 k X z
  box:=λb hb=>h.box b ((R b).1 hb)
  inj:=λb b' hb a5=>h.inj b b' ((R b).1 hb) ((R b').1 a5)
  nwlt:=h.nwlt
  os:=h.os,tape:=h.tape,output:=h.output,size:=h.size,keep:=h.keep
  fixb:=λx hx=>⟨(R _).2 (h.fixb x hx).1,(h.fixb x hx).2⟩
  fixt:=λx hx=>by rw[a1,if_neg (a3 x hx)];exact h.fixt x hx }
theorem an.putLs (X:ax V)(h:an P V W st a w)(d:Nat)(O:d<V.nt)(y:∀ x∈V.fixt,x.1≠d)(n:Nat)(sh:aI)(ls:List Leaf)(v:Value)
  (r:List Value) (R:(st d).ver<n) (M:er sh v r) (H:aD P V W st w ls r) :
  Rel P V (ac [(d,⟨n,sh,ls⟩)] st) (a.put (some d) v) w :=
 ⟨_,h.put X d O y n sh ls v r (λ_=>[]) R M H.length H.one' (λj l u I J=>(H.at_ j l u I J).1) (λ_ _ _ _ k z=>by simp at z)
  (λ_ _ _ _ _ _ _ _ k z=>by simp at z)⟩
end
def zeroCells:Ty->List Value
 |.int k=>[.int k 0]
 |.bool=>[.bool false]
 |.str=>[.string CI]
 |.unit=>[]
 |.pair a b=>zeroCells a++zeroCells b
 |.hdr=>[.slice none 0 0]
 |.list _ _ _=>[.slice none 0 0]
def bU (P:Program)(t:TypeId)(n:Nat):Prop:=(P.info? t).map (·.size)=some n
def eh (P:Program)(t:TypeId)(z:Value):Prop:=(P.info? t).map (·.zero)=some (some z)
def EqAt (P:Program)(t:TypeId)(a:Ty):Prop:=a.flat=true->∀ (w:World) (G:Nat->Prop) (x y:a.den) (u r:List Value),Rd w G a x u->Rd w G a y r ->
 (Op.equal t (.agg u.toArray) (.agg r.toArray)).run P w=.ok (a.eqv x y) w
def oS (P:Program)(t:TypeId):TI->Prop
 |.int k=>P.underlying t=some (.int k)/\bU P t 1/\eh P t (.int k 0)
 |.bool=>P.underlying t=some .bool/\bU P t 1/\eh P t (.bool false)
 |.str=>P.underlying t=some .string/\bU P t 1/\eh P t (.string CI)
 |.slice E e r=>P.underlying t=some (.slice E)/\bU P t 1/\eh P t (.slice none 0 0)/\0<e.cells/\(0<r/\(e=.int .u8->P.underlying E=some (.int .u8))) /\
  ∃ i z,P.info? E=some i/\i.size=e.cells/\i.bytes=r/\i.zero=some z/\z.cells.toList=zeroCells e
 |.struct a u=>(∃ H,P.underlying t=some (.struct H)/\H.toList.mapM (λf=>(P.info? f.type).map λi=>(f.offset,i.size))=some (u.map λx=>(x.1,x.2.1)) /\
  ∀ (i off n:Nat) (agg:Bool),u[i]?=some (off,n,agg)->(agg=false->n=1)/\∃ f:Field,H[i]?=some f/\f.offset=off/\0<n/\off+n<=a.cells/\bU P f.type n /\
   (P.underlying f.type).map (λd=>match d with|.struct _|.array _ _=>true|_=>false)=some agg) /\
  bU P t a.cells/\eh P t (.agg (zeroCells a).toArray)/\EqAt P t a/\P.eqGuardType P.depth t=false
 |.arr e n=>(∃ E,P.underlying t=some (.array n E)/\bU P E e.cells/\(P.underlying E).map (λd=>match d with|.struct _|.array _ _=>true|_=>false)=some e.isAgg)/\0<e.cells /\
  bU P t (n*e.cells)/\eh P t (.agg ((CE n (zeroCells e)).flatten).toArray)
 |.ptr=>(∃ e,P.underlying t=some (.pointer e))/\bU P t 1/\eh P t (.pointer none)
 |.fn=>(∃ x y z,P.underlying t=some (.func x y z))/\bU P t 1/\eh P t .nilFunc
 |.none=>True
def TOk (P:Program)(T:TypeId->TI):Prop:=∀ t,oS P t (T t)
theorem sL {P:Program}:∀ {l:List (TypeId×TI)},(∀ x∈l,oS P x.1 x.2)->TOk P (gL l)
 |[],_,_=>trivial
 |(t,i)::l,h,u=>by
  simp only[gL];cases y:BU t u with
  |false=>exact sL (λx r=>h x (Ca _ r)) u
  |true =>
   simp_all
section
variable {P:Program} {V:Env} {W:Wit} {st:St} {w:World} {a:Act} {o:Oper}
def mQ (P:Program)(V:Env)(o:Oper)(st:St)(U:Upd)(a:Act)(w:World):Prop :=
 ∀ (next:Act->World->Prop) (Q:Exit->Act->World->Prop),(∀ u r,Rel P V (ac U st) u r->next u r)->o.wp P a w next Q
theorem d7 {v:Value}{w':World}{next:Act->World->Prop}{Q:Exit->Act->World->Prop}(h:(execOp a.eval o).run P w=.ok (.value v) w')(r:next (a.put o.dst v) w'):o.wp P a w next Q:=by
 unfold Oper.wp;rw[h];exact r
theorem pI {w':World}{next:Act->World->Prop}{Q:Exit->Act->World->Prop}(h:(execOp a.eval o).run P w=.ok .skip w')(r:next (a.put o.dst undef) w'):o.wp P a w next Q:=by
 unfold Oper.wp;rw[h];exact r
def bR (V:Env)(o:Oper):Prop:=∀ d,o.dst=some d->d<V.nt/\∀ x∈V.fixt,x.1≠d
theorem d8 (z:ax V)(h:an P V W st a w){d:Nat}(y:o.dst=some d)(r:bR V o){v:Value}{sh:aI}{ls:List Leaf}{cs:List Value}
  (u:(execOp a.eval o).run P w=.ok (.value v) w) (H:er sh v cs) (J:aD P V W st w ls cs):mQ P V o st (ck st [] d sh ls) a w:=by
 intro next Q I;refine d7 u ?_;rw[y];exact I _ _ (h.putLs z d (r d y).1 (r d y).2 _ sh ls v cs (CX _) H J)
theorem aP (z:ax V)(h:an P V W st a w){d:Nat}(I:o.dst=some d)(y:bR V o){v:Value}{l:Leaf}
  (r:(execOp a.eval o).run P w=.ok (.value v) w) (J:aK P V W st w [] l v) (u:¬ am l) (H:v.oneCell'=true):mQ P V o st (ck st [] d .one [l]) a w :=
 d8 z h I y r (cs:=[v]) rfl ⟨⟨J,u,H⟩,trivial⟩
theorem kn {agg:Bool}{v:Value}{cs:List Value}(h:dj agg v cs):er (bq agg) v cs:=by
 cases agg <;> exact h
theorem bI (h:an P V W st a w){x:Operand}{k:IntKind}{n:Int}(r:one st x=.int k n):a.eval x=.int k n:=by
 have:=(bz h x (by rw[r];simp)).1;rw[r]at this;exact this
theorem iq (h:an P V W st a w){x:Operand}{b:Bool}(r:one st x=.bool b):a.eval x=.bool b:=by
 have:=(bz h x (by rw[r];simp)).1;rw[r]at this;exact this
theorem iG (h:an P V W st a w){x:Operand}{b:ByteArray}(r:one st x=.str b):a.eval x=.string b:=by
 have:=(bz h x (by rw[r];simp)).1;rw[r]at this;exact this
theorem vI (r:BinOp)(k:IntKind)(t t':TypeId)(x y:Operand)(m n:Int)(l:Leaf)(u:sC r k m n=some l)(H:a.eval x=.int k m)(z:a.eval y=.int k n)(I:o.op=.binOp r t x y t') :
  ∃ v,(execOp a.eval o).run P w=.ok (.value v) w/\aK P V W st w [] l v/\¬ am l/\v.oneCell'=true:=by
 cases r <;> simp only[sC,B4,reduceCtorEq]at u <;> subst u <;>
  exact⟨_,by simp[execOp,I,H,z,eqGuard,Go.binOp,Op.intArith,Op.intCmp],rfl,id,rfl⟩
theorem BS (z:ax V)(h:an P V W st a w)(ks:List (Nat×Nat)):cH V W W st (ac (aO st ks) st) w w:=by
 obtain⟨_,H,u⟩:=mb z ks h;exact⟨λq=>⟨(u q).2,λ_=>rfl⟩,λb y=>⟨⟨y.1,by rw[(u b).1];exact y.2⟩,rfl⟩,λ_ h=>h,λ_ _=>rfl,λ_ q j l I r _=>⟨⟨l,(H q j l I r).1,r⟩,rfl,λ_ _=>rfl⟩⟩
theorem step_frz (z:ax V)(h:an P V W st a w)(ks:List (Nat×Nat)):cH V W (W.frz st ks) st (ac (aF st ks) st) w w:=by
 obtain⟨_,H,u⟩:=lH z ks h;exact⟨λq=>⟨(u q).2,λ_=>rfl⟩,λb y=>⟨⟨y.1,by rw[(u b).1];exact y.2⟩,rfl⟩,λ_ h=>.inl h,λ_ _=>rfl,λ_ q j l I r _=>⟨⟨l,(H q j l I r).1,r⟩,rfl,λ_ _=>rfl⟩⟩
def dv (W:Wit)(ls:List Leaf)(j:Nat):List Nat :=
 match ls[j]? with
 |some (.al r i _)=>W.bs r i
 |_=>[]
theorem xb:∀ {ls:List Leaf} {j r i n:Nat},ls[j]?=some (.al r i n)->am (aE st (.al r i n))->(r,i)∈bC st ls
 |l::ls,0,r,i,n,h,u=>by
  simp at h;subst h;generalize y:aE st (.al r i n)=q at u;cases q <;> first|exact u.elim|simp[bC,y]
 |l::ls,j+1,r,i,n,h,u=>by
  have:=xb (ls:=ls) (by simpa using h) u;cases l <;> simp[bC,this]
theorem mR:∀ {ls:List Leaf} {j r i n:Nat},ls[j]?=some (.al r i n)->am (aE st (.al r i n))->(r,i)∈cd st ls
 |l::ls,0,r,i,n,h,u=>by
  simp at h;subst h;generalize y:aE st (.al r i n)=q at u;cases q <;> first|exact u.elim|simp[cd,y]
 |l::ls,j+1,r,i,n,h,u=>by
  have:=mR (ls:=ls) (by simpa using h) u;cases l <;> simp[cd,this]
theorem ol:∀ {ls:List Leaf} {j u r i n I:Nat},be (cd st ls)=true->ls[j]?=some (.al r i n)->am (aE st (.al r i n)) ->
    ls[u]?=some (.al r i I)->am (aE st (.al r i I))->j=u
  |l::ls,j,u,r,i,n,I,y,M,Z,O,h4=>by
    have R:∀ (m:Nat) (k:Nat),l=.al r i m->am (aE st (.al r i m))->(∃ z,ls[k]?=some (.al r i z)/\am (aE st (.al r i z)))->False:=by
      rintro m k rfl J ⟨z,h5,h6⟩;have h7:=mR h5 h6;have X:cd st (.al r i m::ls)=(r,i)::cd st ls:=by
        generalize Y:aE st (.al r i m)=q at J;cases q <;> first|exact J.elim|simp[cd,Y]
      rw[X]at y;simp only[be,BX,CT]at y;have:=y.1;rw[CU]at this;have:=this _ h7;simp at this
    have H:be (cd st ls)=true:=by
      cases l <;> first
        |exact y
        | (rename_i r' u v'
           simp only[cd]at y;split at y
           · simp only[Cq,be]at y
             grind
           · simpa using y)
    cases j with
    |zero =>
      cases u with
      |zero=>rfl
      |succ u =>
        grind
    |succ j =>
      cases u with
      |zero =>
        grind
      |succ u =>
        have:=ol (ls:=ls) H (by simpa using M) Z (by simpa using O) h4;omega
theorem mc (Y:ax V)(h:an P V W st a w){l:Leaf}{v:Value}(y:aK P V W st w [] l v)(u:¬ am l) :
  (∃ r i n,l=.al r i n/\am (aE st l)/\aK P V W st w (W.bs r i) (aE st l) v/\(st r).ls[i]?=some (aE st l)) \/
  (¬ am (aE st l)/\aK P V W st w [] (aE st l) v):=by
 cases l with
 |al r j n =>
  by_cases H:aE st (.al r j n)=.dead
  ·rw[H];exact .inr ⟨id,trivial⟩
  ·obtain⟨I,O⟩:=fw rfl H;have Z:=y.2 I;have M:=h.leaf r j _ v O Z;by_cases z:am (aE st (.al r j n))
   ·grind
   ·exact .inr ⟨z,M.carry Y.ro (cH.refl V W st w) (λh=>absurd h z)⟩
 |own p hh E e X=>exact absurd trivial u
 |nal p R ep J E e X =>
  simp only[aE];cases bw st R ep with
  |false=>exact .inr ⟨id,trivial⟩
  |true=>exact .inr ⟨id,y⟩
 |_=>exact .inr ⟨id,y⟩
end
section
variable {P:Program} {V:Env} {W:Wit} {st:St} {w w':World} {a:Act} {o:Oper} {ls:List Leaf} {cs:List Value}
theorem iH {st st':St}(h:∀ q,(st' q).sh=(st q).sh)(b:Nat):live st' b<->live st b:=by simp[live,h]
def aC (st:St)(x:Nat×Nat):Prop:=∃ l,(st x.1).ls[x.2]?=some l/\am l
def bc (W:Wit)(ks:List (Nat×Nat)):List Nat:=ks.flatMap λx=>W.bs x.1 x.2
theorem dQ (W:Wit)(a b:List (Nat×Nat)):bc W (a++b)=bc W a++bc W b:=List.flatMap_append
theorem gx {W:Wit}{ks:List (Nat×Nat)}{k:Nat}:k∈bc W ks<->∃ x∈ks,k∈W.bs x.1 x.2:=List.mem_flatMap
theorem kw {W:Wit}{p:Bool}{ks:List (Nat×Nat)}(u:∀ x∈ks,aC st x):∀ k,bu V W p ks k->gd V (W.frz st ks) p k:=by
 rintro k (r|⟨x,y,r⟩)
 ·exact bX (W':=W.frz st ks) (λh=>h) (λ_ h=>Or.inl h) k r
 ·exact .inl (.inr ⟨x,y,u x y,r⟩)
theorem nT {a b:List (Nat×Nat)}(h:dJ a b=true):∀ x∈a,x∉b:=by
 intro x u r;simp only[dJ,CT,CU]at h;have:=h x u;simp only[Cp,CU]at this;have:=this x r;simp[iB]at this
theorem fT (hV:ax V){W:Wit}{a:Act}{w:World}(h:an P V W st a w){frz kill:List (Nat×Nat)}(a0:dJ frz kill=true)(a1:∀ x∈kill,aC st x) :
  an P V (W.frz st frz) (ac (aO (ac (aF st frz) st) kill++aF st frz) st) a w /\
  (∀ (q i:Nat) (l:Leaf),(ac (aO (ac (aF st frz) st) kill++aF st frz) st q).ls[i]?=some l->am l->(st q).ls[i]?=some l/\(q,i)∉frz/\(q,i)∉kill) /\
  (∀ q,(ac (aO (ac (aF st frz) st) kill++aF st frz) st q).sh=(st q).sh/\(st q).ver<=(ac (aO (ac (aF st frz) st) kill++aF st frz) st q).ver) /\
  (∀ k∈bc W kill,¬ (W.frz st frz).nw k/\¬ V.prot k/\k<w.heap.size/\(∀ b,live (ac (aO (ac (aF st frz) st) kill++aF st frz) st) b->W.β b≠k) /\
   ∀ (J i:Nat) (l:Leaf),(ac (aO (ac (aF st frz) st) kill++aF st frz) st J).ls[i]?=some l->am l->k∉W.bs J i):=by
 obtain⟨h1,h2,h3⟩:=lH hV frz h;obtain⟨h4,h5,Y⟩:=mb hV kill h1;rw[<- bF]at h4 h5 Y;have H:∀ q,(ac (aO (ac (aF st frz) st) kill++aF st frz) st q).sh=(st q).sh:=λq=>(Y q).1.trans (h3 q).1
 have u:∀ (q i:Nat) (l:Leaf),(ac (aO (ac (aF st frz) st) kill++aF st frz) st q).ls[i]?=some l->am l->(st q).ls[i]?=some l/\(q,i)∉frz/\(q,i)∉kill:=by
  simp_all
 refine⟨h4,u,λq=>⟨H q,B8 (h3 q).2 (Y q).2⟩,λk z=>?_⟩;obtain⟨x,hx,z⟩:=gx.1 z;obtain⟨l,M,r⟩:=a1 x hx;have h7:=h.ownb x.1 x.2 l M r k z;refine⟨?_,h7.2.1,h.own_lt M r k z,λb hb=>h7.2.2 b ((iH H b).1 hb),λJ i l1 h8 h9 Z=>?_⟩
 ·rintro (hn|⟨y,hy,⟨l2,R,I⟩,O⟩)
  ·grind
  ·obtain⟨e1,e2⟩:=h.sep y.1 y.2 l2 x.1 x.2 l R I M r k O z;exact nT a0 y hy (by rw[show y=x from Prod.ext e1 e2];exact hx)
 ·obtain⟨X,_,a2⟩:=u J i l1 h8 h9;obtain⟨e1,e2⟩:=h.sep x.1 x.2 l J i l1 M r X h9 k z Z
  simp_all
theorem Ae (y:ax V)(h:an P V W st a w)(frz kill:List (Nat×Nat)):cH V W (W.frz st frz) st (ac (aO (ac (aF st frz) st) kill++aF st frz) st) w w:=by
 obtain⟨J,M,z⟩:=lH y frz h;obtain⟨_,H,u⟩:=mb y kill J;rw[<- bF]at H u;exact⟨λq=>⟨B8 (z q).2 (u q).2,λ_=>rfl⟩,λb I=>⟨⟨I.1,by rw[(u b).1,(z b).1];exact I.2⟩,rfl⟩,λ_ h=>.inl h,λ_ _=>rfl,
  λ_ q j l O r _=>⟨⟨l,(M q j l (H q j l O r).1 r).1,r⟩,rfl,λ_ _=>rfl⟩⟩
theorem sM:∀ {ls:List Leaf} {j:Nat} {p:Bool} {ks:List (Nat×Nat×Nat)} {ep:Nat} {E:TypeId} {e:Ty} {xs:List e.den},ls[j]?=some (.nal p ks ep none E e xs)->bw st ks ep=true->∀ k∈ks,(k.1,k.2.1)∈dB st ls
 |l::ls,0,p,ks,ep,E,e,xs,h,y,k,u=>by
  simp at h;subst h;simp only[dB,aE]
  grind
 |l::ls,j+1,p,ks,ep,E,e,xs,h,y,k,u=>by
  have:=sM (ls:=ls) (by simpa using h) y k u;cases l with
  |nal O z I r J M H=>cases r <;> simp[dB,this]
  |_=>simp[dB,this]
theorem sN {ls:List Leaf}(h:ik st ls=true):be (cd st ls)=true/\dJ (dB st ls) (cd st ls)=true:=by
 simpa[ik]using h
theorem om (y:aD P V W st w ls cs){x:Nat×Nat}(u:x∈cd st ls):aC st x:=by
 induction ls generalizing cs with
 |nil=>simp[cd]at u
 |cons l ls z =>
  cases cs with
  |nil=>exact y.elim
  |cons v cs =>
   cases l with
   |al r j n =>
    simp only[cd,CA]at u;rcases u with u|u
    ·split at u
     ·rename_i p J E e I H;simp at u;subst u;exact⟨_,(fw H (by simp)).2,trivial⟩
     ·grind
    ·exact z y.2 u
   |_=>exact z y.2 u
theorem Bg {l:Leaf}(h:am (gv st l)):am (aE st l)/\gv st l=aE st l:=by
 unfold gv at h ⊢;split at h
 ·exact h.elim
 ·exact⟨h,rfl⟩
theorem oT (hV:ax V)(h:an P V W st a w){ls:List Leaf}{cs:List Value}(hl:aD P V W st w ls cs)(a8:ik st ls=true) :
    an P V (W.frz st (dB st ls)) (ac (mvU st ls) st) a w/\(dP st ls).length=cs.length /\
    (∀ (j:Nat) (l:Leaf) (u:Value),(dP st ls)[j]?=some l->cs[j]?=some u->aK P V (W.frz st (dB st ls)) (ac (mvU st ls) st) w (dv W ls j) l u) /\
    (∀ (j:Nat) (l:Leaf),(dP st ls)[j]?=some l->am l->∀ k∈dv W ls j,¬ (W.frz st (dB st ls)).nw k/\¬ V.prot k/\k<w.heap.size /\
      (∀ b,live (ac (mvU st ls) st) b->W.β b≠k) /\
      ∀ (r1 j1:Nat) (l1:Leaf),(ac (mvU st ls) st r1).ls[j1]?=some l1->am l1->k∉W.bs r1 j1) /\
    (∀ (j j':Nat) (l l':Leaf),(dP st ls)[j]?=some l->am l->(dP st ls)[j']?=some l'->am l'->∀ k,k∈dv W ls j->k∈dv W ls j'->j=j'):=by
  obtain⟨hd,ad⟩:=sN a8;obtain⟨h1,h2,h3,a5⟩:=fT hV h ad (λx hx=>om hl hx);have J:=Ae hV h (dB st ls) (cd st ls);show an P V (W.frz st (dB st ls)) (ac (aO (ac (aF st (dB st ls)) st) (cd st ls)++aF st (dB st ls)) st) a w/\_;have R:∀ (j:Nat) (l:Leaf),(dP st ls)[j]?=some l->∃ z u,ls[j]?=some z/\cs[j]?=some u/\gv st z=l/\aK P V W st w [] z u/\¬ am z:=by
    intro j l M;simp only[dP,Cl,CB]at M;obtain⟨z,H,Y⟩:=M;have a9:j<cs.length:=by rw[<- hl.length];exact (BW.1 H).1
    have O:=BY a9;have h7:=hl.at_ j z _ H O
    simp_all
  have y:∀ (j:Nat) (l:Leaf),(dP st ls)[j]?=some l->am l->∃ r i n,ls[j]?=some (.al r i n)/\am (aE st (.al r i n))/\(st r).ls[i]?=some l:=by
    intro j l M ho;obtain⟨z,u,H,Y,rfl,O,h7⟩:=R j l M;obtain⟨Z,e0⟩:=Bg ho;rcases mc hV h O h7 with ⟨r,i,n,rfl,h8,_,h9⟩|⟨h8,_⟩
    · grind
    · grind
  refine⟨h1,by simp[dP,hl.length],λj l u M hu=>?_,λj l M ho k I=>?_,λj j' l l' M ho a3 Z k I a0=>?_⟩
  · obtain ⟨z, u', H, Y, rfl, O, h7⟩ := R j l M
    obtain rfl:u=u':=Option.some.inj (hu.symm.trans Y);have X:gv st z=aE st z->aK P V (W.frz st (dB st ls)) (ac (mvU st ls) st) w (dv W ls j) (gv st z) u:=by
      intro e0;rw[e0];rcases mc hV h O h7 with ⟨r,i,n,rfl,h8,h9,_⟩|⟨h8,h9⟩
      · have:dv W ls j=W.bs r i:=by simp[dv,H]
        rw[this];exact h9.carry hV.ro J (λ_=>⟨rfl,λ_ _=>rfl⟩)
      · exact h9.carry hV.ro J (λh=>absurd h h8)
    by_cases hn:∃ p ks ep E e xs,aE st z=.nal p ks ep none E e xs
    · obtain⟨p,ks,ep,E,e,xs,hn⟩:=hn
      have e0:gv st z=.ro p E e xs:=by unfold gv;rw[hn]
      rw[e0];have a1:z=.nal p ks ep none E e xs/\bw st ks ep=true:=by
        cases z with
        |al r i n=>exact absurd hn iX
        |nal p' a7 b0 b1 E' e' b2 =>
          simp only[aE]at hn;cases hv:bw st a7 b0 with
          |false=>simp[hv]at hn
          |true =>
            simp_all
        |_=>simp[aE]at hn
      obtain⟨rfl,hv⟩:=a1;refine Rd.mono (λk I=>?_) (pH hv O).rd;rcases I with I|⟨x,hx,I⟩
      · exact bX (W':=W.frz st (dB st ls)) (λh=>h) (λ_ h=>Or.inl h) k I
      · exact .inl (.inr ⟨(x.1,x.2.1),sM H hv x hx,(cF hv).2.2 x hx,I⟩)
    · refine X ?_
      unfold gv
      grind
  · obtain⟨r,i,n,H,Y,O⟩:=y j l M ho
    have e:dv W ls j=W.bs r i:=by simp[dv,H]
    rw[e]at I;exact a5 k (gx.2 ⟨(r,i),mR H Y,I⟩)
  · obtain⟨r,i,n,H,Y,O⟩:=y j l M ho
    obtain⟨r',i',n',a2,a6,a4⟩:=y j' l' a3 Z;have e:dv W ls j=W.bs r i:=by simp[dv,H]
    have e':dv W ls j'=W.bs r' i':=by simp[dv,a2]
    rw[e]at I;rw[e']at a0;obtain⟨rfl,rfl⟩:=h.sep r i l r' i' l' O ho a4 Z k I a0;exact ol hd H Y a2 a6
theorem zW (u:ax V)(h:an P V W st a w)(z:aD P V W st w ls cs)(r:ik st ls=true):∀ q,(ac (mvU st ls) st q).sh=(st q).sh/\(st q).ver<=(ac (mvU st ls) st q).ver :=
 (fT u h (sN r).2 (λ_ y=>om z y)).2.2.1
theorem an.putMoved (M:ax V)(h:an P V W st a w){ls:List Leaf}{cs:List Value}(J:aD P V W st w ls cs)(hd:ik st ls=true)
  (d:Nat) (I:d<V.nt) (r:∀ x∈V.fixt,x.1≠d) {sh:aI} {v:Value} (Z:er sh v cs) :
  Rel P V (ac (ck st (mvU st ls) d sh (dP st ls)) st) (a.put (some d) v) w:=by
 obtain⟨O,X,R,H,Y⟩:=oT M h J hd;exact⟨_,O.put M d I r _ sh (dP st ls) v cs (dv W ls) (CX _) Z X J.one' R
  (λj l y u k z=>⟨(H j l y u k z).1,(H j l y u k z).2.1,(H j l y u k z).2.2.2.1,λr1 j1 l1 _=>(H j l y u k z).2.2.2.2 r1 j1 l1⟩) Y⟩
theorem an.setBoxG (hV:ax V)(h:an P V W st a w)(b:Nat)(hb:B0<=b)(n:Nat)(ls:List Leaf)(a3:List Value)(X:Nat->List Nat)(g:Nat)(E:TypeId)
    (hn:(st b).ver<n) (hg:(live st b/\W.β b=g)\/(¬ live st b/\¬ ch V W st g/\∀ (j:Nat) (l:Leaf),ls[j]?=some l->am l->∀ k∈X j,k≠g)) (ba:w'.heap[g]?=some (.cells a3.toArray E (0,0)))
    (ad:∀ k,ch V W st k->k≠g->w'.heap[k]?=w.heap[k]?) (a6:∀ (j:Nat) (l:Leaf),ls[j]?=some l->am l->∀ k∈X j,k≠g->w'.heap[k]?=w.heap[k]?) (b1:w.heap.size<=w'.heap.size) (b5:w'.os=w.os) (ht:w'.tape=w.tape) (ho:w'.output=w.output)
    (hl:ls.length=a3.length) (h1:∀ u∈a3,u.oneCell'=true)
    (a9:∀ (j:Nat) (l:Leaf) (u:Value),ls[j]?=some l->a3[j]?=some u->aK P V W st w (X j) l u)
    (a8:∀ (j:Nat) (l:Leaf),ls[j]?=some l->am l->∀ k∈X j,¬ W.nw k/\¬ V.prot k/\(∀ b,live st b->W.β b≠k) /\
      ∀ (r1 j1:Nat) (l1:Leaf),r1≠b->(st r1).ls[j1]?=some l1->am l1->k∉W.bs r1 j1)
    (b2:∀ (j j':Nat) (l l':Leaf),ls[j]?=some l->am l->ls[j']?=some l'->am l'->∀ k,k∈X j->k∈X j'->j=j') :
    an P V { W with β:=λr=>if r=b then g else W.β r,cs:=λr=>if r=b then a3 else W.cs r,bs:=λr j=>if r=b then X j else W.bs r j }
      (ac [(b,⟨n,.agg,ls⟩)] st) a w':=by
  have Y:¬ W.nw g/\¬ V.prot g/\(∀ q,q≠b->live st q->W.β q≠g)/\∀ (r1 j1:Nat) (l1:Leaf),(st r1).ls[j1]?=some l1->am l1->g∉W.bs r1 j1:=by
    rcases hg with ⟨a1,rfl⟩|⟨a1,hg⟩
    · exact⟨(h.box b a1).1,(h.box b a1).2,λq hq b9 e=>hq (h.inj q b b9 a1 e),λr1 j1 l1 y J I=>(h.ownb r1 j1 l1 y J _ I).2.2 b a1 rfl⟩
    · have hu:=hg.1
      simp only[ch,not_or,not_exists,not_and]at hu
      grind
  have b0:∀ (j:Nat) (l:Leaf),ls[j]?=some l->am l->∀ k∈X j,k≠g:=by
    grind
  have H:∀ q,live (ac [(b,⟨n,.agg,ls⟩)] st) q<->(q=b\/live st q):=by
    intro q;rcases aj b q ⟨n,.agg,ls⟩ st with ⟨e0,e⟩|⟨z,e⟩
    · subst e0
      simp[live,e,hb]
    · simp[live,e,z]
  have M:∀ k,ch V W st k->k≠g->w'.heap[k]?=w.heap[k]?:=ad;have a5:cH V W { W with β:=λr=>if r=b then g else W.β r,cs:=λr=>if r=b then a3 else W.cs r,bs:=λr j=>if r=b then X j else W.bs r j } st (ac [(b,⟨n,.agg,ls⟩)] st) w w':=by
    refine⟨λq=>?_,λq hq=>⟨(H q).2 (.inr hq),?_⟩,λ_ h=>h,λk I=>M k (I.elim .inl (λh=>.inr (.inl h))) ?_,λ_ q j l y J Z=>?_⟩
    · rcases aj b q ⟨n,.agg,ls⟩ st with ⟨rfl,e⟩|⟨z,e⟩
      · grind
      · grind
    · grind
    · grind
    · rcases aj b q ⟨n,.agg,ls⟩ st with ⟨rfl,e⟩|⟨z,e⟩
      · grind
      · rw[e]at y
        refine⟨⟨l,y,J⟩,by simp[z],λk I=>M k (.inr (.inr (.inr ⟨q,j,l,y,J,I⟩))) ?_⟩
        grind
  exact {
    nt:=h.nt,df:=h.df
    slots:=λt b4=>by
      have : t ≠ b := by have : GH <= B0 := by decide
                         omega
      rw[aJ this];simpa[this]using h.slots t b4
    boxes:=λq hq=>by
      rcases aj b q ⟨n,.agg,ls⟩ st with ⟨rfl,e⟩|⟨z,e⟩
      · grind
      · rw[e]
        refine (h.boxes q hq).imp id λ⟨y,E',J⟩=>⟨y,E',?_⟩
        simp only[z,if_false];rw[M _ (.inr (.inr (.inl ⟨q,⟨hq,y⟩,rfl⟩))) (Y.2.2.1 q z ⟨hq,y⟩)];exact J
    len:=λq=>by
      rcases aj b q ⟨n,.agg,ls⟩ st with ⟨rfl,e⟩|⟨z,e⟩
      · rw[e];simpa using hl
      · rw[e];simpa[z]using h.len q
    one:=λq u hu=>by
      by_cases hq:q=b
      · grind
      · simp only[hq]at hu;exact h.one q u hu
    leaf:=λq j l u y J=>by
      rcases aj b q ⟨n,.agg,ls⟩ st with ⟨rfl,e⟩|⟨z,e⟩
      · rw[e]at y
        simp only at J;exact (a9 j l u y J).carry hV.ro a5 (λho=>⟨by simp,λk I=>a6 j l y ho k I (b0 j l y ho k I)⟩)
      · rw[e]at y
        simp only[z]at J;refine (h.leaf q j l u y J).carry hV.ro a5 (λho=>⟨by simp[z],λk I=>M k (.inr (.inr (.inr ⟨q,j,l,y,ho,I⟩))) ?_⟩);rintro rfl;exact Y.2.2.2 q j l y ho I
    ownb:=λq j l y J k I=>by
      rcases aj b q ⟨n,.agg,ls⟩ st with ⟨rfl,e⟩|⟨z,e⟩
      · rw[e]at y
        simp only[if_true]at I;have Z:=a8 j l y J k I;refine⟨Z.1,Z.2.1,λp hp=>?_⟩;by_cases a2:p=q
        · simp only[a2,if_true];exact λe=>b0 j l y J k I e.symm
        · simp only[a2,if_false];exact Z.2.2.1 p (((H p).1 hp).resolve_left a2)
      · rw[e]at y
        simp only[z,if_false]at I;have Z:=h.ownb q j l y J k I;refine⟨Z.1,Z.2.1,λp hp=>?_⟩;by_cases a2:p=b
        · simp only[a2,if_true];rintro rfl;exact Y.2.2.2 q j l y J I
        · simp only[a2,if_false];exact Z.2.2 p (((H p).1 hp).resolve_left a2)
    sep:=λq j l q' j' l' y J Z h5 k I a0=>by
      rcases aj b q ⟨n,.agg,ls⟩ st with ⟨e0,e⟩|⟨z,e⟩ <;> rcases aj b q' ⟨n,.agg,ls⟩ st with ⟨e1,e'⟩|⟨a4,e'⟩
      · rw[e]at y;rw[e']at Z
        simp only[e0,if_true]at I;simp only[e1,if_true]at a0;exact⟨e0.trans e1.symm,b2 j j' l l' y J Z h5 k I a0⟩
      · rw[e]at y;rw[e']at Z
        simp only[e0,if_true]at I;simp only[a4,if_false]at a0;exact absurd a0 ((a8 j l y J k I).2.2.2 q' j' l' a4 Z h5)
      · rw[e]at y;rw[e']at Z
        simp only[z,if_false]at I;simp only[e1,if_true]at a0
        grind
      · rw[e]at y;rw[e']at Z
        simp only[z]at I;simp only[a4,if_false]at a0;exact h.sep q j l q' j' l' y J Z h5 k I a0
    box:=λq hq=>by
      by_cases O:q=b
      · simp only[O,if_true];exact⟨Y.1,Y.2.1⟩
      · simp only[O,if_false];exact h.box q (((H q).1 hq).resolve_left O)
    inj:=λq q' hq b3 e=>by
      by_cases O:q=b <;> by_cases R:q'=b
      · omega
      · simp only[O,if_true,R,if_false]at e
        exact absurd e.symm (Y.2.2.1 q' R (((H q').1 b3).resolve_left R))
      · simp only[O,if_false,R,if_true]at e
        exact absurd e (Y.2.2.1 q O (((H q).1 hq).resolve_left O))
      · simp only[O,if_false,R,if_false]at e
        exact h.inj q q' (((H q).1 hq).resolve_left O) (((H q').1 b3).resolve_left R) e
    nwlt:=λk I=>⟨CJ (h.nwlt k I).1 b1,(h.nwlt k I).2⟩
    os:=b5.trans h.os,tape:=ht.trans h.tape,output:=ho.trans h.output,size:=B8 h.size b1
    keep:=λk hp=>by
      rw[M k (.inr (.inl hp)) (by rintro rfl;exact Y.2.1 hp)];exact h.keep k hp
    fixb:=λx hx=>by
      obtain⟨y,J⟩:=h.fixb x hx;refine⟨(H _).2 (.inr y),?_⟩;by_cases a7:x.1=b
      · simp only[a7,if_true]
        rcases hg with ⟨_,e⟩|⟨a1,_⟩
        · rw[<- e,<- a7];exact J
        · exact absurd (a7 ▸ y) a1
      · simpa only[a7,if_false]using J
    fixt:=h.fixt }
theorem an.setBox (hV:ax V)(h:an P V W st a w)(b:Nat)(hb:B0<=b)(n:Nat)(ls:List Leaf)(z:List Value)(H:Nat->List Nat)(g:Nat)(E:TypeId)
  (hn:(st b).ver<n) (hg:(live st b/\W.β b=g)\/(¬ live st b/\w.heap.size<=g)) (Y:w'.heap[g]?=some (.cells z.toArray E (0,0)))
  (I:∀ k,k<w.heap.size->k≠g->w'.heap[k]?=w.heap[k]?) (a0:w.heap.size<=w'.heap.size) (a1:w'.os=w.os) (ht:w'.tape=w.tape) (ho:w'.output=w.output)
  (hl:ls.length=z.length) (h1:∀ u∈z,u.oneCell'=true)
  (R:∀ (j:Nat) (l:Leaf) (u:Value),ls[j]?=some l->z[j]?=some u->aK P V W st w (H j) l u)
  (y:∀ (j:Nat) (l:Leaf),ls[j]?=some l->am l->∀ k∈H j,¬ W.nw k/\¬ V.prot k/\k<w.heap.size/\(∀ b,live st b->W.β b≠k) /\
   ∀ (r1 j1:Nat) (l1:Leaf),r1≠b->(st r1).ls[j1]?=some l1->am l1->k∉W.bs r1 j1)
  (Z:∀ (j j':Nat) (l l':Leaf),ls[j]?=some l->am l->ls[j']?=some l'->am l'->∀ k,k∈H j->k∈H j'->j=j') :
  an P V { W with β:=λr=>if r=b then g else W.β r,cs:=λr=>if r=b then z else W.cs r,bs:=λr j=>if r=b then H j else W.bs r j }
   (ac [(b,⟨n,.agg,ls⟩)] st) a w' :=
 h.setBoxG hV b hb n ls z H g E hn (hg.imp id λ⟨h2,h3⟩=>⟨h2,λhu=>by have:=h.used_lt g hu;omega,λj l O M k J=>by have:=(y j l O M k J).2.2.1;omega⟩) Y
  (λk J X=>I k (h.used_lt k J) X) (λj l O M k J X=>I k (y j l O M k J).2.2.1 X) a0 a1 ht ho hl h1 R
  (λj l O M k J=>⟨(y j l O M k J).1,(y j l O M k J).2.1,(y j l O M k J).2.2.2.1,(y j l O M k J).2.2.2.2⟩) Z
theorem ez (z:aD P V W st w ls cs){x:Nat×Nat}(u:x∈bC st ls):aC st x:=by
 induction ls generalizing cs with
 |nil=>simp[bC]at u
 |cons l ls H =>
  cases cs with
  |nil=>exact z.elim
  |cons v cs =>
   cases l with
   |al r j n =>
    simp only[bC,CA]at u;rcases u with u|u
    ·split at u
     ·rename_i p X E e R y;simp at u;subst u;exact⟨_,(fw y (by simp)).2,trivial⟩
     ·grind
    ·exact H z.2 u
   |nal p M ep J E e R =>
    simp only[bC,CA]at u;rcases u with u|u
    ·split at u
     ·rename_i y;simp only[aE]at y;cases I:bw st M ep with
      |false=>simp[I]at y
      |true =>
       obtain⟨k,O,rfl⟩:=List.mem_map.1 u;exact (cF I).2.2 k O
     ·grind
    ·exact H z.2 u
   |_=>exact H z.2 u
theorem BT (z:aD P V W st w ls cs){ks:List (Nat×Nat)}(u:∀ x∈bC st ls,x∈ks)(p:Bool):∀ k,bu V W p (bC st ls) k->gd V (W.frz st ks) p k:=by
 intro k r;rcases r with r|⟨x,y,r⟩
 ·exact bX (W':=W.frz st ks) (λh=>h) (λ_ h=>Or.inl h) k r
 ·exact .inl (.inr ⟨x,u x y,ez z y,r⟩)
end
section
variable {P:Program} {V:Env} {Γ:List Ctr} {T:TypeId->TI} {st:St} {o:Oper} {R:Type} {κ:Upd->Option R} {r:R}
def bZ (P:Program)(V:Env)(o:Oper)(st:St)(κ:Upd->Option R)(r:R):Prop :=
 ∃ U,κ U=some r/\∀ W a w,an P V W st a w->mQ P V o st U a w
theorem yI (H:ax V)(y:bR V o){x:Operand}(u:o.op=.move x)(h:act Γ T o st κ=some r):bZ P V o st κ r:=by
 simp only[act,wrU,u]at h;split at h
 ·rename_i d J;refine⟨_,h,λW a w z=>?_⟩;obtain⟨O,I,M⟩:=cX z x;exact d8 H z J y (by simp[execOp,u]) I M
 ·grind
theorem vJ (J:ax V)(y:bR V o){x:Operand}(z:o.op=.assign x)(h:act Γ T o st κ=some r):bZ P V o st κ r:=by
 simp only[act,z]at h;split at h
 ·rename_i d H;cases u:ik st (au st x).2 with
  |false=>simp[u]at h
  |true =>
   simp only[u]at h;refine⟨_,h,λW a w I=>?_⟩;obtain⟨Y,M,X⟩:=cX I x;intro next Q O;refine d7 (v:=a.eval x) (w':=w) (by simp[execOp,z]) ?_;rw[H];exact O _ _ (I.putMoved J X u d (y d H).1 (y d H).2 M)
 ·grind
theorem yJ (O:ax V)(H:bR V o){c x y:Operand}(z:o.op=.pick c x y)(h:act Γ T o st κ=some r):bZ P V o st κ r:=by
 simp only[act,wrU,z]at h;split at h
 ·rename_i t X;cases t with
  |true =>
   split at h
   ·rename_i d M;refine⟨_,h,λW a w u=>?_⟩;obtain⟨Y,J,I⟩:=cX u x;exact d8 O u M H (v:=a.eval x) (by simp[execOp,z,iq u X,asBool]) J I
   ·grind
  |false =>
   split at h
   ·rename_i d M;refine⟨_,h,λW a w u=>?_⟩;obtain⟨Y,J,I⟩:=cX u y;exact d8 O u M H (v:=a.eval y) (by simp[execOp,z,iq u X,asBool]) J I
   ·grind
 ·grind
theorem sO (hV:ax V)(Z:bR V o){x:Operand}(X:o.op=.nilCheck x)(h:act Γ T o st κ=some r):bZ P V o st κ r:=by
 simp only[act,wrU,X]at h;have H:∀ {l:Leaf} {d:Nat},one st x=l->l≠.dead->(∀ W a w,an P V W st a w->aK P V W st w [] l (a.eval x)->∃ ad,a.eval x=.pointer (some ad))->o.dst=some d ->
   ∀ W a w,an P V W st a w->mQ P V o st (ck st [] d .one [l]) a w:=by
  intro l d z a0 hp I W a w M;obtain⟨Y,h2,h3,_⟩:=bz M x (by rw[z];exact a0);rw[z]at Y h2;obtain⟨ad,O⟩:=hp W a w M Y;exact aP hV M I Z (v:=a.eval x) (by simp[execOp,X,O]) Y h2 h3
 split at h
 ·split at h
  ·rename_i z _ d I;exact⟨_,h,H z (by simp) (λW a w M u=>by obtain⟨g,o',c,O,_⟩:=u;exact⟨_,O⟩) I⟩
  ·grind
 ·split at h
  ·rename_i z _ d I;exact⟨_,h,H z (by simp) (λW a w M u=>⟨_,u.2.2⟩) I⟩
  ·grind
 ·rename_i r' j v i sz off z;cases J:BU (st r').ver v with
  |false=>simp[J]at h
  |true =>
   simp only[J]at h;split at h
   ·rename_i d I;refine⟨_,h,H z (by simp) (λW a w M u=>?_) I⟩;obtain⟨g,a2,a1,_,_,O⟩:=u.2 (BV J)
    simp_all
   ·grind
 ·split at h
  ·rename_i z _ d I;exact⟨_,h,H z (by simp) (λW a w M u=>by obtain⟨b,ob,g,o',c,O,_⟩:=u;exact⟨_,O⟩) I⟩
  ·grind
 ·rename_i p ks ep b y off z;cases J:bw st ks ep with
  |false=>simp[J]at h
  |true =>
   simp only[J]at h;split at h
   ·rename_i d I;refine⟨_,h,H z (by simp) (λW a w M u=>?_) I⟩;obtain⟨g,o',c,O,_⟩:=(u.2.2 (cF J).1 (cF J).2.1 (cF J).2.2:NpOk V W w p ks b y off _).rd
    simp_all
   ·grind
 ·grind
theorem yK (J:ax V)(y:bR V o){M:UnOp}{t:TypeId}{x:Operand}(u:o.op=.unOp M t x)(h:act Γ T o st κ=some r):bZ P V o st κ r:=by
 simp only[act,wrU,u]at h;split at h
 ·rename_i b H;split at h
  ·rename_i d I;exact⟨_,h,λW a w z=>aP J z I y (v:=.bool (!b)) (by simp[execOp,u,iq z H,Op.unary]) rfl id rfl⟩
  ·grind
 ·rename_i k n H;split at h
  ·rename_i d I;exact⟨_,h,λW a w z=>aP J z I y (v:=.int k (k.wrap (0-n))) (by simp[execOp,u,bI z H,Op.unary,Op.intArith]) rfl id rfl⟩
  ·grind
 ·grind
theorem uk (hV:ax V)(X:bR V o){x:Operand}{i:Nat}(H:o.op=.extract x i)(h:act Γ T o st κ=some r):bZ P V o st κ r:=by
 simp only[act,wrU,H]at h;split at h
 ·rename_i u ls he;split at h
  ·rename_i agg n hp;split at h
   ·rename_i d hd;refine⟨_,h,λW a w hr=>?_⟩;obtain⟨z,hs,hl⟩:=cX hr x;rw[he]at hs hl;obtain⟨y,hv,Y⟩:=hs;have J:∀ (u:List (Bool×Nat)) (y z:List Value) (i:Nat) (off:Nat),pG u y z->u[i]?=some (agg,n) ->
      ∃ v,y[i]?=some v/\dj agg v ((z.drop ((u.take i).foldl (λa b=>a+b.2) off-off)).take n)/\off<=(u.take i).foldl (λa b=>a+b.2) off:=by
     intro u;induction u with
     |nil=>intro y z i off _ hi;simp at hi
     |cons p u ih =>
      rintro y z i off ⟨v,Z,c,O,rfl,rfl,hc,a0,Y⟩ hi;cases i with
      |zero =>
       simp_all
      |succ i =>
       obtain⟨v',I,M,h3⟩:=ih Z O i (off+p.2) Y (by simpa using hi);refine⟨v',by simpa using I,?_,by simp;omega⟩;simp;have e:(u.take i).foldl (λa b=>a+b.2) (off+p.2)-off=c.length+((u.take i).foldl (λa b=>a+b.2) (off+p.2)-(off+p.2)):=by omega
       rw[e,<- Ct,List.drop_left];exact M
    obtain⟨v,I,M,_⟩:=J u y z i 0 Y hp;refine d8 hV hr hd X (v:=v) ?_ (kn M) ((hl.drop _).take n);simp[execOp,H,hv,Instr.extract,I]
   ·grind
  ·grind
 ·grind
theorem uP {W:Wit}{a:Act}{w:World}(M:an P V W st a w):∀ (xs:List Operand) (u l:List Nat),
  xs.foldl (λ (u:Option (List Nat)) x=>u.bind λl=>match one st x with|.bp b 0=>some (l++[b])|_=>none) (some u)=some l ->
  ∃ y,l=u++y/\xs.map a.eval=y.map (λb=>Value.pointer (some ⟨W.β b,0,none⟩))/\∀ b∈y,B0<=b/\(st b).sh=.agg
 |[],u,l,h=>⟨[],by simpa using h.symm,rfl,by simp⟩
 |x::xs,u,l,h=>by
  simp at h;have H:∀ (xs:List Operand),xs.foldl (λ (u:Option (List Nat)) x=>u.bind λl=>match one st x with|.bp b 0=>some (l++[b])|_=>none) none=none:=by
   intro xs;induction xs with
   |nil=>rfl
   |cons x xs Y=>simpa using Y
  split at h
  ·rename_i b J;obtain⟨y,O,X,Z⟩:=uP M xs (u++[b]) l h;have z:=(bz M x (by rw[J];simp)).1;rw[J]at z;refine⟨b::y,by simp[O],?_,?_⟩
   ·simp only[Cv,X];rw[show a.eval x=_ from z.2.2]
   ·intro q I;rcases Cg.1 I with rfl|I
    ·exact⟨z.1,z.2.1⟩
    ·grind
  ·grind
theorem sP (Z:ax V)(y:bR V o){fn:Fn}{first caps:Array Operand}(u:o.op=.makeFunc fn first caps)(h:act Γ T o st κ=some r):bZ P V o st κ r:=by
 cases fn with
 |func f =>
  simp only[act,wrU,u]at h;cases z:BU first.size 0 with
  |false=>simp[z]at h
  |true =>
   simp only[z]at h;split at h
   ·rename_i l Y;split at h
    ·rename_i d X;refine⟨_,h,λW a w H=>?_⟩;obtain⟨l',I,M,J⟩:=uP H caps.toList [] l Y;subst I;have O:first=#[]:=Array.eq_empty_of_size_eq_zero (BV z)
     refine aP Z H X y (v:=.func (.func f) #[] (l.map λb=>Value.pointer (some ⟨W.β b,0,none⟩)).toArray) ?_ ⟨rfl,J⟩ id rfl;rw[<- M];simp[execOp,u,Instr.makeFunc,O,<- CY]
    ·grind
   ·grind
 |_=>simp[act,u]at h
theorem gy {α:Type}{xs:List α}{i:Int}{x:α}(h:idx xs i=some x):0<=i/\i<xs.length/\xs[i.toNat]?=some x:=by
 unfold idx at h
 grind
end
section
variable {P:Program} {V:Env} {Γ:List Ctr} {T:TypeId->TI} {st:St} {o:Oper} {R:Type} {κ:Upd->Option R} {r:R}
theorem xc {W:Wit}{a:Act}{w:World}(H:an P V W st a w){x:Operand}{b:Ty}{p:Bool}{u:b.den}(z:(au st x).1=.agg)(J:cU st b (au st x).2=some (p,u)) :
  ∃ y G,a.eval x=.agg y.toArray/\Rd w G b u y:=by
 obtain⟨y,I,M⟩:=cX H x;rw[z]at I;exact⟨y,_,I,eP H M J⟩
theorem lI {t:TypeId}(y:P.underlying t=some .bool)(b u:Bool)(w:World):(Op.equal t (.bool b) (.bool u)).run P w=.ok (b==u) w:=by
 have e:Op.maxDepth=9999+1:=rfl;unfold Op.equal;rw[e];generalize 9999=m;unfold Op.equalIn;rw[CD,run_underlying y];rfl
theorem xd (Z:ax V)(hT:TOk P T)(J:bR V o){op:BinOp}{t t':TypeId}{x y:Operand}(H:o.op=.binOp op t x y t')(h:act Γ T o st κ=some r):bZ P V o st κ r:=by
  simp only[act,wrU,H]at h;split at h
  · rename_i k m k' n X O
    cases op
    case shl =>
      simp only at h;cases Y:decide (n<0) with
      |true=>simp[Y]at h
      |false =>
        simp only[Y,cond_false]at h;split at h
        · rename_i d M
          refine⟨_,h,λW a w z=>aP Z z M J (v:=.int k (k.wrap (m*2 ^ (min n.toNat k.bits)))) ?_ rfl id rfl⟩;have:¬ n<0:=of_decide_eq_false Y;simp[execOp,H,bI z X,bI z O,eqGuard,Go.binOp,Op.shift,this]
        · cases h
    case shr =>
      simp only at h;cases Y:decide (n<0) with
      |true=>simp[Y]at h
      |false =>
        simp only[Y,cond_false]at h;split at h
        · rename_i d M
          refine⟨_,h,λW a w z=>aP Z z M J (v:=.int k (m.fdiv (2 ^ (min n.toNat k.bits)))) ?_ rfl id rfl⟩;have:¬ n<0:=of_decide_eq_false Y;simp[execOp,H,bI z X,bI z O,eqGuard,Go.binOp,Op.shift,this]
        · cases h
    case quo =>
      simp only at h;cases Y:decide (n=0) with
      |true=>simp[Y]at h
      |false =>
        simp only[Y,cond_false]at h;cases I:decide (k=k') with
        |false=>simp[I]at h
        |true =>
          simp only[I,cond_true]at h;have I:=of_decide_eq_true I;subst I;split at h
          · rename_i d M
            refine⟨_,h,λW a w z=>aP Z z M J (v:=.int k (k.wrap (m.tdiv n))) ?_ rfl id rfl⟩;have:¬ n=0:=of_decide_eq_false Y;simp[execOp,H,bI z X,bI z O,eqGuard,Go.binOp,Op.intDiv,this]
          · cases h
    case rem =>
      simp only at h;cases Y:decide (n=0) with
      |true=>simp[Y]at h
      |false =>
        simp only[Y,cond_false]at h;cases I:decide (k=k') with
        |false=>simp[I]at h
        |true =>
          simp only[I,cond_true]at h;have I:=of_decide_eq_true I;subst I;split at h
          · rename_i d M
            refine⟨_,h,λW a w z=>aP Z z M J (v:=.int k (m.tmod n)) ?_ rfl id rfl⟩;have:¬ n=0:=of_decide_eq_false Y;simp[execOp,H,bI z X,bI z O,eqGuard,Go.binOp,Op.intDiv,this]
          · cases h
    case and =>
      simp only at h;cases I:decide (k=k') with
      |false=>simp[I]at h
      |true =>
        simp only[I,cond_true]at h;have I:=of_decide_eq_true I;subst I;split at h
        · rename_i d M
          refine⟨_,h,λW a w z=>aP Z z M J (v:=.int k (k.wrap ((BitVec.ofInt k.bits m &&& BitVec.ofInt k.bits n).toNat))) ?_ rfl id rfl⟩;simp[execOp,H,bI z X,bI z O,eqGuard,Go.binOp,Op.intBits]
        · cases h
    case xor =>
      simp only at h;cases I:decide (k=k') with
      |false=>simp[I]at h
      |true =>
        simp only[I,cond_true]at h;have I:=of_decide_eq_true I;subst I;split at h
        · rename_i d M
          refine⟨_,h,λW a w z=>aP Z z M J (v:=.int k (k.wrap ((BitVec.ofInt k.bits m ^^^ BitVec.ofInt k.bits n).toNat))) ?_ rfl id rfl⟩;simp[execOp,H,bI z X,bI z O,eqGuard,Go.binOp,Op.intBits]
        · cases h
    all_goals
      simp only at h;cases I:decide (k=k') with
      |false=>simp[I]at h
      |true =>
        simp only[I,cond_true]at h;have I:=of_decide_eq_true I;subst I;split at h
        · rename_i l hl
          split at h
          · rename_i d M
            refine⟨_,h,λW a w z=>?_⟩;obtain⟨v,h1,h2,h3,h4⟩:=vI (P:=P) (V:=V) (W:=W) (st:=st) (w:=w) _ k t t' x y m n l hl (bI z X) (bI z O) H;exact aP Z z M J h1 h2 h3 h4
          · cases h
        · cases h
  · rename_i b b' X O
    cases ht:T t with
    |bool =>
      have h1:=hT t;rw[ht]at h1;simp only[ht]at h;cases op <;> simp only at h <;> first
        |cases h;done
        | (split at h
           · rename_i d M
             first
               |exact⟨_,h,λW a w z=>aP Z z M J (v:=.bool (b==b')) (by simp[execOp,H,iq z X,iq z O,eqGuard,Go.binOp,lI h1.1]) rfl id rfl⟩
               |exact⟨_,h,λW a w z=>aP Z z M J (v:=.bool (b != b')) (by simp[execOp,H,iq z X,iq z O,eqGuard,Go.binOp,lI h1.1,bne]) rfl id rfl⟩
           · cases h)
    |_=>simp[ht]at h
  · rename_i b b' X O
    cases op <;> simp only at h <;> first
      |cases h;done
      | (cases a0 : decide (b.size + b'.size <= 9223372036854775807) with
         |false=>rw[a0]at h;cases h
         |true =>
           rw[a0]at h;simp only[cond_true]at h;split at h
           · rename_i d M
             refine⟨_,h,λW a w z=>aP Z z M J (v:=.string (b++b')) ?_ rfl id rfl⟩;have:(b.size:Int)+b'.size<=9223372036854775807:=by have:=of_decide_eq_true a0;omega
             simp[execOp,H,iG z X,iG z O,eqGuard,Go.binOp,Op.stringOp,this]
           · cases h)
      | (split at h
         · rename_i d M
           first
             |exact⟨_,h,λW a w z=>aP Z z M J (v:=.bool (b.toList==b'.toList)) (by simp[execOp,H,iG z X,iG z O,eqGuard,Go.binOp,Op.stringOp]) rfl id rfl⟩
             |exact⟨_,h,λW a w z=>aP Z z M J (v:=.bool (b.toList != b'.toList)) (by simp[execOp,H,iG z X,iG z O,eqGuard,Go.binOp,Op.stringOp,bne]) rfl id rfl⟩
         · cases h)
  · cases ht:T t with
    |struct b ad =>
      have h1:=hT t;rw[ht]at h1;obtain⟨_,_,_,a7,a2⟩:=h1;simp only[ht]at h;cases hf:b.flat&&decide ((au st x).1=.agg)&&decide ((au st y).1=.agg) with
      |false=>simp[hf]at h
      |true =>
        simp only[hf,cond_true]at h;simp only[BX,decide_eq_true_eq]at hf;obtain⟨⟨hf,a8⟩,a6⟩:=hf;split at h
        · rename_i p u q v a5 a4
          have a1:∀ (W:Wit) (a:Act) (w:World),an P V W st a w->(Op.equal t (a.eval x) (a.eval y)).run P w=.ok (b.eqv u v) w/\(∃ cx cy:Array Value,a.eval x=.agg cx/\a.eval y=.agg cy):=by
            intro W a w z;obtain⟨cx,G,X,a9⟩:=xc z a8 a5;obtain⟨cy,G',O,a3⟩:=xc z a6 a4;rw[X,O];exact⟨a7 hf w G u v cx cy a9 (Rd.flat hf a3),_,_,rfl,rfl⟩
          cases op <;> simp only at h <;> first
            |cases h;done
            | (split at h
               · rename_i d M
                 first
                   | (refine ⟨_, h, λW a w z => aP Z z M J (v := .bool (b.eqv u v)) ?_ rfl id rfl⟩
                      obtain⟨h2,cx,cy,X,O⟩:=a1 W a w z;rw[X,O]at h2;simp[execOp,H,X,O,eqGuard,Go.binOp,a2,h2];done)
                   | (refine ⟨_, h, λW a w z => aP Z z M J (v := .bool (!b.eqv u v)) ?_ rfl id rfl⟩
                      obtain⟨h2,cx,cy,X,O⟩:=a1 W a w z;rw[X,O]at h2;simp[execOp,H,X,O,eqGuard,Go.binOp,a2,h2])
               · cases h)
        · cases h
    |_=>simp[ht]at h
end
section
variable {P:Program} {V:Env} {Γ:List Ctr} {T:TypeId->TI} {st:St} {o:Oper} {R:Type} {κ:Upd->Option R} {r:R}
theorem fm (g off n:Nat):(⟨g,off,none⟩:Addr).add n=⟨g,off+n,none⟩:=by
 unfold Addr.add;split <;> simp_all
theorem dy {t:TypeId}{n:Nat}(h:bU P t n)(w:World):(sizeOf t).run P w=.ok n w:=by
 unfold bU at h;cases u:P.info? t with
 |none=>simp[u]at h
 |some i =>
  simp[u]at h;simp[sizeOf,typeInfo,u,h]
theorem gz {t:TypeId}{z:Value}(h:eh P t z)(w:World):(zeroValue t).run P w=.ok z w:=by
 unfold eh at h;cases u:P.info? t with
 |none=>simp[u]at h
 |some i =>
  simp[u]at h;simp[zeroValue,typeInfo,u,h]
theorem sb (hV:ax V)(hT:TOk P T)(J:bR V o){t:TypeId}{x:Operand}{f:Nat}(a0:o.op=.fieldAddr t x f)(h:act Γ T o st κ=some r):bZ P V o st κ r:=by
 simp only[act,wrU,a0]at h;cases ht:T t with
 |struct b a5 =>
  simp only[ht]at h;split at h
  ·rename_i off n agg hf;have h1:=hT t;rw[ht]at h1;obtain⟨⟨fs,hu,_,a3⟩,_⟩:=h1;obtain⟨_,fd,h2,h3,h4,h5,h6,_⟩:=a3 f off n agg hf;have I:∀ (a:Act) (w:World) (g O:Nat),a.eval x=.pointer (some ⟨g,O,none⟩)->(execOp a.eval o).run P w=.ok (.value (.pointer (some ⟨g,O+off,none⟩))) w:=by
    intro a w g O Z;have u:=dy h6 w;have h8:n≠0:=by omega
    simp[execOp,a0,Z,Instr.fieldAt,run_underlying hu,h2,Cb,fieldPlace,u,h8,fm]
   split at h
   ·rename_i p b' y O z;split at h
    ·rename_i d X;refine⟨_,h,λW a w H=>?_⟩;obtain⟨u,_,_,_⟩:=bz H x (by rw[z];simp);rw[z]at u;obtain⟨g,og,c,Z,hg,Y,hc⟩:=u;exact aP hV H X J (I a w g _ Z) ⟨g,og,c,by rw[CV],hg,Y,hc⟩ id rfl
    ·grind
   ·rename_i b' O z;split at h
    ·rename_i d X;refine⟨_,h,λW a w H=>?_⟩;obtain⟨u,_,_,_⟩:=bz H x (by rw[z];simp);rw[z]at u;exact aP hV H X J (I a w _ _ u.2.2) ⟨u.1,u.2.1,rfl⟩ id rfl
    ·grind
   ·rename_i r' j v i sz O z;cases M:BU (st r').ver v with
    |false=>simp[M]at h
    |true =>
     simp only[M]at h;split at h
     ·rename_i d X;refine⟨_,h,λW a w H=>?_⟩;obtain⟨u,_,_,_⟩:=bz H x (by rw[z];simp);rw[z]at u;obtain⟨g,a4,a1,hh,a2,Z⟩:=u.2 (BV M);exact aP hV H X J (I a w g _ Z) ⟨u.1,λ_=>⟨g,a4,a1,hh,a2,by rw[CV]⟩⟩ id rfl
     ·grind
   ·rename_i p ks ep b' y O z;cases M:bw st ks ep with
    |false=>simp[M]at h
    |true =>
     simp only[M]at h;split at h
     ·rename_i d X;refine⟨_,h,λW a w H=>?_⟩;obtain⟨u,_,_,_⟩:=bz H x (by rw[z];simp);rw[z]at u;have h8:NpOk V W w p ks b' y O _:=u.2.2 (cF M).1 (cF M).2.1 (cF M).2.2;obtain⟨g,og,c,Z,hg,Y,hc⟩:=h8.rd;exact aP hV H X J (I a w g _ Z) ⟨u.1,u.2.1,λ_ _ _=>⟨g,og,c,by rw[CV],hg,Y,hc⟩⟩ id rfl
     ·grind
   ·grind
  ·grind
 |_=>simp[ht]at h
theorem sd (hV:ax V)(hT:TOk P T)(a0:bR V o){t:TypeId}{x i:Operand}(a2:o.op=.indexAddr t x i)(h:act Γ T o st κ=some r):bZ P V o st κ r:=by
 simp only[act,wrU,a2]at h;split at h
 ·rename_i k n hi;cases ht:T t with
  |slice E e a8 =>
   simp only[ht]at h;have h1:=hT t;rw[ht]at h1;obtain⟨hu,_,_,b9,_,ti,z,a9,ad,_⟩:=h1;have hE:bU P E e.cells:=by simp[bU,a9,ad]
   have a5:∀ (W:Wit) (a:Act) (w:World) (g Y X I:Nat),an P V W st a w->0<=n->n<X->a.eval x=.slice (some ⟨g,Y,none⟩) X I ->
     (execOp a.eval o).run P w=.ok (.value (.pointer (some ⟨g,Y+n.toNat*e.cells,none⟩))) w:=by
    intro W a w g Y X I H h0 h1 M;have Z:=dy hE w;simp[execOp,a2,M,bI H hi,Cw,asIntOf,run_underlying hu,h0,h1,Z,fm]
   split at h
   ·rename_i r' j v O;split at h
    ·rename_i p hh E' e' xs b1;cases u:BU e'.cells e.cells with
     |false=>simp[u]at h
     |true =>
      simp only[u]at h;have u:=BV u;obtain⟨y,hy,h⟩:=B6.1 h;obtain⟨Z,h3,h4⟩:=gy hy;split at h
      ·rename_i d hd;refine⟨_,h,λW a w H=>?_⟩;obtain⟨J,_,_,_⟩:=bz H x (by rw[O];simp);rw[O]at J;obtain⟨h8,h9,bl,b5⟩:=ku H b1 J;obtain⟨_,b2,b3,ho,bb,_⟩:=h9;rcases ho.2 with ⟨hn,h0⟩|⟨g,a1,b4,_,M,_,_,_⟩
       ·omega
       ·refine aP hV H hd a0 (a5 W a w g 0 xs.length a1 H Z h3 M) ⟨by omega,λ_=>⟨g,xs.length,a1,by rw[h8,M],by omega,by simp[u]⟩⟩ id rfl
      ·grind
    ·grind
   ·rename_i p E' e' xs O;cases u:BU e'.cells e.cells with
    |false=>simp[u]at h
    |true =>
     simp only[u]at h;have u:=BV u;obtain⟨y,hy,h⟩:=B6.1 h;obtain⟨Z,h3,h4⟩:=gy hy;split at h
     ·rename_i d hd;refine⟨_,h,λW a w H=>?_⟩;obtain⟨J,_,_,_⟩:=bz H x (by rw[O];simp);rw[O]at J;obtain⟨A,I,M,a7,a4⟩:=J;have M:a.eval x=.slice A xs.length I:=by simpa using M
      obtain⟨g,Y,rfl,hg,a3⟩:=a4 (by omega);obtain⟨c,hc,a6⟩:=a3 n.toNat y h4;refine aP hV H hd a0 (a5 W a w g Y xs.length I H Z h3 M) ⟨g,Y+n.toNat*e'.cells,c,by rw[u];rfl,?_,hc,a6⟩ id rfl;rcases hg with hg|⟨_,hg⟩
      ·grind
      ·exact .inr (hV.ro g hg)
     ·grind
   ·rename_i p ks ep ba E' e' xs O;cases u:BU e'.cells e.cells&&bw st ks ep with
    |false=>simp[u]at h
    |true =>
     simp only[u]at h;simp only[BX]at u;obtain⟨u,b0⟩:=u;have u:=BV u;obtain⟨y,hy,h⟩:=B6.1 h;obtain⟨Z,h3,h4⟩:=gy hy;split at h
     ·rename_i d hd;refine⟨_,h,λW a w H=>?_⟩;obtain⟨J,_,_,_⟩:=bz H x (by rw[O];simp);rw[O]at J;have h8:=pH b0 J;obtain⟨A,I,M,a7,a4⟩:=h8.rd;have M:a.eval x=.slice A xs.length I:=by simpa using M
      obtain⟨g,Y,rfl,hg,a3⟩:=a4 (by omega);obtain⟨c,hc,a6⟩:=a3 n.toNat y h4;exact aP hV H hd a0 (a5 W a w g Y xs.length I H Z h3 M) ⟨J.1,J.2.1,λ_ _ _=>⟨g,Y+n.toNat*e'.cells,c,by rw[u];rfl,hg,hc,a6⟩⟩ id rfl
     ·grind
   ·grind
  |arr e X =>
   simp only[ht]at h;have h1:=hT t;rw[ht]at h1;obtain⟨⟨E,hu,hE,_⟩,_⟩:=h1;split at h
   ·rename_i b off O;cases u:decide (0<=n)&&decide (n<(X:Int)) with
    |false=>simp[u]at h
    |true =>
     simp only[u]at h;simp at u;split at h
     ·rename_i d hd;refine⟨_,h,λW a w H=>?_⟩;obtain⟨J,_,_,_⟩:=bz H x (by rw[O];simp);rw[O]at J;refine aP hV H hd a0 (v:=.pointer (some ⟨W.β b,off+n.toNat*e.cells,none⟩)) ?_ ⟨J.1,J.2.1,rfl⟩ id rfl;have Z:=dy hE w;simp[execOp,a2,J.2.2,bI H hi,Cw,Cb,asIntOf,run_underlying hu,u.1,u.2,Z,fm]
     ·grind
   ·grind
  |_=>simp[ht]at h
 ·grind
theorem xe {t:TypeId}{i:TI}(u:oS P t i)(J:i.cells≠0\/i≠.none)(w:World):(isAgg t).run P w=.ok i.agg w:=by
 cases i with
 |none=>simp[TI.cells]at J
 |struct a I =>
  obtain⟨⟨M,H,_⟩,_⟩:=u;simp[isAgg,run_underlying H,TI.agg]
 |arr e n=>obtain⟨⟨E,H,_⟩,_⟩:=u;simp[isAgg,run_underlying H,TI.agg]
 |ptr=>obtain⟨⟨e,H⟩,_⟩:=u;simp[isAgg,run_underlying H,TI.agg]
 |fn=>obtain⟨⟨x,y,z,H⟩,_⟩:=u;simp[isAgg,run_underlying H,TI.agg]
 |int k=>simp[isAgg,run_underlying u.1,TI.agg]
 |bool=>simp[isAgg,run_underlying u.1,TI.agg]
 |str=>simp[isAgg,run_underlying u.1,TI.agg]
 |slice E e b=>simp[isAgg,run_underlying u.1,TI.agg]
theorem oU {t:TypeId}{i:TI}(u:oS P t i)(z:i≠.none):bU P t i.cells:=by
 cases i with
 |none=>exact absurd rfl z
 |struct a y=>exact u.2.1
 |arr e n=>exact u.2.2.1
 |ptr=>exact u.2.1
 |fn=>exact u.2.1
 |int k=>exact u.2.1
 |bool=>exact u.2.1
 |str=>exact u.2.1
 |slice E e b=>exact u.2.1
theorem mS {W:Wit}{a:Act}{w:World}(H:an P V W st a w){e:Ty}:∀ (n:Nat) (ls:List Leaf) (cs:List Value) (xs:List e.den),aD P V W st w ls cs->fP st e n ls=some xs ->
  xs.length=n/\∀ (i:Nat) (x:e.den),xs[i]?=some x->∃ G,Rd w G e x ((cs.drop (i*e.cells)).take e.cells)
 |0,ls,cs,xs,_,h=>by
  simp only[fP]at h
  simp_all
 |n+1,ls,cs,xs,z,h=>by
  simp only[fP]at h;split at h
  ·rename_i p x Y I M;simp at h;subst h;obtain⟨J,X⟩:=mS H n _ _ _ (z.drop e.cells) M;refine⟨by simp[J],λi y u=>?_⟩;cases i with
   |zero =>
    simp at u;subst u;exact⟨_,by simpa using eP H (z.take e.cells) I⟩
   |succ i =>
    obtain⟨G,O⟩:=X i y (by simpa using u);rw[Ct]at O
    grind
  ·cases h
theorem xf (hV:ax V)(hT:TOk P T)(X:bR V o){t:TypeId}{x i:Operand}(J:o.op=.index t x i)(h:act Γ T o st κ=some r):bZ P V o st κ r:=by
 simp only[act,wrU,J]at h;split at h
 ·rename_i k n hi;cases hs:T t with
  |str =>
   simp only[hs]at h;split at h
   ·rename_i s hx;obtain⟨y,hy,h⟩:=B6.1 h;split at h
    ·rename_i d hd;refine⟨_,h,λW a w I=>aP hV I hd X (v:=.int .u8 (y.toNat:Int)) ?_ rfl id rfl⟩;have h1:=hT t;rw[hs]at h1;obtain⟨h2,h3,h4⟩:=gy hy;have h5:s[n.toNat]?=some y:=by
      have h6:=(BW.1 h4);obtain⟨h7,h8⟩:=h6;have h9:n.toNat<s.size:=by rw[Array.length_toList]at h7;exact h7
      rw[getElem?_pos s n.toNat h9];congr 1
     simp[execOp,J,bI I hi,iG I hx,Cr,asIntOf,run_underlying h1.1,h2,h5]
    ·grind
   ·grind
  |arr e Z =>
   simp only[hs]at h;have h1:=hT t;rw[hs]at h1;obtain⟨⟨E,hu,hE,O⟩,a3,_⟩:=h1;cases hb:e.flat&&decide ((au st x).1=.agg)&&BU (au st x).2.length (Z*e.cells)&&!BU e.cells 0 with
   |false=>simp[hb]at h
   |true =>
    simp only[hb]at h;simp only[BX,decide_eq_true_eq]at hb;obtain⟨⟨⟨hf,a2⟩,a4⟩,_⟩:=hb;split at h
    ·rename_i vs hg;obtain⟨y,hy,h⟩:=B6.1 h;split at h
     ·rename_i d hd;refine⟨_,h,λW a w I=>?_⟩;obtain⟨cs,H,hl⟩:=cX I x;rw[a2]at H;have H:a.eval x=.agg cs.toArray:=H;obtain⟨h2,h3,h4⟩:=gy hy;obtain⟨h5,h6⟩:=mS I Z _ _ _ hl hg;obtain⟨G,h7⟩:=h6 n.toNat y h4;have h8:Rd w (λ_=>False) e y ((cs.drop (n.toNat*e.cells)).take e.cells):=Rd.flat hf h7;have h9:=h8.len;have M:(isAgg E).run P w=.ok e.isAgg w:=by
       cases Y:P.underlying E with
       |none=>simp[Y]at O
       |some u =>
        simp only[Y,Cs,B4]at O;rw[<- O];cases u <;> simp[isAgg,run_underlying Y]
      have a0:=dy hE w;have hn:n<(Z:Int):=by omega
      cases z:e.isAgg with
      |true =>
       have:=d8 hV I hd X (v:=.agg ((cs.drop (n.toNat*e.cells)).take e.cells).toArray) (sh:=.agg) (ls:=cO false e y) ?_ rfl (fk (λ_ h=>h.elim) h8)
       ·exact this
       ·rw[z]at M;simp[execOp,J,bI I hi,H,Cr,asIntOf,run_underlying hu,h2,hn,part,M,a0]
      |false =>
       have a1:e.cells=1:=by cases e <;> first|rfl|simp[Ty.isAgg]at z
       rw[a1]at h8 h9
       match hc:(cs.drop (n.toNat*1)).take 1,h9 with
       |[v],_ =>
        rw[hc]at h8;have:=d8 hV I hd X (v:=v) (sh:=.one) (ls:=cO false e y) (cs:=[v]) ?_ rfl (fk (λ_ h=>h.elim) h8)
        ·exact this
        ·rw[z]at M;have hv:cs[n.toNat]?=some v:=by
          have:((cs.drop (n.toNat*1)).take 1)[0]?=some v:=by rw[hc];rfl
          grind
         simp[execOp,J,bI I hi,H,Cr,asIntOf,run_underlying hu,h2,hn,part,M,a0,a1,hv]
     ·grind
    ·grind
  |_=>simp[hs]at h
 ·grind
theorem oo {t:TypeId}{i:TI}(O:oS P t i)(M:i≠.none){w:World}{g off:Nat}{cs:List Value}(I:c7 w g off cs)(y:cs.length=i.cells) :
  ∃ v,(loadVar t ⟨g,off,none⟩).run P w=.ok v w/\er (bq i.agg) v cs:=by
 have z:=xe O (.inr M) w;cases J:i.agg with
 |true =>
  refine⟨.agg cs.toArray,?_,rfl⟩;have X:=dy (oU O M) w;have H:=run_loadCells_list (P:=P) w ⟨g,off,none⟩ cs (λj v Y=>by rw[fm];exact I j v Y);rw[y]at H;simp[loadVar,z,J,X,H]
 |false =>
  have u:i.cells=1:=by cases i <;> simp_all [TI.agg,TI.cells]
  rw[u]at y
  match cs,y with
  |[v],_ =>
   have:=I 0 v rfl;rw[Nat.add_zero]at this;exact⟨v,by simp[loadVar,z,J,this],rfl⟩
theorem c7.sub {w:World}{g off:Nat}{cs:List Value}(h:c7 w g off cs)(k n:Nat):c7 w g (off+k) ((cs.drop k).take n):=by
 intro i v u;rw[CC]at u;split at u
 ·rw[CQ]at u;have:=h (k+i) v u
  grind
 ·cases u
theorem Mx.deep {w:World}{G G':Nat->Prop}:∀ {a:Ty} {h:Option Nat} {pos:Nat} {x:a.den} {cs:List Value} {bs:List Nat},a.shy=false->Mx w G a h pos x cs bs->Mx w G' a h pos x cs bs
 |.int _,_,_,_,_,_,_,h=>h
 |.bool,_,_,_,_,_,_,h=>h
 |.str,_,_,_,_,_,_,h=>h
 |.unit,_,_,_,_,_,_,h=>h
 |.hdr,_,_,_,_,_,_,h=>h
 |.pair _ _,_,_,_,_,_,u,⟨c1,Y,b1,Z,M,e2,z,J⟩=>by
  simp only[Ty.shy,Cc]at u;exact⟨c1,Y,b1,Z,M,e2,Mx.deep u.1 z,Mx.deep u.2 J⟩
 |.list m E e,h,pos,xs,cs,bs,u,H=>by
  simp only[Ty.shy,Cc,Bool.not_eq_false']at u;obtain⟨rfl,u⟩:=u;by_cases O:h=some pos
  ·subst O;rw[jl]at H ⊢;exact H
  ·rw[bM O]at H ⊢;obtain⟨v,M,y,I,z,J,X⟩:=H;refine⟨v,M,y,I,z,J,λj x hj=>?_⟩;obtain⟨c,h4,h5⟩:=X j x hj;exact⟨c,Mx.deep u h4,h5⟩
theorem OwB.shy {W:Wit}{w:World}{p:Bool}{h:Option (Nat×Nat)}{E:TypeId}{e:Ty}{xs:List e.den}{v:Value}{bs:List Nat}(H:OwB w (gd V W p) h E e xs v bs):OwB w (gd V W (p&&e.shy)) h E e xs v bs:=by
 cases Y:e.shy with
 |true=>simpa using H
 |false =>
  obtain⟨u,y,z,J,I⟩:=H;refine⟨u,y,z,J,λj x M=>?_⟩;obtain⟨c,X,O⟩:=I j x M;exact⟨c,Mx.deep Y X,O⟩
theorem jm (p:Bool)(r j v ep i u:Nat)(h:Option Nat):∀ (a:Ty) (off:Nat) (x:a.den),(gM p r j v ep i u h a off x).length=a.cells
 |.int _,_,_=>rfl
 |.bool,_,_=>rfl
 |.str,_,_=>rfl
 |.unit,_,_=>rfl
 |.hdr,_,_=>rfl
 |.pair a b,off,x=>by simp[gM,Ty.cells,jm p r j v ep i u h a,jm p r j v ep i u h b]
 |.list _ _ _,_,_=>rfl
theorem md {W:Wit}{w:World}{p:Bool}{r j g len y i sz:Nat}(O:(W.cs r)[j]?=some (.slice (some ⟨g,0,none⟩) len y))(M:i<len)(hg:g∈W.bs r j){hol:Option Nat} :
  ∀ {a:Ty} {pos:Nat} {x:a.den} {cs:List Value} {bs:List Nat},(∀ k∈bs,k∈W.bs r j)->Mx w (gd V W p) a hol pos x cs bs->c7 w g (i*sz+pos) cs->aD P V W st w (gM p r j (st r).ver (st EPO).ver i sz hol a pos x) cs
 |.int _,_,_,_,_,_,h,_=>by rw[h.1];exact⟨⟨rfl,id,rfl⟩,trivial⟩
 |.bool,_,_,_,_,_,h,_=>by rw[h.1];exact⟨⟨rfl,id,rfl⟩,trivial⟩
 |.str,_,_,_,_,_,h,_=>by rw[h.1];exact⟨⟨rfl,id,rfl⟩,trivial⟩
 |.unit,_,_,_,_,_,h,_=>by rw[h.1];trivial
 |.hdr,_,_,_,_,_,⟨⟨A,y,e⟩,_⟩,_=>by rw[e];exact⟨⟨⟨A,y,rfl⟩,id,rfl⟩,trivial⟩
 |.pair a b,pos,x,cs,bs,J,⟨c1,c2,b1,b2,e1,e2,Y,Z⟩,X=>by
  subst e1;have hl:=Y.len;refine aD.append (md O M hg (λk z=>J k (by rw[e2];exact B3 _ z)) Y λq u hu=>X q u ?_)
   (md O M hg (λk z=>J k (by rw[e2];exact BZ _ z)) Z λq u hu=>?_)
  ·grind
  ·have:=X (a.cells+q) u (by rw[<- hl,CG (by omega)];simpa using hu)
   grind
 |.list m E e,pos,xs,cs,bs,J,H,X=>by
  have I:=H.one;simp only[gM];by_cases hp:hol=some pos
  ·have e0:decide (hol=some pos)=true:=decide_eq_true hp;rw[e0];obtain⟨v,rfl,_⟩:=H;exact⟨⟨trivial,id,I v (by simp)⟩,trivial⟩
  ·have e0:decide (hol=some pos)=false:=decide_eq_false hp;rw[e0];cases m with
   |false =>
    rw[cA]at H;obtain⟨A,y,rfl,Z,h3⟩:=H.2;exact⟨⟨⟨A,y,rfl,Z,h3⟩,id,rfl⟩,trivial⟩
   |true =>
    rw[bM hp]at H;obtain⟨v,rfl,hO⟩:=H;have Y:=X 0 v rfl;refine⟨⟨⟨B5 _,λk z=>?_,λ_ _ _=>⟨?_,λi' a3 a1 he=>?_⟩⟩,id,I v (by simp)⟩,trivial⟩
    ·grind
    ·obtain⟨a0,a2,h4,h5,h6⟩:=OwB.shy hO;refine sI h4 (λk z=>.inr ⟨_,CK _,J k (by rw[h5];exact B3 _ z)⟩) λq x hq=>?_
     obtain⟨c,h7,h8⟩:=h6 q x hq;exact⟨c,h7.rd (λk z=>.inl z) (λk z=>.inr ⟨_,CK _,J k (by rw[h5];exact BZ _ (d6.2 ⟨q,(BW.1 hq).1,z⟩))⟩),h8⟩
    ·grind
theorem kd {W:Wit}{w:World}{p:Bool}{ks:List (Nat×Nat×Nat)}{ep:Nat}(u:ep<=(st EPO).ver)(z:∀ k∈ks,k.2.2<=(st k.1).ver) :
  ∀ {a:Ty} {x:a.den} {cs:List Value},Rd w (λb=>gd V W p b\/∃ k∈ks,b∈W.bs k.1 k.2.1) a x cs->aD P V W st w (lB p ks ep a x) cs
 |.int _,_,_,h=>by rw[show _=_ from h];exact⟨⟨rfl,id,rfl⟩,trivial⟩
 |.bool,_,_,h=>by rw[show _=_ from h];exact⟨⟨rfl,id,rfl⟩,trivial⟩
 |.str,_,_,h=>by rw[show _=_ from h];exact⟨⟨rfl,id,rfl⟩,trivial⟩
 |.unit,_,_,h=>by rw[show _=_ from h];trivial
 |.hdr,_,_,⟨A,y,e⟩=>by rw[e];exact⟨⟨⟨A,y,rfl⟩,id,rfl⟩,trivial⟩
 |.pair _ _,_,_,⟨Y,X,e,I,H⟩=>by rw[e];exact (kd u z I).append (kd u z H)
 |.list m E e,Z,_,h=>by
  obtain⟨A,y,rfl,H,J⟩:=h;exact⟨⟨⟨u,z,λ_ _ _=>⟨⟨A,y,rfl,H,J⟩,λi O off M=>by cases M⟩⟩,id,rfl⟩,trivial⟩
theorem Af {W:Wit}{a:Act}{w:World}(hr:an P V W st a w){r j n g len M i:Nat}{p:Bool}{hh:Option (Nat×Nat)}{E:TypeId}{e:Ty}{xs:List e.den}{y:e.den}(h8:(st r).ver=n)(h9:(st r).ls[j]?=some (.own p hh E e xs))
  (H:(W.cs r)[j]?=some (.slice (some ⟨g,0,none⟩) len M)) (O:i<len) (Y:xs[i]?=some y) :
  ∃ c,c7 w g (i*e.cells) c/\aD P V W st w (gM p r j n (st EPO).ver i e.cells (cQ hh i) e 0 y) c:=by
 subst h8;obtain⟨_,a1,a3,ho,I,J⟩:=hr.leaf r j _ _ h9 H;obtain⟨c,X,h2⟩:=J i y Y;have a2:=X.len;have hi:i<xs.length:=(BW.1 Y).1;have z:len=xs.length:=by
  obtain⟨A,a0,e0,_⟩:=ho.slice
  simp_all
 subst z;have Z:c7 w g (i*e.cells) c:=by
  intro q u hu;have hq:=(BW.1 hu).1;rw[ho.cellAt _ (by
   have:i*e.cells+e.cells<=xs.length*e.cells:=by
    have:=Nat.mul_le_mul_right e.cells (show i+1<=xs.length from hi)
    grind
   omega)]
  grind
 refine⟨c,Z,md H O (by rw[I];simp[CL]) (λk hk=>?_) X Z⟩
 grind
theorem yL (hV:ax V)(hT:TOk P T)(a6:bR V o){t:TypeId}{x:Operand}(a2:o.op=.load t x)(h:act Γ T o st κ=some r):bZ P V o st κ r:=by
 simp only[act,wrU,a2,l7]at h;have a5:=hT t;have Y:∀ (W:Wit) (a:Act) (w:World) (g off:Nat) (cs:List Value) (ls:List Leaf) (d:Nat),an P V W st a w->o.dst=some d->T t≠.none->a.eval x=.pointer (some ⟨g,off,none⟩)->c7 w g off cs ->
   cs.length=(T t).cells->aD P V W st w ls cs->mQ P V o st (ck st [] d (bq (T t).agg) ls) a w:=by
  intro W a w g off cs ls d z hd hn O X hl a0;obtain⟨v,h1,h2⟩:=oo a5 hn X hl;exact d8 hV z hd a6 (v:=v) (by simp[execOp,a2,O,Instr.loadAt,Cb,h1]) h2 a0
 cases M:decide ((T t).cells=0) with
 |true=>simp[M]at h
 |false =>
  simp only[M]at h;have M:(T t).cells≠0:=of_decide_eq_false M;have Z:T t≠.none:=by intro e;rw[e]at M;exact M rfl
  split at h
  ·rename_i p b y off J;cases u:decide (off+(T t).cells<=b.cells) with
   |false=>simp[u]at h
   |true =>
    simp only[u]at h;split at h
    ·rename_i d hd;refine⟨_,h,λW a w z=>?_⟩;obtain⟨H,_,_,_⟩:=bz z x (by rw[J];simp);rw[J]at H;obtain⟨g,og,c,O,hg,I,X⟩:=H;refine Y W a w g _ ((c.drop off).take (T t).cells) _ d z hd Z O (X.sub off _) ?_ (((fk (λ_ h=>h) I).drop off).take _);have:=I.len
     grind
    ·grind
  ·rename_i b off J;cases u:decide ((st b).sh=.agg)&&decide (off+(T t).cells<=(st b).ls.length) with
   |false=>simp[u]at h
   |true =>
    simp only[u]at h;split at h
    ·rename_i d hd;refine⟨_,h,λW a w z=>?_⟩;obtain⟨H,_,_,_⟩:=bz z x (by rw[J];simp);rw[J]at H;obtain⟨hB,b0,O⟩:=H;rcases z.boxes b hB with ⟨h8,_⟩|⟨_,E,h8⟩
     ·grind
     ·have X:c7 w (W.β b) 0 (W.cs b):=λi v O=>by
       rw[Ck,cell_of_row w (W.β b) i _ E (0,0) h8]
       simp_all
      have ad:=z.len b;have a3:=X.sub off (T t).cells;rw[Ck]at a3;refine Y W a w (W.β b) off _ _ d z hd Z O a3 ?_ (((iF z b).drop off).take _)
      grind
    ·grind
  ·rename_i p b y J;cases u:BU (T t).cells 1&&!(T t).agg with
   |false=>simp[u]at h
   |true =>
    simp only[u]at h;simp only[BX,CT]at u;split at h
    ·rename_i d hd;refine⟨_,h,λW a w z=>?_⟩;obtain⟨H,_,_,_⟩:=bz z x (by rw[J];simp);rw[J]at H;obtain⟨q,oq,g,og,c,O,_,a1,hg,I,X⟩:=H;have:=Y W a w q oq [.pointer (some ⟨g,og,none⟩)] [.rp p b y 0] d z hd Z O (λi v hi=>by
      cases i with
      |zero=>simp at hi;subst hi;exact a1
      |succ i=>simp at hi) (by simp[BV u.1]) ⟨⟨⟨g,og,c,rfl,hg,I,X⟩,id,rfl⟩,trivial⟩
     rw[u.2]at this;exact this
    ·grind
  ·rename_i p ks ep b y off J;cases u:bw st ks ep&&decide (off+(T t).cells<=b.cells) with
   |false=>simp[u]at h
   |true =>
    simp only[u]at h;simp at u;split at h
    ·rename_i d hd;refine⟨_,h,λW a w z=>?_⟩;obtain⟨H,_,_,_⟩:=bz z x (by rw[J];simp);rw[J]at H;have h8:NpOk V W w p ks b y off _:=H.2.2 (cF u.1).1 (cF u.1).2.1 (cF u.1).2.2;obtain⟨g,og,c,O,hg,I,X⟩:=h8.rd;refine Y W a w g _ ((c.drop off).take (T t).cells) _ d z hd Z O (X.sub off _) ?_ (((kd H.1 H.2.1 I).drop off).take _);have:=I.len
     grind
    ·grind
  ·rename_i r' j v i sz off J;split at h
   ·rename_i p hh E e xs a4;cases u:BU sz e.cells&&decide (off+(T t).cells<=e.cells) with
    |false=>simp[u]at h
    |true =>
     simp only[u]at h;simp only[BX]at u;have a7:=BV u.1;subst a7;obtain⟨y,hy,h⟩:=B6.1 h;obtain⟨_,_,h4⟩:=gy hy;split at h
     ·rename_i d hd;refine⟨_,h,λW a w z=>?_⟩;obtain⟨H,_,_,_⟩:=bz z x (by rw[J];simp);rw[J]at H;obtain⟨h8,h9⟩:=fw a4 (by simp);obtain⟨g,b2,b1,a8,a9,O⟩:=H.2 h8;obtain⟨c,X,a0⟩:=Af z h8 h9 a8 a9 h4;refine Y W a w g _ _ _ d z hd Z O (X.sub off _) ?_ ((a0.drop off).take _);have:=a0.length;rw[jm]at this
      grind
     ·grind
   ·grind
  ·grind
end
section
variable {P:Program} {V:Env} {Γ:List Ctr} {T:TypeId->TI} {st:St} {o:Oper} {R:Type} {κ:Upd->Option R} {r:R}
theorem xg (hV:ax V)(hT:TOk P T)(M:bR V o){t:TypeId}{x:Operand}{f:Nat}(H:o.op=.field t x f)(h:act Γ T o st κ=some r):bZ P V o st κ r:=by
 simp only[act,wrU,H]at h;cases ht:T t with
 |struct b a2 =>
  simp only[ht]at h;split at h
  ·rename_i off n agg hf;have h1:=hT t;rw[ht]at h1;obtain⟨⟨fs,hu,_,a1⟩,_⟩:=h1;obtain⟨J,Z,h2,h3,h4,h5,h6,Y⟩:=a1 f off n agg hf;cases O:decide ((au st x).1=.agg)&&decide ((au st x).2.length=b.cells) with
   |false=>simp[O]at h
   |true =>
    simp only[O,cond_true]at h;simp only[BX,decide_eq_true_eq]at O;split at h
    ·rename_i d hd;refine⟨_,h,λW a w hr=>?_⟩;obtain⟨u,hs,hl⟩:=cX hr x;rw[O.1]at hs;have X:=hl.length;rw[O.2]at X;have y:(isAgg Z.type).run P w=.ok agg w:=by
      unfold isAgg;cases I:P.underlying Z.type with
      |none=>simp[I]at Y
      |some dd =>
       rw[I]at Y;simp only[Cs,B4]at Y;subst Y;rw[CD,run_underlying I w];cases dd <;> rfl
     have a0:=dy h6 w;cases agg with
     |true =>
      refine d8 hV hr hd M (v:=.agg ((u.drop off).take n).toArray) ?_ rfl ((hl.drop off).take n);have e:u.toArray.extract off (off+n)=((u.drop off).take n).toArray:=by
       rw[List.extract_toArray,List.extract_eq_take_drop,Nat.add_sub_cancel_left]
      have hp:(part Z.type u.toArray off).run P w=.ok (.agg ((u.drop off).take n).toArray) w:=by
       simp only[part,CD,y,B9,if_true,a0,CH,e]
      simp only[execOp,H,show a.eval x=_ from hs,C0,CD,run_underlying hu,B9,h2,asAgg,CH,h3,hp]
     |false =>
      have J:=J rfl;subst J;have z:off<u.length:=by omega
      have hv:((u.drop off).take 1)=[u[off]]:=by
       rw[List.take_one,List.head?_drop,BY z];rfl
      refine d8 hV hr hd M (v:=u[off]) ?_ (show er .one _ ((u.drop off).take 1) from hv) ((hl.drop off).take 1);have e:u.toArray[off]?=some u[off]:=by simp[z]
      have hp:(part Z.type u.toArray off).run P w=.ok u[off] w:=by
       simp only[part,CD,y,B9,Bool.false_eq_true,if_false,e,CH]
      simp only[execOp,H,show a.eval x=_ from hs,C0,CD,run_underlying hu,B9,h2,asAgg,CH,h3,hp]
    ·cases h
  ·cases h
 |_=>simp[ht]at h
theorem Bf {α:Type}(u y:List α)(off:Nat)(h:off+y.length<=u.length):(u.take off++y++u.drop (off+y.length)).length=u.length:=by
 simp;omega
theorem lf (cs c:List Value)(off:Nat)(h:off+c.length<=cs.length) :
  (c.zipIdx 0).foldl (λcs (x:Value×Nat)=>cs.setIfInBounds (off+x.2) x.1) cs.toArray=(cs.take off++c++cs.drop (off+c.length)).toArray:=by
 obtain⟨H,z⟩:=Great.foldl_set off c 0 cs.toArray;apply Array.ext_getElem?;intro k;rw[z k];simp only[Nat.add_zero,List.size_toArray,List.getElem?_toArray];by_cases y:off<=k/\k<off+c.length/\k<cs.length
 ·rw[if_pos y,CM,CG (by simp;omega),CR (by simp;omega)];congr 1;simp;omega
 ·rw[if_neg y];by_cases u:k<off
  ·rw[CM,CR (by simp;omega),CC,if_pos u]
  ·rw[CG (by simp;omega),CQ];congr 1;simp;omega
theorem hY {agg:Bool}{v:Value}{cs:List Value}(h:er (bq agg) v cs)(y:∀ u∈cs,u.oneCell'=true):v.cells=cs.toArray:=by
 cases agg with
 |true=>rw[show v=_ from h];rfl
 |false =>
  have h:cs=[v]:=h;subst h;have:=y v (Cj.2 rfl);cases v <;> first|rfl|simp[B7]at this
theorem mf {W:Wit}{a:Act}{w:World}(hr:an P V W st a w){z:List (Nat×Nat×Bool)}{pl:Nat->Option (Nat×Nat)}(M:∀ (i off n:Nat) (agg:Bool),z[i]?=some (off,n,agg)->pl i=some (off,n)):∀ (ps:List (Nat×Operand)) (ls u:List Leaf) (cs:List Value),
  aD P V W st w ls cs->fF st z ps ls=some u ->
  ∃ y,aD P V W st w u y/\Instr.fill pl cs.toArray (ps.map λx=>(x.1,a.eval x.2))=some y.toArray
 |[],ls,u,cs,O,h=>by
  simp[fF]at h;subst h;exact⟨cs,O,rfl⟩
 |(i,x)::ps,ls,u,cs,O,h=>by
  simp only[fF]at h;split at h
  ·rename_i off n agg hf;cases X:BU (au st x).2.length n&&decide ((au st x).1=bq agg)&&decide (off+n<=ls.length) with
   |false=>simp[X]at h
   |true =>
    simp only[X,cond_true]at h;simp only[BX,decide_eq_true_eq]at X;obtain⟨⟨J,Y⟩,a2⟩:=X;have J:=BV J;obtain⟨c,hs,I⟩:=cX hr x;rw[Y]at hs;have hc:=hY hs I.one';have a1:=O.length;have H:=I.length;have Z:aD P V W st w (jI ls (au st x).2 off) (cs.take off++c++cs.drop (off+c.length)):=by
     unfold jI;rw[H];exact ((O.take off).append I).append (O.drop _)
    obtain⟨y,h1,h2⟩:=mf hr M ps _ u _ Z h;refine⟨y,h1,?_⟩;simp only[Cv,Instr.fill];have a0:pl i=some (off,n):=M _ _ _ _ hf;have a3:c.toArray.size=n:=by simp;omega
    simp only[a0,hc];rw[if_neg (by simp;omega)];have e:c.toArray.zipIdx.foldl (λcs (x:Value×Nat)=>cs.setIfInBounds (off+x.2) x.1) cs.toArray=(c.zipIdx 0).foldl (λcs (x:Value×Nat)=>cs.setIfInBounds (off+x.2) x.1) cs.toArray:=by
     rw[<- Array.foldl_toList];simp
    have e2:=lf cs c off (by omega);rw[<- e2,<- e]at h2;exact h2
  ·cases h
theorem lJ {W:Wit}{w:World}:∀ (b:Ty),aD P V W st w (fg b) (zeroCells b)
 |.int _=>⟨⟨rfl,id,rfl⟩,trivial⟩
 |.bool=>⟨⟨rfl,id,rfl⟩,trivial⟩
 |.str=>⟨⟨rfl,id,rfl⟩,trivial⟩
 |.unit=>trivial
 |.pair a b=>(lJ a).append (lJ b)
 |.hdr=>⟨⟨rfl,id,rfl⟩,trivial⟩
 |.list _ _ _=>⟨⟨rfl,id,rfl⟩,trivial⟩
theorem oV {W:Wit}{w:World}(e:Ty):∀ (n:Nat),aD P V W st w (CE n (fg e)).flatten (CE n (zeroCells e)).flatten
 |0=>trivial
 |n+1=>by
  rw[Cf,Cf,Cm,Cm];exact (lJ e).append (oV e n)
theorem xh (hV:ax V)(hT:TOk P T)(Z:bR V o){t:TypeId}{u:Array (Nat×Operand)}(M:o.op=.build t u)(h:act Γ T o st κ=some r):bZ P V o st κ r:=by
 simp only[act,wrU,M]at h;cases ht:T t with
 |struct b Y =>
  simp only[ht]at h;split at h
  ·rename_i ls O;split at h
   ·rename_i d hd;refine⟨_,h,λW a w hr=>?_⟩;have X:=hT t;rw[ht]at X;obtain⟨⟨fs,hu,a0,_⟩,_,H,_⟩:=X;obtain⟨z,h2,h3⟩:=mf hr (pl:=((Y.map λx=>(x.1,x.2.1)).toArray[·]?)) (λi off n agg I=>by simp[I]) u.toList _ ls _ (lJ b) O;refine d8 hV hr hd Z (v:=.agg z.toArray) ?_ rfl h2;have y:P.built t (u.map λ (i,x)=>(i,a.eval x)).toList=some z.toArray:=by
     unfold eh at H;unfold Cx;cases hi:P.info? t with
     |none=>simp[hi]at H
     |some ti =>
      simp[hi]at H;simp only[hu,H,a0];rw[CY];exact h3
    simp[execOp,M,run_build w t _ _ y]
   ·cases h
  ·cases h
 |arr e n =>
  simp only[ht]at h;split at h
  ·rename_i ls O;split at h
   ·rename_i d hd;refine⟨_,h,λW a w hr=>?_⟩;have X:=hT t;rw[ht]at X;obtain⟨⟨E,hu,hE,_⟩,_,_,H⟩:=X;obtain⟨z,h2,h3⟩:=mf hr (pl:=λi=>some (i*e.cells,e.cells)) (λi off n agg I=>by
     rw[Cl]at I;obtain⟨j,hj,I⟩:=CB.1 I;rw[List.getElem?_range (by simpa using (BW.1 hj).1)]at hj;simp only[B4]at hj;subst hj;simp only[Cu]at I;simp[<- I.1,<- I.2.1]) u.toList _ ls _ (oV e n) O
    refine d8 hV hr hd Z (v:=.agg z.toArray) ?_ rfl h2;have y:P.built t (u.map λ (i,x)=>(i,a.eval x)).toList=some z.toArray:=by
     unfold eh at H;unfold bU at hE;unfold Cx;cases hi:P.info? t with
     |none=>simp[hi]at H
     |some ti =>
      simp[hi]at H;cases J:P.info? E with
      |none=>simp[J]at hE
      |some ie =>
       simp[J]at hE;simp only[hu,H,J,hE];rw[CY];exact h3
    simp[execOp,M,run_build w t _ _ y]
   ·cases h
  ·cases h
 |_=>simp[ht]at h
theorem mT {W:Wit}{a:Act}{w:World}(z:an P V W st a w){x:Option Operand}{u n:Int}(h:dq st x u=some n) :
  (x=none/\n=u)\/∃ y k,x=some y/\a.eval y=.int k n:=by
 unfold dq at h;split at h
 ·simp at h;exact .inl ⟨rfl,h.symm⟩
 ·split at h
  ·rename_i l k m H;simp at h;subst h;exact .inr ⟨_,k,rfl,bI z H⟩
  ·cases h
theorem ke (u:Bool)(len y:Nat)(Y:len<=y)(O X:Option Value)(i h:Int)(H:0<=i)(I:i<=h)(hh:h<=len)(J:(O=none/\i=0)\/∃ k,O=some (.int k i))
  (M:(X=none/\h=len)\/∃ k,X=some (.int k h)) (w:World):(Cn u len y O X none).run P w=.ok (i.toNat,h.toNat,y) w:=by
 have h0:0<=h:=by omega
 have Z:h<=(y:Int):=by omega
 have z:i<=((h.toNat:Nat):Int):=by omega
 rcases J with ⟨rfl,rfl⟩|⟨k,rfl⟩ <;> rcases M with ⟨rfl,rfl⟩|⟨k',rfl⟩ <;>
  simp[Cn,Instr.sliceBound,asIntOf,H,h0,Z,z,I,-Int.ofNat_toNat]
theorem jB (J:ax V){W:Wit}{a:Act}{w:World}(I:an P V W st a w){x:Operand}{l:Leaf}(y:aE st (one st x)=l)(X:l≠.dead)(z:¬ am l):aK P V W st w [] l (a.eval x):=by
 have H:one st x≠.dead:=by intro e;rw[e]at y;exact X y.symm
 obtain⟨M,O,_⟩:=bz I x H;rcases mc J I M O with ⟨_,_,_,_,u,_⟩|⟨_,u⟩
 ·rw[y]at u;exact absurd u z
 ·rw[y]at u;exact u
theorem xi (M:ax V){W:Wit}{a:Act}{w:World}(O:an P V W st a w){x:Operand}{p:Bool}{ks:List (Nat×Nat×Nat)}{ep:Nat}{y:Option (Nat×Nat×Nat)}{E:TypeId}{e:Ty}{xs:List e.den}
  (u:aE st (one st x)=.nal p ks ep y E e xs):aK P V W st w [] (.nal p ks ep y E e xs) (a.eval x)/\bw st ks ep=true:=by
 refine⟨jB M O u (by simp) (by simp[am]),?_⟩;generalize one st x=l at u;cases l with
 |nal p' z I J Y Z X =>
  simp only[aE]at u;cases H:bw st z I with
  |false=>simp[H]at u
  |true =>
   simp only[H,cond_true]at u;cases u;exact H
 |al r j n=>exact absurd u iX
 |_=>simp[aE]at u
theorem ul (hV:ax V){W:Wit}{a:Act}{w:World}(J:an P V W st a w){x:Operand}{p:Bool}{I:Option (Nat×Nat)}{E:TypeId}{e:Ty}{xs:List e.den}(u:aE st (one st x)=.own p I E e xs) :
  ∃ r i n,one st x=.al r i n/\(st r).ls[i]?=some (.own p I E e xs)/\OwH w (gd V W p) I E e xs (a.eval x) (W.bs r i)/\(W.cs r)[i]?=some (a.eval x)/\(st r).ver=n:=by
 have H:one st x≠.dead:=by intro e;rw[e]at u;cases u
 obtain⟨z,O,_⟩:=bz J x H;rcases mc hV J z O with ⟨r,i,n,M,_,_,_⟩|⟨y,_⟩
 ·rw[M]at u z;obtain⟨y,Z,Y,X⟩:=ku J u z;exact⟨r,i,n,M,Y,Z,y,X⟩
 ·rw[u]at y;exact absurd trivial y
theorem goes_frz (H:ax V){W:Wit}{a:Act}{w:World}(h:an P V W st a w){d:Nat}(z:o.dst=some d)(y:bR V o)(ks:List (Nat×Nat)){v:Value}{sh:aI}{ls:List Leaf}{cs:List Value}
  (u:(execOp a.eval o).run P w=.ok (.value v) w) (I:er sh v cs) (M:aD P V (W.frz st ks) (ac (aF st ks) st) w ls cs):mQ P V o st (ck st (aF st ks) d sh ls) a w:=by
 intro next Q J;refine d7 u ?_;rw[z];refine J _ _ ?_;rw[ck,aR];exact (lH H ks h).1.putLs H d (y d z).1 (y d z).2 _ sh ls v cs (CX _) I M
theorem c7.shift {w:World}{g o:Nat}{c:List Value}{k s j:Nat}(h:c7 w g (o+(k+j)*s) c):c7 w g (o+k*s+j*s) c:=by
 rwa [CV,<- Nat.add_mul]
theorem Rd.cut {w:World}{G:Nat->Prop}{E:TypeId}{e:Ty}{xs:List e.den}{A:Option Addr}{u:Nat}(h:Rd w G (.list false E e) xs [.slice A xs.length u])(i n:Nat)(a0:i<=n)(hn:n<=xs.length) :
  Rd w G (.list false E e) ((xs.take n).drop i) [.slice (if u=i then A else A.map (·.add (i*e.cells))) (n-i) (u-i)]:=by
 obtain⟨A',J,M,hc,O⟩:=h;simp at M;obtain⟨rfl,rfl⟩:=M;have H:((xs.take n).drop i).length=n-i:=by simp;omega
 refine⟨_,u-i,by rw[H],by rw[H];omega,λZ=>?_⟩;rw[H]at Z;obtain⟨g,o,rfl,X,z⟩:=O (by omega);refine⟨g,o+i*e.cells,?_,X,λj x y=>?_⟩
 ·rw[if_neg (by omega)];simp[fm]
 ·rw[CQ,CC]at y;split at y
  ·obtain⟨c,Y,I⟩:=z (i+j) x y;exact⟨c,Y,I.shift⟩
  ·cases y
theorem vK (hV:ax V)(hT:TOk P T)(a6:bR V o){t:TypeId}{x:Operand}{lo hi:Option Operand}(a2:o.op=.slice t x lo hi none)(h:act Γ T o st κ=some r):bZ P V o st κ r:=by
 simp only[act,wrU,a2]at h;cases hd:o.dst with
 |none=>simp[hd]at h
 |some d =>
  simp only[hd]at h;split at h
  ·cases h
  ·rename_i i a7;have h1:=hT t;have X:∀ (W:Wit) (a:Act) (w:World) (y:Option Operand) (a4 n:Int),an P V W st a w->dq st y a4=some n->(y.map a.eval=none/\n=a4)\/∃ k,y.map a.eval=some (.int k n):=by
    intro W a w y a4 n O H;rcases mT O H with ⟨rfl,rfl⟩|⟨z,k,rfl,hz⟩
    ·exact .inl ⟨rfl,rfl⟩
    ·exact .inr ⟨k,by simp[hz]⟩
   split at h
   ·rename_i s ht hx;rw[ht]at h1;split at h
    ·rename_i n a0;cases H:decide (0<=i)&&decide (i<=n)&&decide (n<=(s.size:Int)) with
     |false=>simp[H]at h
     |true =>
      simp only[H,cond_true]at h;simp only[BX,decide_eq_true_eq]at H;refine⟨_,h,λW a w O=>aP hV O hd a6 (v:=.string (s.extract i.toNat n.toNat)) ?_ rfl id rfl⟩;have I:=ke (P:=P) false s.size s.size (B5 _) (lo.map a.eval) (hi.map a.eval) i n H.1.1 H.1.2 H.2 (X W a w lo 0 i O a7) (X W a w hi _ n O a0) w;have b2:a.eval x=.string s:=(jB hV O hx (by simp) (by simp[am]));simp[execOp,a2,b2,CW,Cd,run_underlying h1.1,I]
    ·cases h
   ·rename_i E' e' a1 p ks ep b3 E e xs ht hx;rw[ht]at h1;obtain⟨hu,_,_,_,_,ti,z,a3,a5,_⟩:=h1;split at h
    ·rename_i n a0;cases H:decide (0<=i)&&decide (i<=n)&&decide (n<=(xs.length:Int))&&BU e'.cells e.cells with
     |false=>simp[H]at h
     |true =>
      simp only[H,cond_true]at h;simp only[BX,decide_eq_true_eq]at H;obtain⟨H,M⟩:=H;have M:=BV M;refine⟨_,h,λW a w O=>?_⟩;obtain⟨hl,b1⟩:=xi hV O hx;have h8:=pH b1 hl;obtain⟨A,u,hv,J,Z⟩:=h8.rd;have hv:a.eval x=.slice A xs.length u:=by simpa using hv
      have I:=ke (P:=P) true xs.length u J (lo.map a.eval) (hi.map a.eval) i n H.1.1 H.1.2 H.2 (X W a w lo 0 i O a7) (X W a w hi _ n O a0) w;have hE:=dy (P:=P) (t:=E') (n:=e.cells) (by simp[bU,a3,a5,M]) w;have Y:=Rd.cut (E:=E) (⟨A,u,rfl,J,Z⟩:Rd w _ (.list false E e) xs [.slice A xs.length u]) i.toNat n.toNat (by omega) (by omega);refine aP hV O hd a6 (v:=.slice (if u=i.toNat then A else A.map (·.add (i.toNat*e.cells))) (n.toNat-i.toNat) (u-i.toNat)) ?_ ⟨hl.1,hl.2.1,λ_ _ _=>⟨Y,λi' sz off he=>by cases he⟩⟩ id rfl;simp only[execOp,a2,hv,CW,Cd,CD,run_underlying hu,B9,CZ,I,hE,CH]
    ·cases h
   ·rename_i E' e' a1 p E e xs ht hx;rw[ht]at h1;obtain⟨hu,_,_,_,_,ti,z,a3,a5,_⟩:=h1;split at h
    ·rename_i n a0;cases H:decide (0<=i)&&decide (i<=n)&&decide (n<=(xs.length:Int))&&BU e'.cells e.cells with
     |false=>simp[H]at h
     |true =>
      simp only[H,cond_true]at h;simp only[BX,decide_eq_true_eq]at H;obtain⟨H,M⟩:=H;have M:=BV M;refine⟨_,h,λW a w O=>?_⟩;have hl:=jB hV O hx (by simp) (by simp[am]);obtain⟨A,u,hv,J,Z⟩:=hl;have hv:a.eval x=.slice A xs.length u:=by simpa using hv
      have I:=ke (P:=P) true xs.length u J (lo.map a.eval) (hi.map a.eval) i n H.1.1 H.1.2 H.2 (X W a w lo 0 i O a7) (X W a w hi _ n O a0) w;have hE:=dy (P:=P) (t:=E') (n:=e.cells) (by simp[bU,a3,a5,M]) w;have Y:=Rd.cut (E:=E) (⟨A,u,rfl,J,Z⟩:Rd w (gd V W p) (.list false E e) xs [.slice A xs.length u]) i.toNat n.toNat (by omega) (by omega);refine aP hV O hd a6 (v:=.slice (if u=i.toNat then A else A.map (·.add (i.toNat*e.cells))) (n.toNat-i.toNat) (u-i.toNat)) ?_ Y id rfl;simp only[execOp,a2,hv,CW,Cd,CD,run_underlying hu,B9,CZ,I,hE,CH]
    ·cases h
   ·rename_i E' e' a1 p E e xs ht hx;rw[ht]at h1;obtain⟨hu,_,_,_,_,ti,z,a3,a5,_⟩:=h1;split at h
    ·rename_i n a0;cases H:decide (0<=i)&&decide (i<=n)&&decide (n<=(xs.length:Int))&&BU e'.cells e.cells with
     |false=>simp[H]at h
     |true =>
      simp only[H,cond_true]at h;simp only[BX,decide_eq_true_eq]at H;obtain⟨H,M⟩:=H;have M:=BV M;split at h
      ·rename_i r' j n' e1;refine⟨_,h,λW a w O=>?_⟩;obtain⟨r1,j1,n1,a9,h2,ad,_,a8⟩:=ul hV O hx;rw[e1]at a9;obtain⟨rfl,rfl,rfl⟩:r'=r1/\j=j1/\n'=n1:=by cases a9;exact⟨rfl,rfl,rfl⟩
       obtain⟨A,u,hv,J⟩:=ad.slice;have I:=ke (P:=P) true xs.length u J (lo.map a.eval) (hi.map a.eval) i n H.1.1 H.1.2 H.2 (X W a w lo 0 i O a7) (X W a w hi _ n O a0) w;have hE:=dy (P:=P) (t:=E') (n:=e.cells) (by simp[bU,a3,a5,M]) w;have b0:=OwH.rd (m:=false) (E':=E) ad;rw[hv]at b0;have Y:=Rd.cut b0 i.toNat n.toNat (by omega) (by omega);refine aP hV O hd a6 (v:=.slice (if u=i.toNat then A else A.map (·.add (i.toNat*e.cells))) (n.toNat-i.toNat) (u-i.toNat)) ?_
        ⟨B5 _,λk hk=>?_,λ_ _ _=>⟨Rd.mono (λk hk=>?_) Y,λi' sz off he=>by cases he⟩⟩ id rfl
       ·simp only[execOp,a2,hv,CW,Cd,CD,run_underlying hu,B9,CZ,I,hE,CH]
       ·simp only[Cj]at hk;subst hk;exact Nat.le_of_eq a8.symm
       ·rcases hk with hk|hk
        ·exact .inl hk
        ·exact .inr ⟨_,CK _,hk⟩
      ·cases h
    ·cases h
   ·cases h
theorem Ag (hV:ax V)(hT:TOk P T)(J:bR V o){c:Call}(I:o.op=.call c)(hc:c.callee=.builtin .len)(h:act Γ T o st κ=some r):bZ P V o st κ r:=by
 simp only[act,wrU,I,hc]at h;split at h
 ·cases h
 ·rename_i d hd;simp only[hd]at h;split at h
  ·rename_i x hx;split at h
   ·rename_i t ht;have y:c.args=#[x]:=by rw[<- Ce (xs:=c.args),hx]
    have X:c.argTypes=#[t]:=by rw[<- Ce (xs:=c.argTypes),ht]
    have Y:=hT t;have H:∀ (a:Act) (w:World) (n:Int),(Co #[t] o.type #[a.eval x]).run P w=.ok (.int .i64 n) w->(execOp a.eval o).run P w=.ok (.value (.int .i64 n)) w:=by
     intro a w n M;simp[execOp,I,hc,resolve,invoke,builtin,y,X,M]
    split at h
    ·rename_i E e b u;rw[u]at Y;split at h
     ·rename_i n M;refine⟨_,h,λW a w z=>aP hV z hd J (H a w _ ?_) rfl id rfl⟩;have a0:one st x≠.dead:=by intro e;rw[e]at M;simp[aE,gl]at M
      obtain⟨h2,h3,_⟩:=bz z x a0;obtain⟨A,a1,O⟩:=xa z h2 h3 M;have O:a.eval x=.slice A n a1:=by simpa using O
      simp[Co,run_underlying Y.1,O,goInt]
     ·cases h
    ·rename_i s u Z;rw[u]at Y;refine⟨_,h,λW a w z=>aP hV z hd J (H a w _ ?_) rfl id rfl⟩;have O:a.eval x=.string s:=jB hV z Z (by simp) (by simp[am]);simp[Co,run_underlying Y.1,O,goInt]
    ·cases h
   ·cases h
  ·cases h
end
end Go.Proofs.YtaegajachoklkaaGreatEv
