/- The value evaluator, second form: what a Go function's code computes, on plain values. No proof here but definitions. -/
import Derived.Calls
import Derived.Orders
import Derived.KernelRfl
import Derived.Below
import Derived.Maps.AppendAt
import Derived.Laws.OwnMore
import Derived.Lib.ConvBytes
import Derived.WalkKit
import Derived.Great.BuildSlice
set_option linter.unusedVariables false
set_option linter.unusedSimpArgs false
open Array renaming getD_eq_getD_getElem?->B8,toList_map->CH,toArray_toList->CN
open Bool renaming and_eq_true->BG,not_eq_true'->CC,or_eq_false_iff->CL,not_eq_true->CY
open ByteArray renaming empty->BY
open Go.Act renaming put->Ch
open Go.Builtin renaming len_->CX
open Go.Instr renaming sliceAt->CF,sureAddr->CK,slice->CM,sliceBounds->CW,index->Ca,indexAt->Cf,field->Cj
open Go.Program renaming built->Cg
open Go.Result renaming andThen_ok->BP
open Go.Sem renaming run_bind->BT,run_pure->BX
open Go.Value renaming oneCell'->BN,ownBlock->B4
open Go.World renaming cell?->Ci
open List renaming getElem?_eq_some_iff->BF,getElem?_eq_getElem->BH,mem_append_right->BI,mem_append_left->BJ,mem_append->BQ,getElem?_take->BS,replicate->BU,getD_eq_getElem?_getD->BV,getElem?_append_right->BW,mem_singleton_self->B3,append_assoc->B5,range->B6,getElem?_drop->B9,getElem?_append_left->CA,any_eq_false->CD,mem_cons_of_mem->CJ,replicate_succ->CO,mem_cons->CP,length_append->CQ,mem_cons_self->CR,mem_singleton->CS,getElem?_map->CU,flatten_cons->CV,cons_append->CZ,drop_drop->Cc,map_cons->Ce
open Nat renaming beq->BD,eq_of_beq_eq_true->BE,le_refl->BL,le_trans->BO,lt_of_lt_of_le->BZ,blt->B7,ble->CB,add_assoc->CE,lt_succ_self->CG,zero_add->CT
open Option renaming bind_eq_some_iff->BM,map_eq_some_iff->BR,map_none->CI,map_some->Cb
open Option.some renaming injEq->BK
open Prod.mk renaming injEq->Cd
namespace Go.Proofs.YtaegajachoklkaaGreatEv
open Go
inductive Ty where
 |int (k:IntKind)|bool|str|unit
 |hdr
 |pair (a b:Ty)
 |list (m:Bool) (E:TypeId) (e:Ty)
 deriving DecidableEq
abbrev Ty.den:Ty->Type
 |.int _=>Int
 |.bool=>Bool
 |.str=>ByteArray
 |.unit=>Unit
 |.hdr=>Nat
 |.pair a b=>a.den×b.den
 |.list _ _ e=>List e.den
def Ty.cells:Ty->Nat
 |.unit=>0
 |.pair a b=>a.cells+b.cells
 |_=>1
def Ty.zero:(a:Ty)->a.den
 |.int _=>(0:Int)
 |.bool=>false
 |.str=>BY
 |.unit=>()
 |.hdr=>(0:Nat)
 |.pair a b=>(a.zero,b.zero)
 |.list _ _ e=>([]:List e.den)
def Ty.flat:Ty->Bool
 |.list _ _ _=>false
 |.pair a b=>a.flat&&b.flat
 |_=>true
def Ty.sh:Ty->Ty
 |.pair a b=>.pair a.sh b.sh
 |.list _ E e=>.list false E e.sh
 |a=>a
def Ty.shy:Ty->Bool
 |.list m _ e=>!m||e.shy
 |.pair a b=>a.shy||b.shy
 |_=>false
theorem mM:∀ a:Ty,a.sh.den=a.den
 |.int _|.bool|.str|.unit|.hdr=>rfl
 |.pair a b=>by
  show (a.sh.den×b.sh.den)=(a.den×b.den);rw[mM a,mM b]
 |.list _ _ e=>congrArg List (mM e)
theorem jD {a b:Ty}(h:a.sh=b.sh):a.den=b.den:=(mM a).symm.trans ((congrArg Ty.den h).trans (mM b))
def Ty.eqv:(a:Ty)->a.den->a.den->Bool
 |.int _,x,y=>decide ((x:Int)=y)
 |.bool,x,y=>(x:Bool)==y
 |.str,x,y=>decide ((x:ByteArray)=y)
 |.unit,_,_=>true
 |.hdr,_,_=>false
 |.pair a b,x,y=>a.eqv x.1 y.1&&b.eqv x.2 y.2
 |.list _ _ _,_,_=>false
abbrev Tup:List Ty->Type
 |[]=>Unit
 |a::as=>a.den×Tup as
inductive Leaf where
 |int (k:IntKind) (n:Int)
 |bool (b:Bool)
 |str (s:ByteArray)
 |nil
 |hdr (n:Nat)
 |ro (p:Bool) (E:TypeId) (e:Ty) (xs:List e.den)
 |own (p:Bool) (h:Option (Nat×Nat)) (E:TypeId) (e:Ty) (xs:List e.den)
 |al (r j v:Nat)
 |nal (p:Bool) (ks:List (Nat×Nat×Nat)) (ep:Nat) (loc:Option (Nat×Nat×Nat)) (E:TypeId) (e:Ty) (xs:List e.den)
 |ep (r j v:Nat) (i sz off:Nat)
 |np (p:Bool) (ks:List (Nat×Nat×Nat)) (ep:Nat) (a:Ty) (x:a.den) (off:Nat)
 |rp (p:Bool) (a:Ty) (x:a.den) (off:Nat)
 |rpp (p:Bool) (a:Ty) (x:a.den)
 |bp (b off:Nat)
 |clo (f:FuncId) (caps:List Nat)
 |clr (f:FuncId) (caps:List (Bool×Bool×(a:Ty)×a.den))
 |fn (As:List Ty) (B:Ty) (φ:Tup As->Option B.den)
 |dead
inductive aI where
 |off|und|one|agg
 |tup (ps:List (Bool×Nat))
 deriving DecidableEq
structure bQ where
 ver:Nat
 sh:aI
 ls:List Leaf
abbrev St:=Nat->bQ
def bQ.none:bQ:=⟨0,.off,[]⟩
def GH:Nat:=99000
def TMP:Nat:=99998
def EPO:Nat:=99999
def B0:Nat:=100000
abbrev Upd:=List (Nat×bQ)
def ac (U:Upd)(st:St)(q:Nat):bQ :=
 match U with
 |[]=>st q
 |(r,c)::u=>bif BD q r then c else ac u st q
inductive TI where
 |int (k:IntKind)|bool|str
 |slice (E:TypeId) (e:Ty) (bytes:Nat)
 |struct (a:Ty) (flds:List (Nat×Nat×Bool))
 |arr (e:Ty) (n:Nat)
 |ptr|fn
 |none
def gB:List (TypeId×TI)->TypeId->TI
 |[],_=>.none
 |(t,i)::l,u=>bif BD t u then i else gB l u
def TI.cells:TI->Nat
 |.struct a _=>a.cells
 |.arr e n=>n*e.cells
 |.none=>0
 |_=>1
def TI.agg:TI->Bool
 |.struct _ _=>true
 |.arr _ _=>true
 |_=>false
def eY:Ty->List Leaf
 |.int k=>[.int k 0]
 |.bool=>[.bool false]
 |.str=>[.str BY]
 |.unit=>[]
 |.hdr=>[.nil]
 |.pair a b=>eY a++eY b
 |.list _ _ _=>[.nil]
def TI.zero:TI->List Leaf
 |.int k=>[.int k 0]
 |.bool=>[.bool false]
 |.str=>[.str BY]
 |.slice _ _ _=>[.nil]
 |.struct a _=>eY a
 |.arr e n=>(BU n (eY e)).flatten
 |.ptr=>[.dead]
 |.fn=>[.dead]
 |.none=>[]
def ap (p:Bool):(a:Ty)->a.den->List Leaf
 |.int k,n=>[.int k n]
 |.bool,b=>[.bool b]
 |.str,s=>[.str s]
 |.unit,_=>[]
 |.hdr,n=>[.hdr n]
 |.pair a b,x=>ap p a x.1++ap p b x.2
 |.list m E e,r=>[bif m then .own (p&&e.shy) none E e r else .ro p E e r]
def cH (p:Bool):(a:Ty)->a.den->List Leaf
 |.int k,n=>[.int k n]
 |.bool,b=>[.bool b]
 |.str,s=>[.str s]
 |.unit,_=>[]
 |.hdr,n=>[.hdr n]
 |.pair a b,x=>cH p a x.1++cH p b x.2
 |.list _ E e,r=>[.ro p E e r]
def lx (p:Bool)(ks:List (Nat×Nat×Nat))(ep:Nat):(a:Ty)->a.den->List Leaf
 |.int k,n=>[.int k n]
 |.bool,b=>[.bool b]
 |.str,s=>[.str s]
 |.unit,_=>[]
 |.hdr,n=>[.hdr n]
 |.pair a b,x=>lx p ks ep a x.1++lx p ks ep b x.2
 |.list _ E e,r=>[.nal p ks ep none E e r]
def gC (p:Bool)(r j v ep i u:Nat)(h:Option Nat):(a:Ty)->Nat->a.den->List Leaf
 |.int k,_,n=>[.int k n]
 |.bool,_,b=>[.bool b]
 |.str,_,s=>[.str s]
 |.unit,_,_=>[]
 |.hdr,_,n=>[.hdr n]
 |.pair a b,off,x=>gC p r j v ep i u h a off x.1++gC p r j v ep i u h b (off+a.cells) x.2
 |.list m E e,off,y=>[bif decide (h=some off) then .dead else bif m then .nal (p&&e.shy) [(r,j,v)] ep (some (i,u,off)) E e y else .ro p E e y]
def ly (p:Bool)(r j v ep i u:Nat)(h:Option (Bool×Nat)):(a:Ty)->Nat->a.den->List Leaf
 |.int k,_,n=>[.int k n]
 |.bool,_,b=>[.bool b]
 |.str,_,s=>[.str s]
 |.unit,_,_=>[]
 |.hdr,_,n=>[.hdr n]
 |.pair a b,off,x=>ly p r j v ep i u h a off x.1++ly p r j v ep i u h b (off+a.cells) x.2
 |.list m E e,off,y=>[bif (match h with|some (b,o)=>BD o off&&b|Option.none=>false) then .dead else bif m then .nal (p&&e.shy) [(r,j,v)] ep (some (i,u,off)) E e y else .ro p E e y]
def bi (agg:Bool):aI:=bif agg then .agg else .one
def lz:Leaf->Bool
 |.own _ _ _ _ _=>true
 |_=>false
def br (st:St)(ks:List (Nat×Nat×Nat))(ep:Nat):Bool:=BD (st EPO).ver ep&&ks.all λk=>BD (st k.1).ver k.2.2&&lz ((st k.1).ls.getD k.2.1 .dead)
def po:Leaf->Leaf
 |.nal _ _ _ _ _ _ _=>.dead
 |l=>l
def aD (st:St):Leaf->Leaf
 |.al r j v=>bif BD (st r).ver v then po ((st r).ls.getD j .dead) else .dead
 |.nal p y ep u E e z=>bif br st y ep then .nal p y ep u E e z else .dead
 |l=>l
def lS (t j r:Nat):Leaf->Leaf
 |.own _ _ _ _ _=>.al t j r
 |l=>l
def bG (t r:Nat):Nat->List Leaf->List Leaf
 |_,[]=>[]
 |j,l::u=>lS t j r l::bG t r (j+1) u
def iu:Value->Option Leaf
 |.int k n=>some (.int k n)
 |.bool b=>some (.bool b)
 |.string s=>some (.str s)
 |.slice Option.none 0 0=>some .nil
 |_=>Option.none
def au (st:St):Operand->aI×List Leaf
 |.tmp t=>bif B7 t GH then ((st t).sh,bG t (st t).ver 0 (st t).ls) else (.off,[])
 |.const v=>match iu v with
  |some l=>(.one,[l])
  |Option.none=>(.off,[])
 |.func f=>(.one,[.clo f []])
 |.global _=>(.off,[])
def one (st:St)(x:Operand):Leaf :=
 match au st x with
 |(.one,[l])=>l
 |_=>.dead
def castSh (e e':Ty)(xs:List e'.den):Option (List e.den) :=
 if h:e'.sh=e.sh then some (cast (congrArg List (jD h)) xs) else Option.none
def lT (E:TypeId)(e:Ty)(E':TypeId)(e':Ty)(xs:List e'.den):Option (List e.den) :=
 if h:E'=E/\e'=e then some (h.2 ▸ xs) else Option.none
def dh (e:Ty):Leaf->Option (Bool×List e.den)
 |.ro p _ r u=>(castSh e r u).map (p,·)
 |.own p none _ r u=>(castSh e r u).map (p,·)
 |.nal p _ _ _ _ r u=>(castSh e r u).map (p,·)
 |.nil=>some (false,[])
 |_=>Option.none
def fX:Leaf->Option Nat
 |.ro _ _ _ r=>some r.length
 |.own _ _ _ _ r=>some r.length
 |.nal _ _ _ _ _ _ r=>some r.length
 |.nil=>some 0
 |.hdr n=>some n
 |_=>Option.none
def a8 (st:St):(a:Ty)->List Leaf->Option (Bool×a.den×List Leaf)
 |.int k,r=>match r with
  |.int z n::r=>if k=z then some (false,(n:Int),r) else Option.none
  |_=>Option.none
 |.bool,r=>match r with
  |.bool b::r=>some (false,b,r)
  |_=>Option.none
 |.str,r=>match r with
  |.str s::r=>some (false,s,r)
  |_=>Option.none
 |.unit,r=>some (false,(),r)
 |.hdr,r=>match r with
  |l::r=>match fX (aD st l) with
   |some n=>some (false,(n:Nat),r)
   |Option.none=>Option.none
  |_=>Option.none
 |.pair a b,r=>match a8 st a r with
  |some (p,x,r)=>match a8 st b r with
   |some (q,y,r)=>some (p||q,(x,y),r)
   |Option.none=>Option.none
  |Option.none=>Option.none
 |.list _ _ e,r=>match r with
  |l::r=>match dh e (aD st l) with
   |some (p,u)=>some (p,u,r)
   |Option.none=>Option.none
  |_=>Option.none
def cQ (st:St)(a:Ty)(ls:List Leaf):Option (Bool×a.den) :=
 match a8 st a ls with
 |some (p,x,[])=>some (p,x)
 |_=>Option.none
structure cI (α:Type) where
 p:Bool
 val:α
 frz:List (Nat×Nat)
 kill:List (Nat×Nat)
 rest:List Leaf
def bz (st:St):List Leaf->List (Nat×Nat)
 |[]=>[]
 |.al r j v::u=>(match aD st (.al r j v) with|.own _ _ _ _ _=>[(r,j)]|_=>[])++bz st u
 |.nal p z ep y E e H::u=>(match aD st (.nal p z ep y E e H) with|.nal _ _ _ _ _ _ _=>z.map (λk=>(k.1,k.2.1))|_=>[])++bz st u
 |_::u=>bz st u
def bZ (st:St):List Leaf->List (Nat×Nat)
 |[]=>[]
 |.al r j v::u=>(match aD st (.al r j v) with|.own _ _ _ _ _=>[(r,j)]|_=>[])++bZ st u
 |_::u=>bZ st u
def take (st : St) : (a : Ty) -> List Leaf -> Option (cI a.den)
  |.int k,u=>(a8 st (.int k) u).map λx=>⟨false,x.2.1,[],[],x.2.2⟩
  |.bool,u=>(a8 st .bool u).map λx=>⟨false,x.2.1,[],[],x.2.2⟩
  |.str,u=>(a8 st .str u).map λx=>⟨false,x.2.1,[],[],x.2.2⟩
  |.unit,u=>some ⟨false,(),[],[],u⟩
  |.hdr,u=>(a8 st .hdr u).map λx=>⟨false,x.2.1,[],[],x.2.2⟩
  |.pair a b,u=>match take st a u with
    |some x=>match take st b x.rest with
      |some y=>some ⟨x.p||y.p,(x.val,y.val),x.frz++y.frz,x.kill++y.kill,y.rest⟩
      |Option.none=>Option.none
    |Option.none=>Option.none
  |.list m E e,u=>match u with
    |[]=>Option.none
    |l::u=>bif m then (match l with
        |.al r j v=>match aD st (.al r j v) with
          |.own p none H I z=>(lT E e H I z).map λz=>⟨p,z,[],[(r,j)],u⟩
          |_=>Option.none
        |.nil=>some ⟨false,([]:List e.den),[],[],u⟩
        |_=>Option.none)
      else match dh e (aD st l) with
        |some (p,z)=>some ⟨p,z,bz st [l],[],u⟩
        |Option.none=>Option.none
def cg (st:St)(a:Ty)(ls:List Leaf):Option (cI a.den) :=
 match take st a ls with
 |some ⟨p,x,f,k,[]⟩=>some ⟨p,x,f,k,[]⟩
 |_=>Option.none
def db (st:St)(off n:Nat):(a:Ty)->Nat->a.den->List Leaf->Option (cI a.den)
 |.pair a b,pos,x,r=>match db st off n a pos x.1 r with
  |some u=>match db st off n b (pos+a.cells) x.2 u.rest with
   |some v=>some ⟨u.p||v.p,(u.val,v.val),u.frz++v.frz,u.kill++v.kill,v.rest⟩
   |Option.none=>Option.none
  |Option.none=>Option.none
 |.int k,pos,x,r=>bif CB off pos&&B7 pos (off+n) then take st (.int k) r else some ⟨false,x,[],[],r⟩
 |.bool,pos,x,r=>bif CB off pos&&B7 pos (off+n) then take st .bool r else some ⟨false,x,[],[],r⟩
 |.str,pos,x,r=>bif CB off pos&&B7 pos (off+n) then take st .str r else some ⟨false,x,[],[],r⟩
 |.unit,_,x,r=>some ⟨false,x,[],[],r⟩
 |.hdr,_,_,_=>Option.none
 |.list m E e,pos,x,r=>bif CB off pos&&B7 pos (off+n) then take st (.list m E e) r else some ⟨false,x,[],[],r⟩
def bL (off:Nat)(E:TypeId)(e:Ty)(r:List e.den):(a:Ty)->Nat->a.den->Option a.den
 |.pair a b,pos,x=>match bL off E e r a pos x.1 with
  |some u=>some (u,x.2)
  |Option.none=>(bL off E e r b (pos+a.cells) x.2).map λv=>(x.1,v)
 |.list m z y,pos,_=>bif m&&BD pos off then lT z y E e r else Option.none
 |.int _,_,_|.bool,_,_|.str,_,_|.unit,_,_|.hdr,_,_=>Option.none
def aw:List Leaf->List Nat
 |[]=>[]
 |.al r _ _::u=>r::aw u
 |.ep r _ _ _ _ _::u=>r::aw u
 |.nal _ y _ _ _ _ _::u=>EPO::y.map (·.1)++aw u
 |.np _ y _ _ _ _::u=>EPO::y.map (·.1)++aw u
 |_::u=>aw u
def aT (ls:List Leaf)(j:Nat)(l:Leaf):List Leaf:=ls.set j l
def fY (c:bQ)(j:Nat):bQ:=⟨c.ver,c.sh,aT c.ls j .dead⟩
def aN (st:St):List (Nat×Nat)->Upd
 |[]=>[]
 |(r,j)::u=>let U:=aN st u;let c:=ac U st r;(r,fY c j)::U
def uK:Leaf->Leaf
 |.own p none E e r=>.ro p E e r
 |.own _ (some _) _ _ _=>.dead
 |l=>l
def fU (c:bQ)(j:Nat):bQ:=⟨c.ver,c.sh,aT c.ls j (uK (c.ls.getD j .dead))⟩
def aF (st:St):List (Nat×Nat)->Upd
 |[]=>[]
 |(r,j)::u=>let U:=aF st u;let c:=ac U st r;(r,fU c j)::U
def bU (c:bQ):bQ:=⟨c.ver+1,c.sh,c.ls⟩
def epoU (st:St):Upd:=[(EPO,bU (st EPO))]
def du (st:St):List Leaf->List (Nat×Nat)
 |[]=>[]
 |.nal p u ep none E e y::r=>(match aD st (.nal p u ep none E e y) with|.nal _ _ _ _ _ _ _=>u.map (λk=>(k.1,k.2.1))|_=>[])++du st r
 |_::r=>du st r
def gh (st:St)(l:Leaf):Leaf:=match aD st l with
 |.nal p _ _ none E e r=>.ro p E e r
 |l=>l
def dF (st:St)(ls:List Leaf):List Leaf:=ls.map (gh st)
def mvU (st:St)(ls:List Leaf):Upd:=let U:=aF st (du st ls);aN (ac U st) (bZ st ls)++U
def aZ:List (Nat×Nat)->Bool
 |[]=>true
 |x::r=>!(r.any λy=>BD x.1 y.1&&BD x.2 y.2)&&aZ r
def iv (a b:Nat×Nat):Bool:=BD a.1 b.1&&BD a.2 b.2
def dz (a b:List (Nat×Nat)):Bool:=!(a.any λk=>b.any (iv k))
def ib (st:St)(ls:List Leaf):Bool:=aZ (bZ st ls)&&dz (du st ls) (bZ st ls)
def sn (st:St):Operand->Bool
 |.tmp q=>BD (st q).ver 7
 |_=>false
def idx {α:Type}(xs:List α)(i:Int):Option α:=if i<0 then Option.none else xs[i.toNat]?
def jE (u r:List Leaf)(off:Nat):List Leaf:=u.take off++r++u.drop (off+r.length)
def so (r:BinOp)(k:IntKind)(x y:Int):Option Leaf :=
 match r with
 |.add=>some (.int k (k.wrap (x+y)))
 |.sub=>some (.int k (k.wrap (x-y)))
 |.mul=>some (.int k (k.wrap (x*y)))
 |.eql=>some (.bool (x==y))
 |.neq=>some (.bool (x != y))
 |.lss=>some (.bool (decide (x<y)))
 |.leq=>some (.bool (decide (x<=y)))
 |.gtr=>some (.bool (decide (x>y)))
 |.geq=>some (.bool (decide (x>=y)))
 |_=>Option.none
def be (off:Nat):(a:Ty)->Nat->a.den->Option ((E:TypeId)×(e:Ty)×List e.den)
 |.pair a b,pos,x=>match be off a pos x.1 with
  |some u=>some u
  |Option.none=>be off b (pos+a.cells) x.2
 |.list m E e,pos,r=>bif m&&BD pos off then some ⟨E,e,r⟩ else Option.none
 |.int _,_,_|.bool,_,_|.str,_,_|.unit,_,_|.hdr,_,_=>Option.none
def cj (st:St):Leaf->Option (Upd×Leaf)
  |.nal p J ep H E e X=>bif br st J ep then (match J,H with
      | [(r, j, _)], some (i, O, off) => (match (st r).ls.getD j .dead with
        |.own I none M z u=>bif !BD r TMP&&!BD r EPO&&BD O z.cells then
            (match u[i]? with
            |some y=>match be off z 0 y with
              |some ⟨E,e,R⟩=>some ([(r,⟨(st r).ver,(st r).sh,aT (st r).ls j (.own I (some (i,off)) M z u)⟩),(TMP,⟨(st TMP).ver+1,.one,[.own (I&&z.shy) none E e R]⟩),(EPO,bU (st EPO))],.al TMP 0 ((st TMP).ver+1))
              |Option.none=>Option.none
            |Option.none=>Option.none)
          else Option.none
        |_=>Option.none)
      |_,_=>Option.none)
    else Option.none
  |_=>Option.none
def jt:Leaf->Bool
 |.nal _ _ _ _ _ _ _=>true
 |_=>false
inductive PK where
 |rd (a:Ty)
 |own (a:Ty)
 |io (a:Ty)
 |rref (a:Ty)
 |rref2 (a:Ty)
 |iop (a:Ty)
 |fn (As:List Ty) (B:Ty)
 |clo (f:FuncId) (cs:List (Bool×Ty))
 |hol (a:Ty) (c off:Nat)
 deriving DecidableEq
inductive RK where
 |v (a:Ty)
 |bv (a:Ty)
 |box (a:Ty)
 deriving DecidableEq
abbrev lU:List (Bool×Ty)->Type
 |[]=>Unit
 |c::r=>c.2.den×lU r
abbrev PK.den:PK->Type
 |.rd a|.own a|.io a|.rref a|.rref2 a|.iop a=>a.den
 |.fn r B=>Tup r->Option B.den
 |.clo _ u=>lU u
 |.hol a _ _=>a.den×Nat
abbrev ab:List PK->Type
 |[]=>Unit
 |p::r=>p.den×ab r
abbrev ah:List PK->Type
 |[]=>Unit
 |.io a::r=>a.den×ah r
 |.iop a::r=>a.den×ah r
 |_::r=>ah r
abbrev RK.den:RK->Type
 |.v a|.bv a|.box a=>a.den
abbrev ai:List RK->Type
 |[]=>Unit
 |r::u=>r.den×ai u
structure Ctr where
 f:FuncId
 ps:List PK
 rs:List RK
 fresh:Bool
 den:ab ps->Option (ai rs×ah ps)
def Ty.isAgg:Ty->Bool
 |.pair _ _|.unit=>true
 |_=>false
def target (st:St):Leaf->Option (List Leaf)
 |.bp b 0=>bif decide ((st b).sh=.agg) then some (bG b (st b).ver 0 (st b).ls) else none
 |.rp p a x 0=>some (cH p a x)
 |.rpp p a x=>some [.rp p a x 0]
 |_=>none
structure Got (α:Type) where
 p:Bool
 val:α
 frz:List (Nat×Nat)
 kill:List (Nat×Nat)
 see:List Nat
 lend:List Nat
def Got.ofRd {α:Type}(r:List Nat)(x:Bool×α)(frz:List (Nat×Nat)):Got α:=⟨x.1,x.2,frz,[],r,[]⟩
def lV (Γ:List Ctr)(f:FuncId):Option Ctr:=match Γ with
 |[]=>none
 |c::r=>bif BD c.f f then some c else lV r f
def ck (x:aI×List Leaf):Leaf :=
 match x with
 |(.one,[l])=>l
 |_=>.dead
def fp:List Leaf->List Nat
 |[]=>[]
 |.bp b _::r=>b::fp r
 |_::r=>fp r
def fq (st:St)(c:Bool×Ty)(l:Leaf):Option (Got c.2.den) :=
 bif c.1 then (match target st l with
  |some [u]=>match target st u with
   |some r=>(cQ st c.2 r).map λy=>.ofRd (fp [l,u]) y (bz st r)
   |none=>none
  |_=>none)
 else match target st l with
  |some r=>(cQ st c.2 r).map λy=>.ofRd (fp [l]) y (bz st r)
  |none=>none
def cr (st:St):(cs:List (Bool×Ty))->List Leaf->Option (Got (lU cs))
 |[],[]=>some ⟨false,(),[],[],[],[]⟩
 |c::cs,l::r=>match fq st c l with
  |some g=>match cr st cs r with
   |some h=>some ⟨g.p||h.p,(g.val,h.val),g.frz++h.frz,[],g.see++h.see,[]⟩
   |none=>none
  |none=>none
 |_,_=>none
def eR (c:Bool×Bool×(a:Ty)×a.den):Leaf:=bif c.2.1 then .rpp c.1 c.2.2.1 c.2.2.2 else .rp c.1 c.2.2.1 c.2.2.2 0
def bg (st : St) : (pk : PK) -> aI × List Leaf -> Option (Got pk.den)
  |.rd a,x=>bif decide (x.1=bi a.isAgg) then (cQ st a x.2).map λy=>.ofRd [] y (bz st x.2) else none
  |.own a,x=>bif decide (x.1=bi a.isAgg) then (cg st a x.2).map λt=>⟨t.p,t.val,t.frz,t.kill,[],[]⟩ else none
  |.io a,x=>bif decide (x.1=bi a.isAgg) then (cg st a x.2).map λt=>⟨t.p,t.val,t.frz,t.kill,[],[]⟩ else none
  |.rref a,x=>fq st (false,a) (ck x)
  |.rref2 a,x=>fq st (true,a) (ck x)
  |.iop a,x=>match ck x with
    |.bp b 0=>bif decide ((st b).sh=.agg) then (cg st a (bG b (st b).ver 0 (st b).ls)).map λt=>⟨t.p,t.val,t.frz,t.kill,[],[b]⟩ else none
    |_=>none
  |.fn I B,x=>match ck x with
    |.fn H O M=>if h:H=I/\O=B then some ⟨false,(h.1 ▸ h.2 ▸ M:Tup I->Option B.den),[],[],[],[]⟩ else none
    |_=>none
  |.clo f J,x=>match ck x with
    |.clo z u=>bif BD z f then cr st J (u.map λb=>.bp b 0) else none
    |.clr z u=>bif BD z f then cr st J (u.map eR) else none
    |_=>none
  |.hol a c off,x=>bif decide (x.1=bi a.isAgg) then (match x.2.getD c .dead with
      |.al r j v=>(match aD st (.al r j v) with
        |.own p (some (i,o)) E e R=>bif BD o off then (match cg st a (aT x.2 c .nil) with
            |some t=>(match bL c E e R a 0 t.val with
              |some y=>some ⟨p||t.p,(y,i),t.frz,(r,j)::t.kill,[],[]⟩
              |none=>none)
            |none=>none) else none
        |_=>none)
      |_=>none) else none
def bc (ga:(pk:PK)->aI×List Leaf->Option (Got pk.den)):(ps:List PK)->List (aI×List Leaf)->Option (Got (ab ps))
 |[],[]=>some ⟨false,(),[],[],[],[]⟩
 |p::ps,x::r=>match ga p x with
  |some g=>match bc ga ps r with
   |some h=>some ⟨g.p||h.p,(g.val,h.val),g.frz++h.frz,g.kill++h.kill,g.see++h.see,g.lend++h.lend⟩
   |none=>none
  |none=>none
 |_,_=>none
def uL (st:St):(ps:List PK)->List (aI×List Leaf)->Option (Got (ab ps)):=bc (bg st)
def b6 (st:St):List Leaf->List Leaf->Upd
 |.al r j _::u,l::y=>let U:=b6 st u y;(match l with|.own p h E e ys=>let c:=ac U st r;[(r,⟨c.ver,c.sh,aT c.ls j (.own p h E e ys)⟩),(EPO,bU (ac U st EPO))]|_=>[])++U
 |_::u,_::y=>b6 st u y
 |_,_=>[]
def aG (st:St)(p:Bool):(ps:List PK)->List (aI×List Leaf)->ah ps->Upd
 |[],_,_=>[]
 |.io a::ps,x::r,o=>let U:=aG st p ps r o.2;b6 (ac U st) x.2 (ap p a o.1)++U
 |.iop a::ps,x::r,o=>let U:=aG st p ps r o.2;(match ck x with
  |.bp b _=>let c:=ac U st b;[(b,⟨c.ver+2,.agg,ap p a o.1⟩)]
  |_=>[])++U
 |.rd _::ps,_::r,o=>aG st p ps r o
 |.own _::ps,_::r,o=>aG st p ps r o
 |.rref _::ps,_::r,o=>aG st p ps r o
 |.rref2 _::ps,_::r,o=>aG st p ps r o
 |.fn _ _::ps,_::r,o=>aG st p ps r o
 |.clo _ _::ps,_::r,o=>aG st p ps r o
 |.hol _ _ _::ps,_::r,o=>aG st p ps r o
 |_::_,[],_=>[]
def pq (d v:Nat)(p q:Bool)(ks:List (Nat×Nat×Nat))(ep:Nat):(r:RK)->r.den->(Bool×List Leaf)×Upd
 |.v a,y=>((a.isAgg,ap p a y),[])
 |.bv a,y=>((a.isAgg,lx q ks ep a y),[])
 |.box a,y=>((false,[.bp (B0+d) 0]),[(B0+d,⟨v+1,.agg,ap p a y⟩)])
def bE (d v:Nat)(p q:Bool)(ks:List (Nat×Nat×Nat))(ep:Nat):(u:List RK)->ai u->List (Bool×List Leaf)×Upd
 |[],_=>([],[])
 |r::u,y=>let a:=pq d v p q ks ep r y.1;let b:=bE d v p q ks ep u y.2;(a.1::b.1,a.2++b.2)
def eS (r:Nat)(l:List (Bool×List Leaf)):bQ :=
 match l with
 |[(agg,u)]=>⟨r,bi agg,u⟩
 |l=>⟨r,.tup (l.map λx=>(x.1,x.2.length)),(l.map (·.2)).flatten⟩
def cf (st:St)(U:Upd)(d:Nat)(sh:aI)(ls:List Leaf):Upd:=(d,⟨(ac U st d).ver+1,sh,ls⟩)::U
def PK.reads:PK->Bool
 |.rd _|.rref _|.rref2 _=>true
 |_=>false
def nM (caps:List PK)(z:ab caps):(r:List Ty)->Tup r->ab (r.map .rd++caps)
 |[],_=>z
 |_::as,x=>(x.1,nM caps z as x.2)
def rZ (st:St)(u:List Ty)(B:Ty)(ls:List Leaf)(ps:List PK)(H:List RK)(r:Bool)(z:ab ps->Option (ai H×ah ps))(q:List PK):Option (Got (Tup u->Option B.den)) :=
 if h:ps=u.map .rd++q/\H=[.v B] then
  bif q.all PK.reads&&B.flat&&r then
   match uL st q (ls.map λl=>(.one,[l])) with
   |some g=>some ⟨g.p,λx=>(z (h.1 ▸ nM _ g.val u x)).map λy=>(h.2 ▸ y.1:ai [.v B]).1,g.frz,[],g.see,[]⟩
   |none=>none
  else none
 else none
def kJ (Γ:List Ctr)(st:St)(r:List Ty)(B:Ty)(f:FuncId)(ls:List Leaf):Option (Got (Tup r->Option B.den)) :=
 match lV Γ f with
 |some c=>rZ st r B ls c.ps c.rs c.fresh c.den (c.ps.drop r.length)
 |none=>none
def vB:Leaf->Option (FuncId×List Leaf)
 |.clo f r=>some (f,r.map λb=>.bp b 0)
 |.clr f r=>some (f,r.map eR)
 |_=>none
def b8 (Γ:List Ctr)(st:St):(pk:PK)->aI×List Leaf->Option (Got pk.den)
 |.fn r B,x=>match vB (ck x) with
  |some u=>kJ Γ st r B u.1 u.2
  |none=>bg st (.fn r B) x
 |.rd a,x=>bg st (.rd a) x
 |.own a,x=>bg st (.own a) x
 |.io a,x=>bg st (.io a) x
 |.rref a,x=>bg st (.rref a) x
 |.rref2 a,x=>bg st (.rref2 a) x
 |.iop a,x=>bg st (.iop a) x
 |.clo f y,x=>bg st (.clo f y) x
 |.hol a c off,x=>bg st (.hol a c off) x
def oJ (Γ:List Ctr)(st:St):(ps:List PK)->List (aI×List Leaf)->Option (Got (ab ps)):=bc (b8 Γ st)
def PK.takes:PK->Bool
 |.own _|.io _=>true
 |_=>false
def PK.isIo:PK->Bool
 |.io _=>true
 |_=>false
def pt:Ty->Nat->Bool
 |.pair a b,j=>bif B7 j a.cells then pt a j else pt b (j-a.cells)
 |.list m _ _,j=>m&&BD j 0
 |_,_=>false
def lA (a:Ty):Nat->List Leaf->Option Nat
 |_,[]=>none
 |j,l::r=>bif jt l&&pt a j then some j else lA a (j+1) r
def PK.nest:PK->List Leaf->Option Nat
 |.own a,r=>lA a 0 r
 |.io a,r=>lA a 0 r
 |_,_=>none
def kj:Leaf->Nat×Nat
 |.nal _ ((r,j,_)::_) _ _ _ _ _=>(r,j)
 |_=>(0,0)
def cZ (st:St):List PK->List (aI×List Leaf)->Option (Upd×List (aI×List Leaf)×Option (Bool×Nat×Nat))
 |p::y,x::r=>match p.nest x.2 with
  |some k=>(cj st (x.2.getD k .dead)).map λu=>(u.1,(x.1,aT x.2 k u.2)::r,some (p.isIo,kj (x.2.getD k .dead)))
  |none=>(cZ st y r).map λu=>(u.1,x::u.2.1,u.2.2)
 |_,r=>some ([],r,none)
section
variable {R:Type}
def lW (st : St) (l : Leaf) (O : Upd -> Leaf -> Option R) : Option R :=
  match l with
  |.nal _ J ep H _ _ _=>bif br st J ep then (match J,H with
      | [(r, j, _)], some (i, X, off) => (match (st r).ls.getD j .dead with
        |.own I none M z u=>bif !BD r TMP&&!BD r EPO&&BD X z.cells then
            (idx u (i:Int)).bind λy=>match be off z 0 y with
              |some ⟨E,e,Y⟩=>O [(r,⟨(st r).ver,(st r).sh,aT (st r).ls j (.own I (some (i,off)) M z u)⟩),(TMP,⟨(st TMP).ver+1,.one,[.own (I&&z.shy) none E e Y]⟩),(EPO,bU (st EPO))] (.al TMP 0 ((st TMP).ver+1))
              |Option.none=>Option.none
          else Option.none
        |_=>Option.none)
      |_,_=>Option.none)
    else Option.none
  |_=>Option.none
def kK (st:St):List PK->List (aI×List Leaf)->(Upd->List (aI×List Leaf)->Option (Bool×Nat×Nat)->Option R)->Option R
 |p::y,x::u,r=>match p.nest x.2 with
  |some k=>lW st (x.2.getD k .dead) λU l=>r U ((x.1,aT x.2 k l)::u) (some (p.isIo,kj (x.2.getD k .dead)))
  |none=>kK st y u λU z b=>r U (x::z) b
 |_,u,r=>r [] u none
def iO (st:St):(r:List Ty)->List (aI×List Leaf)->Option (Tup r)
 |[],[]=>some ()
 |a::as,x::u=>bif decide (x.1=bi a.isAgg) then match cQ st a x.2 with
   |some (_,y)=>(iO st as u).map (y,·)
   |none=>none
  else none
 |_,_=>none
def RK.isV:RK->Bool
 |.v _|.bv _=>true
 |.box _=>false
def RK.isBv:RK->Bool
 |.bv _=>true
 |_=>false
def gD (st:St)(d:Nat):List RK->Bool
 |[.box _]=>decide ((st (B0+d)).sh=.off)
 |rs=>rs.all RK.isV
def oK (b:Option (Bool×Nat×Nat))(frz kill:List (Nat×Nat))(d:Nat):Bool :=
 match b with
 |some (true,r,j)=>!(kill.any (iv (r,j)))&&!(frz.any (iv (r,j)))&&!BD r d&&!BD r (B0+d)
 |_=>true
def j0 (st:St)(b:Option (Bool×Nat×Nat))(U:Upd)(H:Upd->Option R):Option R :=
 match b with
 |some (true,r,j) =>
  match (ac U st r).ls.getD j .dead,(ac U st TMP).ls with
  |.own p (some (i,off)) J u I,[.own q none E e M]=>(idx I (i:Int)).bind λy=>match bL off E e M u 0 y with
   |some z=>H ((r,⟨(ac U st r).ver,(ac U st r).sh,aT (ac U st r).ls j (.own (p||q) none J u (I.set i z))⟩)::(TMP,⟨(ac U st TMP).ver+1,.off,[]⟩)::(EPO,bU (ac U st EPO))::U)
   |none=>none
  |_,_=>none
 |_=>H U
def ju (Γ:List Ctr)(st:St)(d:Nat)(f:FuncId)(xs:List (aI×List Leaf))(J:Upd->Option R):Option R :=
 match lV Γ f with
 |some c=>kK st c.ps xs λz xs b =>
  match oJ Γ (ac z st) c.ps xs with
  |some g=>bif aZ g.kill&&dz g.frz g.kill&&gD st d c.rs&&!(g.see.any λq=>g.lend.any (BD q))&&CB g.lend.length 1&&(g.lend.isEmpty||!(c.ps.any PK.isIo))&&((c.fresh&&g.lend.isEmpty)||!(c.rs.any RK.isBv))&&(g.kill.all λk=>!BD k.1 EPO)&&oK b g.frz g.kill d then
   (c.den g.val).bind λy =>
    let H:=(let U:=(bif c.fresh then [] else aF (ac z st) g.frz);aN (ac U (ac z st)) g.kill++U)++z;let u:=aG (ac H st) (g.p&&!c.fresh) c.ps xs y.2++H;let r:=bE d (ac u st (B0+d)).ver (g.p&&!c.fresh) g.p (g.frz.map λk=>(k.1,k.2,(ac u st k.1).ver)) (ac u st EPO).ver c.rs y.1;let I:=r.2++u
    j0 st b ((d,eS ((ac I st d).ver+1) r.1)::I) J
   else none
  |none=>none
 |none=>none
def ak:Nat:=140737488355328
def fP (st:St)(E:TypeId)(e:Ty)(y:Leaf):Option (cI (List e.den)) :=
 bif e.flat then (dh e (aD st y)).map λx=>⟨false,x.2,[],[],[]⟩
 else bif decide (e.sh=e) then (dh e (aD st y)).map λx=>⟨x.1,x.2,bz st [y],[],[]⟩
 else (cg st (.list true E e) [y]).map λt=>⟨t.p,t.val,t.frz,t.kill,[]⟩
def dU (st u:St)(H:Upd)(d:Nat)(E:TypeId)(e:Ty)(r:Nat)(p:Bool)(xs:List e.den)(ks:List (Nat×Nat))(y:Leaf)(z:Upd->Option R):Option R :=
 match fP u E e y with
 |some t=>bif aZ (t.kill++ks)&&dz t.frz (t.kill++ks)&&decide ((xs.length+t.val.length)*r<=ak) then
   let U:=aF u t.frz
   z (cf st (aN (ac U u) (t.kill++ks)++U++H) d .one [.own (p||t.p) none E e (xs++t.val)])
  else none
 |none=>none
def er (st:St)(z:Upd)(d:Nat)(E:TypeId)(e:Ty)(u:Nat)(x y:Leaf)(I:Upd->Option R):Option R :=
 match x with
 |.al r j v=>match aD (ac z st) (.al r j v) with
  |.own p none J H M=>bif BD J E&&decide (H.sh=e.sh) then dU st (ac z st) z d J H u p M [(r,j)] y I else none
  |_=>none
 |.nil=>dU st (ac z st) z d E e u false [] [] y I
 |_=>none
def iw (st:St)(d:Nat)(E:TypeId)(e:Ty)(r:Nat)(x y:Leaf)(u:Upd->Option R):Option R :=
 bif jt x then lW st x λz x=>er st z d E e r x y u else er st [] d E e r x y u
def di (st:St)(x:Option Operand)(r:Int):Option Int :=
 match x with
 |none=>some r
 |some l=>match one st l with
  |.int _ n=>some n
  |_=>none
def ft (st:St)(r:List (Nat×Nat×Bool)):List (Nat×Operand)->List Leaf->Option (List Leaf)
 |[],u=>some u
 |(i,x)::y,u=>match r[i]? with
  |some (off,n,agg)=>bif BD (au st x).2.length n&&decide ((au st x).1=bi agg)&&decide (off+n<=u.length) then ft st r y (jE u (au st x).2 off) else none
  |none=>none
def eC (st:St)(e:Ty):Nat->List (Nat×Operand)->Option (cI (List e.den))
  |_,[]=>some ⟨false,[],[],[],[]⟩
  |k,(i,x)::r=>bif BD i k&&decide ((au st x).1=bi e.isAgg) then
      match cg st e (au st x).2,eC st e (k+1) r with
      |some t,some u=>some ⟨t.p||u.p,t.val::u.val,t.frz++u.frz,t.kill++u.kill,[]⟩
      |_,_=>none
    else none
def fE (st:St)(e:Ty):Nat->List Leaf->Option (List e.den)
 |0,_=>some []
 |n+1,r=>match cQ st e (r.take e.cells),fE st e n (r.drop e.cells) with
  |some (_,x),some u=>some (x::u)
  |_,_=>none
def sq (st:St)(xs:List Operand):Option (List Nat) :=
 xs.foldl (λ (r:Option (List Nat)) x=>r.bind λl=>match one st x with
  |.bp b 0=>some (l++[b])
  |_=>none) (some [])
def wrU (o:Oper)(st:St)(r:Upd->Option R)(sh:aI)(ls:List Leaf):Option R:=match o.dst with
 |some d=>r (cf st [] d sh ls)
 |none=>none
def cJ (h:Option (Nat×Nat))(i:Nat):Option Nat:=match h with
 |some (r,u)=>bif BD r i then some u else none
 |none=>none
def holB (h:Option (Nat×Nat))(i:Nat):Option (Bool×Nat):=match h with
 |some (r,u)=>some (BD r i,u)
 |none=>none
theorem lX (p:Bool)(r j v ep i u:Nat)(h:Option (Nat×Nat))(n:Nat):∀ (a:Ty) (off:Nat) (x:a.den),ly p r j v ep i u (holB h n) a off x=gC p r j v ep i u (cJ h n) a off x
 |.int _,_,_|.bool,_,_|.str,_,_|.unit,_,_|.hdr,_,_=>rfl
 |.pair a b,off,x=>by
  show _++_=_++_;rw[lX p r j v ep i u h n a,lX p r j v ep i u h n b]
 |.list m E e,off,I=>by
  simp only[ly,gC];congr 2;cases h with
  |none=>rfl
  |some q =>
   obtain⟨z,H⟩:=q;simp only[holB,cJ];by_cases y:BD z n=true
   ·simp only[y,Bool.and_true,cond_true,BK];rw[Bool.eq_iff_iff,Nat.beq_eq,decide_eq_true_eq]
   ·simp only[CY]at y;simp[y]
def gE (st:St)(r j i off:Nat)(n:Nat)(p:Bool)(E:TypeId)(e:Ty)(xs:List e.den)(h:Option (Nat×Nat))(ls:List Leaf)(M:Upd->Option R):Option R :=
 (idx xs (i:Int)).bind λH =>
  match db st off n e 0 H ls with
  |some t=>bif t.rest.isEmpty&&aZ t.kill&&dz t.frz t.kill&&!((t.kill++t.frz).any λk=>BD k.1 r) then
    let J:=aF st t.frz;let I:=aN (ac J st) t.kill++J;let u (l:Leaf):Option R:=M ((r,⟨(st r).ver,(st r).sh,aT (st r).ls j l⟩)::(EPO,bU (ac I st EPO))::I)
    match h with
    |none=>u (.own (p||t.p) none E e (xs.set i t.val))
    |some (z,y)=>bif CB off y&&B7 y (off+n) then (bif BD i z then u (.own (p||t.p) none E e (xs.set i t.val)) else u (.own (p||t.p) (some (z,y)) E e (xs.set i t.val)))
     else u (.own (p||t.p) (some (z,y)) E e (xs.set i t.val))
   else none
  |none=>none
def r8 (r:Nat):Bool:=!BD r TMP&&!BD r EPO
def eu (s:ByteArray):List Int:=s.data.toList.map λb=>(b.toNat:Int)
def gF (xs:List Int):ByteArray:=ByteArray.mk (xs.map λn=>UInt8.ofNat n.toNat).toArray
def act (Γ:List Ctr)(T:TypeId->TI)(o:Oper)(st:St)(O:Upd->Option R):Option R :=
 let w (sh:aI) (ls:List Leaf):Option R:=wrU o st O sh ls;let w1 (l:Leaf):Option R:=w .one [l]
 match o.op with
 |.move x=>let v:=au st x;w v.1 v.2
 |.assign x=>match o.dst with
  |some d=>let v:=au st x;bif ib st v.2 then O (cf st (mvU st v.2) d v.1 (dF st v.2)) else none
  |none=>none
 |.pick c a b=>match one st c with
  |.bool t=>bif t then (let v:=au st a;w v.1 v.2) else (let v:=au st b;w v.1 v.2)
  |_=>none
 |.alloc t=>match o.dst with
  |some d=>bif decide ((st (B0+d)).sh=.off)&&!decide ((T t).cells=0) then O ((B0+d,⟨(st (B0+d)).ver+1,.agg,(T t).zero⟩)::cf st [] d .one [.bp (B0+d) 0]) else none
  |none=>none
 |.box t x=>match o.dst with
  |some d=>let v:=au st x
   bif decide ((st (B0+d)).sh=.off)&&decide (v.2.length=(T t).cells)&&decide (v.1=bi (T t).agg)&&ib st v.2 then
    (bif sn st x then O ((B0+d,⟨(st (B0+d)).ver+1,.agg,v.2⟩)::cf st [] d .one [.bp (B0+d) 0])
    else (let U:=mvU st v.2
     O ((B0+d,⟨(ac U st (B0+d)).ver+1,.agg,dF st v.2⟩)::cf st U d .one [.bp (B0+d) 0])))
   else none
  |none=>none
 |.build t H=>match T t with
  |.struct a J=>match ft st J H.toList (eY a) with
   |some ls=>w .agg ls
   |none=>none
  |.arr e n=>match ft st ((B6 n).map λi=>(i*e.cells,e.cells,e.isAgg)) H.toList (BU n (eY e)).flatten with
   |some ls=>w .agg ls
   |none=>none
  |_=>none
 |.buildSlice t n H=>match T t with
  |.slice E e _=>match eC st e 0 H.toList with
   |some u=>bif BD u.val.length n&&decide (n*e.cells<=16777216)&&aZ u.kill&&dz u.frz u.kill then (match o.dst with
     |some d=>let U:=aF st u.frz;O (cf st (aN (ac U st) u.kill++U) d .one [.own u.p none E e u.val])
     |none=>none) else none
   |none=>none
  |_=>none
 |.load t x =>
  bif decide ((T t).cells=0) then none else
  match one st x with
  |.rp p a y off=>bif decide (off+(T t).cells<=a.cells) then w (bi (T t).agg) (((cH p a y).drop off).take (T t).cells) else none
  |.bp b off=>bif decide ((st b).sh=.agg)&&decide (off+(T t).cells<=(st b).ls.length) then w (bi (T t).agg) (((bG b (st b).ver 0 (st b).ls).drop off).take (T t).cells) else none
  |.rpp p a y=>bif BD (T t).cells 1&&!(T t).agg then w1 (.rp p a y 0) else none
  |.np p Y ep a y off=>bif br st Y ep&&decide (off+(T t).cells<=a.cells) then w (bi (T t).agg) (((lx p Y ep a y).drop off).take (T t).cells) else none
  |.ep r j v i sz off=>match aD st (.al r j v) with
   |.own p h _ e z=>bif BD sz e.cells&&decide (off+(T t).cells<=e.cells) then (idx z (i:Int)).bind λy=>w (bi (T t).agg) (((ly p r j v (st EPO).ver i sz (holB h i) e 0 y).drop off).take (T t).cells) else none
   |_=>none
  |_=>none
 |.store t x y=>match o.dst with
  |some _=>none
  |none =>
  let v:=(au st y).2
  bif BD v.length (T t).cells&&decide ((au st y).1=bi (T t).agg)&&!decide ((T t).cells=0) then
   match one st x with
   |.bp b off=>bif decide ((st b).sh=.agg)&&decide (off+v.length<=(st b).ls.length)&&ib st v then
     let U:=mvU st v;let c:=ac U st b
     O ((b,⟨c.ver+1,.agg,jE c.ls (dF st v) off⟩)::U)
    else none
   |.ep r j a0 i sz off=>match aD st (.al r j a0) with
    |.own p h E e z=>bif BD sz e.cells&&decide (off+v.length<=e.cells)&&r8 r then gE st r j i off v.length p E e z h v O else none
    |_=>none
   |_=>none
  else none
 |.nilCheck x=>match one st x with
  |.rp p a y off=>w1 (.rp p a y off)
  |.bp b off=>w1 (.bp b off)
  |.ep r j v i sz off=>bif BD (st r).ver v then w1 (.ep r j v i sz off) else none
  |.rpp p a y=>w1 (.rpp p a y)
  |.np p Y ep a y off=>bif br st Y ep then w1 (.np p Y ep a y off) else none
  |_=>none
 |.binOp op t x y _=>match one st x,one st y with
  |.int k a,.int k' b =>
   match op with
   |.shl=>bif decide (b<0) then none else w1 (.int k (k.wrap (a*2 ^ (min b.toNat k.bits))))
   |.shr=>bif decide (b<0) then none else w1 (.int k (a.fdiv (2 ^ (min b.toNat k.bits))))
   |.quo=>bif decide (b=0) then none else bif decide (k=k') then w1 (.int k (k.wrap (a.tdiv b))) else none
   |.rem=>bif decide (b=0) then none else bif decide (k=k') then w1 (.int k (a.tmod b)) else none
   |.and=>bif decide (k=k') then w1 (.int k (k.wrap ((BitVec.ofInt k.bits a &&& BitVec.ofInt k.bits b).toNat))) else none
   |.xor=>bif decide (k=k') then w1 (.int k (k.wrap ((BitVec.ofInt k.bits a ^^^ BitVec.ofInt k.bits b).toNat))) else none
   |_=>bif decide (k=k') then (match so op k a b with|some l=>w1 l|none=>none) else none
  |.bool a,.bool b=>match T t with
   |.bool=>match op with
    |.eql=>w1 (.bool (a==b))
    |.neq=>w1 (.bool (a != b))
    |_=>none
   |_=>none
  |.str a,.str b=>match op with
   |.eql=>w1 (.bool (a.toList==b.toList))
   |.neq=>w1 (.bool (a.toList != b.toList))
   |.add=>bif decide (a.size+b.size<=9223372036854775807) then w1 (.str (a++b)) else none
   |_=>none
  |_,_=>match T t with
   |.struct a _=>bif a.flat&&decide ((au st x).1=.agg)&&decide ((au st y).1=.agg) then
     match cQ st a (au st x).2,cQ st a (au st y).2 with
     |some (_,u),some (_,v)=>match op with
      |.eql=>w1 (.bool (a.eqv u v))
      |.neq=>w1 (.bool (!a.eqv u v))
      |_=>none
     |_,_=>none
    else none
   |_=>none
 |.unOp op _ x=>match op,one st x with
  |.not,.bool b=>w1 (.bool (!b))
  |.neg,.int k n=>w1 (.int k (k.wrap (0-n)))
  |_,_=>none
 |.convert s t x=>match T s,T t,one st x with
  |.int _,.int k,.int _ n=>w1 (.int k (k.wrap n))
  |.slice _ (.int .u8) _,.str,l=>match dh (.int .u8) (aD st l) with
   |some (_,z)=>w1 (.str (gF z))
   |none=>none
  |.str,.slice E (.int .u8) _,.str s=>w1 (.own false none E (.int .u8) (eu s))
  |_,_,_=>none
 |.makeSlice t n c=>match T t,one st n,one st c with
  |.slice E e X,.int _ a,.int _ b =>
   bif decide (0<=a)&&decide (a=b)&&decide (a*X<=ak) then w1 (.own false none E e (BU a.toNat e.zero)) else none
  |_,_,_=>none
 |.slice t x lo hi mx=>match mx,o.dst with
  |none,some d=>match di st lo 0 with
   |none=>none
   |some i=>match T t,aD st (one st x) with
    |.str,.str s=>(match di st hi s.size with
     |some h=>bif decide (0<=i)&&decide (i<=h)&&decide (h<=(s.size:Int)) then O (cf st [] d .one [.str (s.extract i.toNat h.toNat)]) else none
     |none=>none)
    |.slice _ M _,.nal p Y ep _ E e z=>(match di st hi z.length with
     |some h=>bif decide (0<=i)&&decide (i<=h)&&decide (h<=(z.length:Int))&&BD M.cells e.cells then
       O (cf st [] d .one [.nal p Y ep none E e ((z.take h.toNat).drop i.toNat)]) else none
     |none=>none)
    |.slice _ M _,.ro p E e z=>(match di st hi z.length with
     |some h=>bif decide (0<=i)&&decide (i<=h)&&decide (h<=(z.length:Int))&&BD M.cells e.cells then
       O (cf st [] d .one [.ro p E e ((z.take h.toNat).drop i.toNat)]) else none
     |none=>none)
    |.slice _ M _,.own p none E e z=>(match di st hi z.length with
     |some h=>bif decide (0<=i)&&decide (i<=h)&&decide (h<=(z.length:Int))&&BD M.cells e.cells then
       (match one st x with
       |.al r j v=>O (cf st [] d .one [.nal p [(r,j,v)] (st EPO).ver none E e ((z.take h.toNat).drop i.toNat)])
       |_=>none) else none
     |none=>none)
    |_,_=>none
  |some m,some d=>match lo,T t,one st x with
   |none,.slice _ M _,.al r j v=>(match aD st (.al r j v) with
    |.own p none E e z=>(match di st hi z.length,di st (some m) 0 with
     |some h,some k=>bif hi.isSome&&decide (h=(z.length:Int))&&decide (k=(z.length:Int))&&BD M.cells e.cells then O (cf st (aN st [(r,j)]) d .one [.own p none E e z]) else none
     |_,_=>none)
    |_=>none)
   |_,_,_=>none
  |_,_=>none
 |.fieldAddr t x f=>match T t with
  |.struct _ J=>match J[f]? with
   |some (off,_,_)=>match one st x with
    |.rp p a y o'=>w1 (.rp p a y (o'+off))
    |.bp b o'=>w1 (.bp b (o'+off))
    |.ep r j v i sz o'=>bif BD (st r).ver v then w1 (.ep r j v i sz (o'+off)) else none
    |.np p Y ep a y o'=>bif br st Y ep then w1 (.np p Y ep a y (o'+off)) else none
    |_=>none
   |none=>none
  |_=>none
 |.field t x f=>match T t with
  |.struct a J=>match J[f]? with
   |some (off,n,agg)=>bif decide ((au st x).1=.agg)&&decide ((au st x).2.length=a.cells) then w (bi agg) (((au st x).2.drop off).take n) else none
   |none=>none
  |_=>none
 |.indexAddr t x i=>match one st i with
  |.int _ n=>match T t with
   |.arr e Z=>match one st x with
    |.bp b off=>bif decide (0<=n)&&decide (n<(Z:Int)) then w1 (.bp b (off+n.toNat*e.cells)) else none
    |_=>none
   |.slice _ e _=>match one st x with
    |.al r j v=>match aD st (.al r j v) with
     |.own _ _ _ M z=>bif BD M.cells e.cells then (idx z n).bind λ_=>w1 (.ep r j v n.toNat M.cells 0) else none
     |_=>none
    |.ro p _ M z=>bif BD M.cells e.cells then (idx z n).bind λy=>w1 (.rp p M y 0) else none
    |.nal p Y ep _ _ M z=>bif BD M.cells e.cells&&br st Y ep then (idx z n).bind λy=>w1 (.np p Y ep M y 0) else none
    |_=>none
   |_=>none
  |_=>none
 |.index t x i=>match one st i with
  |.int _ n=>match T t with
   |.str=>match one st x with
    |.str s=>(idx s.data.toList n).bind λy=>w1 (.int .u8 y.toNat)
    |_=>none
   |.arr e Z=>bif e.flat&&decide ((au st x).1=.agg)&&BD (au st x).2.length (Z*e.cells)&&!BD e.cells 0 then (match fE st e Z (au st x).2 with
     |some vs=>(idx vs n).bind λy=>w (bi e.isAgg) (cH false e y)
     |none=>none) else none
   |_=>none
  |_=>none
 |.extract x i=>match au st x with
  |(.tup ps,ls)=>match ps[i]? with
   |some (agg,n)=>w (bi agg) ((ls.drop ((ps.take i).foldl (λa b=>a+b.2) 0)).take n)
   |none=>none
  |_=>none
 |.makeFunc (.func f) first I=>bif BD first.size 0 then
   match sq st I.toList with
   |some l=>w1 (.clo f l)
   |none=>none
  else none
 |.call c=>match o.dst with
  |none=>none
  |some d=>match c.callee with
   |.value f =>
    let z:=c.args.toList.map (au st)
    match one st f with
    |.clo g I=>ju Γ st d g (z++I.map λb=>(.one,[.bp b 0])) O
    |.clr g I=>ju Γ st d g (z++I.map λc=>(.one,[eR c])) O
    |.fn As B φ=>bif B.flat then match iO st As z with
      |some x=>(φ x).bind λy=>w (bi B.isAgg) (ap false B y)
      |none=>none
     else none
    |_=>none
   |.builtin .len=>match c.args.toList with
    |[x]=>match c.argTypes.toList with
     |[t]=>match T t,aD st (one st x) with
      |.slice _ _ _,l=>(match fX l with
       |some n=>w1 (.int .i64 n)
       |none=>none)
      |.str,.str s=>w1 (.int .i64 s.size)
      |_,_=>none
     |_=>none
    |_=>none
   |.builtin .append=>match c.args.toList,c.argTypes.toList with
    |[x,y],[t,u]=>match T t with
     |.slice E e X=>bif BD t u then iw st d E e X (one st x) (one st y) O else none
     |_=>none
    |_,_=>none
   |.builtin .min=>match c.args.toList with
    |[x,y]=>match one st x,one st y with
     |.int k a,.int _ b=>w1 (.int k (bif decide (b<a) then b else a))
     |_,_=>none
    |_=>none
   |.builtin .max=>match c.args.toList with
    |[x,y]=>match one st x,one st y with
     |.int k a,.int _ b=>w1 (.int k (bif decide (a<b) then b else a))
     |_,_=>none
    |_=>none
   |_=>none
 |_=>none
def az:List Leaf->List Nat
 |[]=>[]
 |.al r _ _::u=>r::az u
 |.ep r _ _ _ _ _::u=>EPO::r::az u
 |.nal _ z _ _ _ _ _::u=>EPO::z.map (·.1)++az u
 |.np _ z _ _ _ _::u=>EPO::z.map (·.1)++az u
 |.bp b _::u=>b::az u
 |.clo _ y::u=>y++az u
 |_::u=>az u
def iy (xs:List Operand):List Nat :=
 match xs with
 |[]=>[]
 |.tmp t::xs=>t::iy xs
 |_::xs=>iy xs
def kL (st:St)(r:List Nat):List Nat :=
 let a:=r.flatMap λt=>az (st t).ls
 let b:=a.flatMap λt=>az (st t).ls
 let c:=b.flatMap λt=>az (st t).ls
 r++a++b++c
def cl (st:St)(u:Op):List Nat :=
 let r:=iy u.operands.toList
 match u with
 |.move _|.pick _ _ _|.build _ _|.field _ _ _|.extract _ _|.makeFunc _ _ _|.unOp _ _ _|.makeSlice _ _ _|.alloc _=>r
 |.slice _ _ _ _ _=>EPO::(r++r.flatMap λt=>aw (st t).ls)
 |.assign _|.box _ _|.buildSlice _ _ _|.indexAddr _ _ _|.nilCheck _|.fieldAddr _ _ _|.convert _ _ _|.binOp _ _ _ _ _|.index _ _ _=>r++r.flatMap λt=>aw (st t).ls
 |.load _ _|.store _ _ _=>r++r.flatMap λt=>az (st t).ls
 |.call c=>match c.callee with
  |.builtin _=>TMP::(r++r.flatMap λt=>aw (st t).ls)
  |_=>TMP::EPO::kL st r
 |_=>kL st r
def zD (o:Oper):List Nat:=match o.dst with
 |some d=>[d,B0+d]
 |none=>[]
def eZ (st:St)(u:Op):List Nat :=
 let r:=iy u.operands.toList
 match u with
 |.move _=>r
 |.indexAddr _ _ _=>r++r.flatMap λt=>aw (st t).ls
 |_=>[]
def fu (st:St)(o:Oper):List Nat:=(match o.op with|.move _|.indexAddr _ _ _=>[]|op=>cl st op)++zD o
def d4 (st:St)(o:Oper):List Nat:=match o.op with
 |.store _ x _=>match one st x with
  |.ep r _ _ _ _ _=>[r]
  |_=>[]
 |_=>[]
structure cK where
 rd:List Nat
 hd:List Nat
 wr:List Nat
 cw:List Nat
def lY (a b:List Nat):Bool:=a.any λx=>b.any λy=>BD x y
def cK.apart (x y:cK):Bool:=!lY (x.wr++x.cw) (y.wr++y.cw)&&!lY (x.wr++x.cw) y.rd&&!lY x.rd (y.wr++y.cw)&&!lY x.wr y.hd&&!lY x.hd y.wr
def jP:List Oper->List Nat->List Nat
 |[],r=>r
 |o::u,r=>jP u (r++[o.after.toList.foldl (λs e=>bif Region.binds .any e then s ||| 2 ^ e.on ||| r.getD e.on 0 else s) 0])
def pu (r:List Nat)(u:List cK):Bool :=
 (B6 u.length).all λj=>(B6 j).all λi =>
  (r.getD j 0).testBit i||(match u[i]?,u[j]? with
   |some x,some y=>x.apart y
   |_,_=>false)
def lit (st:St)(t:Nat)(b:Bool):St:=ac [(t,⟨(st t).ver,.one,[.bool b]⟩)] st
def eN (st:St)(o:Oper):Upd :=
 match o.dst with
 |some d=>[(d,⟨(st d).ver+1,.und,[]⟩)]
 |none=>[]
def opK (Γ:List Ctr)(T:TypeId->TI)(y:Array Oper)(o:Oper)(st:St)(H:St->cK->Option R):Option R :=
 let z (st:St) (r:List Nat):Option R:=act Γ T o st (λU=>H (ac U st) ⟨r++fu st o,eZ st o.op,(U.map (·.1)).filter (λq=>!((d4 st o).any (BD q))),d4 st o⟩);let no (st:St) (r:List Nat):Option R:=H (ac (eN st o) st) ⟨r,[],o.dst.toList,[]⟩
 match o.guard with
 |none=>z st []
 |some (j,u)=>match (y[j]?).bind (·.dst) with
  |some t=>match (st t).sh,(st t).ls with
   |.one,[.bool b]=>bif b then (bif u then z (lit st t true) [t] else no (lit st t true) [t]) else (bif u then no (lit st t false) [t] else z (lit st t false) [t])
   |.und,_=>no st [t]
   |_,_=>none
  |none=>none
def qm (Γ:List Ctr)(T:TypeId->TI)(u:Array Oper):List Oper->St->List cK->(St->List cK->Option R)->Option R
 |[],y,H,z=>z y H
 |o::r,y,H,z=>opK Γ T u o y (λI t=>qm Γ T u r I (H++[t]) z)
def nN (ops:Array Oper):Bool:=(B6 ops.size).all λi=>match ops[i]? with
 |some o=>o.after.toList.all λe=>!Region.binds .any e||decide (e.on<i)
 |none=>true
def regK (Γ:List Ctr)(T:TypeId->TI)(ops:Array Oper)(u:Bool)(st:St)(y:St->Option R):Option R :=
 bif u then
  qm Γ T ops ops.toList st [] (λr z=>bif nN ops&&pu (jP ops.toList []) z then y r else none)
 else qm Γ T ops ops.toList st [] (λr _=>y r)
inductive Ex where
 |normal|exit (id:Nat)|ret
def oL (y:St->(Ex->St->Option R)->Option R)(u:Ex->St->Option R):Ex->St->Option R
 |.normal,r=>y r u
 |e,r=>u e r
def sr (id:Nat)(y:Ex->St->Option R):Ex->St->Option R
 |.exit r,u=>bif BD r id then y .normal u else y (.exit r) u
 |e,u=>y e u
def av (L:List (Nat×bQ)):St:=λq=>ac L (λ_=>bQ.none) q
inductive Coe where
 |keep|kill
 |own (p:Bool) (E:TypeId) (e:Ty)|ro (p:Bool) (E:TypeId) (e:Ty)|rp (p:Bool)
def bw (st:St)(live:List Nat):Coe->Leaf->Leaf
 |.kill,_=>.dead
 |.own p E e,.nil=>.own p none E e []
 |.own p _ _,.own q none E e y=>bif !q||p then .own p none E e y else .dead
 |.ro p E e,.nil=>.ro p E e []
 |.ro p E e,.ro q _ z y=>bif !q||p then (match castSh e z y with | some H=>.ro p E e H | none=>.dead) else .dead
 |.ro p E e,.own q none _ z y=>bif !q||p then (match castSh e z y with | some H=>.ro p E e H | none=>.dead) else .dead
 |.rp p,.rpp q a x=>bif !q||p then .rpp p a x else .dead
 |.rp p,.rp q a x off=>bif !q||p then .rp p a x off else .dead
 |.keep,.int k n=>.int k n
 |.keep,.bool b=>.bool b
 |.keep,.str s=>.str s
 |.keep,.nil=>.nil
 |.keep,.hdr n=>.hdr n
 |.keep,.fn I B M=>.fn I B M
 |.keep,.clr f J=>.clr f J
 |.keep,.bp b off=>bif live.any (BD b) then .bp b off else .dead
 |.keep,.clo f u=>bif u.all (λb=>live.any (BD b)) then .clo f u else .dead
 |.keep,.al r j v=>bif live.any (BD r)&&BD (st r).ver v then .al r j 0 else .dead
 |_,_=>.dead
def c6 (st:St)(live:List Nat):List Coe->List Leaf->List Leaf
 |c::u,l::r=>bw st live c l::c6 st live u r
 |[],_::r=>.dead::c6 st live [] r
 |_,[]=>[]
def lZ (live:List (Nat×List Coe))(st:St):St:=av (live.map λr=>(r.1,⟨0,(st r.1).sh,c6 st (live.map (·.1)) r.2 (st r.1).ls⟩))
def hM (live:List (Nat×List Coe))(rec:St->Option R)(u:Ex->St->Option R):Ex->St->Option R
 |.normal,r=>rec (lZ live r)
 |e,r=>u e r
def aY (live:List (Nat×List Coe))(u:St->(Ex->St->Option R)->Option R):Nat->St->(Ex->St->Option R)->Option R
 |0,_,_=>none
 |k+1,z,y=>u z (hM live (λr=>aY live u k r y) y)
def eT:Code->Nat
 |.region id _ _=>id+1
 |.seq a b=>match eT a with
  |0=>eT b
  |n=>n
 |.cond _ a b=>match eT a with
  |0=>eT b
  |n=>n
 |.block _ c=>eT c
 |.loop c=>eT c
 |.scope c=>eT c
 |_=>0
def lB (L:List (Nat×List (Nat×List Coe)))(k:Nat):List (Nat×List Coe):=match L with
 |[]=>[]
 |(n,l)::r=>bif BD n k then l else lB r k
def zE (st:St)(c:Operand)(r no:St->Option R):Option R :=
 match c with
 |.tmp t=>match (st t).sh,(st t).ls with
  |.one,[.bool b]=>bif b then r (lit st t true) else no (lit st t false)
  |_,_=>none
 |.const (.bool b)=>bif b then r st else no st
 |_=>none
def evK (Γ:List Ctr)(T:TypeId->TI)(L:List (Nat×List (Nat×List Coe)))(r:Nat):Code->St->(Ex->St->Option R)->Option R
 |.skip,u,z=>z .normal u
 |.region _ I H,u,z=>regK Γ T I H u (z .normal)
 |.seq a b,u,z=>evK Γ T L r a u (oL (evK Γ T L r b) z)
 |.cond c x y,u,z=>zE u c (λu=>evK Γ T L r x u z) (λu=>evK Γ T L r y u z)
 |.block id c,u,z=>evK Γ T L r c u (sr id z)
 |.loop c,u,z=>aY (lB L (eT c)) (evK Γ T L r c) r (lZ (lB L (eT c)) u) z
 |.exit id,u,z=>z (.exit id) u
 |.ret,u,z=>z .ret u
 |_,_,_=>none
def sub:Code->List Nat->Code
 |.seq a _,0::p=>sub a p
 |.seq _ b,1::p=>sub b p
 |.cond _ x _,0::p=>sub x p
 |.cond _ _ y,1::p=>sub y p
 |.block _ c,0::p=>sub c p
 |.loop c,0::p=>sub c p
 |c,_=>c
def kAt (u:Code->St->(Ex->St->Option R)->Option R):Code->List Nat->(Ex->St->Option R)->Ex->St->Option R
 |.seq a b,0::p,r=>kAt u a p (oL (u b) r)
 |.seq _ b,1::p,r=>kAt u b p r
 |.cond _ x _,0::p,r=>kAt u x p r
 |.cond _ _ y,1::p,r=>kAt u y p r
 |.block id c,0::p,r=>kAt u c p (sr id r)
 |_,_,r=>r
def cM (fn:Func):Code:=match fn.body with
 |some c=>c
 |none=>.skip
def ae {A:Type}(step:(A->Option R)->A->Option R):Nat->A->Option R
 |0,_=>none
 |k+1,a=>step (ae step k) a
theorem k8 {A:Type}(live:List (Nat×List Coe))(r:St->(Ex->St->Option R)->Option R)(u:Ex->St->Option R)(S:A->St)
  (step:(A->Option R)->A->Option R) (h:∀ (rec:St->Option R) (a:A),r (S a) (hM live rec u)=step (λa=>rec (S a)) a) :
  ∀ (k:Nat) (a:A),aY live r k (S a) u=ae step k a
 |0,_=>rfl
 |k+1,a=>by
  have y:=k8 live r u S step h k;simp only[aY,ae];rw[h];exact congrArg (λg=>step g a) (funext y)
abbrev wr (k:IntKind)(n:Int):Int:=k.wrap n
def aR (k:IntKind)(a b:Int):Int:=k.wrap ((BitVec.ofInt k.bits a &&& BitVec.ofInt k.bits b).toNat)
def qn (k:IntKind)(a b:Int):Int:=k.wrap ((BitVec.ofInt k.bits a ^^^ BitVec.ofInt k.bits b).toNat)
def j8 (p:Bool):(cs:List (Bool×Ty))->lU cs->List (Bool×Bool×(a:Ty)×a.den)
 |[],_=>[]
 |c::cs,x=>(p,c.1,⟨c.2,x.1⟩)::j8 p cs x.2
def uM (i off:Nat):Leaf->Leaf
 |.own p _ E e r=>.own p (some (i,off)) E e r
 |l=>l
def c7 (t:Nat):(ps:List PK)->ab ps->Upd
 |[],_=>[]
 |.rd a::ps,x=>(t,⟨0,bi a.isAgg,cH true a x.1⟩)::c7 (t+1) ps x.2
 |.own a::ps,x=>(t,⟨0,bi a.isAgg,ap true a x.1⟩)::c7 (t+1) ps x.2
 |.io a::ps,x=>(t,⟨7,bi a.isAgg,ap true a x.1⟩)::c7 (t+1) ps x.2
 |.rref a::ps,x=>(t,⟨0,.one,[.rp true a x.1 0]⟩)::c7 (t+1) ps x.2
 |.rref2 a::ps,x=>(t,⟨0,.one,[.rpp true a x.1]⟩)::c7 (t+1) ps x.2
 |.iop a::ps,x=>(t,⟨0,.one,[.bp (B0+t) 0]⟩)::(B0+t,⟨0,.agg,ap true a x.1⟩)::c7 (t+1) ps x.2
 |.fn r B::ps,x=>(t,⟨0,.one,[.fn r B x.1]⟩)::c7 (t+1) ps x.2
 |.clo f u::ps,x=>(t,⟨0,.one,[.clr f (j8 true u x.1)]⟩)::c7 (t+1) ps x.2
 |.hol a c off::ps,x=>(t,⟨0,bi a.isAgg,aT (ap true a x.1.1) c (uM x.1.2 off ((ap true a x.1.1).getD c .dead))⟩)::c7 (t+1) ps x.2
def ic (st:St)(t:Nat):(ps:List PK)->Option (cI (ah ps))
 |[]=>some ⟨false,(),[],[],[]⟩
 |.io a::ps=>match (bif decide ((au st (.tmp t)).1=bi a.isAgg) then cg st a (au st (.tmp t)).2 else none),ic st (t+1) ps with
  |some x,some y=>some ⟨x.p||y.p,(x.val,y.val),x.frz++y.frz,x.kill++y.kill,[]⟩
  |_,_=>none
 |.iop a::ps=>match cg st a (bG (B0+t) (st (B0+t)).ver 0 (st (B0+t)).ls),ic st (t+1) ps with
  |some x,some y=>some ⟨x.p||y.p,(x.val,y.val),x.frz++y.frz,x.kill++y.kill,[]⟩
  |_,_=>none
 |.rd _::ps=>ic st (t+1) ps
 |.own _::ps=>ic st (t+1) ps
 |.rref _::ps=>ic st (t+1) ps
 |.rref2 _::ps=>ic st (t+1) ps
 |.fn _ _::ps=>ic st (t+1) ps
 |.clo _ _::ps=>ic st (t+1) ps
 |.hol _ _ _::ps=>ic st (t+1) ps
def vC (st:St)(T:TypeId->TI):ResultVar->List Leaf
 |.tmp t=>(au st (.tmp t)).2
 |.cell t r=>match one st (.tmp t) with
  |.bp b off=>((bG b (st b).ver 0 (st b).ls).drop off).take (T r).cells
  |_=>[]
def pv (st:St)(T:TypeId->TI):ResultVar->aI
 |.tmp t=>(au st (.tmp t)).1
 |.cell t r=>match one st (.tmp t) with
  |.bp b off=>bif decide ((st b).sh=.agg)&&CB (off+(T r).cells) (st b).ls.length&&!BD (T r).cells 0 then bi (T r).agg else .off
  |_=>.off
def RK.sh:RK->aI
 |.v a=>bi a.isAgg
 |.bv a=>bi a.isAgg
 |.box _=>.one
def bH (t:Nat):List PK->List Nat
 |[]=>[]
 |.iop _::r=>(B0+t)::bH (t+1) r
 |_::r=>bH (t+1) r
def gi (t:Nat):List PK->List Nat
 |[]=>[]
 |.io _::r=>t::gi (t+1) r
 |.iop _::r=>t::gi (t+1) r
 |_::r=>gi (t+1) r
def r9 (st:St)(z:List Nat):(r:RK)->List Leaf->Option (cI r.den)
 |.v a,u=>cg st a u
 |.bv a,u=>(cQ st a u).map λy=>⟨false,y.2,bz st u,[],[]⟩
 |.box a,u=>match u with
  |[.bp b 0]=>bif !(z.any (BD b)) then cg st a (bG b (st b).ver 0 (st b).ls) else none
  |_=>none
def kp (st:St)(T:TypeId->TI)(H:List Nat):(u:List RK)->List ResultVar->Option (cI (ai u))
 |[],[]=>some ⟨false,(),[],[],[]⟩
 |r::u,x::I=>bif decide (pv st T x=r.sh) then match r9 st H r (vC st T x),kp st T H u I with
  |some y,some z=>some ⟨y.p||z.p,(y.val,z.val),y.frz++z.frz,y.kill++z.kill,[]⟩
  |_,_=>none else none
 |_,_=>none
def finR (T:TypeId->TI)(ps:List PK)(z:List RK)(r:Bool)(u:List ResultVar)(st:St):Option (ai z×ah ps) :=
 match kp st T (bH 0 ps) z u,ic st 0 ps with
 |some y,some o=>bif aZ (y.kill++o.kill)&&dz (y.frz++o.frz) (y.kill++o.kill)&&(!r||!(y.p||o.p)) then some (y.val,o.val) else none
 |_,_=>none
def c5 (T:TypeId->TI)(ps:List PK)(y:List RK)(r:Bool)(u:List ResultVar):Ex->St->Option (ai y×ah ps)
 |.exit _,_=>none
 |_,z=>finR T ps y r u z
def lC (nt:Nat)(fix:List Nat)(r:Array Oper)(o:Oper):Bool :=
 (match o.dst with
  |some d=>B7 d nt&&!(fix.any (BD d))
  |none=>true) &&
 (match o.guard with
  |some (j,_)=>match (r[j]?).bind (·.dst) with
   |some s=>B7 s nt
   |none=>true
  |none=>true)
def wP (nt:Nat):Operand->Bool
 |.tmp t=>B7 t nt
 |_=>true
def dN (nt:Nat)(fix:List Nat):Code->Bool
 |.region _ r _=>r.toList.all (lC nt fix r)
 |.seq a b=>dN nt fix a&&dN nt fix b
 |.cond c a b=>wP nt c&&dN nt fix a&&dN nt fix b
 |.block _ c=>dN nt fix c
 |.loop c=>dN nt fix c
 |_=>true
def qo:List RK->Bool
 |[.box _]=>true
 |rs=>rs.all RK.isV
def dl (L:List (Nat×List (Nat×List Coe)))(u:List Nat):Code->Bool
 |.seq a b=>dl L u a&&dl L u b
 |.cond _ a b=>dl L u a&&dl L u b
 |.block _ c=>dl L u c
 |.loop c=>(u.all λb=>(lB L (eT c)).any λr=>BD r.1 b)&&dl L u c
 |_=>true
def evF (Γ:List Ctr)(T:TypeId->TI)(L:List (Nat×List (Nat×List Coe)))(u:Nat)(fn:Func)(ps:List PK)(y:List RK)(r:Bool)(x:ab ps):Option (ai y×ah ps) :=
 match fn.body with
 |some c=>bif dN fn.ntmps (gi 0 ps) c&&CB ps.length fn.ntmps&&CB fn.ntmps GH&&qo y&&dl L (bH 0 ps) c then
  evK Γ T L u c (av (c7 0 ps x)) (c5 T ps y r fn.results.toList) else none
 |none=>none
end
def e8 (e:Ty)(r:Nat)(xs:List e.den):Option ((List e.den×Unit)×Unit):=bif decide ((0+xs.length)*r<=ak) then some ((xs,()),()) else none
theorem j9 (e:Ty)(r:Nat):e8 e r []=some (([],()),()):=by
 unfold e8;simp[ak]
def jQ:Code->Nat->Oper
 |.region _ r _,i=>(r[i]?).getD ⟨none,.move (.tmp 0),0,"",#[],none⟩
 |_,_=>⟨none,.move (.tmp 0),0,"",#[],none⟩
def iz (e:Ty)(r:Nat)(xs:List e.den)(i:Int)(u:List e.den):Option ((List e.den×Unit)×Unit) :=
 if 0<=i/\i<=(xs.length:Int)/\0<u.length/\(xs.length+u.length)*r<=ak then some ((xs.take i.toNat++u++xs.drop i.toNat,()),()) else none
def l6 {α:Type}(r:α×Unit->Option Bool):List α->Option (List α)
 |[]=>some []
 |x::y=>(r (x,())).bind λb=>(l6 r y).map λu=>bif b then u else x::u
def gG (e:Ty)(xs:List e.den)(r:e.den×Unit->Option Bool):Option ((List e.den×Unit)×Unit):=if xs.length<=1048576 then (l6 r xs).map λu=>((u,()),()) else none
abbrev Ty.hd:Ty->Ty
 |.pair a b=>.pair a.hd b.hd
 |.list _ _ _=>.hdr
 |a=>a
abbrev hdD:(a:Ty)->a.den->a.hd.den
 |.pair a b,x=>(hdD a x.1,hdD b x.2)
 |.list _ _ e,r=>List.length (α:=e.den) r
 |.int _,x=>x
 |.bool,x=>x
 |.str,x=>x
 |.unit,x=>x
 |.hdr,x=>x
noncomputable def qp (e:Ty)(r:Nat)(xs:List e.den):Option ((List e.hd.den×Unit)×Unit):=(e8 e r xs).map λy=>((y.1.1.map (hdD e),()),())
def insI (n:Int):List Int->List Int
 |[]=>[n]
 |m::r=>if n<=m then n::m::r else m::insI n r
def zF:List Int->List Int
 |[]=>[]
 |n::r=>insI n (zF r)
def medianM (xs:List Int):Option ((Int×Unit)×Unit) :=
 let l:=zF (xs.drop (xs.length-3))
 some ((l.getD ((l.length-1) / 2) 0,()),())
def aV {R:Type}(x y:ByteArray)(k:ByteArray->Option R):Option R:=bif decide (x.size+y.size<=9223372036854775807) then k (x++y) else none
open Go.RowKit
def cX (w:World)(g off:Nat)(cs:List Value):Prop:=∀ i v,cs[i]?=some v->w.cell? ⟨g,off+i,none⟩=some v
theorem cX.same {w w':World}{g off:Nat}{cs:List Value}(h:cX w g off cs)(r:w'.heap[g]?=w.heap[g]?):cX w' g off cs:=by
 intro i v u;have:=h i v u;simpa[Ci,r]using this
def Rd (w:World)(G:Nat->Prop):(a:Ty)->a.den->List Value->Prop
 |.int k,n,r=>r=[.int k n]
 |.bool,b,r=>r=[.bool b]
 |.str,s,r=>r=[.string s]
 |.unit,_,r=>r=[]
 |.hdr,n,r=>∃ A u,r=[.slice A n u]
 |.pair a b,x,r=>∃ H z,r=H++z/\Rd w G a x.1 H/\Rd w G b x.2 z
 |.list _ _ e,y,r=>∃ A u,r=[.slice A y.length u]/\y.length<=u /\
  (0<y.length->∃ g o,A=some ⟨g,o,none⟩/\G g/\∀ j (x:e.den),y[j]?=some x->∃ c,Rd w G e x c/\cX w g (o+j*e.cells) c)
theorem Rd.carry {w w':World}{G G':Nat->Prop}(u:∀ k,G k->G' k)(r:∀ k,G k->w'.heap[k]?=w.heap[k]?) :
  ∀ {a:Ty} {x:a.den} {cs:List Value},Rd w G a x cs->Rd w' G' a x cs
 |.int _,_,_,h=>h
 |.bool,_,_,h=>h
 |.str,_,_,h=>h
 |.unit,_,_,h=>h
 |.hdr,_,_,h=>h
 |.pair _ _,_,_,⟨Y,Z,e,X,J⟩=>⟨Y,Z,e,Rd.carry u r X,Rd.carry u r J⟩
 |.list _ _ _,_,_,⟨A,z,e,hc,h⟩=>⟨A,z,e,hc,λhp=>by
   obtain⟨g,o,O,H,M⟩:=h hp;exact⟨g,o,O,u g H,λj x R=>by
    obtain⟨c,I,y⟩:=M j x R;exact⟨c,Rd.carry u r I,y.same (r g H)⟩⟩⟩
theorem Rd.mono {w:World}{G G':Nat->Prop}(r:∀ k,G k->G' k){a:Ty}{x:a.den}{cs:List Value}(h:Rd w G a x cs):Rd w G' a x cs :=
 Rd.carry r (λ_ _=>rfl) h
theorem Rd.len {w:World}{G:Nat->Prop}:∀ {a:Ty} {x:a.den} {cs:List Value},Rd w G a x cs->cs.length=a.cells
 |.int _,_,_,h=>by rw[show _=_ from h];rfl
 |.bool,_,_,h=>by rw[show _=_ from h];rfl
 |.str,_,_,h=>by rw[show _=_ from h];rfl
 |.unit,_,_,h=>by rw[show _=_ from h];rfl
 |.hdr,_,_,⟨A,r,e⟩=>by rw[e];rfl
 |.pair _ _,_,_,⟨H,z,e,y,u⟩=>by rw[e,CQ,Rd.len y,Rd.len u];rfl
 |.list _ _ _,_,_,⟨A,r,e,_,_⟩=>by rw[e];rfl
theorem Rd.one {w:World}{G:Nat->Prop}:∀ {a:Ty} {x:a.den} {cs:List Value},Rd w G a x cs->∀ v∈cs,v.oneCell'=true
 |.int _,_,_,h=>by rw[show _=_ from h];simp[BN]
 |.bool,_,_,h=>by rw[show _=_ from h];simp[BN]
 |.str,_,_,h=>by rw[show _=_ from h];simp[BN]
 |.unit,_,_,h=>by rw[show _=_ from h];simp
 |.hdr,_,_,⟨A,u,e⟩=>by rw[e];simp[BN]
 |.pair _ _,_,_,⟨I,H,e,z,y⟩=>by
  rw[e];intro v r;rcases BQ.1 r with r|r
  ·exact Rd.one z v r
  ·exact Rd.one y v r
 |.list _ _ _,_,_,⟨A,u,e,_,_⟩=>by rw[e];simp[BN]
theorem Rd.flat {w w':World}{G G':Nat->Prop}:∀ {a:Ty} {x:a.den} {cs:List Value},a.flat=true->Rd w G a x cs->Rd w' G' a x cs
 |.int _,_,_,_,h=>h
 |.bool,_,_,_,h=>h
 |.str,_,_,_,h=>h
 |.unit,_,_,_,h=>h
 |.hdr,_,_,_,h=>h
 |.pair _ _,_,_,r,⟨H,u,e,z,y⟩=>by
  simp only[Ty.flat,BG]at r;exact⟨H,u,e,Rd.flat r.1 z,Rd.flat r.2 y⟩
theorem ig:∀ {a b:Ty},a.sh=b.sh->a.cells=b.cells
 |.pair a b,.pair c d,h=>by
  simp only[Ty.sh,Ty.pair.injEq]at h;simp only[Ty.cells,ig h.1,ig h.2]
 |.int _,.int _,_|.int _,.bool,_|.int _,.str,_|.int _,.hdr,_|.int _,.list _ _ _,_=>rfl
 |.bool,.int _,_|.bool,.bool,_|.bool,.str,_|.bool,.hdr,_|.bool,.list _ _ _,_=>rfl
 |.str,.int _,_|.str,.bool,_|.str,.str,_|.str,.hdr,_|.str,.list _ _ _,_=>rfl
 |.hdr,.int _,_|.hdr,.bool,_|.hdr,.str,_|.hdr,.hdr,_|.hdr,.list _ _ _,_=>rfl
 |.list _ _ _,.int _,_|.list _ _ _,.bool,_|.list _ _ _,.str,_|.list _ _ _,.hdr,_|.list _ _ _,.list _ _ _,_=>rfl
 |.unit,.unit,_=>rfl
theorem su {A r B u:Type}(z:A=r)(H:B=u){x:A×B}{y:r×u}(h:HEq x y):HEq x.1 y.1/\HEq x.2 y.2:=by
 subst z;subst H;cases h;exact⟨HEq.rfl,HEq.rfl⟩
theorem sv {A r:Type}(z:A=r){xs:List A}{u:List r}(h:HEq xs u):xs.length=u.length/\∀ (j:Nat) (y:r),u[j]?=some y->∃ x:A,xs[j]?=some x/\HEq x y:=by
 subst z;cases h;exact⟨rfl,λj y H=>⟨y,H,HEq.rfl⟩⟩
theorem Rd.flags {w:World}{G:Nat->Prop}:∀ {a b:Ty} {x:a.den} {y:b.den} {cs:List Value},a.sh=b.sh->HEq x y->Rd w G a x cs->Rd w G b y cs
 |.pair a b,.pair c d,x,y,cs,h,r,⟨c1,c2,e,u,H⟩=>by
  simp only[Ty.sh,Ty.pair.injEq]at h;obtain⟨I,z⟩:=su (jD h.1) (jD h.2) r;exact⟨c1,c2,e,Rd.flags h.1 I u,Rd.flags h.2 z H⟩
 |.list _ _ e,.list _ _ e',xs,ys,cs,h,r,⟨A,J,u,H,I⟩=>by
  simp only[Ty.sh,Ty.list.injEq,true_and]at h;obtain⟨z,R⟩:=sv (jD h.2) r;refine⟨A,J,by rw[<- z];exact u,by rw[<- z];exact H,λhp=>?_⟩;obtain⟨g,o,Y,hg,X⟩:=I (by rw[z];exact hp);refine⟨g,o,Y,hg,λj y Z=>?_⟩;obtain⟨x,O,M⟩:=R j y Z;obtain⟨c,h8,h9⟩:=X j x O;rw[<- ig h.2];exact⟨c,Rd.flags h.2 M h8,h9⟩
 |.int k,.int k',x,y,cs,h,r,u=>by
  simp only[Ty.sh]at h
  grind
 |.bool,.bool,x,y,cs,h,r,u=>by cases r;exact u
 |.str,.str,x,y,cs,h,r,u=>by cases r;exact u
 |.unit,.unit,x,y,cs,h,r,u=>u
 |.hdr,.hdr,x,y,cs,h,r,u=>by cases r;exact u
def Row (w:World)(E:TypeId)(s:Nat)(v:Value)(n:Nat)(flat:List Value):Prop :=
 flat.length=n*s/\((v=.slice none 0 0/\n=0) \/
  ∃ g r u mk,v=.slice (some ⟨g,0,none⟩) n r/\w.heap[g]?=some (.cells u E mk)/\n<=r/\(mk=(0,0)/\r<=maxLen\/s=1/\u.size<=mk.1)/\r*s<=u.size/\u.toList.take (n*s)=flat)
theorem Row.of {w:World}{b:Nat}{E:TypeId}{s n:Nat}{v:Value}{flat:List Value}(h:w.ownsRow b E s v n flat):Row w E s v n flat:=by
 refine⟨h.1,h.2.imp id ?_⟩
 grind
theorem Row.same {w w':World}{E:TypeId}{s n:Nat}{v:Value}{flat:List Value}(h:Row w E s v n flat)(H:∀ k∈v.ownBlock.toList,w'.heap[k]?=w.heap[k]?):Row w' E s v n flat:=by
 refine⟨h.1,?_⟩;rcases h.2 with I|⟨g,u,y,mk,rfl,z,r⟩
 ·grind
 ·exact .inr ⟨g,u,y,mk,rfl,by rw[H g (by simp[B4])];exact z,r⟩
theorem Row.lt {w:World}{E:TypeId}{s n:Nat}{v:Value}{flat:List Value}(h:Row w E s v n flat):∀ k∈v.ownBlock.toList,k<w.heap.size:=by
 intro k r;rcases h.2 with ⟨rfl,_⟩|⟨g,u,y,_,rfl,z,_⟩
 ·simp[B4]at r
 ·simp[B4]at r
  grind
theorem Row.slice {w:World}{E:TypeId}{s n:Nat}{v:Value}{flat:List Value}(h:Row w E s v n flat):∃ A r,v=.slice A n r/\n<=r:=by
 rcases h.2 with ⟨rfl,z⟩|⟨g,r,u,_,rfl,_,y,_⟩
 ·grind
 ·grind
theorem Row.nil (w:World)(E:TypeId)(s:Nat):Row w E s (.slice none 0 0) 0 []:=⟨by simp,.inl ⟨rfl,rfl⟩⟩
theorem Row.cellAt {w:World}{E:TypeId}{s n g z:Nat}{flat:List Value}(h:Row w E s (.slice (some ⟨g,0,none⟩) n z) n flat)(j:Nat)(I:j<n*s):w.cell? ⟨g,j,none⟩=flat[j]?:=by
 rcases h.2 with ⟨u,_⟩|⟨M,H,y,mk,u,J,_,_,_,r⟩
 ·grind
 ·simp at u;obtain⟨rfl,rfl⟩:=u;rw[cell_of_row w g j y E mk J,<- r,BS,if_pos I];simp
theorem zG {mk:Nat×Nat}{s z c:Nat}(h:mk=(0,0)/\c<=maxLen\/s=1/\z<=mk.1):mk.2=0\/z<=mk.1:=h.imp (λh=>by rw[h.1]) (·.2)
theorem qW {w:World}{g j:Nat}{cs:Array Value}{E:TypeId}{mk:Nat×Nat}(r:w.heap[g]?=some (.cells cs E mk))(u:mk.2=0\/cs.size<=mk.1)(y:j<cs.size):w.frozen? ⟨g,j,none⟩=false:=by
 simp only[World.frozen?,r,Bool.and_eq_false_iff,decide_eq_false_iff_not];omega
def Mx (w:World)(G:Nat->Prop):(a:Ty)->Option Nat->Nat->a.den->List Value->List Nat->Prop
 |.int k,_,_,n,y,r=>y=[.int k n]/\r=[]
 |.bool,_,_,b,y,r=>y=[.bool b]/\r=[]
 |.str,_,_,s,y,r=>y=[.string s]/\r=[]
 |.unit,_,_,_,y,r=>y=[]/\r=[]
 |.hdr,_,_,n,y,r=>(∃ A J,y=[.slice A n J])/\r=[]
 |.pair a b,h,pos,x,y,r=>∃ R O M X,y=R++O/\r=M++X/\Mx w G a h pos x.1 R M/\Mx w G b h (pos+a.cells) x.2 O X
 |.list m E e,h,pos,I,y,r=>∃ v,y=[v]/\v.oneCell'=true /\
  (if m=true then (if h=some pos then r=[] else ∃ z H,Row w E e.cells v I.length z/\r=v.ownBlock.toList++(B6 I.length).flatMap H /\
    ∀ j (x:e.den),I[j]?=some x->∃ c,Mx w G e none 0 x c (H j)/\∀ i u,c[i]?=some u->z[j*e.cells+i]?=some u)
   else r=[]/\Rd w G (.list m E e) I [v])
def OwB (w:World)(G:Nat->Prop)(h:Option (Nat×Nat))(E:TypeId)(e:Ty)(xs:List e.den)(v:Value)(bs:List Nat):Prop :=
 ∃ r y,Row w E e.cells v xs.length r/\bs=v.ownBlock.toList++(B6 xs.length).flatMap y /\
  ∀ j (x:e.den),xs[j]?=some x->∃ c,Mx w G e (cJ h j) 0 x c (y j)/\∀ i u,c[i]?=some u->r[j*e.cells+i]?=some u
def OwH (w:World)(G:Nat->Prop)(h:Option (Nat×Nat))(E:TypeId)(e:Ty)(xs:List e.den)(v:Value)(bs:List Nat):Prop:=bs.Nodup/\OwB w G h E e xs v bs
abbrev Ow (w:World)(G:Nat->Prop)(E:TypeId)(e:Ty)(xs:List e.den)(v:Value)(bs:List Nat):Prop:=OwH w G none E e xs v bs
theorem OwB.one {w:World}{G:Nat->Prop}{h:Option (Nat×Nat)}{E:TypeId}{e:Ty}{xs:List e.den}{v:Value}{bs:List Nat}(H:OwB w G h E e xs v bs):v.oneCell'=true:=by
 obtain⟨r,z,y,_⟩:=H;obtain⟨A,u,rfl,_⟩:=y.slice;rfl
theorem bI {w:World}{G:Nat->Prop}{h:Option Nat}{E:TypeId}{e:Ty}{pos:Nat}{xs:List e.den}{cs:List Value}{bs:List Nat}(r:h≠some pos) :
  Mx w G (.list true E e) h pos xs cs bs<->∃ v,cs=[v]/\OwB w G none E e xs v bs:=by
 simp only[Mx,if_neg r];constructor
 ·rintro⟨v,h1,h2,h3⟩;exact⟨v,h1,h3⟩
 ·rintro⟨v,h1,h3⟩;exact⟨v,h1,h3.one,h3⟩
theorem je {w:World}{G:Nat->Prop}{E:TypeId}{e:Ty}{pos:Nat}{xs:List e.den}{cs:List Value}{bs:List Nat} :
  Mx w G (.list true E e) (some pos) pos xs cs bs<->∃ v,cs=[v]/\v.oneCell'=true/\bs=[]:=by
 simp only[Mx,if_true]
theorem cm {w:World}{G:Nat->Prop}{h:Option Nat}{E:TypeId}{e:Ty}{pos:Nat}{xs:List e.den}{cs:List Value}{bs:List Nat} :
  Mx w G (.list false E e) h pos xs cs bs<->bs=[]/\Rd w G (.list false E e) xs cs:=by
 simp only[Mx];constructor
 ·grind
 ·rintro⟨h1,h2⟩;obtain⟨A,r,y,u⟩:=h2;exact⟨_,y,rfl,h1,A,r,rfl,u⟩
theorem dV {n:Nat}{r:Nat->List Nat}{k:Nat}:k∈(B6 n).flatMap r<->∃ j,j<n/\k∈r j:=by simp
theorem Mx.carry {w w':World}{G G':Nat->Prop}(J:∀ k,G k->G' k)(I:∀ k,G k->w'.heap[k]?=w.heap[k]?) :
  ∀ {a:Ty} {h:Option Nat} {pos:Nat} {x:a.den} {cs:List Value} {bs:List Nat},(∀ k∈bs,w'.heap[k]?=w.heap[k]?)->Mx w G a h pos x cs bs->Mx w' G' a h pos x cs bs
 |.int _,_,_,_,_,_,_,h=>h
 |.bool,_,_,_,_,_,_,h=>h
 |.str,_,_,_,_,_,_,h=>h
 |.unit,_,_,_,_,_,_,h=>h
 |.hdr,_,_,_,_,_,_,h=>h
 |.pair _ _,_,_,_,_,_,z,⟨c1,c2,b1,b2,O,M,R,y⟩=>⟨c1,c2,b1,b2,O,M,Mx.carry J I (λk r=>z k (by rw[M];exact BJ _ r)) R,Mx.carry J I (λk r=>z k (by rw[M];exact BI _ r)) y⟩
 |.list m E e,h,pos,xs,cs,bs,z,H=>by
  cases m with
  |false =>
   rw[cm]at H ⊢;exact⟨H.1,H.2.carry J I⟩
  |true =>
   by_cases Z:h=some pos
   ·subst Z;rw[je]at H ⊢;exact H
   ·rw[bI Z]at H ⊢;obtain⟨v,O,u,X,R,y,h3⟩:=H;refine⟨v,O,u,X,R.same (λk r=>z k (by rw[y];exact BJ _ r)),y,λj x Y=>?_⟩;obtain⟨c,h4,h5⟩:=h3 j x Y;refine⟨c,?_,h5⟩;exact Mx.carry J I (λk r=>z k (by rw[y];exact BI _ (dV.2 ⟨j,(BF.1 Y).1,r⟩))) h4
theorem Mx.mono {w:World}{G G':Nat->Prop}(r:∀ k,G k->G' k){a:Ty}{h:Option Nat}{pos:Nat}{x:a.den}{cs:List Value}{bs:List Nat}(H:Mx w G a h pos x cs bs):Mx w G' a h pos x cs bs :=
 Mx.carry r (λ_ _=>rfl) (λ_ _=>rfl) H
theorem OwB.carry {w w':World}{G G':Nat->Prop}{h:Option (Nat×Nat)}{E:TypeId}{e:Ty}{xs:List e.den}{v:Value}{bs:List Nat}(H:OwB w G h E e xs v bs)
  (O:∀ k,G k->G' k) (M:∀ k,G k->w'.heap[k]?=w.heap[k]?) (J:∀ k∈bs,w'.heap[k]?=w.heap[k]?):OwB w' G' h E e xs v bs:=by
 obtain⟨r,z,Y,u,R⟩:=H;refine⟨r,z,Y.same (λk y=>J k (by rw[u];exact BJ _ y)),u,λj x I=>?_⟩;obtain⟨c,Z,X⟩:=R j x I;exact⟨c,Mx.carry O M (λk y=>J k (by rw[u];exact BI _ (dV.2 ⟨j,(BF.1 I).1,y⟩))) Z,X⟩
theorem OwH.carry {w w':World}{G G':Nat->Prop}{h:Option (Nat×Nat)}{E:TypeId}{e:Ty}{xs:List e.den}{v:Value}{bs:List Nat}(H:OwH w G h E e xs v bs)
 (u:∀ k,G k->G' k) (r:∀ k,G k->w'.heap[k]?=w.heap[k]?) (y:∀ k∈bs,w'.heap[k]?=w.heap[k]?):OwH w' G' h E e xs v bs:=⟨H.1,H.2.carry u r y⟩
theorem Mx.len {w:World}{G:Nat->Prop}:∀ {a:Ty} {h:Option Nat} {pos:Nat} {x:a.den} {cs:List Value} {bs:List Nat},Mx w G a h pos x cs bs->cs.length=a.cells
 |.int _,_,_,_,_,_,h=>by rw[h.1];rfl
 |.bool,_,_,_,_,_,h=>by rw[h.1];rfl
 |.str,_,_,_,_,_,h=>by rw[h.1];rfl
 |.unit,_,_,_,_,_,h=>by rw[h.1];rfl
 |.hdr,_,_,_,_,_,⟨⟨A,z,e⟩,_⟩=>by rw[e];rfl
 |.pair _ _,_,_,_,_,_,⟨M,J,H,O,u,I,y,r⟩=>by rw[u,CQ,y.len,r.len];rfl
 |.list _ _ _,_,_,_,_,_,⟨v,e,_⟩=>by rw[e];rfl
theorem Mx.one {w:World}{G:Nat->Prop}:∀ {a:Ty} {h:Option Nat} {pos:Nat} {x:a.den} {cs:List Value} {bs:List Nat},Mx w G a h pos x cs bs->∀ v∈cs,v.oneCell'=true
 |.int _,_,_,_,_,_,h=>by rw[h.1];simp[BN]
 |.bool,_,_,_,_,_,h=>by rw[h.1];simp[BN]
 |.str,_,_,_,_,_,h=>by rw[h.1];simp[BN]
 |.unit,_,_,_,_,_,h=>by rw[h.1];simp
 |.hdr,_,_,_,_,_,⟨⟨A,H,e⟩,_⟩=>by rw[e];simp[BN]
 |.pair _ _,_,_,_,_,_,⟨O,M,I,R,z,J,u,y⟩=>by
  rw[z];intro v r;rcases BQ.1 r with r|r
  ·exact u.one v r
  ·exact y.one v r
 |.list _ _ _,_,_,_,_,_,⟨v,e,u,_⟩=>by rw[e];simpa using u
theorem Mx.lt {w:World}{G:Nat->Prop}:∀ {a:Ty} {h:Option Nat} {pos:Nat} {x:a.den} {cs:List Value} {bs:List Nat},Mx w G a h pos x cs bs->∀ k∈bs,k<w.heap.size
 |.int _,_,_,_,_,_,h=>by rw[h.2];simp
 |.bool,_,_,_,_,_,h=>by rw[h.2];simp
 |.str,_,_,_,_,_,h=>by rw[h.2];simp
 |.unit,_,_,_,_,_,h=>by rw[h.2];simp
 |.hdr,_,_,_,_,_,h=>by rw[h.2];simp
 |.pair _ _,_,_,_,_,_,⟨c1,c2,Z,b2,O,J,y,u⟩=>by
  rw[J];intro k r;rcases BQ.1 r with r|r
  ·exact y.lt k r
  ·exact u.lt k r
 |.list m E e,h,pos,xs,cs,bs,H=>by
  cases m with
  |false=>rw[cm]at H;rw[H.1];simp
  |true =>
   by_cases I:h=some pos
   ·subst I;rw[je]at H
    grind
   ·rw[bI I]at H;obtain⟨v,O,z,X,y,u,M⟩:=H;rw[u];intro k r;rcases BQ.1 r with r|r
    ·exact y.lt k r
    ·obtain⟨j,R,r⟩:=dV.1 r;obtain⟨c,Y,_⟩:=M j _ (BH R);exact Y.lt k r
theorem OwB.lt {w:World}{G:Nat->Prop}{h:Option (Nat×Nat)}{E:TypeId}{e:Ty}{xs:List e.den}{v:Value}{bs:List Nat}(H:OwB w G h E e xs v bs):∀ k∈bs,k<w.heap.size:=by
 obtain⟨u,M,J,y,z⟩:=H;rw[y];intro k r;rcases BQ.1 r with r|r
 ·exact J.lt k r
 ·obtain⟨j,I,r⟩:=dV.1 r;obtain⟨c,O,_⟩:=z j _ (BH I);exact O.lt k r
theorem OwH.lt {w:World}{G:Nat->Prop}{h:Option (Nat×Nat)}{E:TypeId}{e:Ty}{xs:List e.den}{v:Value}{bs:List Nat}(H:OwH w G h E e xs v bs):∀ k∈bs,k<w.heap.size:=H.2.lt
theorem OwH.nodup {w:World}{G:Nat->Prop}{h:Option (Nat×Nat)}{E:TypeId}{e:Ty}{xs:List e.den}{v:Value}{bs:List Nat}(H:OwH w G h E e xs v bs):bs.Nodup:=H.1
theorem OwH.slice {w:World}{G:Nat->Prop}{h:Option (Nat×Nat)}{E:TypeId}{e:Ty}{xs:List e.den}{v:Value}{bs:List Nat}(H:OwH w G h E e xs v bs) :
  ∃ A r,v=.slice A xs.length r/\xs.length<=r:=by
 obtain⟨_,u,z,y,_⟩:=H;exact y.slice
theorem OwH.one {w:World}{G:Nat->Prop}{h:Option (Nat×Nat)}{E:TypeId}{e:Ty}{xs:List e.den}{v:Value}{bs:List Nat}(H:OwH w G h E e xs v bs):v.oneCell'=true:=H.2.one
theorem sw {w:World}{m:Bool}{E E':TypeId}{e:Ty}{xs:List e.den}{v:Value}{flat:List Value}{S:Nat->Prop}(R:Row w E e.cells v xs.length flat)(hS:∀ k∈v.ownBlock.toList,S k)
  (M:∀ j (x:e.den),xs[j]?=some x->∃ c,Rd w S e x c/\∀ i u,c[i]?=some u->flat[j*e.cells+i]?=some u):Rd w S (.list m E' e) xs [v]:=by
 rcases R.2 with ⟨rfl,Y⟩|⟨g,z,r,mk,rfl,X,Z,hm,hs,J⟩
 ·exact⟨none,0,by rw[Y],by omega,λhp=>by omega⟩
 ·refine⟨some ⟨g,0,none⟩,z,rfl,Z,λ_=>⟨g,0,rfl,hS g (by simp[B4]),λj x O=>?_⟩⟩;obtain⟨c,I,y⟩:=M j x O;refine⟨c,I,λi u H=>?_⟩;have:=y i u H;rw[<- J,BS]at this;split at this
  ·rw[CT,cell_of_row w g _ r E mk X]
   simp_all
  ·grind
theorem Mx.rd {w:World}{G S:Nat->Prop}(z:∀ k,G k->S k):∀ {a:Ty} {pos:Nat} {x:a.den} {cs:List Value} {bs:List Nat},(∀ k∈bs,S k)->Mx w G a none pos x cs bs->Rd w S a x cs
 |.int _,_,_,_,_,_,h=>h.1
 |.bool,_,_,_,_,_,h=>h.1
 |.str,_,_,_,_,_,h=>h.1
 |.unit,_,_,_,_,_,h=>h.1
 |.hdr,_,_,_,_,_,h=>h.1
 |.pair _ _,_,_,_,_,u,⟨c1,c2,b1,b2,J,R,M,y⟩=>⟨c1,c2,J,Mx.rd z (λk r=>u k (by rw[R];exact BJ _ r)) M,Mx.rd z (λk r=>u k (by rw[R];exact BI _ r)) y⟩
 |.list m E e,pos,xs,cs,bs,u,H=>by
  cases m with
  |false=>rw[cm]at H;exact H.2.mono z
  |true =>
   rw[bI (by simp)]at H;obtain⟨v,J,X,O,M,y,Z⟩:=H;rw[J];refine sw M (λk r=>u k (by rw[y];exact BJ _ r)) λj x Y=>?_
   obtain⟨c,h4,h5⟩:=Z j x Y;have I:Mx w G e none 0 x c (O j):=h4;exact⟨c,Mx.rd z (λk r=>u k (by rw[y];exact BI _ (dV.2 ⟨j,(BF.1 Y).1,r⟩))) I,h5⟩
theorem OwH.rd {w:World}{G:Nat->Prop}{m:Bool}{E E':TypeId}{e:Ty}{xs:List e.den}{v:Value}{bs:List Nat}(H:Ow w G E e xs v bs) :
  Rd w (λk=>G k\/k∈bs) (.list m E' e) xs [v]:=by
 obtain⟨_,z,y,R,I,M⟩:=H;refine sw R (λk r=>.inr (by rw[I];exact BJ _ r)) λj x J=>?_
 obtain⟨c,X,O⟩:=M j x J;have u:Mx w G e none 0 x c (y j):=X;exact⟨c,u.rd (λk r=>.inl r) (λk r=>.inr (by rw[I];exact BI _ (dV.2 ⟨j,(BF.1 J).1,r⟩))),O⟩
theorem OwH.nil (w:World)(G:Nat->Prop)(E:TypeId)(e:Ty):Ow w G E e [] (.slice none 0 0) [] :=
 ⟨List.nodup_nil,[],λ_=>[],Row.nil w E e.cells,rfl,λj x r=>by simp at r⟩
theorem Rd.nil (w:World)(G:Nat->Prop)(m:Bool)(E:TypeId)(e:Ty):Rd w G (.list m E e) [] [.slice none 0 0] :=
 ⟨none,0,rfl,BL _,λh=>by simp at h⟩
theorem Mx.flat {w w':World}{G G':Nat->Prop}:∀ {a:Ty} {h:Option Nat} {pos:Nat} {x:a.den} {cs:List Value},a.flat=true->Rd w G a x cs->Mx w' G' a h pos x cs []
 |.int _,_,_,_,_,_,h=>⟨h,rfl⟩
 |.bool,_,_,_,_,_,h=>⟨h,rfl⟩
 |.str,_,_,_,_,_,h=>⟨h,rfl⟩
 |.unit,_,_,_,_,_,h=>⟨h,rfl⟩
 |.hdr,_,_,_,_,_,h=>⟨h,rfl⟩
 |.pair _ _,_,_,_,_,r,⟨H,u,e,z,y⟩=>by
  simp only[Ty.flat,BG]at r;exact⟨H,u,[],[],e,rfl,Mx.flat r.1 z,Mx.flat r.2 y⟩
theorem Mx.shared {w:World}{G:Nat->Prop}:∀ {a:Ty} {h:Option Nat} {pos:Nat} {x:a.den} {cs:List Value},a.sh=a->Rd w G a x cs->Mx w G a h pos x cs []
 |.int _,_,_,_,_,_,h=>⟨h,rfl⟩
 |.bool,_,_,_,_,_,h=>⟨h,rfl⟩
 |.str,_,_,_,_,_,h=>⟨h,rfl⟩
 |.unit,_,_,_,_,_,h=>⟨h,rfl⟩
 |.hdr,_,_,_,_,_,h=>⟨h,rfl⟩
 |.pair _ _,_,_,_,_,r,⟨H,u,e,z,y⟩=>by
  simp only[Ty.sh,Ty.pair.injEq]at r;exact⟨H,u,[],[],e,rfl,Mx.shared r.1 z,Mx.shared r.2 y⟩
 |.list m E e,_,_,_,_,r,h=>by
  simp only[Ty.sh,Ty.list.injEq]at r;obtain⟨rfl,_⟩:=r;exact cm.2 ⟨rfl,h⟩
def de (agg:Bool)(v:Value)(cs:List Value):Prop:=if agg then v=.agg cs.toArray else cs=[v]
def sa (w:World)(G:Nat->Prop):(y:List Ty)->Tup y->List Value->Prop
 |[],_,u=>u=[]
 |a::as,x,u=>∃ v c r,u=v::r/\de a.isAgg v c/\Rd w G a x.1 c/\sa w G as x.2 r
def fQ (P:Program)(f:FuncId):Prop:=∀ (r:Array Value) (w:World),(callFunc f r).run P w=.ok (.enter f r) w
def ii (P:Program)(w0:World)(S:Nat->Prop)(H:List Ty)(B:Ty)(I:Tup H->Option B.den)(v:Value):Prop :=
 ∃ f r,v=.func (.func f) #[] r/\fQ P f /\
  ∀ w1:World,w0.heap.size<=w1.heap.size->(∀ k,S k->w1.heap[k]?=w0.heap[k]?) ->
   ∀ (x:Tup H) (z:List Value) (y:B.den),sa w1 (λk=>k<w1.heap.size) H x z->I x=some y ->
    Calls P f (z.toArray++r) w1 (λe w2=>∃ u c,e=.returned u/\de B.isAgg u c/\Rd w2 (λ_=>False) B y c/\Below w1.heap.size w1 w2)
structure Env where
 w0:World
 ro0:Nat->Prop
 own0:List Nat
 nt:Nat
 fixb:List (Nat×Nat)
 fixt:List (Nat×Value)
def Env.prot (V:Env)(k:Nat):Prop:=k<V.w0.heap.size/\k∉V.own0
structure Wit where
 β:Nat->Nat
 cs:Nat->List Value
 bs:Nat->Nat->List Nat
 nw:Nat->Prop
def gd (V:Env)(W:Wit)(p:Bool)(k:Nat):Prop:=W.nw k\/(p=true/\V.ro0 k)
def am:Leaf->Prop
 |.own _ _ _ _ _=>True
 |_=>False
def RpOk (V:Env)(W:Wit)(w:World)(p:Bool)(a:Ty)(x:a.den)(off:Nat)(v:Value):Prop :=
 ∃ g o c,v=.pointer (some ⟨g,o+off,none⟩)/\(W.nw g\/V.prot g)/\Rd w (gd V W p) a x c/\cX w g o c
def sb (V:Env)(W:Wit)(w:World)(p:Bool)(a:Ty)(x:a.den)(v:Value):Prop :=
 ∃ b r g o c,v=.pointer (some ⟨b,r,none⟩)/\(W.nw b\/V.prot b)/\w.cell? ⟨b,r,none⟩=some (.pointer (some ⟨g,o,none⟩)) /\
  (W.nw g\/V.prot g)/\Rd w (gd V W p) a x c/\cX w g o c
def iP (V:Env)(W:Wit)(w:World)(c:Bool×Bool×(a:Ty)×a.den)(v:Value):Prop :=
 if c.2.1=true then sb V W w c.1 c.2.2.1 c.2.2.2 v else RpOk V W w c.1 c.2.2.1 c.2.2.2 0 v
def sd (st:St)(ks:List (Nat×Nat×Nat)):Prop:=∀ k∈ks,∃ l,(st k.1).ls[k.2.1]?=some l/\am l
structure se (V:Env) (W:Wit) (w:World) (p:Bool) (ks:List (Nat×Nat×Nat)) (loc:Option (Nat×Nat×Nat)) (E:TypeId) (e:Ty) (xs:List e.den) (v:Value):Prop where
 rd:Rd w (λb=>gd V W p b\/∃ k∈ks,b∈W.bs k.1 k.2.1) (.list false E e) xs [v]
 at_:∀ i sz off,loc=some (i,sz,off)->∃ r j n,ks=[(r,j,n)]/\∃ g len cap,(W.cs r)[j]?=some (.slice (some ⟨g,0,none⟩) len cap)/\i<len/\g∈W.bs r j/\w.cell? ⟨g,i*sz+off,none⟩=some v
structure NpOk (V:Env) (W:Wit) (w:World) (p:Bool) (ks:List (Nat×Nat×Nat)) (a:Ty) (x:a.den) (off:Nat) (v:Value):Prop where
 rd:∃ g o c,v=.pointer (some ⟨g,o+off,none⟩)/\(gd V W p g\/∃ k∈ks,g∈W.bs k.1 k.2.1)/\Rd w (λb=>gd V W p b\/∃ k∈ks,b∈W.bs k.1 k.2.1) a x c/\cX w g o c
def aK (P:Program)(V:Env)(W:Wit)(st:St)(w:World)(bs:List Nat):Leaf->Value->Prop
 |.int k n,v=>v=.int k n
 |.bool b,v=>v=.bool b
 |.str s,v=>v=.string s
 |.nil,v=>v=.slice none 0 0
 |.hdr n,v=>∃ A H,v=.slice A n H
 |.ro p E e J,v=>Rd w (gd V W p) (.list false E e) J [v]
 |.own p h E e J,v=>OwH w (gd V W p) h E e J v bs
 |.al r j n,v=>n<=(st r).ver/\((st r).ver=n->(W.cs r)[j]?=some v)
 |.nal p z ep O E e J,v=>ep<=(st EPO).ver/\(∀ k∈z,k.2.2<=(st k.1).ver)/\((st EPO).ver=ep->(∀ k∈z,(st k.1).ver=k.2.2)->sd st z->se V W w p z O E e J v)
 |.ep r j n i X off,v=>n<=(st r).ver/\((st r).ver=n->∃ g I H,(W.cs r)[j]?=some (.slice (some ⟨g,0,none⟩) I H)/\i<I/\v=.pointer (some ⟨g,i*X+off,none⟩))
 |.np p z ep a x off,v=>ep<=(st EPO).ver/\(∀ k∈z,k.2.2<=(st k.1).ver)/\((st EPO).ver=ep->(∀ k∈z,(st k.1).ver=k.2.2)->sd st z->NpOk V W w p z a x off v)
 |.rp p a x off,v=>RpOk V W w p a x off v
 |.rpp p a x,v=>sb V W w p a x v
 |.bp b off,v=>B0<=b/\(st b).sh=.agg/\v=.pointer (some ⟨W.β b,off,none⟩)
 |.clo f y,v=>v=.func (.func f) #[] (y.map λb=>Value.pointer (some ⟨W.β b,0,none⟩)).toArray/\∀ b∈y,B0<=b/\(st b).sh=.agg
 |.clr f y,v=>∃ M:List Value,v=.func (.func f) #[] M.toArray/\M.length=y.length/\∀ (i:Nat) (c:Bool×Bool×(a:Ty)×a.den) (u:Value),y[i]?=some c->M[i]?=some u->iP V W w c u
 |.fn R B Y,v=>ii P V.w0 V.prot R B Y v
 |.dead,_=>True
def pw:List (Bool×Nat)->List Value->List Value->Prop
 |[],z,y=>z=[]/\y=[]
 |(agg,n)::H,z,y=>∃ v u c r,z=v::u/\y=c++r/\c.length=n/\de agg v c/\pw H u r
def ee:aI->Value->List Value->Prop
 |.off,_,r=>r=[]
 |.und,v,r=>v=undef/\r=[]
 |.one,v,r=>r=[v]
 |.agg,v,r=>v=.agg r.toArray
 |.tup y,v,r=>∃ u,v=.tuple u.toArray/\pw y u r
def live (st:St)(b:Nat):Prop:=B0<=b/\(st b).sh=.agg
structure an (P:Program) (V:Env) (W:Wit) (st:St) (a:Act) (w:World):Prop where
 nt:a.tmps.size=V.nt
 df:a.defers=[]
 slots:∀ t,t<GH->ee (st t).sh (a.tmps.getD t undef) (W.cs t)
 boxes:∀ b,B0<=b->((st b).sh=.off/\(st b).ls=[])\/((st b).sh=.agg/\∃ E,w.heap[W.β b]?=some (.cells (W.cs b).toArray E (0,0)))
 len:∀ r,(st r).ls.length=(W.cs r).length
 one:∀ r,∀ v∈W.cs r,v.oneCell'=true
 leaf:∀ r j l v,(st r).ls[j]?=some l->(W.cs r)[j]?=some v->aK P V W st w (W.bs r j) l v
 ownb:∀ r j l,(st r).ls[j]?=some l->am l->∀ k∈W.bs r j,¬ W.nw k/\¬ V.prot k/\∀ b,live st b->W.β b≠k
 sep:∀ r j l r' j' l',(st r).ls[j]?=some l->am l->(st r').ls[j']?=some l'->am l'->∀ k,k∈W.bs r j->k∈W.bs r' j'->r=r'/\j=j'
 box:∀ b,live st b->¬ W.nw (W.β b)/\¬ V.prot (W.β b)
 inj:∀ b b',live st b->live st b'->W.β b=W.β b'->b=b'
 nwlt:∀ k,W.nw k->k<w.heap.size/\¬ V.prot k
 os:w.os=V.w0.os
 tape:w.tape=V.w0.tape
 output:w.output=V.w0.output
 size:V.w0.heap.size<=w.heap.size
 keep:∀ k,V.prot k->w.heap[k]?=V.w0.heap[k]?
 fixb:∀ x∈V.fixb,live st x.1/\W.β x.1=x.2
 fixt:∀ x∈V.fixt,a.tmps.getD x.1 undef=x.2
def Rel (P:Program)(V:Env)(st:St)(a:Act)(w:World):Prop:=∃ W,an P V W st a w
structure ay (V:Env):Prop where
 ro:∀ k,V.ro0 k->V.prot k
 nt:V.nt<=GH
theorem ay.ntB {V:Env}(h:ay V):V.nt<=B0:=BO h.nt (by decide)
section
variable {P:Program} {V:Env} {W W':Wit} {st st':St} {w w':World}
theorem bT {p q:Bool}(y:p=true->q=true)(u:∀ k,W.nw k->W'.nw k):∀ k,gd V W p k->gd V W' q k:=by
 intro k r;rcases r with r|⟨z,r⟩
 ·exact .inl (u k r)
 ·exact .inr ⟨y z,r⟩
structure cA (V:Env) (W W':Wit) (st st':St) (w w':World):Prop where
 ver:∀ r,(st r).ver<=(st' r).ver/\((st' r).ver=(st r).ver->W'.cs r=W.cs r)
 box:∀ b,live st b->live st' b/\W'.β b=W.β b
 nw:∀ k,W.nw k->W'.nw k
 heap:∀ k,(W.nw k\/V.prot k)->w'.heap[k]?=w.heap[k]?
 epo:(st' EPO).ver=(st EPO).ver->∀ (r j:Nat) (l:Leaf),(st' r).ls[j]?=some l->am l->(st' r).ver=(st r).ver ->
  (∃ l',(st r).ls[j]?=some l'/\am l')/\W'.bs r j=W.bs r j/\∀ k∈W.bs r j,w'.heap[k]?=w.heap[k]?
theorem cA.refl (V:Env)(W:Wit)(st:St)(w:World):cA V W W st st w w :=
 ⟨λ_=>⟨BL _,λ_=>rfl⟩,λ_ y=>⟨y,rfl⟩,λ_ h=>h,λ_ _=>rfl,λ_ _ _ l u r _=>⟨⟨l,u,r⟩,rfl,λ_ _=>rfl⟩⟩
theorem kM {w w':World}{a:Addr}(h:w'.heap[a.block]?=w.heap[a.block]?):w'.cell? a=w.cell? a:=by simp[Ci,h]
theorem cA.gdheap (u:∀ k,V.ro0 k->V.prot k)(h:cA V W W' st st' w w')(p:Bool):∀ k,gd V W p k->w'.heap[k]?=w.heap[k]?:=by
 intro k r;rcases r with r|⟨_,r⟩
 ·exact h.heap k (.inl r)
 ·exact h.heap k (.inr (u k r))
theorem wQ {ks:List (Nat×Nat×Nat)}{ep:Nat}(u:cA V W W' st st' w w')(I:ep<=(st EPO).ver)(z:∀ k∈ks,k.2.2<=(st k.1).ver)(H:(st' EPO).ver=ep)(y:∀ k∈ks,(st' k.1).ver=k.2.2) :
  (st EPO).ver=ep/\∀ k∈ks,(st k.1).ver=k.2.2 :=
 ⟨by have:=(u.ver EPO).1;omega,λk r=>by have:=(u.ver k.1).1;have:=z k r;have:=y k r;omega⟩
theorem cA.places {ks:List (Nat×Nat×Nat)}{ep:Nat}(I:cA V W W' st st' w w')(M:sd st' ks)(O:(st EPO).ver=ep)(y:∀ k∈ks,(st k.1).ver=k.2.2)
  (R:(st' EPO).ver=ep) (z:∀ k∈ks,(st' k.1).ver=k.2.2) :
  ∀ k∈ks,(∃ u,(st k.1).ls[k.2.1]?=some u/\am u)/\W'.bs k.1 k.2.1=W.bs k.1 k.2.1/\∀ b∈W.bs k.1 k.2.1,w'.heap[b]?=w.heap[b]?:=λk r=>by
 obtain⟨l,H,J⟩:=M k r;exact I.epo (by omega) k.1 k.2.1 l H J (by rw[z k r,y k r])
theorem aK.carry (J:∀ k,V.ro0 k->V.prot k){bs bs':List Nat}{l:Leaf}{v:Value}(h:aK P V W st w bs l v)(y:cA V W W' st st' w w')
  (a2:am l->bs'=bs/\∀ k∈bs,w'.heap[k]?=w.heap[k]?):aK P V W' st' w' bs' l v:=by
 have hG:∀ p k,gd V W p k->gd V W' p k:=λp=>bT (λh=>h) y.nw
 have hP:∀ k,(W.nw k\/V.prot k)->(W'.nw k\/V.prot k):=λk M=>M.imp (y.nw k) id
 have hR:∀ {p:Bool} {a:Ty} {x:a.den} {off:Nat} {v:Value},RpOk V W w p a x off v->RpOk V W' w' p a x off v:=by
  rintro p a x off v ⟨g,o,c,Z,Y,hr,hc⟩;exact⟨g,o,c,Z,hP g Y,Rd.carry (hG p) (y.gdheap J p) hr,hc.same (y.heap g Y)⟩
 have a3:∀ {p:Bool} {a:Ty} {x:a.den} {v:Value},sb V W w p a x v->sb V W' w' p a x v:=by
  rintro p a x v ⟨b,ob,g,o,c,Z,I,a0,Y,hr,hc⟩;exact⟨b,ob,g,o,c,Z,hP b I,by rw[kM (y.heap b I)];exact a0,hP g Y,Rd.carry (hG p) (y.gdheap J p) hr,hc.same (y.heap g Y)⟩
 cases l with
 |int k n=>exact h
 |bool b=>exact h
 |str s=>exact h
 |nil=>exact h
 |hdr n=>exact h
 |ro p E e xs=>exact Rd.carry (hG p) (y.gdheap J p) h
 |own p hh E e xs =>
  obtain⟨rfl,I⟩:=a2 trivial;exact OwH.carry h (hG p) (y.gdheap J p) I
 |nal p ks ep a9 E e xs =>
  obtain⟨z,H,O⟩:=h;refine⟨BO z (y.ver EPO).1,λk M=>BO (H k M) (y.ver k.1).1,λhe M ho=>?_⟩;obtain⟨e1,e2⟩:=wQ y z H he M;have h5:=y.places ho e1 e2 he M;have R:=O e1 e2 (λk X=>(h5 k X).1);refine⟨Rd.carry ?_ ?_ R.rd,λi sz off hl=>?_⟩
  ·grind
  ·rintro b (I|⟨k,X,I⟩)
   ·exact y.gdheap J p b I
   ·grind
  ·obtain⟨r,j,n,rfl,g,a5,a6,h6,h7,h8,h9⟩:=R.at_ i sz off hl;have X:(r,j,n)∈[(r,j,n)]:=CR ..;have a4:(st' r).ver=(st r).ver:=(M _ X).trans (e2 _ X).symm;refine⟨r,j,n,rfl,g,a5,a6,by rw[(y.ver r).2 a4];exact h6,h7,by rw[(h5 _ X).2.1];exact h8,?_⟩;rw[kM ((h5 _ X).2.2 g h8)];exact h9
 |np p ks ep a x off =>
  obtain⟨z,H,O⟩:=h;refine⟨BO z (y.ver EPO).1,λk M=>BO (H k M) (y.ver k.1).1,λhe M ho=>?_⟩;obtain⟨e1,e2⟩:=wQ y z H he M;have h5:=y.places ho e1 e2 he M;have R:=O e1 e2 (λk X=>(h5 k X).1);have hS:∀ b,(gd V W p b\/∃ k∈ks,b∈W.bs k.1 k.2.1)->(gd V W' p b\/∃ k∈ks,b∈W'.bs k.1 k.2.1):=by
   grind
  have hW:∀ b,(gd V W p b\/∃ k∈ks,b∈W.bs k.1 k.2.1)->w'.heap[b]?=w.heap[b]?:=by
   rintro b (I|⟨k,X,I⟩)
   ·exact y.gdheap J p b I
   ·grind
  obtain⟨g,o,c,Z,Y,hr,hc⟩:=R.rd;exact⟨g,o,c,Z,hS g Y,Rd.carry hS hW hr,hc.same (hW g Y)⟩
 |al r j n =>
  obtain⟨z,H⟩:=h;obtain⟨O,R⟩:=y.ver r;refine⟨BO z O,λZ=>?_⟩
  grind
 |ep r j n i sz off =>
  obtain⟨z,H⟩:=h;obtain⟨O,R⟩:=y.ver r;refine⟨BO z O,λZ=>?_⟩
  grind
 |rp p a x off=>exact hR h
 |rpp p a x=>exact a3 h
 |clr f a1 =>
  obtain⟨us,z,H,O⟩:=h;refine⟨us,z,H,λi c u hc hu=>?_⟩;have R:=O i c u hc hu;unfold iP at R ⊢
  grind
 |bp b off =>
  obtain⟨z,H,O⟩:=h;obtain⟨R,h5⟩:=y.box b ⟨z,H⟩;exact⟨z,R.2,by rw[h5];exact O⟩
 |clo f a1 =>
  obtain⟨z,H⟩:=h;refine⟨?_,λb I=>(y.box b (H b I)).1⟩;rw[z];congr 2;refine List.map_congr_left λb I=>?_
  rw[(y.box b (H b I)).2]
 |fn As B φ=>exact h
 |dead=>trivial
def aC (P:Program)(V:Env)(W:Wit)(st:St)(w:World):List Leaf->List Value->Prop
 |[],[]=>True
 |l::u,v::r=>(aK P V W st w [] l v/\¬ am l/\v.oneCell'=true)/\aC P V W st w u r
 |_,_=>False
theorem aC.length:∀ {ls:List Leaf} {cs:List Value},aC P V W st w ls cs->ls.length=cs.length
 |[],[],_=>rfl
 |_::_,_::_,h=>by simp[aC.length h.2]
theorem aC.at_:∀ {ls:List Leaf} {cs:List Value},aC P V W st w ls cs->∀ (j:Nat) (l:Leaf) (v:Value),ls[j]?=some l->cs[j]?=some v->aK P V W st w [] l v/\¬ am l/\v.oneCell'=true
 |_::_,_::_,h,0,l,v,u,r=>by
  simp at u r;subst u;subst r;exact h.1
 |_::_,_::_,h,j+1,l,v,u,r=>aC.at_ h.2 j l v (by simpa using u) (by simpa using r)
theorem aC.one':∀ {ls:List Leaf} {cs:List Value},aC P V W st w ls cs->∀ v∈cs,v.oneCell'=true
 |[],[],_,_,r=>by simp at r
 |_::_,_::_,h,v,r=>by
  rcases CP.1 r with rfl|r
  ·exact h.1.2.2
  ·exact aC.one' h.2 v r
theorem aC.mk:∀ {ls:List Leaf} {cs:List Value},ls.length=cs.length->(∀ (j:Nat) (l:Leaf) (v:Value),ls[j]?=some l->cs[j]?=some v->aK P V W st w [] l v/\¬ am l/\v.oneCell'=true)->aC P V W st w ls cs
 |[],[],_,_=>trivial
 |_::_,_::_,h,H=>⟨H 0 _ _ rfl rfl,aC.mk (by simpa using h) λj l v u r=>H (j+1) l v (by simpa using u) (by simpa using r)⟩
theorem aC.drop {ls:List Leaf}{cs:List Value}(h:aC P V W st w ls cs)(n:Nat):aC P V W st w (ls.drop n) (cs.drop n) :=
 aC.mk (by simp[h.length]) λj l v u r=>h.at_ (n+j) l v (by simpa using u) (by simpa using r)
theorem aC.take {ls:List Leaf}{cs:List Value}(h:aC P V W st w ls cs)(n:Nat):aC P V W st w (ls.take n) (cs.take n) :=
 aC.mk (by simp[h.length]) λj l v y u=>by
  rw[BS]at y u;split at y
  ·rename_i r;rw[if_pos r]at u;exact h.at_ j l v y u
  ·grind
theorem aC.append {y H:List Leaf}{r z:List Value}(u:aC P V W st w y r)(J:aC P V W st w H z):aC P V W st w (y++H) (r++z):=by
 induction y generalizing r with
 |nil =>
  cases r with
  |nil=>simpa using J
  |cons=>simp[aC]at u
 |cons l O I =>
  cases r with
  |nil=>simp[aC]at u
  |cons v M=>exact⟨u.1,I u.2⟩
theorem aC.carry (r:∀ k,V.ro0 k->V.prot k)(u:cA V W W' st st' w w'):∀ {ls:List Leaf} {cs:List Value},aC P V W st w ls cs->aC P V W' st' w' ls cs
 |[],[],_=>trivial
 |_::_,_::_,h=>⟨⟨h.1.1.carry r u (λy=>absurd y h.1.2.1),h.1.2⟩,aC.carry r u h.2⟩
theorem e9 {G:Nat->Prop}{p:Bool}(y:∀ k,G k->gd V W p k):∀ {a:Ty} {x:a.den} {cs:List Value},Rd w G a x cs->aC P V W st w (cH p a x) cs
 |.int _,_,_,h=>by rw[show _=_ from h];exact⟨⟨rfl,id,rfl⟩,trivial⟩
 |.bool,_,_,h=>by rw[show _=_ from h];exact⟨⟨rfl,id,rfl⟩,trivial⟩
 |.str,_,_,h=>by rw[show _=_ from h];exact⟨⟨rfl,id,rfl⟩,trivial⟩
 |.unit,_,_,h=>by rw[show _=_ from h];trivial
 |.hdr,_,_,⟨A,r,e⟩=>by rw[e];exact⟨⟨⟨A,r,rfl⟩,id,rfl⟩,trivial⟩
 |.pair _ _,_,_,⟨M,J,e,H,u⟩=>by rw[e];exact (e9 y H).append (e9 y u)
 |.list m E e,I,_,h=>by
  obtain⟨A,r,rfl,u,z⟩:=h;exact⟨⟨Rd.mono y (⟨A,r,rfl,u,z⟩:Rd w _ (.list false E e) I _),id,rfl⟩,trivial⟩
theorem gH (p:Bool):∀ (a:Ty) (x:a.den),(cH p a x).length=a.cells
 |.int _,_=>rfl
 |.bool,_=>rfl
 |.str,_=>rfl
 |.unit,_=>rfl
 |.hdr,_=>rfl
 |.pair a b,x=>by simp[cH,Ty.cells,gH p a,gH p b]
 |.list _ _ _,_=>rfl
theorem cG (p:Bool):∀ (a:Ty) (x:a.den),(ap p a x).length=a.cells
 |.int _,_=>rfl
 |.bool,_=>rfl
 |.str,_=>rfl
 |.unit,_=>rfl
 |.hdr,_=>rfl
 |.pair a b,x=>by simp[ap,Ty.cells,cG p a,cG p b]
 |.list _ _ _,_=>rfl
theorem iQ (t n:Nat):∀ (j:Nat) (ls:List Leaf),(bG t n j ls).length=ls.length
 |_,[]=>rfl
 |j,_::ls=>by simp[bG,iQ t n (j+1) ls]
theorem oa (t n:Nat):∀ (j:Nat) (ls:List Leaf) (i:Nat) (l:Leaf),ls[i]?=some l->(bG t n j ls)[i]?=some (lS t (j+i) n l)
 |j,r::ls,0,l,h=>by
  simp at h;subst h;simp[bG]
 |j,r::ls,i+1,l,h=>by
  have:=oa t n (j+1) ls i l (by simpa using h);simp only[bG]
  grind
theorem iA {a:Act}(h:an P V W st a w)(r:Nat):aC P V W st w (bG r (st r).ver 0 (st r).ls) (W.cs r):=by
 refine aC.mk (by rw[iQ,h.len]) λj l v u y=>?_
 have J:j<(st r).ls.length:=by
  have:=(BF.1 u).1;simpa[iQ]using this
 have I:(st r).ls[j]?=some (st r).ls[j]:=BH J;have M:=oa r (st r).ver 0 (st r).ls j _ I;rw[M]at u;have z:=h.leaf r j _ v I y;have H:=h.one r v (List.mem_of_getElem? y);simp at u;subst u;generalize O:(st r).ls[j]=q at z;cases q with
 |own p R E e X=>exact⟨⟨BL _,λ_=>by simpa using y⟩,id,H⟩
 |_=>exact⟨z,id,H⟩
theorem sx {v:Value}{l:Leaf}(h:iu v=some l):aK P V W st w [] l v/\¬ am l/\v.oneCell'=true:=by
 unfold iu at h;split at h <;> simp at h <;> subst h <;> exact⟨rfl,id,rfl⟩
theorem cU {a:Act}(h:an P V W st a w)(x:Operand) :
  ∃ r,ee (au st x).1 (a.eval x) r/\aC P V W st w (au st x).2 r:=by
 cases x with
 |tmp t =>
  simp only[au];cases y:B7 t GH with
  |false=>exact⟨[],rfl,trivial⟩
  |true=>exact⟨W.cs t,h.slots t (by simpa using y),iA h t⟩
 |const v =>
  simp only[au];cases u:iu v with
  |none=>exact⟨[],rfl,trivial⟩
  |some l=>exact⟨[v],rfl,⟨sx u,trivial⟩⟩
 |func f=>exact⟨[.func (.func f) #[] #[]],rfl,⟨⟨⟨rfl,λb z=>by simp at z⟩,id,rfl⟩,trivial⟩⟩
 |global g=>exact⟨[],rfl,trivial⟩
theorem bt {a:Act}(h:an P V W st a w)(x:Operand)(y:one st x≠.dead) :
  aK P V W st w [] (one st x) (a.eval x)/\¬ am (one st x)/\(a.eval x).oneCell'=true/\(au st x).1=.one/\(au st x).2=[one st x]:=by
 obtain⟨H,z,r⟩:=cU h x;unfold one at y ⊢;split at y
 ·rename_i l I;simp only[I]at z r ⊢;have u:H=[a.eval x]:=z;subst u;exact⟨r.1.1,r.1.2.1,r.1.2.2,by simp,by simp⟩
 ·grind
theorem fg {r j n:Nat}{l:Leaf}(u:aD st (.al r j n)=l)(y:l≠.dead):(st r).ver=n/\(st r).ls[j]?=some l:=by
 simp only[aD]at u;cases z:BD (st r).ver n with
 |false=>simp only[z]at u;exact absurd u.symm y
 |true =>
  simp only[z,cond_true]at u;refine⟨BE z,?_⟩;rw[BV]at u;cases H:(st r).ls[j]? with
  |none=>simp only[H]at u;exact absurd u.symm y
  |some I =>
   simp only[H,Option.getD_some]at u;cases I with
   |nal=>simp only[po]at u;exact absurd u.symm y
   |_=>simp only[po]at u;rw[u]
theorem iR {r j n:Nat}{p:Bool}{ks:List (Nat×Nat×Nat)}{ep:Nat}{u:Option (Nat×Nat×Nat)}{E:TypeId}{e:Ty}{xs:List e.den}:aD st (.al r j n)≠.nal p ks ep u E e xs:=by
 simp only[aD];cases BD (st r).ver n with
 |false=>simp
 |true =>
  cases (st r).ls.getD j .dead <;> simp[po]
theorem kq {a:Act}(h:an P V W st a w){r j n:Nat}{p:Bool}{u:Option (Nat×Nat)}{E:TypeId}{e:Ty}{xs:List e.den}{v:Value}(I:aD st (.al r j n)=.own p u E e xs)
  (J:aK P V W st w [] (.al r j n) v):(W.cs r)[j]?=some v/\OwH w (gd V W p) u E e xs v (W.bs r j)/\(st r).ls[j]?=some (.own p u E e xs)/\(st r).ver=n:=by
 obtain⟨z,y⟩:=fg I (by simp);have H:=J.2 z;exact⟨H,h.leaf r j _ v y H,y,z⟩
theorem vD {ls:List Leaf}{j:Nat}(h:lz (ls.getD j .dead)=true):∃ l,ls[j]?=some l/\am l:=by
 rw[BV]at h;cases r:ls[j]? with
 |none=>rw[r]at h;simp[lz]at h
 |some l =>
  rw[r]at h;refine⟨l,rfl,?_⟩;cases l <;> simp[lz]at h;trivial
theorem ct {ks:List (Nat×Nat×Nat)}{ep:Nat}(h:br st ks ep=true):(st EPO).ver=ep/\(∀ k∈ks,(st k.1).ver=k.2.2)/\sd st ks:=by
 simp only[br,BG,List.all_eq_true]at h;exact⟨BE h.1,λk r=>BE (h.2 k r).1,λk r=>vD (h.2 k r).2⟩
theorem pz {p:Bool}{ks:List (Nat×Nat×Nat)}{ep:Nat}{r:Option (Nat×Nat×Nat)}{E:TypeId}{e:Ty}{xs:List e.den}{v:Value}(u:br st ks ep=true)
 (y:aK P V W st w [] (.nal p ks ep r E e xs) v):se V W w p ks r E e xs v:=y.2.2 (ct u).1 (ct u).2.1 (ct u).2.2
def bo (V:Env)(W:Wit)(p:Bool)(ks:List (Nat×Nat))(k:Nat):Prop:=gd V W p k\/∃ x∈ks,k∈W.bs x.1 x.2
theorem jR {E:TypeId}{e:Ty}{E':TypeId}{e':Ty}{xs:List e'.den}{r:List e.den}(h:lT E e E' e' xs=some r) :
  ∃ (y:E'=E) (u:e'=e),u ▸ xs=r:=by
 unfold lT at h
 grind
theorem ud {e e':Ty}{xs:List e'.den}{r:List e.den}(h:castSh e e' xs=some r):e'.sh=e.sh/\HEq xs r:=by
 unfold castSh at h
 grind
theorem Rd.castSh {G:Nat->Prop}{m m':Bool}{E E':TypeId}{e e':Ty}{xs:List e'.den}{H:List e.den}{cs:List Value}(h:castSh e e' xs=some H)(I:Rd w G (.list m E' e') xs cs):Rd w G (.list m' E e) H cs:=by
 obtain⟨O,J⟩:=ud h;have M:Rd w G (.list m E e) H cs:=by
  refine Rd.flags (a:=.list m E e') (x:=xs) (by simp only[Ty.sh,O]) J ?_;obtain⟨A,r,y,z,u⟩:=I;exact⟨A,r,y,z,u⟩
 obtain⟨A,r,y,z,u⟩:=M;exact⟨A,r,y,z,u⟩
theorem kr (st:St):∀ (r u:List Leaf),bz st (r++u)=bz st r++bz st u
 |[],_=>rfl
 |l::r,u=>by
  have:=kr st r u;cases l <;> simp[bz,this]
theorem sy (st:St):∀ (r u:List Leaf),bZ st (r++u)=bZ st r++bZ st u
 |[],_=>rfl
 |l::r,u=>by
  have:=sy st r u;cases l <;> simp[bZ,this]
theorem kN {a:Act}(h:an P V W st a w){m:Bool}{E:TypeId}{e:Ty}{l:Leaf}{v:Value}{p:Bool}{xs:List e.den}
  (hl:aK P V W st w [] l v) (a1:¬ am l) (u:dh e (aD st l)=some (p,xs)):Rd w (bo V W p (bz st [l])) (.list m E e) xs [v]:=by
 have I:∀ (q:Leaf) (bs:List Nat) (S:Nat->Prop),aK P V W st w bs q v->dh e q=some (p,xs)->(∀ k,gd V W p k->S k)->(am q->∀ k∈bs,S k) ->
   (∀ q' J ep z E' H X,q=.nal q' J ep z E' H X->br st J ep=true/\∀ k∈J,∀ b∈W.bs k.1 k.2.1,S b)->Rd w S (.list m E e) xs [v]:=by
  intro q bs S O u hS hb hn;cases q with
  |ro q E' H Y =>
   simp only[dh,BR]at u;obtain⟨zs,Z,rfl,rfl⟩:=u;exact Rd.castSh Z (Rd.mono hS O)
  |nil =>
   obtain⟨rfl,rfl⟩:=u;rw[show v=_ from O];exact Rd.nil w _ m E e
  |own q hh E' H Y =>
   cases hh with
   |some _=>simp[dh]at u
   |none =>
    simp only[dh,BR]at u;obtain⟨zs,Z,rfl,rfl⟩:=u;refine Rd.castSh Z (Rd.mono (λk y=>?_) (OwH.rd (m:=false) (E':=E') O));exact y.elim (hS k) (hb trivial k)
  |nal q J ep z E' H Y =>
   simp only[dh,BR,Cd]at u;obtain⟨zs,Z,rfl,rfl⟩:=u;obtain⟨M,hn⟩:=hn _ _ _ _ _ _ _ rfl;have h1:se V W w q J z E' H Y v:=O.2.2 (ct M).1 (ct M).2.1 (ct M).2.2;refine Rd.castSh Z (Rd.mono (λk y=>?_) h1.rd);rcases y with y|⟨x,hx,y⟩
   ·grind
   ·grind
  |_=>simp[dh]at u
 cases l with
 |al r j n =>
  by_cases hd:aD st (.al r j n)=.dead
  ·rw[hd]at u;simp[dh]at u
  ·obtain⟨h1,h2⟩:=fg rfl hd;have h3:=h.leaf r j _ v h2 (hl.2 h1);generalize O:aD st (.al r j n)=q at u h2 h3;refine I q (W.bs r j) _ h3 u (λk y=>.inl y) (λR k y=>.inr ⟨(r,j),?_,y⟩) ?_
   ·cases q <;> first|exact R.elim|simp[bz,O]
   ·rintro q' J ep z E' H X rfl;exact absurd O iR
 |own q hh E' H Y=>exact absurd trivial a1
 |nal q J ep z E' H Y =>
  simp only[aD]at u;cases M:br st J ep with
  |false=>simp[M,dh]at u
  |true =>
   simp only[M]at u;refine I _ [] _ hl u (λk y=>.inl y) (λR=>R.elim) ?_;intro q' a4 a6 a2 a3 a5 X a0;cases a0;refine⟨M,λk y b hb=>.inr ⟨(k.1,k.2.1),?_,hb⟩⟩;simp only[bz,aD]
   grind
 |ro q E' H Y=>exact I _ [] _ hl u (λk y=>.inl y) (λR=>R.elim) (λ_ _ _ _ _ _ _ h=>by cases h)
 |nil=>exact I _ [] _ hl u (λk y=>.inl y) (λR=>R.elim) (λ_ _ _ _ _ _ _ h=>by cases h)
 |_=>simp[aD,dh]at u
theorem wR {a:Act}(h:an P V W st a w){l:Leaf}{v:Value}{n:Nat}(X:aK P V W st w [] l v)(Y:¬ am l)(u:fX (aD st l)=some n):Rd w (λ_=>False) .hdr n [v]:=by
 have H:∀ (q:Leaf) (bs:List Nat),aK P V W st w bs q v->fX q=some n->(∀ p J ep z E e O,q=.nal p J ep z E e O->br st J ep=true)->Rd w (λ_=>False) .hdr n [v]:=by
  intro q bs I u hn;cases q with
  |ro p E e O =>
   simp only[fX,BK]at u;subst u;obtain⟨A,y,M,_⟩:=I;exact⟨A,y,M⟩
  |own p hh E e O =>
   simp only[fX,BK]at u;subst u;obtain⟨A,y,M,_⟩:=OwH.slice I;exact⟨A,y,by rw[M]⟩
  |nal p J ep z E e O =>
   simp only[fX,BK]at u;subst u;have R:=hn _ _ _ _ _ _ _ rfl;obtain⟨A,y,M,_⟩:=(I.2.2 (ct R).1 (ct R).2.1 (ct R).2.2:se V W w p J z E e O v).rd;exact⟨A,y,M⟩
  |nil =>
   simp only[fX,BK]at u;subst u;exact⟨none,0,by rw[show v=_ from I]⟩
  |hdr m =>
   simp only[fX,BK]at u;subst u;obtain⟨A,y,M⟩:=I;exact⟨A,y,by rw[M]⟩
  |_=>simp[fX]at u
 cases l with
 |al r j m =>
  by_cases hd:aD st (.al r j m)=.dead
  ·rw[hd]at u;simp[fX]at u
  ·obtain⟨h1,h2⟩:=fg rfl hd;have h3:=h.leaf r j _ v h2 (X.2 h1);refine H _ _ h3 u λp J ep z E e O I=>absurd I iR
 |own q hh Z e' ys=>exact absurd trivial Y
 |nal q J ep z Z e' ys =>
  simp only[aD]at u;cases R:br st J ep with
  |false=>simp[R,fX]at u
  |true =>
   grind
 |ro q Z e' ys=>exact H _ [] X u (λ_ _ _ _ _ _ _ h=>by cases h)
 |nil=>exact H _ [] X u (λ_ _ _ _ _ _ _ h=>by cases h)
 |hdr m=>exact H _ [] X u (λ_ _ _ _ _ _ _ h=>by cases h)
 |_=>simp[aD,fX]at u
theorem kO {a:Act}(h:an P V W st a w):∀ (b:Ty) (ls:List Leaf) (cs:List Value) (p:Bool) (x:b.den) (r:List Leaf),aC P V W st w ls cs ->
  a8 st b ls=some (p,x,r)->∃ M R O,cs=M++R/\ls=O++r/\aC P V W st w O M/\aC P V W st w r R/\Rd w (bo V W p (bz st O)) b x M
 |.int k,ls,cs,p,x,r,H,u=>by
  simp only[a8]at u;split at u
  ·rename_i k' n ls;split at u
   ·rename_i I;obtain⟨rfl,rfl,rfl⟩:=u;cases cs with
    |nil=>exact H.elim
    |cons v cs=>exact⟨[v],cs,[_],rfl,rfl,⟨H.1,trivial⟩,H.2,by rw[show v=_ from H.1.1,I];rfl⟩
   ·grind
  ·grind
 |.bool,ls,cs,p,x,r,H,u=>by
  simp only[a8]at u;split at u
  ·simp at u;obtain⟨rfl,rfl,rfl⟩:=u;cases cs with
   |nil=>exact H.elim
   |cons v cs=>exact⟨[v],cs,[_],rfl,rfl,⟨H.1,trivial⟩,H.2,by rw[show v=_ from H.1.1];rfl⟩
  ·grind
 |.str,ls,cs,p,x,r,H,u=>by
  simp only[a8]at u;split at u
  ·simp at u;obtain⟨rfl,rfl,rfl⟩:=u;cases cs with
   |nil=>exact H.elim
   |cons v cs=>exact⟨[v],cs,[_],rfl,rfl,⟨H.1,trivial⟩,H.2,by rw[show v=_ from H.1.1];rfl⟩
  ·grind
 |.unit,ls,cs,p,x,r,H,u=>by
  obtain⟨rfl,_,rfl⟩:=u;exact⟨[],cs,[],rfl,rfl,trivial,H,rfl⟩
 |.hdr,ls,cs,p,x,r,H,u=>by
  simp only[a8]at u;split at u
  ·rename_i l J;split at u
   ·rename_i n hn;obtain⟨rfl,rfl,rfl⟩:=u;cases cs with
    |nil=>exact H.elim
    |cons v cs=>exact⟨[v],cs,[l],rfl,rfl,⟨H.1,trivial⟩,H.2,wR h H.1.1 H.1.2.1 hn⟩
   ·grind
  ·grind
 |.pair b c,ls,cs,p,x,r,H,u=>by
  simp only[a8]at u;split at u
  ·rename_i q y J hb;split at u
   ·rename_i q' z Y hc;simp at u;obtain⟨rfl,rfl,rfl⟩:=u;obtain⟨M,R,O,e1,e2,h1,h2,h3⟩:=kO h b ls cs q y J H hb;obtain⟨Z,c4,l2,e3,e4,h4,h5,h6⟩:=kO h c J R q' z Y h2 hc;refine⟨M++Z,c4,O++l2,by rw[e1,e3,B5],by rw[e2,e4,B5],h1.append h4,h5,M,Z,rfl,?_,?_⟩
    ·refine Rd.mono (λk I=>?_) h3;rcases I with I|⟨y,X,I⟩
     ·exact .inl (bT (by simp_all) (λ_ h=>h) k I)
     ·exact .inr ⟨y,by rw[kr];exact BJ _ X,I⟩
    ·refine Rd.mono (λk I=>?_) h6;rcases I with I|⟨y,X,I⟩
     ·exact .inl (bT (by simp_all) (λ_ h=>h) k I)
     ·exact .inr ⟨y,by rw[kr];exact BI _ X,I⟩
   ·grind
  ·grind
 |.list m E e,ls,cs,p,x,r,H,u=>by
  simp only[a8]at u;split at u
  ·rename_i l J;split at u
   ·rename_i q ys ha;obtain⟨rfl,rfl,rfl⟩:=u;cases cs with
    |nil=>exact H.elim
    |cons v cs=>exact⟨[v],cs,[l],rfl,rfl,⟨H.1,trivial⟩,H.2,kN h H.1.1 H.1.2.1 ha⟩
   ·grind
  ·grind
theorem eE {a:Act}(h:an P V W st a w){b:Ty}{ls:List Leaf}{cs:List Value}{p:Bool}{x:b.den}(z:aC P V W st w ls cs)
  (u:cQ st b ls=some (p,x)):Rd w (bo V W p (bz st ls)) b x cs:=by
 unfold cQ at u;split at u
 ·rename_i q y H;obtain⟨Y,r,R,O,J,X,I,M⟩:=kO h b ls cs _ _ _ z H;have:r=[]:=by
   cases r with
   |nil=>rfl
   |cons=>exact I.elim
  simp_all
 ·grind
end
section
variable {P:Program} {V:Env} {W W':Wit} {st st':St} {w w':World} {a:Act}
theorem bC (A B:Upd)(st:St):ac (A++B) st=ac A (ac B st):=by
 funext q;induction A with
 |nil=>rfl
 |cons x A u=>obtain⟨r,c⟩:=x;simp only[CZ,ac,u]
theorem aP (r:Nat)(c:bQ)(U:Upd)(st:St):ac ((r,c)::U) st=ac [(r,c)] (ac U st):=bC [(r,c)] U st
theorem bk (r:Nat)(c:bQ)(st:St):ac [(r,c)] st r=c:=by simp[ac]
theorem aJ {r q:Nat}(h:q≠r)(c:bQ)(st:St):ac [(r,c)] st q=st q:=by
 have:BD q r=false:=by
  cases u:BD q r with
  |false=>rfl
  |true=>exact absurd (BE u) h
 simp[ac,this]
theorem aj (r q:Nat)(c:bQ)(st:St):(q=r/\ac [(r,c)] st q=c)\/(q≠r/\ac [(r,c)] st q=st q):=by
 by_cases h:q=r
 ·subst h;exact .inl ⟨rfl,bk q c st⟩
 ·exact .inr ⟨h,aJ h c st⟩
def ca (V:Env)(W:Wit)(st:St)(k:Nat):Prop :=
 W.nw k\/V.prot k\/(∃ b,live st b/\W.β b=k)\/∃ r j l,(st r).ls[j]?=some l/\am l/\k∈W.bs r j
theorem an.own_lt (h:an P V W st a w){r j:Nat}{l:Leaf}(u:(st r).ls[j]?=some l)(z:am l):∀ k∈W.bs r j,k<w.heap.size:=by
 have y:j<(W.cs r).length:=by rw[<- h.len];exact (BF.1 u).1
 have:=h.leaf r j l _ u (BH y);cases l <;> simp only[am]at z;exact OwH.lt this
theorem an.box_lt (h:an P V W st a w){b:Nat}(r:live st b):W.β b<w.heap.size:=by
 rcases h.boxes b r.1 with ⟨u,_⟩|⟨_,E,y⟩
 ·exact absurd (u.symm.trans r.2) (by simp)
 ·grind
theorem an.used_lt (h:an P V W st a w):∀ k,ca V W st k->k<w.heap.size:=by
 intro k u;rcases u with u|u|⟨b,I,rfl⟩|⟨r,j,l,z,y,H⟩
 ·exact (h.nwlt k u).1
 ·exact BZ u.1 h.size
 ·exact h.box_lt I
 ·exact h.own_lt z y k H
theorem an.world (Z:ay V)(h:an P V W st a w)(X:w.heap.size<=w'.heap.size)(O:w'.os=w.os)(Y:w'.tape=w.tape)(M:w'.output=w.output)
  (u:∀ k,ca V W st k->w'.heap[k]?=w.heap[k]?):an P V W st a w':=by
 have H:cA V W W st st w w':=⟨λr=>⟨BL _,λ_=>rfl⟩,λb J=>⟨J,rfl⟩,λ_ h=>h,λk h=>u k (h.elim .inl (λh=>.inr (.inl h))),
  λ_ r j l y I _=>⟨⟨l,y,I⟩,rfl,λk z=>u k (.inr (.inr (.inr ⟨r,j,l,y,I,z⟩)))⟩⟩
 exact {
  nt:=h.nt,df:=h.df,slots:=h.slots,
  boxes:=λb J=>(h.boxes b J).imp id λ⟨y,E,I⟩=>⟨y,E,by rw[u _ (.inr (.inr (.inl ⟨b,⟨J,y⟩,rfl⟩)))];exact I⟩
  len:=h.len,one:=h.one,
  leaf:=λr j l v y I=>(h.leaf r j l v y I).carry Z.ro H (λM=>⟨rfl,λk z=>u k (.inr (.inr (.inr ⟨r,j,l,y,M,z⟩)))⟩)
  ownb:=h.ownb,sep:=h.sep,box:=h.box,inj:=h.inj,
  nwlt:=λk u=>⟨BZ (h.nwlt k u).1 X,(h.nwlt k u).2⟩
  os:=O.trans h.os,tape:=Y.trans h.tape,output:=M.trans h.output,size:=BO h.size X,
  keep:=λk R=>(u k (.inr (.inl R))).trans (h.keep k R)
  fixb:=h.fixb,fixt:=h.fixt }
theorem an.below (y:ay V)(h:an P V W st a w)(r:Below w.heap.size w w'):an P V W st a w' :=
 h.world y r.size r.os r.tape r.output λk u=>r.block k (h.used_lt k u)
theorem an.relabel (hV:ay V)(h:an P V W st a w)(r:Nat)(c:bQ)(nw':Nat->Prop)(a2:(st r).ver<=c.ver)(R:c.sh=(st r).sh)
    (Y:c.ls.length=(st r).ls.length) (Z:∀ k,W.nw k->nw' k) (O:∀ k,nw' k->k<w.heap.size/\¬ V.prot k)
    (a1:∀ (j:Nat) (l:Leaf) (v:Value),c.ls[j]?=some l->(W.cs r)[j]?=some v->aK P V { W with nw:=nw' } (ac [(r,c)] st) w (W.bs r j) l v)
    (a3:∀ (j:Nat) (l:Leaf),c.ls[j]?=some l->am l->(st r).ls[j]?=some l)
    (I:∀ (q j:Nat) (l:Leaf),(ac [(r,c)] st q).ls[j]?=some l->am l->∀ k∈W.bs q j,¬ nw' k)
    (J:∀ b,live st b->¬ nw' (W.β b)):an P V { W with nw:=nw' } (ac [(r,c)] st) a w:=by
  have M:∀ b,live (ac [(r,c)] st) b<->live st b:=by
    intro b;rcases aj r b c st with ⟨rfl,e⟩|⟨_,e⟩
    · simp[live,e,R]
    · simp[live,e]
  have u:∀ (q j:Nat) (l:Leaf),(ac [(r,c)] st q).ls[j]?=some l->am l->(st q).ls[j]?=some l:=by
    intro q j l z y;rcases aj r q c st with ⟨rfl,e⟩|⟨_,e⟩
    · grind
    · grind
  have X:cA V W { W with nw:=nw' } st (ac [(r,c)] st) w w :=
    ⟨λq=>by
      rcases aj r q c st with ⟨rfl,e⟩|⟨_,e⟩
      · grind
      · rw[e];exact⟨BL _,λ_=>rfl⟩,
     λb H=>⟨(M b).2 H,rfl⟩,Z,λ_ _=>rfl,λ_ q j l z y h3=>⟨⟨l,u q j l z y,y⟩,rfl,λ_ _=>rfl⟩⟩
  exact {
    nt:=h.nt,df:=h.df,
    slots:=λt ht=>by
      rcases aj r t c st with ⟨rfl,e⟩|⟨_,e⟩
      · rw[e,R];exact h.slots t ht
      · rw[e];exact h.slots t ht
    boxes:=λb H=>by
      rcases aj r b c st with ⟨rfl,e⟩|⟨_,e⟩
      · rw[e,R]
        rcases h.boxes b H with ⟨z,y⟩|z
        · grind
        · grind
      · rw[e];exact h.boxes b H
    len:=λq=>by
      rcases aj r q c st with ⟨rfl,e⟩|⟨_,e⟩
      · rw[e,Y];exact h.len q
      · rw[e];exact h.len q
    one:=h.one
    leaf:=λq j l v z y=>by
      rcases aj r q c st with ⟨rfl,e⟩|⟨_,e⟩
      · grind
      · rw[e]at z
        exact (h.leaf q j l v z y).carry hV.ro X (λ_=>⟨rfl,λ_ _=>rfl⟩)
    ownb:=λq j l z y k hk=>⟨I q j l z y k hk,(h.ownb q j l (u q j l z y) y k hk).2.1,λb H=>(h.ownb q j l (u q j l z y) y k hk).2.2 b ((M b).1 H)⟩
    sep:=λq j l q' j' l' z y h3 h4=>h.sep q j l q' j' l' (u q j l z y) y (u q' j' l' h3 h4) h4
    box:=λb H=>⟨J b ((M b).1 H),(h.box b ((M b).1 H)).2⟩
    inj:=λb b' H a0=>h.inj b b' ((M b).1 H) ((M b').1 a0)
    nwlt:=O
    os:=h.os,tape:=h.tape,output:=h.output,size:=h.size,keep:=h.keep,
    fixb:=λx hx=>⟨(M _).2 (h.fixb x hx).1,(h.fixb x hx).2⟩,fixt:=h.fixt }
theorem aS {α:Type}(ls:List α)(j i:Nat)(x y:α)(h:(ls.set j x)[i]?=some y):(i=j/\y=x/\j<ls.length)\/(i≠j/\ls[i]?=some y):=by
 grind
theorem an.kill1 (J:ay V)(h:an P V W st a w)(r j:Nat):an P V W (ac [(r,fY (st r) j)] st) a w:=by
 refine h.relabel J r _ W.nw (BL _) rfl (by simp[fY,aT]) (λ_ h=>h) h.nwlt ?_ ?_ ?_ λb H=>(h.box b H).1
 ·intro i l v u y;rcases aS _ _ _ _ _ u with ⟨_,rfl,_⟩|⟨z,u⟩
  ·trivial
  ·refine (h.leaf r i l v u y).carry J.ro ⟨λq=>?_,λb H=>?_,λ_ h=>h,λ_ _=>rfl,λ_ q R Y I O X=>?_⟩ (λ_=>⟨rfl,λ_ _=>rfl⟩)
   ·rcases aj r q (fY (st r) j) st with ⟨rfl,e⟩|⟨_,e⟩
    ·rw[e];exact⟨BL _,λ_=>rfl⟩
    ·grind
   ·refine⟨⟨H.1,?_⟩,rfl⟩;rcases aj r b (fY (st r) j) st with ⟨rfl,e⟩|⟨_,e⟩
    ·rw[e];exact H.2
    ·rw[e];exact H.2
   ·rcases aj r q (fY (st r) j) st with ⟨rfl,e⟩|⟨_,e⟩
    ·rw[e]at I;rcases aS _ _ _ _ _ I with ⟨_,rfl,_⟩|⟨_,I⟩
     ·exact O.elim
     ·grind
    ·grind
 ·intro i l u y;rcases aS _ _ _ _ _ u with ⟨_,rfl,_⟩|⟨z,u⟩
  ·exact y.elim
  ·omega
 ·intro q i l u y;have:(st q).ls[i]?=some l:=by
   rcases aj r q (fY (st r) j) st with ⟨rfl,e⟩|⟨_,e⟩
   ·rw[e]at u;rcases aS _ _ _ _ _ u with ⟨_,rfl,_⟩|⟨z,u⟩
    ·exact y.elim
    ·omega
   ·grind
  exact λk M=>(h.ownb q i l this y k M).1
theorem an.frz1 (hV:ay V)(h:an P V W st a w)(r j:Nat) :
  an P V { W with nw:=λk=>W.nw k\/((∃ l,(st r).ls[j]?=some l/\am l)/\k∈W.bs r j) } (ac [(r,fU (st r) j)] st) a w:=by
 have O:∀ l,(st r).ls[j]?=some l->(st r).ls.getD j .dead=l:=λl hl=>by rw[BV,hl];rfl
 have u:∀ (i:Nat) (l:Leaf),(aT (st r).ls j (uK ((st r).ls.getD j .dead)))[i]?=some l->am l->(st r).ls[i]?=some l/\i≠j:=by
  intro i l z y;rcases aS _ _ _ _ _ z with ⟨rfl,rfl,hj⟩|⟨Z,z⟩
  ·rw[O _ (BH hj)]at y;generalize (st r).ls[i]=l at y;cases l with
   |own p hh E e xs=>cases hh <;> exact y.elim
   |_=>exact y.elim
  ·grind
 have I:cA V W { W with nw:=λk=>W.nw k\/((∃ l,(st r).ls[j]?=some l/\am l)/\k∈W.bs r j) } st (ac [(r,fU (st r) j)] st) w w:=by
  refine⟨λq=>?_,λb X=>?_,λ_ h=>.inl h,λ_ _=>rfl,λ_ q j' Y J M h5=>?_⟩
  ·rcases aj r q (fU (st r) j) st with ⟨rfl,e⟩|⟨_,e⟩
   ·rw[e];exact⟨BL _,λ_=>rfl⟩
   ·grind
  ·refine⟨⟨X.1,?_⟩,rfl⟩;rcases aj r b (fU (st r) j) st with ⟨rfl,e⟩|⟨_,e⟩
   ·rw[e];exact X.2
   ·rw[e];exact X.2
  ·rcases aj r q (fU (st r) j) st with ⟨rfl,e⟩|⟨_,e⟩
   ·rw[e]at J;exact⟨⟨Y,(u j' Y J M).1,M⟩,rfl,λ_ _=>rfl⟩
   ·grind
 refine h.relabel hV r _ _ (BL _) rfl (by simp[fU,aT]) (λ_ h=>.inl h) ?_ ?_ (λi l z y=>(u i l z y).1) ?_ ?_
 ·rintro k (H|⟨⟨l,z,y⟩,H⟩)
  ·exact h.nwlt k H
  ·exact⟨h.own_lt z y k H,(h.ownb r j l z y k H).2.1⟩
 ·intro i l v z y;rcases aS _ _ _ _ _ z with ⟨rfl,rfl,hj⟩|⟨Z,z⟩
  ·have J:(st r).ls[i]?=some (st r).ls[i]:=BH hj;have M:=h.leaf r i _ v J y;rw[O _ J];generalize hq:(st r).ls[i]=q at J M;cases q with
   |own p hh E e xs =>
    cases hh with
    |some _=>trivial
    |none =>
     refine Rd.mono (λk H=>?_) (OwH.rd (m:=false) (E':=E) M);rcases H with H|H
     ·exact bT (W':={ W with nw:=_ }) (λh=>h) (λ_ h=>.inl h) k H
     ·exact .inl (.inr ⟨⟨_,J,trivial⟩,H⟩)
   |_=>exact M.carry hV.ro I (λho=>ho.elim)
  ·exact (h.leaf r i l v z y).carry hV.ro I (λ_=>⟨rfl,λ_ _=>rfl⟩)
 ·intro q i l z y k H;have J:(st q).ls[i]?=some l/\(q,i)≠(r,j):=by
   rcases aj r q (fU (st r) j) st with ⟨rfl,e⟩|⟨Z,e⟩
   ·rw[e]at z;have:=u i l z y
    simp_all
   ·grind
  rintro (R|⟨⟨Y,M,h5⟩,R⟩)
  ·exact (h.ownb q i l J.1 y k H).1 R
  ·obtain⟨rfl,rfl⟩:=h.sep q i l r j Y J.1 y M h5 k H R
   simp_all
 ·rintro b X (R|⟨⟨Y,M,h5⟩,R⟩)
  ·exact (h.box b X).1 R
  ·exact (h.ownb r j Y M h5 _ R).2.2 b X rfl
theorem l7 (H:ay V):∀ (ks:List (Nat×Nat)),an P V W st a w->an P V W (ac (aN st ks) st) a w /\
  (∀ (q i:Nat) (l:Leaf),(ac (aN st ks) st q).ls[i]?=some l->am l->(st q).ls[i]?=some l/\(q,i)∉ks) /\
  (∀ q,(ac (aN st ks) st q).sh=(st q).sh/\(st q).ver<=(ac (aN st ks) st q).ver)
 |[],h=>⟨h,λ_ _ _ z _=>⟨z,by simp⟩,λ_=>⟨rfl,BL _⟩⟩
 |(r,j)::ks,h=>by
  obtain⟨z,O,I⟩:=l7 H ks h;have e:ac (aN st ((r,j)::ks)) st=ac [(r,fY (ac (aN st ks) st r) j)] (ac (aN st ks) st):=aP _ _ _ _;rw[e];refine⟨z.kill1 H r j,λq i l y J=>?_,λq=>?_⟩
  ·have M:(ac (aN st ks) st q).ls[i]?=some l/\(q,i)≠(r,j):=by
    rcases aj r q (fY (ac (aN st ks) st r) j) (ac (aN st ks) st) with ⟨rfl,e⟩|⟨u,e⟩
    ·rw[e]at y;rcases aS _ _ _ _ _ y with ⟨_,rfl,_⟩|⟨u,y⟩
     ·exact J.elim
     ·grind
    ·grind
   simp_all
  ·rcases aj r q (fY (ac (aN st ks) st r) j) (ac (aN st ks) st) with ⟨rfl,e⟩|⟨u,e⟩
   ·rw[e];exact⟨(I q).1,(I q).2⟩
   ·grind
def Wit.frz (W:Wit)(st:St)(ks:List (Nat×Nat)):Wit :=
 { W with nw:=λk=>W.nw k\/∃ x∈ks,(∃ l,(st x.1).ls[x.2]?=some l/\am l)/\k∈W.bs x.1 x.2 }
theorem an.nw_congr (h:an P V W st a w){nw':Nat->Prop}(e:∀ k,W.nw k<->nw' k):an P V { W with nw:=nw' } st a w:=by
 have:nw'=W.nw:=funext λk=>propext (e k).symm
 subst this;exact h
theorem lD (Y:ay V):∀ (ks:List (Nat×Nat)),an P V W st a w->an P V (W.frz st ks) (ac (aF st ks) st) a w /\
  (∀ (q i:Nat) (l:Leaf),(ac (aF st ks) st q).ls[i]?=some l->am l->(st q).ls[i]?=some l/\(q,i)∉ks) /\
  (∀ q,(ac (aF st ks) st q).sh=(st q).sh/\(st q).ver<=(ac (aF st ks) st q).ver)
 |[],h=>⟨h.nw_congr (λk=>by simp),λ_ _ _ I _=>⟨I,by simp⟩,λ_=>⟨rfl,BL _⟩⟩
 |(r,j)::ks,h=>by
  obtain⟨I,h2,X⟩:=lD Y ks h;have e:ac (aF st ((r,j)::ks)) st=ac [(r,fU (ac (aF st ks) st r) j)] (ac (aF st ks) st):=aP _ _ _ _;rw[e];refine⟨?_,λq i l R M=>?_,λq=>?_⟩
  ·have Z:=I.frz1 Y r j;have h8:=Z.nw_congr (nw':=(W.frz st ((r,j)::ks)).nw) (λk=>?_)
   ·exact h8
   ·simp only[Wit.frz];constructor
    ·rintro ((y|⟨x,O,y⟩)|⟨⟨l,u,H⟩,y⟩)
     ·grind
     ·grind
     ·exact .inr ⟨(r,j),CR ..,⟨l,(h2 r j l u H).1,H⟩,y⟩
    ·rintro (y|⟨x,O,⟨l,u,H⟩,y⟩)
     ·grind
     ·rcases CP.1 O with rfl|O
      ·by_cases J:(r,j)∈ks
       ·exact .inl (.inr ⟨(r,j),J,⟨l,u,H⟩,y⟩)
       ·refine .inr ⟨⟨l,?_,H⟩,y⟩;exact iN ks J u
      ·grind
  ·have h6:(ac (aF st ks) st q).ls[i]?=some l/\(q,i)≠(r,j):=by
    rcases aj r q (fU (ac (aF st ks) st r) j) (ac (aF st ks) st) with ⟨rfl,e⟩|⟨z,e⟩
    ·rw[e]at R;rcases aS _ _ _ _ _ R with ⟨rfl,rfl,hj⟩|⟨z,R⟩
     ·exfalso;generalize (ac (aF st ks) st q).ls.getD i .dead=l' at M;cases l' with
      |own p hh E e xs=>cases hh <;> exact M.elim
      |_=>exact M.elim
     ·grind
    ·grind
   simp_all
  ·rcases aj r q (fU (ac (aF st ks) st r) j) (ac (aF st ks) st) with ⟨rfl,e⟩|⟨z,e⟩
   ·rw[e];exact⟨(X q).1,(X q).2⟩
   ·grind
where
 iN:∀ (ks:List (Nat×Nat)) {r j:Nat} {l:Leaf},(r,j)∉ks->(st r).ls[j]?=some l->(ac (aF st ks) st r).ls[j]?=some l
  |[],_,_,_,_,u=>u
  |(q,i)::ks,r,j,l,hn,u=>by
   have I:=iN ks (λJ=>hn (CJ _ J)) u;have e:ac (aF st ((q,i)::ks)) st=ac [(q,fU (ac (aF st ks) st q) i)] (ac (aF st ks) st):=aP _ _ _ _;rw[e];rcases aj q r (fU (ac (aF st ks) st q) i) (ac (aF st ks) st) with ⟨rfl,e⟩|⟨z,e⟩
   ·rw[e];simp only[fU,aT]
    grind
   ·grind
theorem an.put (hV:ay V)(h:an P V W st a w)(d:Nat)(hd:d<V.nt)(a4:∀ x∈V.fixt,x.1≠d)(n:Nat)(sh:aI)(ls:List Leaf)(v:Value)
  (J:List Value) (I:Nat->List Nat) (hn:(st d).ver<n) (hs:ee sh v J) (hl:ls.length=J.length) (h1:∀ u∈J,u.oneCell'=true)
  (a2:∀ (j:Nat) (l:Leaf) (u:Value),ls[j]?=some l->J[j]?=some u->aK P V W st w (I j) l u)
  (a0:∀ (j:Nat) (l:Leaf),ls[j]?=some l->am l->∀ k∈I j,¬ W.nw k/\¬ V.prot k/\(∀ b,live st b->W.β b≠k) /\
   ∀ (r1 j1:Nat) (l1:Leaf),r1≠d->(st r1).ls[j1]?=some l1->am l1->k∉W.bs r1 j1)
  (a3:∀ (j Z:Nat) (l l':Leaf),ls[j]?=some l->am l->ls[Z]?=some l'->am l'->∀ k,k∈I j->k∈I Z->j=Z) :
  an P V { W with cs:=λr=>if r=d then J else W.cs r,bs:=λr j=>if r=d then I j else W.bs r j } (ac [(d,⟨n,sh,ls⟩)] st) (a.put (some d) v) w:=by
 have a6:d<B0:=BZ hd hV.ntB;have X:∀ b,live (ac [(d,⟨n,sh,ls⟩)] st) b<->live st b:=by
  intro b;by_cases hb:B0<=b
  ·rw[live,live,aJ (by omega)]
  ·simp[live,hb]
 have O:cA V W { W with cs:=λr=>if r=d then J else W.cs r,bs:=λr j=>if r=d then I j else W.bs r j } st (ac [(d,⟨n,sh,ls⟩)] st) w w:=by
  refine⟨λq=>?_,λb hb=>⟨(X b).2 hb,rfl⟩,λ_ h=>h,λ_ _=>rfl,λ_ q Z l' M h4 h5=>?_⟩;rcases aj d q ⟨n,sh,ls⟩ st with ⟨rfl,e⟩|⟨y,e⟩
  ·grind
  ·grind
  rcases aj d q ⟨n,sh,ls⟩ st with ⟨rfl,e⟩|⟨y,e⟩
  ·grind
  ·grind
 have a1:∀ t,(a.put (some d) v).tmps.getD t undef=if t=d then v else a.tmps.getD t undef:=by
  intro t;by_cases ht:t=d
  ·subst ht;have:t<a.tmps.size:=by rw[h.nt];exact hd
   simp[Ch,this]
  ·simp only[Ch,if_neg ht];rw[B8,B8,Array.getElem?_setIfInBounds_ne (λe=>ht e.symm)]
 exact {
  nt:=by simp[Ch,h.nt],df:=by simp[Ch,h.df]
  slots:=λt ht=>by
   rw[a1];rcases aj d t ⟨n,sh,ls⟩ st with ⟨rfl,e⟩|⟨y,e⟩
   ·grind
   ·rw[e];simpa[y]using h.slots t ht
  boxes:=λb hb=>by
   have:b≠d:=by omega
   rw[aJ this];simpa[this]using h.boxes b hb
  len:=λq=>by
   rcases aj d q ⟨n,sh,ls⟩ st with ⟨rfl,e⟩|⟨y,e⟩
   ·grind
   ·rw[e];simpa[y]using h.len q
  one:=λq u hu=>by
   by_cases hq:q=d
   ·grind
   ·simp only[hq]at hu;exact h.one q u hu
  leaf:=λq j l u H M=>by
   rcases aj d q ⟨n,sh,ls⟩ st with ⟨rfl,e⟩|⟨y,e⟩
   ·rw[e]at H;simp at M;exact (a2 j l u H M).carry hV.ro O (λ_=>⟨by simp,λ_ _=>rfl⟩)
   ·rw[e]at H;simp only[y]at M;exact (h.leaf q j l u H M).carry hV.ro O (λ_=>⟨by simp[y],λ_ _=>rfl⟩)
  ownb:=λq j l H M k R=>by
   rcases aj d q ⟨n,sh,ls⟩ st with ⟨rfl,e⟩|⟨y,e⟩
   ·grind
   ·rw[e]at H;simp only[y]at R;have:=h.ownb q j l H M k R
    grind
  sep:=λq j l q' Z l' H M h4 h5 k R z=>by
   rcases aj d q ⟨n,sh,ls⟩ st with ⟨e0,e⟩|⟨y,e⟩ <;> rcases aj d q' ⟨n,sh,ls⟩ st with ⟨e1,e'⟩|⟨Y,e'⟩
   ·rw[e]at H;rw[e']at h4;simp only[e0]at R;simp only[e1]at z;exact⟨e0.trans e1.symm,a3 j Z l l' H M h4 h5 k R z⟩
   ·rw[e]at H;rw[e']at h4;simp only[e0]at R;simp only[Y]at z;exact absurd z ((a0 j l H M k R).2.2.2 q' Z l' Y h4 h5)
   ·rw[e]at H;rw[e']at h4;simp only[y]at R;simp only[e1]at z;exact absurd R ((a0 Z l' h4 h5 k z).2.2.2 q j l y H M)
   ·rw[e]at H;rw[e']at h4;simp only[y]at R;simp only[Y]at z;exact h.sep q j l q' Z l' H M h4 h5 k R z
  box:=λb hb=>h.box b ((X b).1 hb)
  inj:=λb b' hb a5=>h.inj b b' ((X b).1 hb) ((X b').1 a5)
  nwlt:=h.nwlt
  os:=h.os,tape:=h.tape,output:=h.output,size:=h.size,keep:=h.keep
  fixb:=λx hx=>⟨(X _).2 (h.fixb x hx).1,(h.fixb x hx).2⟩
  fixt:=λx hx=>by rw[a1,if_neg (a4 x hx)];exact h.fixt x hx }
theorem an.putLs (X:ay V)(h:an P V W st a w)(d:Nat)(I:d<V.nt)(y:∀ x∈V.fixt,x.1≠d)(n:Nat)(sh:aI)(ls:List Leaf)(v:Value)
  (r:List Value) (O:(st d).ver<n) (R:ee sh v r) (z:aC P V W st w ls r) :
  Rel P V (ac [(d,⟨n,sh,ls⟩)] st) (a.put (some d) v) w :=
 ⟨_,h.put X d I y n sh ls v r (λ_=>[]) O R z.length z.one' (λj l u M J=>(z.at_ j l u M J).1) (λ_ _ _ _ k H=>by simp at H)
  (λ_ _ _ _ _ _ _ _ k H=>by simp at H)⟩
end
def zeroCells:Ty->List Value
 |.int k=>[.int k 0]
 |.bool=>[.bool false]
 |.str=>[.string BY]
 |.unit=>[]
 |.pair a b=>zeroCells a++zeroCells b
 |.hdr=>[.slice none 0 0]
 |.list _ _ _=>[.slice none 0 0]
def bP (P:Program)(t:TypeId)(n:Nat):Prop:=(P.info? t).map (·.size)=some n
def d5 (P:Program)(t:TypeId)(z:Value):Prop:=(P.info? t).map (·.zero)=some (some z)
def EqAt (P:Program)(t:TypeId)(a:Ty):Prop:=a.flat=true->∀ (w:World) (G:Nat->Prop) (x y:a.den) (u r:List Value),Rd w G a x u->Rd w G a y r ->
 (Op.equal t (.agg u.toArray) (.agg r.toArray)).run P w=.ok (a.eqv x y) w
def oM (P:Program)(t:TypeId):TI->Prop
 |.int k=>P.underlying t=some (.int k)/\bP P t 1/\d5 P t (.int k 0)
 |.bool=>P.underlying t=some .bool/\bP P t 1/\d5 P t (.bool false)
 |.str=>P.underlying t=some .string/\bP P t 1/\d5 P t (.string BY)
 |.slice E e r=>P.underlying t=some (.slice E)/\bP P t 1/\d5 P t (.slice none 0 0)/\0<e.cells/\(0<r/\(e=.int .u8->P.underlying E=some (.int .u8))) /\
  ∃ i z,P.info? E=some i/\i.size=e.cells/\i.bytes=r/\i.zero=some z/\z.cells.toList=zeroCells e
 |.struct a u=>(∃ H,P.underlying t=some (.struct H)/\H.toList.mapM (λf=>(P.info? f.type).map λi=>(f.offset,i.size))=some (u.map λx=>(x.1,x.2.1)) /\
  ∀ (i off n:Nat) (agg:Bool),u[i]?=some (off,n,agg)->(agg=false->n=1)/\∃ f:Field,H[i]?=some f/\f.offset=off/\0<n/\off+n<=a.cells/\bP P f.type n /\
   (P.underlying f.type).map (λd=>match d with|.struct _|.array _ _=>true|_=>false)=some agg) /\
  bP P t a.cells/\d5 P t (.agg (zeroCells a).toArray)/\EqAt P t a/\P.eqGuardType P.depth t=false
 |.arr e n=>(∃ E,P.underlying t=some (.array n E)/\bP P E e.cells/\(P.underlying E).map (λd=>match d with|.struct _|.array _ _=>true|_=>false)=some e.isAgg)/\0<e.cells /\
  bP P t (n*e.cells)/\d5 P t (.agg ((BU n (zeroCells e)).flatten).toArray)
 |.ptr=>(∃ e,P.underlying t=some (.pointer e))/\bP P t 1/\d5 P t (.pointer none)
 |.fn=>(∃ x y z,P.underlying t=some (.func x y z))/\bP P t 1/\d5 P t .nilFunc
 |.none=>True
def TOk (P:Program)(T:TypeId->TI):Prop:=∀ t,oM P t (T t)
theorem sA {P:Program}:∀ {l:List (TypeId×TI)},(∀ x∈l,oM P x.1 x.2)->TOk P (gB l)
 |[],_,_=>trivial
 |(t,i)::l,h,u=>by
  simp only[gB];cases y:BD t u with
  |false=>exact sA (λx r=>h x (CJ _ r)) u
  |true =>
   simp_all
section
variable {P:Program} {V:Env} {W:Wit} {st:St} {w:World} {a:Act} {o:Oper}
def mN (P:Program)(V:Env)(o:Oper)(st:St)(U:Upd)(a:Act)(w:World):Prop :=
 ∀ (next:Act->World->Prop) (Q:Exit->Act->World->Prop),(∀ u r,Rel P V (ac U st) u r->next u r)->o.wp P a w next Q
theorem dW {v:Value}{w':World}{next:Act->World->Prop}{Q:Exit->Act->World->Prop}(h:(execOp a.eval o).run P w=.ok (.value v) w')(r:next (a.put o.dst v) w'):o.wp P a w next Q:=by
 unfold Oper.wp;rw[h];exact r
theorem pA {w':World}{next:Act->World->Prop}{Q:Exit->Act->World->Prop}(h:(execOp a.eval o).run P w=.ok .skip w')(r:next (a.put o.dst undef) w'):o.wp P a w next Q:=by
 unfold Oper.wp;rw[h];exact r
def bM (V:Env)(o:Oper):Prop:=∀ d,o.dst=some d->d<V.nt/\∀ x∈V.fixt,x.1≠d
theorem dX (J:ay V)(h:an P V W st a w){d:Nat}(y:o.dst=some d)(u:bM V o){v:Value}{sh:aI}{ls:List Leaf}{cs:List Value}
  (r:(execOp a.eval o).run P w=.ok (.value v) w) (I:ee sh v cs) (z:aC P V W st w ls cs):mN P V o st (cf st [] d sh ls) a w:=by
 intro next Q H;refine dW r ?_;rw[y];exact H _ _ (h.putLs J d (u d y).1 (u d y).2 _ sh ls v cs (CG _) I z)
theorem aO (I:ay V)(h:an P V W st a w){d:Nat}(z:o.dst=some d)(u:bM V o){v:Value}{l:Leaf}
  (r:(execOp a.eval o).run P w=.ok (.value v) w) (H:aK P V W st w [] l v) (y:¬ am l) (J:v.oneCell'=true):mN P V o st (cf st [] d .one [l]) a w :=
 dX I h z u r (cs:=[v]) rfl ⟨⟨H,y,J⟩,trivial⟩
theorem kk {agg:Bool}{v:Value}{cs:List Value}(h:de agg v cs):ee (bi agg) v cs:=by
 cases agg <;> exact h
theorem bF (h:an P V W st a w){x:Operand}{k:IntKind}{n:Int}(r:one st x=.int k n):a.eval x=.int k n:=by
 have:=(bt h x (by rw[r];simp)).1;rw[r]at this;exact this
theorem ij (h:an P V W st a w){x:Operand}{b:Bool}(r:one st x=.bool b):a.eval x=.bool b:=by
 have:=(bt h x (by rw[r];simp)).1;rw[r]at this;exact this
theorem iB (h:an P V W st a w){x:Operand}{b:ByteArray}(r:one st x=.str b):a.eval x=.string b:=by
 have:=(bt h x (by rw[r];simp)).1;rw[r]at this;exact this
theorem vE (r:BinOp)(k:IntKind)(t t':TypeId)(x y:Operand)(m n:Int)(l:Leaf)(u:so r k m n=some l)(z:a.eval x=.int k m)(H:a.eval y=.int k n)(I:o.op=.binOp r t x y t') :
  ∃ v,(execOp a.eval o).run P w=.ok (.value v) w/\aK P V W st w [] l v/\¬ am l/\v.oneCell'=true:=by
 cases r <;> simp only[so,BK,reduceCtorEq]at u <;> subst u <;>
  exact⟨_,by simp[execOp,I,z,H,eqGuard,Go.binOp,Op.intArith,Op.intCmp],rfl,id,rfl⟩
theorem BB (I:ay V)(h:an P V W st a w)(ks:List (Nat×Nat)):cA V W W st (ac (aN st ks) st) w w:=by
 obtain⟨_,H,u⟩:=l7 I ks h;exact⟨λq=>⟨(u q).2,λ_=>rfl⟩,λb y=>⟨⟨y.1,by rw[(u b).1];exact y.2⟩,rfl⟩,λ_ h=>h,λ_ _=>rfl,λ_ q j l z r _=>⟨⟨l,(H q j l z r).1,r⟩,rfl,λ_ _=>rfl⟩⟩
theorem step_frz (I:ay V)(h:an P V W st a w)(ks:List (Nat×Nat)):cA V W (W.frz st ks) st (ac (aF st ks) st) w w:=by
 obtain⟨_,H,u⟩:=lD I ks h;exact⟨λq=>⟨(u q).2,λ_=>rfl⟩,λb y=>⟨⟨y.1,by rw[(u b).1];exact y.2⟩,rfl⟩,λ_ h=>.inl h,λ_ _=>rfl,λ_ q j l z r _=>⟨⟨l,(H q j l z r).1,r⟩,rfl,λ_ _=>rfl⟩⟩
def dm (W:Wit)(ls:List Leaf)(j:Nat):List Nat :=
 match ls[j]? with
 |some (.al r i _)=>W.bs r i
 |_=>[]
theorem wS:∀ {ls:List Leaf} {j r i n:Nat},ls[j]?=some (.al r i n)->am (aD st (.al r i n))->(r,i)∈bz st ls
 |l::ls,0,r,i,n,h,u=>by
  simp at h;subst h;generalize y:aD st (.al r i n)=q at u;cases q <;> first|exact u.elim|simp[bz,y]
 |l::ls,j+1,r,i,n,h,u=>by
  have:=wS (ls:=ls) (by simpa using h) u;cases l <;> simp[bz,this]
theorem mO:∀ {ls:List Leaf} {j r i n:Nat},ls[j]?=some (.al r i n)->am (aD st (.al r i n))->(r,i)∈bZ st ls
 |l::ls,0,r,i,n,h,u=>by
  simp at h;subst h;generalize y:aD st (.al r i n)=q at u;cases q <;> first|exact u.elim|simp[bZ,y]
 |l::ls,j+1,r,i,n,h,u=>by
  have:=mO (ls:=ls) (by simpa using h) u;cases l <;> simp[bZ,this]
theorem oc:∀ {ls:List Leaf} {j y r i n H:Nat},aZ (bZ st ls)=true->ls[j]?=some (.al r i n)->am (aD st (.al r i n)) ->
    ls[y]?=some (.al r i H)->am (aD st (.al r i H))->j=y
  |l::ls,j,y,r,i,n,H,u,h1,X,Y,h4=>by
    have a0:∀ (m:Nat) (k:Nat),l=.al r i m->am (aD st (.al r i m))->(∃ z,ls[k]?=some (.al r i z)/\am (aD st (.al r i z)))->False:=by
      rintro m k rfl J ⟨z,Z,R⟩;have O:=mO Z R;have h8:bZ st (.al r i m::ls)=(r,i)::bZ st ls:=by
        generalize M:aD st (.al r i m)=q at J;cases q <;> first|exact J.elim|simp[bZ,M]
      rw[h8]at u;simp only[aZ,BG,CC]at u;have:=u.1;rw[CD]at this;have:=this _ O;simp at this
    have I:aZ (bZ st ls)=true:=by
      cases l <;> first
        |exact u
        | (rename_i r' y v'
           simp only[bZ]at u;split at u
           · simp only[CZ,aZ]at u
             grind
           · simpa using u)
    cases j with
    |zero =>
      cases y with
      |zero=>rfl
      |succ y =>
        grind
    |succ j =>
      cases y with
      |zero =>
        grind
      |succ y =>
        have:=oc (ls:=ls) I (by simpa using h1) X (by simpa using Y) h4;omega
theorem l8 (Y:ay V)(h:an P V W st a w){l:Leaf}{v:Value}(u:aK P V W st w [] l v)(y:¬ am l) :
  (∃ r i n,l=.al r i n/\am (aD st l)/\aK P V W st w (W.bs r i) (aD st l) v/\(st r).ls[i]?=some (aD st l)) \/
  (¬ am (aD st l)/\aK P V W st w [] (aD st l) v):=by
 cases l with
 |al r j n =>
  by_cases z:aD st (.al r j n)=.dead
  ·rw[z];exact .inr ⟨id,trivial⟩
  ·obtain⟨X,J⟩:=fg rfl z;have I:=u.2 X;have M:=h.leaf r j _ v J I;by_cases H:am (aD st (.al r j n))
   ·grind
   ·exact .inr ⟨H,M.carry Y.ro (cA.refl V W st w) (λh=>absurd h H)⟩
 |own p hh E e Z=>exact absurd trivial y
 |nal p O ep R E e Z =>
  simp only[aD];cases br st O ep with
  |false=>exact .inr ⟨id,trivial⟩
  |true=>exact .inr ⟨id,u⟩
 |_=>exact .inr ⟨id,u⟩
end
section
variable {P:Program} {V:Env} {W:Wit} {st:St} {w w':World} {a:Act} {o:Oper} {ls:List Leaf} {cs:List Value}
theorem iC {st st':St}(h:∀ q,(st' q).sh=(st q).sh)(b:Nat):live st' b<->live st b:=by simp[live,h]
def aA (st:St)(x:Nat×Nat):Prop:=∃ l,(st x.1).ls[x.2]?=some l/\am l
def aW (W:Wit)(ks:List (Nat×Nat)):List Nat:=ks.flatMap λx=>W.bs x.1 x.2
theorem dG (W:Wit)(a b:List (Nat×Nat)):aW W (a++b)=aW W a++aW W b:=List.flatMap_append
theorem gj {W:Wit}{ks:List (Nat×Nat)}{k:Nat}:k∈aW W ks<->∃ x∈ks,k∈W.bs x.1 x.2:=List.mem_flatMap
theorem kt {W:Wit}{p:Bool}{ks:List (Nat×Nat)}(u:∀ x∈ks,aA st x):∀ k,bo V W p ks k->gd V (W.frz st ks) p k:=by
 rintro k (r|⟨x,y,r⟩)
 ·exact bT (W':=W.frz st ks) (λh=>h) (λ_ h=>Or.inl h) k r
 ·exact .inl (.inr ⟨x,y,u x y,r⟩)
theorem nO {a b:List (Nat×Nat)}(h:dz a b=true):∀ x∈a,x∉b:=by
 intro x r u;simp only[dz,CC,CD]at h;have:=h x r;simp only[CY,CD]at this;have:=this x u;simp[iv]at this
theorem fH (hV:ay V){W:Wit}{a:Act}{w:World}(h:an P V W st a w){frz kill:List (Nat×Nat)}(R:dz frz kill=true)(a0:∀ x∈kill,aA st x) :
  an P V (W.frz st frz) (ac (aN (ac (aF st frz) st) kill++aF st frz) st) a w /\
  (∀ (q i:Nat) (l:Leaf),(ac (aN (ac (aF st frz) st) kill++aF st frz) st q).ls[i]?=some l->am l->(st q).ls[i]?=some l/\(q,i)∉frz/\(q,i)∉kill) /\
  (∀ q,(ac (aN (ac (aF st frz) st) kill++aF st frz) st q).sh=(st q).sh/\(st q).ver<=(ac (aN (ac (aF st frz) st) kill++aF st frz) st q).ver) /\
  (∀ k∈aW W kill,¬ (W.frz st frz).nw k/\¬ V.prot k/\k<w.heap.size/\(∀ b,live (ac (aN (ac (aF st frz) st) kill++aF st frz) st) b->W.β b≠k) /\
   ∀ (J i:Nat) (l:Leaf),(ac (aN (ac (aF st frz) st) kill++aF st frz) st J).ls[i]?=some l->am l->k∉W.bs J i):=by
 obtain⟨h1,h2,h3⟩:=lD hV frz h;obtain⟨h4,h5,X⟩:=l7 hV kill h1;rw[<- bC]at h4 h5 X;have H:∀ q,(ac (aN (ac (aF st frz) st) kill++aF st frz) st q).sh=(st q).sh:=λq=>(X q).1.trans (h3 q).1
 have u:∀ (q i:Nat) (l:Leaf),(ac (aN (ac (aF st frz) st) kill++aF st frz) st q).ls[i]?=some l->am l->(st q).ls[i]?=some l/\(q,i)∉frz/\(q,i)∉kill:=by
  simp_all
 refine⟨h4,u,λq=>⟨H q,BO (h3 q).2 (X q).2⟩,λk z=>?_⟩;obtain⟨x,hx,z⟩:=gj.1 z;obtain⟨l,M,r⟩:=a0 x hx;have h7:=h.ownb x.1 x.2 l M r k z;refine⟨?_,h7.2.1,h.own_lt M r k z,λb hb=>h7.2.2 b ((iC H b).1 hb),λJ i l1 h8 h9 Y=>?_⟩
 ·rintro (hn|⟨y,hy,⟨l2,a1,I⟩,O⟩)
  ·grind
  ·obtain⟨e1,e2⟩:=h.sep y.1 y.2 l2 x.1 x.2 l a1 I M r k O z;exact nO R y hy (by rw[show y=x from Prod.ext e1 e2];exact hx)
 ·obtain⟨Z,_,a2⟩:=u J i l1 h8 h9;obtain⟨e1,e2⟩:=h.sep x.1 x.2 l J i l1 M r Z h9 k z Y
  simp_all
theorem zS (y:ay V)(h:an P V W st a w)(frz kill:List (Nat×Nat)):cA V W (W.frz st frz) st (ac (aN (ac (aF st frz) st) kill++aF st frz) st) w w:=by
 obtain⟨O,M,z⟩:=lD y frz h;obtain⟨_,H,r⟩:=l7 y kill O;rw[<- bC]at H r;exact⟨λq=>⟨BO (z q).2 (r q).2,λ_=>rfl⟩,λb I=>⟨⟨I.1,by rw[(r b).1,(z b).1];exact I.2⟩,rfl⟩,λ_ h=>.inl h,λ_ _=>rfl,
  λ_ q j l J u _=>⟨⟨l,(M q j l (H q j l J u).1 u).1,u⟩,rfl,λ_ _=>rfl⟩⟩
theorem sC:∀ {ls:List Leaf} {j:Nat} {p:Bool} {ks:List (Nat×Nat×Nat)} {ep:Nat} {E:TypeId} {e:Ty} {xs:List e.den},ls[j]?=some (.nal p ks ep none E e xs)->br st ks ep=true->∀ k∈ks,(k.1,k.2.1)∈du st ls
 |l::ls,0,p,ks,ep,E,e,xs,h,u,k,y=>by
  simp at h;subst h;simp only[du,aD]
  grind
 |l::ls,j+1,p,ks,ep,E,e,xs,h,u,k,y=>by
  have:=sC (ls:=ls) (by simpa using h) u k y;cases l with
  |nal J z I r M O H=>cases r <;> simp[du,this]
  |_=>simp[du,this]
theorem sD {ls:List Leaf}(h:ib st ls=true):aZ (bZ st ls)=true/\dz (du st ls) (bZ st ls)=true:=by
 simpa[ib]using h
theorem od (y:aC P V W st w ls cs){x:Nat×Nat}(u:x∈bZ st ls):aA st x:=by
 induction ls generalizing cs with
 |nil=>simp[bZ]at u
 |cons l ls z =>
  cases cs with
  |nil=>exact y.elim
  |cons v cs =>
   cases l with
   |al r j n =>
    simp only[bZ,BQ]at u;rcases u with u|u
    ·split at u
     ·rename_i p I E e J H;simp at u;subst u;exact⟨_,(fg H (by simp)).2,trivial⟩
     ·grind
    ·exact z y.2 u
   |_=>exact z y.2 u
theorem AQ {l:Leaf}(h:am (gh st l)):am (aD st l)/\gh st l=aD st l:=by
 unfold gh at h ⊢;split at h
 ·exact h.elim
 ·exact⟨h,rfl⟩
theorem oN (hV:ay V)(h:an P V W st a w){ls:List Leaf}{cs:List Value}(hl:aC P V W st w ls cs)(b2:ib st ls=true) :
    an P V (W.frz st (du st ls)) (ac (mvU st ls) st) a w/\(dF st ls).length=cs.length /\
    (∀ (j:Nat) (l:Leaf) (u:Value),(dF st ls)[j]?=some l->cs[j]?=some u->aK P V (W.frz st (du st ls)) (ac (mvU st ls) st) w (dm W ls j) l u) /\
    (∀ (j:Nat) (l:Leaf),(dF st ls)[j]?=some l->am l->∀ k∈dm W ls j,¬ (W.frz st (du st ls)).nw k/\¬ V.prot k/\k<w.heap.size /\
      (∀ b,live (ac (mvU st ls) st) b->W.β b≠k) /\
      ∀ (r1 j1:Nat) (l1:Leaf),(ac (mvU st ls) st r1).ls[j1]?=some l1->am l1->k∉W.bs r1 j1) /\
    (∀ (j j':Nat) (l l':Leaf),(dF st ls)[j]?=some l->am l->(dF st ls)[j']?=some l'->am l'->∀ k,k∈dm W ls j->k∈dm W ls j'->j=j'):=by
  obtain⟨hd,a5⟩:=sD b2;obtain⟨h1,h2,h3,b1⟩:=fH hV h a5 (λx hx=>od hl hx);have I:=zS hV h (du st ls) (bZ st ls);show an P V (W.frz st (du st ls)) (ac (aN (ac (aF st (du st ls)) st) (bZ st ls)++aF st (du st ls)) st) a w/\_;have R:∀ (j:Nat) (l:Leaf),(dF st ls)[j]?=some l->∃ z u,ls[j]?=some z/\cs[j]?=some u/\gh st z=l/\aK P V W st w [] z u/\¬ am z:=by
    intro j l M;simp only[dF,CU,BR]at M;obtain⟨z,H,Y⟩:=M;have a6:j<cs.length:=by rw[<- hl.length];exact (BF.1 H).1
    have O:=BH a6;have h7:=hl.at_ j z _ H O
    simp_all
  have y:∀ (j:Nat) (l:Leaf),(dF st ls)[j]?=some l->am l->∃ r i n,ls[j]?=some (.al r i n)/\am (aD st (.al r i n))/\(st r).ls[i]?=some l:=by
    intro j l M ho;obtain⟨z,u,H,Y,rfl,O,h7⟩:=R j l M;obtain⟨a0,e0⟩:=AQ ho;rcases l8 hV h O h7 with ⟨r,i,n,rfl,h8,_,h9⟩|⟨h8,_⟩
    · grind
    · grind
  refine⟨h1,by simp[dF,hl.length],λj l u M hu=>?_,λj l M ho k J=>?_,λj j' l l' M ho b3 a0 k J a1=>?_⟩
  · obtain ⟨z, u', H, Y, rfl, O, h7⟩ := R j l M
    obtain rfl:u=u':=Option.some.inj (hu.symm.trans Y);have X:gh st z=aD st z->aK P V (W.frz st (du st ls)) (ac (mvU st ls) st) w (dm W ls j) (gh st z) u:=by
      intro e0;rw[e0];rcases l8 hV h O h7 with ⟨r,i,n,rfl,h8,h9,_⟩|⟨h8,h9⟩
      · have:dm W ls j=W.bs r i:=by simp[dm,H]
        rw[this];exact h9.carry hV.ro I (λ_=>⟨rfl,λ_ _=>rfl⟩)
      · exact h9.carry hV.ro I (λh=>absurd h h8)
    by_cases Z:∃ p ks ep E e xs,aD st z=.nal p ks ep none E e xs
    · obtain⟨p,ks,ep,E,e,xs,Z⟩:=Z
      have e0:gh st z=.ro p E e xs:=by unfold gh;rw[Z]
      rw[e0];have a3:z=.nal p ks ep none E e xs/\br st ks ep=true:=by
        cases z with
        |al r i n=>exact absurd Z iR
        |nal p' a9 b0 b4 E' e' b5 =>
          simp only[aD]at Z;cases hv:br st a9 b0 with
          |false=>simp[hv]at Z
          |true =>
            simp_all
        |_=>simp[aD]at Z
      obtain⟨rfl,hv⟩:=a3;refine Rd.mono (λk J=>?_) (pz hv O).rd;rcases J with J|⟨x,hx,J⟩
      · exact bT (W':=W.frz st (du st ls)) (λh=>h) (λ_ h=>Or.inl h) k J
      · exact .inl (.inr ⟨(x.1,x.2.1),sC H hv x hx,(ct hv).2.2 x hx,J⟩)
    · refine X ?_
      unfold gh
      grind
  · obtain⟨r,i,n,H,Y,O⟩:=y j l M ho
    have e:dm W ls j=W.bs r i:=by simp[dm,H]
    rw[e]at J;exact b1 k (gj.2 ⟨(r,i),mO H Y,J⟩)
  · obtain⟨r,i,n,H,Y,O⟩:=y j l M ho
    obtain⟨r',i',n',a2,ad,a4⟩:=y j' l' b3 a0;have e:dm W ls j=W.bs r i:=by simp[dm,H]
    have e':dm W ls j'=W.bs r' i':=by simp[dm,a2]
    rw[e]at J;rw[e']at a1;obtain⟨rfl,rfl⟩:=h.sep r i l r' i' l' O ho a4 a0 k J a1;exact oc hd H Y a2 ad
theorem zH (z:ay V)(h:an P V W st a w)(y:aC P V W st w ls cs)(r:ib st ls=true):∀ q,(ac (mvU st ls) st q).sh=(st q).sh/\(st q).ver<=(ac (mvU st ls) st q).ver :=
 (fH z h (sD r).2 (λ_ u=>od y u)).2.2.1
theorem an.putMoved (M:ay V)(h:an P V W st a w){ls:List Leaf}{cs:List Value}(J:aC P V W st w ls cs)(O:ib st ls=true)
  (d:Nat) (I:d<V.nt) (r:∀ x∈V.fixt,x.1≠d) {sh:aI} {v:Value} (hs:ee sh v cs) :
  Rel P V (ac (cf st (mvU st ls) d sh (dF st ls)) st) (a.put (some d) v) w:=by
 obtain⟨h1,R,X,H,Y⟩:=oN M h J O;exact⟨_,h1.put M d I r _ sh (dF st ls) v cs (dm W ls) (CG _) hs R J.one' X
  (λj l y z k u=>⟨(H j l y z k u).1,(H j l y z k u).2.1,(H j l y z k u).2.2.2.1,λr1 Z l1 _=>(H j l y z k u).2.2.2.2 r1 Z l1⟩) Y⟩
theorem an.setBoxG (hV:ay V)(h:an P V W st a w)(b:Nat)(hb:B0<=b)(n:Nat)(ls:List Leaf)(a3:List Value)(X:Nat->List Nat)(g:Nat)(E:TypeId)
    (hn:(st b).ver<n) (hg:(live st b/\W.β b=g)\/(¬ live st b/\¬ ca V W st g/\∀ (j:Nat) (l:Leaf),ls[j]?=some l->am l->∀ k∈X j,k≠g)) (bl:w'.heap[g]?=some (.cells a3.toArray E (0,0)))
    (b0:∀ k,ca V W st k->k≠g->w'.heap[k]?=w.heap[k]?) (a9:∀ (j:Nat) (l:Leaf),ls[j]?=some l->am l->∀ k∈X j,k≠g->w'.heap[k]?=w.heap[k]?) (b2:w.heap.size<=w'.heap.size) (bb:w'.os=w.os) (ht:w'.tape=w.tape) (ho:w'.output=w.output)
    (hl:ls.length=a3.length) (h1:∀ u∈a3,u.oneCell'=true)
    (b1:∀ (j:Nat) (l:Leaf) (u:Value),ls[j]?=some l->a3[j]?=some u->aK P V W st w (X j) l u)
    (ad:∀ (j:Nat) (l:Leaf),ls[j]?=some l->am l->∀ k∈X j,¬ W.nw k/\¬ V.prot k/\(∀ b,live st b->W.β b≠k) /\
      ∀ (r1 j1:Nat) (l1:Leaf),r1≠b->(st r1).ls[j1]?=some l1->am l1->k∉W.bs r1 j1)
    (b3:∀ (j j':Nat) (l l':Leaf),ls[j]?=some l->am l->ls[j']?=some l'->am l'->∀ k,k∈X j->k∈X j'->j=j') :
    an P V { W with β:=λr=>if r=b then g else W.β r,cs:=λr=>if r=b then a3 else W.cs r,bs:=λr j=>if r=b then X j else W.bs r j }
      (ac [(b,⟨n,.agg,ls⟩)] st) a w':=by
  have Y:¬ W.nw g/\¬ V.prot g/\(∀ q,q≠b->live st q->W.β q≠g)/\∀ (r1 j1:Nat) (l1:Leaf),(st r1).ls[j1]?=some l1->am l1->g∉W.bs r1 j1:=by
    rcases hg with ⟨a0,rfl⟩|⟨a0,hg⟩
    · exact⟨(h.box b a0).1,(h.box b a0).2,λq hq b9 e=>hq (h.inj q b b9 a0 e),λr1 j1 l1 y M H=>(h.ownb r1 j1 l1 y M _ H).2.2 b a0 rfl⟩
    · have hu:=hg.1
      simp only[ca,not_or,not_exists,not_and]at hu
      grind
  have b4:∀ (j:Nat) (l:Leaf),ls[j]?=some l->am l->∀ k∈X j,k≠g:=by
    grind
  have I:∀ q,live (ac [(b,⟨n,.agg,ls⟩)] st) q<->(q=b\/live st q):=by
    intro q;rcases aj b q ⟨n,.agg,ls⟩ st with ⟨e0,e⟩|⟨z,e⟩
    · subst e0
      simp[live,e,hb]
    · simp[live,e,z]
  have J:∀ k,ca V W st k->k≠g->w'.heap[k]?=w.heap[k]?:=b0;have a4:cA V W { W with β:=λr=>if r=b then g else W.β r,cs:=λr=>if r=b then a3 else W.cs r,bs:=λr j=>if r=b then X j else W.bs r j } st (ac [(b,⟨n,.agg,ls⟩)] st) w w':=by
    refine⟨λq=>?_,λq hq=>⟨(I q).2 (.inr hq),?_⟩,λ_ h=>h,λk H=>J k (H.elim .inl (λh=>.inr (.inl h))) ?_,λ_ q j l y M Z=>?_⟩
    · rcases aj b q ⟨n,.agg,ls⟩ st with ⟨rfl,e⟩|⟨z,e⟩
      · grind
      · grind
    · grind
    · grind
    · rcases aj b q ⟨n,.agg,ls⟩ st with ⟨rfl,e⟩|⟨z,e⟩
      · grind
      · rw[e]at y
        refine⟨⟨l,y,M⟩,by simp[z],λk H=>J k (.inr (.inr (.inr ⟨q,j,l,y,M,H⟩))) ?_⟩
        grind
  exact {
    nt:=h.nt,df:=h.df
    slots:=λt ba=>by
      have : t ≠ b := by have : GH <= B0 := by decide
                         omega
      rw[aJ this];simpa[this]using h.slots t ba
    boxes:=λq hq=>by
      rcases aj b q ⟨n,.agg,ls⟩ st with ⟨rfl,e⟩|⟨z,e⟩
      · grind
      · rw[e]
        refine (h.boxes q hq).imp id λ⟨y,E',M⟩=>⟨y,E',?_⟩
        simp only[z,if_false];rw[J _ (.inr (.inr (.inl ⟨q,⟨hq,y⟩,rfl⟩))) (Y.2.2.1 q z ⟨hq,y⟩)];exact M
    len:=λq=>by
      rcases aj b q ⟨n,.agg,ls⟩ st with ⟨rfl,e⟩|⟨z,e⟩
      · rw[e];simpa using hl
      · rw[e];simpa[z]using h.len q
    one:=λq u hu=>by
      by_cases hq:q=b
      · grind
      · simp only[hq]at hu;exact h.one q u hu
    leaf:=λq j l u y M=>by
      rcases aj b q ⟨n,.agg,ls⟩ st with ⟨rfl,e⟩|⟨z,e⟩
      · rw[e]at y
        simp only at M;exact (b1 j l u y M).carry hV.ro a4 (λho=>⟨by simp,λk H=>a9 j l y ho k H (b4 j l y ho k H)⟩)
      · rw[e]at y
        simp only[z]at M;refine (h.leaf q j l u y M).carry hV.ro a4 (λho=>⟨by simp[z],λk H=>J k (.inr (.inr (.inr ⟨q,j,l,y,ho,H⟩))) ?_⟩);rintro rfl;exact Y.2.2.2 q j l y ho H
    ownb:=λq j l y M k H=>by
      rcases aj b q ⟨n,.agg,ls⟩ st with ⟨rfl,e⟩|⟨z,e⟩
      · rw[e]at y
        simp only[if_true]at H;have Z:=ad j l y M k H;refine⟨Z.1,Z.2.1,λp hp=>?_⟩;by_cases a2:p=q
        · simp only[a2,if_true];exact λe=>b4 j l y M k H e.symm
        · simp only[a2,if_false];exact Z.2.2.1 p (((I p).1 hp).resolve_left a2)
      · rw[e]at y
        simp only[z,if_false]at H;have Z:=h.ownb q j l y M k H;refine⟨Z.1,Z.2.1,λp hp=>?_⟩;by_cases a2:p=b
        · simp only[a2,if_true];rintro rfl;exact Y.2.2.2 q j l y M H
        · simp only[a2,if_false];exact Z.2.2 p (((I p).1 hp).resolve_left a2)
    sep:=λq j l q' j' l' y M Z h5 k H a1=>by
      rcases aj b q ⟨n,.agg,ls⟩ st with ⟨e0,e⟩|⟨z,e⟩ <;> rcases aj b q' ⟨n,.agg,ls⟩ st with ⟨e1,e'⟩|⟨a5,e'⟩
      · rw[e]at y;rw[e']at Z
        simp only[e0,if_true]at H;simp only[e1,if_true]at a1;exact⟨e0.trans e1.symm,b3 j j' l l' y M Z h5 k H a1⟩
      · rw[e]at y;rw[e']at Z
        simp only[e0,if_true]at H;simp only[a5,if_false]at a1;exact absurd a1 ((ad j l y M k H).2.2.2 q' j' l' a5 Z h5)
      · rw[e]at y;rw[e']at Z
        simp only[z,if_false]at H;simp only[e1,if_true]at a1
        grind
      · rw[e]at y;rw[e']at Z
        simp only[z]at H;simp only[a5,if_false]at a1;exact h.sep q j l q' j' l' y M Z h5 k H a1
    box:=λq hq=>by
      by_cases O:q=b
      · simp only[O,if_true];exact⟨Y.1,Y.2.1⟩
      · simp only[O,if_false];exact h.box q (((I q).1 hq).resolve_left O)
    inj:=λq q' hq b5 e=>by
      by_cases O:q=b <;> by_cases R:q'=b
      · omega
      · simp only[O,if_true,R,if_false]at e
        exact absurd e.symm (Y.2.2.1 q' R (((I q').1 b5).resolve_left R))
      · simp only[O,if_false,R,if_true]at e
        exact absurd e (Y.2.2.1 q O (((I q).1 hq).resolve_left O))
      · simp only[O,if_false,R,if_false]at e
        exact h.inj q q' (((I q).1 hq).resolve_left O) (((I q').1 b5).resolve_left R) e
    nwlt:=λk H=>⟨BZ (h.nwlt k H).1 b2,(h.nwlt k H).2⟩
    os:=bb.trans h.os,tape:=ht.trans h.tape,output:=ho.trans h.output,size:=BO h.size b2
    keep:=λk hp=>by
      rw[J k (.inr (.inl hp)) (by rintro rfl;exact Y.2.1 hp)];exact h.keep k hp
    fixb:=λx hx=>by
      obtain⟨y,M⟩:=h.fixb x hx;refine⟨(I _).2 (.inr y),?_⟩;by_cases a6:x.1=b
      · simp only[a6,if_true]
        rcases hg with ⟨_,e⟩|⟨a0,_⟩
        · rw[<- e,<- a6];exact M
        · exact absurd (a6 ▸ y) a0
      · simpa only[a6,if_false]using M
    fixt:=h.fixt }
theorem an.setBox (hV:ay V)(h:an P V W st a w)(b:Nat)(hb:B0<=b)(n:Nat)(ls:List Leaf)(H:List Value)(z:Nat->List Nat)(g:Nat)(E:TypeId)
  (hn:(st b).ver<n) (hg:(live st b/\W.β b=g)\/(¬ live st b/\w.heap.size<=g)) (Y:w'.heap[g]?=some (.cells H.toArray E (0,0)))
  (I:∀ k,k<w.heap.size->k≠g->w'.heap[k]?=w.heap[k]?) (a0:w.heap.size<=w'.heap.size) (a1:w'.os=w.os) (ht:w'.tape=w.tape) (ho:w'.output=w.output)
  (hl:ls.length=H.length) (h1:∀ u∈H,u.oneCell'=true)
  (X:∀ (j:Nat) (l:Leaf) (u:Value),ls[j]?=some l->H[j]?=some u->aK P V W st w (z j) l u)
  (y:∀ (j:Nat) (l:Leaf),ls[j]?=some l->am l->∀ k∈z j,¬ W.nw k/\¬ V.prot k/\k<w.heap.size/\(∀ b,live st b->W.β b≠k) /\
   ∀ (r1 j1:Nat) (l1:Leaf),r1≠b->(st r1).ls[j1]?=some l1->am l1->k∉W.bs r1 j1)
  (Z:∀ (j j':Nat) (l l':Leaf),ls[j]?=some l->am l->ls[j']?=some l'->am l'->∀ k,k∈z j->k∈z j'->j=j') :
  an P V { W with β:=λr=>if r=b then g else W.β r,cs:=λr=>if r=b then H else W.cs r,bs:=λr j=>if r=b then z j else W.bs r j }
   (ac [(b,⟨n,.agg,ls⟩)] st) a w' :=
 h.setBoxG hV b hb n ls H z g E hn (hg.imp id λ⟨h2,h3⟩=>⟨h2,λhu=>by have:=h.used_lt g hu;omega,λj l O M k J=>by have:=(y j l O M k J).2.2.1;omega⟩) Y
  (λk J R=>I k (h.used_lt k J) R) (λj l O M k J R=>I k (y j l O M k J).2.2.1 R) a0 a1 ht ho hl h1 X
  (λj l O M k J=>⟨(y j l O M k J).1,(y j l O M k J).2.1,(y j l O M k J).2.2.2.1,(y j l O M k J).2.2.2.2⟩) Z
theorem ek (y:aC P V W st w ls cs){x:Nat×Nat}(u:x∈bz st ls):aA st x:=by
 induction ls generalizing cs with
 |nil=>simp[bz]at u
 |cons l ls H =>
  cases cs with
  |nil=>exact y.elim
  |cons v cs =>
   cases l with
   |al r j n =>
    simp only[bz,BQ]at u;rcases u with u|u
    ·split at u
     ·rename_i p X E e R z;simp at u;subst u;exact⟨_,(fg z (by simp)).2,trivial⟩
     ·grind
    ·exact H y.2 u
   |nal p J ep O E e R =>
    simp only[bz,BQ]at u;rcases u with u|u
    ·split at u
     ·rename_i z;simp only[aD]at z;cases I:br st J ep with
      |false=>simp[I]at z
      |true =>
       obtain⟨k,M,rfl⟩:=List.mem_map.1 u;exact (ct I).2.2 k M
     ·grind
    ·exact H y.2 u
   |_=>exact H y.2 u
theorem BC (z:aC P V W st w ls cs){ks:List (Nat×Nat)}(u:∀ x∈bz st ls,x∈ks)(p:Bool):∀ k,bo V W p (bz st ls) k->gd V (W.frz st ks) p k:=by
 intro k r;rcases r with r|⟨x,y,r⟩
 ·exact bT (W':=W.frz st ks) (λh=>h) (λ_ h=>Or.inl h) k r
 ·exact .inl (.inr ⟨x,u x y,ek z y,r⟩)
end
section
variable {P:Program} {V:Env} {Γ:List Ctr} {T:TypeId->TI} {st:St} {o:Oper} {R:Type} {κ:Upd->Option R} {r:R}
def bV (P:Program)(V:Env)(o:Oper)(st:St)(κ:Upd->Option R)(r:R):Prop :=
 ∃ U,κ U=some r/\∀ W a w,an P V W st a w->mN P V o st U a w
theorem yq (M:ay V)(y:bM V o){x:Operand}(u:o.op=.move x)(h:act Γ T o st κ=some r):bV P V o st κ r:=by
 simp only[act,wrU,u]at h;split at h
 ·rename_i d H;refine⟨_,h,λW a w z=>?_⟩;obtain⟨O,J,I⟩:=cU z x;exact dX M z H y (by simp[execOp,u]) J I
 ·grind
theorem vF (X:ay V)(z:bM V o){x:Operand}(y:o.op=.assign x)(h:act Γ T o st κ=some r):bV P V o st κ r:=by
 simp only[act,y]at h;split at h
 ·rename_i d H;cases u:ib st (au st x).2 with
  |false=>simp[u]at h
  |true =>
   simp only[u]at h;refine⟨_,h,λW a w I=>?_⟩;obtain⟨Y,O,M⟩:=cU I x;intro next Q J;refine dW (v:=a.eval x) (w':=w) (by simp[execOp,y]) ?_;rw[H];exact J _ _ (I.putMoved X M u d (z d H).1 (z d H).2 O)
 ·grind
theorem yt (X:ay V)(H:bM V o){c x y:Operand}(u:o.op=.pick c x y)(h:act Γ T o st κ=some r):bV P V o st κ r:=by
 simp only[act,wrU,u]at h;split at h
 ·rename_i t O;cases t with
  |true =>
   split at h
   ·rename_i d I;refine⟨_,h,λW a w z=>?_⟩;obtain⟨Y,M,J⟩:=cU z x;exact dX X z I H (v:=a.eval x) (by simp[execOp,u,ij z O,asBool]) M J
   ·grind
  |false =>
   split at h
   ·rename_i d I;refine⟨_,h,λW a w z=>?_⟩;obtain⟨Y,M,J⟩:=cU z y;exact dX X z I H (v:=a.eval y) (by simp[execOp,u,ij z O,asBool]) M J
   ·grind
 ·grind
theorem sE (hV:ay V)(a0:bM V o){x:Operand}(X:o.op=.nilCheck x)(h:act Γ T o st κ=some r):bV P V o st κ r:=by
 simp only[act,wrU,X]at h;have I:∀ {l:Leaf} {d:Nat},one st x=l->l≠.dead->(∀ W a w,an P V W st a w->aK P V W st w [] l (a.eval x)->∃ ad,a.eval x=.pointer (some ad))->o.dst=some d ->
   ∀ W a w,an P V W st a w->mN P V o st (cf st [] d .one [l]) a w:=by
  intro l d z Z hp H W a w M;obtain⟨Y,h2,h3,_⟩:=bt M x (by rw[z];exact Z);rw[z]at Y h2;obtain⟨ad,O⟩:=hp W a w M Y;exact aO hV M H a0 (v:=a.eval x) (by simp[execOp,X,O]) Y h2 h3
 split at h
 ·split at h
  ·rename_i z _ d H;exact⟨_,h,I z (by simp) (λW a w M u=>by obtain⟨g,o',c,O,_⟩:=u;exact⟨_,O⟩) H⟩
  ·grind
 ·split at h
  ·rename_i z _ d H;exact⟨_,h,I z (by simp) (λW a w M u=>⟨_,u.2.2⟩) H⟩
  ·grind
 ·rename_i r' j v i sz off z;cases J:BD (st r').ver v with
  |false=>simp[J]at h
  |true =>
   simp only[J]at h;split at h
   ·rename_i d H;refine⟨_,h,I z (by simp) (λW a w M u=>?_) H⟩;obtain⟨g,a1,a2,_,_,O⟩:=u.2 (BE J)
    simp_all
   ·grind
 ·split at h
  ·rename_i z _ d H;exact⟨_,h,I z (by simp) (λW a w M u=>by obtain⟨b,ob,g,o',c,O,_⟩:=u;exact⟨_,O⟩) H⟩
  ·grind
 ·rename_i p ks ep b y off z;cases J:br st ks ep with
  |false=>simp[J]at h
  |true =>
   simp only[J]at h;split at h
   ·rename_i d H;refine⟨_,h,I z (by simp) (λW a w M u=>?_) H⟩;obtain⟨g,o',c,O,_⟩:=(u.2.2 (ct J).1 (ct J).2.1 (ct J).2.2:NpOk V W w p ks b y off _).rd
    simp_all
   ·grind
 ·grind
theorem yu (J:ay V)(y:bM V o){M:UnOp}{t:TypeId}{x:Operand}(u:o.op=.unOp M t x)(h:act Γ T o st κ=some r):bV P V o st κ r:=by
 simp only[act,wrU,u]at h;split at h
 ·rename_i b H;split at h
  ·rename_i d I;exact⟨_,h,λW a w z=>aO J z I y (v:=.bool (!b)) (by simp[execOp,u,ij z H,Op.unary]) rfl id rfl⟩
  ·grind
 ·rename_i k n H;split at h
  ·rename_i d I;exact⟨_,h,λW a w z=>aO J z I y (v:=.int k (k.wrap (0-n))) (by simp[execOp,u,bF z H,Op.unary,Op.intArith]) rfl id rfl⟩
  ·grind
 ·grind
theorem ue (hV:ay V)(Z:bM V o){x:Operand}{i:Nat}(H:o.op=.extract x i)(h:act Γ T o st κ=some r):bV P V o st κ r:=by
 simp only[act,wrU,H]at h;split at h
 ·rename_i u ls he;split at h
  ·rename_i agg n hp;split at h
   ·rename_i d hd;refine⟨_,h,λW a w hr=>?_⟩;obtain⟨z,hs,hl⟩:=cU hr x;rw[he]at hs hl;obtain⟨y,hv,J⟩:=hs;have O:∀ (u:List (Bool×Nat)) (y z:List Value) (i:Nat) (off:Nat),pw u y z->u[i]?=some (agg,n) ->
      ∃ v,y[i]?=some v/\de agg v ((z.drop ((u.take i).foldl (λa b=>a+b.2) off-off)).take n)/\off<=(u.take i).foldl (λa b=>a+b.2) off:=by
     intro u;induction u with
     |nil=>intro y z i off _ I;simp at I
     |cons p u ih =>
      rintro y z i off ⟨v,a0,c,Y,rfl,rfl,hc,a1,J⟩ I;cases i with
      |zero =>
       simp_all
      |succ i =>
       obtain⟨v',X,M,h3⟩:=ih a0 Y i (off+p.2) J (by simpa using I);refine⟨v',by simpa using X,?_,by simp;omega⟩;simp;have e:(u.take i).foldl (λa b=>a+b.2) (off+p.2)-off=c.length+((u.take i).foldl (λa b=>a+b.2) (off+p.2)-(off+p.2)):=by omega
       rw[e,<- Cc,List.drop_left];exact M
    obtain⟨v,X,M,_⟩:=O u y z i 0 J hp;refine dX hV hr hd Z (v:=v) ?_ (kk M) ((hl.drop _).take n);simp[execOp,H,hv,Instr.extract,X]
   ·grind
  ·grind
 ·grind
theorem uN {W:Wit}{a:Act}{w:World}(J:an P V W st a w):∀ (xs:List Operand) (u l:List Nat),
  xs.foldl (λ (u:Option (List Nat)) x=>u.bind λl=>match one st x with|.bp b 0=>some (l++[b])|_=>none) (some u)=some l ->
  ∃ y,l=u++y/\xs.map a.eval=y.map (λb=>Value.pointer (some ⟨W.β b,0,none⟩))/\∀ b∈y,B0<=b/\(st b).sh=.agg
 |[],u,l,h=>⟨[],by simpa using h.symm,rfl,by simp⟩
 |x::xs,u,l,h=>by
  simp at h;have H:∀ (xs:List Operand),xs.foldl (λ (u:Option (List Nat)) x=>u.bind λl=>match one st x with|.bp b 0=>some (l++[b])|_=>none) none=none:=by
   intro xs;induction xs with
   |nil=>rfl
   |cons x xs Y=>simpa using Y
  split at h
  ·rename_i b M;obtain⟨y,X,O,Z⟩:=uN J xs (u++[b]) l h;have z:=(bt J x (by rw[M];simp)).1;rw[M]at z;refine⟨b::y,by simp[X],?_,?_⟩
   ·simp only[Ce,O];rw[show a.eval x=_ from z.2.2]
   ·intro q I;rcases CP.1 I with rfl|I
    ·exact⟨z.1,z.2.1⟩
    ·grind
  ·grind
theorem sG (Z:ay V)(z:bM V o){fn:Fn}{first caps:Array Operand}(u:o.op=.makeFunc fn first caps)(h:act Γ T o st κ=some r):bV P V o st κ r:=by
 cases fn with
 |func f =>
  simp only[act,wrU,u]at h;cases y:BD first.size 0 with
  |false=>simp[y]at h
  |true =>
   simp only[y]at h;split at h
   ·rename_i l I;split at h
    ·rename_i d J;refine⟨_,h,λW a w H=>?_⟩;obtain⟨l',X,M,O⟩:=uN H caps.toList [] l I;subst X;have Y:first=#[]:=Array.eq_empty_of_size_eq_zero (BE y)
     refine aO Z H J z (v:=.func (.func f) #[] (l.map λb=>Value.pointer (some ⟨W.β b,0,none⟩)).toArray) ?_ ⟨rfl,O⟩ id rfl;rw[<- M];simp[execOp,u,Instr.makeFunc,Y,<- CH]
    ·grind
   ·grind
 |_=>simp[act,u]at h
theorem gl {α:Type}{xs:List α}{i:Int}{x:α}(h:idx xs i=some x):0<=i/\i<xs.length/\xs[i.toNat]?=some x:=by
 unfold idx at h
 grind
end
section
variable {P:Program} {V:Env} {Γ:List Ctr} {T:TypeId->TI} {st:St} {o:Oper} {R:Type} {κ:Upd->Option R} {r:R}
theorem wT {W:Wit}{a:Act}{w:World}(I:an P V W st a w){x:Operand}{b:Ty}{p:Bool}{u:b.den}(z:(au st x).1=.agg)(J:cQ st b (au st x).2=some (p,u)) :
  ∃ y G,a.eval x=.agg y.toArray/\Rd w G b u y:=by
 obtain⟨y,H,M⟩:=cU I x;rw[z]at H;exact⟨y,_,H,eE I M J⟩
theorem lE {t:TypeId}(y:P.underlying t=some .bool)(b u:Bool)(w:World):(Op.equal t (.bool b) (.bool u)).run P w=.ok (b==u) w:=by
 have e:Op.maxDepth=9999+1:=rfl;unfold Op.equal;rw[e];generalize 9999=m;unfold Op.equalIn;rw[BT,run_underlying y];rfl
theorem wU (Z:ay V)(hT:TOk P T)(J:bM V o){op:BinOp}{t t':TypeId}{x y:Operand}(H:o.op=.binOp op t x y t')(h:act Γ T o st κ=some r):bV P V o st κ r:=by
  simp only[act,wrU,H]at h;split at h
  · rename_i k m k' n X O
    cases op
    case shl =>
      simp only at h;cases Y:decide (n<0) with
      |true=>simp[Y]at h
      |false =>
        simp only[Y,cond_false]at h;split at h
        · rename_i d M
          refine⟨_,h,λW a w z=>aO Z z M J (v:=.int k (k.wrap (m*2 ^ (min n.toNat k.bits)))) ?_ rfl id rfl⟩;have:¬ n<0:=of_decide_eq_false Y;simp[execOp,H,bF z X,bF z O,eqGuard,Go.binOp,Op.shift,this]
        · cases h
    case shr =>
      simp only at h;cases Y:decide (n<0) with
      |true=>simp[Y]at h
      |false =>
        simp only[Y,cond_false]at h;split at h
        · rename_i d M
          refine⟨_,h,λW a w z=>aO Z z M J (v:=.int k (m.fdiv (2 ^ (min n.toNat k.bits)))) ?_ rfl id rfl⟩;have:¬ n<0:=of_decide_eq_false Y;simp[execOp,H,bF z X,bF z O,eqGuard,Go.binOp,Op.shift,this]
        · cases h
    case quo =>
      simp only at h;cases Y:decide (n=0) with
      |true=>simp[Y]at h
      |false =>
        simp only[Y,cond_false]at h;cases I:decide (k=k') with
        |false=>simp[I]at h
        |true =>
          simp only[I,cond_true]at h;have I:=of_decide_eq_true I;subst I;split at h
          · rename_i d M
            refine⟨_,h,λW a w z=>aO Z z M J (v:=.int k (k.wrap (m.tdiv n))) ?_ rfl id rfl⟩;have:¬ n=0:=of_decide_eq_false Y;simp[execOp,H,bF z X,bF z O,eqGuard,Go.binOp,Op.intDiv,this]
          · cases h
    case rem =>
      simp only at h;cases Y:decide (n=0) with
      |true=>simp[Y]at h
      |false =>
        simp only[Y,cond_false]at h;cases I:decide (k=k') with
        |false=>simp[I]at h
        |true =>
          simp only[I,cond_true]at h;have I:=of_decide_eq_true I;subst I;split at h
          · rename_i d M
            refine⟨_,h,λW a w z=>aO Z z M J (v:=.int k (m.tmod n)) ?_ rfl id rfl⟩;have:¬ n=0:=of_decide_eq_false Y;simp[execOp,H,bF z X,bF z O,eqGuard,Go.binOp,Op.intDiv,this]
          · cases h
    case and =>
      simp only at h;cases I:decide (k=k') with
      |false=>simp[I]at h
      |true =>
        simp only[I,cond_true]at h;have I:=of_decide_eq_true I;subst I;split at h
        · rename_i d M
          refine⟨_,h,λW a w z=>aO Z z M J (v:=.int k (k.wrap ((BitVec.ofInt k.bits m &&& BitVec.ofInt k.bits n).toNat))) ?_ rfl id rfl⟩;simp[execOp,H,bF z X,bF z O,eqGuard,Go.binOp,Op.intBits]
        · cases h
    case xor =>
      simp only at h;cases I:decide (k=k') with
      |false=>simp[I]at h
      |true =>
        simp only[I,cond_true]at h;have I:=of_decide_eq_true I;subst I;split at h
        · rename_i d M
          refine⟨_,h,λW a w z=>aO Z z M J (v:=.int k (k.wrap ((BitVec.ofInt k.bits m ^^^ BitVec.ofInt k.bits n).toNat))) ?_ rfl id rfl⟩;simp[execOp,H,bF z X,bF z O,eqGuard,Go.binOp,Op.intBits]
        · cases h
    all_goals
      simp only at h;cases I:decide (k=k') with
      |false=>simp[I]at h
      |true =>
        simp only[I,cond_true]at h;have I:=of_decide_eq_true I;subst I;split at h
        · rename_i l hl
          split at h
          · rename_i d M
            refine⟨_,h,λW a w z=>?_⟩;obtain⟨v,h1,h2,h3,h4⟩:=vE (P:=P) (V:=V) (W:=W) (st:=st) (w:=w) _ k t t' x y m n l hl (bF z X) (bF z O) H;exact aO Z z M J h1 h2 h3 h4
          · cases h
        · cases h
  · rename_i b b' X O
    cases ht:T t with
    |bool =>
      have h1:=hT t;rw[ht]at h1;simp only[ht]at h;cases op <;> simp only at h <;> first
        |cases h;done
        | (split at h
           · rename_i d M
             first
               |exact⟨_,h,λW a w z=>aO Z z M J (v:=.bool (b==b')) (by simp[execOp,H,ij z X,ij z O,eqGuard,Go.binOp,lE h1.1]) rfl id rfl⟩
               |exact⟨_,h,λW a w z=>aO Z z M J (v:=.bool (b != b')) (by simp[execOp,H,ij z X,ij z O,eqGuard,Go.binOp,lE h1.1,bne]) rfl id rfl⟩
           · cases h)
    |_=>simp[ht]at h
  · rename_i b b' X O
    cases op <;> simp only at h <;> first
      |cases h;done
      | (cases a0 : decide (b.size + b'.size <= 9223372036854775807) with
         |false=>rw[a0]at h;cases h
         |true =>
           rw[a0]at h;simp only[cond_true]at h;split at h
           · rename_i d M
             refine⟨_,h,λW a w z=>aO Z z M J (v:=.string (b++b')) ?_ rfl id rfl⟩;have:(b.size:Int)+b'.size<=9223372036854775807:=by have:=of_decide_eq_true a0;omega
             simp[execOp,H,iB z X,iB z O,eqGuard,Go.binOp,Op.stringOp,this]
           · cases h)
      | (split at h
         · rename_i d M
           first
             |exact⟨_,h,λW a w z=>aO Z z M J (v:=.bool (b.toList==b'.toList)) (by simp[execOp,H,iB z X,iB z O,eqGuard,Go.binOp,Op.stringOp]) rfl id rfl⟩
             |exact⟨_,h,λW a w z=>aO Z z M J (v:=.bool (b.toList != b'.toList)) (by simp[execOp,H,iB z X,iB z O,eqGuard,Go.binOp,Op.stringOp,bne]) rfl id rfl⟩
         · cases h)
  · cases ht:T t with
    |struct b b1 =>
      have h1:=hT t;rw[ht]at h1;obtain⟨_,_,_,b0,a2⟩:=h1;simp only[ht]at h;cases hf:b.flat&&decide ((au st x).1=.agg)&&decide ((au st y).1=.agg) with
      |false=>simp[hf]at h
      |true =>
        simp only[hf,cond_true]at h;simp only[BG,decide_eq_true_eq]at hf;obtain⟨⟨hf,a4⟩,ad⟩:=hf;split at h
        · rename_i p u q v a6 a3
          have a1:∀ (W:Wit) (a:Act) (w:World),an P V W st a w->(Op.equal t (a.eval x) (a.eval y)).run P w=.ok (b.eqv u v) w/\(∃ cx cy:Array Value,a.eval x=.agg cx/\a.eval y=.agg cy):=by
            intro W a w z;obtain⟨cx,G,X,a9⟩:=wT z a4 a6;obtain⟨cy,G',O,a5⟩:=wT z ad a3;rw[X,O];exact⟨b0 hf w G u v cx cy a9 (Rd.flat hf a5),_,_,rfl,rfl⟩
          cases op <;> simp only at h <;> first
            |cases h;done
            | (split at h
               · rename_i d M
                 first
                   | (refine ⟨_, h, λW a w z => aO Z z M J (v := .bool (b.eqv u v)) ?_ rfl id rfl⟩
                      obtain⟨h2,cx,cy,X,O⟩:=a1 W a w z;rw[X,O]at h2;simp[execOp,H,X,O,eqGuard,Go.binOp,a2,h2];done)
                   | (refine ⟨_, h, λW a w z => aO Z z M J (v := .bool (!b.eqv u v)) ?_ rfl id rfl⟩
                      obtain⟨h2,cx,cy,X,O⟩:=a1 W a w z;rw[X,O]at h2;simp[execOp,H,X,O,eqGuard,Go.binOp,a2,h2])
               · cases h)
        · cases h
    |_=>simp[ht]at h
end
section
variable {P:Program} {V:Env} {Γ:List Ctr} {T:TypeId->TI} {st:St} {o:Oper} {R:Type} {κ:Upd->Option R} {r:R}
theorem fa (g off n:Nat):(⟨g,off,none⟩:Addr).add n=⟨g,off+n,none⟩:=by
 unfold Addr.add;split <;> simp_all
theorem dq {t:TypeId}{n:Nat}(h:bP P t n)(w:World):(sizeOf t).run P w=.ok n w:=by
 unfold bP at h;cases u:P.info? t with
 |none=>simp[u]at h
 |some i =>
  simp[u]at h;simp[sizeOf,typeInfo,u,h]
theorem gm {t:TypeId}{z:Value}(h:d5 P t z)(w:World):(zeroValue t).run P w=.ok z w:=by
 unfold d5 at h;cases u:P.info? t with
 |none=>simp[u]at h
 |some i =>
  simp[u]at h;simp[zeroValue,typeInfo,u,h]
theorem rT (hV:ay V)(hT:TOk P T)(M:bM V o){t:TypeId}{x:Operand}{f:Nat}(a0:o.op=.fieldAddr t x f)(h:act Γ T o st κ=some r):bV P V o st κ r:=by
 simp only[act,wrU,a0]at h;cases ht:T t with
 |struct b a5 =>
  simp only[ht]at h;split at h
  ·rename_i off n agg hf;have h1:=hT t;rw[ht]at h1;obtain⟨⟨fs,hu,_,a2⟩,_⟩:=h1;obtain⟨_,fd,h2,h3,h4,h5,h6,_⟩:=a2 f off n agg hf;have I:∀ (a:Act) (w:World) (g O:Nat),a.eval x=.pointer (some ⟨g,O,none⟩)->(execOp a.eval o).run P w=.ok (.value (.pointer (some ⟨g,O+off,none⟩))) w:=by
    intro a w g O X;have u:=dq h6 w;have h8:n≠0:=by omega
    simp[execOp,a0,X,Instr.fieldAt,run_underlying hu,h2,CK,fieldPlace,u,h8,fa]
   split at h
   ·rename_i p b' y O H;split at h
    ·rename_i d Z;refine⟨_,h,λW a w z=>?_⟩;obtain⟨u,_,_,_⟩:=bt z x (by rw[H];simp);rw[H]at u;obtain⟨g,og,c,X,hg,Y,hc⟩:=u;exact aO hV z Z M (I a w g _ X) ⟨g,og,c,by rw[CE],hg,Y,hc⟩ id rfl
    ·grind
   ·rename_i b' O H;split at h
    ·rename_i d Z;refine⟨_,h,λW a w z=>?_⟩;obtain⟨u,_,_,_⟩:=bt z x (by rw[H];simp);rw[H]at u;exact aO hV z Z M (I a w _ _ u.2.2) ⟨u.1,u.2.1,rfl⟩ id rfl
    ·grind
   ·rename_i r' j v i sz O H;cases J:BD (st r').ver v with
    |false=>simp[J]at h
    |true =>
     simp only[J]at h;split at h
     ·rename_i d Z;refine⟨_,h,λW a w z=>?_⟩;obtain⟨u,_,_,_⟩:=bt z x (by rw[H];simp);rw[H]at u;obtain⟨g,a3,a4,hh,a1,X⟩:=u.2 (BE J);exact aO hV z Z M (I a w g _ X) ⟨u.1,λ_=>⟨g,a3,a4,hh,a1,by rw[CE]⟩⟩ id rfl
     ·grind
   ·rename_i p ks ep b' y O H;cases J:br st ks ep with
    |false=>simp[J]at h
    |true =>
     simp only[J]at h;split at h
     ·rename_i d Z;refine⟨_,h,λW a w z=>?_⟩;obtain⟨u,_,_,_⟩:=bt z x (by rw[H];simp);rw[H]at u;have h8:NpOk V W w p ks b' y O _:=u.2.2 (ct J).1 (ct J).2.1 (ct J).2.2;obtain⟨g,og,c,X,hg,Y,hc⟩:=h8.rd;exact aO hV z Z M (I a w g _ X) ⟨u.1,u.2.1,λ_ _ _=>⟨g,og,c,by rw[CE],hg,Y,hc⟩⟩ id rfl
     ·grind
   ·grind
  ·grind
 |_=>simp[ht]at h
theorem rU (hV:ay V)(hT:TOk P T)(Y:bM V o){t:TypeId}{x i:Operand}(a1:o.op=.indexAddr t x i)(h:act Γ T o st κ=some r):bV P V o st κ r:=by
 simp only[act,wrU,a1]at h;split at h
 ·rename_i k n hi;cases ht:T t with
  |slice E e ad =>
   simp only[ht]at h;have h1:=hT t;rw[ht]at h1;obtain⟨hu,_,_,bn,_,ti,z,b2,b0,_⟩:=h1;have hE:bP P E e.cells:=by simp[bP,b2,b0]
   have a3:∀ (W:Wit) (a:Act) (w:World) (g o' X I:Nat),an P V W st a w->0<=n->n<X->a.eval x=.slice (some ⟨g,o',none⟩) X I ->
     (execOp a.eval o).run P w=.ok (.value (.pointer (some ⟨g,o'+n.toNat*e.cells,none⟩))) w:=by
    intro W a w g o' X I H h0 h1 M;have Z:=dq hE w;simp[execOp,a1,M,bF H hi,Cf,asIntOf,run_underlying hu,h0,h1,Z,fa]
   split at h
   ·rename_i r' j v O;split at h
    ·rename_i p hh E' e' xs a9;cases u:BD e'.cells e.cells with
     |false=>simp[u]at h
     |true =>
      simp only[u]at h;have u:=BE u;obtain⟨y,hy,h⟩:=BM.1 h;obtain⟨Z,h3,h4⟩:=gl hy;split at h
      ·rename_i d hd;refine⟨_,h,λW a w H=>?_⟩;obtain⟨J,_,_,_⟩:=bt H x (by rw[O];simp);rw[O]at J;obtain⟨h8,h9,ba,bl⟩:=kq H a9 J;obtain⟨_,b3,bb,ho,b5,_⟩:=h9;rcases ho.2 with ⟨hn,h0⟩|⟨g,a0,b9,_,M,_,_,_⟩
       ·omega
       ·refine aO hV H hd Y (a3 W a w g 0 xs.length a0 H Z h3 M) ⟨by omega,λ_=>⟨g,xs.length,a0,by rw[h8,M],by omega,by simp[u]⟩⟩ id rfl
      ·grind
    ·grind
   ·rename_i p E' e' xs O;cases u:BD e'.cells e.cells with
    |false=>simp[u]at h
    |true =>
     simp only[u]at h;have u:=BE u;obtain⟨y,hy,h⟩:=BM.1 h;obtain⟨Z,h3,h4⟩:=gl hy;split at h
     ·rename_i d hd;refine⟨_,h,λW a w H=>?_⟩;obtain⟨J,_,_,_⟩:=bt H x (by rw[O];simp);rw[O]at J;obtain⟨A,I,M,a6,a5⟩:=J;have M:a.eval x=.slice A xs.length I:=by simpa using M
      obtain⟨g,o',rfl,hg,a2⟩:=a5 (by omega);obtain⟨c,hc,a4⟩:=a2 n.toNat y h4;refine aO hV H hd Y (a3 W a w g o' xs.length I H Z h3 M) ⟨g,o'+n.toNat*e'.cells,c,by rw[u];rfl,?_,hc,a4⟩ id rfl;rcases hg with hg|⟨_,hg⟩
      ·grind
      ·exact .inr (hV.ro g hg)
     ·grind
   ·rename_i p ks ep b4 E' e' xs O;cases u:BD e'.cells e.cells&&br st ks ep with
    |false=>simp[u]at h
    |true =>
     simp only[u]at h;simp only[BG]at u;obtain⟨u,b1⟩:=u;have u:=BE u;obtain⟨y,hy,h⟩:=BM.1 h;obtain⟨Z,h3,h4⟩:=gl hy;split at h
     ·rename_i d hd;refine⟨_,h,λW a w H=>?_⟩;obtain⟨J,_,_,_⟩:=bt H x (by rw[O];simp);rw[O]at J;have h8:=pz b1 J;obtain⟨A,I,M,a6,a5⟩:=h8.rd;have M:a.eval x=.slice A xs.length I:=by simpa using M
      obtain⟨g,o',rfl,hg,a2⟩:=a5 (by omega);obtain⟨c,hc,a4⟩:=a2 n.toNat y h4;exact aO hV H hd Y (a3 W a w g o' xs.length I H Z h3 M) ⟨J.1,J.2.1,λ_ _ _=>⟨g,o'+n.toNat*e'.cells,c,by rw[u];rfl,hg,hc,a4⟩⟩ id rfl
     ·grind
   ·grind
  |arr e X =>
   simp only[ht]at h;have h1:=hT t;rw[ht]at h1;obtain⟨⟨E,hu,hE,_⟩,_⟩:=h1;split at h
   ·rename_i b off O;cases u:decide (0<=n)&&decide (n<(X:Int)) with
    |false=>simp[u]at h
    |true =>
     simp only[u]at h;simp at u;split at h
     ·rename_i d hd;refine⟨_,h,λW a w H=>?_⟩;obtain⟨J,_,_,_⟩:=bt H x (by rw[O];simp);rw[O]at J;refine aO hV H hd Y (v:=.pointer (some ⟨W.β b,off+n.toNat*e.cells,none⟩)) ?_ ⟨J.1,J.2.1,rfl⟩ id rfl;have Z:=dq hE w;simp[execOp,a1,J.2.2,bF H hi,Cf,CK,asIntOf,run_underlying hu,u.1,u.2,Z,fa]
     ·grind
   ·grind
  |_=>simp[ht]at h
 ·grind
theorem wV {t:TypeId}{i:TI}(u:oM P t i)(J:i.cells≠0\/i≠.none)(w:World):(isAgg t).run P w=.ok i.agg w:=by
 cases i with
 |none=>simp[TI.cells]at J
 |struct a I =>
  obtain⟨⟨M,H,_⟩,_⟩:=u;simp[isAgg,run_underlying H,TI.agg]
 |arr e n=>obtain⟨⟨E,H,_⟩,_⟩:=u;simp[isAgg,run_underlying H,TI.agg]
 |ptr=>obtain⟨⟨e,H⟩,_⟩:=u;simp[isAgg,run_underlying H,TI.agg]
 |fn=>obtain⟨⟨x,y,z,H⟩,_⟩:=u;simp[isAgg,run_underlying H,TI.agg]
 |int k=>simp[isAgg,run_underlying u.1,TI.agg]
 |bool=>simp[isAgg,run_underlying u.1,TI.agg]
 |str=>simp[isAgg,run_underlying u.1,TI.agg]
 |slice E e b=>simp[isAgg,run_underlying u.1,TI.agg]
theorem oO {t:TypeId}{i:TI}(u:oM P t i)(z:i≠.none):bP P t i.cells:=by
 cases i with
 |none=>exact absurd rfl z
 |struct a y=>exact u.2.1
 |arr e n=>exact u.2.2.1
 |ptr=>exact u.2.1
 |fn=>exact u.2.1
 |int k=>exact u.2.1
 |bool=>exact u.2.1
 |str=>exact u.2.1
 |slice E e b=>exact u.2.1
theorem mP {W:Wit}{a:Act}{w:World}(H:an P V W st a w){e:Ty}:∀ (n:Nat) (ls:List Leaf) (cs:List Value) (xs:List e.den),aC P V W st w ls cs->fE st e n ls=some xs ->
  xs.length=n/\∀ (i:Nat) (x:e.den),xs[i]?=some x->∃ G,Rd w G e x ((cs.drop (i*e.cells)).take e.cells)
 |0,ls,cs,xs,_,h=>by
  simp only[fE]at h
  simp_all
 |n+1,ls,cs,xs,z,h=>by
  simp only[fE]at h;split at h
  ·rename_i p x Y O I;simp at h;subst h;obtain⟨J,X⟩:=mP H n _ _ _ (z.drop e.cells) I;refine⟨by simp[J],λi y u=>?_⟩;cases i with
   |zero =>
    simp at u;subst u;exact⟨_,by simpa using eE H (z.take e.cells) O⟩
   |succ i =>
    obtain⟨G,M⟩:=X i y (by simpa using u);rw[Cc]at M
    grind
  ·cases h
theorem wW (hV:ay V)(hT:TOk P T)(Z:bM V o){t:TypeId}{x i:Operand}(J:o.op=.index t x i)(h:act Γ T o st κ=some r):bV P V o st κ r:=by
 simp only[act,wrU,J]at h;split at h
 ·rename_i k n hi;cases hs:T t with
  |str =>
   simp only[hs]at h;split at h
   ·rename_i s hx;obtain⟨y,hy,h⟩:=BM.1 h;split at h
    ·rename_i d hd;refine⟨_,h,λW a w I=>aO hV I hd Z (v:=.int .u8 (y.toNat:Int)) ?_ rfl id rfl⟩;have h1:=hT t;rw[hs]at h1;obtain⟨h2,h3,h4⟩:=gl hy;have h5:s[n.toNat]?=some y:=by
      have h6:=(BF.1 h4);obtain⟨h7,h8⟩:=h6;have h9:n.toNat<s.size:=by rw[Array.length_toList]at h7;exact h7
      rw[getElem?_pos s n.toNat h9];congr 1
     simp[execOp,J,bF I hi,iB I hx,Ca,asIntOf,run_underlying h1.1,h2,h5]
    ·grind
   ·grind
  |arr e Y =>
   simp only[hs]at h;have h1:=hT t;rw[hs]at h1;obtain⟨⟨E,hu,hE,O⟩,a4,_⟩:=h1;cases hb:e.flat&&decide ((au st x).1=.agg)&&BD (au st x).2.length (Y*e.cells)&&!BD e.cells 0 with
   |false=>simp[hb]at h
   |true =>
    simp only[hb]at h;simp only[BG,decide_eq_true_eq]at hb;obtain⟨⟨⟨hf,a2⟩,a3⟩,_⟩:=hb;split at h
    ·rename_i vs hg;obtain⟨y,hy,h⟩:=BM.1 h;split at h
     ·rename_i d hd;refine⟨_,h,λW a w I=>?_⟩;obtain⟨cs,z,hl⟩:=cU I x;rw[a2]at z;have z:a.eval x=.agg cs.toArray:=z;obtain⟨h2,h3,h4⟩:=gl hy;obtain⟨h5,h6⟩:=mP I Y _ _ _ hl hg;obtain⟨G,h7⟩:=h6 n.toNat y h4;have h8:Rd w (λ_=>False) e y ((cs.drop (n.toNat*e.cells)).take e.cells):=Rd.flat hf h7;have h9:=h8.len;have M:(isAgg E).run P w=.ok e.isAgg w:=by
       cases X:P.underlying E with
       |none=>simp[X]at O
       |some u =>
        simp only[X,Cb,BK]at O;rw[<- O];cases u <;> simp[isAgg,run_underlying X]
      have a1:=dq hE w;have hn:n<(Y:Int):=by omega
      cases H:e.isAgg with
      |true =>
       have:=dX hV I hd Z (v:=.agg ((cs.drop (n.toNat*e.cells)).take e.cells).toArray) (sh:=.agg) (ls:=cH false e y) ?_ rfl (e9 (λ_ h=>h.elim) h8)
       ·exact this
       ·rw[H]at M;simp[execOp,J,bF I hi,z,Ca,asIntOf,run_underlying hu,h2,hn,part,M,a1]
      |false =>
       have a0:e.cells=1:=by cases e <;> first|rfl|simp[Ty.isAgg]at H
       rw[a0]at h8 h9
       match hc:(cs.drop (n.toNat*1)).take 1,h9 with
       |[v],_ =>
        rw[hc]at h8;have:=dX hV I hd Z (v:=v) (sh:=.one) (ls:=cH false e y) (cs:=[v]) ?_ rfl (e9 (λ_ h=>h.elim) h8)
        ·exact this
        ·rw[H]at M;have hv:cs[n.toNat]?=some v:=by
          have:((cs.drop (n.toNat*1)).take 1)[0]?=some v:=by rw[hc];rfl
          grind
         simp[execOp,J,bF I hi,z,Ca,asIntOf,run_underlying hu,h2,hn,part,M,a1,a0,hv]
     ·grind
    ·grind
  |_=>simp[hs]at h
 ·grind
theorem oe {t:TypeId}{i:TI}(H:oM P t i)(M:i≠.none){w:World}{g off:Nat}{cs:List Value}(O:cX w g off cs)(y:cs.length=i.cells) :
  ∃ v,(loadVar t ⟨g,off,none⟩).run P w=.ok v w/\ee (bi i.agg) v cs:=by
 have J:=wV H (.inr M) w;cases z:i.agg with
 |true =>
  refine⟨.agg cs.toArray,?_,rfl⟩;have Y:=dq (oO H M) w;have I:=run_loadCells_list (P:=P) w ⟨g,off,none⟩ cs (λj v X=>by rw[fa];exact O j v X);rw[y]at I;simp[loadVar,J,z,Y,I]
 |false =>
  have u:i.cells=1:=by cases i <;> simp_all [TI.agg,TI.cells]
  rw[u]at y
  match cs,y with
  |[v],_ =>
   have:=O 0 v rfl;rw[Nat.add_zero]at this;exact⟨v,by simp[loadVar,J,z,this],rfl⟩
theorem cX.sub {w:World}{g off:Nat}{cs:List Value}(h:cX w g off cs)(k n:Nat):cX w g (off+k) ((cs.drop k).take n):=by
 intro i v u;rw[BS]at u;split at u
 ·rw[B9]at u;have:=h (k+i) v u
  grind
 ·cases u
theorem Mx.deep {w:World}{G G':Nat->Prop}:∀ {a:Ty} {h:Option Nat} {pos:Nat} {x:a.den} {cs:List Value} {bs:List Nat},a.shy=false->Mx w G a h pos x cs bs->Mx w G' a h pos x cs bs
 |.int _,_,_,_,_,_,_,h=>h
 |.bool,_,_,_,_,_,_,h=>h
 |.str,_,_,_,_,_,_,h=>h
 |.unit,_,_,_,_,_,_,h=>h
 |.hdr,_,_,_,_,_,_,h=>h
 |.pair _ _,_,_,_,_,_,u,⟨c1,c2,X,b2,I,Y,J,z⟩=>by
  simp only[Ty.shy,CL]at u;exact⟨c1,c2,X,b2,I,Y,Mx.deep u.1 J,Mx.deep u.2 z⟩
 |.list m E e,h,pos,xs,cs,bs,u,H=>by
  simp only[Ty.shy,CL,Bool.not_eq_false']at u;obtain⟨rfl,u⟩:=u;by_cases O:h=some pos
  ·subst O;rw[je]at H ⊢;exact H
  ·rw[bI O]at H ⊢;obtain⟨v,I,y,M,J,z,Z⟩:=H;refine⟨v,I,y,M,J,z,λj x hj=>?_⟩;obtain⟨c,h4,h5⟩:=Z j x hj;exact⟨c,Mx.deep u h4,h5⟩
theorem OwB.shy {W:Wit}{w:World}{p:Bool}{h:Option (Nat×Nat)}{E:TypeId}{e:Ty}{xs:List e.den}{v:Value}{bs:List Nat}(H:OwB w (gd V W p) h E e xs v bs):OwB w (gd V W (p&&e.shy)) h E e xs v bs:=by
 cases Y:e.shy with
 |true=>simpa using H
 |false =>
  obtain⟨u,y,O,z,I⟩:=H;refine⟨u,y,O,z,λj x M=>?_⟩;obtain⟨c,X,J⟩:=I j x M;exact⟨c,Mx.deep Y X,J⟩
theorem jf (p:Bool)(r j v ep i u:Nat)(h:Option Nat):∀ (a:Ty) (off:Nat) (x:a.den),(gC p r j v ep i u h a off x).length=a.cells
 |.int _,_,_=>rfl
 |.bool,_,_=>rfl
 |.str,_,_=>rfl
 |.unit,_,_=>rfl
 |.hdr,_,_=>rfl
 |.pair a b,off,x=>by simp[gC,Ty.cells,jf p r j v ep i u h a,jf p r j v ep i u h b]
 |.list _ _ _,_,_=>rfl
theorem l9 {W:Wit}{w:World}{p:Bool}{r j g len y i sz:Nat}(O:(W.cs r)[j]?=some (.slice (some ⟨g,0,none⟩) len y))(J:i<len)(hg:g∈W.bs r j){hol:Option Nat} :
  ∀ {a:Ty} {pos:Nat} {x:a.den} {cs:List Value} {bs:List Nat},(∀ k∈bs,k∈W.bs r j)->Mx w (gd V W p) a hol pos x cs bs->cX w g (i*sz+pos) cs->aC P V W st w (gC p r j (st r).ver (st EPO).ver i sz hol a pos x) cs
 |.int _,_,_,_,_,_,h,_=>by rw[h.1];exact⟨⟨rfl,id,rfl⟩,trivial⟩
 |.bool,_,_,_,_,_,h,_=>by rw[h.1];exact⟨⟨rfl,id,rfl⟩,trivial⟩
 |.str,_,_,_,_,_,h,_=>by rw[h.1];exact⟨⟨rfl,id,rfl⟩,trivial⟩
 |.unit,_,_,_,_,_,h,_=>by rw[h.1];trivial
 |.hdr,_,_,_,_,_,⟨⟨A,y,e⟩,_⟩,_=>by rw[e];exact⟨⟨⟨A,y,rfl⟩,id,rfl⟩,trivial⟩
 |.pair a b,pos,x,cs,bs,M,⟨c1,c2,b1,b2,e1,e2,Z,Y⟩,X=>by
  subst e1;have hl:=Z.len;refine aC.append (l9 O J hg (λk z=>M k (by rw[e2];exact BJ _ z)) Z λq u hu=>X q u ?_)
   (l9 O J hg (λk z=>M k (by rw[e2];exact BI _ z)) Y λq u hu=>?_)
  ·grind
  ·have:=X (a.cells+q) u (by rw[<- hl,BW (by omega)];simpa using hu)
   grind
 |.list m E e,pos,xs,cs,bs,M,H,X=>by
  have I:=H.one;simp only[gC];by_cases hp:hol=some pos
  ·have e0:decide (hol=some pos)=true:=decide_eq_true hp;rw[e0];obtain⟨v,rfl,_⟩:=H;exact⟨⟨trivial,id,I v (by simp)⟩,trivial⟩
  ·have e0:decide (hol=some pos)=false:=decide_eq_false hp;rw[e0];cases m with
   |false =>
    rw[cm]at H;obtain⟨A,y,rfl,Y,h3⟩:=H.2;exact⟨⟨⟨A,y,rfl,Y,h3⟩,id,rfl⟩,trivial⟩
   |true =>
    rw[bI hp]at H;obtain⟨v,rfl,hO⟩:=H;have Z:=X 0 v rfl;refine⟨⟨⟨BL _,λk z=>?_,λ_ _ _=>⟨?_,λi' a2 a1 he=>?_⟩⟩,id,I v (by simp)⟩,trivial⟩
    ·grind
    ·obtain⟨a0,a3,h4,h5,h6⟩:=OwB.shy hO;refine sw h4 (λk z=>.inr ⟨_,B3 _,M k (by rw[h5];exact BJ _ z)⟩) λq x hq=>?_
     obtain⟨c,h7,h8⟩:=h6 q x hq;exact⟨c,h7.rd (λk z=>.inl z) (λk z=>.inr ⟨_,B3 _,M k (by rw[h5];exact BI _ (dV.2 ⟨q,(BF.1 hq).1,z⟩))⟩),h8⟩
    ·grind
theorem ka {W:Wit}{w:World}{p:Bool}{ks:List (Nat×Nat×Nat)}{ep:Nat}(y:ep<=(st EPO).ver)(u:∀ k∈ks,k.2.2<=(st k.1).ver) :
  ∀ {a:Ty} {x:a.den} {cs:List Value},Rd w (λb=>gd V W p b\/∃ k∈ks,b∈W.bs k.1 k.2.1) a x cs->aC P V W st w (lx p ks ep a x) cs
 |.int _,_,_,h=>by rw[show _=_ from h];exact⟨⟨rfl,id,rfl⟩,trivial⟩
 |.bool,_,_,h=>by rw[show _=_ from h];exact⟨⟨rfl,id,rfl⟩,trivial⟩
 |.str,_,_,h=>by rw[show _=_ from h];exact⟨⟨rfl,id,rfl⟩,trivial⟩
 |.unit,_,_,h=>by rw[show _=_ from h];trivial
 |.hdr,_,_,⟨A,z,e⟩=>by rw[e];exact⟨⟨⟨A,z,rfl⟩,id,rfl⟩,trivial⟩
 |.pair _ _,_,_,⟨X,Y,e,M,H⟩=>by rw[e];exact (ka y u M).append (ka y u H)
 |.list m E e,Z,_,h=>by
  obtain⟨A,z,rfl,H,I⟩:=h;exact⟨⟨⟨y,u,λ_ _ _=>⟨⟨A,z,rfl,H,I⟩,λi O off J=>by cases J⟩⟩,id,rfl⟩,trivial⟩
theorem zT {W:Wit}{a:Act}{w:World}(hr:an P V W st a w){r j n g len O i:Nat}{p:Bool}{hh:Option (Nat×Nat)}{E:TypeId}{e:Ty}{xs:List e.den}{y:e.den}(h8:(st r).ver=n)(h9:(st r).ls[j]?=some (.own p hh E e xs))
  (H:(W.cs r)[j]?=some (.slice (some ⟨g,0,none⟩) len O)) (M:i<len) (Y:xs[i]?=some y) :
  ∃ c,cX w g (i*e.cells) c/\aC P V W st w (gC p r j n (st EPO).ver i e.cells (cJ hh i) e 0 y) c:=by
 subst h8;obtain⟨_,Z,a1,ho,J,I⟩:=hr.leaf r j _ _ h9 H;obtain⟨c,h1,h2⟩:=I i y Y;have X:=h1.len;have hi:i<xs.length:=(BF.1 Y).1;have z:len=xs.length:=by
  obtain⟨A,a0,e0,_⟩:=ho.slice
  simp_all
 subst z;have hc:cX w g (i*e.cells) c:=by
  intro q u hu;have hq:=(BF.1 hu).1;rw[ho.cellAt _ (by
   have:i*e.cells+e.cells<=xs.length*e.cells:=by
    have:=Nat.mul_le_mul_right e.cells (show i+1<=xs.length from hi)
    grind
   omega)]
  grind
 refine⟨c,hc,l9 H M (by rw[J];simp[B4]) (λk hk=>?_) h1 hc⟩
 grind
theorem yw (hV:ay V)(hT:TOk P T)(ad:bM V o){t:TypeId}{x:Operand}(a3:o.op=.load t x)(h:act Γ T o st κ=some r):bV P V o st κ r:=by
 simp only[act,wrU,a3,lX]at h;have a4:=hT t;have Y:∀ (W:Wit) (a:Act) (w:World) (g off:Nat) (cs:List Value) (ls:List Leaf) (d:Nat),an P V W st a w->o.dst=some d->T t≠.none->a.eval x=.pointer (some ⟨g,off,none⟩)->cX w g off cs ->
   cs.length=(T t).cells->aC P V W st w ls cs->mN P V o st (cf st [] d (bi (T t).agg) ls) a w:=by
  intro W a w g off cs ls d z X hn O hc hl a0;obtain⟨v,h1,h2⟩:=oe a4 hn hc hl;exact dX hV z X ad (v:=v) (by simp[execOp,a3,O,Instr.loadAt,CK,h1]) h2 a0
 cases M:decide ((T t).cells=0) with
 |true=>simp[M]at h
 |false =>
  simp only[M]at h;have M:(T t).cells≠0:=of_decide_eq_false M;have Z:T t≠.none:=by intro e;rw[e]at M;exact M rfl
  split at h
  ·rename_i p b y off J;cases u:decide (off+(T t).cells<=b.cells) with
   |false=>simp[u]at h
   |true =>
    simp only[u]at h;split at h
    ·rename_i d X;refine⟨_,h,λW a w z=>?_⟩;obtain⟨H,_,_,_⟩:=bt z x (by rw[J];simp);rw[J]at H;obtain⟨g,og,c,O,hg,I,hc⟩:=H;refine Y W a w g _ ((c.drop off).take (T t).cells) _ d z X Z O (hc.sub off _) ?_ (((e9 (λ_ h=>h) I).drop off).take _);have:=I.len
     grind
    ·grind
  ·rename_i b off J;cases u:decide ((st b).sh=.agg)&&decide (off+(T t).cells<=(st b).ls.length) with
   |false=>simp[u]at h
   |true =>
    simp only[u]at h;split at h
    ·rename_i d X;refine⟨_,h,λW a w z=>?_⟩;obtain⟨H,_,_,_⟩:=bt z x (by rw[J];simp);rw[J]at H;obtain⟨hB,b2,O⟩:=H;rcases z.boxes b hB with ⟨h8,_⟩|⟨_,E,h8⟩
     ·grind
     ·have hc:cX w (W.β b) 0 (W.cs b):=λi v O=>by
       rw[CT,cell_of_row w (W.β b) i _ E (0,0) h8]
       simp_all
      have b1:=z.len b;have a2:=hc.sub off (T t).cells;rw[CT]at a2;refine Y W a w (W.β b) off _ _ d z X Z O a2 ?_ (((iA z b).drop off).take _)
      grind
    ·grind
  ·rename_i p b y J;cases u:BD (T t).cells 1&&!(T t).agg with
   |false=>simp[u]at h
   |true =>
    simp only[u]at h;simp only[BG,CC]at u;split at h
    ·rename_i d X;refine⟨_,h,λW a w z=>?_⟩;obtain⟨H,_,_,_⟩:=bt z x (by rw[J];simp);rw[J]at H;obtain⟨q,oq,g,og,c,O,_,a1,hg,I,hc⟩:=H;have:=Y W a w q oq [.pointer (some ⟨g,og,none⟩)] [.rp p b y 0] d z X Z O (λi v hi=>by
      cases i with
      |zero=>simp at hi;subst hi;exact a1
      |succ i=>simp at hi) (by simp[BE u.1]) ⟨⟨⟨g,og,c,rfl,hg,I,hc⟩,id,rfl⟩,trivial⟩
     rw[u.2]at this;exact this
    ·grind
  ·rename_i p ks ep b y off J;cases u:br st ks ep&&decide (off+(T t).cells<=b.cells) with
   |false=>simp[u]at h
   |true =>
    simp only[u]at h;simp at u;split at h
    ·rename_i d X;refine⟨_,h,λW a w z=>?_⟩;obtain⟨H,_,_,_⟩:=bt z x (by rw[J];simp);rw[J]at H;have h8:NpOk V W w p ks b y off _:=H.2.2 (ct u.1).1 (ct u.1).2.1 (ct u.1).2.2;obtain⟨g,og,c,O,hg,I,hc⟩:=h8.rd;refine Y W a w g _ ((c.drop off).take (T t).cells) _ d z X Z O (hc.sub off _) ?_ (((ka H.1 H.2.1 I).drop off).take _);have:=I.len
     grind
    ·grind
  ·rename_i r' j v i sz off J;split at h
   ·rename_i p hh E e xs a5;cases u:BD sz e.cells&&decide (off+(T t).cells<=e.cells) with
    |false=>simp[u]at h
    |true =>
     simp only[u]at h;simp only[BG]at u;have a6:=BE u.1;subst a6;obtain⟨y,hy,h⟩:=BM.1 h;obtain⟨_,_,h4⟩:=gl hy;split at h
     ·rename_i d X;refine⟨_,h,λW a w z=>?_⟩;obtain⟨H,_,_,_⟩:=bt z x (by rw[J];simp);rw[J]at H;obtain⟨h8,h9⟩:=fg a5 (by simp);obtain⟨g,b3,b4,b0,a9,O⟩:=H.2 h8;obtain⟨c,hc,a0⟩:=zT z h8 h9 b0 a9 h4;refine Y W a w g _ _ _ d z X Z O (hc.sub off _) ?_ ((a0.drop off).take _);have:=a0.length;rw[jf]at this
      grind
     ·grind
   ·grind
  ·grind
end
section
variable {P:Program} {V:Env} {Γ:List Ctr} {T:TypeId->TI} {st:St} {o:Oper} {R:Type} {κ:Upd->Option R} {r:R}
theorem wX (hV:ay V)(hT:TOk P T)(X:bM V o){t:TypeId}{x:Operand}{f:Nat}(I:o.op=.field t x f)(h:act Γ T o st κ=some r):bV P V o st κ r:=by
 simp only[act,wrU,I]at h;cases ht:T t with
 |struct b a2 =>
  simp only[ht]at h;split at h
  ·rename_i off n agg hf;have h1:=hT t;rw[ht]at h1;obtain⟨⟨fs,hu,_,a1⟩,_⟩:=h1;obtain⟨J,Z,h2,h3,h4,h5,h6,Y⟩:=a1 f off n agg hf;cases O:decide ((au st x).1=.agg)&&decide ((au st x).2.length=b.cells) with
   |false=>simp[O]at h
   |true =>
    simp only[O,cond_true]at h;simp only[BG,decide_eq_true_eq]at O;split at h
    ·rename_i d hd;refine⟨_,h,λW a w hr=>?_⟩;obtain⟨u,hs,hl⟩:=cU hr x;rw[O.1]at hs;have M:=hl.length;rw[O.2]at M;have y:(isAgg Z.type).run P w=.ok agg w:=by
      unfold isAgg;cases H:P.underlying Z.type with
      |none=>simp[H]at Y
      |some dd =>
       rw[H]at Y;simp only[Cb,BK]at Y;subst Y;rw[BT,run_underlying H w];cases dd <;> rfl
     have a0:=dq h6 w;cases agg with
     |true =>
      refine dX hV hr hd X (v:=.agg ((u.drop off).take n).toArray) ?_ rfl ((hl.drop off).take n);have e:u.toArray.extract off (off+n)=((u.drop off).take n).toArray:=by
       rw[List.extract_toArray,List.extract_eq_take_drop,Nat.add_sub_cancel_left]
      have hp:(part Z.type u.toArray off).run P w=.ok (.agg ((u.drop off).take n).toArray) w:=by
       simp only[part,BT,y,BP,if_true,a0,BX,e]
      simp only[execOp,I,show a.eval x=_ from hs,Cj,BT,run_underlying hu,BP,h2,asAgg,BX,h3,hp]
     |false =>
      have J:=J rfl;subst J;have z:off<u.length:=by omega
      have hv:((u.drop off).take 1)=[u[off]]:=by
       rw[List.take_one,List.head?_drop,BH z];rfl
      refine dX hV hr hd X (v:=u[off]) ?_ (show ee .one _ ((u.drop off).take 1) from hv) ((hl.drop off).take 1);have e:u.toArray[off]?=some u[off]:=by simp[z]
      have hp:(part Z.type u.toArray off).run P w=.ok u[off] w:=by
       simp only[part,BT,y,BP,Bool.false_eq_true,if_false,e,BX]
      simp only[execOp,I,show a.eval x=_ from hs,Cj,BT,run_underlying hu,BP,h2,asAgg,BX,h3,hp]
    ·cases h
  ·cases h
 |_=>simp[ht]at h
theorem AP {α:Type}(u y:List α)(off:Nat)(h:off+y.length<=u.length):(u.take off++y++u.drop (off+y.length)).length=u.length:=by
 simp;omega
theorem k9 (cs c:List Value)(off:Nat)(h:off+c.length<=cs.length) :
  (c.zipIdx 0).foldl (λcs (x:Value×Nat)=>cs.setIfInBounds (off+x.2) x.1) cs.toArray=(cs.take off++c++cs.drop (off+c.length)).toArray:=by
 obtain⟨H,z⟩:=Great.foldl_set off c 0 cs.toArray;apply Array.ext_getElem?;intro k;rw[z k];simp only[Nat.add_zero,List.size_toArray,List.getElem?_toArray];by_cases y:off<=k/\k<off+c.length/\k<cs.length
 ·rw[if_pos y,B5,BW (by simp;omega),CA (by simp;omega)];congr 1;simp;omega
 ·rw[if_neg y];by_cases u:k<off
  ·rw[B5,CA (by simp;omega),BS,if_pos u]
  ·rw[BW (by simp;omega),B9];congr 1;simp;omega
theorem gU {agg:Bool}{v:Value}{cs:List Value}(h:ee (bi agg) v cs)(y:∀ u∈cs,u.oneCell'=true):v.cells=cs.toArray:=by
 cases agg with
 |true=>rw[show v=_ from h];rfl
 |false =>
  have h:cs=[v]:=h;subst h;have:=y v (CS.2 rfl);cases v <;> first|rfl|simp[BN]at this
theorem ma {W:Wit}{a:Act}{w:World}(hr:an P V W st a w){z:List (Nat×Nat×Bool)}{pl:Nat->Option (Nat×Nat)}(J:∀ (i off n:Nat) (agg:Bool),z[i]?=some (off,n,agg)->pl i=some (off,n)):∀ (ps:List (Nat×Operand)) (ls u:List Leaf) (cs:List Value),
  aC P V W st w ls cs->ft st z ps ls=some u ->
  ∃ y,aC P V W st w u y/\Instr.fill pl cs.toArray (ps.map λx=>(x.1,a.eval x.2))=some y.toArray
 |[],ls,u,cs,O,h=>by
  simp[ft]at h;subst h;exact⟨cs,O,rfl⟩
 |(i,x)::ps,ls,u,cs,O,h=>by
  simp only[ft]at h;split at h
  ·rename_i off n agg hf;cases X:BD (au st x).2.length n&&decide ((au st x).1=bi agg)&&decide (off+n<=ls.length) with
   |false=>simp[X]at h
   |true =>
    simp only[X,cond_true]at h;simp only[BG,decide_eq_true_eq]at X;obtain⟨⟨M,Y⟩,a2⟩:=X;have M:=BE M;obtain⟨c,hs,I⟩:=cU hr x;rw[Y]at hs;have hc:=gU hs I.one';have a1:=O.length;have H:=I.length;have a0:aC P V W st w (jE ls (au st x).2 off) (cs.take off++c++cs.drop (off+c.length)):=by
     unfold jE;rw[H];exact ((O.take off).append I).append (O.drop _)
    obtain⟨y,h1,h2⟩:=ma hr J ps _ u _ a0 h;refine⟨y,h1,?_⟩;simp only[Ce,Instr.fill];have Z:pl i=some (off,n):=J _ _ _ _ hf;have a3:c.toArray.size=n:=by simp;omega
    simp only[Z,hc];rw[if_neg (by simp;omega)];have e:c.toArray.zipIdx.foldl (λcs (x:Value×Nat)=>cs.setIfInBounds (off+x.2) x.1) cs.toArray=(c.zipIdx 0).foldl (λcs (x:Value×Nat)=>cs.setIfInBounds (off+x.2) x.1) cs.toArray:=by
     rw[<- Array.foldl_toList];simp
    have e2:=k9 cs c off (by omega);rw[<- e2,<- e]at h2;exact h2
  ·cases h
theorem lF {W:Wit}{w:World}:∀ (b:Ty),aC P V W st w (eY b) (zeroCells b)
 |.int _=>⟨⟨rfl,id,rfl⟩,trivial⟩
 |.bool=>⟨⟨rfl,id,rfl⟩,trivial⟩
 |.str=>⟨⟨rfl,id,rfl⟩,trivial⟩
 |.unit=>trivial
 |.pair a b=>(lF a).append (lF b)
 |.hdr=>⟨⟨rfl,id,rfl⟩,trivial⟩
 |.list _ _ _=>⟨⟨rfl,id,rfl⟩,trivial⟩
theorem oP {W:Wit}{w:World}(e:Ty):∀ (n:Nat),aC P V W st w (BU n (eY e)).flatten (BU n (zeroCells e)).flatten
 |0=>trivial
 |n+1=>by
  rw[CO,CO,CV,CV];exact (lF e).append (oP e n)
theorem wY (hV:ay V)(hT:TOk P T)(a1:bM V o){t:TypeId}{u:Array (Nat×Operand)}(O:o.op=.build t u)(h:act Γ T o st κ=some r):bV P V o st κ r:=by
 simp only[act,wrU,O]at h;cases Z:T t with
 |struct b a0 =>
  simp only[Z]at h;split at h
  ·rename_i ls M;split at h
   ·rename_i d hd;refine⟨_,h,λW a w X=>?_⟩;have h1:=hT t;rw[Z]at h1;obtain⟨⟨fs,hu,a2,_⟩,_,H,_⟩:=h1;obtain⟨z,h2,h3⟩:=ma X (pl:=((a0.map λx=>(x.1,x.2.1)).toArray[·]?)) (λi off n agg I=>by simp[I]) u.toList _ ls _ (lF b) M;refine dX hV X hd a1 (v:=.agg z.toArray) ?_ rfl h2;have y:P.built t (u.map λ (i,x)=>(i,a.eval x)).toList=some z.toArray:=by
     unfold d5 at H;unfold Cg;cases Y:P.info? t with
     |none=>simp[Y]at H
     |some ti =>
      simp[Y]at H;simp only[hu,H,a2];rw[CH];exact h3
    simp[execOp,O,run_build w t _ _ y]
   ·cases h
  ·cases h
 |arr e n =>
  simp only[Z]at h;split at h
  ·rename_i ls M;split at h
   ·rename_i d hd;refine⟨_,h,λW a w X=>?_⟩;have h1:=hT t;rw[Z]at h1;obtain⟨⟨E,hu,hE,_⟩,_,_,H⟩:=h1;obtain⟨z,h2,h3⟩:=ma X (pl:=λi=>some (i*e.cells,e.cells)) (λi off n agg I=>by
     rw[CU]at I;obtain⟨j,hj,I⟩:=BR.1 I;rw[List.getElem?_range (by simpa using (BF.1 hj).1)]at hj;simp only[BK]at hj;subst hj;simp only[Cd]at I;simp[<- I.1,<- I.2.1]) u.toList _ ls _ (oP e n) M
    refine dX hV X hd a1 (v:=.agg z.toArray) ?_ rfl h2;have y:P.built t (u.map λ (i,x)=>(i,a.eval x)).toList=some z.toArray:=by
     unfold d5 at H;unfold bP at hE;unfold Cg;cases Y:P.info? t with
     |none=>simp[Y]at H
     |some ti =>
      simp[Y]at H;cases J:P.info? E with
      |none=>simp[J]at hE
      |some ie =>
       simp[J]at hE;simp only[hu,H,J,hE];rw[CH];exact h3
    simp[execOp,O,run_build w t _ _ y]
   ·cases h
  ·cases h
 |_=>simp[Z]at h
theorem mQ {W:Wit}{a:Act}{w:World}(H:an P V W st a w){x:Option Operand}{u n:Int}(h:di st x u=some n) :
  (x=none/\n=u)\/∃ y k,x=some y/\a.eval y=.int k n:=by
 unfold di at h;split at h
 ·simp at h;exact .inl ⟨rfl,h.symm⟩
 ·split at h
  ·rename_i l k m z;simp at h;subst h;exact .inr ⟨_,k,rfl,bF H z⟩
  ·cases h
theorem kb (u:Bool)(len y:Nat)(Y:len<=y)(H J:Option Value)(i h:Int)(M:0<=i)(I:i<=h)(hh:h<=len)(X:(H=none/\i=0)\/∃ k,H=some (.int k i))
  (O:(J=none/\h=len)\/∃ k,J=some (.int k h)) (w:World):(CW u len y H J none).run P w=.ok (i.toNat,h.toNat,y) w:=by
 have Z:0<=h:=by omega
 have hc:h<=(y:Int):=by omega
 have z:i<=((h.toNat:Nat):Int):=by omega
 rcases X with ⟨rfl,rfl⟩|⟨k,rfl⟩ <;> rcases O with ⟨rfl,rfl⟩|⟨k',rfl⟩ <;>
  simp[CW,Instr.sliceBound,asIntOf,M,Z,hc,z,I,-Int.ofNat_toNat]
theorem jv (O:ay V){W:Wit}{a:Act}{w:World}(I:an P V W st a w){x:Operand}{l:Leaf}(y:aD st (one st x)=l)(J:l≠.dead)(H:¬ am l):aK P V W st w [] l (a.eval x):=by
 have z:one st x≠.dead:=by intro e;rw[e]at y;exact J y.symm
 obtain⟨X,M,_⟩:=bt I x z;rcases l8 O I X M with ⟨_,_,_,_,u,_⟩|⟨_,u⟩
 ·rw[y]at u;exact absurd u H
 ·rw[y]at u;exact u
theorem wZ (X:ay V){W:Wit}{a:Act}{w:World}(M:an P V W st a w){x:Operand}{p:Bool}{ks:List (Nat×Nat×Nat)}{ep:Nat}{y:Option (Nat×Nat×Nat)}{E:TypeId}{e:Ty}{xs:List e.den}
  (u:aD st (one st x)=.nal p ks ep y E e xs):aK P V W st w [] (.nal p ks ep y E e xs) (a.eval x)/\br st ks ep=true:=by
 refine⟨jv X M u (by simp) (by simp[am]),?_⟩;generalize one st x=l at u;cases l with
 |nal Y H I J Z e' O =>
  simp only[aD]at u;cases z:br st H I with
  |false=>simp[z]at u
  |true =>
   simp only[z,cond_true]at u;cases u;exact z
 |al r j n=>exact absurd u iR
 |_=>simp[aD]at u
theorem uf (hV:ay V){W:Wit}{a:Act}{w:World}(H:an P V W st a w){x:Operand}{p:Bool}{J:Option (Nat×Nat)}{E:TypeId}{e:Ty}{xs:List e.den}(u:aD st (one st x)=.own p J E e xs) :
  ∃ r i n,one st x=.al r i n/\(st r).ls[i]?=some (.own p J E e xs)/\OwH w (gd V W p) J E e xs (a.eval x) (W.bs r i)/\(W.cs r)[i]?=some (a.eval x)/\(st r).ver=n:=by
 have z:one st x≠.dead:=by intro e;rw[e]at u;cases u
 obtain⟨I,X,_⟩:=bt H x z;rcases l8 hV H I X with ⟨r,i,n,M,_,_,_⟩|⟨y,_⟩
 ·rw[M]at u I;obtain⟨y,Z,Y,O⟩:=kq H u I;exact⟨r,i,n,M,Y,Z,y,O⟩
 ·rw[u]at y;exact absurd trivial y
theorem goes_frz (H:ay V){W:Wit}{a:Act}{w:World}(h:an P V W st a w){d:Nat}(z:o.dst=some d)(y:bM V o)(ks:List (Nat×Nat)){v:Value}{sh:aI}{ls:List Leaf}{cs:List Value}
  (u:(execOp a.eval o).run P w=.ok (.value v) w) (M:ee sh v cs) (I:aC P V (W.frz st ks) (ac (aF st ks) st) w ls cs):mN P V o st (cf st (aF st ks) d sh ls) a w:=by
 intro next Q J;refine dW u ?_;rw[z];refine J _ _ ?_;rw[cf,aP];exact (lD H ks h).1.putLs H d (y d z).1 (y d z).2 _ sh ls v cs (CG _) M I
theorem cX.shift {w:World}{g o:Nat}{c:List Value}{k s j:Nat}(h:cX w g (o+(k+j)*s) c):cX w g (o+k*s+j*s) c:=by
 rwa [CE,<- Nat.add_mul]
theorem Rd.cut {w:World}{G:Nat->Prop}{E:TypeId}{e:Ty}{xs:List e.den}{A:Option Addr}{u:Nat}(h:Rd w G (.list false E e) xs [.slice A xs.length u])(i n:Nat)(X:i<=n)(hn:n<=xs.length) :
  Rd w G (.list false E e) ((xs.take n).drop i) [.slice (if u=i then A else A.map (·.add (i*e.cells))) (n-i) (u-i)]:=by
 obtain⟨A',J,M,hc,Y⟩:=h;simp at M;obtain⟨rfl,rfl⟩:=M;have z:((xs.take n).drop i).length=n-i:=by simp;omega
 refine⟨_,u-i,by rw[z],by rw[z];omega,λZ=>?_⟩;rw[z]at Z;obtain⟨g,o,rfl,hg,I⟩:=Y (by omega);refine⟨g,o+i*e.cells,?_,hg,λj x y=>?_⟩
 ·rw[if_neg (by omega)];simp[fa]
 ·rw[B9,BS]at y;split at y
  ·obtain⟨c,O,H⟩:=I (i+j) x y;exact⟨c,O,H.shift⟩
  ·cases y
theorem vG (hV:ay V)(hT:TOk P T)(a6:bM V o){t:TypeId}{x:Operand}{lo hi:Option Operand}(a2:o.op=.slice t x lo hi none)(h:act Γ T o st κ=some r):bV P V o st κ r:=by
 simp only[act,wrU,a2]at h;cases hd:o.dst with
 |none=>simp[hd]at h
 |some d =>
  simp only[hd]at h;split at h
  ·cases h
  ·rename_i i a9;have h1:=hT t;have X:∀ (W:Wit) (a:Act) (w:World) (y:Option Operand) (a5 n:Int),an P V W st a w->di st y a5=some n->(y.map a.eval=none/\n=a5)\/∃ k,y.map a.eval=some (.int k n):=by
    intro W a w y a5 n O u;rcases mQ O u with ⟨rfl,rfl⟩|⟨z,k,rfl,hz⟩
    ·exact .inl ⟨rfl,rfl⟩
    ·exact .inr ⟨k,by simp[hz]⟩
   split at h
   ·rename_i s ht hx;rw[ht]at h1;split at h
    ·rename_i n a0;cases u:decide (0<=i)&&decide (i<=n)&&decide (n<=(s.size:Int)) with
     |false=>simp[u]at h
     |true =>
      simp only[u,cond_true]at h;simp only[BG,decide_eq_true_eq]at u;refine⟨_,h,λW a w O=>aO hV O hd a6 (v:=.string (s.extract i.toNat n.toNat)) ?_ rfl id rfl⟩;have J:=kb (P:=P) false s.size s.size (BL _) (lo.map a.eval) (hi.map a.eval) i n u.1.1 u.1.2 u.2 (X W a w lo 0 i O a9) (X W a w hi _ n O a0) w;have b4:a.eval x=.string s:=(jv hV O hx (by simp) (by simp[am]));simp[execOp,a2,b4,CF,CM,run_underlying h1.1,J]
    ·cases h
   ·rename_i E' e' a4 p ks ep b5 E e xs ht hx;rw[ht]at h1;obtain⟨hu,_,_,_,_,ti,z,a1,a3,_⟩:=h1;split at h
    ·rename_i n a0;cases u:decide (0<=i)&&decide (i<=n)&&decide (n<=(xs.length:Int))&&BD e'.cells e.cells with
     |false=>simp[u]at h
     |true =>
      simp only[u,cond_true]at h;simp only[BG,decide_eq_true_eq]at u;obtain⟨u,I⟩:=u;have I:=BE I;refine⟨_,h,λW a w O=>?_⟩;obtain⟨hl,b3⟩:=wZ hV O hx;have h8:=pz b3 hl;obtain⟨A,H,hv,M,Z⟩:=h8.rd;have hv:a.eval x=.slice A xs.length H:=by simpa using hv
      have J:=kb (P:=P) true xs.length H M (lo.map a.eval) (hi.map a.eval) i n u.1.1 u.1.2 u.2 (X W a w lo 0 i O a9) (X W a w hi _ n O a0) w;have hE:=dq (P:=P) (t:=E') (n:=e.cells) (by simp[bP,a1,a3,I]) w;have Y:=Rd.cut (E:=E) (⟨A,H,rfl,M,Z⟩:Rd w _ (.list false E e) xs [.slice A xs.length H]) i.toNat n.toNat (by omega) (by omega);refine aO hV O hd a6 (v:=.slice (if H=i.toNat then A else A.map (·.add (i.toNat*e.cells))) (n.toNat-i.toNat) (H-i.toNat)) ?_ ⟨hl.1,hl.2.1,λ_ _ _=>⟨Y,λi' sz off he=>by cases he⟩⟩ id rfl;simp only[execOp,a2,hv,CF,CM,BT,run_underlying hu,BP,CI,J,hE,BX]
    ·cases h
   ·rename_i E' e' a4 p E e xs ht hx;rw[ht]at h1;obtain⟨hu,_,_,_,_,ti,z,a1,a3,_⟩:=h1;split at h
    ·rename_i n a0;cases u:decide (0<=i)&&decide (i<=n)&&decide (n<=(xs.length:Int))&&BD e'.cells e.cells with
     |false=>simp[u]at h
     |true =>
      simp only[u,cond_true]at h;simp only[BG,decide_eq_true_eq]at u;obtain⟨u,I⟩:=u;have I:=BE I;refine⟨_,h,λW a w O=>?_⟩;have hl:=jv hV O hx (by simp) (by simp[am]);obtain⟨A,H,hv,M,Z⟩:=hl;have hv:a.eval x=.slice A xs.length H:=by simpa using hv
      have J:=kb (P:=P) true xs.length H M (lo.map a.eval) (hi.map a.eval) i n u.1.1 u.1.2 u.2 (X W a w lo 0 i O a9) (X W a w hi _ n O a0) w;have hE:=dq (P:=P) (t:=E') (n:=e.cells) (by simp[bP,a1,a3,I]) w;have Y:=Rd.cut (E:=E) (⟨A,H,rfl,M,Z⟩:Rd w (gd V W p) (.list false E e) xs [.slice A xs.length H]) i.toNat n.toNat (by omega) (by omega);refine aO hV O hd a6 (v:=.slice (if H=i.toNat then A else A.map (·.add (i.toNat*e.cells))) (n.toNat-i.toNat) (H-i.toNat)) ?_ Y id rfl;simp only[execOp,a2,hv,CF,CM,BT,run_underlying hu,BP,CI,J,hE,BX]
    ·cases h
   ·rename_i E' e' a4 p E e xs ht hx;rw[ht]at h1;obtain⟨hu,_,_,_,_,ti,z,a1,a3,_⟩:=h1;split at h
    ·rename_i n a0;cases u:decide (0<=i)&&decide (i<=n)&&decide (n<=(xs.length:Int))&&BD e'.cells e.cells with
     |false=>simp[u]at h
     |true =>
      simp only[u,cond_true]at h;simp only[BG,decide_eq_true_eq]at u;obtain⟨u,I⟩:=u;have I:=BE I;split at h
      ·rename_i r' j n' e1;refine⟨_,h,λW a w O=>?_⟩;obtain⟨r1,j1,n1,b2,h2,ad,_,b0⟩:=uf hV O hx;rw[e1]at b2;obtain⟨rfl,rfl,rfl⟩:r'=r1/\j=j1/\n'=n1:=by cases b2;exact⟨rfl,rfl,rfl⟩
       obtain⟨A,H,hv,M⟩:=ad.slice;have J:=kb (P:=P) true xs.length H M (lo.map a.eval) (hi.map a.eval) i n u.1.1 u.1.2 u.2 (X W a w lo 0 i O a9) (X W a w hi _ n O a0) w;have hE:=dq (P:=P) (t:=E') (n:=e.cells) (by simp[bP,a1,a3,I]) w;have b1:=OwH.rd (m:=false) (E':=E) ad;rw[hv]at b1;have Y:=Rd.cut b1 i.toNat n.toNat (by omega) (by omega);refine aO hV O hd a6 (v:=.slice (if H=i.toNat then A else A.map (·.add (i.toNat*e.cells))) (n.toNat-i.toNat) (H-i.toNat)) ?_
        ⟨BL _,λk hk=>?_,λ_ _ _=>⟨Rd.mono (λk hk=>?_) Y,λi' sz off he=>by cases he⟩⟩ id rfl
       ·simp only[execOp,a2,hv,CF,CM,BT,run_underlying hu,BP,CI,J,hE,BX]
       ·simp only[CS]at hk;subst hk;exact Nat.le_of_eq b0.symm
       ·rcases hk with hk|hk
        ·exact .inl hk
        ·exact .inr ⟨_,B3 _,hk⟩
      ·cases h
    ·cases h
   ·cases h
theorem zU (hV:ay V)(hT:TOk P T)(X:bM V o){c:Call}(I:o.op=.call c)(hc:c.callee=.builtin .len)(h:act Γ T o st κ=some r):bV P V o st κ r:=by
 simp only[act,wrU,I,hc]at h;split at h
 ·cases h
 ·rename_i d hd;simp only[hd]at h;split at h
  ·rename_i x hx;split at h
   ·rename_i t ht;have y:c.args=#[x]:=by rw[<- CN (xs:=c.args),hx]
    have M:c.argTypes=#[t]:=by rw[<- CN (xs:=c.argTypes),ht]
    have Y:=hT t;have J:∀ (a:Act) (w:World) (n:Int),(CX #[t] o.type #[a.eval x]).run P w=.ok (.int .i64 n) w->(execOp a.eval o).run P w=.ok (.value (.int .i64 n)) w:=by
     intro a w n O;simp[execOp,I,hc,resolve,invoke,builtin,y,M,O]
    split at h
    ·rename_i E e b u;rw[u]at Y;split at h
     ·rename_i n O;refine⟨_,h,λW a w z=>aO hV z hd X (J a w _ ?_) rfl id rfl⟩;have Z:one st x≠.dead:=by intro e;rw[e]at O;simp[aD,fX]at O
      obtain⟨h2,h3,_⟩:=bt z x Z;obtain⟨A,a0,H⟩:=wR z h2 h3 O;have H:a.eval x=.slice A n a0:=by simpa using H
      simp[CX,run_underlying Y.1,H,goInt]
     ·cases h
    ·rename_i s u a1;rw[u]at Y;refine⟨_,h,λW a w z=>aO hV z hd X (J a w _ ?_) rfl id rfl⟩;have H:a.eval x=.string s:=jv hV z a1 (by simp) (by simp[am]);simp[CX,run_underlying Y.1,H,goInt]
    ·cases h
   ·cases h
  ·cases h
end
end Go.Proofs.YtaegajachoklkaaGreatEv
