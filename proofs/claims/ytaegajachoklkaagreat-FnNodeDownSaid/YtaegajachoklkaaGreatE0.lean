/- The value evaluator, second form: what a Go function's code computes, on plain values. No proof here but definitions. -/
import Derived.Calls
import Derived.Orders
import Derived.KernelRfl
import Derived.Below
import Derived.Maps.AppendAt
import Derived.Laws.OwnMore
import Derived.Lib.ConvBytes
import Derived.WalkKit
import Derived.Great.BuildSlice
set_option linter.unusedVariables false
set_option linter.unusedSimpArgs false
open Array renaming getD_eq_getD_getElem?->BV,toList_map->Be,toArray_toList->Bk
open Bool renaming and_eq_true->AW,not_eq_true'->BZ,or_eq_false_iff->Bi,not_eq_true->Bv
open ByteArray renaming empty->BO
open Go.Act renaming put->B7
open Go.Builtin renaming len_->Bu
open Go.Instr renaming sliceAt->Bc,sureAddr->Bh,slice->Bj,sliceBounds->Bt,index->Bx,indexAt->B5,field->B9
open Go.Program renaming built->B6
open Go.Result renaming andThen_ok->BF
open Go.Sem renaming run_bind->BJ,run_pure->BN
open Go.Value renaming oneCell'->BD,ownBlock->BR
open Go.World renaming cell?->B8
open List renaming getElem?_eq_some_iff->AV,getElem?_eq_getElem->AX,mem_append_right->AY,mem_append_left->AZ,mem_append->BG,getElem?_take->BI,replicate->BK,getD_eq_getElem?_getD->BL,getElem?_append_right->BM,mem_singleton_self->BQ,append_assoc->BS,range->BT,getElem?_drop->BW,getElem?_append_left->BX,any_eq_false->Ba,mem_cons_of_mem->Bg,replicate_succ->Bl,mem_cons->Bm,length_append->Bn,mem_cons_self->Bo,mem_singleton->Bp,getElem?_map->Br,flatten_cons->Bs,cons_append->Bw,drop_drop->Bz,map_cons->B4
open Nat renaming beq->AT,eq_of_beq_eq_true->AU,le_refl->BB,le_trans->BE,lt_of_lt_of_le->BP,blt->BU,ble->BY,add_assoc->Bb,lt_succ_self->Bd,zero_add->Bq
open Option renaming bind_eq_some_iff->BC,map_eq_some_iff->BH,map_none->Bf,map_some->By
open Option.some renaming injEq->BA
open Prod.mk renaming injEq->B3
namespace Go.Proofs.YtaegajachoklkaaGreatEv
open Go
inductive Ty where
 |int (k:IntKind)|bool|str|unit
 |hdr
 |pair (a b:Ty)
 |list (m:Bool) (E:TypeId) (e:Ty)
 deriving DecidableEq
abbrev Ty.den:Ty->Type
 |.int _=>Int
 |.bool=>Bool
 |.str=>ByteArray
 |.unit=>Unit
 |.hdr=>Nat
 |.pair a b=>a.den×b.den
 |.list _ _ e=>List e.den
def Ty.cells:Ty->Nat
 |.unit=>0
 |.pair a b=>a.cells+b.cells
 |_=>1
def Ty.zero:(a:Ty)->a.den
 |.int _=>(0:Int)
 |.bool=>false
 |.str=>BO
 |.unit=>()
 |.hdr=>(0:Nat)
 |.pair a b=>(a.zero,b.zero)
 |.list _ _ e=>([]:List e.den)
def Ty.flat:Ty->Bool
 |.list _ _ _=>false
 |.pair a b=>a.flat&&b.flat
 |_=>true
def Ty.sh:Ty->Ty
 |.pair a b=>.pair a.sh b.sh
 |.list _ E e=>.list false E e.sh
 |a=>a
def Ty.shy:Ty->Bool
 |.list m _ e=>!m||e.shy
 |.pair a b=>a.shy||b.shy
 |_=>false
theorem mq:∀ a:Ty,a.sh.den=a.den
 |.int _|.bool|.str|.unit|.hdr=>rfl
 |.pair a b=>by
  show (a.sh.den×b.sh.den)=(a.den×b.den);rw[mq a,mq b]
 |.list _ _ e=>congrArg List (mq e)
theorem je {a b:Ty}(h:a.sh=b.sh):a.den=b.den:=(mq a).symm.trans ((congrArg Ty.den h).trans (mq b))
def Ty.eqv:(a:Ty)->a.den->a.den->Bool
 |.int _,x,y=>decide ((x:Int)=y)
 |.bool,x,y=>(x:Bool)==y
 |.str,x,y=>decide ((x:ByteArray)=y)
 |.unit,_,_=>true
 |.hdr,_,_=>false
 |.pair a b,x,y=>a.eqv x.1 y.1&&b.eqv x.2 y.2
 |.list _ _ _,_,_=>false
abbrev Tup:List Ty->Type
 |[]=>Unit
 |a::as=>a.den×Tup as
inductive Leaf where
 |int (k:IntKind) (n:Int)
 |bool (b:Bool)
 |str (s:ByteArray)
 |nil
 |hdr (n:Nat)
 |ro (p:Bool) (E:TypeId) (e:Ty) (xs:List e.den)
 |own (p:Bool) (h:Option (Nat×Nat)) (E:TypeId) (e:Ty) (xs:List e.den)
 |al (r j v:Nat)
 |nal (p:Bool) (ks:List (Nat×Nat×Nat)) (ep:Nat) (loc:Option (Nat×Nat×Nat)) (E:TypeId) (e:Ty) (xs:List e.den)
 |ep (r j v:Nat) (i sz off:Nat)
 |np (p:Bool) (ks:List (Nat×Nat×Nat)) (ep:Nat) (a:Ty) (x:a.den) (off:Nat)
 |rp (p:Bool) (a:Ty) (x:a.den) (off:Nat)
 |rpp (p:Bool) (a:Ty) (x:a.den)
 |bp (b off:Nat)
 |clo (f:FuncId) (caps:List Nat)
 |clr (f:FuncId) (caps:List (Bool×Bool×(a:Ty)×a.den))
 |fn (As:List Ty) (B:Ty) (φ:Tup As->Option B.den)
 |dead
inductive aG where
 |off|und|one|agg
 |tup (ps:List (Bool×Nat))
 deriving DecidableEq
structure bL where
 ver:Nat
 sh:aG
 ls:List Leaf
abbrev St:=Nat->bL
def bL.none:bL:=⟨0,.off,[]⟩
def GH:Nat:=99000
def TMP:Nat:=99998
def EPO:Nat:=99999
def B0:Nat:=100000
abbrev Upd:=List (Nat×bL)
def ac (U:Upd)(st:St)(q:Nat):bL :=
 match U with
 |[]=>st q
 |(r,c)::u=>bif AT q r then c else ac u st q
inductive TI where
 |int (k:IntKind)|bool|str
 |slice (E:TypeId) (e:Ty) (bytes:Nat)
 |struct (a:Ty) (flds:List (Nat×Nat×Bool))
 |arr (e:Ty) (n:Nat)
 |ptr|fn
 |none
def fK:List (TypeId×TI)->TypeId->TI
 |[],_=>.none
 |(t,i)::l,u=>bif AT t u then i else fK l u
def TI.cells:TI->Nat
 |.struct a _=>a.cells
 |.arr e n=>n*e.cells
 |.none=>0
 |_=>1
def TI.agg:TI->Bool
 |.struct _ _=>true
 |.arr _ _=>true
 |_=>false
def eB:Ty->List Leaf
 |.int k=>[.int k 0]
 |.bool=>[.bool false]
 |.str=>[.str BO]
 |.unit=>[]
 |.hdr=>[.nil]
 |.pair a b=>eB a++eB b
 |.list _ _ _=>[.nil]
def TI.zero:TI->List Leaf
 |.int k=>[.int k 0]
 |.bool=>[.bool false]
 |.str=>[.str BO]
 |.slice _ _ _=>[.nil]
 |.struct a _=>eB a
 |.arr e n=>(BK n (eB e)).flatten
 |.ptr=>[.dead]
 |.fn=>[.dead]
 |.none=>[]
def aq (p:Bool):(a:Ty)->a.den->List Leaf
 |.int k,n=>[.int k n]
 |.bool,b=>[.bool b]
 |.str,s=>[.str s]
 |.unit,_=>[]
 |.hdr,n=>[.hdr n]
 |.pair a b,x=>aq p a x.1++aq p b x.2
 |.list m E e,r=>[bif m then .own (p&&e.shy) none E e r else .ro p E e r]
def cr (p:Bool):(a:Ty)->a.den->List Leaf
 |.int k,n=>[.int k n]
 |.bool,b=>[.bool b]
 |.str,s=>[.str s]
 |.unit,_=>[]
 |.hdr,n=>[.hdr n]
 |.pair a b,x=>cr p a x.1++cr p b x.2
 |.list _ E e,r=>[.ro p E e r]
def kY (p:Bool)(ks:List (Nat×Nat×Nat))(ep:Nat):(a:Ty)->a.den->List Leaf
 |.int k,n=>[.int k n]
 |.bool,b=>[.bool b]
 |.str,s=>[.str s]
 |.unit,_=>[]
 |.hdr,n=>[.hdr n]
 |.pair a b,x=>kY p ks ep a x.1++kY p ks ep b x.2
 |.list _ E e,r=>[.nal p ks ep none E e r]
def gn (p:Bool)(r j v ep i u:Nat)(h:Option Nat):(a:Ty)->Nat->a.den->List Leaf
 |.int k,_,n=>[.int k n]
 |.bool,_,b=>[.bool b]
 |.str,_,s=>[.str s]
 |.unit,_,_=>[]
 |.hdr,_,n=>[.hdr n]
 |.pair a b,off,x=>gn p r j v ep i u h a off x.1++gn p r j v ep i u h b (off+a.cells) x.2
 |.list m E e,off,y=>[bif decide (h=some off) then .dead else bif m then .nal (p&&e.shy) [(r,j,v)] ep (some (i,u,off)) E e y else .ro p E e y]
def kZ (p:Bool)(r j v ep i u:Nat)(h:Option (Bool×Nat)):(a:Ty)->Nat->a.den->List Leaf
 |.int k,_,n=>[.int k n]
 |.bool,_,b=>[.bool b]
 |.str,_,s=>[.str s]
 |.unit,_,_=>[]
 |.hdr,_,n=>[.hdr n]
 |.pair a b,off,x=>kZ p r j v ep i u h a off x.1++kZ p r j v ep i u h b (off+a.cells) x.2
 |.list m E e,off,y=>[bif (match h with|some (b,o)=>AT o off&&b|Option.none=>false) then .dead else bif m then .nal (p&&e.shy) [(r,j,v)] ep (some (i,u,off)) E e y else .ro p E e y]
def be (agg:Bool):aG:=bif agg then .agg else .one
def k6:Leaf->Bool
 |.own _ _ _ _ _=>true
 |_=>false
def bj (st:St)(ks:List (Nat×Nat×Nat))(ep:Nat):Bool:=AT (st EPO).ver ep&&ks.all λk=>AT (st k.1).ver k.2.2&&k6 ((st k.1).ls.getD k.2.1 .dead)
def oV:Leaf->Leaf
 |.nal _ _ _ _ _ _ _=>.dead
 |l=>l
def aD (st:St):Leaf->Leaf
 |.al r j v=>bif AT (st r).ver v then oV ((st r).ls.getD j .dead) else .dead
 |.nal p y ep u E e z=>bif bj st y ep then .nal p y ep u E e z else .dead
 |l=>l
def ly (t j r:Nat):Leaf->Leaf
 |.own _ _ _ _ _=>.al t j r
 |l=>l
def bz (t r:Nat):Nat->List Leaf->List Leaf
 |_,[]=>[]
 |j,l::u=>ly t j r l::bz t r (j+1) u
def hM:Value->Option Leaf
 |.int k n=>some (.int k n)
 |.bool b=>some (.bool b)
 |.string s=>some (.str s)
 |.slice Option.none 0 0=>some .nil
 |_=>Option.none
def ar (st:St):Operand->aG×List Leaf
 |.tmp t=>bif BU t GH then ((st t).sh,bz t (st t).ver 0 (st t).ls) else (.off,[])
 |.const v=>match hM v with
  |some l=>(.one,[l])
  |Option.none=>(.off,[])
 |.func f=>(.one,[.clo f []])
 |.global _=>(.off,[])
def one (st:St)(x:Operand):Leaf :=
 match ar st x with
 |(.one,[l])=>l
 |_=>.dead
def castSh (e e':Ty)(xs:List e'.den):Option (List e.den) :=
 if h:e'.sh=e.sh then some (cast (congrArg List (je h)) xs) else Option.none
def lz (E:TypeId)(e:Ty)(E':TypeId)(e':Ty)(xs:List e'.den):Option (List e.den) :=
 if h:E'=E/\e'=e then some (h.2 ▸ xs) else Option.none
def cV (e:Ty):Leaf->Option (Bool×List e.den)
 |.ro p _ r u=>(castSh e r u).map (p,·)
 |.own p none _ r u=>(castSh e r u).map (p,·)
 |.nal p _ _ _ _ r u=>(castSh e r u).map (p,·)
 |.nil=>some (false,[])
 |_=>Option.none
def fN:Leaf->Option Nat
 |.ro _ _ _ r=>some r.length
 |.own _ _ _ _ r=>some r.length
 |.nal _ _ _ _ _ _ r=>some r.length
 |.nil=>some 0
 |.hdr n=>some n
 |_=>Option.none
def aX (st:St):(a:Ty)->List Leaf->Option (Bool×a.den×List Leaf)
 |.int k,r=>match r with
  |.int u n::r=>if k=u then some (false,(n:Int),r) else Option.none
  |_=>Option.none
 |.bool,r=>match r with
  |.bool b::r=>some (false,b,r)
  |_=>Option.none
 |.str,r=>match r with
  |.str s::r=>some (false,s,r)
  |_=>Option.none
 |.unit,r=>some (false,(),r)
 |.hdr,r=>match r with
  |l::r=>match fN (aD st l) with
   |some n=>some (false,(n:Nat),r)
   |Option.none=>Option.none
  |_=>Option.none
 |.pair a b,r=>match aX st a r with
  |some (p,x,r)=>match aX st b r with
   |some (q,y,r)=>some (p||q,(x,y),r)
   |Option.none=>Option.none
  |Option.none=>Option.none
 |.list _ _ e,r=>match r with
  |l::r=>match cV e (aD st l) with
   |some (p,z)=>some (p,z,r)
   |Option.none=>Option.none
  |_=>Option.none
def cA (st:St)(a:Ty)(ls:List Leaf):Option (Bool×a.den) :=
 match aX st a ls with
 |some (p,x,[])=>some (p,x)
 |_=>Option.none
structure ct (α:Type) where
 p:Bool
 val:α
 frz:List (Nat×Nat)
 kill:List (Nat×Nat)
 rest:List Leaf
def bq (st:St):List Leaf->List (Nat×Nat)
 |[]=>[]
 |.al r j v::u=>(match aD st (.al r j v) with|.own _ _ _ _ _=>[(r,j)]|_=>[])++bq st u
 |.nal p z ep y E e H::u=>(match aD st (.nal p z ep y E e H) with|.nal _ _ _ _ _ _ _=>z.map (λk=>(k.1,k.2.1))|_=>[])++bq st u
 |_::u=>bq st u
def bU (st:St):List Leaf->List (Nat×Nat)
 |[]=>[]
 |.al r j v::u=>(match aD st (.al r j v) with|.own _ _ _ _ _=>[(r,j)]|_=>[])++bU st u
 |_::u=>bU st u
def take (st : St) : (a : Ty) -> List Leaf -> Option (ct a.den)
  |.int k,u=>(aX st (.int k) u).map λx=>⟨false,x.2.1,[],[],x.2.2⟩
  |.bool,u=>(aX st .bool u).map λx=>⟨false,x.2.1,[],[],x.2.2⟩
  |.str,u=>(aX st .str u).map λx=>⟨false,x.2.1,[],[],x.2.2⟩
  |.unit,u=>some ⟨false,(),[],[],u⟩
  |.hdr,u=>(aX st .hdr u).map λx=>⟨false,x.2.1,[],[],x.2.2⟩
  |.pair a b,u=>match take st a u with
    |some x=>match take st b x.rest with
      |some y=>some ⟨x.p||y.p,(x.val,y.val),x.frz++y.frz,x.kill++y.kill,y.rest⟩
      |Option.none=>Option.none
    |Option.none=>Option.none
  |.list m E e,u=>match u with
    |[]=>Option.none
    |l::u=>bif m then (match l with
        |.al r j v=>match aD st (.al r j v) with
          |.own p none I H z=>(lz E e I H z).map λz=>⟨p,z,[],[(r,j)],u⟩
          |_=>Option.none
        |.nil=>some ⟨false,([]:List e.den),[],[],u⟩
        |_=>Option.none)
      else match cV e (aD st l) with
        |some (p,z)=>some ⟨p,z,bq st [l],[],u⟩
        |Option.none=>Option.none
def b7 (st:St)(a:Ty)(ls:List Leaf):Option (ct a.den) :=
 match take st a ls with
 |some ⟨p,x,f,k,[]⟩=>some ⟨p,x,f,k,[]⟩
 |_=>Option.none
def cP (st:St)(off n:Nat):(a:Ty)->Nat->a.den->List Leaf->Option (ct a.den)
 |.pair a b,pos,x,r=>match cP st off n a pos x.1 r with
  |some u=>match cP st off n b (pos+a.cells) x.2 u.rest with
   |some v=>some ⟨u.p||v.p,(u.val,v.val),u.frz++v.frz,u.kill++v.kill,v.rest⟩
   |Option.none=>Option.none
  |Option.none=>Option.none
 |.int k,pos,x,r=>bif BY off pos&&BU pos (off+n) then take st (.int k) r else some ⟨false,x,[],[],r⟩
 |.bool,pos,x,r=>bif BY off pos&&BU pos (off+n) then take st .bool r else some ⟨false,x,[],[],r⟩
 |.str,pos,x,r=>bif BY off pos&&BU pos (off+n) then take st .str r else some ⟨false,x,[],[],r⟩
 |.unit,_,x,r=>some ⟨false,x,[],[],r⟩
 |.hdr,_,_,_=>Option.none
 |.list m E e,pos,x,r=>bif BY off pos&&BU pos (off+n) then take st (.list m E e) r else some ⟨false,x,[],[],r⟩
def bG (off:Nat)(E:TypeId)(e:Ty)(r:List e.den):(a:Ty)->Nat->a.den->Option a.den
 |.pair a b,pos,x=>match bG off E e r a pos x.1 with
  |some u=>some (u,x.2)
  |Option.none=>(bG off E e r b (pos+a.cells) x.2).map λv=>(x.1,v)
 |.list m z y,pos,_=>bif m&&AT pos off then lz z y E e r else Option.none
 |.int _,_,_|.bool,_,_|.str,_,_|.unit,_,_|.hdr,_,_=>Option.none
def aw:List Leaf->List Nat
 |[]=>[]
 |.al r _ _::u=>r::aw u
 |.ep r _ _ _ _ _::u=>r::aw u
 |.nal _ y _ _ _ _ _::u=>EPO::y.map (·.1)++aw u
 |.np _ y _ _ _ _::u=>EPO::y.map (·.1)++aw u
 |_::u=>aw u
def aP (ls:List Leaf)(j:Nat)(l:Leaf):List Leaf:=ls.set j l
def fO (c:bL)(j:Nat):bL:=⟨c.ver,c.sh,aP c.ls j .dead⟩
def aL (st:St):List (Nat×Nat)->Upd
 |[]=>[]
 |(r,j)::u=>let U:=aL st u;let c:=ac U st r;(r,fO c j)::U
def uf:Leaf->Leaf
 |.own p none E e r=>.ro p E e r
 |.own _ (some _) _ _ _=>.dead
 |l=>l
def fJ (c:bL)(j:Nat):bL:=⟨c.ver,c.sh,aP c.ls j (uf (c.ls.getD j .dead))⟩
def aE (st:St):List (Nat×Nat)->Upd
 |[]=>[]
 |(r,j)::u=>let U:=aE st u;let c:=ac U st r;(r,fJ c j)::U
def bQ (c:bL):bL:=⟨c.ver+1,c.sh,c.ls⟩
def epoU (st:St):Upd:=[(EPO,bQ (st EPO))]
def dg (st:St):List Leaf->List (Nat×Nat)
 |[]=>[]
 |.nal p u ep none E e y::r=>(match aD st (.nal p u ep none E e y) with|.nal _ _ _ _ _ _ _=>u.map (λk=>(k.1,k.2.1))|_=>[])++dg st r
 |_::r=>dg st r
def fT (st:St)(l:Leaf):Leaf:=match aD st l with
 |.nal p _ _ none E e r=>.ro p E e r
 |l=>l
def dt (st:St)(ls:List Leaf):List Leaf:=ls.map (fT st)
def mvU (st:St)(ls:List Leaf):Upd:=let U:=aE st (dg st ls);aL (ac U st) (bU st ls)++U
def aU:List (Nat×Nat)->Bool
 |[]=>true
 |x::r=>!(r.any λy=>AT x.1 y.1&&AT x.2 y.2)&&aU r
def hX (a b:Nat×Nat):Bool:=AT a.1 b.1&&AT a.2 b.2
def dk (a b:List (Nat×Nat)):Bool:=!(a.any λk=>b.any (hX k))
def gQ (st:St)(ls:List Leaf):Bool:=aU (bU st ls)&&dk (dg st ls) (bU st ls)
def rV (st:St):Operand->Bool
 |.tmp q=>AT (st q).ver 7
 |_=>false
def idx {α:Type}(xs:List α)(i:Int):Option α:=if i<0 then Option.none else xs[i.toNat]?
def jf (r u:List Leaf)(off:Nat):List Leaf:=r.take off++u++r.drop (off+u.length)
def rW (r:BinOp)(k:IntKind)(x y:Int):Option Leaf :=
 match r with
 |.add=>some (.int k (k.wrap (x+y)))
 |.sub=>some (.int k (k.wrap (x-y)))
 |.mul=>some (.int k (k.wrap (x*y)))
 |.eql=>some (.bool (x==y))
 |.neq=>some (.bool (x != y))
 |.lss=>some (.bool (decide (x<y)))
 |.leq=>some (.bool (decide (x<=y)))
 |.gtr=>some (.bool (decide (x>y)))
 |.geq=>some (.bool (decide (x>=y)))
 |_=>Option.none
def a7 (off:Nat):(a:Ty)->Nat->a.den->Option ((E:TypeId)×(e:Ty)×List e.den)
 |.pair a b,pos,x=>match a7 off a pos x.1 with
  |some u=>some u
  |Option.none=>a7 off b (pos+a.cells) x.2
 |.list m E e,pos,r=>bif m&&AT pos off then some ⟨E,e,r⟩ else Option.none
 |.int _,_,_|.bool,_,_|.str,_,_|.unit,_,_|.hdr,_,_=>Option.none
def cd (st:St):Leaf->Option (Upd×Leaf)
  |.nal p J ep H E e X=>bif bj st J ep then (match J,H with
      | [(r, j, _)], some (i, M, off) => (match (st r).ls.getD j .dead with
        |.own I none O z u=>bif !AT r TMP&&!AT r EPO&&AT M z.cells then
            (match u[i]? with
            |some y=>match a7 off z 0 y with
              |some ⟨E,e,R⟩=>some ([(r,⟨(st r).ver,(st r).sh,aP (st r).ls j (.own I (some (i,off)) O z u)⟩),(TMP,⟨(st TMP).ver+1,.one,[.own (I&&z.shy) none E e R]⟩),(EPO,bQ (st EPO))],.al TMP 0 ((st TMP).ver+1))
              |Option.none=>Option.none
            |Option.none=>Option.none)
          else Option.none
        |_=>Option.none)
      |_,_=>Option.none)
    else Option.none
  |_=>Option.none
def iV:Leaf->Bool
 |.nal _ _ _ _ _ _ _=>true
 |_=>false
inductive PK where
 |rd (a:Ty)
 |own (a:Ty)
 |io (a:Ty)
 |rref (a:Ty)
 |rref2 (a:Ty)
 |iop (a:Ty)
 |fn (As:List Ty) (B:Ty)
 |clo (f:FuncId) (cs:List (Bool×Ty))
 |hol (a:Ty) (c off:Nat)
 deriving DecidableEq
inductive RK where
 |v (a:Ty)
 |bv (a:Ty)
 |box (a:Ty)
 deriving DecidableEq
abbrev lA:List (Bool×Ty)->Type
 |[]=>Unit
 |c::r=>c.2.den×lA r
abbrev PK.den:PK->Type
 |.rd a|.own a|.io a|.rref a|.rref2 a|.iop a=>a.den
 |.fn r B=>Tup r->Option B.den
 |.clo _ u=>lA u
 |.hol a _ _=>a.den×Nat
abbrev ab:List PK->Type
 |[]=>Unit
 |p::r=>p.den×ab r
abbrev ag:List PK->Type
 |[]=>Unit
 |.io a::r=>a.den×ag r
 |.iop a::r=>a.den×ag r
 |_::r=>ag r
abbrev RK.den:RK->Type
 |.v a|.bv a|.box a=>a.den
abbrev ah:List RK->Type
 |[]=>Unit
 |r::u=>r.den×ah u
structure Ctr where
 f:FuncId
 ps:List PK
 rs:List RK
 fresh:Bool
 den:ab ps->Option (ah rs×ag ps)
def Ty.isAgg:Ty->Bool
 |.pair _ _|.unit=>true
 |_=>false
def target (st:St):Leaf->Option (List Leaf)
 |.bp b 0=>bif decide ((st b).sh=.agg) then some (bz b (st b).ver 0 (st b).ls) else none
 |.rp p a x 0=>some (cr p a x)
 |.rpp p a x=>some [.rp p a x 0]
 |_=>none
structure Got (α:Type) where
 p:Bool
 val:α
 frz:List (Nat×Nat)
 kill:List (Nat×Nat)
 see:List Nat
 lend:List Nat
def Got.ofRd {α:Type}(r:List Nat)(x:Bool×α)(frz:List (Nat×Nat)):Got α:=⟨x.1,x.2,frz,[],r,[]⟩
def lB (Γ:List Ctr)(f:FuncId):Option Ctr:=match Γ with
 |[]=>none
 |c::r=>bif AT c.f f then some c else lB r f
def ce (x:aG×List Leaf):Leaf :=
 match x with
 |(.one,[l])=>l
 |_=>.dead
def eS:List Leaf->List Nat
 |[]=>[]
 |.bp b _::r=>b::eS r
 |_::r=>eS r
def eT (st:St)(c:Bool×Ty)(l:Leaf):Option (Got c.2.den) :=
 bif c.1 then (match target st l with
  |some [u]=>match target st u with
   |some r=>(cA st c.2 r).map λy=>.ofRd (eS [l,u]) y (bq st r)
   |none=>none
  |_=>none)
 else match target st l with
  |some r=>(cA st c.2 r).map λy=>.ofRd (eS [l]) y (bq st r)
  |none=>none
def ch (st:St):(cs:List (Bool×Ty))->List Leaf->Option (Got (lA cs))
 |[],[]=>some ⟨false,(),[],[],[],[]⟩
 |c::cs,l::r=>match eT st c l with
  |some g=>match ch st cs r with
   |some h=>some ⟨g.p||h.p,(g.val,h.val),g.frz++h.frz,[],g.see++h.see,[]⟩
   |none=>none
  |none=>none
 |_,_=>none
def eu (c:Bool×Bool×(a:Ty)×a.den):Leaf:=bif c.2.1 then .rpp c.1 c.2.2.1 c.2.2.2 else .rp c.1 c.2.2.1 c.2.2.2 0
def bc (st : St) : (pk : PK) -> aG × List Leaf -> Option (Got pk.den)
  |.rd a,x=>bif decide (x.1=be a.isAgg) then (cA st a x.2).map λy=>.ofRd [] y (bq st x.2) else none
  |.own a,x=>bif decide (x.1=be a.isAgg) then (b7 st a x.2).map λt=>⟨t.p,t.val,t.frz,t.kill,[],[]⟩ else none
  |.io a,x=>bif decide (x.1=be a.isAgg) then (b7 st a x.2).map λt=>⟨t.p,t.val,t.frz,t.kill,[],[]⟩ else none
  |.rref a,x=>eT st (false,a) (ce x)
  |.rref2 a,x=>eT st (true,a) (ce x)
  |.iop a,x=>match ce x with
    |.bp b 0=>bif decide ((st b).sh=.agg) then (b7 st a (bz b (st b).ver 0 (st b).ls)).map λt=>⟨t.p,t.val,t.frz,t.kill,[],[b]⟩ else none
    |_=>none
  |.fn I B,x=>match ce x with
    |.fn H O M=>if h:H=I/\O=B then some ⟨false,(h.1 ▸ h.2 ▸ M:Tup I->Option B.den),[],[],[],[]⟩ else none
    |_=>none
  |.clo f J,x=>match ce x with
    |.clo z u=>bif AT z f then ch st J (u.map λb=>.bp b 0) else none
    |.clr z u=>bif AT z f then ch st J (u.map eu) else none
    |_=>none
  |.hol a c off,x=>bif decide (x.1=be a.isAgg) then (match x.2.getD c .dead with
      |.al r j v=>(match aD st (.al r j v) with
        |.own p (some (i,o)) E e R=>bif AT o off then (match b7 st a (aP x.2 c .nil) with
            |some t=>(match bG c E e R a 0 t.val with
              |some y=>some ⟨p||t.p,(y,i),t.frz,(r,j)::t.kill,[],[]⟩
              |none=>none)
            |none=>none) else none
        |_=>none)
      |_=>none) else none
def aY (ga:(pk:PK)->aG×List Leaf->Option (Got pk.den)):(ps:List PK)->List (aG×List Leaf)->Option (Got (ab ps))
 |[],[]=>some ⟨false,(),[],[],[],[]⟩
 |p::ps,x::r=>match ga p x with
  |some g=>match aY ga ps r with
   |some h=>some ⟨g.p||h.p,(g.val,h.val),g.frz++h.frz,g.kill++h.kill,g.see++h.see,g.lend++h.lend⟩
   |none=>none
  |none=>none
 |_,_=>none
def ug (st:St):(ps:List PK)->List (aG×List Leaf)->Option (Got (ab ps)):=aY (bc st)
def bV (st:St):List Leaf->List Leaf->Upd
 |.al r j _::y,l::u=>let U:=bV st y u;(match l with|.own p h E e ys=>let c:=ac U st r;[(r,⟨c.ver,c.sh,aP c.ls j (.own p h E e ys)⟩),(EPO,bQ (ac U st EPO))]|_=>[])++U
 |_::y,_::u=>bV st y u
 |_,_=>[]
def aF (st:St)(p:Bool):(ps:List PK)->List (aG×List Leaf)->ag ps->Upd
 |[],_,_=>[]
 |.io a::ps,x::r,o=>let U:=aF st p ps r o.2;bV (ac U st) x.2 (aq p a o.1)++U
 |.iop a::ps,x::r,o=>let U:=aF st p ps r o.2;(match ce x with
  |.bp b _=>let c:=ac U st b;[(b,⟨c.ver+2,.agg,aq p a o.1⟩)]
  |_=>[])++U
 |.rd _::ps,_::r,o=>aF st p ps r o
 |.own _::ps,_::r,o=>aF st p ps r o
 |.rref _::ps,_::r,o=>aF st p ps r o
 |.rref2 _::ps,_::r,o=>aF st p ps r o
 |.fn _ _::ps,_::r,o=>aF st p ps r o
 |.clo _ _::ps,_::r,o=>aF st p ps r o
 |.hol _ _ _::ps,_::r,o=>aF st p ps r o
 |_::_,[],_=>[]
def oW (d v:Nat)(p q:Bool)(ks:List (Nat×Nat×Nat))(ep:Nat):(r:RK)->r.den->(Bool×List Leaf)×Upd
 |.v a,y=>((a.isAgg,aq p a y),[])
 |.bv a,y=>((a.isAgg,kY q ks ep a y),[])
 |.box a,y=>((false,[.bp (B0+d) 0]),[(B0+d,⟨v+1,.agg,aq p a y⟩)])
def bu (d v:Nat)(p q:Bool)(ks:List (Nat×Nat×Nat))(ep:Nat):(u:List RK)->ah u->List (Bool×List Leaf)×Upd
 |[],_=>([],[])
 |r::u,y=>let a:=oW d v p q ks ep r y.1;let b:=bu d v p q ks ep u y.2;(a.1::b.1,a.2++b.2)
def ew (r:Nat)(l:List (Bool×List Leaf)):bL :=
 match l with
 |[(agg,u)]=>⟨r,be agg,u⟩
 |l=>⟨r,.tup (l.map λx=>(x.1,x.2.length)),(l.map (·.2)).flatten⟩
def bZ (st:St)(U:Upd)(d:Nat)(sh:aG)(ls:List Leaf):Upd:=(d,⟨(ac U st d).ver+1,sh,ls⟩)::U
def PK.reads:PK->Bool
 |.rd _|.rref _|.rref2 _=>true
 |_=>false
def nj (caps:List PK)(z:ab caps):(r:List Ty)->Tup r->ab (r.map .rd++caps)
 |[],_=>z
 |_::as,x=>(x.1,nj caps z as x.2)
def rI (st:St)(z:List Ty)(B:Ty)(ls:List Leaf)(ps:List PK)(H:List RK)(r:Bool)(u:ab ps->Option (ah H×ag ps))(q:List PK):Option (Got (Tup z->Option B.den)) :=
 if h:ps=z.map .rd++q/\H=[.v B] then
  bif q.all PK.reads&&B.flat&&r then
   match ug st q (ls.map λl=>(.one,[l])) with
   |some g=>some ⟨g.p,λx=>(u (h.1 ▸ nj _ g.val z x)).map λy=>(h.2 ▸ y.1:ah [.v B]).1,g.frz,[],g.see,[]⟩
   |none=>none
  else none
 else none
def kg (Γ:List Ctr)(st:St)(r:List Ty)(B:Ty)(f:FuncId)(ls:List Leaf):Option (Got (Tup r->Option B.den)) :=
 match lB Γ f with
 |some c=>rI st r B ls c.ps c.rs c.fresh c.den (c.ps.drop r.length)
 |none=>none
def uR:Leaf->Option (FuncId×List Leaf)
 |.clo f r=>some (f,r.map λb=>.bp b 0)
 |.clr f r=>some (f,r.map eu)
 |_=>none
def bW (Γ:List Ctr)(st:St):(pk:PK)->aG×List Leaf->Option (Got pk.den)
 |.fn u B,x=>match uR (ce x) with
  |some r=>kg Γ st u B r.1 r.2
  |none=>bc st (.fn u B) x
 |.rd a,x=>bc st (.rd a) x
 |.own a,x=>bc st (.own a) x
 |.io a,x=>bc st (.io a) x
 |.rref a,x=>bc st (.rref a) x
 |.rref2 a,x=>bc st (.rref2 a) x
 |.iop a,x=>bc st (.iop a) x
 |.clo f y,x=>bc st (.clo f y) x
 |.hol a c off,x=>bc st (.hol a c off) x
def oh (Γ:List Ctr)(st:St):(ps:List PK)->List (aG×List Leaf)->Option (Got (ab ps)):=aY (bW Γ st)
def PK.takes:PK->Bool
 |.own _|.io _=>true
 |_=>false
def PK.isIo:PK->Bool
 |.io _=>true
 |_=>false
def oX:Ty->Nat->Bool
 |.pair a b,j=>bif BU j a.cells then oX a j else oX b (j-a.cells)
 |.list m _ _,j=>m&&AT j 0
 |_,_=>false
def k7 (a:Ty):Nat->List Leaf->Option Nat
 |_,[]=>none
 |j,l::r=>bif iV l&&oX a j then some j else k7 a (j+1) r
def PK.nest:PK->List Leaf->Option Nat
 |.own a,r=>k7 a 0 r
 |.io a,r=>k7 a 0 r
 |_,_=>none
def jI:Leaf->Nat×Nat
 |.nal _ ((r,j,_)::_) _ _ _ _ _=>(r,j)
 |_=>(0,0)
def cI (st:St):List PK->List (aG×List Leaf)->Option (Upd×List (aG×List Leaf)×Option (Bool×Nat×Nat))
 |p::y,x::r=>match p.nest x.2 with
  |some k=>(cd st (x.2.getD k .dead)).map λu=>(u.1,(x.1,aP x.2 k u.2)::r,some (p.isIo,jI (x.2.getD k .dead)))
  |none=>(cI st y r).map λu=>(u.1,x::u.2.1,u.2.2)
 |_,r=>some ([],r,none)
section
variable {R:Type}
def lC (st : St) (l : Leaf) (M : Upd -> Leaf -> Option R) : Option R :=
  match l with
  |.nal _ J ep H _ _ _=>bif bj st J ep then (match J,H with
      | [(r, j, _)], some (i, O, off) => (match (st r).ls.getD j .dead with
        |.own I none X z u=>bif !AT r TMP&&!AT r EPO&&AT O z.cells then
            (idx u (i:Int)).bind λy=>match a7 off z 0 y with
              |some ⟨E,e,Y⟩=>M [(r,⟨(st r).ver,(st r).sh,aP (st r).ls j (.own I (some (i,off)) X z u)⟩),(TMP,⟨(st TMP).ver+1,.one,[.own (I&&z.shy) none E e Y]⟩),(EPO,bQ (st EPO))] (.al TMP 0 ((st TMP).ver+1))
              |Option.none=>Option.none
          else Option.none
        |_=>Option.none)
      |_,_=>Option.none)
    else Option.none
  |_=>Option.none
def kh (st:St):List PK->List (aG×List Leaf)->(Upd->List (aG×List Leaf)->Option (Bool×Nat×Nat)->Option R)->Option R
 |p::y,x::r,u=>match p.nest x.2 with
  |some k=>lC st (x.2.getD k .dead) λU l=>u U ((x.1,aP x.2 k l)::r) (some (p.isIo,jI (x.2.getD k .dead)))
  |none=>kh st y r λU z b=>u U (x::z) b
 |_,r,u=>u [] r none
def ip (st:St):(u:List Ty)->List (aG×List Leaf)->Option (Tup u)
 |[],[]=>some ()
 |a::as,x::r=>bif decide (x.1=be a.isAgg) then match cA st a x.2 with
   |some (_,y)=>(ip st as r).map (y,·)
   |none=>none
  else none
 |_,_=>none
def RK.isV:RK->Bool
 |.v _|.bv _=>true
 |.box _=>false
def RK.isBv:RK->Bool
 |.bv _=>true
 |_=>false
def gp (st:St)(d:Nat):List RK->Bool
 |[.box _]=>decide ((st (B0+d)).sh=.off)
 |rs=>rs.all RK.isV
def oi (b:Option (Bool×Nat×Nat))(frz kill:List (Nat×Nat))(d:Nat):Bool :=
 match b with
 |some (true,r,j)=>!(kill.any (hX (r,j)))&&!(frz.any (hX (r,j)))&&!AT r d&&!AT r (B0+d)
 |_=>true
def jx (st:St)(b:Option (Bool×Nat×Nat))(U:Upd)(u:Upd->Option R):Option R :=
 match b with
 |some (true,r,j) =>
  match (ac U st r).ls.getD j .dead,(ac U st TMP).ls with
  |.own p (some (i,off)) J H I,[.own q none E e M]=>(idx I (i:Int)).bind λy=>match bG off E e M H 0 y with
   |some z=>u ((r,⟨(ac U st r).ver,(ac U st r).sh,aP (ac U st r).ls j (.own (p||q) none J H (I.set i z))⟩)::(TMP,⟨(ac U st TMP).ver+1,.off,[]⟩)::(EPO,bQ (ac U st EPO))::U)
   |none=>none
  |_,_=>none
 |_=>u U
def iW (Γ:List Ctr)(st:St)(d:Nat)(f:FuncId)(xs:List (aG×List Leaf))(J:Upd->Option R):Option R :=
 match lB Γ f with
 |some c=>kh st c.ps xs λz xs b =>
  match oh Γ (ac z st) c.ps xs with
  |some g=>bif aU g.kill&&dk g.frz g.kill&&gp st d c.rs&&!(g.see.any λq=>g.lend.any (AT q))&&BY g.lend.length 1&&(g.lend.isEmpty||!(c.ps.any PK.isIo))&&((c.fresh&&g.lend.isEmpty)||!(c.rs.any RK.isBv))&&(g.kill.all λk=>!AT k.1 EPO)&&oi b g.frz g.kill d then
   (c.den g.val).bind λy =>
    let I:=(let U:=(bif c.fresh then [] else aE (ac z st) g.frz);aL (ac U (ac z st)) g.kill++U)++z;let u:=aF (ac I st) (g.p&&!c.fresh) c.ps xs y.2++I;let r:=bu d (ac u st (B0+d)).ver (g.p&&!c.fresh) g.p (g.frz.map λk=>(k.1,k.2,(ac u st k.1).ver)) (ac u st EPO).ver c.rs y.1;let H:=r.2++u
    jx st b ((d,ew ((ac H st d).ver+1) r.1)::H) J
   else none
  |none=>none
 |none=>none
def ak:Nat:=140737488355328
def fF (st:St)(E:TypeId)(e:Ty)(y:Leaf):Option (ct (List e.den)) :=
 bif e.flat then (cV e (aD st y)).map λx=>⟨false,x.2,[],[],[]⟩
 else bif decide (e.sh=e) then (cV e (aD st y)).map λx=>⟨x.1,x.2,bq st [y],[],[]⟩
 else (b7 st (.list true E e) [y]).map λt=>⟨t.p,t.val,t.frz,t.kill,[]⟩
def dF (st u:St)(z:Upd)(d:Nat)(E:TypeId)(e:Ty)(r:Nat)(p:Bool)(xs:List e.den)(ks:List (Nat×Nat))(y:Leaf)(H:Upd->Option R):Option R :=
 match fF u E e y with
 |some t=>bif aU (t.kill++ks)&&dk t.frz (t.kill++ks)&&decide ((xs.length+t.val.length)*r<=ak) then
   let U:=aE u t.frz
   H (bZ st (aL (ac U u) (t.kill++ks)++U++z) d .one [.own (p||t.p) none E e (xs++t.val)])
  else none
 |none=>none
def dX (st:St)(z:Upd)(d:Nat)(E:TypeId)(e:Ty)(u:Nat)(x y:Leaf)(I:Upd->Option R):Option R :=
 match x with
 |.al r j v=>match aD (ac z st) (.al r j v) with
  |.own p none J H M=>bif AT J E&&decide (H.sh=e.sh) then dF st (ac z st) z d J H u p M [(r,j)] y I else none
  |_=>none
 |.nil=>dF st (ac z st) z d E e u false [] [] y I
 |_=>none
def hY (st:St)(d:Nat)(E:TypeId)(e:Ty)(r:Nat)(x y:Leaf)(u:Upd->Option R):Option R :=
 bif iV x then lC st x λz x=>dX st z d E e r x y u else dX st [] d E e r x y u
def cW (st:St)(x:Option Operand)(r:Int):Option Int :=
 match x with
 |none=>some r
 |some l=>match one st l with
  |.int _ n=>some n
  |_=>none
def eU (st:St)(r:List (Nat×Nat×Bool)):List (Nat×Operand)->List Leaf->Option (List Leaf)
 |[],u=>some u
 |(i,x)::y,u=>match r[i]? with
  |some (off,n,agg)=>bif AT (ar st x).2.length n&&decide ((ar st x).1=be agg)&&decide (off+n<=u.length) then eU st r y (jf u (ar st x).2 off) else none
  |none=>none
def d9 (st:St)(e:Ty):Nat->List (Nat×Operand)->Option (ct (List e.den))
  |_,[]=>some ⟨false,[],[],[],[]⟩
  |k,(i,x)::r=>bif AT i k&&decide ((ar st x).1=be e.isAgg) then
      match b7 st e (ar st x).2,d9 st e (k+1) r with
      |some t,some u=>some ⟨t.p||u.p,t.val::u.val,t.frz++u.frz,t.kill++u.kill,[]⟩
      |_,_=>none
    else none
def ff (st:St)(e:Ty):Nat->List Leaf->Option (List e.den)
 |0,_=>some []
 |n+1,r=>match cA st e (r.take e.cells),ff st e n (r.drop e.cells) with
  |some (_,x),some u=>some (x::u)
  |_,_=>none
def rX (st:St)(xs:List Operand):Option (List Nat) :=
 xs.foldl (λ (r:Option (List Nat)) x=>r.bind λl=>match one st x with
  |.bp b 0=>some (l++[b])
  |_=>none) (some [])
def wrU (o:Oper)(st:St)(r:Upd->Option R)(sh:aG)(ls:List Leaf):Option R:=match o.dst with
 |some d=>r (bZ st [] d sh ls)
 |none=>none
def cB (h:Option (Nat×Nat))(i:Nat):Option Nat:=match h with
 |some (r,u)=>bif AT r i then some u else none
 |none=>none
def holB (h:Option (Nat×Nat))(i:Nat):Option (Bool×Nat):=match h with
 |some (r,u)=>some (AT r i,u)
 |none=>none
theorem lD (p:Bool)(r j v ep i u:Nat)(h:Option (Nat×Nat))(n:Nat):∀ (a:Ty) (off:Nat) (x:a.den),kZ p r j v ep i u (holB h n) a off x=gn p r j v ep i u (cB h n) a off x
 |.int _,_,_|.bool,_,_|.str,_,_|.unit,_,_|.hdr,_,_=>rfl
 |.pair a b,off,x=>by
  show _++_=_++_;rw[lD p r j v ep i u h n a,lD p r j v ep i u h n b]
 |.list m E e,off,I=>by
  simp only[kZ,gn];congr 2;cases h with
  |none=>rfl
  |some q =>
   obtain⟨z,H⟩:=q;simp only[holB,cB];by_cases y:AT z n=true
   ·simp only[y,Bool.and_true,cond_true,BA];rw[Bool.eq_iff_iff,Nat.beq_eq,decide_eq_true_eq]
   ·simp only[Bv]at y;simp[y]
def gq (st:St)(r j i off:Nat)(n:Nat)(p:Bool)(E:TypeId)(e:Ty)(xs:List e.den)(h:Option (Nat×Nat))(ls:List Leaf)(M:Upd->Option R):Option R :=
 (idx xs (i:Int)).bind λz =>
  match cP st off n e 0 z ls with
  |some t=>bif t.rest.isEmpty&&aU t.kill&&dk t.frz t.kill&&!((t.kill++t.frz).any λk=>AT k.1 r) then
    let I:=aE st t.frz;let H:=aL (ac I st) t.kill++I;let u (l:Leaf):Option R:=M ((r,⟨(st r).ver,(st r).sh,aP (st r).ls j l⟩)::(EPO,bQ (ac H st EPO))::H)
    match h with
    |none=>u (.own (p||t.p) none E e (xs.set i t.val))
    |some (J,y)=>bif BY off y&&BU y (off+n) then (bif AT i J then u (.own (p||t.p) none E e (xs.set i t.val)) else none)
     else u (.own (p||t.p) (some (J,y)) E e (xs.set i t.val))
   else none
  |none=>none
def rJ (r:Nat):Bool:=!AT r TMP&&!AT r EPO
def dY (s:ByteArray):List Int:=s.data.toList.map λb=>(b.toNat:Int)
def gr (xs:List Int):ByteArray:=ByteArray.mk (xs.map λn=>UInt8.ofNat n.toNat).toArray
def act (Γ:List Ctr)(T:TypeId->TI)(o:Oper)(st:St)(M:Upd->Option R):Option R :=
 let w (sh:aG) (ls:List Leaf):Option R:=wrU o st M sh ls;let w1 (l:Leaf):Option R:=w .one [l]
 match o.op with
 |.move x=>let v:=ar st x;w v.1 v.2
 |.assign x=>match o.dst with
  |some d=>let v:=ar st x;bif gQ st v.2 then M (bZ st (mvU st v.2) d v.1 (dt st v.2)) else none
  |none=>none
 |.pick c a b=>match one st c with
  |.bool t=>bif t then (let v:=ar st a;w v.1 v.2) else (let v:=ar st b;w v.1 v.2)
  |_=>none
 |.alloc t=>match o.dst with
  |some d=>bif decide ((st (B0+d)).sh=.off)&&!decide ((T t).cells=0) then M ((B0+d,⟨(st (B0+d)).ver+1,.agg,(T t).zero⟩)::bZ st [] d .one [.bp (B0+d) 0]) else none
  |none=>none
 |.box t x=>match o.dst with
  |some d=>let v:=ar st x
   bif decide ((st (B0+d)).sh=.off)&&decide (v.2.length=(T t).cells)&&decide (v.1=be (T t).agg)&&gQ st v.2 then
    (bif rV st x then M ((B0+d,⟨(st (B0+d)).ver+1,.agg,v.2⟩)::bZ st [] d .one [.bp (B0+d) 0])
    else (let U:=mvU st v.2
     M ((B0+d,⟨(ac U st (B0+d)).ver+1,.agg,dt st v.2⟩)::bZ st U d .one [.bp (B0+d) 0])))
   else none
  |none=>none
 |.build t H=>match T t with
  |.struct a I=>match eU st I H.toList (eB a) with
   |some ls=>w .agg ls
   |none=>none
  |.arr e n=>match eU st ((BT n).map λi=>(i*e.cells,e.cells,e.isAgg)) H.toList (BK n (eB e)).flatten with
   |some ls=>w .agg ls
   |none=>none
  |_=>none
 |.buildSlice t n H=>match T t with
  |.slice E e _=>match d9 st e 0 H.toList with
   |some u=>bif AT u.val.length n&&decide (n*e.cells<=16777216)&&aU u.kill&&dk u.frz u.kill then (match o.dst with
     |some d=>let U:=aE st u.frz;M (bZ st (aL (ac U st) u.kill++U) d .one [.own u.p none E e u.val])
     |none=>none) else none
   |none=>none
  |_=>none
 |.load t x =>
  bif decide ((T t).cells=0) then none else
  match one st x with
  |.rp p a y off=>bif decide (off+(T t).cells<=a.cells) then w (be (T t).agg) (((cr p a y).drop off).take (T t).cells) else none
  |.bp b off=>bif decide ((st b).sh=.agg)&&decide (off+(T t).cells<=(st b).ls.length) then w (be (T t).agg) (((bz b (st b).ver 0 (st b).ls).drop off).take (T t).cells) else none
  |.rpp p a y=>bif AT (T t).cells 1&&!(T t).agg then w1 (.rp p a y 0) else none
  |.np p Y ep a y off=>bif bj st Y ep&&decide (off+(T t).cells<=a.cells) then w (be (T t).agg) (((kY p Y ep a y).drop off).take (T t).cells) else none
  |.ep r j v i sz off=>match aD st (.al r j v) with
   |.own p h _ e z=>bif AT sz e.cells&&decide (off+(T t).cells<=e.cells) then (idx z (i:Int)).bind λy=>w (be (T t).agg) (((kZ p r j v (st EPO).ver i sz (holB h i) e 0 y).drop off).take (T t).cells) else none
   |_=>none
  |_=>none
 |.store t x y=>match o.dst with
  |some _=>none
  |none =>
  let v:=(ar st y).2
  bif AT v.length (T t).cells&&decide ((ar st y).1=be (T t).agg)&&!decide ((T t).cells=0) then
   match one st x with
   |.bp b off=>bif decide ((st b).sh=.agg)&&decide (off+v.length<=(st b).ls.length)&&gQ st v then
     let U:=mvU st v;let c:=ac U st b
     M ((b,⟨c.ver+1,.agg,jf c.ls (dt st v) off⟩)::U)
    else none
   |.ep r j a0 i sz off=>match aD st (.al r j a0) with
    |.own p h E e z=>bif AT sz e.cells&&decide (off+v.length<=e.cells)&&rJ r then gq st r j i off v.length p E e z h v M else none
    |_=>none
   |_=>none
  else none
 |.nilCheck x=>match one st x with
  |.rp p a y off=>w1 (.rp p a y off)
  |.bp b off=>w1 (.bp b off)
  |.ep r j v i sz off=>bif AT (st r).ver v then w1 (.ep r j v i sz off) else none
  |.rpp p a y=>w1 (.rpp p a y)
  |.np p Y ep a y off=>bif bj st Y ep then w1 (.np p Y ep a y off) else none
  |_=>none
 |.binOp op t x y _=>match one st x,one st y with
  |.int k a,.int k' b =>
   match op with
   |.shl=>bif decide (b<0) then none else w1 (.int k (k.wrap (a*2 ^ (min b.toNat k.bits))))
   |.shr=>bif decide (b<0) then none else w1 (.int k (a.fdiv (2 ^ (min b.toNat k.bits))))
   |.quo=>bif decide (b=0) then none else bif decide (k=k') then w1 (.int k (k.wrap (a.tdiv b))) else none
   |.rem=>bif decide (b=0) then none else bif decide (k=k') then w1 (.int k (a.tmod b)) else none
   |.and=>bif decide (k=k') then w1 (.int k (k.wrap ((BitVec.ofInt k.bits a &&& BitVec.ofInt k.bits b).toNat))) else none
   |.xor=>bif decide (k=k') then w1 (.int k (k.wrap ((BitVec.ofInt k.bits a ^^^ BitVec.ofInt k.bits b).toNat))) else none
   |_=>bif decide (k=k') then (match rW op k a b with|some l=>w1 l|none=>none) else none
  |.bool a,.bool b=>match T t with
   |.bool=>match op with
    |.eql=>w1 (.bool (a==b))
    |.neq=>w1 (.bool (a != b))
    |_=>none
   |_=>none
  |.str a,.str b=>match op with
   |.eql=>w1 (.bool (a.toList==b.toList))
   |.neq=>w1 (.bool (a.toList != b.toList))
   |.add=>bif decide (a.size+b.size<=9223372036854775807) then w1 (.str (a++b)) else none
   |_=>none
  |_,_=>match T t with
   |.struct a _=>bif a.flat&&decide ((ar st x).1=.agg)&&decide ((ar st y).1=.agg) then
     match cA st a (ar st x).2,cA st a (ar st y).2 with
     |some (_,u),some (_,v)=>match op with
      |.eql=>w1 (.bool (a.eqv u v))
      |.neq=>w1 (.bool (!a.eqv u v))
      |_=>none
     |_,_=>none
    else none
   |_=>none
 |.unOp op _ x=>match op,one st x with
  |.not,.bool b=>w1 (.bool (!b))
  |.neg,.int k n=>w1 (.int k (k.wrap (0-n)))
  |_,_=>none
 |.convert s t x=>match T s,T t,one st x with
  |.int _,.int k,.int _ n=>w1 (.int k (k.wrap n))
  |.slice _ (.int .u8) _,.str,l=>match cV (.int .u8) (aD st l) with
   |some (_,z)=>w1 (.str (gr z))
   |none=>none
  |.str,.slice E (.int .u8) _,.str s=>bif AT E 5 then w1 (.own false none E (.int .u8) (dY s)) else none
  |_,_,_=>none
 |.makeSlice t n c=>match T t,one st n,one st c with
  |.slice E e X,.int _ a,.int _ b =>
   bif decide (0<=a)&&decide (a=b)&&decide (a*X<=ak) then w1 (.own false none E e (BK a.toNat e.zero)) else none
  |_,_,_=>none
 |.slice t x lo hi mx=>match mx,o.dst with
  |none,some d=>match cW st lo 0 with
   |none=>none
   |some i=>match T t,aD st (one st x) with
    |.str,.str s=>(match cW st hi s.size with
     |some h=>bif decide (0<=i)&&decide (i<=h)&&decide (h<=(s.size:Int)) then M (bZ st [] d .one [.str (s.extract i.toNat h.toNat)]) else none
     |none=>none)
    |.slice _ O _,.nal p Y ep _ E e z=>(match cW st hi z.length with
     |some h=>bif decide (0<=i)&&decide (i<=h)&&decide (h<=(z.length:Int))&&AT O.cells e.cells then
       M (bZ st [] d .one [.nal p Y ep none E e ((z.take h.toNat).drop i.toNat)]) else none
     |none=>none)
    |.slice _ O _,.ro p E e z=>(match cW st hi z.length with
     |some h=>bif decide (0<=i)&&decide (i<=h)&&decide (h<=(z.length:Int))&&AT O.cells e.cells then
       M (bZ st [] d .one [.ro p E e ((z.take h.toNat).drop i.toNat)]) else none
     |none=>none)
    |.slice _ O _,.own p none E e z=>(match cW st hi z.length with
     |some h=>bif decide (0<=i)&&decide (i<=h)&&decide (h<=(z.length:Int))&&AT O.cells e.cells then
       (match one st x with
       |.al r j v=>M (bZ st [] d .one [.nal p [(r,j,v)] (st EPO).ver none E e ((z.take h.toNat).drop i.toNat)])
       |_=>none) else none
     |none=>none)
    |_,_=>none
  |some m,some d=>match lo,T t,one st x with
   |none,.slice _ O _,.al r j v=>(match aD st (.al r j v) with
    |.own p none E e z=>(match cW st hi z.length,cW st (some m) 0 with
     |some h,some k=>bif hi.isSome&&decide (h=(z.length:Int))&&decide (k=(z.length:Int))&&AT O.cells e.cells then M (bZ st (aL st [(r,j)]) d .one [.own p none E e z]) else none
     |_,_=>none)
    |_=>none)
   |_,_,_=>none
  |_,_=>none
 |.fieldAddr t x f=>match T t with
  |.struct _ I=>match I[f]? with
   |some (off,_,_)=>match one st x with
    |.rp p a y o'=>w1 (.rp p a y (o'+off))
    |.bp b o'=>w1 (.bp b (o'+off))
    |.ep r j v i sz o'=>bif AT (st r).ver v then w1 (.ep r j v i sz (o'+off)) else none
    |.np p Y ep a y o'=>bif bj st Y ep then w1 (.np p Y ep a y (o'+off)) else none
    |_=>none
   |none=>none
  |_=>none
 |.field t x f=>match T t with
  |.struct a I=>match I[f]? with
   |some (off,n,agg)=>bif decide ((ar st x).1=.agg)&&decide ((ar st x).2.length=a.cells) then w (be agg) (((ar st x).2.drop off).take n) else none
   |none=>none
  |_=>none
 |.indexAddr t x i=>match one st i with
  |.int _ n=>match T t with
   |.arr e Z=>match one st x with
    |.bp b off=>bif decide (0<=n)&&decide (n<(Z:Int)) then w1 (.bp b (off+n.toNat*e.cells)) else none
    |_=>none
   |.slice _ e _=>match one st x with
    |.al r j v=>match aD st (.al r j v) with
     |.own _ _ _ O z=>bif AT O.cells e.cells then (idx z n).bind λ_=>w1 (.ep r j v n.toNat O.cells 0) else none
     |_=>none
    |.ro p _ O z=>bif AT O.cells e.cells then (idx z n).bind λy=>w1 (.rp p O y 0) else none
    |.nal p Y ep _ _ O z=>bif AT O.cells e.cells&&bj st Y ep then (idx z n).bind λy=>w1 (.np p Y ep O y 0) else none
    |_=>none
   |_=>none
  |_=>none
 |.index t x i=>match one st i with
  |.int _ n=>match T t with
   |.str=>match one st x with
    |.str s=>(idx s.data.toList n).bind λy=>w1 (.int .u8 y.toNat)
    |_=>none
   |.arr e Z=>bif e.flat&&decide ((ar st x).1=.agg)&&AT (ar st x).2.length (Z*e.cells)&&!AT e.cells 0 then (match ff st e Z (ar st x).2 with
     |some vs=>(idx vs n).bind λy=>w (be e.isAgg) (cr false e y)
     |none=>none) else none
   |_=>none
  |_=>none
 |.extract x i=>match ar st x with
  |(.tup ps,ls)=>match ps[i]? with
   |some (agg,n)=>w (be agg) ((ls.drop ((ps.take i).foldl (λa b=>a+b.2) 0)).take n)
   |none=>none
  |_=>none
 |.makeFunc (.func f) first J=>bif AT first.size 0 then
   match rX st J.toList with
   |some l=>w1 (.clo f l)
   |none=>none
  else none
 |.call c=>match o.dst with
  |none=>none
  |some d=>match c.callee with
   |.value f =>
    let z:=c.args.toList.map (ar st)
    match one st f with
    |.clo g J=>iW Γ st d g (z++J.map λb=>(.one,[.bp b 0])) M
    |.clr g J=>iW Γ st d g (z++J.map λc=>(.one,[eu c])) M
    |.fn As B φ=>bif B.flat then match ip st As z with
      |some x=>(φ x).bind λy=>w (be B.isAgg) (aq false B y)
      |none=>none
     else none
    |_=>none
   |.builtin .len=>match c.args.toList with
    |[x]=>match c.argTypes.toList with
     |[t]=>match T t,aD st (one st x) with
      |.slice _ _ _,l=>(match fN l with
       |some n=>w1 (.int .i64 n)
       |none=>none)
      |.str,.str s=>w1 (.int .i64 s.size)
      |_,_=>none
     |_=>none
    |_=>none
   |.builtin .append=>match c.args.toList,c.argTypes.toList with
    |[x,y],[t,u]=>match T t with
     |.slice E e X=>bif AT t u then hY st d E e X (one st x) (one st y) M else none
     |_=>none
    |_,_=>none
   |.builtin .min=>match c.args.toList with
    |[x,y]=>match one st x,one st y with
     |.int k a,.int _ b=>w1 (.int k (bif decide (b<a) then b else a))
     |_,_=>none
    |_=>none
   |.builtin .max=>match c.args.toList with
    |[x,y]=>match one st x,one st y with
     |.int k a,.int _ b=>w1 (.int k (bif decide (a<b) then b else a))
     |_,_=>none
    |_=>none
   |_=>none
 |_=>none
def ay:List Leaf->List Nat
 |[]=>[]
 |.al r _ _::u=>r::ay u
 |.ep r _ _ _ _ _::u=>EPO::r::ay u
 |.nal _ z _ _ _ _ _::u=>EPO::z.map (·.1)++ay u
 |.np _ z _ _ _ _::u=>EPO::z.map (·.1)++ay u
 |.bp b _::u=>b::ay u
 |.clo _ y::u=>y++ay u
 |_::u=>ay u
def hZ (xs:List Operand):List Nat :=
 match xs with
 |[]=>[]
 |.tmp t::xs=>t::hZ xs
 |_::xs=>hZ xs
def ki (st:St)(r:List Nat):List Nat :=
 let a:=r.flatMap λt=>ay (st t).ls
 let b:=a.flatMap λt=>ay (st t).ls
 let c:=b.flatMap λt=>ay (st t).ls
 r++a++b++c
def cf (st:St)(u:Op):List Nat :=
 let r:=hZ u.operands.toList
 match u with
 |.move _|.pick _ _ _|.build _ _|.field _ _ _|.extract _ _|.makeFunc _ _ _|.unOp _ _ _|.makeSlice _ _ _|.alloc _=>r
 |.slice _ _ _ _ _=>EPO::(r++r.flatMap λt=>aw (st t).ls)
 |.assign _|.box _ _|.buildSlice _ _ _|.indexAddr _ _ _|.nilCheck _|.fieldAddr _ _ _|.convert _ _ _|.binOp _ _ _ _ _|.index _ _ _=>r++r.flatMap λt=>aw (st t).ls
 |.load _ _|.store _ _ _=>r++r.flatMap λt=>ay (st t).ls
 |.call c=>match c.callee with
  |.builtin _=>TMP::(r++r.flatMap λt=>aw (st t).ls)
  |_=>TMP::EPO::ki st r
 |_=>ki st r
def yJ (o:Oper):List Nat:=match o.dst with
 |some d=>[d,B0+d]
 |none=>[]
def eC (st:St)(u:Op):List Nat :=
 let r:=hZ u.operands.toList
 match u with
 |.move _=>r
 |.indexAddr _ _ _=>r++r.flatMap λt=>aw (st t).ls
 |_=>[]
def eV (st:St)(o:Oper):List Nat:=(match o.op with|.move _|.indexAddr _ _ _=>[]|op=>cf st op)++yJ o
def dJ (st:St)(o:Oper):List Nat:=match o.op with
 |.store _ x _=>match one st x with
  |.ep r _ _ _ _ _=>[r]
  |_=>[]
 |_=>[]
structure cz where
 rd:List Nat
 hd:List Nat
 wr:List Nat
 cw:List Nat
def lE (a b:List Nat):Bool:=a.any λx=>b.any λy=>AT x y
def cz.apart (x y:cz):Bool:=!lE (x.wr++x.cw) (y.wr++y.cw)&&!lE (x.wr++x.cw) y.rd&&!lE x.rd (y.wr++y.cw)&&!lE x.wr y.hd&&!lE x.hd y.wr
def jm:List Oper->List Nat->List Nat
 |[],r=>r
 |o::u,r=>jm u (r++[o.after.toList.foldl (λs e=>bif Region.binds .any e then s ||| 2 ^ e.on ||| r.getD e.on 0 else s) 0])
def oY (r:List Nat)(u:List cz):Bool :=
 (BT u.length).all λj=>(BT j).all λi =>
  (r.getD j 0).testBit i||(match u[i]?,u[j]? with
   |some x,some y=>x.apart y
   |_,_=>false)
def lit (st:St)(t:Nat)(b:Bool):St:=ac [(t,⟨(st t).ver,.one,[.bool b]⟩)] st
def ek (st:St)(o:Oper):Upd :=
 match o.dst with
 |some d=>[(d,⟨(st d).ver+1,.und,[]⟩)]
 |none=>[]
def opK (Γ:List Ctr)(T:TypeId->TI)(y:Array Oper)(o:Oper)(st:St)(H:St->cz->Option R):Option R :=
 let z (st:St) (r:List Nat):Option R:=act Γ T o st (λU=>H (ac U st) ⟨r++eV st o,eC st o.op,(U.map (·.1)).filter (λq=>!((dJ st o).any (AT q))),dJ st o⟩);let no (st:St) (r:List Nat):Option R:=H (ac (ek st o) st) ⟨r,[],o.dst.toList,[]⟩
 match o.guard with
 |none=>z st []
 |some (j,u)=>match (y[j]?).bind (·.dst) with
  |some t=>match (st t).sh,(st t).ls with
   |.one,[.bool b]=>bif b then (bif u then z (lit st t true) [t] else no (lit st t true) [t]) else (bif u then no (lit st t false) [t] else z (lit st t false) [t])
   |.und,_=>no st [t]
   |_,_=>none
  |none=>none
def pW (Γ:List Ctr)(T:TypeId->TI)(r:Array Oper):List Oper->St->List cz->(St->List cz->Option R)->Option R
 |[],H,z,I=>I H z
 |o::u,H,z,I=>opK Γ T r o H (λy t=>pW Γ T r u y (z++[t]) I)
def nk (ops:Array Oper):Bool:=(BT ops.size).all λi=>match ops[i]? with
 |some o=>o.after.toList.all λe=>!Region.binds .any e||decide (e.on<i)
 |none=>true
def regK (Γ:List Ctr)(T:TypeId->TI)(ops:Array Oper)(u:Bool)(st:St)(y:St->Option R):Option R :=
 bif u then
  pW Γ T ops ops.toList st [] (λr z=>bif nk ops&&oY (jm ops.toList []) z then y r else none)
 else pW Γ T ops ops.toList st [] (λr _=>y r)
inductive Ex where
 |normal|exit (id:Nat)|ret
def oj (y:St->(Ex->St->Option R)->Option R)(u:Ex->St->Option R):Ex->St->Option R
 |.normal,r=>y r u
 |e,r=>u e r
def rY (id:Nat)(y:Ex->St->Option R):Ex->St->Option R
 |.exit r,u=>bif AT r id then y .normal u else y (.exit r) u
 |e,u=>y e u
def av (L:List (Nat×bL)):St:=λq=>ac L (λ_=>bL.none) q
inductive Coe where
 |keep|kill
 |own (p:Bool) (E:TypeId) (e:Ty)|ro (p:Bool) (E:TypeId) (e:Ty)|rp (p:Bool)
def bo (st:St)(live:List Nat):Coe->Leaf->Leaf
 |.kill,_=>.dead
 |.own p E e,.nil=>.own p none E e []
 |.own p _ _,.own q none E e y=>bif !q||p then .own p none E e y else .dead
 |.ro p E e,.nil=>.ro p E e []
 |.ro p E e,.ro q _ z y=>bif !q||p then (match castSh e z y with | some H=>.ro p E e H | none=>.dead) else .dead
 |.ro p E e,.own q none _ z y=>bif !q||p then (match castSh e z y with | some H=>.ro p E e H | none=>.dead) else .dead
 |.rp p,.rpp q a x=>bif !q||p then .rpp p a x else .dead
 |.rp p,.rp q a x off=>bif !q||p then .rp p a x off else .dead
 |.keep,.int k n=>.int k n
 |.keep,.bool b=>.bool b
 |.keep,.str s=>.str s
 |.keep,.nil=>.nil
 |.keep,.hdr n=>.hdr n
 |.keep,.fn J B I=>.fn J B I
 |.keep,.clr f M=>.clr f M
 |.keep,.bp b off=>bif live.any (AT b) then .bp b off else .dead
 |.keep,.clo f u=>bif u.all (λb=>live.any (AT b)) then .clo f u else .dead
 |.keep,.al r j v=>bif live.any (AT r)&&AT (st r).ver v then .al r j 0 else .dead
 |_,_=>.dead
def cJ (st:St)(live:List Nat):List Coe->List Leaf->List Leaf
 |c::u,l::r=>bo st live c l::cJ st live u r
 |[],_::r=>.dead::cJ st live [] r
 |_,[]=>[]
def lF (live:List (Nat×List Coe))(st:St):St:=av (live.map λr=>(r.1,⟨0,(st r.1).sh,cJ st (live.map (·.1)) r.2 (st r.1).ls⟩))
def gu (live:List (Nat×List Coe))(rec:St->Option R)(u:Ex->St->Option R):Ex->St->Option R
 |.normal,r=>rec (lF live r)
 |e,r=>u e r
def bd (live:List (Nat×List Coe))(u:St->(Ex->St->Option R)->Option R):Nat->St->(Ex->St->Option R)->Option R
 |0,_,_=>none
 |k+1,z,y=>u z (gu live (λr=>bd live u k r y) y)
def ey:Code->Nat
 |.region id _ _=>id+1
 |.seq a b=>match ey a with
  |0=>ey b
  |n=>n
 |.cond _ a b=>match ey a with
  |0=>ey b
  |n=>n
 |.block _ c=>ey c
 |.loop c=>ey c
 |.scope c=>ey c
 |_=>0
def k8 (L:List (Nat×List (Nat×List Coe)))(k:Nat):List (Nat×List Coe):=match L with
 |[]=>[]
 |(n,l)::r=>bif AT n k then l else k8 r k
def yK (st:St)(c:Operand)(r no:St->Option R):Option R :=
 match c with
 |.tmp t=>match (st t).sh,(st t).ls with
  |.one,[.bool b]=>bif b then r (lit st t true) else no (lit st t false)
  |_,_=>none
 |.const (.bool b)=>bif b then r st else no st
 |_=>none
def evK (Γ:List Ctr)(T:TypeId->TI)(L:List (Nat×List (Nat×List Coe)))(r:Nat):Code->St->(Ex->St->Option R)->Option R
 |.skip,u,z=>z .normal u
 |.region _ I H,u,z=>regK Γ T I H u (z .normal)
 |.seq a b,u,z=>evK Γ T L r a u (oj (evK Γ T L r b) z)
 |.cond c x y,u,z=>yK u c (λu=>evK Γ T L r x u z) (λu=>evK Γ T L r y u z)
 |.block id c,u,z=>evK Γ T L r c u (rY id z)
 |.loop c,u,z=>bd (k8 L (ey c)) (evK Γ T L r c) r (lF (k8 L (ey c)) u) z
 |.exit id,u,z=>z (.exit id) u
 |.ret,u,z=>z .ret u
 |_,_,_=>none
def sub:Code->List Nat->Code
 |.seq a _,0::p=>sub a p
 |.seq _ b,1::p=>sub b p
 |.cond _ x _,0::p=>sub x p
 |.cond _ _ y,1::p=>sub y p
 |.block _ c,0::p=>sub c p
 |.loop c,0::p=>sub c p
 |c,_=>c
def kAt (u:Code->St->(Ex->St->Option R)->Option R):Code->List Nat->(Ex->St->Option R)->Ex->St->Option R
 |.seq a b,0::p,r=>kAt u a p (oj (u b) r)
 |.seq _ b,1::p,r=>kAt u b p r
 |.cond _ x _,0::p,r=>kAt u x p r
 |.cond _ _ y,1::p,r=>kAt u y p r
 |.block id c,0::p,r=>kAt u c p (rY id r)
 |_,_,r=>r
def cD (fn:Func):Code:=match fn.body with
 |some c=>c
 |none=>.skip
def ae {A:Type}(step:(A->Option R)->A->Option R):Nat->A->Option R
 |0,_=>none
 |k+1,a=>step (ae step k) a
theorem kH {A:Type}(live:List (Nat×List Coe))(r:St->(Ex->St->Option R)->Option R)(u:Ex->St->Option R)(S:A->St)
  (step:(A->Option R)->A->Option R) (h:∀ (rec:St->Option R) (a:A),r (S a) (gu live rec u)=step (λa=>rec (S a)) a) :
  ∀ (k:Nat) (a:A),bd live r k (S a) u=ae step k a
 |0,_=>rfl
 |k+1,a=>by
  have y:=kH live r u S step h k;simp only[bd,ae];rw[h];exact congrArg (λg=>step g a) (funext y)
abbrev wr (k:IntKind)(n:Int):Int:=k.wrap n
def bt (k:IntKind)(a b:Int):Int:=k.wrap ((BitVec.ofInt k.bits a &&& BitVec.ofInt k.bits b).toNat)
def pX (k:IntKind)(a b:Int):Int:=k.wrap ((BitVec.ofInt k.bits a ^^^ BitVec.ofInt k.bits b).toNat)
def jy (p:Bool):(cs:List (Bool×Ty))->lA cs->List (Bool×Bool×(a:Ty)×a.den)
 |[],_=>[]
 |c::cs,x=>(p,c.1,⟨c.2,x.1⟩)::jy p cs x.2
def uh (i off:Nat):Leaf->Leaf
 |.own p _ E e r=>.own p (some (i,off)) E e r
 |l=>l
def cK (t:Nat):(ps:List PK)->ab ps->Upd
 |[],_=>[]
 |.rd a::ps,x=>(t,⟨0,be a.isAgg,cr true a x.1⟩)::cK (t+1) ps x.2
 |.own a::ps,x=>(t,⟨0,be a.isAgg,aq true a x.1⟩)::cK (t+1) ps x.2
 |.io a::ps,x=>(t,⟨7,be a.isAgg,aq true a x.1⟩)::cK (t+1) ps x.2
 |.rref a::ps,x=>(t,⟨0,.one,[.rp true a x.1 0]⟩)::cK (t+1) ps x.2
 |.rref2 a::ps,x=>(t,⟨0,.one,[.rpp true a x.1]⟩)::cK (t+1) ps x.2
 |.iop a::ps,x=>(t,⟨0,.one,[.bp (B0+t) 0]⟩)::(B0+t,⟨0,.agg,aq true a x.1⟩)::cK (t+1) ps x.2
 |.fn r B::ps,x=>(t,⟨0,.one,[.fn r B x.1]⟩)::cK (t+1) ps x.2
 |.clo f u::ps,x=>(t,⟨0,.one,[.clr f (jy true u x.1)]⟩)::cK (t+1) ps x.2
 |.hol a c off::ps,x=>(t,⟨0,be a.isAgg,aP (aq true a x.1.1) c (uh x.1.2 off ((aq true a x.1.1).getD c .dead))⟩)::cK (t+1) ps x.2
def gR (st:St)(t:Nat):(ps:List PK)->Option (ct (ag ps))
 |[]=>some ⟨false,(),[],[],[]⟩
 |.io a::ps=>match (bif decide ((ar st (.tmp t)).1=be a.isAgg) then b7 st a (ar st (.tmp t)).2 else none),gR st (t+1) ps with
  |some x,some y=>some ⟨x.p||y.p,(x.val,y.val),x.frz++y.frz,x.kill++y.kill,[]⟩
  |_,_=>none
 |.iop a::ps=>match b7 st a (bz (B0+t) (st (B0+t)).ver 0 (st (B0+t)).ls),gR st (t+1) ps with
  |some x,some y=>some ⟨x.p||y.p,(x.val,y.val),x.frz++y.frz,x.kill++y.kill,[]⟩
  |_,_=>none
 |.rd _::ps=>gR st (t+1) ps
 |.own _::ps=>gR st (t+1) ps
 |.rref _::ps=>gR st (t+1) ps
 |.rref2 _::ps=>gR st (t+1) ps
 |.fn _ _::ps=>gR st (t+1) ps
 |.clo _ _::ps=>gR st (t+1) ps
 |.hol _ _ _::ps=>gR st (t+1) ps
def uS (st:St)(T:TypeId->TI):ResultVar->List Leaf
 |.tmp t=>(ar st (.tmp t)).2
 |.cell t r=>match one st (.tmp t) with
  |.bp b off=>((bz b (st b).ver 0 (st b).ls).drop off).take (T r).cells
  |_=>[]
def oZ (st:St)(T:TypeId->TI):ResultVar->aG
 |.tmp t=>(ar st (.tmp t)).1
 |.cell t r=>match one st (.tmp t) with
  |.bp b off=>bif decide ((st b).sh=.agg)&&BY (off+(T r).cells) (st b).ls.length&&!AT (T r).cells 0 then be (T r).agg else .off
  |_=>.off
def RK.sh:RK->aG
 |.v a=>be a.isAgg
 |.bv a=>be a.isAgg
 |.box _=>.one
def bA (t:Nat):List PK->List Nat
 |[]=>[]
 |.iop _::r=>(B0+t)::bA (t+1) r
 |_::r=>bA (t+1) r
def fU (t:Nat):List PK->List Nat
 |[]=>[]
 |.io _::r=>t::fU (t+1) r
 |.iop _::r=>t::fU (t+1) r
 |_::r=>fU (t+1) r
def rK (st:St)(z:List Nat):(r:RK)->List Leaf->Option (ct r.den)
 |.v a,u=>b7 st a u
 |.bv a,u=>(cA st a u).map λy=>⟨false,y.2,bq st u,[],[]⟩
 |.box a,u=>match u with
  |[.bp b 0]=>bif !(z.any (AT b)) then b7 st a (bz b (st b).ver 0 (st b).ls) else none
  |_=>none
def jP (st:St)(T:TypeId->TI)(H:List Nat):(u:List RK)->List ResultVar->Option (ct (ah u))
 |[],[]=>some ⟨false,(),[],[],[]⟩
 |r::u,x::I=>bif decide (oZ st T x=r.sh) then match rK st H r (uS st T x),jP st T H u I with
  |some y,some z=>some ⟨y.p||z.p,(y.val,z.val),y.frz++z.frz,y.kill++z.kill,[]⟩
  |_,_=>none else none
 |_,_=>none
def finR (T:TypeId->TI)(ps:List PK)(z:List RK)(r:Bool)(u:List ResultVar)(st:St):Option (ah z×ag ps) :=
 match jP st T (bA 0 ps) z u,gR st 0 ps with
 |some y,some o=>bif aU (y.kill++o.kill)&&dk (y.frz++o.frz) (y.kill++o.kill)&&(!r||!(y.p||o.p)) then some (y.val,o.val) else none
 |_,_=>none
def cS (T:TypeId->TI)(ps:List PK)(y:List RK)(r:Bool)(u:List ResultVar):Ex->St->Option (ah y×ag ps)
 |.exit _,_=>none
 |_,z=>finR T ps y r u z
def k9 (nt:Nat)(fix:List Nat)(r:Array Oper)(o:Oper):Bool :=
 (match o.dst with
  |some d=>BU d nt&&!(fix.any (AT d))
  |none=>true) &&
 (match o.guard with
  |some (j,_)=>match (r[j]?).bind (·.dst) with
   |some s=>BU s nt
   |none=>true
  |none=>true)
def vZ (nt:Nat):Operand->Bool
 |.tmp t=>BU t nt
 |_=>true
def dx (nt:Nat)(fix:List Nat):Code->Bool
 |.region _ r _=>r.toList.all (k9 nt fix r)
 |.seq a b=>dx nt fix a&&dx nt fix b
 |.cond c a b=>vZ nt c&&dx nt fix a&&dx nt fix b
 |.block _ c=>dx nt fix c
 |.loop c=>dx nt fix c
 |_=>true
def pY:List RK->Bool
 |[.box _]=>true
 |rs=>rs.all RK.isV
def c8 (L:List (Nat×List (Nat×List Coe)))(u:List Nat):Code->Bool
 |.seq a b=>c8 L u a&&c8 L u b
 |.cond _ a b=>c8 L u a&&c8 L u b
 |.block _ c=>c8 L u c
 |.loop c=>(u.all λb=>(k8 L (ey c)).any λr=>AT r.1 b)&&c8 L u c
 |_=>true
def evF (Γ:List Ctr)(T:TypeId->TI)(L:List (Nat×List (Nat×List Coe)))(u:Nat)(fn:Func)(ps:List PK)(y:List RK)(r:Bool)(x:ab ps):Option (ah y×ag ps) :=
 match fn.body with
 |some c=>bif dx fn.ntmps (fU 0 ps) c&&BY ps.length fn.ntmps&&BY fn.ntmps GH&&pY y&&c8 L (bA 0 ps) c then
  evK Γ T L u c (av (cK 0 ps x)) (cS T ps y r fn.results.toList) else none
 |none=>none
end
def eD (e:Ty)(r:Nat)(xs:List e.den):Option ((List e.den×Unit)×Unit):=bif decide ((0+xs.length)*r<=ak) then some ((xs,()),()) else none
theorem jz (e:Ty)(r:Nat):eD e r []=some (([],()),()):=by
 unfold eD;simp[ak]
def jn:Code->Nat->Oper
 |.region _ r _,i=>(r[i]?).getD ⟨none,.move (.tmp 0),0,"",#[],none⟩
 |_,_=>⟨none,.move (.tmp 0),0,"",#[],none⟩
def jJ (e:Ty)(r:Nat)(xs:List e.den)(i:Int)(u:List e.den):Option ((List e.den×Unit)×Unit) :=
 if 0<=i/\i<=(xs.length:Int)/\0<u.length/\(xs.length+u.length)*r<=ak then some ((xs.take i.toNat++u++xs.drop i.toNat,()),()) else none
def o6 {α:Type}(r:α×Unit->Option Bool):List α->Option (List α)
 |[]=>some []
 |x::y=>(r (x,())).bind λb=>(o6 r y).map λu=>bif b then u else x::u
def la (e:Ty)(xs:List e.den)(r:e.den×Unit->Option Bool):Option ((List e.den×Unit)×Unit):=if xs.length<=1048576 then (o6 r xs).map λu=>((u,()),()) else none
abbrev Ty.hd:Ty->Ty
 |.pair a b=>.pair a.hd b.hd
 |.list _ _ _=>.hdr
 |a=>a
abbrev hdD:(a:Ty)->a.den->a.hd.den
 |.pair a b,x=>(hdD a x.1,hdD b x.2)
 |.list _ _ e,r=>List.length (α:=e.den) r
 |.int _,x=>x
 |.bool,x=>x
 |.str,x=>x
 |.unit,x=>x
 |.hdr,x=>x
noncomputable def yW (e:Ty)(r:Nat)(xs:List e.den):Option ((List e.hd.den×Unit)×Unit):=(eD e r xs).map λy=>((y.1.1.map (hdD e),()),())
def insI (n:Int):List Int->List Int
 |[]=>[n]
 |m::r=>if n<=m then n::m::r else m::insI n r
def yL:List Int->List Int
 |[]=>[]
 |n::r=>insI n (yL r)
def medianM (xs:List Int):Option ((Int×Unit)×Unit) :=
 let l:=yL (xs.drop (xs.length-3))
 some ((l.getD ((l.length-1) / 2) 0,()),())
def aR {R:Type}(x y:ByteArray)(k:ByteArray->Option R):Option R:=bif decide (x.size+y.size<=9223372036854775807) then k (x++y) else none
open Go.RowKit
def cF (w:World)(g off:Nat)(cs:List Value):Prop:=∀ i v,cs[i]?=some v->w.cell? ⟨g,off+i,none⟩=some v
theorem cF.same {w w':World}{g off:Nat}{cs:List Value}(h:cF w g off cs)(r:w'.heap[g]?=w.heap[g]?):cF w' g off cs:=by
 intro i v u;have:=h i v u;simpa[B8,r]using this
def Rd (w:World)(G:Nat->Prop):(a:Ty)->a.den->List Value->Prop
 |.int k,n,r=>r=[.int k n]
 |.bool,b,r=>r=[.bool b]
 |.str,s,r=>r=[.string s]
 |.unit,_,r=>r=[]
 |.hdr,n,r=>∃ A u,r=[.slice A n u]
 |.pair a b,x,r=>∃ z H,r=z++H/\Rd w G a x.1 z/\Rd w G b x.2 H
 |.list _ _ e,y,r=>∃ A u,r=[.slice A y.length u]/\y.length<=u /\
  (0<y.length->∃ g o,A=some ⟨g,o,none⟩/\G g/\∀ j (x:e.den),y[j]?=some x->∃ c,Rd w G e x c/\cF w g (o+j*e.cells) c)
theorem Rd.carry {w w':World}{G G':Nat->Prop}(r:∀ k,G k->G' k)(u:∀ k,G k->w'.heap[k]?=w.heap[k]?) :
  ∀ {a:Ty} {x:a.den} {cs:List Value},Rd w G a x cs->Rd w' G' a x cs
 |.int _,_,_,h=>h
 |.bool,_,_,h=>h
 |.str,_,_,h=>h
 |.unit,_,_,h=>h
 |.hdr,_,_,h=>h
 |.pair _ _,_,_,⟨X,c2,e,M,I⟩=>⟨X,c2,e,Rd.carry r u M,Rd.carry r u I⟩
 |.list _ _ _,_,_,⟨A,z,e,J,h⟩=>⟨A,z,e,J,λY=>by
   obtain⟨g,o,Z,H,O⟩:=h Y;exact⟨g,o,Z,r g H,λj x R=>by
    obtain⟨c,hr,y⟩:=O j x R;exact⟨c,Rd.carry r u hr,y.same (u g H)⟩⟩⟩
theorem Rd.mono {w:World}{G G':Nat->Prop}(r:∀ k,G k->G' k){a:Ty}{x:a.den}{cs:List Value}(h:Rd w G a x cs):Rd w G' a x cs :=
 Rd.carry r (λ_ _=>rfl) h
theorem Rd.len {w:World}{G:Nat->Prop}:∀ {a:Ty} {x:a.den} {cs:List Value},Rd w G a x cs->cs.length=a.cells
 |.int _,_,_,h=>by rw[show _=_ from h];rfl
 |.bool,_,_,h=>by rw[show _=_ from h];rfl
 |.str,_,_,h=>by rw[show _=_ from h];rfl
 |.unit,_,_,h=>by rw[show _=_ from h];rfl
 |.hdr,_,_,⟨A,r,e⟩=>by rw[e];rfl
 |.pair _ _,_,_,⟨H,z,e,y,u⟩=>by rw[e,Bn,Rd.len y,Rd.len u];rfl
 |.list _ _ _,_,_,⟨A,r,e,_,_⟩=>by rw[e];rfl
theorem Rd.one {w:World}{G:Nat->Prop}:∀ {a:Ty} {x:a.den} {cs:List Value},Rd w G a x cs->∀ v∈cs,v.oneCell'=true
 |.int _,_,_,h=>by rw[show _=_ from h];simp[BD]
 |.bool,_,_,h=>by rw[show _=_ from h];simp[BD]
 |.str,_,_,h=>by rw[show _=_ from h];simp[BD]
 |.unit,_,_,h=>by rw[show _=_ from h];simp
 |.hdr,_,_,⟨A,u,e⟩=>by rw[e];simp[BD]
 |.pair _ _,_,_,⟨I,H,e,z,y⟩=>by
  rw[e];intro v r;rcases BG.1 r with r|r
  ·exact Rd.one z v r
  ·exact Rd.one y v r
 |.list _ _ _,_,_,⟨A,u,e,_,_⟩=>by rw[e];simp[BD]
theorem Rd.flat {w w':World}{G G':Nat->Prop}:∀ {a:Ty} {x:a.den} {cs:List Value},a.flat=true->Rd w G a x cs->Rd w' G' a x cs
 |.int _,_,_,_,h=>h
 |.bool,_,_,_,h=>h
 |.str,_,_,_,h=>h
 |.unit,_,_,_,h=>h
 |.hdr,_,_,_,h=>h
 |.pair _ _,_,_,r,⟨z,u,e,H,y⟩=>by
  simp only[Ty.flat,AW]at r;exact⟨z,u,e,Rd.flat r.1 H,Rd.flat r.2 y⟩
theorem gS:∀ {a b:Ty},a.sh=b.sh->a.cells=b.cells
 |.pair a b,.pair c d,h=>by
  simp only[Ty.sh,Ty.pair.injEq]at h;simp only[Ty.cells,gS h.1,gS h.2]
 |.int _,.int _,_|.int _,.bool,_|.int _,.str,_|.int _,.hdr,_|.int _,.list _ _ _,_=>rfl
 |.bool,.int _,_|.bool,.bool,_|.bool,.str,_|.bool,.hdr,_|.bool,.list _ _ _,_=>rfl
 |.str,.int _,_|.str,.bool,_|.str,.str,_|.str,.hdr,_|.str,.list _ _ _,_=>rfl
 |.hdr,.int _,_|.hdr,.bool,_|.hdr,.str,_|.hdr,.hdr,_|.hdr,.list _ _ _,_=>rfl
 |.list _ _ _,.int _,_|.list _ _ _,.bool,_|.list _ _ _,.str,_|.list _ _ _,.hdr,_|.list _ _ _,.list _ _ _,_=>rfl
 |.unit,.unit,_=>rfl
theorem rZ {A r B u:Type}(H:A=r)(z:B=u){x:A×B}{y:r×u}(h:HEq x y):HEq x.1 y.1/\HEq x.2 y.2:=by
 subst H;subst z;cases h;exact⟨HEq.rfl,HEq.rfl⟩
theorem r8 {A r:Type}(z:A=r){xs:List A}{u:List r}(h:HEq xs u):xs.length=u.length/\∀ (j:Nat) (y:r),u[j]?=some y->∃ x:A,xs[j]?=some x/\HEq x y:=by
 subst z;cases h;exact⟨rfl,λj y H=>⟨y,H,HEq.rfl⟩⟩
theorem Rd.flags {w:World}{G:Nat->Prop}:∀ {a b:Ty} {x:a.den} {y:b.den} {cs:List Value},a.sh=b.sh->HEq x y->Rd w G a x cs->Rd w G b y cs
 |.pair a b,.pair c d,x,y,cs,h,r,⟨c1,c2,e,u,I⟩=>by
  simp only[Ty.sh,Ty.pair.injEq]at h;obtain⟨J,z⟩:=rZ (je h.1) (je h.2) r;exact⟨c1,c2,e,Rd.flags h.1 J u,Rd.flags h.2 z I⟩
 |.list _ _ e,.list _ _ e',xs,ys,cs,h,r,⟨A,H,u,I,J⟩=>by
  simp only[Ty.sh,Ty.list.injEq,true_and]at h;obtain⟨z,O⟩:=r8 (je h.2) r;refine⟨A,H,by rw[<- z];exact u,by rw[<- z];exact I,λhp=>?_⟩;obtain⟨g,o,hA,Z,Y⟩:=J (by rw[z];exact hp);refine⟨g,o,hA,Z,λj y hj=>?_⟩;obtain⟨x,M,X⟩:=O j y hj;obtain⟨c,R,h9⟩:=Y j x M;rw[<- gS h.2];exact⟨c,Rd.flags h.2 X R,h9⟩
 |.int k,.int k',x,y,cs,h,r,u=>by
  simp only[Ty.sh]at h
  grind
 |.bool,.bool,x,y,cs,h,r,u=>by cases r;exact u
 |.str,.str,x,y,cs,h,r,u=>by cases r;exact u
 |.unit,.unit,x,y,cs,h,r,u=>u
 |.hdr,.hdr,x,y,cs,h,r,u=>by cases r;exact u
def Row (w:World)(E:TypeId)(s:Nat)(v:Value)(n:Nat)(flat:List Value):Prop :=
 flat.length=n*s/\((v=.slice none 0 0/\n=0) \/
  ∃ g r u mk,v=.slice (some ⟨g,0,none⟩) n r/\w.heap[g]?=some (.cells u E mk)/\n<=r/\(mk=(0,0)/\r<=maxLen\/E=5/\u.size<=mk.1)/\r*s<=u.size/\u.toList.take (n*s)=flat)
theorem Row.of {w:World}{b:Nat}{E:TypeId}{s n:Nat}{v:Value}{flat:List Value}(h:w.ownsRow b E s v n flat):Row w E s v n flat:=by
 refine⟨h.1,h.2.imp id ?_⟩
 grind
theorem Row.same {w w':World}{E:TypeId}{s n:Nat}{v:Value}{flat:List Value}(h:Row w E s v n flat)(H:∀ k∈v.ownBlock.toList,w'.heap[k]?=w.heap[k]?):Row w' E s v n flat:=by
 refine⟨h.1,?_⟩;rcases h.2 with I|⟨g,u,y,mk,rfl,z,r⟩
 ·grind
 ·exact .inr ⟨g,u,y,mk,rfl,by rw[H g (by simp[BR])];exact z,r⟩
theorem Row.lt {w:World}{E:TypeId}{s n:Nat}{v:Value}{flat:List Value}(h:Row w E s v n flat):∀ k∈v.ownBlock.toList,k<w.heap.size:=by
 intro k r;rcases h.2 with ⟨rfl,_⟩|⟨g,u,y,_,rfl,z,_⟩
 ·simp[BR]at r
 ·simp[BR]at r
  grind
theorem Row.slice {w:World}{E:TypeId}{s n:Nat}{v:Value}{flat:List Value}(h:Row w E s v n flat):∃ A r,v=.slice A n r/\n<=r:=by
 rcases h.2 with ⟨rfl,y⟩|⟨g,r,u,_,rfl,_,z,_⟩
 ·grind
 ·grind
theorem Row.nil (w:World)(E:TypeId)(s:Nat):Row w E s (.slice none 0 0) 0 []:=⟨by simp,.inl ⟨rfl,rfl⟩⟩
theorem Row.cellAt {w:World}{E:TypeId}{s n g u:Nat}{flat:List Value}(h:Row w E s (.slice (some ⟨g,0,none⟩) n u) n flat)(j:Nat)(J:j<n*s):w.cell? ⟨g,j,none⟩=flat[j]?:=by
 rcases h.2 with ⟨y,_⟩|⟨M,H,z,mk,y,I,_,_,_,r⟩
 ·grind
 ·simp at y;obtain⟨rfl,rfl⟩:=y;rw[cell_of_row w g j z E mk I,<- r,BI,if_pos J];simp
theorem yM {mk:Nat×Nat}{E z c:Nat}(h:mk=(0,0)/\c<=maxLen\/E=5/\z<=mk.1):mk.2=0\/z<=mk.1:=h.imp (λh=>by rw[h.1]) (·.2)
theorem qA {w:World}{g j:Nat}{cs:Array Value}{E:TypeId}{mk:Nat×Nat}(r:w.heap[g]?=some (.cells cs E mk))(y:mk.2=0\/cs.size<=mk.1)(u:j<cs.size):w.frozen? ⟨g,j,none⟩=false:=by
 simp only[World.frozen?,r,Bool.and_eq_false_iff,decide_eq_false_iff_not];omega
def Mx (w:World)(G:Nat->Prop):(a:Ty)->Option Nat->Nat->a.den->List Value->List Nat->Prop
 |.int k,_,_,n,y,r=>y=[.int k n]/\r=[]
 |.bool,_,_,b,y,r=>y=[.bool b]/\r=[]
 |.str,_,_,s,y,r=>y=[.string s]/\r=[]
 |.unit,_,_,_,y,r=>y=[]/\r=[]
 |.hdr,_,_,n,y,r=>(∃ A J,y=[.slice A n J])/\r=[]
 |.pair a b,h,pos,x,y,r=>∃ R X O M,y=R++X/\r=O++M/\Mx w G a h pos x.1 R O/\Mx w G b h (pos+a.cells) x.2 X M
 |.list m E e,h,pos,I,y,r=>∃ v,y=[v]/\v.oneCell'=true /\
  (if m=true then (if h=some pos then r=[] else ∃ z H,Row w E e.cells v I.length z/\r=v.ownBlock.toList++(BT I.length).flatMap H /\
    ∀ j (x:e.den),I[j]?=some x->∃ c,Mx w G e none 0 x c (H j)/\∀ i u,c[i]?=some u->z[j*e.cells+i]?=some u)
   else r=[]/\Rd w G (.list m E e) I [v])
def OwB (w:World)(G:Nat->Prop)(h:Option (Nat×Nat))(E:TypeId)(e:Ty)(xs:List e.den)(v:Value)(bs:List Nat):Prop :=
 ∃ r y,Row w E e.cells v xs.length r/\bs=v.ownBlock.toList++(BT xs.length).flatMap y /\
  ∀ j (x:e.den),xs[j]?=some x->∃ c,Mx w G e (cB h j) 0 x c (y j)/\∀ i u,c[i]?=some u->r[j*e.cells+i]?=some u
def OwH (w:World)(G:Nat->Prop)(h:Option (Nat×Nat))(E:TypeId)(e:Ty)(xs:List e.den)(v:Value)(bs:List Nat):Prop:=bs.Nodup/\OwB w G h E e xs v bs
abbrev Ow (w:World)(G:Nat->Prop)(E:TypeId)(e:Ty)(xs:List e.den)(v:Value)(bs:List Nat):Prop:=OwH w G none E e xs v bs
theorem OwB.one {w:World}{G:Nat->Prop}{h:Option (Nat×Nat)}{E:TypeId}{e:Ty}{xs:List e.den}{v:Value}{bs:List Nat}(H:OwB w G h E e xs v bs):v.oneCell'=true:=by
 obtain⟨r,y,z,_⟩:=H;obtain⟨A,u,rfl,_⟩:=z.slice;rfl
theorem bB {w:World}{G:Nat->Prop}{h:Option Nat}{E:TypeId}{e:Ty}{pos:Nat}{xs:List e.den}{cs:List Value}{bs:List Nat}(r:h≠some pos) :
  Mx w G (.list true E e) h pos xs cs bs<->∃ v,cs=[v]/\OwB w G none E e xs v bs:=by
 simp only[Mx,if_neg r];constructor
 ·rintro⟨v,h1,h2,h3⟩;exact⟨v,h1,h3⟩
 ·rintro⟨v,h1,h3⟩;exact⟨v,h1,h3.one,h3⟩
theorem iF {w:World}{G:Nat->Prop}{E:TypeId}{e:Ty}{pos:Nat}{xs:List e.den}{cs:List Value}{bs:List Nat} :
  Mx w G (.list true E e) (some pos) pos xs cs bs<->∃ v,cs=[v]/\v.oneCell'=true/\bs=[]:=by
 simp only[Mx,if_true]
theorem cg {w:World}{G:Nat->Prop}{h:Option Nat}{E:TypeId}{e:Ty}{pos:Nat}{xs:List e.den}{cs:List Value}{bs:List Nat} :
  Mx w G (.list false E e) h pos xs cs bs<->bs=[]/\Rd w G (.list false E e) xs cs:=by
 simp only[Mx];constructor
 ·grind
 ·rintro⟨h1,h2⟩;obtain⟨A,r,u,y⟩:=h2;exact⟨_,u,rfl,h1,A,r,rfl,y⟩
theorem dG {n:Nat}{r:Nat->List Nat}{k:Nat}:k∈(BT n).flatMap r<->∃ j,j<n/\k∈r j:=by simp
theorem Mx.carry {w w':World}{G G':Nat->Prop}(I:∀ k,G k->G' k)(J:∀ k,G k->w'.heap[k]?=w.heap[k]?) :
  ∀ {a:Ty} {h:Option Nat} {pos:Nat} {x:a.den} {cs:List Value} {bs:List Nat},(∀ k∈bs,w'.heap[k]?=w.heap[k]?)->Mx w G a h pos x cs bs->Mx w' G' a h pos x cs bs
 |.int _,_,_,_,_,_,_,h=>h
 |.bool,_,_,_,_,_,_,h=>h
 |.str,_,_,_,_,_,_,h=>h
 |.unit,_,_,_,_,_,_,h=>h
 |.hdr,_,_,_,_,_,_,h=>h
 |.pair _ _,_,_,_,_,_,z,⟨c1,c2,b1,b2,X,R,O,u⟩=>⟨c1,c2,b1,b2,X,R,Mx.carry I J (λk r=>z k (by rw[R];exact AZ _ r)) O,Mx.carry I J (λk r=>z k (by rw[R];exact AY _ r)) u⟩
 |.list m E e,h,pos,xs,cs,bs,z,H=>by
  cases m with
  |false =>
   rw[cg]at H ⊢;exact⟨H.1,H.2.carry I J⟩
  |true =>
   by_cases Z:h=some pos
   ·subst Z;rw[iF]at H ⊢;exact H
   ·rw[bB Z]at H ⊢;obtain⟨v,X,y,M,O,u,h3⟩:=H;refine⟨v,X,y,M,O.same (λk r=>z k (by rw[u];exact AZ _ r)),u,λj x Y=>?_⟩;obtain⟨c,h4,h5⟩:=h3 j x Y;refine⟨c,?_,h5⟩;exact Mx.carry I J (λk r=>z k (by rw[u];exact AY _ (dG.2 ⟨j,(AV.1 Y).1,r⟩))) h4
theorem Mx.mono {w:World}{G G':Nat->Prop}(r:∀ k,G k->G' k){a:Ty}{h:Option Nat}{pos:Nat}{x:a.den}{cs:List Value}{bs:List Nat}(H:Mx w G a h pos x cs bs):Mx w G' a h pos x cs bs :=
 Mx.carry r (λ_ _=>rfl) (λ_ _=>rfl) H
theorem OwB.carry {w w':World}{G G':Nat->Prop}{h:Option (Nat×Nat)}{E:TypeId}{e:Ty}{xs:List e.den}{v:Value}{bs:List Nat}(H:OwB w G h E e xs v bs)
  (R:∀ k,G k->G' k) (Y:∀ k,G k->w'.heap[k]?=w.heap[k]?) (I:∀ k∈bs,w'.heap[k]?=w.heap[k]?):OwB w' G' h E e xs v bs:=by
 obtain⟨r,y,X,u,O⟩:=H;refine⟨r,y,X.same (λk z=>I k (by rw[u];exact AZ _ z)),u,λj x J=>?_⟩;obtain⟨c,Z,M⟩:=O j x J;exact⟨c,Mx.carry R Y (λk z=>I k (by rw[u];exact AY _ (dG.2 ⟨j,(AV.1 J).1,z⟩))) Z,M⟩
theorem OwH.carry {w w':World}{G G':Nat->Prop}{h:Option (Nat×Nat)}{E:TypeId}{e:Ty}{xs:List e.den}{v:Value}{bs:List Nat}(H:OwH w G h E e xs v bs)
 (r:∀ k,G k->G' k) (u:∀ k,G k->w'.heap[k]?=w.heap[k]?) (y:∀ k∈bs,w'.heap[k]?=w.heap[k]?):OwH w' G' h E e xs v bs:=⟨H.1,H.2.carry r u y⟩
theorem Mx.len {w:World}{G:Nat->Prop}:∀ {a:Ty} {h:Option Nat} {pos:Nat} {x:a.den} {cs:List Value} {bs:List Nat},Mx w G a h pos x cs bs->cs.length=a.cells
 |.int _,_,_,_,_,_,h=>by rw[h.1];rfl
 |.bool,_,_,_,_,_,h=>by rw[h.1];rfl
 |.str,_,_,_,_,_,h=>by rw[h.1];rfl
 |.unit,_,_,_,_,_,h=>by rw[h.1];rfl
 |.hdr,_,_,_,_,_,⟨⟨A,r,e⟩,_⟩=>by rw[e];rfl
 |.pair _ _,_,_,_,_,_,⟨J,O,I,H,z,M,y,u⟩=>by rw[z,Bn,y.len,u.len];rfl
 |.list _ _ _,_,_,_,_,_,⟨v,e,_⟩=>by rw[e];rfl
theorem Mx.one {w:World}{G:Nat->Prop}:∀ {a:Ty} {h:Option Nat} {pos:Nat} {x:a.den} {cs:List Value} {bs:List Nat},Mx w G a h pos x cs bs->∀ v∈cs,v.oneCell'=true
 |.int _,_,_,_,_,_,h=>by rw[h.1];simp[BD]
 |.bool,_,_,_,_,_,h=>by rw[h.1];simp[BD]
 |.str,_,_,_,_,_,h=>by rw[h.1];simp[BD]
 |.unit,_,_,_,_,_,h=>by rw[h.1];simp
 |.hdr,_,_,_,_,_,⟨⟨A,y,e⟩,_⟩=>by rw[e];simp[BD]
 |.pair _ _,_,_,_,_,_,⟨M,R,J,I,H,O,u,z⟩=>by
  rw[H];intro v r;rcases BG.1 r with r|r
  ·exact u.one v r
  ·exact z.one v r
 |.list _ _ _,_,_,_,_,_,⟨v,e,u,_⟩=>by rw[e];simpa using u
theorem Mx.lt {w:World}{G:Nat->Prop}:∀ {a:Ty} {h:Option Nat} {pos:Nat} {x:a.den} {cs:List Value} {bs:List Nat},Mx w G a h pos x cs bs->∀ k∈bs,k<w.heap.size
 |.int _,_,_,_,_,_,h=>by rw[h.2];simp
 |.bool,_,_,_,_,_,h=>by rw[h.2];simp
 |.str,_,_,_,_,_,h=>by rw[h.2];simp
 |.unit,_,_,_,_,_,h=>by rw[h.2];simp
 |.hdr,_,_,_,_,_,h=>by rw[h.2];simp
 |.pair _ _,_,_,_,_,_,⟨c1,c2,b1,Z,Y,X,y,u⟩=>by
  rw[X];intro k r;rcases BG.1 r with r|r
  ·exact y.lt k r
  ·exact u.lt k r
 |.list m E e,h,pos,xs,cs,bs,H=>by
  cases m with
  |false=>rw[cg]at H;rw[H.1];simp
  |true =>
   by_cases I:h=some pos
   ·subst I;rw[iF]at H
    grind
   ·rw[bB I]at H;obtain⟨v,Y,z,M,y,u,J⟩:=H;rw[u];intro k r;rcases BG.1 r with r|r
    ·exact y.lt k r
    ·obtain⟨j,R,r⟩:=dG.1 r;obtain⟨c,O,_⟩:=J j _ (AX R);exact O.lt k r
theorem OwB.lt {w:World}{G:Nat->Prop}{h:Option (Nat×Nat)}{E:TypeId}{e:Ty}{xs:List e.den}{v:Value}{bs:List Nat}(H:OwB w G h E e xs v bs):∀ k∈bs,k<w.heap.size:=by
 obtain⟨u,I,J,y,z⟩:=H;rw[y];intro k r;rcases BG.1 r with r|r
 ·exact J.lt k r
 ·obtain⟨j,O,r⟩:=dG.1 r;obtain⟨c,M,_⟩:=z j _ (AX O);exact M.lt k r
theorem OwH.lt {w:World}{G:Nat->Prop}{h:Option (Nat×Nat)}{E:TypeId}{e:Ty}{xs:List e.den}{v:Value}{bs:List Nat}(H:OwH w G h E e xs v bs):∀ k∈bs,k<w.heap.size:=H.2.lt
theorem OwH.nodup {w:World}{G:Nat->Prop}{h:Option (Nat×Nat)}{E:TypeId}{e:Ty}{xs:List e.den}{v:Value}{bs:List Nat}(H:OwH w G h E e xs v bs):bs.Nodup:=H.1
theorem OwH.slice {w:World}{G:Nat->Prop}{h:Option (Nat×Nat)}{E:TypeId}{e:Ty}{xs:List e.den}{v:Value}{bs:List Nat}(H:OwH w G h E e xs v bs) :
  ∃ A r,v=.slice A xs.length r/\xs.length<=r:=by
 obtain⟨_,u,y,z,_⟩:=H;exact z.slice
theorem OwH.one {w:World}{G:Nat->Prop}{h:Option (Nat×Nat)}{E:TypeId}{e:Ty}{xs:List e.den}{v:Value}{bs:List Nat}(H:OwH w G h E e xs v bs):v.oneCell'=true:=H.2.one
theorem r9 {w:World}{m:Bool}{E E':TypeId}{e:Ty}{xs:List e.den}{v:Value}{flat:List Value}{S:Nat->Prop}(O:Row w E e.cells v xs.length flat)(Z:∀ k∈v.ownBlock.toList,S k)
  (J:∀ j (x:e.den),xs[j]?=some x->∃ c,Rd w S e x c/\∀ i u,c[i]?=some u->flat[j*e.cells+i]?=some u):Rd w S (.list m E' e) xs [v]:=by
 rcases O.2 with ⟨rfl,H⟩|⟨g,y,z,mk,rfl,X,I,hm,hs,R⟩
 ·exact⟨none,0,by rw[H],by omega,λhp=>by omega⟩
 ·refine⟨some ⟨g,0,none⟩,y,rfl,I,λ_=>⟨g,0,rfl,Z g (by simp[BR]),λj x Y=>?_⟩⟩;obtain⟨c,hr,r⟩:=J j x Y;refine⟨c,hr,λi u M=>?_⟩;have:=r i u M;rw[<- R,BI]at this;split at this
  ·rw[Bq,cell_of_row w g _ z E mk X]
   simp_all
  ·grind
theorem Mx.rd {w:World}{G S:Nat->Prop}(z:∀ k,G k->S k):∀ {a:Ty} {pos:Nat} {x:a.den} {cs:List Value} {bs:List Nat},(∀ k∈bs,S k)->Mx w G a none pos x cs bs->Rd w S a x cs
 |.int _,_,_,_,_,_,h=>h.1
 |.bool,_,_,_,_,_,h=>h.1
 |.str,_,_,_,_,_,h=>h.1
 |.unit,_,_,_,_,_,h=>h.1
 |.hdr,_,_,_,_,_,h=>h.1
 |.pair _ _,_,_,_,_,u,⟨c1,c2,b1,b2,O,Y,M,y⟩=>⟨c1,c2,O,Mx.rd z (λk r=>u k (by rw[Y];exact AZ _ r)) M,Mx.rd z (λk r=>u k (by rw[Y];exact AY _ r)) y⟩
 |.list m E e,pos,xs,cs,bs,u,H=>by
  cases m with
  |false=>rw[cg]at H;exact H.2.mono z
  |true =>
   rw[bB (by simp)]at H;obtain⟨v,O,R,J,M,y,h3⟩:=H;rw[O];refine r9 M (λk r=>u k (by rw[y];exact AZ _ r)) λj x X=>?_
   obtain⟨c,h4,Z⟩:=h3 j x X;have I:Mx w G e none 0 x c (J j):=h4;exact⟨c,Mx.rd z (λk r=>u k (by rw[y];exact AY _ (dG.2 ⟨j,(AV.1 X).1,r⟩))) I,Z⟩
theorem OwH.rd {w:World}{G:Nat->Prop}{m:Bool}{E E':TypeId}{e:Ty}{xs:List e.den}{v:Value}{bs:List Nat}(H:Ow w G E e xs v bs) :
  Rd w (λk=>G k\/k∈bs) (.list m E' e) xs [v]:=by
 obtain⟨_,I,y,R,z,O⟩:=H;refine r9 R (λk r=>.inr (by rw[z];exact AZ _ r)) λj x J=>?_
 obtain⟨c,X,M⟩:=O j x J;have u:Mx w G e none 0 x c (y j):=X;exact⟨c,u.rd (λk r=>.inl r) (λk r=>.inr (by rw[z];exact AY _ (dG.2 ⟨j,(AV.1 J).1,r⟩))),M⟩
theorem OwH.nil (w:World)(G:Nat->Prop)(E:TypeId)(e:Ty):Ow w G E e [] (.slice none 0 0) [] :=
 ⟨List.nodup_nil,[],λ_=>[],Row.nil w E e.cells,rfl,λj x r=>by simp at r⟩
theorem Rd.nil (w:World)(G:Nat->Prop)(m:Bool)(E:TypeId)(e:Ty):Rd w G (.list m E e) [] [.slice none 0 0] :=
 ⟨none,0,rfl,BB _,λh=>by simp at h⟩
theorem Mx.flat {w w':World}{G G':Nat->Prop}:∀ {a:Ty} {h:Option Nat} {pos:Nat} {x:a.den} {cs:List Value},a.flat=true->Rd w G a x cs->Mx w' G' a h pos x cs []
 |.int _,_,_,_,_,_,h=>⟨h,rfl⟩
 |.bool,_,_,_,_,_,h=>⟨h,rfl⟩
 |.str,_,_,_,_,_,h=>⟨h,rfl⟩
 |.unit,_,_,_,_,_,h=>⟨h,rfl⟩
 |.hdr,_,_,_,_,_,h=>⟨h,rfl⟩
 |.pair _ _,_,_,_,_,r,⟨z,u,e,H,y⟩=>by
  simp only[Ty.flat,AW]at r;exact⟨z,u,[],[],e,rfl,Mx.flat r.1 H,Mx.flat r.2 y⟩
theorem Mx.shared {w:World}{G:Nat->Prop}:∀ {a:Ty} {h:Option Nat} {pos:Nat} {x:a.den} {cs:List Value},a.sh=a->Rd w G a x cs->Mx w G a h pos x cs []
 |.int _,_,_,_,_,_,h=>⟨h,rfl⟩
 |.bool,_,_,_,_,_,h=>⟨h,rfl⟩
 |.str,_,_,_,_,_,h=>⟨h,rfl⟩
 |.unit,_,_,_,_,_,h=>⟨h,rfl⟩
 |.hdr,_,_,_,_,_,h=>⟨h,rfl⟩
 |.pair _ _,_,_,_,_,r,⟨z,u,e,H,y⟩=>by
  simp only[Ty.sh,Ty.pair.injEq]at r;exact⟨z,u,[],[],e,rfl,Mx.shared r.1 H,Mx.shared r.2 y⟩
 |.list m E e,_,_,_,_,r,h=>by
  simp only[Ty.sh,Ty.list.injEq]at r;obtain⟨rfl,_⟩:=r;exact cg.2 ⟨rfl,h⟩
def cQ (agg:Bool)(v:Value)(cs:List Value):Prop:=if agg then v=.agg cs.toArray else cs=[v]
def rL (w:World)(G:Nat->Prop):(y:List Ty)->Tup y->List Value->Prop
 |[],_,u=>u=[]
 |a::as,x,u=>∃ v c r,u=v::r/\cQ a.isAgg v c/\Rd w G a x.1 c/\rL w G as x.2 r
def gv (P:Program)(f:FuncId):Prop:=∀ (r:Array Value) (w:World),(callFunc f r).run P w=.ok (.enter f r) w
def gT (P:Program)(w0:World)(S:Nat->Prop)(H:List Ty)(B:Ty)(I:Tup H->Option B.den)(v:Value):Prop :=
 ∃ f z,v=.func (.func f) #[] z/\gv P f /\
  ∀ w1:World,w0.heap.size<=w1.heap.size->(∀ k,S k->w1.heap[k]?=w0.heap[k]?) ->
   ∀ (x:Tup H) (r:List Value) (y:B.den),rL w1 (λk=>k<w1.heap.size) H x r->I x=some y ->
    Calls P f (r.toArray++z) w1 (λe w2=>∃ u c,e=.returned u/\cQ B.isAgg u c/\Rd w2 (λ_=>False) B y c/\Below w1.heap.size w1 w2)
structure Env where
 w0:World
 ro0:Nat->Prop
 own0:List Nat
 nt:Nat
 fixb:List (Nat×Nat)
 fixt:List (Nat×Value)
def Env.prot (V:Env)(k:Nat):Prop:=k<V.w0.heap.size/\k∉V.own0
structure Wit where
 β:Nat->Nat
 cs:Nat->List Value
 bs:Nat->Nat->List Nat
 nw:Nat->Prop
def gd (V:Env)(W:Wit)(p:Bool)(k:Nat):Prop:=W.nw k\/(p=true/\V.ro0 k)
def am:Leaf->Prop
 |.own _ _ _ _ _=>True
 |_=>False
def RpOk (V:Env)(W:Wit)(w:World)(p:Bool)(a:Ty)(x:a.den)(off:Nat)(v:Value):Prop :=
 ∃ g o c,v=.pointer (some ⟨g,o+off,none⟩)/\(W.nw g\/V.prot g)/\Rd w (gd V W p) a x c/\cF w g o c
def rM (V:Env)(W:Wit)(w:World)(p:Bool)(a:Ty)(x:a.den)(v:Value):Prop :=
 ∃ b r g o c,v=.pointer (some ⟨b,r,none⟩)/\(W.nw b\/V.prot b)/\w.cell? ⟨b,r,none⟩=some (.pointer (some ⟨g,o,none⟩)) /\
  (W.nw g\/V.prot g)/\Rd w (gd V W p) a x c/\cF w g o c
def iq (V:Env)(W:Wit)(w:World)(c:Bool×Bool×(a:Ty)×a.den)(v:Value):Prop :=
 if c.2.1=true then rM V W w c.1 c.2.2.1 c.2.2.2 v else RpOk V W w c.1 c.2.2.1 c.2.2.2 0 v
def rN (st:St)(ks:List (Nat×Nat×Nat)):Prop:=∀ k∈ks,∃ l,(st k.1).ls[k.2.1]?=some l/\am l
structure rO (V:Env) (W:Wit) (w:World) (p:Bool) (ks:List (Nat×Nat×Nat)) (loc:Option (Nat×Nat×Nat)) (E:TypeId) (e:Ty) (xs:List e.den) (v:Value):Prop where
 rd:Rd w (λb=>gd V W p b\/∃ k∈ks,b∈W.bs k.1 k.2.1) (.list false E e) xs [v]
 at_:∀ i sz off,loc=some (i,sz,off)->∃ r j n,ks=[(r,j,n)]/\∃ g len cap,(W.cs r)[j]?=some (.slice (some ⟨g,0,none⟩) len cap)/\i<len/\g∈W.bs r j/\w.cell? ⟨g,i*sz+off,none⟩=some v
structure NpOk (V:Env) (W:Wit) (w:World) (p:Bool) (ks:List (Nat×Nat×Nat)) (a:Ty) (x:a.den) (off:Nat) (v:Value):Prop where
 rd:∃ g o c,v=.pointer (some ⟨g,o+off,none⟩)/\(gd V W p g\/∃ k∈ks,g∈W.bs k.1 k.2.1)/\Rd w (λb=>gd V W p b\/∃ k∈ks,b∈W.bs k.1 k.2.1) a x c/\cF w g o c
def aI (P:Program)(V:Env)(W:Wit)(st:St)(w:World)(bs:List Nat):Leaf->Value->Prop
 |.int k n,v=>v=.int k n
 |.bool b,v=>v=.bool b
 |.str s,v=>v=.string s
 |.nil,v=>v=.slice none 0 0
 |.hdr n,v=>∃ A H,v=.slice A n H
 |.ro p E e J,v=>Rd w (gd V W p) (.list false E e) J [v]
 |.own p h E e J,v=>OwH w (gd V W p) h E e J v bs
 |.al r j n,v=>n<=(st r).ver/\((st r).ver=n->(W.cs r)[j]?=some v)
 |.nal p z ep O E e J,v=>ep<=(st EPO).ver/\(∀ k∈z,k.2.2<=(st k.1).ver)/\((st EPO).ver=ep->(∀ k∈z,(st k.1).ver=k.2.2)->rN st z->rO V W w p z O E e J v)
 |.ep r j n i X off,v=>n<=(st r).ver/\((st r).ver=n->∃ g I H,(W.cs r)[j]?=some (.slice (some ⟨g,0,none⟩) I H)/\i<I/\v=.pointer (some ⟨g,i*X+off,none⟩))
 |.np p z ep a x off,v=>ep<=(st EPO).ver/\(∀ k∈z,k.2.2<=(st k.1).ver)/\((st EPO).ver=ep->(∀ k∈z,(st k.1).ver=k.2.2)->rN st z->NpOk V W w p z a x off v)
 |.rp p a x off,v=>RpOk V W w p a x off v
 |.rpp p a x,v=>rM V W w p a x v
 |.bp b off,v=>B0<=b/\(st b).sh=.agg/\v=.pointer (some ⟨W.β b,off,none⟩)
 |.clo f y,v=>v=.func (.func f) #[] (y.map λb=>Value.pointer (some ⟨W.β b,0,none⟩)).toArray/\∀ b∈y,B0<=b/\(st b).sh=.agg
 |.clr f y,v=>∃ M:List Value,v=.func (.func f) #[] M.toArray/\M.length=y.length/\∀ (i:Nat) (c:Bool×Bool×(a:Ty)×a.den) (u:Value),y[i]?=some c->M[i]?=some u->iq V W w c u
 |.fn Y B R,v=>gT P V.w0 V.prot Y B R v
 |.dead,_=>True
def o7:List (Bool×Nat)->List Value->List Value->Prop
 |[],z,y=>z=[]/\y=[]
 |(agg,n)::H,z,y=>∃ v u c r,z=v::u/\y=c++r/\c.length=n/\cQ agg v c/\o7 H u r
def dP:aG->Value->List Value->Prop
 |.off,_,r=>r=[]
 |.und,v,r=>v=undef/\r=[]
 |.one,v,r=>r=[v]
 |.agg,v,r=>v=.agg r.toArray
 |.tup y,v,r=>∃ u,v=.tuple u.toArray/\o7 y u r
def live (st:St)(b:Nat):Prop:=B0<=b/\(st b).sh=.agg
structure an (P:Program) (V:Env) (W:Wit) (st:St) (a:Act) (w:World):Prop where
 nt:a.tmps.size=V.nt
 df:a.defers=[]
 slots:∀ t,t<GH->dP (st t).sh (a.tmps.getD t undef) (W.cs t)
 boxes:∀ b,B0<=b->((st b).sh=.off/\(st b).ls=[])\/((st b).sh=.agg/\∃ E,w.heap[W.β b]?=some (.cells (W.cs b).toArray E (0,0)))
 len:∀ r,(st r).ls.length=(W.cs r).length
 one:∀ r,∀ v∈W.cs r,v.oneCell'=true
 leaf:∀ r j l v,(st r).ls[j]?=some l->(W.cs r)[j]?=some v->aI P V W st w (W.bs r j) l v
 ownb:∀ r j l,(st r).ls[j]?=some l->am l->∀ k∈W.bs r j,¬ W.nw k/\¬ V.prot k/\∀ b,live st b->W.β b≠k
 sep:∀ r j l r' j' l',(st r).ls[j]?=some l->am l->(st r').ls[j']?=some l'->am l'->∀ k,k∈W.bs r j->k∈W.bs r' j'->r=r'/\j=j'
 box:∀ b,live st b->¬ W.nw (W.β b)/\¬ V.prot (W.β b)
 inj:∀ b b',live st b->live st b'->W.β b=W.β b'->b=b'
 nwlt:∀ k,W.nw k->k<w.heap.size/\¬ V.prot k
 os:w.os=V.w0.os
 tape:w.tape=V.w0.tape
 output:w.output=V.w0.output
 size:V.w0.heap.size<=w.heap.size
 keep:∀ k,V.prot k->w.heap[k]?=V.w0.heap[k]?
 fixb:∀ x∈V.fixb,live st x.1/\W.β x.1=x.2
 fixt:∀ x∈V.fixt,a.tmps.getD x.1 undef=x.2
def Rel (P:Program)(V:Env)(st:St)(a:Act)(w:World):Prop:=∃ W,an P V W st a w
structure ax (V:Env):Prop where
 ro:∀ k,V.ro0 k->V.prot k
 nt:V.nt<=GH
theorem ax.ntB {V:Env}(h:ax V):V.nt<=B0:=BE h.nt (by decide)
section
variable {P:Program} {V:Env} {W W':Wit} {st st':St} {w w':World}
theorem bP {p q:Bool}(y:p=true->q=true)(u:∀ k,W.nw k->W'.nw k):∀ k,gd V W p k->gd V W' q k:=by
 intro k r;rcases r with r|⟨z,r⟩
 ·exact .inl (u k r)
 ·exact .inr ⟨y z,r⟩
structure cl (V:Env) (W W':Wit) (st st':St) (w w':World):Prop where
 ver:∀ r,(st r).ver<=(st' r).ver/\((st' r).ver=(st r).ver->W'.cs r=W.cs r)
 box:∀ b,live st b->live st' b/\W'.β b=W.β b
 nw:∀ k,W.nw k->W'.nw k
 heap:∀ k,(W.nw k\/V.prot k)->w'.heap[k]?=w.heap[k]?
 epo:(st' EPO).ver=(st EPO).ver->∀ (r j:Nat) (l:Leaf),(st' r).ls[j]?=some l->am l->(st' r).ver=(st r).ver ->
  (∃ l',(st r).ls[j]?=some l'/\am l')/\W'.bs r j=W.bs r j/\∀ k∈W.bs r j,w'.heap[k]?=w.heap[k]?
theorem cl.refl (V:Env)(W:Wit)(st:St)(w:World):cl V W W st st w w :=
 ⟨λ_=>⟨BB _,λ_=>rfl⟩,λ_ u=>⟨u,rfl⟩,λ_ h=>h,λ_ _=>rfl,λ_ _ _ l y r _=>⟨⟨l,y,r⟩,rfl,λ_ _=>rfl⟩⟩
theorem kj {w w':World}{a:Addr}(h:w'.heap[a.block]?=w.heap[a.block]?):w'.cell? a=w.cell? a:=by simp[B8,h]
theorem cl.gdheap (u:∀ k,V.ro0 k->V.prot k)(h:cl V W W' st st' w w')(p:Bool):∀ k,gd V W p k->w'.heap[k]?=w.heap[k]?:=by
 intro k r;rcases r with r|⟨_,r⟩
 ·exact h.heap k (.inl r)
 ·exact h.heap k (.inr (u k r))
theorem wa {ks:List (Nat×Nat×Nat)}{ep:Nat}(r:cl V W W' st st' w w')(I:ep<=(st EPO).ver)(y:∀ k∈ks,k.2.2<=(st k.1).ver)(H:(st' EPO).ver=ep)(z:∀ k∈ks,(st' k.1).ver=k.2.2) :
  (st EPO).ver=ep/\∀ k∈ks,(st k.1).ver=k.2.2 :=
 ⟨by have:=(r.ver EPO).1;omega,λk u=>by have:=(r.ver k.1).1;have:=y k u;have:=z k u;omega⟩
theorem cl.places {ks:List (Nat×Nat×Nat)}{ep:Nat}(z:cl V W W' st st' w w')(J:rN st' ks)(R:(st EPO).ver=ep)(y:∀ k∈ks,(st k.1).ver=k.2.2)
  (O:(st' EPO).ver=ep) (I:∀ k∈ks,(st' k.1).ver=k.2.2) :
  ∀ k∈ks,(∃ u,(st k.1).ls[k.2.1]?=some u/\am u)/\W'.bs k.1 k.2.1=W.bs k.1 k.2.1/\∀ b∈W.bs k.1 k.2.1,w'.heap[b]?=w.heap[b]?:=λk r=>by
 obtain⟨l,H,M⟩:=J k r;exact z.epo (by omega) k.1 k.2.1 l H M (by rw[I k r,y k r])
theorem aI.carry (J:∀ k,V.ro0 k->V.prot k){bs bs':List Nat}{l:Leaf}{v:Value}(h:aI P V W st w bs l v)(y:cl V W W' st st' w w')
  (a0:am l->bs'=bs/\∀ k∈bs,w'.heap[k]?=w.heap[k]?):aI P V W' st' w' bs' l v:=by
 have hG:∀ p k,gd V W p k->gd V W' p k:=λp=>bP (λh=>h) y.nw
 have hP:∀ k,(W.nw k\/V.prot k)->(W'.nw k\/V.prot k):=λk M=>M.imp (y.nw k) id
 have hR:∀ {p:Bool} {a:Ty} {x:a.den} {off:Nat} {v:Value},RpOk V W w p a x off v->RpOk V W' w' p a x off v:=by
  rintro p a x off v ⟨g,o,c,hv,Y,hr,hc⟩;exact⟨g,o,c,hv,hP g Y,Rd.carry (hG p) (y.gdheap J p) hr,hc.same (y.heap g Y)⟩
 have a4:∀ {p:Bool} {a:Ty} {x:a.den} {v:Value},rM V W w p a x v->rM V W' w' p a x v:=by
  rintro p a x v ⟨b,ob,g,o,c,hv,I,Z,Y,hr,hc⟩;exact⟨b,ob,g,o,c,hv,hP b I,by rw[kj (y.heap b I)];exact Z,hP g Y,Rd.carry (hG p) (y.gdheap J p) hr,hc.same (y.heap g Y)⟩
 cases l with
 |int k n=>exact h
 |bool b=>exact h
 |str s=>exact h
 |nil=>exact h
 |hdr n=>exact h
 |ro p E e xs=>exact Rd.carry (hG p) (y.gdheap J p) h
 |own p hh E e xs =>
  obtain⟨rfl,I⟩:=a0 trivial;exact OwH.carry h (hG p) (y.gdheap J p) I
 |nal p ks ep a6 E e xs =>
  obtain⟨z,H,O⟩:=h;refine⟨BE z (y.ver EPO).1,λk M=>BE (H k M) (y.ver k.1).1,λhe M ho=>?_⟩;obtain⟨e1,e2⟩:=wa y z H he M;have h5:=y.places ho e1 e2 he M;have R:=O e1 e2 (λk X=>(h5 k X).1);refine⟨Rd.carry ?_ ?_ R.rd,λi sz off hl=>?_⟩
  ·grind
  ·rintro b (I|⟨k,X,I⟩)
   ·exact y.gdheap J p b I
   ·grind
  ·obtain⟨r,j,n,rfl,g,a3,a2,h6,h7,h8,h9⟩:=R.at_ i sz off hl;have X:(r,j,n)∈[(r,j,n)]:=Bo ..;have a5:(st' r).ver=(st r).ver:=(M _ X).trans (e2 _ X).symm;refine⟨r,j,n,rfl,g,a3,a2,by rw[(y.ver r).2 a5];exact h6,h7,by rw[(h5 _ X).2.1];exact h8,?_⟩;rw[kj ((h5 _ X).2.2 g h8)];exact h9
 |np p ks ep a x off =>
  obtain⟨z,H,O⟩:=h;refine⟨BE z (y.ver EPO).1,λk M=>BE (H k M) (y.ver k.1).1,λhe M ho=>?_⟩;obtain⟨e1,e2⟩:=wa y z H he M;have h5:=y.places ho e1 e2 he M;have R:=O e1 e2 (λk X=>(h5 k X).1);have hS:∀ b,(gd V W p b\/∃ k∈ks,b∈W.bs k.1 k.2.1)->(gd V W' p b\/∃ k∈ks,b∈W'.bs k.1 k.2.1):=by
   grind
  have hW:∀ b,(gd V W p b\/∃ k∈ks,b∈W.bs k.1 k.2.1)->w'.heap[b]?=w.heap[b]?:=by
   rintro b (I|⟨k,X,I⟩)
   ·exact y.gdheap J p b I
   ·grind
  obtain⟨g,o,c,hv,Y,hr,hc⟩:=R.rd;exact⟨g,o,c,hv,hS g Y,Rd.carry hS hW hr,hc.same (hW g Y)⟩
 |al r j n =>
  obtain⟨z,H⟩:=h;obtain⟨O,R⟩:=y.ver r;refine⟨BE z O,λhv=>?_⟩
  grind
 |ep r j n i sz off =>
  obtain⟨z,H⟩:=h;obtain⟨O,R⟩:=y.ver r;refine⟨BE z O,λhv=>?_⟩
  grind
 |rp p a x off=>exact hR h
 |rpp p a x=>exact a4 h
 |clr f a1 =>
  obtain⟨us,z,H,O⟩:=h;refine⟨us,z,H,λi c u hc hu=>?_⟩;have R:=O i c u hc hu;unfold iq at R ⊢
  grind
 |bp b off =>
  obtain⟨z,H,O⟩:=h;obtain⟨R,h5⟩:=y.box b ⟨z,H⟩;exact⟨z,R.2,by rw[h5];exact O⟩
 |clo f a1 =>
  obtain⟨z,H⟩:=h;refine⟨?_,λb I=>(y.box b (H b I)).1⟩;rw[z];congr 2;refine List.map_congr_left λb I=>?_
  rw[(y.box b (H b I)).2]
 |fn As B φ=>exact h
 |dead=>trivial
def aC (P:Program)(V:Env)(W:Wit)(st:St)(w:World):List Leaf->List Value->Prop
 |[],[]=>True
 |l::r,v::u=>(aI P V W st w [] l v/\¬ am l/\v.oneCell'=true)/\aC P V W st w r u
 |_,_=>False
theorem aC.length:∀ {ls:List Leaf} {cs:List Value},aC P V W st w ls cs->ls.length=cs.length
 |[],[],_=>rfl
 |_::_,_::_,h=>by simp[aC.length h.2]
theorem aC.at_:∀ {ls:List Leaf} {cs:List Value},aC P V W st w ls cs->∀ (j:Nat) (l:Leaf) (v:Value),ls[j]?=some l->cs[j]?=some v->aI P V W st w [] l v/\¬ am l/\v.oneCell'=true
 |_::_,_::_,h,0,l,v,u,r=>by
  simp at u r;subst u;subst r;exact h.1
 |_::_,_::_,h,j+1,l,v,u,r=>aC.at_ h.2 j l v (by simpa using u) (by simpa using r)
theorem aC.one':∀ {ls:List Leaf} {cs:List Value},aC P V W st w ls cs->∀ v∈cs,v.oneCell'=true
 |[],[],_,_,r=>by simp at r
 |_::_,_::_,h,v,r=>by
  rcases Bm.1 r with rfl|r
  ·exact h.1.2.2
  ·exact aC.one' h.2 v r
theorem aC.mk:∀ {ls:List Leaf} {cs:List Value},ls.length=cs.length->(∀ (j:Nat) (l:Leaf) (v:Value),ls[j]?=some l->cs[j]?=some v->aI P V W st w [] l v/\¬ am l/\v.oneCell'=true)->aC P V W st w ls cs
 |[],[],_,_=>trivial
 |_::_,_::_,h,H=>⟨H 0 _ _ rfl rfl,aC.mk (by simpa using h) λj l v u r=>H (j+1) l v (by simpa using u) (by simpa using r)⟩
theorem aC.drop {ls:List Leaf}{cs:List Value}(h:aC P V W st w ls cs)(n:Nat):aC P V W st w (ls.drop n) (cs.drop n) :=
 aC.mk (by simp[h.length]) λj l v u r=>h.at_ (n+j) l v (by simpa using u) (by simpa using r)
theorem aC.take {ls:List Leaf}{cs:List Value}(h:aC P V W st w ls cs)(n:Nat):aC P V W st w (ls.take n) (cs.take n) :=
 aC.mk (by simp[h.length]) λj l v y u=>by
  rw[BI]at y u;split at y
  ·rename_i r;rw[if_pos r]at u;exact h.at_ j l v y u
  ·grind
theorem aC.append {y z:List Leaf}{r H:List Value}(u:aC P V W st w y r)(J:aC P V W st w z H):aC P V W st w (y++z) (r++H):=by
 induction y generalizing r with
 |nil =>
  cases r with
  |nil=>simpa using J
  |cons=>simp[aC]at u
 |cons l M I =>
  cases r with
  |nil=>simp[aC]at u
  |cons v O=>exact⟨u.1,I u.2⟩
theorem aC.carry (r:∀ k,V.ro0 k->V.prot k)(u:cl V W W' st st' w w'):∀ {ls:List Leaf} {cs:List Value},aC P V W st w ls cs->aC P V W' st' w' ls cs
 |[],[],_=>trivial
 |_::_,_::_,h=>⟨⟨h.1.1.carry r u (λy=>absurd y h.1.2.1),h.1.2⟩,aC.carry r u h.2⟩
theorem eE {G:Nat->Prop}{p:Bool}(y:∀ k,G k->gd V W p k):∀ {a:Ty} {x:a.den} {cs:List Value},Rd w G a x cs->aC P V W st w (cr p a x) cs
 |.int _,_,_,h=>by rw[show _=_ from h];exact⟨⟨rfl,id,rfl⟩,trivial⟩
 |.bool,_,_,h=>by rw[show _=_ from h];exact⟨⟨rfl,id,rfl⟩,trivial⟩
 |.str,_,_,h=>by rw[show _=_ from h];exact⟨⟨rfl,id,rfl⟩,trivial⟩
 |.unit,_,_,h=>by rw[show _=_ from h];trivial
 |.hdr,_,_,⟨A,r,e⟩=>by rw[e];exact⟨⟨⟨A,r,rfl⟩,id,rfl⟩,trivial⟩
 |.pair _ _,_,_,⟨J,M,e,H,u⟩=>by rw[e];exact (eE y H).append (eE y u)
 |.list m E e,I,_,h=>by
  obtain⟨A,r,rfl,u,z⟩:=h;exact⟨⟨Rd.mono y (⟨A,r,rfl,u,z⟩:Rd w _ (.list false E e) I _),id,rfl⟩,trivial⟩
theorem gw (p:Bool):∀ (a:Ty) (x:a.den),(cr p a x).length=a.cells
 |.int _,_=>rfl
 |.bool,_=>rfl
 |.str,_=>rfl
 |.unit,_=>rfl
 |.hdr,_=>rfl
 |.pair a b,x=>by simp[cr,Ty.cells,gw p a,gw p b]
 |.list _ _ _,_=>rfl
theorem cq (p:Bool):∀ (a:Ty) (x:a.den),(aq p a x).length=a.cells
 |.int _,_=>rfl
 |.bool,_=>rfl
 |.str,_=>rfl
 |.unit,_=>rfl
 |.hdr,_=>rfl
 |.pair a b,x=>by simp[aq,Ty.cells,cq p a,cq p b]
 |.list _ _ _,_=>rfl
theorem ir (t n:Nat):∀ (j:Nat) (ls:List Leaf),(bz t n j ls).length=ls.length
 |_,[]=>rfl
 |j,_::ls=>by simp[bz,ir t n (j+1) ls]
theorem nI (t n:Nat):∀ (j:Nat) (ls:List Leaf) (i:Nat) (l:Leaf),ls[i]?=some l->(bz t n j ls)[i]?=some (ly t (j+i) n l)
 |j,r::ls,0,l,h=>by
  simp at h;subst h;simp[bz]
 |j,r::ls,i+1,l,h=>by
  have:=nI t n (j+1) ls i l (by simpa using h);simp only[bz]
  grind
theorem ia {a:Act}(h:an P V W st a w)(r:Nat):aC P V W st w (bz r (st r).ver 0 (st r).ls) (W.cs r):=by
 refine aC.mk (by rw[ir,h.len]) λj l v u y=>?_
 have M:j<(st r).ls.length:=by
  have:=(AV.1 u).1;simpa[ir]using this
 have z:(st r).ls[j]?=some (st r).ls[j]:=AX M;have J:=nI r (st r).ver 0 (st r).ls j _ z;rw[J]at u;have H:=h.leaf r j _ v z y;have I:=h.one r v (List.mem_of_getElem? y);simp at u;subst u;generalize R:(st r).ls[j]=q at H;cases q with
 |own p O E e X=>exact⟨⟨BB _,λ_=>by simpa using y⟩,id,I⟩
 |_=>exact⟨H,id,I⟩
theorem sa {v:Value}{l:Leaf}(h:hM v=some l):aI P V W st w [] l v/\¬ am l/\v.oneCell'=true:=by
 unfold hM at h;split at h <;> simp at h <;> subst h <;> exact⟨rfl,id,rfl⟩
theorem cC {a:Act}(h:an P V W st a w)(x:Operand) :
  ∃ r,dP (ar st x).1 (a.eval x) r/\aC P V W st w (ar st x).2 r:=by
 cases x with
 |tmp t =>
  simp only[ar];cases z:BU t GH with
  |false=>exact⟨[],rfl,trivial⟩
  |true=>exact⟨W.cs t,h.slots t (by simpa using z),ia h t⟩
 |const v =>
  simp only[ar];cases y:hM v with
  |none=>exact⟨[],rfl,trivial⟩
  |some l=>exact⟨[v],rfl,⟨sa y,trivial⟩⟩
 |func f=>exact⟨[.func (.func f) #[] #[]],rfl,⟨⟨⟨rfl,λb u=>by simp at u⟩,id,rfl⟩,trivial⟩⟩
 |global g=>exact⟨[],rfl,trivial⟩
theorem bk {a:Act}(h:an P V W st a w)(x:Operand)(y:one st x≠.dead) :
  aI P V W st w [] (one st x) (a.eval x)/\¬ am (one st x)/\(a.eval x).oneCell'=true/\(ar st x).1=.one/\(ar st x).2=[one st x]:=by
 obtain⟨I,z,r⟩:=cC h x;unfold one at y ⊢;split at y
 ·rename_i l H;simp only[H]at z r ⊢;have u:I=[a.eval x]:=z;subst u;exact⟨r.1.1,r.1.2.1,r.1.2.2,by simp,by simp⟩
 ·grind
theorem eL {r j n:Nat}{l:Leaf}(u:aD st (.al r j n)=l)(y:l≠.dead):(st r).ver=n/\(st r).ls[j]?=some l:=by
 simp only[aD]at u;cases z:AT (st r).ver n with
 |false=>simp only[z]at u;exact absurd u.symm y
 |true =>
  simp only[z,cond_true]at u;refine⟨AU z,?_⟩;rw[BL]at u;cases H:(st r).ls[j]? with
  |none=>simp only[H]at u;exact absurd u.symm y
  |some I =>
   simp only[H,Option.getD_some]at u;cases I with
   |nal=>simp only[oV]at u;exact absurd u.symm y
   |_=>simp only[oV]at u;rw[u]
theorem is {r j n:Nat}{p:Bool}{ks:List (Nat×Nat×Nat)}{ep:Nat}{u:Option (Nat×Nat×Nat)}{E:TypeId}{e:Ty}{xs:List e.den}:aD st (.al r j n)≠.nal p ks ep u E e xs:=by
 simp only[aD];cases AT (st r).ver n with
 |false=>simp
 |true =>
  cases (st r).ls.getD j .dead <;> simp[oV]
theorem jQ {a:Act}(h:an P V W st a w){r j n:Nat}{p:Bool}{u:Option (Nat×Nat)}{E:TypeId}{e:Ty}{xs:List e.den}{v:Value}(I:aD st (.al r j n)=.own p u E e xs)
  (J:aI P V W st w [] (.al r j n) v):(W.cs r)[j]?=some v/\OwH w (gd V W p) u E e xs v (W.bs r j)/\(st r).ls[j]?=some (.own p u E e xs)/\(st r).ver=n:=by
 obtain⟨H,z⟩:=eL I (by simp);have y:=J.2 H;exact⟨y,h.leaf r j _ v z y,z,H⟩
theorem uT {ls:List Leaf}{j:Nat}(h:k6 (ls.getD j .dead)=true):∃ l,ls[j]?=some l/\am l:=by
 rw[BL]at h;cases r:ls[j]? with
 |none=>rw[r]at h;simp[k6]at h
 |some l =>
  rw[r]at h;refine⟨l,rfl,?_⟩;cases l <;> simp[k6]at h;trivial
theorem ci {ks:List (Nat×Nat×Nat)}{ep:Nat}(h:bj st ks ep=true):(st EPO).ver=ep/\(∀ k∈ks,(st k.1).ver=k.2.2)/\rN st ks:=by
 simp only[bj,AW,List.all_eq_true]at h;exact⟨AU h.1,λk r=>AU (h.2 k r).1,λk r=>uT (h.2 k r).2⟩
theorem o8 {p:Bool}{ks:List (Nat×Nat×Nat)}{ep:Nat}{r:Option (Nat×Nat×Nat)}{E:TypeId}{e:Ty}{xs:List e.den}{v:Value}(u:bj st ks ep=true)
 (y:aI P V W st w [] (.nal p ks ep r E e xs) v):rO V W w p ks r E e xs v:=y.2.2 (ci u).1 (ci u).2.1 (ci u).2.2
def bi (V:Env)(W:Wit)(p:Bool)(ks:List (Nat×Nat))(k:Nat):Prop:=gd V W p k\/∃ x∈ks,k∈W.bs x.1 x.2
theorem jo {E:TypeId}{e:Ty}{E':TypeId}{e':Ty}{xs:List e'.den}{r:List e.den}(h:lz E e E' e' xs=some r) :
  ∃ (y:E'=E) (u:e'=e),u ▸ xs=r:=by
 unfold lz at h
 grind
theorem tK {e e':Ty}{xs:List e'.den}{r:List e.den}(h:castSh e e' xs=some r):e'.sh=e.sh/\HEq xs r:=by
 unfold castSh at h
 grind
theorem Rd.castSh {G:Nat->Prop}{m m':Bool}{E E':TypeId}{e e':Ty}{xs:List e'.den}{H:List e.den}{cs:List Value}(h:castSh e e' xs=some H)(O:Rd w G (.list m E' e') xs cs):Rd w G (.list m' E e) H cs:=by
 obtain⟨M,I⟩:=tK h;have J:Rd w G (.list m E e) H cs:=by
  refine Rd.flags (a:=.list m E e') (x:=xs) (by simp only[Ty.sh,M]) I ?_;obtain⟨A,r,z,y,u⟩:=O;exact⟨A,r,z,y,u⟩
 obtain⟨A,r,z,y,u⟩:=J;exact⟨A,r,z,y,u⟩
theorem jR (st:St):∀ (u r:List Leaf),bq st (u++r)=bq st u++bq st r
 |[],_=>rfl
 |l::u,r=>by
  have:=jR st u r;cases l <;> simp[bq,this]
theorem sb (st:St):∀ (u r:List Leaf),bU st (u++r)=bU st u++bU st r
 |[],_=>rfl
 |l::u,r=>by
  have:=sb st u r;cases l <;> simp[bU,this]
theorem kk {a:Act}(h:an P V W st a w){m:Bool}{E:TypeId}{e:Ty}{l:Leaf}{v:Value}{p:Bool}{xs:List e.den}
  (hl:aI P V W st w [] l v) (a1:¬ am l) (u:cV e (aD st l)=some (p,xs)):Rd w (bi V W p (bq st [l])) (.list m E e) xs [v]:=by
 have I:∀ (q:Leaf) (bs:List Nat) (S:Nat->Prop),aI P V W st w bs q v->cV e q=some (p,xs)->(∀ k,gd V W p k->S k)->(am q->∀ k∈bs,S k) ->
   (∀ q' J ep z E' H X,q=.nal q' J ep z E' H X->bj st J ep=true/\∀ k∈J,∀ b∈W.bs k.1 k.2.1,S b)->Rd w S (.list m E e) xs [v]:=by
  intro q bs S O u hS hb hn;cases q with
  |ro q E' H Y =>
   simp only[cV,BH]at u;obtain⟨zs,Z,rfl,rfl⟩:=u;exact Rd.castSh Z (Rd.mono hS O)
  |nil =>
   obtain⟨rfl,rfl⟩:=u;rw[show v=_ from O];exact Rd.nil w _ m E e
  |own q hh E' H Y =>
   cases hh with
   |some _=>simp[cV]at u
   |none =>
    simp only[cV,BH]at u;obtain⟨zs,Z,rfl,rfl⟩:=u;refine Rd.castSh Z (Rd.mono (λk y=>?_) (OwH.rd (m:=false) (E':=E') O));exact y.elim (hS k) (hb trivial k)
  |nal q J ep z E' H Y =>
   simp only[cV,BH,B3]at u;obtain⟨zs,Z,rfl,rfl⟩:=u;obtain⟨R,hn⟩:=hn _ _ _ _ _ _ _ rfl;have h1:rO V W w q J z E' H Y v:=O.2.2 (ci R).1 (ci R).2.1 (ci R).2.2;refine Rd.castSh Z (Rd.mono (λk y=>?_) h1.rd);rcases y with y|⟨x,hx,y⟩
   ·grind
   ·grind
  |_=>simp[cV]at u
 cases l with
 |al r j n =>
  by_cases hd:aD st (.al r j n)=.dead
  ·rw[hd]at u;simp[cV]at u
  ·obtain⟨h1,h2⟩:=eL rfl hd;have h3:=h.leaf r j _ v h2 (hl.2 h1);generalize O:aD st (.al r j n)=q at u h2 h3;refine I q (W.bs r j) _ h3 u (λk y=>.inl y) (λM k y=>.inr ⟨(r,j),?_,y⟩) ?_
   ·cases q <;> first|exact M.elim|simp[bq,O]
   ·rintro q' J ep z E' H X rfl;exact absurd O is
 |own q hh E' H Y=>exact absurd trivial a1
 |nal q J ep z E' H Y =>
  simp only[aD]at u;cases R:bj st J ep with
  |false=>simp[R,cV]at u
  |true =>
   simp only[R]at u;refine I _ [] _ hl u (λk y=>.inl y) (λM=>M.elim) ?_;intro q' a6 a4 a2 a3 a5 X a0;cases a0;refine⟨R,λk y b hb=>.inr ⟨(k.1,k.2.1),?_,hb⟩⟩;simp only[bq,aD]
   grind
 |ro q E' H Y=>exact I _ [] _ hl u (λk y=>.inl y) (λM=>M.elim) (λ_ _ _ _ _ _ _ h=>by cases h)
 |nil=>exact I _ [] _ hl u (λk y=>.inl y) (λM=>M.elim) (λ_ _ _ _ _ _ _ h=>by cases h)
 |_=>simp[aD,cV]at u
theorem wb {a:Act}(h:an P V W st a w){l:Leaf}{v:Value}{n:Nat}(X:aI P V W st w [] l v)(Y:¬ am l)(u:fN (aD st l)=some n):Rd w (λ_=>False) .hdr n [v]:=by
 have H:∀ (q:Leaf) (bs:List Nat),aI P V W st w bs q v->fN q=some n->(∀ p J ep z E e O,q=.nal p J ep z E e O->bj st J ep=true)->Rd w (λ_=>False) .hdr n [v]:=by
  intro q bs I u hn;cases q with
  |ro p E e O =>
   simp only[fN,BA]at u;subst u;obtain⟨A,y,M,_⟩:=I;exact⟨A,y,M⟩
  |own p hh E e O =>
   simp only[fN,BA]at u;subst u;obtain⟨A,y,M,_⟩:=OwH.slice I;exact⟨A,y,by rw[M]⟩
  |nal p J ep z E e O =>
   simp only[fN,BA]at u;subst u;have R:=hn _ _ _ _ _ _ _ rfl;obtain⟨A,y,M,_⟩:=(I.2.2 (ci R).1 (ci R).2.1 (ci R).2.2:rO V W w p J z E e O v).rd;exact⟨A,y,M⟩
  |nil =>
   simp only[fN,BA]at u;subst u;exact⟨none,0,by rw[show v=_ from I]⟩
  |hdr m =>
   simp only[fN,BA]at u;subst u;obtain⟨A,y,M⟩:=I;exact⟨A,y,by rw[M]⟩
  |_=>simp[fN]at u
 cases l with
 |al r j m =>
  by_cases hd:aD st (.al r j m)=.dead
  ·rw[hd]at u;simp[fN]at u
  ·obtain⟨h1,h2⟩:=eL rfl hd;have h3:=h.leaf r j _ v h2 (X.2 h1);refine H _ _ h3 u λp J ep z E e O I=>absurd I is
 |own q hh E' Z ys=>exact absurd trivial Y
 |nal q J ep z E' Z ys =>
  simp only[aD]at u;cases R:bj st J ep with
  |false=>simp[R,fN]at u
  |true =>
   grind
 |ro q E' Z ys=>exact H _ [] X u (λ_ _ _ _ _ _ _ h=>by cases h)
 |nil=>exact H _ [] X u (λ_ _ _ _ _ _ _ h=>by cases h)
 |hdr m=>exact H _ [] X u (λ_ _ _ _ _ _ _ h=>by cases h)
 |_=>simp[aD,fN]at u
theorem kl {a:Act}(h:an P V W st a w):∀ (b:Ty) (ls:List Leaf) (cs:List Value) (p:Bool) (x:b.den) (r:List Leaf),aC P V W st w ls cs ->
  aX st b ls=some (p,x,r)->∃ M R O,cs=M++R/\ls=O++r/\aC P V W st w O M/\aC P V W st w r R/\Rd w (bi V W p (bq st O)) b x M
 |.int k,ls,cs,p,x,r,H,u=>by
  simp only[aX]at u;split at u
  ·rename_i k' n ls;split at u
   ·rename_i I;obtain⟨rfl,rfl,rfl⟩:=u;cases cs with
    |nil=>exact H.elim
    |cons v cs=>exact⟨[v],cs,[_],rfl,rfl,⟨H.1,trivial⟩,H.2,by rw[show v=_ from H.1.1,I];rfl⟩
   ·grind
  ·grind
 |.bool,ls,cs,p,x,r,H,u=>by
  simp only[aX]at u;split at u
  ·simp at u;obtain⟨rfl,rfl,rfl⟩:=u;cases cs with
   |nil=>exact H.elim
   |cons v cs=>exact⟨[v],cs,[_],rfl,rfl,⟨H.1,trivial⟩,H.2,by rw[show v=_ from H.1.1];rfl⟩
  ·grind
 |.str,ls,cs,p,x,r,H,u=>by
  simp only[aX]at u;split at u
  ·simp at u;obtain⟨rfl,rfl,rfl⟩:=u;cases cs with
   |nil=>exact H.elim
   |cons v cs=>exact⟨[v],cs,[_],rfl,rfl,⟨H.1,trivial⟩,H.2,by rw[show v=_ from H.1.1];rfl⟩
  ·grind
 |.unit,ls,cs,p,x,r,H,u=>by
  obtain⟨rfl,_,rfl⟩:=u;exact⟨[],cs,[],rfl,rfl,trivial,H,rfl⟩
 |.hdr,ls,cs,p,x,r,H,u=>by
  simp only[aX]at u;split at u
  ·rename_i l J;split at u
   ·rename_i n hn;obtain⟨rfl,rfl,rfl⟩:=u;cases cs with
    |nil=>exact H.elim
    |cons v cs=>exact⟨[v],cs,[l],rfl,rfl,⟨H.1,trivial⟩,H.2,wb h H.1.1 H.1.2.1 hn⟩
   ·grind
  ·grind
 |.pair b c,ls,cs,p,x,r,H,u=>by
  simp only[aX]at u;split at u
  ·rename_i q y J hb;split at u
   ·rename_i q' z X hc;simp at u;obtain⟨rfl,rfl,rfl⟩:=u;obtain⟨M,R,O,e1,e2,h1,h2,h3⟩:=kl h b ls cs q y J H hb;obtain⟨Z,c4,l2,e3,e4,h4,h5,h6⟩:=kl h c J R q' z X h2 hc;refine⟨M++Z,c4,O++l2,by rw[e1,e3,BS],by rw[e2,e4,BS],h1.append h4,h5,M,Z,rfl,?_,?_⟩
    ·refine Rd.mono (λk I=>?_) h3;rcases I with I|⟨y,Y,I⟩
     ·exact .inl (bP (by simp_all) (λ_ h=>h) k I)
     ·exact .inr ⟨y,by rw[jR];exact AZ _ Y,I⟩
    ·refine Rd.mono (λk I=>?_) h6;rcases I with I|⟨y,Y,I⟩
     ·exact .inl (bP (by simp_all) (λ_ h=>h) k I)
     ·exact .inr ⟨y,by rw[jR];exact AY _ Y,I⟩
   ·grind
  ·grind
 |.list m E e,ls,cs,p,x,r,H,u=>by
  simp only[aX]at u;split at u
  ·rename_i l J;split at u
   ·rename_i q ys ha;obtain⟨rfl,rfl,rfl⟩:=u;cases cs with
    |nil=>exact H.elim
    |cons v cs=>exact⟨[v],cs,[l],rfl,rfl,⟨H.1,trivial⟩,H.2,kk h H.1.1 H.1.2.1 ha⟩
   ·grind
  ·grind
theorem ea {a:Act}(h:an P V W st a w){b:Ty}{ls:List Leaf}{cs:List Value}{p:Bool}{x:b.den}(I:aC P V W st w ls cs)
  (r:cA st b ls=some (p,x)):Rd w (bi V W p (bq st ls)) b x cs:=by
 unfold cA at r;split at r
 ·rename_i q y H;obtain⟨R,u,O,Y,X,M,z,J⟩:=kl h b ls cs _ _ _ I H;have:u=[]:=by
   cases u with
   |nil=>rfl
   |cons=>exact z.elim
  simp_all
 ·grind
end
section
variable {P:Program} {V:Env} {W W':Wit} {st st':St} {w w':World} {a:Act}
theorem br (A B:Upd)(st:St):ac (A++B) st=ac A (ac B st):=by
 funext q;induction A with
 |nil=>rfl
 |cons x A u=>obtain⟨r,c⟩:=x;simp only[Bw,ac,u]
theorem aN (r:Nat)(c:bL)(U:Upd)(st:St):ac ((r,c)::U) st=ac [(r,c)] (ac U st):=br [(r,c)] U st
theorem bg (r:Nat)(c:bL)(st:St):ac [(r,c)] st r=c:=by simp[ac]
theorem aH {r q:Nat}(h:q≠r)(c:bL)(st:St):ac [(r,c)] st q=st q:=by
 have:AT q r=false:=by
  cases u:AT q r with
  |false=>rfl
  |true=>exact absurd (AU u) h
 simp[ac,this]
theorem aj (r q:Nat)(c:bL)(st:St):(q=r/\ac [(r,c)] st q=c)\/(q≠r/\ac [(r,c)] st q=st q):=by
 by_cases h:q=r
 ·subst h;exact .inl ⟨rfl,bg q c st⟩
 ·exact .inr ⟨h,aH h c st⟩
def bX (V:Env)(W:Wit)(st:St)(k:Nat):Prop :=
 W.nw k\/V.prot k\/(∃ b,live st b/\W.β b=k)\/∃ r j l,(st r).ls[j]?=some l/\am l/\k∈W.bs r j
theorem an.own_lt (h:an P V W st a w){r j:Nat}{l:Leaf}(u:(st r).ls[j]?=some l)(y:am l):∀ k∈W.bs r j,k<w.heap.size:=by
 have z:j<(W.cs r).length:=by rw[<- h.len];exact (AV.1 u).1
 have:=h.leaf r j l _ u (AX z);cases l <;> simp only[am]at y;exact OwH.lt this
theorem an.box_lt (h:an P V W st a w){b:Nat}(r:live st b):W.β b<w.heap.size:=by
 rcases h.boxes b r.1 with ⟨u,_⟩|⟨_,E,y⟩
 ·exact absurd (u.symm.trans r.2) (by simp)
 ·grind
theorem an.used_lt (h:an P V W st a w):∀ k,bX V W st k->k<w.heap.size:=by
 intro k u;rcases u with u|u|⟨b,H,rfl⟩|⟨r,j,l,I,z,y⟩
 ·exact (h.nwlt k u).1
 ·exact BP u.1 h.size
 ·exact h.box_lt H
 ·exact h.own_lt I z k y
theorem an.world (Y:ax V)(h:an P V W st a w)(R:w.heap.size<=w'.heap.size)(M:w'.os=w.os)(Z:w'.tape=w.tape)(O:w'.output=w.output)
  (y:∀ k,bX V W st k->w'.heap[k]?=w.heap[k]?):an P V W st a w':=by
 have z:cl V W W st st w w':=⟨λr=>⟨BB _,λ_=>rfl⟩,λb J=>⟨J,rfl⟩,λ_ h=>h,λk h=>y k (h.elim .inl (λh=>.inr (.inl h))),
  λ_ r j l u I _=>⟨⟨l,u,I⟩,rfl,λk H=>y k (.inr (.inr (.inr ⟨r,j,l,u,I,H⟩)))⟩⟩
 exact {
  nt:=h.nt,df:=h.df,slots:=h.slots,
  boxes:=λb J=>(h.boxes b J).imp id λ⟨u,E,I⟩=>⟨u,E,by rw[y _ (.inr (.inr (.inl ⟨b,⟨J,u⟩,rfl⟩)))];exact I⟩
  len:=h.len,one:=h.one,
  leaf:=λr j l v u I=>(h.leaf r j l v u I).carry Y.ro z (λO=>⟨rfl,λk H=>y k (.inr (.inr (.inr ⟨r,j,l,u,O,H⟩)))⟩)
  ownb:=h.ownb,sep:=h.sep,box:=h.box,inj:=h.inj,
  nwlt:=λk y=>⟨BP (h.nwlt k y).1 R,(h.nwlt k y).2⟩
  os:=M.trans h.os,tape:=Z.trans h.tape,output:=O.trans h.output,size:=BE h.size R,
  keep:=λk X=>(y k (.inr (.inl X))).trans (h.keep k X)
  fixb:=h.fixb,fixt:=h.fixt }
theorem an.below (y:ax V)(h:an P V W st a w)(r:Below w.heap.size w w'):an P V W st a w' :=
 h.world y r.size r.os r.tape r.output λk u=>r.block k (h.used_lt k u)
theorem an.relabel (hV:ax V)(h:an P V W st a w)(r:Nat)(c:bL)(nw':Nat->Prop)(a2:(st r).ver<=c.ver)(R:c.sh=(st r).sh)
    (Y:c.ls.length=(st r).ls.length) (a1:∀ k,W.nw k->nw' k) (O:∀ k,nw' k->k<w.heap.size/\¬ V.prot k)
    (Z:∀ (j:Nat) (l:Leaf) (v:Value),c.ls[j]?=some l->(W.cs r)[j]?=some v->aI P V { W with nw:=nw' } (ac [(r,c)] st) w (W.bs r j) l v)
    (a3:∀ (j:Nat) (l:Leaf),c.ls[j]?=some l->am l->(st r).ls[j]?=some l)
    (J:∀ (q j:Nat) (l:Leaf),(ac [(r,c)] st q).ls[j]?=some l->am l->∀ k∈W.bs q j,¬ nw' k)
    (I:∀ b,live st b->¬ nw' (W.β b)):an P V { W with nw:=nw' } (ac [(r,c)] st) a w:=by
  have X:∀ b,live (ac [(r,c)] st) b<->live st b:=by
    intro b;rcases aj r b c st with ⟨rfl,e⟩|⟨_,e⟩
    · simp[live,e,R]
    · simp[live,e]
  have u:∀ (q j:Nat) (l:Leaf),(ac [(r,c)] st q).ls[j]?=some l->am l->(st q).ls[j]?=some l:=by
    intro q j l z y;rcases aj r q c st with ⟨rfl,e⟩|⟨_,e⟩
    · grind
    · grind
  have M:cl V W { W with nw:=nw' } st (ac [(r,c)] st) w w :=
    ⟨λq=>by
      rcases aj r q c st with ⟨rfl,e⟩|⟨_,e⟩
      · grind
      · rw[e];exact⟨BB _,λ_=>rfl⟩,
     λb H=>⟨(X b).2 H,rfl⟩,a1,λ_ _=>rfl,λ_ q j l z y h3=>⟨⟨l,u q j l z y,y⟩,rfl,λ_ _=>rfl⟩⟩
  exact {
    nt:=h.nt,df:=h.df,
    slots:=λt ht=>by
      rcases aj r t c st with ⟨rfl,e⟩|⟨_,e⟩
      · rw[e,R];exact h.slots t ht
      · rw[e];exact h.slots t ht
    boxes:=λb H=>by
      rcases aj r b c st with ⟨rfl,e⟩|⟨_,e⟩
      · rw[e,R]
        rcases h.boxes b H with ⟨z,y⟩|z
        · grind
        · grind
      · rw[e];exact h.boxes b H
    len:=λq=>by
      rcases aj r q c st with ⟨rfl,e⟩|⟨_,e⟩
      · rw[e,Y];exact h.len q
      · rw[e];exact h.len q
    one:=h.one
    leaf:=λq j l v z y=>by
      rcases aj r q c st with ⟨rfl,e⟩|⟨_,e⟩
      · grind
      · rw[e]at z
        exact (h.leaf q j l v z y).carry hV.ro M (λ_=>⟨rfl,λ_ _=>rfl⟩)
    ownb:=λq j l z y k hk=>⟨J q j l z y k hk,(h.ownb q j l (u q j l z y) y k hk).2.1,λb H=>(h.ownb q j l (u q j l z y) y k hk).2.2 b ((X b).1 H)⟩
    sep:=λq j l q' j' l' z y h3 h4=>h.sep q j l q' j' l' (u q j l z y) y (u q' j' l' h3 h4) h4
    box:=λb H=>⟨I b ((X b).1 H),(h.box b ((X b).1 H)).2⟩
    inj:=λb b' H a0=>h.inj b b' ((X b).1 H) ((X b').1 a0)
    nwlt:=O
    os:=h.os,tape:=h.tape,output:=h.output,size:=h.size,keep:=h.keep,
    fixb:=λx hx=>⟨(X _).2 (h.fixb x hx).1,(h.fixb x hx).2⟩,fixt:=h.fixt }
theorem aO {α:Type}(ls:List α)(j i:Nat)(x y:α)(h:(ls.set j x)[i]?=some y):(i=j/\y=x/\j<ls.length)\/(i≠j/\ls[i]?=some y):=by
 grind
theorem an.kill1 (J:ax V)(h:an P V W st a w)(r j:Nat):an P V W (ac [(r,fO (st r) j)] st) a w:=by
 refine h.relabel J r _ W.nw (BB _) rfl (by simp[fO,aP]) (λ_ h=>h) h.nwlt ?_ ?_ ?_ λb z=>(h.box b z).1
 ·intro i l v u y;rcases aO _ _ _ _ _ u with ⟨_,rfl,_⟩|⟨H,u⟩
  ·trivial
  ·refine (h.leaf r i l v u y).carry J.ro ⟨λq=>?_,λb z=>?_,λ_ h=>h,λ_ _=>rfl,λ_ q X Y I M R=>?_⟩ (λ_=>⟨rfl,λ_ _=>rfl⟩)
   ·rcases aj r q (fO (st r) j) st with ⟨rfl,e⟩|⟨_,e⟩
    ·rw[e];exact⟨BB _,λ_=>rfl⟩
    ·grind
   ·refine⟨⟨z.1,?_⟩,rfl⟩;rcases aj r b (fO (st r) j) st with ⟨rfl,e⟩|⟨_,e⟩
    ·rw[e];exact z.2
    ·rw[e];exact z.2
   ·rcases aj r q (fO (st r) j) st with ⟨rfl,e⟩|⟨_,e⟩
    ·rw[e]at I;rcases aO _ _ _ _ _ I with ⟨_,rfl,_⟩|⟨_,I⟩
     ·exact M.elim
     ·grind
    ·grind
 ·intro i l u y;rcases aO _ _ _ _ _ u with ⟨_,rfl,_⟩|⟨H,u⟩
  ·exact y.elim
  ·omega
 ·intro q i l u y;have:(st q).ls[i]?=some l:=by
   rcases aj r q (fO (st r) j) st with ⟨rfl,e⟩|⟨_,e⟩
   ·rw[e]at u;rcases aO _ _ _ _ _ u with ⟨_,rfl,_⟩|⟨H,u⟩
    ·exact y.elim
    ·omega
   ·grind
  exact λk O=>(h.ownb q i l this y k O).1
theorem an.frz1 (hV:ax V)(h:an P V W st a w)(r j:Nat) :
  an P V { W with nw:=λk=>W.nw k\/((∃ l,(st r).ls[j]?=some l/\am l)/\k∈W.bs r j) } (ac [(r,fJ (st r) j)] st) a w:=by
 have O:∀ l,(st r).ls[j]?=some l->(st r).ls.getD j .dead=l:=λl hl=>by rw[BL,hl];rfl
 have u:∀ (i:Nat) (l:Leaf),(aP (st r).ls j (uf ((st r).ls.getD j .dead)))[i]?=some l->am l->(st r).ls[i]?=some l/\i≠j:=by
  intro i l z y;rcases aO _ _ _ _ _ z with ⟨rfl,rfl,hj⟩|⟨Z,z⟩
  ·rw[O _ (AX hj)]at y;generalize (st r).ls[i]=l at y;cases l with
   |own p hh E e xs=>cases hh <;> exact y.elim
   |_=>exact y.elim
  ·grind
 have I:cl V W { W with nw:=λk=>W.nw k\/((∃ l,(st r).ls[j]?=some l/\am l)/\k∈W.bs r j) } st (ac [(r,fJ (st r) j)] st) w w:=by
  refine⟨λq=>?_,λb Y=>?_,λ_ h=>.inl h,λ_ _=>rfl,λ_ q j' X J M h5=>?_⟩
  ·rcases aj r q (fJ (st r) j) st with ⟨rfl,e⟩|⟨_,e⟩
   ·rw[e];exact⟨BB _,λ_=>rfl⟩
   ·grind
  ·refine⟨⟨Y.1,?_⟩,rfl⟩;rcases aj r b (fJ (st r) j) st with ⟨rfl,e⟩|⟨_,e⟩
   ·rw[e];exact Y.2
   ·rw[e];exact Y.2
  ·rcases aj r q (fJ (st r) j) st with ⟨rfl,e⟩|⟨_,e⟩
   ·rw[e]at J;exact⟨⟨X,(u j' X J M).1,M⟩,rfl,λ_ _=>rfl⟩
   ·grind
 refine h.relabel hV r _ _ (BB _) rfl (by simp[fJ,aP]) (λ_ h=>.inl h) ?_ ?_ (λi l z y=>(u i l z y).1) ?_ ?_
 ·rintro k (H|⟨⟨l,z,y⟩,H⟩)
  ·exact h.nwlt k H
  ·exact⟨h.own_lt z y k H,(h.ownb r j l z y k H).2.1⟩
 ·intro i l v z y;rcases aO _ _ _ _ _ z with ⟨rfl,rfl,hj⟩|⟨Z,z⟩
  ·have J:(st r).ls[i]?=some (st r).ls[i]:=AX hj;have M:=h.leaf r i _ v J y;rw[O _ J];generalize hq:(st r).ls[i]=q at J M;cases q with
   |own p hh E e xs =>
    cases hh with
    |some _=>trivial
    |none =>
     refine Rd.mono (λk H=>?_) (OwH.rd (m:=false) (E':=E) M);rcases H with H|H
     ·exact bP (W':={ W with nw:=_ }) (λh=>h) (λ_ h=>.inl h) k H
     ·exact .inl (.inr ⟨⟨_,J,trivial⟩,H⟩)
   |_=>exact M.carry hV.ro I (λho=>ho.elim)
  ·exact (h.leaf r i l v z y).carry hV.ro I (λ_=>⟨rfl,λ_ _=>rfl⟩)
 ·intro q i l z y k H;have J:(st q).ls[i]?=some l/\(q,i)≠(r,j):=by
   rcases aj r q (fJ (st r) j) st with ⟨rfl,e⟩|⟨Z,e⟩
   ·rw[e]at z;have:=u i l z y
    simp_all
   ·grind
  rintro (R|⟨⟨X,M,h5⟩,R⟩)
  ·exact (h.ownb q i l J.1 y k H).1 R
  ·obtain⟨rfl,rfl⟩:=h.sep q i l r j X J.1 y M h5 k H R
   simp_all
 ·rintro b Y (R|⟨⟨X,M,h5⟩,R⟩)
  ·exact (h.box b Y).1 R
  ·exact (h.ownb r j X M h5 _ R).2.2 b Y rfl
theorem lG (I:ax V):∀ (ks:List (Nat×Nat)),an P V W st a w->an P V W (ac (aL st ks) st) a w /\
  (∀ (q i:Nat) (l:Leaf),(ac (aL st ks) st q).ls[i]?=some l->am l->(st q).ls[i]?=some l/\(q,i)∉ks) /\
  (∀ q,(ac (aL st ks) st q).sh=(st q).sh/\(st q).ver<=(ac (aL st ks) st q).ver)
 |[],h=>⟨h,λ_ _ _ z _=>⟨z,by simp⟩,λ_=>⟨rfl,BB _⟩⟩
 |(r,j)::ks,h=>by
  obtain⟨z,M,H⟩:=lG I ks h;have e:ac (aL st ((r,j)::ks)) st=ac [(r,fO (ac (aL st ks) st r) j)] (ac (aL st ks) st):=aN _ _ _ _;rw[e];refine⟨z.kill1 I r j,λq i l y J=>?_,λq=>?_⟩
  ·have O:(ac (aL st ks) st q).ls[i]?=some l/\(q,i)≠(r,j):=by
    rcases aj r q (fO (ac (aL st ks) st r) j) (ac (aL st ks) st) with ⟨rfl,e⟩|⟨u,e⟩
    ·rw[e]at y;rcases aO _ _ _ _ _ y with ⟨_,rfl,_⟩|⟨u,y⟩
     ·exact J.elim
     ·grind
    ·grind
   simp_all
  ·rcases aj r q (fO (ac (aL st ks) st r) j) (ac (aL st ks) st) with ⟨rfl,e⟩|⟨u,e⟩
   ·rw[e];exact⟨(H q).1,(H q).2⟩
   ·grind
def Wit.frz (W:Wit)(st:St)(ks:List (Nat×Nat)):Wit :=
 { W with nw:=λk=>W.nw k\/∃ x∈ks,(∃ l,(st x.1).ls[x.2]?=some l/\am l)/\k∈W.bs x.1 x.2 }
theorem an.nw_congr (h:an P V W st a w){nw':Nat->Prop}(e:∀ k,W.nw k<->nw' k):an P V { W with nw:=nw' } st a w:=by
 have:nw'=W.nw:=funext λk=>propext (e k).symm
 subst this;exact h
theorem lf (Y:ax V):∀ (ks:List (Nat×Nat)),an P V W st a w->an P V (W.frz st ks) (ac (aE st ks) st) a w /\
  (∀ (q i:Nat) (l:Leaf),(ac (aE st ks) st q).ls[i]?=some l->am l->(st q).ls[i]?=some l/\(q,i)∉ks) /\
  (∀ q,(ac (aE st ks) st q).sh=(st q).sh/\(st q).ver<=(ac (aE st ks) st q).ver)
 |[],h=>⟨h.nw_congr (λk=>by simp),λ_ _ _ I _=>⟨I,by simp⟩,λ_=>⟨rfl,BB _⟩⟩
 |(r,j)::ks,h=>by
  obtain⟨I,h2,X⟩:=lf Y ks h;have e:ac (aE st ((r,j)::ks)) st=ac [(r,fJ (ac (aE st ks) st r) j)] (ac (aE st ks) st):=aN _ _ _ _;rw[e];refine⟨?_,λq i l R M=>?_,λq=>?_⟩
  ·have h7:=I.frz1 Y r j;have h8:=h7.nw_congr (nw':=(W.frz st ((r,j)::ks)).nw) (λk=>?_)
   ·exact h8
   ·simp only[Wit.frz];constructor
    ·rintro ((z|⟨x,O,z⟩)|⟨⟨l,u,H⟩,z⟩)
     ·grind
     ·grind
     ·exact .inr ⟨(r,j),Bo ..,⟨l,(h2 r j l u H).1,H⟩,z⟩
    ·rintro (z|⟨x,O,⟨l,u,H⟩,z⟩)
     ·grind
     ·rcases Bm.1 O with rfl|O
      ·by_cases J:(r,j)∈ks
       ·exact .inl (.inr ⟨(r,j),J,⟨l,u,H⟩,z⟩)
       ·refine .inr ⟨⟨l,?_,H⟩,z⟩;exact im ks J u
      ·grind
  ·have h6:(ac (aE st ks) st q).ls[i]?=some l/\(q,i)≠(r,j):=by
    rcases aj r q (fJ (ac (aE st ks) st r) j) (ac (aE st ks) st) with ⟨rfl,e⟩|⟨y,e⟩
    ·rw[e]at R;rcases aO _ _ _ _ _ R with ⟨rfl,rfl,hj⟩|⟨y,R⟩
     ·exfalso;generalize (ac (aE st ks) st q).ls.getD i .dead=l' at M;cases l' with
      |own p Z E e xs=>cases Z <;> exact M.elim
      |_=>exact M.elim
     ·grind
    ·grind
   simp_all
  ·rcases aj r q (fJ (ac (aE st ks) st r) j) (ac (aE st ks) st) with ⟨rfl,e⟩|⟨y,e⟩
   ·rw[e];exact⟨(X q).1,(X q).2⟩
   ·grind
where
 im:∀ (ks:List (Nat×Nat)) {r j:Nat} {l:Leaf},(r,j)∉ks->(st r).ls[j]?=some l->(ac (aE st ks) st r).ls[j]?=some l
  |[],_,_,_,_,u=>u
  |(q,i)::ks,r,j,l,hn,u=>by
   have I:=im ks (λJ=>hn (Bg _ J)) u;have e:ac (aE st ((q,i)::ks)) st=ac [(q,fJ (ac (aE st ks) st q) i)] (ac (aE st ks) st):=aN _ _ _ _;rw[e];rcases aj q r (fJ (ac (aE st ks) st q) i) (ac (aE st ks) st) with ⟨rfl,e⟩|⟨y,e⟩
   ·rw[e];simp only[fJ,aP]
    grind
   ·grind
theorem an.put (hV:ax V)(h:an P V W st a w)(d:Nat)(hd:d<V.nt)(a3:∀ x∈V.fixt,x.1≠d)(n:Nat)(sh:aG)(ls:List Leaf)(v:Value)
  (J:List Value) (I:Nat->List Nat) (hn:(st d).ver<n) (hs:dP sh v J) (hl:ls.length=J.length) (h1:∀ u∈J,u.oneCell'=true)
  (a2:∀ (j:Nat) (l:Leaf) (u:Value),ls[j]?=some l->J[j]?=some u->aI P V W st w (I j) l u)
  (a1:∀ (j:Nat) (l:Leaf),ls[j]?=some l->am l->∀ k∈I j,¬ W.nw k/\¬ V.prot k/\(∀ b,live st b->W.β b≠k) /\
   ∀ (r1 j1:Nat) (l1:Leaf),r1≠d->(st r1).ls[j1]?=some l1->am l1->k∉W.bs r1 j1)
  (a4:∀ (j Z:Nat) (l l':Leaf),ls[j]?=some l->am l->ls[Z]?=some l'->am l'->∀ k,k∈I j->k∈I Z->j=Z) :
  an P V { W with cs:=λr=>if r=d then J else W.cs r,bs:=λr j=>if r=d then I j else W.bs r j } (ac [(d,⟨n,sh,ls⟩)] st) (a.put (some d) v) w:=by
 have a6:d<B0:=BP hd hV.ntB;have O:∀ b,live (ac [(d,⟨n,sh,ls⟩)] st) b<->live st b:=by
  intro b;by_cases hb:B0<=b
  ·rw[live,live,aH (by omega)]
  ·simp[live,hb]
 have R:cl V W { W with cs:=λr=>if r=d then J else W.cs r,bs:=λr j=>if r=d then I j else W.bs r j } st (ac [(d,⟨n,sh,ls⟩)] st) w w:=by
  refine⟨λq=>?_,λb hb=>⟨(O b).2 hb,rfl⟩,λ_ h=>h,λ_ _=>rfl,λ_ q Z l' M h4 h5=>?_⟩;rcases aj d q ⟨n,sh,ls⟩ st with ⟨rfl,e⟩|⟨y,e⟩
  ·grind
  ·grind
  rcases aj d q ⟨n,sh,ls⟩ st with ⟨rfl,e⟩|⟨y,e⟩
  ·grind
  ·grind
 have a0:∀ t,(a.put (some d) v).tmps.getD t undef=if t=d then v else a.tmps.getD t undef:=by
  intro t;by_cases ht:t=d
  ·subst ht;have:t<a.tmps.size:=by rw[h.nt];exact hd
   simp[B7,this]
  ·simp only[B7,if_neg ht];rw[BV,BV,Array.getElem?_setIfInBounds_ne (λe=>ht e.symm)]
 exact {
  nt:=by simp[B7,h.nt],df:=by simp[B7,h.df]
  slots:=λt ht=>by
   rw[a0];rcases aj d t ⟨n,sh,ls⟩ st with ⟨rfl,e⟩|⟨y,e⟩
   ·grind
   ·rw[e];simpa[y]using h.slots t ht
  boxes:=λb hb=>by
   have:b≠d:=by omega
   rw[aH this];simpa[this]using h.boxes b hb
  len:=λq=>by
   rcases aj d q ⟨n,sh,ls⟩ st with ⟨rfl,e⟩|⟨y,e⟩
   ·grind
   ·rw[e];simpa[y]using h.len q
  one:=λq u hu=>by
   by_cases hq:q=d
   ·grind
   ·simp only[hq]at hu;exact h.one q u hu
  leaf:=λq j l u H M=>by
   rcases aj d q ⟨n,sh,ls⟩ st with ⟨rfl,e⟩|⟨y,e⟩
   ·rw[e]at H;simp at M;exact (a2 j l u H M).carry hV.ro R (λ_=>⟨by simp,λ_ _=>rfl⟩)
   ·rw[e]at H;simp only[y]at M;exact (h.leaf q j l u H M).carry hV.ro R (λ_=>⟨by simp[y],λ_ _=>rfl⟩)
  ownb:=λq j l H M k Y=>by
   rcases aj d q ⟨n,sh,ls⟩ st with ⟨rfl,e⟩|⟨y,e⟩
   ·grind
   ·rw[e]at H;simp only[y]at Y;have:=h.ownb q j l H M k Y
    grind
  sep:=λq j l q' Z l' H M h4 h5 k Y z=>by
   rcases aj d q ⟨n,sh,ls⟩ st with ⟨e0,e⟩|⟨y,e⟩ <;> rcases aj d q' ⟨n,sh,ls⟩ st with ⟨e1,e'⟩|⟨X,e'⟩
   ·rw[e]at H;rw[e']at h4;simp only[e0]at Y;simp only[e1]at z;exact⟨e0.trans e1.symm,a4 j Z l l' H M h4 h5 k Y z⟩
   ·rw[e]at H;rw[e']at h4;simp only[e0]at Y;simp only[X]at z;exact absurd z ((a1 j l H M k Y).2.2.2 q' Z l' X h4 h5)
   ·rw[e]at H;rw[e']at h4;simp only[y]at Y;simp only[e1]at z;exact absurd Y ((a1 Z l' h4 h5 k z).2.2.2 q j l y H M)
   ·rw[e]at H;rw[e']at h4;simp only[y]at Y;simp only[X]at z;exact h.sep q j l q' Z l' H M h4 h5 k Y z
  box:=λb hb=>h.box b ((O b).1 hb)
  inj:=λb b' hb a5=>h.inj b b' ((O b).1 hb) ((O b').1 a5)
  nwlt:=h.nwlt
  os:=h.os,tape:=h.tape,output:=h.output,size:=h.size,keep:=h.keep
  fixb:=λx hx=>⟨(O _).2 (h.fixb x hx).1,(h.fixb x hx).2⟩
  fixt:=λx hx=>by rw[a0,if_neg (a3 x hx)];exact h.fixt x hx }
theorem an.putLs (X:ax V)(h:an P V W st a w)(d:Nat)(M:d<V.nt)(y:∀ x∈V.fixt,x.1≠d)(n:Nat)(sh:aG)(ls:List Leaf)(v:Value)
  (r:List Value) (J:(st d).ver<n) (R:dP sh v r) (z:aC P V W st w ls r) :
  Rel P V (ac [(d,⟨n,sh,ls⟩)] st) (a.put (some d) v) w :=
 ⟨_,h.put X d M y n sh ls v r (λ_=>[]) J R z.length z.one' (λj l u O I=>(z.at_ j l u O I).1) (λ_ _ _ _ k H=>by simp at H)
  (λ_ _ _ _ _ _ _ _ k H=>by simp at H)⟩
end
def zeroCells:Ty->List Value
 |.int k=>[.int k 0]
 |.bool=>[.bool false]
 |.str=>[.string BO]
 |.unit=>[]
 |.pair a b=>zeroCells a++zeroCells b
 |.hdr=>[.slice none 0 0]
 |.list _ _ _=>[.slice none 0 0]
def bJ (P:Program)(t:TypeId)(n:Nat):Prop:=(P.info? t).map (·.size)=some n
def dK (P:Program)(t:TypeId)(z:Value):Prop:=(P.info? t).map (·.zero)=some (some z)
def EqAt (P:Program)(t:TypeId)(a:Ty):Prop:=a.flat=true->∀ (w:World) (G:Nat->Prop) (x y:a.den) (r u:List Value),Rd w G a x r->Rd w G a y u ->
 (Op.equal t (.agg r.toArray) (.agg u.toArray)).run P w=.ok (a.eqv x y) w
def ol (P:Program)(t:TypeId):TI->Prop
 |.int k=>P.underlying t=some (.int k)/\bJ P t 1/\dK P t (.int k 0)
 |.bool=>P.underlying t=some .bool/\bJ P t 1/\dK P t (.bool false)
 |.str=>P.underlying t=some .string/\bJ P t 1/\dK P t (.string BO)
 |.slice E e r=>P.underlying t=some (.slice E)/\bJ P t 1/\dK P t (.slice none 0 0)/\0<e.cells/\(0<r/\(e=.int .u8->P.underlying E=some (.int .u8))) /\
  ∃ i z,P.info? E=some i/\i.size=e.cells/\i.bytes=r/\i.zero=some z/\z.cells.toList=zeroCells e
 |.struct a u=>(∃ H,P.underlying t=some (.struct H)/\H.toList.mapM (λf=>(P.info? f.type).map λi=>(f.offset,i.size))=some (u.map λx=>(x.1,x.2.1)) /\
  ∀ (i off n:Nat) (agg:Bool),u[i]?=some (off,n,agg)->(agg=false->n=1)/\∃ f:Field,H[i]?=some f/\f.offset=off/\0<n/\off+n<=a.cells/\bJ P f.type n /\
   (P.underlying f.type).map (λd=>match d with|.struct _|.array _ _=>true|_=>false)=some agg) /\
  bJ P t a.cells/\dK P t (.agg (zeroCells a).toArray)/\EqAt P t a/\P.eqGuardType P.depth t=false
 |.arr e n=>(∃ E,P.underlying t=some (.array n E)/\bJ P E e.cells/\(P.underlying E).map (λd=>match d with|.struct _|.array _ _=>true|_=>false)=some e.isAgg)/\0<e.cells /\
  bJ P t (n*e.cells)/\dK P t (.agg ((BK n (zeroCells e)).flatten).toArray)
 |.ptr=>(∃ e,P.underlying t=some (.pointer e))/\bJ P t 1/\dK P t (.pointer none)
 |.fn=>(∃ x y z,P.underlying t=some (.func x y z))/\bJ P t 1/\dK P t .nilFunc
 |.none=>True
def TOk (P:Program)(T:TypeId->TI):Prop:=∀ t,ol P t (T t)
theorem sd {P:Program}:∀ {l:List (TypeId×TI)},(∀ x∈l,ol P x.1 x.2)->TOk P (fK l)
 |[],_,_=>trivial
 |(t,i)::l,h,u=>by
  simp only[fK];cases y:AT t u with
  |false=>exact sd (λx r=>h x (Bg _ r)) u
  |true =>
   simp_all
section
variable {P:Program} {V:Env} {W:Wit} {st:St} {w:World} {a:Act} {o:Oper}
def mr (P:Program)(V:Env)(o:Oper)(st:St)(U:Upd)(a:Act)(w:World):Prop :=
 ∀ (next:Act->World->Prop) (Q:Exit->Act->World->Prop),(∀ u r,Rel P V (ac U st) u r->next u r)->o.wp P a w next Q
theorem dH {v:Value}{w':World}{next:Act->World->Prop}{Q:Exit->Act->World->Prop}(h:(execOp a.eval o).run P w=.ok (.value v) w')(r:next (a.put o.dst v) w'):o.wp P a w next Q:=by
 unfold Oper.wp;rw[h];exact r
theorem o9 {w':World}{next:Act->World->Prop}{Q:Exit->Act->World->Prop}(h:(execOp a.eval o).run P w=.ok .skip w')(r:next (a.put o.dst undef) w'):o.wp P a w next Q:=by
 unfold Oper.wp;rw[h];exact r
def bH (V:Env)(o:Oper):Prop:=∀ d,o.dst=some d->d<V.nt/\∀ x∈V.fixt,x.1≠d
theorem dI (J:ax V)(h:an P V W st a w){d:Nat}(y:o.dst=some d)(r:bH V o){v:Value}{sh:aG}{ls:List Leaf}{cs:List Value}
  (u:(execOp a.eval o).run P w=.ok (.value v) w) (z:dP sh v cs) (I:aC P V W st w ls cs):mr P V o st (bZ st [] d sh ls) a w:=by
 intro next Q H;refine dH u ?_;rw[y];exact H _ _ (h.putLs J d (r d y).1 (r d y).2 _ sh ls v cs (Bd _) z I)
theorem aM (J:ax V)(h:an P V W st a w){d:Nat}(z:o.dst=some d)(u:bH V o){v:Value}{l:Leaf}
  (r:(execOp a.eval o).run P w=.ok (.value v) w) (H:aI P V W st w [] l v) (y:¬ am l) (I:v.oneCell'=true):mr P V o st (bZ st [] d .one [l]) a w :=
 dI J h z u r (cs:=[v]) rfl ⟨⟨H,y,I⟩,trivial⟩
theorem jK {agg:Bool}{v:Value}{cs:List Value}(h:cQ agg v cs):dP (be agg) v cs:=by
 cases agg <;> exact h
theorem bw (h:an P V W st a w){x:Operand}{k:IntKind}{n:Int}(r:one st x=.int k n):a.eval x=.int k n:=by
 have:=(bk h x (by rw[r];simp)).1;rw[r]at this;exact this
theorem gU (h:an P V W st a w){x:Operand}{b:Bool}(r:one st x=.bool b):a.eval x=.bool b:=by
 have:=(bk h x (by rw[r];simp)).1;rw[r]at this;exact this
theorem ib (h:an P V W st a w){x:Operand}{b:ByteArray}(r:one st x=.str b):a.eval x=.string b:=by
 have:=(bk h x (by rw[r];simp)).1;rw[r]at this;exact this
theorem uU (r:BinOp)(k:IntKind)(t t':TypeId)(x y:Operand)(m n:Int)(l:Leaf)(u:rW r k m n=some l)(z:a.eval x=.int k m)(I:a.eval y=.int k n)(H:o.op=.binOp r t x y t') :
  ∃ v,(execOp a.eval o).run P w=.ok (.value v) w/\aI P V W st w [] l v/\¬ am l/\v.oneCell'=true:=by
 cases r <;> simp only[rW,BA,reduceCtorEq]at u <;> subst u <;>
  exact⟨_,by simp[execOp,H,z,I,eqGuard,Go.binOp,Op.intArith,Op.intCmp],rfl,id,rfl⟩
theorem AR (I:ax V)(h:an P V W st a w)(ks:List (Nat×Nat)):cl V W W st (ac (aL st ks) st) w w:=by
 obtain⟨_,z,r⟩:=lG I ks h;exact⟨λq=>⟨(r q).2,λ_=>rfl⟩,λb u=>⟨⟨u.1,by rw[(r b).1];exact u.2⟩,rfl⟩,λ_ h=>h,λ_ _=>rfl,λ_ q j l H y _=>⟨⟨l,(z q j l H y).1,y⟩,rfl,λ_ _=>rfl⟩⟩
theorem step_frz (I:ax V)(h:an P V W st a w)(ks:List (Nat×Nat)):cl V W (W.frz st ks) st (ac (aE st ks) st) w w:=by
 obtain⟨_,z,r⟩:=lf I ks h;exact⟨λq=>⟨(r q).2,λ_=>rfl⟩,λb u=>⟨⟨u.1,by rw[(r b).1];exact u.2⟩,rfl⟩,λ_ h=>.inl h,λ_ _=>rfl,λ_ q j l H y _=>⟨⟨l,(z q j l H y).1,y⟩,rfl,λ_ _=>rfl⟩⟩
def c9 (W:Wit)(ls:List Leaf)(j:Nat):List Nat :=
 match ls[j]? with
 |some (.al r i _)=>W.bs r i
 |_=>[]
theorem wc:∀ {ls:List Leaf} {j r i n:Nat},ls[j]?=some (.al r i n)->am (aD st (.al r i n))->(r,i)∈bq st ls
 |l::ls,0,r,i,n,h,u=>by
  simp at h;subst h;generalize y:aD st (.al r i n)=q at u;cases q <;> first|exact u.elim|simp[bq,y]
 |l::ls,j+1,r,i,n,h,u=>by
  have:=wc (ls:=ls) (by simpa using h) u;cases l <;> simp[bq,this]
theorem mt:∀ {ls:List Leaf} {j r i n:Nat},ls[j]?=some (.al r i n)->am (aD st (.al r i n))->(r,i)∈bU st ls
 |l::ls,0,r,i,n,h,u=>by
  simp at h;subst h;generalize y:aD st (.al r i n)=q at u;cases q <;> first|exact u.elim|simp[bU,y]
 |l::ls,j+1,r,i,n,h,u=>by
  have:=mt (ls:=ls) (by simpa using h) u;cases l <;> simp[bU,this]
theorem nJ:∀ {ls:List Leaf} {j y r i n I:Nat},aU (bU st ls)=true->ls[j]?=some (.al r i n)->am (aD st (.al r i n)) ->
    ls[y]?=some (.al r i I)->am (aD st (.al r i I))->j=y
  |l::ls,j,y,r,i,n,I,u,h1,M,X,h4=>by
    have Y:∀ (m:Nat) (k:Nat),l=.al r i m->am (aD st (.al r i m))->(∃ z,ls[k]?=some (.al r i z)/\am (aD st (.al r i z)))->False:=by
      rintro m k rfl J ⟨z,R,O⟩;have h7:=mt R O;have Z:bU st (.al r i m::ls)=(r,i)::bU st ls:=by
        generalize hq:aD st (.al r i m)=q at J;cases q <;> first|exact J.elim|simp[bU,hq]
      rw[Z]at u;simp only[aU,AW,BZ]at u;have:=u.1;rw[Ba]at this;have:=this _ h7;simp at this
    have H:aU (bU st ls)=true:=by
      cases l <;> first
        |exact u
        | (rename_i r' y v'
           simp only[bU]at u;split at u
           · simp only[Bw,aU]at u
             grind
           · simpa using u)
    cases j with
    |zero =>
      cases y with
      |zero=>rfl
      |succ y =>
        grind
    |succ j =>
      cases y with
      |zero =>
        grind
      |succ y =>
        have:=nJ (ls:=ls) H (by simpa using h1) M (by simpa using X) h4;omega
theorem lH (Z:ax V)(h:an P V W st a w){l:Leaf}{v:Value}(u:aI P V W st w [] l v)(y:¬ am l) :
  (∃ r i n,l=.al r i n/\am (aD st l)/\aI P V W st w (W.bs r i) (aD st l) v/\(st r).ls[i]?=some (aD st l)) \/
  (¬ am (aD st l)/\aI P V W st w [] (aD st l) v):=by
 cases l with
 |al r j n =>
  by_cases z:aD st (.al r j n)=.dead
  ·rw[z];exact .inr ⟨id,trivial⟩
  ·obtain⟨O,I⟩:=eL rfl z;have R:=u.2 O;have J:=h.leaf r j _ v I R;by_cases H:am (aD st (.al r j n))
   ·grind
   ·exact .inr ⟨H,J.carry Z.ro (cl.refl V W st w) (λh=>absurd h H)⟩
 |own p hh E e Y=>exact absurd trivial y
 |nal p X ep M E e Y =>
  simp only[aD];cases bj st X ep with
  |false=>exact .inr ⟨id,trivial⟩
  |true=>exact .inr ⟨id,u⟩
 |_=>exact .inr ⟨id,u⟩
end
section
variable {P:Program} {V:Env} {W:Wit} {st:St} {w w':World} {a:Act} {o:Oper} {ls:List Leaf} {cs:List Value}
theorem ic {st st':St}(h:∀ q,(st' q).sh=(st q).sh)(b:Nat):live st' b<->live st b:=by simp[live,h]
def aB (st:St)(x:Nat×Nat):Prop:=∃ l,(st x.1).ls[x.2]?=some l/\am l
def aS (W:Wit)(ks:List (Nat×Nat)):List Nat:=ks.flatMap λx=>W.bs x.1 x.2
theorem du (W:Wit)(a b:List (Nat×Nat)):aS W (a++b)=aS W a++aS W b:=List.flatMap_append
theorem fV {W:Wit}{ks:List (Nat×Nat)}{k:Nat}:k∈aS W ks<->∃ x∈ks,k∈W.bs x.1 x.2:=List.mem_flatMap
theorem jS {W:Wit}{p:Bool}{ks:List (Nat×Nat)}(u:∀ x∈ks,aB st x):∀ k,bi V W p ks k->gd V (W.frz st ks) p k:=by
 rintro k (r|⟨x,y,r⟩)
 ·exact bP (W':=W.frz st ks) (λh=>h) (λ_ h=>Or.inl h) k r
 ·exact .inl (.inr ⟨x,y,u x y,r⟩)
theorem nl {a b:List (Nat×Nat)}(h:dk a b=true):∀ x∈a,x∉b:=by
 intro x r u;simp only[dk,BZ,Ba]at h;have:=h x r;simp only[Bv,Ba]at this;have:=this x u;simp[hX]at this
theorem fm (hV:ax V){W:Wit}{a:Act}{w:World}(h:an P V W st a w){frz kill:List (Nat×Nat)}(Z:dk frz kill=true)(R:∀ x∈kill,aB st x) :
  an P V (W.frz st frz) (ac (aL (ac (aE st frz) st) kill++aE st frz) st) a w /\
  (∀ (q i:Nat) (l:Leaf),(ac (aL (ac (aE st frz) st) kill++aE st frz) st q).ls[i]?=some l->am l->(st q).ls[i]?=some l/\(q,i)∉frz/\(q,i)∉kill) /\
  (∀ q,(ac (aL (ac (aE st frz) st) kill++aE st frz) st q).sh=(st q).sh/\(st q).ver<=(ac (aL (ac (aE st frz) st) kill++aE st frz) st q).ver) /\
  (∀ k∈aS W kill,¬ (W.frz st frz).nw k/\¬ V.prot k/\k<w.heap.size/\(∀ b,live (ac (aL (ac (aE st frz) st) kill++aE st frz) st) b->W.β b≠k) /\
   ∀ (J i:Nat) (l:Leaf),(ac (aL (ac (aE st frz) st) kill++aE st frz) st J).ls[i]?=some l->am l->k∉W.bs J i):=by
 obtain⟨h1,h2,h3⟩:=lf hV frz h;obtain⟨h4,h5,X⟩:=lG hV kill h1;rw[<- br]at h4 h5 X;have I:∀ q,(ac (aL (ac (aE st frz) st) kill++aE st frz) st q).sh=(st q).sh:=λq=>(X q).1.trans (h3 q).1
 have u:∀ (q i:Nat) (l:Leaf),(ac (aL (ac (aE st frz) st) kill++aE st frz) st q).ls[i]?=some l->am l->(st q).ls[i]?=some l/\(q,i)∉frz/\(q,i)∉kill:=by
  simp_all
 refine⟨h4,u,λq=>⟨I q,BE (h3 q).2 (X q).2⟩,λk z=>?_⟩;obtain⟨x,hx,z⟩:=fV.1 z;obtain⟨l,M,r⟩:=R x hx;have h7:=h.ownb x.1 x.2 l M r k z;refine⟨?_,h7.2.1,h.own_lt M r k z,λb hb=>h7.2.2 b ((ic I b).1 hb),λJ i l1 h8 h9 O=>?_⟩
 ·rintro (hn|⟨y,hy,⟨l2,Y,H⟩,a1⟩)
  ·grind
  ·obtain⟨e1,e2⟩:=h.sep y.1 y.2 l2 x.1 x.2 l Y H M r k a1 z;exact nl Z y hy (by rw[show y=x from Prod.ext e1 e2];exact hx)
 ·obtain⟨a0,_,a2⟩:=u J i l1 h8 h9;obtain⟨e1,e2⟩:=h.sep x.1 x.2 l J i l1 M r a0 h9 k z O
  simp_all
theorem yX (H:ax V)(h:an P V W st a w)(frz kill:List (Nat×Nat)):cl V W (W.frz st frz) st (ac (aL (ac (aE st frz) st) kill++aE st frz) st) w w:=by
 obtain⟨O,J,y⟩:=lf H frz h;obtain⟨_,I,u⟩:=lG H kill O;rw[<- br]at I u;exact⟨λq=>⟨BE (y q).2 (u q).2,λ_=>rfl⟩,λb z=>⟨⟨z.1,by rw[(u b).1,(y b).1];exact z.2⟩,rfl⟩,λ_ h=>.inl h,λ_ _=>rfl,
  λ_ q j l M r _=>⟨⟨l,(J q j l (I q j l M r).1 r).1,r⟩,rfl,λ_ _=>rfl⟩⟩
theorem se:∀ {ls:List Leaf} {j:Nat} {p:Bool} {ks:List (Nat×Nat×Nat)} {ep:Nat} {E:TypeId} {e:Ty} {xs:List e.den},ls[j]?=some (.nal p ks ep none E e xs)->bj st ks ep=true->∀ k∈ks,(k.1,k.2.1)∈dg st ls
 |l::ls,0,p,ks,ep,E,e,xs,h,u,k,y=>by
  simp at h;subst h;simp only[dg,aD]
  grind
 |l::ls,j+1,p,ks,ep,E,e,xs,h,u,k,y=>by
  have:=se (ls:=ls) (by simpa using h) u k y;cases l with
  |nal J H z r O M I=>cases r <;> simp[dg,this]
  |_=>simp[dg,this]
theorem sf {ls:List Leaf}(h:gQ st ls=true):aU (bU st ls)=true/\dk (dg st ls) (bU st ls)=true:=by
 simpa[gQ]using h
theorem nK (y:aC P V W st w ls cs){x:Nat×Nat}(u:x∈bU st ls):aB st x:=by
 induction ls generalizing cs with
 |nil=>simp[bU]at u
 |cons l ls z =>
  cases cs with
  |nil=>exact y.elim
  |cons v cs =>
   cases l with
   |al r j n =>
    simp only[bU,BG]at u;rcases u with u|u
    ·split at u
     ·rename_i p I E e J H;simp at u;subst u;exact⟨_,(eL H (by simp)).2,trivial⟩
     ·grind
    ·exact z y.2 u
   |_=>exact z y.2 u
theorem z7 {l:Leaf}(h:am (fT st l)):am (aD st l)/\fT st l=aD st l:=by
 unfold fT at h ⊢;split at h
 ·exact h.elim
 ·exact⟨h,rfl⟩
theorem om (hV:ax V)(h:an P V W st a w){ls:List Leaf}{cs:List Value}(hl:aC P V W st w ls cs)(a6:gQ st ls=true) :
    an P V (W.frz st (dg st ls)) (ac (mvU st ls) st) a w/\(dt st ls).length=cs.length /\
    (∀ (j:Nat) (l:Leaf) (u:Value),(dt st ls)[j]?=some l->cs[j]?=some u->aI P V (W.frz st (dg st ls)) (ac (mvU st ls) st) w (c9 W ls j) l u) /\
    (∀ (j:Nat) (l:Leaf),(dt st ls)[j]?=some l->am l->∀ k∈c9 W ls j,¬ (W.frz st (dg st ls)).nw k/\¬ V.prot k/\k<w.heap.size /\
      (∀ b,live (ac (mvU st ls) st) b->W.β b≠k) /\
      ∀ (r1 j1:Nat) (l1:Leaf),(ac (mvU st ls) st r1).ls[j1]?=some l1->am l1->k∉W.bs r1 j1) /\
    (∀ (j j':Nat) (l l':Leaf),(dt st ls)[j]?=some l->am l->(dt st ls)[j']?=some l'->am l'->∀ k,k∈c9 W ls j->k∈c9 W ls j'->j=j'):=by
  obtain⟨hd,a9⟩:=sf a6;obtain⟨h1,h2,h3,a5⟩:=fm hV h a9 (λx hx=>nK hl hx);have I:=yX hV h (dg st ls) (bU st ls);show an P V (W.frz st (dg st ls)) (ac (aL (ac (aE st (dg st ls)) st) (bU st ls)++aE st (dg st ls)) st) a w/\_;have R:∀ (j:Nat) (l:Leaf),(dt st ls)[j]?=some l->∃ z u,ls[j]?=some z/\cs[j]?=some u/\fT st z=l/\aI P V W st w [] z u/\¬ am z:=by
    intro j l M;simp only[dt,Br,BH]at M;obtain⟨z,H,h5⟩:=M;have a3:j<cs.length:=by rw[<- hl.length];exact (AV.1 H).1
    have O:=AX a3;have h7:=hl.at_ j z _ H O
    simp_all
  have y:∀ (j:Nat) (l:Leaf),(dt st ls)[j]?=some l->am l->∃ r i n,ls[j]?=some (.al r i n)/\am (aD st (.al r i n))/\(st r).ls[i]?=some l:=by
    intro j l M ho;obtain⟨z,u,H,h5,rfl,O,h7⟩:=R j l M;obtain⟨X,e0⟩:=z7 ho;rcases lH hV h O h7 with ⟨r,i,n,rfl,h8,_,h9⟩|⟨h8,_⟩
    · grind
    · grind
  refine⟨h1,by simp[dt,hl.length],λj l u M hu=>?_,λj l M ho k J=>?_,λj j' l l' M ho b2 X k J a2=>?_⟩
  · obtain ⟨z, u', H, h5, rfl, O, h7⟩ := R j l M
    obtain rfl:u=u':=Option.some.inj (hu.symm.trans h5);have Y:fT st z=aD st z->aI P V (W.frz st (dg st ls)) (ac (mvU st ls) st) w (c9 W ls j) (fT st z) u:=by
      intro e0;rw[e0];rcases lH hV h O h7 with ⟨r,i,n,rfl,h8,h9,_⟩|⟨h8,h9⟩
      · have:c9 W ls j=W.bs r i:=by simp[c9,H]
        rw[this];exact h9.carry hV.ro I (λ_=>⟨rfl,λ_ _=>rfl⟩)
      · exact h9.carry hV.ro I (λh=>absurd h h8)
    by_cases Z:∃ p ks ep E e xs,aD st z=.nal p ks ep none E e xs
    · obtain⟨p,ks,ep,E,e,xs,Z⟩:=Z
      have e0:fT st z=.ro p E e xs:=by unfold fT;rw[Z]
      rw[e0];have a1:z=.nal p ks ep none E e xs/\bj st ks ep=true:=by
        cases z with
        |al r i n=>exact absurd Z is
        |nal p' b1 b0 b3 E' e' b4 =>
          simp only[aD]at Z;cases hv:bj st b1 b0 with
          |false=>simp[hv]at Z
          |true =>
            simp_all
        |_=>simp[aD]at Z
      obtain⟨rfl,hv⟩:=a1;refine Rd.mono (λk J=>?_) (o8 hv O).rd;rcases J with J|⟨x,hx,J⟩
      · exact bP (W':=W.frz st (dg st ls)) (λh=>h) (λ_ h=>Or.inl h) k J
      · exact .inl (.inr ⟨(x.1,x.2.1),se H hv x hx,(ci hv).2.2 x hx,J⟩)
    · refine Y ?_
      unfold fT
      grind
  · obtain⟨r,i,n,H,h5,O⟩:=y j l M ho
    have e:c9 W ls j=W.bs r i:=by simp[c9,H]
    rw[e]at J;exact a5 k (fV.2 ⟨(r,i),mt H h5,J⟩)
  · obtain⟨r,i,n,H,h5,O⟩:=y j l M ho
    obtain⟨r',i',n',a0,ad,a4⟩:=y j' l' b2 X;have e:c9 W ls j=W.bs r i:=by simp[c9,H]
    have e':c9 W ls j'=W.bs r' i':=by simp[c9,a0]
    rw[e]at J;rw[e']at a2;obtain⟨rfl,rfl⟩:=h.sep r i l r' i' l' O ho a4 X k J a2;exact nJ hd H h5 a0 ad
theorem yN (z:ax V)(h:an P V W st a w)(y:aC P V W st w ls cs)(r:gQ st ls=true):∀ q,(ac (mvU st ls) st q).sh=(st q).sh/\(st q).ver<=(ac (mvU st ls) st q).ver :=
 (fm z h (sf r).2 (λ_ u=>nK y u)).2.2.1
theorem an.putMoved (M:ax V)(h:an P V W st a w){ls:List Leaf}{cs:List Value}(J:aC P V W st w ls cs)(Z:gQ st ls=true)
  (d:Nat) (I:d<V.nt) (r:∀ x∈V.fixt,x.1≠d) {sh:aG} {v:Value} (hs:dP sh v cs) :
  Rel P V (ac (bZ st (mvU st ls) d sh (dt st ls)) st) (a.put (some d) v) w:=by
 obtain⟨h1,R,Y,y,X⟩:=om M h J Z;exact⟨_,h1.put M d I r _ sh (dt st ls) v cs (c9 W ls) (Bd _) hs R J.one' Y
  (λj l z u k H=>⟨(y j l z u k H).1,(y j l z u k H).2.1,(y j l z u k H).2.2.2.1,λr1 O l1 _=>(y j l z u k H).2.2.2.2 r1 O l1⟩) X⟩
theorem an.setBoxG (hV:ax V)(h:an P V W st a w)(b:Nat)(hb:B0<=b)(n:Nat)(ls:List Leaf)(a3:List Value)(X:Nat->List Nat)(g:Nat)(E:TypeId)
    (hn:(st b).ver<n) (hg:(live st b/\W.β b=g)\/(¬ live st b/\¬ bX V W st g/\∀ (j:Nat) (l:Leaf),ls[j]?=some l->am l->∀ k∈X j,k≠g)) (bl:w'.heap[g]?=some (.cells a3.toArray E (0,0)))
    (b1:∀ k,bX V W st k->k≠g->w'.heap[k]?=w.heap[k]?) (a9:∀ (j:Nat) (l:Leaf),ls[j]?=some l->am l->∀ k∈X j,k≠g->w'.heap[k]?=w.heap[k]?) (b3:w.heap.size<=w'.heap.size) (b9:w'.os=w.os) (ht:w'.tape=w.tape) (ho:w'.output=w.output)
    (hl:ls.length=a3.length) (h1:∀ u∈a3,u.oneCell'=true)
    (b0:∀ (j:Nat) (l:Leaf) (u:Value),ls[j]?=some l->a3[j]?=some u->aI P V W st w (X j) l u)
    (ad:∀ (j:Nat) (l:Leaf),ls[j]?=some l->am l->∀ k∈X j,¬ W.nw k/\¬ V.prot k/\(∀ b,live st b->W.β b≠k) /\
      ∀ (r1 j1:Nat) (l1:Leaf),r1≠b->(st r1).ls[j1]?=some l1->am l1->k∉W.bs r1 j1)
    (b5:∀ (j j':Nat) (l l':Leaf),ls[j]?=some l->am l->ls[j']?=some l'->am l'->∀ k,k∈X j->k∈X j'->j=j') :
    an P V { W with β:=λr=>if r=b then g else W.β r,cs:=λr=>if r=b then a3 else W.cs r,bs:=λr j=>if r=b then X j else W.bs r j }
      (ac [(b,⟨n,.agg,ls⟩)] st) a w':=by
  have Y:¬ W.nw g/\¬ V.prot g/\(∀ q,q≠b->live st q->W.β q≠g)/\∀ (r1 j1:Nat) (l1:Leaf),(st r1).ls[j1]?=some l1->am l1->g∉W.bs r1 j1:=by
    rcases hg with ⟨a1,rfl⟩|⟨a1,hg⟩
    · exact⟨(h.box b a1).1,(h.box b a1).2,λq hq bb e=>hq (h.inj q b bb a1 e),λr1 j1 l1 y J I=>(h.ownb r1 j1 l1 y J _ I).2.2 b a1 rfl⟩
    · have hu:=hg.1
      simp only[bX,not_or,not_exists,not_and]at hu
      grind
  have b4:∀ (j:Nat) (l:Leaf),ls[j]?=some l->am l->∀ k∈X j,k≠g:=by
    grind
  have H:∀ q,live (ac [(b,⟨n,.agg,ls⟩)] st) q<->(q=b\/live st q):=by
    intro q;rcases aj b q ⟨n,.agg,ls⟩ st with ⟨e0,e⟩|⟨z,e⟩
    · subst e0
      simp[live,e,hb]
    · simp[live,e,z]
  have M:∀ k,bX V W st k->k≠g->w'.heap[k]?=w.heap[k]?:=b1;have a4:cl V W { W with β:=λr=>if r=b then g else W.β r,cs:=λr=>if r=b then a3 else W.cs r,bs:=λr j=>if r=b then X j else W.bs r j } st (ac [(b,⟨n,.agg,ls⟩)] st) w w':=by
    refine⟨λq=>?_,λq hq=>⟨(H q).2 (.inr hq),?_⟩,λ_ h=>h,λk I=>M k (I.elim .inl (λh=>.inr (.inl h))) ?_,λ_ q j l y J Z=>?_⟩
    · rcases aj b q ⟨n,.agg,ls⟩ st with ⟨rfl,e⟩|⟨z,e⟩
      · grind
      · grind
    · grind
    · grind
    · rcases aj b q ⟨n,.agg,ls⟩ st with ⟨rfl,e⟩|⟨z,e⟩
      · grind
      · rw[e]at y
        refine⟨⟨l,y,J⟩,by simp[z],λk I=>M k (.inr (.inr (.inr ⟨q,j,l,y,J,I⟩))) ?_⟩
        grind
  exact {
    nt:=h.nt,df:=h.df
    slots:=λt ba=>by
      have : t ≠ b := by have : GH <= B0 := by decide
                         omega
      rw[aH this];simpa[this]using h.slots t ba
    boxes:=λq hq=>by
      rcases aj b q ⟨n,.agg,ls⟩ st with ⟨rfl,e⟩|⟨z,e⟩
      · grind
      · rw[e]
        refine (h.boxes q hq).imp id λ⟨y,E',J⟩=>⟨y,E',?_⟩
        simp only[z,if_false];rw[M _ (.inr (.inr (.inl ⟨q,⟨hq,y⟩,rfl⟩))) (Y.2.2.1 q z ⟨hq,y⟩)];exact J
    len:=λq=>by
      rcases aj b q ⟨n,.agg,ls⟩ st with ⟨rfl,e⟩|⟨z,e⟩
      · rw[e];simpa using hl
      · rw[e];simpa[z]using h.len q
    one:=λq u hu=>by
      by_cases hq:q=b
      · grind
      · simp only[hq]at hu;exact h.one q u hu
    leaf:=λq j l u y J=>by
      rcases aj b q ⟨n,.agg,ls⟩ st with ⟨rfl,e⟩|⟨z,e⟩
      · rw[e]at y
        simp only at J;exact (b0 j l u y J).carry hV.ro a4 (λho=>⟨by simp,λk I=>a9 j l y ho k I (b4 j l y ho k I)⟩)
      · rw[e]at y
        simp only[z]at J;refine (h.leaf q j l u y J).carry hV.ro a4 (λho=>⟨by simp[z],λk I=>M k (.inr (.inr (.inr ⟨q,j,l,y,ho,I⟩))) ?_⟩);rintro rfl;exact Y.2.2.2 q j l y ho I
    ownb:=λq j l y J k I=>by
      rcases aj b q ⟨n,.agg,ls⟩ st with ⟨rfl,e⟩|⟨z,e⟩
      · rw[e]at y
        simp only[if_true]at I;have Z:=ad j l y J k I;refine⟨Z.1,Z.2.1,λp hp=>?_⟩;by_cases a0:p=q
        · simp only[a0,if_true];exact λe=>b4 j l y J k I e.symm
        · simp only[a0,if_false];exact Z.2.2.1 p (((H p).1 hp).resolve_left a0)
      · rw[e]at y
        simp only[z,if_false]at I;have Z:=h.ownb q j l y J k I;refine⟨Z.1,Z.2.1,λp hp=>?_⟩;by_cases a0:p=b
        · simp only[a0,if_true];rintro rfl;exact Y.2.2.2 q j l y J I
        · simp only[a0,if_false];exact Z.2.2 p (((H p).1 hp).resolve_left a0)
    sep:=λq j l q' j' l' y J Z h5 k I a2=>by
      rcases aj b q ⟨n,.agg,ls⟩ st with ⟨e0,e⟩|⟨z,e⟩ <;> rcases aj b q' ⟨n,.agg,ls⟩ st with ⟨e1,e'⟩|⟨a5,e'⟩
      · rw[e]at y;rw[e']at Z
        simp only[e0,if_true]at I;simp only[e1,if_true]at a2;exact⟨e0.trans e1.symm,b5 j j' l l' y J Z h5 k I a2⟩
      · rw[e]at y;rw[e']at Z
        simp only[e0,if_true]at I;simp only[a5,if_false]at a2;exact absurd a2 ((ad j l y J k I).2.2.2 q' j' l' a5 Z h5)
      · rw[e]at y;rw[e']at Z
        simp only[z,if_false]at I;simp only[e1,if_true]at a2
        grind
      · rw[e]at y;rw[e']at Z
        simp only[z]at I;simp only[a5,if_false]at a2;exact h.sep q j l q' j' l' y J Z h5 k I a2
    box:=λq hq=>by
      by_cases O:q=b
      · simp only[O,if_true];exact⟨Y.1,Y.2.1⟩
      · simp only[O,if_false];exact h.box q (((H q).1 hq).resolve_left O)
    inj:=λq q' hq b2 e=>by
      by_cases O:q=b <;> by_cases R:q'=b
      · omega
      · simp only[O,if_true,R,if_false]at e
        exact absurd e.symm (Y.2.2.1 q' R (((H q').1 b2).resolve_left R))
      · simp only[O,if_false,R,if_true]at e
        exact absurd e (Y.2.2.1 q O (((H q).1 hq).resolve_left O))
      · simp only[O,if_false,R,if_false]at e
        exact h.inj q q' (((H q).1 hq).resolve_left O) (((H q').1 b2).resolve_left R) e
    nwlt:=λk I=>⟨BP (h.nwlt k I).1 b3,(h.nwlt k I).2⟩
    os:=b9.trans h.os,tape:=ht.trans h.tape,output:=ho.trans h.output,size:=BE h.size b3
    keep:=λk hp=>by
      rw[M k (.inr (.inl hp)) (by rintro rfl;exact Y.2.1 hp)];exact h.keep k hp
    fixb:=λx hx=>by
      obtain⟨y,J⟩:=h.fixb x hx;refine⟨(H _).2 (.inr y),?_⟩;by_cases a6:x.1=b
      · simp only[a6,if_true]
        rcases hg with ⟨_,e⟩|⟨a1,_⟩
        · rw[<- e,<- a6];exact J
        · exact absurd (a6 ▸ y) a1
      · simpa only[a6,if_false]using J
    fixt:=h.fixt }
theorem an.setBox (hV:ax V)(h:an P V W st a w)(b:Nat)(hb:B0<=b)(n:Nat)(ls:List Leaf)(H:List Value)(z:Nat->List Nat)(g:Nat)(E:TypeId)
  (hn:(st b).ver<n) (hg:(live st b/\W.β b=g)\/(¬ live st b/\w.heap.size<=g)) (Z:w'.heap[g]?=some (.cells H.toArray E (0,0)))
  (I:∀ k,k<w.heap.size->k≠g->w'.heap[k]?=w.heap[k]?) (a1:w.heap.size<=w'.heap.size) (a0:w'.os=w.os) (ht:w'.tape=w.tape) (ho:w'.output=w.output)
  (hl:ls.length=H.length) (h1:∀ u∈H,u.oneCell'=true)
  (X:∀ (j:Nat) (l:Leaf) (u:Value),ls[j]?=some l->H[j]?=some u->aI P V W st w (z j) l u)
  (y:∀ (j:Nat) (l:Leaf),ls[j]?=some l->am l->∀ k∈z j,¬ W.nw k/\¬ V.prot k/\k<w.heap.size/\(∀ b,live st b->W.β b≠k) /\
   ∀ (r1 j1:Nat) (l1:Leaf),r1≠b->(st r1).ls[j1]?=some l1->am l1->k∉W.bs r1 j1)
  (Y:∀ (j j':Nat) (l l':Leaf),ls[j]?=some l->am l->ls[j']?=some l'->am l'->∀ k,k∈z j->k∈z j'->j=j') :
  an P V { W with β:=λr=>if r=b then g else W.β r,cs:=λr=>if r=b then H else W.cs r,bs:=λr j=>if r=b then z j else W.bs r j }
   (ac [(b,⟨n,.agg,ls⟩)] st) a w' :=
 h.setBoxG hV b hb n ls H z g E hn (hg.imp id λ⟨h2,h3⟩=>⟨h2,λhu=>by have:=h.used_lt g hu;omega,λj l O M k J=>by have:=(y j l O M k J).2.2.1;omega⟩) Z
  (λk J R=>I k (h.used_lt k J) R) (λj l O M k J R=>I k (y j l O M k J).2.2.1 R) a1 a0 ht ho hl h1 X
  (λj l O M k J=>⟨(y j l O M k J).1,(y j l O M k J).2.1,(y j l O M k J).2.2.2.1,(y j l O M k J).2.2.2.2⟩) Y
theorem dU (z:aC P V W st w ls cs){x:Nat×Nat}(u:x∈bq st ls):aB st x:=by
 induction ls generalizing cs with
 |nil=>simp[bq]at u
 |cons l ls H =>
  cases cs with
  |nil=>exact z.elim
  |cons v cs =>
   cases l with
   |al r j n =>
    simp only[bq,BG]at u;rcases u with u|u
    ·split at u
     ·rename_i p X E e R y;simp at u;subst u;exact⟨_,(eL y (by simp)).2,trivial⟩
     ·grind
    ·exact H z.2 u
   |nal p M ep J E e R =>
    simp only[bq,BG]at u;rcases u with u|u
    ·split at u
     ·rename_i y;simp only[aD]at y;cases I:bj st M ep with
      |false=>simp[I]at y
      |true =>
       obtain⟨k,O,rfl⟩:=List.mem_map.1 u;exact (ci I).2.2 k O
     ·grind
    ·exact H z.2 u
   |_=>exact H z.2 u
theorem AS (z:aC P V W st w ls cs){ks:List (Nat×Nat)}(u:∀ x∈bq st ls,x∈ks)(p:Bool):∀ k,bi V W p (bq st ls) k->gd V (W.frz st ks) p k:=by
 intro k r;rcases r with r|⟨x,y,r⟩
 ·exact bP (W':=W.frz st ks) (λh=>h) (λ_ h=>Or.inl h) k r
 ·exact .inl (.inr ⟨x,u x y,dU z y,r⟩)
end
section
variable {P:Program} {V:Env} {Γ:List Ctr} {T:TypeId->TI} {st:St} {o:Oper} {R:Type} {κ:Upd->Option R} {r:R}
def bR (P:Program)(V:Env)(o:Oper)(st:St)(κ:Upd->Option R)(r:R):Prop :=
 ∃ U,κ U=some r/\∀ W a w,an P V W st a w->mr P V o st U a w
theorem xD (M:ax V)(y:bH V o){x:Operand}(u:o.op=.move x)(h:act Γ T o st κ=some r):bR P V o st κ r:=by
 simp only[act,wrU,u]at h;split at h
 ·rename_i d I;refine⟨_,h,λW a w z=>?_⟩;obtain⟨O,H,J⟩:=cC z x;exact dI M z I y (by simp[execOp,u]) H J
 ·grind
theorem uV (X:ax V)(y:bH V o){x:Operand}(z:o.op=.assign x)(h:act Γ T o st κ=some r):bR P V o st κ r:=by
 simp only[act,z]at h;split at h
 ·rename_i d H;cases u:gQ st (ar st x).2 with
  |false=>simp[u]at h
  |true =>
   simp only[u]at h;refine⟨_,h,λW a w I=>?_⟩;obtain⟨Y,J,O⟩:=cC I x;intro next Q M;refine dH (v:=a.eval x) (w':=w) (by simp[execOp,z]) ?_;rw[H];exact M _ _ (I.putMoved X O u d (y d H).1 (y d H).2 J)
 ·grind
theorem xE (X:ax V)(H:bH V o){c x y:Operand}(u:o.op=.pick c x y)(h:act Γ T o st κ=some r):bR P V o st κ r:=by
 simp only[act,wrU,u]at h;split at h
 ·rename_i t O;cases t with
  |true =>
   split at h
   ·rename_i d J;refine⟨_,h,λW a w z=>?_⟩;obtain⟨Y,I,M⟩:=cC z x;exact dI X z J H (v:=a.eval x) (by simp[execOp,u,gU z O,asBool]) I M
   ·grind
  |false =>
   split at h
   ·rename_i d J;refine⟨_,h,λW a w z=>?_⟩;obtain⟨Y,I,M⟩:=cC z y;exact dI X z J H (v:=a.eval y) (by simp[execOp,u,gU z O,asBool]) I M
   ·grind
 ·grind
theorem sg (hV:ax V)(Z:bH V o){x:Operand}(X:o.op=.nilCheck x)(h:act Γ T o st κ=some r):bR P V o st κ r:=by
 simp only[act,wrU,X]at h;have H:∀ {l:Leaf} {d:Nat},one st x=l->l≠.dead->(∀ W a w,an P V W st a w->aI P V W st w [] l (a.eval x)->∃ ad,a.eval x=.pointer (some ad))->o.dst=some d ->
   ∀ W a w,an P V W st a w->mr P V o st (bZ st [] d .one [l]) a w:=by
  intro l d z a0 hp I W a w M;obtain⟨Y,h2,h3,_⟩:=bk M x (by rw[z];exact a0);rw[z]at Y h2;obtain⟨ad,O⟩:=hp W a w M Y;exact aM hV M I Z (v:=a.eval x) (by simp[execOp,X,O]) Y h2 h3
 split at h
 ·split at h
  ·rename_i z _ d I;exact⟨_,h,H z (by simp) (λW a w M u=>by obtain⟨g,o',c,O,_⟩:=u;exact⟨_,O⟩) I⟩
  ·grind
 ·split at h
  ·rename_i z _ d I;exact⟨_,h,H z (by simp) (λW a w M u=>⟨_,u.2.2⟩) I⟩
  ·grind
 ·rename_i r' j v i sz off z;cases J:AT (st r').ver v with
  |false=>simp[J]at h
  |true =>
   simp only[J]at h;split at h
   ·rename_i d I;refine⟨_,h,H z (by simp) (λW a w M u=>?_) I⟩;obtain⟨g,a2,a1,_,_,O⟩:=u.2 (AU J)
    simp_all
   ·grind
 ·split at h
  ·rename_i z _ d I;exact⟨_,h,H z (by simp) (λW a w M u=>by obtain⟨b,ob,g,o',c,O,_⟩:=u;exact⟨_,O⟩) I⟩
  ·grind
 ·rename_i p ks ep b y off z;cases J:bj st ks ep with
  |false=>simp[J]at h
  |true =>
   simp only[J]at h;split at h
   ·rename_i d I;refine⟨_,h,H z (by simp) (λW a w M u=>?_) I⟩;obtain⟨g,o',c,O,_⟩:=(u.2.2 (ci J).1 (ci J).2.1 (ci J).2.2:NpOk V W w p ks b y off _).rd
    simp_all
   ·grind
 ·grind
theorem xF (J:ax V)(y:bH V o){M:UnOp}{t:TypeId}{x:Operand}(u:o.op=.unOp M t x)(h:act Γ T o st κ=some r):bR P V o st κ r:=by
 simp only[act,wrU,u]at h;split at h
 ·rename_i b H;split at h
  ·rename_i d I;exact⟨_,h,λW a w z=>aM J z I y (v:=.bool (!b)) (by simp[execOp,u,gU z H,Op.unary]) rfl id rfl⟩
  ·grind
 ·rename_i k n H;split at h
  ·rename_i d I;exact⟨_,h,λW a w z=>aM J z I y (v:=.int k (k.wrap (0-n))) (by simp[execOp,u,bw z H,Op.unary,Op.intArith]) rfl id rfl⟩
  ·grind
 ·grind
theorem tL (hV:ax V)(Y:bH V o){x:Operand}{i:Nat}(H:o.op=.extract x i)(h:act Γ T o st κ=some r):bR P V o st κ r:=by
 simp only[act,wrU,H]at h;split at h
 ·rename_i u ls he;split at h
  ·rename_i agg n hp;split at h
   ·rename_i d hd;refine⟨_,h,λW a w hr=>?_⟩;obtain⟨z,hs,hl⟩:=cC hr x;rw[he]at hs hl;obtain⟨y,hv,ht⟩:=hs;have O:∀ (u:List (Bool×Nat)) (y z:List Value) (i:Nat) (off:Nat),o7 u y z->u[i]?=some (agg,n) ->
      ∃ v,y[i]?=some v/\cQ agg v ((z.drop ((u.take i).foldl (λa b=>a+b.2) off-off)).take n)/\off<=(u.take i).foldl (λa b=>a+b.2) off:=by
     intro u;induction u with
     |nil=>intro y z i off _ Z;simp at Z
     |cons p u ih =>
      rintro y z i off ⟨v,J,c,M,rfl,rfl,hc,a0,ht⟩ Z;cases i with
      |zero =>
       simp_all
      |succ i =>
       obtain⟨v',X,I,h3⟩:=ih J M i (off+p.2) ht (by simpa using Z);refine⟨v',by simpa using X,?_,by simp;omega⟩;simp;have e:(u.take i).foldl (λa b=>a+b.2) (off+p.2)-off=c.length+((u.take i).foldl (λa b=>a+b.2) (off+p.2)-(off+p.2)):=by omega
       rw[e,<- Bz,List.drop_left];exact I
    obtain⟨v,X,I,_⟩:=O u y z i 0 ht hp;refine dI hV hr hd Y (v:=v) ?_ (jK I) ((hl.drop _).take n);simp[execOp,H,hv,Instr.extract,X]
   ·grind
  ·grind
 ·grind
theorem ui {W:Wit}{a:Act}{w:World}(M:an P V W st a w):∀ (xs:List Operand) (u l:List Nat),
  xs.foldl (λ (u:Option (List Nat)) x=>u.bind λl=>match one st x with|.bp b 0=>some (l++[b])|_=>none) (some u)=some l ->
  ∃ y,l=u++y/\xs.map a.eval=y.map (λb=>Value.pointer (some ⟨W.β b,0,none⟩))/\∀ b∈y,B0<=b/\(st b).sh=.agg
 |[],u,l,h=>⟨[],by simpa using h.symm,rfl,by simp⟩
 |x::xs,u,l,h=>by
  simp at h;have H:∀ (xs:List Operand),xs.foldl (λ (u:Option (List Nat)) x=>u.bind λl=>match one st x with|.bp b 0=>some (l++[b])|_=>none) none=none:=by
   intro xs;induction xs with
   |nil=>rfl
   |cons x xs O=>simpa using O
  split at h
  ·rename_i b I;obtain⟨y,Y,X,Z⟩:=ui M xs (u++[b]) l h;have z:=(bk M x (by rw[I];simp)).1;rw[I]at z;refine⟨b::y,by simp[Y],?_,?_⟩
   ·simp only[B4,X];rw[show a.eval x=_ from z.2.2]
   ·intro q J;rcases Bm.1 J with rfl|J
    ·exact⟨z.1,z.2.1⟩
    ·grind
  ·grind
theorem si (Z:ax V)(y:bH V o){fn:Fn}{first caps:Array Operand}(u:o.op=.makeFunc fn first caps)(h:act Γ T o st κ=some r):bR P V o st κ r:=by
 cases fn with
 |func f =>
  simp only[act,wrU,u]at h;cases z:AT first.size 0 with
  |false=>simp[z]at h
  |true =>
   simp only[z]at h;split at h
   ·rename_i l Y;split at h
    ·rename_i d M;refine⟨_,h,λW a w H=>?_⟩;obtain⟨l',O,I,J⟩:=ui H caps.toList [] l Y;subst O;have X:first=#[]:=Array.eq_empty_of_size_eq_zero (AU z)
     refine aM Z H M y (v:=.func (.func f) #[] (l.map λb=>Value.pointer (some ⟨W.β b,0,none⟩)).toArray) ?_ ⟨rfl,J⟩ id rfl;rw[<- I];simp[execOp,u,Instr.makeFunc,X,<- Be]
    ·grind
   ·grind
 |_=>simp[act,u]at h
theorem fW {α:Type}{xs:List α}{i:Int}{x:α}(h:idx xs i=some x):0<=i/\i<xs.length/\xs[i.toNat]?=some x:=by
 unfold idx at h
 grind
end
section
variable {P:Program} {V:Env} {Γ:List Ctr} {T:TypeId->TI} {st:St} {o:Oper} {R:Type} {κ:Upd->Option R} {r:R}
theorem wd {W:Wit}{a:Act}{w:World}(I:an P V W st a w){x:Operand}{b:Ty}{p:Bool}{u:b.den}(z:(ar st x).1=.agg)(J:cA st b (ar st x).2=some (p,u)) :
  ∃ y G,a.eval x=.agg y.toArray/\Rd w G b u y:=by
 obtain⟨y,H,M⟩:=cC I x;rw[z]at H;exact⟨y,_,H,ea I M J⟩
theorem lg {t:TypeId}(y:P.underlying t=some .bool)(b u:Bool)(w:World):(Op.equal t (.bool b) (.bool u)).run P w=.ok (b==u) w:=by
 have e:Op.maxDepth=9999+1:=rfl;unfold Op.equal;rw[e];generalize 9999=m;unfold Op.equalIn;rw[BJ,run_underlying y];rfl
theorem we (Z:ax V)(hT:TOk P T)(I:bH V o){op:BinOp}{t t':TypeId}{x y:Operand}(H:o.op=.binOp op t x y t')(h:act Γ T o st κ=some r):bR P V o st κ r:=by
  simp only[act,wrU,H]at h;split at h
  · rename_i k m k' n O X
    cases op
    case shl =>
      simp only at h;cases Y:decide (n<0) with
      |true=>simp[Y]at h
      |false =>
        simp only[Y,cond_false]at h;split at h
        · rename_i d M
          refine⟨_,h,λW a w z=>aM Z z M I (v:=.int k (k.wrap (m*2 ^ (min n.toNat k.bits)))) ?_ rfl id rfl⟩;have:¬ n<0:=of_decide_eq_false Y;simp[execOp,H,bw z O,bw z X,eqGuard,Go.binOp,Op.shift,this]
        · cases h
    case shr =>
      simp only at h;cases Y:decide (n<0) with
      |true=>simp[Y]at h
      |false =>
        simp only[Y,cond_false]at h;split at h
        · rename_i d M
          refine⟨_,h,λW a w z=>aM Z z M I (v:=.int k (m.fdiv (2 ^ (min n.toNat k.bits)))) ?_ rfl id rfl⟩;have:¬ n<0:=of_decide_eq_false Y;simp[execOp,H,bw z O,bw z X,eqGuard,Go.binOp,Op.shift,this]
        · cases h
    case quo =>
      simp only at h;cases Y:decide (n=0) with
      |true=>simp[Y]at h
      |false =>
        simp only[Y,cond_false]at h;cases J:decide (k=k') with
        |false=>simp[J]at h
        |true =>
          simp only[J,cond_true]at h;have J:=of_decide_eq_true J;subst J;split at h
          · rename_i d M
            refine⟨_,h,λW a w z=>aM Z z M I (v:=.int k (k.wrap (m.tdiv n))) ?_ rfl id rfl⟩;have:¬ n=0:=of_decide_eq_false Y;simp[execOp,H,bw z O,bw z X,eqGuard,Go.binOp,Op.intDiv,this]
          · cases h
    case rem =>
      simp only at h;cases Y:decide (n=0) with
      |true=>simp[Y]at h
      |false =>
        simp only[Y,cond_false]at h;cases J:decide (k=k') with
        |false=>simp[J]at h
        |true =>
          simp only[J,cond_true]at h;have J:=of_decide_eq_true J;subst J;split at h
          · rename_i d M
            refine⟨_,h,λW a w z=>aM Z z M I (v:=.int k (m.tmod n)) ?_ rfl id rfl⟩;have:¬ n=0:=of_decide_eq_false Y;simp[execOp,H,bw z O,bw z X,eqGuard,Go.binOp,Op.intDiv,this]
          · cases h
    case and =>
      simp only at h;cases J:decide (k=k') with
      |false=>simp[J]at h
      |true =>
        simp only[J,cond_true]at h;have J:=of_decide_eq_true J;subst J;split at h
        · rename_i d M
          refine⟨_,h,λW a w z=>aM Z z M I (v:=.int k (k.wrap ((BitVec.ofInt k.bits m &&& BitVec.ofInt k.bits n).toNat))) ?_ rfl id rfl⟩;simp[execOp,H,bw z O,bw z X,eqGuard,Go.binOp,Op.intBits]
        · cases h
    case xor =>
      simp only at h;cases J:decide (k=k') with
      |false=>simp[J]at h
      |true =>
        simp only[J,cond_true]at h;have J:=of_decide_eq_true J;subst J;split at h
        · rename_i d M
          refine⟨_,h,λW a w z=>aM Z z M I (v:=.int k (k.wrap ((BitVec.ofInt k.bits m ^^^ BitVec.ofInt k.bits n).toNat))) ?_ rfl id rfl⟩;simp[execOp,H,bw z O,bw z X,eqGuard,Go.binOp,Op.intBits]
        · cases h
    all_goals
      simp only at h;cases J:decide (k=k') with
      |false=>simp[J]at h
      |true =>
        simp only[J,cond_true]at h;have J:=of_decide_eq_true J;subst J;split at h
        · rename_i l hl
          split at h
          · rename_i d M
            refine⟨_,h,λW a w z=>?_⟩;obtain⟨v,h1,h2,h3,h4⟩:=uU (P:=P) (V:=V) (W:=W) (st:=st) (w:=w) _ k t t' x y m n l hl (bw z O) (bw z X) H;exact aM Z z M I h1 h2 h3 h4
          · cases h
        · cases h
  · rename_i b b' O X
    cases ht:T t with
    |bool =>
      have h1:=hT t;rw[ht]at h1;simp only[ht]at h;cases op <;> simp only at h <;> first
        |cases h;done
        | (split at h
           · rename_i d M
             first
               |exact⟨_,h,λW a w z=>aM Z z M I (v:=.bool (b==b')) (by simp[execOp,H,gU z O,gU z X,eqGuard,Go.binOp,lg h1.1]) rfl id rfl⟩
               |exact⟨_,h,λW a w z=>aM Z z M I (v:=.bool (b != b')) (by simp[execOp,H,gU z O,gU z X,eqGuard,Go.binOp,lg h1.1,bne]) rfl id rfl⟩
           · cases h)
    |_=>simp[ht]at h
  · rename_i b b' O X
    cases op <;> simp only at h <;> first
      |cases h;done
      | (cases a0 : decide (b.size + b'.size <= 9223372036854775807) with
         |false=>rw[a0]at h;cases h
         |true =>
           rw[a0]at h;simp only[cond_true]at h;split at h
           · rename_i d M
             refine⟨_,h,λW a w z=>aM Z z M I (v:=.string (b++b')) ?_ rfl id rfl⟩;have:(b.size:Int)+b'.size<=9223372036854775807:=by have:=of_decide_eq_true a0;omega
             simp[execOp,H,ib z O,ib z X,eqGuard,Go.binOp,Op.stringOp,this]
           · cases h)
      | (split at h
         · rename_i d M
           first
             |exact⟨_,h,λW a w z=>aM Z z M I (v:=.bool (b.toList==b'.toList)) (by simp[execOp,H,ib z O,ib z X,eqGuard,Go.binOp,Op.stringOp]) rfl id rfl⟩
             |exact⟨_,h,λW a w z=>aM Z z M I (v:=.bool (b.toList != b'.toList)) (by simp[execOp,H,ib z O,ib z X,eqGuard,Go.binOp,Op.stringOp,bne]) rfl id rfl⟩
         · cases h)
  · cases ht:T t with
    |struct b b1 =>
      have h1:=hT t;rw[ht]at h1;obtain⟨_,_,_,a6,a1⟩:=h1;simp only[ht]at h;cases hf:b.flat&&decide ((ar st x).1=.agg)&&decide ((ar st y).1=.agg) with
      |false=>simp[hf]at h
      |true =>
        simp only[hf,cond_true]at h;simp only[AW,decide_eq_true_eq]at hf;obtain⟨⟨hf,ad⟩,a9⟩:=hf;split at h
        · rename_i p u q v a5 a3
          have a2:∀ (W:Wit) (a:Act) (w:World),an P V W st a w->(Op.equal t (a.eval x) (a.eval y)).run P w=.ok (b.eqv u v) w/\(∃ cx cy:Array Value,a.eval x=.agg cx/\a.eval y=.agg cy):=by
            intro W a w z;obtain⟨cx,G,O,a4⟩:=wd z ad a5;obtain⟨cy,G',X,b0⟩:=wd z a9 a3;rw[O,X];exact⟨a6 hf w G u v cx cy a4 (Rd.flat hf b0),_,_,rfl,rfl⟩
          cases op <;> simp only at h <;> first
            |cases h;done
            | (split at h
               · rename_i d M
                 first
                   | (refine ⟨_, h, λW a w z => aM Z z M I (v := .bool (b.eqv u v)) ?_ rfl id rfl⟩
                      obtain⟨h2,cx,cy,O,X⟩:=a2 W a w z;rw[O,X]at h2;simp[execOp,H,O,X,eqGuard,Go.binOp,a1,h2];done)
                   | (refine ⟨_, h, λW a w z => aM Z z M I (v := .bool (!b.eqv u v)) ?_ rfl id rfl⟩
                      obtain⟨h2,cx,cy,O,X⟩:=a2 W a w z;rw[O,X]at h2;simp[execOp,H,O,X,eqGuard,Go.binOp,a1,h2])
               · cases h)
        · cases h
    |_=>simp[ht]at h
end
section
variable {P:Program} {V:Env} {Γ:List Ctr} {T:TypeId->TI} {st:St} {o:Oper} {R:Type} {κ:Upd->Option R} {r:R}
theorem eF (g off n:Nat):(⟨g,off,none⟩:Addr).add n=⟨g,off+n,none⟩:=by
 unfold Addr.add;split <;> simp_all
theorem da {t:TypeId}{n:Nat}(h:bJ P t n)(w:World):(sizeOf t).run P w=.ok n w:=by
 unfold bJ at h;cases u:P.info? t with
 |none=>simp[u]at h
 |some i =>
  simp[u]at h;simp[sizeOf,typeInfo,u,h]
theorem fX {t:TypeId}{z:Value}(h:dK P t z)(w:World):(zeroValue t).run P w=.ok z w:=by
 unfold dK at h;cases u:P.info? t with
 |none=>simp[u]at h
 |some i =>
  simp[u]at h;simp[zeroValue,typeInfo,u,h]
theorem rB (hV:ax V)(hT:TOk P T)(I:bH V o){t:TypeId}{x:Operand}{f:Nat}(a0:o.op=.fieldAddr t x f)(h:act Γ T o st κ=some r):bR P V o st κ r:=by
 simp only[act,wrU,a0]at h;cases ht:T t with
 |struct b a5 =>
  simp only[ht]at h;split at h
  ·rename_i off n agg hf;have h1:=hT t;rw[ht]at h1;obtain⟨⟨fs,hu,_,a3⟩,_⟩:=h1;obtain⟨_,fd,h2,h3,h4,h5,h6,_⟩:=a3 f off n agg hf;have M:∀ (a:Act) (w:World) (g O:Nat),a.eval x=.pointer (some ⟨g,O,none⟩)->(execOp a.eval o).run P w=.ok (.value (.pointer (some ⟨g,O+off,none⟩))) w:=by
    intro a w g O Y;have u:=da h6 w;have h8:n≠0:=by omega
    simp[execOp,a0,Y,Instr.fieldAt,run_underlying hu,h2,Bh,fieldPlace,u,h8,eF]
   split at h
   ·rename_i p b' y O z;split at h
    ·rename_i d X;refine⟨_,h,λW a w H=>?_⟩;obtain⟨u,_,_,_⟩:=bk H x (by rw[z];simp);rw[z]at u;obtain⟨g,og,c,Y,hg,Z,hc⟩:=u;exact aM hV H X I (M a w g _ Y) ⟨g,og,c,by rw[Bb],hg,Z,hc⟩ id rfl
    ·grind
   ·rename_i b' O z;split at h
    ·rename_i d X;refine⟨_,h,λW a w H=>?_⟩;obtain⟨u,_,_,_⟩:=bk H x (by rw[z];simp);rw[z]at u;exact aM hV H X I (M a w _ _ u.2.2) ⟨u.1,u.2.1,rfl⟩ id rfl
    ·grind
   ·rename_i r' j v i sz O z;cases J:AT (st r').ver v with
    |false=>simp[J]at h
    |true =>
     simp only[J]at h;split at h
     ·rename_i d X;refine⟨_,h,λW a w H=>?_⟩;obtain⟨u,_,_,_⟩:=bk H x (by rw[z];simp);rw[z]at u;obtain⟨g,a2,a1,hh,a4,Y⟩:=u.2 (AU J);exact aM hV H X I (M a w g _ Y) ⟨u.1,λ_=>⟨g,a2,a1,hh,a4,by rw[Bb]⟩⟩ id rfl
     ·grind
   ·rename_i p ks ep b' y O z;cases J:bj st ks ep with
    |false=>simp[J]at h
    |true =>
     simp only[J]at h;split at h
     ·rename_i d X;refine⟨_,h,λW a w H=>?_⟩;obtain⟨u,_,_,_⟩:=bk H x (by rw[z];simp);rw[z]at u;have h8:NpOk V W w p ks b' y O _:=u.2.2 (ci J).1 (ci J).2.1 (ci J).2.2;obtain⟨g,og,c,Y,hg,Z,hc⟩:=h8.rd;exact aM hV H X I (M a w g _ Y) ⟨u.1,u.2.1,λ_ _ _=>⟨g,og,c,by rw[Bb],hg,Z,hc⟩⟩ id rfl
     ·grind
   ·grind
  ·grind
 |_=>simp[ht]at h
theorem rD (hV:ax V)(hT:TOk P T)(Y:bH V o){t:TypeId}{x i:Operand}(a3:o.op=.indexAddr t x i)(h:act Γ T o st κ=some r):bR P V o st κ r:=by
 simp only[act,wrU,a3]at h;split at h
 ·rename_i k n hi;cases ht:T t with
  |slice E e b0 =>
   simp only[ht]at h;have h1:=hT t;rw[ht]at h1;obtain⟨hu,_,_,bn,_,ti,z,b2,ad,_⟩:=h1;have hE:bJ P E e.cells:=by simp[bJ,b2,ad]
   have a2:∀ (W:Wit) (a:Act) (w:World) (g o' X I:Nat),an P V W st a w->0<=n->n<X->a.eval x=.slice (some ⟨g,o',none⟩) X I ->
     (execOp a.eval o).run P w=.ok (.value (.pointer (some ⟨g,o'+n.toNat*e.cells,none⟩))) w:=by
    intro W a w g o' X I H h0 h1 M;have Z:=da hE w;simp[execOp,a3,M,bw H hi,B5,asIntOf,run_underlying hu,h0,h1,Z,eF]
   split at h
   ·rename_i r' j v O;split at h
    ·rename_i p hh E' e' xs a9;cases u:AT e'.cells e.cells with
     |false=>simp[u]at h
     |true =>
      simp only[u]at h;have u:=AU u;obtain⟨y,hy,h⟩:=BC.1 h;obtain⟨Z,h3,h4⟩:=fW hy;split at h
      ·rename_i d hd;refine⟨_,h,λW a w H=>?_⟩;obtain⟨J,_,_,_⟩:=bk H x (by rw[O];simp);rw[O]at J;obtain⟨h8,h9,b4,bb⟩:=jQ H a9 J;obtain⟨_,b3,ba,ho,b5,_⟩:=h9;rcases ho.2 with ⟨hn,h0⟩|⟨g,a0,b9,_,M,_,_,_⟩
       ·omega
       ·refine aM hV H hd Y (a2 W a w g 0 xs.length a0 H Z h3 M) ⟨by omega,λ_=>⟨g,xs.length,a0,by rw[h8,M],by omega,by simp[u]⟩⟩ id rfl
      ·grind
    ·grind
   ·rename_i p E' e' xs O;cases u:AT e'.cells e.cells with
    |false=>simp[u]at h
    |true =>
     simp only[u]at h;have u:=AU u;obtain⟨y,hy,h⟩:=BC.1 h;obtain⟨Z,h3,h4⟩:=fW hy;split at h
     ·rename_i d hd;refine⟨_,h,λW a w H=>?_⟩;obtain⟨J,_,_,_⟩:=bk H x (by rw[O];simp);rw[O]at J;obtain⟨A,I,M,a6,a5⟩:=J;have M:a.eval x=.slice A xs.length I:=by simpa using M
      obtain⟨g,o',rfl,hg,a4⟩:=a5 (by omega);obtain⟨c,hc,a1⟩:=a4 n.toNat y h4;refine aM hV H hd Y (a2 W a w g o' xs.length I H Z h3 M) ⟨g,o'+n.toNat*e'.cells,c,by rw[u];rfl,?_,hc,a1⟩ id rfl;rcases hg with hg|⟨_,hg⟩
      ·grind
      ·exact .inr (hV.ro g hg)
     ·grind
   ·rename_i p ks ep bl E' e' xs O;cases u:AT e'.cells e.cells&&bj st ks ep with
    |false=>simp[u]at h
    |true =>
     simp only[u]at h;simp only[AW]at u;obtain⟨u,b1⟩:=u;have u:=AU u;obtain⟨y,hy,h⟩:=BC.1 h;obtain⟨Z,h3,h4⟩:=fW hy;split at h
     ·rename_i d hd;refine⟨_,h,λW a w H=>?_⟩;obtain⟨J,_,_,_⟩:=bk H x (by rw[O];simp);rw[O]at J;have h8:=o8 b1 J;obtain⟨A,I,M,a6,a5⟩:=h8.rd;have M:a.eval x=.slice A xs.length I:=by simpa using M
      obtain⟨g,o',rfl,hg,a4⟩:=a5 (by omega);obtain⟨c,hc,a1⟩:=a4 n.toNat y h4;exact aM hV H hd Y (a2 W a w g o' xs.length I H Z h3 M) ⟨J.1,J.2.1,λ_ _ _=>⟨g,o'+n.toNat*e'.cells,c,by rw[u];rfl,hg,hc,a1⟩⟩ id rfl
     ·grind
   ·grind
  |arr e X =>
   simp only[ht]at h;have h1:=hT t;rw[ht]at h1;obtain⟨⟨E,hu,hE,_⟩,_⟩:=h1;split at h
   ·rename_i b off O;cases u:decide (0<=n)&&decide (n<(X:Int)) with
    |false=>simp[u]at h
    |true =>
     simp only[u]at h;simp at u;split at h
     ·rename_i d hd;refine⟨_,h,λW a w H=>?_⟩;obtain⟨J,_,_,_⟩:=bk H x (by rw[O];simp);rw[O]at J;refine aM hV H hd Y (v:=.pointer (some ⟨W.β b,off+n.toNat*e.cells,none⟩)) ?_ ⟨J.1,J.2.1,rfl⟩ id rfl;have Z:=da hE w;simp[execOp,a3,J.2.2,bw H hi,B5,Bh,asIntOf,run_underlying hu,u.1,u.2,Z,eF]
     ·grind
   ·grind
  |_=>simp[ht]at h
 ·grind
theorem wg {t:TypeId}{i:TI}(u:ol P t i)(J:i.cells≠0\/i≠.none)(w:World):(isAgg t).run P w=.ok i.agg w:=by
 cases i with
 |none=>simp[TI.cells]at J
 |struct a I =>
  obtain⟨⟨M,H,_⟩,_⟩:=u;simp[isAgg,run_underlying H,TI.agg]
 |arr e n=>obtain⟨⟨E,H,_⟩,_⟩:=u;simp[isAgg,run_underlying H,TI.agg]
 |ptr=>obtain⟨⟨e,H⟩,_⟩:=u;simp[isAgg,run_underlying H,TI.agg]
 |fn=>obtain⟨⟨x,y,z,H⟩,_⟩:=u;simp[isAgg,run_underlying H,TI.agg]
 |int k=>simp[isAgg,run_underlying u.1,TI.agg]
 |bool=>simp[isAgg,run_underlying u.1,TI.agg]
 |str=>simp[isAgg,run_underlying u.1,TI.agg]
 |slice E e b=>simp[isAgg,run_underlying u.1,TI.agg]
theorem oo {t:TypeId}{i:TI}(u:ol P t i)(z:i≠.none):bJ P t i.cells:=by
 cases i with
 |none=>exact absurd rfl z
 |struct a y=>exact u.2.1
 |arr e n=>exact u.2.2.1
 |ptr=>exact u.2.1
 |fn=>exact u.2.1
 |int k=>exact u.2.1
 |bool=>exact u.2.1
 |str=>exact u.2.1
 |slice E e b=>exact u.2.1
theorem mu {W:Wit}{a:Act}{w:World}(z:an P V W st a w){e:Ty}:∀ (n:Nat) (ls:List Leaf) (cs:List Value) (xs:List e.den),aC P V W st w ls cs->ff st e n ls=some xs ->
  xs.length=n/\∀ (i:Nat) (x:e.den),xs[i]?=some x->∃ G,Rd w G e x ((cs.drop (i*e.cells)).take e.cells)
 |0,ls,cs,xs,_,h=>by
  simp only[ff]at h
  simp_all
 |n+1,ls,cs,xs,H,h=>by
  simp only[ff]at h;split at h
  ·rename_i p x Y O I;simp at h;subst h;obtain⟨M,X⟩:=mu z n _ _ _ (H.drop e.cells) I;refine⟨by simp[M],λi y u=>?_⟩;cases i with
   |zero =>
    simp at u;subst u;exact⟨_,by simpa using ea z (H.take e.cells) O⟩
   |succ i =>
    obtain⟨G,J⟩:=X i y (by simpa using u);rw[Bz]at J
    grind
  ·cases h
theorem wh (hV:ax V)(hT:TOk P T)(Y:bH V o){t:TypeId}{x i:Operand}(M:o.op=.index t x i)(h:act Γ T o st κ=some r):bR P V o st κ r:=by
 simp only[act,wrU,M]at h;split at h
 ·rename_i k n hi;cases hs:T t with
  |str =>
   simp only[hs]at h;split at h
   ·rename_i s hx;obtain⟨y,hy,h⟩:=BC.1 h;split at h
    ·rename_i d hd;refine⟨_,h,λW a w I=>aM hV I hd Y (v:=.int .u8 (y.toNat:Int)) ?_ rfl id rfl⟩;have h1:=hT t;rw[hs]at h1;obtain⟨h2,h3,h4⟩:=fW hy;have h5:s[n.toNat]?=some y:=by
      have h6:=(AV.1 h4);obtain⟨h7,h8⟩:=h6;have h9:n.toNat<s.size:=by rw[Array.length_toList]at h7;exact h7
      rw[getElem?_pos s n.toNat h9];congr 1
     simp[execOp,M,bw I hi,ib I hx,Bx,asIntOf,run_underlying h1.1,h2,h5]
    ·grind
   ·grind
  |arr e X =>
   simp only[hs]at h;have h1:=hT t;rw[hs]at h1;obtain⟨⟨E,hu,hE,O⟩,a4,_⟩:=h1;cases hb:e.flat&&decide ((ar st x).1=.agg)&&AT (ar st x).2.length (X*e.cells)&&!AT e.cells 0 with
   |false=>simp[hb]at h
   |true =>
    simp only[hb]at h;simp only[AW,decide_eq_true_eq]at hb;obtain⟨⟨⟨hf,a2⟩,a3⟩,_⟩:=hb;split at h
    ·rename_i vs hg;obtain⟨y,hy,h⟩:=BC.1 h;split at h
     ·rename_i d hd;refine⟨_,h,λW a w I=>?_⟩;obtain⟨cs,H,hl⟩:=cC I x;rw[a2]at H;have H:a.eval x=.agg cs.toArray:=H;obtain⟨h2,h3,h4⟩:=fW hy;obtain⟨h5,h6⟩:=mu I X _ _ _ hl hg;obtain⟨G,h7⟩:=h6 n.toNat y h4;have h8:Rd w (λ_=>False) e y ((cs.drop (n.toNat*e.cells)).take e.cells):=Rd.flat hf h7;have h9:=h8.len;have J:(isAgg E).run P w=.ok e.isAgg w:=by
       cases Z:P.underlying E with
       |none=>simp[Z]at O
       |some u =>
        simp only[Z,By,BA]at O;rw[<- O];cases u <;> simp[isAgg,run_underlying Z]
      have a0:=da hE w;have hn:n<(X:Int):=by omega
      cases z:e.isAgg with
      |true =>
       have:=dI hV I hd Y (v:=.agg ((cs.drop (n.toNat*e.cells)).take e.cells).toArray) (sh:=.agg) (ls:=cr false e y) ?_ rfl (eE (λ_ h=>h.elim) h8)
       ·exact this
       ·rw[z]at J;simp[execOp,M,bw I hi,H,Bx,asIntOf,run_underlying hu,h2,hn,part,J,a0]
      |false =>
       have a1:e.cells=1:=by cases e <;> first|rfl|simp[Ty.isAgg]at z
       rw[a1]at h8 h9
       match hc:(cs.drop (n.toNat*1)).take 1,h9 with
       |[v],_ =>
        rw[hc]at h8;have:=dI hV I hd Y (v:=v) (sh:=.one) (ls:=cr false e y) (cs:=[v]) ?_ rfl (eE (λ_ h=>h.elim) h8)
        ·exact this
        ·rw[z]at J;have hv:cs[n.toNat]?=some v:=by
          have:((cs.drop (n.toNat*1)).take 1)[0]?=some v:=by rw[hc];rfl
          grind
         simp[execOp,M,bw I hi,H,Bx,asIntOf,run_underlying hu,h2,hn,part,J,a0,a1,hv]
     ·grind
    ·grind
  |_=>simp[hs]at h
 ·grind
theorem nL {t:TypeId}{i:TI}(O:ol P t i)(z:i≠.none){w:World}{g off:Nat}{cs:List Value}(H:cF w g off cs)(y:cs.length=i.cells) :
  ∃ v,(loadVar t ⟨g,off,none⟩).run P w=.ok v w/\dP (be i.agg) v cs:=by
 have J:=wg O (.inr z) w;cases M:i.agg with
 |true =>
  refine⟨.agg cs.toArray,?_,rfl⟩;have X:=da (oo O z) w;have I:=run_loadCells_list (P:=P) w ⟨g,off,none⟩ cs (λj v Y=>by rw[eF];exact H j v Y);rw[y]at I;simp[loadVar,J,M,X,I]
 |false =>
  have u:i.cells=1:=by cases i <;> simp_all [TI.agg,TI.cells]
  rw[u]at y
  match cs,y with
  |[v],_ =>
   have:=H 0 v rfl;rw[Nat.add_zero]at this;exact⟨v,by simp[loadVar,J,M,this],rfl⟩
theorem cF.sub {w:World}{g off:Nat}{cs:List Value}(h:cF w g off cs)(k n:Nat):cF w g (off+k) ((cs.drop k).take n):=by
 intro i v u;rw[BI]at u;split at u
 ·rw[BW]at u;have:=h (k+i) v u
  grind
 ·cases u
theorem Mx.deep {w:World}{G G':Nat->Prop}:∀ {a:Ty} {h:Option Nat} {pos:Nat} {x:a.den} {cs:List Value} {bs:List Nat},a.shy=false->Mx w G a h pos x cs bs->Mx w G' a h pos x cs bs
 |.int _,_,_,_,_,_,_,h=>h
 |.bool,_,_,_,_,_,_,h=>h
 |.str,_,_,_,_,_,_,h=>h
 |.unit,_,_,_,_,_,_,h=>h
 |.hdr,_,_,_,_,_,_,h=>h
 |.pair _ _,_,_,_,_,_,u,⟨c1,c2,b1,X,M,e2,J,z⟩=>by
  simp only[Ty.shy,Bi]at u;exact⟨c1,c2,b1,X,M,e2,Mx.deep u.1 J,Mx.deep u.2 z⟩
 |.list m E e,h,pos,xs,cs,bs,u,H=>by
  simp only[Ty.shy,Bi,Bool.not_eq_false']at u;obtain⟨rfl,u⟩:=u;by_cases O:h=some pos
  ·subst O;rw[iF]at H ⊢;exact H
  ·rw[bB O]at H ⊢;obtain⟨v,M,y,I,J,z,Z⟩:=H;refine⟨v,M,y,I,J,z,λj x hj=>?_⟩;obtain⟨c,h4,Y⟩:=Z j x hj;exact⟨c,Mx.deep u h4,Y⟩
theorem OwB.shy {W:Wit}{w:World}{p:Bool}{h:Option (Nat×Nat)}{E:TypeId}{e:Ty}{xs:List e.den}{v:Value}{bs:List Nat}(H:OwB w (gd V W p) h E e xs v bs):OwB w (gd V W (p&&e.shy)) h E e xs v bs:=by
 cases O:e.shy with
 |true=>simpa using H
 |false =>
  obtain⟨u,y,M,z,J⟩:=H;refine⟨u,y,M,z,λj x Y=>?_⟩;obtain⟨c,X,I⟩:=J j x Y;exact⟨c,Mx.deep O X,I⟩
theorem iG (p:Bool)(r j v ep i u:Nat)(h:Option Nat):∀ (a:Ty) (off:Nat) (x:a.den),(gn p r j v ep i u h a off x).length=a.cells
 |.int _,_,_=>rfl
 |.bool,_,_=>rfl
 |.str,_,_=>rfl
 |.unit,_,_=>rfl
 |.hdr,_,_=>rfl
 |.pair a b,off,x=>by simp[gn,Ty.cells,iG p r j v ep i u h a,iG p r j v ep i u h b]
 |.list _ _ _,_,_=>rfl
theorem lI {W:Wit}{w:World}{p:Bool}{r j g len y i sz:Nat}(J:(W.cs r)[j]?=some (.slice (some ⟨g,0,none⟩) len y))(O:i<len)(hg:g∈W.bs r j){hol:Option Nat} :
  ∀ {a:Ty} {pos:Nat} {x:a.den} {cs:List Value} {bs:List Nat},(∀ k∈bs,k∈W.bs r j)->Mx w (gd V W p) a hol pos x cs bs->cF w g (i*sz+pos) cs->aC P V W st w (gn p r j (st r).ver (st EPO).ver i sz hol a pos x) cs
 |.int _,_,_,_,_,_,h,_=>by rw[h.1];exact⟨⟨rfl,id,rfl⟩,trivial⟩
 |.bool,_,_,_,_,_,h,_=>by rw[h.1];exact⟨⟨rfl,id,rfl⟩,trivial⟩
 |.str,_,_,_,_,_,h,_=>by rw[h.1];exact⟨⟨rfl,id,rfl⟩,trivial⟩
 |.unit,_,_,_,_,_,h,_=>by rw[h.1];trivial
 |.hdr,_,_,_,_,_,⟨⟨A,y,e⟩,_⟩,_=>by rw[e];exact⟨⟨⟨A,y,rfl⟩,id,rfl⟩,trivial⟩
 |.pair a b,pos,x,cs,bs,M,⟨c1,c2,b1,b2,e1,e2,Z,Y⟩,X=>by
  subst e1;have hl:=Z.len;refine aC.append (lI J O hg (λk z=>M k (by rw[e2];exact AZ _ z)) Z λq u hu=>X q u ?_)
   (lI J O hg (λk z=>M k (by rw[e2];exact AY _ z)) Y λq u hu=>?_)
  ·grind
  ·have:=X (a.cells+q) u (by rw[<- hl,BM (by omega)];simpa using hu)
   grind
 |.list m E e,pos,xs,cs,bs,M,H,X=>by
  have I:=H.one;simp only[gn];by_cases hp:hol=some pos
  ·have e0:decide (hol=some pos)=true:=decide_eq_true hp;rw[e0];obtain⟨v,rfl,_⟩:=H;exact⟨⟨trivial,id,I v (by simp)⟩,trivial⟩
  ·have e0:decide (hol=some pos)=false:=decide_eq_false hp;rw[e0];cases m with
   |false =>
    rw[cg]at H;obtain⟨A,y,rfl,Y,h3⟩:=H.2;exact⟨⟨⟨A,y,rfl,Y,h3⟩,id,rfl⟩,trivial⟩
   |true =>
    rw[bB hp]at H;obtain⟨v,rfl,hO⟩:=H;have Z:=X 0 v rfl;refine⟨⟨⟨BB _,λk z=>?_,λ_ _ _=>⟨?_,λi' a3 a1 he=>?_⟩⟩,id,I v (by simp)⟩,trivial⟩
    ·grind
    ·obtain⟨a0,a2,h4,h5,h6⟩:=OwB.shy hO;refine r9 h4 (λk z=>.inr ⟨_,BQ _,M k (by rw[h5];exact AZ _ z)⟩) λq x hq=>?_
     obtain⟨c,h7,h8⟩:=h6 q x hq;exact⟨c,h7.rd (λk z=>.inl z) (λk z=>.inr ⟨_,BQ _,M k (by rw[h5];exact AY _ (dG.2 ⟨q,(AV.1 hq).1,z⟩))⟩),h8⟩
    ·grind
theorem jA {W:Wit}{w:World}{p:Bool}{ks:List (Nat×Nat×Nat)}{ep:Nat}(y:ep<=(st EPO).ver)(z:∀ k∈ks,k.2.2<=(st k.1).ver) :
  ∀ {a:Ty} {x:a.den} {cs:List Value},Rd w (λb=>gd V W p b\/∃ k∈ks,b∈W.bs k.1 k.2.1) a x cs->aC P V W st w (kY p ks ep a x) cs
 |.int _,_,_,h=>by rw[show _=_ from h];exact⟨⟨rfl,id,rfl⟩,trivial⟩
 |.bool,_,_,h=>by rw[show _=_ from h];exact⟨⟨rfl,id,rfl⟩,trivial⟩
 |.str,_,_,h=>by rw[show _=_ from h];exact⟨⟨rfl,id,rfl⟩,trivial⟩
 |.unit,_,_,h=>by rw[show _=_ from h];trivial
 |.hdr,_,_,⟨A,u,e⟩=>by rw[e];exact⟨⟨⟨A,u,rfl⟩,id,rfl⟩,trivial⟩
 |.pair _ _,_,_,⟨X,Y,e,J,H⟩=>by rw[e];exact (jA y z J).append (jA y z H)
 |.list m E e,Z,_,h=>by
  obtain⟨A,u,rfl,H,I⟩:=h;exact⟨⟨⟨y,z,λ_ _ _=>⟨⟨A,u,rfl,H,I⟩,λi O off M=>by cases M⟩⟩,id,rfl⟩,trivial⟩
theorem yY {W:Wit}{a:Act}{w:World}(hr:an P V W st a w){r j n g len I i:Nat}{p:Bool}{X:Option (Nat×Nat)}{E:TypeId}{e:Ty}{xs:List e.den}{y:e.den}(h8:(st r).ver=n)(h9:(st r).ls[j]?=some (.own p X E e xs))
  (H:(W.cs r)[j]?=some (.slice (some ⟨g,0,none⟩) len I)) (M:i<len) (hy:xs[i]?=some y) :
  ∃ c,cF w g (i*e.cells) c/\aC P V W st w (gn p r j n (st EPO).ver i e.cells (cB X i) e 0 y) c:=by
 subst h8;obtain⟨_,a0,a2,ho,J,O⟩:=hr.leaf r j _ _ h9 H;obtain⟨c,h1,h2⟩:=O i y hy;have Z:=h1.len;have hi:i<xs.length:=(AV.1 hy).1;have z:len=xs.length:=by
  obtain⟨A,a1,e0,_⟩:=ho.slice
  simp_all
 subst z;have Y:cF w g (i*e.cells) c:=by
  intro q u hu;have hq:=(AV.1 hu).1;rw[ho.cellAt _ (by
   have:i*e.cells+e.cells<=xs.length*e.cells:=by
    have:=Nat.mul_le_mul_right e.cells (show i+1<=xs.length from hi)
    grind
   omega)]
  grind
 refine⟨c,Y,lI H M (by rw[J];simp[BR]) (λk hk=>?_) h1 Y⟩
 grind
theorem xG (hV:ax V)(hT:TOk P T)(b0:bH V o){t:TypeId}{x:Operand}(a4:o.op=.load t x)(h:act Γ T o st κ=some r):bR P V o st κ r:=by
 simp only[act,wrU,a4,lD]at h;have ad:=hT t;have a0:∀ (W:Wit) (a:Act) (w:World) (g off:Nat) (cs:List Value) (ls:List Leaf) (d:Nat),an P V W st a w->o.dst=some d->T t≠.none->a.eval x=.pointer (some ⟨g,off,none⟩)->cF w g off cs ->
   cs.length=(T t).cells->aC P V W st w ls cs->mr P V o st (bZ st [] d (be (T t).agg) ls) a w:=by
  intro W a w g off cs ls d z Y hn O X hl a1;obtain⟨v,h1,h2⟩:=nL ad hn X hl;exact dI hV z Y b0 (v:=v) (by simp[execOp,a4,O,Instr.loadAt,Bh,h1]) h2 a1
 cases M:decide ((T t).cells=0) with
 |true=>simp[M]at h
 |false =>
  simp only[M]at h;have M:(T t).cells≠0:=of_decide_eq_false M;have Z:T t≠.none:=by intro e;rw[e]at M;exact M rfl
  split at h
  ·rename_i p b y off J;cases u:decide (off+(T t).cells<=b.cells) with
   |false=>simp[u]at h
   |true =>
    simp only[u]at h;split at h
    ·rename_i d Y;refine⟨_,h,λW a w z=>?_⟩;obtain⟨H,_,_,_⟩:=bk z x (by rw[J];simp);rw[J]at H;obtain⟨g,og,c,O,hg,I,X⟩:=H;refine a0 W a w g _ ((c.drop off).take (T t).cells) _ d z Y Z O (X.sub off _) ?_ (((eE (λ_ h=>h) I).drop off).take _);have:=I.len
     grind
    ·grind
  ·rename_i b off J;cases u:decide ((st b).sh=.agg)&&decide (off+(T t).cells<=(st b).ls.length) with
   |false=>simp[u]at h
   |true =>
    simp only[u]at h;split at h
    ·rename_i d Y;refine⟨_,h,λW a w z=>?_⟩;obtain⟨H,_,_,_⟩:=bk z x (by rw[J];simp);rw[J]at H;obtain⟨hB,b5,O⟩:=H;rcases z.boxes b hB with ⟨h8,_⟩|⟨_,E,h8⟩
     ·grind
     ·have X:cF w (W.β b) 0 (W.cs b):=λi v O=>by
       rw[Bq,cell_of_row w (W.β b) i _ E (0,0) h8]
       simp_all
      have b2:=z.len b;have a3:=X.sub off (T t).cells;rw[Bq]at a3;refine a0 W a w (W.β b) off _ _ d z Y Z O a3 ?_ (((ia z b).drop off).take _)
      grind
    ·grind
  ·rename_i p b y J;cases u:AT (T t).cells 1&&!(T t).agg with
   |false=>simp[u]at h
   |true =>
    simp only[u]at h;simp only[AW,BZ]at u;split at h
    ·rename_i d Y;refine⟨_,h,λW a w z=>?_⟩;obtain⟨H,_,_,_⟩:=bk z x (by rw[J];simp);rw[J]at H;obtain⟨q,oq,g,og,c,O,_,a2,hg,I,X⟩:=H;have:=a0 W a w q oq [.pointer (some ⟨g,og,none⟩)] [.rp p b y 0] d z Y Z O (λi v hi=>by
      cases i with
      |zero=>simp at hi;subst hi;exact a2
      |succ i=>simp at hi) (by simp[AU u.1]) ⟨⟨⟨g,og,c,rfl,hg,I,X⟩,id,rfl⟩,trivial⟩
     rw[u.2]at this;exact this
    ·grind
  ·rename_i p ks ep b y off J;cases u:bj st ks ep&&decide (off+(T t).cells<=b.cells) with
   |false=>simp[u]at h
   |true =>
    simp only[u]at h;simp at u;split at h
    ·rename_i d Y;refine⟨_,h,λW a w z=>?_⟩;obtain⟨H,_,_,_⟩:=bk z x (by rw[J];simp);rw[J]at H;have h8:NpOk V W w p ks b y off _:=H.2.2 (ci u.1).1 (ci u.1).2.1 (ci u.1).2.2;obtain⟨g,og,c,O,hg,I,X⟩:=h8.rd;refine a0 W a w g _ ((c.drop off).take (T t).cells) _ d z Y Z O (X.sub off _) ?_ (((jA H.1 H.2.1 I).drop off).take _);have:=I.len
     grind
    ·grind
  ·rename_i r' j v i sz off J;split at h
   ·rename_i p hh E e xs a5;cases u:AT sz e.cells&&decide (off+(T t).cells<=e.cells) with
    |false=>simp[u]at h
    |true =>
     simp only[u]at h;simp only[AW]at u;have a6:=AU u.1;subst a6;obtain⟨y,hy,h⟩:=BC.1 h;obtain⟨_,_,h4⟩:=fW hy;split at h
     ·rename_i d Y;refine⟨_,h,λW a w z=>?_⟩;obtain⟨H,_,_,_⟩:=bk z x (by rw[J];simp);rw[J]at H;obtain⟨h8,h9⟩:=eL a5 (by simp);obtain⟨g,b4,b3,a9,b1,O⟩:=H.2 h8;obtain⟨c,X,a1⟩:=yY z h8 h9 a9 b1 h4;refine a0 W a w g _ _ _ d z Y Z O (X.sub off _) ?_ ((a1.drop off).take _);have:=a1.length;rw[iG]at this
      grind
     ·grind
   ·grind
  ·grind
end
section
variable {P:Program} {V:Env} {Γ:List Ctr} {T:TypeId->TI} {st:St} {o:Oper} {R:Type} {κ:Upd->Option R} {r:R}
theorem wj (hV:ax V)(hT:TOk P T)(O:bH V o){t:TypeId}{x:Operand}{f:Nat}(J:o.op=.field t x f)(h:act Γ T o st κ=some r):bR P V o st κ r:=by
 simp only[act,wrU,J]at h;cases ht:T t with
 |struct b a2 =>
  simp only[ht]at h;split at h
  ·rename_i off n agg hf;have h1:=hT t;rw[ht]at h1;obtain⟨⟨fs,hu,_,a1⟩,_⟩:=h1;obtain⟨I,Z,h2,h3,h4,h5,h6,Y⟩:=a1 f off n agg hf;cases X:decide ((ar st x).1=.agg)&&decide ((ar st x).2.length=b.cells) with
   |false=>simp[X]at h
   |true =>
    simp only[X,cond_true]at h;simp only[AW,decide_eq_true_eq]at X;split at h
    ·rename_i d hd;refine⟨_,h,λW a w hr=>?_⟩;obtain⟨u,hs,hl⟩:=cC hr x;rw[X.1]at hs;have M:=hl.length;rw[X.2]at M;have z:(isAgg Z.type).run P w=.ok agg w:=by
      unfold isAgg;cases H:P.underlying Z.type with
      |none=>simp[H]at Y
      |some dd =>
       rw[H]at Y;simp only[By,BA]at Y;subst Y;rw[BJ,run_underlying H w];cases dd <;> rfl
     have a0:=da h6 w;cases agg with
     |true =>
      refine dI hV hr hd O (v:=.agg ((u.drop off).take n).toArray) ?_ rfl ((hl.drop off).take n);have e:u.toArray.extract off (off+n)=((u.drop off).take n).toArray:=by
       rw[List.extract_toArray,List.extract_eq_take_drop,Nat.add_sub_cancel_left]
      have hp:(part Z.type u.toArray off).run P w=.ok (.agg ((u.drop off).take n).toArray) w:=by
       simp only[part,BJ,z,BF,if_true,a0,BN,e]
      simp only[execOp,J,show a.eval x=_ from hs,B9,BJ,run_underlying hu,BF,h2,asAgg,BN,h3,hp]
     |false =>
      have I:=I rfl;subst I;have y:off<u.length:=by omega
      have hv:((u.drop off).take 1)=[u[off]]:=by
       rw[List.take_one,List.head?_drop,AX y];rfl
      refine dI hV hr hd O (v:=u[off]) ?_ (show dP .one _ ((u.drop off).take 1) from hv) ((hl.drop off).take 1);have e:u.toArray[off]?=some u[off]:=by simp[y]
      have hp:(part Z.type u.toArray off).run P w=.ok u[off] w:=by
       simp only[part,BJ,z,BF,Bool.false_eq_true,if_false,e,BN]
      simp only[execOp,J,show a.eval x=_ from hs,B9,BJ,run_underlying hu,BF,h2,asAgg,BN,h3,hp]
    ·cases h
  ·cases h
 |_=>simp[ht]at h
theorem zZ {α:Type}(u y:List α)(off:Nat)(h:off+y.length<=u.length):(u.take off++y++u.drop (off+y.length)).length=u.length:=by
 simp;omega
theorem kI (cs c:List Value)(off:Nat)(h:off+c.length<=cs.length) :
  (c.zipIdx 0).foldl (λcs (x:Value×Nat)=>cs.setIfInBounds (off+x.2) x.1) cs.toArray=(cs.take off++c++cs.drop (off+c.length)).toArray:=by
 obtain⟨H,z⟩:=Great.foldl_set off c 0 cs.toArray;apply Array.ext_getElem?;intro k;rw[z k];simp only[Nat.add_zero,List.size_toArray,List.getElem?_toArray];by_cases y:off<=k/\k<off+c.length/\k<cs.length
 ·rw[if_pos y,BS,BM (by simp;omega),BX (by simp;omega)];congr 1;simp;omega
 ·rw[if_neg y];by_cases u:k<off
  ·rw[BS,BX (by simp;omega),BI,if_pos u]
  ·rw[BM (by simp;omega),BW];congr 1;simp;omega
theorem gF {agg:Bool}{v:Value}{cs:List Value}(h:dP (be agg) v cs)(y:∀ u∈cs,u.oneCell'=true):v.cells=cs.toArray:=by
 cases agg with
 |true=>rw[show v=_ from h];rfl
 |false =>
  have h:cs=[v]:=h;subst h;have:=y v (Bp.2 rfl);cases v <;> first|rfl|simp[BD]at this
theorem lJ {W:Wit}{a:Act}{w:World}(hr:an P V W st a w){z:List (Nat×Nat×Bool)}{pl:Nat->Option (Nat×Nat)}(J:∀ (i off n:Nat) (agg:Bool),z[i]?=some (off,n,agg)->pl i=some (off,n)):∀ (ps:List (Nat×Operand)) (ls u:List Leaf) (cs:List Value),
  aC P V W st w ls cs->eU st z ps ls=some u ->
  ∃ y,aC P V W st w u y/\Instr.fill pl cs.toArray (ps.map λx=>(x.1,a.eval x.2))=some y.toArray
 |[],ls,u,cs,O,h=>by
  simp[eU]at h;subst h;exact⟨cs,O,rfl⟩
 |(i,x)::ps,ls,u,cs,O,h=>by
  simp only[eU]at h;split at h
  ·rename_i off n agg hf;cases X:AT (ar st x).2.length n&&decide ((ar st x).1=be agg)&&decide (off+n<=ls.length) with
   |false=>simp[X]at h
   |true =>
    simp only[X,cond_true]at h;simp only[AW,decide_eq_true_eq]at X;obtain⟨⟨M,Z⟩,a3⟩:=X;have M:=AU M;obtain⟨c,hs,I⟩:=cC hr x;rw[Z]at hs;have hc:=gF hs I.one';have a1:=O.length;have H:=I.length;have a0:aC P V W st w (jf ls (ar st x).2 off) (cs.take off++c++cs.drop (off+c.length)):=by
     unfold jf;rw[H];exact ((O.take off).append I).append (O.drop _)
    obtain⟨y,h1,h2⟩:=lJ hr J ps _ u _ a0 h;refine⟨y,h1,?_⟩;simp only[B4,Instr.fill];have Y:pl i=some (off,n):=J _ _ _ _ hf;have a2:c.toArray.size=n:=by simp;omega
    simp only[Y,hc];rw[if_neg (by simp;omega)];have e:c.toArray.zipIdx.foldl (λcs (x:Value×Nat)=>cs.setIfInBounds (off+x.2) x.1) cs.toArray=(c.zipIdx 0).foldl (λcs (x:Value×Nat)=>cs.setIfInBounds (off+x.2) x.1) cs.toArray:=by
     rw[<- Array.foldl_toList];simp
    have e2:=kI cs c off (by omega);rw[<- e2,<- e]at h2;exact h2
  ·cases h
theorem lh {W:Wit}{w:World}:∀ (b:Ty),aC P V W st w (eB b) (zeroCells b)
 |.int _=>⟨⟨rfl,id,rfl⟩,trivial⟩
 |.bool=>⟨⟨rfl,id,rfl⟩,trivial⟩
 |.str=>⟨⟨rfl,id,rfl⟩,trivial⟩
 |.unit=>trivial
 |.pair a b=>(lh a).append (lh b)
 |.hdr=>⟨⟨rfl,id,rfl⟩,trivial⟩
 |.list _ _ _=>⟨⟨rfl,id,rfl⟩,trivial⟩
theorem ot {W:Wit}{w:World}(e:Ty):∀ (n:Nat),aC P V W st w (BK n (eB e)).flatten (BK n (zeroCells e)).flatten
 |0=>trivial
 |n+1=>by
  rw[Bl,Bl,Bs,Bs];exact (lh e).append (ot e n)
theorem wk (hV:ax V)(hT:TOk P T)(Z:bH V o){t:TypeId}{u:Array (Nat×Operand)}(O:o.op=.build t u)(h:act Γ T o st κ=some r):bR P V o st κ r:=by
 simp only[act,wrU,O]at h;cases ht:T t with
 |struct b X =>
  simp only[ht]at h;split at h
  ·rename_i ls M;split at h
   ·rename_i d hd;refine⟨_,h,λW a w hr=>?_⟩;have Y:=hT t;rw[ht]at Y;obtain⟨⟨fs,hu,a0,_⟩,_,H,_⟩:=Y;obtain⟨z,h2,h3⟩:=lJ hr (pl:=((X.map λx=>(x.1,x.2.1)).toArray[·]?)) (λi off n agg I=>by simp[I]) u.toList _ ls _ (lh b) M;refine dI hV hr hd Z (v:=.agg z.toArray) ?_ rfl h2;have y:P.built t (u.map λ (i,x)=>(i,a.eval x)).toList=some z.toArray:=by
     unfold dK at H;unfold B6;cases hi:P.info? t with
     |none=>simp[hi]at H
     |some ti =>
      simp[hi]at H;simp only[hu,H,a0];rw[Be];exact h3
    simp[execOp,O,run_build w t _ _ y]
   ·cases h
  ·cases h
 |arr e n =>
  simp only[ht]at h;split at h
  ·rename_i ls M;split at h
   ·rename_i d hd;refine⟨_,h,λW a w hr=>?_⟩;have Y:=hT t;rw[ht]at Y;obtain⟨⟨E,hu,hE,_⟩,_,_,H⟩:=Y;obtain⟨z,h2,h3⟩:=lJ hr (pl:=λi=>some (i*e.cells,e.cells)) (λi off n agg I=>by
     rw[Br]at I;obtain⟨j,hj,I⟩:=BH.1 I;rw[List.getElem?_range (by simpa using (AV.1 hj).1)]at hj;simp only[BA]at hj;subst hj;simp only[B3]at I;simp[<- I.1,<- I.2.1]) u.toList _ ls _ (ot e n) M
    refine dI hV hr hd Z (v:=.agg z.toArray) ?_ rfl h2;have y:P.built t (u.map λ (i,x)=>(i,a.eval x)).toList=some z.toArray:=by
     unfold dK at H;unfold bJ at hE;unfold B6;cases hi:P.info? t with
     |none=>simp[hi]at H
     |some ti =>
      simp[hi]at H;cases J:P.info? E with
      |none=>simp[J]at hE
      |some ie =>
       simp[J]at hE;simp only[hu,H,J,hE];rw[Be];exact h3
    simp[execOp,O,run_build w t _ _ y]
   ·cases h
  ·cases h
 |_=>simp[ht]at h
theorem mv {W:Wit}{a:Act}{w:World}(z:an P V W st a w){x:Option Operand}{u n:Int}(h:cW st x u=some n) :
  (x=none/\n=u)\/∃ y k,x=some y/\a.eval y=.int k n:=by
 unfold cW at h;split at h
 ·simp at h;exact .inl ⟨rfl,h.symm⟩
 ·split at h
  ·rename_i l k m H;simp at h;subst h;exact .inr ⟨_,k,rfl,bw z H⟩
  ·cases h
theorem jB (u:Bool)(len y:Nat)(a0:len<=y)(I O:Option Value)(i h:Int)(X:0<=i)(M:i<=h)(hh:h<=len)(H:(I=none/\i=0)\/∃ k,I=some (.int k i))
  (J:(O=none/\h=len)\/∃ k,O=some (.int k h)) (w:World):(Bt u len y I O none).run P w=.ok (i.toNat,h.toNat,y) w:=by
 have Y:0<=h:=by omega
 have Z:h<=(y:Int):=by omega
 have z:i<=((h.toNat:Nat):Int):=by omega
 rcases H with ⟨rfl,rfl⟩|⟨k,rfl⟩ <;> rcases J with ⟨rfl,rfl⟩|⟨k',rfl⟩ <;>
  simp[Bt,Instr.sliceBound,asIntOf,X,Y,Z,z,M,-Int.ofNat_toNat]
theorem iX (X:ax V){W:Wit}{a:Act}{w:World}(I:an P V W st a w){x:Operand}{l:Leaf}(y:aD st (one st x)=l)(M:l≠.dead)(z:¬ am l):aI P V W st w [] l (a.eval x):=by
 have H:one st x≠.dead:=by intro e;rw[e]at y;exact M y.symm
 obtain⟨O,J,_⟩:=bk I x H;rcases lH X I O J with ⟨_,_,_,_,u,_⟩|⟨_,u⟩
 ·rw[y]at u;exact absurd u z
 ·rw[y]at u;exact u
theorem wm (X:ax V){W:Wit}{a:Act}{w:World}(M:an P V W st a w){x:Operand}{p:Bool}{ks:List (Nat×Nat×Nat)}{ep:Nat}{y:Option (Nat×Nat×Nat)}{E:TypeId}{e:Ty}{xs:List e.den}
  (u:aD st (one st x)=.nal p ks ep y E e xs):aI P V W st w [] (.nal p ks ep y E e xs) (a.eval x)/\bj st ks ep=true:=by
 refine⟨iX X M u (by simp) (by simp[am]),?_⟩;generalize one st x=l at u;cases l with
 |nal Y I z J E' Z O =>
  simp only[aD]at u;cases H:bj st I z with
  |false=>simp[H]at u
  |true =>
   simp only[H,cond_true]at u;cases u;exact H
 |al r j n=>exact absurd u is
 |_=>simp[aD]at u
theorem tM (hV:ax V){W:Wit}{a:Act}{w:World}(J:an P V W st a w){x:Operand}{p:Bool}{z:Option (Nat×Nat)}{E:TypeId}{e:Ty}{xs:List e.den}(u:aD st (one st x)=.own p z E e xs) :
  ∃ r i n,one st x=.al r i n/\(st r).ls[i]?=some (.own p z E e xs)/\OwH w (gd V W p) z E e xs (a.eval x) (W.bs r i)/\(W.cs r)[i]?=some (a.eval x)/\(st r).ver=n:=by
 have H:one st x≠.dead:=by intro e;rw[e]at u;cases u
 obtain⟨I,O,_⟩:=bk J x H;rcases lH hV J I O with ⟨r,i,n,M,_,_,_⟩|⟨y,_⟩
 ·rw[M]at u I;obtain⟨y,Z,Y,X⟩:=jQ J u I;exact⟨r,i,n,M,Y,Z,y,X⟩
 ·rw[u]at y;exact absurd trivial y
theorem goes_frz (H:ax V){W:Wit}{a:Act}{w:World}(h:an P V W st a w){d:Nat}(z:o.dst=some d)(u:bH V o)(ks:List (Nat×Nat)){v:Value}{sh:aG}{ls:List Leaf}{cs:List Value}
  (y:(execOp a.eval o).run P w=.ok (.value v) w) (J:dP sh v cs) (M:aC P V (W.frz st ks) (ac (aE st ks) st) w ls cs):mr P V o st (bZ st (aE st ks) d sh ls) a w:=by
 intro next Q I;refine dH y ?_;rw[z];refine I _ _ ?_;rw[bZ,aN];exact (lf H ks h).1.putLs H d (u d z).1 (u d z).2 _ sh ls v cs (Bd _) J M
theorem cF.shift {w:World}{g o:Nat}{c:List Value}{k s j:Nat}(h:cF w g (o+(k+j)*s) c):cF w g (o+k*s+j*s) c:=by
 rwa [Bb,<- Nat.add_mul]
theorem Rd.cut {w:World}{G:Nat->Prop}{E:TypeId}{e:Ty}{xs:List e.den}{A:Option Addr}{u:Nat}(h:Rd w G (.list false E e) xs [.slice A xs.length u])(i n:Nat)(a0:i<=n)(hn:n<=xs.length) :
  Rd w G (.list false E e) ((xs.take n).drop i) [.slice (if u=i then A else A.map (·.add (i*e.cells))) (n-i) (u-i)]:=by
 obtain⟨A',M,J,hc,O⟩:=h;simp at J;obtain⟨rfl,rfl⟩:=J;have H:((xs.take n).drop i).length=n-i:=by simp;omega
 refine⟨_,u-i,by rw[H],by rw[H];omega,λY=>?_⟩;rw[H]at Y;obtain⟨g,o,rfl,X,I⟩:=O (by omega);refine⟨g,o+i*e.cells,?_,X,λj x y=>?_⟩
 ·rw[if_neg (by omega)];simp[eF]
 ·rw[BW,BI]at y;split at y
  ·obtain⟨c,Z,z⟩:=I (i+j) x y;exact⟨c,Z,z.shift⟩
  ·cases y
theorem uW (hV:ax V)(hT:TOk P T)(a9:bH V o){t:TypeId}{x:Operand}{lo hi:Option Operand}(a5:o.op=.slice t x lo hi none)(h:act Γ T o st κ=some r):bR P V o st κ r:=by
 simp only[act,wrU,a5]at h;cases hd:o.dst with
 |none=>simp[hd]at h
 |some d =>
  simp only[hd]at h;split at h
  ·cases h
  ·rename_i i a6;have h1:=hT t;have Y:∀ (W:Wit) (a:Act) (w:World) (y:Option Operand) (a1 n:Int),an P V W st a w->cW st y a1=some n->(y.map a.eval=none/\n=a1)\/∃ k,y.map a.eval=some (.int k n):=by
    intro W a w y a1 n O H;rcases mv O H with ⟨rfl,rfl⟩|⟨z,k,rfl,hz⟩
    ·exact .inl ⟨rfl,rfl⟩
    ·exact .inr ⟨k,by simp[hz]⟩
   split at h
   ·rename_i s ht hx;rw[ht]at h1;split at h
    ·rename_i n a0;cases H:decide (0<=i)&&decide (i<=n)&&decide (n<=(s.size:Int)) with
     |false=>simp[H]at h
     |true =>
      simp only[H,cond_true]at h;simp only[AW,decide_eq_true_eq]at H;refine⟨_,h,λW a w O=>aM hV O hd a9 (v:=.string (s.extract i.toNat n.toNat)) ?_ rfl id rfl⟩;have M:=jB (P:=P) false s.size s.size (BB _) (lo.map a.eval) (hi.map a.eval) i n H.1.1 H.1.2 H.2 (Y W a w lo 0 i O a6) (Y W a w hi _ n O a0) w;have b4:a.eval x=.string s:=(iX hV O hx (by simp) (by simp[am]));simp[execOp,a5,b4,Bc,Bj,run_underlying h1.1,M]
    ·cases h
   ·rename_i E' e' a4 p ks ep b5 E e xs ht hx;rw[ht]at h1;obtain⟨hu,_,_,_,_,ti,z,a3,a2,_⟩:=h1;split at h
    ·rename_i n a0;cases H:decide (0<=i)&&decide (i<=n)&&decide (n<=(xs.length:Int))&&AT e'.cells e.cells with
     |false=>simp[H]at h
     |true =>
      simp only[H,cond_true]at h;simp only[AW,decide_eq_true_eq]at H;obtain⟨H,I⟩:=H;have I:=AU I;refine⟨_,h,λW a w O=>?_⟩;obtain⟨hl,b3⟩:=wm hV O hx;have h8:=o8 b3 hl;obtain⟨A,u,hv,J,Z⟩:=h8.rd;have hv:a.eval x=.slice A xs.length u:=by simpa using hv
      have M:=jB (P:=P) true xs.length u J (lo.map a.eval) (hi.map a.eval) i n H.1.1 H.1.2 H.2 (Y W a w lo 0 i O a6) (Y W a w hi _ n O a0) w;have hE:=da (P:=P) (t:=E') (n:=e.cells) (by simp[bJ,a3,a2,I]) w;have X:=Rd.cut (E:=E) (⟨A,u,rfl,J,Z⟩:Rd w _ (.list false E e) xs [.slice A xs.length u]) i.toNat n.toNat (by omega) (by omega);refine aM hV O hd a9 (v:=.slice (if u=i.toNat then A else A.map (·.add (i.toNat*e.cells))) (n.toNat-i.toNat) (u-i.toNat)) ?_ ⟨hl.1,hl.2.1,λ_ _ _=>⟨X,λi' sz off he=>by cases he⟩⟩ id rfl;simp only[execOp,a5,hv,Bc,Bj,BJ,run_underlying hu,BF,Bf,M,hE,BN]
    ·cases h
   ·rename_i E' e' a4 p E e xs ht hx;rw[ht]at h1;obtain⟨hu,_,_,_,_,ti,z,a3,a2,_⟩:=h1;split at h
    ·rename_i n a0;cases H:decide (0<=i)&&decide (i<=n)&&decide (n<=(xs.length:Int))&&AT e'.cells e.cells with
     |false=>simp[H]at h
     |true =>
      simp only[H,cond_true]at h;simp only[AW,decide_eq_true_eq]at H;obtain⟨H,I⟩:=H;have I:=AU I;refine⟨_,h,λW a w O=>?_⟩;have hl:=iX hV O hx (by simp) (by simp[am]);obtain⟨A,u,hv,J,Z⟩:=hl;have hv:a.eval x=.slice A xs.length u:=by simpa using hv
      have M:=jB (P:=P) true xs.length u J (lo.map a.eval) (hi.map a.eval) i n H.1.1 H.1.2 H.2 (Y W a w lo 0 i O a6) (Y W a w hi _ n O a0) w;have hE:=da (P:=P) (t:=E') (n:=e.cells) (by simp[bJ,a3,a2,I]) w;have X:=Rd.cut (E:=E) (⟨A,u,rfl,J,Z⟩:Rd w (gd V W p) (.list false E e) xs [.slice A xs.length u]) i.toNat n.toNat (by omega) (by omega);refine aM hV O hd a9 (v:=.slice (if u=i.toNat then A else A.map (·.add (i.toNat*e.cells))) (n.toNat-i.toNat) (u-i.toNat)) ?_ X id rfl;simp only[execOp,a5,hv,Bc,Bj,BJ,run_underlying hu,BF,Bf,M,hE,BN]
    ·cases h
   ·rename_i E' e' a4 p E e xs ht hx;rw[ht]at h1;obtain⟨hu,_,_,_,_,ti,z,a3,a2,_⟩:=h1;split at h
    ·rename_i n a0;cases H:decide (0<=i)&&decide (i<=n)&&decide (n<=(xs.length:Int))&&AT e'.cells e.cells with
     |false=>simp[H]at h
     |true =>
      simp only[H,cond_true]at h;simp only[AW,decide_eq_true_eq]at H;obtain⟨H,I⟩:=H;have I:=AU I;split at h
      ·rename_i r' j n' e1;refine⟨_,h,λW a w O=>?_⟩;obtain⟨r1,j1,n1,b2,h2,b1,_,ad⟩:=tM hV O hx;rw[e1]at b2;obtain⟨rfl,rfl,rfl⟩:r'=r1/\j=j1/\n'=n1:=by cases b2;exact⟨rfl,rfl,rfl⟩
       obtain⟨A,u,hv,J⟩:=b1.slice;have M:=jB (P:=P) true xs.length u J (lo.map a.eval) (hi.map a.eval) i n H.1.1 H.1.2 H.2 (Y W a w lo 0 i O a6) (Y W a w hi _ n O a0) w;have hE:=da (P:=P) (t:=E') (n:=e.cells) (by simp[bJ,a3,a2,I]) w;have b0:=OwH.rd (m:=false) (E':=E) b1;rw[hv]at b0;have X:=Rd.cut b0 i.toNat n.toNat (by omega) (by omega);refine aM hV O hd a9 (v:=.slice (if u=i.toNat then A else A.map (·.add (i.toNat*e.cells))) (n.toNat-i.toNat) (u-i.toNat)) ?_
        ⟨BB _,λk hk=>?_,λ_ _ _=>⟨Rd.mono (λk hk=>?_) X,λi' sz off he=>by cases he⟩⟩ id rfl
       ·simp only[execOp,a5,hv,Bc,Bj,BJ,run_underlying hu,BF,Bf,M,hE,BN]
       ·simp only[Bp]at hk;subst hk;exact Nat.le_of_eq ad.symm
       ·rcases hk with hk|hk
        ·exact .inl hk
        ·exact .inr ⟨_,BQ _,hk⟩
      ·cases h
    ·cases h
   ·cases h
theorem yZ (hV:ax V)(hT:TOk P T)(J:bH V o){c:Call}(X:o.op=.call c)(hc:c.callee=.builtin .len)(h:act Γ T o st κ=some r):bR P V o st κ r:=by
 simp only[act,wrU,X,hc]at h;split at h
 ·cases h
 ·rename_i d hd;simp only[hd]at h;split at h
  ·rename_i x hx;split at h
   ·rename_i t ht;have y:c.args=#[x]:=by rw[<- Bk (xs:=c.args),hx]
    have I:c.argTypes=#[t]:=by rw[<- Bk (xs:=c.argTypes),ht]
    have Y:=hT t;have O:∀ (a:Act) (w:World) (n:Int),(Bu #[t] o.type #[a.eval x]).run P w=.ok (.int .i64 n) w->(execOp a.eval o).run P w=.ok (.value (.int .i64 n)) w:=by
     intro a w n H;simp[execOp,X,hc,resolve,invoke,builtin,y,I,H]
    split at h
    ·rename_i E e b u;rw[u]at Y;split at h
     ·rename_i n H;refine⟨_,h,λW a w z=>aM hV z hd J (O a w _ ?_) rfl id rfl⟩;have a1:one st x≠.dead:=by intro e;rw[e]at H;simp[aD,fN]at H
      obtain⟨h2,h3,_⟩:=bk z x a1;obtain⟨A,Z,M⟩:=wb z h2 h3 H;have M:a.eval x=.slice A n Z:=by simpa using M
      simp[Bu,run_underlying Y.1,M,goInt]
     ·cases h
    ·rename_i s u a0;rw[u]at Y;refine⟨_,h,λW a w z=>aM hV z hd J (O a w _ ?_) rfl id rfl⟩;have M:a.eval x=.string s:=iX hV z a0 (by simp) (by simp[am]);simp[Bu,run_underlying Y.1,M,goInt]
    ·cases h
   ·cases h
  ·cases h
end
end Go.Proofs.YtaegajachoklkaaGreatEv
