/- The value evaluator, second form: what a Go function's code computes, on plain values. No proof here but definitions. -/
import Derived.Calls
import Derived.Orders
import Derived.KernelRfl
import Derived.Below
import Derived.Maps.AppendAt
import Derived.Laws.OwnMore
import Derived.Lib.ConvBytes
import Derived.WalkKit
import Derived.Great.BuildSlice
set_option linter.unusedVariables false
set_option linter.unusedSimpArgs false
open Array renaming getD_eq_getD_getElem?->Ae,toList_map->An,toArray_toList->Ax
open Bool renaming and_eq_true->AD,not_eq_true'->Aj,or_eq_false_iff->Av,not_eq_true->A8
open ByteArray renaming empty->AW
open Go.Act renaming put->BH
open Go.Builtin renaming len_->A7
open Go.Instr renaming sliceAt->Al,sureAddr->Aq,slice->Aw,sliceBounds->A6,index->BB,indexAt->BF,field->BJ
open Go.Program renaming built->BG
open Go.Result renaming andThen_ok->AM
open Go.Sem renaming run_bind->AQ,run_pure->AU
open Go.Value renaming oneCell'->AK,ownBlock->AZ
open Go.World renaming cell?->BI
open List renaming getElem?_eq_some_iff->AC,mem_append_right->AF,getElem?_eq_getElem->AG,mem_append_left->AH,mem_append->AN,getElem?_take->AP,replicate->AR,getD_eq_getElem?_getD->AS,getElem?_append_right->AT,getElem?_append_left->AV,mem_singleton_self->AY,append_assoc->Aa,range->Ab,getElem?_drop->Af,mem_singleton->Ag,extract_eq_take_drop->Ah,any_eq_false->Ak,mem_cons_of_mem->Ap,extract_toArray->Au,replicate_succ->Ay,mem_cons->Az,length_append->A1,mem_cons_self->A2,getElem?_map->A4,flatten_cons->A5,cons_append->A9,drop_drop->BD,map_cons->BE
open Nat renaming beq->AA,eq_of_beq_eq_true->AB,le_refl->AI,le_trans->AL,lt_of_lt_of_le->AX,blt->Ac,add_assoc->Ad,ble->Ai,lt_succ_self->Am,add_mul->Ar,mul_le_mul_right->At,zero_add->A3,one_mul->BA
open Option renaming bind_eq_some_iff->AJ,map_eq_some_iff->AO,map_none->Ao,map_some->BC
open Option.some renaming injEq->AE
open Prod.mk renaming injEq->A0
namespace Go.Proofs.YtmcbmojdeikcdaaGreatEv
open Go
inductive Ty where
 |int (k:IntKind)|bool|str|unit
 |hdr
 |pair (a b:Ty)
 |list (m:Bool) (E:TypeId) (e:Ty)
 deriving DecidableEq
abbrev Ty.den:Ty->Type
 |.int _=>Int
 |.bool=>Bool
 |.str=>ByteArray
 |.unit=>Unit
 |.hdr=>Nat
 |.pair a b=>a.den×b.den
 |.list _ _ e=>List e.den
def Ty.cells:Ty->Nat
 |.unit=>0
 |.pair a b=>a.cells+b.cells
 |_=>1
def Ty.zero:(a:Ty)->a.den
 |.int _=>(0:Int)
 |.bool=>false
 |.str=>AW
 |.unit=>()
 |.hdr=>(0:Nat)
 |.pair a b=>(a.zero,b.zero)
 |.list _ _ e=>([]:List e.den)
def Ty.flat:Ty->Bool
 |.list _ _ _=>false
 |.pair a b=>a.flat&&b.flat
 |_=>true
def Ty.sh:Ty->Ty
 |.pair a b=>.pair a.sh b.sh
 |.list _ E e=>.list false E e.sh
 |a=>a
def Ty.shy:Ty->Bool
 |.list m _ e=>!m||e.shy
 |.pair a b=>a.shy||b.shy
 |_=>false
theorem lG:∀ a:Ty,a.sh.den=a.den
 |.int _|.bool|.str|.unit|.hdr=>rfl
 |.pair a b=>by
  show (a.sh.den×b.sh.den)=(a.den×b.den);rw[lG a,lG b]
 |.list _ _ e=>congrArg List (lG e)
theorem jn {a b:Ty}(h:a.sh=b.sh):a.den=b.den:=(lG a).symm.trans ((congrArg Ty.den h).trans (lG b))
def Ty.eqv:(a:Ty)->a.den->a.den->Bool
 |.int _,x,y=>decide ((x:Int)=y)
 |.bool,x,y=>(x:Bool)==y
 |.str,x,y=>decide ((x:ByteArray)=y)
 |.unit,_,_=>true
 |.hdr,_,_=>false
 |.pair a b,x,y=>a.eqv x.1 y.1&&b.eqv x.2 y.2
 |.list _ _ _,_,_=>false
abbrev Tup:List Ty->Type
 |[]=>Unit
 |a::as=>a.den×Tup as
inductive Leaf where
 |int (k:IntKind) (n:Int)
 |bool (b:Bool)
 |str (s:ByteArray)
 |nil
 |hdr (n:Nat)
 |ro (p:Bool) (E:TypeId) (e:Ty) (xs:List e.den)
 |own (p:Bool) (h:Option (Nat×Nat)) (E:TypeId) (e:Ty) (xs:List e.den)
 |al (r j v:Nat)
 |nal (p:Bool) (ks:List (Nat×Nat×Nat)) (ep:Nat) (loc:Option (Nat×Nat×Nat)) (E:TypeId) (e:Ty) (xs:List e.den)
 |ep (r j v:Nat) (i sz off:Nat)
 |np (p:Bool) (ks:List (Nat×Nat×Nat)) (ep:Nat) (a:Ty) (x:a.den) (off:Nat)
 |rp (p:Bool) (a:Ty) (x:a.den) (off:Nat)
 |rpp (p:Bool) (a:Ty) (x:a.den)
 |bp (b off:Nat)
 |clo (f:FuncId) (caps:List Nat)
 |clr (f:FuncId) (caps:List (Bool×Bool×(a:Ty)×a.den))
 |fn (As:List Ty) (B:Ty) (φ:Tup As->Option B.den)
 |dead
inductive aI where
 |off|und|one|agg
 |tup (ps:List (Bool×Nat))
 deriving DecidableEq
structure bS where
 ver:Nat
 sh:aI
 ls:List Leaf
abbrev St:=Nat->bS
def bS.none:bS:=⟨0,.off,[]⟩
def GH:Nat:=99000
def TMP:Nat:=99998
def EPO:Nat:=99999
def B0:Nat:=100000
abbrev Upd:=List (Nat×bS)
def ac (U:Upd)(st:St)(q:Nat):bS :=
 match U with
 |[]=>st q
 |(r,c)::rest=>bif AA q r then c else ac rest st q
inductive TI where
 |int (k:IntKind)|bool|str
 |slice (E:TypeId) (e:Ty) (bytes:Nat)
 |struct (a:Ty) (flds:List (Nat×Nat×Bool))
 |arr (e:Ty) (n:Nat)
 |ptr|fn
 |none
def gS:List (TypeId×TI)->TypeId->TI
 |[],_=>.none
 |(t,i)::l,u=>bif AA t u then i else gS l u
def TI.cells:TI->Nat
 |.struct a _=>a.cells
 |.arr e n=>n*e.cells
 |.none=>0
 |_=>1
def TI.agg:TI->Bool
 |.struct _ _=>true
 |.arr _ _=>true
 |_=>false
def el:Ty->List Leaf
 |.int k=>[.int k 0]
 |.bool=>[.bool false]
 |.str=>[.str AW]
 |.unit=>[]
 |.hdr=>[.nil]
 |.pair a b=>el a++el b
 |.list _ _ _=>[.nil]
def TI.zero:TI->List Leaf
 |.int k=>[.int k 0]
 |.bool=>[.bool false]
 |.str=>[.str AW]
 |.slice _ _ _=>[.nil]
 |.struct a _=>el a
 |.arr e n=>(AR n (el e)).flatten
 |.ptr=>[.dead]
 |.fn=>[.dead]
 |.none=>[]
def ap (p:Bool):(a:Ty)->a.den->List Leaf
 |.int k,n=>[.int k n]
 |.bool,b=>[.bool b]
 |.str,s=>[.str s]
 |.unit,_=>[]
 |.hdr,n=>[.hdr n]
 |.pair a b,x=>ap p a x.1++ap p b x.2
 |.list m E e,xs=>[bif m then .own (p&&e.shy) none E e xs else .ro p E e xs]
def cz (p:Bool):(a:Ty)->a.den->List Leaf
 |.int k,n=>[.int k n]
 |.bool,b=>[.bool b]
 |.str,s=>[.str s]
 |.unit,_=>[]
 |.hdr,n=>[.hdr n]
 |.pair a b,x=>cz p a x.1++cz p b x.2
 |.list _ E e,xs=>[.ro p E e xs]
def ko (p:Bool)(ks:List (Nat×Nat×Nat))(ep:Nat):(a:Ty)->a.den->List Leaf
 |.int k,n=>[.int k n]
 |.bool,b=>[.bool b]
 |.str,s=>[.str s]
 |.unit,_=>[]
 |.hdr,n=>[.hdr n]
 |.pair a b,x=>ko p ks ep a x.1++ko p ks ep b x.2
 |.list _ E e,xs=>[.nal p ks ep none E e xs]
def fP (p:Bool)(r j v ep i sz:Nat)(h:Option Nat):(a:Ty)->Nat->a.den->List Leaf
 |.int k,_,n=>[.int k n]
 |.bool,_,b=>[.bool b]
 |.str,_,s=>[.str s]
 |.unit,_,_=>[]
 |.hdr,_,n=>[.hdr n]
 |.pair a b,off,x=>fP p r j v ep i sz h a off x.1++fP p r j v ep i sz h b (off+a.cells) x.2
 |.list m E e,off,xs=>[bif decide (h=some off) then .dead else bif m then .nal (p&&e.shy) [(r,j,v)] ep (some (i,sz,off)) E e xs else .ro p E e xs]
def kp (p:Bool)(r j v ep i sz:Nat)(h:Option (Bool×Nat)):(a:Ty)->Nat->a.den->List Leaf
 |.int k,_,n=>[.int k n]
 |.bool,_,b=>[.bool b]
 |.str,_,s=>[.str s]
 |.unit,_,_=>[]
 |.hdr,_,n=>[.hdr n]
 |.pair a b,off,x=>kp p r j v ep i sz h a off x.1++kp p r j v ep i sz h b (off+a.cells) x.2
 |.list m E e,off,xs=>[bif (match h with|some (b,o)=>AA o off&&b|Option.none=>false) then .dead else bif m then .nal (p&&e.shy) [(r,j,v)] ep (some (i,sz,off)) E e xs else .ro p E e xs]
def bj (agg:Bool):aI:=bif agg then .agg else .one
def kq:Leaf->Bool
 |.own _ _ _ _ _=>true
 |_=>false
def br (st:St)(ks:List (Nat×Nat×Nat))(ep:Nat):Bool:=AA (st EPO).ver ep&&ks.all λk=>AA (st k.1).ver k.2.2&&kq ((st k.1).ls.getD k.2.1 .dead)
def nU:Leaf->Leaf
 |.nal _ _ _ _ _ _ _=>.dead
 |l=>l
def aD (st:St):Leaf->Leaf
 |.al r j v=>bif AA (st r).ver v then nU ((st r).ls.getD j .dead) else .dead
 |.nal p ks ep loc E e xs=>bif br st ks ep then .nal p ks ep loc E e xs else .dead
 |l=>l
def kL (t j ver:Nat):Leaf->Leaf
 |.own _ _ _ _ _=>.al t j ver
 |l=>l
def bF (t ver:Nat):Nat->List Leaf->List Leaf
 |_,[]=>[]
 |j,l::ls=>kL t j ver l::bF t ver (j+1) ls
def gH:Value->Option Leaf
 |.int k n=>some (.int k n)
 |.bool b=>some (.bool b)
 |.string s=>some (.str s)
 |.slice Option.none 0 0=>some .nil
 |_=>Option.none
def ar (st:St):Operand->aI×List Leaf
 |.tmp t=>bif Ac t GH then ((st t).sh,bF t (st t).ver 0 (st t).ls) else (.off,[])
 |.const v=>match gH v with
  |some l=>(.one,[l])
  |Option.none=>(.off,[])
 |.func f=>(.one,[.clo f []])
 |.global _=>(.off,[])
def one (st:St)(x:Operand):Leaf :=
 match ar st x with
 |(.one,[l])=>l
 |_=>.dead
def castSh (e e':Ty)(xs:List e'.den):Option (List e.den) :=
 if h:e'.sh=e.sh then some (cast (congrArg List (jn h)) xs) else Option.none
def kM (E:TypeId)(e:Ty)(E':TypeId)(e':Ty)(xs:List e'.den):Option (List e.den) :=
 if h:E'=E/\e'=e then some (h.2 ▸ xs) else Option.none
def cV (e:Ty):Leaf->Option (Bool×List e.den)
 |.ro p _ e' xs=>(castSh e e' xs).map (p,·)
 |.own p none _ e' xs=>(castSh e e' xs).map (p,·)
 |.nal p _ _ _ _ e' xs=>(castSh e e' xs).map (p,·)
 |.nil=>some (false,[])
 |_=>Option.none
def ft:Leaf->Option Nat
 |.ro _ _ _ xs=>some xs.length
 |.own _ _ _ _ xs=>some xs.length
 |.nal _ _ _ _ _ _ xs=>some xs.length
 |.nil=>some 0
 |.hdr n=>some n
 |_=>Option.none
def aZ (st:St):(a:Ty)->List Leaf->Option (Bool×a.den×List Leaf)
 |.int k,ls=>match ls with
  |.int k' n::ls=>if k=k' then some (false,(n:Int),ls) else Option.none
  |_=>Option.none
 |.bool,ls=>match ls with
  |.bool b::ls=>some (false,b,ls)
  |_=>Option.none
 |.str,ls=>match ls with
  |.str s::ls=>some (false,s,ls)
  |_=>Option.none
 |.unit,ls=>some (false,(),ls)
 |.hdr,ls=>match ls with
  |l::ls=>match ft (aD st l) with
   |some n=>some (false,(n:Nat),ls)
   |Option.none=>Option.none
  |_=>Option.none
 |.pair a b,ls=>match aZ st a ls with
  |some (p,x,ls)=>match aZ st b ls with
   |some (q,y,ls)=>some (p||q,(x,y),ls)
   |Option.none=>Option.none
  |Option.none=>Option.none
 |.list _ _ e,ls=>match ls with
  |l::ls=>match cV e (aD st l) with
   |some (p,xs)=>some (p,xs,ls)
   |Option.none=>Option.none
  |_=>Option.none
def cE (st:St)(a:Ty)(ls:List Leaf):Option (Bool×a.den) :=
 match aZ st a ls with
 |some (p,x,[])=>some (p,x)
 |_=>Option.none
structure cA (α:Type) where
 p:Bool
 val:α
 frz:List (Nat×Nat)
 kill:List (Nat×Nat)
 rest:List Leaf
def bB (st:St):List Leaf->List (Nat×Nat)
 |[]=>[]
 |.al r j v::ls=>(match aD st (.al r j v) with|.own _ _ _ _ _=>[(r,j)]|_=>[])++bB st ls
 |.nal p ks ep loc E e xs::ls=>(match aD st (.nal p ks ep loc E e xs) with|.nal _ _ _ _ _ _ _=>ks.map (λk=>(k.1,k.2.1))|_=>[])++bB st ls
 |_::ls=>bB st ls
def bX (st:St):List Leaf->List (Nat×Nat)
 |[]=>[]
 |.al r j v::ls=>(match aD st (.al r j v) with|.own _ _ _ _ _=>[(r,j)]|_=>[])++bX st ls
 |_::ls=>bX st ls
def take (st : St) : (a : Ty) -> List Leaf -> Option (cA a.den)
  |.int k,ls=>(aZ st (.int k) ls).map λx=>⟨false,x.2.1,[],[],x.2.2⟩
  |.bool,ls=>(aZ st .bool ls).map λx=>⟨false,x.2.1,[],[],x.2.2⟩
  |.str,ls=>(aZ st .str ls).map λx=>⟨false,x.2.1,[],[],x.2.2⟩
  |.unit,ls=>some ⟨false,(),[],[],ls⟩
  |.hdr,ls=>(aZ st .hdr ls).map λx=>⟨false,x.2.1,[],[],x.2.2⟩
  |.pair a b,ls=>match take st a ls with
    |some x=>match take st b x.rest with
      |some y=>some ⟨x.p||y.p,(x.val,y.val),x.frz++y.frz,x.kill++y.kill,y.rest⟩
      |Option.none=>Option.none
    |Option.none=>Option.none
  |.list m E e,ls=>match ls with
    |[]=>Option.none
    |l::ls=>bif m then (match l with
        |.al r j v=>match aD st (.al r j v) with
          |.own p none E' e' xs=>(kM E e E' e' xs).map λxs=>⟨p,xs,[],[(r,j)],ls⟩
          |_=>Option.none
        |.nil=>some ⟨false,([]:List e.den),[],[],ls⟩
        |_=>Option.none)
      else match cV e (aD st l) with
        |some (p,xs)=>some ⟨p,xs,bB st [l],[],ls⟩
        |Option.none=>Option.none
def cb (st:St)(a:Ty)(ls:List Leaf):Option (cA a.den) :=
 match take st a ls with
 |some ⟨p,x,f,k,[]⟩=>some ⟨p,x,f,k,[]⟩
 |_=>Option.none
def cR (st:St)(off n:Nat):(a:Ty)->Nat->a.den->List Leaf->Option (cA a.den)
 |.pair a b,pos,x,ls=>match cR st off n a pos x.1 ls with
  |some u=>match cR st off n b (pos+a.cells) x.2 u.rest with
   |some v=>some ⟨u.p||v.p,(u.val,v.val),u.frz++v.frz,u.kill++v.kill,v.rest⟩
   |Option.none=>Option.none
  |Option.none=>Option.none
 |.int k,pos,x,ls=>bif Ai off pos&&Ac pos (off+n) then take st (.int k) ls else some ⟨false,x,[],[],ls⟩
 |.bool,pos,x,ls=>bif Ai off pos&&Ac pos (off+n) then take st .bool ls else some ⟨false,x,[],[],ls⟩
 |.str,pos,x,ls=>bif Ai off pos&&Ac pos (off+n) then take st .str ls else some ⟨false,x,[],[],ls⟩
 |.unit,_,x,ls=>some ⟨false,x,[],[],ls⟩
 |.hdr,_,_,_=>Option.none
 |.list m E e,pos,x,ls=>bif Ai off pos&&Ac pos (off+n) then take st (.list m E e) ls else some ⟨false,x,[],[],ls⟩
def bK (off:Nat)(E:TypeId)(e:Ty)(ys:List e.den):(a:Ty)->Nat->a.den->Option a.den
 |.pair a b,pos,x=>match bK off E e ys a pos x.1 with
  |some u=>some (u,x.2)
  |Option.none=>(bK off E e ys b (pos+a.cells) x.2).map λv=>(x.1,v)
 |.list m E' e',pos,_=>bif m&&AA pos off then kM E' e' E e ys else Option.none
 |.int _,_,_|.bool,_,_|.str,_,_|.unit,_,_|.hdr,_,_=>Option.none
def aw:List Leaf->List Nat
 |[]=>[]
 |.al r _ _::ls=>r::aw ls
 |.ep r _ _ _ _ _::ls=>r::aw ls
 |.nal _ ks _ _ _ _ _::ls=>EPO::ks.map (·.1)++aw ls
 |.np _ ks _ _ _ _::ls=>EPO::ks.map (·.1)++aw ls
 |_::ls=>aw ls
def aR (ls:List Leaf)(j:Nat)(l:Leaf):List Leaf:=ls.set j l
def fu (c:bS)(j:Nat):bS:=⟨c.ver,c.sh,aR c.ls j .dead⟩
def aN (st:St):List (Nat×Nat)->Upd
 |[]=>[]
 |(r,j)::ks=>let U:=aN st ks;let c:=ac U st r;(r,fu c j)::U
def ta:Leaf->Leaf
 |.own p none E e xs=>.ro p E e xs
 |.own _ (some _) _ _ _=>.dead
 |l=>l
def fq (c:bS)(j:Nat):bS:=⟨c.ver,c.sh,aR c.ls j (ta (c.ls.getD j .dead))⟩
def aF (st:St):List (Nat×Nat)->Upd
 |[]=>[]
 |(r,j)::ks=>let U:=aF st ks;let c:=ac U st r;(r,fq c j)::U
def bT (c:bS):bS:=⟨c.ver+1,c.sh,c.ls⟩
def epoU (st:St):Upd:=[(EPO,bT (st EPO))]
def de (st:St):List Leaf->List (Nat×Nat)
 |[]=>[]
 |.nal p ks ep none E e xs::ls=>(match aD st (.nal p ks ep none E e xs) with|.nal _ _ _ _ _ _ _=>ks.map (λk=>(k.1,k.2.1))|_=>[])++de st ls
 |_::ls=>de st ls
def fy (st:St)(l:Leaf):Leaf:=match aD st l with
 |.nal p _ _ none E e xs=>.ro p E e xs
 |l=>l
def dn (st:St)(ls:List Leaf):List Leaf:=ls.map (fy st)
def mvU (st:St)(ls:List Leaf):Upd:=let U:=aF st (de st ls);aN (ac U st) (bX st ls)++U
def aX:List (Nat×Nat)->Bool
 |[]=>true
 |x::xs=>!(xs.any λy=>AA x.1 y.1&&AA x.2 y.2)&&aX xs
def gI (a b:Nat×Nat):Bool:=AA a.1 b.1&&AA a.2 b.2
def dg (a b:List (Nat×Nat)):Bool:=!(a.any λk=>b.any (gI k))
def gw (st:St)(ls:List Leaf):Bool:=aX (bX st ls)&&dg (de st ls) (bX st ls)
def qU (st:St):Operand->Bool
 |.tmp q=>AA (st q).ver 7
 |_=>false
def idx {α:Type}(xs:List α)(i:Int):Option α:=if i<0 then Option.none else xs[i.toNat]?
def iG (old new:List Leaf)(off:Nat):List Leaf:=old.take off++new++old.drop (off+new.length)
def qV (op:BinOp)(k:IntKind)(x y:Int):Option Leaf :=
 match op with
 |.add=>some (.int k (k.wrap (x+y)))
 |.sub=>some (.int k (k.wrap (x-y)))
 |.mul=>some (.int k (k.wrap (x*y)))
 |.eql=>some (.bool (x==y))
 |.neq=>some (.bool (x != y))
 |.lss=>some (.bool (decide (x<y)))
 |.leq=>some (.bool (decide (x<=y)))
 |.gtr=>some (.bool (decide (x>y)))
 |.geq=>some (.bool (decide (x>=y)))
 |_=>Option.none
def be (off:Nat):(a:Ty)->Nat->a.den->Option ((E:TypeId)×(e:Ty)×List e.den)
 |.pair a b,pos,x=>match be off a pos x.1 with
  |some u=>some u
  |Option.none=>be off b (pos+a.cells) x.2
 |.list m E e,pos,xs=>bif m&&AA pos off then some ⟨E,e,xs⟩ else Option.none
 |.int _,_,_|.bool,_,_|.str,_,_|.unit,_,_|.hdr,_,_=>Option.none
def cg (st:St):Leaf->Option (Upd×Leaf)
  |.nal p ks ep loc E e xs=>bif br st ks ep then (match ks,loc with
      | [(r, j, _)], some (i, sz, off) => (match (st r).ls.getD j .dead with
        |.own p' none E' e' xs'=>bif !AA r TMP&&!AA r EPO&&AA sz e'.cells then
            (match xs'[i]? with
            |some y=>match be off e' 0 y with
              |some ⟨E,e,ys⟩=>some ([(r,⟨(st r).ver,(st r).sh,aR (st r).ls j (.own p' (some (i,off)) E' e' xs')⟩),(TMP,⟨(st TMP).ver+1,.one,[.own (p'&&e'.shy) none E e ys]⟩),(EPO,bT (st EPO))],.al TMP 0 ((st TMP).ver+1))
              |Option.none=>Option.none
            |Option.none=>Option.none)
          else Option.none
        |_=>Option.none)
      |_,_=>Option.none)
    else Option.none
  |_=>Option.none
def iy:Leaf->Bool
 |.nal _ _ _ _ _ _ _=>true
 |_=>false
inductive PK where
 |rd (a:Ty)
 |own (a:Ty)
 |io (a:Ty)
 |rref (a:Ty)
 |rref2 (a:Ty)
 |iop (a:Ty)
 |fn (As:List Ty) (B:Ty)
 |clo (f:FuncId) (cs:List (Bool×Ty))
 |hol (a:Ty) (c off:Nat)
 deriving DecidableEq
inductive RK where
 |v (a:Ty)
 |bv (a:Ty)
 |box (a:Ty)
 deriving DecidableEq
abbrev kN:List (Bool×Ty)->Type
 |[]=>Unit
 |c::cs=>c.2.den×kN cs
abbrev PK.den:PK->Type
 |.rd a|.own a|.io a|.rref a|.rref2 a|.iop a=>a.den
 |.fn As B=>Tup As->Option B.den
 |.clo _ cs=>kN cs
 |.hol a _ _=>a.den×Nat
abbrev ab:List PK->Type
 |[]=>Unit
 |p::ps=>p.den×ab ps
abbrev aj:List PK->Type
 |[]=>Unit
 |.io a::ps=>a.den×aj ps
 |.iop a::ps=>a.den×aj ps
 |_::ps=>aj ps
abbrev RK.den:RK->Type
 |.v a|.bv a|.box a=>a.den
abbrev ak:List RK->Type
 |[]=>Unit
 |r::rs=>r.den×ak rs
structure Ctr where
 f:FuncId
 ps:List PK
 rs:List RK
 fresh:Bool
 den:ab ps->Option (ak rs×aj ps)
def Ty.isAgg:Ty->Bool
 |.pair _ _|.unit=>true
 |_=>false
def target (st:St):Leaf->Option (List Leaf)
 |.bp b 0=>bif decide ((st b).sh=.agg) then some (bF b (st b).ver 0 (st b).ls) else none
 |.rp p a x 0=>some (cz p a x)
 |.rpp p a x=>some [.rp p a x 0]
 |_=>none
structure Got (α:Type) where
 p:Bool
 val:α
 frz:List (Nat×Nat)
 kill:List (Nat×Nat)
 see:List Nat
 lend:List Nat
def Got.ofRd {α:Type}(see:List Nat)(x:Bool×α)(frz:List (Nat×Nat)):Got α:=⟨x.1,x.2,frz,[],see,[]⟩
def kO (Γ:List Ctr)(f:FuncId):Option Ctr:=match Γ with
 |[]=>none
 |c::cs=>bif AA c.f f then some c else kO cs f
def ch (x:aI×List Leaf):Leaf :=
 match x with
 |(.one,[l])=>l
 |_=>.dead
def eI:List Leaf->List Nat
 |[]=>[]
 |.bp b _::ls=>b::eI ls
 |_::ls=>eI ls
def eJ (st:St)(c:Bool×Ty)(l:Leaf):Option (Got c.2.den) :=
 bif c.1 then (match target st l with
  |some [l']=>match target st l' with
   |some ls=>(cE st c.2 ls).map λy=>.ofRd (eI [l,l']) y (bB st ls)
   |none=>none
  |_=>none)
 else match target st l with
  |some ls=>(cE st c.2 ls).map λy=>.ofRd (eI [l]) y (bB st ls)
  |none=>none
def ck (st:St):(cs:List (Bool×Ty))->List Leaf->Option (Got (kN cs))
 |[],[]=>some ⟨false,(),[],[],[],[]⟩
 |c::cs,l::ls=>match eJ st c l with
  |some g=>match ck st cs ls with
   |some h=>some ⟨g.p||h.p,(g.val,h.val),g.frz++h.frz,[],g.see++h.see,[]⟩
   |none=>none
  |none=>none
 |_,_=>none
def ee (c:Bool×Bool×(a:Ty)×a.den):Leaf:=bif c.2.1 then .rpp c.1 c.2.2.1 c.2.2.2 else .rp c.1 c.2.2.1 c.2.2.2 0
def bi (st : St) : (pk : PK) -> aI × List Leaf -> Option (Got pk.den)
  |.rd a,x=>bif decide (x.1=bj a.isAgg) then (cE st a x.2).map λy=>.ofRd [] y (bB st x.2) else none
  |.own a,x=>bif decide (x.1=bj a.isAgg) then (cb st a x.2).map λt=>⟨t.p,t.val,t.frz,t.kill,[],[]⟩ else none
  |.io a,x=>bif decide (x.1=bj a.isAgg) then (cb st a x.2).map λt=>⟨t.p,t.val,t.frz,t.kill,[],[]⟩ else none
  |.rref a,x=>eJ st (false,a) (ch x)
  |.rref2 a,x=>eJ st (true,a) (ch x)
  |.iop a,x=>match ch x with
    |.bp b 0=>bif decide ((st b).sh=.agg) then (cb st a (bF b (st b).ver 0 (st b).ls)).map λt=>⟨t.p,t.val,t.frz,t.kill,[],[b]⟩ else none
    |_=>none
  |.fn As B,x=>match ch x with
    |.fn As' B' φ=>if h:As'=As/\B'=B then some ⟨false,(h.1 ▸ h.2 ▸ φ:Tup As->Option B.den),[],[],[],[]⟩ else none
    |_=>none
  |.clo f cs,x=>match ch x with
    |.clo f' caps=>bif AA f' f then ck st cs (caps.map λb=>.bp b 0) else none
    |.clr f' caps=>bif AA f' f then ck st cs (caps.map ee) else none
    |_=>none
  |.hol a c off,x=>bif decide (x.1=bj a.isAgg) then (match x.2.getD c .dead with
      |.al r j v=>(match aD st (.al r j v) with
        |.own p (some (i,o)) E e xs=>bif AA o off then (match cb st a (aR x.2 c .nil) with
            |some t=>(match bK c E e xs a 0 t.val with
              |some y=>some ⟨p||t.p,(y,i),t.frz,(r,j)::t.kill,[],[]⟩
              |none=>none)
            |none=>none) else none
        |_=>none)
      |_=>none) else none
def bc (ga:(pk:PK)->aI×List Leaf->Option (Got pk.den)):(ps:List PK)->List (aI×List Leaf)->Option (Got (ab ps))
 |[],[]=>some ⟨false,(),[],[],[],[]⟩
 |p::ps,x::xs=>match ga p x with
  |some g=>match bc ga ps xs with
   |some h=>some ⟨g.p||h.p,(g.val,h.val),g.frz++h.frz,g.kill++h.kill,g.see++h.see,g.lend++h.lend⟩
   |none=>none
  |none=>none
 |_,_=>none
def tc (st:St):(ps:List PK)->List (aI×List Leaf)->Option (Got (ab ps)):=bc (bi st)
def bY (st:St):List Leaf->List Leaf->Upd
 |.al r j _::xs,l::ls=>let U:=bY st xs ls;(match l with|.own p h E e ys=>let c:=ac U st r;[(r,⟨c.ver,c.sh,aR c.ls j (.own p h E e ys)⟩),(EPO,bT (ac U st EPO))]|_=>[])++U
 |_::xs,_::ls=>bY st xs ls
 |_,_=>[]
def aG (st:St)(p:Bool):(ps:List PK)->List (aI×List Leaf)->aj ps->Upd
 |[],_,_=>[]
 |.io a::ps,x::xs,o=>let U:=aG st p ps xs o.2;bY (ac U st) x.2 (ap p a o.1)++U
 |.iop a::ps,x::xs,o=>let U:=aG st p ps xs o.2;(match ch x with
  |.bp b _=>let c:=ac U st b;[(b,⟨c.ver+2,.agg,ap p a o.1⟩)]
  |_=>[])++U
 |.rd _::ps,_::xs,o=>aG st p ps xs o
 |.own _::ps,_::xs,o=>aG st p ps xs o
 |.rref _::ps,_::xs,o=>aG st p ps xs o
 |.rref2 _::ps,_::xs,o=>aG st p ps xs o
 |.fn _ _::ps,_::xs,o=>aG st p ps xs o
 |.clo _ _::ps,_::xs,o=>aG st p ps xs o
 |.hol _ _ _::ps,_::xs,o=>aG st p ps xs o
 |_::_,[],_=>[]
def nV (d v:Nat)(p q:Bool)(ks:List (Nat×Nat×Nat))(ep:Nat):(r:RK)->r.den->(Bool×List Leaf)×Upd
 |.v a,y=>((a.isAgg,ap p a y),[])
 |.bv a,y=>((a.isAgg,ko q ks ep a y),[])
 |.box a,y=>((false,[.bp (B0+d) 0]),[(B0+d,⟨v+1,.agg,ap p a y⟩)])
def bD (d v:Nat)(p q:Bool)(ks:List (Nat×Nat×Nat))(ep:Nat):(rs:List RK)->ak rs->List (Bool×List Leaf)×Upd
 |[],_=>([],[])
 |r::rs,y=>let a:=nV d v p q ks ep r y.1;let b:=bD d v p q ks ep rs y.2;(a.1::b.1,a.2++b.2)
def eh (ver:Nat)(l:List (Bool×List Leaf)):bS :=
 match l with
 |[(agg,ls)]=>⟨ver,bj agg,ls⟩
 |l=>⟨ver,.tup (l.map λx=>(x.1,x.2.length)),(l.map (·.2)).flatten⟩
def cj (st:St)(U:Upd)(d:Nat)(sh:aI)(ls:List Leaf):Upd:=(d,⟨(ac U st d).ver+1,sh,ls⟩)::U
def PK.reads:PK->Bool
 |.rd _|.rref _|.rref2 _=>true
 |_=>false
def my (caps:List PK)(z:ab caps):(As:List Ty)->Tup As->ab (As.map .rd++caps)
 |[],_=>z
 |_::as,x=>(x.1,my caps z as x.2)
def qF (st:St)(As:List Ty)(B:Ty)(ls:List Leaf)(ps:List PK)(rs:List RK)(fresh:Bool)(den:ab ps->Option (ak rs×aj ps))(q:List PK):Option (Got (Tup As->Option B.den)) :=
 if h:ps=As.map .rd++q/\rs=[.v B] then
  bif q.all PK.reads&&B.flat&&fresh then
   match tc st q (ls.map λl=>(.one,[l])) with
   |some g=>some ⟨g.p,λx=>(den (h.1 ▸ my _ g.val As x)).map λy=>(h.2 ▸ y.1:ak [.v B]).1,g.frz,[],g.see,[]⟩
   |none=>none
  else none
 else none
def jH (Γ:List Ctr)(st:St)(As:List Ty)(B:Ty)(f:FuncId)(ls:List Leaf):Option (Got (Tup As->Option B.den)) :=
 match kO Γ f with
 |some c=>qF st As B ls c.ps c.rs c.fresh c.den (c.ps.drop As.length)
 |none=>none
def tR:Leaf->Option (FuncId×List Leaf)
 |.clo f caps=>some (f,caps.map λb=>.bp b 0)
 |.clr f caps=>some (f,caps.map ee)
 |_=>none
def bZ (Γ:List Ctr)(st:St):(pk:PK)->aI×List Leaf->Option (Got pk.den)
 |.fn As B,x=>match tR (ch x) with
  |some fc=>jH Γ st As B fc.1 fc.2
  |none=>bi st (.fn As B) x
 |.rd a,x=>bi st (.rd a) x
 |.own a,x=>bi st (.own a) x
 |.io a,x=>bi st (.io a) x
 |.rref a,x=>bi st (.rref a) x
 |.rref2 a,x=>bi st (.rref2 a) x
 |.iop a,x=>bi st (.iop a) x
 |.clo f cs,x=>bi st (.clo f cs) x
 |.hol a c off,x=>bi st (.hol a c off) x
def ng (Γ:List Ctr)(st:St):(ps:List PK)->List (aI×List Leaf)->Option (Got (ab ps)):=bc (bZ Γ st)
def PK.takes:PK->Bool
 |.own _|.io _=>true
 |_=>false
def PK.isIo:PK->Bool
 |.io _=>true
 |_=>false
def nW:Ty->Nat->Bool
 |.pair a b,j=>bif Ac j a.cells then nW a j else nW b (j-a.cells)
 |.list m _ _,j=>m&&AA j 0
 |_,_=>false
def kr (a:Ty):Nat->List Leaf->Option Nat
 |_,[]=>none
 |j,l::ls=>bif iy l&&nW a j then some j else kr a (j+1) ls
def PK.nest:PK->List Leaf->Option Nat
 |.own a,ls=>kr a 0 ls
 |.io a,ls=>kr a 0 ls
 |_,_=>none
def jf:Leaf->Nat×Nat
 |.nal _ ((r,j,_)::_) _ _ _ _ _=>(r,j)
 |_=>(0,0)
def cM (st:St):List PK->List (aI×List Leaf)->Option (Upd×List (aI×List Leaf)×Option (Bool×Nat×Nat))
 |p::ps,x::xs=>match p.nest x.2 with
  |some k=>(cg st (x.2.getD k .dead)).map λu=>(u.1,(x.1,aR x.2 k u.2)::xs,some (p.isIo,jf (x.2.getD k .dead)))
  |none=>(cM st ps xs).map λu=>(u.1,x::u.2.1,u.2.2)
 |_,xs=>some ([],xs,none)
section
variable {R:Type}
def kP (st : St) (l : Leaf) (κ : Upd -> Leaf -> Option R) : Option R :=
  match l with
  |.nal _ ks ep loc _ _ _=>bif br st ks ep then (match ks,loc with
      | [(r, j, _)], some (i, sz, off) => (match (st r).ls.getD j .dead with
        |.own p' none E' e' xs'=>bif !AA r TMP&&!AA r EPO&&AA sz e'.cells then
            (idx xs' (i:Int)).bind λy=>match be off e' 0 y with
              |some ⟨E,e,ys⟩=>κ [(r,⟨(st r).ver,(st r).sh,aR (st r).ls j (.own p' (some (i,off)) E' e' xs')⟩),(TMP,⟨(st TMP).ver+1,.one,[.own (p'&&e'.shy) none E e ys]⟩),(EPO,bT (st EPO))] (.al TMP 0 ((st TMP).ver+1))
              |Option.none=>Option.none
          else Option.none
        |_=>Option.none)
      |_,_=>Option.none)
    else Option.none
  |_=>Option.none
def jI (st:St):List PK->List (aI×List Leaf)->(Upd->List (aI×List Leaf)->Option (Bool×Nat×Nat)->Option R)->Option R
 |p::ps,x::xs,κ=>match p.nest x.2 with
  |some k=>kP st (x.2.getD k .dead) λU l=>κ U ((x.1,aR x.2 k l)::xs) (some (p.isIo,jf (x.2.getD k .dead)))
  |none=>jI st ps xs λU ys b=>κ U (x::ys) b
 |_,xs,κ=>κ [] xs none
def gT (st:St):(As:List Ty)->List (aI×List Leaf)->Option (Tup As)
 |[],[]=>some ()
 |a::as,x::xs=>bif decide (x.1=bj a.isAgg) then match cE st a x.2 with
   |some (_,y)=>(gT st as xs).map (y,·)
   |none=>none
  else none
 |_,_=>none
def RK.isV:RK->Bool
 |.v _|.bv _=>true
 |.box _=>false
def RK.isBv:RK->Bool
 |.bv _=>true
 |_=>false
def fQ (st:St)(d:Nat):List RK->Bool
 |[.box _]=>decide ((st (B0+d)).sh=.off)
 |rs=>rs.all RK.isV
def nh (b:Option (Bool×Nat×Nat))(frz kill:List (Nat×Nat))(d:Nat):Bool :=
 match b with
 |some (true,r,j)=>!(kill.any (gI (r,j)))&&!(frz.any (gI (r,j)))&&!AA r d&&!AA r (B0+d)
 |_=>true
def iX (st:St)(b:Option (Bool×Nat×Nat))(U:Upd)(κ:Upd->Option R):Option R :=
 match b with
 |some (true,r,j) =>
  match (ac U st r).ls.getD j .dead,(ac U st TMP).ls with
  |.own p (some (i,off)) E' e' xs,[.own q none E e ys]=>(idx xs (i:Int)).bind λy=>match bK off E e ys e' 0 y with
   |some z=>κ ((r,⟨(ac U st r).ver,(ac U st r).sh,aR (ac U st r).ls j (.own (p||q) none E' e' (xs.set i z))⟩)::(TMP,⟨(ac U st TMP).ver+1,.off,[]⟩)::(EPO,bT (ac U st EPO))::U)
   |none=>none
  |_,_=>none
 |_=>κ U
def iz (Γ:List Ctr)(st:St)(d:Nat)(f:FuncId)(xs:List (aI×List Leaf))(κ:Upd->Option R):Option R :=
 match kO Γ f with
 |some c=>jI st c.ps xs λU0 xs b =>
  match ng Γ (ac U0 st) c.ps xs with
  |some g=>bif aX g.kill&&dg g.frz g.kill&&fQ st d c.rs&&!(g.see.any λq=>g.lend.any (AA q))&&Ai g.lend.length 1&&(g.lend.isEmpty||!(c.ps.any PK.isIo))&&((c.fresh&&g.lend.isEmpty)||!(c.rs.any RK.isBv))&&(g.kill.all λk=>!AA k.1 EPO)&&nh b g.frz g.kill d then
   (c.den g.val).bind λy =>
    let U1:=(let U:=(bif c.fresh then [] else aF (ac U0 st) g.frz);aN (ac U (ac U0 st)) g.kill++U)++U0;let U2:=aG (ac U1 st) (g.p&&!c.fresh) c.ps xs y.2++U1;let r:=bD d (ac U2 st (B0+d)).ver (g.p&&!c.fresh) g.p (g.frz.map λk=>(k.1,k.2,(ac U2 st k.1).ver)) (ac U2 st EPO).ver c.rs y.1;let U3:=r.2++U2
    iX st b ((d,eh ((ac U3 st d).ver+1) r.1)::U3) κ
   else none
  |none=>none
 |none=>none
def ah:Nat:=140737488355328
def fj (st:St)(E:TypeId)(e:Ty)(y:Leaf):Option (cA (List e.den)) :=
 bif e.flat then (cV e (aD st y)).map λx=>⟨false,x.2,[],[],[]⟩
 else bif decide (e.sh=e) then (cV e (aD st y)).map λx=>⟨x.1,x.2,bB st [y],[],[]⟩
 else (cb st (.list true E e) [y]).map λt=>⟨t.p,t.val,t.frz,t.kill,[]⟩
def dx (st st0:St)(U0:Upd)(d:Nat)(E:TypeId)(e:Ty)(bytes:Nat)(p:Bool)(xs:List e.den)(ks:List (Nat×Nat))(y:Leaf)(κ:Upd->Option R):Option R :=
 match fj st0 E e y with
 |some t=>bif aX (t.kill++ks)&&dg t.frz (t.kill++ks)&&decide ((xs.length+t.val.length)*bytes<=ah) then
   let U:=aF st0 t.frz
   κ (cj st (aN (ac U st0) (t.kill++ks)++U++U0) d .one [.own (p||t.p) none E e (xs++t.val)])
  else none
 |none=>none
def dQ (st:St)(U0:Upd)(d:Nat)(E:TypeId)(e:Ty)(bytes:Nat)(x y:Leaf)(κ:Upd->Option R):Option R :=
 match x with
 |.al r j v=>match aD (ac U0 st) (.al r j v) with
  |.own p none E' e' xs=>bif AA E' E&&decide (e'.sh=e.sh) then dx st (ac U0 st) U0 d E' e' bytes p xs [(r,j)] y κ else none
  |_=>none
 |.nil=>dx st (ac U0 st) U0 d E e bytes false [] [] y κ
 |_=>none
def gJ (st:St)(d:Nat)(E:TypeId)(e:Ty)(bytes:Nat)(x y:Leaf)(κ:Upd->Option R):Option R :=
 bif iy x then kP st x λU0 x=>dQ st U0 d E e bytes x y κ else dQ st [] d E e bytes x y κ
def cW (st:St)(x:Option Operand)(dflt:Int):Option Int :=
 match x with
 |none=>some dflt
 |some l=>match one st l with
  |.int _ n=>some n
  |_=>none
def eK (st:St)(flds:List (Nat×Nat×Bool)):List (Nat×Operand)->List Leaf->Option (List Leaf)
 |[],ls=>some ls
 |(i,x)::ps,ls=>match flds[i]? with
  |some (off,n,agg)=>bif AA (ar st x).2.length n&&decide ((ar st x).1=bj agg)&&decide (off+n<=ls.length) then eK st flds ps (iG ls (ar st x).2 off) else none
  |none=>none
def dW (st:St)(e:Ty):Nat->List (Nat×Operand)->Option (cA (List e.den))
  |_,[]=>some ⟨false,[],[],[],[]⟩
  |k,(i,x)::ps=>bif AA i k&&decide ((ar st x).1=bj e.isAgg) then
      match cb st e (ar st x).2,dW st e (k+1) ps with
      |some t,some u=>some ⟨t.p||u.p,t.val::u.val,t.frz++u.frz,t.kill++u.kill,[]⟩
      |_,_=>none
    else none
def eU (st:St)(e:Ty):Nat->List Leaf->Option (List e.den)
 |0,_=>some []
 |n+1,ls=>match cE st e (ls.take e.cells),eU st e n (ls.drop e.cells) with
  |some (_,x),some xs=>some (x::xs)
  |_,_=>none
def qW (st:St)(xs:List Operand):Option (List Nat) :=
 xs.foldl (λ (acc:Option (List Nat)) x=>acc.bind λl=>match one st x with
  |.bp b 0=>some (l++[b])
  |_=>none) (some [])
def wrU (o:Oper)(st:St)(κ:Upd->Option R)(sh:aI)(ls:List Leaf):Option R:=match o.dst with
 |some d=>κ (cj st [] d sh ls)
 |none=>none
def cB (h:Option (Nat×Nat))(i:Nat):Option Nat:=match h with
 |some (hi,ho)=>bif AA hi i then some ho else none
 |none=>none
def holB (h:Option (Nat×Nat))(i:Nat):Option (Bool×Nat):=match h with
 |some (hi,ho)=>some (AA hi i,ho)
 |none=>none
theorem kQ (p:Bool)(r j v ep i sz:Nat)(h:Option (Nat×Nat))(n:Nat):∀ (a:Ty) (off:Nat) (x:a.den),kp p r j v ep i sz (holB h n) a off x=fP p r j v ep i sz (cB h n) a off x
 |.int _,_,_|.bool,_,_|.str,_,_|.unit,_,_|.hdr,_,_=>rfl
 |.pair a b,off,x=>by
  show _++_=_++_;rw[kQ p r j v ep i sz h n a,kQ p r j v ep i sz h n b]
 |.list m E e,off,xs=>by
  simp only[kp,fP];congr 2;cases h with
  |none=>rfl
  |some q =>
   obtain⟨hi,ho⟩:=q;simp only[holB,cB];by_cases hb:AA hi n=true
   ·simp only[hb,Bool.and_true,cond_true,AE];rw[Bool.eq_iff_iff,Nat.beq_eq,decide_eq_true_eq]
   ·simp only[A8]at hb;simp[hb]
def fR (st:St)(r j i off:Nat)(n:Nat)(p:Bool)(E:TypeId)(e:Ty)(xs:List e.den)(h:Option (Nat×Nat))(ls:List Leaf)(κ:Upd->Option R):Option R :=
 (idx xs (i:Int)).bind λold =>
  match cR st off n e 0 old ls with
  |some t=>bif t.rest.isEmpty&&aX t.kill&&dg t.frz t.kill&&!((t.kill++t.frz).any λk=>AA k.1 r) then
    let U1:=aF st t.frz;let U2:=aN (ac U1 st) t.kill++U1;let fin (l:Leaf):Option R:=κ ((r,⟨(st r).ver,(st r).sh,aR (st r).ls j l⟩)::(EPO,bT (ac U2 st EPO))::U2)
    match h with
    |none=>fin (.own (p||t.p) none E e (xs.set i t.val))
    |some (hi,ho)=>bif Ai off ho&&Ac ho (off+n) then (bif AA i hi then fin (.own (p||t.p) none E e (xs.set i t.val)) else fin (.own (p||t.p) (some (hi,ho)) E e (xs.set i t.val)))
     else fin (.own (p||t.p) (some (hi,ho)) E e (xs.set i t.val))
   else none
  |none=>none
def qG (r:Nat):Bool:=!AA r TMP&&!AA r EPO
def dR (s:ByteArray):List Int:=s.data.toList.map λb=>(b.toNat:Int)
def fT (xs:List Int):ByteArray:=ByteArray.mk (xs.map λn=>UInt8.ofNat n.toNat).toArray
def act (Γ:List Ctr)(T:TypeId->TI)(o:Oper)(st:St)(κ:Upd->Option R):Option R :=
 let w (sh:aI) (ls:List Leaf):Option R:=wrU o st κ sh ls;let w1 (l:Leaf):Option R:=w .one [l]
 match o.op with
 |.move x=>let v:=ar st x;w v.1 v.2
 |.assign x=>match o.dst with
  |some d=>let v:=ar st x;bif gw st v.2 then κ (cj st (mvU st v.2) d v.1 (dn st v.2)) else none
  |none=>none
 |.pick c a b=>match one st c with
  |.bool t=>bif t then (let v:=ar st a;w v.1 v.2) else (let v:=ar st b;w v.1 v.2)
  |_=>none
 |.alloc t=>match o.dst with
  |some d=>bif decide ((st (B0+d)).sh=.off)&&!decide ((T t).cells=0) then κ ((B0+d,⟨(st (B0+d)).ver+1,.agg,(T t).zero⟩)::cj st [] d .one [.bp (B0+d) 0]) else none
  |none=>none
 |.box t x=>match o.dst with
  |some d=>let v:=ar st x
   bif decide ((st (B0+d)).sh=.off)&&decide (v.2.length=(T t).cells)&&decide (v.1=bj (T t).agg)&&gw st v.2 then
    (bif qU st x then κ ((B0+d,⟨(st (B0+d)).ver+1,.agg,v.2⟩)::cj st [] d .one [.bp (B0+d) 0])
    else (let U:=mvU st v.2
     κ ((B0+d,⟨(ac U st (B0+d)).ver+1,.agg,dn st v.2⟩)::cj st U d .one [.bp (B0+d) 0])))
   else none
  |none=>none
 |.build t parts=>match T t with
  |.struct a flds=>match eK st flds parts.toList (el a) with
   |some ls=>w .agg ls
   |none=>none
  |.arr e n=>match eK st ((Ab n).map λi=>(i*e.cells,e.cells,e.isAgg)) parts.toList (AR n (el e)).flatten with
   |some ls=>w .agg ls
   |none=>none
  |_=>none
 |.buildSlice t n parts=>match T t with
  |.slice E e _=>match dW st e 0 parts.toList with
   |some u=>bif AA u.val.length n&&decide (n*e.cells<=16777216)&&aX u.kill&&dg u.frz u.kill then (match o.dst with
     |some d=>let U:=aF st u.frz;κ (cj st (aN (ac U st) u.kill++U) d .one [.own u.p none E e u.val])
     |none=>none) else none
   |none=>none
  |_=>none
 |.load t x =>
  bif decide ((T t).cells=0) then none else
  match one st x with
  |.rp p a y off=>bif decide (off+(T t).cells<=a.cells) then w (bj (T t).agg) (((cz p a y).drop off).take (T t).cells) else none
  |.bp b off=>bif decide ((st b).sh=.agg)&&decide (off+(T t).cells<=(st b).ls.length) then w (bj (T t).agg) (((bF b (st b).ver 0 (st b).ls).drop off).take (T t).cells) else none
  |.rpp p a y=>bif AA (T t).cells 1&&!(T t).agg then w1 (.rp p a y 0) else none
  |.np p ks ep a y off=>bif br st ks ep&&decide (off+(T t).cells<=a.cells) then w (bj (T t).agg) (((ko p ks ep a y).drop off).take (T t).cells) else none
  |.ep r j v i sz off=>match aD st (.al r j v) with
   |.own p h _ e xs=>bif AA sz e.cells&&decide (off+(T t).cells<=e.cells) then (idx xs (i:Int)).bind λy=>w (bj (T t).agg) (((kp p r j v (st EPO).ver i sz (holB h i) e 0 y).drop off).take (T t).cells) else none
   |_=>none
  |_=>none
 |.store t x y=>match o.dst with
  |some _=>none
  |none =>
  let v:=(ar st y).2
  bif AA v.length (T t).cells&&decide ((ar st y).1=bj (T t).agg)&&!decide ((T t).cells=0) then
   match one st x with
   |.bp b off=>bif decide ((st b).sh=.agg)&&decide (off+v.length<=(st b).ls.length)&&gw st v then
     let U:=mvU st v;let c:=ac U st b
     κ ((b,⟨c.ver+1,.agg,iG c.ls (dn st v) off⟩)::U)
    else none
   |.ep r j ver i sz off=>match aD st (.al r j ver) with
    |.own p h E e xs=>bif AA sz e.cells&&decide (off+v.length<=e.cells)&&qG r then fR st r j i off v.length p E e xs h v κ else none
    |_=>none
   |_=>none
  else none
 |.nilCheck x=>match one st x with
  |.rp p a y off=>w1 (.rp p a y off)
  |.bp b off=>w1 (.bp b off)
  |.ep r j v i sz off=>bif AA (st r).ver v then w1 (.ep r j v i sz off) else none
  |.rpp p a y=>w1 (.rpp p a y)
  |.np p ks ep a y off=>bif br st ks ep then w1 (.np p ks ep a y off) else none
  |_=>none
 |.binOp op t x y _=>match one st x,one st y with
  |.int k a,.int k' b =>
   match op with
   |.shl=>bif decide (b<0) then none else w1 (.int k (k.wrap (a*2 ^ (min b.toNat k.bits))))
   |.shr=>bif decide (b<0) then none else w1 (.int k (a.fdiv (2 ^ (min b.toNat k.bits))))
   |.quo=>bif decide (b=0) then none else bif decide (k=k') then w1 (.int k (k.wrap (a.tdiv b))) else none
   |.rem=>bif decide (b=0) then none else bif decide (k=k') then w1 (.int k (a.tmod b)) else none
   |.and=>bif decide (k=k') then w1 (.int k (k.wrap ((BitVec.ofInt k.bits a &&& BitVec.ofInt k.bits b).toNat))) else none
   |.xor=>bif decide (k=k') then w1 (.int k (k.wrap ((BitVec.ofInt k.bits a ^^^ BitVec.ofInt k.bits b).toNat))) else none
   |_=>bif decide (k=k') then (match qV op k a b with|some l=>w1 l|none=>none) else none
  |.bool a,.bool b=>match T t with
   |.bool=>match op with
    |.eql=>w1 (.bool (a==b))
    |.neq=>w1 (.bool (a != b))
    |_=>none
   |_=>none
  |.str a,.str b=>match op with
   |.eql=>w1 (.bool (a.toList==b.toList))
   |.neq=>w1 (.bool (a.toList != b.toList))
   |.add=>bif decide (a.size+b.size<=9223372036854775807) then w1 (.str (a++b)) else none
   |_=>none
  |_,_=>match T t with
   |.struct a _=>bif a.flat&&decide ((ar st x).1=.agg)&&decide ((ar st y).1=.agg) then
     match cE st a (ar st x).2,cE st a (ar st y).2 with
     |some (_,u),some (_,v)=>match op with
      |.eql=>w1 (.bool (a.eqv u v))
      |.neq=>w1 (.bool (!a.eqv u v))
      |_=>none
     |_,_=>none
    else none
   |_=>none
 |.unOp op _ x=>match op,one st x with
  |.not,.bool b=>w1 (.bool (!b))
  |.neg,.int k n=>w1 (.int k (k.wrap (0-n)))
  |_,_=>none
 |.convert s t x=>match T s,T t,one st x with
  |.int _,.int k,.int _ n=>w1 (.int k (k.wrap n))
  |.slice _ (.int .u8) _,.str,l=>match cV (.int .u8) (aD st l) with
   |some (_,xs)=>w1 (.str (fT xs))
   |none=>none
  |.str,.slice E (.int .u8) _,.str s=>w1 (.own false none E (.int .u8) (dR s))
  |_,_,_=>none
 |.makeSlice t n c=>match T t,one st n,one st c with
  |.slice E e bytes,.int _ a,.int _ b =>
   bif decide (0<=a)&&decide (a=b)&&decide (a*bytes<=ah) then w1 (.own false none E e (AR a.toNat e.zero)) else none
  |_,_,_=>none
 |.slice t x lo hi mx=>match mx,o.dst with
  |none,some d=>match cW st lo 0 with
   |none=>none
   |some i=>match T t,aD st (one st x) with
    |.str,.str s=>(match cW st hi s.size with
     |some h=>bif decide (0<=i)&&decide (i<=h)&&decide (h<=(s.size:Int)) then κ (cj st [] d .one [.str (s.extract i.toNat h.toNat)]) else none
     |none=>none)
    |.slice _ e' _,.nal p ks ep _ E e xs=>(match cW st hi xs.length with
     |some h=>bif decide (0<=i)&&decide (i<=h)&&decide (h<=(xs.length:Int))&&AA e'.cells e.cells then
       κ (cj st [] d .one [.nal p ks ep none E e ((xs.take h.toNat).drop i.toNat)]) else none
     |none=>none)
    |.slice _ e' _,.ro p E e xs=>(match cW st hi xs.length with
     |some h=>bif decide (0<=i)&&decide (i<=h)&&decide (h<=(xs.length:Int))&&AA e'.cells e.cells then
       κ (cj st [] d .one [.ro p E e ((xs.take h.toNat).drop i.toNat)]) else none
     |none=>none)
    |.slice _ e' _,.own p none E e xs=>(match cW st hi xs.length with
     |some h=>bif decide (0<=i)&&decide (i<=h)&&decide (h<=(xs.length:Int))&&AA e'.cells e.cells then
       (match one st x with
       |.al r j v=>κ (cj st [] d .one [.nal p [(r,j,v)] (st EPO).ver none E e ((xs.take h.toNat).drop i.toNat)])
       |_=>none) else none
     |none=>none)
    |_,_=>none
  |some m,some d=>match lo,T t,one st x with
   |none,.slice _ e' _,.al r j v=>(match aD st (.al r j v) with
    |.own p none E e xs=>(match cW st hi xs.length,cW st (some m) 0 with
     |some h,some k=>bif hi.isSome&&decide (h=(xs.length:Int))&&decide (k=(xs.length:Int))&&AA e'.cells e.cells then κ (cj st (aN st [(r,j)]) d .one [.own p none E e xs]) else none
     |_,_=>none)
    |_=>none)
   |_,_,_=>none
  |_,_=>none
 |.fieldAddr t x f=>match T t with
  |.struct _ flds=>match flds[f]? with
   |some (off,_,_)=>match one st x with
    |.rp p a y o'=>w1 (.rp p a y (o'+off))
    |.bp b o'=>w1 (.bp b (o'+off))
    |.ep r j v i sz o'=>bif AA (st r).ver v then w1 (.ep r j v i sz (o'+off)) else none
    |.np p ks ep a y o'=>bif br st ks ep then w1 (.np p ks ep a y (o'+off)) else none
    |_=>none
   |none=>none
  |_=>none
 |.field t x f=>match T t with
  |.struct a flds=>match flds[f]? with
   |some (off,n,agg)=>bif decide ((ar st x).1=.agg)&&decide ((ar st x).2.length=a.cells) then w (bj agg) (((ar st x).2.drop off).take n) else none
   |none=>none
  |_=>none
 |.indexAddr t x i=>match one st i with
  |.int _ n=>match T t with
   |.arr e len=>match one st x with
    |.bp b off=>bif decide (0<=n)&&decide (n<(len:Int)) then w1 (.bp b (off+n.toNat*e.cells)) else none
    |_=>none
   |.slice _ e _=>match one st x with
    |.al r j v=>match aD st (.al r j v) with
     |.own _ _ _ e' xs=>bif AA e'.cells e.cells then (idx xs n).bind λ_=>w1 (.ep r j v n.toNat e'.cells 0) else none
     |_=>none
    |.ro p _ e' xs=>bif AA e'.cells e.cells then (idx xs n).bind λy=>w1 (.rp p e' y 0) else none
    |.nal p ks ep _ _ e' xs=>bif AA e'.cells e.cells&&br st ks ep then (idx xs n).bind λy=>w1 (.np p ks ep e' y 0) else none
    |_=>none
   |_=>none
  |_=>none
 |.index t x i=>match one st i with
  |.int _ n=>match T t with
   |.str=>match one st x with
    |.str s=>(idx s.data.toList n).bind λy=>w1 (.int .u8 y.toNat)
    |_=>none
   |.arr e len=>bif e.flat&&decide ((ar st x).1=.agg)&&AA (ar st x).2.length (len*e.cells)&&!AA e.cells 0 then (match eU st e len (ar st x).2 with
     |some vs=>(idx vs n).bind λy=>w (bj e.isAgg) (cz false e y)
     |none=>none) else none
   |_=>none
  |_=>none
 |.extract x i=>match ar st x with
  |(.tup ps,ls)=>match ps[i]? with
   |some (agg,n)=>w (bj agg) ((ls.drop ((ps.take i).foldl (λa b=>a+b.2) 0)).take n)
   |none=>none
  |_=>none
 |.makeFunc (.func f) first caps=>bif AA first.size 0 then
   match qW st caps.toList with
   |some l=>w1 (.clo f l)
   |none=>none
  else none
 |.call c=>match o.dst with
  |none=>none
  |some d=>match c.callee with
   |.value f =>
    let xs:=c.args.toList.map (ar st)
    match one st f with
    |.clo g caps=>iz Γ st d g (xs++caps.map λb=>(.one,[.bp b 0])) κ
    |.clr g caps=>iz Γ st d g (xs++caps.map λc=>(.one,[ee c])) κ
    |.fn As B φ=>bif B.flat then match gT st As xs with
      |some x=>(φ x).bind λy=>w (bj B.isAgg) (ap false B y)
      |none=>none
     else none
    |_=>none
   |.builtin .len=>match c.args.toList with
    |[x]=>match c.argTypes.toList with
     |[t]=>match T t,aD st (one st x) with
      |.slice _ _ _,l=>(match ft l with
       |some n=>w1 (.int .i64 n)
       |none=>none)
      |.str,.str s=>w1 (.int .i64 s.size)
      |_,_=>none
     |_=>none
    |_=>none
   |.builtin .append=>match c.args.toList,c.argTypes.toList with
    |[x,y],[t,u]=>match T t with
     |.slice E e bytes=>bif AA t u then gJ st d E e bytes (one st x) (one st y) κ else none
     |_=>none
    |_,_=>none
   |.builtin .min=>match c.args.toList with
    |[x,y]=>match one st x,one st y with
     |.int k a,.int _ b=>w1 (.int k (bif decide (b<a) then b else a))
     |_,_=>none
    |_=>none
   |.builtin .max=>match c.args.toList with
    |[x,y]=>match one st x,one st y with
     |.int k a,.int _ b=>w1 (.int k (bif decide (a<b) then b else a))
     |_,_=>none
    |_=>none
   |_=>none
 |_=>none
def ay:List Leaf->List Nat
 |[]=>[]
 |.al r _ _::ls=>r::ay ls
 |.ep r _ _ _ _ _::ls=>EPO::r::ay ls
 |.nal _ ks _ _ _ _ _::ls=>EPO::ks.map (·.1)++ay ls
 |.np _ ks _ _ _ _::ls=>EPO::ks.map (·.1)++ay ls
 |.bp b _::ls=>b::ay ls
 |.clo _ caps::ls=>caps++ay ls
 |_::ls=>ay ls
def gK (xs:List Operand):List Nat :=
 match xs with
 |[]=>[]
 |.tmp t::xs=>t::gK xs
 |_::xs=>gK xs
def jJ (st:St)(ts:List Nat):List Nat :=
 let a:=ts.flatMap λt=>ay (st t).ls
 let b:=a.flatMap λt=>ay (st t).ls
 let c:=b.flatMap λt=>ay (st t).ls
 ts++a++b++c
def ci (st:St)(op:Op):List Nat :=
 let ts:=gK op.operands.toList
 match op with
 |.move _|.pick _ _ _|.build _ _|.field _ _ _|.extract _ _|.makeFunc _ _ _|.unOp _ _ _|.makeSlice _ _ _|.alloc _=>ts
 |.slice _ _ _ _ _=>EPO::(ts++ts.flatMap λt=>aw (st t).ls)
 |.assign _|.box _ _|.buildSlice _ _ _|.indexAddr _ _ _|.nilCheck _|.fieldAddr _ _ _|.convert _ _ _|.binOp _ _ _ _ _|.index _ _ _=>ts++ts.flatMap λt=>aw (st t).ls
 |.load _ _|.store _ _ _=>ts++ts.flatMap λt=>ay (st t).ls
 |.call c=>match c.callee with
  |.builtin _=>TMP::(ts++ts.flatMap λt=>aw (st t).ls)
  |_=>TMP::EPO::jJ st ts
 |_=>jJ st ts
def xx (o:Oper):List Nat:=match o.dst with
 |some d=>[d,B0+d]
 |none=>[]
def eo (st:St)(op:Op):List Nat :=
 let ts:=gK op.operands.toList
 match op with
 |.move _=>ts
 |.indexAddr _ _ _=>ts++ts.flatMap λt=>aw (st t).ls
 |_=>[]
def eL (st:St)(o:Oper):List Nat:=(match o.op with|.move _|.indexAddr _ _ _=>[]|op=>ci st op)++xx o
def dC (st:St)(o:Oper):List Nat:=match o.op with
 |.store _ x _=>match one st x with
  |.ep r _ _ _ _ _=>[r]
  |_=>[]
 |_=>[]
structure cC where
 rd:List Nat
 hd:List Nat
 wr:List Nat
 cw:List Nat
def kR (a b:List Nat):Bool:=a.any λx=>b.any λy=>AA x y
def cC.apart (x y:cC):Bool:=!kR (x.wr++x.cw) (y.wr++y.cw)&&!kR (x.wr++x.cw) y.rd&&!kR x.rd (y.wr++y.cw)&&!kR x.wr y.hd&&!kR x.hd y.wr
def iN:List Oper->List Nat->List Nat
 |[],acc=>acc
 |o::rest,acc=>iN rest (acc++[o.after.toList.foldl (λs e=>bif Region.binds .any e then s ||| 2 ^ e.on ||| acc.getD e.on 0 else s) 0])
def nX (before:List Nat)(ts:List cC):Bool :=
 (Ab ts.length).all λj=>(Ab j).all λi =>
  (before.getD j 0).testBit i||(match ts[i]?,ts[j]? with
   |some x,some y=>x.apart y
   |_,_=>false)
def lit (st:St)(t:Nat)(b:Bool):St:=ac [(t,⟨(st t).ver,.one,[.bool b]⟩)] st
def d9 (st:St)(o:Oper):Upd :=
 match o.dst with
 |some d=>[(d,⟨(st d).ver+1,.und,[]⟩)]
 |none=>[]
def opK (Γ:List Ctr)(T:TypeId->TI)(all:Array Oper)(o:Oper)(st:St)(κ:St->cC->Option R):Option R :=
 let go (st:St) (more:List Nat):Option R:=act Γ T o st (λU=>κ (ac U st) ⟨more++eL st o,eo st o.op,(U.map (·.1)).filter (λq=>!((dC st o).any (AA q))),dC st o⟩);let no (st:St) (more:List Nat):Option R:=κ (ac (d9 st o) st) ⟨more,[],o.dst.toList,[]⟩
 match o.guard with
 |none=>go st []
 |some (j,want)=>match (all[j]?).bind (·.dst) with
  |some t=>match (st t).sh,(st t).ls with
   |.one,[.bool b]=>bif b then (bif want then go (lit st t true) [t] else no (lit st t true) [t]) else (bif want then no (lit st t false) [t] else go (lit st t false) [t])
   |.und,_=>no st [t]
   |_,_=>none
  |none=>none
def o9 (Γ:List Ctr)(T:TypeId->TI)(all:Array Oper):List Oper->St->List cC->(St->List cC->Option R)->Option R
 |[],st,ts,κ=>κ st ts
 |o::rest,st,ts,κ=>opK Γ T all o st (λst' t=>o9 Γ T all rest st' (ts++[t]) κ)
def mz (ops:Array Oper):Bool:=(Ab ops.size).all λi=>match ops[i]? with
 |some o=>o.after.toList.all λe=>!Region.binds .any e||decide (e.on<i)
 |none=>true
def regK (Γ:List Ctr)(T:TypeId->TI)(ops:Array Oper)(draw:Bool)(st:St)(κ:St->Option R):Option R :=
 bif draw then
  o9 Γ T ops ops.toList st [] (λst' ts=>bif mz ops&&nX (iN ops.toList []) ts then κ st' else none)
 else o9 Γ T ops ops.toList st [] (λst' _=>κ st')
inductive Ex where
 |normal|exit (id:Nat)|ret
def qX (ev:St->(Ex->St->Option R)->Option R)(κ:Ex->St->Option R):Ex->St->Option R
 |.normal,st=>ev st κ
 |e,st=>κ e st
def qY (id:Nat)(κ:Ex->St->Option R):Ex->St->Option R
 |.exit id',st=>bif AA id' id then κ .normal st else κ (.exit id') st
 |e,st=>κ e st
def az (L:List (Nat×bS)):St:=λq=>ac L (λ_=>bS.none) q
inductive Coe where
 |keep|kill
 |own (p:Bool) (E:TypeId) (e:Ty)|ro (p:Bool) (E:TypeId) (e:Ty)|rp (p:Bool)
def bA (st:St)(live:List Nat):Coe->Leaf->Leaf
 |.kill,_=>.dead
 |.own p E e,.nil=>.own p none E e []
 |.own p _ _,.own q none E e xs=>bif !q||p then .own p none E e xs else .dead
 |.ro p E e,.nil=>.ro p E e []
 |.ro p E e,.ro q _ e' xs=>bif !q||p then (match castSh e e' xs with | some ys=>.ro p E e ys | none=>.dead) else .dead
 |.ro p E e,.own q none _ e' xs=>bif !q||p then (match castSh e e' xs with | some ys=>.ro p E e ys | none=>.dead) else .dead
 |.rp p,.rpp q a x=>bif !q||p then .rpp p a x else .dead
 |.rp p,.rp q a x off=>bif !q||p then .rp p a x off else .dead
 |.keep,.int k n=>.int k n
 |.keep,.bool b=>.bool b
 |.keep,.str s=>.str s
 |.keep,.nil=>.nil
 |.keep,.hdr n=>.hdr n
 |.keep,.fn As B φ=>.fn As B φ
 |.keep,.clr f cs=>.clr f cs
 |.keep,.bp b off=>bif live.any (AA b) then .bp b off else .dead
 |.keep,.clo f caps=>bif caps.all (λb=>live.any (AA b)) then .clo f caps else .dead
 |.keep,.al r j v=>bif live.any (AA r)&&AA (st r).ver v then .al r j 0 else .dead
 |_,_=>.dead
def cN (st:St)(live:List Nat):List Coe->List Leaf->List Leaf
 |c::cs,l::ls=>bA st live c l::cN st live cs ls
 |[],_::ls=>.dead::cN st live [] ls
 |_,[]=>[]
def kS (live:List (Nat×List Coe))(st:St):St:=az (live.map λr=>(r.1,⟨0,(st r.1).sh,cN st (live.map (·.1)) r.2 (st r.1).ls⟩))
def bC (live:List (Nat×List Coe))(rec:St->Option R)(κ:Ex->St->Option R):Ex->St->Option R
 |.normal,st=>rec (kS live st)
 |e,st=>κ e st
def bt (live:List (Nat×List Coe))(ev:St->(Ex->St->Option R)->Option R):Nat->St->(Ex->St->Option R)->Option R
 |0,_,_=>none
 |k+1,st,κ=>ev st (bC live (λst'=>bt live ev k st' κ) κ)
def ei:Code->Nat
 |.region id _ _=>id+1
 |.seq a b=>match ei a with
  |0=>ei b
  |n=>n
 |.cond _ a b=>match ei a with
  |0=>ei b
  |n=>n
 |.block _ c=>ei c
 |.loop c=>ei c
 |.scope c=>ei c
 |_=>0
def kt (L:List (Nat×List (Nat×List Coe)))(k:Nat):List (Nat×List Coe):=match L with
 |[]=>[]
 |(n,l)::rest=>bif AA n k then l else kt rest k
def xy (st:St)(c:Operand)(yes no:St->Option R):Option R :=
 match c with
 |.tmp t=>match (st t).sh,(st t).ls with
  |.one,[.bool b]=>bif b then yes (lit st t true) else no (lit st t false)
  |_,_=>none
 |.const (.bool b)=>bif b then yes st else no st
 |_=>none
def evK (Γ:List Ctr)(T:TypeId->TI)(L:List (Nat×List (Nat×List Coe)))(fuel:Nat):Code->St->(Ex->St->Option R)->Option R
 |.skip,st,κ=>κ .normal st
 |.region _ ops draw,st,κ=>regK Γ T ops draw st (κ .normal)
 |.seq a b,st,κ=>evK Γ T L fuel a st (qX (evK Γ T L fuel b) κ)
 |.cond c x y,st,κ=>xy st c (λst=>evK Γ T L fuel x st κ) (λst=>evK Γ T L fuel y st κ)
 |.block id c,st,κ=>evK Γ T L fuel c st (qY id κ)
 |.loop c,st,κ=>bt (kt L (ei c)) (evK Γ T L fuel c) fuel (kS (kt L (ei c)) st) κ
 |.exit id,st,κ=>κ (.exit id) st
 |.ret,st,κ=>κ .ret st
 |_,_,_=>none
def sub:Code->List Nat->Code
 |.seq a _,0::p=>sub a p
 |.seq _ b,1::p=>sub b p
 |.cond _ x _,0::p=>sub x p
 |.cond _ _ y,1::p=>sub y p
 |.block _ c,0::p=>sub c p
 |.loop c,0::p=>sub c p
 |c,_=>c
def kAt (ev:Code->St->(Ex->St->Option R)->Option R):Code->List Nat->(Ex->St->Option R)->Ex->St->Option R
 |.seq a b,0::p,κ=>kAt ev a p (qX (ev b) κ)
 |.seq _ b,1::p,κ=>kAt ev b p κ
 |.cond _ x _,0::p,κ=>kAt ev x p κ
 |.cond _ _ y,1::p,κ=>kAt ev y p κ
 |.block id c,0::p,κ=>kAt ev c p (qY id κ)
 |_,_,κ=>κ
def dh (fn:Func):Code:=match fn.body with
 |some c=>c
 |none=>.skip
def ae {A:Type}(step:(A->Option R)->A->Option R):Nat->A->Option R
 |0,_=>none
 |k+1,a=>step (ae step k) a
theorem aH {A:Type}(live:List (Nat×List Coe))(ev:St->(Ex->St->Option R)->Option R)(κ:Ex->St->Option R)(S:A->St)
  (step:(A->Option R)->A->Option R) (h:∀ (rec:St->Option R) (a:A),ev (S a) (bC live rec κ)=step (λa=>rec (S a)) a) :
  ∀ (k:Nat) (a:A),bt live ev k (S a) κ=ae step k a
 |0,_=>rfl
 |k+1,a=>by
  have ih:=aH live ev κ S step h k;simp only[bt,ae];rw[h];exact congrArg (λg=>step g a) (funext ih)
abbrev wr (k:IntKind)(n:Int):Int:=k.wrap n
def bh (k:IntKind)(a b:Int):Int:=k.wrap ((BitVec.ofInt k.bits a &&& BitVec.ofInt k.bits b).toNat)
def pa (k:IntKind)(a b:Int):Int:=k.wrap ((BitVec.ofInt k.bits a ^^^ BitVec.ofInt k.bits b).toNat)
def iY (p:Bool):(cs:List (Bool×Ty))->kN cs->List (Bool×Bool×(a:Ty)×a.den)
 |[],_=>[]
 |c::cs,x=>(p,c.1,⟨c.2,x.1⟩)::iY p cs x.2
def td (i off:Nat):Leaf->Leaf
 |.own p _ E e xs=>.own p (some (i,off)) E e xs
 |l=>l
def di (t:Nat):(ps:List PK)->ab ps->Upd
 |[],_=>[]
 |.rd a::ps,x=>(t,⟨0,bj a.isAgg,cz true a x.1⟩)::di (t+1) ps x.2
 |.own a::ps,x=>(t,⟨0,bj a.isAgg,ap true a x.1⟩)::di (t+1) ps x.2
 |.io a::ps,x=>(t,⟨7,bj a.isAgg,ap true a x.1⟩)::di (t+1) ps x.2
 |.rref a::ps,x=>(t,⟨0,.one,[.rp true a x.1 0]⟩)::di (t+1) ps x.2
 |.rref2 a::ps,x=>(t,⟨0,.one,[.rpp true a x.1]⟩)::di (t+1) ps x.2
 |.iop a::ps,x=>(t,⟨0,.one,[.bp (B0+t) 0]⟩)::(B0+t,⟨0,.agg,ap true a x.1⟩)::di (t+1) ps x.2
 |.fn As B::ps,x=>(t,⟨0,.one,[.fn As B x.1]⟩)::di (t+1) ps x.2
 |.clo f cs::ps,x=>(t,⟨0,.one,[.clr f (iY true cs x.1)]⟩)::di (t+1) ps x.2
 |.hol a c off::ps,x=>(t,⟨0,bj a.isAgg,aR (ap true a x.1.1) c (td x.1.2 off ((ap true a x.1.1).getD c .dead))⟩)::di (t+1) ps x.2
def gx (st:St)(t:Nat):(ps:List PK)->Option (cA (aj ps))
 |[]=>some ⟨false,(),[],[],[]⟩
 |.io a::ps=>match (bif decide ((ar st (.tmp t)).1=bj a.isAgg) then cb st a (ar st (.tmp t)).2 else none),gx st (t+1) ps with
  |some x,some y=>some ⟨x.p||y.p,(x.val,y.val),x.frz++y.frz,x.kill++y.kill,[]⟩
  |_,_=>none
 |.iop a::ps=>match cb st a (bF (B0+t) (st (B0+t)).ver 0 (st (B0+t)).ls),gx st (t+1) ps with
  |some x,some y=>some ⟨x.p||y.p,(x.val,y.val),x.frz++y.frz,x.kill++y.kill,[]⟩
  |_,_=>none
 |.rd _::ps=>gx st (t+1) ps
 |.own _::ps=>gx st (t+1) ps
 |.rref _::ps=>gx st (t+1) ps
 |.rref2 _::ps=>gx st (t+1) ps
 |.fn _ _::ps=>gx st (t+1) ps
 |.clo _ _::ps=>gx st (t+1) ps
 |.hol _ _ _::ps=>gx st (t+1) ps
def tS (st:St)(T:TypeId->TI):ResultVar->List Leaf
 |.tmp t=>(ar st (.tmp t)).2
 |.cell t ty=>match one st (.tmp t) with
  |.bp b off=>((bF b (st b).ver 0 (st b).ls).drop off).take (T ty).cells
  |_=>[]
def nY (st:St)(T:TypeId->TI):ResultVar->aI
 |.tmp t=>(ar st (.tmp t)).1
 |.cell t ty=>match one st (.tmp t) with
  |.bp b off=>bif decide ((st b).sh=.agg)&&Ai (off+(T ty).cells) (st b).ls.length&&!AA (T ty).cells 0 then bj (T ty).agg else .off
  |_=>.off
def RK.sh:RK->aI
 |.v a=>bj a.isAgg
 |.bv a=>bj a.isAgg
 |.box _=>.one
def bG (t:Nat):List PK->List Nat
 |[]=>[]
 |.iop _::ps=>(B0+t)::bG (t+1) ps
 |_::ps=>bG (t+1) ps
def fA (t:Nat):List PK->List Nat
 |[]=>[]
 |.io _::ps=>t::fA (t+1) ps
 |.iop _::ps=>t::fA (t+1) ps
 |_::ps=>fA (t+1) ps
def qH (st:St)(fx:List Nat):(r:RK)->List Leaf->Option (cA r.den)
 |.v a,ls=>cb st a ls
 |.bv a,ls=>(cE st a ls).map λy=>⟨false,y.2,bB st ls,[],[]⟩
 |.box a,ls=>match ls with
  |[.bp b 0]=>bif !(fx.any (AA b)) then cb st a (bF b (st b).ver 0 (st b).ls) else none
  |_=>none
def jo (st:St)(T:TypeId->TI)(fx:List Nat):(rs:List RK)->List ResultVar->Option (cA (ak rs))
 |[],[]=>some ⟨false,(),[],[],[]⟩
 |r::rs,x::xs=>bif decide (nY st T x=r.sh) then match qH st fx r (tS st T x),jo st T fx rs xs with
  |some y,some z=>some ⟨y.p||z.p,(y.val,z.val),y.frz++z.frz,y.kill++z.kill,[]⟩
  |_,_=>none else none
 |_,_=>none
def finR (T:TypeId->TI)(ps:List PK)(rs:List RK)(fresh:Bool)(vars:List ResultVar)(st:St):Option (ak rs×aj ps) :=
 match jo st T (bG 0 ps) rs vars,gx st 0 ps with
 |some y,some o=>bif aX (y.kill++o.kill)&&dg (y.frz++o.frz) (y.kill++o.kill)&&(!fresh||!(y.p||o.p)) then some (y.val,o.val) else none
 |_,_=>none
def dy (T:TypeId->TI)(ps:List PK)(rs:List RK)(fresh:Bool)(vars:List ResultVar):Ex->St->Option (ak rs×aj ps)
 |.exit _,_=>none
 |_,st=>finR T ps rs fresh vars st
def ku (nt:Nat)(fix:List Nat)(all:Array Oper)(o:Oper):Bool :=
 (match o.dst with
  |some d=>Ac d nt&&!(fix.any (AA d))
  |none=>true) &&
 (match o.guard with
  |some (j,_)=>match (all[j]?).bind (·.dst) with
   |some s=>Ac s nt
   |none=>true
  |none=>true)
def uV (nt:Nat):Operand->Bool
 |.tmp t=>Ac t nt
 |_=>true
def dr (nt:Nat)(fix:List Nat):Code->Bool
 |.region _ ops _=>ops.toList.all (ku nt fix ops)
 |.seq a b=>dr nt fix a&&dr nt fix b
 |.cond c a b=>uV nt c&&dr nt fix a&&dr nt fix b
 |.block _ c=>dr nt fix c
 |.loop c=>dr nt fix c
 |_=>true
def pb:List RK->Bool
 |[.box _]=>true
 |rs=>rs.all RK.isV
def c8 (L:List (Nat×List (Nat×List Coe)))(fx:List Nat):Code->Bool
 |.seq a b=>c8 L fx a&&c8 L fx b
 |.cond _ a b=>c8 L fx a&&c8 L fx b
 |.block _ c=>c8 L fx c
 |.loop c=>(fx.all λb=>(kt L (ei c)).any λr=>AA r.1 b)&&c8 L fx c
 |_=>true
def evF (Γ:List Ctr)(T:TypeId->TI)(L:List (Nat×List (Nat×List Coe)))(fuel:Nat)(fn:Func)(ps:List PK)(rs:List RK)(fresh:Bool)(x:ab ps):Option (ak rs×aj ps) :=
 match fn.body with
 |some c=>bif dr fn.ntmps (fA 0 ps) c&&Ai ps.length fn.ntmps&&Ai fn.ntmps GH&&pb rs&&c8 L (bG 0 ps) c then
  evK Γ T L fuel c (az (di 0 ps x)) (dy T ps rs fresh fn.results.toList) else none
 |none=>none
end
def gU (e:Ty)(bytes:Nat)(xs:List e.den):Option ((List e.den×Unit)×Unit):=bif decide ((0+xs.length)*bytes<=ah) then some ((xs,()),()) else none
theorem nZ (e:Ty)(bytes:Nat):gU e bytes []=some (([],()),()):=by
 unfold gU;simp[ah]
def pc:Code->Nat->Oper
 |.region _ ops _,i=>(ops[i]?).getD ⟨none,.move (.tmp 0),0,"",#[],none⟩
 |_,_=>⟨none,.move (.tmp 0),0,"",#[],none⟩
def insertM (e:Ty)(bytes:Nat)(xs:List e.den)(i:Int)(vs:List e.den):Option ((List e.den×Unit)×Unit) :=
 if 0<=i/\i<=(xs.length:Int)/\0<vs.length/\(xs.length+vs.length)*bytes<=ah then some ((xs.take i.toNat++vs++xs.drop i.toNat,()),()) else none
def xz {α:Type}(φ:α×Unit->Option Bool):List α->Option (List α)
 |[]=>some []
 |x::xs=>(φ (x,())).bind λb=>(xz φ xs).map λys=>bif b then ys else x::ys
def deleteM (e:Ty)(xs:List e.den)(φ:e.den×Unit->Option Bool):Option ((List e.den×Unit)×Unit):=if xs.length<=1048576 then (xz φ xs).map λys=>((ys,()),()) else none
abbrev Ty.hd:Ty->Ty
 |.pair a b=>.pair a.hd b.hd
 |.list _ _ _=>.hdr
 |a=>a
abbrev hdD:(a:Ty)->a.den->a.hd.den
 |.pair a b,x=>(hdD a x.1,hdD b x.2)
 |.list _ _ e,xs=>List.length (α:=e.den) xs
 |.int _,x=>x
 |.bool,x=>x
 |.str,x=>x
 |.unit,x=>x
 |.hdr,x=>x
noncomputable def cloneHM (e:Ty)(bytes:Nat)(xs:List e.den):Option ((List e.hd.den×Unit)×Unit):=(gU e bytes xs).map λy=>((y.1.1.map (hdD e),()),())
def insI (n:Int):List Int->List Int
 |[]=>[n]
 |m::ms=>if n<=m then n::m::ms else m::insI n ms
def xA:List Int->List Int
 |[]=>[]
 |n::ns=>insI n (xA ns)
def medianM (xs:List Int):Option ((Int×Unit)×Unit) :=
 let l:=xA (xs.drop (xs.length-3))
 some ((l.getD ((l.length-1) / 2) 0,()),())
def aT {R:Type}(x y:ByteArray)(k:ByteArray->Option R):Option R:=bif decide (x.size+y.size<=9223372036854775807) then k (x++y) else none
open Go.RowKit
def cJ (w:World)(g off:Nat)(cs:List Value):Prop:=∀ i v,cs[i]?=some v->w.cell? ⟨g,off+i,none⟩=some v
theorem cJ.same {w w':World}{g off:Nat}{cs:List Value}(h:cJ w g off cs)(hg:w'.heap[g]?=w.heap[g]?):cJ w' g off cs:=by
 intro i v hv;have:=h i v hv;simpa[BI,hg]using this
def Rd (w:World)(G:Nat->Prop):(a:Ty)->a.den->List Value->Prop
 |.int k,n,cs=>cs=[.int k n]
 |.bool,b,cs=>cs=[.bool b]
 |.str,s,cs=>cs=[.string s]
 |.unit,_,cs=>cs=[]
 |.hdr,n,cs=>∃ A cap,cs=[.slice A n cap]
 |.pair a b,x,cs=>∃ c1 c2,cs=c1++c2/\Rd w G a x.1 c1/\Rd w G b x.2 c2
 |.list _ _ e,xs,cs=>∃ A cap,cs=[.slice A xs.length cap]/\xs.length<=cap /\
  (0<xs.length->∃ g o,A=some ⟨g,o,none⟩/\G g/\∀ j (x:e.den),xs[j]?=some x->∃ c,Rd w G e x c/\cJ w g (o+j*e.cells) c)
theorem Rd.carry {w w':World}{G G':Nat->Prop}(hG:∀ k,G k->G' k)(hw:∀ k,G k->w'.heap[k]?=w.heap[k]?) :
  ∀ {a:Ty} {x:a.den} {cs:List Value},Rd w G a x cs->Rd w' G' a x cs
 |.int _,_,_,h=>h
 |.bool,_,_,h=>h
 |.str,_,_,h=>h
 |.unit,_,_,h=>h
 |.hdr,_,_,h=>h
 |.pair _ _,_,_,⟨c1,c2,e,h1,h2⟩=>⟨c1,c2,e,Rd.carry hG hw h1,Rd.carry hG hw h2⟩
 |.list _ _ _,_,_,⟨A,cap,e,hc,h⟩=>⟨A,cap,e,hc,λhp=>by
   obtain⟨g,o,hA,hg,hx⟩:=h hp;exact⟨g,o,hA,hG g hg,λj x hj=>by
    obtain⟨c,hr,hcl⟩:=hx j x hj;exact⟨c,Rd.carry hG hw hr,hcl.same (hw g hg)⟩⟩⟩
theorem Rd.mono {w:World}{G G':Nat->Prop}(hG:∀ k,G k->G' k){a:Ty}{x:a.den}{cs:List Value}(h:Rd w G a x cs):Rd w G' a x cs :=
 Rd.carry hG (λ_ _=>rfl) h
theorem Rd.len {w:World}{G:Nat->Prop}:∀ {a:Ty} {x:a.den} {cs:List Value},Rd w G a x cs->cs.length=a.cells
 |.int _,_,_,h=>by rw[show _=_ from h];rfl
 |.bool,_,_,h=>by rw[show _=_ from h];rfl
 |.str,_,_,h=>by rw[show _=_ from h];rfl
 |.unit,_,_,h=>by rw[show _=_ from h];rfl
 |.hdr,_,_,⟨A,cap,e⟩=>by rw[e];rfl
 |.pair _ _,_,_,⟨c1,c2,e,h1,h2⟩=>by rw[e,A1,Rd.len h1,Rd.len h2];rfl
 |.list _ _ _,_,_,⟨A,cap,e,_,_⟩=>by rw[e];rfl
theorem Rd.one {w:World}{G:Nat->Prop}:∀ {a:Ty} {x:a.den} {cs:List Value},Rd w G a x cs->∀ v∈cs,v.oneCell'=true
 |.int _,_,_,h=>by rw[show _=_ from h];simp[AK]
 |.bool,_,_,h=>by rw[show _=_ from h];simp[AK]
 |.str,_,_,h=>by rw[show _=_ from h];simp[AK]
 |.unit,_,_,h=>by rw[show _=_ from h];simp
 |.hdr,_,_,⟨A,cap,e⟩=>by rw[e];simp[AK]
 |.pair _ _,_,_,⟨c1,c2,e,h1,h2⟩=>by
  rw[e];intro v hv;rcases AN.1 hv with hv|hv
  ·exact Rd.one h1 v hv
  ·exact Rd.one h2 v hv
 |.list _ _ _,_,_,⟨A,cap,e,_,_⟩=>by rw[e];simp[AK]
theorem Rd.flat {w w':World}{G G':Nat->Prop}:∀ {a:Ty} {x:a.den} {cs:List Value},a.flat=true->Rd w G a x cs->Rd w' G' a x cs
 |.int _,_,_,_,h=>h
 |.bool,_,_,_,h=>h
 |.str,_,_,_,h=>h
 |.unit,_,_,_,h=>h
 |.hdr,_,_,_,h=>h
 |.pair _ _,_,_,hf,⟨c1,c2,e,h1,h2⟩=>by
  simp only[Ty.flat,AD]at hf;exact⟨c1,c2,e,Rd.flat hf.1 h1,Rd.flat hf.2 h2⟩
theorem gy:∀ {a b:Ty},a.sh=b.sh->a.cells=b.cells
 |.pair a b,.pair c d,h=>by
  simp only[Ty.sh,Ty.pair.injEq]at h;simp only[Ty.cells,gy h.1,gy h.2]
 |.int _,.int _,_|.int _,.bool,_|.int _,.str,_|.int _,.hdr,_|.int _,.list _ _ _,_=>rfl
 |.bool,.int _,_|.bool,.bool,_|.bool,.str,_|.bool,.hdr,_|.bool,.list _ _ _,_=>rfl
 |.str,.int _,_|.str,.bool,_|.str,.str,_|.str,.hdr,_|.str,.list _ _ _,_=>rfl
 |.hdr,.int _,_|.hdr,.bool,_|.hdr,.str,_|.hdr,.hdr,_|.hdr,.list _ _ _,_=>rfl
 |.list _ _ _,.int _,_|.list _ _ _,.bool,_|.list _ _ _,.str,_|.list _ _ _,.hdr,_|.list _ _ _,.list _ _ _,_=>rfl
 |.unit,.unit,_=>rfl
theorem qZ {A A' B B':Type}(hA:A=A')(hB:B=B'){x:A×B}{y:A'×B'}(h:HEq x y):HEq x.1 y.1/\HEq x.2 y.2:=by
 subst hA;subst hB;cases h;exact⟨HEq.rfl,HEq.rfl⟩
theorem q8 {A A':Type}(hA:A=A'){xs:List A}{ys:List A'}(h:HEq xs ys):xs.length=ys.length/\∀ (j:Nat) (y:A'),ys[j]?=some y->∃ x:A,xs[j]?=some x/\HEq x y:=by
 subst hA;cases h;exact⟨rfl,λj y hy=>⟨y,hy,HEq.rfl⟩⟩
theorem Rd.flags {w:World}{G:Nat->Prop}:∀ {a b:Ty} {x:a.den} {y:b.den} {cs:List Value},a.sh=b.sh->HEq x y->Rd w G a x cs->Rd w G b y cs
 |.pair a b,.pair c d,x,y,cs,h,hxy,⟨c1,c2,e,h1,h2⟩=>by
  simp only[Ty.sh,Ty.pair.injEq]at h;obtain⟨h3,h4⟩:=qZ (jn h.1) (jn h.2) hxy;exact⟨c1,c2,e,Rd.flags h.1 h3 h1,Rd.flags h.2 h4 h2⟩
 |.list _ _ e,.list _ _ e',xs,ys,cs,h,hxy,⟨A,cap,h1,h2,h3⟩=>by
  simp only[Ty.sh,Ty.list.injEq,true_and]at h;obtain⟨h4,h5⟩:=q8 (jn h.2) hxy;refine⟨A,cap,by rw[<- h4];exact h1,by rw[<- h4];exact h2,λhp=>?_⟩;obtain⟨g,o,hA,hg,hx⟩:=h3 (by rw[h4];exact hp);refine⟨g,o,hA,hg,λj y hj=>?_⟩;obtain⟨x,h6,h7⟩:=h5 j y hj;obtain⟨c,h8,h9⟩:=hx j x h6;rw[<- gy h.2];exact⟨c,Rd.flags h.2 h7 h8,h9⟩
 |.int k,.int k',x,y,cs,h,hxy,h1=>by
  simp only[Ty.sh]at h
  grind
 |.bool,.bool,x,y,cs,h,hxy,h1=>by cases hxy;exact h1
 |.str,.str,x,y,cs,h,hxy,h1=>by cases hxy;exact h1
 |.unit,.unit,x,y,cs,h,hxy,h1=>h1
 |.hdr,.hdr,x,y,cs,h,hxy,h1=>by cases hxy;exact h1
def Row (w:World)(E:TypeId)(s:Nat)(v:Value)(n:Nat)(flat:List Value):Prop :=
 flat.length=n*s/\((v=.slice none 0 0/\n=0) \/
  ∃ g cap cur mk,v=.slice (some ⟨g,0,none⟩) n cap/\w.heap[g]?=some (.cells cur E mk)/\n<=cap/\(mk=(0,0)/\cap<=maxLen\/s=1/\cur.size<=mk.1)/\cap*s<=cur.size/\cur.toList.take (n*s)=flat)
theorem Row.of {w:World}{b:Nat}{E:TypeId}{s n:Nat}{v:Value}{flat:List Value}(h:w.ownsRow b E s v n flat):Row w E s v n flat:=by
 refine⟨h.1,h.2.imp id ?_⟩
 grind
theorem Row.same {w w':World}{E:TypeId}{s n:Nat}{v:Value}{flat:List Value}(h:Row w E s v n flat)(hb:∀ k∈v.ownBlock.toList,w'.heap[k]?=w.heap[k]?):Row w' E s v n flat:=by
 refine⟨h.1,?_⟩;rcases h.2 with hn|⟨g,cap,cur,mk,rfl,hg,rest⟩
 ·grind
 ·exact .inr ⟨g,cap,cur,mk,rfl,by rw[hb g (by simp[AZ])];exact hg,rest⟩
theorem Row.lt {w:World}{E:TypeId}{s n:Nat}{v:Value}{flat:List Value}(h:Row w E s v n flat):∀ k∈v.ownBlock.toList,k<w.heap.size:=by
 intro k hk;rcases h.2 with ⟨rfl,_⟩|⟨g,cap,cur,_,rfl,hg,_⟩
 ·simp[AZ]at hk
 ·simp[AZ]at hk
  grind
theorem Row.slice {w:World}{E:TypeId}{s n:Nat}{v:Value}{flat:List Value}(h:Row w E s v n flat):∃ A cap,v=.slice A n cap/\n<=cap:=by
 rcases h.2 with ⟨rfl,hn⟩|⟨g,cap,cur,_,rfl,_,hc,_⟩
 ·grind
 ·grind
theorem Row.nil (w:World)(E:TypeId)(s:Nat):Row w E s (.slice none 0 0) 0 []:=⟨by simp,.inl ⟨rfl,rfl⟩⟩
theorem Row.cellAt {w:World}{E:TypeId}{s n g cap:Nat}{flat:List Value}(h:Row w E s (.slice (some ⟨g,0,none⟩) n cap) n flat)(j:Nat)(hj:j<n*s):w.cell? ⟨g,j,none⟩=flat[j]?:=by
 rcases h.2 with ⟨h',_⟩|⟨g',cap',cur,mk,h',hg,_,_,_,htake⟩
 ·grind
 ·simp at h';obtain⟨rfl,rfl⟩:=h';rw[cell_of_row w g j cur E mk hg,<- htake,AP,if_pos hj];simp
theorem xB {mk:Nat×Nat}{s z c:Nat}(h:mk=(0,0)/\c<=maxLen\/s=1/\z<=mk.1):mk.2=0\/z<=mk.1:=h.imp (λh=>by rw[h.1]) (·.2)
theorem pL {w:World}{g j:Nat}{cs:Array Value}{E:TypeId}{mk:Nat×Nat}(hg:w.heap[g]?=some (.cells cs E mk))(hm:mk.2=0\/cs.size<=mk.1)(hj:j<cs.size):w.frozen? ⟨g,j,none⟩=false:=by
 simp only[World.frozen?,hg,Bool.and_eq_false_iff,decide_eq_false_iff_not];omega
def Mx (w:World)(G:Nat->Prop):(a:Ty)->Option Nat->Nat->a.den->List Value->List Nat->Prop
 |.int k,_,_,n,cs,bs=>cs=[.int k n]/\bs=[]
 |.bool,_,_,b,cs,bs=>cs=[.bool b]/\bs=[]
 |.str,_,_,s,cs,bs=>cs=[.string s]/\bs=[]
 |.unit,_,_,_,cs,bs=>cs=[]/\bs=[]
 |.hdr,_,_,n,cs,bs=>(∃ A cap,cs=[.slice A n cap])/\bs=[]
 |.pair a b,h,pos,x,cs,bs=>∃ c1 c2 b1 b2,cs=c1++c2/\bs=b1++b2/\Mx w G a h pos x.1 c1 b1/\Mx w G b h (pos+a.cells) x.2 c2 b2
 |.list m E e,h,pos,xs,cs,bs=>∃ v,cs=[v]/\v.oneCell'=true /\
  (if m=true then (if h=some pos then bs=[] else ∃ flat bss,Row w E e.cells v xs.length flat/\bs=v.ownBlock.toList++(Ab xs.length).flatMap bss /\
    ∀ j (x:e.den),xs[j]?=some x->∃ c,Mx w G e none 0 x c (bss j)/\∀ i u,c[i]?=some u->flat[j*e.cells+i]?=some u)
   else bs=[]/\Rd w G (.list m E e) xs [v])
def OwB (w:World)(G:Nat->Prop)(h:Option (Nat×Nat))(E:TypeId)(e:Ty)(xs:List e.den)(v:Value)(bs:List Nat):Prop :=
 ∃ flat bss,Row w E e.cells v xs.length flat/\bs=v.ownBlock.toList++(Ab xs.length).flatMap bss /\
  ∀ j (x:e.den),xs[j]?=some x->∃ c,Mx w G e (cB h j) 0 x c (bss j)/\∀ i u,c[i]?=some u->flat[j*e.cells+i]?=some u
def OwH (w:World)(G:Nat->Prop)(h:Option (Nat×Nat))(E:TypeId)(e:Ty)(xs:List e.den)(v:Value)(bs:List Nat):Prop:=bs.Nodup/\OwB w G h E e xs v bs
abbrev Ow (w:World)(G:Nat->Prop)(E:TypeId)(e:Ty)(xs:List e.den)(v:Value)(bs:List Nat):Prop:=OwH w G none E e xs v bs
theorem OwB.one {w:World}{G:Nat->Prop}{h:Option (Nat×Nat)}{E:TypeId}{e:Ty}{xs:List e.den}{v:Value}{bs:List Nat}(H:OwB w G h E e xs v bs):v.oneCell'=true:=by
 obtain⟨flat,bss,h1,_⟩:=H;obtain⟨A,cap,rfl,_⟩:=h1.slice;rfl
theorem cd {w:World}{G:Nat->Prop}{h:Option Nat}{E:TypeId}{e:Ty}{pos:Nat}{xs:List e.den}{cs:List Value}{bs:List Nat}(hp:h≠some pos) :
  Mx w G (.list true E e) h pos xs cs bs<->∃ v,cs=[v]/\OwB w G none E e xs v bs:=by
 simp only[Mx,if_neg hp];constructor
 ·rintro⟨v,h1,h2,h3⟩;exact⟨v,h1,h3⟩
 ·rintro⟨v,h1,h3⟩;exact⟨v,h1,h3.one,h3⟩
theorem ii {w:World}{G:Nat->Prop}{E:TypeId}{e:Ty}{pos:Nat}{xs:List e.den}{cs:List Value}{bs:List Nat} :
  Mx w G (.list true E e) (some pos) pos xs cs bs<->∃ v,cs=[v]/\v.oneCell'=true/\bs=[]:=by
 simp only[Mx,if_true]
theorem cn {w:World}{G:Nat->Prop}{h:Option Nat}{E:TypeId}{e:Ty}{pos:Nat}{xs:List e.den}{cs:List Value}{bs:List Nat} :
  Mx w G (.list false E e) h pos xs cs bs<->bs=[]/\Rd w G (.list false E e) xs cs:=by
 simp only[Mx];constructor
 ·grind
 ·rintro⟨h1,h2⟩;obtain⟨A,cap,h3,h4⟩:=h2;exact⟨_,h3,rfl,h1,A,cap,rfl,h4⟩
theorem dz {n:Nat}{bss:Nat->List Nat}{k:Nat}:k∈(Ab n).flatMap bss<->∃ j,j<n/\k∈bss j:=by simp
theorem Mx.carry {w w':World}{G G':Nat->Prop}(hG:∀ k,G k->G' k)(hw:∀ k,G k->w'.heap[k]?=w.heap[k]?) :
  ∀ {a:Ty} {h:Option Nat} {pos:Nat} {x:a.den} {cs:List Value} {bs:List Nat},(∀ k∈bs,w'.heap[k]?=w.heap[k]?)->Mx w G a h pos x cs bs->Mx w' G' a h pos x cs bs
 |.int _,_,_,_,_,_,_,h=>h
 |.bool,_,_,_,_,_,_,h=>h
 |.str,_,_,_,_,_,_,h=>h
 |.unit,_,_,_,_,_,_,h=>h
 |.hdr,_,_,_,_,_,_,h=>h
 |.pair _ _,_,_,_,_,_,hb,⟨c1,c2,b1,b2,e1,e2,h1,h2⟩=>⟨c1,c2,b1,b2,e1,e2,Mx.carry hG hw (λk hk=>hb k (by rw[e2];exact AH _ hk)) h1,Mx.carry hG hw (λk hk=>hb k (by rw[e2];exact AF _ hk)) h2⟩
 |.list m E e,h,pos,xs,cs,bs,hb,H=>by
  cases m with
  |false =>
   rw[cn]at H ⊢;exact⟨H.1,H.2.carry hG hw⟩
  |true =>
   by_cases hp:h=some pos
   ·subst hp;rw[ii]at H ⊢;exact H
   ·rw[cd hp]at H ⊢;obtain⟨v,e1,flat,bss,h1,h2,h3⟩:=H;refine⟨v,e1,flat,bss,h1.same (λk hk=>hb k (by rw[h2];exact AH _ hk)),h2,λj x hj=>?_⟩;obtain⟨c,h4,h5⟩:=h3 j x hj;refine⟨c,?_,h5⟩;exact Mx.carry hG hw (λk hk=>hb k (by rw[h2];exact AF _ (dz.2 ⟨j,(AC.1 hj).1,hk⟩))) h4
theorem Mx.mono {w:World}{G G':Nat->Prop}(hG:∀ k,G k->G' k){a:Ty}{h:Option Nat}{pos:Nat}{x:a.den}{cs:List Value}{bs:List Nat}(H:Mx w G a h pos x cs bs):Mx w G' a h pos x cs bs :=
 Mx.carry hG (λ_ _=>rfl) (λ_ _=>rfl) H
theorem OwB.carry {w w':World}{G G':Nat->Prop}{h:Option (Nat×Nat)}{E:TypeId}{e:Ty}{xs:List e.den}{v:Value}{bs:List Nat}(H:OwB w G h E e xs v bs)
  (hG:∀ k,G k->G' k) (hw:∀ k,G k->w'.heap[k]?=w.heap[k]?) (hb:∀ k∈bs,w'.heap[k]?=w.heap[k]?):OwB w' G' h E e xs v bs:=by
 obtain⟨flat,bss,h1,h2,h3⟩:=H;refine⟨flat,bss,h1.same (λk hk=>hb k (by rw[h2];exact AH _ hk)),h2,λj x hj=>?_⟩;obtain⟨c,h4,h5⟩:=h3 j x hj;exact⟨c,Mx.carry hG hw (λk hk=>hb k (by rw[h2];exact AF _ (dz.2 ⟨j,(AC.1 hj).1,hk⟩))) h4,h5⟩
theorem OwH.carry {w w':World}{G G':Nat->Prop}{h:Option (Nat×Nat)}{E:TypeId}{e:Ty}{xs:List e.den}{v:Value}{bs:List Nat}(H:OwH w G h E e xs v bs)
 (hG:∀ k,G k->G' k) (hw:∀ k,G k->w'.heap[k]?=w.heap[k]?) (hb:∀ k∈bs,w'.heap[k]?=w.heap[k]?):OwH w' G' h E e xs v bs:=⟨H.1,H.2.carry hG hw hb⟩
theorem Mx.len {w:World}{G:Nat->Prop}:∀ {a:Ty} {h:Option Nat} {pos:Nat} {x:a.den} {cs:List Value} {bs:List Nat},Mx w G a h pos x cs bs->cs.length=a.cells
 |.int _,_,_,_,_,_,h=>by rw[h.1];rfl
 |.bool,_,_,_,_,_,h=>by rw[h.1];rfl
 |.str,_,_,_,_,_,h=>by rw[h.1];rfl
 |.unit,_,_,_,_,_,h=>by rw[h.1];rfl
 |.hdr,_,_,_,_,_,⟨⟨A,cap,e⟩,_⟩=>by rw[e];rfl
 |.pair _ _,_,_,_,_,_,⟨c1,c2,b1,b2,e1,e2,h1,h2⟩=>by rw[e1,A1,h1.len,h2.len];rfl
 |.list _ _ _,_,_,_,_,_,⟨v,e,_⟩=>by rw[e];rfl
theorem Mx.one {w:World}{G:Nat->Prop}:∀ {a:Ty} {h:Option Nat} {pos:Nat} {x:a.den} {cs:List Value} {bs:List Nat},Mx w G a h pos x cs bs->∀ v∈cs,v.oneCell'=true
 |.int _,_,_,_,_,_,h=>by rw[h.1];simp[AK]
 |.bool,_,_,_,_,_,h=>by rw[h.1];simp[AK]
 |.str,_,_,_,_,_,h=>by rw[h.1];simp[AK]
 |.unit,_,_,_,_,_,h=>by rw[h.1];simp
 |.hdr,_,_,_,_,_,⟨⟨A,cap,e⟩,_⟩=>by rw[e];simp[AK]
 |.pair _ _,_,_,_,_,_,⟨c1,c2,b1,b2,e1,e2,h1,h2⟩=>by
  rw[e1];intro v hv;rcases AN.1 hv with hv|hv
  ·exact h1.one v hv
  ·exact h2.one v hv
 |.list _ _ _,_,_,_,_,_,⟨v,e,h1,_⟩=>by rw[e];simpa using h1
theorem Mx.lt {w:World}{G:Nat->Prop}:∀ {a:Ty} {h:Option Nat} {pos:Nat} {x:a.den} {cs:List Value} {bs:List Nat},Mx w G a h pos x cs bs->∀ k∈bs,k<w.heap.size
 |.int _,_,_,_,_,_,h=>by rw[h.2];simp
 |.bool,_,_,_,_,_,h=>by rw[h.2];simp
 |.str,_,_,_,_,_,h=>by rw[h.2];simp
 |.unit,_,_,_,_,_,h=>by rw[h.2];simp
 |.hdr,_,_,_,_,_,h=>by rw[h.2];simp
 |.pair _ _,_,_,_,_,_,⟨c1,c2,b1,b2,e1,e2,h1,h2⟩=>by
  rw[e2];intro k hk;rcases AN.1 hk with hk|hk
  ·exact h1.lt k hk
  ·exact h2.lt k hk
 |.list m E e,h,pos,xs,cs,bs,H=>by
  cases m with
  |false=>rw[cn]at H;rw[H.1];simp
  |true =>
   by_cases hp:h=some pos
   ·subst hp;rw[ii]at H
    grind
   ·rw[cd hp]at H;obtain⟨v,e1,flat,bss,h1,h2,h3⟩:=H;rw[h2];intro k hk;rcases AN.1 hk with hk|hk
    ·exact h1.lt k hk
    ·obtain⟨j,hj,hk⟩:=dz.1 hk;obtain⟨c,h4,_⟩:=h3 j _ (AG hj);exact h4.lt k hk
theorem OwB.lt {w:World}{G:Nat->Prop}{h:Option (Nat×Nat)}{E:TypeId}{e:Ty}{xs:List e.den}{v:Value}{bs:List Nat}(H:OwB w G h E e xs v bs):∀ k∈bs,k<w.heap.size:=by
 obtain⟨flat,bss,h1,h2,h3⟩:=H;rw[h2];intro k hk;rcases AN.1 hk with hk|hk
 ·exact h1.lt k hk
 ·obtain⟨j,hj,hk⟩:=dz.1 hk;obtain⟨c,h4,_⟩:=h3 j _ (AG hj);exact h4.lt k hk
theorem OwH.lt {w:World}{G:Nat->Prop}{h:Option (Nat×Nat)}{E:TypeId}{e:Ty}{xs:List e.den}{v:Value}{bs:List Nat}(H:OwH w G h E e xs v bs):∀ k∈bs,k<w.heap.size:=H.2.lt
theorem OwH.nodup {w:World}{G:Nat->Prop}{h:Option (Nat×Nat)}{E:TypeId}{e:Ty}{xs:List e.den}{v:Value}{bs:List Nat}(H:OwH w G h E e xs v bs):bs.Nodup:=H.1
theorem OwH.slice {w:World}{G:Nat->Prop}{h:Option (Nat×Nat)}{E:TypeId}{e:Ty}{xs:List e.den}{v:Value}{bs:List Nat}(H:OwH w G h E e xs v bs) :
  ∃ A cap,v=.slice A xs.length cap/\xs.length<=cap:=by
 obtain⟨_,flat,bss,h1,_⟩:=H;exact h1.slice
theorem OwH.one {w:World}{G:Nat->Prop}{h:Option (Nat×Nat)}{E:TypeId}{e:Ty}{xs:List e.den}{v:Value}{bs:List Nat}(H:OwH w G h E e xs v bs):v.oneCell'=true:=H.2.one
theorem q9 {w:World}{m:Bool}{E E':TypeId}{e:Ty}{xs:List e.den}{v:Value}{flat:List Value}{S:Nat->Prop}(h1:Row w E e.cells v xs.length flat)(hS:∀ k∈v.ownBlock.toList,S k)
  (h3:∀ j (x:e.den),xs[j]?=some x->∃ c,Rd w S e x c/\∀ i u,c[i]?=some u->flat[j*e.cells+i]?=some u):Rd w S (.list m E' e) xs [v]:=by
 rcases h1.2 with ⟨rfl,hn⟩|⟨g,cap,cur,mk,rfl,hg,hc,hm,hs,ht⟩
 ·exact⟨none,0,by rw[hn],by omega,λhp=>by omega⟩
 ·refine⟨some ⟨g,0,none⟩,cap,rfl,hc,λ_=>⟨g,0,rfl,hS g (by simp[AZ]),λj x hj=>?_⟩⟩;obtain⟨c,hr,hcl⟩:=h3 j x hj;refine⟨c,hr,λi u hu=>?_⟩;have:=hcl i u hu;rw[<- ht,AP]at this;split at this
  ·rw[A3,cell_of_row w g _ cur E mk hg]
   simp_all
  ·grind
theorem Mx.rd {w:World}{G S:Nat->Prop}(hG:∀ k,G k->S k):∀ {a:Ty} {pos:Nat} {x:a.den} {cs:List Value} {bs:List Nat},(∀ k∈bs,S k)->Mx w G a none pos x cs bs->Rd w S a x cs
 |.int _,_,_,_,_,_,h=>h.1
 |.bool,_,_,_,_,_,h=>h.1
 |.str,_,_,_,_,_,h=>h.1
 |.unit,_,_,_,_,_,h=>h.1
 |.hdr,_,_,_,_,_,h=>h.1
 |.pair _ _,_,_,_,_,hb,⟨c1,c2,b1,b2,e1,e2,h1,h2⟩=>⟨c1,c2,e1,Mx.rd hG (λk hk=>hb k (by rw[e2];exact AH _ hk)) h1,Mx.rd hG (λk hk=>hb k (by rw[e2];exact AF _ hk)) h2⟩
 |.list m E e,pos,xs,cs,bs,hb,H=>by
  cases m with
  |false=>rw[cn]at H;exact H.2.mono hG
  |true =>
   rw[cd (by simp)]at H;obtain⟨v,e1,flat,bss,h1,h2,h3⟩:=H;rw[e1];refine q9 h1 (λk hk=>hb k (by rw[h2];exact AH _ hk)) λj x hj=>?_
   obtain⟨c,h4,h5⟩:=h3 j x hj;have h4':Mx w G e none 0 x c (bss j):=h4;exact⟨c,Mx.rd hG (λk hk=>hb k (by rw[h2];exact AF _ (dz.2 ⟨j,(AC.1 hj).1,hk⟩))) h4',h5⟩
theorem OwH.rd {w:World}{G:Nat->Prop}{m:Bool}{E E':TypeId}{e:Ty}{xs:List e.den}{v:Value}{bs:List Nat}(H:Ow w G E e xs v bs) :
  Rd w (λk=>G k\/k∈bs) (.list m E' e) xs [v]:=by
 obtain⟨_,flat,bss,h1,h2,h3⟩:=H;refine q9 h1 (λk hk=>.inr (by rw[h2];exact AH _ hk)) λj x hj=>?_
 obtain⟨c,h4,h5⟩:=h3 j x hj;have h4':Mx w G e none 0 x c (bss j):=h4;exact⟨c,h4'.rd (λk hk=>.inl hk) (λk hk=>.inr (by rw[h2];exact AF _ (dz.2 ⟨j,(AC.1 hj).1,hk⟩))),h5⟩
theorem OwH.nil (w:World)(G:Nat->Prop)(E:TypeId)(e:Ty):Ow w G E e [] (.slice none 0 0) [] :=
 ⟨List.nodup_nil,[],λ_=>[],Row.nil w E e.cells,rfl,λj x hj=>by simp at hj⟩
theorem Rd.nil (w:World)(G:Nat->Prop)(m:Bool)(E:TypeId)(e:Ty):Rd w G (.list m E e) [] [.slice none 0 0] :=
 ⟨none,0,rfl,AI _,λh=>by simp at h⟩
theorem Mx.flat {w w':World}{G G':Nat->Prop}:∀ {a:Ty} {h:Option Nat} {pos:Nat} {x:a.den} {cs:List Value},a.flat=true->Rd w G a x cs->Mx w' G' a h pos x cs []
 |.int _,_,_,_,_,_,h=>⟨h,rfl⟩
 |.bool,_,_,_,_,_,h=>⟨h,rfl⟩
 |.str,_,_,_,_,_,h=>⟨h,rfl⟩
 |.unit,_,_,_,_,_,h=>⟨h,rfl⟩
 |.hdr,_,_,_,_,_,h=>⟨h,rfl⟩
 |.pair _ _,_,_,_,_,hf,⟨c1,c2,e,h1,h2⟩=>by
  simp only[Ty.flat,AD]at hf;exact⟨c1,c2,[],[],e,rfl,Mx.flat hf.1 h1,Mx.flat hf.2 h2⟩
theorem Mx.shared {w:World}{G:Nat->Prop}:∀ {a:Ty} {h:Option Nat} {pos:Nat} {x:a.den} {cs:List Value},a.sh=a->Rd w G a x cs->Mx w G a h pos x cs []
 |.int _,_,_,_,_,_,h=>⟨h,rfl⟩
 |.bool,_,_,_,_,_,h=>⟨h,rfl⟩
 |.str,_,_,_,_,_,h=>⟨h,rfl⟩
 |.unit,_,_,_,_,_,h=>⟨h,rfl⟩
 |.hdr,_,_,_,_,_,h=>⟨h,rfl⟩
 |.pair _ _,_,_,_,_,hf,⟨c1,c2,e,h1,h2⟩=>by
  simp only[Ty.sh,Ty.pair.injEq]at hf;exact⟨c1,c2,[],[],e,rfl,Mx.shared hf.1 h1,Mx.shared hf.2 h2⟩
 |.list m E e,_,_,_,_,hf,h=>by
  simp only[Ty.sh,Ty.list.injEq]at hf;obtain⟨rfl,_⟩:=hf;exact cn.2 ⟨rfl,h⟩
def cX (agg:Bool)(v:Value)(cs:List Value):Prop:=if agg then v=.agg cs.toArray else cs=[v]
def qI (w:World)(G:Nat->Prop):(As:List Ty)->Tup As->List Value->Prop
 |[],_,vs=>vs=[]
 |a::as,x,vs=>∃ v c vs',vs=v::vs'/\cX a.isAgg v c/\Rd w G a x.1 c/\qI w G as x.2 vs'
def kv (P:Program)(f:FuncId):Prop:=∀ (args:Array Value) (w:World),(callFunc f args).run P w=.ok (.enter f args) w
def ij (P:Program)(w0:World)(S:Nat->Prop)(As:List Ty)(B:Ty)(φ:Tup As->Option B.den)(v:Value):Prop :=
 ∃ f caps,v=.func (.func f) #[] caps/\kv P f /\
  ∀ w1:World,w0.heap.size<=w1.heap.size->(∀ k,S k->w1.heap[k]?=w0.heap[k]?) ->
   ∀ (x:Tup As) (args:List Value) (y:B.den),qI w1 (λk=>k<w1.heap.size) As x args->φ x=some y ->
    Calls P f (args.toArray++caps) w1 (λe w2=>∃ u c,e=.returned u/\cX B.isAgg u c/\Rd w2 (λ_=>False) B y c/\Below w1.heap.size w1 w2)
structure Env where
 w0:World
 ro0:Nat->Prop
 own0:List Nat
 nt:Nat
 fixb:List (Nat×Nat)
 fixt:List (Nat×Value)
def Env.prot (V:Env)(k:Nat):Prop:=k<V.w0.heap.size/\k∉V.own0
structure Wit where
 β:Nat->Nat
 cs:Nat->List Value
 bs:Nat->Nat->List Nat
 nw:Nat->Prop
def gd (V:Env)(W:Wit)(p:Bool)(k:Nat):Prop:=W.nw k\/(p=true/\V.ro0 k)
def an:Leaf->Prop
 |.own _ _ _ _ _=>True
 |_=>False
def RpOk (V:Env)(W:Wit)(w:World)(p:Bool)(a:Ty)(x:a.den)(off:Nat)(v:Value):Prop :=
 ∃ g o c,v=.pointer (some ⟨g,o+off,none⟩)/\(W.nw g\/V.prot g)/\Rd w (gd V W p) a x c/\cJ w g o c
def qJ (V:Env)(W:Wit)(w:World)(p:Bool)(a:Ty)(x:a.den)(v:Value):Prop :=
 ∃ b ob g o c,v=.pointer (some ⟨b,ob,none⟩)/\(W.nw b\/V.prot b)/\w.cell? ⟨b,ob,none⟩=some (.pointer (some ⟨g,o,none⟩)) /\
  (W.nw g\/V.prot g)/\Rd w (gd V W p) a x c/\cJ w g o c
def gV (V:Env)(W:Wit)(w:World)(c:Bool×Bool×(a:Ty)×a.den)(v:Value):Prop :=
 if c.2.1=true then qJ V W w c.1 c.2.2.1 c.2.2.2 v else RpOk V W w c.1 c.2.2.1 c.2.2.2 0 v
def qK (st:St)(ks:List (Nat×Nat×Nat)):Prop:=∀ k∈ks,∃ l,(st k.1).ls[k.2.1]?=some l/\an l
structure qL (V:Env) (W:Wit) (w:World) (p:Bool) (ks:List (Nat×Nat×Nat)) (loc:Option (Nat×Nat×Nat)) (E:TypeId) (e:Ty) (xs:List e.den) (v:Value):Prop where
 rd:Rd w (λb=>gd V W p b\/∃ k∈ks,b∈W.bs k.1 k.2.1) (.list false E e) xs [v]
 at_:∀ i sz off,loc=some (i,sz,off)->∃ r j n,ks=[(r,j,n)]/\∃ g len cap,(W.cs r)[j]?=some (.slice (some ⟨g,0,none⟩) len cap)/\i<len/\g∈W.bs r j/\w.cell? ⟨g,i*sz+off,none⟩=some v
structure NpOk (V:Env) (W:Wit) (w:World) (p:Bool) (ks:List (Nat×Nat×Nat)) (a:Ty) (x:a.den) (off:Nat) (v:Value):Prop where
 rd:∃ g o c,v=.pointer (some ⟨g,o+off,none⟩)/\(gd V W p g\/∃ k∈ks,g∈W.bs k.1 k.2.1)/\Rd w (λb=>gd V W p b\/∃ k∈ks,b∈W.bs k.1 k.2.1) a x c/\cJ w g o c
def aK (P:Program)(V:Env)(W:Wit)(st:St)(w:World)(bs:List Nat):Leaf->Value->Prop
 |.int k n,v=>v=.int k n
 |.bool b,v=>v=.bool b
 |.str s,v=>v=.string s
 |.nil,v=>v=.slice none 0 0
 |.hdr n,v=>∃ A cap,v=.slice A n cap
 |.ro p E e xs,v=>Rd w (gd V W p) (.list false E e) xs [v]
 |.own p h E e xs,v=>OwH w (gd V W p) h E e xs v bs
 |.al r j n,v=>n<=(st r).ver/\((st r).ver=n->(W.cs r)[j]?=some v)
 |.nal p ks ep loc E e xs,v=>ep<=(st EPO).ver/\(∀ k∈ks,k.2.2<=(st k.1).ver)/\((st EPO).ver=ep->(∀ k∈ks,(st k.1).ver=k.2.2)->qK st ks->qL V W w p ks loc E e xs v)
 |.ep r j n i sz off,v=>n<=(st r).ver/\((st r).ver=n->∃ g len cap,(W.cs r)[j]?=some (.slice (some ⟨g,0,none⟩) len cap)/\i<len/\v=.pointer (some ⟨g,i*sz+off,none⟩))
 |.np p ks ep a x off,v=>ep<=(st EPO).ver/\(∀ k∈ks,k.2.2<=(st k.1).ver)/\((st EPO).ver=ep->(∀ k∈ks,(st k.1).ver=k.2.2)->qK st ks->NpOk V W w p ks a x off v)
 |.rp p a x off,v=>RpOk V W w p a x off v
 |.rpp p a x,v=>qJ V W w p a x v
 |.bp b off,v=>B0<=b/\(st b).sh=.agg/\v=.pointer (some ⟨W.β b,off,none⟩)
 |.clo f caps,v=>v=.func (.func f) #[] (caps.map λb=>Value.pointer (some ⟨W.β b,0,none⟩)).toArray/\∀ b∈caps,B0<=b/\(st b).sh=.agg
 |.clr f caps,v=>∃ us:List Value,v=.func (.func f) #[] us.toArray/\us.length=caps.length/\∀ (i:Nat) (c:Bool×Bool×(a:Ty)×a.den) (u:Value),caps[i]?=some c->us[i]?=some u->gV V W w c u
 |.fn As B φ,v=>ij P V.w0 V.prot As B φ v
 |.dead,_=>True
def n9:List (Bool×Nat)->List Value->List Value->Prop
 |[],vs,cs=>vs=[]/\cs=[]
 |(agg,n)::ps,vs,cs=>∃ v vs' c cs',vs=v::vs'/\cs=c++cs'/\c.length=n/\cX agg v c/\n9 ps vs' cs'
def dJ:aI->Value->List Value->Prop
 |.off,_,cs=>cs=[]
 |.und,v,cs=>v=undef/\cs=[]
 |.one,v,cs=>cs=[v]
 |.agg,v,cs=>v=.agg cs.toArray
 |.tup ps,v,cs=>∃ vs,v=.tuple vs.toArray/\n9 ps vs cs
def live (st:St)(b:Nat):Prop:=B0<=b/\(st b).sh=.agg
structure ao (P:Program) (V:Env) (W:Wit) (st:St) (a:Act) (w:World):Prop where
 nt:a.tmps.size=V.nt
 df:a.defers=[]
 slots:∀ t,t<GH->dJ (st t).sh (a.tmps.getD t undef) (W.cs t)
 boxes:∀ b,B0<=b->((st b).sh=.off/\(st b).ls=[])\/((st b).sh=.agg/\∃ E,w.heap[W.β b]?=some (.cells (W.cs b).toArray E (0,0)))
 len:∀ r,(st r).ls.length=(W.cs r).length
 one:∀ r,∀ v∈W.cs r,v.oneCell'=true
 leaf:∀ r j l v,(st r).ls[j]?=some l->(W.cs r)[j]?=some v->aK P V W st w (W.bs r j) l v
 ownb:∀ r j l,(st r).ls[j]?=some l->an l->∀ k∈W.bs r j,¬ W.nw k/\¬ V.prot k/\∀ b,live st b->W.β b≠k
 sep:∀ r j l r' j' l',(st r).ls[j]?=some l->an l->(st r').ls[j']?=some l'->an l'->∀ k,k∈W.bs r j->k∈W.bs r' j'->r=r'/\j=j'
 box:∀ b,live st b->¬ W.nw (W.β b)/\¬ V.prot (W.β b)
 inj:∀ b b',live st b->live st b'->W.β b=W.β b'->b=b'
 nwlt:∀ k,W.nw k->k<w.heap.size/\¬ V.prot k
 os:w.os=V.w0.os
 tape:w.tape=V.w0.tape
 output:w.output=V.w0.output
 size:V.w0.heap.size<=w.heap.size
 keep:∀ k,V.prot k->w.heap[k]?=V.w0.heap[k]?
 fixb:∀ x∈V.fixb,live st x.1/\W.β x.1=x.2
 fixt:∀ x∈V.fixt,a.tmps.getD x.1 undef=x.2
def Rel (P:Program)(V:Env)(st:St)(a:Act)(w:World):Prop:=∃ W,ao P V W st a w
structure ax (V:Env):Prop where
 ro:∀ k,V.ro0 k->V.prot k
 nt:V.nt<=GH
theorem ax.ntB {V:Env}(h:ax V):V.nt<=B0:=AL h.nt (by decide)
section
variable {P:Program} {V:Env} {W W':Wit} {st st':St} {w w':World}
theorem bR {p q:Bool}(hpq:p=true->q=true)(hnw:∀ k,W.nw k->W'.nw k):∀ k,gd V W p k->gd V W' q k:=by
 intro k hk;rcases hk with hk|⟨hp,hk⟩
 ·exact .inl (hnw k hk)
 ·exact .inr ⟨hpq hp,hk⟩
structure co (V:Env) (W W':Wit) (st st':St) (w w':World):Prop where
 ver:∀ r,(st r).ver<=(st' r).ver/\((st' r).ver=(st r).ver->W'.cs r=W.cs r)
 box:∀ b,live st b->live st' b/\W'.β b=W.β b
 nw:∀ k,W.nw k->W'.nw k
 heap:∀ k,(W.nw k\/V.prot k)->w'.heap[k]?=w.heap[k]?
 epo:(st' EPO).ver=(st EPO).ver->∀ (r j:Nat) (l:Leaf),(st' r).ls[j]?=some l->an l->(st' r).ver=(st r).ver ->
  (∃ l',(st r).ls[j]?=some l'/\an l')/\W'.bs r j=W.bs r j/\∀ k∈W.bs r j,w'.heap[k]?=w.heap[k]?
theorem co.refl (V:Env)(W:Wit)(st:St)(w:World):co V W W st st w w :=
 ⟨λ_=>⟨AI _,λ_=>rfl⟩,λ_ hb=>⟨hb,rfl⟩,λ_ h=>h,λ_ _=>rfl,λ_ _ _ l h1 h2 _=>⟨⟨l,h1,h2⟩,rfl,λ_ _=>rfl⟩⟩
theorem jK {w w':World}{a:Addr}(h:w'.heap[a.block]?=w.heap[a.block]?):w'.cell? a=w.cell? a:=by simp[BI,h]
theorem co.gdheap (hro:∀ k,V.ro0 k->V.prot k)(h:co V W W' st st' w w')(p:Bool):∀ k,gd V W p k->w'.heap[k]?=w.heap[k]?:=by
 intro k hk;rcases hk with hk|⟨_,hk⟩
 ·exact h.heap k (.inl hk)
 ·exact h.heap k (.inr (hro k hk))
theorem uW {ks:List (Nat×Nat×Nat)}{ep:Nat}(hs:co V W W' st st' w w')(h1:ep<=(st EPO).ver)(h2:∀ k∈ks,k.2.2<=(st k.1).ver)(he:(st' EPO).ver=ep)(hk:∀ k∈ks,(st' k.1).ver=k.2.2) :
  (st EPO).ver=ep/\∀ k∈ks,(st k.1).ver=k.2.2 :=
 ⟨by have:=(hs.ver EPO).1;omega,λk hm=>by have:=(hs.ver k.1).1;have:=h2 k hm;have:=hk k hm;omega⟩
theorem co.places {ks:List (Nat×Nat×Nat)}{ep:Nat}(hs:co V W W' st st' w w')(ho:qK st' ks)(e1:(st EPO).ver=ep)(e2:∀ k∈ks,(st k.1).ver=k.2.2)
  (he:(st' EPO).ver=ep) (hk:∀ k∈ks,(st' k.1).ver=k.2.2) :
  ∀ k∈ks,(∃ l',(st k.1).ls[k.2.1]?=some l'/\an l')/\W'.bs k.1 k.2.1=W.bs k.1 k.2.1/\∀ b∈W.bs k.1 k.2.1,w'.heap[b]?=w.heap[b]?:=λk hm=>by
 obtain⟨l,h6,h7⟩:=ho k hm;exact hs.epo (by omega) k.1 k.2.1 l h6 h7 (by rw[hk k hm,e2 k hm])
theorem aK.carry (hro:∀ k,V.ro0 k->V.prot k){bs bs':List Nat}{l:Leaf}{v:Value}(h:aK P V W st w bs l v)(hs:co V W W' st st' w w')
  (hown:an l->bs'=bs/\∀ k∈bs,w'.heap[k]?=w.heap[k]?):aK P V W' st' w' bs' l v:=by
 have hG:∀ p k,gd V W p k->gd V W' p k:=λp=>bR (λh=>h) hs.nw
 have hP:∀ k,(W.nw k\/V.prot k)->(W'.nw k\/V.prot k):=λk hk=>hk.imp (hs.nw k) id
 have hR:∀ {p:Bool} {a:Ty} {x:a.den} {off:Nat} {v:Value},RpOk V W w p a x off v->RpOk V W' w' p a x off v:=by
  rintro p a x off v ⟨g,o,c,hv,hg,hr,hc⟩;exact⟨g,o,c,hv,hP g hg,Rd.carry (hG p) (hs.gdheap hro p) hr,hc.same (hs.heap g hg)⟩
 have hRR:∀ {p:Bool} {a:Ty} {x:a.den} {v:Value},qJ V W w p a x v->qJ V W' w' p a x v:=by
  rintro p a x v ⟨b,ob,g,o,c,hv,hb,hcell,hg,hr,hc⟩;exact⟨b,ob,g,o,c,hv,hP b hb,by rw[jK (hs.heap b hb)];exact hcell,hP g hg,Rd.carry (hG p) (hs.gdheap hro p) hr,hc.same (hs.heap g hg)⟩
 cases l with
 |int k n=>exact h
 |bool b=>exact h
 |str s=>exact h
 |nil=>exact h
 |hdr n=>exact h
 |ro p E e xs=>exact Rd.carry (hG p) (hs.gdheap hro p) h
 |own p hh E e xs =>
  obtain⟨rfl,hb⟩:=hown trivial;exact OwH.carry h (hG p) (hs.gdheap hro p) hb
 |nal p ks ep loc E e xs =>
  obtain⟨h1,h2,h3⟩:=h;refine⟨AL h1 (hs.ver EPO).1,λk hk=>AL (h2 k hk) (hs.ver k.1).1,λhe hk ho=>?_⟩;obtain⟨e1,e2⟩:=uW hs h1 h2 he hk;have h5:=hs.places ho e1 e2 he hk;have h4:=h3 e1 e2 (λk hm=>(h5 k hm).1);refine⟨Rd.carry ?_ ?_ h4.rd,λi sz off hl=>?_⟩
  ·grind
  ·rintro b (hb|⟨k,hm,hb⟩)
   ·exact hs.gdheap hro p b hb
   ·grind
  ·obtain⟨r,j,n,rfl,g,len,cap,h6,h7,h8,h9⟩:=h4.at_ i sz off hl;have hm:(r,j,n)∈[(r,j,n)]:=A2 ..;have h10:(st' r).ver=(st r).ver:=(hk _ hm).trans (e2 _ hm).symm;refine⟨r,j,n,rfl,g,len,cap,by rw[(hs.ver r).2 h10];exact h6,h7,by rw[(h5 _ hm).2.1];exact h8,?_⟩;rw[jK ((h5 _ hm).2.2 g h8)];exact h9
 |np p ks ep a x off =>
  obtain⟨h1,h2,h3⟩:=h;refine⟨AL h1 (hs.ver EPO).1,λk hk=>AL (h2 k hk) (hs.ver k.1).1,λhe hk ho=>?_⟩;obtain⟨e1,e2⟩:=uW hs h1 h2 he hk;have h5:=hs.places ho e1 e2 he hk;have h4:=h3 e1 e2 (λk hm=>(h5 k hm).1);have hS:∀ b,(gd V W p b\/∃ k∈ks,b∈W.bs k.1 k.2.1)->(gd V W' p b\/∃ k∈ks,b∈W'.bs k.1 k.2.1):=by
   grind
  have hW:∀ b,(gd V W p b\/∃ k∈ks,b∈W.bs k.1 k.2.1)->w'.heap[b]?=w.heap[b]?:=by
   rintro b (hb|⟨k,hm,hb⟩)
   ·exact hs.gdheap hro p b hb
   ·grind
  obtain⟨g,o,c,hv,hg,hr,hc⟩:=h4.rd;exact⟨g,o,c,hv,hS g hg,Rd.carry hS hW hr,hc.same (hW g hg)⟩
 |al r j n =>
  obtain⟨h1,h2⟩:=h;obtain⟨h3,h4⟩:=hs.ver r;refine⟨AL h1 h3,λhv=>?_⟩
  grind
 |ep r j n i sz off =>
  obtain⟨h1,h2⟩:=h;obtain⟨h3,h4⟩:=hs.ver r;refine⟨AL h1 h3,λhv=>?_⟩
  grind
 |rp p a x off=>exact hR h
 |rpp p a x=>exact hRR h
 |clr f caps =>
  obtain⟨us,h1,h2,h3⟩:=h;refine⟨us,h1,h2,λi c u hc hu=>?_⟩;have h4:=h3 i c u hc hu;unfold gV at h4 ⊢
  grind
 |bp b off =>
  obtain⟨h1,h2,h3⟩:=h;obtain⟨h4,h5⟩:=hs.box b ⟨h1,h2⟩;exact⟨h1,h4.2,by rw[h5];exact h3⟩
 |clo f caps =>
  obtain⟨h1,h2⟩:=h;refine⟨?_,λb hb=>(hs.box b (h2 b hb)).1⟩;rw[h1];congr 2;refine List.map_congr_left λb hb=>?_
  rw[(hs.box b (h2 b hb)).2]
 |fn As B φ=>exact h
 |dead=>trivial
def aC (P:Program)(V:Env)(W:Wit)(st:St)(w:World):List Leaf->List Value->Prop
 |[],[]=>True
 |l::ls,v::cs=>(aK P V W st w [] l v/\¬ an l/\v.oneCell'=true)/\aC P V W st w ls cs
 |_,_=>False
theorem aC.length:∀ {ls:List Leaf} {cs:List Value},aC P V W st w ls cs->ls.length=cs.length
 |[],[],_=>rfl
 |_::_,_::_,h=>by simp[aC.length h.2]
theorem aC.at_:∀ {ls:List Leaf} {cs:List Value},aC P V W st w ls cs->∀ (j:Nat) (l:Leaf) (v:Value),ls[j]?=some l->cs[j]?=some v->aK P V W st w [] l v/\¬ an l/\v.oneCell'=true
 |_::_,_::_,h,0,l,v,h1,h2=>by
  simp at h1 h2;subst h1;subst h2;exact h.1
 |_::_,_::_,h,j+1,l,v,h1,h2=>aC.at_ h.2 j l v (by simpa using h1) (by simpa using h2)
theorem aC.one':∀ {ls:List Leaf} {cs:List Value},aC P V W st w ls cs->∀ v∈cs,v.oneCell'=true
 |[],[],_,_,hv=>by simp at hv
 |_::_,_::_,h,v,hv=>by
  rcases Az.1 hv with rfl|hv
  ·exact h.1.2.2
  ·exact aC.one' h.2 v hv
theorem aC.mk:∀ {ls:List Leaf} {cs:List Value},ls.length=cs.length->(∀ (j:Nat) (l:Leaf) (v:Value),ls[j]?=some l->cs[j]?=some v->aK P V W st w [] l v/\¬ an l/\v.oneCell'=true)->aC P V W st w ls cs
 |[],[],_,_=>trivial
 |_::_,_::_,h,H=>⟨H 0 _ _ rfl rfl,aC.mk (by simpa using h) λj l v h1 h2=>H (j+1) l v (by simpa using h1) (by simpa using h2)⟩
theorem aC.drop {ls:List Leaf}{cs:List Value}(h:aC P V W st w ls cs)(n:Nat):aC P V W st w (ls.drop n) (cs.drop n) :=
 aC.mk (by simp[h.length]) λj l v h1 h2=>h.at_ (n+j) l v (by simpa using h1) (by simpa using h2)
theorem aC.take {ls:List Leaf}{cs:List Value}(h:aC P V W st w ls cs)(n:Nat):aC P V W st w (ls.take n) (cs.take n) :=
 aC.mk (by simp[h.length]) λj l v h1 h2=>by
  rw[AP]at h1 h2;split at h1
  ·rename_i hlt;rw[if_pos hlt]at h2;exact h.at_ j l v h1 h2
  ·grind
theorem aC.append {l1 l2:List Leaf}{c1 c2:List Value}(h1:aC P V W st w l1 c1)(h2:aC P V W st w l2 c2):aC P V W st w (l1++l2) (c1++c2):=by
 induction l1 generalizing c1 with
 |nil =>
  cases c1 with
  |nil=>simpa using h2
  |cons=>simp[aC]at h1
 |cons l ls ih =>
  cases c1 with
  |nil=>simp[aC]at h1
  |cons v cs=>exact⟨h1.1,ih h1.2⟩
theorem aC.carry (hro:∀ k,V.ro0 k->V.prot k)(hs:co V W W' st st' w w'):∀ {ls:List Leaf} {cs:List Value},aC P V W st w ls cs->aC P V W' st' w' ls cs
 |[],[],_=>trivial
 |_::_,_::_,h=>⟨⟨h.1.1.carry hro hs (λho=>absurd ho h.1.2.1),h.1.2⟩,aC.carry hro hs h.2⟩
theorem er {G:Nat->Prop}{p:Bool}(hG:∀ k,G k->gd V W p k):∀ {a:Ty} {x:a.den} {cs:List Value},Rd w G a x cs->aC P V W st w (cz p a x) cs
 |.int _,_,_,h=>by rw[show _=_ from h];exact⟨⟨rfl,id,rfl⟩,trivial⟩
 |.bool,_,_,h=>by rw[show _=_ from h];exact⟨⟨rfl,id,rfl⟩,trivial⟩
 |.str,_,_,h=>by rw[show _=_ from h];exact⟨⟨rfl,id,rfl⟩,trivial⟩
 |.unit,_,_,h=>by rw[show _=_ from h];trivial
 |.hdr,_,_,⟨A,cap,e⟩=>by rw[e];exact⟨⟨⟨A,cap,rfl⟩,id,rfl⟩,trivial⟩
 |.pair _ _,_,_,⟨c1,c2,e,h1,h2⟩=>by rw[e];exact (er hG h1).append (er hG h2)
 |.list m E e,xs,_,h=>by
  obtain⟨A,cap,rfl,h2,h3⟩:=h;exact⟨⟨Rd.mono hG (⟨A,cap,rfl,h2,h3⟩:Rd w _ (.list false E e) xs _),id,rfl⟩,trivial⟩
theorem fU (p:Bool):∀ (a:Ty) (x:a.den),(cz p a x).length=a.cells
 |.int _,_=>rfl
 |.bool,_=>rfl
 |.str,_=>rfl
 |.unit,_=>rfl
 |.hdr,_=>rfl
 |.pair a b,x=>by simp[cz,Ty.cells,fU p a,fU p b]
 |.list _ _ _,_=>rfl
theorem cu (p:Bool):∀ (a:Ty) (x:a.den),(ap p a x).length=a.cells
 |.int _,_=>rfl
 |.bool,_=>rfl
 |.str,_=>rfl
 |.unit,_=>rfl
 |.hdr,_=>rfl
 |.pair a b,x=>by simp[ap,Ty.cells,cu p a,cu p b]
 |.list _ _ _,_=>rfl
theorem gW (t n:Nat):∀ (j:Nat) (ls:List Leaf),(bF t n j ls).length=ls.length
 |_,[]=>rfl
 |j,_::ls=>by simp[bF,gW t n (j+1) ls]
theorem mK (t n:Nat):∀ (j:Nat) (ls:List Leaf) (i:Nat) (l:Leaf),ls[i]?=some l->(bF t n j ls)[i]?=some (kL t (j+i) n l)
 |j,l'::ls,0,l,h=>by
  simp at h;subst h;simp[bF]
 |j,l'::ls,i+1,l,h=>by
  have:=mK t n (j+1) ls i l (by simpa using h);simp only[bF]
  grind
theorem gL {a:Act}(h:ao P V W st a w)(r:Nat):aC P V W st w (bF r (st r).ver 0 (st r).ls) (W.cs r):=by
 refine aC.mk (by rw[gW,h.len]) λj l v hl hv=>?_
 have hj:j<(st r).ls.length:=by
  have:=(AC.1 hl).1;simpa[gW]using this
 have h0:(st r).ls[j]?=some (st r).ls[j]:=AG hj;have h1:=mK r (st r).ver 0 (st r).ls j _ h0;rw[h1]at hl;have h2:=h.leaf r j _ v h0 hv;have h3:=h.one r v (List.mem_of_getElem? hv);simp at hl;subst hl;generalize hq:(st r).ls[j]=q at h2;cases q with
 |own p hh E e xs=>exact⟨⟨AI _,λ_=>by simpa using hv⟩,id,h3⟩
 |_=>exact⟨h2,id,h3⟩
theorem ra {v:Value}{l:Leaf}(h:gH v=some l):aK P V W st w [] l v/\¬ an l/\v.oneCell'=true:=by
 unfold gH at h;split at h <;> simp at h <;> subst h <;> exact⟨rfl,id,rfl⟩
theorem cH {a:Act}(h:ao P V W st a w)(x:Operand) :
  ∃ cs,dJ (ar st x).1 (a.eval x) cs/\aC P V W st w (ar st x).2 cs:=by
 cases x with
 |tmp t =>
  simp only[ar];cases ht:Ac t GH with
  |false=>exact⟨[],rfl,trivial⟩
  |true=>exact⟨W.cs t,h.slots t (by simpa using ht),gL h t⟩
 |const v =>
  simp only[ar];cases hc:gH v with
  |none=>exact⟨[],rfl,trivial⟩
  |some l=>exact⟨[v],rfl,⟨ra hc,trivial⟩⟩
 |func f=>exact⟨[.func (.func f) #[] #[]],rfl,⟨⟨⟨rfl,λb hb=>by simp at hb⟩,id,rfl⟩,trivial⟩⟩
 |global g=>exact⟨[],rfl,trivial⟩
theorem bu {a:Act}(h:ao P V W st a w)(x:Operand)(hd:one st x≠.dead) :
  aK P V W st w [] (one st x) (a.eval x)/\¬ an (one st x)/\(a.eval x).oneCell'=true/\(ar st x).1=.one/\(ar st x).2=[one st x]:=by
 obtain⟨cs,h1,h2⟩:=cH h x;unfold one at hd ⊢;split at hd
 ·rename_i l he;simp only[he]at h1 h2 ⊢;have h1':cs=[a.eval x]:=h1;subst h1';exact⟨h2.1.1,h2.1.2.1,h2.1.2.2,by simp,by simp⟩
 ·grind
theorem eC {r j n:Nat}{l:Leaf}(hd:aD st (.al r j n)=l)(hl:l≠.dead):(st r).ver=n/\(st r).ls[j]?=some l:=by
 simp only[aD]at hd;cases hb:AA (st r).ver n with
 |false=>simp only[hb]at hd;exact absurd hd.symm hl
 |true =>
  simp only[hb,cond_true]at hd;refine⟨AB hb,?_⟩;rw[AS]at hd;cases hq:(st r).ls[j]? with
  |none=>simp only[hq]at hd;exact absurd hd.symm hl
  |some l' =>
   simp only[hq,Option.getD_some]at hd;cases l' with
   |nal=>simp only[nU]at hd;exact absurd hd.symm hl
   |_=>simp only[nU]at hd;rw[hd]
theorem gX {r j n:Nat}{p:Bool}{ks:List (Nat×Nat×Nat)}{ep:Nat}{loc:Option (Nat×Nat×Nat)}{E:TypeId}{e:Ty}{xs:List e.den}:aD st (.al r j n)≠.nal p ks ep loc E e xs:=by
 simp only[aD];cases AA (st r).ver n with
 |false=>simp
 |true =>
  cases (st r).ls.getD j .dead <;> simp[nU]
theorem jp {a:Act}(h:ao P V W st a w){r j n:Nat}{p:Bool}{hh:Option (Nat×Nat)}{E:TypeId}{e:Ty}{xs:List e.den}{v:Value}(hd:aD st (.al r j n)=.own p hh E e xs)
  (hl:aK P V W st w [] (.al r j n) v):(W.cs r)[j]?=some v/\OwH w (gd V W p) hh E e xs v (W.bs r j)/\(st r).ls[j]?=some (.own p hh E e xs)/\(st r).ver=n:=by
 obtain⟨h1,h2⟩:=eC hd (by simp);have h3:=hl.2 h1;exact⟨h3,h.leaf r j _ v h2 h3,h2,h1⟩
theorem tT {ls:List Leaf}{j:Nat}(h:kq (ls.getD j .dead)=true):∃ l,ls[j]?=some l/\an l:=by
 rw[AS]at h;cases hq:ls[j]? with
 |none=>rw[hq]at h;simp[kq]at h
 |some l =>
  rw[hq]at h;refine⟨l,rfl,?_⟩;cases l <;> simp[kq]at h;trivial
theorem cl {ks:List (Nat×Nat×Nat)}{ep:Nat}(h:br st ks ep=true):(st EPO).ver=ep/\(∀ k∈ks,(st k.1).ver=k.2.2)/\qK st ks:=by
 simp only[br,AD,List.all_eq_true]at h;exact⟨AB h.1,λk hk=>AB (h.2 k hk).1,λk hk=>tT (h.2 k hk).2⟩
theorem oa {p:Bool}{ks:List (Nat×Nat×Nat)}{ep:Nat}{loc:Option (Nat×Nat×Nat)}{E:TypeId}{e:Ty}{xs:List e.den}{v:Value}(hv:br st ks ep=true)
 (hl:aK P V W st w [] (.nal p ks ep loc E e xs) v):qL V W w p ks loc E e xs v:=hl.2.2 (cl hv).1 (cl hv).2.1 (cl hv).2.2
def bo (V:Env)(W:Wit)(p:Bool)(ks:List (Nat×Nat))(k:Nat):Prop:=gd V W p k\/∃ x∈ks,k∈W.bs x.1 x.2
theorem iO {E:TypeId}{e:Ty}{E':TypeId}{e':Ty}{xs:List e'.den}{ys:List e.den}(h:kM E e E' e' xs=some ys) :
  ∃ (h1:E'=E) (h2:e'=e),h2 ▸ xs=ys:=by
 unfold kM at h
 grind
theorem sC {e e':Ty}{xs:List e'.den}{ys:List e.den}(h:castSh e e' xs=some ys):e'.sh=e.sh/\HEq xs ys:=by
 unfold castSh at h
 grind
theorem Rd.castSh {G:Nat->Prop}{m m':Bool}{E E':TypeId}{e e':Ty}{xs:List e'.den}{ys:List e.den}{cs:List Value}(h:castSh e e' xs=some ys)(hr:Rd w G (.list m E' e') xs cs):Rd w G (.list m' E e) ys cs:=by
 obtain⟨h1,h2⟩:=sC h;have h3:Rd w G (.list m E e) ys cs:=by
  refine Rd.flags (a:=.list m E e') (x:=xs) (by simp only[Ty.sh,h1]) h2 ?_;obtain⟨A,cap,e1,h4,h5⟩:=hr;exact⟨A,cap,e1,h4,h5⟩
 obtain⟨A,cap,e1,h4,h5⟩:=h3;exact⟨A,cap,e1,h4,h5⟩
theorem jq (st:St):∀ (l1 l2:List Leaf),bB st (l1++l2)=bB st l1++bB st l2
 |[],_=>rfl
 |l::l1,l2=>by
  have:=jq st l1 l2;cases l <;> simp[bB,this]
theorem re (st:St):∀ (l1 l2:List Leaf),bX st (l1++l2)=bX st l1++bX st l2
 |[],_=>rfl
 |l::l1,l2=>by
  have:=re st l1 l2;cases l <;> simp[bX,this]
theorem jL {a:Act}(h:ao P V W st a w){m:Bool}{E:TypeId}{e:Ty}{l:Leaf}{v:Value}{p:Bool}{xs:List e.den}
  (hl:aK P V W st w [] l v) (hno:¬ an l) (ha:cV e (aD st l)=some (p,xs)):Rd w (bo V W p (bB st [l])) (.list m E e) xs [v]:=by
 have key:∀ (q:Leaf) (bs:List Nat) (S:Nat->Prop),aK P V W st w bs q v->cV e q=some (p,xs)->(∀ k,gd V W p k->S k)->(an q->∀ k∈bs,S k) ->
   (∀ q' ks ep loc E' e' xs',q=.nal q' ks ep loc E' e' xs'->br st ks ep=true/\∀ k∈ks,∀ b∈W.bs k.1 k.2.1,S b)->Rd w S (.list m E e) xs [v]:=by
  intro q bs S hq ha hS hb hn;cases q with
  |ro q E' e' ys =>
   simp only[cV,AO]at ha;obtain⟨zs,hc,rfl,rfl⟩:=ha;exact Rd.castSh hc (Rd.mono hS hq)
  |nil =>
   obtain⟨rfl,rfl⟩:=ha;rw[show v=_ from hq];exact Rd.nil w _ m E e
  |own q hh E' e' ys =>
   cases hh with
   |some _=>simp[cV]at ha
   |none =>
    simp only[cV,AO]at ha;obtain⟨zs,hc,rfl,rfl⟩:=ha;refine Rd.castSh hc (Rd.mono (λk hk=>?_) (OwH.rd (m:=false) (E':=E') hq));exact hk.elim (hS k) (hb trivial k)
  |nal q ks ep loc E' e' ys =>
   simp only[cV,AO,A0]at ha;obtain⟨zs,hc,rfl,rfl⟩:=ha;obtain⟨hv,hn⟩:=hn _ _ _ _ _ _ _ rfl;have h1:qL V W w q ks loc E' e' ys v:=hq.2.2 (cl hv).1 (cl hv).2.1 (cl hv).2.2;refine Rd.castSh hc (Rd.mono (λk hk=>?_) h1.rd);rcases hk with hk|⟨x,hx,hk⟩
   ·grind
   ·grind
  |_=>simp[cV]at ha
 cases l with
 |al r j n =>
  by_cases hd:aD st (.al r j n)=.dead
  ·rw[hd]at ha;simp[cV]at ha
  ·obtain⟨h1,h2⟩:=eC rfl hd;have h3:=h.leaf r j _ v h2 (hl.2 h1);generalize hq:aD st (.al r j n)=q at ha h2 h3;refine key q (W.bs r j) _ h3 ha (λk hk=>.inl hk) (λho k hk=>.inr ⟨(r,j),?_,hk⟩) ?_
   ·cases q <;> first|exact ho.elim|simp[bB,hq]
   ·rintro q' ks ep loc E' e' xs' rfl;exact absurd hq gX
 |own q hh E' e' ys=>exact absurd trivial hno
 |nal q ks ep loc E' e' ys =>
  simp only[aD]at ha;cases hv:br st ks ep with
  |false=>simp[hv,cV]at ha
  |true =>
   simp only[hv]at ha;refine key _ [] _ hl ha (λk hk=>.inl hk) (λho=>ho.elim) ?_;intro q' ks' ep' loc' E'' e'' xs' heq;cases heq;refine⟨hv,λk hk b hb=>.inr ⟨(k.1,k.2.1),?_,hb⟩⟩;simp only[bB,aD]
   grind
 |ro q E' e' ys=>exact key _ [] _ hl ha (λk hk=>.inl hk) (λho=>ho.elim) (λ_ _ _ _ _ _ _ h=>by cases h)
 |nil=>exact key _ [] _ hl ha (λk hk=>.inl hk) (λho=>ho.elim) (λ_ _ _ _ _ _ _ h=>by cases h)
 |_=>simp[aD,cV]at ha
theorem uX {a:Act}(h:ao P V W st a w){l:Leaf}{v:Value}{n:Nat}(hl:aK P V W st w [] l v)(hno:¬ an l)(ha:ft (aD st l)=some n):Rd w (λ_=>False) .hdr n [v]:=by
 have key:∀ (q:Leaf) (bs:List Nat),aK P V W st w bs q v->ft q=some n->(∀ p ks ep loc E e xs,q=.nal p ks ep loc E e xs->br st ks ep=true)->Rd w (λ_=>False) .hdr n [v]:=by
  intro q bs hq ha hn;cases q with
  |ro p E e xs =>
   simp only[ft,AE]at ha;subst ha;obtain⟨A,cap,e1,_⟩:=hq;exact⟨A,cap,e1⟩
  |own p hh E e xs =>
   simp only[ft,AE]at ha;subst ha;obtain⟨A,cap,e1,_⟩:=OwH.slice hq;exact⟨A,cap,by rw[e1]⟩
  |nal p ks ep loc E e xs =>
   simp only[ft,AE]at ha;subst ha;have hv:=hn _ _ _ _ _ _ _ rfl;obtain⟨A,cap,e1,_⟩:=(hq.2.2 (cl hv).1 (cl hv).2.1 (cl hv).2.2:qL V W w p ks loc E e xs v).rd;exact⟨A,cap,e1⟩
  |nil =>
   simp only[ft,AE]at ha;subst ha;exact⟨none,0,by rw[show v=_ from hq]⟩
  |hdr m =>
   simp only[ft,AE]at ha;subst ha;obtain⟨A,cap,e1⟩:=hq;exact⟨A,cap,by rw[e1]⟩
  |_=>simp[ft]at ha
 cases l with
 |al r j m =>
  by_cases hd:aD st (.al r j m)=.dead
  ·rw[hd]at ha;simp[ft]at ha
  ·obtain⟨h1,h2⟩:=eC rfl hd;have h3:=h.leaf r j _ v h2 (hl.2 h1);refine key _ _ h3 ha λp ks ep loc E e xs hq=>absurd hq gX
 |own q hh E' e' ys=>exact absurd trivial hno
 |nal q ks ep loc E' e' ys =>
  simp only[aD]at ha;cases hv:br st ks ep with
  |false=>simp[hv,ft]at ha
  |true =>
   grind
 |ro q E' e' ys=>exact key _ [] hl ha (λ_ _ _ _ _ _ _ h=>by cases h)
 |nil=>exact key _ [] hl ha (λ_ _ _ _ _ _ _ h=>by cases h)
 |hdr m=>exact key _ [] hl ha (λ_ _ _ _ _ _ _ h=>by cases h)
 |_=>simp[aD,ft]at ha
theorem jM {a:Act}(h:ao P V W st a w):∀ (b:Ty) (ls:List Leaf) (cs:List Value) (p:Bool) (x:b.den) (rest:List Leaf),aC P V W st w ls cs ->
  aZ st b ls=some (p,x,rest)->∃ c1 c2 l1,cs=c1++c2/\ls=l1++rest/\aC P V W st w l1 c1/\aC P V W st w rest c2/\Rd w (bo V W p (bB st l1)) b x c1
 |.int k,ls,cs,p,x,rest,hl,hg=>by
  simp only[aZ]at hg;split at hg
  ·rename_i k' n ls;split at hg
   ·rename_i hk;obtain⟨rfl,rfl,rfl⟩:=hg;cases cs with
    |nil=>exact hl.elim
    |cons v cs=>exact⟨[v],cs,[_],rfl,rfl,⟨hl.1,trivial⟩,hl.2,by rw[show v=_ from hl.1.1,hk];rfl⟩
   ·grind
  ·grind
 |.bool,ls,cs,p,x,rest,hl,hg=>by
  simp only[aZ]at hg;split at hg
  ·simp at hg;obtain⟨rfl,rfl,rfl⟩:=hg;cases cs with
   |nil=>exact hl.elim
   |cons v cs=>exact⟨[v],cs,[_],rfl,rfl,⟨hl.1,trivial⟩,hl.2,by rw[show v=_ from hl.1.1];rfl⟩
  ·grind
 |.str,ls,cs,p,x,rest,hl,hg=>by
  simp only[aZ]at hg;split at hg
  ·simp at hg;obtain⟨rfl,rfl,rfl⟩:=hg;cases cs with
   |nil=>exact hl.elim
   |cons v cs=>exact⟨[v],cs,[_],rfl,rfl,⟨hl.1,trivial⟩,hl.2,by rw[show v=_ from hl.1.1];rfl⟩
  ·grind
 |.unit,ls,cs,p,x,rest,hl,hg=>by
  obtain⟨rfl,_,rfl⟩:=hg;exact⟨[],cs,[],rfl,rfl,trivial,hl,rfl⟩
 |.hdr,ls,cs,p,x,rest,hl,hg=>by
  simp only[aZ]at hg;split at hg
  ·rename_i l ls1;split at hg
   ·rename_i n hn;obtain⟨rfl,rfl,rfl⟩:=hg;cases cs with
    |nil=>exact hl.elim
    |cons v cs=>exact⟨[v],cs,[l],rfl,rfl,⟨hl.1,trivial⟩,hl.2,uX h hl.1.1 hl.1.2.1 hn⟩
   ·grind
  ·grind
 |.pair b c,ls,cs,p,x,rest,hl,hg=>by
  simp only[aZ]at hg;split at hg
  ·rename_i q y ls1 hb;split at hg
   ·rename_i q' z ls2 hc;simp at hg;obtain⟨rfl,rfl,rfl⟩:=hg;obtain⟨c1,c2,l1,e1,e2,h1,h2,h3⟩:=jM h b ls cs q y ls1 hl hb;obtain⟨c3,c4,l2,e3,e4,h4,h5,h6⟩:=jM h c ls1 c2 q' z ls2 h2 hc;refine⟨c1++c3,c4,l1++l2,by rw[e1,e3,Aa],by rw[e2,e4,Aa],h1.append h4,h5,c1,c3,rfl,?_,?_⟩
    ·refine Rd.mono (λk hk=>?_) h3;rcases hk with hk|⟨y,hy,hk⟩
     ·exact .inl (bR (by simp_all) (λ_ h=>h) k hk)
     ·exact .inr ⟨y,by rw[jq];exact AH _ hy,hk⟩
    ·refine Rd.mono (λk hk=>?_) h6;rcases hk with hk|⟨y,hy,hk⟩
     ·exact .inl (bR (by simp_all) (λ_ h=>h) k hk)
     ·exact .inr ⟨y,by rw[jq];exact AF _ hy,hk⟩
   ·grind
  ·grind
 |.list m E e,ls,cs,p,x,rest,hl,hg=>by
  simp only[aZ]at hg;split at hg
  ·rename_i l ls1;split at hg
   ·rename_i q ys ha;obtain⟨rfl,rfl,rfl⟩:=hg;cases cs with
    |nil=>exact hl.elim
    |cons v cs=>exact⟨[v],cs,[l],rfl,rfl,⟨hl.1,trivial⟩,hl.2,jL h hl.1.1 hl.1.2.1 ha⟩
   ·grind
  ·grind
theorem dX {a:Act}(h:ao P V W st a w){b:Ty}{ls:List Leaf}{cs:List Value}{p:Bool}{x:b.den}(hl:aC P V W st w ls cs)
  (hg:cE st b ls=some (p,x)):Rd w (bo V W p (bB st ls)) b x cs:=by
 unfold cE at hg;split at hg
 ·rename_i q y hq;obtain⟨c1,c2,l1,e1,e2,h1,h2,h3⟩:=jM h b ls cs _ _ _ hl hq;have:c2=[]:=by
   cases c2 with
   |nil=>rfl
   |cons=>exact h2.elim
  simp_all
 ·grind
end
section
variable {P:Program} {V:Env} {W W':Wit} {st st':St} {w w':World} {a:Act}
theorem bw (A B:Upd)(st:St):ac (A++B) st=ac A (ac B st):=by
 funext q;induction A with
 |nil=>rfl
 |cons x A ih=>obtain⟨r,c⟩:=x;simp only[A9,ac,ih]
theorem aP (r:Nat)(c:bS)(U:Upd)(st:St):ac ((r,c)::U) st=ac [(r,c)] (ac U st):=bw [(r,c)] U st
theorem bk (r:Nat)(c:bS)(st:St):ac [(r,c)] st r=c:=by simp[ac]
theorem aJ {r q:Nat}(h:q≠r)(c:bS)(st:St):ac [(r,c)] st q=st q:=by
 have:AA q r=false:=by
  cases hb:AA q r with
  |false=>rfl
  |true=>exact absurd (AB hb) h
 simp[ac,this]
theorem am (r q:Nat)(c:bS)(st:St):(q=r/\ac [(r,c)] st q=c)\/(q≠r/\ac [(r,c)] st q=st q):=by
 by_cases h:q=r
 ·subst h;exact .inl ⟨rfl,bk q c st⟩
 ·exact .inr ⟨h,aJ h c st⟩
def b6 (V:Env)(W:Wit)(st:St)(k:Nat):Prop :=
 W.nw k\/V.prot k\/(∃ b,live st b/\W.β b=k)\/∃ r j l,(st r).ls[j]?=some l/\an l/\k∈W.bs r j
theorem ao.own_lt (h:ao P V W st a w){r j:Nat}{l:Leaf}(hl:(st r).ls[j]?=some l)(ho:an l):∀ k∈W.bs r j,k<w.heap.size:=by
 have hj:j<(W.cs r).length:=by rw[<- h.len];exact (AC.1 hl).1
 have:=h.leaf r j l _ hl (AG hj);cases l <;> simp only[an]at ho;exact OwH.lt this
theorem ao.box_lt (h:ao P V W st a w){b:Nat}(hb:live st b):W.β b<w.heap.size:=by
 rcases h.boxes b hb.1 with ⟨h1,_⟩|⟨_,E,h2⟩
 ·exact absurd (h1.symm.trans hb.2) (by simp)
 ·grind
theorem ao.used_lt (h:ao P V W st a w):∀ k,b6 V W st k->k<w.heap.size:=by
 intro k hk;rcases hk with hk|hk|⟨b,hb,rfl⟩|⟨r,j,l,h1,h2,h3⟩
 ·exact (h.nwlt k hk).1
 ·exact AX hk.1 h.size
 ·exact h.box_lt hb
 ·exact h.own_lt h1 h2 k h3
theorem ao.world (hV:ax V)(h:ao P V W st a w)(hs:w.heap.size<=w'.heap.size)(hos:w'.os=w.os)(ht:w'.tape=w.tape)(ho:w'.output=w.output)
  (hk:∀ k,b6 V W st k->w'.heap[k]?=w.heap[k]?):ao P V W st a w':=by
 have hstep:co V W W st st w w':=⟨λr=>⟨AI _,λ_=>rfl⟩,λb hb=>⟨hb,rfl⟩,λ_ h=>h,λk h=>hk k (h.elim .inl (λh=>.inr (.inl h))),
  λ_ r j l h1 h2 _=>⟨⟨l,h1,h2⟩,rfl,λk hkk=>hk k (.inr (.inr (.inr ⟨r,j,l,h1,h2,hkk⟩)))⟩⟩
 exact {
  nt:=h.nt,df:=h.df,slots:=h.slots,
  boxes:=λb hb=>(h.boxes b hb).imp id λ⟨h1,E,h2⟩=>⟨h1,E,by rw[hk _ (.inr (.inr (.inl ⟨b,⟨hb,h1⟩,rfl⟩)))];exact h2⟩
  len:=h.len,one:=h.one,
  leaf:=λr j l v h1 h2=>(h.leaf r j l v h1 h2).carry hV.ro hstep (λho=>⟨rfl,λk hkk=>hk k (.inr (.inr (.inr ⟨r,j,l,h1,ho,hkk⟩)))⟩)
  ownb:=h.ownb,sep:=h.sep,box:=h.box,inj:=h.inj,
  nwlt:=λk hk=>⟨AX (h.nwlt k hk).1 hs,(h.nwlt k hk).2⟩
  os:=hos.trans h.os,tape:=ht.trans h.tape,output:=ho.trans h.output,size:=AL h.size hs,
  keep:=λk hp=>(hk k (.inr (.inl hp))).trans (h.keep k hp)
  fixb:=h.fixb,fixt:=h.fixt }
theorem ao.below (hV:ax V)(h:ao P V W st a w)(hb:Below w.heap.size w w'):ao P V W st a w' :=
 h.world hV hb.size hb.os hb.tape hb.output λk hk=>hb.block k (h.used_lt k hk)
theorem ao.relabel (hV:ax V)(h:ao P V W st a w)(r:Nat)(c:bS)(nw':Nat->Prop)(hver:(st r).ver<=c.ver)(hsh:c.sh=(st r).sh)
    (hlen:c.ls.length=(st r).ls.length) (hnw:∀ k,W.nw k->nw' k) (hnwlt:∀ k,nw' k->k<w.heap.size/\¬ V.prot k)
    (hleaf:∀ (j:Nat) (l:Leaf) (v:Value),c.ls[j]?=some l->(W.cs r)[j]?=some v->aK P V { W with nw:=nw' } (ac [(r,c)] st) w (W.bs r j) l v)
    (hown:∀ (j:Nat) (l:Leaf),c.ls[j]?=some l->an l->(st r).ls[j]?=some l)
    (hnwown:∀ (q j:Nat) (l:Leaf),(ac [(r,c)] st q).ls[j]?=some l->an l->∀ k∈W.bs q j,¬ nw' k)
    (hnwbox:∀ b,live st b->¬ nw' (W.β b)):ao P V { W with nw:=nw' } (ac [(r,c)] st) a w:=by
  have hl:∀ b,live (ac [(r,c)] st) b<->live st b:=by
    intro b;rcases am r b c st with ⟨rfl,e⟩|⟨_,e⟩
    · simp[live,e,hsh]
    · simp[live,e]
  have hback:∀ (q j:Nat) (l:Leaf),(ac [(r,c)] st q).ls[j]?=some l->an l->(st q).ls[j]?=some l:=by
    intro q j l h1 h2;rcases am r q c st with ⟨rfl,e⟩|⟨_,e⟩
    · grind
    · grind
  have hstep:co V W { W with nw:=nw' } st (ac [(r,c)] st) w w :=
    ⟨λq=>by
      rcases am r q c st with ⟨rfl,e⟩|⟨_,e⟩
      · grind
      · rw[e];exact⟨AI _,λ_=>rfl⟩,
     λb hb=>⟨(hl b).2 hb,rfl⟩,hnw,λ_ _=>rfl,λ_ q j l h1 h2 h3=>⟨⟨l,hback q j l h1 h2,h2⟩,rfl,λ_ _=>rfl⟩⟩
  exact {
    nt:=h.nt,df:=h.df,
    slots:=λt ht=>by
      rcases am r t c st with ⟨rfl,e⟩|⟨_,e⟩
      · rw[e,hsh];exact h.slots t ht
      · rw[e];exact h.slots t ht
    boxes:=λb hb=>by
      rcases am r b c st with ⟨rfl,e⟩|⟨_,e⟩
      · rw[e,hsh]
        rcases h.boxes b hb with ⟨h1,h2⟩|h1
        · grind
        · grind
      · rw[e];exact h.boxes b hb
    len:=λq=>by
      rcases am r q c st with ⟨rfl,e⟩|⟨_,e⟩
      · rw[e,hlen];exact h.len q
      · rw[e];exact h.len q
    one:=h.one
    leaf:=λq j l v h1 h2=>by
      rcases am r q c st with ⟨rfl,e⟩|⟨_,e⟩
      · grind
      · rw[e]at h1
        exact (h.leaf q j l v h1 h2).carry hV.ro hstep (λ_=>⟨rfl,λ_ _=>rfl⟩)
    ownb:=λq j l h1 h2 k hk=>⟨hnwown q j l h1 h2 k hk,(h.ownb q j l (hback q j l h1 h2) h2 k hk).2.1,λb hb=>(h.ownb q j l (hback q j l h1 h2) h2 k hk).2.2 b ((hl b).1 hb)⟩
    sep:=λq j l q' j' l' h1 h2 h3 h4=>h.sep q j l q' j' l' (hback q j l h1 h2) h2 (hback q' j' l' h3 h4) h4
    box:=λb hb=>⟨hnwbox b ((hl b).1 hb),(h.box b ((hl b).1 hb)).2⟩
    inj:=λb b' hb hb'=>h.inj b b' ((hl b).1 hb) ((hl b').1 hb')
    nwlt:=hnwlt
    os:=h.os,tape:=h.tape,output:=h.output,size:=h.size,keep:=h.keep,
    fixb:=λx hx=>⟨(hl _).2 (h.fixb x hx).1,(h.fixb x hx).2⟩,fixt:=h.fixt }
theorem aQ {α:Type}(ls:List α)(j i:Nat)(x y:α)(h:(ls.set j x)[i]?=some y):(i=j/\y=x/\j<ls.length)\/(i≠j/\ls[i]?=some y):=by
 grind
theorem ao.kill1 (hV:ax V)(h:ao P V W st a w)(r j:Nat):ao P V W (ac [(r,fu (st r) j)] st) a w:=by
 refine h.relabel hV r _ W.nw (AI _) rfl (by simp[fu,aR]) (λ_ h=>h) h.nwlt ?_ ?_ ?_ λb hb=>(h.box b hb).1
 ·intro i l v h1 h2;rcases aQ _ _ _ _ _ h1 with ⟨_,rfl,_⟩|⟨hne,h1⟩
  ·trivial
  ·refine (h.leaf r i l v h1 h2).carry hV.ro ⟨λq=>?_,λb hb=>?_,λ_ h=>h,λ_ _=>rfl,λ_ q j' l' h3 h4 h5=>?_⟩ (λ_=>⟨rfl,λ_ _=>rfl⟩)
   ·rcases am r q (fu (st r) j) st with ⟨rfl,e⟩|⟨_,e⟩
    ·rw[e];exact⟨AI _,λ_=>rfl⟩
    ·grind
   ·refine⟨⟨hb.1,?_⟩,rfl⟩;rcases am r b (fu (st r) j) st with ⟨rfl,e⟩|⟨_,e⟩
    ·rw[e];exact hb.2
    ·rw[e];exact hb.2
   ·rcases am r q (fu (st r) j) st with ⟨rfl,e⟩|⟨_,e⟩
    ·rw[e]at h3;rcases aQ _ _ _ _ _ h3 with ⟨_,rfl,_⟩|⟨_,h3⟩
     ·exact h4.elim
     ·grind
    ·grind
 ·intro i l h1 h2;rcases aQ _ _ _ _ _ h1 with ⟨_,rfl,_⟩|⟨hne,h1⟩
  ·exact h2.elim
  ·omega
 ·intro q i l h1 h2;have:(st q).ls[i]?=some l:=by
   rcases am r q (fu (st r) j) st with ⟨rfl,e⟩|⟨_,e⟩
   ·rw[e]at h1;rcases aQ _ _ _ _ _ h1 with ⟨_,rfl,_⟩|⟨hne,h1⟩
    ·exact h2.elim
    ·omega
   ·grind
  exact λk hk=>(h.ownb q i l this h2 k hk).1
theorem ao.frz1 (hV:ax V)(h:ao P V W st a w)(r j:Nat) :
  ao P V { W with nw:=λk=>W.nw k\/((∃ l,(st r).ls[j]?=some l/\an l)/\k∈W.bs r j) } (ac [(r,fq (st r) j)] st) a w:=by
 have hget:∀ l,(st r).ls[j]?=some l->(st r).ls.getD j .dead=l:=λl hl=>by rw[AS,hl];rfl
 have hnoown:∀ (i:Nat) (l:Leaf),(aR (st r).ls j (ta ((st r).ls.getD j .dead)))[i]?=some l->an l->(st r).ls[i]?=some l/\i≠j:=by
  intro i l h1 h2;rcases aQ _ _ _ _ _ h1 with ⟨rfl,rfl,hj⟩|⟨hne,h1⟩
  ·rw[hget _ (AG hj)]at h2;generalize (st r).ls[i]=l at h2;cases l with
   |own p hh E e xs=>cases hh <;> exact h2.elim
   |_=>exact h2.elim
  ·grind
 have hstep:co V W { W with nw:=λk=>W.nw k\/((∃ l,(st r).ls[j]?=some l/\an l)/\k∈W.bs r j) } st (ac [(r,fq (st r) j)] st) w w:=by
  refine⟨λq=>?_,λb hb=>?_,λ_ h=>.inl h,λ_ _=>rfl,λ_ q j' l' h3 h4 h5=>?_⟩
  ·rcases am r q (fq (st r) j) st with ⟨rfl,e⟩|⟨_,e⟩
   ·rw[e];exact⟨AI _,λ_=>rfl⟩
   ·grind
  ·refine⟨⟨hb.1,?_⟩,rfl⟩;rcases am r b (fq (st r) j) st with ⟨rfl,e⟩|⟨_,e⟩
   ·rw[e];exact hb.2
   ·rw[e];exact hb.2
  ·rcases am r q (fq (st r) j) st with ⟨rfl,e⟩|⟨_,e⟩
   ·rw[e]at h3;exact⟨⟨l',(hnoown j' l' h3 h4).1,h4⟩,rfl,λ_ _=>rfl⟩
   ·grind
 refine h.relabel hV r _ _ (AI _) rfl (by simp[fq,aR]) (λ_ h=>.inl h) ?_ ?_ (λi l h1 h2=>(hnoown i l h1 h2).1) ?_ ?_
 ·rintro k (hk|⟨⟨l,h1,h2⟩,hk⟩)
  ·exact h.nwlt k hk
  ·exact⟨h.own_lt h1 h2 k hk,(h.ownb r j l h1 h2 k hk).2.1⟩
 ·intro i l v h1 h2;rcases aQ _ _ _ _ _ h1 with ⟨rfl,rfl,hj⟩|⟨hne,h1⟩
  ·have h3:(st r).ls[i]?=some (st r).ls[i]:=AG hj;have h4:=h.leaf r i _ v h3 h2;rw[hget _ h3];generalize hq:(st r).ls[i]=q at h3 h4;cases q with
   |own p hh E e xs =>
    cases hh with
    |some _=>trivial
    |none =>
     refine Rd.mono (λk hk=>?_) (OwH.rd (m:=false) (E':=E) h4);rcases hk with hk|hk
     ·exact bR (W':={ W with nw:=_ }) (λh=>h) (λ_ h=>.inl h) k hk
     ·exact .inl (.inr ⟨⟨_,h3,trivial⟩,hk⟩)
   |_=>exact h4.carry hV.ro hstep (λho=>ho.elim)
  ·exact (h.leaf r i l v h1 h2).carry hV.ro hstep (λ_=>⟨rfl,λ_ _=>rfl⟩)
 ·intro q i l h1 h2 k hk;have h3:(st q).ls[i]?=some l/\(q,i)≠(r,j):=by
   rcases am r q (fq (st r) j) st with ⟨rfl,e⟩|⟨hne,e⟩
   ·rw[e]at h1;have:=hnoown i l h1 h2
    simp_all
   ·grind
  rintro (hn|⟨⟨l',h4,h5⟩,hn⟩)
  ·exact (h.ownb q i l h3.1 h2 k hk).1 hn
  ·obtain⟨rfl,rfl⟩:=h.sep q i l r j l' h3.1 h2 h4 h5 k hk hn
   simp_all
 ·rintro b hb (hn|⟨⟨l',h4,h5⟩,hn⟩)
  ·exact (h.box b hb).1 hn
  ·exact (h.ownb r j l' h4 h5 _ hn).2.2 b hb rfl
theorem kT (hV:ax V):∀ (ks:List (Nat×Nat)),ao P V W st a w->ao P V W (ac (aN st ks) st) a w /\
  (∀ (q i:Nat) (l:Leaf),(ac (aN st ks) st q).ls[i]?=some l->an l->(st q).ls[i]?=some l/\(q,i)∉ks) /\
  (∀ q,(ac (aN st ks) st q).sh=(st q).sh/\(st q).ver<=(ac (aN st ks) st q).ver)
 |[],h=>⟨h,λ_ _ _ h1 _=>⟨h1,by simp⟩,λ_=>⟨rfl,AI _⟩⟩
 |(r,j)::ks,h=>by
  obtain⟨h1,h2,h3⟩:=kT hV ks h;have e:ac (aN st ((r,j)::ks)) st=ac [(r,fu (ac (aN st ks) st r) j)] (ac (aN st ks) st):=aP _ _ _ _;rw[e];refine⟨h1.kill1 hV r j,λq i l h4 h5=>?_,λq=>?_⟩
  ·have h6:(ac (aN st ks) st q).ls[i]?=some l/\(q,i)≠(r,j):=by
    rcases am r q (fu (ac (aN st ks) st r) j) (ac (aN st ks) st) with ⟨rfl,e⟩|⟨hne,e⟩
    ·rw[e]at h4;rcases aQ _ _ _ _ _ h4 with ⟨_,rfl,_⟩|⟨hne,h4⟩
     ·exact h5.elim
     ·grind
    ·grind
   simp_all
  ·rcases am r q (fu (ac (aN st ks) st r) j) (ac (aN st ks) st) with ⟨rfl,e⟩|⟨hne,e⟩
   ·rw[e];exact⟨(h3 q).1,(h3 q).2⟩
   ·grind
def Wit.frz (W:Wit)(st:St)(ks:List (Nat×Nat)):Wit :=
 { W with nw:=λk=>W.nw k\/∃ x∈ks,(∃ l,(st x.1).ls[x.2]?=some l/\an l)/\k∈W.bs x.1 x.2 }
theorem ao.nw_congr (h:ao P V W st a w){nw':Nat->Prop}(e:∀ k,W.nw k<->nw' k):ao P V { W with nw:=nw' } st a w:=by
 have:nw'=W.nw:=funext λk=>propext (e k).symm
 subst this;exact h
theorem kw (hV:ax V):∀ (ks:List (Nat×Nat)),ao P V W st a w->ao P V (W.frz st ks) (ac (aF st ks) st) a w /\
  (∀ (q i:Nat) (l:Leaf),(ac (aF st ks) st q).ls[i]?=some l->an l->(st q).ls[i]?=some l/\(q,i)∉ks) /\
  (∀ q,(ac (aF st ks) st q).sh=(st q).sh/\(st q).ver<=(ac (aF st ks) st q).ver)
 |[],h=>⟨h.nw_congr (λk=>by simp),λ_ _ _ h1 _=>⟨h1,by simp⟩,λ_=>⟨rfl,AI _⟩⟩
 |(r,j)::ks,h=>by
  obtain⟨h1,h2,h3⟩:=kw hV ks h;have e:ac (aF st ((r,j)::ks)) st=ac [(r,fq (ac (aF st ks) st r) j)] (ac (aF st ks) st):=aP _ _ _ _;rw[e];refine⟨?_,λq i l h4 h5=>?_,λq=>?_⟩
  ·have h7:=h1.frz1 hV r j;have h8:=h7.nw_congr (nw':=(W.frz st ((r,j)::ks)).nw) (λk=>?_)
   ·exact h8
   ·simp only[Wit.frz];constructor
    ·rintro ((hk|⟨x,hx,hk⟩)|⟨⟨l,hl,ho⟩,hk⟩)
     ·grind
     ·grind
     ·exact .inr ⟨(r,j),A2 ..,⟨l,(h2 r j l hl ho).1,ho⟩,hk⟩
    ·rintro (hk|⟨x,hx,⟨l,hl,ho⟩,hk⟩)
     ·grind
     ·rcases Az.1 hx with rfl|hx
      ·by_cases hm:(r,j)∈ks
       ·exact .inl (.inr ⟨(r,j),hm,⟨l,hl,ho⟩,hk⟩)
       ·refine .inr ⟨⟨l,?_,ho⟩,hk⟩;exact gR ks hm hl
      ·grind
  ·have h6:(ac (aF st ks) st q).ls[i]?=some l/\(q,i)≠(r,j):=by
    rcases am r q (fq (ac (aF st ks) st r) j) (ac (aF st ks) st) with ⟨rfl,e⟩|⟨hne,e⟩
    ·rw[e]at h4;rcases aQ _ _ _ _ _ h4 with ⟨rfl,rfl,hj⟩|⟨hne,h4⟩
     ·exfalso;generalize (ac (aF st ks) st q).ls.getD i .dead=l' at h5;cases l' with
      |own p hh E e xs=>cases hh <;> exact h5.elim
      |_=>exact h5.elim
     ·grind
    ·grind
   simp_all
  ·rcases am r q (fq (ac (aF st ks) st r) j) (ac (aF st ks) st) with ⟨rfl,e⟩|⟨hne,e⟩
   ·rw[e];exact⟨(h3 q).1,(h3 q).2⟩
   ·grind
where
 gR:∀ (ks:List (Nat×Nat)) {r j:Nat} {l:Leaf},(r,j)∉ks->(st r).ls[j]?=some l->(ac (aF st ks) st r).ls[j]?=some l
  |[],_,_,_,_,hl=>hl
  |(q,i)::ks,r,j,l,hn,hl=>by
   have h1:=gR ks (λhm=>hn (Ap _ hm)) hl;have e:ac (aF st ((q,i)::ks)) st=ac [(q,fq (ac (aF st ks) st q) i)] (ac (aF st ks) st):=aP _ _ _ _;rw[e];rcases am q r (fq (ac (aF st ks) st q) i) (ac (aF st ks) st) with ⟨rfl,e⟩|⟨hne,e⟩
   ·rw[e];simp only[fq,aR]
    grind
   ·grind
theorem ao.put (hV:ax V)(h:ao P V W st a w)(d:Nat)(hd:d<V.nt)(hfix:∀ x∈V.fixt,x.1≠d)(n:Nat)(sh:aI)(ls:List Leaf)(v:Value)
  (csd:List Value) (bsd:Nat->List Nat) (hn:(st d).ver<n) (hs:dJ sh v csd) (hl:ls.length=csd.length) (h1:∀ u∈csd,u.oneCell'=true)
  (hleaf:∀ (j:Nat) (l:Leaf) (u:Value),ls[j]?=some l->csd[j]?=some u->aK P V W st w (bsd j) l u)
  (hown:∀ (j:Nat) (l:Leaf),ls[j]?=some l->an l->∀ k∈bsd j,¬ W.nw k/\¬ V.prot k/\(∀ b,live st b->W.β b≠k) /\
   ∀ (r1 j1:Nat) (l1:Leaf),r1≠d->(st r1).ls[j1]?=some l1->an l1->k∉W.bs r1 j1)
  (hsep:∀ (j j':Nat) (l l':Leaf),ls[j]?=some l->an l->ls[j']?=some l'->an l'->∀ k,k∈bsd j->k∈bsd j'->j=j') :
  ao P V { W with cs:=λr=>if r=d then csd else W.cs r,bs:=λr j=>if r=d then bsd j else W.bs r j } (ac [(d,⟨n,sh,ls⟩)] st) (a.put (some d) v) w:=by
 have hdB:d<B0:=AX hd hV.ntB;have hl':∀ b,live (ac [(d,⟨n,sh,ls⟩)] st) b<->live st b:=by
  intro b;by_cases hb:B0<=b
  ·rw[live,live,aJ (by omega)]
  ·simp[live,hb]
 have hstep:co V W { W with cs:=λr=>if r=d then csd else W.cs r,bs:=λr j=>if r=d then bsd j else W.bs r j } st (ac [(d,⟨n,sh,ls⟩)] st) w w:=by
  refine⟨λq=>?_,λb hb=>⟨(hl' b).2 hb,rfl⟩,λ_ h=>h,λ_ _=>rfl,λ_ q j' l' h3 h4 h5=>?_⟩;rcases am d q ⟨n,sh,ls⟩ st with ⟨rfl,e⟩|⟨hne,e⟩
  ·grind
  ·grind
  rcases am d q ⟨n,sh,ls⟩ st with ⟨rfl,e⟩|⟨hne,e⟩
  ·grind
  ·grind
 have hval:∀ t,(a.put (some d) v).tmps.getD t undef=if t=d then v else a.tmps.getD t undef:=by
  intro t;by_cases ht:t=d
  ·subst ht;have:t<a.tmps.size:=by rw[h.nt];exact hd
   simp[BH,this]
  ·simp only[BH,if_neg ht];rw[Ae,Ae,Array.getElem?_setIfInBounds_ne (λe=>ht e.symm)]
 exact {
  nt:=by simp[BH,h.nt],df:=by simp[BH,h.df]
  slots:=λt ht=>by
   rw[hval];rcases am d t ⟨n,sh,ls⟩ st with ⟨rfl,e⟩|⟨hne,e⟩
   ·grind
   ·rw[e];simpa[hne]using h.slots t ht
  boxes:=λb hb=>by
   have:b≠d:=by omega
   rw[aJ this];simpa[this]using h.boxes b hb
  len:=λq=>by
   rcases am d q ⟨n,sh,ls⟩ st with ⟨rfl,e⟩|⟨hne,e⟩
   ·grind
   ·rw[e];simpa[hne]using h.len q
  one:=λq u hu=>by
   by_cases hq:q=d
   ·grind
   ·simp only[hq]at hu;exact h.one q u hu
  leaf:=λq j l u h2 h3=>by
   rcases am d q ⟨n,sh,ls⟩ st with ⟨rfl,e⟩|⟨hne,e⟩
   ·rw[e]at h2;simp at h3;exact (hleaf j l u h2 h3).carry hV.ro hstep (λ_=>⟨by simp,λ_ _=>rfl⟩)
   ·rw[e]at h2;simp only[hne]at h3;exact (h.leaf q j l u h2 h3).carry hV.ro hstep (λ_=>⟨by simp[hne],λ_ _=>rfl⟩)
  ownb:=λq j l h2 h3 k hk=>by
   rcases am d q ⟨n,sh,ls⟩ st with ⟨rfl,e⟩|⟨hne,e⟩
   ·grind
   ·rw[e]at h2;simp only[hne]at hk;have:=h.ownb q j l h2 h3 k hk
    grind
  sep:=λq j l q' j' l' h2 h3 h4 h5 k hk hk'=>by
   rcases am d q ⟨n,sh,ls⟩ st with ⟨e0,e⟩|⟨hne,e⟩ <;> rcases am d q' ⟨n,sh,ls⟩ st with ⟨e1,e'⟩|⟨hne',e'⟩
   ·rw[e]at h2;rw[e']at h4;simp only[e0]at hk;simp only[e1]at hk';exact⟨e0.trans e1.symm,hsep j j' l l' h2 h3 h4 h5 k hk hk'⟩
   ·rw[e]at h2;rw[e']at h4;simp only[e0]at hk;simp only[hne']at hk';exact absurd hk' ((hown j l h2 h3 k hk).2.2.2 q' j' l' hne' h4 h5)
   ·rw[e]at h2;rw[e']at h4;simp only[hne]at hk;simp only[e1]at hk';exact absurd hk ((hown j' l' h4 h5 k hk').2.2.2 q j l hne h2 h3)
   ·rw[e]at h2;rw[e']at h4;simp only[hne]at hk;simp only[hne']at hk';exact h.sep q j l q' j' l' h2 h3 h4 h5 k hk hk'
  box:=λb hb=>h.box b ((hl' b).1 hb)
  inj:=λb b' hb hb'=>h.inj b b' ((hl' b).1 hb) ((hl' b').1 hb')
  nwlt:=h.nwlt
  os:=h.os,tape:=h.tape,output:=h.output,size:=h.size,keep:=h.keep
  fixb:=λx hx=>⟨(hl' _).2 (h.fixb x hx).1,(h.fixb x hx).2⟩
  fixt:=λx hx=>by rw[hval,if_neg (hfix x hx)];exact h.fixt x hx }
theorem ao.putLs (hV:ax V)(h:ao P V W st a w)(d:Nat)(hd:d<V.nt)(hfix:∀ x∈V.fixt,x.1≠d)(n:Nat)(sh:aI)(ls:List Leaf)(v:Value)
  (csd:List Value) (hn:(st d).ver<n) (hs:dJ sh v csd) (hl:aC P V W st w ls csd) :
  Rel P V (ac [(d,⟨n,sh,ls⟩)] st) (a.put (some d) v) w :=
 ⟨_,h.put hV d hd hfix n sh ls v csd (λ_=>[]) hn hs hl.length hl.one' (λj l u h1 h2=>(hl.at_ j l u h1 h2).1) (λ_ _ _ _ k hk=>by simp at hk)
  (λ_ _ _ _ _ _ _ _ k hk=>by simp at hk)⟩
end
def zeroCells:Ty->List Value
 |.int k=>[.int k 0]
 |.bool=>[.bool false]
 |.str=>[.string AW]
 |.unit=>[]
 |.pair a b=>zeroCells a++zeroCells b
 |.hdr=>[.slice none 0 0]
 |.list _ _ _=>[.slice none 0 0]
def bN (P:Program)(t:TypeId)(n:Nat):Prop:=(P.info? t).map (·.size)=some n
def dD (P:Program)(t:TypeId)(z:Value):Prop:=(P.info? t).map (·.zero)=some (some z)
def EqAt (P:Program)(t:TypeId)(a:Ty):Prop:=a.flat=true->∀ (w:World) (G:Nat->Prop) (x y:a.den) (cx cy:List Value),Rd w G a x cx->Rd w G a y cy ->
 (Op.equal t (.agg cx.toArray) (.agg cy.toArray)).run P w=.ok (a.eqv x y) w
def ni (P:Program)(t:TypeId):TI->Prop
 |.int k=>P.underlying t=some (.int k)/\bN P t 1/\dD P t (.int k 0)
 |.bool=>P.underlying t=some .bool/\bN P t 1/\dD P t (.bool false)
 |.str=>P.underlying t=some .string/\bN P t 1/\dD P t (.string AW)
 |.slice E e bytes=>P.underlying t=some (.slice E)/\bN P t 1/\dD P t (.slice none 0 0)/\0<e.cells/\(0<bytes/\(e=.int .u8->P.underlying E=some (.int .u8))) /\
  ∃ i z,P.info? E=some i/\i.size=e.cells/\i.bytes=bytes/\i.zero=some z/\z.cells.toList=zeroCells e
 |.struct a flds=>(∃ fs,P.underlying t=some (.struct fs)/\fs.toList.mapM (λf=>(P.info? f.type).map λi=>(f.offset,i.size))=some (flds.map λx=>(x.1,x.2.1)) /\
  ∀ (i off n:Nat) (agg:Bool),flds[i]?=some (off,n,agg)->(agg=false->n=1)/\∃ f:Field,fs[i]?=some f/\f.offset=off/\0<n/\off+n<=a.cells/\bN P f.type n /\
   (P.underlying f.type).map (λd=>match d with|.struct _|.array _ _=>true|_=>false)=some agg) /\
  bN P t a.cells/\dD P t (.agg (zeroCells a).toArray)/\EqAt P t a/\P.eqGuardType P.depth t=false
 |.arr e n=>(∃ E,P.underlying t=some (.array n E)/\bN P E e.cells/\(P.underlying E).map (λd=>match d with|.struct _|.array _ _=>true|_=>false)=some e.isAgg)/\0<e.cells /\
  bN P t (n*e.cells)/\dD P t (.agg ((AR n (zeroCells e)).flatten).toArray)
 |.ptr=>(∃ e,P.underlying t=some (.pointer e))/\bN P t 1/\dD P t (.pointer none)
 |.fn=>(∃ x y z,P.underlying t=some (.func x y z))/\bN P t 1/\dD P t .nilFunc
 |.none=>True
def TOk (P:Program)(T:TypeId->TI):Prop:=∀ t,ni P t (T t)
theorem rg {P:Program}:∀ {l:List (TypeId×TI)},(∀ x∈l,ni P x.1 x.2)->TOk P (gS l)
 |[],_,_=>trivial
 |(t,i)::l,h,u=>by
  simp only[gS];cases hb:AA t u with
  |false=>exact rg (λx hx=>h x (Ap _ hx)) u
  |true =>
   simp_all
section
variable {P:Program} {V:Env} {W:Wit} {st:St} {w:World} {a:Act} {o:Oper}
def lH (P:Program)(V:Env)(o:Oper)(st:St)(U:Upd)(a:Act)(w:World):Prop :=
 ∀ (next:Act->World->Prop) (Q:Exit->Act->World->Prop),(∀ a' w',Rel P V (ac U st) a' w'->next a' w')->o.wp P a w next Q
theorem dA {v:Value}{w':World}{next:Act->World->Prop}{Q:Exit->Act->World->Prop}(h:(execOp a.eval o).run P w=.ok (.value v) w')(hn:next (a.put o.dst v) w'):o.wp P a w next Q:=by
 unfold Oper.wp;rw[h];exact hn
theorem oc {w':World}{next:Act->World->Prop}{Q:Exit->Act->World->Prop}(h:(execOp a.eval o).run P w=.ok .skip w')(hn:next (a.put o.dst undef) w'):o.wp P a w next Q:=by
 unfold Oper.wp;rw[h];exact hn
def bL (V:Env)(o:Oper):Prop:=∀ d,o.dst=some d->d<V.nt/\∀ x∈V.fixt,x.1≠d
theorem dB (hV:ax V)(h:ao P V W st a w){d:Nat}(hd:o.dst=some d)(hok:bL V o){v:Value}{sh:aI}{ls:List Leaf}{cs:List Value}
  (hrun:(execOp a.eval o).run P w=.ok (.value v) w) (hs:dJ sh v cs) (hl:aC P V W st w ls cs):lH P V o st (cj st [] d sh ls) a w:=by
 intro next Q hn;refine dA hrun ?_;rw[hd];exact hn _ _ (h.putLs hV d (hok d hd).1 (hok d hd).2 _ sh ls v cs (Am _) hs hl)
theorem aO (hV:ax V)(h:ao P V W st a w){d:Nat}(hd:o.dst=some d)(hok:bL V o){v:Value}{l:Leaf}
  (hrun:(execOp a.eval o).run P w=.ok (.value v) w) (hl:aK P V W st w [] l v) (hno:¬ an l) (h1:v.oneCell'=true):lH P V o st (cj st [] d .one [l]) a w :=
 dB hV h hd hok hrun (cs:=[v]) rfl ⟨⟨hl,hno,h1⟩,trivial⟩
theorem jg {agg:Bool}{v:Value}{cs:List Value}(h:cX agg v cs):dJ (bj agg) v cs:=by
 cases agg <;> exact h
theorem bE (h:ao P V W st a w){x:Operand}{k:IntKind}{n:Int}(hx:one st x=.int k n):a.eval x=.int k n:=by
 have:=(bu h x (by rw[hx];simp)).1;rw[hx]at this;exact this
theorem gz (h:ao P V W st a w){x:Operand}{b:Bool}(hx:one st x=.bool b):a.eval x=.bool b:=by
 have:=(bu h x (by rw[hx];simp)).1;rw[hx]at this;exact this
theorem gM (h:ao P V W st a w){x:Operand}{b:ByteArray}(hx:one st x=.str b):a.eval x=.string b:=by
 have:=(bu h x (by rw[hx];simp)).1;rw[hx]at this;exact this
theorem tU (op:BinOp)(k:IntKind)(t t':TypeId)(x y:Operand)(m n:Int)(l:Leaf)(hl:qV op k m n=some l)(hx:a.eval x=.int k m)(hy:a.eval y=.int k n)(ho:o.op=.binOp op t x y t') :
  ∃ v,(execOp a.eval o).run P w=.ok (.value v) w/\aK P V W st w [] l v/\¬ an l/\v.oneCell'=true:=by
 cases op <;> simp only[qV,AE,reduceCtorEq]at hl <;> subst hl <;>
  exact⟨_,by simp[execOp,ho,hx,hy,eqGuard,Go.binOp,Op.intArith,Op.intCmp],rfl,id,rfl⟩
theorem zG (hV:ax V)(h:ao P V W st a w)(ks:List (Nat×Nat)):co V W W st (ac (aN st ks) st) w w:=by
 obtain⟨_,h2,h3⟩:=kT hV ks h;exact⟨λq=>⟨(h3 q).2,λ_=>rfl⟩,λb hb=>⟨⟨hb.1,by rw[(h3 b).1];exact hb.2⟩,rfl⟩,λ_ h=>h,λ_ _=>rfl,λ_ q j l h4 h5 _=>⟨⟨l,(h2 q j l h4 h5).1,h5⟩,rfl,λ_ _=>rfl⟩⟩
theorem step_frz (hV:ax V)(h:ao P V W st a w)(ks:List (Nat×Nat)):co V W (W.frz st ks) st (ac (aF st ks) st) w w:=by
 obtain⟨_,h2,h3⟩:=kw hV ks h;exact⟨λq=>⟨(h3 q).2,λ_=>rfl⟩,λb hb=>⟨⟨hb.1,by rw[(h3 b).1];exact hb.2⟩,rfl⟩,λ_ h=>.inl h,λ_ _=>rfl,λ_ q j l h4 h5 _=>⟨⟨l,(h2 q j l h4 h5).1,h5⟩,rfl,λ_ _=>rfl⟩⟩
def c9 (W:Wit)(ls:List Leaf)(j:Nat):List Nat :=
 match ls[j]? with
 |some (.al r i _)=>W.bs r i
 |_=>[]
theorem uY:∀ {ls:List Leaf} {j r i n:Nat},ls[j]?=some (.al r i n)->an (aD st (.al r i n))->(r,i)∈bB st ls
 |l::ls,0,r,i,n,h,ho=>by
  simp at h;subst h;generalize hd:aD st (.al r i n)=q at ho;cases q <;> first|exact ho.elim|simp[bB,hd]
 |l::ls,j+1,r,i,n,h,ho=>by
  have:=uY (ls:=ls) (by simpa using h) ho;cases l <;> simp[bB,this]
theorem lI:∀ {ls:List Leaf} {j r i n:Nat},ls[j]?=some (.al r i n)->an (aD st (.al r i n))->(r,i)∈bX st ls
 |l::ls,0,r,i,n,h,ho=>by
  simp at h;subst h;generalize hd:aD st (.al r i n)=q at ho;cases q <;> first|exact ho.elim|simp[bX,hd]
 |l::ls,j+1,r,i,n,h,ho=>by
  have:=lI (ls:=ls) (by simpa using h) ho;cases l <;> simp[bX,this]
theorem mL:∀ {ls:List Leaf} {j j' r i n n':Nat},aX (bX st ls)=true->ls[j]?=some (.al r i n)->an (aD st (.al r i n)) ->
    ls[j']?=some (.al r i n')->an (aD st (.al r i n'))->j=j'
  |l::ls,j,j',r,i,n,n',hd,h1,h2,h3,h4=>by
    have key:∀ (m:Nat) (k:Nat),l=.al r i m->an (aD st (.al r i m))->(∃ n'',ls[k]?=some (.al r i n'')/\an (aD st (.al r i n'')))->False:=by
      rintro m k rfl ho ⟨n'',h5,h6⟩;have h7:=lI h5 h6;have h8:bX st (.al r i m::ls)=(r,i)::bX st ls:=by
        generalize hq:aD st (.al r i m)=q at ho;cases q <;> first|exact ho.elim|simp[bX,hq]
      rw[h8]at hd;simp only[aX,AD,Aj]at hd;have:=hd.1;rw[Ak]at this;have:=this _ h7;simp at this
    have hd':aX (bX st ls)=true:=by
      cases l <;> first
        |exact hd
        | (rename_i r' j' v'
           simp only[bX]at hd;split at hd
           · simp only[A9,aX]at hd
             grind
           · simpa using hd)
    cases j with
    |zero =>
      cases j' with
      |zero=>rfl
      |succ j' =>
        grind
    |succ j =>
      cases j' with
      |zero =>
        grind
      |succ j' =>
        have:=mL (ls:=ls) hd' (by simpa using h1) h2 (by simpa using h3) h4;omega
theorem kU (hV:ax V)(h:ao P V W st a w){l:Leaf}{v:Value}(hl:aK P V W st w [] l v)(hno:¬ an l) :
  (∃ r i n,l=.al r i n/\an (aD st l)/\aK P V W st w (W.bs r i) (aD st l) v/\(st r).ls[i]?=some (aD st l)) \/
  (¬ an (aD st l)/\aK P V W st w [] (aD st l) v):=by
 cases l with
 |al r j n =>
  by_cases hd:aD st (.al r j n)=.dead
  ·rw[hd];exact .inr ⟨id,trivial⟩
  ·obtain⟨h1,h2⟩:=eC rfl hd;have hv:=hl.2 h1;have h3:=h.leaf r j _ v h2 hv;by_cases ho:an (aD st (.al r j n))
   ·grind
   ·exact .inr ⟨ho,h3.carry hV.ro (co.refl V W st w) (λh=>absurd h ho)⟩
 |own p hh E e xs=>exact absurd trivial hno
 |nal p ks ep loc E e xs =>
  simp only[aD];cases br st ks ep with
  |false=>exact .inr ⟨id,trivial⟩
  |true=>exact .inr ⟨id,hl⟩
 |_=>exact .inr ⟨id,hl⟩
end
section
variable {P:Program} {V:Env} {W:Wit} {st:St} {w w':World} {a:Act} {o:Oper} {ls:List Leaf} {cs:List Value}
theorem gN {st st':St}(h:∀ q,(st' q).sh=(st q).sh)(b:Nat):live st' b<->live st b:=by simp[live,h]
def aB (st:St)(x:Nat×Nat):Prop:=∃ l,(st x.1).ls[x.2]?=some l/\an l
def aU (W:Wit)(ks:List (Nat×Nat)):List Nat:=ks.flatMap λx=>W.bs x.1 x.2
theorem dp (W:Wit)(a b:List (Nat×Nat)):aU W (a++b)=aU W a++aU W b:=List.flatMap_append
theorem fC {W:Wit}{ks:List (Nat×Nat)}{k:Nat}:k∈aU W ks<->∃ x∈ks,k∈W.bs x.1 x.2:=List.mem_flatMap
theorem jr {W:Wit}{p:Bool}{ks:List (Nat×Nat)}(hks:∀ x∈ks,aB st x):∀ k,bo V W p ks k->gd V (W.frz st ks) p k:=by
 rintro k (hk|⟨x,hx,hk⟩)
 ·exact bR (W':=W.frz st ks) (λh=>h) (λ_ h=>Or.inl h) k hk
 ·exact .inl (.inr ⟨x,hx,hks x hx,hk⟩)
theorem mA {a b:List (Nat×Nat)}(h:dg a b=true):∀ x∈a,x∉b:=by
 intro x hx hy;simp only[dg,Aj,Ak]at h;have:=h x hx;simp only[A8,Ak]at this;have:=this x hy;simp[gI]at this
theorem eY (hV:ax V){W:Wit}{a:Act}{w:World}(h:ao P V W st a w){frz kill:List (Nat×Nat)}(hap:dg frz kill=true)(hkp:∀ x∈kill,aB st x) :
  ao P V (W.frz st frz) (ac (aN (ac (aF st frz) st) kill++aF st frz) st) a w /\
  (∀ (q i:Nat) (l:Leaf),(ac (aN (ac (aF st frz) st) kill++aF st frz) st q).ls[i]?=some l->an l->(st q).ls[i]?=some l/\(q,i)∉frz/\(q,i)∉kill) /\
  (∀ q,(ac (aN (ac (aF st frz) st) kill++aF st frz) st q).sh=(st q).sh/\(st q).ver<=(ac (aN (ac (aF st frz) st) kill++aF st frz) st q).ver) /\
  (∀ k∈aU W kill,¬ (W.frz st frz).nw k/\¬ V.prot k/\k<w.heap.size/\(∀ b,live (ac (aN (ac (aF st frz) st) kill++aF st frz) st) b->W.β b≠k) /\
   ∀ (r1 i:Nat) (l:Leaf),(ac (aN (ac (aF st frz) st) kill++aF st frz) st r1).ls[i]?=some l->an l->k∉W.bs r1 i):=by
 obtain⟨h1,h2,h3⟩:=kw hV frz h;obtain⟨h4,h5,h6⟩:=kT hV kill h1;rw[<- bw]at h4 h5 h6;have hsh:∀ q,(ac (aN (ac (aF st frz) st) kill++aF st frz) st q).sh=(st q).sh:=λq=>(h6 q).1.trans (h3 q).1
 have hown:∀ (q i:Nat) (l:Leaf),(ac (aN (ac (aF st frz) st) kill++aF st frz) st q).ls[i]?=some l->an l->(st q).ls[i]?=some l/\(q,i)∉frz/\(q,i)∉kill:=by
  simp_all
 refine⟨h4,hown,λq=>⟨hsh q,AL (h3 q).2 (h6 q).2⟩,λk hk=>?_⟩;obtain⟨x,hx,hk⟩:=fC.1 hk;obtain⟨l,hl,hlo⟩:=hkp x hx;have h7:=h.ownb x.1 x.2 l hl hlo k hk;refine⟨?_,h7.2.1,h.own_lt hl hlo k hk,λb hb=>h7.2.2 b ((gN hsh b).1 hb),λr1 i l1 h8 h9 hk1=>?_⟩
 ·rintro (hn|⟨y,hy,⟨l2,hl2,hlo2⟩,hk2⟩)
  ·grind
  ·obtain⟨e1,e2⟩:=h.sep y.1 y.2 l2 x.1 x.2 l hl2 hlo2 hl hlo k hk2 hk;exact mA hap y hy (by rw[show y=x from Prod.ext e1 e2];exact hx)
 ·obtain⟨h10,_,h12⟩:=hown r1 i l1 h8 h9;obtain⟨e1,e2⟩:=h.sep x.1 x.2 l r1 i l1 hl hlo h10 h9 k hk hk1
  simp_all
theorem xL (hV:ax V)(h:ao P V W st a w)(frz kill:List (Nat×Nat)):co V W (W.frz st frz) st (ac (aN (ac (aF st frz) st) kill++aF st frz) st) w w:=by
 obtain⟨h1,h2,h3⟩:=kw hV frz h;obtain⟨_,h5,h6⟩:=kT hV kill h1;rw[<- bw]at h5 h6;exact⟨λq=>⟨AL (h3 q).2 (h6 q).2,λ_=>rfl⟩,λb hb=>⟨⟨hb.1,by rw[(h6 b).1,(h3 b).1];exact hb.2⟩,rfl⟩,λ_ h=>.inl h,λ_ _=>rfl,
  λ_ q j l g1 g2 _=>⟨⟨l,(h2 q j l (h5 q j l g1 g2).1 g2).1,g2⟩,rfl,λ_ _=>rfl⟩⟩
theorem rh:∀ {ls:List Leaf} {j:Nat} {p:Bool} {ks:List (Nat×Nat×Nat)} {ep:Nat} {E:TypeId} {e:Ty} {xs:List e.den},ls[j]?=some (.nal p ks ep none E e xs)->br st ks ep=true->∀ k∈ks,(k.1,k.2.1)∈de st ls
 |l::ls,0,p,ks,ep,E,e,xs,h,hv,k,hk=>by
  simp at h;subst h;simp only[de,aD]
  grind
 |l::ls,j+1,p,ks,ep,E,e,xs,h,hv,k,hk=>by
  have:=rh (ls:=ls) (by simpa using h) hv k hk;cases l with
  |nal p' ks' ep' loc E' e' xs'=>cases loc <;> simp[de,this]
  |_=>simp[de,this]
theorem ri {ls:List Leaf}(h:gw st ls=true):aX (bX st ls)=true/\dg (de st ls) (bX st ls)=true:=by
 simpa[gw]using h
theorem mM (hl:aC P V W st w ls cs){x:Nat×Nat}(hx:x∈bX st ls):aB st x:=by
 induction ls generalizing cs with
 |nil=>simp[bX]at hx
 |cons l ls ih =>
  cases cs with
  |nil=>exact hl.elim
  |cons v cs =>
   cases l with
   |al r j n =>
    simp only[bX,AN]at hx;rcases hx with hx|hx
    ·split at hx
     ·rename_i p hh E e xs hd;simp at hx;subst hx;exact⟨_,(eC hd (by simp)).2,trivial⟩
     ·grind
    ·exact ih hl.2 hx
   |_=>exact ih hl.2 hx
theorem yM {l:Leaf}(h:an (fy st l)):an (aD st l)/\fy st l=aD st l:=by
 unfold fy at h ⊢;split at h
 ·exact h.elim
 ·exact⟨h,rfl⟩
theorem nj (hV:ax V)(h:ao P V W st a w){ls:List Leaf}{cs:List Value}(hl:aC P V W st w ls cs)(hok:gw st ls=true) :
    ao P V (W.frz st (de st ls)) (ac (mvU st ls) st) a w/\(dn st ls).length=cs.length /\
    (∀ (j:Nat) (l:Leaf) (u:Value),(dn st ls)[j]?=some l->cs[j]?=some u->aK P V (W.frz st (de st ls)) (ac (mvU st ls) st) w (c9 W ls j) l u) /\
    (∀ (j:Nat) (l:Leaf),(dn st ls)[j]?=some l->an l->∀ k∈c9 W ls j,¬ (W.frz st (de st ls)).nw k/\¬ V.prot k/\k<w.heap.size /\
      (∀ b,live (ac (mvU st ls) st) b->W.β b≠k) /\
      ∀ (r1 j1:Nat) (l1:Leaf),(ac (mvU st ls) st r1).ls[j1]?=some l1->an l1->k∉W.bs r1 j1) /\
    (∀ (j j':Nat) (l l':Leaf),(dn st ls)[j]?=some l->an l->(dn st ls)[j']?=some l'->an l'->∀ k,k∈c9 W ls j->k∈c9 W ls j'->j=j'):=by
  obtain⟨hd,hap⟩:=ri hok;obtain⟨h1,h2,h3,h3b⟩:=eY hV h hap (λx hx=>mM hl hx);have hstep:=xL hV h (de st ls) (bX st ls);show ao P V (W.frz st (de st ls)) (ac (aN (ac (aF st (de st ls)) st) (bX st ls)++aF st (de st ls)) st) a w/\_;have hget:∀ (j:Nat) (l:Leaf),(dn st ls)[j]?=some l->∃ l0 u,ls[j]?=some l0/\cs[j]?=some u/\fy st l0=l/\aK P V W st w [] l0 u/\¬ an l0:=by
    intro j l hj;simp only[dn,A4,AO]at hj;obtain⟨l0,h4,h5⟩:=hj;have hlt:j<cs.length:=by rw[<- hl.length];exact (AC.1 h4).1
    have h6:=AG hlt;have h7:=hl.at_ j l0 _ h4 h6
    simp_all
  have howned:∀ (j:Nat) (l:Leaf),(dn st ls)[j]?=some l->an l->∃ r i n,ls[j]?=some (.al r i n)/\an (aD st (.al r i n))/\(st r).ls[i]?=some l:=by
    intro j l hj ho;obtain⟨l0,u,h4,h5,rfl,h6,h7⟩:=hget j l hj;obtain⟨ho',e0⟩:=yM ho;rcases kU hV h h6 h7 with ⟨r,i,n,rfl,h8,_,h9⟩|⟨h8,_⟩
    · grind
    · grind
  refine⟨h1,by simp[dn,hl.length],λj l u hj hu=>?_,λj l hj ho k hk=>?_,λj j' l l' hj ho hj' ho' k hk hk'=>?_⟩
  · obtain ⟨l0, u', h4, h5, rfl, h6, h7⟩ := hget j l hj
    obtain rfl:u=u':=Option.some.inj (hu.symm.trans h5);have hrest:fy st l0=aD st l0->aK P V (W.frz st (de st ls)) (ac (mvU st ls) st) w (c9 W ls j) (fy st l0) u:=by
      intro e0;rw[e0];rcases kU hV h h6 h7 with ⟨r,i,n,rfl,h8,h9,_⟩|⟨h8,h9⟩
      · have:c9 W ls j=W.bs r i:=by simp[c9,h4]
        rw[this];exact h9.carry hV.ro hstep (λ_=>⟨rfl,λ_ _=>rfl⟩)
      · exact h9.carry hV.ro hstep (λh=>absurd h h8)
    by_cases hn:∃ p ks ep E e xs,aD st l0=.nal p ks ep none E e xs
    · obtain⟨p,ks,ep,E,e,xs,hn⟩:=hn
      have e0:fy st l0=.ro p E e xs:=by unfold fy;rw[hn]
      rw[e0];have hnal:l0=.nal p ks ep none E e xs/\br st ks ep=true:=by
        cases l0 with
        |al r i n=>exact absurd hn gX
        |nal p' ks' ep' loc' E' e' xs' =>
          simp only[aD]at hn;cases hv:br st ks' ep' with
          |false=>simp[hv]at hn
          |true =>
            simp_all
        |_=>simp[aD]at hn
      obtain⟨rfl,hv⟩:=hnal;refine Rd.mono (λk hk=>?_) (oa hv h6).rd;rcases hk with hk|⟨x,hx,hk⟩
      · exact bR (W':=W.frz st (de st ls)) (λh=>h) (λ_ h=>Or.inl h) k hk
      · exact .inl (.inr ⟨(x.1,x.2.1),rh h4 hv x hx,(cl hv).2.2 x hx,hk⟩)
    · refine hrest ?_
      unfold fy
      grind
  · obtain⟨r,i,n,h4,h5,h6⟩:=howned j l hj ho
    have e:c9 W ls j=W.bs r i:=by simp[c9,h4]
    rw[e]at hk;exact h3b k (fC.2 ⟨(r,i),lI h4 h5,hk⟩)
  · obtain⟨r,i,n,h4,h5,h6⟩:=howned j l hj ho
    obtain⟨r',i',n',h4',h5',h6'⟩:=howned j' l' hj' ho';have e:c9 W ls j=W.bs r i:=by simp[c9,h4]
    have e':c9 W ls j'=W.bs r' i':=by simp[c9,h4']
    rw[e]at hk;rw[e']at hk';obtain⟨rfl,rfl⟩:=h.sep r i l r' i' l' h6 ho h6' ho' k hk hk';exact mL hd h4 h5 h4' h5'
theorem xC (hV:ax V)(h:ao P V W st a w)(hl:aC P V W st w ls cs)(hok:gw st ls=true):∀ q,(ac (mvU st ls) st q).sh=(st q).sh/\(st q).ver<=(ac (mvU st ls) st q).ver :=
 (eY hV h (ri hok).2 (λ_ hx=>mM hl hx)).2.2.1
theorem ao.putMoved (hV:ax V)(h:ao P V W st a w){ls:List Leaf}{cs:List Value}(hl:aC P V W st w ls cs)(hd:gw st ls=true)
  (d:Nat) (hdn:d<V.nt) (hfix:∀ x∈V.fixt,x.1≠d) {sh:aI} {v:Value} (hs:dJ sh v cs) :
  Rel P V (ac (cj st (mvU st ls) d sh (dn st ls)) st) (a.put (some d) v) w:=by
 obtain⟨h1,h2,h3,h4,h5⟩:=nj hV h hl hd;exact⟨_,h1.put hV d hdn hfix _ sh (dn st ls) v cs (c9 W ls) (Am _) hs h2 hl.one' h3
  (λj l hj ho k hk=>⟨(h4 j l hj ho k hk).1,(h4 j l hj ho k hk).2.1,(h4 j l hj ho k hk).2.2.2.1,λr1 j1 l1 _=>(h4 j l hj ho k hk).2.2.2.2 r1 j1 l1⟩) h5⟩
theorem ao.setBoxG (hV:ax V)(h:ao P V W st a w)(b:Nat)(hb:B0<=b)(n:Nat)(ls:List Leaf)(csd:List Value)(bsd:Nat->List Nat)(g:Nat)(E:TypeId)
    (hn:(st b).ver<n) (hg:(live st b/\W.β b=g)\/(¬ live st b/\¬ b6 V W st g/\∀ (j:Nat) (l:Leaf),ls[j]?=some l->an l->∀ k∈bsd j,k≠g)) (hnew:w'.heap[g]?=some (.cells csd.toArray E (0,0)))
    (hsame:∀ k,b6 V W st k->k≠g->w'.heap[k]?=w.heap[k]?) (hsameb:∀ (j:Nat) (l:Leaf),ls[j]?=some l->an l->∀ k∈bsd j,k≠g->w'.heap[k]?=w.heap[k]?) (hsz:w.heap.size<=w'.heap.size) (hos:w'.os=w.os) (ht:w'.tape=w.tape) (ho:w'.output=w.output)
    (hl:ls.length=csd.length) (h1:∀ u∈csd,u.oneCell'=true)
    (hleaf:∀ (j:Nat) (l:Leaf) (u:Value),ls[j]?=some l->csd[j]?=some u->aK P V W st w (bsd j) l u)
    (hown:∀ (j:Nat) (l:Leaf),ls[j]?=some l->an l->∀ k∈bsd j,¬ W.nw k/\¬ V.prot k/\(∀ b,live st b->W.β b≠k) /\
      ∀ (r1 j1:Nat) (l1:Leaf),r1≠b->(st r1).ls[j1]?=some l1->an l1->k∉W.bs r1 j1)
    (hsep:∀ (j j':Nat) (l l':Leaf),ls[j]?=some l->an l->ls[j']?=some l'->an l'->∀ k,k∈bsd j->k∈bsd j'->j=j') :
    ao P V { W with β:=λr=>if r=b then g else W.β r,cs:=λr=>if r=b then csd else W.cs r,bs:=λr j=>if r=b then bsd j else W.bs r j }
      (ac [(b,⟨n,.agg,ls⟩)] st) a w':=by
  have hgo:¬ W.nw g/\¬ V.prot g/\(∀ q,q≠b->live st q->W.β q≠g)/\∀ (r1 j1:Nat) (l1:Leaf),(st r1).ls[j1]?=some l1->an l1->g∉W.bs r1 j1:=by
    rcases hg with ⟨hlv,rfl⟩|⟨hlv,hg⟩
    · exact⟨(h.box b hlv).1,(h.box b hlv).2,λq hq hlq e=>hq (h.inj q b hlq hlv e),λr1 j1 l1 h2 h3 hk=>(h.ownb r1 j1 l1 h2 h3 _ hk).2.2 b hlv rfl⟩
    · have hu:=hg.1
      simp only[b6,not_or,not_exists,not_and]at hu
      grind
  have hbd:∀ (j:Nat) (l:Leaf),ls[j]?=some l->an l->∀ k∈bsd j,k≠g:=by
    grind
  have hlv':∀ q,live (ac [(b,⟨n,.agg,ls⟩)] st) q<->(q=b\/live st q):=by
    intro q;rcases am b q ⟨n,.agg,ls⟩ st with ⟨e0,e⟩|⟨hne,e⟩
    · subst e0
      simp[live,e,hb]
    · simp[live,e,hne]
  have hheap:∀ k,b6 V W st k->k≠g->w'.heap[k]?=w.heap[k]?:=hsame;have hstep:co V W { W with β:=λr=>if r=b then g else W.β r,cs:=λr=>if r=b then csd else W.cs r,bs:=λr j=>if r=b then bsd j else W.bs r j } st (ac [(b,⟨n,.agg,ls⟩)] st) w w':=by
    refine⟨λq=>?_,λq hq=>⟨(hlv' q).2 (.inr hq),?_⟩,λ_ h=>h,λk hk=>hheap k (hk.elim .inl (λh=>.inr (.inl h))) ?_,λ_ q j l h2 h3 h4=>?_⟩
    · rcases am b q ⟨n,.agg,ls⟩ st with ⟨rfl,e⟩|⟨hne,e⟩
      · grind
      · grind
    · grind
    · grind
    · rcases am b q ⟨n,.agg,ls⟩ st with ⟨rfl,e⟩|⟨hne,e⟩
      · grind
      · rw[e]at h2
        refine⟨⟨l,h2,h3⟩,by simp[hne],λk hk=>hheap k (.inr (.inr (.inr ⟨q,j,l,h2,h3,hk⟩))) ?_⟩
        grind
  exact {
    nt:=h.nt,df:=h.df
    slots:=λt ht'=>by
      have : t ≠ b := by have : GH <= B0 := by decide
                         omega
      rw[aJ this];simpa[this]using h.slots t ht'
    boxes:=λq hq=>by
      rcases am b q ⟨n,.agg,ls⟩ st with ⟨rfl,e⟩|⟨hne,e⟩
      · grind
      · rw[e]
        refine (h.boxes q hq).imp id λ⟨h2,E',h3⟩=>⟨h2,E',?_⟩
        simp only[hne,if_false];rw[hheap _ (.inr (.inr (.inl ⟨q,⟨hq,h2⟩,rfl⟩))) (hgo.2.2.1 q hne ⟨hq,h2⟩)];exact h3
    len:=λq=>by
      rcases am b q ⟨n,.agg,ls⟩ st with ⟨rfl,e⟩|⟨hne,e⟩
      · rw[e];simpa using hl
      · rw[e];simpa[hne]using h.len q
    one:=λq u hu=>by
      by_cases hq:q=b
      · grind
      · simp only[hq]at hu;exact h.one q u hu
    leaf:=λq j l u h2 h3=>by
      rcases am b q ⟨n,.agg,ls⟩ st with ⟨rfl,e⟩|⟨hne,e⟩
      · rw[e]at h2
        simp only at h3;exact (hleaf j l u h2 h3).carry hV.ro hstep (λho=>⟨by simp,λk hk=>hsameb j l h2 ho k hk (hbd j l h2 ho k hk)⟩)
      · rw[e]at h2
        simp only[hne]at h3;refine (h.leaf q j l u h2 h3).carry hV.ro hstep (λho=>⟨by simp[hne],λk hk=>hheap k (.inr (.inr (.inr ⟨q,j,l,h2,ho,hk⟩))) ?_⟩);rintro rfl;exact hgo.2.2.2 q j l h2 ho hk
    ownb:=λq j l h2 h3 k hk=>by
      rcases am b q ⟨n,.agg,ls⟩ st with ⟨rfl,e⟩|⟨hne,e⟩
      · rw[e]at h2
        simp only[if_true]at hk;have h4:=hown j l h2 h3 k hk;refine⟨h4.1,h4.2.1,λp hp=>?_⟩;by_cases hpq:p=q
        · simp only[hpq,if_true];exact λe=>hbd j l h2 h3 k hk e.symm
        · simp only[hpq,if_false];exact h4.2.2.1 p (((hlv' p).1 hp).resolve_left hpq)
      · rw[e]at h2
        simp only[hne,if_false]at hk;have h4:=h.ownb q j l h2 h3 k hk;refine⟨h4.1,h4.2.1,λp hp=>?_⟩;by_cases hpq:p=b
        · simp only[hpq,if_true];rintro rfl;exact hgo.2.2.2 q j l h2 h3 hk
        · simp only[hpq,if_false];exact h4.2.2 p (((hlv' p).1 hp).resolve_left hpq)
    sep:=λq j l q' j' l' h2 h3 h4 h5 k hk hk'=>by
      rcases am b q ⟨n,.agg,ls⟩ st with ⟨e0,e⟩|⟨hne,e⟩ <;> rcases am b q' ⟨n,.agg,ls⟩ st with ⟨e1,e'⟩|⟨hne',e'⟩
      · rw[e]at h2;rw[e']at h4
        simp only[e0,if_true]at hk;simp only[e1,if_true]at hk';exact⟨e0.trans e1.symm,hsep j j' l l' h2 h3 h4 h5 k hk hk'⟩
      · rw[e]at h2;rw[e']at h4
        simp only[e0,if_true]at hk;simp only[hne',if_false]at hk';exact absurd hk' ((hown j l h2 h3 k hk).2.2.2 q' j' l' hne' h4 h5)
      · rw[e]at h2;rw[e']at h4
        simp only[hne,if_false]at hk;simp only[e1,if_true]at hk'
        grind
      · rw[e]at h2;rw[e']at h4
        simp only[hne]at hk;simp only[hne',if_false]at hk';exact h.sep q j l q' j' l' h2 h3 h4 h5 k hk hk'
    box:=λq hq=>by
      by_cases hqb:q=b
      · simp only[hqb,if_true];exact⟨hgo.1,hgo.2.1⟩
      · simp only[hqb,if_false];exact h.box q (((hlv' q).1 hq).resolve_left hqb)
    inj:=λq q' hq hq' e=>by
      by_cases hqb:q=b <;> by_cases hqb':q'=b
      · omega
      · simp only[hqb,if_true,hqb',if_false]at e
        exact absurd e.symm (hgo.2.2.1 q' hqb' (((hlv' q').1 hq').resolve_left hqb'))
      · simp only[hqb,if_false,hqb',if_true]at e
        exact absurd e (hgo.2.2.1 q hqb (((hlv' q).1 hq).resolve_left hqb))
      · simp only[hqb,if_false,hqb',if_false]at e
        exact h.inj q q' (((hlv' q).1 hq).resolve_left hqb) (((hlv' q').1 hq').resolve_left hqb') e
    nwlt:=λk hk=>⟨AX (h.nwlt k hk).1 hsz,(h.nwlt k hk).2⟩
    os:=hos.trans h.os,tape:=ht.trans h.tape,output:=ho.trans h.output,size:=AL h.size hsz
    keep:=λk hp=>by
      rw[hheap k (.inr (.inl hp)) (by rintro rfl;exact hgo.2.1 hp)];exact h.keep k hp
    fixb:=λx hx=>by
      obtain⟨h2,h3⟩:=h.fixb x hx;refine⟨(hlv' _).2 (.inr h2),?_⟩;by_cases hxb:x.1=b
      · simp only[hxb,if_true]
        rcases hg with ⟨_,e⟩|⟨hlv,_⟩
        · rw[<- e,<- hxb];exact h3
        · exact absurd (hxb ▸ h2) hlv
      · simpa only[hxb,if_false]using h3
    fixt:=h.fixt }
theorem ao.setBox (hV:ax V)(h:ao P V W st a w)(b:Nat)(hb:B0<=b)(n:Nat)(ls:List Leaf)(csd:List Value)(bsd:Nat->List Nat)(g:Nat)(E:TypeId)
  (hn:(st b).ver<n) (hg:(live st b/\W.β b=g)\/(¬ live st b/\w.heap.size<=g)) (hnew:w'.heap[g]?=some (.cells csd.toArray E (0,0)))
  (hsame:∀ k,k<w.heap.size->k≠g->w'.heap[k]?=w.heap[k]?) (hsz:w.heap.size<=w'.heap.size) (hos:w'.os=w.os) (ht:w'.tape=w.tape) (ho:w'.output=w.output)
  (hl:ls.length=csd.length) (h1:∀ u∈csd,u.oneCell'=true)
  (hleaf:∀ (j:Nat) (l:Leaf) (u:Value),ls[j]?=some l->csd[j]?=some u->aK P V W st w (bsd j) l u)
  (hown:∀ (j:Nat) (l:Leaf),ls[j]?=some l->an l->∀ k∈bsd j,¬ W.nw k/\¬ V.prot k/\k<w.heap.size/\(∀ b,live st b->W.β b≠k) /\
   ∀ (r1 j1:Nat) (l1:Leaf),r1≠b->(st r1).ls[j1]?=some l1->an l1->k∉W.bs r1 j1)
  (hsep:∀ (j j':Nat) (l l':Leaf),ls[j]?=some l->an l->ls[j']?=some l'->an l'->∀ k,k∈bsd j->k∈bsd j'->j=j') :
  ao P V { W with β:=λr=>if r=b then g else W.β r,cs:=λr=>if r=b then csd else W.cs r,bs:=λr j=>if r=b then bsd j else W.bs r j }
   (ac [(b,⟨n,.agg,ls⟩)] st) a w' :=
 h.setBoxG hV b hb n ls csd bsd g E hn (hg.imp id λ⟨h2,h3⟩=>⟨h2,λhu=>by have:=h.used_lt g hu;omega,λj l h4 h5 k hk=>by have:=(hown j l h4 h5 k hk).2.2.1;omega⟩) hnew
  (λk hk hkg=>hsame k (h.used_lt k hk) hkg) (λj l h4 h5 k hk hkg=>hsame k (hown j l h4 h5 k hk).2.2.1 hkg) hsz hos ht ho hl h1 hleaf
  (λj l h4 h5 k hk=>⟨(hown j l h4 h5 k hk).1,(hown j l h4 h5 k hk).2.1,(hown j l h4 h5 k hk).2.2.2.1,(hown j l h4 h5 k hk).2.2.2.2⟩) hsep
theorem dN (hl:aC P V W st w ls cs){x:Nat×Nat}(hx:x∈bB st ls):aB st x:=by
 induction ls generalizing cs with
 |nil=>simp[bB]at hx
 |cons l ls ih =>
  cases cs with
  |nil=>exact hl.elim
  |cons v cs =>
   cases l with
   |al r j n =>
    simp only[bB,AN]at hx;rcases hx with hx|hx
    ·split at hx
     ·rename_i p hh E e xs hd;simp at hx;subst hx;exact⟨_,(eC hd (by simp)).2,trivial⟩
     ·grind
    ·exact ih hl.2 hx
   |nal p ks ep loc E e xs =>
    simp only[bB,AN]at hx;rcases hx with hx|hx
    ·split at hx
     ·rename_i hd;simp only[aD]at hd;cases hv:br st ks ep with
      |false=>simp[hv]at hd
      |true =>
       obtain⟨k,hk,rfl⟩:=List.mem_map.1 hx;exact (cl hv).2.2 k hk
     ·grind
    ·exact ih hl.2 hx
   |_=>exact ih hl.2 hx
theorem zH (hl:aC P V W st w ls cs){ks:List (Nat×Nat)}(hks:∀ x∈bB st ls,x∈ks)(p:Bool):∀ k,bo V W p (bB st ls) k->gd V (W.frz st ks) p k:=by
 intro k hk;rcases hk with hk|⟨x,hx,hk⟩
 ·exact bR (W':=W.frz st ks) (λh=>h) (λ_ h=>Or.inl h) k hk
 ·exact .inl (.inr ⟨x,hks x hx,dN hl hx,hk⟩)
end
section
variable {P:Program} {V:Env} {Γ:List Ctr} {T:TypeId->TI} {st:St} {o:Oper} {R:Type} {κ:Upd->Option R} {r:R}
def bU (P:Program)(V:Env)(o:Oper)(st:St)(κ:Upd->Option R)(r:R):Prop :=
 ∃ U,κ U=some r/\∀ W a w,ao P V W st a w->lH P V o st U a w
theorem wu (hV:ax V)(hok:bL V o){x:Operand}(hop:o.op=.move x)(h:act Γ T o st κ=some r):bU P V o st κ r:=by
 simp only[act,wrU,hop]at h;split at h
 ·rename_i d hd;refine⟨_,h,λW a w hr=>?_⟩;obtain⟨cs,hs,hl⟩:=cH hr x;exact dB hV hr hd hok (by simp[execOp,hop]) hs hl
 ·grind
theorem tV (hV:ax V)(hok:bL V o){x:Operand}(hop:o.op=.assign x)(h:act Γ T o st κ=some r):bU P V o st κ r:=by
 simp only[act,hop]at h;split at h
 ·rename_i d hd;cases hdis:gw st (ar st x).2 with
  |false=>simp[hdis]at h
  |true =>
   simp only[hdis]at h;refine⟨_,h,λW a w hr=>?_⟩;obtain⟨cs,hs,hl⟩:=cH hr x;intro next Q hn;refine dA (v:=a.eval x) (w':=w) (by simp[execOp,hop]) ?_;rw[hd];exact hn _ _ (hr.putMoved hV hl hdis d (hok d hd).1 (hok d hd).2 hs)
 ·grind
theorem wv (hV:ax V)(hok:bL V o){c x y:Operand}(hop:o.op=.pick c x y)(h:act Γ T o st κ=some r):bU P V o st κ r:=by
 simp only[act,wrU,hop]at h;split at h
 ·rename_i t hc;cases t with
  |true =>
   split at h
   ·rename_i d hd;refine⟨_,h,λW a w hr=>?_⟩;obtain⟨cs,hs,hl⟩:=cH hr x;exact dB hV hr hd hok (v:=a.eval x) (by simp[execOp,hop,gz hr hc,asBool]) hs hl
   ·grind
  |false =>
   split at h
   ·rename_i d hd;refine⟨_,h,λW a w hr=>?_⟩;obtain⟨cs,hs,hl⟩:=cH hr y;exact dB hV hr hd hok (v:=a.eval y) (by simp[execOp,hop,gz hr hc,asBool]) hs hl
   ·grind
 ·grind
theorem rj (hV:ax V)(hok:bL V o){x:Operand}(hop:o.op=.nilCheck x)(h:act Γ T o st κ=some r):bU P V o st κ r:=by
 simp only[act,wrU,hop]at h;have key:∀ {l:Leaf} {d:Nat},one st x=l->l≠.dead->(∀ W a w,ao P V W st a w->aK P V W st w [] l (a.eval x)->∃ ad,a.eval x=.pointer (some ad))->o.dst=some d ->
   ∀ W a w,ao P V W st a w->lH P V o st (cj st [] d .one [l]) a w:=by
  intro l d hl hnd hp hd W a w hr;obtain⟨h1,h2,h3,_⟩:=bu hr x (by rw[hl];exact hnd);rw[hl]at h1 h2;obtain⟨ad,hv⟩:=hp W a w hr h1;exact aO hV hr hd hok (v:=a.eval x) (by simp[execOp,hop,hv]) h1 h2 h3
 split at h
 ·split at h
  ·rename_i hl _ d hd;exact⟨_,h,key hl (by simp) (λW a w hr hlo=>by obtain⟨g,o',c,hv,_⟩:=hlo;exact⟨_,hv⟩) hd⟩
  ·grind
 ·split at h
  ·rename_i hl _ d hd;exact⟨_,h,key hl (by simp) (λW a w hr hlo=>⟨_,hlo.2.2⟩) hd⟩
  ·grind
 ·rename_i r' j v i sz off hl;cases hb:AA (st r').ver v with
  |false=>simp[hb]at h
  |true =>
   simp only[hb]at h;split at h
   ·rename_i d hd;refine⟨_,h,key hl (by simp) (λW a w hr hlo=>?_) hd⟩;obtain⟨g,len,cap,_,_,hv⟩:=hlo.2 (AB hb)
    simp_all
   ·grind
 ·split at h
  ·rename_i hl _ d hd;exact⟨_,h,key hl (by simp) (λW a w hr hlo=>by obtain⟨b,ob,g,o',c,hv,_⟩:=hlo;exact⟨_,hv⟩) hd⟩
  ·grind
 ·rename_i p ks ep b y off hl;cases hb:br st ks ep with
  |false=>simp[hb]at h
  |true =>
   simp only[hb]at h;split at h
   ·rename_i d hd;refine⟨_,h,key hl (by simp) (λW a w hr hlo=>?_) hd⟩;obtain⟨g,o',c,hv,_⟩:=(hlo.2.2 (cl hb).1 (cl hb).2.1 (cl hb).2.2:NpOk V W w p ks b y off _).rd
    simp_all
   ·grind
 ·grind
theorem ww (hV:ax V)(hok:bL V o){op:UnOp}{t:TypeId}{x:Operand}(hop:o.op=.unOp op t x)(h:act Γ T o st κ=some r):bU P V o st κ r:=by
 simp only[act,wrU,hop]at h;split at h
 ·rename_i b hx;split at h
  ·rename_i d hd;exact⟨_,h,λW a w hr=>aO hV hr hd hok (v:=.bool (!b)) (by simp[execOp,hop,gz hr hx,Op.unary]) rfl id rfl⟩
  ·grind
 ·rename_i k n hx;split at h
  ·rename_i d hd;exact⟨_,h,λW a w hr=>aO hV hr hd hok (v:=.int k (k.wrap (0-n))) (by simp[execOp,hop,bE hr hx,Op.unary,Op.intArith]) rfl id rfl⟩
  ·grind
 ·grind
theorem sD (hV:ax V)(hok:bL V o){x:Operand}{i:Nat}(hop:o.op=.extract x i)(h:act Γ T o st κ=some r):bU P V o st κ r:=by
 simp only[act,wrU,hop]at h;split at h
 ·rename_i ps ls he;split at h
  ·rename_i agg n hp;split at h
   ·rename_i d hd;refine⟨_,h,λW a w hr=>?_⟩;obtain⟨cs,hs,hl⟩:=cH hr x;rw[he]at hs hl;obtain⟨vs,hv,ht⟩:=hs;have key:∀ (ps:List (Bool×Nat)) (vs cs:List Value) (i:Nat) (off:Nat),n9 ps vs cs->ps[i]?=some (agg,n) ->
      ∃ v,vs[i]?=some v/\cX agg v ((cs.drop ((ps.take i).foldl (λa b=>a+b.2) off-off)).take n)/\off<=(ps.take i).foldl (λa b=>a+b.2) off:=by
     intro ps;induction ps with
     |nil=>intro vs cs i off _ hi;simp at hi
     |cons p ps ih =>
      rintro vs cs i off ⟨v,vs',c,cs',rfl,rfl,hc,hvo,ht⟩ hi;cases i with
      |zero =>
       simp_all
      |succ i =>
       obtain⟨v',h1,h2,h3⟩:=ih vs' cs' i (off+p.2) ht (by simpa using hi);refine⟨v',by simpa using h1,?_,by simp;omega⟩;simp;have e:(ps.take i).foldl (λa b=>a+b.2) (off+p.2)-off=c.length+((ps.take i).foldl (λa b=>a+b.2) (off+p.2)-(off+p.2)):=by omega
       rw[e,<- BD,List.drop_left];exact h2
    obtain⟨v,h1,h2,_⟩:=key ps vs cs i 0 ht hp;refine dB hV hr hd hok (v:=v) ?_ (jg h2) ((hl.drop _).take n);simp[execOp,hop,hv,Instr.extract,h1]
   ·grind
  ·grind
 ·grind
theorem te {W:Wit}{a:Act}{w:World}(hr:ao P V W st a w):∀ (xs:List Operand) (acc l:List Nat),
  xs.foldl (λ (acc:Option (List Nat)) x=>acc.bind λl=>match one st x with|.bp b 0=>some (l++[b])|_=>none) (some acc)=some l ->
  ∃ l',l=acc++l'/\xs.map a.eval=l'.map (λb=>Value.pointer (some ⟨W.β b,0,none⟩))/\∀ b∈l',B0<=b/\(st b).sh=.agg
 |[],acc,l,h=>⟨[],by simpa using h.symm,rfl,by simp⟩
 |x::xs,acc,l,h=>by
  simp at h;have hnone:∀ (xs:List Operand),xs.foldl (λ (acc:Option (List Nat)) x=>acc.bind λl=>match one st x with|.bp b 0=>some (l++[b])|_=>none) none=none:=by
   intro xs;induction xs with
   |nil=>rfl
   |cons x xs ih=>simpa using ih
  split at h
  ·rename_i b hx;obtain⟨l',h1,h2,h3⟩:=te hr xs (acc++[b]) l h;have h4:=(bu hr x (by rw[hx];simp)).1;rw[hx]at h4;refine⟨b::l',by simp[h1],?_,?_⟩
   ·simp only[BE,h2];rw[show a.eval x=_ from h4.2.2]
   ·intro q hq;rcases Az.1 hq with rfl|hq
    ·exact⟨h4.1,h4.2.1⟩
    ·grind
  ·grind
theorem rl (hV:ax V)(hok:bL V o){fn:Fn}{first caps:Array Operand}(hop:o.op=.makeFunc fn first caps)(h:act Γ T o st κ=some r):bU P V o st κ r:=by
 cases fn with
 |func f =>
  simp only[act,wrU,hop]at h;cases hb:AA first.size 0 with
  |false=>simp[hb]at h
  |true =>
   simp only[hb]at h;split at h
   ·rename_i l hl;split at h
    ·rename_i d hd;refine⟨_,h,λW a w hr=>?_⟩;obtain⟨l',h1,h2,h3⟩:=te hr caps.toList [] l hl;subst h1;have h4:first=#[]:=Array.eq_empty_of_size_eq_zero (AB hb)
     refine aO hV hr hd hok (v:=.func (.func f) #[] (l.map λb=>Value.pointer (some ⟨W.β b,0,none⟩)).toArray) ?_ ⟨rfl,h3⟩ id rfl;rw[<- h2];simp[execOp,hop,Instr.makeFunc,h4,<- An]
    ·grind
   ·grind
 |_=>simp[act,hop]at h
theorem fD {α:Type}{xs:List α}{i:Int}{x:α}(h:idx xs i=some x):0<=i/\i<xs.length/\xs[i.toNat]?=some x:=by
 unfold idx at h
 grind
end
section
variable {P:Program} {V:Env} {Γ:List Ctr} {T:TypeId->TI} {st:St} {o:Oper} {R:Type} {κ:Upd->Option R} {r:R}
theorem uZ {W:Wit}{a:Act}{w:World}(hr:ao P V W st a w){x:Operand}{b:Ty}{p:Bool}{u:b.den}(hsh:(ar st x).1=.agg)(hg:cE st b (ar st x).2=some (p,u)) :
  ∃ cs G,a.eval x=.agg cs.toArray/\Rd w G b u cs:=by
 obtain⟨cs,hs,hl⟩:=cH hr x;rw[hsh]at hs;exact⟨cs,_,hs,dX hr hl hg⟩
theorem kx {t:TypeId}(ht:P.underlying t=some .bool)(b b':Bool)(w:World):(Op.equal t (.bool b) (.bool b')).run P w=.ok (b==b') w:=by
 have e:Op.maxDepth=9999+1:=rfl;unfold Op.equal;rw[e];generalize 9999=m;unfold Op.equalIn;rw[AQ,run_underlying ht];rfl
theorem u3 (hV:ax V)(hT:TOk P T)(hok:bL V o){op:BinOp}{t t':TypeId}{x y:Operand}(hop:o.op=.binOp op t x y t')(h:act Γ T o st κ=some r):bU P V o st κ r:=by
  simp only[act,wrU,hop]at h;split at h
  · rename_i k m k' n hx hy
    cases op
    case shl =>
      simp only at h;cases hb:decide (n<0) with
      |true=>simp[hb]at h
      |false =>
        simp only[hb,cond_false]at h;split at h
        · rename_i d hd
          refine⟨_,h,λW a w hr=>aO hV hr hd hok (v:=.int k (k.wrap (m*2 ^ (min n.toNat k.bits)))) ?_ rfl id rfl⟩;have:¬ n<0:=of_decide_eq_false hb;simp[execOp,hop,bE hr hx,bE hr hy,eqGuard,Go.binOp,Op.shift,this]
        · cases h
    case shr =>
      simp only at h;cases hb:decide (n<0) with
      |true=>simp[hb]at h
      |false =>
        simp only[hb,cond_false]at h;split at h
        · rename_i d hd
          refine⟨_,h,λW a w hr=>aO hV hr hd hok (v:=.int k (m.fdiv (2 ^ (min n.toNat k.bits)))) ?_ rfl id rfl⟩;have:¬ n<0:=of_decide_eq_false hb;simp[execOp,hop,bE hr hx,bE hr hy,eqGuard,Go.binOp,Op.shift,this]
        · cases h
    case quo =>
      simp only at h;cases hb:decide (n=0) with
      |true=>simp[hb]at h
      |false =>
        simp only[hb,cond_false]at h;cases hk:decide (k=k') with
        |false=>simp[hk]at h
        |true =>
          simp only[hk,cond_true]at h;have hk:=of_decide_eq_true hk;subst hk;split at h
          · rename_i d hd
            refine⟨_,h,λW a w hr=>aO hV hr hd hok (v:=.int k (k.wrap (m.tdiv n))) ?_ rfl id rfl⟩;have:¬ n=0:=of_decide_eq_false hb;simp[execOp,hop,bE hr hx,bE hr hy,eqGuard,Go.binOp,Op.intDiv,this]
          · cases h
    case rem =>
      simp only at h;cases hb:decide (n=0) with
      |true=>simp[hb]at h
      |false =>
        simp only[hb,cond_false]at h;cases hk:decide (k=k') with
        |false=>simp[hk]at h
        |true =>
          simp only[hk,cond_true]at h;have hk:=of_decide_eq_true hk;subst hk;split at h
          · rename_i d hd
            refine⟨_,h,λW a w hr=>aO hV hr hd hok (v:=.int k (m.tmod n)) ?_ rfl id rfl⟩;have:¬ n=0:=of_decide_eq_false hb;simp[execOp,hop,bE hr hx,bE hr hy,eqGuard,Go.binOp,Op.intDiv,this]
          · cases h
    case and =>
      simp only at h;cases hk:decide (k=k') with
      |false=>simp[hk]at h
      |true =>
        simp only[hk,cond_true]at h;have hk:=of_decide_eq_true hk;subst hk;split at h
        · rename_i d hd
          refine⟨_,h,λW a w hr=>aO hV hr hd hok (v:=.int k (k.wrap ((BitVec.ofInt k.bits m &&& BitVec.ofInt k.bits n).toNat))) ?_ rfl id rfl⟩;simp[execOp,hop,bE hr hx,bE hr hy,eqGuard,Go.binOp,Op.intBits]
        · cases h
    case xor =>
      simp only at h;cases hk:decide (k=k') with
      |false=>simp[hk]at h
      |true =>
        simp only[hk,cond_true]at h;have hk:=of_decide_eq_true hk;subst hk;split at h
        · rename_i d hd
          refine⟨_,h,λW a w hr=>aO hV hr hd hok (v:=.int k (k.wrap ((BitVec.ofInt k.bits m ^^^ BitVec.ofInt k.bits n).toNat))) ?_ rfl id rfl⟩;simp[execOp,hop,bE hr hx,bE hr hy,eqGuard,Go.binOp,Op.intBits]
        · cases h
    all_goals
      simp only at h;cases hk:decide (k=k') with
      |false=>simp[hk]at h
      |true =>
        simp only[hk,cond_true]at h;have hk:=of_decide_eq_true hk;subst hk;split at h
        · rename_i l hl
          split at h
          · rename_i d hd
            refine⟨_,h,λW a w hr=>?_⟩;obtain⟨v,h1,h2,h3,h4⟩:=tU (P:=P) (V:=V) (W:=W) (st:=st) (w:=w) _ k t t' x y m n l hl (bE hr hx) (bE hr hy) hop;exact aO hV hr hd hok h1 h2 h3 h4
          · cases h
        · cases h
  · rename_i b b' hx hy
    cases ht:T t with
    |bool =>
      have h1:=hT t;rw[ht]at h1;simp only[ht]at h;cases op <;> simp only at h <;> first
        |cases h;done
        | (split at h
           · rename_i d hd
             first
               |exact⟨_,h,λW a w hr=>aO hV hr hd hok (v:=.bool (b==b')) (by simp[execOp,hop,gz hr hx,gz hr hy,eqGuard,Go.binOp,kx h1.1]) rfl id rfl⟩
               |exact⟨_,h,λW a w hr=>aO hV hr hd hok (v:=.bool (b != b')) (by simp[execOp,hop,gz hr hx,gz hr hy,eqGuard,Go.binOp,kx h1.1,bne]) rfl id rfl⟩
           · cases h)
    |_=>simp[ht]at h
  · rename_i b b' hx hy
    cases op <;> simp only at h <;> first
      |cases h;done
      | (cases hsz : decide (b.size + b'.size <= 9223372036854775807) with
         |false=>rw[hsz]at h;cases h
         |true =>
           rw[hsz]at h;simp only[cond_true]at h;split at h
           · rename_i d hd
             refine⟨_,h,λW a w hr=>aO hV hr hd hok (v:=.string (b++b')) ?_ rfl id rfl⟩;have:(b.size:Int)+b'.size<=9223372036854775807:=by have:=of_decide_eq_true hsz;omega
             simp[execOp,hop,gM hr hx,gM hr hy,eqGuard,Go.binOp,Op.stringOp,this]
           · cases h)
      | (split at h
         · rename_i d hd
           first
             |exact⟨_,h,λW a w hr=>aO hV hr hd hok (v:=.bool (b.toList==b'.toList)) (by simp[execOp,hop,gM hr hx,gM hr hy,eqGuard,Go.binOp,Op.stringOp]) rfl id rfl⟩
             |exact⟨_,h,λW a w hr=>aO hV hr hd hok (v:=.bool (b.toList != b'.toList)) (by simp[execOp,hop,gM hr hx,gM hr hy,eqGuard,Go.binOp,Op.stringOp,bne]) rfl id rfl⟩
         · cases h)
  · cases ht:T t with
    |struct b flds =>
      have h1:=hT t;rw[ht]at h1;obtain⟨_,_,_,heq,hgd⟩:=h1;simp only[ht]at h;cases hf:b.flat&&decide ((ar st x).1=.agg)&&decide ((ar st y).1=.agg) with
      |false=>simp[hf]at h
      |true =>
        simp only[hf,cond_true]at h;simp only[AD,decide_eq_true_eq]at hf;obtain⟨⟨hf,hsx⟩,hsy⟩:=hf;split at h
        · rename_i p u q v hgx hgy
          have run:∀ (W:Wit) (a:Act) (w:World),ao P V W st a w->(Op.equal t (a.eval x) (a.eval y)).run P w=.ok (b.eqv u v) w/\(∃ cx cy:Array Value,a.eval x=.agg cx/\a.eval y=.agg cy):=by
            intro W a w hr;obtain⟨cx,G,hx,hrx⟩:=uZ hr hsx hgx;obtain⟨cy,G',hy,hry⟩:=uZ hr hsy hgy;rw[hx,hy];exact⟨heq hf w G u v cx cy hrx (Rd.flat hf hry),_,_,rfl,rfl⟩
          cases op <;> simp only at h <;> first
            |cases h;done
            | (split at h
               · rename_i d hd
                 first
                   | (refine ⟨_, h, λW a w hr => aO hV hr hd hok (v := .bool (b.eqv u v)) ?_ rfl id rfl⟩
                      obtain⟨h2,cx,cy,hx,hy⟩:=run W a w hr;rw[hx,hy]at h2;simp[execOp,hop,hx,hy,eqGuard,Go.binOp,hgd,h2];done)
                   | (refine ⟨_, h, λW a w hr => aO hV hr hd hok (v := .bool (!b.eqv u v)) ?_ rfl id rfl⟩
                      obtain⟨h2,cx,cy,hx,hy⟩:=run W a w hr;rw[hx,hy]at h2;simp[execOp,hop,hx,hy,eqGuard,Go.binOp,hgd,h2])
               · cases h)
        · cases h
    |_=>simp[ht]at h
end
section
variable {P:Program} {V:Env} {Γ:List Ctr} {T:TypeId->TI} {st:St} {o:Oper} {R:Type} {κ:Upd->Option R} {r:R}
theorem et (g off n:Nat):(⟨g,off,none⟩:Addr).add n=⟨g,off+n,none⟩:=by
 unfold Addr.add;split <;> simp_all
theorem da {t:TypeId}{n:Nat}(h:bN P t n)(w:World):(sizeOf t).run P w=.ok n w:=by
 unfold bN at h;cases hi:P.info? t with
 |none=>simp[hi]at h
 |some i =>
  simp[hi]at h;simp[sizeOf,typeInfo,hi,h]
theorem fE {t:TypeId}{z:Value}(h:dD P t z)(w:World):(zeroValue t).run P w=.ok z w:=by
 unfold dD at h;cases hi:P.info? t with
 |none=>simp[hi]at h
 |some i =>
  simp[hi]at h;simp[zeroValue,typeInfo,hi,h]
theorem qB (hV:ax V)(hT:TOk P T)(hok:bL V o){t:TypeId}{x:Operand}{f:Nat}(hop:o.op=.fieldAddr t x f)(h:act Γ T o st κ=some r):bU P V o st κ r:=by
 simp only[act,wrU,hop]at h;cases ht:T t with
 |struct b flds =>
  simp only[ht]at h;split at h
  ·rename_i off n agg hf;have h1:=hT t;rw[ht]at h1;obtain⟨⟨fs,hu,_,hfs⟩,_⟩:=h1;obtain⟨_,fd,h2,h3,h4,h5,h6,_⟩:=hfs f off n agg hf;have run:∀ (a:Act) (w:World) (g o':Nat),a.eval x=.pointer (some ⟨g,o',none⟩)->(execOp a.eval o).run P w=.ok (.value (.pointer (some ⟨g,o'+off,none⟩))) w:=by
    intro a w g o' hv;have h7:=da h6 w;have h8:n≠0:=by omega
    simp[execOp,hop,hv,Instr.fieldAt,run_underlying hu,h2,Aq,fieldPlace,h7,h8,h3,et]
   split at h
   ·rename_i p b' y o' hx;split at h
    ·rename_i d hd;refine⟨_,h,λW a w hr=>?_⟩;obtain⟨h7,_,_,_⟩:=bu hr x (by rw[hx];simp);rw[hx]at h7;obtain⟨g,og,c,hv,hg,hrd,hc⟩:=h7;exact aO hV hr hd hok (run a w g _ hv) ⟨g,og,c,by rw[Ad],hg,hrd,hc⟩ id rfl
    ·cases h
   ·rename_i b' o' hx;split at h
    ·rename_i d hd;refine⟨_,h,λW a w hr=>?_⟩;obtain⟨h7,_,_,_⟩:=bu hr x (by rw[hx];simp);rw[hx]at h7;exact aO hV hr hd hok (run a w _ _ h7.2.2) ⟨h7.1,h7.2.1,rfl⟩ id rfl
    ·cases h
   ·rename_i r' j v i sz o' hx;cases hb:AA (st r').ver v with
    |false=>simp[hb]at h
    |true =>
     simp only[hb,cond_true]at h;split at h
     ·rename_i d hd;refine⟨_,h,λW a w hr=>?_⟩;obtain⟨h7,_,_,_⟩:=bu hr x (by rw[hx];simp);rw[hx]at h7;obtain⟨g,len,cap,hh,hil,hv⟩:=h7.2 (AB hb);exact aO hV hr hd hok (run a w g _ hv) ⟨h7.1,λ_=>⟨g,len,cap,hh,hil,by rw[Ad]⟩⟩ id rfl
     ·cases h
   ·rename_i p ks ep b' y o' hx;cases hb:br st ks ep with
    |false=>simp[hb]at h
    |true =>
     simp only[hb,cond_true]at h;split at h
     ·rename_i d hd;refine⟨_,h,λW a w hr=>?_⟩;obtain⟨h7,_,_,_⟩:=bu hr x (by rw[hx];simp);rw[hx]at h7;have h8:NpOk V W w p ks b' y o' _:=h7.2.2 (cl hb).1 (cl hb).2.1 (cl hb).2.2;obtain⟨g,og,c,hv,hg,hrd,hc⟩:=h8.rd;exact aO hV hr hd hok (run a w g _ hv) ⟨h7.1,h7.2.1,λ_ _ _=>⟨g,og,c,by rw[Ad],hg,hrd,hc⟩⟩ id rfl
     ·cases h
   ·cases h
  ·cases h
 |_=>simp[ht]at h
theorem qC (hV:ax V)(hT:TOk P T)(hok:bL V o){t:TypeId}{x i:Operand}(hop:o.op=.indexAddr t x i)(h:act Γ T o st κ=some r):bU P V o st κ r:=by
 simp only[act,wrU,hop]at h;split at h
 ·rename_i k n hi;cases ht:T t with
  |slice E e bytes =>
   simp only[ht]at h;have h1:=hT t;rw[ht]at h1;obtain⟨hu,_,_,hcp,_,ti,z,hti,hsz,_⟩:=h1;have hE:bN P E e.cells:=by simp[bN,hti,hsz]
   have run:∀ (W:Wit) (a:Act) (w:World) (g o' len cap:Nat),ao P V W st a w->0<=n->n<len->a.eval x=.slice (some ⟨g,o',none⟩) len cap ->
     (execOp a.eval o).run P w=.ok (.value (.pointer (some ⟨g,o'+n.toNat*e.cells,none⟩))) w:=by
    intro W a w g o' len cap hr h0 h1 hv;have h2:=da hE w;simp[execOp,hop,hv,bE hr hi,BF,asIntOf,run_underlying hu,h0,h1,h2,et]
   split at h
   ·rename_i r' j v hx;split at h
    ·rename_i p hh E' e' xs hd';cases hb:AA e'.cells e.cells with
     |false=>simp[hb]at h
     |true =>
      simp only[hb,cond_true]at h;have hb:=AB hb;obtain⟨y,hy,h⟩:=AJ.1 h;obtain⟨h2,h3,h4⟩:=fD hy;split at h
      ·rename_i d hd;refine⟨_,h,λW a w hr=>?_⟩;obtain⟨h7,_,_,_⟩:=bu hr x (by rw[hx];simp);rw[hx]at h7;obtain⟨h8,h9,h10,h11⟩:=jp hr hd' h7;obtain⟨_,flat,bss,ho,hbs,_⟩:=h9;rcases ho.2 with ⟨hn,h0⟩|⟨g,cap',cur,_,hv,_,_,_⟩
       ·omega
       ·refine aO hV hr hd hok (run W a w g 0 xs.length cap' hr h2 h3 hv) ⟨by omega,λ_=>⟨g,xs.length,cap',by rw[h8,hv],by omega,by simp[hb]⟩⟩ id rfl
      ·cases h
    ·cases h
   ·rename_i p E' e' xs hx;cases hb:AA e'.cells e.cells with
    |false=>simp[hb]at h
    |true =>
     simp only[hb,cond_true]at h;have hb:=AB hb;obtain⟨y,hy,h⟩:=AJ.1 h;obtain⟨h2,h3,h4⟩:=fD hy;split at h
     ·rename_i d hd;refine⟨_,h,λW a w hr=>?_⟩;obtain⟨h7,_,_,_⟩:=bu hr x (by rw[hx];simp);rw[hx]at h7;obtain⟨A,cap,hv,hcap,hrd⟩:=h7;have hv:a.eval x=.slice A xs.length cap:=by simpa using hv
      obtain⟨g,o',rfl,hg,hel⟩:=hrd (by omega);obtain⟨c,hc,hcl⟩:=hel n.toNat y h4;refine aO hV hr hd hok (run W a w g o' xs.length cap hr h2 h3 hv) ⟨g,o'+n.toNat*e'.cells,c,by rw[hb];rfl,?_,hc,hcl⟩ id rfl;rcases hg with hg|⟨_,hg⟩
      ·exact .inl hg
      ·exact .inr (hV.ro g hg)
     ·cases h
   ·rename_i p ks ep loc E' e' xs hx;cases hb:AA e'.cells e.cells&&br st ks ep with
    |false=>simp[hb]at h
    |true =>
     simp only[hb,cond_true]at h;simp only[AD]at hb;obtain⟨hb,hvk⟩:=hb;have hb:=AB hb;obtain⟨y,hy,h⟩:=AJ.1 h;obtain⟨h2,h3,h4⟩:=fD hy;split at h
     ·rename_i d hd;refine⟨_,h,λW a w hr=>?_⟩;obtain⟨h7,_,_,_⟩:=bu hr x (by rw[hx];simp);rw[hx]at h7;have h8:=oa hvk h7;obtain⟨A,cap,hv,hcap,hrd⟩:=h8.rd;have hv:a.eval x=.slice A xs.length cap:=by simpa using hv
      obtain⟨g,o',rfl,hg,hel⟩:=hrd (by omega);obtain⟨c,hc,hcl⟩:=hel n.toNat y h4;exact aO hV hr hd hok (run W a w g o' xs.length cap hr h2 h3 hv) ⟨h7.1,h7.2.1,λ_ _ _=>⟨g,o'+n.toNat*e'.cells,c,by rw[hb];rfl,hg,hc,hcl⟩⟩ id rfl
     ·cases h
   ·cases h
  |arr e len =>
   simp only[ht]at h;have h1:=hT t;rw[ht]at h1;obtain⟨⟨E,hu,hE,_⟩,_⟩:=h1;split at h
   ·rename_i b off hx;cases hb:decide (0<=n)&&decide (n<(len:Int)) with
    |false=>simp[hb]at h
    |true =>
     simp only[hb,cond_true]at h;simp only[AD,decide_eq_true_eq]at hb;split at h
     ·rename_i d hd;refine⟨_,h,λW a w hr=>?_⟩;obtain⟨h7,_,_,_⟩:=bu hr x (by rw[hx];simp);rw[hx]at h7;refine aO hV hr hd hok (v:=.pointer (some ⟨W.β b,off+n.toNat*e.cells,none⟩)) ?_ ⟨h7.1,h7.2.1,rfl⟩ id rfl;have h2:=da hE w;simp[execOp,hop,h7.2.2,bE hr hi,BF,Aq,asIntOf,run_underlying hu,hb.1,hb.2,h2,et]
     ·cases h
   ·cases h
  |_=>simp[ht]at h
 ·cases h
theorem u5 {t:TypeId}{i:TI}(hi:ni P t i)(hn:i.cells≠0\/i≠.none)(w:World):(isAgg t).run P w=.ok i.agg w:=by
 cases i with
 |none=>simp[TI.cells]at hn
 |struct a flds =>
  obtain⟨⟨fs,hu,_⟩,_⟩:=hi;simp[isAgg,run_underlying hu,TI.agg]
 |arr e n=>obtain⟨⟨E,hu,_⟩,_⟩:=hi;simp[isAgg,run_underlying hu,TI.agg]
 |ptr=>obtain⟨⟨e,hu⟩,_⟩:=hi;simp[isAgg,run_underlying hu,TI.agg]
 |fn=>obtain⟨⟨x,y,z,hu⟩,_⟩:=hi;simp[isAgg,run_underlying hu,TI.agg]
 |int k=>simp[isAgg,run_underlying hi.1,TI.agg]
 |bool=>simp[isAgg,run_underlying hi.1,TI.agg]
 |str=>simp[isAgg,run_underlying hi.1,TI.agg]
 |slice E e b=>simp[isAgg,run_underlying hi.1,TI.agg]
theorem nk {t:TypeId}{i:TI}(hi:ni P t i)(hn:i≠.none):bN P t i.cells:=by
 cases i with
 |none=>exact absurd rfl hn
 |struct a flds=>exact hi.2.1
 |arr e n=>exact hi.2.2.1
 |ptr=>exact hi.2.1
 |fn=>exact hi.2.1
 |int k=>exact hi.2.1
 |bool=>exact hi.2.1
 |str=>exact hi.2.1
 |slice E e b=>exact hi.2.1
theorem lJ {W:Wit}{a:Act}{w:World}(hr:ao P V W st a w){e:Ty}:∀ (n:Nat) (ls:List Leaf) (cs:List Value) (xs:List e.den),aC P V W st w ls cs->eU st e n ls=some xs ->
  xs.length=n/\∀ (i:Nat) (x:e.den),xs[i]?=some x->∃ G,Rd w G e x ((cs.drop (i*e.cells)).take e.cells)
 |0,ls,cs,xs,_,h=>by
  simp only[eU,AE]at h;subst h;exact⟨rfl,λi x hx=>by simp at hx⟩
 |n+1,ls,cs,xs,hl,h=>by
  simp only[eU]at h;split at h
  ·rename_i p x ys h1 h2;simp only[AE]at h;subst h;obtain⟨h3,h4⟩:=lJ hr n _ _ _ (hl.drop e.cells) h2;refine⟨by simp[h3],λi y hy=>?_⟩;cases i with
   |zero =>
    simp only[List.getElem?_cons_zero,AE]at hy;subst hy;exact⟨_,by simpa using dX hr (hl.take e.cells) h1⟩
   |succ i =>
    obtain⟨G,h5⟩:=h4 i y (by simpa using hy);rw[BD]at h5;exact⟨G,by rwa [show (i+1)*e.cells=e.cells+i*e.cells by rw[Ar,BA,Nat.add_comm]]⟩
  ·cases h
theorem u6 (hV:ax V)(hT:TOk P T)(hok:bL V o){t:TypeId}{x i:Operand}(hop:o.op=.index t x i)(h:act Γ T o st κ=some r):bU P V o st κ r:=by
 simp only[act,wrU,hop]at h;split at h
 ·rename_i k n hi;cases hs:T t with
  |str =>
   simp only[hs]at h;split at h
   ·rename_i s hx;obtain⟨y,hy,h⟩:=AJ.1 h;split at h
    ·rename_i d hd;refine⟨_,h,λW a w hr=>aO hV hr hd hok (v:=.int .u8 (y.toNat:Int)) ?_ rfl id rfl⟩;have h1:=hT t;rw[hs]at h1;obtain⟨h2,h3,h4⟩:=fD hy;have h5:s[n.toNat]?=some y:=by
      have h6:=(AC.1 h4);obtain⟨h7,h8⟩:=h6;have h9:n.toNat<s.size:=by rw[Array.length_toList]at h7;exact h7
      rw[getElem?_pos s n.toNat h9];congr 1
     simp[execOp,hop,bE hr hi,gM hr hx,BB,asIntOf,run_underlying h1.1,h2,h5]
    ·cases h
   ·cases h
  |arr e len =>
   simp only[hs]at h;have h1:=hT t;rw[hs]at h1;obtain⟨⟨E,hu,hE,hEa⟩,hpos,_⟩:=h1;cases hb:e.flat&&decide ((ar st x).1=.agg)&&AA (ar st x).2.length (len*e.cells)&&!AA e.cells 0 with
   |false=>simp[hb]at h
   |true =>
    simp only[hb,cond_true]at h;simp only[AD,decide_eq_true_eq]at hb;obtain⟨⟨⟨hf,hsh⟩,hlen⟩,_⟩:=hb;have hlen:=AB hlen;split at h
    ·rename_i vs hg;obtain⟨y,hy,h⟩:=AJ.1 h;split at h
     ·rename_i d hd;refine⟨_,h,λW a w hr=>?_⟩;obtain⟨cs,hsx,hl⟩:=cH hr x;rw[hsh]at hsx;have hsx:a.eval x=.agg cs.toArray:=hsx;obtain⟨h2,h3,h4⟩:=fD hy;obtain⟨h5,h6⟩:=lJ hr len _ _ _ hl hg;obtain⟨G,h7⟩:=h6 n.toNat y h4;have h8:Rd w (λ_=>False) e y ((cs.drop (n.toNat*e.cells)).take e.cells):=Rd.flat hf h7;have h9:=h8.len;have hag:(isAgg E).run P w=.ok e.isAgg w:=by
       cases hue:P.underlying E with
       |none=>simp[hue]at hEa
       |some u =>
        simp only[hue,BC,AE]at hEa;rw[<- hEa];cases u <;> simp[isAgg,run_underlying hue]
      have hsz:=da hE w;have hll:=hl.length;have hn:n<(len:Int):=by omega
      have hcs:n.toNat*e.cells+e.cells<=cs.length:=by
       have:=At e.cells (show n.toNat+1<=len by omega);rw[Ar,BA]at this;omega
      cases hag':e.isAgg with
      |true =>
       have:=dB hV hr hd hok (v:=.agg ((cs.drop (n.toNat*e.cells)).take e.cells).toArray) (sh:=.agg) (ls:=cz false e y) ?_ rfl (er (λ_ h=>h.elim) h8)
       ·exact this
       ·rw[hag']at hag;have he:(cs.toArray.extract (n.toNat*e.cells) (n.toNat*e.cells+e.cells))=((cs.drop (n.toNat*e.cells)).take e.cells).toArray:=by
         simp[Au,Ah]
        simp[execOp,hop,bE hr hi,hsx,BB,asIntOf,run_underlying hu,h2,hn,part,hag,hsz,he]
      |false =>
       have he1:e.cells=1:=by cases e <;> first|rfl|simp[Ty.isAgg]at hag'
       rw[he1]at h8 h9
       match hc:(cs.drop (n.toNat*1)).take 1,h9 with
       |[v],_ =>
        rw[hc]at h8;have:=dB hV hr hd hok (v:=v) (sh:=.one) (ls:=cz false e y) (cs:=[v]) ?_ rfl (er (λ_ h=>h.elim) h8)
        ·exact this
        ·rw[hag']at hag;have hv:cs[n.toNat]?=some v:=by
          have:((cs.drop (n.toNat*1)).take 1)[0]?=some v:=by rw[hc];rfl
          simpa using this
         simp[execOp,hop,bE hr hi,hsx,BB,asIntOf,run_underlying hu,h2,hn,part,hag,hsz,he1,hv]
     ·cases h
    ·cases h
  |_=>simp[hs]at h
 ·cases h
theorem mN {t:TypeId}{i:TI}(hi:ni P t i)(hn:i≠.none){w:World}{g off:Nat}{cs:List Value}(hc:cJ w g off cs)(hl:cs.length=i.cells) :
  ∃ v,(loadVar t ⟨g,off,none⟩).run P w=.ok v w/\dJ (bj i.agg) v cs:=by
 have h1:=u5 hi (.inr hn) w;cases ha:i.agg with
 |true =>
  refine⟨.agg cs.toArray,?_,rfl⟩;have h2:=da (nk hi hn) w;have h3:=run_loadCells_list (P:=P) w ⟨g,off,none⟩ cs (λj v hv=>by rw[et];exact hc j v hv);rw[hl]at h3;simp[loadVar,h1,ha,h2,h3]
 |false =>
  have hone:i.cells=1:=by cases i <;> simp_all [TI.agg,TI.cells]
  rw[hone]at hl
  match cs,hl with
  |[v],_ =>
   have:=hc 0 v rfl;rw[Nat.add_zero]at this;exact⟨v,by simp[loadVar,h1,ha,this],rfl⟩
theorem cJ.sub {w:World}{g off:Nat}{cs:List Value}(h:cJ w g off cs)(k n:Nat):cJ w g (off+k) ((cs.drop k).take n):=by
 intro i v hv;rw[AP]at hv;split at hv
 ·rw[Af]at hv;have:=h (k+i) v hv
  rwa [<- Ad]at this
 ·cases hv
theorem Mx.deep {w:World}{G G':Nat->Prop}:∀ {a:Ty} {h:Option Nat} {pos:Nat} {x:a.den} {cs:List Value} {bs:List Nat},a.shy=false->Mx w G a h pos x cs bs->Mx w G' a h pos x cs bs
 |.int _,_,_,_,_,_,_,h=>h
 |.bool,_,_,_,_,_,_,h=>h
 |.str,_,_,_,_,_,_,h=>h
 |.unit,_,_,_,_,_,_,h=>h
 |.hdr,_,_,_,_,_,_,h=>h
 |.pair _ _,_,_,_,_,_,hs,⟨c1,c2,b1,b2,e1,e2,h1,h2⟩=>by
  simp only[Ty.shy,Av]at hs;exact⟨c1,c2,b1,b2,e1,e2,Mx.deep hs.1 h1,Mx.deep hs.2 h2⟩
 |.list m E e,h,pos,xs,cs,bs,hs,H=>by
  simp only[Ty.shy,Av,Bool.not_eq_false']at hs;obtain⟨rfl,hs⟩:=hs;by_cases hp:h=some pos
  ·subst hp;rw[ii]at H ⊢;exact H
  ·rw[cd hp]at H ⊢;obtain⟨v,e1,flat,bss,h1,h2,h3⟩:=H;refine⟨v,e1,flat,bss,h1,h2,λj x hj=>?_⟩;obtain⟨c,h4,h5⟩:=h3 j x hj;exact⟨c,Mx.deep hs h4,h5⟩
theorem OwB.shy {W:Wit}{w:World}{p:Bool}{h:Option (Nat×Nat)}{E:TypeId}{e:Ty}{xs:List e.den}{v:Value}{bs:List Nat}(H:OwB w (gd V W p) h E e xs v bs):OwB w (gd V W (p&&e.shy)) h E e xs v bs:=by
 cases hs:e.shy with
 |true=>simpa using H
 |false =>
  obtain⟨flat,bss,h1,h2,h3⟩:=H;refine⟨flat,bss,h1,h2,λj x hj=>?_⟩;obtain⟨c,h4,h5⟩:=h3 j x hj;exact⟨c,Mx.deep hs h4,h5⟩
theorem ik (p:Bool)(r j v ep i sz:Nat)(h:Option Nat):∀ (a:Ty) (off:Nat) (x:a.den),(fP p r j v ep i sz h a off x).length=a.cells
 |.int _,_,_=>rfl
 |.bool,_,_=>rfl
 |.str,_,_=>rfl
 |.unit,_,_=>rfl
 |.hdr,_,_=>rfl
 |.pair a b,off,x=>by simp[fP,Ty.cells,ik p r j v ep i sz h a,ik p r j v ep i sz h b]
 |.list _ _ _,_,_=>rfl
theorem kV {W:Wit}{w:World}{p:Bool}{r j g len cap i sz:Nat}(hcs:(W.cs r)[j]?=some (.slice (some ⟨g,0,none⟩) len cap))(hil:i<len)(hg:g∈W.bs r j){hol:Option Nat} :
  ∀ {a:Ty} {pos:Nat} {x:a.den} {cs:List Value} {bs:List Nat},(∀ k∈bs,k∈W.bs r j)->Mx w (gd V W p) a hol pos x cs bs->cJ w g (i*sz+pos) cs->aC P V W st w (fP p r j (st r).ver (st EPO).ver i sz hol a pos x) cs
 |.int _,_,_,_,_,_,h,_=>by rw[h.1];exact⟨⟨rfl,id,rfl⟩,trivial⟩
 |.bool,_,_,_,_,_,h,_=>by rw[h.1];exact⟨⟨rfl,id,rfl⟩,trivial⟩
 |.str,_,_,_,_,_,h,_=>by rw[h.1];exact⟨⟨rfl,id,rfl⟩,trivial⟩
 |.unit,_,_,_,_,_,h,_=>by rw[h.1];trivial
 |.hdr,_,_,_,_,_,⟨⟨A,cap,e⟩,_⟩,_=>by rw[e];exact⟨⟨⟨A,cap,rfl⟩,id,rfl⟩,trivial⟩
 |.pair a b,pos,x,cs,bs,hb,⟨c1,c2,b1,b2,e1,e2,h1,h2⟩,hc=>by
  subst e1;have hl:=h1.len;refine aC.append (kV hcs hil hg (λk hk=>hb k (by rw[e2];exact AH _ hk)) h1 λq u hu=>hc q u ?_)
   (kV hcs hil hg (λk hk=>hb k (by rw[e2];exact AF _ hk)) h2 λq u hu=>?_)
  ·rw[AV (AC.1 hu).1];exact hu
  ·have:=hc (a.cells+q) u (by rw[<- hl,AT (by omega)];simpa using hu)
   rwa [show i*sz+(pos+a.cells)+q=i*sz+pos+(a.cells+q) by omega]
 |.list m E e,pos,xs,cs,bs,hb,H,hc=>by
  have hone:=H.one;simp only[fP];by_cases hp:hol=some pos
  ·have e0:decide (hol=some pos)=true:=decide_eq_true hp;rw[e0];obtain⟨v,rfl,_⟩:=H;exact⟨⟨trivial,id,hone v (by simp)⟩,trivial⟩
  ·have e0:decide (hol=some pos)=false:=decide_eq_false hp;rw[e0];cases m with
   |false =>
    rw[cn]at H;obtain⟨A,cap,rfl,h2,h3⟩:=H.2;exact⟨⟨⟨A,cap,rfl,h2,h3⟩,id,rfl⟩,trivial⟩
   |true =>
    rw[cd hp]at H;obtain⟨v,rfl,hO⟩:=H;have h1:=hc 0 v rfl;refine⟨⟨⟨AI _,λk hk=>?_,λ_ _ _=>⟨?_,λi' sz' off' he=>?_⟩⟩,id,hone v (by simp)⟩,trivial⟩
    ·simp only[Ag]at hk;subst hk;exact AI _
    ·obtain⟨flat,bss,h4,h5,h6⟩:=OwB.shy hO;refine q9 h4 (λk hk=>.inr ⟨_,AY _,hb k (by rw[h5];exact AH _ hk)⟩) λq x hq=>?_
     obtain⟨c,h7,h8⟩:=h6 q x hq;have h7:Mx w (gd V W (p&&e.shy)) e none 0 x c (bss q):=h7;exact⟨c,h7.rd (λk hk=>.inl hk) (λk hk=>.inr ⟨_,AY _,hb k (by rw[h5];exact AF _ (dz.2 ⟨q,(AC.1 hq).1,hk⟩))⟩),h8⟩
    ·simp only[AE,A0]at he;obtain⟨rfl,rfl,rfl⟩:=he;exact⟨r,j,_,rfl,g,len,cap,hcs,hil,hg,h1⟩
theorem iZ {W:Wit}{w:World}{p:Bool}{ks:List (Nat×Nat×Nat)}{ep:Nat}(hep:ep<=(st EPO).ver)(hks:∀ k∈ks,k.2.2<=(st k.1).ver) :
  ∀ {a:Ty} {x:a.den} {cs:List Value},Rd w (λb=>gd V W p b\/∃ k∈ks,b∈W.bs k.1 k.2.1) a x cs->aC P V W st w (ko p ks ep a x) cs
 |.int _,_,_,h=>by rw[show _=_ from h];exact⟨⟨rfl,id,rfl⟩,trivial⟩
 |.bool,_,_,h=>by rw[show _=_ from h];exact⟨⟨rfl,id,rfl⟩,trivial⟩
 |.str,_,_,h=>by rw[show _=_ from h];exact⟨⟨rfl,id,rfl⟩,trivial⟩
 |.unit,_,_,h=>by rw[show _=_ from h];trivial
 |.hdr,_,_,⟨A,cap,e⟩=>by rw[e];exact⟨⟨⟨A,cap,rfl⟩,id,rfl⟩,trivial⟩
 |.pair _ _,_,_,⟨c1,c2,e,h1,h2⟩=>by rw[e];exact (iZ hep hks h1).append (iZ hep hks h2)
 |.list m E e,xs,_,h=>by
  obtain⟨A,cap,rfl,h2,h3⟩:=h;exact⟨⟨⟨hep,hks,λ_ _ _=>⟨⟨A,cap,rfl,h2,h3⟩,λi sz off he=>by cases he⟩⟩,id,rfl⟩,trivial⟩
theorem xM {W:Wit}{a:Act}{w:World}(hr:ao P V W st a w){r j n g len cap i:Nat}{p:Bool}{hh:Option (Nat×Nat)}{E:TypeId}{e:Ty}{xs:List e.den}{y:e.den}(h8:(st r).ver=n)(h9:(st r).ls[j]?=some (.own p hh E e xs))
  (hcs:(W.cs r)[j]?=some (.slice (some ⟨g,0,none⟩) len cap)) (hil:i<len) (hy:xs[i]?=some y) :
  ∃ c,cJ w g (i*e.cells) c/\aC P V W st w (fP p r j n (st EPO).ver i e.cells (cB hh i) e 0 y) c:=by
 subst h8;obtain⟨_,flat,bss,ho,hbs,hel⟩:=hr.leaf r j _ _ h9 hcs;obtain⟨c,h1,h2⟩:=hel i y hy;have hlen:=h1.len;have hi:i<xs.length:=(AC.1 hy).1;have hlen2:len=xs.length:=by
  obtain⟨A,cap',e0,_⟩:=ho.slice;simp only[Value.slice.injEq]at e0;exact e0.2.1
 subst hlen2;have hc:cJ w g (i*e.cells) c:=by
  intro q u hu;have hq:=(AC.1 hu).1;rw[ho.cellAt _ (by
   have:i*e.cells+e.cells<=xs.length*e.cells:=by
    have:=At e.cells (show i+1<=xs.length from hi)
    rwa [Ar,BA]at this
   omega)]
  exact h2 q u hu
 refine⟨c,hc,kV hcs hil (by rw[hbs];simp[AZ]) (λk hk=>?_) h1 hc⟩;rw[hbs];exact AF _ (dz.2 ⟨i,hi,hk⟩)
theorem wx (hV:ax V)(hT:TOk P T)(hok:bL V o){t:TypeId}{x:Operand}(hop:o.op=.load t x)(h:act Γ T o st κ=some r):bU P V o st κ r:=by
 simp only[act,wrU,hop,kQ]at h;have hti:=hT t;have run:∀ (W:Wit) (a:Act) (w:World) (g off:Nat) (cs:List Value) (ls:List Leaf) (d:Nat),ao P V W st a w->o.dst=some d->T t≠.none->a.eval x=.pointer (some ⟨g,off,none⟩)->cJ w g off cs ->
   cs.length=(T t).cells->aC P V W st w ls cs->lH P V o st (cj st [] d (bj (T t).agg) ls) a w:=by
  intro W a w g off cs ls d hr hd hn hv hc hl hls;obtain⟨v,h1,h2⟩:=mN hti hn hc hl;exact dB hV hr hd hok (v:=v) (by simp[execOp,hop,hv,Instr.loadAt,Aq,h1]) h2 hls
 cases hne:decide ((T t).cells=0) with
 |true=>simp[hne]at h
 |false =>
  simp only[hne,cond_false]at h;have hne:(T t).cells≠0:=of_decide_eq_false hne;have hnn:T t≠.none:=by intro e;rw[e]at hne;exact hne rfl
  split at h
  ·rename_i p b y off hx;cases hb:decide (off+(T t).cells<=b.cells) with
   |false=>simp[hb]at h
   |true =>
    simp only[hb,cond_true]at h;have hb:=of_decide_eq_true hb;split at h
    ·rename_i d hd;refine⟨_,h,λW a w hr=>?_⟩;obtain⟨h7,_,_,_⟩:=bu hr x (by rw[hx];simp);rw[hx]at h7;obtain⟨g,og,c,hv,hg,hrd,hc⟩:=h7;refine run W a w g _ ((c.drop off).take (T t).cells) _ d hr hd hnn hv (hc.sub off _) ?_ (((er (λ_ h=>h) hrd).drop off).take _);have:=hrd.len;simp;omega
    ·cases h
  ·rename_i b off hx;cases hb:decide ((st b).sh=.agg)&&decide (off+(T t).cells<=(st b).ls.length) with
   |false=>simp[hb]at h
   |true =>
    simp only[hb,cond_true]at h;simp only[AD,decide_eq_true_eq]at hb;split at h
    ·rename_i d hd;refine⟨_,h,λW a w hr=>?_⟩;obtain⟨h7,_,_,_⟩:=bu hr x (by rw[hx];simp);rw[hx]at h7;obtain⟨hB,hag,hv⟩:=h7;rcases hr.boxes b hB with ⟨h8,_⟩|⟨_,E,h8⟩
     ·rw[hag]at h8;cases h8
     ·have hc:cJ w (W.β b) 0 (W.cs b):=λi v hv=>by
       rw[A3,cell_of_row w (W.β b) i _ E (0,0) h8];simpa using hv
      have hlen:=hr.len b;have hc2:=hc.sub off (T t).cells;rw[A3]at hc2;refine run W a w (W.β b) off _ _ d hr hd hnn hv hc2 ?_ (((gL hr b).drop off).take _);simp;omega
    ·cases h
  ·rename_i p b y hx;cases hb:AA (T t).cells 1&&!(T t).agg with
   |false=>simp[hb]at h
   |true =>
    simp only[hb,cond_true]at h;simp only[AD,Aj]at hb;split at h
    ·rename_i d hd;refine⟨_,h,λW a w hr=>?_⟩;obtain⟨h7,_,_,_⟩:=bu hr x (by rw[hx];simp);rw[hx]at h7;obtain⟨q,oq,g,og,c,hv,_,hcell,hg,hrd,hc⟩:=h7;have:=run W a w q oq [.pointer (some ⟨g,og,none⟩)] [.rp p b y 0] d hr hd hnn hv (λi v hi=>by
      cases i with
      |zero=>simp at hi;subst hi;exact hcell
      |succ i=>simp at hi) (by simp[AB hb.1]) ⟨⟨⟨g,og,c,rfl,hg,hrd,hc⟩,id,rfl⟩,trivial⟩
     rw[hb.2]at this;exact this
    ·cases h
  ·rename_i p ks ep b y off hx;cases hb:br st ks ep&&decide (off+(T t).cells<=b.cells) with
   |false=>simp[hb]at h
   |true =>
    simp only[hb,cond_true]at h;simp only[AD,decide_eq_true_eq]at hb;split at h
    ·rename_i d hd;refine⟨_,h,λW a w hr=>?_⟩;obtain⟨h7,_,_,_⟩:=bu hr x (by rw[hx];simp);rw[hx]at h7;have h8:NpOk V W w p ks b y off _:=h7.2.2 (cl hb.1).1 (cl hb.1).2.1 (cl hb.1).2.2;obtain⟨g,og,c,hv,hg,hrd,hc⟩:=h8.rd;refine run W a w g _ ((c.drop off).take (T t).cells) _ d hr hd hnn hv (hc.sub off _) ?_ (((iZ h7.1 h7.2.1 hrd).drop off).take _);have:=hrd.len;simp;omega
    ·cases h
  ·rename_i r' j v i sz off hx;split at h
   ·rename_i p hh E e xs hd';cases hb:AA sz e.cells&&decide (off+(T t).cells<=e.cells) with
    |false=>simp[hb]at h
    |true =>
     simp only[hb,cond_true]at h;simp only[AD,decide_eq_true_eq]at hb;have hsz:=AB hb.1;subst hsz;obtain⟨y,hy,h⟩:=AJ.1 h;obtain⟨_,_,h4⟩:=fD hy;simp only[Int.toNat_natCast]at h4;split at h
     ·rename_i d hd;refine⟨_,h,λW a w hr=>?_⟩;obtain⟨h7,_,_,_⟩:=bu hr x (by rw[hx];simp);rw[hx]at h7;obtain⟨h8,h9⟩:=eC hd' (by simp);obtain⟨g,len,cap,hcs,hil,hv⟩:=h7.2 h8;obtain⟨c,hc,hls⟩:=xM hr h8 h9 hcs hil h4;refine run W a w g _ _ _ d hr hd hnn hv (hc.sub off _) ?_ ((hls.drop off).take _);have:=hls.length;rw[ik]at this;simp;omega
     ·cases h
   ·cases h
  ·cases h
end
section
variable {P:Program} {V:Env} {Γ:List Ctr} {T:TypeId->TI} {st:St} {o:Oper} {R:Type} {κ:Upd->Option R} {r:R}
theorem u7 (hV:ax V)(hT:TOk P T)(hok:bL V o){t:TypeId}{x:Operand}{f:Nat}(hop:o.op=.field t x f)(h:act Γ T o st κ=some r):bU P V o st κ r:=by
 simp only[act,wrU,hop]at h;cases ht:T t with
 |struct b flds =>
  simp only[ht]at h;split at h
  ·rename_i off n agg hf;have h1:=hT t;rw[ht]at h1;obtain⟨⟨fs,hu,_,hfs⟩,_⟩:=h1;obtain⟨hn1,fd,h2,h3,h4,h5,h6,h7⟩:=hfs f off n agg hf;cases hb:decide ((ar st x).1=.agg)&&decide ((ar st x).2.length=b.cells) with
   |false=>simp[hb]at h
   |true =>
    simp only[hb,cond_true]at h;simp only[AD,decide_eq_true_eq]at hb;split at h
    ·rename_i d hd;refine⟨_,h,λW a w hr=>?_⟩;obtain⟨cs,hs,hl⟩:=cH hr x;rw[hb.1]at hs;have hlen:=hl.length;rw[hb.2]at hlen;have hagg:(isAgg fd.type).run P w=.ok agg w:=by
      unfold isAgg;cases hd':P.underlying fd.type with
      |none=>simp[hd']at h7
      |some dd =>
       rw[hd']at h7;simp only[BC,AE]at h7;subst h7;rw[AQ,run_underlying hd' w];cases dd <;> rfl
     have hsz:=da h6 w;cases agg with
     |true =>
      refine dB hV hr hd hok (v:=.agg ((cs.drop off).take n).toArray) ?_ rfl ((hl.drop off).take n);have e:cs.toArray.extract off (off+n)=((cs.drop off).take n).toArray:=by
       rw[Au,Ah,Nat.add_sub_cancel_left]
      have hp:(part fd.type cs.toArray off).run P w=.ok (.agg ((cs.drop off).take n).toArray) w:=by
       simp only[part,AQ,hagg,AM,if_true,hsz,AU,e]
      simp only[execOp,hop,show a.eval x=_ from hs,BJ,AQ,run_underlying hu,AM,h2,asAgg,AU,h3,hp]
     |false =>
      have hn1:=hn1 rfl;subst hn1;have hoff:off<cs.length:=by omega
      have hv:((cs.drop off).take 1)=[cs[off]]:=by
       rw[List.take_one,List.head?_drop,AG hoff];rfl
      refine dB hV hr hd hok (v:=cs[off]) ?_ (show dJ .one _ ((cs.drop off).take 1) from hv) ((hl.drop off).take 1);have e:cs.toArray[off]?=some cs[off]:=by simp[hoff]
      have hp:(part fd.type cs.toArray off).run P w=.ok cs[off] w:=by
       simp only[part,AQ,hagg,AM,Bool.false_eq_true,if_false,e,AU]
      simp only[execOp,hop,show a.eval x=_ from hs,BJ,AQ,run_underlying hu,AM,h2,asAgg,AU,h3,hp]
    ·cases h
  ·cases h
 |_=>simp[ht]at h
theorem yL {α:Type}(old new:List α)(off:Nat)(h:off+new.length<=old.length):(old.take off++new++old.drop (off+new.length)).length=old.length:=by
 simp;omega
theorem j9 (cs c:List Value)(off:Nat)(h:off+c.length<=cs.length) :
  (c.zipIdx 0).foldl (λcs (x:Value×Nat)=>cs.setIfInBounds (off+x.2) x.1) cs.toArray=(cs.take off++c++cs.drop (off+c.length)).toArray:=by
 obtain⟨h1,h2⟩:=Great.foldl_set off c 0 cs.toArray;apply Array.ext_getElem?;intro k;rw[h2 k];simp only[Nat.add_zero,List.size_toArray,List.getElem?_toArray];by_cases hk:off<=k/\k<off+c.length/\k<cs.length
 ·rw[if_pos hk,Aa,AT (by simp;omega),AV (by simp;omega)];congr 1;simp;omega
 ·rw[if_neg hk];by_cases hlt:k<off
  ·rw[Aa,AV (by simp;omega),AP,if_pos hlt]
  ·rw[AT (by simp;omega),Af];congr 1;simp;omega
theorem gj {agg:Bool}{v:Value}{cs:List Value}(h:dJ (bj agg) v cs)(h1:∀ u∈cs,u.oneCell'=true):v.cells=cs.toArray:=by
 cases agg with
 |true=>rw[show v=_ from h];rfl
 |false =>
  have h:cs=[v]:=h;subst h;have:=h1 v (Ag.2 rfl);cases v <;> first|rfl|simp[AK]at this
theorem kW {W:Wit}{a:Act}{w:World}(hr:ao P V W st a w){flds:List (Nat×Nat×Bool)}{pl:Nat->Option (Nat×Nat)}(hpl:∀ (i off n:Nat) (agg:Bool),flds[i]?=some (off,n,agg)->pl i=some (off,n)):∀ (ps:List (Nat×Operand)) (ls ls':List Leaf) (cs:List Value),
  aC P V W st w ls cs->eK st flds ps ls=some ls' ->
  ∃ cs',aC P V W st w ls' cs'/\Instr.fill pl cs.toArray (ps.map λx=>(x.1,a.eval x.2))=some cs'.toArray
 |[],ls,ls',cs,hl,h=>by
  simp[eK]at h;subst h;exact⟨cs,hl,rfl⟩
 |(i,x)::ps,ls,ls',cs,hl,h=>by
  simp only[eK]at h;split at h
  ·rename_i off n agg hf;cases hb:AA (ar st x).2.length n&&decide ((ar st x).1=bj agg)&&decide (off+n<=ls.length) with
   |false=>simp[hb]at h
   |true =>
    simp only[hb,cond_true]at h;simp only[AD,decide_eq_true_eq]at hb;obtain⟨⟨hb1,hb2⟩,hb3⟩:=hb;have hb1:=AB hb1;obtain⟨c,hs,hl2⟩:=cH hr x;rw[hb2]at hs;have hc:=gj hs hl2.one';have hlen:=hl.length;have hlen2:=hl2.length;have hsp:aC P V W st w (iG ls (ar st x).2 off) (cs.take off++c++cs.drop (off+c.length)):=by
     unfold iG;rw[hlen2];exact ((hl.take off).append hl2).append (hl.drop _)
    obtain⟨cs',h1,h2⟩:=kW hr hpl ps _ ls' _ hsp h;refine⟨cs',h1,?_⟩;simp only[BE,Instr.fill];have hfd:pl i=some (off,n):=hpl _ _ _ _ hf;have hcs:c.toArray.size=n:=by simp;omega
    simp only[hfd,hc];rw[if_neg (by simp;omega)];have e:c.toArray.zipIdx.foldl (λcs (x:Value×Nat)=>cs.setIfInBounds (off+x.2) x.1) cs.toArray=(c.zipIdx 0).foldl (λcs (x:Value×Nat)=>cs.setIfInBounds (off+x.2) x.1) cs.toArray:=by
     rw[<- Array.foldl_toList];simp
    have e2:=j9 cs c off (by omega);rw[<- e2,<- e]at h2;exact h2
  ·cases h
theorem ky {W:Wit}{w:World}:∀ (b:Ty),aC P V W st w (el b) (zeroCells b)
 |.int _=>⟨⟨rfl,id,rfl⟩,trivial⟩
 |.bool=>⟨⟨rfl,id,rfl⟩,trivial⟩
 |.str=>⟨⟨rfl,id,rfl⟩,trivial⟩
 |.unit=>trivial
 |.pair a b=>(ky a).append (ky b)
 |.hdr=>⟨⟨rfl,id,rfl⟩,trivial⟩
 |.list _ _ _=>⟨⟨rfl,id,rfl⟩,trivial⟩
theorem nl {W:Wit}{w:World}(e:Ty):∀ (n:Nat),aC P V W st w (AR n (el e)).flatten (AR n (zeroCells e)).flatten
 |0=>trivial
 |n+1=>by
  rw[Ay,Ay,A5,A5];exact (ky e).append (nl e n)
theorem u9 (hV:ax V)(hT:TOk P T)(hok:bL V o){t:TypeId}{parts:Array (Nat×Operand)}(hop:o.op=.build t parts)(h:act Γ T o st κ=some r):bU P V o st κ r:=by
 simp only[act,wrU,hop]at h;cases ht:T t with
 |struct b flds =>
  simp only[ht]at h;split at h
  ·rename_i ls hls;split at h
   ·rename_i d hd;refine⟨_,h,λW a w hr=>?_⟩;have h1:=hT t;rw[ht]at h1;obtain⟨⟨fs,hu,hpl,_⟩,_,hz,_⟩:=h1;obtain⟨cs',h2,h3⟩:=kW hr (pl:=((flds.map λx=>(x.1,x.2.1)).toArray[·]?)) (λi off n agg hf=>by simp[hf]) parts.toList _ ls _ (ky b) hls;refine dB hV hr hd hok (v:=.agg cs'.toArray) ?_ rfl h2;have hbuilt:P.built t (parts.map λ (i,x)=>(i,a.eval x)).toList=some cs'.toArray:=by
     unfold dD at hz;unfold BG;cases hi:P.info? t with
     |none=>simp[hi]at hz
     |some ti =>
      simp[hi]at hz;simp only[hu,hz,hpl];rw[An];exact h3
    simp[execOp,hop,run_build w t _ _ hbuilt]
   ·cases h
  ·cases h
 |arr e n =>
  simp only[ht]at h;split at h
  ·rename_i ls hls;split at h
   ·rename_i d hd;refine⟨_,h,λW a w hr=>?_⟩;have h1:=hT t;rw[ht]at h1;obtain⟨⟨E,hu,hE,_⟩,_,_,hz⟩:=h1;obtain⟨cs',h2,h3⟩:=kW hr (pl:=λi=>some (i*e.cells,e.cells)) (λi off n agg hf=>by
     rw[A4]at hf;obtain⟨j,hj,hf⟩:=AO.1 hf;rw[List.getElem?_range (by simpa using (AC.1 hj).1)]at hj;simp only[AE]at hj;subst hj;simp only[A0]at hf;simp[<- hf.1,<- hf.2.1]) parts.toList _ ls _ (nl e n) hls
    refine dB hV hr hd hok (v:=.agg cs'.toArray) ?_ rfl h2;have hbuilt:P.built t (parts.map λ (i,x)=>(i,a.eval x)).toList=some cs'.toArray:=by
     unfold dD at hz;unfold bN at hE;unfold BG;cases hi:P.info? t with
     |none=>simp[hi]at hz
     |some ti =>
      simp[hi]at hz;cases hie:P.info? E with
      |none=>simp[hie]at hE
      |some ie =>
       simp[hie]at hE;simp only[hu,hz,hie,hE];rw[An];exact h3
    simp[execOp,hop,run_build w t _ _ hbuilt]
   ·cases h
  ·cases h
 |_=>simp[ht]at h
theorem lK {W:Wit}{a:Act}{w:World}(hr:ao P V W st a w){x:Option Operand}{dflt n:Int}(h:cW st x dflt=some n) :
  (x=none/\n=dflt)\/∃ y k,x=some y/\a.eval y=.int k n:=by
 unfold cW at h;split at h
 ·simp at h;exact .inl ⟨rfl,h.symm⟩
 ·split at h
  ·rename_i l k m hl;simp at h;subst h;exact .inr ⟨_,k,rfl,bE hr hl⟩
  ·cases h
theorem i8 (isSlice:Bool)(len cap:Nat)(hlc:len<=cap)(lo hi:Option Value)(i h:Int)(hi0:0<=i)(hih:i<=h)(hh:h<=len)(hlo:(lo=none/\i=0)\/∃ k,lo=some (.int k i))
  (hhi:(hi=none/\h=len)\/∃ k,hi=some (.int k h)) (w:World):(A6 isSlice len cap lo hi none).run P w=.ok (i.toNat,h.toNat,cap) w:=by
 have h0:0<=h:=by omega
 have hc:h<=(cap:Int):=by omega
 have hih':i<=((h.toNat:Nat):Int):=by omega
 rcases hlo with ⟨rfl,rfl⟩|⟨k,rfl⟩ <;> rcases hhi with ⟨rfl,rfl⟩|⟨k',rfl⟩ <;>
  simp[A6,Instr.sliceBound,asIntOf,hi0,h0,hc,hih',hih,-Int.ofNat_toNat]
theorem iA (hV:ax V){W:Wit}{a:Act}{w:World}(hr:ao P V W st a w){x:Operand}{l:Leaf}(hx:aD st (one st x)=l)(hd:l≠.dead)(hno:¬ an l):aK P V W st w [] l (a.eval x):=by
 have hd':one st x≠.dead:=by intro e;rw[e]at hx;exact hd hx.symm
 obtain⟨h1,h2,_⟩:=bu hr x hd';rcases kU hV hr h1 h2 with ⟨_,_,_,_,h3,_⟩|⟨_,h3⟩
 ·rw[hx]at h3;exact absurd h3 hno
 ·rw[hx]at h3;exact h3
theorem va (hV:ax V){W:Wit}{a:Act}{w:World}(hr:ao P V W st a w){x:Operand}{p:Bool}{ks:List (Nat×Nat×Nat)}{ep:Nat}{loc:Option (Nat×Nat×Nat)}{E:TypeId}{e:Ty}{xs:List e.den}
  (hx:aD st (one st x)=.nal p ks ep loc E e xs):aK P V W st w [] (.nal p ks ep loc E e xs) (a.eval x)/\br st ks ep=true:=by
 refine⟨iA hV hr hx (by simp) (by simp[an]),?_⟩;generalize one st x=l at hx;cases l with
 |nal p' ks' ep' loc' E' e' xs' =>
  simp only[aD]at hx;cases hv:br st ks' ep' with
  |false=>simp[hv]at hx
  |true =>
   simp only[hv,cond_true]at hx;cases hx;exact hv
 |al r j n=>exact absurd hx gX
 |_=>simp[aD]at hx
theorem sE (hV:ax V){W:Wit}{a:Act}{w:World}(hr:ao P V W st a w){x:Operand}{p:Bool}{hh:Option (Nat×Nat)}{E:TypeId}{e:Ty}{xs:List e.den}(hx:aD st (one st x)=.own p hh E e xs) :
  ∃ r i n,one st x=.al r i n/\(st r).ls[i]?=some (.own p hh E e xs)/\OwH w (gd V W p) hh E e xs (a.eval x) (W.bs r i)/\(W.cs r)[i]?=some (a.eval x)/\(st r).ver=n:=by
 have hd':one st x≠.dead:=by intro e;rw[e]at hx;cases hx
 obtain⟨h1,h2,_⟩:=bu hr x hd';rcases kU hV hr h1 h2 with ⟨r,i,n,e1,_,_,_⟩|⟨h3,_⟩
 ·rw[e1]at hx h1;obtain⟨h3,h4,h5,h6⟩:=jp hr hx h1;exact⟨r,i,n,e1,h5,h4,h3,h6⟩
 ·rw[hx]at h3;exact absurd trivial h3
theorem goes_frz (hV:ax V){W:Wit}{a:Act}{w:World}(h:ao P V W st a w){d:Nat}(hd:o.dst=some d)(hok:bL V o)(ks:List (Nat×Nat)){v:Value}{sh:aI}{ls:List Leaf}{cs:List Value}
  (hrun:(execOp a.eval o).run P w=.ok (.value v) w) (hs:dJ sh v cs) (hl:aC P V (W.frz st ks) (ac (aF st ks) st) w ls cs):lH P V o st (cj st (aF st ks) d sh ls) a w:=by
 intro next Q hn;refine dA hrun ?_;rw[hd];refine hn _ _ ?_;rw[cj,aP];exact (kw hV ks h).1.putLs hV d (hok d hd).1 (hok d hd).2 _ sh ls v cs (Am _) hs hl
theorem cJ.shift {w:World}{g o:Nat}{c:List Value}{k s j:Nat}(h:cJ w g (o+(k+j)*s) c):cJ w g (o+k*s+j*s) c:=by
 rwa [Ad,<- Ar]
theorem Rd.cut {w:World}{G:Nat->Prop}{E:TypeId}{e:Ty}{xs:List e.den}{A:Option Addr}{cap:Nat}(h:Rd w G (.list false E e) xs [.slice A xs.length cap])(i n:Nat)(hin:i<=n)(hn:n<=xs.length) :
  Rd w G (.list false E e) ((xs.take n).drop i) [.slice (if cap=i then A else A.map (·.add (i*e.cells))) (n-i) (cap-i)]:=by
 obtain⟨A',cap',he,hc,hx⟩:=h;simp at he;obtain⟨rfl,rfl⟩:=he;have hl:((xs.take n).drop i).length=n-i:=by simp;omega
 refine⟨_,cap-i,by rw[hl],by rw[hl];omega,λhp=>?_⟩;rw[hl]at hp;obtain⟨g,o,rfl,hg,hel⟩:=hx (by omega);refine⟨g,o+i*e.cells,?_,hg,λj x hj=>?_⟩
 ·rw[if_neg (by omega)];simp[et]
 ·rw[Af,AP]at hj;split at hj
  ·obtain⟨c,hr,hcl⟩:=hel (i+j) x hj;exact⟨c,hr,hcl.shift⟩
  ·cases hj
theorem tW (hV:ax V)(hT:TOk P T)(hok:bL V o){t:TypeId}{x:Operand}{lo hi:Option Operand}(hop:o.op=.slice t x lo hi none)(h:act Γ T o st κ=some r):bU P V o st κ r:=by
 simp only[act,wrU,hop]at h;cases hd:o.dst with
 |none=>simp[hd]at h
 |some d =>
  simp only[hd]at h;split at h
  ·cases h
  ·rename_i i hlo;have h1:=hT t;have opt:∀ (W:Wit) (a:Act) (w:World) (y:Option Operand) (dflt n:Int),ao P V W st a w->cW st y dflt=some n->(y.map a.eval=none/\n=dflt)\/∃ k,y.map a.eval=some (.int k n):=by
    intro W a w y dflt n hr hb;rcases lK hr hb with ⟨rfl,rfl⟩|⟨z,k,rfl,hz⟩
    ·exact .inl ⟨rfl,rfl⟩
    ·exact .inr ⟨k,by simp[hz]⟩
   split at h
   ·rename_i s ht hx;rw[ht]at h1;split at h
    ·rename_i n hhi;cases hb:decide (0<=i)&&decide (i<=n)&&decide (n<=(s.size:Int)) with
     |false=>simp[hb]at h
     |true =>
      simp only[hb,cond_true]at h;simp only[AD,decide_eq_true_eq]at hb;refine⟨_,h,λW a w hr=>aO hV hr hd hok (v:=.string (s.extract i.toNat n.toNat)) ?_ rfl id rfl⟩;have hrun:=i8 (P:=P) false s.size s.size (AI _) (lo.map a.eval) (hi.map a.eval) i n hb.1.1 hb.1.2 hb.2 (opt W a w lo 0 i hr hlo) (opt W a w hi _ n hr hhi) w;have hx':a.eval x=.string s:=(iA hV hr hx (by simp) (by simp[an]));simp[execOp,hop,hx',Al,Aw,run_underlying h1.1,hrun]
    ·cases h
   ·rename_i E' e' bytes p ks ep loc E e xs ht hx;rw[ht]at h1;obtain⟨hu,_,_,_,_,ti,z,hti,hsz,_⟩:=h1;split at h
    ·rename_i n hhi;cases hb:decide (0<=i)&&decide (i<=n)&&decide (n<=(xs.length:Int))&&AA e'.cells e.cells with
     |false=>simp[hb]at h
     |true =>
      simp only[hb,cond_true]at h;simp only[AD,decide_eq_true_eq]at hb;obtain⟨hb,hbe⟩:=hb;have hbe:=AB hbe;refine⟨_,h,λW a w hr=>?_⟩;obtain⟨hl,hvk⟩:=va hV hr hx;have h8:=oa hvk hl;obtain⟨A,cap,hv,hcap,hrest⟩:=h8.rd;have hv:a.eval x=.slice A xs.length cap:=by simpa using hv
      have hrun:=i8 (P:=P) true xs.length cap hcap (lo.map a.eval) (hi.map a.eval) i n hb.1.1 hb.1.2 hb.2 (opt W a w lo 0 i hr hlo) (opt W a w hi _ n hr hhi) w;have hE:=da (P:=P) (t:=E') (n:=e.cells) (by simp[bN,hti,hsz,hbe]) w;have hcut:=Rd.cut (E:=E) (⟨A,cap,rfl,hcap,hrest⟩:Rd w _ (.list false E e) xs [.slice A xs.length cap]) i.toNat n.toNat (by omega) (by omega);refine aO hV hr hd hok (v:=.slice (if cap=i.toNat then A else A.map (·.add (i.toNat*e.cells))) (n.toNat-i.toNat) (cap-i.toNat)) ?_ ⟨hl.1,hl.2.1,λ_ _ _=>⟨hcut,λi' sz off he=>by cases he⟩⟩ id rfl;simp only[execOp,hop,hv,Al,Aw,AQ,run_underlying hu,AM,Ao,hrun,hE,AU]
    ·cases h
   ·rename_i E' e' bytes p E e xs ht hx;rw[ht]at h1;obtain⟨hu,_,_,_,_,ti,z,hti,hsz,_⟩:=h1;split at h
    ·rename_i n hhi;cases hb:decide (0<=i)&&decide (i<=n)&&decide (n<=(xs.length:Int))&&AA e'.cells e.cells with
     |false=>simp[hb]at h
     |true =>
      simp only[hb,cond_true]at h;simp only[AD,decide_eq_true_eq]at hb;obtain⟨hb,hbe⟩:=hb;have hbe:=AB hbe;refine⟨_,h,λW a w hr=>?_⟩;have hl:=iA hV hr hx (by simp) (by simp[an]);obtain⟨A,cap,hv,hcap,hrest⟩:=hl;have hv:a.eval x=.slice A xs.length cap:=by simpa using hv
      have hrun:=i8 (P:=P) true xs.length cap hcap (lo.map a.eval) (hi.map a.eval) i n hb.1.1 hb.1.2 hb.2 (opt W a w lo 0 i hr hlo) (opt W a w hi _ n hr hhi) w;have hE:=da (P:=P) (t:=E') (n:=e.cells) (by simp[bN,hti,hsz,hbe]) w;have hcut:=Rd.cut (E:=E) (⟨A,cap,rfl,hcap,hrest⟩:Rd w (gd V W p) (.list false E e) xs [.slice A xs.length cap]) i.toNat n.toNat (by omega) (by omega);refine aO hV hr hd hok (v:=.slice (if cap=i.toNat then A else A.map (·.add (i.toNat*e.cells))) (n.toNat-i.toNat) (cap-i.toNat)) ?_ hcut id rfl;simp only[execOp,hop,hv,Al,Aw,AQ,run_underlying hu,AM,Ao,hrun,hE,AU]
    ·cases h
   ·rename_i E' e' bytes p E e xs ht hx;rw[ht]at h1;obtain⟨hu,_,_,_,_,ti,z,hti,hsz,_⟩:=h1;split at h
    ·rename_i n hhi;cases hb:decide (0<=i)&&decide (i<=n)&&decide (n<=(xs.length:Int))&&AA e'.cells e.cells with
     |false=>simp[hb]at h
     |true =>
      simp only[hb,cond_true]at h;simp only[AD,decide_eq_true_eq]at hb;obtain⟨hb,hbe⟩:=hb;have hbe:=AB hbe;split at h
      ·rename_i r' j n' e1;refine⟨_,h,λW a w hr=>?_⟩;obtain⟨r1,j1,n1,e1',h2,how,_,hver⟩:=sE hV hr hx;rw[e1]at e1';obtain⟨rfl,rfl,rfl⟩:r'=r1/\j=j1/\n'=n1:=by cases e1';exact⟨rfl,rfl,rfl⟩
       obtain⟨A,cap,hv,hcap⟩:=how.slice;have hrun:=i8 (P:=P) true xs.length cap hcap (lo.map a.eval) (hi.map a.eval) i n hb.1.1 hb.1.2 hb.2 (opt W a w lo 0 i hr hlo) (opt W a w hi _ n hr hhi) w;have hE:=da (P:=P) (t:=E') (n:=e.cells) (by simp[bN,hti,hsz,hbe]) w;have hrd:=OwH.rd (m:=false) (E':=E) how;rw[hv]at hrd;have hcut:=Rd.cut hrd i.toNat n.toNat (by omega) (by omega);refine aO hV hr hd hok (v:=.slice (if cap=i.toNat then A else A.map (·.add (i.toNat*e.cells))) (n.toNat-i.toNat) (cap-i.toNat)) ?_
        ⟨AI _,λk hk=>?_,λ_ _ _=>⟨Rd.mono (λk hk=>?_) hcut,λi' sz off he=>by cases he⟩⟩ id rfl
       ·simp only[execOp,hop,hv,Al,Aw,AQ,run_underlying hu,AM,Ao,hrun,hE,AU]
       ·simp only[Ag]at hk;subst hk;exact Nat.le_of_eq hver.symm
       ·rcases hk with hk|hk
        ·exact .inl hk
        ·exact .inr ⟨_,AY _,hk⟩
      ·cases h
    ·cases h
   ·cases h
theorem xN (hV:ax V)(hT:TOk P T)(hok:bL V o){c:Call}(hop:o.op=.call c)(hc:c.callee=.builtin .len)(h:act Γ T o st κ=some r):bU P V o st κ r:=by
 simp only[act,wrU,hop,hc]at h;split at h
 ·cases h
 ·rename_i d hd;simp only[hd]at h;split at h
  ·rename_i x hx;split at h
   ·rename_i t ht;have hargs:c.args=#[x]:=by rw[<- Ax (xs:=c.args),hx]
    have htys:c.argTypes=#[t]:=by rw[<- Ax (xs:=c.argTypes),ht]
    have h1:=hT t;have run:∀ (a:Act) (w:World) (n:Int),(A7 #[t] o.type #[a.eval x]).run P w=.ok (.int .i64 n) w->(execOp a.eval o).run P w=.ok (.value (.int .i64 n)) w:=by
     intro a w n hn;simp[execOp,hop,hc,resolve,invoke,builtin,hargs,htys,hn]
    split at h
    ·rename_i E e b hti;rw[hti]at h1;split at h
     ·rename_i n hn;refine⟨_,h,λW a w hr=>aO hV hr hd hok (run a w _ ?_) rfl id rfl⟩;have hd':one st x≠.dead:=by intro e;rw[e]at hn;simp[aD,ft]at hn
      obtain⟨h2,h3,_⟩:=bu hr x hd';obtain⟨A,cap,hv⟩:=uX hr h2 h3 hn;have hv:a.eval x=.slice A n cap:=by simpa using hv
      simp[A7,run_underlying h1.1,hv,goInt]
     ·cases h
    ·rename_i s hti hdx;rw[hti]at h1;refine⟨_,h,λW a w hr=>aO hV hr hd hok (run a w _ ?_) rfl id rfl⟩;have hv:a.eval x=.string s:=iA hV hr hdx (by simp) (by simp[an]);simp[A7,run_underlying h1.1,hv,goInt]
    ·cases h
   ·cases h
  ·cases h
end
end Go.Proofs.YtmcbmojdeikcdaaGreatEv
