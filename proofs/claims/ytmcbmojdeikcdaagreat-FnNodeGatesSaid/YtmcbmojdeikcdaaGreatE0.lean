/- The value evaluator, second form: what a Go function's code computes, on plain values. No proof here but definitions. -/
import Derived.Calls
import Derived.Orders
import Derived.KernelRfl
namespace Go.Proofs.YtmcbmojdeikcdaaGreatEv
open Go
inductive Ty where
 |int (k:IntKind)|bool|str|unit
 |hdr
 |pair (a b:Ty)
 |list (m:Bool) (E:TypeId) (e:Ty)
 deriving DecidableEq
abbrev Ty.den:Ty->Type
 |.int _=>Int
 |.bool=>Bool
 |.str=>ByteArray
 |.unit=>Unit
 |.hdr=>Nat
 |.pair a b=>a.den×b.den
 |.list _ _ e=>List e.den
def Ty.cells:Ty->Nat
 |.unit=>0
 |.pair a b=>a.cells+b.cells
 |_=>1
def Ty.zero:(a:Ty)->a.den
 |.int _=>(0:Int)
 |.bool=>false
 |.str=>ByteArray.empty
 |.unit=>()
 |.hdr=>(0:Nat)
 |.pair a b=>(a.zero,b.zero)
 |.list _ _ e=>([]:List e.den)
def Ty.flat:Ty->Bool
 |.list _ _ _=>false
 |.pair a b=>a.flat&&b.flat
 |_=>true
def Ty.sh:Ty->Ty
 |.pair a b=>.pair a.sh b.sh
 |.list _ E e=>.list false E e.sh
 |a=>a
def Ty.shy:Ty->Bool
 |.list m _ e=>!m||e.shy
 |.pair a b=>a.shy||b.shy
 |_=>false
theorem lr:∀ a:Ty,a.sh.den=a.den
 |.int _|.bool|.str|.unit|.hdr=>rfl
 |.pair a b=>by
  show (a.sh.den×b.sh.den)=(a.den×b.den)
  rw[lr a,lr b]
 |.list _ _ e=>congrArg List (lr e)
theorem nM {a b:Ty}(h:a.sh=b.sh):a.den=b.den:=(lr a).symm.trans ((congrArg Ty.den h).trans (lr b))
def Ty.eqv:(a:Ty)->a.den->a.den->Bool
 |.int _,x,y=>decide ((x:Int)=y)
 |.bool,x,y=>(x:Bool)==y
 |.str,x,y=>decide ((x:ByteArray)=y)
 |.unit,_,_=>true
 |.hdr,_,_=>false
 |.pair a b,x,y=>a.eqv x.1 y.1&&b.eqv x.2 y.2
 |.list _ _ _,_,_=>false
abbrev Tup:List Ty->Type
 |[]=>Unit
 |a::as=>a.den×Tup as
inductive Leaf where
 |int (k:IntKind) (n:Int)
 |bool (b:Bool)
 |str (s:ByteArray)
 |nil
 |hdr (n:Nat)
 |ro (p:Bool) (E:TypeId) (e:Ty) (xs:List e.den)
 |own (p:Bool) (h:Option (Nat×Nat)) (E:TypeId) (e:Ty) (xs:List e.den)
 |al (r j v:Nat)
 |nal (p:Bool) (ks:List (Nat×Nat×Nat)) (ep:Nat) (loc:Option (Nat×Nat×Nat)) (E:TypeId) (e:Ty) (xs:List e.den)
 |ep (r j v:Nat) (i sz off:Nat)
 |np (p:Bool) (ks:List (Nat×Nat×Nat)) (ep:Nat) (a:Ty) (x:a.den) (off:Nat)
 |rp (p:Bool) (a:Ty) (x:a.den) (off:Nat)
 |rpp (p:Bool) (a:Ty) (x:a.den)
 |bp (b off:Nat)
 |clo (f:FuncId) (caps:List Nat)
 |clr (f:FuncId) (caps:List (Bool×Bool×(a:Ty)×a.den))
 |fn (As:List Ty) (B:Ty) (φ:Tup As->Option B.den)
 |dead
inductive aG where
 |off|und|one|agg
 |tup (ps:List (Bool×Nat))
 deriving DecidableEq
structure bM where
 ver:Nat
 sh:aG
 ls:List Leaf
abbrev St:=Nat->bM
def bM.none:bM:=⟨0,.off,[]⟩
def GH:Nat:=99000
def TMP:Nat:=99998
def EPO:Nat:=99999
def B0:Nat:=100000
abbrev Upd:=List (Nat×bM)
def ac (U:Upd)(st:St)(q:Nat):bM :=
 match U with
 |[]=>st q
 |(r,c)::rest=>bif Nat.beq q r then c else ac rest st q
inductive TI where
 |int (k:IntKind)|bool|str
 |slice (E:TypeId) (e:Ty) (bytes:Nat)
 |struct (a:Ty) (flds:List (Nat×Nat×Bool))
 |arr (e:Ty) (n:Nat)
 |ptr|fn
 |none
def gF:List (TypeId×TI)->TypeId->TI
 |[],_=>.none
 |(t,i)::l,u=>bif Nat.beq t u then i else gF l u
def TI.cells:TI->Nat
 |.struct a _=>a.cells
 |.arr e n=>n*e.cells
 |.none=>0
 |_=>1
def TI.agg:TI->Bool
 |.struct _ _=>true
 |.arr _ _=>true
 |_=>false
def ee:Ty->List Leaf
 |.int k=>[.int k 0]
 |.bool=>[.bool false]
 |.str=>[.str ByteArray.empty]
 |.unit=>[]
 |.hdr=>[.nil]
 |.pair a b=>ee a++ee b
 |.list _ _ _=>[.nil]
def TI.zero:TI->List Leaf
 |.int k=>[.int k 0]
 |.bool=>[.bool false]
 |.str=>[.str ByteArray.empty]
 |.slice _ _ _=>[.nil]
 |.struct a _=>ee a
 |.arr e n=>(List.replicate n (ee e)).flatten
 |.ptr=>[.dead]
 |.fn=>[.dead]
 |.none=>[]
def aq (p:Bool):(a:Ty)->a.den->List Leaf
 |.int k,n=>[.int k n]
 |.bool,b=>[.bool b]
 |.str,s=>[.str s]
 |.unit,_=>[]
 |.hdr,n=>[.hdr n]
 |.pair a b,x=>aq p a x.1++aq p b x.2
 |.list m E e,xs=>[bif m then .own (p&&e.shy) none E e xs else .ro p E e xs]
def co (p:Bool):(a:Ty)->a.den->List Leaf
 |.int k,n=>[.int k n]
 |.bool,b=>[.bool b]
 |.str,s=>[.str s]
 |.unit,_=>[]
 |.hdr,n=>[.hdr n]
 |.pair a b,x=>co p a x.1++co p b x.2
 |.list _ E e,xs=>[.ro p E e xs]
def ke (p:Bool)(ks:List (Nat×Nat×Nat))(ep:Nat):(a:Ty)->a.den->List Leaf
 |.int k,n=>[.int k n]
 |.bool,b=>[.bool b]
 |.str,s=>[.str s]
 |.unit,_=>[]
 |.hdr,n=>[.hdr n]
 |.pair a b,x=>ke p ks ep a x.1++ke p ks ep b x.2
 |.list _ E e,xs=>[.nal p ks ep none E e xs]
def gr (p:Bool)(r j v ep i sz:Nat)(h:Option Nat):(a:Ty)->Nat->a.den->List Leaf
 |.int k,_,n=>[.int k n]
 |.bool,_,b=>[.bool b]
 |.str,_,s=>[.str s]
 |.unit,_,_=>[]
 |.hdr,_,n=>[.hdr n]
 |.pair a b,off,x=>gr p r j v ep i sz h a off x.1++gr p r j v ep i sz h b (off+a.cells) x.2
 |.list m E e,off,xs=>[bif decide (h=some off) then .dead else bif m then .nal (p&&e.shy) [(r,j,v)] ep (some (i,sz,off)) E e xs else .ro p E e xs]
def be (agg:Bool):aG:=bif agg then .agg else .one
def kf:Leaf->Bool
 |.own _ _ _ _ _=>true
 |_=>false
def bj (st:St)(ks:List (Nat×Nat×Nat))(ep:Nat):Bool:=Nat.beq (st EPO).ver ep&&ks.all λk=>Nat.beq (st k.1).ver k.2.2&&kf ((st k.1).ls.getD k.2.1 .dead)
def mi:Leaf->Leaf
 |.nal _ _ _ _ _ _ _=>.dead
 |l=>l
def aD (st:St):Leaf->Leaf
 |.al r j v=>bif Nat.beq (st r).ver v then mi ((st r).ls.getD j .dead) else .dead
 |.nal p ks ep loc E e xs=>bif bj st ks ep then .nal p ks ep loc E e xs else .dead
 |l=>l
def kA (t j ver:Nat):Leaf->Leaf
 |.own _ _ _ _ _=>.al t j ver
 |l=>l
def bu (t ver:Nat):Nat->List Leaf->List Leaf
 |_,[]=>[]
 |j,l::ls=>kA t j ver l::bu t ver (j+1) ls
def gu:Value->Option Leaf
 |.int k n=>some (.int k n)
 |.bool b=>some (.bool b)
 |.string s=>some (.str s)
 |.slice Option.none 0 0=>some .nil
 |_=>Option.none
def ar (st:St):Operand->aG×List Leaf
 |.tmp t=>bif Nat.blt t GH then ((st t).sh,bu t (st t).ver 0 (st t).ls) else (.off,[])
 |.const v=>match gu v with
  |some l=>(.one,[l])
  |Option.none=>(.off,[])
 |.func f=>(.one,[.clo f []])
 |.global _=>(.off,[])
def one (st:St)(x:Operand):Leaf :=
 match ar st x with
 |(.one,[l])=>l
 |_=>.dead
def castSh (e e':Ty)(xs:List e'.den):Option (List e.den) :=
 if h:e'.sh=e.sh then some (cast (congrArg List (nM h)) xs) else Option.none
def kB (E:TypeId)(e:Ty)(E':TypeId)(e':Ty)(xs:List e'.den):Option (List e.den) :=
 if h:E'=E/\e'=e then some (h.2 ▸ xs) else Option.none
def cG (e:Ty):Leaf->Option (Bool×List e.den)
 |.ro p _ e' xs=>(castSh e e' xs).map (p,·)
 |.own p none _ e' xs=>(castSh e e' xs).map (p,·)
 |.nal p _ _ _ _ e' xs=>(castSh e e' xs).map (p,·)
 |.nil=>some (false,[])
 |_=>Option.none
def ff:Leaf->Option Nat
 |.ro _ _ _ xs=>some xs.length
 |.own _ _ _ _ xs=>some xs.length
 |.nal _ _ _ _ _ _ xs=>some xs.length
 |.nil=>some 0
 |.hdr n=>some n
 |_=>Option.none
def aV (st:St):(a:Ty)->List Leaf->Option (Bool×a.den×List Leaf)
 |.int k,ls=>match ls with
  |.int k' n::ls=>if k=k' then some (false,(n:Int),ls) else Option.none
  |_=>Option.none
 |.bool,ls=>match ls with
  |.bool b::ls=>some (false,b,ls)
  |_=>Option.none
 |.str,ls=>match ls with
  |.str s::ls=>some (false,s,ls)
  |_=>Option.none
 |.unit,ls=>some (false,(),ls)
 |.hdr,ls=>match ls with
  |l::ls=>match ff (aD st l) with
   |some n=>some (false,(n:Nat),ls)
   |Option.none=>Option.none
  |_=>Option.none
 |.pair a b,ls=>match aV st a ls with
  |some (p,x,ls)=>match aV st b ls with
   |some (q,y,ls)=>some (p||q,(x,y),ls)
   |Option.none=>Option.none
  |Option.none=>Option.none
 |.list _ _ e,ls=>match ls with
  |l::ls=>match cG e (aD st l) with
   |some (p,xs)=>some (p,xs,ls)
   |Option.none=>Option.none
  |_=>Option.none
def ct (st:St)(a:Ty)(ls:List Leaf):Option (Bool×a.den) :=
 match aV st a ls with
 |some (p,x,[])=>some (p,x)
 |_=>Option.none
structure cq (α:Type) where
 p:Bool
 val:α
 frz:List (Nat×Nat)
 kill:List (Nat×Nat)
 rest:List Leaf
def bq (st:St):List Leaf->List (Nat×Nat)
 |[]=>[]
 |.al r j v::ls=>(match aD st (.al r j v) with|.own _ _ _ _ _=>[(r,j)]|_=>[])++bq st ls
 |.nal p ks ep loc E e xs::ls=>(match aD st (.nal p ks ep loc E e xs) with|.nal _ _ _ _ _ _ _=>ks.map (λk=>(k.1,k.2.1))|_=>[])++bq st ls
 |_::ls=>bq st ls
def bR (st:St):List Leaf->List (Nat×Nat)
 |[]=>[]
 |.al r j v::ls=>(match aD st (.al r j v) with|.own _ _ _ _ _=>[(r,j)]|_=>[])++bR st ls
 |_::ls=>bR st ls
def take (st : St) : (a : Ty) -> List Leaf -> Option (cq a.den)
  |.int k,ls=>(aV st (.int k) ls).map λx=>⟨false,x.2.1,[],[],x.2.2⟩
  |.bool,ls=>(aV st .bool ls).map λx=>⟨false,x.2.1,[],[],x.2.2⟩
  |.str,ls=>(aV st .str ls).map λx=>⟨false,x.2.1,[],[],x.2.2⟩
  |.unit,ls=>some ⟨false,(),[],[],ls⟩
  |.hdr,ls=>(aV st .hdr ls).map λx=>⟨false,x.2.1,[],[],x.2.2⟩
  |.pair a b,ls=>match take st a ls with
    |some x=>match take st b x.rest with
      |some y=>some ⟨x.p||y.p,(x.val,y.val),x.frz++y.frz,x.kill++y.kill,y.rest⟩
      |Option.none=>Option.none
    |Option.none=>Option.none
  |.list m E e,ls=>match ls with
    |[]=>Option.none
    |l::ls=>bif m then (match l with
        |.al r j v=>match aD st (.al r j v) with
          |.own p none E' e' xs=>(kB E e E' e' xs).map λxs=>⟨p,xs,[],[(r,j)],ls⟩
          |_=>Option.none
        |.nil=>some ⟨false,([]:List e.den),[],[],ls⟩
        |_=>Option.none)
      else match cG e (aD st l) with
        |some (p,xs)=>some ⟨p,xs,bq st [l],[],ls⟩
        |Option.none=>Option.none
def bZ (st:St)(a:Ty)(ls:List Leaf):Option (cq a.den) :=
 match take st a ls with
 |some ⟨p,x,f,k,[]⟩=>some ⟨p,x,f,k,[]⟩
 |_=>Option.none
def cJ (st:St)(off n:Nat):(a:Ty)->Nat->a.den->List Leaf->Option (cq a.den)
 |.pair a b,pos,x,ls=>match cJ st off n a pos x.1 ls with
  |some u=>match cJ st off n b (pos+a.cells) x.2 u.rest with
   |some v=>some ⟨u.p||v.p,(u.val,v.val),u.frz++v.frz,u.kill++v.kill,v.rest⟩
   |Option.none=>Option.none
  |Option.none=>Option.none
 |.int k,pos,x,ls=>bif Nat.ble off pos&&Nat.blt pos (off+n) then take st (.int k) ls else some ⟨false,x,[],[],ls⟩
 |.bool,pos,x,ls=>bif Nat.ble off pos&&Nat.blt pos (off+n) then take st .bool ls else some ⟨false,x,[],[],ls⟩
 |.str,pos,x,ls=>bif Nat.ble off pos&&Nat.blt pos (off+n) then take st .str ls else some ⟨false,x,[],[],ls⟩
 |.unit,_,x,ls=>some ⟨false,x,[],[],ls⟩
 |.hdr,_,_,_=>Option.none
 |.list m E e,pos,x,ls=>bif Nat.ble off pos&&Nat.blt pos (off+n) then take st (.list m E e) ls else some ⟨false,x,[],[],ls⟩
def bD (off:Nat)(E:TypeId)(e:Ty)(ys:List e.den):(a:Ty)->Nat->a.den->Option a.den
 |.pair a b,pos,x=>match bD off E e ys a pos x.1 with
  |some u=>some (u,x.2)
  |Option.none=>(bD off E e ys b (pos+a.cells) x.2).map λv=>(x.1,v)
 |.list m E' e',pos,_=>bif m&&Nat.beq pos off then kB E' e' E e ys else Option.none
 |.int _,_,_|.bool,_,_|.str,_,_|.unit,_,_|.hdr,_,_=>Option.none
def aw:List Leaf->List Nat
 |[]=>[]
 |.al r _ _::ls=>r::aw ls
 |.ep r _ _ _ _ _::ls=>r::aw ls
 |.nal _ ks _ _ _ _ _::ls=>EPO::ks.map (·.1)++aw ls
 |.np _ ks _ _ _ _::ls=>EPO::ks.map (·.1)++aw ls
 |_::ls=>aw ls
def aQ (ls:List Leaf)(j:Nat)(l:Leaf):List Leaf:=ls.set j l
def fg (c:bM)(j:Nat):bM:=⟨c.ver,c.sh,aQ c.ls j .dead⟩
def aM (st:St):List (Nat×Nat)->Upd
 |[]=>[]
 |(r,j)::ks=>let U:=aM st ks;let c:=ac U st r;(r,fg c j)::U
def sK:Leaf->Leaf
 |.own p none E e xs=>.ro p E e xs
 |.own _ (some _) _ _ _=>.dead
 |l=>l
def fb (c:bM)(j:Nat):bM:=⟨c.ver,c.sh,aQ c.ls j (sK (c.ls.getD j .dead))⟩
def aE (st:St):List (Nat×Nat)->Upd
 |[]=>[]
 |(r,j)::ks=>let U:=aE st ks;let c:=ac U st r;(r,fb c j)::U
def bN (c:bM):bM:=⟨c.ver+1,c.sh,c.ls⟩
def epoU (st:St):Upd:=[(EPO,bN (st EPO))]
def c7 (st:St):List Leaf->List (Nat×Nat)
 |[]=>[]
 |.nal p ks ep none E e xs::ls=>(match aD st (.nal p ks ep none E e xs) with|.nal _ _ _ _ _ _ _=>ks.map (λk=>(k.1,k.2.1))|_=>[])++c7 st ls
 |_::ls=>c7 st ls
def fj (st:St)(l:Leaf):Leaf:=match aD st l with
 |.nal p _ _ none E e xs=>.ro p E e xs
 |l=>l
def dk (st:St)(ls:List Leaf):List Leaf:=ls.map (fj st)
def mvU (st:St)(ls:List Leaf):Upd:=let U:=aE st (c7 st ls);aM (ac U st) (bR st ls)++U
def aX:List (Nat×Nat)->Bool
 |[]=>true
 |x::xs=>!(xs.any λy=>Nat.beq x.1 y.1&&Nat.beq x.2 y.2)&&aX xs
def gv (a b:Nat×Nat):Bool:=Nat.beq a.1 b.1&&Nat.beq a.2 b.2
def db (a b:List (Nat×Nat)):Bool:=!(a.any λk=>b.any (gv k))
def gi (st:St)(ls:List Leaf):Bool:=aX (bR st ls)&&db (c7 st ls) (bR st ls)
def qG (st:St):Operand->Bool
 |.tmp q=>Nat.beq (st q).ver 7
 |_=>false
def idx {α:Type}(xs:List α)(i:Int):Option α:=if i<0 then Option.none else xs[i.toNat]?
def iy (old new:List Leaf)(off:Nat):List Leaf:=old.take off++new++old.drop (off+new.length)
def qH (op:BinOp)(k:IntKind)(x y:Int):Option Leaf :=
 match op with
 |.add=>some (.int k (k.wrap (x+y)))
 |.sub=>some (.int k (k.wrap (x-y)))
 |.mul=>some (.int k (k.wrap (x*y)))
 |.eql=>some (.bool (x==y))
 |.neq=>some (.bool (x != y))
 |.lss=>some (.bool (decide (x<y)))
 |.leq=>some (.bool (decide (x<=y)))
 |.gtr=>some (.bool (decide (x>y)))
 |.geq=>some (.bool (decide (x>=y)))
 |_=>Option.none
def a8 (off:Nat):(a:Ty)->Nat->a.den->Option ((E:TypeId)×(e:Ty)×List e.den)
 |.pair a b,pos,x=>match a8 off a pos x.1 with
  |some u=>some u
  |Option.none=>a8 off b (pos+a.cells) x.2
 |.list m E e,pos,xs=>bif m&&Nat.beq pos off then some ⟨E,e,xs⟩ else Option.none
 |.int _,_,_|.bool,_,_|.str,_,_|.unit,_,_|.hdr,_,_=>Option.none
def ca (st:St):Leaf->Option (Upd×Leaf)
  |.nal p ks ep loc E e xs=>bif bj st ks ep then (match ks,loc with
      | [(r, j, _)], some (i, sz, off) => (match (st r).ls.getD j .dead with
        |.own p' none E' e' xs'=>bif !Nat.beq r TMP&&!Nat.beq r EPO&&Nat.beq sz e'.cells then
            (match xs'[i]? with
            |some y=>match a8 off e' 0 y with
              |some ⟨E,e,ys⟩=>some ([(r,⟨(st r).ver,(st r).sh,aQ (st r).ls j (.own p' (some (i,off)) E' e' xs')⟩),(TMP,⟨(st TMP).ver+1,.one,[.own (p'&&e'.shy) none E e ys]⟩),(EPO,bN (st EPO))],.al TMP 0 ((st TMP).ver+1))
              |Option.none=>Option.none
            |Option.none=>Option.none)
          else Option.none
        |_=>Option.none)
      |_,_=>Option.none)
    else Option.none
  |_=>Option.none
def im:Leaf->Bool
 |.nal _ _ _ _ _ _ _=>true
 |_=>false
inductive PK where
 |rd (a:Ty)
 |own (a:Ty)
 |io (a:Ty)
 |rref (a:Ty)
 |rref2 (a:Ty)
 |iop (a:Ty)
 |fn (As:List Ty) (B:Ty)
 |clo (f:FuncId) (cs:List (Bool×Ty))
 |hol (a:Ty) (c off:Nat)
 deriving DecidableEq
inductive RK where
 |v (a:Ty)
 |bv (a:Ty)
 |box (a:Ty)
 deriving DecidableEq
abbrev kC:List (Bool×Ty)->Type
 |[]=>Unit
 |c::cs=>c.2.den×kC cs
abbrev PK.den:PK->Type
 |.rd a|.own a|.io a|.rref a|.rref2 a|.iop a=>a.den
 |.fn As B=>Tup As->Option B.den
 |.clo _ cs=>kC cs
 |.hol a _ _=>a.den×Nat
abbrev ab:List PK->Type
 |[]=>Unit
 |p::ps=>p.den×ab ps
abbrev aj:List PK->Type
 |[]=>Unit
 |.io a::ps=>a.den×aj ps
 |.iop a::ps=>a.den×aj ps
 |_::ps=>aj ps
abbrev RK.den:RK->Type
 |.v a|.bv a|.box a=>a.den
abbrev ak:List RK->Type
 |[]=>Unit
 |r::rs=>r.den×ak rs
structure Ctr where
 f:FuncId
 ps:List PK
 rs:List RK
 fresh:Bool
 den:ab ps->Option (ak rs×aj ps)
def Ty.isAgg:Ty->Bool
 |.pair _ _|.unit=>true
 |_=>false
def target (st:St):Leaf->Option (List Leaf)
 |.bp b 0=>bif decide ((st b).sh=.agg) then some (bu b (st b).ver 0 (st b).ls) else none
 |.rp p a x 0=>some (co p a x)
 |.rpp p a x=>some [.rp p a x 0]
 |_=>none
structure Got (α:Type) where
 p:Bool
 val:α
 frz:List (Nat×Nat)
 kill:List (Nat×Nat)
 see:List Nat
 lend:List Nat
def Got.ofRd {α:Type}(see:List Nat)(x:Bool×α)(frz:List (Nat×Nat)):Got α:=⟨x.1,x.2,frz,[],see,[]⟩
def kD (Γ:List Ctr)(f:FuncId):Option Ctr:=match Γ with
 |[]=>none
 |c::cs=>bif Nat.beq c.f f then some c else kD cs f
def cb (x:aG×List Leaf):Leaf :=
 match x with
 |(.one,[l])=>l
 |_=>.dead
def eB:List Leaf->List Nat
 |[]=>[]
 |.bp b _::ls=>b::eB ls
 |_::ls=>eB ls
def eC (st:St)(c:Bool×Ty)(l:Leaf):Option (Got c.2.den) :=
 bif c.1 then (match target st l with
  |some [l']=>match target st l' with
   |some ls=>(ct st c.2 ls).map λy=>.ofRd (eB [l,l']) y (bq st ls)
   |none=>none
  |_=>none)
 else match target st l with
  |some ls=>(ct st c.2 ls).map λy=>.ofRd (eB [l]) y (bq st ls)
  |none=>none
def cf (st:St):(cs:List (Bool×Ty))->List Leaf->Option (Got (kC cs))
 |[],[]=>some ⟨false,(),[],[],[],[]⟩
 |c::cs,l::ls=>match eC st c l with
  |some g=>match cf st cs ls with
   |some h=>some ⟨g.p||h.p,(g.val,h.val),g.frz++h.frz,[],g.see++h.see,[]⟩
   |none=>none
  |none=>none
 |_,_=>none
def d8 (c:Bool×Bool×(a:Ty)×a.den):Leaf:=bif c.2.1 then .rpp c.1 c.2.2.1 c.2.2.2 else .rp c.1 c.2.2.1 c.2.2.2 0
def bc (st : St) : (pk : PK) -> aG × List Leaf -> Option (Got pk.den)
  |.rd a,x=>bif decide (x.1=be a.isAgg) then (ct st a x.2).map λy=>.ofRd [] y (bq st x.2) else none
  |.own a,x=>bif decide (x.1=be a.isAgg) then (bZ st a x.2).map λt=>⟨t.p,t.val,t.frz,t.kill,[],[]⟩ else none
  |.io a,x=>bif decide (x.1=be a.isAgg) then (bZ st a x.2).map λt=>⟨t.p,t.val,t.frz,t.kill,[],[]⟩ else none
  |.rref a,x=>eC st (false,a) (cb x)
  |.rref2 a,x=>eC st (true,a) (cb x)
  |.iop a,x=>match cb x with
    |.bp b 0=>bif decide ((st b).sh=.agg) then (bZ st a (bu b (st b).ver 0 (st b).ls)).map λt=>⟨t.p,t.val,t.frz,t.kill,[],[b]⟩ else none
    |_=>none
  |.fn As B,x=>match cb x with
    |.fn As' B' φ=>if h:As'=As/\B'=B then some ⟨false,(h.1 ▸ h.2 ▸ φ:Tup As->Option B.den),[],[],[],[]⟩ else none
    |_=>none
  |.clo f cs,x=>match cb x with
    |.clo f' caps=>bif Nat.beq f' f then cf st cs (caps.map λb=>.bp b 0) else none
    |.clr f' caps=>bif Nat.beq f' f then cf st cs (caps.map d8) else none
    |_=>none
  |.hol a c off,x=>bif decide (x.1=be a.isAgg) then (match x.2.getD c .dead with
      |.al r j v=>(match aD st (.al r j v) with
        |.own p (some (i,o)) E e xs=>bif Nat.beq o off then (match bZ st a (aQ x.2 c .nil) with
            |some t=>(match bD c E e xs a 0 t.val with
              |some y=>some ⟨p||t.p,(y,i),t.frz,(r,j)::t.kill,[],[]⟩
              |none=>none)
            |none=>none) else none
        |_=>none)
      |_=>none) else none
def a7 (ga:(pk:PK)->aG×List Leaf->Option (Got pk.den)):(ps:List PK)->List (aG×List Leaf)->Option (Got (ab ps))
 |[],[]=>some ⟨false,(),[],[],[],[]⟩
 |p::ps,x::xs=>match ga p x with
  |some g=>match a7 ga ps xs with
   |some h=>some ⟨g.p||h.p,(g.val,h.val),g.frz++h.frz,g.kill++h.kill,g.see++h.see,g.lend++h.lend⟩
   |none=>none
  |none=>none
 |_,_=>none
def sL (st:St):(ps:List PK)->List (aG×List Leaf)->Option (Got (ab ps)):=a7 (bc st)
def bS (st:St):List Leaf->List Leaf->Upd
 |.al r j _::xs,l::ls=>let U:=bS st xs ls;(match l with|.own p h E e ys=>let c:=ac U st r;[(r,⟨c.ver,c.sh,aQ c.ls j (.own p h E e ys)⟩),(EPO,bN (ac U st EPO))]|_=>[])++U
 |_::xs,_::ls=>bS st xs ls
 |_,_=>[]
def aF (st:St)(p:Bool):(ps:List PK)->List (aG×List Leaf)->aj ps->Upd
 |[],_,_=>[]
 |.io a::ps,x::xs,o=>let U:=aF st p ps xs o.2;bS (ac U st) x.2 (aq p a o.1)++U
 |.iop a::ps,x::xs,o=>let U:=aF st p ps xs o.2;(match cb x with
  |.bp b _=>let c:=ac U st b;[(b,⟨c.ver+2,.agg,aq p a o.1⟩)]
  |_=>[])++U
 |.rd _::ps,_::xs,o=>aF st p ps xs o
 |.own _::ps,_::xs,o=>aF st p ps xs o
 |.rref _::ps,_::xs,o=>aF st p ps xs o
 |.rref2 _::ps,_::xs,o=>aF st p ps xs o
 |.fn _ _::ps,_::xs,o=>aF st p ps xs o
 |.clo _ _::ps,_::xs,o=>aF st p ps xs o
 |.hol _ _ _::ps,_::xs,o=>aF st p ps xs o
 |_::_,[],_=>[]
def nN (d v:Nat)(p q:Bool)(ks:List (Nat×Nat×Nat))(ep:Nat):(r:RK)->r.den->(Bool×List Leaf)×Upd
 |.v a,y=>((a.isAgg,aq p a y),[])
 |.bv a,y=>((a.isAgg,ke q ks ep a y),[])
 |.box a,y=>((false,[.bp (B0+d) 0]),[(B0+d,⟨v+1,.agg,aq p a y⟩)])
def br (d v:Nat)(p q:Bool)(ks:List (Nat×Nat×Nat))(ep:Nat):(rs:List RK)->ak rs->List (Bool×List Leaf)×Upd
 |[],_=>([],[])
 |r::rs,y=>let a:=nN d v p q ks ep r y.1;let b:=br d v p q ks ep rs y.2;(a.1::b.1,a.2++b.2)
def d9 (ver:Nat)(l:List (Bool×List Leaf)):bM :=
 match l with
 |[(agg,ls)]=>⟨ver,be agg,ls⟩
 |l=>⟨ver,.tup (l.map λx=>(x.1,x.2.length)),(l.map (·.2)).flatten⟩
def ce (st:St)(U:Upd)(d:Nat)(sh:aG)(ls:List Leaf):Upd:=(d,⟨(ac U st d).ver+1,sh,ls⟩)::U
def PK.reads:PK->Bool
 |.rd _|.rref _|.rref2 _=>true
 |_=>false
def mj (caps:List PK)(z:ab caps):(As:List Ty)->Tup As->ab (As.map .rd++caps)
 |[],_=>z
 |_::as,x=>(x.1,mj caps z as x.2)
def qt (st:St)(As:List Ty)(B:Ty)(ls:List Leaf)(ps:List PK)(rs:List RK)(fresh:Bool)(den:ab ps->Option (ak rs×aj ps))(q:List PK):Option (Got (Tup As->Option B.den)) :=
 if h:ps=As.map .rd++q/\rs=[.v B] then
  bif q.all PK.reads&&B.flat&&fresh then
   match sL st q (ls.map λl=>(.one,[l])) with
   |some g=>some ⟨g.p,λx=>(den (h.1 ▸ mj _ g.val As x)).map λy=>(h.2 ▸ y.1:ak [.v B]).1,g.frz,[],g.see,[]⟩
   |none=>none
  else none
 else none
def jx (Γ:List Ctr)(st:St)(As:List Ty)(B:Ty)(f:FuncId)(ls:List Leaf):Option (Got (Tup As->Option B.den)) :=
 match kD Γ f with
 |some c=>qt st As B ls c.ps c.rs c.fresh c.den (c.ps.drop As.length)
 |none=>none
def tD:Leaf->Option (FuncId×List Leaf)
 |.clo f caps=>some (f,caps.map λb=>.bp b 0)
 |.clr f caps=>some (f,caps.map d8)
 |_=>none
def bT (Γ:List Ctr)(st:St):(pk:PK)->aG×List Leaf->Option (Got pk.den)
 |.fn As B,x=>match tD (cb x) with
  |some fc=>jx Γ st As B fc.1 fc.2
  |none=>bc st (.fn As B) x
 |.rd a,x=>bc st (.rd a) x
 |.own a,x=>bc st (.own a) x
 |.io a,x=>bc st (.io a) x
 |.rref a,x=>bc st (.rref a) x
 |.rref2 a,x=>bc st (.rref2 a) x
 |.iop a,x=>bc st (.iop a) x
 |.clo f cs,x=>bc st (.clo f cs) x
 |.hol a c off,x=>bc st (.hol a c off) x
def m9 (Γ:List Ctr)(st:St):(ps:List PK)->List (aG×List Leaf)->Option (Got (ab ps)):=a7 (bT Γ st)
def PK.takes:PK->Bool
 |.own _|.io _=>true
 |_=>false
def PK.isIo:PK->Bool
 |.io _=>true
 |_=>false
def nO:Ty->Nat->Bool
 |.pair a b,j=>bif Nat.blt j a.cells then nO a j else nO b (j-a.cells)
 |.list m _ _,j=>m&&Nat.beq j 0
 |_,_=>false
def kg (a:Ty):Nat->List Leaf->Option Nat
 |_,[]=>none
 |j,l::ls=>bif im l&&nO a j then some j else kg a (j+1) ls
def PK.nest:PK->List Leaf->Option Nat
 |.own a,ls=>kg a 0 ls
 |.io a,ls=>kg a 0 ls
 |_,_=>none
def iZ:Leaf->Nat×Nat
 |.nal _ ((r,j,_)::_) _ _ _ _ _=>(r,j)
 |_=>(0,0)
def cF (st:St):List PK->List (aG×List Leaf)->Option (Upd×List (aG×List Leaf)×Option (Bool×Nat×Nat))
 |p::ps,x::xs=>match p.nest x.2 with
  |some k=>(ca st (x.2.getD k .dead)).map λu=>(u.1,(x.1,aQ x.2 k u.2)::xs,some (p.isIo,iZ (x.2.getD k .dead)))
  |none=>(cF st ps xs).map λu=>(u.1,x::u.2.1,u.2.2)
 |_,xs=>some ([],xs,none)
section
variable {R:Type}
def kE (st : St) (l : Leaf) (κ : Upd -> Leaf -> Option R) : Option R :=
  match l with
  |.nal _ ks ep loc _ _ _=>bif bj st ks ep then (match ks,loc with
      | [(r, j, _)], some (i, sz, off) => (match (st r).ls.getD j .dead with
        |.own p' none E' e' xs'=>bif !Nat.beq r TMP&&!Nat.beq r EPO&&Nat.beq sz e'.cells then
            (idx xs' (i:Int)).bind λy=>match a8 off e' 0 y with
              |some ⟨E,e,ys⟩=>κ [(r,⟨(st r).ver,(st r).sh,aQ (st r).ls j (.own p' (some (i,off)) E' e' xs')⟩),(TMP,⟨(st TMP).ver+1,.one,[.own (p'&&e'.shy) none E e ys]⟩),(EPO,bN (st EPO))] (.al TMP 0 ((st TMP).ver+1))
              |Option.none=>Option.none
          else Option.none
        |_=>Option.none)
      |_,_=>Option.none)
    else Option.none
  |_=>Option.none
def jy (st:St):List PK->List (aG×List Leaf)->(Upd->List (aG×List Leaf)->Option (Bool×Nat×Nat)->Option R)->Option R
 |p::ps,x::xs,κ=>match p.nest x.2 with
  |some k=>kE st (x.2.getD k .dead) λU l=>κ U ((x.1,aQ x.2 k l)::xs) (some (p.isIo,iZ (x.2.getD k .dead)))
  |none=>jy st ps xs λU ys b=>κ U (x::ys) b
 |_,xs,κ=>κ [] xs none
def gG (st:St):(As:List Ty)->List (aG×List Leaf)->Option (Tup As)
 |[],[]=>some ()
 |a::as,x::xs=>bif decide (x.1=be a.isAgg) then match ct st a x.2 with
   |some (_,y)=>(gG st as xs).map (y,·)
   |none=>none
  else none
 |_,_=>none
def RK.isV:RK->Bool
 |.v _|.bv _=>true
 |.box _=>false
def RK.isBv:RK->Bool
 |.bv _=>true
 |_=>false
def fG (st:St)(d:Nat):List RK->Bool
 |[.box _]=>decide ((st (B0+d)).sh=.off)
 |rs=>rs.all RK.isV
def na (b:Option (Bool×Nat×Nat))(frz kill:List (Nat×Nat))(d:Nat):Bool :=
 match b with
 |some (true,r,j)=>!(kill.any (gv (r,j)))&&!(frz.any (gv (r,j)))&&!Nat.beq r d&&!Nat.beq r (B0+d)
 |_=>true
def iO (st:St)(b:Option (Bool×Nat×Nat))(U:Upd)(κ:Upd->Option R):Option R :=
 match b with
 |some (true,r,j) =>
  match (ac U st r).ls.getD j .dead,(ac U st TMP).ls with
  |.own p (some (i,off)) E' e' xs,[.own q none E e ys]=>(idx xs (i:Int)).bind λy=>match bD off E e ys e' 0 y with
   |some z=>κ ((r,⟨(ac U st r).ver,(ac U st r).sh,aQ (ac U st r).ls j (.own (p||q) none E' e' (xs.set i z))⟩)::(TMP,⟨(ac U st TMP).ver+1,.off,[]⟩)::(EPO,bN (ac U st EPO))::U)
   |none=>none
  |_,_=>none
 |_=>κ U
def ip (Γ:List Ctr)(st:St)(d:Nat)(f:FuncId)(xs:List (aG×List Leaf))(κ:Upd->Option R):Option R :=
 match kD Γ f with
 |some c=>jy st c.ps xs λU0 xs b =>
  match m9 Γ (ac U0 st) c.ps xs with
  |some g=>bif aX g.kill&&db g.frz g.kill&&fG st d c.rs&&!(g.see.any λq=>g.lend.any (Nat.beq q))&&Nat.ble g.lend.length 1&&(g.lend.isEmpty||!(c.ps.any PK.isIo))&&((c.fresh&&g.lend.isEmpty)||!(c.rs.any RK.isBv))&&(g.kill.all λk=>!Nat.beq k.1 EPO)&&na b g.frz g.kill d then
   (c.den g.val).bind λy =>
    let U1:=(let U:=(bif c.fresh then [] else aE (ac U0 st) g.frz);aM (ac U (ac U0 st)) g.kill++U)++U0
    let U2:=aF (ac U1 st) (g.p&&!c.fresh) c.ps xs y.2++U1
    let r:=br d (ac U2 st (B0+d)).ver (g.p&&!c.fresh) g.p (g.frz.map λk=>(k.1,k.2,(ac U2 st k.1).ver)) (ac U2 st EPO).ver c.rs y.1
    let U3:=r.2++U2
    iO st b ((d,d9 ((ac U3 st d).ver+1) r.1)::U3) κ
   else none
  |none=>none
 |none=>none
def ah:Nat:=140737488355328
def e8 (st:St)(E:TypeId)(e:Ty)(y:Leaf):Option (cq (List e.den)) :=
 bif e.flat then (cG e (aD st y)).map λx=>⟨false,x.2,[],[],[]⟩
 else bif decide (e.sh=e) then (cG e (aD st y)).map λx=>⟨x.1,x.2,bq st [y],[],[]⟩
 else (bZ st (.list true E e) [y]).map λt=>⟨t.p,t.val,t.frz,t.kill,[]⟩
def dx (st st0:St)(U0:Upd)(d:Nat)(E:TypeId)(e:Ty)(bytes:Nat)(p:Bool)(xs:List e.den)(ks:List (Nat×Nat))(y:Leaf)(κ:Upd->Option R):Option R :=
 match e8 st0 E e y with
 |some t=>bif aX (t.kill++ks)&&db t.frz (t.kill++ks)&&decide ((xs.length+t.val.length)*bytes<=ah) then
   let U:=aE st0 t.frz
   κ (ce st (aM (ac U st0) (t.kill++ks)++U++U0) d .one [.own (p||t.p) none E e (xs++t.val)])
  else none
 |none=>none
def dM (st:St)(U0:Upd)(d:Nat)(E:TypeId)(e:Ty)(bytes:Nat)(x y:Leaf)(κ:Upd->Option R):Option R :=
 match x with
 |.al r j v=>match aD (ac U0 st) (.al r j v) with
  |.own p none E' e' xs=>bif Nat.beq E' E&&decide (e'.sh=e.sh) then dx st (ac U0 st) U0 d E' e' bytes p xs [(r,j)] y κ else none
  |_=>none
 |.nil=>dx st (ac U0 st) U0 d E e bytes false [] [] y κ
 |_=>none
def gw (st:St)(d:Nat)(E:TypeId)(e:Ty)(bytes:Nat)(x y:Leaf)(κ:Upd->Option R):Option R :=
 bif im x then kE st x λU0 x=>dM st U0 d E e bytes x y κ else dM st [] d E e bytes x y κ
def cN (st:St)(x:Option Operand)(dflt:Int):Option Int :=
 match x with
 |none=>some dflt
 |some l=>match one st l with
  |.int _ n=>some n
  |_=>none
def eD (st:St)(flds:List (Nat×Nat×Bool)):List (Nat×Operand)->List Leaf->Option (List Leaf)
 |[],ls=>some ls
 |(i,x)::ps,ls=>match flds[i]? with
  |some (off,n,agg)=>bif Nat.beq (ar st x).2.length n&&decide ((ar st x).1=be agg)&&decide (off+n<=ls.length) then eD st flds ps (iy ls (ar st x).2 off) else none
  |none=>none
def dQ (st:St)(e:Ty):Nat->List (Nat×Operand)->Option (cq (List e.den))
  |_,[]=>some ⟨false,[],[],[],[]⟩
  |k,(i,x)::ps=>bif Nat.beq i k&&decide ((ar st x).1=be e.isAgg) then
      match bZ st e (ar st x).2,dQ st e (k+1) ps with
      |some t,some u=>some ⟨t.p||u.p,t.val::u.val,t.frz++u.frz,t.kill++u.kill,[]⟩
      |_,_=>none
    else none
def eO (st:St)(e:Ty):Nat->List Leaf->Option (List e.den)
 |0,_=>some []
 |n+1,ls=>match ct st e (ls.take e.cells),eO st e n (ls.drop e.cells) with
  |some (_,x),some xs=>some (x::xs)
  |_,_=>none
def qI (st:St)(xs:List Operand):Option (List Nat) :=
 xs.foldl (λ (acc:Option (List Nat)) x=>acc.bind λl=>match one st x with
  |.bp b 0=>some (l++[b])
  |_=>none) (some [])
def wrU (o:Oper)(st:St)(κ:Upd->Option R)(sh:aG)(ls:List Leaf):Option R:=match o.dst with
 |some d=>κ (ce st [] d sh ls)
 |none=>none
def cu (h:Option (Nat×Nat))(i:Nat):Option Nat:=match h with
 |some (hi,ho)=>bif Nat.beq hi i then some ho else none
 |none=>none
def fH (st:St)(r j i off:Nat)(n:Nat)(p:Bool)(E:TypeId)(e:Ty)(xs:List e.den)(h:Option (Nat×Nat))(ls:List Leaf)(κ:Upd->Option R):Option R :=
 (idx xs (i:Int)).bind λold =>
  match cJ st off n e 0 old ls with
  |some t=>bif t.rest.isEmpty&&aX t.kill&&db t.frz t.kill&&!((t.kill++t.frz).any λk=>Nat.beq k.1 r) then
    let U1:=aE st t.frz
    let U2:=aM (ac U1 st) t.kill++U1
    let fin (l:Leaf):Option R:=κ ((r,⟨(st r).ver,(st r).sh,aQ (st r).ls j l⟩)::(EPO,bN (ac U2 st EPO))::U2)
    match h with
    |none=>fin (.own (p||t.p) none E e (xs.set i t.val))
    |some (hi,ho)=>bif Nat.ble off ho&&Nat.blt ho (off+n) then (bif Nat.beq i hi then fin (.own (p||t.p) none E e (xs.set i t.val)) else fin (.own (p||t.p) (some (hi,ho)) E e (xs.set i t.val)))
     else fin (.own (p||t.p) (some (hi,ho)) E e (xs.set i t.val))
   else none
  |none=>none
def qu (r:Nat):Bool:=!Nat.beq r TMP&&!Nat.beq r EPO
def gx (s:ByteArray):List Int:=s.data.toList.map λb=>(b.toNat:Int)
def fI (xs:List Int):ByteArray:=ByteArray.mk (xs.map λn=>UInt8.ofNat n.toNat).toArray
def act (Γ:List Ctr)(T:TypeId->TI)(o:Oper)(st:St)(κ:Upd->Option R):Option R :=
 let w (sh:aG) (ls:List Leaf):Option R:=wrU o st κ sh ls
 let w1 (l:Leaf):Option R:=w .one [l]
 match o.op with
 |.move x=>let v:=ar st x;w v.1 v.2
 |.assign x=>match o.dst with
  |some d=>let v:=ar st x;bif gi st v.2 then κ (ce st (mvU st v.2) d v.1 (dk st v.2)) else none
  |none=>none
 |.pick c a b=>match one st c with
  |.bool t=>bif t then (let v:=ar st a;w v.1 v.2) else (let v:=ar st b;w v.1 v.2)
  |_=>none
 |.alloc t=>match o.dst with
  |some d=>bif decide ((st (B0+d)).sh=.off)&&!decide ((T t).cells=0) then κ ((B0+d,⟨(st (B0+d)).ver+1,.agg,(T t).zero⟩)::ce st [] d .one [.bp (B0+d) 0]) else none
  |none=>none
 |.box t x=>match o.dst with
  |some d=>let v:=ar st x
   bif decide ((st (B0+d)).sh=.off)&&decide (v.2.length=(T t).cells)&&decide (v.1=be (T t).agg)&&gi st v.2 then
    (bif qG st x then κ ((B0+d,⟨(st (B0+d)).ver+1,.agg,v.2⟩)::ce st [] d .one [.bp (B0+d) 0])
    else (let U:=mvU st v.2
     κ ((B0+d,⟨(ac U st (B0+d)).ver+1,.agg,dk st v.2⟩)::ce st U d .one [.bp (B0+d) 0])))
   else none
  |none=>none
 |.build t parts=>match T t with
  |.struct a flds=>match eD st flds parts.toList (ee a) with
   |some ls=>w .agg ls
   |none=>none
  |.arr e n=>match eD st ((List.range n).map λi=>(i*e.cells,e.cells,e.isAgg)) parts.toList (List.replicate n (ee e)).flatten with
   |some ls=>w .agg ls
   |none=>none
  |_=>none
 |.buildSlice t n parts=>match T t with
  |.slice E e _=>match dQ st e 0 parts.toList with
   |some u=>bif Nat.beq u.val.length n&&decide (n*e.cells<=16777216)&&aX u.kill&&db u.frz u.kill then (match o.dst with
     |some d=>let U:=aE st u.frz;κ (ce st (aM (ac U st) u.kill++U) d .one [.own u.p none E e u.val])
     |none=>none) else none
   |none=>none
  |_=>none
 |.load t x =>
  bif decide ((T t).cells=0) then none else
  match one st x with
  |.rp p a y off=>bif decide (off+(T t).cells<=a.cells) then w (be (T t).agg) (((co p a y).drop off).take (T t).cells) else none
  |.bp b off=>bif decide ((st b).sh=.agg)&&decide (off+(T t).cells<=(st b).ls.length) then w (be (T t).agg) (((bu b (st b).ver 0 (st b).ls).drop off).take (T t).cells) else none
  |.rpp p a y=>bif Nat.beq (T t).cells 1&&!(T t).agg then w1 (.rp p a y 0) else none
  |.np p ks ep a y off=>bif bj st ks ep&&decide (off+(T t).cells<=a.cells) then w (be (T t).agg) (((ke p ks ep a y).drop off).take (T t).cells) else none
  |.ep r j v i sz off=>match aD st (.al r j v) with
   |.own p h _ e xs=>bif Nat.beq sz e.cells&&decide (off+(T t).cells<=e.cells) then (idx xs (i:Int)).bind λy=>w (be (T t).agg) (((gr p r j v (st EPO).ver i sz (cu h i) e 0 y).drop off).take (T t).cells) else none
   |_=>none
  |_=>none
 |.store t x y=>match o.dst with
  |some _=>none
  |none =>
  let v:=(ar st y).2
  bif Nat.beq v.length (T t).cells&&decide ((ar st y).1=be (T t).agg)&&!decide ((T t).cells=0) then
   match one st x with
   |.bp b off=>bif decide ((st b).sh=.agg)&&decide (off+v.length<=(st b).ls.length)&&gi st v then
     let U:=mvU st v
     let c:=ac U st b
     κ ((b,⟨c.ver+1,.agg,iy c.ls (dk st v) off⟩)::U)
    else none
   |.ep r j ver i sz off=>match aD st (.al r j ver) with
    |.own p h E e xs=>bif Nat.beq sz e.cells&&decide (off+v.length<=e.cells)&&qu r then fH st r j i off v.length p E e xs h v κ else none
    |_=>none
   |_=>none
  else none
 |.nilCheck x=>match one st x with
  |.rp p a y off=>w1 (.rp p a y off)
  |.bp b off=>w1 (.bp b off)
  |.ep r j v i sz off=>bif Nat.beq (st r).ver v then w1 (.ep r j v i sz off) else none
  |.rpp p a y=>w1 (.rpp p a y)
  |.np p ks ep a y off=>bif bj st ks ep then w1 (.np p ks ep a y off) else none
  |_=>none
 |.binOp op t x y _=>match one st x,one st y with
  |.int k a,.int k' b =>
   match op with
   |.shl=>bif decide (b<0) then none else w1 (.int k (k.wrap (a*2 ^ (min b.toNat k.bits))))
   |.shr=>bif decide (b<0) then none else w1 (.int k (a.fdiv (2 ^ (min b.toNat k.bits))))
   |.quo=>bif decide (b=0) then none else bif decide (k=k') then w1 (.int k (k.wrap (a.tdiv b))) else none
   |.rem=>bif decide (b=0) then none else bif decide (k=k') then w1 (.int k (a.tmod b)) else none
   |.and=>bif decide (k=k') then w1 (.int k (k.wrap ((BitVec.ofInt k.bits a &&& BitVec.ofInt k.bits b).toNat))) else none
   |.xor=>bif decide (k=k') then w1 (.int k (k.wrap ((BitVec.ofInt k.bits a ^^^ BitVec.ofInt k.bits b).toNat))) else none
   |_=>bif decide (k=k') then (match qH op k a b with|some l=>w1 l|none=>none) else none
  |.bool a,.bool b=>match T t with
   |.bool=>match op with
    |.eql=>w1 (.bool (a==b))
    |.neq=>w1 (.bool (a != b))
    |_=>none
   |_=>none
  |.str a,.str b=>match op with
   |.eql=>w1 (.bool (a.toList==b.toList))
   |.neq=>w1 (.bool (a.toList != b.toList))
   |.add=>bif decide ((a.size:Int)+b.size<=9223372036854775807) then w1 (.str (a++b)) else none
   |_=>none
  |_,_=>match T t with
   |.struct a _=>bif a.flat&&decide ((ar st x).1=.agg)&&decide ((ar st y).1=.agg) then
     match ct st a (ar st x).2,ct st a (ar st y).2 with
     |some (_,u),some (_,v)=>match op with
      |.eql=>w1 (.bool (a.eqv u v))
      |.neq=>w1 (.bool (!a.eqv u v))
      |_=>none
     |_,_=>none
    else none
   |_=>none
 |.unOp op _ x=>match op,one st x with
  |.not,.bool b=>w1 (.bool (!b))
  |.neg,.int k n=>w1 (.int k (k.wrap (0-n)))
  |_,_=>none
 |.convert s t x=>match T s,T t,one st x with
  |.int _,.int k,.int _ n=>w1 (.int k (k.wrap n))
  |.slice _ (.int .u8) _,.str,l=>match cG (.int .u8) (aD st l) with
   |some (_,xs)=>w1 (.str (fI xs))
   |none=>none
  |_,_,_=>none
 |.makeSlice t n c=>match T t,one st n,one st c with
  |.slice E e bytes,.int _ a,.int _ b =>
   bif decide (0<=a)&&decide (a=b)&&decide (a*bytes<=ah) then w1 (.own false none E e (List.replicate a.toNat e.zero)) else none
  |_,_,_=>none
 |.slice t x lo hi mx=>match mx,o.dst with
  |none,some d=>match cN st lo 0 with
   |none=>none
   |some i=>match T t,aD st (one st x) with
    |.str,.str s=>(match cN st hi s.size with
     |some h=>bif decide (0<=i)&&decide (i<=h)&&decide (h<=(s.size:Int)) then κ (ce st [] d .one [.str (s.extract i.toNat h.toNat)]) else none
     |none=>none)
    |.slice _ e' _,.nal p ks ep _ E e xs=>(match cN st hi xs.length with
     |some h=>bif decide (0<=i)&&decide (i<=h)&&decide (h<=(xs.length:Int))&&Nat.beq e'.cells e.cells then
       κ (ce st [] d .one [.nal p ks ep none E e ((xs.take h.toNat).drop i.toNat)]) else none
     |none=>none)
    |.slice _ e' _,.ro p E e xs=>(match cN st hi xs.length with
     |some h=>bif decide (0<=i)&&decide (i<=h)&&decide (h<=(xs.length:Int))&&Nat.beq e'.cells e.cells then
       κ (ce st [] d .one [.ro p E e ((xs.take h.toNat).drop i.toNat)]) else none
     |none=>none)
    |.slice _ e' _,.own p none E e xs=>(match cN st hi xs.length with
     |some h=>bif decide (0<=i)&&decide (i<=h)&&decide (h<=(xs.length:Int))&&Nat.beq e'.cells e.cells then
       (match one st x with
       |.al r j v=>κ (ce st [] d .one [.nal p [(r,j,v)] (st EPO).ver none E e ((xs.take h.toNat).drop i.toNat)])
       |_=>none) else none
     |none=>none)
    |_,_=>none
  |some m,some d=>match lo,T t,one st x with
   |none,.slice _ e' _,.al r j v=>(match aD st (.al r j v) with
    |.own p none E e xs=>(match cN st hi xs.length,cN st (some m) 0 with
     |some h,some k=>bif hi.isSome&&decide (h=(xs.length:Int))&&decide (k=(xs.length:Int))&&Nat.beq e'.cells e.cells then κ (ce st (aM st [(r,j)]) d .one [.own p none E e xs]) else none
     |_,_=>none)
    |_=>none)
   |_,_,_=>none
  |_,_=>none
 |.fieldAddr t x f=>match T t with
  |.struct _ flds=>match flds[f]? with
   |some (off,_,_)=>match one st x with
    |.rp p a y o'=>w1 (.rp p a y (o'+off))
    |.bp b o'=>w1 (.bp b (o'+off))
    |.ep r j v i sz o'=>bif Nat.beq (st r).ver v then w1 (.ep r j v i sz (o'+off)) else none
    |.np p ks ep a y o'=>bif bj st ks ep then w1 (.np p ks ep a y (o'+off)) else none
    |_=>none
   |none=>none
  |_=>none
 |.field t x f=>match T t with
  |.struct a flds=>match flds[f]? with
   |some (off,n,agg)=>bif decide ((ar st x).1=.agg)&&decide ((ar st x).2.length=a.cells) then w (be agg) (((ar st x).2.drop off).take n) else none
   |none=>none
  |_=>none
 |.indexAddr t x i=>match one st i with
  |.int _ n=>match T t with
   |.arr e len=>match one st x with
    |.bp b off=>bif decide (0<=n)&&decide (n<(len:Int)) then w1 (.bp b (off+n.toNat*e.cells)) else none
    |_=>none
   |.slice _ e _=>match one st x with
    |.al r j v=>match aD st (.al r j v) with
     |.own _ _ _ e' xs=>bif Nat.beq e'.cells e.cells then (idx xs n).bind λ_=>w1 (.ep r j v n.toNat e'.cells 0) else none
     |_=>none
    |.ro p _ e' xs=>bif Nat.beq e'.cells e.cells then (idx xs n).bind λy=>w1 (.rp p e' y 0) else none
    |.nal p ks ep _ _ e' xs=>bif Nat.beq e'.cells e.cells&&bj st ks ep then (idx xs n).bind λy=>w1 (.np p ks ep e' y 0) else none
    |_=>none
   |_=>none
  |_=>none
 |.index t x i=>match one st i with
  |.int _ n=>match T t with
   |.str=>match one st x with
    |.str s=>(idx s.data.toList n).bind λy=>w1 (.int .u8 y.toNat)
    |_=>none
   |.arr e len=>bif e.flat&&decide ((ar st x).1=.agg)&&Nat.beq (ar st x).2.length (len*e.cells)&&!Nat.beq e.cells 0 then (match eO st e len (ar st x).2 with
     |some vs=>(idx vs n).bind λy=>w (be e.isAgg) (co false e y)
     |none=>none) else none
   |_=>none
  |_=>none
 |.extract x i=>match ar st x with
  |(.tup ps,ls)=>match ps[i]? with
   |some (agg,n)=>w (be agg) ((ls.drop ((ps.take i).foldl (λa b=>a+b.2) 0)).take n)
   |none=>none
  |_=>none
 |.makeFunc (.func f) first caps=>bif Nat.beq first.size 0 then
   match qI st caps.toList with
   |some l=>w1 (.clo f l)
   |none=>none
  else none
 |.call c=>match o.dst with
  |none=>none
  |some d=>match c.callee with
   |.value f =>
    let xs:=c.args.toList.map (ar st)
    match one st f with
    |.clo g caps=>ip Γ st d g (xs++caps.map λb=>(.one,[.bp b 0])) κ
    |.clr g caps=>ip Γ st d g (xs++caps.map λc=>(.one,[d8 c])) κ
    |.fn As B φ=>bif B.flat then match gG st As xs with
      |some x=>(φ x).bind λy=>w (be B.isAgg) (aq false B y)
      |none=>none
     else none
    |_=>none
   |.builtin .len=>match c.args.toList with
    |[x]=>match c.argTypes.toList with
     |[t]=>match T t,aD st (one st x) with
      |.slice _ _ _,l=>(match ff l with
       |some n=>w1 (.int .i64 n)
       |none=>none)
      |.str,.str s=>w1 (.int .i64 s.size)
      |_,_=>none
     |_=>none
    |_=>none
   |.builtin .append=>match c.args.toList,c.argTypes.toList with
    |[x,y],[t,u]=>match T t with
     |.slice E e bytes=>bif Nat.beq t u then gw st d E e bytes (one st x) (one st y) κ else none
     |_=>none
    |_,_=>none
   |.builtin .min=>match c.args.toList with
    |[x,y]=>match one st x,one st y with
     |.int k a,.int _ b=>w1 (.int k (bif decide (b<a) then b else a))
     |_,_=>none
    |_=>none
   |.builtin .max=>match c.args.toList with
    |[x,y]=>match one st x,one st y with
     |.int k a,.int _ b=>w1 (.int k (bif decide (a<b) then b else a))
     |_,_=>none
    |_=>none
   |_=>none
 |_=>none
def ay:List Leaf->List Nat
 |[]=>[]
 |.al r _ _::ls=>r::ay ls
 |.ep r _ _ _ _ _::ls=>EPO::r::ay ls
 |.nal _ ks _ _ _ _ _::ls=>EPO::ks.map (·.1)++ay ls
 |.np _ ks _ _ _ _::ls=>EPO::ks.map (·.1)++ay ls
 |.bp b _::ls=>b::ay ls
 |.clo _ caps::ls=>caps++ay ls
 |_::ls=>ay ls
def gy (xs:List Operand):List Nat :=
 match xs with
 |[]=>[]
 |.tmp t::xs=>t::gy xs
 |_::xs=>gy xs
def jz (st:St)(ts:List Nat):List Nat :=
 let a:=ts.flatMap λt=>ay (st t).ls
 let b:=a.flatMap λt=>ay (st t).ls
 let c:=b.flatMap λt=>ay (st t).ls
 ts++a++b++c
def cd (st:St)(op:Op):List Nat :=
 let ts:=gy op.operands.toList
 match op with
 |.move _|.pick _ _ _|.build _ _|.field _ _ _|.extract _ _|.makeFunc _ _ _|.unOp _ _ _|.makeSlice _ _ _|.alloc _=>ts
 |.slice _ _ _ _ _=>EPO::(ts++ts.flatMap λt=>aw (st t).ls)
 |.assign _|.box _ _|.buildSlice _ _ _|.indexAddr _ _ _|.nilCheck _|.fieldAddr _ _ _|.convert _ _ _|.binOp _ _ _ _ _|.index _ _ _=>ts++ts.flatMap λt=>aw (st t).ls
 |.load _ _|.store _ _ _=>ts++ts.flatMap λt=>ay (st t).ls
 |.call c=>match c.callee with
  |.builtin _=>TMP::(ts++ts.flatMap λt=>aw (st t).ls)
  |_=>TMP::EPO::jz st ts
 |_=>jz st ts
def xo (o:Oper):List Nat:=match o.dst with
 |some d=>[d,B0+d]
 |none=>[]
def eh (st:St)(op:Op):List Nat :=
 let ts:=gy op.operands.toList
 match op with
 |.move _=>ts
 |.indexAddr _ _ _=>ts++ts.flatMap λt=>aw (st t).ls
 |_=>[]
def eE (st:St)(o:Oper):List Nat:=(match o.op with|.move _|.indexAddr _ _ _=>[]|op=>cd st op)++xo o
def dz (st:St)(o:Oper):List Nat:=match o.op with
 |.store _ x _=>match one st x with
  |.ep r _ _ _ _ _=>[r]
  |_=>[]
 |_=>[]
structure cr where
 rd:List Nat
 hd:List Nat
 wr:List Nat
 cw:List Nat
def kF (a b:List Nat):Bool:=a.any λx=>b.any λy=>Nat.beq x y
def cr.apart (x y:cr):Bool:=!kF (x.wr++x.cw) (y.wr++y.cw)&&!kF (x.wr++x.cw) y.rd&&!kF x.rd (y.wr++y.cw)&&!kF x.wr y.hd&&!kF x.hd y.wr
def iG:List Oper->List Nat->List Nat
 |[],acc=>acc
 |o::rest,acc=>iG rest (acc++[o.after.toList.foldl (λs e=>bif Region.binds .any e then s ||| 2 ^ e.on ||| acc.getD e.on 0 else s) 0])
def nP (before:List Nat)(ts:List cr):Bool :=
 (List.range ts.length).all λj=>(List.range j).all λi =>
  (before.getD j 0).testBit i||(match ts[i]?,ts[j]? with
   |some x,some y=>x.apart y
   |_,_=>false)
def lit (st:St)(t:Nat)(b:Bool):St:=ac [(t,⟨(st t).ver,.one,[.bool b]⟩)] st
def dZ (st:St)(o:Oper):Upd :=
 match o.dst with
 |some d=>[(d,⟨(st d).ver+1,.und,[]⟩)]
 |none=>[]
def opK (Γ:List Ctr)(T:TypeId->TI)(all:Array Oper)(o:Oper)(st:St)(κ:St->cr->Option R):Option R :=
 let go (st:St) (more:List Nat):Option R:=act Γ T o st (λU=>κ (ac U st) ⟨more++eE st o,eh st o.op,(U.map (·.1)).filter (λq=>!((dz st o).any (Nat.beq q))),dz st o⟩)
 let no (st:St) (more:List Nat):Option R:=κ (ac (dZ st o) st) ⟨more,[],o.dst.toList,[]⟩
 match o.guard with
 |none=>go st []
 |some (j,want)=>match (all[j]?).bind (·.dst) with
  |some t=>match (st t).sh,(st t).ls with
   |.one,[.bool b]=>bif b then (bif want then go (lit st t true) [t] else no (lit st t true) [t]) else (bif want then no (lit st t false) [t] else go (lit st t false) [t])
   |.und,_=>no st [t]
   |_,_=>none
  |none=>none
def oU (Γ:List Ctr)(T:TypeId->TI)(all:Array Oper):List Oper->St->List cr->(St->List cr->Option R)->Option R
 |[],st,ts,κ=>κ st ts
 |o::rest,st,ts,κ=>opK Γ T all o st (λst' t=>oU Γ T all rest st' (ts++[t]) κ)
def ml (ops:Array Oper):Bool:=(List.range ops.size).all λi=>match ops[i]? with
 |some o=>o.after.toList.all λe=>!Region.binds .any e||decide (e.on<i)
 |none=>true
def regK (Γ:List Ctr)(T:TypeId->TI)(ops:Array Oper)(draw:Bool)(st:St)(κ:St->Option R):Option R :=
 bif draw then
  oU Γ T ops ops.toList st [] (λst' ts=>bif ml ops&&nP (iG ops.toList []) ts then κ st' else none)
 else oU Γ T ops ops.toList st [] (λst' _=>κ st')
inductive Ex where
 |normal|exit (id:Nat)|ret
def qJ (ev:St->(Ex->St->Option R)->Option R)(κ:Ex->St->Option R):Ex->St->Option R
 |.normal,st=>ev st κ
 |e,st=>κ e st
def qK (id:Nat)(κ:Ex->St->Option R):Ex->St->Option R
 |.exit id',st=>bif Nat.beq id' id then κ .normal st else κ (.exit id') st
 |e,st=>κ e st
def aA (L:List (Nat×bM)):St:=λq=>ac L (λ_=>bM.none) q
inductive Coe where
 |keep|kill
 |own (p:Bool) (E:TypeId) (e:Ty)|ro (p:Bool) (E:TypeId) (e:Ty)|rp (p:Bool)
def bo (st:St)(live:List Nat):Coe->Leaf->Leaf
 |.kill,_=>.dead
 |.own p E e,.nil=>.own p none E e []
 |.own p _ _,.own q none E e xs=>bif !q||p then .own p none E e xs else .dead
 |.ro p E e,.nil=>.ro p E e []
 |.ro p E e,.ro q _ e' xs=>bif !q||p then (match castSh e e' xs with | some ys=>.ro p E e ys | none=>.dead) else .dead
 |.ro p E e,.own q none _ e' xs=>bif !q||p then (match castSh e e' xs with | some ys=>.ro p E e ys | none=>.dead) else .dead
 |.rp p,.rpp q a x=>bif !q||p then .rpp p a x else .dead
 |.rp p,.rp q a x off=>bif !q||p then .rp p a x off else .dead
 |.keep,.int k n=>.int k n
 |.keep,.bool b=>.bool b
 |.keep,.str s=>.str s
 |.keep,.nil=>.nil
 |.keep,.hdr n=>.hdr n
 |.keep,.fn As B φ=>.fn As B φ
 |.keep,.clr f cs=>.clr f cs
 |.keep,.bp b off=>bif live.any (Nat.beq b) then .bp b off else .dead
 |.keep,.clo f caps=>bif caps.all (λb=>live.any (Nat.beq b)) then .clo f caps else .dead
 |.keep,.al r j v=>bif live.any (Nat.beq r)&&Nat.beq (st r).ver v then .al r j 0 else .dead
 |_,_=>.dead
def cH (st:St)(live:List Nat):List Coe->List Leaf->List Leaf
 |c::cs,l::ls=>bo st live c l::cH st live cs ls
 |[],_::ls=>.dead::cH st live [] ls
 |_,[]=>[]
def kG (live:List (Nat×List Coe))(st:St):St:=aA (live.map λr=>(r.1,⟨0,(st r.1).sh,cH st (live.map (·.1)) r.2 (st r.1).ls⟩))
def b7 (live:List (Nat×List Coe))(rec:St->Option R)(κ:Ex->St->Option R):Ex->St->Option R
 |.normal,st=>rec (kG live st)
 |e,st=>κ e st
def bQ (live:List (Nat×List Coe))(ev:St->(Ex->St->Option R)->Option R):Nat->St->(Ex->St->Option R)->Option R
 |0,_,_=>none
 |k+1,st,κ=>ev st (b7 live (λst'=>bQ live ev k st' κ) κ)
def ea:Code->Nat
 |.region id _ _=>id+1
 |.seq a b=>match ea a with
  |0=>ea b
  |n=>n
 |.cond _ a b=>match ea a with
  |0=>ea b
  |n=>n
 |.block _ c=>ea c
 |.loop c=>ea c
 |.scope c=>ea c
 |_=>0
def kh (L:List (Nat×List (Nat×List Coe)))(k:Nat):List (Nat×List Coe):=match L with
 |[]=>[]
 |(n,l)::rest=>bif Nat.beq n k then l else kh rest k
def xp (st:St)(c:Operand)(yes no:St->Option R):Option R :=
 match c with
 |.tmp t=>match (st t).sh,(st t).ls with
  |.one,[.bool b]=>bif b then yes (lit st t true) else no (lit st t false)
  |_,_=>none
 |.const (.bool b)=>bif b then yes st else no st
 |_=>none
def evK (Γ:List Ctr)(T:TypeId->TI)(L:List (Nat×List (Nat×List Coe)))(fuel:Nat):Code->St->(Ex->St->Option R)->Option R
 |.skip,st,κ=>κ .normal st
 |.region _ ops draw,st,κ=>regK Γ T ops draw st (κ .normal)
 |.seq a b,st,κ=>evK Γ T L fuel a st (qJ (evK Γ T L fuel b) κ)
 |.cond c x y,st,κ=>xp st c (λst=>evK Γ T L fuel x st κ) (λst=>evK Γ T L fuel y st κ)
 |.block id c,st,κ=>evK Γ T L fuel c st (qK id κ)
 |.loop c,st,κ=>bQ (kh L (ea c)) (evK Γ T L fuel c) fuel (kG (kh L (ea c)) st) κ
 |.exit id,st,κ=>κ (.exit id) st
 |.ret,st,κ=>κ .ret st
 |_,_,_=>none
def sub:Code->List Nat->Code
 |.seq a _,0::p=>sub a p
 |.seq _ b,1::p=>sub b p
 |.cond _ x _,0::p=>sub x p
 |.cond _ _ y,1::p=>sub y p
 |.block _ c,0::p=>sub c p
 |.loop c,0::p=>sub c p
 |c,_=>c
def kAt (ev:Code->St->(Ex->St->Option R)->Option R):Code->List Nat->(Ex->St->Option R)->Ex->St->Option R
 |.seq a b,0::p,κ=>kAt ev a p (qJ (ev b) κ)
 |.seq _ b,1::p,κ=>kAt ev b p κ
 |.cond _ x _,0::p,κ=>kAt ev x p κ
 |.cond _ _ y,1::p,κ=>kAt ev y p κ
 |.block id c,0::p,κ=>kAt ev c p (qK id κ)
 |_,_,κ=>κ
def dR (fn:Func):Code:=match fn.body with
 |some c=>c
 |none=>.skip
def ae {A:Type}(step:(A->Option R)->A->Option R):Nat->A->Option R
 |0,_=>none
 |k+1,a=>step (ae step k) a
theorem aT {A:Type}(live:List (Nat×List Coe))(ev:St->(Ex->St->Option R)->Option R)(κ:Ex->St->Option R)(S:A->St)
  (step:(A->Option R)->A->Option R) (h:∀ (rec:St->Option R) (a:A),ev (S a) (b7 live rec κ)=step (λa=>rec (S a)) a) :
  ∀ (k:Nat) (a:A),bQ live ev k (S a) κ=ae step k a
 |0,_=>rfl
 |k+1,a=>by
  have ih:=aT live ev κ S step h k
  simp only[bQ,ae]
  rw[h]
  exact congrArg (λg=>step g a) (funext ih)
abbrev wr (k:IntKind)(n:Int):Int:=k.wrap n
def bb (k:IntKind)(a b:Int):Int:=k.wrap ((BitVec.ofInt k.bits a &&& BitVec.ofInt k.bits b).toNat)
def oV (k:IntKind)(a b:Int):Int:=k.wrap ((BitVec.ofInt k.bits a ^^^ BitVec.ofInt k.bits b).toNat)
def iP (p:Bool):(cs:List (Bool×Ty))->kC cs->List (Bool×Bool×(a:Ty)×a.den)
 |[],_=>[]
 |c::cs,x=>(p,c.1,⟨c.2,x.1⟩)::iP p cs x.2
def sM (i off:Nat):Leaf->Leaf
 |.own p _ E e xs=>.own p (some (i,off)) E e xs
 |l=>l
def dc (t:Nat):(ps:List PK)->ab ps->Upd
 |[],_=>[]
 |.rd a::ps,x=>(t,⟨0,be a.isAgg,co true a x.1⟩)::dc (t+1) ps x.2
 |.own a::ps,x=>(t,⟨0,be a.isAgg,aq true a x.1⟩)::dc (t+1) ps x.2
 |.io a::ps,x=>(t,⟨7,be a.isAgg,aq true a x.1⟩)::dc (t+1) ps x.2
 |.rref a::ps,x=>(t,⟨0,.one,[.rp true a x.1 0]⟩)::dc (t+1) ps x.2
 |.rref2 a::ps,x=>(t,⟨0,.one,[.rpp true a x.1]⟩)::dc (t+1) ps x.2
 |.iop a::ps,x=>(t,⟨0,.one,[.bp (B0+t) 0]⟩)::(B0+t,⟨0,.agg,aq true a x.1⟩)::dc (t+1) ps x.2
 |.fn As B::ps,x=>(t,⟨0,.one,[.fn As B x.1]⟩)::dc (t+1) ps x.2
 |.clo f cs::ps,x=>(t,⟨0,.one,[.clr f (iP true cs x.1)]⟩)::dc (t+1) ps x.2
 |.hol a c off::ps,x=>(t,⟨0,be a.isAgg,aQ (aq true a x.1.1) c (sM x.1.2 off ((aq true a x.1.1).getD c .dead))⟩)::dc (t+1) ps x.2
def gj (st:St)(t:Nat):(ps:List PK)->Option (cq (aj ps))
 |[]=>some ⟨false,(),[],[],[]⟩
 |.io a::ps=>match (bif decide ((ar st (.tmp t)).1=be a.isAgg) then bZ st a (ar st (.tmp t)).2 else none),gj st (t+1) ps with
  |some x,some y=>some ⟨x.p||y.p,(x.val,y.val),x.frz++y.frz,x.kill++y.kill,[]⟩
  |_,_=>none
 |.iop a::ps=>match bZ st a (bu (B0+t) (st (B0+t)).ver 0 (st (B0+t)).ls),gj st (t+1) ps with
  |some x,some y=>some ⟨x.p||y.p,(x.val,y.val),x.frz++y.frz,x.kill++y.kill,[]⟩
  |_,_=>none
 |.rd _::ps=>gj st (t+1) ps
 |.own _::ps=>gj st (t+1) ps
 |.rref _::ps=>gj st (t+1) ps
 |.rref2 _::ps=>gj st (t+1) ps
 |.fn _ _::ps=>gj st (t+1) ps
 |.clo _ _::ps=>gj st (t+1) ps
 |.hol _ _ _::ps=>gj st (t+1) ps
def tE (st:St)(T:TypeId->TI):ResultVar->List Leaf
 |.tmp t=>(ar st (.tmp t)).2
 |.cell t ty=>match one st (.tmp t) with
  |.bp b off=>((bu b (st b).ver 0 (st b).ls).drop off).take (T ty).cells
  |_=>[]
def nQ (st:St)(T:TypeId->TI):ResultVar->aG
 |.tmp t=>(ar st (.tmp t)).1
 |.cell t ty=>match one st (.tmp t) with
  |.bp b off=>bif decide ((st b).sh=.agg)&&Nat.ble (off+(T ty).cells) (st b).ls.length&&!Nat.beq (T ty).cells 0 then be (T ty).agg else .off
  |_=>.off
def RK.sh:RK->aG
 |.v a=>be a.isAgg
 |.bv a=>be a.isAgg
 |.box _=>.one
def bw (t:Nat):List PK->List Nat
 |[]=>[]
 |.iop _::ps=>(B0+t)::bw (t+1) ps
 |_::ps=>bw (t+1) ps
def fk (t:Nat):List PK->List Nat
 |[]=>[]
 |.io _::ps=>t::fk (t+1) ps
 |.iop _::ps=>t::fk (t+1) ps
 |_::ps=>fk (t+1) ps
def qv (st:St)(fx:List Nat):(r:RK)->List Leaf->Option (cq r.den)
 |.v a,ls=>bZ st a ls
 |.bv a,ls=>(ct st a ls).map λy=>⟨false,y.2,bq st ls,[],[]⟩
 |.box a,ls=>match ls with
  |[.bp b 0]=>bif !(fx.any (Nat.beq b)) then bZ st a (bu b (st b).ver 0 (st b).ls) else none
  |_=>none
def jd (st:St)(T:TypeId->TI)(fx:List Nat):(rs:List RK)->List ResultVar->Option (cq (ak rs))
 |[],[]=>some ⟨false,(),[],[],[]⟩
 |r::rs,x::xs=>bif decide (nQ st T x=r.sh) then match qv st fx r (tE st T x),jd st T fx rs xs with
  |some y,some z=>some ⟨y.p||z.p,(y.val,z.val),y.frz++z.frz,y.kill++z.kill,[]⟩
  |_,_=>none else none
 |_,_=>none
def finR (T:TypeId->TI)(ps:List PK)(rs:List RK)(fresh:Bool)(vars:List ResultVar)(st:St):Option (ak rs×aj ps) :=
 match jd st T (bw 0 ps) rs vars,gj st 0 ps with
 |some y,some o=>bif aX (y.kill++o.kill)&&db (y.frz++o.frz) (y.kill++o.kill)&&(!fresh||!(y.p||o.p)) then some (y.val,o.val) else none
 |_,_=>none
def d5 (T:TypeId->TI)(ps:List PK)(rs:List RK)(fresh:Bool)(vars:List ResultVar):Ex->St->Option (ak rs×aj ps)
 |.exit _,_=>none
 |_,st=>finR T ps rs fresh vars st
def ki (nt:Nat)(fix:List Nat)(all:Array Oper)(o:Oper):Bool :=
 (match o.dst with
  |some d=>Nat.blt d nt&&!(fix.any (Nat.beq d))
  |none=>true) &&
 (match o.guard with
  |some (j,_)=>match (all[j]?).bind (·.dst) with
   |some s=>Nat.blt s nt
   |none=>true
  |none=>true)
def uJ (nt:Nat):Operand->Bool
 |.tmp t=>Nat.blt t nt
 |_=>true
def dp (nt:Nat)(fix:List Nat):Code->Bool
 |.region _ ops _=>ops.toList.all (ki nt fix ops)
 |.seq a b=>dp nt fix a&&dp nt fix b
 |.cond c a b=>uJ nt c&&dp nt fix a&&dp nt fix b
 |.block _ c=>dp nt fix c
 |.loop c=>dp nt fix c
 |_=>true
def oW:List RK->Bool
 |[.box _]=>true
 |rs=>rs.all RK.isV
def cX (L:List (Nat×List (Nat×List Coe)))(fx:List Nat):Code->Bool
 |.seq a b=>cX L fx a&&cX L fx b
 |.cond _ a b=>cX L fx a&&cX L fx b
 |.block _ c=>cX L fx c
 |.loop c=>(fx.all λb=>(kh L (ea c)).any λr=>Nat.beq r.1 b)&&cX L fx c
 |_=>true
def evF (Γ:List Ctr)(T:TypeId->TI)(L:List (Nat×List (Nat×List Coe)))(fuel:Nat)(fn:Func)(ps:List PK)(rs:List RK)(fresh:Bool)(x:ab ps):Option (ak rs×aj ps) :=
 match fn.body with
 |some c=>bif dp fn.ntmps (fk 0 ps) c&&Nat.ble ps.length fn.ntmps&&Nat.ble fn.ntmps GH&&oW rs&&cX L (bw 0 ps) c then
  evK Γ T L fuel c (aA (dc 0 ps x)) (d5 T ps rs fresh fn.results.toList) else none
 |none=>none
end
end Go.Proofs.YtmcbmojdeikcdaaGreatEv
namespace Go.Proofs.YtmcbmojdeikcdaaGreatEv
open Go
def gH (e:Ty)(bytes:Nat)(xs:List e.den):Option ((List e.den×Unit)×Unit):=bif decide ((0+xs.length)*bytes<=ah) then some ((xs,()),()) else none
theorem nR (e:Ty)(bytes:Nat):gH e bytes []=some (([],()),()):=by
 unfold gH
 simp[ah]
def oX:Code->Nat->Oper
 |.region _ ops _,i=>(ops[i]?).getD ⟨none,.move (.tmp 0),0,"",#[],none⟩
 |_,_=>⟨none,.move (.tmp 0),0,"",#[],none⟩
def insertM (e:Ty)(bytes:Nat)(xs:List e.den)(i:Int)(vs:List e.den):Option ((List e.den×Unit)×Unit) :=
 if 0<=i/\i<=(xs.length:Int)/\0<vs.length/\(xs.length+vs.length)*bytes<=ah then some ((xs.take i.toNat++vs++xs.drop i.toNat,()),()) else none
def xq {α:Type}(φ:α×Unit->Option Bool):List α->Option (List α)
 |[]=>some []
 |x::xs=>(φ (x,())).bind λb=>(xq φ xs).map λys=>bif b then ys else x::ys
def deleteM (e:Ty)(xs:List e.den)(φ:e.den×Unit->Option Bool):Option ((List e.den×Unit)×Unit):=if xs.length<=1048576 then (xq φ xs).map λys=>((ys,()),()) else none
abbrev Ty.hd:Ty->Ty
 |.pair a b=>.pair a.hd b.hd
 |.list _ _ _=>.hdr
 |a=>a
abbrev hdD:(a:Ty)->a.den->a.hd.den
 |.pair a b,x=>(hdD a x.1,hdD b x.2)
 |.list _ _ e,xs=>List.length (α:=e.den) xs
 |.int _,x=>x
 |.bool,x=>x
 |.str,x=>x
 |.unit,x=>x
 |.hdr,x=>x
noncomputable def cloneHM (e:Ty)(bytes:Nat)(xs:List e.den):Option ((List e.hd.den×Unit)×Unit):=(gH e bytes xs).map λy=>((y.1.1.map (hdD e),()),())
def insI (n:Int):List Int->List Int
 |[]=>[n]
 |m::ms=>if n<=m then n::m::ms else m::insI n ms
def xr:List Int->List Int
 |[]=>[]
 |n::ns=>insI n (xr ns)
def medianM (xs:List Int):Option ((Int×Unit)×Unit) :=
 let l:=xr (xs.drop (xs.length-3))
 some ((l.getD ((l.length-1) / 2) 0,()),())
def aS {R:Type}(x y:ByteArray)(k:ByteArray->Option R):Option R:=bif decide ((x.size:Int)+y.size<=9223372036854775807) then k (x++y) else none
end Go.Proofs.YtmcbmojdeikcdaaGreatEv
