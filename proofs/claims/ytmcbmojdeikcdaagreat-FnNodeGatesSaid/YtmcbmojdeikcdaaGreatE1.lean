/- What a plain value means in memory: reading, owning; the relation between the evaluator's state and the machine's. -/
import Derived.Test.YtmcbmojdeikcdaaGreatE0
import Derived.Below
import Derived.Maps.AppendAt
import Derived.Laws.OwnMore
import Derived.WalkKit
namespace Go.Proofs.YtmcbmojdeikcdaaGreatEv
open Go Go.RowKit
def cE (w:World)(g off:Nat)(cs:List Value):Prop:=∀ i v,cs[i]?=some v->w.cell? ⟨g,off+i,none⟩=some v
theorem cE.same {w w':World}{g off:Nat}{cs:List Value}(h:cE w g off cs)(hg:w'.heap[g]?=w.heap[g]?):cE w' g off cs:=by
 intro i v hv;have:=h i v hv;simpa[World.cell?,hg]using this
def Rd (w:World)(G:Nat->Prop):(a:Ty)->a.den->List Value->Prop
 |.int k,n,cs=>cs=[.int k n]
 |.bool,b,cs=>cs=[.bool b]
 |.str,s,cs=>cs=[.string s]
 |.unit,_,cs=>cs=[]
 |.hdr,n,cs=>∃ A cap,cs=[.slice A n cap]
 |.pair a b,x,cs=>∃ c1 c2,cs=c1++c2/\Rd w G a x.1 c1/\Rd w G b x.2 c2
 |.list _ _ e,xs,cs=>∃ A cap,cs=[.slice A xs.length cap]/\xs.length<=cap /\
  (0<xs.length->∃ g o,A=some ⟨g,o,none⟩/\G g/\∀ j (x:e.den),xs[j]?=some x->∃ c,Rd w G e x c/\cE w g (o+j*e.cells) c)
theorem Rd.carry {w w':World}{G G':Nat->Prop}(hG:∀ k,G k->G' k)(hw:∀ k,G k->w'.heap[k]?=w.heap[k]?) :
  ∀ {a:Ty} {x:a.den} {cs:List Value},Rd w G a x cs->Rd w' G' a x cs
 |.int _,_,_,h=>h
 |.bool,_,_,h=>h
 |.str,_,_,h=>h
 |.unit,_,_,h=>h
 |.hdr,_,_,h=>h
 |.pair _ _,_,_,⟨c1,c2,e,h1,h2⟩=>⟨c1,c2,e,Rd.carry hG hw h1,Rd.carry hG hw h2⟩
 |.list _ _ _,_,_,⟨A,cap,e,hc,h⟩=>⟨A,cap,e,hc,λhp=>by
   obtain⟨g,o,hA,hg,hx⟩:=h hp;exact⟨g,o,hA,hG g hg,λj x hj=>by
    obtain⟨c,hr,hcl⟩:=hx j x hj;exact⟨c,Rd.carry hG hw hr,hcl.same (hw g hg)⟩⟩⟩
theorem Rd.mono {w:World}{G G':Nat->Prop}(hG:∀ k,G k->G' k){a:Ty}{x:a.den}{cs:List Value}(h:Rd w G a x cs):Rd w G' a x cs :=
 Rd.carry hG (λ_ _=>rfl) h
theorem Rd.len {w:World}{G:Nat->Prop}:∀ {a:Ty} {x:a.den} {cs:List Value},Rd w G a x cs->cs.length=a.cells
 |.int _,_,_,h=>by rw[show _=_ from h];rfl
 |.bool,_,_,h=>by rw[show _=_ from h];rfl
 |.str,_,_,h=>by rw[show _=_ from h];rfl
 |.unit,_,_,h=>by rw[show _=_ from h];rfl
 |.hdr,_,_,⟨A,cap,e⟩=>by rw[e];rfl
 |.pair _ _,_,_,⟨c1,c2,e,h1,h2⟩=>by rw[e,List.length_append,Rd.len h1,Rd.len h2];rfl
 |.list _ _ _,_,_,⟨A,cap,e,_,_⟩=>by rw[e];rfl
theorem Rd.one {w:World}{G:Nat->Prop}:∀ {a:Ty} {x:a.den} {cs:List Value},Rd w G a x cs->∀ v∈cs,v.oneCell'=true
 |.int _,_,_,h=>by rw[show _=_ from h];simp[Value.oneCell']
 |.bool,_,_,h=>by rw[show _=_ from h];simp[Value.oneCell']
 |.str,_,_,h=>by rw[show _=_ from h];simp[Value.oneCell']
 |.unit,_,_,h=>by rw[show _=_ from h];simp
 |.hdr,_,_,⟨A,cap,e⟩=>by rw[e];simp[Value.oneCell']
 |.pair _ _,_,_,⟨c1,c2,e,h1,h2⟩=>by
  rw[e];intro v hv;rcases List.mem_append.1 hv with hv|hv
  ·exact Rd.one h1 v hv
  ·exact Rd.one h2 v hv
 |.list _ _ _,_,_,⟨A,cap,e,_,_⟩=>by rw[e];simp[Value.oneCell']
theorem Rd.flat {w w':World}{G G':Nat->Prop}:∀ {a:Ty} {x:a.den} {cs:List Value},a.flat=true->Rd w G a x cs->Rd w' G' a x cs
 |.int _,_,_,_,h=>h
 |.bool,_,_,_,h=>h
 |.str,_,_,_,h=>h
 |.unit,_,_,_,h=>h
 |.hdr,_,_,_,h=>h
 |.pair _ _,_,_,hf,⟨c1,c2,e,h1,h2⟩=>by
  simp only[Ty.flat,Bool.and_eq_true]at hf;exact⟨c1,c2,e,Rd.flat hf.1 h1,Rd.flat hf.2 h2⟩
 |.list _ _ _,_,_,hf,_=>by simp[Ty.flat]at hf
theorem kW:∀ {a b:Ty},a.sh=b.sh->a.cells=b.cells
 |.pair a b,.pair c d,h=>by
  simp only[Ty.sh,Ty.pair.injEq]at h;simp only[Ty.cells,kW h.1,kW h.2]
 |.pair _ _,.int _,h|.pair _ _,.bool,h|.pair _ _,.str,h|.pair _ _,.unit,h|.pair _ _,.hdr,h|.pair _ _,.list _ _ _,h=>by simp[Ty.sh]at h
 |.int _,.pair _ _,h|.bool,.pair _ _,h|.str,.pair _ _,h|.unit,.pair _ _,h|.hdr,.pair _ _,h|.list _ _ _,.pair _ _,h=>by simp[Ty.sh]at h
 |.int _,.int _,_|.int _,.bool,_|.int _,.str,_|.int _,.hdr,_|.int _,.list _ _ _,_=>rfl
 |.bool,.int _,_|.bool,.bool,_|.bool,.str,_|.bool,.hdr,_|.bool,.list _ _ _,_=>rfl
 |.str,.int _,_|.str,.bool,_|.str,.str,_|.str,.hdr,_|.str,.list _ _ _,_=>rfl
 |.hdr,.int _,_|.hdr,.bool,_|.hdr,.str,_|.hdr,.hdr,_|.hdr,.list _ _ _,_=>rfl
 |.list _ _ _,.int _,_|.list _ _ _,.bool,_|.list _ _ _,.str,_|.list _ _ _,.hdr,_|.list _ _ _,.list _ _ _,_=>rfl
 |.unit,.unit,_=>rfl
 |.unit,.int _,h|.unit,.bool,h|.unit,.str,h|.unit,.hdr,h|.unit,.list _ _ _,h=>by simp[Ty.sh]at h
 |.int _,.unit,h|.bool,.unit,h|.str,.unit,h|.hdr,.unit,h|.list _ _ _,.unit,h=>by simp[Ty.sh]at h
theorem wV {A A' B B':Type}(hA:A=A')(hB:B=B'){x:A×B}{y:A'×B'}(h:HEq x y):HEq x.1 y.1/\HEq x.2 y.2:=by
 subst hA;subst hB;cases h;exact⟨HEq.rfl,HEq.rfl⟩
theorem wW {A A':Type}(hA:A=A'){xs:List A}{ys:List A'}(h:HEq xs ys):xs.length=ys.length/\∀ (j:Nat) (y:A'),ys[j]?=some y->∃ x:A,xs[j]?=some x/\HEq x y:=by
 subst hA;cases h;exact⟨rfl,λj y hy=>⟨y,hy,HEq.rfl⟩⟩
theorem Rd.flags {w:World}{G:Nat->Prop}:∀ {a b:Ty} {x:a.den} {y:b.den} {cs:List Value},a.sh=b.sh->HEq x y->Rd w G a x cs->Rd w G b y cs
 |.pair a b,.pair c d,x,y,cs,h,hxy,⟨c1,c2,e,h1,h2⟩=>by
  simp only[Ty.sh,Ty.pair.injEq]at h;obtain⟨h3,h4⟩:=wV (nM h.1) (nM h.2) hxy;exact⟨c1,c2,e,Rd.flags h.1 h3 h1,Rd.flags h.2 h4 h2⟩
 |.list _ _ e,.list _ _ e',xs,ys,cs,h,hxy,⟨A,cap,h1,h2,h3⟩=>by
  simp only[Ty.sh,Ty.list.injEq,true_and]at h;obtain⟨h4,h5⟩:=wW (nM h.2) hxy;refine⟨A,cap,by rw[<- h4];exact h1,by rw[<- h4];exact h2,λhp=>?_⟩;obtain⟨g,o,hA,hg,hx⟩:=h3 (by rw[h4];exact hp);refine⟨g,o,hA,hg,λj y hj=>?_⟩;obtain⟨x,h6,h7⟩:=h5 j y hj;obtain⟨c,h8,h9⟩:=hx j x h6;rw[<- kW h.2];exact⟨c,Rd.flags h.2 h7 h8,h9⟩
 |.int k,.int k',x,y,cs,h,hxy,h1=>by
  simp only[Ty.sh,Ty.int.injEq]at h;subst h;cases hxy;exact h1
 |.bool,.bool,x,y,cs,h,hxy,h1=>by cases hxy;exact h1
 |.str,.str,x,y,cs,h,hxy,h1=>by cases hxy;exact h1
 |.unit,.unit,x,y,cs,h,hxy,h1=>h1
 |.hdr,.hdr,x,y,cs,h,hxy,h1=>by cases hxy;exact h1
 |.pair _ _,.int _,_,_,_,h,_,_|.pair _ _,.bool,_,_,_,h,_,_|.pair _ _,.str,_,_,_,h,_,_|.pair _ _,.unit,_,_,_,h,_,_|.pair _ _,.hdr,_,_,_,h,_,_|.pair _ _,.list _ _ _,_,_,_,h,_,_=>by simp[Ty.sh]at h
 |.int _,.pair _ _,_,_,_,h,_,_|.int _,.bool,_,_,_,h,_,_|.int _,.str,_,_,_,h,_,_|.int _,.unit,_,_,_,h,_,_|.int _,.hdr,_,_,_,h,_,_|.int _,.list _ _ _,_,_,_,h,_,_=>by simp[Ty.sh]at h
 |.bool,.pair _ _,_,_,_,h,_,_|.bool,.int _,_,_,_,h,_,_|.bool,.str,_,_,_,h,_,_|.bool,.unit,_,_,_,h,_,_|.bool,.hdr,_,_,_,h,_,_|.bool,.list _ _ _,_,_,_,h,_,_=>by simp[Ty.sh]at h
 |.str,.pair _ _,_,_,_,h,_,_|.str,.int _,_,_,_,h,_,_|.str,.bool,_,_,_,h,_,_|.str,.unit,_,_,_,h,_,_|.str,.hdr,_,_,_,h,_,_|.str,.list _ _ _,_,_,_,h,_,_=>by simp[Ty.sh]at h
 |.unit,.pair _ _,_,_,_,h,_,_|.unit,.int _,_,_,_,h,_,_|.unit,.bool,_,_,_,h,_,_|.unit,.str,_,_,_,h,_,_|.unit,.hdr,_,_,_,h,_,_|.unit,.list _ _ _,_,_,_,h,_,_=>by simp[Ty.sh]at h
 |.hdr,.pair _ _,_,_,_,h,_,_|.hdr,.int _,_,_,_,h,_,_|.hdr,.bool,_,_,_,h,_,_|.hdr,.str,_,_,_,h,_,_|.hdr,.unit,_,_,_,h,_,_|.hdr,.list _ _ _,_,_,_,h,_,_=>by simp[Ty.sh]at h
 |.list _ _ _,.pair _ _,_,_,_,h,_,_|.list _ _ _,.int _,_,_,_,h,_,_|.list _ _ _,.bool,_,_,_,h,_,_|.list _ _ _,.str,_,_,_,h,_,_|.list _ _ _,.unit,_,_,_,h,_,_|.list _ _ _,.hdr,_,_,_,h,_,_=>by simp[Ty.sh]at h
def Row (w:World)(E:TypeId)(s:Nat)(v:Value)(n:Nat)(flat:List Value):Prop :=
 flat.length=n*s/\((v=.slice none 0 0/\n=0) \/
  ∃ g cap cur,v=.slice (some ⟨g,0,none⟩) n cap/\w.heap[g]?=some (.cells cur E (0,0))/\n<=cap/\cap<=maxLen/\cap*s<=cur.size/\cur.toList.take (n*s)=flat)
theorem Row.of {w:World}{b:Nat}{E:TypeId}{s n:Nat}{v:Value}{flat:List Value}(h:w.ownsRow b E s v n flat):Row w E s v n flat:=by
 refine⟨h.1,h.2.imp id ?_⟩;rintro⟨g,cap,cur,h1,_,h2,h3,h4,h5,h6⟩;exact⟨g,cap,cur,h1,h2,h3,h4,Nat.le_of_eq h5.symm,h6⟩
theorem Row.same {w w':World}{E:TypeId}{s n:Nat}{v:Value}{flat:List Value}(h:Row w E s v n flat)(hb:∀ k∈v.ownBlock.toList,w'.heap[k]?=w.heap[k]?):Row w' E s v n flat:=by
 refine⟨h.1,?_⟩;rcases h.2 with hn|⟨g,cap,cur,rfl,hg,rest⟩
 ·exact .inl hn
 ·exact .inr ⟨g,cap,cur,rfl,by rw[hb g (by simp[Value.ownBlock])];exact hg,rest⟩
theorem Row.lt {w:World}{E:TypeId}{s n:Nat}{v:Value}{flat:List Value}(h:Row w E s v n flat):∀ k∈v.ownBlock.toList,k<w.heap.size:=by
 intro k hk;rcases h.2 with ⟨rfl,_⟩|⟨g,cap,cur,rfl,hg,_⟩
 ·simp[Value.ownBlock]at hk
 ·simp[Value.ownBlock]at hk;subst hk;exact (Array.getElem?_eq_some_iff.1 hg).1
theorem Row.slice {w:World}{E:TypeId}{s n:Nat}{v:Value}{flat:List Value}(h:Row w E s v n flat):∃ A cap,v=.slice A n cap/\n<=cap:=by
 rcases h.2 with ⟨rfl,hn⟩|⟨g,cap,cur,rfl,_,hc,_⟩
 ·exact⟨none,0,by rw[hn],by omega⟩
 ·exact⟨_,cap,rfl,hc⟩
theorem Row.nil (w:World)(E:TypeId)(s:Nat):Row w E s (.slice none 0 0) 0 []:=⟨by simp,.inl ⟨rfl,rfl⟩⟩
theorem Row.cellAt {w:World}{E:TypeId}{s n g cap:Nat}{flat:List Value}(h:Row w E s (.slice (some ⟨g,0,none⟩) n cap) n flat)(j:Nat)(hj:j<n*s):w.cell? ⟨g,j,none⟩=flat[j]?:=by
 rcases h.2 with ⟨h',_⟩|⟨g',cap',cur,h',hg,_,_,_,htake⟩
 ·simp at h'
 ·simp only[Value.slice.injEq,Option.some.injEq,Addr.mk.injEq,and_true,true_and]at h';obtain⟨rfl,rfl⟩:=h';rw[cell_of_row w g j cur E (0,0) hg,<- htake,List.getElem?_take,if_pos hj];simp
theorem Row.frozenAt {w:World}{E:TypeId}{s n g cap:Nat}{flat:List Value}(h:Row w E s (.slice (some ⟨g,0,none⟩) n cap) n flat)(j:Nat):w.frozen? ⟨g,j,none⟩=false:=by
 rcases h.2 with ⟨h',_⟩|⟨g',cap',cur,h',hg,_⟩
 ·simp at h'
 ·simp only[Value.slice.injEq,Option.some.injEq,Addr.mk.injEq,and_true,true_and]at h';obtain⟨rfl,rfl⟩:=h';exact frozen_of_row w g j cur E hg
def Mx (w:World)(G:Nat->Prop):(a:Ty)->Option Nat->Nat->a.den->List Value->List Nat->Prop
 |.int k,_,_,n,cs,bs=>cs=[.int k n]/\bs=[]
 |.bool,_,_,b,cs,bs=>cs=[.bool b]/\bs=[]
 |.str,_,_,s,cs,bs=>cs=[.string s]/\bs=[]
 |.unit,_,_,_,cs,bs=>cs=[]/\bs=[]
 |.hdr,_,_,n,cs,bs=>(∃ A cap,cs=[.slice A n cap])/\bs=[]
 |.pair a b,h,pos,x,cs,bs=>∃ c1 c2 b1 b2,cs=c1++c2/\bs=b1++b2/\Mx w G a h pos x.1 c1 b1/\Mx w G b h (pos+a.cells) x.2 c2 b2
 |.list m E e,h,pos,xs,cs,bs=>∃ v,cs=[v]/\v.oneCell'=true /\
  (if m=true then (if h=some pos then bs=[] else ∃ flat bss,Row w E e.cells v xs.length flat/\bs=v.ownBlock.toList++(List.range xs.length).flatMap bss /\
    ∀ j (x:e.den),xs[j]?=some x->∃ c,Mx w G e none 0 x c (bss j)/\∀ i u,c[i]?=some u->flat[j*e.cells+i]?=some u)
   else bs=[]/\Rd w G (.list m E e) xs [v])
def OwB (w:World)(G:Nat->Prop)(h:Option (Nat×Nat))(E:TypeId)(e:Ty)(xs:List e.den)(v:Value)(bs:List Nat):Prop :=
 ∃ flat bss,Row w E e.cells v xs.length flat/\bs=v.ownBlock.toList++(List.range xs.length).flatMap bss /\
  ∀ j (x:e.den),xs[j]?=some x->∃ c,Mx w G e (cu h j) 0 x c (bss j)/\∀ i u,c[i]?=some u->flat[j*e.cells+i]?=some u
def OwH (w:World)(G:Nat->Prop)(h:Option (Nat×Nat))(E:TypeId)(e:Ty)(xs:List e.den)(v:Value)(bs:List Nat):Prop:=bs.Nodup/\OwB w G h E e xs v bs
abbrev Ow (w:World)(G:Nat->Prop)(E:TypeId)(e:Ty)(xs:List e.den)(v:Value)(bs:List Nat):Prop:=OwH w G none E e xs v bs
theorem OwB.one {w:World}{G:Nat->Prop}{h:Option (Nat×Nat)}{E:TypeId}{e:Ty}{xs:List e.den}{v:Value}{bs:List Nat}(H:OwB w G h E e xs v bs):v.oneCell'=true:=by
 obtain⟨flat,bss,h1,_⟩:=H;obtain⟨A,cap,rfl,_⟩:=h1.slice;rfl
theorem ch {w:World}{G:Nat->Prop}{h:Option Nat}{E:TypeId}{e:Ty}{pos:Nat}{xs:List e.den}{cs:List Value}{bs:List Nat}(hp:h≠some pos) :
  Mx w G (.list true E e) h pos xs cs bs<->∃ v,cs=[v]/\OwB w G none E e xs v bs:=by
 simp only[Mx,if_true,if_neg hp];constructor
 ·rintro⟨v,h1,h2,h3⟩;exact⟨v,h1,h3⟩
 ·rintro⟨v,h1,h3⟩;exact⟨v,h1,h3.one,h3⟩
theorem hY {w:World}{G:Nat->Prop}{E:TypeId}{e:Ty}{pos:Nat}{xs:List e.den}{cs:List Value}{bs:List Nat} :
  Mx w G (.list true E e) (some pos) pos xs cs bs<->∃ v,cs=[v]/\v.oneCell'=true/\bs=[]:=by
 simp only[Mx,if_true]
theorem cA {w:World}{G:Nat->Prop}{h:Option Nat}{E:TypeId}{e:Ty}{pos:Nat}{xs:List e.den}{cs:List Value}{bs:List Nat} :
  Mx w G (.list false E e) h pos xs cs bs<->bs=[]/\Rd w G (.list false E e) xs cs:=by
 simp only[Mx,Bool.false_eq_true,if_false];constructor
 ·rintro⟨v,rfl,h1,h2,h3⟩;exact⟨h2,h3⟩
 ·rintro⟨h1,h2⟩;obtain⟨A,cap,h3,h4⟩:=h2;exact⟨_,h3,rfl,h1,A,cap,rfl,h4⟩
theorem dT {n:Nat}{bss:Nat->List Nat}{k:Nat}:k∈(List.range n).flatMap bss<->∃ j,j<n/\k∈bss j:=by simp
theorem Mx.carry {w w':World}{G G':Nat->Prop}(hG:∀ k,G k->G' k)(hw:∀ k,G k->w'.heap[k]?=w.heap[k]?) :
  ∀ {a:Ty} {h:Option Nat} {pos:Nat} {x:a.den} {cs:List Value} {bs:List Nat},(∀ k∈bs,w'.heap[k]?=w.heap[k]?)->Mx w G a h pos x cs bs->Mx w' G' a h pos x cs bs
 |.int _,_,_,_,_,_,_,h=>h
 |.bool,_,_,_,_,_,_,h=>h
 |.str,_,_,_,_,_,_,h=>h
 |.unit,_,_,_,_,_,_,h=>h
 |.hdr,_,_,_,_,_,_,h=>h
 |.pair _ _,_,_,_,_,_,hb,⟨c1,c2,b1,b2,e1,e2,h1,h2⟩=>⟨c1,c2,b1,b2,e1,e2,Mx.carry hG hw (λk hk=>hb k (by rw[e2];exact List.mem_append_left _ hk)) h1,Mx.carry hG hw (λk hk=>hb k (by rw[e2];exact List.mem_append_right _ hk)) h2⟩
 |.list m E e,h,pos,xs,cs,bs,hb,H=>by
  cases m with
  |false =>
   rw[cA]at H ⊢;exact⟨H.1,H.2.carry hG hw⟩
  |true =>
   by_cases hp:h=some pos
   ·subst hp;rw[hY]at H ⊢;exact H
   ·rw[ch hp]at H ⊢;obtain⟨v,e1,flat,bss,h1,h2,h3⟩:=H;refine⟨v,e1,flat,bss,h1.same (λk hk=>hb k (by rw[h2];exact List.mem_append_left _ hk)),h2,λj x hj=>?_⟩;obtain⟨c,h4,h5⟩:=h3 j x hj;refine⟨c,?_,h5⟩;exact Mx.carry hG hw (λk hk=>hb k (by rw[h2];exact List.mem_append_right _ (dT.2 ⟨j,(List.getElem?_eq_some_iff.1 hj).1,hk⟩))) h4
theorem Mx.mono {w:World}{G G':Nat->Prop}(hG:∀ k,G k->G' k){a:Ty}{h:Option Nat}{pos:Nat}{x:a.den}{cs:List Value}{bs:List Nat}(H:Mx w G a h pos x cs bs):Mx w G' a h pos x cs bs :=
 Mx.carry hG (λ_ _=>rfl) (λ_ _=>rfl) H
theorem OwB.carry {w w':World}{G G':Nat->Prop}{h:Option (Nat×Nat)}{E:TypeId}{e:Ty}{xs:List e.den}{v:Value}{bs:List Nat}(H:OwB w G h E e xs v bs)
  (hG:∀ k,G k->G' k) (hw:∀ k,G k->w'.heap[k]?=w.heap[k]?) (hb:∀ k∈bs,w'.heap[k]?=w.heap[k]?):OwB w' G' h E e xs v bs:=by
 obtain⟨flat,bss,h1,h2,h3⟩:=H;refine⟨flat,bss,h1.same (λk hk=>hb k (by rw[h2];exact List.mem_append_left _ hk)),h2,λj x hj=>?_⟩;obtain⟨c,h4,h5⟩:=h3 j x hj;exact⟨c,Mx.carry hG hw (λk hk=>hb k (by rw[h2];exact List.mem_append_right _ (dT.2 ⟨j,(List.getElem?_eq_some_iff.1 hj).1,hk⟩))) h4,h5⟩
theorem OwH.carry {w w':World}{G G':Nat->Prop}{h:Option (Nat×Nat)}{E:TypeId}{e:Ty}{xs:List e.den}{v:Value}{bs:List Nat}(H:OwH w G h E e xs v bs)
 (hG:∀ k,G k->G' k) (hw:∀ k,G k->w'.heap[k]?=w.heap[k]?) (hb:∀ k∈bs,w'.heap[k]?=w.heap[k]?):OwH w' G' h E e xs v bs:=⟨H.1,H.2.carry hG hw hb⟩
theorem Mx.len {w:World}{G:Nat->Prop}:∀ {a:Ty} {h:Option Nat} {pos:Nat} {x:a.den} {cs:List Value} {bs:List Nat},Mx w G a h pos x cs bs->cs.length=a.cells
 |.int _,_,_,_,_,_,h=>by rw[h.1];rfl
 |.bool,_,_,_,_,_,h=>by rw[h.1];rfl
 |.str,_,_,_,_,_,h=>by rw[h.1];rfl
 |.unit,_,_,_,_,_,h=>by rw[h.1];rfl
 |.hdr,_,_,_,_,_,⟨⟨A,cap,e⟩,_⟩=>by rw[e];rfl
 |.pair _ _,_,_,_,_,_,⟨c1,c2,b1,b2,e1,e2,h1,h2⟩=>by rw[e1,List.length_append,h1.len,h2.len];rfl
 |.list _ _ _,_,_,_,_,_,⟨v,e,_⟩=>by rw[e];rfl
theorem Mx.one {w:World}{G:Nat->Prop}:∀ {a:Ty} {h:Option Nat} {pos:Nat} {x:a.den} {cs:List Value} {bs:List Nat},Mx w G a h pos x cs bs->∀ v∈cs,v.oneCell'=true
 |.int _,_,_,_,_,_,h=>by rw[h.1];simp[Value.oneCell']
 |.bool,_,_,_,_,_,h=>by rw[h.1];simp[Value.oneCell']
 |.str,_,_,_,_,_,h=>by rw[h.1];simp[Value.oneCell']
 |.unit,_,_,_,_,_,h=>by rw[h.1];simp
 |.hdr,_,_,_,_,_,⟨⟨A,cap,e⟩,_⟩=>by rw[e];simp[Value.oneCell']
 |.pair _ _,_,_,_,_,_,⟨c1,c2,b1,b2,e1,e2,h1,h2⟩=>by
  rw[e1];intro v hv;rcases List.mem_append.1 hv with hv|hv
  ·exact h1.one v hv
  ·exact h2.one v hv
 |.list _ _ _,_,_,_,_,_,⟨v,e,h1,_⟩=>by rw[e];simpa using h1
theorem Mx.lt {w:World}{G:Nat->Prop}:∀ {a:Ty} {h:Option Nat} {pos:Nat} {x:a.den} {cs:List Value} {bs:List Nat},Mx w G a h pos x cs bs->∀ k∈bs,k<w.heap.size
 |.int _,_,_,_,_,_,h=>by rw[h.2];simp
 |.bool,_,_,_,_,_,h=>by rw[h.2];simp
 |.str,_,_,_,_,_,h=>by rw[h.2];simp
 |.unit,_,_,_,_,_,h=>by rw[h.2];simp
 |.hdr,_,_,_,_,_,h=>by rw[h.2];simp
 |.pair _ _,_,_,_,_,_,⟨c1,c2,b1,b2,e1,e2,h1,h2⟩=>by
  rw[e2];intro k hk;rcases List.mem_append.1 hk with hk|hk
  ·exact h1.lt k hk
  ·exact h2.lt k hk
 |.list m E e,h,pos,xs,cs,bs,H=>by
  cases m with
  |false=>rw[cA]at H;rw[H.1];simp
  |true =>
   by_cases hp:h=some pos
   ·subst hp;rw[hY]at H;obtain⟨_,_,_,h3⟩:=H;rw[h3];simp
   ·rw[ch hp]at H;obtain⟨v,e1,flat,bss,h1,h2,h3⟩:=H;rw[h2];intro k hk;rcases List.mem_append.1 hk with hk|hk
    ·exact h1.lt k hk
    ·obtain⟨j,hj,hk⟩:=dT.1 hk;obtain⟨c,h4,_⟩:=h3 j _ (List.getElem?_eq_getElem hj);exact h4.lt k hk
theorem OwB.lt {w:World}{G:Nat->Prop}{h:Option (Nat×Nat)}{E:TypeId}{e:Ty}{xs:List e.den}{v:Value}{bs:List Nat}(H:OwB w G h E e xs v bs):∀ k∈bs,k<w.heap.size:=by
 obtain⟨flat,bss,h1,h2,h3⟩:=H;rw[h2];intro k hk;rcases List.mem_append.1 hk with hk|hk
 ·exact h1.lt k hk
 ·obtain⟨j,hj,hk⟩:=dT.1 hk;obtain⟨c,h4,_⟩:=h3 j _ (List.getElem?_eq_getElem hj);exact h4.lt k hk
theorem OwH.lt {w:World}{G:Nat->Prop}{h:Option (Nat×Nat)}{E:TypeId}{e:Ty}{xs:List e.den}{v:Value}{bs:List Nat}(H:OwH w G h E e xs v bs):∀ k∈bs,k<w.heap.size:=H.2.lt
theorem OwH.nodup {w:World}{G:Nat->Prop}{h:Option (Nat×Nat)}{E:TypeId}{e:Ty}{xs:List e.den}{v:Value}{bs:List Nat}(H:OwH w G h E e xs v bs):bs.Nodup:=H.1
theorem OwH.slice {w:World}{G:Nat->Prop}{h:Option (Nat×Nat)}{E:TypeId}{e:Ty}{xs:List e.den}{v:Value}{bs:List Nat}(H:OwH w G h E e xs v bs) :
  ∃ A cap,v=.slice A xs.length cap/\xs.length<=cap:=by
 obtain⟨_,flat,bss,h1,_⟩:=H;exact h1.slice
theorem OwH.one {w:World}{G:Nat->Prop}{h:Option (Nat×Nat)}{E:TypeId}{e:Ty}{xs:List e.den}{v:Value}{bs:List Nat}(H:OwH w G h E e xs v bs):v.oneCell'=true:=H.2.one
theorem rB {w:World}{m:Bool}{E E':TypeId}{e:Ty}{xs:List e.den}{v:Value}{flat:List Value}{S:Nat->Prop}(h1:Row w E e.cells v xs.length flat)(hS:∀ k∈v.ownBlock.toList,S k)
  (h3:∀ j (x:e.den),xs[j]?=some x->∃ c,Rd w S e x c/\∀ i u,c[i]?=some u->flat[j*e.cells+i]?=some u):Rd w S (.list m E' e) xs [v]:=by
 rcases h1.2 with ⟨rfl,hn⟩|⟨g,cap,cur,rfl,hg,hc,hm,hs,ht⟩
 ·exact⟨none,0,by rw[hn],by omega,λhp=>by omega⟩
 ·refine⟨some ⟨g,0,none⟩,cap,rfl,hc,λ_=>⟨g,0,rfl,hS g (by simp[Value.ownBlock]),λj x hj=>?_⟩⟩;obtain⟨c,hr,hcl⟩:=h3 j x hj;refine⟨c,hr,λi u hu=>?_⟩;have:=hcl i u hu;rw[<- ht,List.getElem?_take]at this;split at this
  ·rw[Nat.zero_add,cell_of_row w g _ cur E (0,0) hg];simpa using this
  ·cases this
theorem Mx.rd {w:World}{G S:Nat->Prop}(hG:∀ k,G k->S k):∀ {a:Ty} {pos:Nat} {x:a.den} {cs:List Value} {bs:List Nat},(∀ k∈bs,S k)->Mx w G a none pos x cs bs->Rd w S a x cs
 |.int _,_,_,_,_,_,h=>h.1
 |.bool,_,_,_,_,_,h=>h.1
 |.str,_,_,_,_,_,h=>h.1
 |.unit,_,_,_,_,_,h=>h.1
 |.hdr,_,_,_,_,_,h=>h.1
 |.pair _ _,_,_,_,_,hb,⟨c1,c2,b1,b2,e1,e2,h1,h2⟩=>⟨c1,c2,e1,Mx.rd hG (λk hk=>hb k (by rw[e2];exact List.mem_append_left _ hk)) h1,Mx.rd hG (λk hk=>hb k (by rw[e2];exact List.mem_append_right _ hk)) h2⟩
 |.list m E e,pos,xs,cs,bs,hb,H=>by
  cases m with
  |false=>rw[cA]at H;exact H.2.mono hG
  |true =>
   rw[ch (by simp)]at H;obtain⟨v,e1,flat,bss,h1,h2,h3⟩:=H;rw[e1];refine rB h1 (λk hk=>hb k (by rw[h2];exact List.mem_append_left _ hk)) λj x hj=>?_
   obtain⟨c,h4,h5⟩:=h3 j x hj;have h4':Mx w G e none 0 x c (bss j):=h4;exact⟨c,Mx.rd hG (λk hk=>hb k (by rw[h2];exact List.mem_append_right _ (dT.2 ⟨j,(List.getElem?_eq_some_iff.1 hj).1,hk⟩))) h4',h5⟩
theorem OwH.rd {w:World}{G:Nat->Prop}{m:Bool}{E E':TypeId}{e:Ty}{xs:List e.den}{v:Value}{bs:List Nat}(H:Ow w G E e xs v bs) :
  Rd w (λk=>G k\/k∈bs) (.list m E' e) xs [v]:=by
 obtain⟨_,flat,bss,h1,h2,h3⟩:=H;refine rB h1 (λk hk=>.inr (by rw[h2];exact List.mem_append_left _ hk)) λj x hj=>?_
 obtain⟨c,h4,h5⟩:=h3 j x hj;have h4':Mx w G e none 0 x c (bss j):=h4;exact⟨c,h4'.rd (λk hk=>.inl hk) (λk hk=>.inr (by rw[h2];exact List.mem_append_right _ (dT.2 ⟨j,(List.getElem?_eq_some_iff.1 hj).1,hk⟩))),h5⟩
theorem OwH.nil (w:World)(G:Nat->Prop)(E:TypeId)(e:Ty):Ow w G E e [] (.slice none 0 0) [] :=
 ⟨List.nodup_nil,[],λ_=>[],Row.nil w E e.cells,rfl,λj x hj=>by simp at hj⟩
theorem Rd.nil (w:World)(G:Nat->Prop)(m:Bool)(E:TypeId)(e:Ty):Rd w G (.list m E e) [] [.slice none 0 0] :=
 ⟨none,0,rfl,Nat.le_refl _,λh=>by simp at h⟩
theorem Mx.flat {w w':World}{G G':Nat->Prop}:∀ {a:Ty} {h:Option Nat} {pos:Nat} {x:a.den} {cs:List Value},a.flat=true->Rd w G a x cs->Mx w' G' a h pos x cs []
 |.int _,_,_,_,_,_,h=>⟨h,rfl⟩
 |.bool,_,_,_,_,_,h=>⟨h,rfl⟩
 |.str,_,_,_,_,_,h=>⟨h,rfl⟩
 |.unit,_,_,_,_,_,h=>⟨h,rfl⟩
 |.hdr,_,_,_,_,_,h=>⟨h,rfl⟩
 |.pair _ _,_,_,_,_,hf,⟨c1,c2,e,h1,h2⟩=>by
  simp only[Ty.flat,Bool.and_eq_true]at hf;exact⟨c1,c2,[],[],e,rfl,Mx.flat hf.1 h1,Mx.flat hf.2 h2⟩
 |.list _ _ _,_,_,_,_,hf,_=>by simp[Ty.flat]at hf
theorem Mx.shared {w:World}{G:Nat->Prop}:∀ {a:Ty} {h:Option Nat} {pos:Nat} {x:a.den} {cs:List Value},a.sh=a->Rd w G a x cs->Mx w G a h pos x cs []
 |.int _,_,_,_,_,_,h=>⟨h,rfl⟩
 |.bool,_,_,_,_,_,h=>⟨h,rfl⟩
 |.str,_,_,_,_,_,h=>⟨h,rfl⟩
 |.unit,_,_,_,_,_,h=>⟨h,rfl⟩
 |.hdr,_,_,_,_,_,h=>⟨h,rfl⟩
 |.pair _ _,_,_,_,_,hf,⟨c1,c2,e,h1,h2⟩=>by
  simp only[Ty.sh,Ty.pair.injEq]at hf;exact⟨c1,c2,[],[],e,rfl,Mx.shared hf.1 h1,Mx.shared hf.2 h2⟩
 |.list m E e,_,_,_,_,hf,h=>by
  simp only[Ty.sh,Ty.list.injEq,true_and]at hf;obtain⟨rfl,_⟩:=hf;exact cA.2 ⟨rfl,h⟩
def cV (agg:Bool)(v:Value)(cs:List Value):Prop:=if agg then v=.agg cs.toArray else cs=[v]
def qz (w:World)(G:Nat->Prop):(As:List Ty)->Tup As->List Value->Prop
 |[],_,vs=>vs=[]
 |a::as,x,vs=>∃ v c vs',vs=v::vs'/\cV a.isAgg v c/\Rd w G a x.1 c/\qz w G as x.2 vs'
def kq (P:Program)(f:FuncId):Prop:=∀ (args:Array Value) (w:World),(callFunc f args).run P w=.ok (.enter f args) w
def hZ (P:Program)(w0:World)(S:Nat->Prop)(As:List Ty)(B:Ty)(φ:Tup As->Option B.den)(v:Value):Prop :=
 ∃ f caps,v=.func (.func f) #[] caps/\kq P f /\
  ∀ w1:World,w0.heap.size<=w1.heap.size->(∀ k,S k->w1.heap[k]?=w0.heap[k]?) ->
   ∀ (x:Tup As) (args:List Value) (y:B.den),qz w1 (λk=>k<w1.heap.size) As x args->φ x=some y ->
    Calls P f (args.toArray++caps) w1 (λe w2=>∃ u c,e=.returned u/\cV B.isAgg u c/\Rd w2 (λ_=>False) B y c/\Below w1.heap.size w1 w2)
structure Env where
 w0:World
 ro0:Nat->Prop
 own0:List Nat
 nt:Nat
 fixb:List (Nat×Nat)
 fixt:List (Nat×Value)
def Env.prot (V:Env)(k:Nat):Prop:=k<V.w0.heap.size/\k∉V.own0
structure Wit where
 β:Nat->Nat
 cs:Nat->List Value
 bs:Nat->Nat->List Nat
 nw:Nat->Prop
def gd (V:Env)(W:Wit)(p:Bool)(k:Nat):Prop:=W.nw k\/(p=true/\V.ro0 k)
def an:Leaf->Prop
 |.own _ _ _ _ _=>True
 |_=>False
def RpOk (V:Env)(W:Wit)(w:World)(p:Bool)(a:Ty)(x:a.den)(off:Nat)(v:Value):Prop :=
 ∃ g o c,v=.pointer (some ⟨g,o+off,none⟩)/\(W.nw g\/V.prot g)/\Rd w (gd V W p) a x c/\cE w g o c
def qA (V:Env)(W:Wit)(w:World)(p:Bool)(a:Ty)(x:a.den)(v:Value):Prop :=
 ∃ b ob g o c,v=.pointer (some ⟨b,ob,none⟩)/\(W.nw b\/V.prot b)/\w.cell? ⟨b,ob,none⟩=some (.pointer (some ⟨g,o,none⟩)) /\
  (W.nw g\/V.prot g)/\Rd w (gd V W p) a x c/\cE w g o c
def gP (V:Env)(W:Wit)(w:World)(c:Bool×Bool×(a:Ty)×a.den)(v:Value):Prop :=
 if c.2.1=true then qA V W w c.1 c.2.2.1 c.2.2.2 v else RpOk V W w c.1 c.2.2.1 c.2.2.2 0 v
def qB (st:St)(ks:List (Nat×Nat×Nat)):Prop:=∀ k∈ks,∃ l,(st k.1).ls[k.2.1]?=some l/\an l
structure qC (V:Env) (W:Wit) (w:World) (p:Bool) (ks:List (Nat×Nat×Nat)) (loc:Option (Nat×Nat×Nat)) (E:TypeId) (e:Ty) (xs:List e.den) (v:Value):Prop where
 rd:Rd w (λb=>gd V W p b\/∃ k∈ks,b∈W.bs k.1 k.2.1) (.list false E e) xs [v]
 at_:∀ i sz off,loc=some (i,sz,off)->∃ r j n,ks=[(r,j,n)]/\∃ g len cap,(W.cs r)[j]?=some (.slice (some ⟨g,0,none⟩) len cap)/\i<len/\g∈W.bs r j/\w.cell? ⟨g,i*sz+off,none⟩=some v
structure NpOk (V:Env) (W:Wit) (w:World) (p:Bool) (ks:List (Nat×Nat×Nat)) (a:Ty) (x:a.den) (off:Nat) (v:Value):Prop where
 rd:∃ g o c,v=.pointer (some ⟨g,o+off,none⟩)/\(gd V W p g\/∃ k∈ks,g∈W.bs k.1 k.2.1)/\Rd w (λb=>gd V W p b\/∃ k∈ks,b∈W.bs k.1 k.2.1) a x c/\cE w g o c
def aJ (P:Program)(V:Env)(W:Wit)(st:St)(w:World)(bs:List Nat):Leaf->Value->Prop
 |.int k n,v=>v=.int k n
 |.bool b,v=>v=.bool b
 |.str s,v=>v=.string s
 |.nil,v=>v=.slice none 0 0
 |.hdr n,v=>∃ A cap,v=.slice A n cap
 |.ro p E e xs,v=>Rd w (gd V W p) (.list false E e) xs [v]
 |.own p h E e xs,v=>OwH w (gd V W p) h E e xs v bs
 |.al r j n,v=>n<=(st r).ver/\((st r).ver=n->(W.cs r)[j]?=some v)
 |.nal p ks ep loc E e xs,v=>ep<=(st EPO).ver/\(∀ k∈ks,k.2.2<=(st k.1).ver)/\((st EPO).ver=ep->(∀ k∈ks,(st k.1).ver=k.2.2)->qB st ks->qC V W w p ks loc E e xs v)
 |.ep r j n i sz off,v=>n<=(st r).ver/\((st r).ver=n->∃ g len cap,(W.cs r)[j]?=some (.slice (some ⟨g,0,none⟩) len cap)/\i<len/\v=.pointer (some ⟨g,i*sz+off,none⟩))
 |.np p ks ep a x off,v=>ep<=(st EPO).ver/\(∀ k∈ks,k.2.2<=(st k.1).ver)/\((st EPO).ver=ep->(∀ k∈ks,(st k.1).ver=k.2.2)->qB st ks->NpOk V W w p ks a x off v)
 |.rp p a x off,v=>RpOk V W w p a x off v
 |.rpp p a x,v=>qA V W w p a x v
 |.bp b off,v=>B0<=b/\(st b).sh=.agg/\v=.pointer (some ⟨W.β b,off,none⟩)
 |.clo f caps,v=>v=.func (.func f) #[] (caps.map λb=>Value.pointer (some ⟨W.β b,0,none⟩)).toArray/\∀ b∈caps,B0<=b/\(st b).sh=.agg
 |.clr f caps,v=>∃ us:List Value,v=.func (.func f) #[] us.toArray/\us.length=caps.length/\∀ (i:Nat) (c:Bool×Bool×(a:Ty)×a.den) (u:Value),caps[i]?=some c->us[i]?=some u->gP V W w c u
 |.fn As B φ,v=>hZ P V.w0 V.prot As B φ v
 |.dead,_=>True
def oD:List (Bool×Nat)->List Value->List Value->Prop
 |[],vs,cs=>vs=[]/\cs=[]
 |(agg,n)::ps,vs,cs=>∃ v vs' c cs',vs=v::vs'/\cs=c++cs'/\c.length=n/\cV agg v c/\oD ps vs' cs'
def dI:aG->Value->List Value->Prop
 |.off,_,cs=>cs=[]
 |.und,v,cs=>v=undef/\cs=[]
 |.one,v,cs=>cs=[v]
 |.agg,v,cs=>v=.agg cs.toArray
 |.tup ps,v,cs=>∃ vs,v=.tuple vs.toArray/\oD ps vs cs
def live (st:St)(b:Nat):Prop:=B0<=b/\(st b).sh=.agg
structure ao (P:Program) (V:Env) (W:Wit) (st:St) (a:Act) (w:World):Prop where
 nt:a.tmps.size=V.nt
 df:a.defers=[]
 slots:∀ t,t<GH->dI (st t).sh (a.tmps.getD t undef) (W.cs t)
 boxes:∀ b,B0<=b->((st b).sh=.off/\(st b).ls=[])\/((st b).sh=.agg/\∃ E,w.heap[W.β b]?=some (.cells (W.cs b).toArray E (0,0)))
 len:∀ r,(st r).ls.length=(W.cs r).length
 one:∀ r,∀ v∈W.cs r,v.oneCell'=true
 leaf:∀ r j l v,(st r).ls[j]?=some l->(W.cs r)[j]?=some v->aJ P V W st w (W.bs r j) l v
 ownb:∀ r j l,(st r).ls[j]?=some l->an l->∀ k∈W.bs r j,¬ W.nw k/\¬ V.prot k/\∀ b,live st b->W.β b≠k
 sep:∀ r j l r' j' l',(st r).ls[j]?=some l->an l->(st r').ls[j']?=some l'->an l'->∀ k,k∈W.bs r j->k∈W.bs r' j'->r=r'/\j=j'
 box:∀ b,live st b->¬ W.nw (W.β b)/\¬ V.prot (W.β b)
 inj:∀ b b',live st b->live st b'->W.β b=W.β b'->b=b'
 nwlt:∀ k,W.nw k->k<w.heap.size/\¬ V.prot k
 os:w.os=V.w0.os
 tape:w.tape=V.w0.tape
 output:w.output=V.w0.output
 size:V.w0.heap.size<=w.heap.size
 keep:∀ k,V.prot k->w.heap[k]?=V.w0.heap[k]?
 fixb:∀ x∈V.fixb,live st x.1/\W.β x.1=x.2
 fixt:∀ x∈V.fixt,a.tmps.getD x.1 undef=x.2
def Rel (P:Program)(V:Env)(st:St)(a:Act)(w:World):Prop:=∃ W,ao P V W st a w
structure ax (V:Env):Prop where
 ro:∀ k,V.ro0 k->V.prot k
 nt:V.nt<=GH
theorem ax.ntB {V:Env}(h:ax V):V.nt<=B0:=Nat.le_trans h.nt (by decide)
end Go.Proofs.YtmcbmojdeikcdaaGreatEv
namespace Go.Proofs.YtmcbmojdeikcdaaGreatEv
open Go Go.RowKit
section
variable {P:Program} {V:Env} {W W':Wit} {st st':St} {w w':World}
theorem bL {p q:Bool}(hpq:p=true->q=true)(hnw:∀ k,W.nw k->W'.nw k):∀ k,gd V W p k->gd V W' q k:=by
 intro k hk;rcases hk with hk|⟨hp,hk⟩
 ·exact .inl (hnw k hk)
 ·exact .inr ⟨hpq hp,hk⟩
structure cm (V:Env) (W W':Wit) (st st':St) (w w':World):Prop where
 ver:∀ r,(st r).ver<=(st' r).ver/\((st' r).ver=(st r).ver->W'.cs r=W.cs r)
 box:∀ b,live st b->live st' b/\W'.β b=W.β b
 nw:∀ k,W.nw k->W'.nw k
 heap:∀ k,(W.nw k\/V.prot k)->w'.heap[k]?=w.heap[k]?
 epo:(st' EPO).ver=(st EPO).ver->∀ (r j:Nat) (l:Leaf),(st' r).ls[j]?=some l->an l->(st' r).ver=(st r).ver ->
  (∃ l',(st r).ls[j]?=some l'/\an l')/\W'.bs r j=W.bs r j/\∀ k∈W.bs r j,w'.heap[k]?=w.heap[k]?
theorem cm.refl (V:Env)(W:Wit)(st:St)(w:World):cm V W W st st w w :=
 ⟨λ_=>⟨Nat.le_refl _,λ_=>rfl⟩,λ_ hb=>⟨hb,rfl⟩,λ_ h=>h,λ_ _=>rfl,λ_ _ _ l h1 h2 _=>⟨⟨l,h1,h2⟩,rfl,λ_ _=>rfl⟩⟩
theorem jM {w w':World}{a:Addr}(h:w'.heap[a.block]?=w.heap[a.block]?):w'.cell? a=w.cell? a:=by simp[World.cell?,h]
theorem cm.gdheap (hro:∀ k,V.ro0 k->V.prot k)(h:cm V W W' st st' w w')(p:Bool):∀ k,gd V W p k->w'.heap[k]?=w.heap[k]?:=by
 intro k hk;rcases hk with hk|⟨_,hk⟩
 ·exact h.heap k (.inl hk)
 ·exact h.heap k (.inr (hro k hk))
theorem vA {ks:List (Nat×Nat×Nat)}{ep:Nat}(hs:cm V W W' st st' w w')(h1:ep<=(st EPO).ver)(h2:∀ k∈ks,k.2.2<=(st k.1).ver)(he:(st' EPO).ver=ep)(hk:∀ k∈ks,(st' k.1).ver=k.2.2) :
  (st EPO).ver=ep/\∀ k∈ks,(st k.1).ver=k.2.2 :=
 ⟨by have:=(hs.ver EPO).1;omega,λk hm=>by have:=(hs.ver k.1).1;have:=h2 k hm;have:=hk k hm;omega⟩
theorem cm.places {ks:List (Nat×Nat×Nat)}{ep:Nat}(hs:cm V W W' st st' w w')(ho:qB st' ks)(e1:(st EPO).ver=ep)(e2:∀ k∈ks,(st k.1).ver=k.2.2)
  (he:(st' EPO).ver=ep) (hk:∀ k∈ks,(st' k.1).ver=k.2.2) :
  ∀ k∈ks,(∃ l',(st k.1).ls[k.2.1]?=some l'/\an l')/\W'.bs k.1 k.2.1=W.bs k.1 k.2.1/\∀ b∈W.bs k.1 k.2.1,w'.heap[b]?=w.heap[b]?:=λk hm=>by
 obtain⟨l,h6,h7⟩:=ho k hm;exact hs.epo (by omega) k.1 k.2.1 l h6 h7 (by rw[hk k hm,e2 k hm])
theorem aJ.carry (hro:∀ k,V.ro0 k->V.prot k){bs bs':List Nat}{l:Leaf}{v:Value}(h:aJ P V W st w bs l v)(hs:cm V W W' st st' w w')
  (hown:an l->bs'=bs/\∀ k∈bs,w'.heap[k]?=w.heap[k]?):aJ P V W' st' w' bs' l v:=by
 have hG:∀ p k,gd V W p k->gd V W' p k:=λp=>bL (λh=>h) hs.nw
 have hP:∀ k,(W.nw k\/V.prot k)->(W'.nw k\/V.prot k):=λk hk=>hk.imp (hs.nw k) id
 have hR:∀ {p:Bool} {a:Ty} {x:a.den} {off:Nat} {v:Value},RpOk V W w p a x off v->RpOk V W' w' p a x off v:=by
  rintro p a x off v ⟨g,o,c,hv,hg,hr,hc⟩;exact⟨g,o,c,hv,hP g hg,Rd.carry (hG p) (hs.gdheap hro p) hr,hc.same (hs.heap g hg)⟩
 have hRR:∀ {p:Bool} {a:Ty} {x:a.den} {v:Value},qA V W w p a x v->qA V W' w' p a x v:=by
  rintro p a x v ⟨b,ob,g,o,c,hv,hb,hcell,hg,hr,hc⟩;exact⟨b,ob,g,o,c,hv,hP b hb,by rw[jM (hs.heap b hb)];exact hcell,hP g hg,Rd.carry (hG p) (hs.gdheap hro p) hr,hc.same (hs.heap g hg)⟩
 cases l with
 |int k n=>exact h
 |bool b=>exact h
 |str s=>exact h
 |nil=>exact h
 |hdr n=>exact h
 |ro p E e xs=>exact Rd.carry (hG p) (hs.gdheap hro p) h
 |own p hh E e xs =>
  obtain⟨rfl,hb⟩:=hown trivial;exact OwH.carry h (hG p) (hs.gdheap hro p) hb
 |nal p ks ep loc E e xs =>
  obtain⟨h1,h2,h3⟩:=h;refine⟨Nat.le_trans h1 (hs.ver EPO).1,λk hk=>Nat.le_trans (h2 k hk) (hs.ver k.1).1,λhe hk ho=>?_⟩;obtain⟨e1,e2⟩:=vA hs h1 h2 he hk;have h5:=hs.places ho e1 e2 he hk;have h4:=h3 e1 e2 (λk hm=>(h5 k hm).1);refine⟨Rd.carry ?_ ?_ h4.rd,λi sz off hl=>?_⟩
  ·rintro b (hb|⟨k,hm,hb⟩)
   ·exact .inl (hG p b hb)
   ·exact .inr ⟨k,hm,by rw[(h5 k hm).2.1];exact hb⟩
  ·rintro b (hb|⟨k,hm,hb⟩)
   ·exact hs.gdheap hro p b hb
   ·exact (h5 k hm).2.2 b hb
  ·obtain⟨r,j,n,rfl,g,len,cap,h6,h7,h8,h9⟩:=h4.at_ i sz off hl;have hm:(r,j,n)∈[(r,j,n)]:=List.mem_cons_self ..;have h10:(st' r).ver=(st r).ver:=(hk _ hm).trans (e2 _ hm).symm;refine⟨r,j,n,rfl,g,len,cap,by rw[(hs.ver r).2 h10];exact h6,h7,by rw[(h5 _ hm).2.1];exact h8,?_⟩;rw[jM ((h5 _ hm).2.2 g h8)];exact h9
 |np p ks ep a x off =>
  obtain⟨h1,h2,h3⟩:=h;refine⟨Nat.le_trans h1 (hs.ver EPO).1,λk hk=>Nat.le_trans (h2 k hk) (hs.ver k.1).1,λhe hk ho=>?_⟩;obtain⟨e1,e2⟩:=vA hs h1 h2 he hk;have h5:=hs.places ho e1 e2 he hk;have h4:=h3 e1 e2 (λk hm=>(h5 k hm).1);have hS:∀ b,(gd V W p b\/∃ k∈ks,b∈W.bs k.1 k.2.1)->(gd V W' p b\/∃ k∈ks,b∈W'.bs k.1 k.2.1):=by
   rintro b (hb|⟨k,hm,hb⟩)
   ·exact .inl (hG p b hb)
   ·exact .inr ⟨k,hm,by rw[(h5 k hm).2.1];exact hb⟩
  have hW:∀ b,(gd V W p b\/∃ k∈ks,b∈W.bs k.1 k.2.1)->w'.heap[b]?=w.heap[b]?:=by
   rintro b (hb|⟨k,hm,hb⟩)
   ·exact hs.gdheap hro p b hb
   ·exact (h5 k hm).2.2 b hb
  obtain⟨g,o,c,hv,hg,hr,hc⟩:=h4.rd;exact⟨g,o,c,hv,hS g hg,Rd.carry hS hW hr,hc.same (hW g hg)⟩
 |al r j n =>
  obtain⟨h1,h2⟩:=h;obtain⟨h3,h4⟩:=hs.ver r;refine⟨Nat.le_trans h1 h3,λhv=>?_⟩;have:(st r).ver=n:=by omega
  rw[h4 (by omega)];exact h2 this
 |ep r j n i sz off =>
  obtain⟨h1,h2⟩:=h;obtain⟨h3,h4⟩:=hs.ver r;refine⟨Nat.le_trans h1 h3,λhv=>?_⟩;have:(st r).ver=n:=by omega
  rw[h4 (by omega)];exact h2 this
 |rp p a x off=>exact hR h
 |rpp p a x=>exact hRR h
 |clr f caps =>
  obtain⟨us,h1,h2,h3⟩:=h;refine⟨us,h1,h2,λi c u hc hu=>?_⟩;have h4:=h3 i c u hc hu;unfold gP at h4 ⊢;split at h4
  ·rename_i hb;rw[if_pos hb];exact hRR h4
  ·rename_i hb;rw[if_neg hb];exact hR h4
 |bp b off =>
  obtain⟨h1,h2,h3⟩:=h;obtain⟨h4,h5⟩:=hs.box b ⟨h1,h2⟩;exact⟨h1,h4.2,by rw[h5];exact h3⟩
 |clo f caps =>
  obtain⟨h1,h2⟩:=h;refine⟨?_,λb hb=>(hs.box b (h2 b hb)).1⟩;rw[h1];congr 2;refine List.map_congr_left λb hb=>?_
  rw[(hs.box b (h2 b hb)).2]
 |fn As B φ=>exact h
 |dead=>trivial
def aC (P:Program)(V:Env)(W:Wit)(st:St)(w:World):List Leaf->List Value->Prop
 |[],[]=>True
 |l::ls,v::cs=>(aJ P V W st w [] l v/\¬ an l/\v.oneCell'=true)/\aC P V W st w ls cs
 |_,_=>False
theorem aC.length:∀ {ls:List Leaf} {cs:List Value},aC P V W st w ls cs->ls.length=cs.length
 |[],[],_=>rfl
 |_::_,_::_,h=>by simp[aC.length h.2]
theorem aC.at_:∀ {ls:List Leaf} {cs:List Value},aC P V W st w ls cs->∀ (j:Nat) (l:Leaf) (v:Value),ls[j]?=some l->cs[j]?=some v->aJ P V W st w [] l v/\¬ an l/\v.oneCell'=true
 |[],[],_,j,l,v,h1,_=>by simp at h1
 |_::_,_::_,h,0,l,v,h1,h2=>by
  simp at h1 h2;subst h1;subst h2;exact h.1
 |_::_,_::_,h,j+1,l,v,h1,h2=>aC.at_ h.2 j l v (by simpa using h1) (by simpa using h2)
theorem aC.one':∀ {ls:List Leaf} {cs:List Value},aC P V W st w ls cs->∀ v∈cs,v.oneCell'=true
 |[],[],_,_,hv=>by simp at hv
 |_::_,_::_,h,v,hv=>by
  rcases List.mem_cons.1 hv with rfl|hv
  ·exact h.1.2.2
  ·exact aC.one' h.2 v hv
theorem aC.mk:∀ {ls:List Leaf} {cs:List Value},ls.length=cs.length->(∀ (j:Nat) (l:Leaf) (v:Value),ls[j]?=some l->cs[j]?=some v->aJ P V W st w [] l v/\¬ an l/\v.oneCell'=true)->aC P V W st w ls cs
 |[],[],_,_=>trivial
 |[],_::_,h,_=>by simp at h
 |_::_,[],h,_=>by simp at h
 |_::_,_::_,h,H=>⟨H 0 _ _ rfl rfl,aC.mk (by simpa using h) λj l v h1 h2=>H (j+1) l v (by simpa using h1) (by simpa using h2)⟩
theorem aC.drop {ls:List Leaf}{cs:List Value}(h:aC P V W st w ls cs)(n:Nat):aC P V W st w (ls.drop n) (cs.drop n) :=
 aC.mk (by simp[h.length]) λj l v h1 h2=>h.at_ (n+j) l v (by simpa using h1) (by simpa using h2)
theorem aC.take {ls:List Leaf}{cs:List Value}(h:aC P V W st w ls cs)(n:Nat):aC P V W st w (ls.take n) (cs.take n) :=
 aC.mk (by simp[h.length]) λj l v h1 h2=>by
  rw[List.getElem?_take]at h1 h2;split at h1
  ·rename_i hlt;rw[if_pos hlt]at h2;exact h.at_ j l v h1 h2
  ·cases h1
theorem aC.append {l1 l2:List Leaf}{c1 c2:List Value}(h1:aC P V W st w l1 c1)(h2:aC P V W st w l2 c2):aC P V W st w (l1++l2) (c1++c2):=by
 induction l1 generalizing c1 with
 |nil =>
  cases c1 with
  |nil=>simpa using h2
  |cons=>simp[aC]at h1
 |cons l ls ih =>
  cases c1 with
  |nil=>simp[aC]at h1
  |cons v cs=>exact⟨h1.1,ih h1.2⟩
theorem aC.carry (hro:∀ k,V.ro0 k->V.prot k)(hs:cm V W W' st st' w w'):∀ {ls:List Leaf} {cs:List Value},aC P V W st w ls cs->aC P V W' st' w' ls cs
 |[],[],_=>trivial
 |_::_,_::_,h=>⟨⟨h.1.1.carry hro hs (λho=>absurd ho h.1.2.1),h.1.2⟩,aC.carry hro hs h.2⟩
theorem eq {G:Nat->Prop}{p:Bool}(hG:∀ k,G k->gd V W p k):∀ {a:Ty} {x:a.den} {cs:List Value},Rd w G a x cs->aC P V W st w (co p a x) cs
 |.int _,_,_,h=>by rw[show _=_ from h];exact⟨⟨rfl,id,rfl⟩,trivial⟩
 |.bool,_,_,h=>by rw[show _=_ from h];exact⟨⟨rfl,id,rfl⟩,trivial⟩
 |.str,_,_,h=>by rw[show _=_ from h];exact⟨⟨rfl,id,rfl⟩,trivial⟩
 |.unit,_,_,h=>by rw[show _=_ from h];trivial
 |.hdr,_,_,⟨A,cap,e⟩=>by rw[e];exact⟨⟨⟨A,cap,rfl⟩,id,rfl⟩,trivial⟩
 |.pair _ _,_,_,⟨c1,c2,e,h1,h2⟩=>by rw[e];exact (eq hG h1).append (eq hG h2)
 |.list m E e,xs,_,h=>by
  obtain⟨A,cap,rfl,h2,h3⟩:=h;exact⟨⟨Rd.mono hG (⟨A,cap,rfl,h2,h3⟩:Rd w _ (.list false E e) xs _),id,rfl⟩,trivial⟩
theorem fO (p:Bool):∀ (a:Ty) (x:a.den),(co p a x).length=a.cells
 |.int _,_=>rfl
 |.bool,_=>rfl
 |.str,_=>rfl
 |.unit,_=>rfl
 |.hdr,_=>rfl
 |.pair a b,x=>by simp[co,Ty.cells,fO p a,fO p b]
 |.list _ _ _,_=>rfl
theorem cn (p:Bool):∀ (a:Ty) (x:a.den),(aq p a x).length=a.cells
 |.int _,_=>rfl
 |.bool,_=>rfl
 |.str,_=>rfl
 |.unit,_=>rfl
 |.hdr,_=>rfl
 |.pair a b,x=>by simp[aq,Ty.cells,cn p a,cn p b]
 |.list _ _ _,_=>rfl
theorem gQ (t n:Nat):∀ (j:Nat) (ls:List Leaf),(bu t n j ls).length=ls.length
 |_,[]=>rfl
 |j,_::ls=>by simp[bu,gQ t n (j+1) ls]
theorem mN (t n:Nat):∀ (j:Nat) (ls:List Leaf) (i:Nat) (l:Leaf),ls[i]?=some l->(bu t n j ls)[i]?=some (kA t (j+i) n l)
 |_,[],i,l,h=>by simp at h
 |j,l'::ls,0,l,h=>by
  simp at h;subst h;simp[bu]
 |j,l'::ls,i+1,l,h=>by
  have:=mN t n (j+1) ls i l (by simpa using h);simp only[bu,List.getElem?_cons_succ,this];congr 2;omega
theorem e9 {a:Act}(h:ao P V W st a w)(r:Nat):aC P V W st w (bu r (st r).ver 0 (st r).ls) (W.cs r):=by
 refine aC.mk (by rw[gQ,h.len]) λj l v hl hv=>?_
 have hj:j<(st r).ls.length:=by
  have:=(List.getElem?_eq_some_iff.1 hl).1;simpa[gQ]using this
 have h0:(st r).ls[j]?=some (st r).ls[j]:=List.getElem?_eq_getElem hj;have h1:=mN r (st r).ver 0 (st r).ls j _ h0;rw[h1]at hl;have h2:=h.leaf r j _ v h0 hv;have h3:=h.one r v (List.mem_of_getElem? hv);simp only[Option.some.injEq]at hl;subst hl;generalize hq:(st r).ls[j]=q at h2;cases q with
 |own p hh E e xs=>exact⟨⟨Nat.le_refl _,λ_=>by simpa using hv⟩,id,h3⟩
 |_=>exact⟨h2,id,h3⟩
theorem rC {v:Value}{l:Leaf}(h:gu v=some l):aJ P V W st w [] l v/\¬ an l/\v.oneCell'=true:=by
 unfold gu at h;split at h <;> simp at h <;> subst h <;> exact⟨rfl,id,rfl⟩
theorem cB {a:Act}(h:ao P V W st a w)(x:Operand) :
  ∃ cs,dI (ar st x).1 (a.eval x) cs/\aC P V W st w (ar st x).2 cs:=by
 cases x with
 |tmp t =>
  simp only[ar];cases ht:Nat.blt t GH with
  |false=>exact⟨[],rfl,trivial⟩
  |true=>exact⟨W.cs t,h.slots t (by simpa[Nat.blt_eq]using ht),e9 h t⟩
 |const v =>
  simp only[ar,Act.eval];cases hc:gu v with
  |none=>exact⟨[],rfl,trivial⟩
  |some l=>exact⟨[v],rfl,⟨rC hc,trivial⟩⟩
 |func f=>exact⟨[.func (.func f) #[] #[]],rfl,⟨⟨⟨rfl,λb hb=>by simp at hb⟩,id,rfl⟩,trivial⟩⟩
 |global g=>exact⟨[],rfl,trivial⟩
theorem bk {a:Act}(h:ao P V W st a w)(x:Operand)(hd:one st x≠.dead) :
  aJ P V W st w [] (one st x) (a.eval x)/\¬ an (one st x)/\(a.eval x).oneCell'=true/\(ar st x).1=.one/\(ar st x).2=[one st x]:=by
 obtain⟨cs,h1,h2⟩:=cB h x;unfold one at hd ⊢;split at hd
 ·rename_i l he;simp only[he]at h1 h2 ⊢;have h1':cs=[a.eval x]:=h1;subst h1';exact⟨h2.1.1,h2.1.2.1,h2.1.2.2,by simp,by simp⟩
 ·exact absurd rfl hd
theorem ey {r j n:Nat}{l:Leaf}(hd:aD st (.al r j n)=l)(hl:l≠.dead):(st r).ver=n/\(st r).ls[j]?=some l:=by
 simp only[aD]at hd;cases hb:Nat.beq (st r).ver n with
 |false=>simp only[hb,cond_false]at hd;exact absurd hd.symm hl
 |true =>
  simp only[hb,cond_true]at hd;refine⟨Nat.eq_of_beq_eq_true hb,?_⟩;rw[List.getD_eq_getElem?_getD]at hd;cases hq:(st r).ls[j]? with
  |none=>simp only[hq,Option.getD_none,mi]at hd;exact absurd hd.symm hl
  |some l' =>
   simp only[hq,Option.getD_some]at hd;cases l' with
   |nal=>simp only[mi]at hd;exact absurd hd.symm hl
   |_=>simp only[mi]at hd;rw[hd]
theorem gR {r j n:Nat}{p:Bool}{ks:List (Nat×Nat×Nat)}{ep:Nat}{loc:Option (Nat×Nat×Nat)}{E:TypeId}{e:Ty}{xs:List e.den}:aD st (.al r j n)≠.nal p ks ep loc E e xs:=by
 simp only[aD];cases Nat.beq (st r).ver n with
 |false=>simp
 |true =>
  simp only[cond_true];cases (st r).ls.getD j .dead <;> simp[mi]
theorem jn {a:Act}(h:ao P V W st a w){r j n:Nat}{p:Bool}{hh:Option (Nat×Nat)}{E:TypeId}{e:Ty}{xs:List e.den}{v:Value}(hd:aD st (.al r j n)=.own p hh E e xs)
  (hl:aJ P V W st w [] (.al r j n) v):(W.cs r)[j]?=some v/\OwH w (gd V W p) hh E e xs v (W.bs r j)/\(st r).ls[j]?=some (.own p hh E e xs)/\(st r).ver=n:=by
 obtain⟨h1,h2⟩:=ey hd (by simp);have h3:=hl.2 h1;exact⟨h3,h.leaf r j _ v h2 h3,h2,h1⟩
theorem ug {ls:List Leaf}{j:Nat}(h:kf (ls.getD j .dead)=true):∃ l,ls[j]?=some l/\an l:=by
 rw[List.getD_eq_getElem?_getD]at h;cases hq:ls[j]? with
 |none=>rw[hq]at h;simp[kf]at h
 |some l =>
  rw[hq]at h;refine⟨l,rfl,?_⟩;cases l <;> simp[kf]at h;trivial
theorem ci {ks:List (Nat×Nat×Nat)}{ep:Nat}(h:bj st ks ep=true):(st EPO).ver=ep/\(∀ k∈ks,(st k.1).ver=k.2.2)/\qB st ks:=by
 simp only[bj,Bool.and_eq_true,List.all_eq_true]at h;exact⟨Nat.eq_of_beq_eq_true h.1,λk hk=>Nat.eq_of_beq_eq_true (h.2 k hk).1,λk hk=>ug (h.2 k hk).2⟩
theorem oE {p:Bool}{ks:List (Nat×Nat×Nat)}{ep:Nat}{loc:Option (Nat×Nat×Nat)}{E:TypeId}{e:Ty}{xs:List e.den}{v:Value}(hv:bj st ks ep=true)
 (hl:aJ P V W st w [] (.nal p ks ep loc E e xs) v):qC V W w p ks loc E e xs v:=hl.2.2 (ci hv).1 (ci hv).2.1 (ci hv).2.2
def bi (V:Env)(W:Wit)(p:Bool)(ks:List (Nat×Nat))(k:Nat):Prop:=gd V W p k\/∃ x∈ks,k∈W.bs x.1 x.2
theorem iI {E:TypeId}{e:Ty}{E':TypeId}{e':Ty}{xs:List e'.den}{ys:List e.den}(h:kB E e E' e' xs=some ys) :
  ∃ (h1:E'=E) (h2:e'=e),h2 ▸ xs=ys:=by
 unfold kB at h;split at h
 ·rename_i hh;simp at h;exact⟨hh.1,hh.2,h⟩
 ·cases h
theorem sy {e e':Ty}{xs:List e'.den}{ys:List e.den}(h:castSh e e' xs=some ys):e'.sh=e.sh/\HEq xs ys:=by
 unfold castSh at h;split at h
 ·rename_i hh;simp only[Option.some.injEq]at h;refine⟨hh,?_⟩;rw[<- h];exact (cast_heq _ _).symm
 ·cases h
theorem Rd.castSh {G:Nat->Prop}{m m':Bool}{E E':TypeId}{e e':Ty}{xs:List e'.den}{ys:List e.den}{cs:List Value}(h:castSh e e' xs=some ys)(hr:Rd w G (.list m E' e') xs cs):Rd w G (.list m' E e) ys cs:=by
 obtain⟨h1,h2⟩:=sy h;have h3:Rd w G (.list m E e) ys cs:=by
  refine Rd.flags (a:=.list m E e') (x:=xs) (by simp only[Ty.sh,h1]) h2 ?_;obtain⟨A,cap,e1,h4,h5⟩:=hr;exact⟨A,cap,e1,h4,h5⟩
 obtain⟨A,cap,e1,h4,h5⟩:=h3;exact⟨A,cap,e1,h4,h5⟩
theorem jo (st:St):∀ (l1 l2:List Leaf),bq st (l1++l2)=bq st l1++bq st l2
 |[],_=>rfl
 |l::l1,l2=>by
  have:=jo st l1 l2;cases l <;> simp[bq,this]
theorem rD (st:St):∀ (l1 l2:List Leaf),bR st (l1++l2)=bR st l1++bR st l2
 |[],_=>rfl
 |l::l1,l2=>by
  have:=rD st l1 l2;cases l <;> simp[bR,this]
theorem jN {a:Act}(h:ao P V W st a w){m:Bool}{E:TypeId}{e:Ty}{l:Leaf}{v:Value}{p:Bool}{xs:List e.den}
  (hl:aJ P V W st w [] l v) (hno:¬ an l) (ha:cG e (aD st l)=some (p,xs)):Rd w (bi V W p (bq st [l])) (.list m E e) xs [v]:=by
 have key:∀ (q:Leaf) (bs:List Nat) (S:Nat->Prop),aJ P V W st w bs q v->cG e q=some (p,xs)->(∀ k,gd V W p k->S k)->(an q->∀ k∈bs,S k) ->
   (∀ q' ks ep loc E' e' xs',q=.nal q' ks ep loc E' e' xs'->bj st ks ep=true/\∀ k∈ks,∀ b∈W.bs k.1 k.2.1,S b)->Rd w S (.list m E e) xs [v]:=by
  intro q bs S hq ha hS hb hn;cases q with
  |ro q E' e' ys =>
   simp only[cG,Option.map_eq_some_iff,Prod.mk.injEq]at ha;obtain⟨zs,hc,rfl,rfl⟩:=ha;exact Rd.castSh hc (Rd.mono hS hq)
  |nil =>
   simp only[cG,Option.some.injEq,Prod.mk.injEq]at ha;obtain⟨rfl,rfl⟩:=ha;rw[show v=_ from hq];exact Rd.nil w _ m E e
  |own q hh E' e' ys =>
   cases hh with
   |some _=>simp[cG]at ha
   |none =>
    simp only[cG,Option.map_eq_some_iff,Prod.mk.injEq]at ha;obtain⟨zs,hc,rfl,rfl⟩:=ha;refine Rd.castSh hc (Rd.mono (λk hk=>?_) (OwH.rd (m:=false) (E':=E') hq));exact hk.elim (hS k) (hb trivial k)
  |nal q ks ep loc E' e' ys =>
   simp only[cG,Option.map_eq_some_iff,Prod.mk.injEq]at ha;obtain⟨zs,hc,rfl,rfl⟩:=ha;obtain⟨hv,hn⟩:=hn _ _ _ _ _ _ _ rfl;have h1:qC V W w q ks loc E' e' ys v:=hq.2.2 (ci hv).1 (ci hv).2.1 (ci hv).2.2;refine Rd.castSh hc (Rd.mono (λk hk=>?_) h1.rd);rcases hk with hk|⟨x,hx,hk⟩
   ·exact hS k hk
   ·exact hn x hx k hk
  |_=>simp[cG]at ha
 cases l with
 |al r j n =>
  by_cases hd:aD st (.al r j n)=.dead
  ·rw[hd]at ha;simp[cG]at ha
  ·obtain⟨h1,h2⟩:=ey rfl hd;have h3:=h.leaf r j _ v h2 (hl.2 h1);generalize hq:aD st (.al r j n)=q at ha h2 h3;refine key q (W.bs r j) _ h3 ha (λk hk=>.inl hk) (λho k hk=>.inr ⟨(r,j),?_,hk⟩) ?_
   ·cases q <;> first|exact ho.elim|simp[bq,hq]
   ·rintro q' ks ep loc E' e' xs' rfl;exact absurd hq gR
 |own q hh E' e' ys=>exact absurd trivial hno
 |nal q ks ep loc E' e' ys =>
  simp only[aD]at ha;cases hv:bj st ks ep with
  |false=>simp[hv,cG]at ha
  |true =>
   simp only[hv,cond_true]at ha;refine key _ [] _ hl ha (λk hk=>.inl hk) (λho=>ho.elim) ?_;intro q' ks' ep' loc' E'' e'' xs' heq;cases heq;refine⟨hv,λk hk b hb=>.inr ⟨(k.1,k.2.1),?_,hb⟩⟩;simp only[bq,aD,hv,cond_true,List.append_nil,List.mem_map];exact⟨k,hk,rfl⟩
 |ro q E' e' ys=>exact key _ [] _ hl ha (λk hk=>.inl hk) (λho=>ho.elim) (λ_ _ _ _ _ _ _ h=>by cases h)
 |nil=>exact key _ [] _ hl ha (λk hk=>.inl hk) (λho=>ho.elim) (λ_ _ _ _ _ _ _ h=>by cases h)
 |_=>simp[aD,cG]at ha
theorem vB {a:Act}(h:ao P V W st a w){l:Leaf}{v:Value}{n:Nat}(hl:aJ P V W st w [] l v)(hno:¬ an l)(ha:ff (aD st l)=some n):Rd w (λ_=>False) .hdr n [v]:=by
 have key:∀ (q:Leaf) (bs:List Nat),aJ P V W st w bs q v->ff q=some n->(∀ p ks ep loc E e xs,q=.nal p ks ep loc E e xs->bj st ks ep=true)->Rd w (λ_=>False) .hdr n [v]:=by
  intro q bs hq ha hn;cases q with
  |ro p E e xs =>
   simp only[ff,Option.some.injEq]at ha;subst ha;obtain⟨A,cap,e1,_⟩:=hq;exact⟨A,cap,e1⟩
  |own p hh E e xs =>
   simp only[ff,Option.some.injEq]at ha;subst ha;obtain⟨A,cap,e1,_⟩:=OwH.slice hq;exact⟨A,cap,by rw[e1]⟩
  |nal p ks ep loc E e xs =>
   simp only[ff,Option.some.injEq]at ha;subst ha;have hv:=hn _ _ _ _ _ _ _ rfl;obtain⟨A,cap,e1,_⟩:=(hq.2.2 (ci hv).1 (ci hv).2.1 (ci hv).2.2:qC V W w p ks loc E e xs v).rd;exact⟨A,cap,e1⟩
  |nil =>
   simp only[ff,Option.some.injEq]at ha;subst ha;exact⟨none,0,by rw[show v=_ from hq]⟩
  |hdr m =>
   simp only[ff,Option.some.injEq]at ha;subst ha;obtain⟨A,cap,e1⟩:=hq;exact⟨A,cap,by rw[e1]⟩
  |_=>simp[ff]at ha
 cases l with
 |al r j m =>
  by_cases hd:aD st (.al r j m)=.dead
  ·rw[hd]at ha;simp[ff]at ha
  ·obtain⟨h1,h2⟩:=ey rfl hd;have h3:=h.leaf r j _ v h2 (hl.2 h1);refine key _ _ h3 ha λp ks ep loc E e xs hq=>absurd hq gR
 |own q hh E' e' ys=>exact absurd trivial hno
 |nal q ks ep loc E' e' ys =>
  simp only[aD]at ha;cases hv:bj st ks ep with
  |false=>simp[hv,ff]at ha
  |true =>
   simp only[hv,cond_true]at ha;refine key _ [] hl ha ?_;intro q' ks' ep' loc' E'' e'' xs' heq;cases heq;exact hv
 |ro q E' e' ys=>exact key _ [] hl ha (λ_ _ _ _ _ _ _ h=>by cases h)
 |nil=>exact key _ [] hl ha (λ_ _ _ _ _ _ _ h=>by cases h)
 |hdr m=>exact key _ [] hl ha (λ_ _ _ _ _ _ _ h=>by cases h)
 |_=>simp[aD,ff]at ha
theorem jO {a:Act}(h:ao P V W st a w):∀ (b:Ty) (ls:List Leaf) (cs:List Value) (p:Bool) (x:b.den) (rest:List Leaf),aC P V W st w ls cs ->
  aV st b ls=some (p,x,rest)->∃ c1 c2 l1,cs=c1++c2/\ls=l1++rest/\aC P V W st w l1 c1/\aC P V W st w rest c2/\Rd w (bi V W p (bq st l1)) b x c1
 |.int k,ls,cs,p,x,rest,hl,hg=>by
  simp only[aV]at hg;split at hg
  ·rename_i k' n ls;split at hg
   ·rename_i hk;simp only[Option.some.injEq,Prod.mk.injEq]at hg;obtain⟨rfl,rfl,rfl⟩:=hg;cases cs with
    |nil=>exact hl.elim
    |cons v cs=>exact⟨[v],cs,[_],rfl,rfl,⟨hl.1,trivial⟩,hl.2,by rw[show v=_ from hl.1.1,hk];rfl⟩
   ·cases hg
  ·cases hg
 |.bool,ls,cs,p,x,rest,hl,hg=>by
  simp only[aV]at hg;split at hg
  ·simp only[Option.some.injEq,Prod.mk.injEq]at hg;obtain⟨rfl,rfl,rfl⟩:=hg;cases cs with
   |nil=>exact hl.elim
   |cons v cs=>exact⟨[v],cs,[_],rfl,rfl,⟨hl.1,trivial⟩,hl.2,by rw[show v=_ from hl.1.1];rfl⟩
  ·cases hg
 |.str,ls,cs,p,x,rest,hl,hg=>by
  simp only[aV]at hg;split at hg
  ·simp only[Option.some.injEq,Prod.mk.injEq]at hg;obtain⟨rfl,rfl,rfl⟩:=hg;cases cs with
   |nil=>exact hl.elim
   |cons v cs=>exact⟨[v],cs,[_],rfl,rfl,⟨hl.1,trivial⟩,hl.2,by rw[show v=_ from hl.1.1];rfl⟩
  ·cases hg
 |.unit,ls,cs,p,x,rest,hl,hg=>by
  simp only[aV,Option.some.injEq,Prod.mk.injEq]at hg;obtain⟨rfl,_,rfl⟩:=hg;exact⟨[],cs,[],rfl,rfl,trivial,hl,rfl⟩
 |.hdr,ls,cs,p,x,rest,hl,hg=>by
  simp only[aV]at hg;split at hg
  ·rename_i l ls1;split at hg
   ·rename_i n hn;simp only[Option.some.injEq,Prod.mk.injEq]at hg;obtain⟨rfl,rfl,rfl⟩:=hg;cases cs with
    |nil=>exact hl.elim
    |cons v cs=>exact⟨[v],cs,[l],rfl,rfl,⟨hl.1,trivial⟩,hl.2,vB h hl.1.1 hl.1.2.1 hn⟩
   ·cases hg
  ·cases hg
 |.pair b c,ls,cs,p,x,rest,hl,hg=>by
  simp only[aV]at hg;split at hg
  ·rename_i q y ls1 hb;split at hg
   ·rename_i q' z ls2 hc;simp only[Option.some.injEq,Prod.mk.injEq]at hg;obtain⟨rfl,rfl,rfl⟩:=hg;obtain⟨c1,c2,l1,e1,e2,h1,h2,h3⟩:=jO h b ls cs q y ls1 hl hb;obtain⟨c3,c4,l2,e3,e4,h4,h5,h6⟩:=jO h c ls1 c2 q' z ls2 h2 hc;refine⟨c1++c3,c4,l1++l2,by rw[e1,e3,List.append_assoc],by rw[e2,e4,List.append_assoc],h1.append h4,h5,c1,c3,rfl,?_,?_⟩
    ·refine Rd.mono (λk hk=>?_) h3;rcases hk with hk|⟨y,hy,hk⟩
     ·exact .inl (bL (by simp_all) (λ_ h=>h) k hk)
     ·exact .inr ⟨y,by rw[jo];exact List.mem_append_left _ hy,hk⟩
    ·refine Rd.mono (λk hk=>?_) h6;rcases hk with hk|⟨y,hy,hk⟩
     ·exact .inl (bL (by simp_all) (λ_ h=>h) k hk)
     ·exact .inr ⟨y,by rw[jo];exact List.mem_append_right _ hy,hk⟩
   ·cases hg
  ·cases hg
 |.list m E e,ls,cs,p,x,rest,hl,hg=>by
  simp only[aV]at hg;split at hg
  ·rename_i l ls1;split at hg
   ·rename_i q ys ha;simp only[Option.some.injEq,Prod.mk.injEq]at hg;obtain⟨rfl,rfl,rfl⟩:=hg;cases cs with
    |nil=>exact hl.elim
    |cons v cs=>exact⟨[v],cs,[l],rfl,rfl,⟨hl.1,trivial⟩,hl.2,jN h hl.1.1 hl.1.2.1 ha⟩
   ·cases hg
  ·cases hg
theorem dU {a:Act}(h:ao P V W st a w){b:Ty}{ls:List Leaf}{cs:List Value}{p:Bool}{x:b.den}(hl:aC P V W st w ls cs)
  (hg:ct st b ls=some (p,x)):Rd w (bi V W p (bq st ls)) b x cs:=by
 unfold ct at hg;split at hg
 ·rename_i q y hq;simp only[Option.some.injEq,Prod.mk.injEq]at hg;obtain⟨rfl,rfl⟩:=hg;obtain⟨c1,c2,l1,e1,e2,h1,h2,h3⟩:=jO h b ls cs _ _ _ hl hq;have:c2=[]:=by
   cases c2 with
   |nil=>rfl
   |cons=>exact h2.elim
  subst this;simp only[List.append_nil]at e1 e2;subst e1;subst e2;exact h3
 ·cases hg
end
end Go.Proofs.YtmcbmojdeikcdaaGreatEv
namespace Go.Proofs.YtmcbmojdeikcdaaGreatEv
open Go Go.RowKit
section
variable {P:Program} {V:Env} {W W':Wit} {st st':St} {w w':World} {a:Act}
theorem bm (A B:Upd)(st:St):ac (A++B) st=ac A (ac B st):=by
 funext q;induction A with
 |nil=>rfl
 |cons x A ih=>obtain⟨r,c⟩:=x;simp only[List.cons_append,ac,ih]
theorem aN (r:Nat)(c:bM)(U:Upd)(st:St):ac ((r,c)::U) st=ac [(r,c)] (ac U st):=bm [(r,c)] U st
theorem bg (r:Nat)(c:bM)(st:St):ac [(r,c)] st r=c:=by simp[ac]
theorem aI {r q:Nat}(h:q≠r)(c:bM)(st:St):ac [(r,c)] st q=st q:=by
 have:Nat.beq q r=false:=by
  cases hb:Nat.beq q r with
  |false=>rfl
  |true=>exact absurd (Nat.eq_of_beq_eq_true hb) h
 simp[ac,this]
theorem am (r q:Nat)(c:bM)(st:St):(q=r/\ac [(r,c)] st q=c)\/(q≠r/\ac [(r,c)] st q=st q):=by
 by_cases h:q=r
 ·subst h;exact .inl ⟨rfl,bg q c st⟩
 ·exact .inr ⟨h,aI h c st⟩
def bW (V:Env)(W:Wit)(st:St)(k:Nat):Prop :=
 W.nw k\/V.prot k\/(∃ b,live st b/\W.β b=k)\/∃ r j l,(st r).ls[j]?=some l/\an l/\k∈W.bs r j
theorem ao.own_lt (h:ao P V W st a w){r j:Nat}{l:Leaf}(hl:(st r).ls[j]?=some l)(ho:an l):∀ k∈W.bs r j,k<w.heap.size:=by
 have hj:j<(W.cs r).length:=by rw[<- h.len];exact (List.getElem?_eq_some_iff.1 hl).1
 have:=h.leaf r j l _ hl (List.getElem?_eq_getElem hj);cases l <;> simp only[an]at ho;exact OwH.lt this
theorem ao.box_lt (h:ao P V W st a w){b:Nat}(hb:live st b):W.β b<w.heap.size:=by
 rcases h.boxes b hb.1 with ⟨h1,_⟩|⟨_,E,h2⟩
 ·exact absurd (h1.symm.trans hb.2) (by simp)
 ·exact (Array.getElem?_eq_some_iff.1 h2).1
theorem ao.used_lt (h:ao P V W st a w):∀ k,bW V W st k->k<w.heap.size:=by
 intro k hk;rcases hk with hk|hk|⟨b,hb,rfl⟩|⟨r,j,l,h1,h2,h3⟩
 ·exact (h.nwlt k hk).1
 ·exact Nat.lt_of_lt_of_le hk.1 h.size
 ·exact h.box_lt hb
 ·exact h.own_lt h1 h2 k h3
theorem ao.world (hV:ax V)(h:ao P V W st a w)(hs:w.heap.size<=w'.heap.size)(hos:w'.os=w.os)(ht:w'.tape=w.tape)(ho:w'.output=w.output)
  (hk:∀ k,bW V W st k->w'.heap[k]?=w.heap[k]?):ao P V W st a w':=by
 have hstep:cm V W W st st w w':=⟨λr=>⟨Nat.le_refl _,λ_=>rfl⟩,λb hb=>⟨hb,rfl⟩,λ_ h=>h,λk h=>hk k (h.elim .inl (λh=>.inr (.inl h))),
  λ_ r j l h1 h2 _=>⟨⟨l,h1,h2⟩,rfl,λk hkk=>hk k (.inr (.inr (.inr ⟨r,j,l,h1,h2,hkk⟩)))⟩⟩
 exact {
  nt:=h.nt,df:=h.df,slots:=h.slots,
  boxes:=λb hb=>(h.boxes b hb).imp id λ⟨h1,E,h2⟩=>⟨h1,E,by rw[hk _ (.inr (.inr (.inl ⟨b,⟨hb,h1⟩,rfl⟩)))];exact h2⟩
  len:=h.len,one:=h.one,
  leaf:=λr j l v h1 h2=>(h.leaf r j l v h1 h2).carry hV.ro hstep (λho=>⟨rfl,λk hkk=>hk k (.inr (.inr (.inr ⟨r,j,l,h1,ho,hkk⟩)))⟩)
  ownb:=h.ownb,sep:=h.sep,box:=h.box,inj:=h.inj,
  nwlt:=λk hk=>⟨Nat.lt_of_lt_of_le (h.nwlt k hk).1 hs,(h.nwlt k hk).2⟩
  os:=hos.trans h.os,tape:=ht.trans h.tape,output:=ho.trans h.output,size:=Nat.le_trans h.size hs,
  keep:=λk hp=>(hk k (.inr (.inl hp))).trans (h.keep k hp)
  fixb:=h.fixb,fixt:=h.fixt }
theorem ao.below (hV:ax V)(h:ao P V W st a w)(hb:Below w.heap.size w w'):ao P V W st a w' :=
 h.world hV hb.size hb.os hb.tape hb.output λk hk=>hb.block k (h.used_lt k hk)
theorem ao.relabel (hV:ax V)(h:ao P V W st a w)(r:Nat)(c:bM)(nw':Nat->Prop)(hver:(st r).ver<=c.ver)(hsh:c.sh=(st r).sh)
    (hlen:c.ls.length=(st r).ls.length) (hnw:∀ k,W.nw k->nw' k) (hnwlt:∀ k,nw' k->k<w.heap.size/\¬ V.prot k)
    (hleaf:∀ (j:Nat) (l:Leaf) (v:Value),c.ls[j]?=some l->(W.cs r)[j]?=some v->aJ P V { W with nw:=nw' } (ac [(r,c)] st) w (W.bs r j) l v)
    (hown:∀ (j:Nat) (l:Leaf),c.ls[j]?=some l->an l->(st r).ls[j]?=some l)
    (hnwown:∀ (q j:Nat) (l:Leaf),(ac [(r,c)] st q).ls[j]?=some l->an l->∀ k∈W.bs q j,¬ nw' k)
    (hnwbox:∀ b,live st b->¬ nw' (W.β b)):ao P V { W with nw:=nw' } (ac [(r,c)] st) a w:=by
  have hl:∀ b,live (ac [(r,c)] st) b<->live st b:=by
    intro b;rcases am r b c st with ⟨rfl,e⟩|⟨_,e⟩
    · simp[live,e,hsh]
    · simp[live,e]
  have hback:∀ (q j:Nat) (l:Leaf),(ac [(r,c)] st q).ls[j]?=some l->an l->(st q).ls[j]?=some l:=by
    intro q j l h1 h2;rcases am r q c st with ⟨rfl,e⟩|⟨_,e⟩
    · rw[e]at h1;exact hown j l h1 h2
    · rwa [e]at h1
  have hstep:cm V W { W with nw:=nw' } st (ac [(r,c)] st) w w :=
    ⟨λq=>by
      rcases am r q c st with ⟨rfl,e⟩|⟨_,e⟩
      · rw[e];exact⟨hver,λ_=>rfl⟩
      · rw[e];exact⟨Nat.le_refl _,λ_=>rfl⟩,
     λb hb=>⟨(hl b).2 hb,rfl⟩,hnw,λ_ _=>rfl,λ_ q j l h1 h2 h3=>⟨⟨l,hback q j l h1 h2,h2⟩,rfl,λ_ _=>rfl⟩⟩
  exact {
    nt:=h.nt,df:=h.df,
    slots:=λt ht=>by
      rcases am r t c st with ⟨rfl,e⟩|⟨_,e⟩
      · rw[e,hsh];exact h.slots t ht
      · rw[e];exact h.slots t ht
    boxes:=λb hb=>by
      rcases am r b c st with ⟨rfl,e⟩|⟨_,e⟩
      · rw[e,hsh]
        rcases h.boxes b hb with ⟨h1,h2⟩|h1
        · refine .inl ⟨h1,?_⟩
          rw[h2]at hlen;exact List.eq_nil_of_length_eq_zero hlen
        · exact .inr h1
      · rw[e];exact h.boxes b hb
    len:=λq=>by
      rcases am r q c st with ⟨rfl,e⟩|⟨_,e⟩
      · rw[e,hlen];exact h.len q
      · rw[e];exact h.len q
    one:=h.one
    leaf:=λq j l v h1 h2=>by
      rcases am r q c st with ⟨rfl,e⟩|⟨_,e⟩
      · rw[e]at h1;exact hleaf j l v h1 h2
      · rw[e]at h1
        exact (h.leaf q j l v h1 h2).carry hV.ro hstep (λ_=>⟨rfl,λ_ _=>rfl⟩)
    ownb:=λq j l h1 h2 k hk=>⟨hnwown q j l h1 h2 k hk,(h.ownb q j l (hback q j l h1 h2) h2 k hk).2.1,λb hb=>(h.ownb q j l (hback q j l h1 h2) h2 k hk).2.2 b ((hl b).1 hb)⟩
    sep:=λq j l q' j' l' h1 h2 h3 h4=>h.sep q j l q' j' l' (hback q j l h1 h2) h2 (hback q' j' l' h3 h4) h4
    box:=λb hb=>⟨hnwbox b ((hl b).1 hb),(h.box b ((hl b).1 hb)).2⟩
    inj:=λb b' hb hb'=>h.inj b b' ((hl b).1 hb) ((hl b').1 hb')
    nwlt:=hnwlt
    os:=h.os,tape:=h.tape,output:=h.output,size:=h.size,keep:=h.keep,
    fixb:=λx hx=>⟨(hl _).2 (h.fixb x hx).1,(h.fixb x hx).2⟩,fixt:=h.fixt }
theorem aP {α:Type}(ls:List α)(j i:Nat)(x y:α)(h:(ls.set j x)[i]?=some y):(i=j/\y=x/\j<ls.length)\/(i≠j/\ls[i]?=some y):=by
 rw[List.getElem?_set]at h;split at h
 ·rename_i hij;split at h
  ·rename_i hj;exact .inl ⟨hij.symm,by simpa using h.symm,hj⟩
  ·cases h
 ·rename_i hij;exact .inr ⟨λe=>hij e.symm,h⟩
theorem ao.kill1 (hV:ax V)(h:ao P V W st a w)(r j:Nat):ao P V W (ac [(r,fg (st r) j)] st) a w:=by
 refine h.relabel hV r _ W.nw (Nat.le_refl _) rfl (by simp[fg,aQ]) (λ_ h=>h) h.nwlt ?_ ?_ ?_ λb hb=>(h.box b hb).1
 ·intro i l v h1 h2;rcases aP _ _ _ _ _ h1 with ⟨_,rfl,_⟩|⟨hne,h1⟩
  ·trivial
  ·refine (h.leaf r i l v h1 h2).carry hV.ro ⟨λq=>?_,λb hb=>?_,λ_ h=>h,λ_ _=>rfl,λ_ q j' l' h3 h4 h5=>?_⟩ (λ_=>⟨rfl,λ_ _=>rfl⟩)
   ·rcases am r q (fg (st r) j) st with ⟨rfl,e⟩|⟨_,e⟩
    ·rw[e];exact⟨Nat.le_refl _,λ_=>rfl⟩
    ·rw[e];exact⟨Nat.le_refl _,λ_=>rfl⟩
   ·refine⟨⟨hb.1,?_⟩,rfl⟩;rcases am r b (fg (st r) j) st with ⟨rfl,e⟩|⟨_,e⟩
    ·rw[e];exact hb.2
    ·rw[e];exact hb.2
   ·rcases am r q (fg (st r) j) st with ⟨rfl,e⟩|⟨_,e⟩
    ·rw[e]at h3;rcases aP _ _ _ _ _ h3 with ⟨_,rfl,_⟩|⟨_,h3⟩
     ·exact h4.elim
     ·exact⟨⟨l',h3,h4⟩,rfl,λ_ _=>rfl⟩
    ·rw[e]at h3;exact⟨⟨l',h3,h4⟩,rfl,λ_ _=>rfl⟩
 ·intro i l h1 h2;rcases aP _ _ _ _ _ h1 with ⟨_,rfl,_⟩|⟨hne,h1⟩
  ·exact h2.elim
  ·exact h1
 ·intro q i l h1 h2;have:(st q).ls[i]?=some l:=by
   rcases am r q (fg (st r) j) st with ⟨rfl,e⟩|⟨_,e⟩
   ·rw[e]at h1;rcases aP _ _ _ _ _ h1 with ⟨_,rfl,_⟩|⟨hne,h1⟩
    ·exact h2.elim
    ·exact h1
   ·rwa [e]at h1
  exact λk hk=>(h.ownb q i l this h2 k hk).1
theorem ao.frz1 (hV:ax V)(h:ao P V W st a w)(r j:Nat) :
  ao P V { W with nw:=λk=>W.nw k\/((∃ l,(st r).ls[j]?=some l/\an l)/\k∈W.bs r j) } (ac [(r,fb (st r) j)] st) a w:=by
 have hget:∀ l,(st r).ls[j]?=some l->(st r).ls.getD j .dead=l:=λl hl=>by rw[List.getD_eq_getElem?_getD,hl];rfl
 have hnoown:∀ (i:Nat) (l:Leaf),(aQ (st r).ls j (sK ((st r).ls.getD j .dead)))[i]?=some l->an l->(st r).ls[i]?=some l/\i≠j:=by
  intro i l h1 h2;rcases aP _ _ _ _ _ h1 with ⟨rfl,rfl,hj⟩|⟨hne,h1⟩
  ·rw[hget _ (List.getElem?_eq_getElem hj)]at h2;generalize (st r).ls[i]=l at h2;cases l with
   |own p hh E e xs=>cases hh <;> exact h2.elim
   |_=>exact h2.elim
  ·exact⟨h1,hne⟩
 have hstep:cm V W { W with nw:=λk=>W.nw k\/((∃ l,(st r).ls[j]?=some l/\an l)/\k∈W.bs r j) } st (ac [(r,fb (st r) j)] st) w w:=by
  refine⟨λq=>?_,λb hb=>?_,λ_ h=>.inl h,λ_ _=>rfl,λ_ q j' l' h3 h4 h5=>?_⟩
  ·rcases am r q (fb (st r) j) st with ⟨rfl,e⟩|⟨_,e⟩
   ·rw[e];exact⟨Nat.le_refl _,λ_=>rfl⟩
   ·rw[e];exact⟨Nat.le_refl _,λ_=>rfl⟩
  ·refine⟨⟨hb.1,?_⟩,rfl⟩;rcases am r b (fb (st r) j) st with ⟨rfl,e⟩|⟨_,e⟩
   ·rw[e];exact hb.2
   ·rw[e];exact hb.2
  ·rcases am r q (fb (st r) j) st with ⟨rfl,e⟩|⟨_,e⟩
   ·rw[e]at h3;exact⟨⟨l',(hnoown j' l' h3 h4).1,h4⟩,rfl,λ_ _=>rfl⟩
   ·rw[e]at h3;exact⟨⟨l',h3,h4⟩,rfl,λ_ _=>rfl⟩
 refine h.relabel hV r _ _ (Nat.le_refl _) rfl (by simp[fb,aQ]) (λ_ h=>.inl h) ?_ ?_ (λi l h1 h2=>(hnoown i l h1 h2).1) ?_ ?_
 ·rintro k (hk|⟨⟨l,h1,h2⟩,hk⟩)
  ·exact h.nwlt k hk
  ·exact⟨h.own_lt h1 h2 k hk,(h.ownb r j l h1 h2 k hk).2.1⟩
 ·intro i l v h1 h2;rcases aP _ _ _ _ _ h1 with ⟨rfl,rfl,hj⟩|⟨hne,h1⟩
  ·have h3:(st r).ls[i]?=some (st r).ls[i]:=List.getElem?_eq_getElem hj;have h4:=h.leaf r i _ v h3 h2;rw[hget _ h3];generalize hq:(st r).ls[i]=q at h3 h4;cases q with
   |own p hh E e xs =>
    cases hh with
    |some _=>trivial
    |none =>
     refine Rd.mono (λk hk=>?_) (OwH.rd (m:=false) (E':=E) h4);rcases hk with hk|hk
     ·exact bL (W':={ W with nw:=_ }) (λh=>h) (λ_ h=>.inl h) k hk
     ·exact .inl (.inr ⟨⟨_,h3,trivial⟩,hk⟩)
   |_=>exact h4.carry hV.ro hstep (λho=>ho.elim)
  ·exact (h.leaf r i l v h1 h2).carry hV.ro hstep (λ_=>⟨rfl,λ_ _=>rfl⟩)
 ·intro q i l h1 h2 k hk;have h3:(st q).ls[i]?=some l/\(q,i)≠(r,j):=by
   rcases am r q (fb (st r) j) st with ⟨rfl,e⟩|⟨hne,e⟩
   ·rw[e]at h1;have:=hnoown i l h1 h2;exact⟨this.1,λe=>this.2 (by simpa using congrArg Prod.snd e)⟩
   ·rw[e]at h1;exact⟨h1,λe=>hne (by simpa using congrArg Prod.fst e)⟩
  rintro (hn|⟨⟨l',h4,h5⟩,hn⟩)
  ·exact (h.ownb q i l h3.1 h2 k hk).1 hn
  ·obtain⟨rfl,rfl⟩:=h.sep q i l r j l' h3.1 h2 h4 h5 k hk hn;exact h3.2 rfl
 ·rintro b hb (hn|⟨⟨l',h4,h5⟩,hn⟩)
  ·exact (h.box b hb).1 hn
  ·exact (h.ownb r j l' h4 h5 _ hn).2.2 b hb rfl
theorem kX (hV:ax V):∀ (ks:List (Nat×Nat)),ao P V W st a w->ao P V W (ac (aM st ks) st) a w /\
  (∀ (q i:Nat) (l:Leaf),(ac (aM st ks) st q).ls[i]?=some l->an l->(st q).ls[i]?=some l/\(q,i)∉ks) /\
  (∀ q,(ac (aM st ks) st q).sh=(st q).sh/\(st q).ver<=(ac (aM st ks) st q).ver)
 |[],h=>⟨h,λ_ _ _ h1 _=>⟨h1,by simp⟩,λ_=>⟨rfl,Nat.le_refl _⟩⟩
 |(r,j)::ks,h=>by
  obtain⟨h1,h2,h3⟩:=kX hV ks h;have e:ac (aM st ((r,j)::ks)) st=ac [(r,fg (ac (aM st ks) st r) j)] (ac (aM st ks) st):=aN _ _ _ _;rw[e];refine⟨h1.kill1 hV r j,λq i l h4 h5=>?_,λq=>?_⟩
  ·have h6:(ac (aM st ks) st q).ls[i]?=some l/\(q,i)≠(r,j):=by
    rcases am r q (fg (ac (aM st ks) st r) j) (ac (aM st ks) st) with ⟨rfl,e⟩|⟨hne,e⟩
    ·rw[e]at h4;rcases aP _ _ _ _ _ h4 with ⟨_,rfl,_⟩|⟨hne,h4⟩
     ·exact h5.elim
     ·exact⟨h4,λe=>hne (by simpa using congrArg Prod.snd e)⟩
    ·rw[e]at h4;exact⟨h4,λe=>hne (by simpa using congrArg Prod.fst e)⟩
   obtain⟨h7,h8⟩:=h2 q i l h6.1 h5;exact⟨h7,by simp only[List.mem_cons,not_or];exact⟨h6.2,h8⟩⟩
  ·rcases am r q (fg (ac (aM st ks) st r) j) (ac (aM st ks) st) with ⟨rfl,e⟩|⟨hne,e⟩
   ·rw[e];exact⟨(h3 q).1,(h3 q).2⟩
   ·rw[e];exact h3 q
def Wit.frz (W:Wit)(st:St)(ks:List (Nat×Nat)):Wit :=
 { W with nw:=λk=>W.nw k\/∃ x∈ks,(∃ l,(st x.1).ls[x.2]?=some l/\an l)/\k∈W.bs x.1 x.2 }
theorem ao.nw_congr (h:ao P V W st a w){nw':Nat->Prop}(e:∀ k,W.nw k<->nw' k):ao P V { W with nw:=nw' } st a w:=by
 have:nw'=W.nw:=funext λk=>propext (e k).symm
 subst this;exact h
theorem kr (hV:ax V):∀ (ks:List (Nat×Nat)),ao P V W st a w->ao P V (W.frz st ks) (ac (aE st ks) st) a w /\
  (∀ (q i:Nat) (l:Leaf),(ac (aE st ks) st q).ls[i]?=some l->an l->(st q).ls[i]?=some l/\(q,i)∉ks) /\
  (∀ q,(ac (aE st ks) st q).sh=(st q).sh/\(st q).ver<=(ac (aE st ks) st q).ver)
 |[],h=>⟨h.nw_congr (λk=>by simp),λ_ _ _ h1 _=>⟨h1,by simp⟩,λ_=>⟨rfl,Nat.le_refl _⟩⟩
 |(r,j)::ks,h=>by
  obtain⟨h1,h2,h3⟩:=kr hV ks h;have e:ac (aE st ((r,j)::ks)) st=ac [(r,fb (ac (aE st ks) st r) j)] (ac (aE st ks) st):=aN _ _ _ _;rw[e];refine⟨?_,λq i l h4 h5=>?_,λq=>?_⟩
  ·have h7:=h1.frz1 hV r j;have h8:=h7.nw_congr (nw':=(W.frz st ((r,j)::ks)).nw) (λk=>?_)
   ·exact h8
   ·simp only[Wit.frz];constructor
    ·rintro ((hk|⟨x,hx,hk⟩)|⟨⟨l,hl,ho⟩,hk⟩)
     ·exact .inl hk
     ·exact .inr ⟨x,List.mem_cons_of_mem _ hx,hk⟩
     ·exact .inr ⟨(r,j),List.mem_cons_self ..,⟨l,(h2 r j l hl ho).1,ho⟩,hk⟩
    ·rintro (hk|⟨x,hx,⟨l,hl,ho⟩,hk⟩)
     ·exact .inl (.inl hk)
     ·rcases List.mem_cons.1 hx with rfl|hx
      ·by_cases hm:(r,j)∈ks
       ·exact .inl (.inr ⟨(r,j),hm,⟨l,hl,ho⟩,hk⟩)
       ·refine .inr ⟨⟨l,?_,ho⟩,hk⟩;exact gE ks hm hl
      ·exact .inl (.inr ⟨x,hx,⟨l,hl,ho⟩,hk⟩)
  ·have h6:(ac (aE st ks) st q).ls[i]?=some l/\(q,i)≠(r,j):=by
    rcases am r q (fb (ac (aE st ks) st r) j) (ac (aE st ks) st) with ⟨rfl,e⟩|⟨hne,e⟩
    ·rw[e]at h4;rcases aP _ _ _ _ _ h4 with ⟨rfl,rfl,hj⟩|⟨hne,h4⟩
     ·exfalso;generalize (ac (aE st ks) st q).ls.getD i .dead=l' at h5;cases l' with
      |own p hh E e xs=>cases hh <;> exact h5.elim
      |_=>exact h5.elim
     ·exact⟨h4,λe=>hne (by simpa using congrArg Prod.snd e)⟩
    ·rw[e]at h4;exact⟨h4,λe=>hne (by simpa using congrArg Prod.fst e)⟩
   obtain⟨h7,h8⟩:=h2 q i l h6.1 h5;exact⟨h7,by simp only[List.mem_cons,not_or];exact⟨h6.2,h8⟩⟩
  ·rcases am r q (fb (ac (aE st ks) st r) j) (ac (aE st ks) st) with ⟨rfl,e⟩|⟨hne,e⟩
   ·rw[e];exact⟨(h3 q).1,(h3 q).2⟩
   ·rw[e];exact h3 q
where
 gE:∀ (ks:List (Nat×Nat)) {r j:Nat} {l:Leaf},(r,j)∉ks->(st r).ls[j]?=some l->(ac (aE st ks) st r).ls[j]?=some l
  |[],_,_,_,_,hl=>hl
  |(q,i)::ks,r,j,l,hn,hl=>by
   have h1:=gE ks (λhm=>hn (List.mem_cons_of_mem _ hm)) hl;have e:ac (aE st ((q,i)::ks)) st=ac [(q,fb (ac (aE st ks) st q) i)] (ac (aE st ks) st):=aN _ _ _ _;rw[e];rcases am q r (fb (ac (aE st ks) st q) i) (ac (aE st ks) st) with ⟨rfl,e⟩|⟨hne,e⟩
   ·rw[e];simp only[fb,aQ];rw[List.getElem?_set_ne]
    ·exact h1
    ·intro e;subst e;exact hn (List.mem_cons_self ..)
   ·rw[e];exact h1
theorem ao.put (hV:ax V)(h:ao P V W st a w)(d:Nat)(hd:d<V.nt)(hfix:∀ x∈V.fixt,x.1≠d)(n:Nat)(sh:aG)(ls:List Leaf)(v:Value)
  (csd:List Value) (bsd:Nat->List Nat) (hn:(st d).ver<n) (hs:dI sh v csd) (hl:ls.length=csd.length) (h1:∀ u∈csd,u.oneCell'=true)
  (hleaf:∀ (j:Nat) (l:Leaf) (u:Value),ls[j]?=some l->csd[j]?=some u->aJ P V W st w (bsd j) l u)
  (hown:∀ (j:Nat) (l:Leaf),ls[j]?=some l->an l->∀ k∈bsd j,¬ W.nw k/\¬ V.prot k/\(∀ b,live st b->W.β b≠k) /\
   ∀ (r1 j1:Nat) (l1:Leaf),r1≠d->(st r1).ls[j1]?=some l1->an l1->k∉W.bs r1 j1)
  (hsep:∀ (j j':Nat) (l l':Leaf),ls[j]?=some l->an l->ls[j']?=some l'->an l'->∀ k,k∈bsd j->k∈bsd j'->j=j') :
  ao P V { W with cs:=λr=>if r=d then csd else W.cs r,bs:=λr j=>if r=d then bsd j else W.bs r j } (ac [(d,⟨n,sh,ls⟩)] st) (a.put (some d) v) w:=by
 have hdG:d<GH:=Nat.lt_of_lt_of_le hd hV.nt;have hdB:d<B0:=Nat.lt_of_lt_of_le hd hV.ntB;have hl':∀ b,live (ac [(d,⟨n,sh,ls⟩)] st) b<->live st b:=by
  intro b;by_cases hb:B0<=b
  ·rw[live,live,aI (by omega)]
  ·simp[live,hb]
 have hstep:cm V W { W with cs:=λr=>if r=d then csd else W.cs r,bs:=λr j=>if r=d then bsd j else W.bs r j } st (ac [(d,⟨n,sh,ls⟩)] st) w w:=by
  refine⟨λq=>?_,λb hb=>⟨(hl' b).2 hb,rfl⟩,λ_ h=>h,λ_ _=>rfl,λ_ q j' l' h3 h4 h5=>?_⟩;rcases am d q ⟨n,sh,ls⟩ st with ⟨rfl,e⟩|⟨hne,e⟩
  ·rw[e];exact⟨Nat.le_of_lt hn,λe=>absurd e (by show n≠_;omega)⟩
  ·rw[e];exact⟨Nat.le_refl _,λ_=>by simp[hne]⟩
  rcases am d q ⟨n,sh,ls⟩ st with ⟨rfl,e⟩|⟨hne,e⟩
  ·rw[e]at h5;exact absurd h5 (by show n≠_;omega)
  ·rw[e]at h3;exact⟨⟨l',h3,h4⟩,by simp[hne],λ_ _=>rfl⟩
 have hval:∀ t,(a.put (some d) v).tmps.getD t undef=if t=d then v else a.tmps.getD t undef:=by
  intro t;by_cases ht:t=d
  ·subst ht;have:t<a.tmps.size:=by rw[h.nt];exact hd
   simp[Act.put,this]
  ·simp only[Act.put,if_neg ht];rw[Array.getD_eq_getD_getElem?,Array.getD_eq_getD_getElem?,Array.getElem?_setIfInBounds_ne (λe=>ht e.symm)]
 exact {
  nt:=by simp[Act.put,h.nt],df:=by simp[Act.put,h.df]
  slots:=λt ht=>by
   rw[hval];rcases am d t ⟨n,sh,ls⟩ st with ⟨rfl,e⟩|⟨hne,e⟩
   ·rw[e];simpa using hs
   ·rw[e];simpa[hne]using h.slots t ht
  boxes:=λb hb=>by
   have:b≠d:=by omega
   rw[aI this];simpa[this]using h.boxes b hb
  len:=λq=>by
   rcases am d q ⟨n,sh,ls⟩ st with ⟨rfl,e⟩|⟨hne,e⟩
   ·rw[e];simpa using hl
   ·rw[e];simpa[hne]using h.len q
  one:=λq u hu=>by
   by_cases hq:q=d
   ·simp only[hq,if_true]at hu;exact h1 u hu
   ·simp only[hq,if_false]at hu;exact h.one q u hu
  leaf:=λq j l u h2 h3=>by
   rcases am d q ⟨n,sh,ls⟩ st with ⟨rfl,e⟩|⟨hne,e⟩
   ·rw[e]at h2;simp only[if_true]at h3;exact (hleaf j l u h2 h3).carry hV.ro hstep (λ_=>⟨by simp,λ_ _=>rfl⟩)
   ·rw[e]at h2;simp only[hne,if_false]at h3;exact (h.leaf q j l u h2 h3).carry hV.ro hstep (λ_=>⟨by simp[hne],λ_ _=>rfl⟩)
  ownb:=λq j l h2 h3 k hk=>by
   rcases am d q ⟨n,sh,ls⟩ st with ⟨rfl,e⟩|⟨hne,e⟩
   ·rw[e]at h2;simp only[if_true]at hk;have:=hown j l h2 h3 k hk;exact⟨this.1,this.2.1,λb hb=>this.2.2.1 b ((hl' b).1 hb)⟩
   ·rw[e]at h2;simp only[hne,if_false]at hk;have:=h.ownb q j l h2 h3 k hk;exact⟨this.1,this.2.1,λb hb=>this.2.2 b ((hl' b).1 hb)⟩
  sep:=λq j l q' j' l' h2 h3 h4 h5 k hk hk'=>by
   rcases am d q ⟨n,sh,ls⟩ st with ⟨e0,e⟩|⟨hne,e⟩ <;> rcases am d q' ⟨n,sh,ls⟩ st with ⟨e1,e'⟩|⟨hne',e'⟩
   ·rw[e]at h2;rw[e']at h4;simp only[e0,if_true]at hk;simp only[e1,if_true]at hk';exact⟨e0.trans e1.symm,hsep j j' l l' h2 h3 h4 h5 k hk hk'⟩
   ·rw[e]at h2;rw[e']at h4;simp only[e0,if_true]at hk;simp only[hne',if_false]at hk';exact absurd hk' ((hown j l h2 h3 k hk).2.2.2 q' j' l' hne' h4 h5)
   ·rw[e]at h2;rw[e']at h4;simp only[hne,if_false]at hk;simp only[e1,if_true]at hk';exact absurd hk ((hown j' l' h4 h5 k hk').2.2.2 q j l hne h2 h3)
   ·rw[e]at h2;rw[e']at h4;simp only[hne,if_false]at hk;simp only[hne',if_false]at hk';exact h.sep q j l q' j' l' h2 h3 h4 h5 k hk hk'
  box:=λb hb=>h.box b ((hl' b).1 hb)
  inj:=λb b' hb hb'=>h.inj b b' ((hl' b).1 hb) ((hl' b').1 hb')
  nwlt:=h.nwlt
  os:=h.os,tape:=h.tape,output:=h.output,size:=h.size,keep:=h.keep
  fixb:=λx hx=>⟨(hl' _).2 (h.fixb x hx).1,(h.fixb x hx).2⟩
  fixt:=λx hx=>by rw[hval,if_neg (hfix x hx)];exact h.fixt x hx }
theorem ao.putLs (hV:ax V)(h:ao P V W st a w)(d:Nat)(hd:d<V.nt)(hfix:∀ x∈V.fixt,x.1≠d)(n:Nat)(sh:aG)(ls:List Leaf)(v:Value)
  (csd:List Value) (hn:(st d).ver<n) (hs:dI sh v csd) (hl:aC P V W st w ls csd) :
  Rel P V (ac [(d,⟨n,sh,ls⟩)] st) (a.put (some d) v) w :=
 ⟨_,h.put hV d hd hfix n sh ls v csd (λ_=>[]) hn hs hl.length hl.one' (λj l u h1 h2=>(hl.at_ j l u h1 h2).1) (λ_ _ _ _ k hk=>by simp at hk)
  (λ_ _ _ _ _ _ _ _ k hk=>by simp at hk)⟩
end
end Go.Proofs.YtmcbmojdeikcdaaGreatEv
namespace Go.Proofs.YtmcbmojdeikcdaaGreatEv
open Go Go.RowKit
def zeroCells:Ty->List Value
 |.int k=>[.int k 0]
 |.bool=>[.bool false]
 |.str=>[.string ByteArray.empty]
 |.unit=>[]
 |.pair a b=>zeroCells a++zeroCells b
 |.hdr=>[.slice none 0 0]
 |.list _ _ _=>[.slice none 0 0]
def bH (P:Program)(t:TypeId)(n:Nat):Prop:=(P.info? t).map (·.size)=some n
def dC (P:Program)(t:TypeId)(z:Value):Prop:=(P.info? t).map (·.zero)=some (some z)
def EqAt (P:Program)(t:TypeId)(a:Ty):Prop:=a.flat=true->∀ (w:World) (G:Nat->Prop) (x y:a.den) (cx cy:List Value),Rd w G a x cx->Rd w G a y cy ->
 (Op.equal t (.agg cx.toArray) (.agg cy.toArray)).run P w=.ok (a.eqv x y) w
def nv (P:Program)(t:TypeId):TI->Prop
 |.int k=>P.underlying t=some (.int k)/\bH P t 1/\dC P t (.int k 0)
 |.bool=>P.underlying t=some .bool/\bH P t 1/\dC P t (.bool false)
 |.str=>P.underlying t=some .string/\bH P t 1/\dC P t (.string ByteArray.empty)
 |.slice E e bytes=>P.underlying t=some (.slice E)/\bH P t 1/\dC P t (.slice none 0 0)/\0<e.cells/\(0<bytes/\(e=.int .u8->P.underlying E=some (.int .u8))) /\
  ∃ i z,P.info? E=some i/\i.size=e.cells/\i.bytes=bytes/\i.zero=some z/\z.cells.toList=zeroCells e
 |.struct a flds=>(∃ fs,P.underlying t=some (.struct fs)/\fs.toList.mapM (λf=>(P.info? f.type).map λi=>(f.offset,i.size))=some (flds.map λx=>(x.1,x.2.1)) /\
  ∀ (i off n:Nat) (agg:Bool),flds[i]?=some (off,n,agg)->(agg=false->n=1)/\∃ f:Field,fs[i]?=some f/\f.offset=off/\0<n/\off+n<=a.cells/\bH P f.type n /\
   (P.underlying f.type).map (λd=>match d with|.struct _|.array _ _=>true|_=>false)=some agg) /\
  bH P t a.cells/\dC P t (.agg (zeroCells a).toArray)/\EqAt P t a/\P.eqGuardType P.depth t=false
 |.arr e n=>(∃ E,P.underlying t=some (.array n E)/\bH P E e.cells/\(P.underlying E).map (λd=>match d with|.struct _|.array _ _=>true|_=>false)=some e.isAgg)/\0<e.cells /\
  bH P t (n*e.cells)/\dC P t (.agg ((List.replicate n (zeroCells e)).flatten).toArray)
 |.ptr=>(∃ e,P.underlying t=some (.pointer e))/\bH P t 1/\dC P t (.pointer none)
 |.fn=>(∃ x y z,P.underlying t=some (.func x y z))/\bH P t 1/\dC P t .nilFunc
 |.none=>True
def TOk (P:Program)(T:TypeId->TI):Prop:=∀ t,nv P t (T t)
theorem rE {P:Program}:∀ {l:List (TypeId×TI)},(∀ x∈l,nv P x.1 x.2)->TOk P (gF l)
 |[],_,_=>trivial
 |(t,i)::l,h,u=>by
  simp only[gF];cases hb:Nat.beq t u with
  |false=>exact rE (λx hx=>h x (List.mem_cons_of_mem _ hx)) u
  |true =>
   have:=Nat.eq_of_beq_eq_true hb;subst this;exact h (t,i) (List.mem_cons_self ..)
section
variable {P:Program} {V:Env} {W:Wit} {st:St} {w:World} {a:Act} {o:Oper}
def lH (P:Program)(V:Env)(o:Oper)(st:St)(U:Upd)(a:Act)(w:World):Prop :=
 ∀ (next:Act->World->Prop) (Q:Exit->Act->World->Prop),(∀ a' w',Rel P V (ac U st) a' w'->next a' w')->o.wp P a w next Q
theorem dV {v:Value}{w':World}{next:Act->World->Prop}{Q:Exit->Act->World->Prop}(h:(execOp a.eval o).run P w=.ok (.value v) w')(hn:next (a.put o.dst v) w'):o.wp P a w next Q:=by
 unfold Oper.wp;rw[h];exact hn
theorem oF {w':World}{next:Act->World->Prop}{Q:Exit->Act->World->Prop}(h:(execOp a.eval o).run P w=.ok .skip w')(hn:next (a.put o.dst undef) w'):o.wp P a w next Q:=by
 unfold Oper.wp;rw[h];exact hn
def bF (V:Env)(o:Oper):Prop:=∀ d,o.dst=some d->d<V.nt/\∀ x∈V.fixt,x.1≠d
theorem dy (hV:ax V)(h:ao P V W st a w){d:Nat}(hd:o.dst=some d)(hok:bF V o){v:Value}{sh:aG}{ls:List Leaf}{cs:List Value}
  (hrun:(execOp a.eval o).run P w=.ok (.value v) w) (hs:dI sh v cs) (hl:aC P V W st w ls cs):lH P V o st (ce st [] d sh ls) a w:=by
 intro next Q hn;refine dV hrun ?_;rw[hd];exact hn _ _ (h.putLs hV d (hok d hd).1 (hok d hd).2 _ sh ls v cs (Nat.lt_succ_self _) hs hl)
theorem aO (hV:ax V)(h:ao P V W st a w){d:Nat}(hd:o.dst=some d)(hok:bF V o){v:Value}{l:Leaf}
  (hrun:(execOp a.eval o).run P w=.ok (.value v) w) (hl:aJ P V W st w [] l v) (hno:¬ an l) (h1:v.oneCell'=true):lH P V o st (ce st [] d .one [l]) a w :=
 dy hV h hd hok hrun (cs:=[v]) rfl ⟨⟨hl,hno,h1⟩,trivial⟩
theorem i9 {agg:Bool}{v:Value}{cs:List Value}(h:cV agg v cs):dI (be agg) v cs:=by
 cases agg <;> exact h
theorem bt (h:ao P V W st a w){x:Operand}{k:IntKind}{n:Int}(hx:one st x=.int k n):a.eval x=.int k n:=by
 have:=(bk h x (by rw[hx];simp)).1;rw[hx]at this;exact this
theorem gn (h:ao P V W st a w){x:Operand}{b:Bool}(hx:one st x=.bool b):a.eval x=.bool b:=by
 have:=(bk h x (by rw[hx];simp)).1;rw[hx]at this;exact this
theorem ia (h:ao P V W st a w){x:Operand}{b:ByteArray}(hx:one st x=.str b):a.eval x=.string b:=by
 have:=(bk h x (by rw[hx];simp)).1;rw[hx]at this;exact this
theorem uh (op:BinOp)(k:IntKind)(t t':TypeId)(x y:Operand)(m n:Int)(l:Leaf)(hl:qH op k m n=some l)(hx:a.eval x=.int k m)(hy:a.eval y=.int k n)(ho:o.op=.binOp op t x y t') :
  ∃ v,(execOp a.eval o).run P w=.ok (.value v) w/\aJ P V W st w [] l v/\¬ an l/\v.oneCell'=true:=by
 cases op <;> simp only[qH,Option.some.injEq,reduceCtorEq]at hl <;> subst hl <;>
  exact⟨_,by simp[execOp,ho,hx,hy,eqGuard,Go.binOp,Op.intArith,Op.intCmp],rfl,id,rfl⟩
theorem zz (hV:ax V)(h:ao P V W st a w)(ks:List (Nat×Nat)):cm V W W st (ac (aM st ks) st) w w:=by
 obtain⟨_,h2,h3⟩:=kX hV ks h;exact⟨λq=>⟨(h3 q).2,λ_=>rfl⟩,λb hb=>⟨⟨hb.1,by rw[(h3 b).1];exact hb.2⟩,rfl⟩,λ_ h=>h,λ_ _=>rfl,λ_ q j l h4 h5 _=>⟨⟨l,(h2 q j l h4 h5).1,h5⟩,rfl,λ_ _=>rfl⟩⟩
theorem step_frz (hV:ax V)(h:ao P V W st a w)(ks:List (Nat×Nat)):cm V W (W.frz st ks) st (ac (aE st ks) st) w w:=by
 obtain⟨_,h2,h3⟩:=kr hV ks h;exact⟨λq=>⟨(h3 q).2,λ_=>rfl⟩,λb hb=>⟨⟨hb.1,by rw[(h3 b).1];exact hb.2⟩,rfl⟩,λ_ h=>.inl h,λ_ _=>rfl,λ_ q j l h4 h5 _=>⟨⟨l,(h2 q j l h4 h5).1,h5⟩,rfl,λ_ _=>rfl⟩⟩
def cY (W:Wit)(ls:List Leaf)(j:Nat):List Nat :=
 match ls[j]? with
 |some (.al r i _)=>W.bs r i
 |_=>[]
theorem vC:∀ {ls:List Leaf} {j r i n:Nat},ls[j]?=some (.al r i n)->an (aD st (.al r i n))->(r,i)∈bq st ls
 |[],j,_,_,_,h,_=>by simp at h
 |l::ls,0,r,i,n,h,ho=>by
  simp at h;subst h;generalize hd:aD st (.al r i n)=q at ho;cases q <;> first|exact ho.elim|simp[bq,hd]
 |l::ls,j+1,r,i,n,h,ho=>by
  have:=vC (ls:=ls) (by simpa using h) ho;cases l <;> simp[bq,this]
theorem lI:∀ {ls:List Leaf} {j r i n:Nat},ls[j]?=some (.al r i n)->an (aD st (.al r i n))->(r,i)∈bR st ls
 |[],j,_,_,_,h,_=>by simp at h
 |l::ls,0,r,i,n,h,ho=>by
  simp at h;subst h;generalize hd:aD st (.al r i n)=q at ho;cases q <;> first|exact ho.elim|simp[bR,hd]
 |l::ls,j+1,r,i,n,h,ho=>by
  have:=lI (ls:=ls) (by simpa using h) ho;cases l <;> simp[bR,this]
theorem mO:∀ {ls:List Leaf} {j j' r i n n':Nat},aX (bR st ls)=true->ls[j]?=some (.al r i n)->an (aD st (.al r i n)) ->
    ls[j']?=some (.al r i n')->an (aD st (.al r i n'))->j=j'
  |[],j,_,_,_,_,_,_,h,_,_,_=>by simp at h
  |l::ls,j,j',r,i,n,n',hd,h1,h2,h3,h4=>by
    have key:∀ (m:Nat) (k:Nat),l=.al r i m->an (aD st (.al r i m))->(∃ n'',ls[k]?=some (.al r i n'')/\an (aD st (.al r i n'')))->False:=by
      rintro m k rfl ho ⟨n'',h5,h6⟩;have h7:=lI h5 h6;have h8:bR st (.al r i m::ls)=(r,i)::bR st ls:=by
        generalize hq:aD st (.al r i m)=q at ho;cases q <;> first|exact ho.elim|simp[bR,hq]
      rw[h8]at hd;simp only[aX,Bool.and_eq_true,Bool.not_eq_true']at hd;have:=hd.1;rw[List.any_eq_false]at this;have:=this _ h7;simp at this
    have hd':aX (bR st ls)=true:=by
      cases l <;> first
        |exact hd
        | (rename_i r' j' v'
           simp only[bR]at hd;split at hd
           · simp only[List.cons_append,List.nil_append,aX,Bool.and_eq_true]at hd
             exact hd.2
           · simpa using hd)
    cases j with
    |zero =>
      cases j' with
      |zero=>rfl
      |succ j' =>
        simp at h1;exact (key n j' h1 h2 ⟨n',by simpa using h3,h4⟩).elim
    |succ j =>
      cases j' with
      |zero =>
        simp at h3;exact (key n' j h3 h4 ⟨n,by simpa using h1,h2⟩).elim
      |succ j' =>
        have:=mO (ls:=ls) hd' (by simpa using h1) h2 (by simpa using h3) h4;omega
theorem kY (hV:ax V)(h:ao P V W st a w){l:Leaf}{v:Value}(hl:aJ P V W st w [] l v)(hno:¬ an l) :
  (∃ r i n,l=.al r i n/\an (aD st l)/\aJ P V W st w (W.bs r i) (aD st l) v/\(st r).ls[i]?=some (aD st l)) \/
  (¬ an (aD st l)/\aJ P V W st w [] (aD st l) v):=by
 cases l with
 |al r j n =>
  by_cases hd:aD st (.al r j n)=.dead
  ·rw[hd];exact .inr ⟨id,trivial⟩
  ·obtain⟨h1,h2⟩:=ey rfl hd;have hv:=hl.2 h1;have h3:=h.leaf r j _ v h2 hv;by_cases ho:an (aD st (.al r j n))
   ·exact .inl ⟨r,j,n,rfl,ho,h3,h2⟩
   ·exact .inr ⟨ho,h3.carry hV.ro (cm.refl V W st w) (λh=>absurd h ho)⟩
 |own p hh E e xs=>exact absurd trivial hno
 |nal p ks ep loc E e xs =>
  simp only[aD];cases bj st ks ep with
  |false=>exact .inr ⟨id,trivial⟩
  |true=>exact .inr ⟨id,hl⟩
 |_=>exact .inr ⟨id,hl⟩
end
end Go.Proofs.YtmcbmojdeikcdaaGreatEv
