/- Plain lemmas on loops: a loop over a list comes to a fold that may stop. -/
import Derived.Test.YtmcbmojdeikcdaaGreatE0
import Derived.Laws.MakeOwn
set_option linter.unusedVariables false
set_option linter.unusedSimpArgs false
open List renaming mem_cons->AA,mem_cons_self->AC,pairwise_cons->AD
open Nat renaming zero_le->AE
open Option renaming bind_some->AB
namespace Go.Proofs.YtmcbmojdeikcdaaGreatEv
open Go
theorem aL {n:Int}(h0:-9223372036854775808<=n)(h1:n<=9223372036854775807):wr .i64 n=n:=by
 show IntKind.i64.wrap n=n;rw[IntKind.wrap_i64];omega
theorem pd {α:Type}(xs:List α)(i:Nat):idx xs (i:Int)=xs[i]?:=by
 unfold idx;rw[if_neg (by omega)];simp
theorem ai {α:Type}{xs:List α}{i:Nat}(h:i<xs.length):idx xs (i:Int)=some xs[i]:=by
 rw[pd,List.getElem?_eq_getElem h]
theorem av (i:Nat)(h:i<9223372036854775807):wr .i64 ((i:Int)+1)=((i+1:Nat):Int):=by
 rw[aL (by omega) (by omega)];omega
theorem dS (i:Nat)(h0:0<i)(h:i<9223372036854775807):wr .i64 ((i:Int)-1)=((i-1:Nat):Int):=by
 rw[aL (by omega) (by omega)];omega
abbrev ag:=Int×Int×Int×Bool
abbrev aV:=ag×Int
abbrev ce:=Int×Int×Int×List Int
abbrev cF:=Int×Int×Int×Int
abbrev bf:=Int×cF×List Int
abbrev cD:=Int×List ag
abbrev aa:=Int×Bool×Bool×Bool×Int×Int×Int×Int×List ag×List aV×ag×List ce×cF×List bf×List cD
abbrev RB:=(Bool×Unit)×Unit
abbrev rb (b:Bool):Option RB:=some ((b,()),())
def Ret (o:Option RB)(P:Prop):Prop:=∃ b,o=rb b/\(b=true<->P)
theorem Ret.of {b:Bool}{P:Prop}(h:b=true<->P):Ret (rb b) P:=⟨b,rfl,h⟩
theorem Ret.dec {P:Prop}[Decidable P]:Ret (rb (decide P)) P:=⟨_,rfl,by simp⟩
theorem Ret.bool (b:Bool):Ret (rb b) (b=true):=⟨b,rfl,Iff.rfl⟩
theorem Ret.no {P:Prop}(h:¬ P):Ret (rb false) P:=⟨false,rfl,by simp[h]⟩
theorem Ret.yes {P:Prop}(h:P):Ret (rb true) P:=⟨true,rfl,by simp[h]⟩
theorem Ret.iff {o:Option RB}{P Q:Prop}(h:Ret o P)(e:P<->Q):Ret o Q:=by obtain⟨b,h1,h2⟩:=h;exact⟨b,h1,h2.trans e⟩
theorem Ret.and {o:Option RB}{P Q:Prop}{g:RB->Option RB}(h1:Ret o P)(h2:P->Ret (g ((true,()),())) Q)(h3:g ((false,()),())=rb false):Ret (o.bind g) (P/\Q):=by
 obtain⟨b,h4,h5⟩:=h1;rw[h4,AB];cases b with
 |false=>rw[h3];exact Ret.no (λh=>by simpa using h5.2 h.1)
 |true=>exact (h2 (h5.1 rfl)).iff ⟨λh=>⟨h5.1 rfl,h⟩,λh=>h.2⟩
theorem Ret.cnd {b:Bool}{P Q:Prop}{g:Option RB}(h1:b=true<->P)(h2:P->Ret g Q):Ret (bif b then g else rb false) (P/\Q):=by
 cases b with
 |false=>exact Ret.no (λh=>by simpa using h1.2 h.1)
 |true=>exact (h2 (h1.1 rfl)).iff ⟨λh=>⟨h1.1 rfl,h⟩,λh=>h.2⟩
theorem Ret.cndN {b:Bool}{P Q:Prop}{g:Option RB}(h1:b=true<->P)(h2:¬ P->Ret g Q):Ret (bif b then rb false else g) (¬ P/\Q):=by
 cases b with
 |true=>exact Ret.no (λh=>h.1 (h1.1 rfl))
 |false =>
  have hn:¬ P:=λh=>by simpa using h1.2 h
  exact (h2 hn).iff ⟨λh=>⟨hn,h⟩,λh=>h.2⟩
theorem Ret.same {o o':Option RB}{P Q:Prop}(h:Ret o P)(h':Ret o' Q)(e:P<->Q):∃ b,o=rb b/\o'=rb b:=by
 obtain⟨b,h1,h2⟩:=h;obtain⟨b',h3,h4⟩:=h';have:b=b':=by
  cases b <;> cases b' <;> simp_all
 exact⟨b,h1,by rw[this];exact h3⟩
def Rnd (o:Option RB)(P:Prop)(c:Option RB):Prop:=(P/\o=c)\/(¬ P/\o=rb false)
theorem Rnd.end_ {c:Option RB}:Rnd c True c:=.inl ⟨trivial,rfl⟩
theorem Rnd.iff {o c:Option RB}{P Q:Prop}(h:Rnd o P c)(e:P<->Q):Rnd o Q c:=h.imp (λh=>⟨e.1 h.1,h.2⟩) (λh=>⟨λq=>h.1 (e.2 q),h.2⟩)
theorem Rnd.and {o c:Option RB}{P Q:Prop}{g:RB->Option RB}(h1:Ret o P)(h2:P->Rnd (g ((true,()),())) Q c)(h3:g ((false,()),())=rb false):Rnd (o.bind g) (P/\Q) c:=by
 obtain⟨b,h4,h5⟩:=h1;rw[h4,AB];cases b with
 |false=>exact .inr ⟨λh=>by simpa using h5.2 h.1,h3⟩
 |true=>exact (h2 (h5.1 rfl)).iff ⟨λh=>⟨h5.1 rfl,h⟩,λh=>h.2⟩
theorem Rnd.nx {o c:Option RB}{P Q:Prop}{G:RB->Option RB}(h1:Ret o P)(h2:P->Rnd (G ((true,()),())) Q c):Rnd (o.bind λy=>bif !y.1.1 then rb false else G y) (P/\Q) c:=Rnd.and h1 h2 rfl
theorem Rnd.fx {o c:Option RB}{P Q:Prop}{G:RB->Option RB}(h1:Ret o P)(h2:¬ P->Rnd (G ((false,()),())) Q c):Rnd (o.bind λy=>bif y.1.1 then rb false else G y) (¬ P/\Q) c:=by
 obtain⟨b,h4,h5⟩:=h1;rw[h4,AB];cases b with
 |true=>exact .inr ⟨λh=>h.1 (h5.1 rfl),rfl⟩
 |false =>
  have hn:¬ P:=λh=>by simpa using h5.2 h
  exact (h2 hn).iff ⟨λh=>⟨hn,h⟩,λh=>h.2⟩
theorem Rnd.cndN {b:Bool}{P Q:Prop}{g c:Option RB}(h1:b=true<->P)(h2:¬ P->Rnd g Q c):Rnd (bif b then rb false else g) (¬ P/\Q) c:=by
 cases b with
 |true=>exact .inr ⟨λh=>h.1 (h1.1 rfl),rfl⟩
 |false =>
  have hn:¬ P:=λh=>by simpa using h1.2 h
  exact (h2 hn).iff ⟨λh=>⟨hn,h⟩,λh=>h.2⟩
theorem Rnd.cnd {b:Bool}{P Q:Prop}{g c:Option RB}(h1:b=true<->P)(h2:P->Rnd g Q c):Rnd (bif b then g else rb false) (P/\Q) c:=by
 cases b with
 |false=>exact .inr ⟨λh=>by simpa using h1.2 h.1,rfl⟩
 |true=>exact (h2 (h1.1 rfl)).iff ⟨λh=>⟨h1.1 rfl,h⟩,λh=>h.2⟩
theorem Rnd.ix {α:Type}{xs:List α}{a:Int}{y:α}{P:Prop}{c:Option RB}{G:α->Option RB}(h:idx xs a=some y)(h2:Rnd (G y) P c):Rnd ((idx xs a).bind G) P c:=by
 rw[h];exact h2
theorem Rnd.vl {β:Type}{o:Option β}{y:β}{P:Prop}{c:Option RB}{G:β->Option RB}(h:o=some y)(h2:Rnd (G y) P c):Rnd (o.bind G) P c:=by
 rw[h];exact h2
theorem Rnd.two {i:Nat}{P Q:Prop}{c g:Option RB}{g0:Option RB}(h1:0<i->Rnd g0 (P/\Q) c)(h2:Rnd g Q c):Rnd (bif decide ((i:Int)>0) then g0 else g) ((0<i->P)/\Q) c:=by
 by_cases h:0<i
 ·rw[decide_eq_true (by omega:(i:Int)>0)];exact (h1 h).iff ⟨λh3=>⟨λ_=>h3.1,h3.2⟩,λh3=>⟨h3.1 h,h3.2⟩⟩
 ·rw[decide_eq_false (by omega:¬ (i:Int)>0)];exact h2.iff ⟨λh3=>⟨λh4=>absurd h4 h,h3⟩,λh3=>h3.2⟩
theorem Ret.nx {o:Option RB}{P Q:Prop}{G:RB->Option RB}(h1:Ret o P)(h2:P->Ret (G ((true,()),())) Q):Ret (o.bind λy=>bif !y.1.1 then rb false else G y) (P/\Q):=Ret.and h1 h2 rfl
theorem Ret.px {o:Option RB}{P Q:Prop}{G:RB->Option RB}(h1:Ret o P)(h2:P->Ret (G ((true,()),())) Q):Ret (o.bind λy=>bif y.1.1 then G y else rb false) (P/\Q):=Ret.and h1 h2 rfl
theorem Ret.vl {β:Type}{o:Option β}{y:β}{P:Prop}{G:β->Option RB}(h:o=some y)(h2:Ret (G y) P):Ret (o.bind G) P:=by
 rw[h];exact h2
theorem kX {A R:Type}{step:(A->Option R)->A->Option R}(n:Nat)(S:Nat->A)(P:Nat->Prop)(rt rf:Option R)
  (h:∀ (rec:A->Option R) (i:Nat),i<n->(P i/\step rec (S i)=rec (S (i+1)))\/(¬ P i/\step rec (S i)=rf)) (hend:∀ rec:A->Option R,step rec (S n)=rt) :
  ∀ (d k i:Nat),i+d=n->d<k->((∀ j,i<=j->j<n->P j)/\ae step k (S i)=rt)\/((¬ ∀ j,i<=j->j<n->P j)/\ae step k (S i)=rf):=by
 intro d;induction d with
 |zero =>
  intro k i hi hk;obtain⟨k,rfl⟩:∃ k',k=k'+1:=⟨k-1,by omega⟩;have:i=n:=by omega
  subst this;exact .inl ⟨λj h1 h2=>by omega,hend (ae step k)⟩
 |succ d ih =>
  intro k i hi hk;obtain⟨k,rfl⟩:∃ k',k=k'+1:=⟨k-1,by omega⟩;rcases h (ae step k) i (by omega) with ⟨hp,hs⟩|⟨hp,hs⟩
  ·have e:ae step (k+1) (S i)=ae step k (S (i+1)):=hs;rw[e];rcases ih k (i+1) (by omega) (by omega) with ⟨h1,h2⟩|⟨h1,h2⟩
   ·refine .inl ⟨λj h3 h4=>?_,h2⟩;by_cases hj:j=i
    ·subst hj;exact hp
    ·exact h1 j (by omega) h4
   ·exact .inr ⟨λh3=>h1 (λj h4 h5=>h3 j (by omega) h5),h2⟩
  ·exact .inr ⟨λh1=>hp (h1 i (Nat.le_refl _) (by omega)),hs⟩
theorem pe {A:Type}{step:(A->Option RB)->A->Option RB}(n:Nat)(S:Nat->A)(P:Nat->Prop){Q:Prop}{rt:Option RB}
  (h:∀ (rec:A->Option RB) (i:Nat),i<n->(P i/\step rec (S i)=rec (S (i+1)))\/(¬ P i/\step rec (S i)=rb false)) (hend:∀ rec:A->Option RB,step rec (S n)=rt)
  {k:Nat} (hk:n<k) (hrt:(∀ j,j<n->P j)->Ret rt Q):Ret (ae step k (S 0)) ((∀ j,j<n->P j)/\Q):=by
 rcases kX n S P rt (rb false) h hend n k 0 (by omega) hk with ⟨h1,h2⟩|⟨h1,h2⟩
 ·rw[h2];have h3:∀ j,j<n->P j:=λj hj=>h1 j (AE _) hj
  exact (hrt h3).iff ⟨λh=>⟨h3,h⟩,λh=>h.2⟩
 ·rw[h2];exact Ret.no (λh=>h1 (λj _ hj=>h.1 j hj))
theorem fF {α:Type}(xs:List α){step:(Int->Option RB)->Int->Option RB}(P:(i:Nat)->i<xs.length->Prop){Q:Prop}{rt:Option RB}(hx:xs.length<=1048576)
  (h:∀ (rec:Int->Option RB) (i:Nat) (hi:i<xs.length),Rnd (step rec (i:Int)) (P i hi) (rec (wr .i64 ((i:Int)+1)))) (hend:∀ rec:Int->Option RB,step rec (xs.length:Int)=rt)
  {k:Nat} (hk:1048577<k) (hrt:(∀ i hi,P i hi)->Ret rt Q):Ret (ae step k 0) ((∀ i hi,P i hi)/\Q):=by
 refine (pe (step:=step) xs.length (λi=>(i:Int)) (λj=>∀ h:j<xs.length,P j h) (rt:=rt) (Q:=Q) ?_ hend (by omega) (λh1=>hrt (λi hi=>h1 i hi hi))).iff ⟨λh1=>⟨λi hi=>h1.1 i hi hi,h1.2⟩,λh1=>⟨λj _ hj=>h1.1 j hj,h1.2⟩⟩;intro rec i hi;have:=h rec i hi;rw[av i (by omega)]at this;exact this.imp (λh1=>⟨λ_=>h1.1,h1.2⟩) (λh1=>⟨λh2=>h1.1 (h2 hi),h1.2⟩)
theorem nm {A α:Type}(xs:List α){step:(A->Option RB)->A->Option RB}(S:Nat->A)(P:(i:Nat)->i<xs.length->Prop){c:Option RB}(hx:xs.length<=1048576)
  (h:∀ (rec:A->Option RB) (i:Nat) (hi:i<xs.length),Rnd (step rec (S i)) (P i hi) (rec (S (i+1)))) (hend:∀ rec:A->Option RB,step rec (S xs.length)=c)
  {k:Nat} (hk:1048577<k):Rnd (ae step k (S 0)) (∀ i hi,P i hi) c:=by
 have:=kX (step:=step) xs.length S (λj=>∀ h:j<xs.length,P j h) c (rb false) ?_ hend xs.length k 0 (by omega) (by omega)
 ·rcases this with ⟨h1,h2⟩|⟨h1,h2⟩
  ·exact .inl ⟨λi hi=>h1 i (AE _) hi hi,h2⟩
  ·exact .inr ⟨λh3=>h1 (λj _ hj _=>h3 j hj),h2⟩
 ·intro rec i hi;exact (h rec i hi).imp (λh1=>⟨λ_=>h1.1,h1.2⟩) (λh1=>⟨λh2=>h1.1 (h2 hi),h1.2⟩)
theorem cK {A R:Type}{step:(A->Option R)->A->Option R}(n:Nat)(S:Nat->A)(P:Nat->Prop)(rn:Option R)(ry:Nat->Option R)
  (h:∀ (rec:A->Option R) (i:Nat),i<n->(¬ P i/\step rec (S i)=rec (S (i+1)))\/(P i/\step rec (S i)=ry i)) (hend:∀ rec:A->Option R,step rec (S n)=rn) :
  ∀ (d k i:Nat),i+d=n->d<k->((∀ j,i<=j->j<n->¬ P j)/\ae step k (S i)=rn)\/(∃ j,i<=j/\j<n/\P j/\(∀ m,i<=m->m<j->¬ P m)/\ae step k (S i)=ry j):=by
 intro d;induction d with
 |zero =>
  intro k i hi hk;obtain⟨k,rfl⟩:∃ k',k=k'+1:=⟨k-1,by omega⟩;have:i=n:=by omega
  subst this;exact .inl ⟨λj h1 h2=>by omega,hend (ae step k)⟩
 |succ d ih =>
  intro k i hi hk;obtain⟨k,rfl⟩:∃ k',k=k'+1:=⟨k-1,by omega⟩;rcases h (ae step k) i (by omega) with ⟨hp,hs⟩|⟨hp,hs⟩
  ·have e:ae step (k+1) (S i)=ae step k (S (i+1)):=hs;rw[e];rcases ih k (i+1) (by omega) (by omega) with ⟨h1,h2⟩|⟨j,h1,h2,h3,h4,h5⟩
   ·refine .inl ⟨λj h3 h4=>?_,h2⟩;by_cases hj:j=i
    ·subst hj;exact hp
    ·exact h1 j (by omega) h4
   ·refine .inr ⟨j,by omega,h2,h3,λm h6 h7=>?_,h5⟩;by_cases hm:m=i
    ·subst hm;exact hp
    ·exact h4 m (by omega) h7
  ·exact .inr ⟨i,Nat.le_refl _,by omega,hp,λm h1 h2=>by omega,hs⟩
def Asc {α:Type}(k:α->Int)(xs:List α):Prop:=xs.Pairwise λa b=>k a<k b
theorem ek {α:Type}{k:α->Int}{xs:List α}:Asc k xs<->∀ i j,(hi:i<xs.length)->(hj:j<xs.length)->i<j->k xs[i]<k xs[j]:=List.pairwise_iff_getElem
theorem fV {α:Type}{k:α->Int}{xs:List α}:Asc k xs<->∀ i,(hi:i<xs.length)->0<i->k (xs[i-1]'(by omega))<k xs[i]:=by
 rw[ek];constructor
 ·intro h i hi h0;exact h (i-1) i (by omega) hi (by omega)
 ·intro h i j hi hj hij;obtain⟨d,rfl⟩:∃ d,j=i+1+d:=⟨j-i-1,by omega⟩;clear hij;induction d with
  |zero=>simpa using h (i+1) hj (by omega)
  |succ d ih =>
   have h1:=ih (by omega);have h2:=h (i+1+(d+1)) hj (by omega);have e:i+1+(d+1)-1=i+1+d:=by omega
   simp only[e]at h2;omega
theorem dl {α:Type}{p:α->Prop}{xs:List α}:(∀ x∈xs,p x)<->∀ i,(hi:i<xs.length)->p xs[i]:=by
 constructor
 ·intro h i hi;exact h _ (List.getElem_mem hi)
 ·intro h x hx;obtain⟨i,hi,e⟩:=List.getElem_of_mem hx;exact e ▸ h i hi
theorem nn {α:Type}{k:α->Int}{xs:List α}(h:Asc k xs){i j:Nat}(hi:i<xs.length)(hj:j<xs.length)(e:k xs[i]=k xs[j]):i=j:=by
 rw[ek]at h;rcases Nat.lt_trichotomy i j with hij|hij|hij
 ·have:=h i j hi hj hij;omega
 ·exact hij
 ·have:=h j i hj hi hij;omega
theorem il:∀ (A B:List Int),A.Pairwise (·<·)->B.Pairwise (·<·)->(∀ x∈A,x∈B)->A.length<=B.length/\(A.length=B.length->A=B)
 |[],B,_,_,_=>⟨AE _,λh=>(List.eq_nil_of_length_eq_zero h.symm).symm⟩
 |a::A,[],_,_,h=>by simpa using h a (AC ..)
 |a::A,b::B,hA,hB,h=>by
  rw[AD]at hA hB;by_cases e:a=b
  ·subst e;obtain⟨h1,h2⟩:=il A B hA.2 hB.2 (λx hx=>by
    rcases AA.1 (h x (List.mem_cons_of_mem _ hx)) with rfl|h3
    ·exact absurd (hA.1 x hx) (by omega)
    ·exact h3)
   exact⟨by simpa using h1,λh3=>by rw[h2 (by simpa using h3)]⟩
  ·have hab:a∈B:=(AA.1 (h a (AC ..))).resolve_left e;have hba:=hB.1 a hab;obtain⟨h1,_⟩:=il (a::A) B (AD.2 hA) hB.2 (λx hx=>by
    rcases AA.1 (h x hx) with rfl|h3
    ·rcases AA.1 hx with h4|h4
     ·exact absurd h4.symm e
     ·have:=hA.1 x h4;omega
    ·exact h3)
   simp only[List.length_cons]at h1 ⊢;exact⟨by omega,λh3=>by omega⟩
theorem xO {a b:Nat}(h:a+b<4611686018427387904):wr .i64 (Int.fdiv (wr .u64 (wr .i64 ((a:Int)+(b:Int)))) (2 ^ 1))=(((a+b) / 2:Nat):Int):=by
 have e1:wr .i64 ((a:Int)+(b:Int))=((a+b:Nat):Int):=by rw[aL (by omega) (by omega)];omega
 have e2:wr .u64 ((a+b:Nat):Int)=((a+b:Nat):Int):=by
  show IntKind.u64.wrap _=_;have hw:IntKind.u64.wrap ((a+b:Nat):Int)=((a+b:Nat):Int) % 18446744073709551616:=by simp[IntKind.wrap,IntKind.bits,IntKind.signed]
  rw[hw];omega
 rw[e1,e2];have e3:Int.fdiv ((a+b:Nat):Int) (2 ^ 1)=(((a+b) / 2:Nat):Int):=by
  have:((2:Int) ^ 1)=((2:Nat):Int):=by decide
  rw[this,Int.fdiv_eq_ediv_of_nonneg _ (by omega)];omega
 rw[e3,aL (by omega) (by omega)]
theorem yN {R:Type}{step:(Int×Int->Option R)->Int×Int->Option R}{ks:Nat->Int}{n:Nat}{t:Int}(fin:Nat->Option R)(hn:n<=1048576)(hasc:∀ i j,i<j->j<n->ks i<ks j)
  (h1:∀ (rec:Int×Int->Option R) (a b:Nat),a<b->b<=n->step rec ((a:Int),(b:Int))=if ks ((a+b) / 2)<t then rec ((((a+b) / 2+1:Nat):Int),(b:Int)) else rec ((a:Int),(((a+b) / 2:Nat):Int)))
  (h2:∀ (rec:Int×Int->Option R) (a:Nat),a<=n->step rec ((a:Int),(a:Int))=fin a) :
  ∀ (d k a b:Nat),b-a<=d->a<=b->b<=n->d<k->(∀ i,i<a->ks i<t)->(∀ i,b<=i->i<n->t<=ks i) ->
   ∃ m,m<=n/\(∀ i,i<m->ks i<t)/\(∀ i,m<=i->i<n->t<=ks i)/\ae step k ((a:Int),(b:Int))=fin m:=by
 intro d;induction d with
 |zero =>
  intro k a b hd hab hbn hk hlo hhi;obtain⟨k,rfl⟩:∃ k',k=k'+1:=⟨k-1,by omega⟩;have:a=b:=by omega
  subst this;exact⟨a,hbn,hlo,hhi,h2 (ae step k) a hbn⟩
 |succ d ih =>
  intro k a b hd hab hbn hk hlo hhi;obtain⟨k,rfl⟩:∃ k',k=k'+1:=⟨k-1,by omega⟩;by_cases he:a=b
  ·subst he;exact⟨a,hbn,hlo,hhi,h2 (ae step k) a hbn⟩
  ·have hlt:a<b:=by omega
   have hs:=h1 (ae step k) a b hlt hbn;have e:ae step (k+1) ((a:Int),(b:Int))=step (ae step k) ((a:Int),(b:Int)):=rfl;rw[e,hs];by_cases hc:ks ((a+b) / 2)<t
   ·rw[if_pos hc];refine ih k _ b (by omega) (by omega) hbn (by omega) (λi hi=>?_) hhi;by_cases hi2:i=(a+b) / 2
    ·subst hi2;exact hc
    ·have:=hasc i ((a+b) / 2) (by omega) (by omega);omega
   ·rw[if_neg hc];refine ih k a _ (by omega) (by omega) (by omega) (by omega) hlo (λi hi hin=>?_);by_cases hi2:i=(a+b) / 2
    ·subst hi2;omega
    ·have:=hasc ((a+b) / 2) i (by omega) hin;omega
end Go.Proofs.YtmcbmojdeikcdaaGreatEv
