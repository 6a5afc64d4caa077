/- Plain lemmas on loops: a loop over a list comes to a fold that may stop. -/
import Derived.Test.YtaegajachoklkaaGreatE0
import Derived.Laws.MakeOwn
set_option linter.unusedVariables false
set_option linter.unusedSimpArgs false
open List renaming mem_cons->AT,mem_cons_self->AV,pairwise_cons->AW
open Nat renaming zero_le->AX
open Option renaming bind_some->AU
namespace Go.Proofs.YtaegajachoklkaaGreatEv
open Go
theorem aJ {n:Int}(r:-9223372036854775808<=n)(u:n<=9223372036854775807):wr .i64 n=n:=by
 show IntKind.i64.wrap n=n;rw[IntKind.wrap_i64];omega
theorem pZ {α:Type}(xs:List α)(i:Nat):idx xs (i:Int)=xs[i]?:=by
 unfold idx;rw[if_neg (by omega)];simp
theorem ai {α:Type}{xs:List α}{i:Nat}(h:i<xs.length):idx xs (i:Int)=some xs[i]:=by
 rw[pZ,List.getElem?_eq_getElem h]
theorem au (i:Nat)(h:i<9223372036854775807):wr .i64 ((i:Int)+1)=((i+1:Nat):Int):=by
 rw[aJ (by omega) (by omega)];omega
theorem ez (i:Nat)(r:0<i)(h:i<9223372036854775807):wr .i64 ((i:Int)-1)=((i-1:Nat):Int):=by
 rw[aJ (by omega) (by omega)];omega
abbrev af:=Int×Int×Int×Bool
abbrev aV:=af×Int
abbrev ca:=Int×Int×Int×List Int
abbrev dh:=Int×Int×Int×Int
abbrev dv:=Int×dh×List Int
abbrev cj:=Int×List af
abbrev aa:=Int×Bool×Bool×Bool×Int×Int×Int×Int×List af×List aV×af×List ca×dh×List dv×List cj
abbrev RB:=(Bool×Unit)×Unit
abbrev rb (b:Bool):Option RB:=some ((b,()),())
def Ret (o:Option RB)(P:Prop):Prop:=∃ b,o=rb b/\(b=true<->P)
theorem Ret.of {b:Bool}{P:Prop}(h:b=true<->P):Ret (rb b) P:=⟨b,rfl,h⟩
theorem Ret.dec {P:Prop}[Decidable P]:Ret (rb (decide P)) P:=⟨_,rfl,by simp⟩
theorem Ret.bool (b:Bool):Ret (rb b) (b=true):=⟨b,rfl,Iff.rfl⟩
theorem Ret.no {P:Prop}(h:¬ P):Ret (rb false) P:=⟨false,rfl,by simp[h]⟩
theorem Ret.yes {P:Prop}(h:P):Ret (rb true) P:=⟨true,rfl,by simp[h]⟩
theorem Ret.iff {o:Option RB}{P Q:Prop}(h:Ret o P)(e:P<->Q):Ret o Q:=by obtain⟨b,u,r⟩:=h;exact⟨b,u,r.trans e⟩
theorem Ret.and {o:Option RB}{P Q:Prop}{g:RB->Option RB}(H:Ret o P)(y:P->Ret (g ((true,()),())) Q)(u:g ((false,()),())=rb false):Ret (o.bind g) (P/\Q):=by
 obtain⟨b,z,r⟩:=H;rw[z,AU];cases b with
 |false=>rw[u];exact Ret.no (λh=>by simpa using r.2 h.1)
 |true=>exact (y (r.1 rfl)).iff ⟨λh=>⟨r.1 rfl,h⟩,λh=>h.2⟩
theorem Ret.cnd {b:Bool}{P Q:Prop}{g:Option RB}(r:b=true<->P)(u:P->Ret g Q):Ret (bif b then g else rb false) (P/\Q):=by
 cases b with
 |false=>exact Ret.no (λh=>by simpa using r.2 h.1)
 |true=>exact (u (r.1 rfl)).iff ⟨λh=>⟨r.1 rfl,h⟩,λh=>h.2⟩
theorem Ret.cndN {b:Bool}{P Q:Prop}{g:Option RB}(u:b=true<->P)(y:¬ P->Ret g Q):Ret (bif b then rb false else g) (¬ P/\Q):=by
 cases b with
 |true=>exact Ret.no (λh=>h.1 (u.1 rfl))
 |false =>
  have r:¬ P:=λh=>by simpa using u.2 h
  exact (y r).iff ⟨λh=>⟨r,h⟩,λh=>h.2⟩
theorem Ret.same {o u:Option RB}{P Q:Prop}(h:Ret o P)(h':Ret u Q)(e:P<->Q):∃ b,o=rb b/\u=rb b:=by
 obtain⟨b,z,H⟩:=h;obtain⟨r,y,I⟩:=h';have:b=r:=by
  cases b <;> cases r <;> simp_all
 exact⟨b,z,by rw[this];exact y⟩
def Rnd (o:Option RB)(P:Prop)(c:Option RB):Prop:=(P/\o=c)\/(¬ P/\o=rb false)
theorem Rnd.end_ {c:Option RB}:Rnd c True c:=.inl ⟨trivial,rfl⟩
theorem Rnd.iff {o c:Option RB}{P Q:Prop}(h:Rnd o P c)(e:P<->Q):Rnd o Q c:=h.imp (λh=>⟨e.1 h.1,h.2⟩) (λh=>⟨λq=>h.1 (e.2 q),h.2⟩)
theorem Rnd.and {o c:Option RB}{P Q:Prop}{g:RB->Option RB}(H:Ret o P)(y:P->Rnd (g ((true,()),())) Q c)(u:g ((false,()),())=rb false):Rnd (o.bind g) (P/\Q) c:=by
 obtain⟨b,z,r⟩:=H;rw[z,AU];cases b with
 |false=>exact .inr ⟨λh=>by simpa using r.2 h.1,u⟩
 |true=>exact (y (r.1 rfl)).iff ⟨λh=>⟨r.1 rfl,h⟩,λh=>h.2⟩
theorem Rnd.nx {o c:Option RB}{P Q:Prop}{G:RB->Option RB}(u:Ret o P)(r:P->Rnd (G ((true,()),())) Q c):Rnd (o.bind λy=>bif !y.1.1 then rb false else G y) (P/\Q) c:=Rnd.and u r rfl
theorem Rnd.fx {o c:Option RB}{P Q:Prop}{G:RB->Option RB}(I:Ret o P)(z:¬ P->Rnd (G ((false,()),())) Q c):Rnd (o.bind λy=>bif y.1.1 then rb false else G y) (¬ P/\Q) c:=by
 obtain⟨b,H,u⟩:=I;rw[H,AU];cases b with
 |true=>exact .inr ⟨λh=>h.1 (u.1 rfl),rfl⟩
 |false =>
  have r:¬ P:=λh=>by simpa using u.2 h
  exact (z r).iff ⟨λh=>⟨r,h⟩,λh=>h.2⟩
theorem Rnd.cndN {b:Bool}{P Q:Prop}{g c:Option RB}(u:b=true<->P)(y:¬ P->Rnd g Q c):Rnd (bif b then rb false else g) (¬ P/\Q) c:=by
 cases b with
 |true=>exact .inr ⟨λh=>h.1 (u.1 rfl),rfl⟩
 |false =>
  have r:¬ P:=λh=>by simpa using u.2 h
  exact (y r).iff ⟨λh=>⟨r,h⟩,λh=>h.2⟩
theorem Rnd.cnd {b:Bool}{P Q:Prop}{g c:Option RB}(r:b=true<->P)(u:P->Rnd g Q c):Rnd (bif b then g else rb false) (P/\Q) c:=by
 cases b with
 |false=>exact .inr ⟨λh=>by simpa using r.2 h.1,rfl⟩
 |true=>exact (u (r.1 rfl)).iff ⟨λh=>⟨r.1 rfl,h⟩,λh=>h.2⟩
theorem Rnd.ix {α:Type}{xs:List α}{a:Int}{y:α}{P:Prop}{c:Option RB}{G:α->Option RB}(h:idx xs a=some y)(r:Rnd (G y) P c):Rnd ((idx xs a).bind G) P c:=by
 rw[h];exact r
theorem Rnd.vl {β:Type}{o:Option β}{y:β}{P:Prop}{c:Option RB}{G:β->Option RB}(h:o=some y)(r:Rnd (G y) P c):Rnd (o.bind G) P c:=by
 rw[h];exact r
theorem Rnd.two {i:Nat}{P Q:Prop}{c g:Option RB}{g0:Option RB}(z:0<i->Rnd g0 (P/\Q) c)(u:Rnd g Q c):Rnd (bif decide ((i:Int)>0) then g0 else g) ((0<i->P)/\Q) c:=by
 by_cases h:0<i
 ·rw[decide_eq_true (by omega:(i:Int)>0)];exact (z h).iff ⟨λr=>⟨λ_=>r.1,r.2⟩,λr=>⟨r.1 h,r.2⟩⟩
 ·rw[decide_eq_false (by omega:¬ (i:Int)>0)];exact u.iff ⟨λr=>⟨λy=>absurd y h,r⟩,λr=>r.2⟩
theorem Ret.nx {o:Option RB}{P Q:Prop}{G:RB->Option RB}(u:Ret o P)(r:P->Ret (G ((true,()),())) Q):Ret (o.bind λy=>bif !y.1.1 then rb false else G y) (P/\Q):=Ret.and u r rfl
theorem Ret.px {o:Option RB}{P Q:Prop}{G:RB->Option RB}(u:Ret o P)(r:P->Ret (G ((true,()),())) Q):Ret (o.bind λy=>bif y.1.1 then G y else rb false) (P/\Q):=Ret.and u r rfl
theorem Ret.vl {β:Type}{o:Option β}{y:β}{P:Prop}{G:β->Option RB}(h:o=some y)(r:Ret (G y) P):Ret (o.bind G) P:=by
 rw[h];exact r
theorem lK {A R:Type}{step:(A->Option R)->A->Option R}(n:Nat)(S:Nat->A)(P:Nat->Prop)(rt M:Option R)
  (h:∀ (rec:A->Option R) (i:Nat),i<n->(P i/\step rec (S i)=rec (S (i+1)))\/(¬ P i/\step rec (S i)=M)) (u:∀ rec:A->Option R,step rec (S n)=rt) :
  ∀ (d k i:Nat),i+d=n->d<k->((∀ j,i<=j->j<n->P j)/\ae step k (S i)=rt)\/((¬ ∀ j,i<=j->j<n->P j)/\ae step k (S i)=M):=by
 intro d;induction d with
 |zero =>
  intro k i hi hk;obtain⟨k,rfl⟩:∃ z,k=z+1:=⟨k-1,by omega⟩;have:i=n:=by omega
  subst this;exact .inl ⟨λj r y=>by omega,u (ae step k)⟩
 |succ d X =>
  intro k i hi hk;obtain⟨k,rfl⟩:∃ z,k=z+1:=⟨k-1,by omega⟩;rcases h (ae step k) i (by omega) with ⟨I,H⟩|⟨I,H⟩
  ·have e:ae step (k+1) (S i)=ae step k (S (i+1)):=H;rw[e];rcases X k (i+1) (by omega) (by omega) with ⟨r,y⟩|⟨r,y⟩
   ·refine .inl ⟨λj J O=>?_,y⟩;by_cases Z:j=i
    ·subst Z;exact I
    ·exact r j (by omega) O
   ·exact .inr ⟨λJ=>r (λj O Y=>J j (by omega) Y),y⟩
  ·exact .inr ⟨λr=>I (r i (Nat.le_refl _) (by omega)),H⟩
theorem p6 {A:Type}{step:(A->Option RB)->A->Option RB}(n:Nat)(S:Nat->A)(P:Nat->Prop){Q:Prop}{rt:Option RB}
  (h:∀ (rec:A->Option RB) (i:Nat),i<n->(P i/\step rec (S i)=rec (S (i+1)))\/(¬ P i/\step rec (S i)=rb false)) (r:∀ rec:A->Option RB,step rec (S n)=rt)
  {k:Nat} (J:n<k) (y:(∀ j,j<n->P j)->Ret rt Q):Ret (ae step k (S 0)) ((∀ j,j<n->P j)/\Q):=by
 rcases lK n S P rt (rb false) h r n k 0 (by omega) J with ⟨z,u⟩|⟨z,u⟩
 ·rw[u];have I:∀ j,j<n->P j:=λj H=>z j (AX _) H
  exact (y I).iff ⟨λh=>⟨I,h⟩,λh=>h.2⟩
 ·rw[u];exact Ret.no (λh=>z (λj _ H=>h.1 j H))
theorem fY {α:Type}(xs:List α){step:(Int->Option RB)->Int->Option RB}(P:(i:Nat)->i<xs.length->Prop){Q:Prop}{rt:Option RB}(J:xs.length<=1048576)
  (h:∀ (rec:Int->Option RB) (i:Nat) (r:i<xs.length),Rnd (step rec (i:Int)) (P i r) (rec (wr .i64 ((i:Int)+1)))) (y:∀ rec:Int->Option RB,step rec (xs.length:Int)=rt)
  {k:Nat} (M:1048577<k) (z:(∀ i r,P i r)->Ret rt Q):Ret (ae step k 0) ((∀ i r,P i r)/\Q):=by
 refine (p6 (step:=step) xs.length (λi=>(i:Int)) (λj=>∀ h:j<xs.length,P j h) (rt:=rt) (Q:=Q) ?_ y (by omega) (λu=>z (λi r=>u i r r))).iff ⟨λu=>⟨λi r=>u.1 i r r,u.2⟩,λu=>⟨λj _ I=>u.1 j I,u.2⟩⟩;intro rec i r;have:=h rec i r;rw[au i (by omega)]at this;exact this.imp (λu=>⟨λ_=>u.1,u.2⟩) (λu=>⟨λH=>u.1 (H r),u.2⟩)
theorem ou {A α:Type}(xs:List α){step:(A->Option RB)->A->Option RB}(S:Nat->A)(P:(i:Nat)->i<xs.length->Prop){c:Option RB}(J:xs.length<=1048576)
  (h:∀ (rec:A->Option RB) (i:Nat) (u:i<xs.length),Rnd (step rec (S i)) (P i u) (rec (S (i+1)))) (z:∀ rec:A->Option RB,step rec (S xs.length)=c)
  {k:Nat} (M:1048577<k):Rnd (ae step k (S 0)) (∀ i u,P i u) c:=by
 have:=lK (step:=step) xs.length S (λj=>∀ h:j<xs.length,P j h) c (rb false) ?_ z xs.length k 0 (by omega) (by omega)
 ·rcases this with ⟨r,y⟩|⟨r,y⟩
  ·exact .inl ⟨λi u=>r i (AX _) u u,y⟩
  ·exact .inr ⟨λH=>r (λj _ I _=>H j I),y⟩
 ·intro rec i u;exact (h rec i u).imp (λr=>⟨λ_=>r.1,r.2⟩) (λr=>⟨λy=>r.1 (y u),r.2⟩)
theorem cG {A R:Type}{step:(A->Option R)->A->Option R}(n:Nat)(S:Nat->A)(P:Nat->Prop)(X:Option R)(O:Nat->Option R)
  (h:∀ (rec:A->Option R) (i:Nat),i<n->(¬ P i/\step rec (S i)=rec (S (i+1)))\/(P i/\step rec (S i)=O i)) (u:∀ rec:A->Option R,step rec (S n)=X) :
  ∀ (d k i:Nat),i+d=n->d<k->((∀ j,i<=j->j<n->¬ P j)/\ae step k (S i)=X)\/(∃ j,i<=j/\j<n/\P j/\(∀ m,i<=m->m<j->¬ P m)/\ae step k (S i)=O j):=by
 intro d;induction d with
 |zero =>
  intro k i hi hk;obtain⟨k,rfl⟩:∃ H,k=H+1:=⟨k-1,by omega⟩;have:i=n:=by omega
  subst this;exact .inl ⟨λj y r=>by omega,u (ae step k)⟩
 |succ d Y =>
  intro k i hi hk;obtain⟨k,rfl⟩:∃ H,k=H+1:=⟨k-1,by omega⟩;rcases h (ae step k) i (by omega) with ⟨z,I⟩|⟨z,I⟩
  ·have e:ae step (k+1) (S i)=ae step k (S (i+1)):=I;rw[e];rcases Y k (i+1) (by omega) (by omega) with ⟨y,r⟩|⟨j,y,r,M,J,Z⟩
   ·refine .inl ⟨λj M J=>?_,r⟩;by_cases hj:j=i
    ·subst hj;exact z
    ·exact y j (by omega) J
   ·refine .inr ⟨j,by omega,r,M,λm h6 h7=>?_,Z⟩;by_cases hm:m=i
    ·subst hm;exact z
    ·exact J m (by omega) h7
  ·exact .inr ⟨i,Nat.le_refl _,by omega,z,λm y r=>by omega,I⟩
def Asc {α:Type}(k:α->Int)(xs:List α):Prop:=xs.Pairwise λa b=>k a<k b
theorem eA {α:Type}{k:α->Int}{xs:List α}:Asc k xs<->∀ i j,(r:i<xs.length)->(u:j<xs.length)->i<j->k xs[i]<k xs[j]:=List.pairwise_iff_getElem
theorem gx {α:Type}{k:α->Int}{xs:List α}:Asc k xs<->∀ i,(u:i<xs.length)->0<i->k (xs[i-1]'(by omega))<k xs[i]:=by
 rw[eA];constructor
 ·intro h i u I;exact h (i-1) i (by omega) u (by omega)
 ·intro h i j u y r;obtain⟨d,rfl⟩:∃ d,j=i+1+d:=⟨j-i-1,by omega⟩;clear r;induction d with
  |zero=>simpa using h (i+1) y (by omega)
  |succ d z =>
   have J:=z (by omega);have H:=h (i+1+(d+1)) y (by omega);have e:i+1+(d+1)-1=i+1+d:=by omega
   simp only[e]at H;omega
theorem dn {α:Type}{p:α->Prop}{xs:List α}:(∀ x∈xs,p x)<->∀ i,(r:i<xs.length)->p xs[i]:=by
 constructor
 ·intro h i r;exact h _ (List.getElem_mem r)
 ·intro h x u;obtain⟨i,r,e⟩:=List.getElem_of_mem u;exact e ▸ h i r
theorem sj {α:Type}{k:α->Int}{xs:List α}(h:Asc k xs){i j:Nat}(u:i<xs.length)(y:j<xs.length)(e:k xs[i]=k xs[j]):i=j:=by
 rw[eA]at h;rcases Nat.lt_trichotomy i j with r|r|r
 ·have:=h i j u y r;omega
 ·exact r
 ·have:=h j i y u r;omega
theorem iH:∀ (A B:List Int),A.Pairwise (·<·)->B.Pairwise (·<·)->(∀ x∈A,x∈B)->A.length<=B.length/\(A.length=B.length->A=B)
 |[],B,_,_,_=>⟨AX _,λh=>(List.eq_nil_of_length_eq_zero h.symm).symm⟩
 |a::A,[],_,_,h=>by simpa using h a (AV ..)
 |a::A,b::B,y,z,h=>by
  rw[AW]at y z;by_cases e:a=b
  ·subst e;obtain⟨J,O⟩:=iH A B y.2 z.2 (λx u=>by
    rcases AT.1 (h x (List.mem_cons_of_mem _ u)) with rfl|r
    ·exact absurd (y.1 x u) (by omega)
    ·exact r)
   exact⟨by simpa using J,λr=>by rw[O (by simpa using r)]⟩
  ·have I:a∈B:=(AT.1 (h a (AV ..))).resolve_left e;have M:=z.1 a I;obtain⟨J,_⟩:=iH (a::A) B (AW.2 y) z.2 (λx u=>by
    rcases AT.1 (h x u) with rfl|r
    ·rcases AT.1 u with H|H
     ·exact absurd H.symm e
     ·have:=y.1 x H;omega
    ·exact r)
   simp only[List.length_cons]at J ⊢;exact⟨by omega,λr=>by omega⟩
theorem za {a b:Nat}(h:a+b<4611686018427387904):wr .i64 (Int.fdiv (wr .u64 (wr .i64 ((a:Int)+(b:Int)))) (2 ^ 1))=(((a+b) / 2:Nat):Int):=by
 have z:wr .i64 ((a:Int)+(b:Int))=((a+b:Nat):Int):=by rw[aJ (by omega) (by omega)];omega
 have r:wr .u64 ((a+b:Nat):Int)=((a+b:Nat):Int):=by
  show IntKind.u64.wrap _=_;have u:IntKind.u64.wrap ((a+b:Nat):Int)=((a+b:Nat):Int) % 18446744073709551616:=by simp[IntKind.wrap,IntKind.bits,IntKind.signed]
  rw[u];omega
 rw[z,r];have y:Int.fdiv ((a+b:Nat):Int) (2 ^ 1)=(((a+b) / 2:Nat):Int):=by
  have:((2:Int) ^ 1)=((2:Nat):Int):=by decide
  rw[this,Int.fdiv_eq_ediv_of_nonneg _ (by omega)];omega
 rw[y,aJ (by omega) (by omega)]
theorem z8 {R:Type}{step:(Int×Int->Option R)->Int×Int->Option R}{ks:Nat->Int}{n:Nat}{t:Int}(I:Nat->Option R)(hn:n<=1048576)(z:∀ i j,i<j->j<n->ks i<ks j)
  (h1:∀ (rec:Int×Int->Option R) (a b:Nat),a<b->b<=n->step rec ((a:Int),(b:Int))=if ks ((a+b) / 2)<t then rec ((((a+b) / 2+1:Nat):Int),(b:Int)) else rec ((a:Int),(((a+b) / 2:Nat):Int)))
  (h2:∀ (rec:Int×Int->Option R) (a:Nat),a<=n->step rec ((a:Int),(a:Int))=I a) :
  ∀ (d k a b:Nat),b-a<=d->a<=b->b<=n->d<k->(∀ i,i<a->ks i<t)->(∀ i,b<=i->i<n->t<=ks i) ->
   ∃ m,m<=n/\(∀ i,i<m->ks i<t)/\(∀ i,m<=i->i<n->t<=ks i)/\ae step k ((a:Int),(b:Int))=I m:=by
 intro d;induction d with
 |zero =>
  intro k a b hd X r hk y u;obtain⟨k,rfl⟩:∃ O,k=O+1:=⟨k-1,by omega⟩;have:a=b:=by omega
  subst this;exact⟨a,r,y,u,h2 (ae step k) a r⟩
 |succ d Z =>
  intro k a b hd X r hk y u;obtain⟨k,rfl⟩:∃ O,k=O+1:=⟨k-1,by omega⟩;by_cases he:a=b
  ·subst he;exact⟨a,r,y,u,h2 (ae step k) a r⟩
  ·have J:a<b:=by omega
   have hs:=h1 (ae step k) a b J r;have e:ae step (k+1) ((a:Int),(b:Int))=step (ae step k) ((a:Int),(b:Int)):=rfl;rw[e,hs];by_cases M:ks ((a+b) / 2)<t
   ·rw[if_pos M];refine Z k _ b (by omega) (by omega) r (by omega) (λi hi=>?_) u;by_cases H:i=(a+b) / 2
    ·subst H;exact M
    ·have:=z i ((a+b) / 2) (by omega) (by omega);omega
   ·rw[if_neg M];refine Z k a _ (by omega) (by omega) (by omega) (by omega) y (λi hi Y=>?_);by_cases H:i=(a+b) / 2
    ·subst H;omega
    ·have:=z ((a+b) / 2) i (by omega) Y;omega
end Go.Proofs.YtaegajachoklkaaGreatEv
