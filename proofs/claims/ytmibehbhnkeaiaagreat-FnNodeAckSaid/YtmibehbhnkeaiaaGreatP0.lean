/- Plain lemmas on loops: a loop over a list comes to a fold that may stop. -/
import Derived.Test.YtmibehbhnkeaiaaGreatE0
import Derived.Laws.MakeOwn
set_option linter.unusedVariables false
set_option linter.unusedSimpArgs false
open List renaming mem_cons->FJ,mem_cons_self->FL,pairwise_cons->FM
open Nat renaming zero_le->FN
open Option renaming bind_some->FK
namespace Go.Proofs.YtmibehbhnkeaiaaGreatEv
open Go
theorem aC {n:Int}(r:-9223372036854775808<=n)(u:n<=9223372036854775807):wr .i64 n=n:=by
 show IntKind.i64.wrap n=n;rw[IntKind.wrap_i64];omega
theorem oV {α:Type}(xs:List α)(i:Nat):idx xs (i:Int)=xs[i]?:=by
 unfold idx;rw[if_neg (by omega)];simp
theorem af {α:Type}{xs:List α}{i:Nat}(h:i<xs.length):idx xs (i:Int)=some xs[i]:=by
 rw[oV,List.getElem?_eq_getElem h]
theorem ar (i:Nat)(h:i<9223372036854775807):wr .i64 ((i:Int)+1)=((i+1:Nat):Int):=by
 rw[aC (by omega) (by omega)];omega
theorem ft (i:Nat)(r:0<i)(h:i<9223372036854775807):wr .i64 ((i:Int)-1)=((i-1:Nat):Int):=by
 rw[aC (by omega) (by omega)];omega
abbrev ah:=Int×Int×Int×Bool
abbrev aO:=ah×Int
abbrev bV:=Int×Int×Int×List Int
abbrev cW:=Int×Int×Int×Int
abbrev cm:=Int×cW×List Int
abbrev ch:=Int×List ah
abbrev aa:=Int×Bool×Bool×Bool×Int×Int×Int×Int×List ah×List aO×ah×List bV×cW×List cm×List ch
abbrev RB:=(Bool×Unit)×Unit
abbrev rb (b:Bool):Option RB:=some ((b,()),())
def Ret (o:Option RB)(P:Prop):Prop:=∃ b,o=rb b/\(b=true<->P)
theorem Ret.of {b:Bool}{P:Prop}(h:b=true<->P):Ret (rb b) P:=⟨b,rfl,h⟩
theorem Ret.dec {P:Prop}[Decidable P]:Ret (rb (decide P)) P:=⟨_,rfl,by simp⟩
theorem Ret.bool (b:Bool):Ret (rb b) (b=true):=⟨b,rfl,Iff.rfl⟩
theorem Ret.no {P:Prop}(h:¬ P):Ret (rb false) P:=⟨false,rfl,by simp[h]⟩
theorem Ret.yes {P:Prop}(h:P):Ret (rb true) P:=⟨true,rfl,by simp[h]⟩
theorem Ret.iff {o:Option RB}{P Q:Prop}(h:Ret o P)(e:P<->Q):Ret o Q:=by obtain⟨b,r,u⟩:=h;exact⟨b,r,u.trans e⟩
theorem Ret.and {o:Option RB}{P Q:Prop}{g:RB->Option RB}(u:Ret o P)(y:P->Ret (g ((true,()),())) Q)(z:g ((false,()),())=rb false):Ret (o.bind g) (P/\Q):=by
 obtain⟨b,H,r⟩:=u;rw[H,FK];cases b with
 |false=>rw[z];exact Ret.no (λh=>by simpa using r.2 h.1)
 |true=>exact (y (r.1 rfl)).iff ⟨λh=>⟨r.1 rfl,h⟩,λh=>h.2⟩
theorem Ret.cnd {b:Bool}{P Q:Prop}{g:Option RB}(r:b=true<->P)(u:P->Ret g Q):Ret (bif b then g else rb false) (P/\Q):=by
 cases b with
 |false=>exact Ret.no (λh=>by simpa using r.2 h.1)
 |true=>exact (u (r.1 rfl)).iff ⟨λh=>⟨r.1 rfl,h⟩,λh=>h.2⟩
theorem Ret.cndN {b:Bool}{P Q:Prop}{g:Option RB}(r:b=true<->P)(y:¬ P->Ret g Q):Ret (bif b then rb false else g) (¬ P/\Q):=by
 cases b with
 |true=>exact Ret.no (λh=>h.1 (r.1 rfl))
 |false =>
  have u:¬ P:=λh=>by simpa using r.2 h
  exact (y u).iff ⟨λh=>⟨u,h⟩,λh=>h.2⟩
theorem Ret.same {o u:Option RB}{P Q:Prop}(h:Ret o P)(h':Ret u Q)(e:P<->Q):∃ b,o=rb b/\u=rb b:=by
 obtain⟨b,y,H⟩:=h;obtain⟨r,z,I⟩:=h';have:b=r:=by
  cases b <;> cases r <;> simp_all
 exact⟨b,y,by rw[this];exact z⟩
def Rnd (o:Option RB)(P:Prop)(c:Option RB):Prop:=(P/\o=c)\/(¬ P/\o=rb false)
theorem Rnd.end_ {c:Option RB}:Rnd c True c:=.inl ⟨trivial,rfl⟩
theorem Rnd.iff {o c:Option RB}{P Q:Prop}(h:Rnd o P c)(e:P<->Q):Rnd o Q c:=h.imp (λh=>⟨e.1 h.1,h.2⟩) (λh=>⟨λq=>h.1 (e.2 q),h.2⟩)
theorem Rnd.and {o c:Option RB}{P Q:Prop}{g:RB->Option RB}(u:Ret o P)(y:P->Rnd (g ((true,()),())) Q c)(z:g ((false,()),())=rb false):Rnd (o.bind g) (P/\Q) c:=by
 obtain⟨b,H,r⟩:=u;rw[H,FK];cases b with
 |false=>exact .inr ⟨λh=>by simpa using r.2 h.1,z⟩
 |true=>exact (y (r.1 rfl)).iff ⟨λh=>⟨r.1 rfl,h⟩,λh=>h.2⟩
theorem Rnd.nx {o c:Option RB}{P Q:Prop}{G:RB->Option RB}(r:Ret o P)(u:P->Rnd (G ((true,()),())) Q c):Rnd (o.bind λy=>bif !y.1.1 then rb false else G y) (P/\Q) c:=Rnd.and r u rfl
theorem Rnd.fx {o c:Option RB}{P Q:Prop}{G:RB->Option RB}(z:Ret o P)(H:¬ P->Rnd (G ((false,()),())) Q c):Rnd (o.bind λy=>bif y.1.1 then rb false else G y) (¬ P/\Q) c:=by
 obtain⟨b,I,r⟩:=z;rw[I,FK];cases b with
 |true=>exact .inr ⟨λh=>h.1 (r.1 rfl),rfl⟩
 |false =>
  have u:¬ P:=λh=>by simpa using r.2 h
  exact (H u).iff ⟨λh=>⟨u,h⟩,λh=>h.2⟩
theorem Rnd.cndN {b:Bool}{P Q:Prop}{g c:Option RB}(r:b=true<->P)(y:¬ P->Rnd g Q c):Rnd (bif b then rb false else g) (¬ P/\Q) c:=by
 cases b with
 |true=>exact .inr ⟨λh=>h.1 (r.1 rfl),rfl⟩
 |false =>
  have u:¬ P:=λh=>by simpa using r.2 h
  exact (y u).iff ⟨λh=>⟨u,h⟩,λh=>h.2⟩
theorem Rnd.cnd {b:Bool}{P Q:Prop}{g c:Option RB}(r:b=true<->P)(u:P->Rnd g Q c):Rnd (bif b then g else rb false) (P/\Q) c:=by
 cases b with
 |false=>exact .inr ⟨λh=>by simpa using r.2 h.1,rfl⟩
 |true=>exact (u (r.1 rfl)).iff ⟨λh=>⟨r.1 rfl,h⟩,λh=>h.2⟩
theorem Rnd.ix {α:Type}{xs:List α}{a:Int}{y:α}{P:Prop}{c:Option RB}{G:α->Option RB}(h:idx xs a=some y)(r:Rnd (G y) P c):Rnd ((idx xs a).bind G) P c:=by
 rw[h];exact r
theorem Rnd.vl {β:Type}{o:Option β}{y:β}{P:Prop}{c:Option RB}{G:β->Option RB}(h:o=some y)(r:Rnd (G y) P c):Rnd (o.bind G) P c:=by
 rw[h];exact r
theorem Rnd.two {i:Nat}{P Q:Prop}{c g:Option RB}{g0:Option RB}(u:0<i->Rnd g0 (P/\Q) c)(y:Rnd g Q c):Rnd (bif decide ((i:Int)>0) then g0 else g) ((0<i->P)/\Q) c:=by
 by_cases h:0<i
 ·rw[decide_eq_true (by omega:(i:Int)>0)];exact (u h).iff ⟨λr=>⟨λ_=>r.1,r.2⟩,λr=>⟨r.1 h,r.2⟩⟩
 ·rw[decide_eq_false (by omega:¬ (i:Int)>0)];exact y.iff ⟨λr=>⟨λz=>absurd z h,r⟩,λr=>r.2⟩
theorem Ret.nx {o:Option RB}{P Q:Prop}{G:RB->Option RB}(r:Ret o P)(u:P->Ret (G ((true,()),())) Q):Ret (o.bind λy=>bif !y.1.1 then rb false else G y) (P/\Q):=Ret.and r u rfl
theorem Ret.px {o:Option RB}{P Q:Prop}{G:RB->Option RB}(r:Ret o P)(u:P->Ret (G ((true,()),())) Q):Ret (o.bind λy=>bif y.1.1 then G y else rb false) (P/\Q):=Ret.and r u rfl
theorem Ret.vl {β:Type}{o:Option β}{y:β}{P:Prop}{G:β->Option RB}(h:o=some y)(r:Ret (G y) P):Ret (o.bind G) P:=by
 rw[h];exact r
theorem mP {A R:Type}{step:(A->Option R)->A->Option R}(n:Nat)(S:Nat->A)(P:Nat->Prop)(rt O:Option R)
  (h:∀ (rec:A->Option R) (i:Nat),i<n->(P i/\step rec (S i)=rec (S (i+1)))\/(¬ P i/\step rec (S i)=O)) (u:∀ rec:A->Option R,step rec (S n)=rt) :
  ∀ (d k i:Nat),i+d=n->d<k->((∀ j,i<=j->j<n->P j)/\ae step k (S i)=rt)\/((¬ ∀ j,i<=j->j<n->P j)/\ae step k (S i)=O):=by
 intro d;induction d with
 |zero =>
  intro k i Y hk;obtain⟨k,rfl⟩:∃ I,k=I+1:=⟨k-1,by omega⟩;have:i=n:=by omega
  subst this;exact .inl ⟨λj r y=>by omega,u (ae step k)⟩
 |succ d ih =>
  intro k i Y hk;obtain⟨k,rfl⟩:∃ I,k=I+1:=⟨k-1,by omega⟩;rcases h (ae step k) i (by omega) with ⟨z,H⟩|⟨z,H⟩
  ·have e:ae step (k+1) (S i)=ae step k (S (i+1)):=H;rw[e];rcases ih k (i+1) (by omega) (by omega) with ⟨r,y⟩|⟨r,y⟩
   ·refine .inl ⟨λj J M=>?_,y⟩;by_cases Z:j=i
    ·subst Z;exact z
    ·exact r j (by omega) M
   ·exact .inr ⟨λJ=>r (λj M X=>J j (by omega) X),y⟩
  ·exact .inr ⟨λr=>z (r i (Nat.le_refl _) (by omega)),H⟩
theorem rF {A:Type}{step:(A->Option RB)->A->Option RB}(n:Nat)(S:Nat->A)(P:Nat->Prop){Q:Prop}{rt:Option RB}
  (h:∀ (rec:A->Option RB) (i:Nat),i<n->(P i/\step rec (S i)=rec (S (i+1)))\/(¬ P i/\step rec (S i)=rb false)) (r:∀ rec:A->Option RB,step rec (S n)=rt)
  {k:Nat} (J:n<k) (H:(∀ j,j<n->P j)->Ret rt Q):Ret (ae step k (S 0)) ((∀ j,j<n->P j)/\Q):=by
 rcases mP n S P rt (rb false) h r n k 0 (by omega) J with ⟨u,y⟩|⟨u,y⟩
 ·rw[y];have I:∀ j,j<n->P j:=λj z=>u j (FN _) z
  exact (H I).iff ⟨λh=>⟨I,h⟩,λh=>h.2⟩
 ·rw[y];exact Ret.no (λh=>u (λj _ z=>h.1 j z))
theorem gV {α:Type}(xs:List α){step:(Int->Option RB)->Int->Option RB}(P:(i:Nat)->i<xs.length->Prop){Q:Prop}{rt:Option RB}(M:xs.length<=1048576)
  (h:∀ (rec:Int->Option RB) (i:Nat) (r:i<xs.length),Rnd (step rec (i:Int)) (P i r) (rec (wr .i64 ((i:Int)+1)))) (y:∀ rec:Int->Option RB,step rec (xs.length:Int)=rt)
  {k:Nat} (J:1048577<k) (z:(∀ i r,P i r)->Ret rt Q):Ret (ae step k 0) ((∀ i r,P i r)/\Q):=by
 refine (rF (step:=step) xs.length (λi=>(i:Int)) (λj=>∀ h:j<xs.length,P j h) (rt:=rt) (Q:=Q) ?_ y (by omega) (λu=>z (λi r=>u i r r))).iff ⟨λu=>⟨λi r=>u.1 i r r,u.2⟩,λu=>⟨λj _ I=>u.1 j I,u.2⟩⟩;intro rec i r;have:=h rec i r;rw[ar i (by omega)]at this;exact this.imp (λu=>⟨λ_=>u.1,u.2⟩) (λu=>⟨λH=>u.1 (H r),u.2⟩)
theorem pV {A α:Type}(xs:List α){step:(A->Option RB)->A->Option RB}(S:Nat->A)(P:(i:Nat)->i<xs.length->Prop){c:Option RB}(M:xs.length<=1048576)
  (h:∀ (rec:A->Option RB) (i:Nat) (u:i<xs.length),Rnd (step rec (S i)) (P i u) (rec (S (i+1)))) (z:∀ rec:A->Option RB,step rec (S xs.length)=c)
  {k:Nat} (J:1048577<k):Rnd (ae step k (S 0)) (∀ i u,P i u) c:=by
 have:=mP (step:=step) xs.length S (λj=>∀ h:j<xs.length,P j h) c (rb false) ?_ z xs.length k 0 (by omega) (by omega)
 ·rcases this with ⟨r,y⟩|⟨r,y⟩
  ·exact .inl ⟨λi u=>r i (FN _) u u,y⟩
  ·exact .inr ⟨λH=>r (λj _ I _=>H j I),y⟩
 ·intro rec i u;exact (h rec i u).imp (λr=>⟨λ_=>r.1,r.2⟩) (λr=>⟨λy=>r.1 (y u),r.2⟩)
theorem cG {A R:Type}{step:(A->Option R)->A->Option R}(n:Nat)(S:Nat->A)(P:Nat->Prop)(O:Option R)(X:Nat->Option R)
  (h:∀ (rec:A->Option R) (i:Nat),i<n->(¬ P i/\step rec (S i)=rec (S (i+1)))\/(P i/\step rec (S i)=X i)) (u:∀ rec:A->Option R,step rec (S n)=O) :
  ∀ (d k i:Nat),i+d=n->d<k->((∀ j,i<=j->j<n->¬ P j)/\ae step k (S i)=O)\/(∃ j,i<=j/\j<n/\P j/\(∀ m,i<=m->m<j->¬ P m)/\ae step k (S i)=X j):=by
 intro d;induction d with
 |zero =>
  intro k i hi hk;obtain⟨k,rfl⟩:∃ J,k=J+1:=⟨k-1,by omega⟩;have:i=n:=by omega
  subst this;exact .inl ⟨λj y r=>by omega,u (ae step k)⟩
 |succ d ih =>
  intro k i hi hk;obtain⟨k,rfl⟩:∃ J,k=J+1:=⟨k-1,by omega⟩;rcases h (ae step k) i (by omega) with ⟨z,I⟩|⟨z,I⟩
  ·have e:ae step (k+1) (S i)=ae step k (S (i+1)):=I;rw[e];rcases ih k (i+1) (by omega) (by omega) with ⟨y,r⟩|⟨j,y,r,M,H,Y⟩
   ·refine .inl ⟨λj M H=>?_,r⟩;by_cases hj:j=i
    ·subst hj;exact z
    ·exact y j (by omega) H
   ·refine .inr ⟨j,by omega,r,M,λm h6 Z=>?_,Y⟩;by_cases hm:m=i
    ·subst hm;exact z
    ·exact H m (by omega) Z
  ·exact .inr ⟨i,Nat.le_refl _,by omega,z,λm y r=>by omega,I⟩
def Asc {α:Type}(k:α->Int)(xs:List α):Prop:=xs.Pairwise λa b=>k a<k b
theorem ct {α:Type}{k:α->Int}{xs:List α}:Asc k xs<->∀ i j,(r:i<xs.length)->(u:j<xs.length)->i<j->k xs[i]<k xs[j]:=List.pairwise_iff_getElem
theorem it {α:Type}{k:α->Int}{xs:List α}:Asc k xs<->∀ i,(r:i<xs.length)->0<i->k (xs[i-1]'(by omega))<k xs[i]:=by
 rw[ct];constructor
 ·intro h i r I;exact h (i-1) i (by omega) r (by omega)
 ·intro h i j r y u;obtain⟨d,rfl⟩:∃ d,j=i+1+d:=⟨j-i-1,by omega⟩;clear u;induction d with
  |zero=>simpa using h (i+1) y (by omega)
  |succ d H =>
   have J:=H (by omega);have z:=h (i+1+(d+1)) y (by omega);have e:i+1+(d+1)-1=i+1+d:=by omega
   simp only[e]at z;omega
theorem dQ {α:Type}{p:α->Prop}{xs:List α}:(∀ x∈xs,p x)<->∀ i,(r:i<xs.length)->p xs[i]:=by
 constructor
 ·intro h i r;exact h _ (List.getElem_mem r)
 ·intro h x u;obtain⟨i,r,e⟩:=List.getElem_of_mem u;exact e ▸ h i r
theorem pW {α:Type}{k:α->Int}{xs:List α}(h:Asc k xs){i j:Nat}(u:i<xs.length)(y:j<xs.length)(e:k xs[i]=k xs[j]):i=j:=by
 rw[ct]at h;rcases Nat.lt_trichotomy i j with r|r|r
 ·have:=h i j u y r;omega
 ·exact r
 ·have:=h j i y u r;omega
theorem jL:∀ (A B:List Int),A.Pairwise (·<·)->B.Pairwise (·<·)->(∀ x∈A,x∈B)->A.length<=B.length/\(A.length=B.length->A=B)
 |[],B,_,_,_=>⟨FN _,λh=>(List.eq_nil_of_length_eq_zero h.symm).symm⟩
 |a::A,[],_,_,h=>by simpa using h a (FL ..)
 |a::A,b::B,u,z,h=>by
  rw[FM]at u z;by_cases e:a=b
  ·subst e;obtain⟨H,M⟩:=jL A B u.2 z.2 (λx y=>by
    rcases FJ.1 (h x (List.mem_cons_of_mem _ y)) with rfl|r
    ·exact absurd (u.1 x y) (by omega)
    ·exact r)
   exact⟨by simpa using H,λr=>by rw[M (by simpa using r)]⟩
  ·have J:a∈B:=(FJ.1 (h a (FL ..))).resolve_left e;have O:=z.1 a J;obtain⟨H,_⟩:=jL (a::A) B (FM.2 u) z.2 (λx y=>by
    rcases FJ.1 (h x y) with rfl|r
    ·rcases FJ.1 y with I|I
     ·exact absurd I.symm e
     ·have:=u.1 x I;omega
    ·exact r)
   simp only[List.length_cons]at H ⊢;exact⟨by omega,λr=>by omega⟩
theorem mj {a b:Nat}(h:a+b<4611686018427387904):wr .i64 (Int.fdiv (wr .u64 (wr .i64 ((a:Int)+(b:Int)))) (2 ^ 1))=(((a+b) / 2:Nat):Int):=by
 have r:wr .i64 ((a:Int)+(b:Int))=((a+b:Nat):Int):=by rw[aC (by omega) (by omega)];omega
 have u:wr .u64 ((a+b:Nat):Int)=((a+b:Nat):Int):=by
  show IntKind.u64.wrap _=_;have z:IntKind.u64.wrap ((a+b:Nat):Int)=((a+b:Nat):Int) % 18446744073709551616:=by simp[IntKind.wrap,IntKind.bits,IntKind.signed]
  rw[z];omega
 rw[r,u];have y:Int.fdiv ((a+b:Nat):Int) (2 ^ 1)=(((a+b) / 2:Nat):Int):=by
  have:((2:Int) ^ 1)=((2:Nat):Int):=by decide
  rw[this,Int.fdiv_eq_ediv_of_nonneg _ (by omega)];omega
 rw[y,aC (by omega) (by omega)]
theorem nO {R:Type}{step:(Int×Int->Option R)->Int×Int->Option R}{ks:Nat->Int}{n:Nat}{t:Int}(I:Nat->Option R)(hn:n<=1048576)(z:∀ i j,i<j->j<n->ks i<ks j)
  (h1:∀ (rec:Int×Int->Option R) (a b:Nat),a<b->b<=n->step rec ((a:Int),(b:Int))=if ks ((a+b) / 2)<t then rec ((((a+b) / 2+1:Nat):Int),(b:Int)) else rec ((a:Int),(((a+b) / 2:Nat):Int)))
  (Z:∀ (rec:Int×Int->Option R) (a:Nat),a<=n->step rec ((a:Int),(a:Int))=I a) :
  ∀ (d k a b:Nat),b-a<=d->a<=b->b<=n->d<k->(∀ i,i<a->ks i<t)->(∀ i,b<=i->i<n->t<=ks i) ->
   ∃ m,m<=n/\(∀ i,i<m->ks i<t)/\(∀ i,m<=i->i<n->t<=ks i)/\ae step k ((a:Int),(b:Int))=I m:=by
 intro d;induction d with
 |zero =>
  intro k a b hd J r hk y u;obtain⟨k,rfl⟩:∃ Y,k=Y+1:=⟨k-1,by omega⟩;have:a=b:=by omega
  subst this;exact⟨a,r,y,u,Z (ae step k) a r⟩
 |succ d ih =>
  intro k a b hd J r hk y u;obtain⟨k,rfl⟩:∃ Y,k=Y+1:=⟨k-1,by omega⟩;by_cases he:a=b
  ·subst he;exact⟨a,r,y,u,Z (ae step k) a r⟩
  ·have X:a<b:=by omega
   have hs:=h1 (ae step k) a b X r;have e:ae step (k+1) ((a:Int),(b:Int))=step (ae step k) ((a:Int),(b:Int)):=rfl;rw[e,hs];by_cases M:ks ((a+b) / 2)<t
   ·rw[if_pos M];refine ih k _ b (by omega) (by omega) r (by omega) (λi hi=>?_) u;by_cases H:i=(a+b) / 2
    ·subst H;exact M
    ·have:=z i ((a+b) / 2) (by omega) (by omega);omega
   ·rw[if_neg M];refine ih k a _ (by omega) (by omega) (by omega) (by omega) y (λi hi O=>?_);by_cases H:i=(a+b) / 2
    ·subst H;omega
    ·have:=z ((a+b) / 2) i (by omega) O;omega
end Go.Proofs.YtmibehbhnkeaiaaGreatEv
