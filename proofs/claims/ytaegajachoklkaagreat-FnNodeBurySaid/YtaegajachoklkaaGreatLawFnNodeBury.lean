/- FnNodeBury: the plain law. -/
import Derived.Test.YtaegajachoklkaaGreatP3
set_option linter.unusedVariables false
set_option linter.unusedSimpArgs false
open Bool renaming not_true->BZ
open Iff renaming rfl->BX
open Int renaming toNat->B3
open List renaming foldl_cons->BY
open Nat renaming le_succ_of_le->BU
open Option renaming bind_some->BV,bind->BW
namespace Go.Proofs.YtaegajachoklkaaGreatEv
open Go
theorem dH.ns9 {i:Nat}{n:aa}(I:dH i n):NS 9 n:=by
 obtain⟨r,y,H,z,u,J⟩:=I.ns;exact⟨r,BU y,BU H,BU z,BU u,BU J⟩
theorem wq (K:Nat)(ad bs:List Int)(hR:fW bs)(n:aa)(hn:NS 9 n)(z:List Int×Int)(hz:bk bs 2000 z)(hK:1048577<K):Tot (Q224.l0 K (ad,()) (0,n.1,n.2.1,n.2.2.1,n.2.2.2.1,n.2.2.2.2.1,n.2.2.2.2.2.1,n.2.2.2.2.2.2.1,n.2.2.2.2.2.2.2.1,n.2.2.2.2.2.2.2.2.1,n.2.2.2.2.2.2.2.2.2.1,n.2.2.2.2.2.2.2.2.2.2.1.1,n.2.2.2.2.2.2.2.2.2.2.1.2.1,n.2.2.2.2.2.2.2.2.2.2.1.2.2.1,n.2.2.2.2.2.2.2.2.2.2.1.2.2.2,n.2.2.2.2.2.2.2.2.2.2.2.1,n.2.2.2.2.2.2.2.2.2.2.2.2.1.1,n.2.2.2.2.2.2.2.2.2.2.2.2.1.2.1,n.2.2.2.2.2.2.2.2.2.2.2.2.1.2.2.1,n.2.2.2.2.2.2.2.2.2.2.2.2.1.2.2.2,n.2.2.2.2.2.2.2.2.2.2.2.2.2.1,n.2.2.2.2.2.2.2.2.2.2.2.2.2.2,z.1,z.2)) λr=>NS 9 r.1.1:=by
 refine Tot.iter (step:=λrec a=>Q224.s0 K (ad,()) rec a) (λa=>∃ (i:Nat) (n:aa) (z:List Int×Int),i<=6/\NS 9 n/\bk bs (2000+1000*i) z/\a=((i:Int),n.1,n.2.1,n.2.2.1,n.2.2.2.1,n.2.2.2.2.1,n.2.2.2.2.2.1,n.2.2.2.2.2.2.1,n.2.2.2.2.2.2.2.1,n.2.2.2.2.2.2.2.2.1,n.2.2.2.2.2.2.2.2.2.1,n.2.2.2.2.2.2.2.2.2.2.1.1,n.2.2.2.2.2.2.2.2.2.2.1.2.1,n.2.2.2.2.2.2.2.2.2.2.1.2.2.1,n.2.2.2.2.2.2.2.2.2.2.1.2.2.2,n.2.2.2.2.2.2.2.2.2.2.2.1,n.2.2.2.2.2.2.2.2.2.2.2.2.1.1,n.2.2.2.2.2.2.2.2.2.2.2.2.1.2.1,n.2.2.2.2.2.2.2.2.2.2.2.2.1.2.2.1,n.2.2.2.2.2.2.2.2.2.2.2.2.1.2.2.2,n.2.2.2.2.2.2.2.2.2.2.2.2.2.1,n.2.2.2.2.2.2.2.2.2.2.2.2.2.2,z.1,z.2)) (λa=>6-a.1.toNat) ?_ K _ (by show 6-B3 0<K;omega) ⟨0,n,z,by omega,hn,hz,rfl⟩;clear hn hz;rintro rec _ ⟨i,⟨a1,a2,a3,a4,a5,a6,a7,a8,a9,X,⟨H,Z,I,M⟩,u,⟨J,R,O,Y⟩,pl,ot⟩,⟨z1,z2⟩,hi,hn,hz,rfl⟩ ih;have b1:u.length<=9:=hn.doubts;have b0:∀ v:Int,Tot (some (((((a1,a2,a3,a4,a5,a6,a7,a8,a9,X,(H,Z,I,M),u,(J,R,O,Y),pl,ot):aa),v,()),()):(aa×Int×Unit)×Unit)) λr=>NS 9 r.1.1:=λv=>Tot.ret hn
 have a0:Tot (bif decide ((List.length u:Int)>0) then ((Q117.f K ((z1,z2),6,())).bind λy4=>bif decide (y4.1.1>0) then ((Q117.f K (y4.2.1,(List.length u:Int),())).bind λy5=>(idx u y5.1.1).bind λy6=>some (((((a1,a2,a3,a4,a5,a6,a7,a8,a9,X,(H,Z,I,M),u,(J,R,O,Y),pl,ot):aa),y6.1,()),()):(aa×Int×Unit)×Unit)) else ((Q117.f K (y4.2.1,9,())).bind λy7=>some (((((a1,a2,a3,a4,a5,a6,a7,a8,a9,X,(H,Z,I,M),u,(J,R,O,Y),pl,ot):aa),wr .i64 (y7.1.1-1),()),()):(aa×Int×Unit)×Unit))) else ((Q117.f K ((z1,z2),9,())).bind λy8=>some (((((a1,a2,a3,a4,a5,a6,a7,a8,a9,X,(H,Z,I,M),u,(J,R,O,Y),pl,ot):aa),wr .i64 (y8.1.1-1),()),()):(aa×Int×Unit)×Unit))) λr=>NS 9 r.1.1:=by
  refine Tot.cnd (λh1=>Tot.bind (aG hR hz 6 (by decide) (by omega)) λv4 ⟨_,s4⟩=>Tot.cnd (λ_=>?_) λ_=>Tot.bind (aG hR s4 9 (by decide) (by omega)) λ_ _=>b0 _) λ_=>Tot.bind (aG hR hz 9 (by decide) (by omega)) λ_ _=>b0 _
  have h1:(u.length:Int)>0:=of_decide_eq_true h1;exact Tot.bind (aG hR s4 (u.length:Int) (by omega) (by omega)) λv5 ⟨⟨q0,q1⟩,_⟩=>Tot.ix q0 (by omega) λy _ _=>b0 _
 simp only[Q224.s0,zc31b9a,zc59c5b];refine Tot.cnd (λh6=>Tot.cnd (λ_=>?_) λ_=>a0) λ_=>a0
 have h6:(i:Int)<6:=of_decide_eq_true h6;rw[aq i (by omega)];exact Tot.bind (tE hR hz (by omega) hK) λy ⟨⟨j,hj⟩,hs⟩=>ih _ ⟨i+1,y.1.1,y.2.1,by omega,hj.ns9,hs.up (by omega),rfl⟩ (by show 6-B3 ((i+1:Nat):Int)<6-B3 (i:Int);omega)
theorem wt (K:Nat)(u:List Int)(I:ya u)(z:1048577<K):Tot (Q224.f K (u,())) λr=>NS 9 r.1.1:=by
 obtain⟨y,H,e⟩:=BG (K:=K) u I.byte I.len;simp only[Q224.f,Q224.pre,zc31b9a];exact Tot.vl e (Tot.bind (x9 H (bk.zero y) (by omega) z) λn ⟨M,J⟩=>wq K u y H n.1.1 M n.2.1 (J.up (by omega)) z)
theorem yh {n:aa}(u:Asc (λg:af=>g.1) (aa.table n)){f:af}{b:Int}{d:aY}(r:d.1≠f.1):d∈aa.doubts (sayOf n f b)<->d∈aa.doubts n:=by
 rcases lk u f b with e|⟨e,_⟩
 ·rw[e]
 ·rw[e];show d∈(bif i8 n f then aa.doubts n else cB (aL n) (aa.doubts n) f b)<->_;cases i8 n f with
  |true=>exact BX
  |false =>
   simp only[cond_false];unfold cB;split
   ·exact bd.trans ⟨λh=>h.elim (λh=>absurd (by rw[h];rfl) r) (·.1),λh=>.inr ⟨h,r⟩⟩
   ·exact List.mem_filter.trans ⟨(·.1),λh=>⟨h,by simpa using r⟩⟩
def ey (v:Int)(n m:aa):Prop:=(∀ g:af,g.1=v->(g∈aa.table m<->g∈aa.table n))/\∀ d:aY,d.1=v->(d∈aa.doubts m<->d∈aa.doubts n)
theorem ey.refl (v:Int)(n:aa):ey v n n:=⟨λ_ _=>BX,λ_ _=>BX⟩
theorem ey.trans {v:Int}{n m k:aa}(h:ey v n m)(h':ey v m k):ey v n k:=⟨λg e=>(h'.1 g e).trans (h.1 g e),λd e=>(h'.2 d e).trans (h.2 d e)⟩
theorem ey.say {v:Int}{n:aa}(u:Asc (λg:af=>g.1) (aa.table n)){f:af}{b:Int}(r:f.1≠v):ey v n (sayOf n f b) :=
 ⟨λ_ e=>rv u (by rw[e];exact Ne.symm r),λ_ e=>yh u (by rw[e];exact Ne.symm r)⟩
def fu (n:aa)(v inc:Int):Prop:=∃ g∈aa.table n,g.1=v/\g.2.2.1=3/\g.2.1=inc
theorem fu.same {n m:aa}{v inc:Int}(h:fu n v inc)(u:ey v n m):fu m v inc:=by
 obtain⟨g,y,e,r⟩:=h;exact⟨g,(u.1 g e).2 y,e,r⟩
theorem fu.no {n:aa}{v inc:Int}(h:fu n v inc)(u:UpX n):∀ d∈aa.doubts n,d.1≠v:=by
 intro d I e;obtain⟨g,H,z,J,_⟩:=h;obtain⟨⟨O,r,y,M,_⟩,_⟩:=u.doubts.1 d I;have:=fK u.table.2 H r (by rw[z,y,e]);subst this;omega
theorem vj {m:aa}(r:UpX m){e:aY}(z:∃ g∈aa.table m,g.1=e.1):UpX (aQ m e)/\aL (aQ m e)=aL m/\∀ g∈aa.table m,∃ J∈aa.table (aQ m e),J.1=g.1:=by
 unfold aQ;cases eR m.2.2.2.2.2.1 e.2.2.1 e.2.2.2.length with
 |false=>exact⟨r,rfl,λg u=>⟨g,u,rfl⟩⟩
 |true =>
  obtain⟨H,M,I⟩:=cm r.table z;have y:ao (fU (aB (aa.table m) e.1)).1=ao m.1:=by
   show ao (aB (aa.table m) e.1).1=ao m.1;exact r.site _ I
  exact⟨r.said (lO H) y (ft.me r.me),(c6 m _ m.1).2.2.2.2.2.1,λg u=>iO u⟩
theorem wu {v:Int}{m:aa}(r:UpX m){e:aY}(z:e.1≠v)(u:∃ g∈aa.table m,g.1=e.1):ey v m (aQ m e):=by
 unfold aQ;cases eR m.2.2.2.2.2.1 e.2.2.1 e.2.2.2.length with
 |false=>exact ey.refl v m
 |true =>
  obtain⟨H,y,I⟩:=cm r.table u;exact ey.say r.table.2 (by rw[show (fU (aB (aa.table m) e.1)).1=e.1 from y];exact z)
theorem zC {m:aa}(u:UpX m){d:aY}(R:d∈aa.doubts m)(r:eR (aL m) d.2.2.1 d.2.2.2.length=true):fu (aQ m d) d.1 d.2.1:=by
 obtain⟨⟨g,y,z,Y,J⟩,_⟩:=u.doubts.1 d R;obtain⟨X,M,O⟩:=cm u.table ⟨g,y,z⟩;have H:=fK u.table.2 O y (by rw[M,z]);have r:eR m.2.2.2.2.2.1 d.2.2.1 d.2.2.2.length=true:=r;unfold aQ;rw[r,H];refine⟨fU g,ne u.table.2 λk I e=>?_,z,rfl,J⟩;have:=fK u.table.2 I y e;subst this;unfold bO fU;simp only;rw[if_neg (by omega),if_pos (by omega)];omega
theorem kh {v:Int}:∀ (l:List aY) (m:aa),UpX m->(∀ e∈l,e.1≠v/\∃ g∈aa.table m,g.1=e.1) ->
  UpX (l.foldl aQ m)/\ey v m (l.foldl aQ m)/\aL (l.foldl aQ m)=aL m/\∀ g∈aa.table m,∃ J∈aa.table (l.foldl aQ m),J.1=g.1
 |[],m,u,_=>⟨u,ey.refl v m,rfl,λg r=>⟨g,r,rfl⟩⟩
 |e::l,m,u,h=>by
  obtain⟨he,X⟩:=h e (by simp);obtain⟨Z,u2,R⟩:=vj u X;obtain⟨i1,i2,i3,Y⟩:=kh (v:=v) l (aQ m e) Z λe' I=>by
   obtain⟨z,g,r,O⟩:=h e' (by simp[I]);obtain⟨J,H,q3⟩:=R g r;exact⟨z,J,H,q3.trans O⟩
  rw[BY];refine⟨i1,(wu u he X).trans i2,i3.trans u2,λg r=>?_⟩;obtain⟨g1,M,z⟩:=R g r;obtain⟨g2,y,O⟩:=Y g1 M;exact⟨g2,y,O.trans z⟩
theorem wv {n:aa}(h:UpX n){d:aY}(Y:d∈aa.doubts n):(eR (aL n) d.2.2.1 d.2.2.2.length=true->fu (cl n) d.1 d.2.1)/\(eR (aL n) d.2.2.1 d.2.2.2.length=false->d∈aa.doubts (cl n)):=by
 obtain⟨M,l2,e⟩:=List.append_of_mem Y;have hA:=h.doubts.2.1;rw[e]at hA;obtain⟨a1,a2,a3⟩:=List.pairwise_append.1 hA;have a2:=List.pairwise_cons.1 a2;have H:∀ u∈aa.doubts n,∃ g∈aa.table n,g.1=u.1:=λu r=>by
  obtain⟨⟨g,R,q,_⟩,_⟩:=h.doubts.1 u r;exact⟨g,R,q⟩
 obtain⟨i1,i2,i3,i4⟩:=kh (v:=d.1) M n h λu r=>⟨by have:u.1<d.1:=a3 u r d (by simp);omega,H u (by rw[e];simp[r])⟩
 have J:d∈aa.doubts (M.foldl aQ n):=(i2.2 d rfl).2 Y;have O:∀ u∈aa.doubts n,∃ g∈aa.table (M.foldl aQ n),g.1=u.1:=λu r=>by
  obtain⟨g,R,q⟩:=H u r;obtain⟨Z,I,X⟩:=i4 g R;exact⟨Z,I,X.trans q⟩
 obtain⟨u1,u2,u3⟩:=vj i1 (O d Y);obtain⟨j1,j2,j3,j4⟩:=kh (v:=d.1) l2 (aQ (M.foldl aQ n) d) u1 λu r=>⟨by have:d.1<u.1:=a2.1 u r;omega,by
  obtain⟨g,R,q⟩:=O u (by rw[e];simp[r]);obtain⟨Z,I,X⟩:=u3 g R;exact⟨Z,I,X.trans q⟩⟩
 have eb:cl n=l2.foldl aQ (aQ (M.foldl aQ n) d):=by unfold cl;rw[e,List.foldl_append,BY]
 rw[eb];refine⟨λz=>(zC i1 J (by rw[i3];exact z)).same j2,λz=>(j2.2 d rfl).2 ?_⟩;have y:eR (M.foldl aQ n).2.2.2.2.2.1 d.2.2.1 d.2.2.2.length=false:=by rw[<- z,<- i3];rfl
 unfold aQ at J y ⊢;rw[y];exact J
theorem yi {n:aa}(h:UpX n){v inc:Int}(u:fu n v inc):fu (cl n) v inc :=
 u.same (kh (v:=v) (aa.doubts n) n h λe r=>⟨u.no h e r,by obtain⟨⟨g,y,q,_⟩,_⟩:=h.doubts.1 e r;exact⟨g,y,q⟩⟩).2.1
theorem lm {m:aa}(u:UpX m){g:af}(J:g∈aa.table m)(z:g.2.2.1≠1):ey g.1 m (aS m).1:=by
 have r:∀ p,ey g.1 m (setP m p):=λp=>⟨λ_ _=>BX,λ_ _=>BX⟩
 unfold aS;cases (aa.probe m).1==-1 with
 |true=>exact ey.refl _ m
 |false =>
  simp only[cond_false];cases H:cK (aB (aa.table m) (aa.probe m).1) with
  |false=>exact r _
  |true =>
   simp only[BZ,cond_false];cases decide (m.2.2.2.2.2.1-(aa.probe m).2.1>=4) with
   |true =>
    simp only[cond_true];obtain⟨_,_,I⟩:=cm u.table (eC H);cases y:(aB (aa.table m) (aa.probe m).1).2.2.1==1 with
    |false=>exact r _
    |true =>
     refine (r noP).trans (ey.say (n:=setP m noP) u.table.2 λe=>?_);have:=fK u.table.2 I J e;rw[this]at y;exact z (by simpa using y)
   |false =>
    simp only[cond_false];cases decide (m.2.2.2.2.2.1-(aa.probe m).2.1>=2) with
    |false=>exact ey.refl _ m
    |true=>cases (aa.probe m).2.2.2 with
     |true=>exact ey.refl _ m
     |false=>exact r _
theorem ni (v:Int)(m:aa):ey v m (cZ m).1:=by
 unfold cZ;cases (aa.probe m).1==-1 with
 |false=>exact ey.refl v m
 |true =>
  simp only[cond_true,dF];cases decide (dm m>=999999) with
  |true=>exact ey.refl v m
  |false =>
   simp only[cond_false];cases gE m with
   |none=>exact ey.refl v m
   |some to=>exact⟨λ_ _=>BX,λ_ _=>BX⟩
theorem ww {n:aa}(h:UpN n){d:aY}(R:d∈aa.doubts n):(eR (aL n+1) d.2.2.1 d.2.2.2.length=true->fu (dG n) d.1 d.2.1)/\(eR (aL n+1) d.2.2.1 d.2.2.2.length=false->d∈aa.doubts (dG n)):=by
 have J:=h.x.later;obtain⟨z,_,_⟩:=jP J h.self;obtain⟨O,X⟩:=wv (n:=cq n) J R;refine⟨λr=>?_,λr=>?_⟩
 ·obtain⟨g,y,H,I,M⟩:=O r;have:=(lm z y (by omega)).trans (ni g.1 (dY n).1);exact⟨g,(this.1 g rfl).2 y,H,I,M⟩
 ·have u:=X r;obtain⟨⟨g,y,H,I,_⟩,_⟩:=z.doubts.1 d u;have:=(lm z y (by omega)).trans (ni g.1 (dY n).1);exact (this.2 d H.symm).2 u
theorem yj {n:aa}(h:UpN n){v inc:Int}(J:fu n v inc):fu (dG n) v inc:=by
 have r:=h.x.later;obtain⟨H,_,_⟩:=jP r h.self;obtain⟨g,u,I,z,y⟩:=yi (n:=cq n) r (v:=v) (inc:=inc) J;have:=(lm H u (by omega)).trans (ni g.1 (dY n).1);exact⟨g,(this.1 g rfl).2 u,I,z,y⟩
theorem ln {n:aa}(h:UpN n)(H:n.2.2.1=false)(X:aL n<=900000){d:aY}(I:d∈aa.doubts n):∀ j,j<=7->UpN (b8 n j)/\(b8 n j).2.2.1=false/\aL (b8 n j)=aL n+j /\
  ((d∈aa.doubts (b8 n j)/\(j=0\/eR (aL n+j) d.2.2.1 d.2.2.2.length=false))\/fu (b8 n j) d.1 d.2.1)
 |0,_=>⟨h,H,by simp[b8],.inl ⟨I,.inl rfl⟩⟩
 |j+1,hj=>by
  obtain⟨y,i2,R,M⟩:=ln h H X I j (by omega);obtain⟨O,_,Y⟩:=nZ y (by omega);have Z:aL (dG (b8 n j))=aL n+((j+1:Nat):Int):=by rw[(wn (b8 n j)).2.1,R];omega
  refine⟨O,Y.trans i2,Z,?_⟩;rcases M with ⟨u,_⟩|u
  ·obtain⟨z,J⟩:=ww y u;have e:aL (b8 n j)+1=aL n+((j+1:Nat):Int):=by omega
   rw[e]at z J;cases r:eR (aL n+((j+1:Nat):Int)) d.2.2.1 d.2.2.2.length with
   |true=>exact .inr (z r)
   |false=>exact .inl ⟨J r,.inr rfl⟩
  ·exact .inr (yj y u)
theorem wz {n:aa}(h:UpN n)(z:n.2.2.1=false)(H:aL n<=900000){d:aY}(y:d∈aa.doubts n):fu (b8 n 7) d.1 d.2.1:=by
 obtain⟨_,_,_,q⟩:=ln h z H y 7 (by omega);rcases q with ⟨_,q|q⟩|q
 ·cases q
 ·exfalso;obtain⟨_,⟨I,u⟩,r,_⟩:=h.x.doubts.1 d y;have r:1<=d.2.2.2.length:=List.length_pos_iff.2 r;have u:d.2.2.1<=aL n:=u;have q:¬ (aL n+((7:Nat):Int)-d.2.2.1>=if 6-(d.2.2.2.length:Int)+1<3 then 3 else 6-(d.2.2.2.length:Int)+1):=of_decide_eq_false q;split at q <;> omega
 ·exact q
theorem qN (K:Nat)(r:List Int)(hc:ya r)(y:1048577<K):Q229.f K (r,())=some ((true,()),()):=by
 simp only[Q229.f,Q229.pre,zc00556,zc3ec45];by_cases h:(r.length:Int)>1048576
 ·rw[decide_eq_true h];rfl
 rw[decide_eq_false h];simp only[cond_false];obtain⟨⟨⟨n,v,⟨⟩⟩,⟨⟩⟩,e0,O⟩:=wt K r hc y;have O:NS 9 n:=O;rw[e0];simp only[BV];obtain⟨⟨k,ok,⟨⟩⟩,s1,s2,s3,s4⟩:=sf K n v O.nb y;obtain⟨b,o1,o2,o3⟩:=un K n O.nb y;rw[s1,s2];simp only[BV];rw[o1,o2];simp only[rb,BV,bne_self_eq_false,beq_self_eq_true,cond_false,cond_true];cases ok with
 |false=>rfl
 |true =>
  obtain⟨hP,d,M,rfl⟩:=s4 rfl;simp only[BZ,cond_false];rcases Bool.eq_false_or_eq_true n.2.2.1 with I|I
  ·exact (congrArg (λb=>bif b then _ else _) I).trans rfl
  ·refine (congrArg (λb=>bif b then _ else _) I).trans ?_;simp only[cond_false];by_cases h9:n.2.2.2.2.2.1>900000
   ·rw[decide_eq_true h9];rfl
   rw[decide_eq_false h9];simp only[cond_false];have H:aL n<=900000:=Int.not_lt.1 h9;have Y:n.2.1=true:=by
    cases Y:n.2.1 with
    |true=>rfl
    |false =>
     have h6:=hP.2.2.2.2.2;rw[if_neg (by rw[Y];decide)]at h6;rw[pg n O.nb h6]at M;cases M
   have R:=UpN.of hP Y;obtain⟨⟨f,hf,f1,f2,f3⟩,_⟩:=R.x.doubts.1 d M;have hT:Q21.f K (aa.table n,d.1,())=some ((f,true,()),()):=by rw[<- f1];exact qd K R.x.table hf y
   refine (congrArg (λo=>BW o _) hT).trans ?_;simp only[BV];have hE:=ln R I H M;have hB:=wz R I H M;refine lL (k:=K) (step:=λrec a=>Q229.s0 K (r,()) rec a) 7 (λi=>(d.1,(i:Int),f.1,f.2.1,f.2.2.1,f.2.2.2,(b8 n i).1,(b8 n i).2.1,(b8 n i).2.2.1,(b8 n i).2.2.2.1,(b8 n i).2.2.2.2.1,(b8 n i).2.2.2.2.2.1,(b8 n i).2.2.2.2.2.2.1,(b8 n i).2.2.2.2.2.2.2.1,aa.table (b8 n i),aa.cast (b8 n i),
     (aa.probe (b8 n i)).1,(aa.probe (b8 n i)).2.1,(aa.probe (b8 n i)).2.2.1,(aa.probe (b8 n i)).2.2.2,aa.doubts (b8 n i),(aa.coord (b8 n i)).1,(aa.coord (b8 n i)).2.1,(aa.coord (b8 n i)).2.2.1,(aa.coord (b8 n i)).2.2.2,aa.places (b8 n i),aa.others (b8 n i))) (rb true) ?_ ?_ (by omega)
   ·intro rec i hi;obtain⟨u,i2,i3,_⟩:=hE i (by omega);simp only[Q229.s0,zc286a0,zc3ec45,zc43b32,zcp4];rw[decide_eq_true (by omega:(i:Int)<=6),aq i (by omega)];simp only[cond_true];exact (congrArg (λo=>BW o _) (wk K (b8 n i) 3 u.nb u i2 (by omega) y)).trans rfl
   ·intro rec;obtain⟨u,_⟩:=hE 7 (by omega);generalize b8 n 7=z at u hB ⊢;simp only[Q229.s0,zc286a0,zc3ec45,zc43b32,zcp4];rw[decide_eq_false (by omega:¬ ((7:Nat):Int)<=6)];simp only[cond_false];obtain⟨g,Z,g1,g2,g3⟩:=id hB;have X:Q21.f K (aa.table z,d.1,())=some ((g,true,()),()):=by rw[<- g1];exact qd K u.x.table Z y
    obtain⟨⟨k',J,⟨⟩⟩,t1,_,t4⟩:=wo K z d.1 u.nb y;refine (congrArg (λo=>BW o _) X).trans ?_;refine (congrArg (λo=>BW o _) t1).trans ?_;have a0:J=false:=by
     cases J with
     |false=>rfl
     |true=>obtain⟨_,e,he,e1⟩:=t4 rfl;exact absurd e1 (hB.no u.x e he)
    subst a0;show (bif g.2.2.1==3 then (bif g.2.1==f.2.1 then _ else _) else _)=_;rw[g2,g3,f3];simp only[beq_self_eq_true,cond_true];rfl
end Go.Proofs.YtaegajachoklkaaGreatEv
