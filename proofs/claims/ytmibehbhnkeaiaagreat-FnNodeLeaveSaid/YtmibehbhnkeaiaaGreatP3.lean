/- A tick, by the specification: what it comes to, and what is sent. -/
import Derived.Test.YtmibehbhnkeaiaaGreatP2
set_option linter.unusedVariables false
set_option linter.unusedSimpArgs false
open Bool renaming not_true->F5,false_eq_true->GG
open Int renaming toNat->FL,toNat_natCast->FN,eq_ofNat_of_zero_le->FV,toNat_zero->F2,tmod->F4,fdiv->F8,toNat_of_nonneg->GE,tmod_lt_of_pos->GF,tmod_nonneg->GL,tdiv->GM
open List renaming length->FM,mem_singleton->FO,length_set->FQ,length_append->FS,mem_append->FT,getElem_mem->FU,mem_of_mem_take->FW,mem_map->FX,length_take->FY,getElem_of_mem->FZ,mem_filter->F0,nil_append->F1,drop_zero->F3,length_drop->F9,length_map->GA,length_nil->GB,length_filter_le->GC,length_cons->GI,take_length->GJ,not_mem_nil->GK,mem_cons->GN
open Nat renaming le_succ_of_le->FJ,le_trans->FR,zero_le->F6,le_refl->F7,le_succ->GD
open Option renaming bind_some->FK,bind->FP
namespace Go.Proofs.YtmibehbhnkeaiaaGreatEv
open Go
theorem vN {n:aa}(h:∀ k,k<8->¬ iK n k):jA n=none:=by
 unfold jA;rw[List.find?_eq_none];intro x u;obtain⟨k,r,rfl⟩:=FX.1 u;have:=h k (by simpa using r);unfold iK at this;simpa using this
theorem vO {n:aa}{k:Nat}(y:k<8)(r:iK n k)(h:∀ j,j<k->¬ iK n j):jA n=some (cQ n k):=by
 unfold jA;rw[List.find?_map,List.find?_range_eq_some.2 ⟨?_,by simpa using y,λj u=>?_⟩]
 ·rfl
 ·unfold iK at r;simpa using r
 ·have:=h j u;unfold iK at this;simpa[Classical.or_iff_not_imp_left]using this
theorem wv (K:Nat)(n:aa)(h:cH n)(X:uu n)(J:1048577<K):Q91.f K (n,())=some (((d9 n).1,(d9 n).2,()),()):=by
 obtain⟨⟨Y,Z⟩,⟨t0,t1⟩⟩:=X;obtain⟨to,M,H⟩:=BI K n h t0 t1 J;simp only[Q91.f,zcp4];rw[M];simp only[FK,d9];by_cases r:kt n>=999999
 ·rw[decide_eq_true r,show decide (n.2.2.2.2.2.2.1>=999999)=true from decide_eq_true r];cases decide (to<0) <;> rfl
 ·rw[decide_eq_false r,show decide (n.2.2.2.2.2.2.1>=999999)=false from decide_eq_false r];simp only[cond_false];rcases H with ⟨rfl,z⟩|⟨k,O,u,y,rfl⟩
  ·rw[vN z];rfl
  ·rw[vO O u y];have R:0<=cQ n k/\cQ n k<8:=⟨GL _ (by omega),GF _ (by omega)⟩;rw[decide_eq_false (by omega:¬ cQ n k<0)];simp only[cond_false];rw[wo K n _ h J];simp only[FK];have I:wr .i64 (kt n+1)=kt n+1:=aC (by omega) (by omega);rw[show wr .i64 ((jz n).2.2.2.2.2.2.1+1)=n.2.2.2.2.2.2.1+1 from I,aC (n:=cQ n k+1) (by omega) (by omega)];simp only[Q22.f];rw[szb _ _ _ (by omega) (by have:=cf (o6 h (cQ n k));simp;omega)];rfl
def iL (w:aj):Prop:=InP w.2.2.2.1 0 7/\(aj.table w).length<=1048576
theorem uC {n:aa}(y:aE (aa.table n)):(dA n).2.length<=2/\∀ w∈(dA n).2,iL w:=by
 have r:([]:List aj).length<=2/\∀ w∈([]:List aj),iL w:=⟨by simp,by simp⟩;unfold dA;cases (aa.probe n).1==-1 with
 |true=>exact r
 |false =>
  cases !eZ (aT (aa.table n) (aa.probe n).1) with
  |true=>exact r
  |false =>
   cases decide (n.2.2.2.2.2.1-(aa.probe n).2.1>=4) with
   |true=>exact r
   |false =>
    cases decide (n.2.2.2.2.2.1-(aa.probe n).2.1>=2) with
    |false=>exact r
    |true =>
     cases !(aa.probe n).2.2.2 with
     |false=>exact r
     |true =>
      simp only[cond_true,cond_false];refine⟨by rw[GA];exact List.length_take_le _ _,λw H=>?_⟩;obtain⟨to,u,rfl⟩:=FX.1 H;obtain⟨f,z,rfl⟩:=FX.1 (FW u);exact⟨(y.1 f (F0.1 z).1).1,F6 _⟩
theorem Bd {n:aa}(h:cH n):(d9 n).2.length<=1/\∀ w∈(d9 n).2,iL w:=by
 have r:([]:List aj).length<=1/\∀ w∈([]:List aj),iL w:=⟨by simp,by simp⟩;unfold d9;cases decide (kt n>=999999) with
 |true=>exact r
 |false =>
  simp only[cond_false];cases H:jA n with
  |none=>exact r
  |some to =>
   refine⟨by simp,λw z=>?_⟩;rw[FO.1 z];obtain⟨u,y,I⟩:=eP h.table (iG (sA H).2);exact⟨y ▸ u.1,cf (o6 h to)⟩
theorem CI {n:aa}(z:dn n.1 (aa.others n)){s d:Int}(I:InP s 0 1):InP (m7 n s d) 0 7:=by
 unfold m7;cases y:decide (gr (fg (aa.others n) s)≠[])&&bz .i64 d 4==0 with
 |true =>
  rw[Bool.and_eq_true,decide_eq_true_eq]at y;have:=(iY (d:=F8 d (2 ^ 3)) y.1).2.2;unfold gr at this;obtain⟨f,H,e⟩:=FX.1 (FW this);simp only[cond_true];show InP (iu (gr (fg (aa.others n) s)) (F8 d (2 ^ 3))) 0 7;unfold gr;rw[<- e];exact ((qd z s).1 f (F0.1 H).1).1
 |false =>
  obtain⟨r,u⟩:=mt (a:=F8 d (2 ^ 3)) (m:=3) (by omega);have r:0<=bz .i64 (F8 d (2 ^ 3)) 3:=r;have u:bz .i64 (F8 d (2 ^ 3)) 3<=3:=u;obtain⟨J,M⟩:=I;simp only[cond_false];exact⟨by omega,by omega⟩
theorem ww {n:aa}(I:aE (aa.table n))(J:dn n.1 (aa.others n))(r:Int):(kR n r).length<=2/\∀ w∈kR n r,iL w:=by
 have u:([]:List aj).length<=2/\∀ w∈([]:List aj),iL w:=⟨by simp,by simp⟩;unfold kR;cases bz .i64 r 3==1 with
 |true =>
  simp only[cond_true,m8];cases mu n with
  |false=>exact u
  |true =>
   refine⟨?_,λw H=>?_⟩
   ·show ((([0,1]:List Int).filter (λs=>s != ak n.1)).map _).length<=2;rw[GA];exact GC _ _
   ·obtain⟨s,R,rfl⟩:=FX.1 H;refine⟨CI J ?_,cf I⟩;have:=(F0.1 R).1;simp at this;rcases this with rfl|rfl <;> exact⟨by decide,by decide⟩
 |false =>
  simp only[cond_false];by_cases y:fW n=[]
  ·rw[decide_eq_true y,Bool.or_true];exact u
  ·rw[decide_eq_false y,Bool.or_false];obtain⟨f,M,e⟩:=FX.1 (iY (d:=F8 r (2 ^ 2)) y).2.2;have z:InP (iu (fW n) (F8 r (2 ^ 2))) 0 7:=by
    rw[<- e];exact (I.1 f (F0.1 M).1).1
   cases bz .i64 r 3==3 with
   |true=>exact u
   |false =>
    simp only[cond_false];cases bz .i64 r 3==0 with
    |true=>exact⟨by simp,λw H=>by rw[FO.1 H];exact⟨z,cf I⟩⟩
    |false =>
     simp only[cond_false,ut]
     match O:aa.others n with
     |[]=>exact u
     |x::_=>exact⟨by simp,λw H=>by rw[FO.1 H];exact⟨z,cf (J.1 x (by rw[O];simp)).2.2.2.1⟩⟩
theorem UpX.far {n:aa}(h:UpX n):o7 n:=⟨by rcases uq h.me h.others with e|⟨x,e⟩ <;> rw[e] <;> simp,λx r=>⟨(h.others.1 x r).2.2.2.1,cf (h.others.1 x r).2.2.2.1⟩⟩
theorem sG {n:aa}(h:UpX n)(I:cg n<=1000000):((aa.probe n).1=-1\/0<=(aa.probe n).1)/\0<=(aa.probe n).2.1/\(aa.probe n).2.1<=1000000:=by
 have r:=h.probe;have y:cg n=n.2.2.2.2.2.1:=rfl;unfold dm at r;split at r
 ·rename_i H;rw[r];exact⟨.inl rfl,by show (0:Int)<=0;omega,by show (0:Int)<=1000000;omega⟩
 ·obtain⟨_,⟨f,u,e⟩,⟨z,J⟩,_⟩:=r;have:=(h.table.1 f u).1.1;exact⟨.inr (e ▸ this),z,by omega⟩
theorem CJ {n:aa}(h:UpN n)(H:cg n<999999)(r:Int):(qP n r).length<=5/\∀ w∈qP n r,iL w:=by
 have O:=(nZ h.x.later (show dt (eE n) from h.self)).1.table;obtain⟨y,J⟩:=uC O;obtain⟨M,_,_⟩:=qQ h H;have z:=(rN h H).1;obtain⟨X,I⟩:=ww z.x.table z.x.others r;have R:(fY (fZ n).1).2.length<=1/\∀ w∈(fY (fZ n).1).2,iL w:=by
  unfold fY;cases (aa.probe (fZ n).1).1==-1 with
  |true=>exact Bd M.x.say
  |false=>exact⟨by simp,by simp⟩
 unfold qP;have y:(fZ n).2.length<=2:=y;refine⟨by rw[FS,FS];omega,λw u=>?_⟩;rcases FT.1 u with u|u
 ·rcases FT.1 u with u|u
  ·exact J w u
  ·exact R.2 w u
 ·exact I w u
theorem CK (K:Nat)(n:aa)(H:Int)(h:UpN n)(hg:n.2.2.1=false)(hm:cg n<999999)(X:1048577<K):Q98.f K (n,H,())=some ((ly n,qP n H,()),()):=by
 have a3:=h.x.now0;simp only[Q98.f,zcp4];refine (congrArg (λb=>bif !b then _ else _) h.up).trans ?_;refine (congrArg (λb=>bif b then _ else _) hg).trans ?_;refine (congrArg (λb=>bif b then _ else _) (decide_eq_false (show ¬ n.2.2.2.2.2.1>=999999 by have:cg n=n.2.2.2.2.2.1:=rfl;omega))).trans ?_;simp only[cond_false];rw[show wr .i64 (n.2.2.2.2.2.1+1)=n.2.2.2.2.2.1+1 from aC (by have:cg n=n.2.2.2.2.2.1:=rfl;omega) (by have:cg n=n.2.2.2.2.2.1:=rfl;omega)];have hl:UpX (eE n):=h.x.later;have a1:∀ d∈aa.doubts (eE n),0<=d.2.2.1/\d.2.2.1<=(eE n).2.2.2.2.2.1/\d.2.2.2.length<=1048576:=λd hd=>by
  obtain⟨_,⟨s0,s1⟩,_,h4⟩:=hl.doubts.1 d hd;exact⟨s0,s1,FR (jx (k:=λx=>x) h4.2 λx hx=>(h4.1 x hx).1) (by decide)⟩
 have Y:∀ d∈aa.doubts (eE n),∃ f∈aa.table (eE n),f.1=d.1:=λd hd=>by
  obtain⟨⟨f,hf,e,_⟩,_⟩:=hl.doubts.1 d hd;exact⟨f,hf,e⟩
 have Z:(eE n).2.2.2.2.2.1<=1000000:=by show cg n+1<=1000000;omega
 refine (congrArg (λo=>FP o _) (Ct K (eE n) ⟨hl.say,Y,rfl⟩ a1 Z X)).trans ?_;simp only[FK];obtain⟨b1,b2,t,c,ds,eb⟩:=nZ hl (show dt (eE n) from h.self);have z:uu (fZ n).1:=(qQ h hm).1.seq;have a2:cg (la (eE n))=cg n+1:=by rw[eb];rfl
 have hp:=sG b1 (by omega);obtain⟨a0,_⟩:=uC b1.table;have R:=(rN h hm).1;have r:=CC K (ly n) H R.x.far R.x.table (cf R.x.table) X;have u:=(qQ h hm).1;obtain⟨I,_⟩:=Bd u.x.say;obtain⟨y,_⟩:=ww R.x.table R.x.others H;unfold ly fY fZ at r R y;unfold fZ at z u I;unfold qP ly fY fZ;generalize la (eE n)=m at *;rcases hp.1 with J|J
 ·have e0:dA m=(m,[]):=by unfold dA;rw[show ((aa.probe m).1==-1)=true by simpa using J];rfl
  rw[e0]at r z u I y ⊢;refine (congrArg (λb=>bif b then _ else _) (decide_eq_false (show ¬ m.2.2.2.2.2.2.2.2.2.2.1.1>=0 by have:(aa.probe m).1=m.2.2.2.2.2.2.2.2.2.2.1.1:=rfl;omega))).trans ?_;refine (congrArg (λb=>bif b then _ else _) (decide_eq_true (show m.2.2.2.2.2.2.2.2.2.2.1.1<0 by have:(aa.probe m).1=m.2.2.2.2.2.2.2.2.2.2.1.1:=rfl;omega))).trans ?_;refine (congrArg (λo=>FP o _) (wv K m u.x.say z X)).trans ?_;simp only[FK];rw[show ((aa.probe m).1==-1)=true by simpa using J]at r y ⊢;simp only[cond_true]at r y I ⊢;rw[szw _ _ _ (by omega) (by simp;omega)];simp only[cond_true];refine (congrArg (λo=>FP o _) r).trans ?_;simp only[FK];rw[szw _ _ _ (by omega) (by simp;omega)];rfl
 ·refine (congrArg (λb=>bif b then _ else _) (decide_eq_true (show m.2.2.2.2.2.2.2.2.2.2.1.1>=0 from J))).trans ?_;refine (congrArg (λo=>FP o _) (Cu K m b1.say (by omega) hp.2.1 hp.2.2 b1.now0 (by have:cg m=m.2.2.2.2.2.1:=rfl;omega) X)).trans ?_;simp only[FK];generalize dA m=fo at *;obtain⟨O,ws⟩:=fo;simp only at r z u I y a0 ⊢;have M:=(sG u.x (by have:=u.now1;omega)).1;rcases M with M|M
  ·refine (congrArg (λb=>bif b then _ else _) (decide_eq_true (show O.2.2.2.2.2.2.2.2.2.2.1.1<0 by have:(aa.probe O).1=O.2.2.2.2.2.2.2.2.2.2.1.1:=rfl;omega))).trans ?_;refine (congrArg (λo=>FP o _) (wv K O u.x.say z X)).trans ?_;simp only[FK];rw[show ((aa.probe O).1==-1)=true by simpa using M]at r y ⊢;simp only[cond_true]at r y ⊢;rw[szw _ _ _ (by omega) (by omega)];simp only[cond_true];refine (congrArg (λo=>FP o _) r).trans ?_;simp only[FK];rw[szw _ _ _ (by omega) (by rw[FS];omega)];rfl
  ·refine (congrArg (λb=>bif b then _ else _) (decide_eq_false (show ¬ O.2.2.2.2.2.2.2.2.2.2.1.1<0 by have:(aa.probe O).1=O.2.2.2.2.2.2.2.2.2.2.1.1:=rfl;omega))).trans ?_;rw[show ((aa.probe O).1==-1)=false by simp;omega]at r y ⊢;simp only[cond_false]at r y ⊢;refine (congrArg (λo=>FP o _) r).trans ?_;simp only[FK,List.append_nil];rw[szw _ _ _ (by omega) (by omega)];rfl
theorem uD (K:Nat)(l:List ah)(f:ah)(M:l.length<=1048576)(J:1048577<K):Ret (Q78.f K (l,f,())) (f∈l):=by
 have:=cG (step:=λrec a=>Q78.s0 K (l,f,()) rec a) l.length (λi=>(i:Int)) (λj=>∃ h:j<l.length,l[j]=f) (rb false) (λ_=>rb true) ?_ ?_ l.length K 0 (by omega) (by omega)
 ·rcases this with ⟨y,r⟩|⟨j,_,_,⟨z,H⟩,_,r⟩
  ·refine⟨false,r,?_⟩;refine⟨λh=>absurd h (by decide),λI=>?_⟩;obtain⟨i,u,e⟩:=FZ I;exact absurd ⟨u,e⟩ (y i (F6 _) u)
  ·exact⟨true,r,λ_=>H ▸ FU z,λ_=>rfl⟩
 ·intro rec i u;simp only[Q78.s0];rw[bt (by omega:(i:Int)<(FM l:Int)),af u,ar i (by omega)];simp only[cond_true,FK];rw[iE];by_cases h:l[i]=f
  ·rw[decide_eq_true h];exact .inr ⟨⟨u,h⟩,rfl⟩
  ·rw[decide_eq_false h];exact .inl ⟨λ⟨_,r⟩=>h r,rfl⟩
 ·intro rec;simp only[Q78.s0,aS];rfl
theorem UpN.nb {n:aa}(h:UpN n):NB n where
 table:=cf h.x.table
 cast:=by have:=clen h.x.say;omega
 doubts:=h.x.say.ld
 by_:=λd r=>by have:=(h.learns.by_ d r).len;omega
 places:=plen h.x.places
 trips:=λp u=>by have:=(h.x.places.1 p u).2.2.2.2.1.2;omega
 others:=olen h.x.others
 facts:=λx y=>cf (h.x.others.1 x y).2.2.2.1
def ka (r:Int)(g:Bool):aa:=(r,false,false,g,0,0,0,0,[],[],(0,0,0,false),[],(0,0,0,0),[],[])
structure eN (i:Nat) (n:aa):Prop where
 me:n.1=(i:Int)
 lt:i<8
 up:n.2.1=true->UpN n
 down:n.2.1=false->n=ka n.1 n.2.2.2.1
theorem eN.nb {i:Nat}{n:aa}(h:eN i n):NB n:=by
 cases r:n.2.1 with
 |true=>exact (h.up r).nb
 |false =>
  rw[h.down r];exact⟨by simp[ka,aa.table],by simp[ka,aa.cast],by simp[ka,aa.doubts],by simp[ka,aa.doubts],by simp[ka,aa.places],by simp[ka,aa.places],by simp[ka,aa.others],by simp[ka,aa.others]⟩
theorem eN.short {i:Nat}{n:aa}(h:eN i n):(aa.table n).length<=4:=by
 cases r:n.2.1 with
 |true=>exact vK (h.up r).x.table (h.up r).x.site
 |false=>rw[h.down r];exact F6 _
theorem eN.of {i:Nat}{n m:aa}(h:eN i n)(r:UpN m)(e:m.1=n.1):eN i m:=⟨e.trans h.me,h.lt,λ_=>r,λu=>by rw[r.up]at u;cases u⟩
def gC (l:List mr):Prop:=l.length<=60/\∀ f∈l,InP f.1 0 7/\f.2.1.size<=2000
structure WI (w:bY) (c:Nat):Prop where
 len:w.1.length=8
 node:∀ (i:Nat) (h:i<w.1.length),eN i w.1[i]
 radio:gC w.2.1
 sides:w.2.2.1.length=8
 born:w.2.2.2.length<=c
theorem WI.mono {w:bY}{c d:Nat}(h:WI w c)(r:c<=d):WI w d:=⟨h.len,h.node,h.radio,h.sides,FR h.born r⟩
theorem WI.put {w:bY}{c:Nat}(h:WI w c){i:Nat}{n:aa}(y:eN i n){rd:List mr}(z:gC rd){b:List ah}{d:Nat}(r:b.length<=d):WI (w.1.set i n,rd,w.2.2.1,b) d:=by
 refine⟨by rw[FQ];exact h.len,λj u=>?_,z,h.sides,r⟩;show eN j ((w.1.set i n)[j]'u);rw[List.getElem_set];split
 ·rename_i e;exact e ▸ y
 ·exact h.node j _
theorem yY (K:Nat)(w:bY)(J:Int)(u:List aj)(hs:w.2.2.1.length=8)(y:InP J 0 7)(R:∀ x∈u,iL x)(hr:gC w.2.1)(hl:u.length<=1000)(hK:1048577<K) :
  Tot (Q75.f K (w,J,u,())) λr=>∃ rd,gC rd/\r.1.1=(w.1,rd,w.2.2):=by
 simp only[Q75.f,Q75.pre];obtain⟨f0,f1⟩:=y;refine Tot.iter (step:=λrec a=>Q75.s0 K (w,J,u,()) rec a) (λa=>0<=a.1/\a.1<=u.length/\gC a.2) (λa=>u.length-a.1.toNat) ?_ K _ (by show u.length-FL 0<K;omega) ⟨by show (0:Int)<=0;omega,by show (0:Int)<=_;omega,hr⟩;rintro rec ⟨i,rd⟩ ⟨I,h1,H⟩ ih;simp only at I h1 H ih ⊢;simp only[Q75.s0];refine Tot.cnd (λh=>?_) λ_=>Tot.ret ⟨rd,H,rfl⟩
 have h:=of_decide_eq_true h;rw[aC (n:=i+1) (by omega) (by omega)];have M:∀ z,gC z->Tot (rec (i+1,z)) λr=>∃ rd,gC rd/\r.1.1=(w.1,rd,w.2.2):=λz O=>ih _ ⟨by show 0<=i+1;omega,by show i+1<=_;omega,O⟩ (by show u.length-FL (i+1)<u.length-FL i;omega)
 refine Tot.cnd (λh3=>?_) λ_=>M rd H
 have h3:=of_decide_eq_true h3;refine Tot.ix f0 (by omega) λ_ _ _=>Tot.ix I h λy2 X _=>?_
 obtain⟨⟨t0,t1⟩,_⟩:=R y2 X;refine Tot.ix t0 (by omega) λ_ _ _=>Tot.cnd (λ_=>Tot.fit (Tot.ix I h λy4 Y _=>Tot.ix I h λy5 Z _=>Tot.bind (pz K y5 (R y5 Z).2 hK) λv hv=>Tot.fit (M _ ⟨?_,λf y=>?_⟩) (by omega) ?_) (by omega) ?_) λ_=>M rd H
 ·simp;omega
 ·rcases FT.1 y with y|y
  ·exact H.2 f (by simpa using y)
  ·rw[FO.1 y];exact⟨(R y4 Y).1,by show v.1.1.size<=2000;have:=hv.1;omega⟩
 ·simp;omega
 ·simp;omega
theorem Tot.ins {α:Type}{l:List α}{x:α}{a:Int}{c:Nat}{Q:(List α×Unit)×Unit->Prop}(u:0<=a)(y:a<=l.length)(H:l.length<=1048576)(z:c<=64)(k:∀ r:List α,r.length=l.length+1->Q ((r,()),())) :
  Tot (bif decide ((0:Int)<=0)&&decide (0<=a)&&decide (a<=(FM l:Int))&&true then (bif decide ((FM ([]:List α)+FM ((l.take (FL a)).drop (FL 0)))*c<=am) then (bif decide ((FM ([]++((l.take (FL a)).drop (FL 0)))+FM ([x]))*c<=am) then (bif decide (0<=a)&&decide (a<=(FM l:Int))&&decide ((FM l:Int)<=(FM l:Int))&&true then (bif decide ((FM (([]++((l.take (FL a)).drop (FL 0)))++([x]))+FM ((l.take (FL (FM l:Int))).drop (FL a)))*c<=am) then (some (((([]++((l.take (FL a)).drop (FL 0)))++([x]))++((l.take (FL (FM l:Int))).drop (FL a)),()),())) else none) else none) else none) else none) else none) Q:=by
 obtain⟨m,rfl⟩:=FV u;refine Tot.must (by simp;omega) (Tot.fit (Tot.fit (Tot.must (by simp;omega) (Tot.fit (Tot.ret (k _ ?_)) (by omega) ?_)) (by omega) ?_) (by omega) ?_) <;>
 simp only[FN,F2,F3,F1,FS,FY,F9,GI,GB] <;> omega
theorem Av (K:Nat)(f g:ah):Tot (Q76.f K (f,g,())) λ_=>True:=by
 simp only[Q76.f];exact Tot.cnd (λ_=>Tot.ret trivial) λ_=>Tot.bind (tZ K g f).tot λ_ _=>Tot.ret trivial
theorem yZ (K:Nat)(l:List ah)(f:ah)(I:l.length<=1048576)(O:1048577<K):Tot (Q77.f K (l,f,())) λr=>r.1.1.length<=l.length+1:=by
 simp only[Q77.f,Q77.pre];refine Tot.iter (A:=Int) (step:=λrec a=>Q77.s0 K (l,f,()) rec a) (λa=>0<=a/\a<=l.length) (λa=>l.length-a.toNat) ?_ K _ (by show l.length-FL 0<K;omega) ⟨by show (0:Int)<=0;omega,by show (0:Int)<=_;omega⟩;rintro rec i ⟨H,z⟩ J;simp only[Q77.s0];have u:=λ (z:i<=l.length)=>Tot.ins (x:=f) (c:=32) (Q:=λr=>r.1.1.length<=l.length+1) H z I (by omega) λr R=>by show r.length<=_;omega
 have y:l.length<=l.length+1:=GD _;refine Tot.cnd (λh=>?_) λ_=>Tot.cnd (λh=>Tot.ix H (of_decide_eq_true h) λ_ _ _=>Tot.cnd (λ_=>Tot.ret y) λ_=>u z) λ_=>u z
 have h:i<(l.length:Int):=of_decide_eq_true h;rw[aC (n:=i+1) (by omega) (by omega)];refine Tot.ix H h λM _ _=>Tot.bind (Av K M f) λ_ _=>Tot.cnd (λ_=>J (i+1) ⟨by show 0<=i+1;omega,by show i+1<=(l.length:Int);omega⟩ (by show l.length-FL (i+1)<l.length-FL i;omega)) λ_=>Tot.cnd (λ_=>Tot.ix H h λ_ _ _=>Tot.cnd (λ_=>Tot.ret y) λ_=>u z) λ_=>u z
theorem Be (K:Nat)(w:bY)(z y u:List ah)(R:z.length<=1048576)(X:y.length<=1048576)(h3:u.length<=100)(hb:w.2.2.2.length<=1000000)(M:1048577<K) :
  Tot (Q79.f K (w,z,y,u,())) λr=>∃ b,b.length<=w.2.2.2.length+u.length/\r.1.1=(w.1,w.2.1,w.2.2.1,b):=by
 simp only[Q79.f,Q79.pre];refine Tot.iter (step:=λrec a=>Q79.s0 K (w,z,y,u,()) rec a) (λa=>0<=a.1/\a.1<=u.length/\(a.2.length:Int)<=w.2.2.2.length+a.1) (λa=>u.length-a.1.toNat) ?_ K _ (by show u.length-FL 0<K;omega) ⟨by show (0:Int)<=0;omega,by show (0:Int)<=_;omega,by show (w.2.2.2.length:Int)<=w.2.2.2.length+0;omega⟩;rintro rec ⟨i,b⟩ ⟨I,i1,i2⟩ O;simp only at I i1 i2 O ⊢;simp only[Q79.s0];refine Tot.cnd (λh=>?_) λ_=>Tot.ret ⟨b,by omega,rfl⟩
 have h:=of_decide_eq_true h;rw[aC (n:=i+1) (by omega) (by omega)];have J:∀ H:List ah,H.length<=b.length+1->Tot (rec (i+1,H)) λr=>∃ b,b.length<=w.2.2.2.length+u.length/\r.1.1=(w.1,w.2.1,w.2.2.1,b):=λH Y=>O _ ⟨by show 0<=i+1;omega,by show i+1<=_;omega,by show (H.length:Int)<=_+(i+1);omega⟩ (by show u.length-FL (i+1)<u.length-FL i;omega)
 refine Tot.ix I h λy1 _ _=>Tot.bind (uD K z y1 R M).tot λ_ _=>Tot.cnd (λ_=>?_) λ_=>J b (GD _)
 refine Tot.ix I h λy3 _ _=>Tot.bind (uD K y y3 X M).tot λ_ _=>Tot.cnd (λ_=>?_) λ_=>J b (GD _)
 exact Tot.ix I h λy5 _ _=>Tot.bind (yZ K b y5 (by omega) M) λv Z=>J v.1.1 Z
structure Bf (w:bY) (i:Nat) (n:aa) (ws:List aj) (heard:List ah) (c:Nat):Prop where
 wi:WI w c
 lt:i<8
 n:eN i n
 sent:∀ x∈ws,iL x
 wl:ws.length<=1000
 hl:heard.length<=1048576
 c:c<=1000000
theorem set_t (K:Nat)(w:bY)(i:Nat)(n:aa)(H:List aj)(u:List ah)(c:Nat)(h:Bf w i n H u c)(I:1048577<K):Tot (Q80.f K ((w,i),n,H,u,())) λr=>WI r.1.1 (c+4):=by
 simp only[Q80.f];have z:i<w.1.length:=by rw[h.wi.len];exact h.lt
 have O:=h.c;have M:=h.wi.born;have J:=h.n.short;rw[h.n.me];refine Tot.vl (af z) (Tot.vl (by rw[FN];exact af z) (Tot.vl (af z) (Tot.vl (by rw[FN];exact af z) ?_)));refine Tot.must (by simp) ?_;rw[FN];refine Tot.bind (Be K (w.1.set i n,w.2) (aa.table w.1[i]) u (aa.table n) (h.wi.node i z).nb.table h.hl (by omega) (by show w.2.2.2.length<=_;omega) I) ?_;rintro⟨⟨v,⟨⟩⟩,⟨⟩⟩ ⟨b,y,rfl⟩;refine Tot.bind (yY K (w.1.set i n,w.2.1,w.2.2.1,b) (i:Int) H h.wi.sides ⟨by omega,by have:=h.lt;omega⟩ h.sent h.wi.radio h.wl I) ?_;rintro⟨⟨v,⟨⟩⟩,⟨⟩⟩ ⟨rd,hr,rfl⟩;have y:b.length<=w.2.2.2.length+(aa.table n).length:=y;exact Tot.ret (h.wi.put h.n hr (by omega))
theorem CL (K:Nat)(w:bY)(i:Nat)(n:aa)(H:List aj)(u:List ah)(c:Nat)(h:Bf w i n H u c)(I:1048577<K):Tot (Q100.f K (w,n,H,u,())) λr=>WI r.1.1 (c+4):=by
 simp only[Q100.f];have z:i<w.1.length:=by rw[h.wi.len];exact h.lt
 have O:=h.c;have M:=h.wi.born;have J:=h.n.short;rw[h.n.me];refine Tot.vl (af z) (Tot.vl (by rw[FN];exact af z) (Tot.vl (af z) (Tot.vl (by rw[FN];exact af z) ?_)));rw[FN];refine Tot.bind (Be K (w.1.set i n,w.2) (aa.table w.1[i]) u (aa.table n) (h.wi.node i z).nb.table h.hl (by omega) (by show w.2.2.2.length<=_;omega) I) ?_;rintro⟨⟨v,⟨⟩⟩,⟨⟩⟩ ⟨b,y,rfl⟩;refine Tot.bind (yY K (w.1.set i n,w.2.1,w.2.2.1,b) (i:Int) H h.wi.sides ⟨by omega,by have:=h.lt;omega⟩ h.sent h.wi.radio h.wl I) ?_;rintro⟨⟨v,⟨⟩⟩,⟨⟩⟩ ⟨rd,hr,rfl⟩;have y:b.length<=w.2.2.2.length+(aa.table n).length:=y;exact Tot.ret (h.wi.put h.n hr (by omega))
theorem sH (K:Nat)(l:List mr)(at_:Int)(z:0<=at_)(H:at_<l.length)(y:gC l):Tot (Q74.f K (l,at_,())) λr=>gC r.1.1:=by
 have I:=y.1;obtain⟨m,rfl⟩:=FV z;simp only[Q74.f];rw[ar m (by omega)];refine Tot.must (by simp;omega) (Tot.fit (Tot.must (by simp;omega) (Tot.fit (Tot.ret ⟨?_,λf u=>y.2 f ?_⟩) (by omega) ?_)) (by omega) ?_)
 ·simp only[FN,F2,F3,F1,FS,FY,F9];omega
 ·simp only[FN,F2,F3,F1,GJ]at u;rcases FT.1 u with u|u
  ·exact FW u
  ·exact List.mem_of_mem_drop u
 ·simp only[FN,F2,F3,F1,FS,FY,F9];omega
 ·simp only[FN,F2,F3,F1,FY,GB];omega
theorem sI (K:Nat)(w:bY)(c:Nat)(h:WI w c)(Z:c<=1000000)(to:Int)(t0:0<=to)(t1:to<=7)(x:aj)(X:dz x)(H:1048577<K){G:aa->aa->Option ((bY×Unit)×Unit)}
  (Y:∀ y:aa,G y y=(Q56.f K (y,x,())).bind λI=>(Q80.f K ((w,FL to),I.1.1,I.1.2.1,aj.table x,())).bind λR=>some ((R.1.1,()),())) :
  Tot ((idx w.1 to).bind λ_=>(idx w.1 (FL to:Nat)).bind λM=>(idx w.1 (FL to:Nat)).bind λO=>G M O) λr=>WI r.1.1 (c+4):=by
 obtain⟨i,rfl⟩:=FV t0;have J:i<w.1.length:=by rw[h.len];omega
 have z:=h.node i J;refine Tot.vl (af J) (Tot.vl (by rw[FN];exact af J) (Tot.vl (by rw[FN];exact af J) ?_));rw[Y,yX K w.1[i] x z.up (cf X.2.2.2.2.2.2.2.1) H];simp only[FK,FN];refine Tot.bind (set_t K w i _ _ _ c ⟨h,z.lt,?_,?_,?_,cf X.2.2.2.2.2.2.2.1,Z⟩ H) λv hv=>Tot.ret hv
 ·cases u:w.1[i].2.1 with
  |true=>exact z.of (rS (z.up u) H).1 (rS (z.up u) H).2.1
  |false =>
   rw[show bO K w.1[i] x=(w.1[i],[]) by unfold bO;rw[if_neg λh=>by have:=h.2.1;rw[u]at this;cases this]];exact z
 ·cases u:w.1[i].2.1 with
  |true=>exact λy hy=>(nf (z.up u) H).2 y hy
  |false =>
   rw[show bO K w.1[i] x=(w.1[i],[]) by unfold bO;rw[if_neg λh=>by have:=h.2.1;rw[u]at this;cases this]];simp
 ·cases u:w.1[i].2.1 with
  |true=>have:=(nf (w:=x) (z.up u) H).1;omega
  |false =>
   rw[show bO K w.1[i] x=(w.1[i],[]) by unfold bO;rw[if_neg λh=>by have:=h.2.1;rw[u]at this;cases this]];simp
theorem BS (K:Nat)(w:bY)(c:Nat)(h:WI w c)(hc:c<=1000000)(at_:Int)(keep:Bool)(h0:0<=at_)(h1:at_<w.2.1.length)(X:1048577<K):Tot (Q81.f K (w,at_,keep,())) λr=>WI r.1.1 (c+4):=by
 simp only[Q81.f,zcp8];refine Tot.ix2 h0 h1 λf hf _=>?_
 obtain⟨⟨t0,t1⟩,a0⟩:=h.radio.2 f hf;have hs:=h.sides;refine Tot.cnd (λ_=>Tot.bind (sH K w.2.1 at_ h0 h1 h.radio) ?_) λ_=>Tot.bind (na K f.2.1 (by omega) X) ?_
 ·rintro⟨⟨rd,⟨⟩⟩,⟨⟩⟩ hr;have J:WI (w.1,rd,w.2.2) (c+4):=⟨h.len,h.node,hr,h.sides,FR h.born (by omega)⟩;refine Tot.bind (na K f.2.1 (by omega) X) ?_;rintro⟨⟨(x:aj),ok,⟨⟩⟩,⟨⟩⟩ H;refine Tot.cnd (λ_=>Tot.ret J) λZ=>?_
  have H:dz x:=H (by simpa using Z);obtain⟨I,Y⟩:=H.2.2.1;have M:x.2.2.1<(w.2.2.1.length:Int):=by rw[hs];omega
  refine Tot.ix2 I M λ_ _ _=>Tot.ix2 t0 (by omega) λ_ _ _=>Tot.cnd (λ_=>Tot.ret J) λ_=>Tot.cnd (λ_=>Tot.ret J) λ_=>?_
  exact sI K (w.1,rd,w.2.2) c ⟨h.len,h.node,hr,h.sides,h.born⟩ hc f.1 t0 t1 x H X (G:=λu O=>(Q56.f K ((u.1,(u.2.1,(u.2.2.1,(u.2.2.2.1,(u.2.2.2.2.1,(u.2.2.2.2.2.1,(u.2.2.2.2.2.2.1,(u.2.2.2.2.2.2.2.1,(u.2.2.2.2.2.2.2.2.1,(u.2.2.2.2.2.2.2.2.2.1,(u.2.2.2.2.2.2.2.2.2.2.1,(O.2.2.2.2.2.2.2.2.2.2.2.1,u.2.2.2.2.2.2.2.2.2.2.2.2)))))))))))),x,())).bind λz=>(Q80.f K (((w.1,rd,w.2.2),FL f.1),z.1.1,z.1.2.1,aj.table x,())).bind λR=>some ((R.1.1,()),())) λy=>rfl
 ·rintro⟨⟨(x:aj),ok,⟨⟩⟩,⟨⟩⟩ H;have J:WI w (c+4):=h.mono (by omega);refine Tot.cnd (λ_=>Tot.ret J) λZ=>?_
  have H:dz x:=H (by simpa using Z);obtain⟨I,Y⟩:=H.2.2.1;have M:x.2.2.1<(w.2.2.1.length:Int):=by rw[hs];omega
  refine Tot.ix2 I M λ_ _ _=>Tot.ix2 t0 (by omega) λ_ _ _=>Tot.cnd (λ_=>Tot.ret J) λ_=>Tot.cnd (λ_=>Tot.ret J) λ_=>?_
  exact sI K w c h hc f.1 t0 t1 x H X (G:=λu O=>(Q56.f K ((u.1,(u.2.1,(u.2.2.1,(u.2.2.2.1,(u.2.2.2.2.1,(u.2.2.2.2.2.1,(u.2.2.2.2.2.2.1,(u.2.2.2.2.2.2.2.1,(u.2.2.2.2.2.2.2.2.1,(u.2.2.2.2.2.2.2.2.2.1,(u.2.2.2.2.2.2.2.2.2.2.1,(O.2.2.2.2.2.2.2.2.2.2.2.1,u.2.2.2.2.2.2.2.2.2.2.2.2)))))))))))),x,())).bind λz=>(Q80.f K (((w.1,w.2),FL f.1),z.1.1,z.1.2.1,aj.table x,())).bind λR=>some ((R.1.1,()),())) λy=>rfl
theorem BT (K:Nat)(w:bY)(c:Nat)(h:WI w c)(at_ u:Int)(M:0<=at_)(O:at_<w.2.1.length):Tot (Q82.f K (w,at_,u,())) λr=>WI r.1.1 c:=by
 simp only[Q82.f];refine Tot.ix2 M O λf Z _=>?_
 obtain⟨J,I⟩:=h.radio.2 f Z;refine Tot.cnd (λ_=>Tot.ret h) λ_=>Tot.cnd (λ_=>Tot.ret h) λY=>?_
 have H:¬ (f.2.1.size:Int)=0:=by simpa using Y
 obtain⟨y,b1⟩:=mt (a:=u) (m:=4095) (by omega);have y:0<=bz .i64 u 4095:=y;have R:0<=F4 (bz .i64 u 4095) (f.2.1.size:Int):=GL _ y;have X:F4 (bz .i64 u 4095) (f.2.1.size:Int)<((eS f.2.1).length:Int):=by rw[sD];exact GF _ (by omega)
 refine Tot.not (decide_eq_false H) (Tot.ix2 R X λ_ _ _=>Tot.ix2 R X λ_ _ _=>Tot.ix2 M O λ_ _ _=>Tot.ret ⟨h.len,h.node,⟨?_,λg z=>?_⟩,h.sides,h.born⟩)
 ·show (w.2.1.set _ _).length<=60;rw[FQ];exact h.radio.1
 ·rcases List.mem_or_eq_of_mem_set z with z|rfl
  ·exact h.radio.2 g z
  ·refine⟨J,?_⟩;show (ip _).size<=2000;rw[jB,FQ,sD];exact I
def ng (i:Int)(g:Bool):aa:=(i,true,false,g,0,0,0,0,[(i,0,1,g)],[],(-1,0,0,false),[],(0,0,0,1500),[],[])
theorem BU {i:Int}{g:Bool}(h:InP i 0 7):UpN (ng i g):=by
 refine⟨⟨h,Int.le_refl _,⟨λf r=>?_,List.pairwise_singleton _ _⟩,λf r=>?_,⟨λx y=>(nomatch y),List.Pairwise.nil⟩,λx y=>(nomatch y),?_,⟨λd z=>(nomatch z),List.Pairwise.nil,rfl⟩,⟨?_,?_,?_,?_⟩,⟨λp u=>(nomatch u),List.Pairwise.nil⟩,⟨λp u=>(nomatch u),List.Pairwise.nil⟩⟩,?_,?_,⟨?_,?_⟩,?_,rfl⟩
 ·rw[FO.1 r];exact⟨h,⟨by show (0:Int)<=0;omega,by show (0:Int)<=999;omega⟩,by show (1:Int)<=1;omega,by show (1:Int)<=4;omega⟩
 ·rw[FO.1 r];rfl
 ·unfold dm;rw[if_pos (show (aa.probe (ng i g)).1=-1 from rfl)];rfl
 ·exact⟨by show (-100000:Int)<=0;omega,by show (0:Int)<=100000;omega⟩
 ·exact⟨by show (-100000:Int)<=0;omega,by show (0:Int)<=100000;omega⟩
 ·exact⟨by show (0:Int)<=0;omega,by show (0:Int)<=100000;omega⟩
 ·exact⟨by show (1:Int)<=1500;omega,by show (1500:Int)<=1500;omega⟩
 ·exact FO.2 rfl
 ·show (0:Int)<=999999;omega
 ·exact⟨by show (0:Int)<=0;omega,by show (0:Int)<=999999;omega⟩
 ·exact⟨by show (0:Int)<=0;omega,by show (0:Int)<=8;omega⟩
 ·exact⟨by show (0:Int)<=0;omega,by show (0:Int)<=999;omega⟩
theorem sJ (K:Nat)(i:Int)(g:Bool)(h:InP i 0 7):Q12.f K (i,g,())=some ((ng i g,()),()):=by
 simp only[Q12.f];obtain⟨b,e,r⟩:=cK K i 0 7;rw[e,r.2 h];rfl
theorem eN.new (i:Nat)(g:Bool)(h:i<8):eN i (ng (i:Int) g):=⟨rfl,h,λ_=>BU ⟨by omega,by omega⟩,λr=>by cases r⟩
theorem CM (K:Nat)(w:bY)(c:Nat)(h:WI w c)(M:c<=1000000)(u:Int)(y:InP u 0 7)(H:1048577<K):Tot (Q102.f K (w,u,())) λr=>WI r.1.1 (c+4):=by
 have J:=h.born;have I:u.toNat<8:=by obtain⟨a,b⟩:=y;omega
 have z:=h.len;simp only[Q102.f,Q13.f,FK];rw[sJ K u _ y];simp only[FK];refine Tot.ix2 y.1 (by have:=y.2;omega) λ_ _ _=>?_
 refine Tot.vl (show idx (ng u (decide (F4 u 4<3))).2.2.2.2.2.2.2.2.1 0=some (u,0,1,decide (F4 u 4<3)) from rfl) (Tot.bind (yZ K w.2.2.2 _ (by omega) H) λv O=>Tot.ret (h.put ?_ h.radio (by omega)));have:=eN.new u.toNat (decide (F4 u 4<3)) I
 rwa [GE y.1]at this
theorem BV (K:Nat)(n:aa)(w:aj)(hn:NB n)(u:(aj.table w).length<=1048576)(r:1048577<K):Ret (Q166.f K (n,w,())) (ff n/\dz w/\ge n w):=by
 obtain⟨O,e1,J⟩:=p8 K n hn r;obtain⟨R,e2,M⟩:=ub K w u r;simp only[Q166.f];rw[e1];cases O with
 |false=>exact⟨false,rfl,by simp only[GG,false_iff];exact λh=>by have:=J.2 h.1;cases this⟩
 |true =>
  simp only[rb,FK,F5,cond_false];rw[e2];cases R with
  |false=>exact⟨false,rfl,by simp only[GG,false_iff];exact λh=>by have:=M.2 h.2.1;cases this⟩
  |true =>
   have hP:=J.1 rfl;have I:=M.1 rfl;simp only[rb,FK,F5,cond_false];obtain⟨X,h3,y⟩:=(eo K (aj.table w) (ak n.1) u r).same (gq K (aj.table w) (ak n.1) u r) Iff.rfl;obtain⟨Y,h4,z⟩:=(eo K (aj.table w) (ak w.2.2.1) u r).same (gq K (aj.table w) (ak w.2.2.1) u r) Iff.rfl;obtain⟨Z,h5,H⟩:=nQ K n w.2.2.1;have h6:Z=(ak w.2.2.1==ak n.1):=by
    rw[Bool.eq_iff_iff,H,beq_iff_eq];exact⟨λh=>h.2,λh=>⟨I.2.2.1,h⟩⟩
   have hp:InP w.1 1 2:=I.1;obtain⟨b,e4,e5⟩:=rR K n w u r;refine⟨b,?_,e5.trans ⟨λh=>⟨hP,I,h⟩,λh=>h.2.2⟩⟩;rw[<- e4];simp only[Q21.f,Q165.f];rw[h5,de K n.1,de K w.2.2.1,ml K w.2.2.1,mm K n,h6];simp only[FK];rw[h3,h4,z,y];simp only[FK,bne];generalize (ak w.2.2.1==ak n.1)=c1;generalize (w.2.2.2.1==n.1)=c2;generalize (w.2.2.1==n.1)=c3;generalize (w.2.1==6)=c4;generalize n.2.1=c5;generalize n.2.2.1=c6;rcases (by omega:w.1=1\/w.1=2) with h|h <;> rw[h] <;> cases c1 <;> cases c2 <;> cases c3 <;> cases c4 <;> cases c5 <;> cases c6 <;> cases X <;> cases Y <;> rfl
theorem BX {n:aa}(h:UpN n):(mp n).length<=8/\∀ x∈mp n,iL x:=by
 unfold mp;refine⟨?_,λx u=>?_⟩
 ·rw[GA];exact FR (GC _ _) (jx h.x.table.2 λf r=>(h.x.table.1 f r).1)
 ·obtain⟨f,r,rfl⟩:=FX.1 u;exact⟨(h.x.table.1 f (F0.1 r).1).1,cf h.x.table⟩
theorem CS (K:Nat)(w:bY)(c:Nat)(h:WI w c)(hc:c<=1000000)(e:ah)(h0:InP e.2.1 0 7)(O:1048577<K):Tot (Q103.f K (w,e,())) λr=>WI r.1.1 (c+4):=by
 have a0:=h.len;have hs:=h.sides;obtain⟨a1,a2,u,keep⟩:=e;obtain⟨e0,e1⟩:=h0;simp only at e0 e1;obtain⟨i,rfl⟩:=FV e0;have X:i<w.1.length:=by omega
 have J:=h.node i X;have y:=h.mono (show c<=c+4 by omega);simp only[Q103.f];refine Tot.vl (af X) (Tot.vl (by rw[FN];exact af X) ?_);generalize w.1[i]=n at J ⊢;refine Tot.cnd (λ_=>?_) λ_=>Tot.cnd (λ_=>?_) λ_=>Tot.cnd (λ_=>?_) λ_=>?_
 ·
  rw[di];simp only[FK];exact Tot.ix2 (by omega) (by omega) λ_ _ _=>Tot.ret ⟨y.len,y.node,y.radio,by show (w.2.2.1.set _ _).length=8;rw[FQ];exact h.sides,y.born⟩
 ·
  simp only[Q101.f,FK];refine Tot.ix2 (by omega) (by omega) λ_ _ _=>Tot.ret (y.put (i:=i) (n:=ka n.1 n.2.2.2.1) ?_ y.radio y.born)
  exact⟨J.me,J.lt,λM=>(by cases M),λ_=>rfl⟩
 ·
  exact Tot.cnd (λ_=>Tot.ret y) λ_=>Tot.bind (CM K w c h hc (i:Int) ⟨by omega,by omega⟩ O) λv H=>Tot.ret H
 ·refine Tot.cnd (λ_=>Tot.ret y) λM=>Tot.cnd (λ_=>Tot.ret y) λR=>?_
  have M:n.2.1=true:=by simpa using M
  have z:=J.up M;have set:=λ (m:aa) (Z:List aj) (I:UpN m) (em:m.1=n.1) (Y:∀ x∈Z,iL x) (hl:Z.length<=1000)=>CL K w i m Z [] c ⟨h,J.lt,J.of I em,Y,hl,F6 _,hc⟩ O
  refine Tot.cnd (λ_=>?_) λ_=>Tot.cnd (λ_=>?_) λ_=>Tot.cnd (λ_=>?_) λ_=>Tot.ret y
  ·refine Tot.cnd (λ_=>Tot.ret y) λI=>?_
   have I:cg n<999999:=by have I:¬ n.2.2.2.2.2.1>=999999:=of_decide_eq_false I;show n.2.2.2.2.2.1<999999;omega
   obtain⟨t1,t2,_⟩:=rN z I;obtain⟨w1,w2⟩:=CJ z I u;exact Tot.vl (CK K n u z R I O) (Tot.bind (set _ _ t1 t2 w2 (FR w1 (by omega))) λv H=>Tot.ret H)
  ·obtain⟨t1,t2⟩:=Ao z R;obtain⟨w1,w2⟩:=BX t1;exact Tot.vl (BC K n z.nb z.ok M R O) (Tot.bind (set _ _ t1 t2 w2 (FR w1 (by omega))) λv H=>Tot.ret H)
  ·refine Tot.bind (cK K u 0 7).tot λv H=>Tot.cnd (λ_=>Tot.ret y) λh1=>Tot.cnd (λ_=>Tot.ret y) λ_=>?_
   have hd:InP u 0 7:=H.1 (by simpa using h1);rw[de K,de K];simp only[FK];refine Tot.cnd (λ_=>Tot.ret y) λ_=>?_
   refine Tot.vl (oZ K n 4 u (cf z.x.table)) (Tot.bind (set n _ z rfl (λx hx=>?_) (by simp)) λv H=>Tot.ret H);rw[FO.1 hx];exact⟨hd,cf z.x.table⟩
theorem do_t (K:Nat)(w:bY)(c:Nat)(h:WI w c)(O:c<=1000000)(e:ah)(M:1048577<K):Tot (Q105.f K (w,e,())) λr=>WI r.1.1 (c+4):=by
 have z:=h.mono (show c<=c+4 by omega);have hr:=h.radio.1;simp only[Q105.f];rw[aC (n:=(FM w.2.1:Int)-1) (by omega) (by omega)];have u:Tot ((Q10.f K (e.2.1,0,(FM w.2.1:Int)-1,())).bind λX=>bif !X.1.1 then (some ((w,false,()),())) else (bif e.1==2 then ((Q81.f K (w,e.2.1,e.2.2.2,())).bind λY=>some ((Y.1.1,true,()),())) else (bif e.1==4 then ((Q82.f K (w,e.2.1,e.2.2.1,())).bind λR=>some ((R.1.1,R.1.2.1,()),())) else ((Q74.f K (w.2.1,e.2.1,())).bind λZ=>some (((w.1,(Z.1.1,w.2.2)),true,()),()))))) λr=>WI r.1.1 (c+4):=by
  refine Tot.bind (cK K _ _ _).tot λv y=>Tot.cnd (λ_=>Tot.ret z) λI=>?_
  obtain⟨J,H⟩:InP e.2.1 0 ((FM w.2.1:Int)-1):=y.1 (by simpa using I);have H:e.2.1<(w.2.1.length:Int):=by omega
  refine Tot.cnd (λ_=>Tot.bind (BS K w c h O e.2.1 e.2.2.2 J H M) λv y=>Tot.ret y) λ_=>Tot.cnd (λ_=>Tot.bind (BT K w c h e.2.1 e.2.2.1 J H) λv y=>Tot.ret (WI.mono y (by omega))) λ_=>?_
  exact Tot.bind (sH K w.2.1 e.2.1 J H h.radio) λv y=>Tot.ret ⟨z.len,z.node,y,z.sides,z.born⟩
 refine Tot.cnd (λ_=>u) λ_=>Tot.cnd (λ_=>u) λ_=>Tot.cnd (λ_=>u) λ_=>?_
 exact Tot.bind (cK K _ _ _).tot λv y=>Tot.cnd (λ_=>Tot.ret z) λI=>Tot.bind (CS K w c h O e (y.1 (by simpa using I)) M) λv y=>Tot.ret y
theorem AA (K:Nat)(w:bY)(O:w.1.length<=1048576)(I:∀ n∈w.1,NB n)(R:w.2.1.length<=1048576)(X:w.2.2.1.length<=1048576)(Y:w.2.2.2.length<=1048576)(y:1048577<K):Q107.f K (w,())=some ((w,()),()):=by
 simp only[Q107.f,Q107.pre];rw[szb _ _ _ (by omega) (by show (FM ([]:List mr))+w.2.1.length<=_;simp;omega)];simp only[cond_true];rw[szb _ _ _ (by omega) (by show (FM ([]:List Int))+w.2.2.1.length<=_;simp;omega)];simp only[cond_true];rw[szb _ _ _ (by omega) (by show (FM ([]:List ah))+w.2.2.2.length<=_;simp;omega)];simp only[cond_true];have:∀ (d i k:Nat),i+d=w.1.length->d<k->ae (λrec a=>Q107.s0 K (w,()) rec a) k ((i:Int),w.1.take i)=some ((w,()),()):=by
  intro d;induction d with
  |zero =>
   intro i k z H;obtain⟨k,rfl⟩:∃ u,k=u+1:=⟨k-1,by omega⟩;have:i=w.1.length:=by omega
   subst this;show Q107.s0 K (w,()) _ _=_;simp only[Q107.s0,aS,GJ];rfl
  |succ d M =>
   intro i k z H;obtain⟨k,rfl⟩:∃ u,k=u+1:=⟨k-1,by omega⟩;have r:i<w.1.length:=by omega
   show Q107.s0 K (w,()) _ _=_;simp only[Q107.s0];rw[bt (by omega:(i:Int)<(FM w.1:Int)),af r,ar i (by omega)];simp only[cond_true,FK];refine (congrArg (λo=>FP o _) (nS K w.1[i] (I _ (FU r)) y)).trans ?_;simp only[FK];have J:decide (((w.1.take i).length+[w.1[i]].length)*232<=am)=true:=decide_eq_true (by
    rw[FY];simp only[GI,GB,am];omega)
   refine (congrArg (λb=>bif b then _ else _) J).trans ?_;have e:w.1.take i++[w.1[i]]=w.1.take (i+1):=by rw[List.take_add_one,List.getElem?_eq_getElem r];rfl
   rw[<- M (i+1) k (by omega) (by omega),<- e];rfl
 exact this w.1.length 0 K (by omega) (by omega)
theorem WI.copy {w:bY}{c:Nat}(h:WI w c)(M:c<=1000000)(K:Nat)(r:1048577<K):Q107.f K (w,())=some ((w,()),()):=by
 have z:=h.len;have H:=h.radio.1;have I:=h.sides;have J:=h.born;refine AA K w (by omega) (λn y=>?_) (by omega) (by omega) (by omega) r;obtain⟨i,u,rfl⟩:=FZ y;exact (h.node i u).nb
theorem CT (K:Nat)(w:bY)(c:Nat)(y:List ah)(h:WI w c)(hl:y.length<=1000)(Z:c<=900000)(O:1048577<K):Tot (Q108.f K (w,y,())) λr=>WI r.1.1 (c+4*y.length)/\r.2.1=y:=by
 simp only[Q108.f,Q108.pre];refine Tot.iter (step:=λrec a=>Q108.s0 K (w,y,()) rec a) (λa=>0<=a.1/\a.1<=y.length/\WI a.2 (c+4*a.1.toNat)) (λa=>y.length-a.1.toNat) ?_ K _ (by show y.length-FL 0<K;omega) ⟨by show (0:Int)<=0;omega,by show (0:Int)<=_;omega,h⟩;rintro rec ⟨i,v⟩ ⟨M,X,H⟩ R;simp only at M X H R ⊢;simp only[Q108.s0];refine Tot.cnd (λz=>?_) λ_=>Tot.ret ⟨WI.mono H (by omega),rfl⟩
 have z:i<(y.length:Int):=of_decide_eq_true z;rw[aC (n:=i+1) (by omega) (by omega)];refine Tot.vl (H.copy (by omega) K O) (Tot.ix2 M z λe _ _=>Tot.bind (do_t K v _ H (by omega) e O) ?_);rintro⟨⟨v',ok,⟨⟩⟩,⟨⟩⟩ I;have I:WI v' (c+4*i.toNat+4):=I;have J:∀ u:bY,WI u (c+4*i.toNat+4)->Tot (rec (i+1,u)) λr=>WI r.1.1 (c+4*y.length)/\r.2.1=y:=λu Y=>R (i+1,u) ⟨by show 0<=i+1;omega,by show i+1<=_;omega,Y.mono (by show _<=c+4*(i+1).toNat;omega)⟩ (by show y.length-FL (i+1)<y.length-FL i;omega)
 exact Tot.cnd (λ_=>J v' I) λ_=>J v (H.mono (by omega))
theorem xA (K:Nat)(hK:1048577<K):Tot (Q14.f K ()) λr=>WI r.1.1 8:=by
 simp only[Q14.f,Q14.pre];refine Tot.iter (step:=λrec a=>Q14.s0 K () rec a) (λa=>0<=a.1/\a.1<=8/\a.2.1.length=a.1.toNat/\(∀ (j:Nat) (y:j<a.2.1.length),eN j a.2.1[j])/\a.2.2.1.length=a.1.toNat/\a.2.2.2.length=a.1.toNat) (λa=>8-a.1.toNat) ?_ K _ (by show 8-FL 0<K;omega) ⟨by show (0:Int)<=0;omega,by show (0:Int)<=8;omega,rfl,λj y=>(by cases y),rfl,rfl⟩;rintro rec ⟨i,z,X,O⟩ ⟨H,Y,Z,I,h4,h5⟩ R;simp only at H Y Z I h4 h5 R ⊢;simp only[Q14.s0];refine Tot.cnd (λu=>?_) λu=>?_
 ·have u:i<=7:=of_decide_eq_true u;rw[aC (n:=i+1) (by omega) (by omega)];simp only[Q13.f,FK];refine Tot.vl (sJ K i _ ⟨H,u⟩) (Tot.fit (Tot.fit (Tot.vl (show idx (ng i (decide (F4 i 4<3))).2.2.2.2.2.2.2.2.1 0=some (i,0,1,decide (F4 i 4<3)) from rfl) (Tot.fit (R _ ⟨by show 0<=i+1;omega,by show i+1<=8;omega,?_,λj y=>?_,?_,?_⟩ (by show 8-FL (i+1)<8-FL i;omega)) (by omega) ?_)) (by omega) ?_) (by omega) ?_)
  ·show (z++[ng i _]).length=(i+1).toNat;simp;omega
  ·show eN j ((z++[ng i (decide (F4 i 4<3))])[j]'y);rw[List.getElem_append];split
   ·exact I j _
   ·rename_i J;have y:j<(z++[ng i (decide (F4 i 4<3))]).length:=y;have M:j=i.toNat:=by simp at y;omega
    subst M;have:=eN.new i.toNat (decide (F4 i 4<3)) (by omega);rw[GE H]at this;simpa using this
  ·show (X++[0]).length=(i+1).toNat;simp;omega
  ·show (O++[_]).length=(i+1).toNat;simp;omega
  ·simp;omega
  ·simp;omega
  ·simp;omega
 ·have J:=of_decide_eq_false u;refine Tot.ret ⟨?_,I,⟨F6 _,λf hf=>(nomatch hf)⟩,?_,?_⟩
  ·show z.length=8;omega
  ·show X.length=8;omega
  ·show O.length<=8;omega
abbrev LtP (v n:Int):Prop:=0<=v/\v<n
def bg (b:List Int)(m:Nat)(s:List Int×Int):Prop:=∃ q:Nat,q<=m/\s=(b,(q:Int))
theorem bg.up {b:List Int}{m:Nat}{s:List Int×Int}(h:bg b m s){m':Nat}(y:m<=m'):bg b m' s:=by obtain⟨q,u,r⟩:=h;exact⟨q,by omega,r⟩
section
variable {K:Nat} {b:List Int} {m:Nat} {s:List Int×Int}
theorem aD (h:gv b)(y:bg b m s)(n:Int)(u:1<=n)(I:m<=99000):Tot (Q9.f K (s,n,())) λr=>LtP r.1.1 n/\bg b (m+1) r.2.1:=by
 obtain⟨q,J,rfl⟩:=y;obtain⟨v,e,z,H⟩:=BH K b q n h (by omega) u;exact⟨_,e,⟨z,H⟩,q+1,by omega,rfl⟩
theorem CU (r:List Int)(z:∀ y∈r,0<=y/\y<=255)(I:r.length<=9223372036854775807):∃ u:List Int,gv u/\Q8.f K (r,())=some (((u,(0:Int)),()),()):=by
 simp only[Q8.f];by_cases h:(r.length:Int)>2000
 ·rw[decide_eq_true h,decide_eq_true (by omega:(2000:Int)<=(r.length:Int))];exact⟨(r.take 2000).drop 0,⟨λy H=>z y (FW (by simpa using H)),by simp;omega⟩,rfl⟩
 ·rw[decide_eq_false h];exact⟨r,⟨z,by omega⟩,rfl⟩
theorem zg (h:gv b)(O:bg b m s)(u:Int)(h0:0<=u)(h1:u<=1)(hm:m<=98000):Tot (Q113.f K (s,u,())) λr=>(bw r.1.1/\ak r.1.1.1=u)/\bg b (m+5) r.2.1:=by
 simp only[Q113.f];refine Tot.bind (aD h O 4 (by decide) (by omega)) λH ⟨⟨a1,b1⟩,R⟩=>Tot.bind (aD h R 3 (by decide) (by omega)) λv2 ⟨⟨a2,b2⟩,X⟩=>Tot.bind (aD h X 12 (by decide) (by omega)) λv3 ⟨⟨a3,b3⟩,Y⟩=>Tot.bind (aD h Y 3 (by decide) (by omega)) λv4 ⟨⟨J,M⟩,Z⟩=>Tot.ix2 J M λy z _=>Tot.bind (aD h Z 4 (by decide) (by omega)) λI ⟨⟨a5,b5⟩,s5⟩=>?_
 simp only[Q13.f,FK];have z:InP y 0 999:=by
  simp only[GN,GK,or_false]at z;rcases z with rfl|rfl|rfl <;> constructor <;> omega
 rw[aC (n:=u*4) (by omega) (by omega),aC (n:=u*4+H.1.1) (by omega) (by omega),aC (n:=1+I.1.1) (by omega) (by omega)];refine Tot.ret ⟨⟨⟨⟨?_,?_⟩,z,?_,?_⟩,?_⟩,s5⟩
 ·show (0:Int)<=u*4+H.1.1;omega
 ·show u*4+H.1.1<=7;omega
 ·show (1:Int)<=1+I.1.1;omega
 ·show (1:Int)+I.1.1<=4;omega
 ·show ak (u*4+H.1.1)=u;rw[jO ⟨by omega,by omega⟩];omega
theorem oe (h:gv b)(M:bg b m s)(hm:m<=97000):Tot (Q115.f K (s,())) λr=>bg b (m+8) r.2.1:=by
 simp only[Q115.f];refine Tot.bind (aD h M 2 (by decide) (by omega)) λY ⟨⟨I,b1⟩,O⟩=>Tot.bind (zg h O Y.1.1 I (by omega) (by omega)) λf ⟨_,R⟩=>Tot.bind (aD h R 12 (by decide) (by omega)) λZ ⟨_,H⟩=>?_
 have u:∀ {x y:Int} {G:(Int×Unit)×(List Int×Int)×Unit->Int->Option ((ah×Unit)×(List Int×Int)×Unit)},(∀ v z,Tot (G v z) λr=>r.2.1=v.2.1)->Tot ((Q9.f K (Z.2.1,2,())).bind λv=>(idx [x,y] v.1.1).bind λ_=>(idx [x,y] (FL v.1.1:Nat)).bind (G v)) λr=>bg b (m+8) r.2.1:=λJ=>Tot.bind (aD h H 2 (by decide) (by omega)) λv ⟨⟨a,b⟩,X⟩=>Tot.ix2 a b λz _ _=>(J v z).mono λr e=>by rw[e];exact X.up (by omega)
 refine Tot.cnd (λ_=>u λ_ _=>Tot.ret rfl) λ_=>Tot.cnd (λ_=>u λ_ _=>Tot.ret rfl) λ_=>Tot.cnd (λ_=>u λ_ _=>Tot.ret rfl) λ_=>Tot.cnd (λ_=>Tot.ret (H.up (by omega))) λ_=>Tot.ret (H.up (by omega))
theorem zh (t:List ah)(f:ah):(bZ t f).1.length<=t.length+1:=by
 rcases iF t f with e|e
 ·rw[e];omega
 ·rw[e];exact z9
theorem xB {t:List ah}{f:ah}{z:Int}(h:cn t z)(u:ak f.1=z):cn (bZ t f).1 z:=by
 rcases iF t f with e|e <;> rw[e]
 ·exact h
 ·intro g r;rcases bd.1 r with rfl|⟨r,_⟩
  ·exact u
  ·exact h g r
theorem o8 (h:gv b)(hs:bg b m s)(u:Int)(h0:-1<=u)(h1:u<=1)(hm:m<=96000)(hK:1048577<K):Tot (Q114.f K (s,u,())) λr=>(aE r.1.1/\(0<=u->cn r.1.1 u)/\r.1.1.length<=5)/\bg b (m+31) r.2.1:=by
 simp only[Q114.f,Q114.pre];refine Tot.bind (aD h hs 6 (by decide) (by omega)) λv ⟨⟨v0,v1⟩,s1⟩=>?_
 refine Tot.iter (step:=λrec a=>Q114.s0 K (s,u,()) rec a) (λa=>∃ q:Nat,0<=a.2.1/\aE a.1/\(0<=u->cn a.1 u)/\(a.1.length:Int)+a.2.1<=5/\bg b q a.2.2/\q+6*a.2.1.toNat<=m+31) (λa=>a.2.1.toNat) ?_ K _ (by show v.1.1.toNat<K;omega) ⟨m+1,v0,⟨by simp,List.Pairwise.nil⟩,λ_ f Y=>(nomatch Y),by show ((0:Nat):Int)+v.1.1<=5;omega,s1,by show m+1+6*v.1.1.toNat<=m+31;omega⟩;rintro rec ⟨t,n,s2⟩ ⟨q,n0,O,X,hl,I,hq⟩ ih;simp only at n0 O X hl I hq ih ⊢;simp only[Q114.s0];refine Tot.cnd (λhn=>?_) λ_=>Tot.ret ⟨⟨O,X,by show t.length<=5;omega⟩,I.up (by omega)⟩
 have hn:n>0:=of_decide_eq_true hn;rw[aC (n:=n-1) (by omega) (by omega)];have go:∀ (z:Int) (J:Nat) (M:List Int×Int),0<=z->z<=1->(0<=u->z=u)->bg b J M->J<=q+1->Tot ((Q113.f K (M,z,())).bind λy3=>(Q32.f K (t,y3.1.1,())).bind λy4=>rec (y4.1.1,n-1,y3.2.1.1,y3.2.1.2)) λr=>(aE r.1.1/\(0<=u->cn r.1.1 u)/\r.1.1.length<=5)/\bg b (m+31) r.2.1:=λz J M z0 z1 hz a0 a2=>by
  refine Tot.bind (zg h a0 z z0 z1 (by omega)) λy ⟨⟨Y,Z⟩,a1⟩=>Tot.vl (xh K t y.1.1 (by omega) O.2 hK) (ih (_,_,y.2.1) ⟨J+5,by show 0<=n-1;omega,k8 O Y,λR=>xB (X R) (by rw[Z];exact hz R),?_,a1,by show J+5+6*(n-1).toNat<=m+31;omega⟩ (by show (n-1).toNat<n.toNat;omega))
  have:=zh t y.1.1;show ((bZ t y.1.1).1.length:Int)+(n-1)<=5;omega
 refine Tot.cnd (λH=>?_) λH=>?_
 ·have H:u<0:=of_decide_eq_true H;exact Tot.bind (aD h I 2 (by decide) (by omega)) λv ⟨⟨a,b⟩,M⟩=>go v.1.1 (q+1) v.2.1 a (by omega) (λR=>by omega) M (F7 _)
 ·have H:¬ u<0:=of_decide_eq_false H;exact go u q s2 (by omega) h1 (λ_=>rfl) I (by omega)
theorem qY (h:gv b)(R:bg b m s)(hm:m<=95000)(O:1048577<K):Tot (Q116.f K (s,())) λr=>r.1.1.length<=6/\bg b (m+42) r.2.1:=by
 simp only[Q116.f];refine Tot.bind (o8 h R (-1) (by decide) (by decide) (by omega) O) λt ⟨⟨Z,_,hl⟩,J⟩=>?_
 refine Tot.cnd (λI=>?_) λ_=>Tot.ret ⟨by show t.1.1.length<=6;omega,J.up (by omega)⟩
 have I:(t.1.1.length:Int)>0:=of_decide_eq_true I;refine Tot.bind (aD h J 12 (by decide) (by omega)) λv2 ⟨_,M⟩=>Tot.cnd (λ_=>?_) λ_=>Tot.ret ⟨by show t.1.1.length<=6;omega,M.up (by omega)⟩
 refine Tot.bind (aD h M (t.1.1.length:Int) (by omega) (by omega)) λv3 ⟨⟨u,z⟩,X⟩=>Tot.bind (aD h X 3 (by decide) (by omega)) λv4 ⟨_,H⟩=>?_
 refine Tot.cnd (λ_=>Tot.bind (oe h H (by omega)) λf Y=>Tot.ix2 u z λ_ _ _=>Tot.ret ⟨by show (t.1.1.set _ _).length<=6;rw[FQ];omega,Y.up (by omega)⟩) λ_=>?_
 refine Tot.cnd (λ_=>Tot.ix2 u z λy _ _=>Tot.fit (Tot.ret ⟨by show (t.1.1++[y]).length<=6;simp;omega,H.up (by omega)⟩) (by omega) (by simp;omega)) λ_=>Tot.ix2 u z λy _ _=>Tot.ret ⟨by show (t.1.1.set _ _).length<=6;rw[FQ];omega,H.up (by omega)⟩
theorem BY (h:gv b)(Z:bg b m s)(u:Int)(R:-1<=u)(X:u<=1)(hm:m<=95000)(Y:1048577<K):Tot (Q117.f K (s,u,())) λr=>r.1.1.length<=5/\bg b (m+36) r.2.1:=by
 simp only[Q117.f,Q117.pre];refine Tot.bind (o8 h Z u R X (by omega) Y) λt ⟨⟨hT,_,hl⟩,s1⟩=>?_
 refine Tot.iter (step:=λrec a=>Q117.s0 K (s,u,()) rec a) (λa=>a.2.1=t.1.1/\0<=a.2.2.1/\a.2.2.1<=t.1.1.length/\(a.1.length:Int)=a.2.2.1/\bg b (m+31+a.2.2.1.toNat) a.2.2.2) (λa=>t.1.1.length-a.2.2.1.toNat) ?_ K _ (by show t.1.1.length-FL 0<K;omega) ⟨rfl,by show (0:Int)<=0;omega,by show (0:Int)<=_;omega,rfl,s1⟩;rintro rec ⟨H,t',i,s2⟩ ⟨e,M,i1,J,z⟩ O;simp only at e M i1 J z O ⊢;subst e;simp only[Q117.s0];refine Tot.cnd (λI=>?_) λ_=>Tot.ret ⟨by show H.length<=5;omega,z.up (by omega)⟩
 have I:i<(t.1.1.length:Int):=of_decide_eq_true I;rw[aC (n:=i+1) (by omega) (by omega)];refine Tot.ix2 M I λy _ _=>Tot.bind (aD h z 4 (by decide) (by omega)) λv ⟨_,s3⟩=>Tot.fit (O (_,_,_,v.2.1) ⟨rfl,by show 0<=i+1;omega,by show i+1<=_;omega,?_,s3.up (by show _<=m+31+(i+1).toNat;omega)⟩ (by show t.1.1.length-(i+1).toNat<t.1.1.length-i.toNat;omega)) (by omega) (by simp;omega)
 show ((H++[_]).length:Int)=i+1;simp;omega
theorem xC (h:gv b)(Z:bg b m s)(hm:m<=94000)(Y:1048577<K):Tot (Q118.f K (s,())) λr=>r.1.1.length<=6/\bg b (m+50) r.2.1:=by
 simp only[Q118.f];refine Tot.bind (BY h Z (-1) (by decide) (by decide) (by omega) Y) λt ⟨hl,M⟩=>?_
 refine Tot.cnd (λJ=>?_) λ_=>Tot.ret ⟨by show t.1.1.length<=6;omega,M.up (by omega)⟩
 have J:(t.1.1.length:Int)>0:=of_decide_eq_true J;refine Tot.bind (aD h M 10 (by decide) (by omega)) λv2 ⟨_,O⟩=>Tot.cnd (λ_=>?_) λ_=>Tot.ret ⟨by show t.1.1.length<=6;omega,O.up (by omega)⟩
 refine Tot.bind (aD h O (t.1.1.length:Int) (by omega) (by omega)) λv3 ⟨⟨u,z⟩,s3⟩=>Tot.bind (aD h s3 3 (by decide) (by omega)) λv4 ⟨_,H⟩=>?_
 refine Tot.cnd (λ_=>Tot.bind (aD h H 2 (by decide) (by omega)) λv5 ⟨⟨R,X⟩,I⟩=>Tot.ix2 R X λ_ _ _=>Tot.ix2 u z λ_ _ _=>Tot.ret ⟨by show (t.1.1.set _ _).length<=6;rw[FQ];omega,I.up (by omega)⟩) λ_=>?_
 refine Tot.cnd (λ_=>Tot.bind (oe h H (by omega)) λf I=>Tot.ix2 u z λ_ _ _=>Tot.ret ⟨by show (t.1.1.set _ _).length<=6;rw[FQ];omega,I.up (by omega)⟩) λ_=>?_
 exact Tot.ix2 u z λy _ _=>Tot.fit (Tot.ret ⟨by show (t.1.1++[y]).length<=6;simp;omega,H.up (by omega)⟩) (by omega) (by simp;omega)
theorem sL (h:gv b)(J:bg b m s)(Z:m<=95000):Tot (Q119.f K (s,())) λr=>bg b (m+6) r.2.1:=by
 simp only[Q119.f,Q11.f];refine Tot.bind (aD h J 6 (by decide) (by omega)) λv1 ⟨_,z⟩=>Tot.cnd (λ_=>Tot.ret (z.up (by omega))) λ_=>Tot.bind (aD h z 3 (by decide) (by omega)) λv3 ⟨⟨H,I⟩,M⟩=>Tot.ix2 H I λy u _=>?_
 have u:InP y 10 100000:=by
  simp only[GN,GK,or_false]at u;rcases u with rfl|rfl|rfl <;> constructor <;> omega
 rw[aC (n:=2*y) (by omega) (by omega),aC (n:=2*y+1) (by omega) (by omega),aC (n:=y+1) (by omega) (by omega)];exact Tot.bind (aD h M _ (by omega) (by omega)) λv6 ⟨_,O⟩=>Tot.bind (aD h O _ (by omega) (by omega)) λv7 ⟨_,R⟩=>Tot.bind (aD h R _ (by omega) (by omega)) λv8 ⟨_,X⟩=>Tot.bind (aD h X _ (by decide) (by omega)) λv9 ⟨_,Y⟩=>Tot.ret Y
theorem ni (h:gv b)(z:bg b m s)(I:m<=94000):Tot (Q120.f K (s,())) λr=>bg b (m+8) r.2.1:=by
 simp only[Q120.f];exact Tot.bind (sL h z (by omega)) λc H=>Tot.bind (aD h H 16 (by decide) (by omega)) λJ ⟨_,y⟩=>Tot.cnd (λ_=>Tot.bind (aD h y 3 (by decide) (by omega)) λv ⟨⟨a,b⟩,u⟩=>Tot.ix2 a b λ_ _ _=>Tot.ret u) λ_=>Tot.cnd (λ_=>Tot.bind (aD h y 2 (by decide) (by omega)) λv ⟨⟨a,b⟩,u⟩=>Tot.ix2 a b λ_ _ _=>Tot.ret u) λ_=>Tot.cnd (λ_=>Tot.bind (aD h y 2 (by decide) (by omega)) λv ⟨⟨a,b⟩,u⟩=>Tot.ix2 a b λ_ _ _=>Tot.ret u) λ_=>Tot.ret (y.up (by omega))
theorem zi (h:gv b)(z:bg b m s)(w:bY)(I:m<=95000):Tot (Q109.f K (s,w,())) λr=>bg b (m+2) r.2.1:=by
 simp only[Q109.f];refine Tot.cnd (λ_=>Tot.ret (z.up (by omega))) λy=>?_
 have y:¬ (w.2.1.length:Int)=0:=by simpa using y
 refine Tot.bind (aD h z 3 (by decide) (by omega)) λJ ⟨_,H⟩=>Tot.cnd (λ_=>Tot.cnd (λ_=>Tot.bind (aD h H 4 (by decide) (by omega)) λv ⟨_,u⟩=>Tot.ret u) λ_=>?_) λ_=>?_ <;>
 exact Tot.bind (aD h H _ (by show (1:Int)<=(w.2.1.length:Int);omega) (by omega)) λv ⟨_,u⟩=>Tot.ret u
theorem BZ (h:gv b)(Y:bg b m s)(w:bY)(hm:m<=94000):Tot (Q110.f K (s,w,())) λr=>bg b (m+8) r.2.1:=by
 simp only[Q110.f];refine Tot.bind (aD h Y 8 (by decide) (by omega)) λv1 ⟨_,s1⟩=>Tot.bind (aD h s1 256 (by decide) (by omega)) λv2 ⟨_,s2⟩=>Tot.bind (aD h s2 16 (by decide) (by omega)) λv3 ⟨_,s3⟩=>Tot.bind (aD h s3 40 (by decide) (by omega)) λR ⟨_,y⟩=>?_
 have y:bg b (m+4) R.2.1:=y.up (by omega);generalize R.2.1=z at y ⊢;have u4:bg b (m+8) z:=y.up (by omega);have O:=zi (K:=K) h y w (by omega);have M:∀ n:Int,1<=n->Tot (Q9.f K (z,n,())) λr=>bg b (m+8) r.2.1:=λn H=>(aD h y n H (by omega)).mono λr I=>I.2.up (by omega)
 have Z:∀ (J:List Int×Int) (n:Int),bg b (m+4+2) J->1<=n->Tot (Q9.f K (J,n,())) λr=>bg b (m+8) r.2.1:=λJ n X H=>(aD h X n H (by omega)).mono λr I=>I.2.up (by omega)
 repeat' first
  |exact Tot.ret u4
  |exact Tot.bind O λv u=>Tot.ret (bg.up u (by omega))
  |exact Tot.bind O λv u=>Tot.bind (Z _ _ u (by decide)) λv u=>Tot.ret u
  |exact Tot.bind (M _ (by decide)) λv u=>Tot.ret u
  |exact Tot.bind (M _ (by decide)) λv u=>Tot.cnd (λ_=>Tot.ret u) λ_=>Tot.ret u
  |refine Tot.cnd (λ_=>?_) λ_=>?_
theorem B3 (h:gv b)(hs:bg b m s)(y:Int)(h1:1<=y)(h2:y<=200)(hm:m<=90000)(X:1048577<K):Tot (Q111.f K (s,y,())) λr=>(WI r.1.2.1 2000/\r.1.1.length<=300)/\bg b (m+8*y.toNat+2) r.2.1:=by
 simp only[Q111.f,Q111.pre];have O:∀ (H:List ah) (n:Int) (z:List Int×Int) (w:bY) (q c:Nat),0<=n->n<y->H.length<=24->bg b q z->q<=m+2->WI w c->c<=200->Tot (Q111.l1 K (s,y,()) (H,n,z.1,z.2,w)) λr=>(WI r.1.2.1 2000/\r.1.1.length<=300)/\bg b (m+8*y.toNat+2) r.2.1:=λH n z w q c n0 n1 Y M hq I hc=>by
  refine Tot.iter (step:=λrec a=>Q111.s1 K (s,y,()) rec a) (λa=>∃ q c:Nat,0<=a.2.1/\a.2.1<y/\(a.1.length:Int)+a.2.1<=24+y/\bg b q (a.2.2.1,a.2.2.2.1)/\q+8*a.2.1.toNat<=m+8*y.toNat+2/\WI a.2.2.2.2 c/\c+4*a.2.1.toNat<=2000) (λa=>a.2.1.toNat) ?_ K _ (by show n.toNat<K;omega) ⟨q,c,n0,n1,by show (H.length:Int)+n<=_;omega,M,by show q+8*n.toNat<=_;omega,I,by show c+4*n.toNat<=2000;omega⟩;clear M hq I hc n0 n1 Y;rintro rec ⟨H,n,z1,z2,w⟩ ⟨q,c,n0,n1,Y,M,hq,I,hc⟩ ih;simp only at n0 n1 Y M hq I hc ih ⊢;simp only[Q111.s1];refine Tot.cnd (λhn=>?_) λ_=>Tot.vl (I.copy (by omega) K X) (Tot.ret ⟨⟨I.mono (by omega),by show H.length<=300;omega⟩,M.up (by omega)⟩)
  have hn:n>0:=of_decide_eq_true hn;rw[aC (n:=n-1) (by omega) (by omega)];refine Tot.bind (BZ h M w (by omega)) λe he=>Tot.fit (Tot.vl (I.copy (by omega) K X) (Tot.bind (do_t K w c I (by omega) e.1.1 X) ?_)) (by omega) (by simp;omega)
  rintro⟨⟨v',ok,⟨⟩⟩,⟨⟩⟩ hv;have R:∀ u:bY,WI u (c+4)->Tot (rec (H++[e.1.1],n-1,e.2.1.1,e.2.1.2,u)) λr=>(WI r.1.2.1 2000/\r.1.1.length<=300)/\bg b (m+8*y.toNat+2) r.2.1:=λu hu=>ih _ ⟨q+8,c+4,by show 0<=n-1;omega,by show n-1<y;omega,by show ((H++[e.1.1]).length:Int)+(n-1)<=_;simp;omega,he,by show q+8+8*(n-1).toNat<=_;omega,hu,by show c+4+4*(n-1).toNat<=2000;omega⟩ (by show (n-1).toNat<n.toNat;omega)
  exact Tot.cnd (λ_=>R v' hv) λ_=>R w (I.mono (by omega))
 refine Tot.bind (xA K X) λw0 Z=>Tot.bind (aD h hs 3 (by decide) (by omega)) λv2 ⟨_,s2⟩=>Tot.cnd (λ_=>?_) λ_=>Tot.bind (aD h s2 y h1 (by omega)) λv9 ⟨⟨a9,b9⟩,s9⟩=>O [] v9.1.1 v9.2.1 w0.1.1 (m+2) 8 a9 b9 (by simp) s9 (F7 _) Z (by omega)
 refine Tot.iter (step:=λrec a=>Q111.s0 K (s,y,()) (Q111.l1 K (s,y,())) rec a) (λa=>0<=a.2.1/\a.2.1<=8/\(a.1.length:Int)<=3*a.2.1/\bg b (m+1) (a.2.2.1,a.2.2.2.1)/\WI a.2.2.2.2 8) (λa=>8-a.2.1.toNat) ?_ K _ (by show 8-FL 0<K;omega) ⟨by show (0:Int)<=0;omega,by show (0:Int)<=8;omega,by show ((0:Nat):Int)<=3*0;omega,s2,Z⟩;rintro rec ⟨H,i,z1,z2,w⟩ ⟨i0,i1,Y,M,I⟩ ih;simp only at i0 i1 Y M I ih ⊢;simp only[Q111.s0];refine Tot.cnd (λhi=>?_) λ_=>?_
 ·have hi:i<=7:=of_decide_eq_true hi;rw[aC (n:=i+1) (by omega) (by omega)];have R:∀ J:List ah,(J.length:Int)<=3*(i+1)->Tot (rec (J,i+1,z1,z2,w)) λr=>(WI r.1.2.1 2000/\r.1.1.length<=300)/\bg b (m+8*y.toNat+2) r.2.1:=λJ a0=>ih _ ⟨by show 0<=i+1;omega,by show i+1<=8;omega,a0,M,I⟩ (by show 8-(i+1).toNat<8-i.toNat;omega)
  exact Tot.cnd (λ_=>Tot.fit (Tot.fit (R _ (by simp;omega)) (by omega) (by simp;omega)) (by omega) (by simp;omega)) λ_=>R H (by omega)
 ·refine Tot.bind (CT K w 8 H I (by omega) (by omega) X) λv ⟨hv,ev⟩=>Tot.bind (aD h M y h1 (by omega)) λv4 ⟨⟨a4,b4⟩,s4⟩=>?_
  exact O v.2.1 v4.1.1 v4.2.1 v.1.1 (m+1+1) _ a4 b4 (by rw[ev];omega) s4 (by omega) hv (by omega)
theorem B4 (h:gv b)(H:bg b m s)(z:m<=90000)(y:1048577<K):Tot (Q112.f K (s,())) λr=>WI r.1.1 2000/\bg b (m+802) r.2.1:=by
 simp only[Q112.f];exact Tot.bind (B3 h H 100 (by decide) (by decide) z y) λv u=>Tot.ret ⟨u.1.1,u.2⟩
theorem EL (h:gv b)(J:bg b m s)(I:m<=90000)(z:1048577<K):Tot (Q190.f K (s,())) λr=>(∃ i,eN i r.1.1)/\bg b (m+803) r.2.1:=by
 simp only[Q190.f];refine Tot.bind (B4 h J I z) λw ⟨u,O⟩=>Tot.bind (aD h O _ (by have:=u.len;show (1:Int)<=(w.1.1.1.length:Int);omega) (by omega)) λv ⟨⟨a,b⟩,R⟩=>Tot.ix a b λy M _=>Tot.ret ⟨?_,R⟩
 obtain⟨i,H,rfl⟩:=FZ M;exact⟨i,u.node i H⟩
structure NS (c:Nat) (n:aa):Prop where
 nb:NB n
 table:(aa.table n).length<=c
 cast:(aa.cast n).length<=c
 doubts:(aa.doubts n).length<=c
 places:(aa.places n).length<=c
 others:(aa.others n).length<=c
theorem eN.ns {i:Nat}{n:aa}(h:eN i n):NS 8 n:=by
 cases y:n.2.1 with
 |true =>
  have r:=h.up y;refine⟨h.nb,by have:=h.short;omega,by have:=clen r.x.say;omega,?_,?_,?_⟩
  ·exact FR (jx r.x.say.asc r.x.say.inp) (by decide)
  ·exact FR (jx r.x.places.2 λx u=>(r.x.places.1 x u).1) (by decide)
  ·exact FR (jx r.x.others.2 λx u=>⟨(r.x.others.1 x u).1.1,Int.le_trans (r.x.others.1 x u).1.2 (by decide)⟩) (by decide)
 |false =>
  have e:=h.down y;refine⟨h.nb,?_,?_,?_,?_,?_⟩ <;> rw[e] <;> exact F6 _
theorem zj (h:gv b)(hs:bg b m s)(n:aa){c:Nat}(hn:NS c n)(h8:8<=c)(hc:c<=1000)(hm:m<=90000)(hK:1048577<K):Tot (Q121.f K (s,n,())) λr=>NS (c+1) r.1.1/\bg b (m+60) r.2.1:=by
 simp only[Q121.f,zcp4,zcp8];rw[nS K n hn.nb hK];simp only[FK];obtain⟨⟨n1,n2,n3,M,n5,O,n7,R⟩,Y,Z,l3,l4,l5⟩:=hn;refine Tot.bind (aD h hs 12 (by decide) (by omega)) λv2 ⟨_,I⟩=>?_
 have y:∀ (n':aa) (z:List Int×Int),n'.2.2.2.2.2.2.2.2=n.2.2.2.2.2.2.2.2->bg b (m+60) z->NS (c+1) n'/\bg b (m+60) z:=λn' z e hz=>by
  refine⟨⟨⟨?_,?_,?_,?_,?_,?_,?_,?_⟩,?_,?_,?_,?_,?_⟩,hz⟩ <;> simp only[aa.table,aa.cast,aa.doubts,aa.places,aa.others] <;> rw[e] <;> first|assumption|(refine FR ?_ (GD c);assumption)
 have u2:bg b (m+60) v2.2.1:=I.up (by omega);refine Tot.cnd (λ_=>Tot.bind (qY h I (by omega) hK) λt ⟨tl,J⟩=>Tot.ret ⟨⟨⟨by show t.1.1.length<=_;omega,n2,n3,M,n5,O,n7,R⟩,by show t.1.1.length<=_;omega,FJ Z,FJ l3,FJ l4,FJ l5⟩,J.up (by omega)⟩) λ_=>?_
 refine Tot.cnd (λ_=>Tot.bind (xC h I (by omega) hK) λt ⟨tl,J⟩=>Tot.ret ⟨⟨⟨n1,by show t.1.1.length<=_;omega,n3,M,n5,O,n7,R⟩,FJ Y,by show t.1.1.length<=_;omega,FJ l3,FJ l4,FJ l5⟩,J.up (by omega)⟩) λ_=>?_
 refine Tot.cnd (λ_=>Tot.ret (y _ _ rfl u2)) λ_=>?_
 refine Tot.cnd (λ_=>Tot.bind (aD h I 9 (by decide) (by omega)) λv5 ⟨_,s5⟩=>Tot.bind (aD h s5 3 (by decide) (by omega)) λv6 ⟨_,s6⟩=>Tot.bind (aD h s6 3 (by decide) (by omega)) λv7 ⟨_,s7⟩=>Tot.bind (aD h s7 2 (by decide) (by omega)) λv8 ⟨_,s8⟩=>Tot.ret ⟨⟨⟨n1,n2,n3,M,n5,O,n7,R⟩,FJ Y,FJ Z,FJ l3,FJ l4,FJ l5⟩,s8.up (by omega)⟩) λ_=>?_
 refine Tot.cnd (λ_=>Tot.bind (aD h I 8 (by decide) (by omega)) λv9 ⟨_,X⟩=>Tot.bind (aD h X 8 (by decide) (by omega)) λa1 ⟨_,H⟩=>Tot.fit (Tot.ret ⟨⟨⟨n1,n2,?_,?_,n5,O,n7,R⟩,FJ Y,FJ Z,?_,FJ l4,FJ l5⟩,H.up (by omega)⟩) (by omega) ?_) λ_=>?_
 ·show (aa.doubts n++[_]).length<=_;simp;omega
 ·intro d u;rcases FT.1 u with u|u
  ·exact M d u
  ·rw[FO.1 u];show ([a1.1.1]:List Int).length<=_;simp
 ·show (aa.doubts n++[_]).length<=_;simp;omega
 ·show (aa.doubts n).length+_<=_;simp;omega
 refine Tot.cnd (λ_=>Tot.bind (ni h I (by omega)) λc J=>Tot.ret ⟨⟨⟨n1,n2,n3,M,n5,O,n7,R⟩,FJ Y,FJ Z,FJ l3,FJ l4,FJ l5⟩,J.up (by omega)⟩) λ_=>?_
 refine Tot.cnd (λ_=>Tot.bind (aD h I 9 (by decide) (by omega)) λv9 ⟨_,X⟩=>Tot.bind (ni h X (by omega)) λc H=>Tot.bind (aD h H 3 (by decide) (by omega)) λa2 ⟨_,a0⟩=>Tot.fit (Tot.ret ⟨⟨⟨n1,n2,n3,M,?_,?_,n7,R⟩,FJ Y,FJ Z,FJ l3,?_,FJ l5⟩,a0.up (by omega)⟩) (by omega) ?_) λ_=>?_
 ·show (aa.places n++[_]).length<=_;simp;omega
 ·intro d u;rcases FT.1 u with u|u
  ·exact O d u
  ·rw[FO.1 u];show ([a2.1.1]:List Int).length<=_;simp
 ·show (aa.places n++[_]).length<=_;simp;omega
 ·show (aa.places n).length+_<=_;simp;omega
 refine Tot.cnd (λ_=>Tot.bind (aD h I 3 (by decide) (by omega)) λv9 ⟨_,X⟩=>Tot.bind (qY h X (by omega) hK) λt ⟨tl,H⟩=>Tot.fit (Tot.ret ⟨⟨⟨n1,n2,n3,M,n5,O,?_,?_⟩,FJ Y,FJ Z,FJ l3,FJ l4,?_⟩,H.up (by omega)⟩) (by omega) ?_) λ_=>?_
 ·show (aa.others n++[_]).length<=_;simp;omega
 ·intro d u;rcases FT.1 u with u|u
  ·exact R d u
  ·rw[FO.1 u];show t.1.1.length<=_;omega
 ·show (aa.others n++[_]).length<=_;simp;omega
 ·show (aa.others n).length+_<=_;simp;omega
 refine Tot.cnd (λ_=>Tot.ret (y _ _ rfl u2)) λ_=>Tot.cnd (λ_=>Tot.ret (y _ _ rfl u2)) λ_=>?_
 refine Tot.cnd (λ_=>Tot.bind (aD h I 3 (by decide) (by omega)) λv ⟨⟨a,b⟩,J⟩=>Tot.ix2 a b λ_ _ _=>Tot.ret (y _ _ rfl (J.up (by omega)))) λ_=>?_
 exact Tot.bind (aD h I 8 (by decide) (by omega)) λv9 ⟨_,X⟩=>Tot.bind (aD h X 3 (by decide) (by omega)) λv ⟨⟨a,b⟩,J⟩=>Tot.ix2 a b λ_ _ _=>Tot.ret (y _ _ rfl (J.up (by omega)))
end
section
variable {K:Nat} {b:List Int} {m:Nat} {s:List Int×Int}
theorem EK (h:gv b)(Y:bg b m s)(hm:m<=89000)(u:1048577<K):Tot (Q191.f K (s,())) λr=>NS 9 r.1.1/\bg b (m+864) r.2.1:=by
 simp only[Q191.f];refine Tot.bind (EL h Y (by omega) u) λn ⟨⟨i,y⟩,Z⟩=>Tot.bind (aD h Z 20 (by decide) (by omega)) λv ⟨_,z⟩=>Tot.cnd (λ_=>Tot.bind (zj h z n.1.1 y.ns (F7 _) (by omega) (by omega) u) λr X=>Tot.ret X) λ_=>Tot.ret ⟨?_,z.up (by omega)⟩
 obtain⟨H,I,J,M,O,R⟩:=y.ns;exact⟨H,FJ I,FJ J,FJ M,FJ O,FJ R⟩
end
theorem bg.zero (b:List Int):bg b 0 (b,0):=⟨0,F7 _,rfl⟩
structure zk (code:List Int):Prop where
 byte:∀ y∈code,0<=y/\y<=255
 len:code.length<=9223372036854775807
theorem pB (K:Nat)(xs:List Int)(z:xs.length<=1048576)(y:1048577<K):Q174.f K (xs,xs,())=rb true:=by
 have u:Q174.l0 K (xs,xs,()) 0=rb true:=by
  refine fV (step:=λrec a=>Q174.s0 K (xs,xs,()) rec a) xs.length (λi=>(i:Int)) (rb true) ?_ ?_ (by omega)
  ·intro rec i r;simp only[Q174.s0];rw[decide_eq_true (by omega:(i:Int)<(FM xs:Int)),af r,ar i (by omega)];simp only[cond_true,FK,bne_self_eq_false,cond_false]
  ·intro rec;simp only[Q174.s0,aS];rfl
 simp only[Q174.f,Q174.pre,bne_self_eq_false,cond_false];exact u
theorem uI (K:Nat)(xs:List aO)(z:xs.length<=1048576)(y:1048577<K):Q173.f K (xs,xs,())=rb true:=by
 have u:Q173.l0 K (xs,xs,()) 0=rb true:=by
  refine fV (step:=λrec a=>Q173.s0 K (xs,xs,()) rec a) xs.length (λi=>(i:Int)) (rb true) ?_ ?_ (by omega)
  ·intro rec i r;simp only[Q173.s0];rw[decide_eq_true (by omega:(i:Int)<(FM xs:Int)),af r,ar i (by omega)];simp only[cond_true,FK];rw[show Ty.eqv t3 xs[i] xs[i]=true by
    show (Ty.eqv t2 xs[i].1 xs[i].1&&decide (xs[i].2=xs[i].2))=true;rw[show Ty.eqv t2 xs[i].1 xs[i].1=decide (xs[i].1=xs[i].1) from iE _ _,decide_eq_true rfl,decide_eq_true rfl];rfl]
   rfl
  ·intro rec;simp only[Q173.s0,aS];rfl
 simp only[Q173.f,Q173.pre,bne_self_eq_false,cond_false];exact u
theorem vP (K:Nat)(n:aa)(u:NB n)(y:1048577<K):Q175.f K (n,n,())=rb true:=by
 have J:Q175.l2 K (n,n,()) 0=rb true:=by
  have z:=u.others;refine fV (step:=λrec a=>Q175.s2 K (n,n,()) rec a) (aa.others n).length (λi=>(i:Int)) (rb true) ?_ ?_ (by omega)
  ·intro rec i r;simp only[Q175.s2];rw[bt (by omega:(i:Int)<(FM (aa.others n):Int)),af r,ar i (by omega)];simp only[cond_true,FK,bne_self_eq_false,cond_false];refine (congrArg (λo=>FP o _) (lf K _ (u.facts _ (FU r)) y)).trans rfl
  ·intro rec;simp only[Q175.s2,aS];rfl
 have I:Q175.l1 K (n,n,()) 0=rb true:=by
  have z:=u.places;refine fV (step:=λrec a=>Q175.s1 K (n,n,()) (Q175.l2 K (n,n,())) rec a) (aa.places n).length (λi=>(i:Int)) (rb true) ?_ ?_ (by omega)
  ·intro rec i r;simp only[Q175.s1];rw[bt (by omega:(i:Int)<(FM (aa.places n):Int)),af r,ar i (by omega)];simp only[cond_true,FK,bne_self_eq_false,cond_false];rw[show Ty.eqv t9 (aa.places n)[i].2.1 (aa.places n)[i].2.1=decide ((aa.places n)[i].2.1=(aa.places n)[i].2.1) from qF _ _,decide_eq_true rfl];simp only[F5,cond_false];refine (congrArg (λo=>FP o _) (pB K _ (u.trips _ (FU r)) y)).trans rfl
  ·intro rec;simp only[Q175.s1,aS];exact J
 have H:Q175.l0 K (n,n,()) 0=rb true:=by
  have z:=u.doubts;refine fV (step:=λrec a=>Q175.s0 K (n,n,()) (Q175.l1 K (n,n,())) rec a) (aa.doubts n).length (λi=>(i:Int)) (rb true) ?_ ?_ (by omega)
  ·intro rec i r;simp only[Q175.s0];rw[bt (by omega:(i:Int)<(FM (aa.doubts n):Int)),af r,ar i (by omega)];simp only[cond_true,FK,bne_self_eq_false,cond_false];refine (congrArg (λo=>FP o _) (pB K _ (u.by_ _ (FU r)) y)).trans rfl
  ·intro rec;simp only[Q175.s0,aS];exact I
 simp only[Q175.f,Q175.pre,bne_self_eq_false,cond_false];refine (congrArg (λo=>FP o _) (lf K (aa.table n) u.table y)).trans ?_;simp only[rb,FK,F5,cond_false];refine (congrArg (λo=>FP o _) (uI K (aa.cast n) u.cast y)).trans ?_;simp only[rb,FK,F5,cond_false];rw[show Ty.eqv t2 n.2.2.2.2.2.2.2.2.2.2.1 n.2.2.2.2.2.2.2.2.2.2.1=decide (aa.probe n=aa.probe n) from iE _ _,show Ty.eqv t9 n.2.2.2.2.2.2.2.2.2.2.2.2.1 n.2.2.2.2.2.2.2.2.2.2.2.2.1=decide (aa.coord n=aa.coord n) from qF _ _,decide_eq_true rfl,decide_eq_true rfl];exact H
theorem Dt (K:Nat){t:List ah}{f:ah}(r:aE t)(u:f∈t)(y:1048577<K):Q136.f K (t,f.1,())=some ((f,true,()),()):=by
 rcases kg K t f.1 (cf r) y with ⟨h,_⟩|⟨_,⟨g,z,e,h⟩|⟨h,_⟩⟩
 ·exact absurd r h
 ·rw[h,iT r.2 z u e]
 ·exact absurd rfl (h f u)
theorem vQ (K:Nat)(w:aj)(u:(aj.table w).length<=1048576)(r:1048577<K):Q176.f K (w,w,())=rb true:=by
 simp only[Q176.f,beq_self_eq_true,cond_true];rw[show Ty.eqv t9 w.2.2.2.2.2.2.1 w.2.2.2.2.2.2.1=decide (w.2.2.2.2.2.2.1=w.2.2.2.2.2.2.1) from qF _ _,decide_eq_true rfl];simp only[cond_true];exact (congrArg (λo=>FP o _) (lf K (aj.table w) u r)).trans rfl
theorem uJ (K:Nat)(xs:List aj)(H:xs.length<=1048576)(z:∀ w∈xs,(aj.table w).length<=1048576)(u:1048577<K):Q177.f K (xs,xs,())=rb true:=by
 have y:Q177.l0 K (xs,xs,()) 0=rb true:=by
  refine fV (step:=λrec a=>Q177.s0 K (xs,xs,()) rec a) xs.length (λi=>(i:Int)) (rb true) ?_ ?_ (by omega)
  ·intro rec i r;simp only[Q177.s0];rw[bt (by omega:(i:Int)<(FM xs:Int)),af r,ar i (by omega)];simp only[cond_true,FK];exact (congrArg (λo=>FP o _) (vQ K _ (z _ (FU r)) u)).trans rfl
  ·intro rec;simp only[Q177.s0,aS];rfl
 simp only[Q177.f,Q177.pre,bne_self_eq_false,cond_false];exact y
section
variable {K:Nat} {b:List Int} {m:Nat} {s:List Int×Int}
theorem AB {v:Int}(r:0<=v)(u:v<8):0<=wr .i64 (GM v 4)/\wr .i64 (GM v 4)<=1:=by
 have:ak v=v / 4:=jO ⟨r,by omega⟩;have e:wr .i64 (GM v 4)=v / 4:=this;rw[e];omega
theorem AC (h:gv b)(hs:bg b m s)(hm:m<=90000)(O:1048577<K):Tot (Q122.f K (s,())) λr=>(aj.table r.1.1).length<=5/\bg b (m+100) r.2.1:=by
 simp only[Q122.f];refine Tot.bind (aD h hs 8 (by decide) (by omega)) λv1 ⟨⟨R,Z⟩,s1⟩=>Tot.bind (aD h s1 6 (by decide) (by omega)) λv2 ⟨_,s2⟩=>Tot.bind (aD h s2 4 (by decide) (by omega)) λv3 ⟨_,s3⟩=>Tot.bind (aD h s3 9 (by decide) (by omega)) λv4 ⟨_,s4⟩=>Tot.bind (aD h s4 3 (by decide) (by omega)) λv5 ⟨⟨Y,b5⟩,s5⟩=>Tot.ix2 Y b5 λy _ _=>?_
 obtain⟨q0,q1⟩:=AB R Z;refine Tot.bind (aD h s5 4 (by decide) (by omega)) λv8 ⟨_,s8⟩=>Tot.bind (sL h s8 (by omega)) λc s9=>Tot.bind (o8 h s9 (wr .i64 (GM v1.1.1 4)) (by omega) q1 (by omega) O) λt ⟨⟨_,_,t3⟩,u⟩=>?_
 refine Tot.cnd (λ_=>?_) λ_=>Tot.ret ⟨t3,u.up (by omega)⟩
 refine Tot.bind (aD h u 2 (by decide) (by omega)) λM ⟨⟨X,a0⟩,H⟩=>Tot.bind (o8 h H M.1.1 (by omega) (by omega) (by omega) O) λt' ⟨⟨_,_,t4⟩,I⟩=>Tot.bind (aD h I 2 (by decide) (by omega)) λa2 ⟨_,z⟩=>Tot.cnd (λ_=>?_) λ_=>Tot.ret ⟨t4,z.up (by omega)⟩
 exact Tot.bind (aD h z 4 (by decide) (by omega)) λa3 ⟨_,J⟩=>Tot.ret ⟨t4,J.up (by omega)⟩
theorem zm (h:gv b)(I:bg b m s)(M:m<=89000)(H:1048577<K):Tot (Q123.f K (s,())) λr=>(aj.table r.1.1).length<=6/\bg b (m+120) r.2.1:=by
 simp only[Q123.f,zcp4];refine Tot.bind (AC h I (by omega) H) λw ⟨O,J⟩=>Tot.bind (aD h J 16 (by decide) (by omega)) λR ⟨_,z⟩=>?_
 have u:(aj.table w.1.1).length<=6:=by omega
 refine Tot.cnd (λ_=>Tot.bind (aD h z 2 (by decide) (by omega)) λv ⟨⟨a,c⟩,y⟩=>Tot.ix2 a c λ_ _ _=>Tot.ret ⟨u,y.up (by omega)⟩) λ_=>?_
 refine Tot.cnd (λ_=>Tot.bind (aD h z 4 (by decide) (by omega)) λv ⟨_,y⟩=>Tot.ret ⟨u,y.up (by omega)⟩) λ_=>?_
 refine Tot.cnd (λ_=>Tot.bind (ni h z (by omega)) λv y=>Tot.ret ⟨u,y.up (by omega)⟩) λ_=>?_
 refine Tot.cnd (λ_=>Tot.bind (oe h z (by omega)) λv y=>Tot.fit (Tot.ret ⟨?_,y.up (by omega)⟩) (by omega) (by show (aj.table w.1.1).length+_<=_;simp;omega)) λ_=>?_
 ·show (aj.table w.1.1++[_]).length<=6;simp;omega
 refine Tot.cnd (λ_=>Tot.bind (aD h z 2 (by decide) (by omega)) λv ⟨⟨a,c⟩,y⟩=>Tot.ix2 a c λ_ _ _=>Tot.ret ⟨u,y.up (by omega)⟩) λ_=>?_
 refine Tot.cnd (λ_=>Tot.bind (aD h z 2 (by decide) (by omega)) λv ⟨⟨a,c⟩,y⟩=>Tot.ix2 a c λ_ _ _=>Tot.ret ⟨u,y.up (by omega)⟩) λ_=>Tot.ret ⟨u,z.up (by omega)⟩
theorem to_t (h:gv b)(hs:bg b m s)(w:bY)(n:aa)(hr:gC w.2.1)(hm:m<=80000)(hK:1048577<K):Tot (Q124.f K (s,w,n,())) λr=>(aj.table r.1.1).length<=1048576:=by
 refine Tot.iter (step:=λrec a=>Q124.s0 K (s,w,n,()) rec a) (λa=>∃ i:Nat,i<=3/\a.1=(i:Int)/\bg b (m+i) a.2) (λa=>3-a.1.toNat) ?_ K _ (by show 3-FL 0<K;omega) ⟨0,by omega,rfl,hs⟩;rintro rec ⟨i',z⟩ ⟨i,hi,e,J⟩ ih;have e:i'=(i:Int):=e;subst e;have J:bg b (m+i) z:=J;have u:Tot ((Q123.f K (z,())).bind λH=>(Q9.f K (H.2.1,10,())).bind λX=>bif decide (X.1.1>0) then some ((((H.1.1.1,H.1.1.2.1,H.1.1.2.2.1,n.1,H.1.1.2.2.2.2),()),X.2.1,()):(aj×Unit)×(List Int×Int)×Unit) else some ((H.1.1,()),X.2.1,())) λr=>(aj.table r.1.1).length<=1048576 :=
  Tot.bind (zm h J (by omega) hK) λv ⟨hv,I⟩=>Tot.bind (aD h I 10 (by decide) (by omega)) λ_ _=>Tot.cnd (λ_=>Tot.ret (show (aj.table v.1.1).length<=1048576 by omega)) λ_=>Tot.ret (show (aj.table v.1.1).length<=1048576 by omega)
 simp only[Q124.s0];refine Tot.cnd (λh3=>Tot.cnd (λZ=>?_) λ_=>u) λ_=>u
 have h3:(i:Int)<3:=of_decide_eq_true h3;have Z:(w.2.1.length:Int)>0:=of_decide_eq_true Z;rw[ar i (by omega)];refine Tot.bind (aD h J (w.2.1.length:Int) (by omega) (by omega)) λv1 ⟨⟨a1,b1⟩,I⟩=>Tot.ix a1 b1 λy hy _=>?_
 have a0:=(hr.2 y hy).2;have next:∀ Y,bg b (m+(i+1)) Y->Tot (rec (((i+1:Nat):Int),Y)) λr=>(aj.table r.1.1).length<=1048576:=λY R=>ih _ ⟨i+1,by omega,rfl,R⟩ (by show 3-FL ((i+1:Nat):Int)<3-FL (i:Int);omega)
 refine Tot.bind (na K y.2.1 (by omega) hK) λv3 O=>Tot.cnd (λM=>?_) λ_=>next _ I
 have hW:=O M;rw[de K,de K];simp only[FK];exact Tot.cnd (λ_=>Tot.cnd (λ_=>Tot.ret (show (aj.table v3.1.1).length<=1048576 from cf hW.2.2.2.2.2.2.2.1)) λ_=>next _ I) λ_=>next _ I
end
theorem xD (K:Nat)(u:List Int)(M:zk u)(H:1048577<K):Tot (Q125.f K (u,())) λr=>NS 9 r.1.1/\(aj.table r.1.2.1).length<=1048576:=by
 obtain⟨Z,z,e⟩:=CU (K:=K) u M.byte M.len;simp only[Q125.f];refine Tot.vl e (Tot.bind (B4 z (bg.zero Z) (by omega) H) λw ⟨I,s1⟩=>Tot.bind (aD z s1 _ (by have:=I.len;show (1:Int)<=(w.1.1.1.length:Int);omega) (by omega)) λv3 ⟨⟨X,Y⟩,s3⟩=>Tot.ix X Y λy hy _=>?_);obtain⟨i,hi,rfl⟩:=FZ hy;have O:=(I.node i hi).ns;refine Tot.bind (aD z s3 24 (by decide) (by omega)) λv5 ⟨_,R⟩=>Tot.cnd (λ_=>?_) λ_=>?_
 ·exact Tot.bind (zj z R _ O (F7 _) (by omega) (by omega) H) λv6 ⟨J,s6⟩=>Tot.bind (to_t z s6 w.1.1 v6.1.1 I.radio (by omega) H) λv7 h7=>Tot.ret ⟨J,h7⟩
 ·refine Tot.bind (to_t z R w.1.1 _ I.radio (by omega) H) λv8 h8=>Tot.ret ⟨?_,h8⟩
  obtain⟨h1,h2,h3,h4,h5,h6⟩:=O;exact⟨h1,FJ h2,FJ h3,FJ h4,FJ h5,FJ h6⟩
end Go.Proofs.YtmibehbhnkeaiaaGreatEv
