/- A tick, by the specification: what it comes to, and what is sent. -/
import Derived.Test.YtmcbmojdeikcdaaGreatP2
open Int renaming toNat->AC,toNat_natCast->AD,eq_ofNat_of_zero_le->AK,toNat_zero->AR,tmod->AT,fdiv->AW,toNat_of_nonneg->Ae,tmod_lt_of_pos->Af,tmod_nonneg->Ak
open List renaming length->AE,mem_singleton->AF,mem_append->AG,length_set->AH,length_append->AJ,mem_of_mem_take->AL,mem_map->AN,length_take->AO,mem_filter->AP,nil_append->AQ,drop_zero->AS,getElem_of_mem->AV,length_drop->AX,length_map->AY,length_nil->AZ,length_filter_le->Aa,pairwise_append->Ab,getElem_mem->Ag,length_cons->Ah,take_length->Ai,not_mem_nil->Aj,mem_cons->Al
open Nat renaming le_succ_of_le->AA,le_trans->AI,zero_le->AU,le_succ->Ac,le_refl->Ad
open Option renaming bind_some->AB,bind->AM
namespace Go.Proofs.YtmcbmojdeikcdaaGreatEv
open Go
theorem sJ {n:aa}(h:∀ k,k<8->¬ gk n k):gV n=none:=by
 unfold gV;rw[List.find?_eq_none];intro x hx;obtain⟨k,hk,rfl⟩:=AN.1 hx;have:=h k (by simpa using hk);unfold gk at this;simpa using this
theorem sK {n:aa}{k:Nat}(hk:k<8)(hc:gk n k)(h:∀ j,j<k->¬ gk n j):gV n=some (cr n k):=by
 unfold gV;rw[List.find?_map,List.find?_range_eq_some.2 ⟨?_,by simpa using hk,λj hj=>?_⟩]
 ·rfl
 ·unfold gk at hc;simpa using hc
 ·have:=h j hj;unfold gk at this;simpa[Classical.or_iff_not_imp_left]using this
theorem tq (K:Nat)(n:aa)(h:cI n)(hq:rI n)(hK:1048577<K):Q135.f K (n,())=some (((dv n).1,(dv n).2,()),()):=by
 obtain⟨⟨q0,q1⟩,⟨t0,t1⟩⟩:=hq;obtain⟨to,es,hto⟩:=yg K n h t0 t1 hK;simp only[Q135.f];rw[es];simp only[AB,dv];by_cases hmax:iN n>=999999
 ·rw[decide_eq_true hmax,show decide (n.2.2.2.2.2.2.1>=999999)=true from decide_eq_true hmax];cases decide (to<0) <;> rfl
 ·rw[decide_eq_false hmax,show decide (n.2.2.2.2.2.2.1>=999999)=false from decide_eq_false hmax];simp only[cond_false];rcases hto with ⟨rfl,hno⟩|⟨k,hk,hkc,hkf,rfl⟩
  ·rw[sJ hno];rfl
  ·rw[sK hk hkc hkf];have hk0:0<=cr n k/\cr n k<8:=⟨Ak _ (by omega),Af _ (by omega)⟩;rw[decide_eq_false (by omega:¬ cr n k<0)];simp only[cond_false];rw[th K n _ h hK];simp only[AB];have hwr:wr .i64 (iN n+1)=iN n+1:=aL (by omega) (by omega);rw[show wr .i64 ((jv n).2.2.2.2.2.2.1+1)=n.2.2.2.2.2.2.1+1 from hwr,aL (n:=cr n k+1) (by omega) (by omega)];simp only[Q92.f];rw[szb _ _ _ (by omega) (by have:=cF (mD h (cr n k));simp;omega)];rfl
def gl (w:au):Prop:=InP w.2.2.2.1 0 7/\(au.table w).length<=1048576
theorem rQ {n:aa}(hT:az (aa.table n)):(cX n).2.length<=2/\∀ w∈(cX n).2,gl w:=by
 have nope:([]:List au).length<=2/\∀ w∈([]:List au),gl w:=⟨by simp,by simp⟩;unfold cX;cases (aa.probe n).1==-1 with
 |true=>exact nope
 |false =>
  cases !dY (aW (aa.table n) (aa.probe n).1) with
  |true=>exact nope
  |false =>
   cases decide (n.2.2.2.2.2.1-(aa.probe n).2.1>=4) with
   |true=>exact nope
   |false =>
    cases decide (n.2.2.2.2.2.1-(aa.probe n).2.1>=2) with
    |false=>exact nope
    |true =>
     cases !(aa.probe n).2.2.2 with
     |false=>exact nope
     |true =>
      simp only[cond_true,cond_false];refine⟨by rw[AY];exact List.length_take_le _ _,λw hw=>?_⟩;obtain⟨to,hto,rfl⟩:=AN.1 hw;obtain⟨f,hf,rfl⟩:=AN.1 (AL hto);exact⟨(hT.1 f (AP.1 hf).1).1,AU _⟩
theorem xI {n:aa}(h:cI n):(dv n).2.length<=1/\∀ w∈(dv n).2,gl w:=by
 have nope:([]:List au).length<=1/\∀ w∈([]:List au),gl w:=⟨by simp,by simp⟩;unfold dv;cases decide (iN n>=999999) with
 |true=>exact nope
 |false =>
  simp only[cond_false];cases hx:gV n with
  |none=>exact nope
  |some to =>
   refine⟨by simp,λw hw=>?_⟩;rw[AF.1 hw];obtain⟨g1,g2,g3⟩:=et h.table (gf (pX hx).2);exact⟨g2 ▸ g1.1,cF (mD h to)⟩
theorem zp {n:aa}(hO:ck n.1 (aa.others n)){s d:Int}(hs:InP s 0 1):InP (k9 n s d) 0 7:=by
 unfold k9;cases hc:decide (dc (cD (aa.others n) s)≠[])&&bd .i64 d 4==0 with
 |true =>
  rw[Bool.and_eq_true,decide_eq_true_eq]at hc;have:=(gw (d:=AW d (2 ^ 3)) hc.1).2.2;unfold dc at this;obtain⟨f,hf,e⟩:=AN.1 (AL this);simp only[cond_true];show InP (fQ (dc (cD (aa.others n) s)) (AW d (2 ^ 3))) 0 7;unfold dc;rw[<- e];exact ((nG hO s).1 f (AP.1 hf).1).1
 |false =>
  obtain⟨b0,b1⟩:=kC (a:=AW d (2 ^ 3)) (m:=3) (by omega);have b0:0<=bd .i64 (AW d (2 ^ 3)) 3:=b0;have b1:bd .i64 (AW d (2 ^ 3)) 3<=3:=b1;obtain⟨s0,s1⟩:=hs;simp only[cond_false];exact⟨by omega,by omega⟩
theorem tr {n:aa}(hT:az (aa.table n))(hO:ck n.1 (aa.others n))(draw:Int):(jf n draw).length<=2/\∀ w∈jf n draw,gl w:=by
 have nope:([]:List au).length<=2/\∀ w∈([]:List au),gl w:=⟨by simp,by simp⟩;unfold jf;cases bd .i64 draw 3==1 with
 |true =>
  simp only[cond_true,la];cases kD n with
  |false=>exact nope
  |true =>
   refine⟨?_,λw hw=>?_⟩
   ·show ((([0,1]:List Int).filter (λs=>s != ap n.1)).map _).length<=2;rw[AY];exact Aa _ _
   ·obtain⟨s,hs,rfl⟩:=AN.1 hw;refine⟨zp hO ?_,cF hT⟩;have:=(AP.1 hs).1;simp at this;rcases this with rfl|rfl <;> exact⟨by decide,by decide⟩
 |false =>
  simp only[cond_false];by_cases hth:eN n=[]
  ·rw[decide_eq_true hth,Bool.or_true];exact nope
  ·rw[decide_eq_false hth,Bool.or_false];obtain⟨f,hf,e⟩:=AN.1 (gw (d:=AW draw (2 ^ 2)) hth).2.2;have hto:InP (fQ (eN n) (AW draw (2 ^ 2))) 0 7:=by
    rw[<- e];exact (hT.1 f (AP.1 hf).1).1
   cases bd .i64 draw 3==3 with
   |true=>exact nope
   |false =>
    simp only[cond_false];cases bd .i64 draw 3==0 with
    |true=>exact⟨by simp,λw hw=>by rw[AF.1 hw];exact⟨hto,cF hT⟩⟩
    |false =>
     simp only[cond_false,rH]
     match ho:aa.others n with
     |[]=>exact nope
     |x::_=>exact⟨by simp,λw hw=>by rw[AF.1 hw];exact⟨hto,cF (hO.1 x (by rw[ho];simp)).2.2.2.1⟩⟩
theorem UpX.far {n:aa}(h:UpX n):qI n:=⟨by rcases gU h.me h.others with e|⟨x,e⟩ <;> rw[e] <;> simp,λx hx=>⟨(h.others.1 x hx).2.2.2.1,cF (h.others.1 x hx).2.2.2.1⟩⟩
theorem p7 {n:aa}(h:UpX n)(hn:bZ n<=1000000):((aa.probe n).1=-1\/0<=(aa.probe n).1)/\0<=(aa.probe n).2.1/\(aa.probe n).2.1<=1000000:=by
 have hPr:=h.probe;have hnn:bZ n=n.2.2.2.2.2.1:=rfl;unfold cM at hPr;split at hPr
 ·rename_i h1;rw[hPr];exact⟨.inl rfl,by show (0:Int)<=0;omega,by show (0:Int)<=1000000;omega⟩
 ·obtain⟨_,⟨f,hf,e⟩,⟨s0,s1⟩,_⟩:=hPr;have:=(h.table.1 f hf).1.1;exact⟨.inr (e ▸ this),s0,by omega⟩
theorem zq {n:aa}(h:UpN n)(hm:bZ n<999999)(draw:Int):(ov n draw).length<=5/\∀ w∈ov n draw,gl w:=by
 have hT:=(lO h.x.later (show cP (dG n) from h.self)).1.table;obtain⟨f1,f2⟩:=rQ hT;obtain⟨h1,_,_⟩:=ox h hm;have h2:=(pj h hm).1;obtain⟨d1,d2⟩:=tr h2.x.table h2.x.others draw;have ha:(eP (eQ n).1).2.length<=1/\∀ w∈(eP (eQ n).1).2,gl w:=by
  unfold eP;cases (aa.probe (eQ n).1).1==-1 with
  |true=>exact xI h1.x.say
  |false=>exact⟨by simp,by simp⟩
 unfold ov;have f1:(eQ n).2.length<=2:=f1;refine⟨by rw[AJ,AJ];omega,λw hw=>?_⟩;rcases AG.1 hw with hw|hw
 ·rcases AG.1 hw with hw|hw
  ·exact f2 w hw
  ·exact ha.2 w hw
 ·exact d2 w hw
theorem zr (K:Nat)(n:aa)(draw:Int)(h:UpN n)(hg:n.2.2.1=false)(hm:bZ n<999999)(hK:1048577<K):Q142.f K (n,draw,())=some ((jU n,ov n draw,()),()):=by
 have hn0:=h.x.now0;simp only[Q142.f];refine (congrArg (λb=>bif !b then _ else _) h.up).trans ?_;refine (congrArg (λb=>bif b then _ else _) hg).trans ?_;refine (congrArg (λb=>bif b then _ else _) (decide_eq_false (show ¬ n.2.2.2.2.2.1>=999999 by have:bZ n=n.2.2.2.2.2.1:=rfl;omega))).trans ?_;simp only[cond_false];rw[show wr .i64 (n.2.2.2.2.2.1+1)=n.2.2.2.2.2.1+1 from aL (by have:bZ n=n.2.2.2.2.2.1:=rfl;omega) (by have:bZ n=n.2.2.2.2.2.1:=rfl;omega)];have hl:UpX (dG n):=h.x.later;have hdd:∀ d∈aa.doubts (dG n),0<=d.2.2.1/\d.2.2.1<=(dG n).2.2.2.2.2.1/\d.2.2.2.length<=1048576:=λd hd=>by
  obtain⟨_,⟨s0,s1⟩,_,h4⟩:=hl.doubts.1 d hd;exact⟨s0,s1,AI (gS (k:=λx=>x) h4.2 λx hx=>(h4.1 x hx).1) (by decide)⟩
 have hkey:∀ d∈aa.doubts (dG n),∃ f∈aa.table (dG n),f.1=d.1:=λd hd=>by
  obtain⟨⟨f,hf,e,_⟩,_⟩:=hl.doubts.1 d hd;exact⟨f,hf,e⟩
 have hnow:(dG n).2.2.2.2.2.1<=1000000:=by show bZ n+1<=1000000;omega
 refine (congrArg (λo=>AM o _) (za K (dG n) ⟨hl.say,hkey,rfl⟩ hdd hnow hK)).trans ?_;simp only[AB];obtain⟨b1,b2,t,c,ds,eb⟩:=lO hl (show cP (dG n) from h.self);have hseq:rI (eQ n).1:=(ox h hm).1.seq;have hmnow:bZ (js (dG n))=bZ n+1:=by rw[eb];rfl
 have hp:=p7 b1 (by omega);obtain⟨fw1,_⟩:=rQ b1.table;have h2:=(pj h hm).1;have hmore:=zi K (jU n) draw h2.x.far h2.x.table (cF h2.x.table) hK;have hmid:=(ox h hm).1;obtain⟨aw1,_⟩:=xI hmid.x.say;obtain⟨dw1,_⟩:=tr h2.x.table h2.x.others draw;unfold jU eP eQ at hmore h2 dw1;unfold eQ at hseq hmid aw1;unfold ov jU eP eQ;generalize js (dG n)=m at *;rcases hp.1 with hp1|hp1
 ·have e0:cX m=(m,[]):=by unfold cX;rw[show ((aa.probe m).1==-1)=true by simpa using hp1];rfl
  rw[e0]at hmore hseq hmid aw1 dw1 ⊢;refine (congrArg (λb=>bif b then _ else _) (decide_eq_false (show ¬ m.2.2.2.2.2.2.2.2.2.2.1.1>=0 by have:(aa.probe m).1=m.2.2.2.2.2.2.2.2.2.2.1.1:=rfl;omega))).trans ?_;refine (congrArg (λb=>bif b then _ else _) (decide_eq_true (show m.2.2.2.2.2.2.2.2.2.2.1.1<0 by have:(aa.probe m).1=m.2.2.2.2.2.2.2.2.2.2.1.1:=rfl;omega))).trans ?_;refine (congrArg (λo=>AM o _) (tq K m hmid.x.say hseq hK)).trans ?_;simp only[AB];rw[show ((aa.probe m).1==-1)=true by simpa using hp1]at hmore dw1 ⊢;simp only[cond_true]at hmore dw1 aw1 ⊢;rw[szw _ _ _ (by omega) (by simp;omega)];simp only[cond_true];refine (congrArg (λo=>AM o _) hmore).trans ?_;simp only[AB];rw[szw _ _ _ (by omega) (by simp;omega)];rfl
 ·refine (congrArg (λb=>bif b then _ else _) (decide_eq_true (show m.2.2.2.2.2.2.2.2.2.2.1.1>=0 from hp1))).trans ?_;refine (congrArg (λo=>AM o _) (zb K m b1.say (by omega) hp.2.1 hp.2.2 b1.now0 (by have:bZ m=m.2.2.2.2.2.1:=rfl;omega) hK)).trans ?_;simp only[AB];generalize cX m=fo at *;obtain⟨m2,ws⟩:=fo;simp only at hmore hseq hmid aw1 dw1 fw1 ⊢;have hp2:=(p7 hmid.x (by have:=hmid.now1;omega)).1;rcases hp2 with hp2|hp2
  ·refine (congrArg (λb=>bif b then _ else _) (decide_eq_true (show m2.2.2.2.2.2.2.2.2.2.2.1.1<0 by have:(aa.probe m2).1=m2.2.2.2.2.2.2.2.2.2.2.1.1:=rfl;omega))).trans ?_;refine (congrArg (λo=>AM o _) (tq K m2 hmid.x.say hseq hK)).trans ?_;simp only[AB];rw[show ((aa.probe m2).1==-1)=true by simpa using hp2]at hmore dw1 ⊢;simp only[cond_true]at hmore dw1 ⊢;rw[szw _ _ _ (by omega) (by omega)];simp only[cond_true];refine (congrArg (λo=>AM o _) hmore).trans ?_;simp only[AB];rw[szw _ _ _ (by omega) (by rw[AJ];omega)];rfl
  ·refine (congrArg (λb=>bif b then _ else _) (decide_eq_false (show ¬ m2.2.2.2.2.2.2.2.2.2.2.1.1<0 by have:(aa.probe m2).1=m2.2.2.2.2.2.2.2.2.2.2.1.1:=rfl;omega))).trans ?_;rw[show ((aa.probe m2).1==-1)=false by simp;omega]at hmore dw1 ⊢;simp only[cond_false]at hmore dw1 ⊢;refine (congrArg (λo=>AM o _) hmore).trans ?_;simp only[AB,List.append_nil];rw[szw _ _ _ (by omega) (by omega)];rfl
def kE (l:List b8)(s:Int):List af:=(l.filter λx=>x.1==s).flatMap (·.2)
def cG (n:aa)(s:Int):List af:=(bif s==ap n.1 then aa.table n else [])++kE (aa.others n) s
theorem nH {t:List af}(h:Asc (λf:af=>f.1) t):t.Pairwise λa b=>ltF a b=true :=
 h.imp λ {a b} h=>by rw[mF,jT];exact .inl h
theorem sL {n:aa}(hn:NB n)(hP:db n)(hu:n.2.1=true):de ltF [] (dM n)=cG n 0++cG n 1:=by
 have hm:=hP.1;obtain⟨hT,hS,_,_,_,_,_,_,hO⟩:=hP.up hu;have hp:(de ltF [] (dM n)).Perm (dM n):=by simpa using iZ ltF (dM n) []
 have hsrt:ik ltF (de ltF [] (dM n)):=lN ltF vo vp _ _ List.Pairwise.nil;have hsite:ap n.1=0\/ap n.1=1:=by
  rw[eB hm];obtain⟨m1,m2⟩:=hm;omega
 have across:∀ (t u:List af) (s:Int),az t->bM t s->az u->bM u (s+1)->(t++u).Pairwise λa b=>ltF a b=true:=by
  intro t u s ht hts hu hus;rw[Ab];refine⟨nH ht.2,nH hu.2,λa ha b hb=>?_⟩;rw[mF,jT];have h1:=hts a ha;have h2:=hus b hb;rw[eB (ht.1 a ha).1]at h1;rw[eB (hu.1 b hb).1]at h2;exact .inl (by omega)
 rcases gU hm hO with h|⟨x,h⟩
 ·rw[show cG n 0++cG n 1=aa.table n by
   unfold cG kE;rw[h];rcases hsite with e|e <;> rw[e] <;> simp]
  refine iw ltF ?_ hsrt (nH hT.2);unfold dM at hp ⊢;rw[h]at hp ⊢;simpa using hp
 ·obtain⟨⟨x1,x2⟩,x3,_,x4,x5⟩:=hO.1 x (by rw[h];simp);rcases hsite with e|e
  ·have ex:x.1=1:=by omega
   have e2:cG n 0++cG n 1=aa.table n++x.2:=by
    unfold cG kE;rw[h,e];simp[ex]
   rw[e2];refine iw ltF ?_ hsrt (across _ _ 0 hT (by rw[e]at hS;exact hS) x4 (by rw[ex]at x5;exact x5));unfold dM at hp ⊢;rw[h]at hp ⊢;simpa using hp
  ·have ex:x.1=0:=by omega
   have e2:cG n 0++cG n 1=x.2++aa.table n:=by
    unfold cG kE;rw[h,e];simp[ex]
   rw[e2];refine iw ltF ?_ hsrt (across _ _ 0 x4 (by rw[ex]at x5;exact x5) hT (by rw[e]at hS;exact hS));unfold dM at hp ⊢;rw[h]at hp ⊢;have:(aa.table n++x.2).Perm (x.2++aa.table n):=List.perm_append_comm;have hp2:(de ltF [] (aa.table n++[x].flatMap (·.2))).Perm (aa.table n++x.2):=by simpa using hp
   exact hp2.trans this
def gi (n:aa):List af:=de ltF [] (dM n)
theorem un {n:aa}(hn:NB n)(hP:db n):(gi n).length<=8:=by
 have hp:(gi n).Perm (dM n):=by unfold gi;simpa using iZ ltF (dM n) []
 rw[hp.length_eq];exact (pU hn hP).1
theorem xd (K:Nat)(n:aa)(hn:NB n)(hP:db n)(hK:1048577<K):Q185.f K (n,())=some ((gi n,()),()) :=
 zf K n hn (by have:=(pU hn hP).1;omega) hK
theorem rR (K:Nat)(l:List af)(f:af)(hl:l.length<=1048576)(hK:1048577<K):Ret (Q78.f K (l,f,())) (f∈l):=by
 have:=cU (step:=λrec a=>Q78.l0.step K (l,f,()) rec a) l.length (λi=>(i:Int)) (λj=>∃ h:j<l.length,l[j]=f) (rb false) (λ_=>rb true) ?_ ?_ l.length K 0 (by omega) (by omega)
 ·rcases this with ⟨h1,h2⟩|⟨j,_,_,⟨h3,h4⟩,_,h2⟩
  ·refine⟨false,h2,?_⟩;refine⟨λh=>absurd h (by decide),λhf=>?_⟩;obtain⟨i,hi,e⟩:=AV hf;exact absurd ⟨hi,e⟩ (h1 i (AU _) hi)
  ·exact⟨true,h2,λ_=>h4 ▸ Ag h3,λ_=>rfl⟩
 ·intro rec i hi;simp only[Q78.l0.step];rw[bN (by omega:(i:Int)<(AE l:Int)),ai hi,av i (by omega)];simp only[cond_true,AB];rw[lH];by_cases h:l[i]=f
  ·rw[decide_eq_true h];exact .inr ⟨⟨hi,h⟩,rfl⟩
  ·rw[decide_eq_false h];exact .inl ⟨λ⟨_,h2⟩=>h h2,rfl⟩
 ·intro rec;simp only[Q78.l0.step,bh];rfl
theorem UpN.nb {n:aa}(h:UpN n):NB n where
 table:=cF h.x.table
 cast:=by have:=clen h.x.say;omega
 doubts:=h.x.say.ld
 by_:=λd hd=>by have:=(h.learns.by_ d hd).len;omega
 places:=plen h.x.places
 trips:=λp hp=>by have:=(h.x.places.1 p hp).2.2.2.2.1.2;omega
 others:=olen h.x.others
 facts:=λx hx=>cF (h.x.others.1 x hx).2.2.2.1
def iz (me:Int)(g:Bool):aa:=(me,false,false,g,0,0,0,0,[],[],(0,0,0,false),[],(0,0,0,0),[],[])
structure dw (i:Nat) (n:aa):Prop where
 me:n.1=(i:Int)
 lt:i<8
 up:n.2.1=true->UpN n
 down:n.2.1=false->n=iz n.1 n.2.2.2.1
theorem dw.nb {i:Nat}{n:aa}(h:dw i n):NB n:=by
 cases hu:n.2.1 with
 |true=>exact (h.up hu).nb
 |false =>
  rw[h.down hu];exact⟨by simp[iz,aa.table],by simp[iz,aa.cast],by simp[iz,aa.doubts],by simp[iz,aa.doubts],by simp[iz,aa.places],by simp[iz,aa.places],by simp[iz,aa.others],by simp[iz,aa.others]⟩
theorem dw.short {i:Nat}{n:aa}(h:dw i n):(aa.table n).length<=4:=by
 cases hu:n.2.1 with
 |true=>exact ka (h.up hu).x.table (h.up hu).x.site
 |false=>rw[h.down hu];exact AU _
theorem dw.of {i:Nat}{n m:aa}(h:dw i n)(hm:UpN m)(e:m.1=n.1):dw i m:=⟨e.trans h.me,h.lt,λ_=>hm,λhu=>by rw[hm.up]at hu;cases hu⟩
def fT (l:List kB):Prop:=l.length<=60/\∀ f∈l,InP f.1 0 7/\f.2.1.size<=2000
structure WI (w:bS) (c:Nat):Prop where
 len:w.1.length=8
 node:∀ (i:Nat) (h:i<w.1.length),dw i w.1[i]
 radio:fT w.2.1
 sides:w.2.2.1.length=8
 born:w.2.2.2.length<=c
theorem WI.mono {w:bS}{c d:Nat}(h:WI w c)(hc:c<=d):WI w d:=⟨h.len,h.node,h.radio,h.sides,AI h.born hc⟩
theorem WI.put {w:bS}{c:Nat}(h:WI w c){i:Nat}{n:aa}(hn:dw i n){rd:List kB}(hr:fT rd){b:List af}{d:Nat}(hb:b.length<=d):WI (w.1.set i n,rd,w.2.2.1,b) d:=by
 refine⟨by rw[AH];exact h.len,λj hj=>?_,hr,h.sides,hb⟩;show dw j ((w.1.set i n)[j]'hj);rw[List.getElem_set];split
 ·rename_i e;exact e ▸ hn
 ·exact h.node j _
theorem vJ (K:Nat)(w:bS)(fr:Int)(ws:List au)(hs:w.2.2.1.length=8)(hf:InP fr 0 7)(hw:∀ x∈ws,gl x)(hr:fT w.2.1)(hl:ws.length<=1000)(hK:1048577<K) :
  Tot (Q77.f K (w,fr,ws,())) λr=>∃ rd,fT rd/\r.1.1=(w.1,rd,w.2.2):=by
 simp only[Q77.f,Q77.pre];obtain⟨f0,f1⟩:=hf;refine Tot.iter (step:=λrec a=>Q77.l0.step K (w,fr,ws,()) rec a) (λa=>0<=a.1/\a.1<=ws.length/\fT a.2) (λa=>ws.length-a.1.toNat) ?_ K _ (by show ws.length-AC 0<K;omega) ⟨by show (0:Int)<=0;omega,by show (0:Int)<=_;omega,hr⟩;rintro rec ⟨i,rd⟩ ⟨h0,h1,h2⟩ ih;simp only at h0 h1 h2 ih ⊢;simp only[Q77.l0.step];refine Tot.cnd (λh=>?_) λ_=>Tot.ret ⟨rd,h2,rfl⟩
 have h:=of_decide_eq_true h;rw[aL (n:=i+1) (by omega) (by omega)];have go:∀ rd',fT rd'->Tot (rec (i+1,rd')) λr=>∃ rd,fT rd/\r.1.1=(w.1,rd,w.2.2):=λrd' hr'=>ih _ ⟨by show 0<=i+1;omega,by show i+1<=_;omega,hr'⟩ (by show ws.length-AC (i+1)<ws.length-AC i;omega)
 refine Tot.cnd (λh3=>?_) λ_=>go rd h2
 have h3:=of_decide_eq_true h3;refine Tot.ix f0 (by omega) λ_ _ _=>Tot.ix h0 h λy2 hy2 _=>?_
 obtain⟨⟨t0,t1⟩,_⟩:=hw y2 hy2;refine Tot.ix t0 (by omega) λ_ _ _=>Tot.cnd (λ_=>Tot.fit (Tot.ix h0 h λy4 hy4 _=>Tot.ix h0 h λy5 hy5 _=>Tot.bind (mW K y5 (hw y5 hy5).2 hK) λv hv=>Tot.fit (go _ ⟨?_,λf hf=>?_⟩) (by omega) ?_) (by omega) ?_) λ_=>go rd h2
 ·simp;omega
 ·rcases AG.1 hf with hf|hf
  ·exact h2.2 f (by simpa using hf)
  ·rw[AF.1 hf];exact⟨(hw y4 hy4).1,by show v.1.1.size<=2000;have:=hv.1;omega⟩
 ·simp;omega
 ·simp;omega
theorem Tot.ins {α:Type}{l:List α}{x:α}{a:Int}{c:Nat}{Q:(List α×Unit)×Unit->Prop}(h0:0<=a)(h1:a<=l.length)(hl:l.length<=1048576)(hc:c<=64)(k:∀ r:List α,r.length=l.length+1->Q ((r,()),())) :
  Tot (bif decide ((0:Int)<=0)&&decide (0<=a)&&decide (a<=(AE l:Int))&&true then (bif decide ((AE ([]:List α)+AE ((l.take (AC a)).drop (AC 0)))*c<=ah) then (bif decide ((AE ([]++((l.take (AC a)).drop (AC 0)))+AE ([x]))*c<=ah) then (bif decide (0<=a)&&decide (a<=(AE l:Int))&&decide ((AE l:Int)<=(AE l:Int))&&true then (bif decide ((AE (([]++((l.take (AC a)).drop (AC 0)))++([x]))+AE ((l.take (AC (AE l:Int))).drop (AC a)))*c<=ah) then (some (((([]++((l.take (AC a)).drop (AC 0)))++([x]))++((l.take (AC (AE l:Int))).drop (AC a)),()),())) else none) else none) else none) else none) else none) Q:=by
 obtain⟨m,rfl⟩:=AK h0;refine Tot.must (by simp;omega) (Tot.fit (Tot.fit (Tot.must (by simp;omega) (Tot.fit (Tot.ret (k _ ?_)) (by omega) ?_)) (by omega) ?_) (by omega) ?_) <;>
 simp only[AD,AR,AS,AQ,AJ,AO,AX,Ah,AZ] <;> omega
theorem xe (K:Nat)(f g:af):Tot (Q79.f K (f,g,())) λ_=>True:=by
 simp only[Q79.f];exact Tot.cnd (λ_=>Tot.ret trivial) λ_=>Tot.bind (rh K g f).tot λ_ _=>Tot.ret trivial
theorem vK (K:Nat)(l:List af)(f:af)(hl:l.length<=1048576)(hK:1048577<K):Tot (Q80.f K (l,f,())) λr=>r.1.1.length<=l.length+1:=by
 simp only[Q80.f,Q80.pre];refine Tot.iter (A:=Int) (step:=λrec a=>Q80.l0.step K (l,f,()) rec a) (λa=>0<=a/\a<=l.length) (λa=>l.length-a.toNat) ?_ K _ (by show l.length-AC 0<K;omega) ⟨by show (0:Int)<=0;omega,by show (0:Int)<=_;omega⟩;rintro rec i ⟨h0,h1⟩ ih;simp only[Q80.l0.step];have hfit:=λ (h1:i<=l.length)=>Tot.ins (x:=f) (c:=32) (Q:=λr=>r.1.1.length<=l.length+1) h0 h1 hl (by omega) λr hr=>by show r.length<=_;omega
 have hsame:l.length<=l.length+1:=Ac _;refine Tot.cnd (λh=>?_) λ_=>Tot.cnd (λh=>Tot.ix h0 (of_decide_eq_true h) λ_ _ _=>Tot.cnd (λ_=>Tot.ret hsame) λ_=>hfit h1) λ_=>hfit h1
 have h:i<(l.length:Int):=of_decide_eq_true h;rw[aL (n:=i+1) (by omega) (by omega)];refine Tot.ix h0 h λy1 _ _=>Tot.bind (xe K y1 f) λ_ _=>Tot.cnd (λ_=>ih (i+1) ⟨by show 0<=i+1;omega,by show i+1<=(l.length:Int);omega⟩ (by show l.length-AC (i+1)<l.length-AC i;omega)) λ_=>Tot.cnd (λ_=>Tot.ix h0 h λ_ _ _=>Tot.cnd (λ_=>Tot.ret hsame) λ_=>hfit h1) λ_=>hfit h1
theorem xJ (K:Nat)(w:bS)(was heard now:List af)(h1:was.length<=1048576)(h2:heard.length<=1048576)(h3:now.length<=100)(hb:w.2.2.2.length<=1000000)(hK:1048577<K) :
  Tot (Q81.f K (w,was,heard,now,())) λr=>∃ b,b.length<=w.2.2.2.length+now.length/\r.1.1=(w.1,w.2.1,w.2.2.1,b):=by
 simp only[Q81.f,Q81.pre];refine Tot.iter (step:=λrec a=>Q81.l0.step K (w,was,heard,now,()) rec a) (λa=>0<=a.1/\a.1<=now.length/\(a.2.length:Int)<=w.2.2.2.length+a.1) (λa=>now.length-a.1.toNat) ?_ K _ (by show now.length-AC 0<K;omega) ⟨by show (0:Int)<=0;omega,by show (0:Int)<=_;omega,by show (w.2.2.2.length:Int)<=w.2.2.2.length+0;omega⟩;rintro rec ⟨i,b⟩ ⟨i0,i1,i2⟩ ih;simp only at i0 i1 i2 ih ⊢;simp only[Q81.l0.step];refine Tot.cnd (λh=>?_) λ_=>Tot.ret ⟨b,by omega,rfl⟩
 have h:=of_decide_eq_true h;rw[aL (n:=i+1) (by omega) (by omega)];have go:∀ b':List af,b'.length<=b.length+1->Tot (rec (i+1,b')) λr=>∃ b,b.length<=w.2.2.2.length+now.length/\r.1.1=(w.1,w.2.1,w.2.2.1,b):=λb' hb'=>ih _ ⟨by show 0<=i+1;omega,by show i+1<=_;omega,by show (b'.length:Int)<=_+(i+1);omega⟩ (by show now.length-AC (i+1)<now.length-AC i;omega)
 refine Tot.ix i0 h λy1 _ _=>Tot.bind (rR K was y1 h1 hK).tot λ_ _=>Tot.cnd (λ_=>?_) λ_=>go b (Ac _)
 refine Tot.ix i0 h λy3 _ _=>Tot.bind (rR K heard y3 h2 hK).tot λ_ _=>Tot.cnd (λ_=>?_) λ_=>go b (Ac _)
 exact Tot.ix i0 h λy5 _ _=>Tot.bind (vK K b y5 (by omega) hK) λv hv=>go v.1.1 hv
structure xK (w:bS) (i:Nat) (n:aa) (ws:List au) (heard:List af) (c:Nat):Prop where
 wi:WI w c
 lt:i<8
 n:dw i n
 sent:∀ x∈ws,gl x
 wl:ws.length<=1000
 hl:heard.length<=1048576
 c:c<=1000000
theorem set_t (K:Nat)(w:bS)(i:Nat)(n:aa)(ws:List au)(heard:List af)(c:Nat)(h:xK w i n ws heard c)(hK:1048577<K):Tot (Q82.f K ((w,i),n,ws,heard,())) λr=>WI r.1.1 (c+4):=by
 simp only[Q82.f];have hi:i<w.1.length:=by rw[h.wi.len];exact h.lt
 have hc:=h.c;have hb:=h.wi.born;have hsh:=h.n.short;rw[h.n.me];refine Tot.vl (ai hi) (Tot.vl (by rw[AD];exact ai hi) (Tot.vl (ai hi) (Tot.vl (by rw[AD];exact ai hi) ?_)));refine Tot.must (by simp) ?_;rw[AD];refine Tot.bind (xJ K (w.1.set i n,w.2) (aa.table w.1[i]) heard (aa.table n) (h.wi.node i hi).nb.table h.hl (by omega) (by show w.2.2.2.length<=_;omega) hK) ?_;rintro⟨⟨v,⟨⟩⟩,⟨⟩⟩ ⟨b,hb1,rfl⟩;refine Tot.bind (vJ K (w.1.set i n,w.2.1,w.2.2.1,b) (i:Int) ws h.wi.sides ⟨by omega,by have:=h.lt;omega⟩ h.sent h.wi.radio h.wl hK) ?_;rintro⟨⟨v,⟨⟩⟩,⟨⟩⟩ ⟨rd,hr,rfl⟩;have hb1:b.length<=w.2.2.2.length+(aa.table n).length:=hb1;exact Tot.ret (h.wi.put h.n hr (by omega))
theorem zt (K:Nat)(w:bS)(i:Nat)(n:aa)(ws:List au)(heard:List af)(c:Nat)(h:xK w i n ws heard c)(hK:1048577<K):Tot (Q143.f K (w,n,ws,heard,())) λr=>WI r.1.1 (c+4):=by
 simp only[Q143.f];have hi:i<w.1.length:=by rw[h.wi.len];exact h.lt
 have hc:=h.c;have hb:=h.wi.born;have hsh:=h.n.short;rw[h.n.me];refine Tot.vl (ai hi) (Tot.vl (by rw[AD];exact ai hi) (Tot.vl (ai hi) (Tot.vl (by rw[AD];exact ai hi) ?_)));rw[AD];refine Tot.bind (xJ K (w.1.set i n,w.2) (aa.table w.1[i]) heard (aa.table n) (h.wi.node i hi).nb.table h.hl (by omega) (by show w.2.2.2.length<=_;omega) hK) ?_;rintro⟨⟨v,⟨⟩⟩,⟨⟩⟩ ⟨b,hb1,rfl⟩;refine Tot.bind (vJ K (w.1.set i n,w.2.1,w.2.2.1,b) (i:Int) ws h.wi.sides ⟨by omega,by have:=h.lt;omega⟩ h.sent h.wi.radio h.wl hK) ?_;rintro⟨⟨v,⟨⟩⟩,⟨⟩⟩ ⟨rd,hr,rfl⟩;have hb1:b.length<=w.2.2.2.length+(aa.table n).length:=hb1;exact Tot.ret (h.wi.put h.n hr (by omega))
theorem p8 (K:Nat)(l:List kB)(at_:Int)(h0:0<=at_)(h1:at_<l.length)(hr:fT l):Tot (Q83.f K (l,at_,())) λr=>fT r.1.1:=by
 have hl:=hr.1;obtain⟨m,rfl⟩:=AK h0;simp only[Q83.f];rw[av m (by omega)];refine Tot.must (by simp;omega) (Tot.fit (Tot.must (by simp;omega) (Tot.fit (Tot.ret ⟨?_,λf hf=>hr.2 f ?_⟩) (by omega) ?_)) (by omega) ?_)
 ·simp only[AD,AR,AS,AQ,AJ,AO,AX];omega
 ·simp only[AD,AR,AS,AQ,Ai]at hf;rcases AG.1 hf with hf|hf
  ·exact AL hf
  ·exact List.mem_of_mem_drop hf
 ·simp only[AD,AR,AS,AQ,AJ,AO,AX];omega
 ·simp only[AD,AR,AS,AQ,AO,AZ];omega
theorem p9 (K:Nat)(w:bS)(c:Nat)(h:WI w c)(hc:c<=1000000)(to:Int)(t0:0<=to)(t1:to<=7)(x:au)(hx:gR x)(hK:1048577<K){G:aa->aa->Option ((bS×Unit)×Unit)}
  (hG:∀ y:aa,G y y=(Q124.f K (y,x,())).bind λy12=>(Q82.f K ((w,AC to),y12.1.1,y12.1.2.1,au.table x,())).bind λy13=>some ((y13.1.1,()),())) :
  Tot ((idx w.1 to).bind λ_=>(idx w.1 (AC to:Nat)).bind λy10=>(idx w.1 (AC to:Nat)).bind λy11=>G y10 y11) λr=>WI r.1.1 (c+4):=by
 obtain⟨i,rfl⟩:=AK t0;have hi:i<w.1.length:=by rw[h.len];omega
 have hn:=h.node i hi;refine Tot.vl (ai hi) (Tot.vl (by rw[AD];exact ai hi) (Tot.vl (by rw[AD];exact ai hi) ?_));rw[hG,zo K w.1[i] x hn.up (cF hx.2.2.2.2.2.2.2.1) hK];simp only[AB,AD];refine Tot.bind (set_t K w i _ _ _ c ⟨h,hn.lt,?_,?_,?_,cF hx.2.2.2.2.2.2.2.1,hc⟩ hK) λv hv=>Tot.ret hv
 ·cases hu:w.1[i].2.1 with
  |true=>exact hn.of (tp (hn.up hu) hK).1 (tp (hn.up hu) hK).2.1
  |false =>
   rw[show di K w.1[i] x=(w.1[i],[]) by unfold di;rw[if_neg λh=>by have:=h.2.1;rw[hu]at this;cases this]];exact hn
 ·cases hu:w.1[i].2.1 with
  |true=>exact λy hy=>(oH (hn.up hu) hK).2 y hy
  |false =>
   rw[show di K w.1[i] x=(w.1[i],[]) by unfold di;rw[if_neg λh=>by have:=h.2.1;rw[hu]at this;cases this]];simp
 ·cases hu:w.1[i].2.1 with
  |true=>have:=(oH (w:=x) (hn.up hu) hK).1;omega
  |false =>
   rw[show di K w.1[i] x=(w.1[i],[]) by unfold di;rw[if_neg λh=>by have:=h.2.1;rw[hu]at this;cases this]];simp
theorem yu (K:Nat)(w:bS)(c:Nat)(h:WI w c)(hc:c<=1000000)(at_:Int)(keep:Bool)(h0:0<=at_)(h1:at_<w.2.1.length)(hK:1048577<K):Tot (Q125.f K (w,at_,keep,())) λr=>WI r.1.1 (c+4):=by
 simp only[Q125.f];refine Tot.ix2 h0 h1 λf hf _=>?_
 obtain⟨⟨t0,t1⟩,hsz⟩:=h.radio.2 f hf;have hs:=h.sides;refine Tot.cnd (λ_=>Tot.bind (p8 K w.2.1 at_ h0 h1 h.radio) ?_) λ_=>Tot.bind (oA K f.2.1 (by omega) hK) ?_
 ·rintro⟨⟨rd,⟨⟩⟩,⟨⟩⟩ hr;have hW:WI (w.1,rd,w.2.2) (c+4):=⟨h.len,h.node,hr,h.sides,AI h.born (by omega)⟩;refine Tot.bind (oA K f.2.1 (by omega) hK) ?_;rintro⟨⟨(x:au),ok,⟨⟩⟩,⟨⟩⟩ hx;refine Tot.cnd (λ_=>Tot.ret hW) λh2=>?_
  have hx:gR x:=hx (by simpa using h2);obtain⟨fr0,fr1⟩:=hx.2.2.1;have hfr:x.2.2.1<(w.2.2.1.length:Int):=by rw[hs];omega
  refine Tot.ix2 fr0 hfr λ_ _ _=>Tot.ix2 t0 (by omega) λ_ _ _=>Tot.cnd (λ_=>Tot.ret hW) λ_=>Tot.cnd (λ_=>Tot.ret hW) λ_=>?_
  exact p9 K (w.1,rd,w.2.2) c ⟨h.len,h.node,hr,h.sides,h.born⟩ hc f.1 t0 t1 x hx hK (G:=λy10 y11=>(Q124.f K ((y10.1,(y10.2.1,(y10.2.2.1,(y10.2.2.2.1,(y10.2.2.2.2.1,(y10.2.2.2.2.2.1,(y10.2.2.2.2.2.2.1,(y10.2.2.2.2.2.2.2.1,(y10.2.2.2.2.2.2.2.2.1,(y10.2.2.2.2.2.2.2.2.2.1,(y10.2.2.2.2.2.2.2.2.2.2.1,(y11.2.2.2.2.2.2.2.2.2.2.2.1,y10.2.2.2.2.2.2.2.2.2.2.2.2)))))))))))),x,())).bind λy12=>(Q82.f K (((w.1,rd,w.2.2),AC f.1),y12.1.1,y12.1.2.1,au.table x,())).bind λy13=>some ((y13.1.1,()),())) λy=>rfl
 ·rintro⟨⟨(x:au),ok,⟨⟩⟩,⟨⟩⟩ hx;have hW:WI w (c+4):=h.mono (by omega);refine Tot.cnd (λ_=>Tot.ret hW) λh2=>?_
  have hx:gR x:=hx (by simpa using h2);obtain⟨fr0,fr1⟩:=hx.2.2.1;have hfr:x.2.2.1<(w.2.2.1.length:Int):=by rw[hs];omega
  refine Tot.ix2 fr0 hfr λ_ _ _=>Tot.ix2 t0 (by omega) λ_ _ _=>Tot.cnd (λ_=>Tot.ret hW) λ_=>Tot.cnd (λ_=>Tot.ret hW) λ_=>?_
  exact p9 K w c h hc f.1 t0 t1 x hx hK (G:=λy10 y11=>(Q124.f K ((y10.1,(y10.2.1,(y10.2.2.1,(y10.2.2.2.1,(y10.2.2.2.2.1,(y10.2.2.2.2.2.1,(y10.2.2.2.2.2.2.1,(y10.2.2.2.2.2.2.2.1,(y10.2.2.2.2.2.2.2.2.1,(y10.2.2.2.2.2.2.2.2.2.1,(y10.2.2.2.2.2.2.2.2.2.2.1,(y11.2.2.2.2.2.2.2.2.2.2.2.1,y10.2.2.2.2.2.2.2.2.2.2.2.2)))))))))))),x,())).bind λy12=>(Q82.f K (((w.1,w.2),AC f.1),y12.1.1,y12.1.2.1,au.table x,())).bind λy13=>some ((y13.1.1,()),())) λy=>rfl
theorem yw (K:Nat)(w:bS)(c:Nat)(h:WI w c)(at_ draw:Int)(h0:0<=at_)(h1:at_<w.2.1.length):Tot (Q126.f K (w,at_,draw,())) λr=>WI r.1.1 c:=by
 simp only[Q126.f];refine Tot.ix2 h0 h1 λf hf _=>?_
 obtain⟨hto,hsz⟩:=h.radio.2 f hf;refine Tot.cnd (λ_=>Tot.ret h) λ_=>Tot.cnd (λ_=>Tot.ret h) λh2=>?_
 have hne:¬ (f.2.1.size:Int)=0:=by simpa using h2
 obtain⟨b0,b1⟩:=kC (a:=draw) (m:=4095) (by omega);have b0:0<=bd .i64 draw 4095:=b0;have m0:0<=AT (bd .i64 draw 4095) (f.2.1.size:Int):=Ak _ b0;have m1:AT (bd .i64 draw 4095) (f.2.1.size:Int)<((dR f.2.1).length:Int):=by rw[pZ];exact Af _ (by omega)
 refine Tot.not (decide_eq_false hne) (Tot.ix2 m0 m1 λ_ _ _=>Tot.ix2 m0 m1 λ_ _ _=>Tot.ix2 h0 h1 λ_ _ _=>Tot.ret ⟨h.len,h.node,⟨?_,λg hg=>?_⟩,h.sides,h.born⟩)
 ·show (w.2.1.set _ _).length<=60;rw[AH];exact h.radio.1
 ·rcases List.mem_or_eq_of_mem_set hg with hg|rfl
  ·exact h.radio.2 g hg
  ·refine⟨hto,?_⟩;show (fN _).size<=2000;rw[gW,AH,pZ];exact hsz
def lh (i:Int)(g:Bool):aa:=(i,true,false,g,0,0,0,0,[(i,0,1,g)],[],(-1,0,0,false),[],(0,0,0,1500),[],[])
theorem yx {i:Int}{g:Bool}(h:InP i 0 7):UpN (lh i g):=by
 refine⟨⟨h,Int.le_refl _,⟨λf hf=>?_,List.pairwise_singleton _ _⟩,λf hf=>?_,⟨λx hx=>(nomatch hx),List.Pairwise.nil⟩,λx hx=>(nomatch hx),?_,⟨λd hd=>(nomatch hd),List.Pairwise.nil,rfl⟩,⟨?_,?_,?_,?_⟩,⟨λp hp=>(nomatch hp),List.Pairwise.nil⟩,⟨λp hp=>(nomatch hp),List.Pairwise.nil⟩⟩,?_,?_,⟨?_,?_⟩,?_,rfl⟩
 ·rw[AF.1 hf];exact⟨h,⟨by show (0:Int)<=0;omega,by show (0:Int)<=999;omega⟩,by show (1:Int)<=1;omega,by show (1:Int)<=4;omega⟩
 ·rw[AF.1 hf];rfl
 ·unfold cM;rw[if_pos (show (aa.probe (lh i g)).1=-1 from rfl)];rfl
 ·exact⟨by show (-100000:Int)<=0;omega,by show (0:Int)<=100000;omega⟩
 ·exact⟨by show (-100000:Int)<=0;omega,by show (0:Int)<=100000;omega⟩
 ·exact⟨by show (0:Int)<=0;omega,by show (0:Int)<=100000;omega⟩
 ·exact⟨by show (1:Int)<=1500;omega,by show (1500:Int)<=1500;omega⟩
 ·exact AF.2 rfl
 ·show (0:Int)<=999999;omega
 ·exact⟨by show (0:Int)<=0;omega,by show (0:Int)<=999999;omega⟩
 ·exact⟨by show (0:Int)<=0;omega,by show (0:Int)<=8;omega⟩
 ·exact⟨by show (0:Int)<=0;omega,by show (0:Int)<=999;omega⟩
theorem qa (K:Nat)(i:Int)(g:Bool)(h:InP i 0 7):Q63.f K (i,g,())=some ((lh i g,()),()):=by
 simp only[Q63.f];obtain⟨b,e,hb⟩:=co K i 0 7;rw[e,hb.2 h];rfl
theorem dw.new (i:Nat)(g:Bool)(h:i<8):dw i (lh (i:Int) g):=⟨rfl,h,λ_=>yx ⟨by omega,by omega⟩,λhu=>by cases hu⟩
theorem zu (K:Nat)(w:bS)(c:Nat)(h:WI w c)(hc:c<=1000000)(node:Int)(h0:InP node 0 7)(hK:1048577<K):Tot (Q145.f K (w,node,())) λr=>WI r.1.1 (c+4):=by
 have hb:=h.born;have hi:node.toNat<8:=by obtain⟨a,b⟩:=h0;omega
 have hlen:=h.len;simp only[Q145.f,Q64.f,AB];rw[qa K node _ h0];simp only[AB];refine Tot.ix2 h0.1 (by have:=h0.2;omega) λ_ _ _=>?_
 refine Tot.vl (show idx (lh node (decide (AT node 4<3))).2.2.2.2.2.2.2.2.1 0=some (node,0,1,decide (AT node 4<3)) from rfl) (Tot.bind (vK K w.2.2.2 _ (by omega) hK) λv hv=>Tot.ret (h.put ?_ h.radio (by omega)));have:=dw.new node.toNat (decide (AT node 4<3)) hi
 rwa [Ae h0.1]at this
theorem yy {n:aa}(h:UpN n):(kz n).length<=8/\∀ x∈kz n,gl x:=by
 unfold kz;refine⟨?_,λx hx=>?_⟩
 ·rw[AY];exact AI (Aa _ _) (gS h.x.table.2 λf hf=>(h.x.table.1 f hf).1)
 ·obtain⟨f,hf,rfl⟩:=AN.1 hx;exact⟨(h.x.table.1 f (AP.1 hf).1).1,cF h.x.table⟩
theorem zv (K:Nat)(w:bS)(c:Nat)(h:WI w c)(hc:c<=1000000)(e:af)(h0:InP e.2.1 0 7)(hK:1048577<K):Tot (Q147.f K (w,e,())) λr=>WI r.1.1 (c+4):=by
 have hlen:=h.len;have hs:=h.sides;obtain⟨kind,node,draw,keep⟩:=e;obtain⟨e0,e1⟩:=h0;simp only at e0 e1;obtain⟨i,rfl⟩:=AK e0;have hi:i<w.1.length:=by omega
 have hn:=h.node i hi;have hw:=h.mono (show c<=c+4 by omega);simp only[Q147.f];refine Tot.vl (ai hi) (Tot.vl (by rw[AD];exact ai hi) ?_);generalize w.1[i]=n at hn ⊢;refine Tot.cnd (λ_=>?_) λ_=>Tot.cnd (λ_=>?_) λ_=>Tot.cnd (λ_=>?_) λ_=>?_
 ·
  rw[xH];simp only[AB];exact Tot.ix2 (by omega) (by omega) λ_ _ _=>Tot.ret ⟨hw.len,hw.node,hw.radio,by show (w.2.2.1.set _ _).length=8;rw[AH];exact h.sides,hw.born⟩
 ·
  simp only[Q144.f,AB];refine Tot.ix2 (by omega) (by omega) λ_ _ _=>Tot.ret (hw.put (i:=i) (n:=iz n.1 n.2.2.2.1) ?_ hw.radio hw.born)
  exact⟨hn.me,hn.lt,λhu=>(by cases hu),λ_=>rfl⟩
 ·
  exact Tot.cnd (λ_=>Tot.ret hw) λ_=>Tot.bind (zu K w c h hc (i:Int) ⟨by omega,by omega⟩ hK) λv hv=>Tot.ret hv
 ·refine Tot.cnd (λ_=>Tot.ret hw) λhu=>Tot.cnd (λ_=>Tot.ret hw) λhg=>?_
  have hu:n.2.1=true:=by simpa using hu
  have hU:=hn.up hu;have set:=λ (m:aa) (ws:List au) (hm:UpN m) (em:m.1=n.1) (hsw:∀ x∈ws,gl x) (hl:ws.length<=1000)=>zt K w i m ws [] c ⟨h,hn.lt,hn.of hm em,hsw,hl,AU _,hc⟩ hK
  refine Tot.cnd (λ_=>?_) λ_=>Tot.cnd (λ_=>?_) λ_=>Tot.cnd (λ_=>?_) λ_=>Tot.ret hw
  ·refine Tot.cnd (λ_=>Tot.ret hw) λhm=>?_
   have hm:bZ n<999999:=by have hm:¬ n.2.2.2.2.2.1>=999999:=of_decide_eq_false hm;show n.2.2.2.2.2.1<999999;omega
   obtain⟨t1,t2,_⟩:=pj hU hm;obtain⟨w1,w2⟩:=zq hU hm draw;exact Tot.vl (zr K n draw hU hg hm hK) (Tot.bind (set _ _ t1 t2 w2 (AI w1 (by omega))) λv hv=>Tot.ret hv)
  ·obtain⟨t1,t2⟩:=wX hU hg;obtain⟨w1,w2⟩:=yy t1;exact Tot.vl (x9 K n hU.nb hU.ok hu hg hK) (Tot.bind (set _ _ t1 t2 w2 (AI w1 (by omega))) λv hv=>Tot.ret hv)
  ·refine Tot.bind (co K draw 0 7).tot λv hv=>Tot.cnd (λ_=>Tot.ret hw) λh1=>Tot.cnd (λ_=>Tot.ret hw) λ_=>?_
   have hd:InP draw 0 7:=hv.1 (by simpa using h1);rw[dE K,dE K];simp only[AB];refine Tot.cnd (λ_=>Tot.ret hw) λ_=>?_
   refine Tot.vl (mC K n 4 draw (cF hU.x.table)) (Tot.bind (set n _ hU rfl (λx hx=>?_) (by simp)) λv hv=>Tot.ret hv);rw[AF.1 hx];exact⟨hd,cF hU.x.table⟩
theorem do_t (K:Nat)(w:bS)(c:Nat)(h:WI w c)(hc:c<=1000000)(e:af)(hK:1048577<K):Tot (Q149.f K (w,e,())) λr=>WI r.1.1 (c+4):=by
 have hw:=h.mono (show c<=c+4 by omega);have hr:=h.radio.1;simp only[Q149.f];rw[aL (n:=(AE w.2.1:Int)-1) (by omega) (by omega)];have three:Tot ((Q43.f K (e.2.1,0,(AE w.2.1:Int)-1,())).bind λy1=>bif !y1.1.1 then (some ((w,false,()),())) else (bif e.1==2 then ((Q125.f K (w,e.2.1,e.2.2.2,())).bind λy2=>some ((y2.1.1,true,()),())) else (bif e.1==4 then ((Q126.f K (w,e.2.1,e.2.2.1,())).bind λy3=>some ((y3.1.1,y3.1.2.1,()),())) else ((Q83.f K (w.2.1,e.2.1,())).bind λy4=>some (((w.1,(y4.1.1,w.2.2)),true,()),()))))) λr=>WI r.1.1 (c+4):=by
  refine Tot.bind (co K _ _ _).tot λv hv=>Tot.cnd (λ_=>Tot.ret hw) λh1=>?_
  obtain⟨p0,p1⟩:InP e.2.1 0 ((AE w.2.1:Int)-1):=hv.1 (by simpa using h1);have p1:e.2.1<(w.2.1.length:Int):=by omega
  refine Tot.cnd (λ_=>Tot.bind (yu K w c h hc e.2.1 e.2.2.2 p0 p1 hK) λv hv=>Tot.ret hv) λ_=>Tot.cnd (λ_=>Tot.bind (yw K w c h e.2.1 e.2.2.1 p0 p1) λv hv=>Tot.ret (WI.mono hv (by omega))) λ_=>?_
  exact Tot.bind (p8 K w.2.1 e.2.1 p0 p1 h.radio) λv hv=>Tot.ret ⟨hw.len,hw.node,hv,hw.sides,hw.born⟩
 refine Tot.cnd (λ_=>three) λ_=>Tot.cnd (λ_=>three) λ_=>Tot.cnd (λ_=>three) λ_=>?_
 exact Tot.bind (co K _ _ _).tot λv hv=>Tot.cnd (λ_=>Tot.ret hw) λh1=>Tot.bind (zv K w c h hc e (hv.1 (by simpa using h1)) hK) λv hv=>Tot.ret hv
theorem xf (K:Nat)(w:bS)(h1:w.1.length<=1048576)(hn:∀ n∈w.1,NB n)(h2:w.2.1.length<=1048576)(h3:w.2.2.1.length<=1048576)(h4:w.2.2.2.length<=1048576)(hK:1048577<K):Q61.f K (w,())=some ((w,()),()):=by
 simp only[Q61.f,Q61.pre];rw[szb _ _ _ (by omega) (by show (AE ([]:List kB))+w.2.1.length<=_;simp;omega)];simp only[cond_true];rw[szb _ _ _ (by omega) (by show (AE ([]:List Int))+w.2.2.1.length<=_;simp;omega)];simp only[cond_true];rw[szb _ _ _ (by omega) (by show (AE ([]:List af))+w.2.2.2.length<=_;simp;omega)];simp only[cond_true];have:∀ (d i k:Nat),i+d=w.1.length->d<k->ae (λrec a=>Q61.l0.step K (w,()) rec a) k ((i:Int),w.1.take i)=some ((w,()),()):=by
  intro d;induction d with
  |zero =>
   intro i k hi hk;obtain⟨k,rfl⟩:∃ k',k=k'+1:=⟨k-1,by omega⟩;have:i=w.1.length:=by omega
   subst this;show Q61.l0.step K (w,()) _ _=_;simp only[Q61.l0.step,bh,Ai];rfl
  |succ d ih =>
   intro i k hi hk;obtain⟨k,rfl⟩:∃ k',k=k'+1:=⟨k-1,by omega⟩;have hlt:i<w.1.length:=by omega
   show Q61.l0.step K (w,()) _ _=_;simp only[Q61.l0.step];rw[bN (by omega:(i:Int)<(AE w.1:Int)),ai hlt,av i (by omega)];simp only[cond_true,AB];refine (congrArg (λo=>AM o _) (ve K w.1[i] (hn _ (Ag hlt)) hK)).trans ?_;simp only[AB];have hz:decide (((w.1.take i).length+[w.1[i]].length)*232<=ah)=true:=decide_eq_true (by
    rw[AO];simp only[Ah,AZ,ah];omega)
   refine (congrArg (λb=>bif b then _ else _) hz).trans ?_;have e:w.1.take i++[w.1[i]]=w.1.take (i+1):=by rw[List.take_add_one,List.getElem?_eq_getElem hlt];rfl
   rw[<- ih (i+1) k (by omega) (by omega),<- e];rfl
 exact this w.1.length 0 K (by omega) (by omega)
theorem WI.copy {w:bS}{c:Nat}(h:WI w c)(hc:c<=1000000)(K:Nat)(hK:1048577<K):Q61.f K (w,())=some ((w,()),()):=by
 have h1:=h.len;have h2:=h.radio.1;have h3:=h.sides;have h4:=h.born;refine xf K w (by omega) (λn hn=>?_) (by omega) (by omega) (by omega) hK;obtain⟨i,hi,rfl⟩:=AV hn;exact (h.node i hi).nb
theorem zw (K:Nat)(w:bS)(c:Nat)(evs:List af)(h:WI w c)(hl:evs.length<=1000)(hc:c<=900000)(hK:1048577<K):Tot (Q150.f K (w,evs,())) λr=>WI r.1.1 (c+4*evs.length)/\r.2.1=evs:=by
 simp only[Q150.f,Q150.pre];refine Tot.iter (step:=λrec a=>Q150.l0.step K (w,evs,()) rec a) (λa=>0<=a.1/\a.1<=evs.length/\WI a.2 (c+4*a.1.toNat)) (λa=>evs.length-a.1.toNat) ?_ K _ (by show evs.length-AC 0<K;omega) ⟨by show (0:Int)<=0;omega,by show (0:Int)<=_;omega,h⟩;rintro rec ⟨i,v⟩ ⟨h0,h1,h2⟩ ih;simp only at h0 h1 h2 ih ⊢;simp only[Q150.l0.step];refine Tot.cnd (λhlt=>?_) λ_=>Tot.ret ⟨WI.mono h2 (by omega),rfl⟩
 have hlt:i<(evs.length:Int):=of_decide_eq_true hlt;rw[aL (n:=i+1) (by omega) (by omega)];refine Tot.vl (h2.copy (by omega) K hK) (Tot.ix2 h0 hlt λe _ _=>Tot.bind (do_t K v _ h2 (by omega) e hK) ?_);rintro⟨⟨v',ok,⟨⟩⟩,⟨⟩⟩ hv;have hv:WI v' (c+4*i.toNat+4):=hv;have go:∀ u:bS,WI u (c+4*i.toNat+4)->Tot (rec (i+1,u)) λr=>WI r.1.1 (c+4*evs.length)/\r.2.1=evs:=λu hu=>ih (i+1,u) ⟨by show 0<=i+1;omega,by show i+1<=_;omega,hu.mono (by show _<=c+4*(i+1).toNat;omega)⟩ (by show evs.length-AC (i+1)<evs.length-AC i;omega)
 exact Tot.cnd (λ_=>go v' hv) λ_=>go v (h2.mono (by omega))
theorem uo (K:Nat)(hK:1048577<K):Tot (Q65.f K ()) λr=>WI r.1.1 8:=by
 simp only[Q65.f,Q65.pre];refine Tot.iter (step:=λrec a=>Q65.l0.step K () rec a) (λa=>0<=a.1/\a.1<=8/\a.2.1.length=a.1.toNat/\(∀ (j:Nat) (hj:j<a.2.1.length),dw j a.2.1[j])/\a.2.2.1.length=a.1.toNat/\a.2.2.2.length=a.1.toNat) (λa=>8-a.1.toNat) ?_ K _ (by show 8-AC 0<K;omega) ⟨by show (0:Int)<=0;omega,by show (0:Int)<=8;omega,rfl,λj hj=>(by cases hj),rfl,rfl⟩;rintro rec ⟨i,ns,ss,bs⟩ ⟨h0,h1,h2,h3,h4,h5⟩ ih;simp only at h0 h1 h2 h3 h4 h5 ih ⊢;simp only[Q65.l0.step];refine Tot.cnd (λhlt=>?_) λhlt=>?_
 ·have hlt:i<=7:=of_decide_eq_true hlt;rw[aL (n:=i+1) (by omega) (by omega)];simp only[Q64.f,AB];refine Tot.vl (qa K i _ ⟨h0,hlt⟩) (Tot.fit (Tot.fit (Tot.vl (show idx (lh i (decide (AT i 4<3))).2.2.2.2.2.2.2.2.1 0=some (i,0,1,decide (AT i 4<3)) from rfl) (Tot.fit (ih _ ⟨by show 0<=i+1;omega,by show i+1<=8;omega,?_,λj hj=>?_,?_,?_⟩ (by show 8-AC (i+1)<8-AC i;omega)) (by omega) ?_)) (by omega) ?_) (by omega) ?_)
  ·show (ns++[lh i _]).length=(i+1).toNat;simp;omega
  ·show dw j ((ns++[lh i (decide (AT i 4<3))])[j]'hj);rw[List.getElem_append];split
   ·exact h3 j _
   ·rename_i hge;have hj:j<(ns++[lh i (decide (AT i 4<3))]).length:=hj;have hji:j=i.toNat:=by simp at hj;omega
    subst hji;have:=dw.new i.toNat (decide (AT i 4<3)) (by omega);rw[Ae h0]at this;simpa using this
  ·show (ss++[0]).length=(i+1).toNat;simp;omega
  ·show (bs++[_]).length=(i+1).toNat;simp;omega
  ·simp;omega
  ·simp;omega
  ·simp;omega
 ·have hge:=of_decide_eq_false hlt;refine Tot.ret ⟨?_,h3,⟨AU _,λf hf=>(nomatch hf)⟩,?_,?_⟩
  ·show ns.length=8;omega
  ·show ss.length=8;omega
  ·show bs.length<=8;omega
abbrev LtP (v n:Int):Prop:=0<=v/\v<n
def bg (b:List Int)(m:Nat)(s:List Int×Int):Prop:=∃ q:Nat,q<=m/\s=(b,(q:Int))
theorem bg.up {b:List Int}{m:Nat}{s:List Int×Int}(h:bg b m s){m':Nat}(hm:m<=m'):bg b m' s:=by obtain⟨q,h1,h2⟩:=h;exact⟨q,by omega,h2⟩
section
variable {K:Nat} {b:List Int} {m:Nat} {s:List Int×Int}
theorem aH (h:fh b)(hs:bg b m s)(n:Int)(hn:1<=n)(hm:m<=99000):Tot (Q59.f K (s,n,())) λr=>LtP r.1.1 n/\bg b (m+1) r.2.1:=by
 obtain⟨q,hq,rfl⟩:=hs;obtain⟨v,e,v0,v1⟩:=yf K b q n h (by omega) hn;exact⟨_,e,⟨v0,v1⟩,q+1,by omega,rfl⟩
theorem zx (code:List Int)(hb:∀ y∈code,0<=y/\y<=255)(hl:code.length<=9223372036854775807):∃ bs:List Int,fh bs/\Q58.f K (code,())=some (((bs,(0:Int)),()),()):=by
 simp only[Q58.f];by_cases h:(code.length:Int)>2000
 ·rw[decide_eq_true h,decide_eq_true (by omega:(2000:Int)<=(code.length:Int))];exact⟨(code.take 2000).drop 0,⟨λy hy=>hb y (AL (by simpa using hy)),by simp;omega⟩,rfl⟩
 ·rw[decide_eq_false h];exact⟨code,⟨hb,by omega⟩,rfl⟩
theorem vL (h:fh b)(hs:bg b m s)(site:Int)(h0:0<=site)(h1:site<=1)(hm:m<=98000):Tot (Q156.f K (s,site,())) λr=>(bC r.1.1/\ap r.1.1.1=site)/\bg b (m+5) r.2.1:=by
 simp only[Q156.f];refine Tot.bind (aH h hs 4 (by decide) (by omega)) λv1 ⟨⟨a1,b1⟩,s1⟩=>Tot.bind (aH h s1 3 (by decide) (by omega)) λv2 ⟨⟨a2,b2⟩,s2⟩=>Tot.bind (aH h s2 12 (by decide) (by omega)) λv3 ⟨⟨a3,b3⟩,s3⟩=>Tot.bind (aH h s3 3 (by decide) (by omega)) λv4 ⟨⟨a4,b4⟩,s4⟩=>Tot.ix2 a4 b4 λy hy _=>Tot.bind (aH h s4 4 (by decide) (by omega)) λv5 ⟨⟨a5,b5⟩,s5⟩=>?_
 simp only[Q64.f,AB];have hy:InP y 0 999:=by
  simp only[Al,Aj,or_false]at hy;rcases hy with rfl|rfl|rfl <;> constructor <;> omega
 rw[aL (n:=site*4) (by omega) (by omega),aL (n:=site*4+v1.1.1) (by omega) (by omega),aL (n:=1+v5.1.1) (by omega) (by omega)];refine Tot.ret ⟨⟨⟨⟨?_,?_⟩,hy,?_,?_⟩,?_⟩,s5⟩
 ·show (0:Int)<=site*4+v1.1.1;omega
 ·show site*4+v1.1.1<=7;omega
 ·show (1:Int)<=1+v5.1.1;omega
 ·show (1:Int)+v5.1.1<=4;omega
 ·show ap (site*4+v1.1.1)=site;rw[eB ⟨by omega,by omega⟩];omega
theorem qb (h:fh b)(hs:bg b m s)(hm:m<=97000):Tot (Q157.f K (s,())) λr=>bg b (m+8) r.2.1:=by
 simp only[Q157.f];refine Tot.bind (aH h hs 2 (by decide) (by omega)) λv1 ⟨⟨a1,b1⟩,s1⟩=>Tot.bind (vL h s1 v1.1.1 a1 (by omega) (by omega)) λf ⟨_,s2⟩=>Tot.bind (aH h s2 12 (by decide) (by omega)) λv3 ⟨_,s3⟩=>?_
 have two:∀ {x y:Int} {G:(Int×Unit)×(List Int×Int)×Unit->Int->Option ((af×Unit)×(List Int×Int)×Unit)},(∀ v z,Tot (G v z) λr=>r.2.1=v.2.1)->Tot ((Q59.f K (v3.2.1,2,())).bind λv=>(idx [x,y] v.1.1).bind λ_=>(idx [x,y] (AC v.1.1:Nat)).bind (G v)) λr=>bg b (m+8) r.2.1:=λhG=>Tot.bind (aH h s3 2 (by decide) (by omega)) λv ⟨⟨a,b⟩,s4⟩=>Tot.ix2 a b λz _ _=>(hG v z).mono λr e=>by rw[e];exact s4.up (by omega)
 refine Tot.cnd (λ_=>two λ_ _=>Tot.ret rfl) λ_=>Tot.cnd (λ_=>two λ_ _=>Tot.ret rfl) λ_=>Tot.cnd (λ_=>two λ_ _=>Tot.ret rfl) λ_=>Tot.cnd (λ_=>Tot.ret (s3.up (by omega))) λ_=>Tot.ret (s3.up (by omega))
theorem vM (t:List af)(f:af):(bY t f).1.length<=t.length+1:=by
 rcases ge t f with e|e
 ·rw[e];omega
 ·rw[e];exact wJ
theorem uq {t:List af}{f:af}{z:Int}(h:bM t z)(hf:ap f.1=z):bM (bY t f).1 z:=by
 rcases ge t f with e|e <;> rw[e]
 ·exact h
 ·intro g hg;rcases aZ.1 hg with rfl|⟨hg,_⟩
  ·exact hf
  ·exact h g hg
theorem tt (h:fh b)(hs:bg b m s)(site:Int)(h0:-1<=site)(h1:site<=1)(hm:m<=96000)(hK:1048577<K):Tot (Q158.f K (s,site,())) λr=>(az r.1.1/\(0<=site->bM r.1.1 site)/\r.1.1.length<=5)/\bg b (m+31) r.2.1:=by
 simp only[Q158.f,Q158.pre];refine Tot.bind (aH h hs 6 (by decide) (by omega)) λv ⟨⟨v0,v1⟩,s1⟩=>?_
 refine Tot.iter (step:=λrec a=>Q158.l0.step K (s,site,()) rec a) (λa=>∃ q:Nat,0<=a.2.1/\az a.1/\(0<=site->bM a.1 site)/\(a.1.length:Int)+a.2.1<=5/\bg b q a.2.2/\q+6*a.2.1.toNat<=m+31) (λa=>a.2.1.toNat) ?_ K _ (by show v.1.1.toNat<K;omega) ⟨m+1,v0,⟨by simp,List.Pairwise.nil⟩,λ_ f hf=>(nomatch hf),by show ((0:Nat):Int)+v.1.1<=5;omega,s1,by show m+1+6*v.1.1.toNat<=m+31;omega⟩;rintro rec ⟨t,n,s2⟩ ⟨q,n0,hT,hS,hl,hs2,hq⟩ ih;simp only at n0 hT hS hl hs2 hq ih ⊢;simp only[Q158.l0.step];refine Tot.cnd (λhn=>?_) λ_=>Tot.ret ⟨⟨hT,hS,by show t.length<=5;omega⟩,hs2.up (by omega)⟩
 have hn:n>0:=of_decide_eq_true hn;rw[aL (n:=n-1) (by omega) (by omega)];have go:∀ (z:Int) (q':Nat) (s3:List Int×Int),0<=z->z<=1->(0<=site->z=site)->bg b q' s3->q'<=q+1->Tot ((Q156.f K (s3,z,())).bind λy3=>(Q100.f K (t,y3.1.1,())).bind λy4=>rec (y4.1.1,n-1,y3.2.1.1,y3.2.1.2)) λr=>(az r.1.1/\(0<=site->bM r.1.1 site)/\r.1.1.length<=5)/\bg b (m+31) r.2.1:=λz q' s3 z0 z1 hz hs3 hq'=>by
  refine Tot.bind (vL h hs3 z z0 z1 (by omega)) λy ⟨⟨hf,hfs⟩,hs4⟩=>Tot.vl (ud K t y.1.1 (by omega) hT.2 hK) (ih (_,_,y.2.1) ⟨q'+5,by show 0<=n-1;omega,jp hT hf,λh9=>uq (hS h9) (by rw[hfs];exact hz h9),?_,hs4,by show q'+5+6*(n-1).toNat<=m+31;omega⟩ (by show (n-1).toNat<n.toNat;omega))
  have:=vM t y.1.1;show ((bY t y.1.1).1.length:Int)+(n-1)<=5;omega
 refine Tot.cnd (λhneg=>?_) λhneg=>?_
 ·have hneg:site<0:=of_decide_eq_true hneg;exact Tot.bind (aH h hs2 2 (by decide) (by omega)) λv ⟨⟨a,b⟩,s3⟩=>go v.1.1 (q+1) v.2.1 a (by omega) (λh9=>by omega) s3 (Ad _)
 ·have hneg:¬ site<0:=of_decide_eq_false hneg;exact go site q s2 (by omega) h1 (λ_=>rfl) hs2 (by omega)
theorem oI (h:fh b)(hs:bg b m s)(hm:m<=95000)(hK:1048577<K):Tot (Q159.f K (s,())) λr=>r.1.1.length<=6/\bg b (m+42) r.2.1:=by
 simp only[Q159.f];refine Tot.bind (tt h hs (-1) (by decide) (by decide) (by omega) hK) λt ⟨⟨hT,_,hl⟩,s1⟩=>?_
 refine Tot.cnd (λh1=>?_) λ_=>Tot.ret ⟨by show t.1.1.length<=6;omega,s1.up (by omega)⟩
 have h1:(t.1.1.length:Int)>0:=of_decide_eq_true h1;refine Tot.bind (aH h s1 12 (by decide) (by omega)) λv2 ⟨_,s2⟩=>Tot.cnd (λ_=>?_) λ_=>Tot.ret ⟨by show t.1.1.length<=6;omega,s2.up (by omega)⟩
 refine Tot.bind (aH h s2 (t.1.1.length:Int) (by omega) (by omega)) λv3 ⟨⟨a3,b3⟩,s3⟩=>Tot.bind (aH h s3 3 (by decide) (by omega)) λv4 ⟨_,s4⟩=>?_
 refine Tot.cnd (λ_=>Tot.bind (qb h s4 (by omega)) λf s5=>Tot.ix2 a3 b3 λ_ _ _=>Tot.ret ⟨by show (t.1.1.set _ _).length<=6;rw[AH];omega,s5.up (by omega)⟩) λ_=>?_
 refine Tot.cnd (λ_=>Tot.ix2 a3 b3 λy _ _=>Tot.fit (Tot.ret ⟨by show (t.1.1++[y]).length<=6;simp;omega,s4.up (by omega)⟩) (by omega) (by simp;omega)) λ_=>Tot.ix2 a3 b3 λy _ _=>Tot.ret ⟨by show (t.1.1.set _ _).length<=6;rw[AH];omega,s4.up (by omega)⟩
theorem yz (h:fh b)(hs:bg b m s)(site:Int)(h0:-1<=site)(h1:site<=1)(hm:m<=95000)(hK:1048577<K):Tot (Q160.f K (s,site,())) λr=>r.1.1.length<=5/\bg b (m+36) r.2.1:=by
 simp only[Q160.f,Q160.pre];refine Tot.bind (tt h hs site h0 h1 (by omega) hK) λt ⟨⟨hT,_,hl⟩,s1⟩=>?_
 refine Tot.iter (step:=λrec a=>Q160.l0.step K (s,site,()) rec a) (λa=>a.2.1=t.1.1/\0<=a.2.2.1/\a.2.2.1<=t.1.1.length/\(a.1.length:Int)=a.2.2.1/\bg b (m+31+a.2.2.1.toNat) a.2.2.2) (λa=>t.1.1.length-a.2.2.1.toNat) ?_ K _ (by show t.1.1.length-AC 0<K;omega) ⟨rfl,by show (0:Int)<=0;omega,by show (0:Int)<=_;omega,rfl,s1⟩;rintro rec ⟨acc,t',i,s2⟩ ⟨e,i0,i1,hla,hs2⟩ ih;simp only at e i0 i1 hla hs2 ih ⊢;subst e;simp only[Q160.l0.step];refine Tot.cnd (λhi=>?_) λ_=>Tot.ret ⟨by show acc.length<=5;omega,hs2.up (by omega)⟩
 have hi:i<(t.1.1.length:Int):=of_decide_eq_true hi;rw[aL (n:=i+1) (by omega) (by omega)];refine Tot.ix2 i0 hi λy _ _=>Tot.bind (aH h hs2 4 (by decide) (by omega)) λv ⟨_,s3⟩=>Tot.fit (ih (_,_,_,v.2.1) ⟨rfl,by show 0<=i+1;omega,by show i+1<=_;omega,?_,s3.up (by show _<=m+31+(i+1).toNat;omega)⟩ (by show t.1.1.length-(i+1).toNat<t.1.1.length-i.toNat;omega)) (by omega) (by simp;omega)
 show ((acc++[_]).length:Int)=i+1;simp;omega
theorem ur (h:fh b)(hs:bg b m s)(hm:m<=94000)(hK:1048577<K):Tot (Q161.f K (s,())) λr=>r.1.1.length<=6/\bg b (m+50) r.2.1:=by
 simp only[Q161.f];refine Tot.bind (yz h hs (-1) (by decide) (by decide) (by omega) hK) λt ⟨hl,s1⟩=>?_
 refine Tot.cnd (λh1=>?_) λ_=>Tot.ret ⟨by show t.1.1.length<=6;omega,s1.up (by omega)⟩
 have h1:(t.1.1.length:Int)>0:=of_decide_eq_true h1;refine Tot.bind (aH h s1 10 (by decide) (by omega)) λv2 ⟨_,s2⟩=>Tot.cnd (λ_=>?_) λ_=>Tot.ret ⟨by show t.1.1.length<=6;omega,s2.up (by omega)⟩
 refine Tot.bind (aH h s2 (t.1.1.length:Int) (by omega) (by omega)) λv3 ⟨⟨a3,b3⟩,s3⟩=>Tot.bind (aH h s3 3 (by decide) (by omega)) λv4 ⟨_,s4⟩=>?_
 refine Tot.cnd (λ_=>Tot.bind (aH h s4 2 (by decide) (by omega)) λv5 ⟨⟨a5,b5⟩,s5⟩=>Tot.ix2 a5 b5 λ_ _ _=>Tot.ix2 a3 b3 λ_ _ _=>Tot.ret ⟨by show (t.1.1.set _ _).length<=6;rw[AH];omega,s5.up (by omega)⟩) λ_=>?_
 refine Tot.cnd (λ_=>Tot.bind (qb h s4 (by omega)) λf s5=>Tot.ix2 a3 b3 λ_ _ _=>Tot.ret ⟨by show (t.1.1.set _ _).length<=6;rw[AH];omega,s5.up (by omega)⟩) λ_=>?_
 exact Tot.ix2 a3 b3 λy _ _=>Tot.fit (Tot.ret ⟨by show (t.1.1++[y]).length<=6;simp;omega,s4.up (by omega)⟩) (by omega) (by simp;omega)
theorem vN (h:fh b)(hs:bg b m s)(hm:m<=95000):Tot (Q162.f K (s,())) λr=>bg b (m+6) r.2.1:=by
 simp only[Q162.f,Q62.f];refine Tot.bind (aH h hs 6 (by decide) (by omega)) λv1 ⟨_,s1⟩=>Tot.cnd (λ_=>Tot.ret (s1.up (by omega))) λ_=>Tot.bind (aH h s1 3 (by decide) (by omega)) λv3 ⟨⟨a3,b3⟩,s3⟩=>Tot.ix2 a3 b3 λy hy _=>?_
 have hy:InP y 10 100000:=by
  simp only[Al,Aj,or_false]at hy;rcases hy with rfl|rfl|rfl <;> constructor <;> omega
 rw[aL (n:=2*y) (by omega) (by omega),aL (n:=2*y+1) (by omega) (by omega),aL (n:=y+1) (by omega) (by omega)];exact Tot.bind (aH h s3 _ (by omega) (by omega)) λv6 ⟨_,s6⟩=>Tot.bind (aH h s6 _ (by omega) (by omega)) λv7 ⟨_,s7⟩=>Tot.bind (aH h s7 _ (by omega) (by omega)) λv8 ⟨_,s8⟩=>Tot.bind (aH h s8 _ (by decide) (by omega)) λv9 ⟨_,s9⟩=>Tot.ret s9
theorem oJ (h:fh b)(hs:bg b m s)(hm:m<=94000):Tot (Q163.f K (s,())) λr=>bg b (m+8) r.2.1:=by
 simp only[Q163.f];exact Tot.bind (vN h hs (by omega)) λc s1=>Tot.bind (aH h s1 16 (by decide) (by omega)) λv2 ⟨_,s2⟩=>Tot.cnd (λ_=>Tot.bind (aH h s2 3 (by decide) (by omega)) λv ⟨⟨a,b⟩,s3⟩=>Tot.ix2 a b λ_ _ _=>Tot.ret s3) λ_=>Tot.cnd (λ_=>Tot.bind (aH h s2 2 (by decide) (by omega)) λv ⟨⟨a,b⟩,s3⟩=>Tot.ix2 a b λ_ _ _=>Tot.ret s3) λ_=>Tot.cnd (λ_=>Tot.bind (aH h s2 2 (by decide) (by omega)) λv ⟨⟨a,b⟩,s3⟩=>Tot.ix2 a b λ_ _ _=>Tot.ret s3) λ_=>Tot.ret (s2.up (by omega))
theorem vO (h:fh b)(hs:bg b m s)(w:bS)(hm:m<=95000):Tot (Q151.f K (s,w,())) λr=>bg b (m+2) r.2.1:=by
 simp only[Q151.f];refine Tot.cnd (λ_=>Tot.ret (hs.up (by omega))) λh1=>?_
 have h1:¬ (w.2.1.length:Int)=0:=by simpa using h1
 refine Tot.bind (aH h hs 3 (by decide) (by omega)) λv1 ⟨_,s1⟩=>Tot.cnd (λ_=>Tot.cnd (λ_=>Tot.bind (aH h s1 4 (by decide) (by omega)) λv ⟨_,s2⟩=>Tot.ret s2) λ_=>?_) λ_=>?_ <;>
 exact Tot.bind (aH h s1 _ (by show (1:Int)<=(w.2.1.length:Int);omega) (by omega)) λv ⟨_,s2⟩=>Tot.ret s2
theorem yA (h:fh b)(hs:bg b m s)(w:bS)(hm:m<=94000):Tot (Q152.f K (s,w,())) λr=>bg b (m+8) r.2.1:=by
 simp only[Q152.f];refine Tot.bind (aH h hs 8 (by decide) (by omega)) λv1 ⟨_,s1⟩=>Tot.bind (aH h s1 256 (by decide) (by omega)) λv2 ⟨_,s2⟩=>Tot.bind (aH h s2 16 (by decide) (by omega)) λv3 ⟨_,s3⟩=>Tot.bind (aH h s3 40 (by decide) (by omega)) λv4 ⟨_,s4⟩=>?_
 have s4:bg b (m+4) v4.2.1:=s4.up (by omega);generalize v4.2.1=z at s4 ⊢;have u4:bg b (m+8) z:=s4.up (by omega);have pl:=vO (K:=K) h s4 w (by omega);have pk:∀ n:Int,1<=n->Tot (Q59.f K (z,n,())) λr=>bg b (m+8) r.2.1:=λn hn=>(aH h s4 n hn (by omega)).mono λr hr=>hr.2.up (by omega)
 have pp:∀ (z':List Int×Int) (n:Int),bg b (m+4+2) z'->1<=n->Tot (Q59.f K (z',n,())) λr=>bg b (m+8) r.2.1:=λz' n h1 hn=>(aH h h1 n hn (by omega)).mono λr hr=>hr.2.up (by omega)
 repeat' first
  |exact Tot.ret u4
  |exact Tot.bind pl λv hv=>Tot.ret (bg.up hv (by omega))
  |exact Tot.bind pl λv hv=>Tot.bind (pp _ _ hv (by decide)) λv hv=>Tot.ret hv
  |exact Tot.bind (pk _ (by decide)) λv hv=>Tot.ret hv
  |exact Tot.bind (pk _ (by decide)) λv hv=>Tot.cnd (λ_=>Tot.ret hv) λ_=>Tot.ret hv
  |refine Tot.cnd (λ_=>?_) λ_=>?_
theorem yB (h:fh b)(hs:bg b m s)(most:Int)(h1:1<=most)(h2:most<=200)(hm:m<=90000)(hK:1048577<K):Tot (Q153.f K (s,most,())) λr=>(WI r.1.2.1 2000/\r.1.1.length<=300)/\bg b (m+8*most.toNat+2) r.2.1:=by
 simp only[Q153.f,Q153.pre];have loop:∀ (out:List af) (n:Int) (z:List Int×Int) (w:bS) (q c:Nat),0<=n->n<most->out.length<=24->bg b q z->q<=m+2->WI w c->c<=200->Tot (Q153.l1 K (s,most,()) (out,n,z.1,z.2,w)) λr=>(WI r.1.2.1 2000/\r.1.1.length<=300)/\bg b (m+8*most.toNat+2) r.2.1:=λout n z w q c n0 n1 ho hz hq hw hc=>by
  refine Tot.iter (step:=λrec a=>Q153.l1.step K (s,most,()) rec a) (λa=>∃ q c:Nat,0<=a.2.1/\a.2.1<most/\(a.1.length:Int)+a.2.1<=24+most/\bg b q (a.2.2.1,a.2.2.2.1)/\q+8*a.2.1.toNat<=m+8*most.toNat+2/\WI a.2.2.2.2 c/\c+4*a.2.1.toNat<=2000) (λa=>a.2.1.toNat) ?_ K _ (by show n.toNat<K;omega) ⟨q,c,n0,n1,by show (out.length:Int)+n<=_;omega,hz,by show q+8*n.toNat<=_;omega,hw,by show c+4*n.toNat<=2000;omega⟩;clear hz hq hw hc n0 n1 ho;rintro rec ⟨out,n,z1,z2,w⟩ ⟨q,c,n0,n1,ho,hz,hq,hw,hc⟩ ih;simp only at n0 n1 ho hz hq hw hc ih ⊢;simp only[Q153.l1.step];refine Tot.cnd (λhn=>?_) λ_=>Tot.vl (hw.copy (by omega) K hK) (Tot.ret ⟨⟨hw.mono (by omega),by show out.length<=300;omega⟩,hz.up (by omega)⟩)
  have hn:n>0:=of_decide_eq_true hn;rw[aL (n:=n-1) (by omega) (by omega)];refine Tot.bind (yA h hz w (by omega)) λe he=>Tot.fit (Tot.vl (hw.copy (by omega) K hK) (Tot.bind (do_t K w c hw (by omega) e.1.1 hK) ?_)) (by omega) (by simp;omega)
  rintro⟨⟨v',ok,⟨⟩⟩,⟨⟩⟩ hv;have go:∀ u:bS,WI u (c+4)->Tot (rec (out++[e.1.1],n-1,e.2.1.1,e.2.1.2,u)) λr=>(WI r.1.2.1 2000/\r.1.1.length<=300)/\bg b (m+8*most.toNat+2) r.2.1:=λu hu=>ih _ ⟨q+8,c+4,by show 0<=n-1;omega,by show n-1<most;omega,by show ((out++[e.1.1]).length:Int)+(n-1)<=_;simp;omega,he,by show q+8+8*(n-1).toNat<=_;omega,hu,by show c+4+4*(n-1).toNat<=2000;omega⟩ (by show (n-1).toNat<n.toNat;omega)
  exact Tot.cnd (λ_=>go v' hv) λ_=>go w (hw.mono (by omega))
 refine Tot.bind (uo K hK) λw0 hw0=>Tot.bind (aH h hs 3 (by decide) (by omega)) λv2 ⟨_,s2⟩=>Tot.cnd (λ_=>?_) λ_=>Tot.bind (aH h s2 most h1 (by omega)) λv9 ⟨⟨a9,b9⟩,s9⟩=>loop [] v9.1.1 v9.2.1 w0.1.1 (m+2) 8 a9 b9 (by simp) s9 (Ad _) hw0 (by omega)
 refine Tot.iter (step:=λrec a=>Q153.l0.step K (s,most,()) (Q153.l1 K (s,most,())) rec a) (λa=>0<=a.2.1/\a.2.1<=8/\(a.1.length:Int)<=3*a.2.1/\bg b (m+1) (a.2.2.1,a.2.2.2.1)/\WI a.2.2.2.2 8) (λa=>8-a.2.1.toNat) ?_ K _ (by show 8-AC 0<K;omega) ⟨by show (0:Int)<=0;omega,by show (0:Int)<=8;omega,by show ((0:Nat):Int)<=3*0;omega,s2,hw0⟩;rintro rec ⟨out,i,z1,z2,w⟩ ⟨i0,i1,ho,hz,hw⟩ ih;simp only at i0 i1 ho hz hw ih ⊢;simp only[Q153.l0.step];refine Tot.cnd (λhi=>?_) λ_=>?_
 ·have hi:i<=7:=of_decide_eq_true hi;rw[aL (n:=i+1) (by omega) (by omega)];have go:∀ out':List af,(out'.length:Int)<=3*(i+1)->Tot (rec (out',i+1,z1,z2,w)) λr=>(WI r.1.2.1 2000/\r.1.1.length<=300)/\bg b (m+8*most.toNat+2) r.2.1:=λout' ho'=>ih _ ⟨by show 0<=i+1;omega,by show i+1<=8;omega,ho',hz,hw⟩ (by show 8-(i+1).toNat<8-i.toNat;omega)
  exact Tot.cnd (λ_=>Tot.fit (Tot.fit (go _ (by simp;omega)) (by omega) (by simp;omega)) (by omega) (by simp;omega)) λ_=>go out (by omega)
 ·refine Tot.bind (zw K w 8 out hw (by omega) (by omega) hK) λv ⟨hv,ev⟩=>Tot.bind (aH h hz most h1 (by omega)) λv4 ⟨⟨a4,b4⟩,s4⟩=>?_
  exact loop v.2.1 v4.1.1 v4.2.1 v.1.1 (m+1+1) _ a4 b4 (by rw[ev];omega) s4 (by omega) hv (by omega)
theorem yC (h:fh b)(hs:bg b m s)(hm:m<=90000)(hK:1048577<K):Tot (Q154.f K (s,())) λr=>WI r.1.1 2000/\bg b (m+802) r.2.1:=by
 simp only[Q154.f];exact Tot.bind (yB h hs 100 (by decide) (by decide) hm hK) λv hv=>Tot.ret ⟨hv.1.1,hv.2⟩
theorem xg (h:fh b)(hs:bg b m s)(hm:m<=90000)(hK:1048577<K):Tot (Q155.f K (s,())) λr=>(∃ i,dw i r.1.1)/\bg b (m+803) r.2.1:=by
 simp only[Q155.f];refine Tot.bind (yC h hs hm hK) λw ⟨hw,s1⟩=>Tot.bind (aH h s1 _ (by have:=hw.len;show (1:Int)<=(w.1.1.1.length:Int);omega) (by omega)) λv ⟨⟨a,b⟩,s2⟩=>Tot.ix a b λy hy _=>Tot.ret ⟨?_,s2⟩
 obtain⟨i,hi,rfl⟩:=AV hy;exact⟨i,hw.node i hi⟩
structure NS (c:Nat) (n:aa):Prop where
 nb:NB n
 table:(aa.table n).length<=c
 cast:(aa.cast n).length<=c
 doubts:(aa.doubts n).length<=c
 places:(aa.places n).length<=c
 others:(aa.others n).length<=c
theorem dw.ns {i:Nat}{n:aa}(h:dw i n):NS 8 n:=by
 cases hu:n.2.1 with
 |true =>
  have hU:=h.up hu;refine⟨h.nb,by have:=h.short;omega,by have:=clen hU.x.say;omega,?_,?_,?_⟩
  ·exact AI (gS hU.x.say.asc hU.x.say.inp) (by decide)
  ·exact AI (gS hU.x.places.2 λx hx=>(hU.x.places.1 x hx).1) (by decide)
  ·exact AI (gS hU.x.others.2 λx hx=>⟨(hU.x.others.1 x hx).1.1,Int.le_trans (hU.x.others.1 x hx).1.2 (by decide)⟩) (by decide)
 |false =>
  have e:=h.down hu;refine⟨h.nb,?_,?_,?_,?_,?_⟩ <;> rw[e] <;> exact AU _
theorem vP (h:fh b)(hs:bg b m s)(n:aa){c:Nat}(hn:NS c n)(h8:8<=c)(hc:c<=1000)(hm:m<=90000)(hK:1048577<K):Tot (Q164.f K (s,n,())) λr=>NS (c+1) r.1.1/\bg b (m+60) r.2.1:=by
 simp only[Q164.f];rw[ve K n hn.nb hK];simp only[AB];obtain⟨⟨n1,n2,n3,n4,n5,n6,n7,n8⟩,l1,l2,l3,l4,l5⟩:=hn;refine Tot.bind (aH h hs 12 (by decide) (by omega)) λv2 ⟨_,s2⟩=>?_
 have same:∀ (n':aa) (z:List Int×Int),n'.2.2.2.2.2.2.2.2=n.2.2.2.2.2.2.2.2->bg b (m+60) z->NS (c+1) n'/\bg b (m+60) z:=λn' z e hz=>by
  refine⟨⟨⟨?_,?_,?_,?_,?_,?_,?_,?_⟩,?_,?_,?_,?_,?_⟩,hz⟩ <;> simp only[aa.table,aa.cast,aa.doubts,aa.places,aa.others] <;> rw[e] <;> first|assumption|(refine AI ?_ (Ac c);assumption)
 have u2:bg b (m+60) v2.2.1:=s2.up (by omega);refine Tot.cnd (λ_=>Tot.bind (oI h s2 (by omega) hK) λt ⟨tl,s3⟩=>Tot.ret ⟨⟨⟨by show t.1.1.length<=_;omega,n2,n3,n4,n5,n6,n7,n8⟩,by show t.1.1.length<=_;omega,AA l2,AA l3,AA l4,AA l5⟩,s3.up (by omega)⟩) λ_=>?_
 refine Tot.cnd (λ_=>Tot.bind (ur h s2 (by omega) hK) λt ⟨tl,s3⟩=>Tot.ret ⟨⟨⟨n1,by show t.1.1.length<=_;omega,n3,n4,n5,n6,n7,n8⟩,AA l1,by show t.1.1.length<=_;omega,AA l3,AA l4,AA l5⟩,s3.up (by omega)⟩) λ_=>?_
 refine Tot.cnd (λ_=>Tot.ret (same _ _ rfl u2)) λ_=>?_
 refine Tot.cnd (λ_=>Tot.bind (aH h s2 9 (by decide) (by omega)) λv5 ⟨_,s5⟩=>Tot.bind (aH h s5 3 (by decide) (by omega)) λv6 ⟨_,s6⟩=>Tot.bind (aH h s6 3 (by decide) (by omega)) λv7 ⟨_,s7⟩=>Tot.bind (aH h s7 2 (by decide) (by omega)) λv8 ⟨_,s8⟩=>Tot.ret ⟨⟨⟨n1,n2,n3,n4,n5,n6,n7,n8⟩,AA l1,AA l2,AA l3,AA l4,AA l5⟩,s8.up (by omega)⟩) λ_=>?_
 refine Tot.cnd (λ_=>Tot.bind (aH h s2 8 (by decide) (by omega)) λv9 ⟨_,s9⟩=>Tot.bind (aH h s9 8 (by decide) (by omega)) λv10 ⟨_,s10⟩=>Tot.fit (Tot.ret ⟨⟨⟨n1,n2,?_,?_,n5,n6,n7,n8⟩,AA l1,AA l2,?_,AA l4,AA l5⟩,s10.up (by omega)⟩) (by omega) ?_) λ_=>?_
 ·show (aa.doubts n++[_]).length<=_;simp;omega
 ·intro d hd;rcases AG.1 hd with hd|hd
  ·exact n4 d hd
  ·rw[AF.1 hd];show ([v10.1.1]:List Int).length<=_;simp
 ·show (aa.doubts n++[_]).length<=_;simp;omega
 ·show (aa.doubts n).length+_<=_;simp;omega
 refine Tot.cnd (λ_=>Tot.bind (oJ h s2 (by omega)) λc s3=>Tot.ret ⟨⟨⟨n1,n2,n3,n4,n5,n6,n7,n8⟩,AA l1,AA l2,AA l3,AA l4,AA l5⟩,s3.up (by omega)⟩) λ_=>?_
 refine Tot.cnd (λ_=>Tot.bind (aH h s2 9 (by decide) (by omega)) λv9 ⟨_,s9⟩=>Tot.bind (oJ h s9 (by omega)) λc s10=>Tot.bind (aH h s10 3 (by decide) (by omega)) λv11 ⟨_,s11⟩=>Tot.fit (Tot.ret ⟨⟨⟨n1,n2,n3,n4,?_,?_,n7,n8⟩,AA l1,AA l2,AA l3,?_,AA l5⟩,s11.up (by omega)⟩) (by omega) ?_) λ_=>?_
 ·show (aa.places n++[_]).length<=_;simp;omega
 ·intro d hd;rcases AG.1 hd with hd|hd
  ·exact n6 d hd
  ·rw[AF.1 hd];show ([v11.1.1]:List Int).length<=_;simp
 ·show (aa.places n++[_]).length<=_;simp;omega
 ·show (aa.places n).length+_<=_;simp;omega
 refine Tot.cnd (λ_=>Tot.bind (aH h s2 3 (by decide) (by omega)) λv9 ⟨_,s9⟩=>Tot.bind (oI h s9 (by omega) hK) λt ⟨tl,s10⟩=>Tot.fit (Tot.ret ⟨⟨⟨n1,n2,n3,n4,n5,n6,?_,?_⟩,AA l1,AA l2,AA l3,AA l4,?_⟩,s10.up (by omega)⟩) (by omega) ?_) λ_=>?_
 ·show (aa.others n++[_]).length<=_;simp;omega
 ·intro d hd;rcases AG.1 hd with hd|hd
  ·exact n8 d hd
  ·rw[AF.1 hd];show t.1.1.length<=_;omega
 ·show (aa.others n++[_]).length<=_;simp;omega
 ·show (aa.others n).length+_<=_;simp;omega
 refine Tot.cnd (λ_=>Tot.ret (same _ _ rfl u2)) λ_=>Tot.cnd (λ_=>Tot.ret (same _ _ rfl u2)) λ_=>?_
 refine Tot.cnd (λ_=>Tot.bind (aH h s2 3 (by decide) (by omega)) λv ⟨⟨a,b⟩,s3⟩=>Tot.ix2 a b λ_ _ _=>Tot.ret (same _ _ rfl (s3.up (by omega)))) λ_=>?_
 exact Tot.bind (aH h s2 8 (by decide) (by omega)) λv9 ⟨_,s9⟩=>Tot.bind (aH h s9 3 (by decide) (by omega)) λv ⟨⟨a,b⟩,s3⟩=>Tot.ix2 a b λ_ _ _=>Tot.ret (same _ _ rfl (s3.up (by omega)))
end
theorem pt (K:Nat)(n:aa)(hn:NB n)(hK:1048577<K):∃ r:List af,r.length<=1048576/\Q186.f K (n,())=some ((r,()),())/\((¬ (db n/\n.2.1=true)/\r=[])\/(db n/\n.2.1=true/\r=gi n)):=by
 obtain⟨b,h1,h2,h3⟩:=j8 K n hn hK;simp only[Q186.f];rw[h2];cases b with
 |false=>exact⟨[],by simp,rfl,.inl ⟨λh=>(by have:=h3.2 h.1;cases this),rfl⟩⟩
 |true =>
  have hP:=h3.1 rfl;cases hu:n.2.1 with
  |false=>exact⟨[],by simp,by simp only[AB,hu];rfl,.inl ⟨λh=>(by cases h.2),rfl⟩⟩
  |true =>
   refine⟨gi n,by have:=un hn hP;omega,?_,.inr ⟨hP,rfl,rfl⟩⟩;simp only[AB,hu,Bool.not_true,cond_false];rw[xd K n hn hP hK];rfl
section
variable {K:Nat} {b:List Int} {m:Nat} {s:List Int×Int}
theorem vQ (h:fh b)(hs:bg b m s)(hm:m<=89000)(hK:1048577<K):Tot (Q165.f K (s,())) λr=>NS 9 r.1.1/\bg b (m+864) r.2.1:=by
 simp only[Q165.f];refine Tot.bind (xg h hs (by omega) hK) λn ⟨⟨i,hn⟩,s1⟩=>Tot.bind (aH h s1 20 (by decide) (by omega)) λv ⟨_,s2⟩=>Tot.cnd (λ_=>Tot.bind (vP h s2 n.1.1 hn.ns (Ad _) (by omega) (by omega) hK) λr hr=>Tot.ret hr) λ_=>Tot.ret ⟨?_,s2.up (by omega)⟩
 obtain⟨h1,h2,h3,h4,h5,h6⟩:=hn.ns;exact⟨h1,AA h2,AA h3,AA h4,AA h5,AA h6⟩
end
theorem bg.zero (b:List Int):bg b 0 (b,0):=⟨0,Ad _,rfl⟩
structure vR (code:List Int):Prop where
 byte:∀ y∈code,0<=y/\y<=255
 len:code.length<=9223372036854775807
theorem sM (K:Nat)(code:List Int)(hc:vR code)(hK:1048577<K):Tot (Q166.f K (code,())) λr=>NS 9 r.1.1:=by
 obtain⟨bs,hR,e⟩:=zx (K:=K) code hc.byte hc.len;simp only[Q166.f];exact Tot.vl e (Tot.bind (vQ hR (bg.zero bs) (by omega) hK) λn ⟨hn,s1⟩=>Tot.bind (aH hR s1 4 (by decide) (by omega)) λv _=>Tot.ret hn)
theorem sN (K:Nat)(xs:List Int)(hx:xs.length<=1048576)(hK:1048577<K):Q3.f K (xs,xs,())=rb true:=by
 have hl:Q3.l0 K (xs,xs,()) 0=rb true:=by
  refine mz (step:=λrec a=>Q3.l0.step K (xs,xs,()) rec a) xs.length (λi=>(i:Int)) (rb true) ?_ ?_ (by omega)
  ·intro rec i hi;simp only[Q3.l0.step];rw[decide_eq_true (by omega:(i:Int)<(AE xs:Int)),ai hi,av i (by omega)];simp only[cond_true,AB,bne_self_eq_false,cond_false]
  ·intro rec;simp only[Q3.l0.step,bh];rfl
 simp only[Q3.f,Q3.pre,bne_self_eq_false,cond_false];exact hl
theorem rS {me:Int}{l:List b8}(hm:InP me 0 7)(h:ck me l)(s:Int):kE l s=cD l s:=by
 unfold kE cD;rcases gU hm h with e|⟨x,e⟩ <;> rw[e]
 ·rfl
 ·rw[List.filter_cons,List.find?_cons];cases x.1==s <;> simp
theorem ut {me:Int}{l:List b8}(h:ck me l):cD l (ap me)=[]:=by
 rcases iF (l:=l) (s:=ap me) with e|⟨x,hx,e,_⟩
 ·exact e
 ·exact absurd e (h.1 x hx).2.1
theorem uu {me:Int}{l:List b8}(h:ck me l)(s:Int):bM (cD l s) s:=by
 rcases iF (l:=l) (s:=s) with e|⟨x,hx,e1,e⟩ <;> rw[e]
 ·intro f hf;cases hf
 ·rw[<- e1];exact (h.1 x hx).2.2.2.2
theorem tu {n:aa}(hP:db n)(hu:n.2.1=true)(s:Int):cG n s=bif s==ap n.1 then aa.table n else cD (aa.others n) s:=by
 obtain⟨_,_,_,_,_,_,_,_,hO⟩:=hP.up hu;unfold cG;rw[rS hP.1 hO];cases hs:s==ap n.1 with
 |false=>rfl
 |true =>
  rw[show s=ap n.1 by simpa using hs,ut hO];simp
theorem mH {n:aa}(hP:db n)(hu:n.2.1=true)(s:Int):az (cG n s)/\bM (cG n s) s:=by
 obtain⟨hT,hS,_,_,_,_,_,_,hO⟩:=hP.up hu;rw[tu hP hu];cases hs:s==ap n.1 with
 |true=>rw[show s=ap n.1 by simpa using hs];exact⟨hT,hS⟩
 |false=>exact⟨nG hO s,uu hO s⟩
theorem tv {n:aa}(hn:NB n)(hP:db n)(hu:n.2.1=true):gi n=cG n 0++cG n 1:=sL hn hP hu
theorem xh {n:aa}(hn:NB n)(hP:db n)(hu:n.2.1=true):az (gi n):=by
 rw[tv hn hP hu];obtain⟨a1,a2⟩:=mH hP hu 0;obtain⟨b1,b2⟩:=mH hP hu 1;refine⟨λf hf=>(AG.1 hf).elim (a1.1 f) (b1.1 f),?_⟩;unfold Asc;rw[Ab];refine⟨a1.2,b1.2,λf hf g hg=>?_⟩;have h1:=a2 f hf;have h2:=b2 g hg;rw[eB (a1.1 f hf).1]at h1;rw[eB (b1.1 g hg).1]at h2;show f.1<g.1;omega
theorem xi {n:aa}(hP:db n)(hu:n.2.1=true){s:Int}(h0:s≠0)(h1:s≠1):cG n s=[]:=by
 obtain⟨ht,hs⟩:=mH hP hu s;cases hp:cG n s with
 |nil=>rfl
 |cons f l =>
  rw[hp]at ht hs;have:=hs f (by simp);have hf:=(ht.1 f (by simp)).1;obtain⟨f0,f1⟩:=tn hf;omega
theorem vS {n:aa}(hn:NB n)(hP:db n)(hu:n.2.1=true){s:Int}{f:af}(hf:f∈cG n s):f∈gi n:=by
 rw[tv hn hP hu];by_cases h0:s=0
 ·subst h0;exact List.mem_append_left _ hf
 ·by_cases h1:s=1
  ·subst h1;exact List.mem_append_right _ hf
  ·rw[xi hP hu h0 h1]at hf;cases hf
theorem uv (K:Nat){t:List af}{f:af}(hT:az t)(hf:f∈t)(hK:1048577<K):Q14.f K (t,f.1,())=some ((f,true,()),()):=by
 rcases jK K t f.1 (cF hT) hK with ⟨h,_⟩|⟨_,⟨g,hg,e,h⟩|⟨h,_⟩⟩
 ·exact absurd hT h
 ·rw[h,fY hT.2 hg hf e]
 ·exact absurd rfl (h f hf)
end Go.Proofs.YtmcbmojdeikcdaaGreatEv
