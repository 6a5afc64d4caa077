/- A tick, by the specification: what it comes to, and what is sent. -/
import Derived.Test.YtmcbmojdeikcdaaGreatP2
set_option linter.unusedVariables false
set_option linter.unusedSimpArgs false
open Classical renaming not_not->Aj
open Int renaming toNat_natCast->AC,toNat->AD,eq_ofNat_of_zero_le->AL,toNat_zero->AO,tmod->AY,fdiv->Ab,toNat_of_nonneg->Ah,tmod_lt_of_pos->Ai,tmod_nonneg->Ao
open List renaming length->AE,mem_singleton->AG,length_append->AH,length_set->AI,length_take->AJ,mem_append->AK,nil_append->AM,length_drop->AN,drop_zero->AP,mem_of_mem_take->AQ,getElem_of_mem->AS,getElem_mem->AT,mem_map->AW,mem_filter->AX,length_nil->AZ,mem_or_eq_of_mem_set->Aa,length_map->Ac,length_filter_le->Ad,mem_of_mem_drop->Af,mem_flatMap->Ak,length_cons->Al,take_length->Am,not_mem_nil->An,mem_cons->Ap
open Nat renaming le_succ_of_le->AA,le_trans->AF,le_refl->AR,zero_le->AU,le_succ->Ae,pow_le_pow_right->Ag
open Option renaming bind_some->AB,bind->AV
namespace Go.Proofs.YtmcbmojdeikcdaaGreatEv
open Go
theorem sJ {n:aa}(h:∀ k,k<8->¬ gf n k):gS n=none:=by
 unfold gS;rw[List.find?_eq_none];intro x hx;obtain⟨k,hk,rfl⟩:=AW.1 hx;have:=h k (by simpa using hk);unfold gf at this;simpa using this
theorem sK {n:aa}{k:Nat}(hk:k<8)(hc:gf n k)(h:∀ j,j<k->¬ gf n j):gS n=some (cq n k):=by
 unfold gS;rw[List.find?_map,List.find?_range_eq_some.2 ⟨?_,by simpa using hk,λj hj=>?_⟩]
 ·rfl
 ·unfold gf at hc;simpa using hc
 ·have:=h j hj;unfold gf at this;simpa[Classical.or_iff_not_imp_left]using this
theorem tm (K:Nat)(n:aa)(h:cI n)(hq:rC n)(hK:1048577<K):Q137.f K (n,())=some (((du n).1,(du n).2,()),()):=by
 obtain⟨⟨q0,q1⟩,⟨t0,t1⟩⟩:=hq;obtain⟨to,es,hto⟩:=xX K n h t0 t1 hK;simp only[Q137.f];rw[es];simp only[AB,du];by_cases hmax:iF n>=999999
 ·rw[decide_eq_true hmax,show decide (n.2.2.2.2.2.2.1>=999999)=true from decide_eq_true hmax];cases decide (to<0) <;> rfl
 ·rw[decide_eq_false hmax,show decide (n.2.2.2.2.2.2.1>=999999)=false from decide_eq_false hmax];simp only[cond_false];rcases hto with ⟨rfl,hno⟩|⟨k,hk,hkc,hkf,rfl⟩
  ·rw[sJ hno];rfl
  ·rw[sK hk hkc hkf];have hk0:0<=cq n k/\cq n k<8:=⟨Ao _ (by omega),Ai _ (by omega)⟩;rw[decide_eq_false (by omega:¬ cq n k<0)];simp only[cond_false];rw[tf K n _ h hK];simp only[AB];have hwr:wr .i64 (iF n+1)=iF n+1:=aM (by omega) (by omega);rw[show wr .i64 ((jo n).2.2.2.2.2.2.1+1)=n.2.2.2.2.2.2.1+1 from hwr,aM (n:=cq n k+1) (by omega) (by omega)];simp only[Q93.f];rw[szb _ _ _ (by omega) (by have:=cK (mD h (cq n k));simp;omega)];rfl
def gh (w:av):Prop:=InP w.2.2.2.1 0 7/\(av.table w).length<=1048576
theorem rL {n:aa}(hT:aB (aa.table n)):(cZ n).2.length<=2/\∀ w∈(cZ n).2,gh w:=by
 have nope:([]:List av).length<=2/\∀ w∈([]:List av),gh w:=⟨by simp,by simp⟩;unfold cZ;cases (aa.probe n).1==-1 with
 |true=>exact nope
 |false =>
  cases !dW (aX (aa.table n) (aa.probe n).1) with
  |true=>exact nope
  |false =>
   cases decide (n.2.2.2.2.2.1-(aa.probe n).2.1>=4) with
   |true=>exact nope
   |false =>
    cases decide (n.2.2.2.2.2.1-(aa.probe n).2.1>=2) with
    |false=>exact nope
    |true =>
     cases !(aa.probe n).2.2.2 with
     |false=>exact nope
     |true =>
      simp only[cond_true,cond_false];refine⟨by rw[Ac];exact List.length_take_le _ _,λw hw=>?_⟩;obtain⟨to,hto,rfl⟩:=AW.1 hw;obtain⟨f,hf,rfl⟩:=AW.1 (AQ hto);exact⟨(hT.1 f (AX.1 hf).1).1,AU _⟩
theorem xx {n:aa}(h:cI n):(du n).2.length<=1/\∀ w∈(du n).2,gh w:=by
 have nope:([]:List av).length<=1/\∀ w∈([]:List av),gh w:=⟨by simp,by simp⟩;unfold du;cases decide (iF n>=999999) with
 |true=>exact nope
 |false =>
  simp only[cond_false];cases hx:gS n with
  |none=>exact nope
  |some to =>
   refine⟨by simp,λw hw=>?_⟩;rw[AG.1 hw];obtain⟨g1,g2,g3⟩:=ei h.table (f9 (pS hx).2);exact⟨g2 ▸ g1.1,cK (mD h to)⟩
theorem ze {n:aa}(hO:cN n.1 (aa.others n)){s d:Int}(hs:InP s 0 1):InP (k7 n s d) 0 7:=by
 unfold k7;cases hc:decide (eV (ey (aa.others n) s)≠[])&&bg .i64 d 4==0 with
 |true =>
  rw[Bool.and_eq_true,decide_eq_true_eq]at hc;have:=(gr (d:=Ab d (2 ^ 3)) hc.1).2.2;unfold eV at this;obtain⟨f,hf,e⟩:=AW.1 (AQ this);simp only[cond_true];show InP (fO (eV (ey (aa.others n) s)) (Ab d (2 ^ 3))) 0 7;unfold eV;rw[<- e];exact ((rI hO s).1 f (AX.1 hf).1).1
 |false =>
  obtain⟨b0,b1⟩:=kx (a:=Ab d (2 ^ 3)) (m:=3) (by omega);have b0:0<=bg .i64 (Ab d (2 ^ 3)) 3:=b0;have b1:bg .i64 (Ab d (2 ^ 3)) 3<=3:=b1;obtain⟨s0,s1⟩:=hs;simp only[cond_false];exact⟨by omega,by omega⟩
theorem tn {n:aa}(hT:aB (aa.table n))(hO:cN n.1 (aa.others n))(draw:Int):(iY n draw).length<=2/\∀ w∈iY n draw,gh w:=by
 have nope:([]:List av).length<=2/\∀ w∈([]:List av),gh w:=⟨by simp,by simp⟩;unfold iY;cases bg .i64 draw 3==1 with
 |true =>
  simp only[cond_true,k8];cases ky n with
  |false=>exact nope
  |true =>
   refine⟨?_,λw hw=>?_⟩
   ·show ((([0,1]:List Int).filter (λs=>s != ar n.1)).map _).length<=2;rw[Ac];exact Ad _ _
   ·obtain⟨s,hs,rfl⟩:=AW.1 hw;refine⟨ze hO ?_,cK hT⟩;have:=(AX.1 hs).1;simp at this;rcases this with rfl|rfl <;> exact⟨by decide,by decide⟩
 |false =>
  simp only[cond_false];by_cases hth:eL n=[]
  ·rw[decide_eq_true hth,Bool.or_true];exact nope
  ·rw[decide_eq_false hth,Bool.or_false];obtain⟨f,hf,e⟩:=AW.1 (gr (d:=Ab draw (2 ^ 2)) hth).2.2;have hto:InP (fO (eL n) (Ab draw (2 ^ 2))) 0 7:=by
    rw[<- e];exact (hT.1 f (AX.1 hf).1).1
   cases bg .i64 draw 3==3 with
   |true=>exact nope
   |false =>
    simp only[cond_false];cases bg .i64 draw 3==0 with
    |true=>exact⟨by simp,λw hw=>by rw[AG.1 hw];exact⟨hto,cK hT⟩⟩
    |false =>
     simp only[cond_false,rB]
     match ho:aa.others n with
     |[]=>exact nope
     |x::_=>exact⟨by simp,λw hw=>by rw[AG.1 hw];exact⟨hto,cK (hO.1 x (by rw[ho];simp)).2.2.2.1⟩⟩
theorem UpX.far {n:aa}(h:UpX n):qD n:=⟨by rcases lO h.me h.others with e|⟨x,e⟩ <;> rw[e] <;> simp,λx hx=>⟨(h.others.1 x hx).2.2.2.1,cK (h.others.1 x hx).2.2.2.1⟩⟩
theorem pW {n:aa}(h:UpX n)(hn:bZ n<=1000000):((aa.probe n).1=-1\/0<=(aa.probe n).1)/\0<=(aa.probe n).2.1/\(aa.probe n).2.1<=1000000:=by
 have hPr:=h.probe;have hnn:bZ n=n.2.2.2.2.2.1:=rfl;unfold cM at hPr;split at hPr
 ·rename_i h1;rw[hPr];exact⟨.inl rfl,by show (0:Int)<=0;omega,by show (0:Int)<=1000000;omega⟩
 ·obtain⟨_,⟨f,hf,e⟩,⟨s0,s1⟩,_⟩:=hPr;have:=(h.table.1 f hf).1.1;exact⟨.inr (e ▸ this),s0,by omega⟩
theorem zf {n:aa}(h:UpN n)(hm:bZ n<999999)(draw:Int):(oh n draw).length<=5/\∀ w∈oh n draw,gh w:=by
 have hT:=(lP h.x.later (show cQ (dE n) from h.self)).1.table;obtain⟨f1,f2⟩:=rL hT;obtain⟨h1,_,_⟩:=oi h hm;have h2:=(pa h hm).1;obtain⟨d1,d2⟩:=tn h2.x.table h2.x.others draw;have ha:(eN (eO n).1).2.length<=1/\∀ w∈(eN (eO n).1).2,gh w:=by
  unfold eN;cases (aa.probe (eO n).1).1==-1 with
  |true=>exact xx h1.x.say
  |false=>exact⟨by simp,by simp⟩
 unfold oh;have f1:(eO n).2.length<=2:=f1;refine⟨by rw[AH,AH];omega,λw hw=>?_⟩;rcases AK.1 hw with hw|hw
 ·rcases AK.1 hw with hw|hw
  ·exact f2 w hw
  ·exact ha.2 w hw
 ·exact d2 w hw
theorem zg (K:Nat)(n:aa)(draw:Int)(h:UpN n)(hg:n.2.2.1=false)(hm:bZ n<999999)(hK:1048577<K):Q144.f K (n,draw,())=some ((jO n,oh n draw,()),()):=by
 have hn0:=h.x.now0;simp only[Q144.f];refine (congrArg (λb=>bif !b then _ else _) h.up).trans ?_;refine (congrArg (λb=>bif b then _ else _) hg).trans ?_;refine (congrArg (λb=>bif b then _ else _) (decide_eq_false (show ¬ n.2.2.2.2.2.1>=999999 by have:bZ n=n.2.2.2.2.2.1:=rfl;omega))).trans ?_;simp only[cond_false];rw[show wr .i64 (n.2.2.2.2.2.1+1)=n.2.2.2.2.2.1+1 from aM (by have:bZ n=n.2.2.2.2.2.1:=rfl;omega) (by have:bZ n=n.2.2.2.2.2.1:=rfl;omega)];have hl:UpX (dE n):=h.x.later;have hdd:∀ d∈aa.doubts (dE n),0<=d.2.2.1/\d.2.2.1<=(dE n).2.2.2.2.2.1/\d.2.2.2.length<=1048576:=λd hd=>by
  obtain⟨_,⟨s0,s1⟩,_,h4⟩:=hl.doubts.1 d hd;exact⟨s0,s1,AF (gP (k:=λx=>x) h4.2 λx hx=>(h4.1 x hx).1) (by decide)⟩
 have hkey:∀ d∈aa.doubts (dE n),∃ f∈aa.table (dE n),f.1=d.1:=λd hd=>by
  obtain⟨⟨f,hf,e,_⟩,_⟩:=hl.doubts.1 d hd;exact⟨f,hf,e⟩
 have hnow:(dE n).2.2.2.2.2.1<=1000000:=by show bZ n+1<=1000000;omega
 refine (congrArg (λo=>AV o _) (yL K (dE n) ⟨hl.say,hkey,rfl⟩ hdd hnow hK)).trans ?_;simp only[AB];obtain⟨b1,b2,t,c,ds,eb⟩:=lP hl (show cQ (dE n) from h.self);have hseq:rC (eO n).1:=(oi h hm).1.seq;have hmnow:bZ (jl (dE n))=bZ n+1:=by rw[eb];rfl
 have hp:=pW b1 (by omega);obtain⟨fw1,_⟩:=rL b1.table;have h2:=(pa h hm).1;have hmore:=yX K (jO n) draw h2.x.far h2.x.table (cK h2.x.table) hK;have hmid:=(oi h hm).1;obtain⟨aw1,_⟩:=xx hmid.x.say;obtain⟨dw1,_⟩:=tn h2.x.table h2.x.others draw;unfold jO eN eO at hmore h2 dw1;unfold eO at hseq hmid aw1;unfold oh jO eN eO;generalize jl (dE n)=m at *;rcases hp.1 with hp1|hp1
 ·have e0:cZ m=(m,[]):=by unfold cZ;rw[show ((aa.probe m).1==-1)=true by simpa using hp1];rfl
  rw[e0]at hmore hseq hmid aw1 dw1 ⊢;refine (congrArg (λb=>bif b then _ else _) (decide_eq_false (show ¬ m.2.2.2.2.2.2.2.2.2.2.1.1>=0 by have:(aa.probe m).1=m.2.2.2.2.2.2.2.2.2.2.1.1:=rfl;omega))).trans ?_;refine (congrArg (λb=>bif b then _ else _) (decide_eq_true (show m.2.2.2.2.2.2.2.2.2.2.1.1<0 by have:(aa.probe m).1=m.2.2.2.2.2.2.2.2.2.2.1.1:=rfl;omega))).trans ?_;refine (congrArg (λo=>AV o _) (tm K m hmid.x.say hseq hK)).trans ?_;simp only[AB];rw[show ((aa.probe m).1==-1)=true by simpa using hp1]at hmore dw1 ⊢;simp only[cond_true]at hmore dw1 aw1 ⊢;rw[szw _ _ _ (by omega) (by simp;omega)];simp only[cond_true];refine (congrArg (λo=>AV o _) hmore).trans ?_;simp only[AB];rw[szw _ _ _ (by omega) (by simp;omega)];rfl
 ·refine (congrArg (λb=>bif b then _ else _) (decide_eq_true (show m.2.2.2.2.2.2.2.2.2.2.1.1>=0 from hp1))).trans ?_;refine (congrArg (λo=>AV o _) (yM K m b1.say (by omega) hp.2.1 hp.2.2 b1.now0 (by have:bZ m=m.2.2.2.2.2.1:=rfl;omega) hK)).trans ?_;simp only[AB];generalize cZ m=fo at *;obtain⟨m2,ws⟩:=fo;simp only at hmore hseq hmid aw1 dw1 fw1 ⊢;have hp2:=(pW hmid.x (by have:=hmid.now1;omega)).1;rcases hp2 with hp2|hp2
  ·refine (congrArg (λb=>bif b then _ else _) (decide_eq_true (show m2.2.2.2.2.2.2.2.2.2.2.1.1<0 by have:(aa.probe m2).1=m2.2.2.2.2.2.2.2.2.2.2.1.1:=rfl;omega))).trans ?_;refine (congrArg (λo=>AV o _) (tm K m2 hmid.x.say hseq hK)).trans ?_;simp only[AB];rw[show ((aa.probe m2).1==-1)=true by simpa using hp2]at hmore dw1 ⊢;simp only[cond_true]at hmore dw1 ⊢;rw[szw _ _ _ (by omega) (by omega)];simp only[cond_true];refine (congrArg (λo=>AV o _) hmore).trans ?_;simp only[AB];rw[szw _ _ _ (by omega) (by rw[AH];omega)];rfl
  ·refine (congrArg (λb=>bif b then _ else _) (decide_eq_false (show ¬ m2.2.2.2.2.2.2.2.2.2.2.1.1<0 by have:(aa.probe m2).1=m2.2.2.2.2.2.2.2.2.2.2.1.1:=rfl;omega))).trans ?_;rw[show ((aa.probe m2).1==-1)=false by simp;omega]at hmore dw1 ⊢;simp only[cond_false]at hmore dw1 ⊢;refine (congrArg (λo=>AV o _) hmore).trans ?_;simp only[AB,List.append_nil];rw[szw _ _ _ (by omega) (by omega)];rfl
def er (n:aa):List af:=ek ltF [] (eq n)
theorem oA {n:aa}(hn:NB n)(hP:eU n):(er n).length<=8:=by
 have hp:(er n).Perm (eq n):=by unfold er;simpa using gQ ltF (eq n) []
 rw[hp.length_eq];exact (pP hn hP).1
theorem rM (K:Nat)(n:aa)(hn:NB n)(hP:eU n)(hK:1048577<K):Q50.f K (n,())=some ((er n,()),()) :=
 yU K n hn (by have:=(pP hn hP).1;omega) hK
theorem lf (K:Nat)(l:List af)(f:af)(hl:l.length<=1048576)(hK:1048577<K):Ret (Q77.f K (l,f,())) (f∈l):=by
 have:=cC (step:=λrec a=>Q77.l0.step K (l,f,()) rec a) l.length (λi=>(i:Int)) (λj=>∃ h:j<l.length,l[j]=f) (rb false) (λ_=>rb true) ?_ ?_ l.length K 0 (by omega) (by omega)
 ·rcases this with ⟨h1,h2⟩|⟨j,_,_,⟨h3,h4⟩,_,h2⟩
  ·refine⟨false,h2,?_⟩;refine⟨λh=>absurd h (by decide),λhf=>?_⟩;obtain⟨i,hi,e⟩:=AS hf;exact absurd ⟨hi,e⟩ (h1 i (AU _) hi)
  ·exact⟨true,h2,λ_=>h4 ▸ AT h3,λ_=>rfl⟩
 ·intro rec i hi;simp only[Q77.l0.step];rw[bC (by omega:(i:Int)<(AE l:Int)),ah hi,aw i (by omega)];simp only[cond_true,AB];rw[jh];by_cases h:l[i]=f
  ·rw[decide_eq_true h];exact .inr ⟨⟨hi,h⟩,rfl⟩
  ·rw[decide_eq_false h];exact .inl ⟨λ⟨_,h2⟩=>h h2,rfl⟩
 ·intro rec;simp only[Q77.l0.step,aR];rfl
theorem qs (K:Nat)(l:List af)(f:af)(hl:l.length<=1048576)(hK:1048577<K):Ret (Q177.f K (l,f,())) (f∈l):=by
 have:=cC (step:=λrec a=>Q176.l0.step K (l,f,()) rec a) l.length (λi=>(i:Int)) (λj=>∃ h:j<l.length,f=l[j]) (some ((-1,()),())) (λj=>some ((((j:Nat):Int),()),())) ?_ ?_ l.length K 0 (by omega) (by omega)
 ·simp only[Q177.f];rcases this with ⟨h1,h2⟩|⟨j,_,_,⟨h3,h4⟩,_,h2⟩
  ·have e:Q176.f K (l,f,())=some ((-1,()),()):=h2;rw[e];refine⟨false,rfl,λh=>absurd h (by decide),λhf=>?_⟩;obtain⟨i,hi,e⟩:=AS hf;exact absurd ⟨hi,e.symm⟩ (h1 i (AU _) hi)
  ·have e:Q176.f K (l,f,())=some ((((j:Nat):Int),()),()):=h2;rw[e];refine⟨true,?_,λ_=>h4 ▸ AT h3,λ_=>rfl⟩;simp only[AB];rw[decide_eq_true (by omega:((j:Nat):Int)>=0)]
 ·intro rec i hi;simp only[Q176.l0.step];rw[bC (by omega:(i:Int)<(AE l:Int)),ah hi,aw i (by omega)];simp only[cond_true,AB];rw[jh];by_cases h:f=l[i]
  ·rw[decide_eq_true h];exact .inr ⟨⟨hi,h⟩,rfl⟩
  ·rw[decide_eq_false h];exact .inl ⟨λ⟨_,h2⟩=>h h2,rfl⟩
 ·intro rec;simp only[Q176.l0.step,aR];rfl
def kz (f:af):af:=(f.1,f.2.1,wr .i64 (f.2.2.1-1),f.2.2.2)
def xy (l:List af):Prop:=∀ i (hi:i<l.length),l[i].2.2.1=1\/l[i].2.2.1=4\/kz l[i]∈l
theorem zh (K:Nat)(l:List af)(hl:l.length<=1048576)(hK:1048577<K):Ret (Q189.f K (l,())) (xy l):=by
 refine (cg l (step:=λrec a=>Q189.l0.step K (l,()) rec a) (λi hi=>l[i].2.2.1=1\/l[i].2.2.1=4\/kz l[i]∈l) hl ?_ ?_ hK (λ_=>Ret.yes trivial)).iff (b6.trans Iff.rfl)
 ·intro rec i hi;simp only[Q189.l0.step];rw[bC (by omega:(i:Int)<(AE l:Int)),ah hi];simp only[cond_true,AB];by_cases h1:l[i].2.2.1=1
  ·rw[show (l[i].2.2.1==1)=true by simpa using h1];exact .inl ⟨.inl h1,rfl⟩
  ·rw[show (l[i].2.2.1==1)=false by simpa using h1];simp only[cond_false];by_cases h4:l[i].2.2.1=4
   ·rw[show (l[i].2.2.1==4)=true by simpa using h4];exact .inl ⟨.inr (.inl h4),rfl⟩
   ·rw[show (l[i].2.2.1==4)=false by simpa using h4];simp only[cond_false];refine (Rnd.nx (lf K l (kz l[i]) hl hK) λ_=>Rnd.end_).iff ?_;exact⟨λh=>.inr (.inr h.1),λh=>⟨(h.resolve_left h1).resolve_left h4,trivial⟩⟩
 ·intro rec;simp only[Q189.l0.step,aR];rfl
theorem tp (K:Nat)(w:ai)(t:List af)(ht:t.length<=1048576)(hb:(ai.born w).length<=1048576)(hK:1048577<K):Ret (Q190.f K (w,t,())) (∀ f∈t,f∈ai.born w):=by
 refine (cg t (step:=λrec a=>Q190.l0.step K (w,t,()) rec a) (λi hi=>t[i]∈ai.born w) ht ?_ ?_ hK (λ_=>Ret.yes trivial)).iff (b6.trans (cG (p:=λf=>f∈ai.born w)).symm)
 ·intro rec i hi;simp only[Q190.l0.step];rw[bC (by omega:(i:Int)<(AE t:Int)),ah hi];simp only[cond_true,AB];exact (Rnd.nx (lf K _ _ hb hK) λ_=>Rnd.end_).iff b6
 ·intro rec;simp only[Q190.l0.step,aR];rfl
def lT (w:ai)(n:aa):Prop:=(∀ f∈aa.table n,f∈ai.born w)/\∀ i (hi:i<(aa.others n).length),∀ f∈(aa.others n)[i].2,f∈ai.born w
theorem oB {w:ai}{n:aa}:lT w n<->∀ f∈eq n,f∈ai.born w:=by
 unfold lT eq;rw[<- cG (p:=λx:cB=>∀ f∈x.2,f∈ai.born w)];constructor
 ·intro ⟨h1,h2⟩ f hf;rcases AK.1 hf with h|h
  ·exact h1 f h
  ·obtain⟨x,hx,hfx⟩:=Ak.1 h;exact h2 x hx f hfx
 ·intro h;exact⟨λf hf=>h f (List.mem_append_left _ hf),λx hx f hf=>h f (List.mem_append_right _ (Ak.2 ⟨x,hx,hf⟩))⟩
theorem vD (K:Nat)(w:ai)(hw:WB w)(hK:1048577<K):Ret (Q191.f K (w,())) (kw w/\xy (ai.born w)/\∀ i (hi:i<(ai.nodes w).length),lT w (ai.nodes w)[i]):=by
 have hb:=hw.born;simp only[Q191.f,Q191.pre];refine Ret.nx (pN K w hw hK) λ_=>Ret.nx (zh K _ hb hK) λ_=>?_
 refine (cg (ai.nodes w) (step:=λrec a=>Q191.l0.step K (w,()) (Q191.l1 K (w,()) rec) rec a) (λi hi=>lT w (ai.nodes w)[i]) hw.nodes ?_ ?_ hK (λ_=>Ret.yes trivial)).iff b6
 ·intro rec i hi;have hn:=hw.node _ (AT hi);simp only[Q191.l0.step];rw[bC (by omega:(i:Int)<(AE (ai.nodes w):Int)),ah hi];simp only[cond_true,AB];generalize (ai.nodes w)[i]=n at hn;refine Rnd.nx (tp K w (aa.table n) hn.table hb hK) λ_=>?_
  have hl:=hn.others;refine kR (aa.others n) (step:=λrec1 a=>Q191.l1.step K (w,()) rec rec1 a) (λj=>((i:Int),(j:Int),n.1,n.2.1,n.2.2.1,n.2.2.2.1,n.2.2.2.2.1,n.2.2.2.2.2.1,n.2.2.2.2.2.2.1,n.2.2.2.2.2.2.2.1,aa.table n,aa.cast n,(aa.probe n).1,(aa.probe n).2.1,(aa.probe n).2.2.1,(aa.probe n).2.2.2,aa.doubts n,(aa.coord n).1,(aa.coord n).2.1,(aa.coord n).2.2.1,(aa.coord n).2.2.2,aa.places n,aa.others n)) (λj hj=>∀ f∈(aa.others n)[j].2,f∈ai.born w) hl ?_ ?_ hK
  ·intro rec1 j hj;simp only[Q191.l1.step];rw[bC (by omega:(j:Int)<(AE (aa.others n):Int)),ah hj,aw j (by omega)];simp only[cond_true,AB];exact (Rnd.nx (tp K w _ (hn.facts _ (AT hj)) hb hK) λ_=>Rnd.end_).iff b6
  ·intro rec1;simp only[Q191.l1.step,aR];rfl
 ·intro rec;simp only[Q191.l0.step,aR];rfl
theorem rN (K:Nat)(w:ai)(f:af)(hb:(ai.born w).length<=1048576)(hK:1048577<K):Ret (Q178.f K (f,w,())) (¬ f∈ai.born w) :=
 Ret.neg (qs K (ai.born w) f hb hK)
set_option maxHeartbeats 2000000 in
theorem zi (K:Nat)(w:ai)(hw:WB w)(hK:1048577<K):Ret (Q179.f K (w,())) (kw w/\(∀ i (hi:i<(ai.nodes w).length),¬ ∃ f∈er (ai.nodes w)[i],¬ f∈ai.born w)/\∀ i (hi:i<(ai.born w).length),InP (ai.born w)[i].2.2.1 2 3->kz (ai.born w)[i]∈ai.born w):=by
 have hb:=hw.born;simp only[Q179.f,Q179.pre];refine Ret.nx (pO K w hw hK) λhW=>?_
 refine cg (ai.nodes w) (step:=λrec a=>Q179.l0.step K (w,()) (Q179.l1 K (w,())) rec a) (λi hi=>¬ ∃ f∈er (ai.nodes w)[i],¬ f∈ai.born w) hw.nodes ?_ (rt:=Q179.l1 K (w,()) 0) ?_ hK λ_=>?_
 ·intro rec i hi;have hn:=hw.node _ (AT hi);have hP:=(hW.2.2.2.1 i hi).2.2.1;have hlen:=oA hn hP;simp only[Q179.l0.step];rw[bC (by omega:(i:Int)<(AE (ai.nodes w):Int)),ah hi];simp only[cond_true,AB];rw[rM K _ hn hP hK];simp only[AB];generalize er (ai.nodes w)[i]=v at hlen;refine (Rnd.fx (pE K v (λy4=>(Q178.f K (y4.1,w,())).map λy=>y.1.1) (λf=>¬ f∈ai.born w) (by omega) hK (λf _=>(rN K w f hb hK).fn)) λ_=>Rnd.end_).iff b6
 ·intro rec;simp only[Q179.l0.step,aR];rfl
 ·refine (cg (ai.born w) (step:=λrec a=>Q179.l1.step K (w,()) rec a) (λi hi=>InP (ai.born w)[i].2.2.1 2 3->kz (ai.born w)[i]∈ai.born w) hb ?_ ?_ hK (λ_=>Ret.yes trivial)).iff b6
  ·intro rec i hi;simp only[Q179.l1.step];rw[bC (by omega:(i:Int)<(AE (ai.born w):Int)),ah hi];simp only[cond_true,AB];obtain⟨b,h1,h2⟩:=eu K (ai.born w)[i].2.2.1 2 3;rw[h1];simp only[AB];cases b with
   |false=>exact .inl ⟨λh=>absurd (h2.2 h) (by decide),rfl⟩
   |true =>
    simp only[cond_true];refine (Rnd.fx (rN K w (kz (ai.born w)[i]) hb hK) λ_=>Rnd.end_).iff ?_;exact⟨λh _=>Aj.1 h.1,λh=>⟨λh3=>h3 (h (h2.1 rfl)),trivial⟩⟩
  ·intro rec;simp only[Q179.l1.step,aR];rfl
theorem pf (K:Nat)(w:ai)(hw:WB w)(hK:1048577<K):∃ b,Q191.f K (w,())=rb b/\Q179.f K (w,())=rb b:=by
 refine Ret.same (vD K w hw hK) (zi K w hw hK) ?_;have hview:∀ n:aa,(¬ ∃ f∈er n,¬ f∈ai.born w)<->lT w n:=by
  intro n;rw[oB];have hp:(er n).Perm (eq n):=by unfold er;simpa using gQ ltF (eq n) []
  exact⟨λh f hf=>Aj.1 λh2=>h ⟨f,hp.mem_iff.2 hf,h2⟩,λh ⟨f,hf,h2⟩=>h2 (h f (hp.mem_iff.1 hf))⟩
 constructor
 ·rintro⟨h1,h2,h3⟩;refine⟨h1,λi hi=>(hview _).2 (h3 i hi),λi hi hin=>?_⟩;obtain⟨a,b⟩:=hin;rcases h2 i hi with h|h|h
  ·omega
  ·omega
  ·exact h
 ·rintro⟨h1,h2,h3⟩;refine⟨h1,λi hi=>?_,λi hi=>(hview _).1 (h2 i hi)⟩;obtain⟨a,b⟩:=(h1.2.2.2.2.2 i hi).1.2.2;by_cases e1:(ai.born w)[i].2.2.1=1
  ·exact .inl e1
  ·by_cases e4:(ai.born w)[i].2.2.1=4
   ·exact .inr (.inl e4)
   ·exact .inr (.inr (h3 i hi ⟨by omega,by omega⟩))
theorem UpN.nb {n:aa}(h:UpN n):NB n where
 table:=cK h.x.table
 cast:=by have:=clen h.x.say;omega
 doubts:=h.x.say.ld
 by_:=λd hd=>by have:=(h.learns.by_ d hd).len;omega
 places:=plen h.x.places
 trips:=λp hp=>by have:=(h.x.places.1 p hp).2.2.2.2.1.2;omega
 others:=olen h.x.others
 facts:=λx hx=>cK (h.x.others.1 x hx).2.2.2.1
def is (me:Int)(g:Bool):aa:=(me,false,false,g,0,0,0,0,[],[],(0,0,0,false),[],(0,0,0,0),[],[])
structure dK (i:Nat) (n:aa):Prop where
 me:n.1=(i:Int)
 lt:i<8
 up:n.2.1=true->UpN n
 down:n.2.1=false->n=is n.1 n.2.2.2.1
theorem dK.nb {i:Nat}{n:aa}(h:dK i n):NB n:=by
 cases hu:n.2.1 with
 |true=>exact (h.up hu).nb
 |false =>
  rw[h.down hu];exact⟨by simp[is,aa.table],by simp[is,aa.cast],by simp[is,aa.doubts],by simp[is,aa.doubts],by simp[is,aa.places],by simp[is,aa.places],by simp[is,aa.others],by simp[is,aa.others]⟩
theorem dK.short {i:Nat}{n:aa}(h:dK i n):(aa.table n).length<=4:=by
 cases hu:n.2.1 with
 |true=>exact j0 (h.up hu).x.table (h.up hu).x.site
 |false=>rw[h.down hu];exact AU _
theorem dK.of {i:Nat}{n m:aa}(h:dK i n)(hm:UpN m)(e:m.1=n.1):dK i m:=⟨e.trans h.me,h.lt,λ_=>hm,λhu=>by rw[hm.up]at hu;cases hu⟩
def fQ (l:List fy):Prop:=l.length<=60/\∀ f∈l,InP f.1 0 7/\f.2.1.size<=2000
structure WI (w:ai) (c:Nat):Prop where
 len:w.1.length=8
 node:∀ (i:Nat) (h:i<w.1.length),dK i w.1[i]
 radio:fQ w.2.1
 sides:w.2.2.1.length=8
 born:w.2.2.2.length<=c
theorem WI.mono {w:ai}{c d:Nat}(h:WI w c)(hc:c<=d):WI w d:=⟨h.len,h.node,h.radio,h.sides,AF h.born hc⟩
theorem WI.put {w:ai}{c:Nat}(h:WI w c){i:Nat}{n:aa}(hn:dK i n){rd:List fy}(hr:fQ rd){b:List af}{d:Nat}(hb:b.length<=d):WI (w.1.set i n,rd,w.2.2.1,b) d:=by
 refine⟨by rw[AI];exact h.len,λj hj=>?_,hr,h.sides,hb⟩;show dK j ((w.1.set i n)[j]'hj);rw[List.getElem_set];split
 ·rename_i e;exact e ▸ hn
 ·exact h.node j _
theorem vE (K:Nat)(w:ai)(fr:Int)(ws:List av)(hs:w.2.2.1.length=8)(hf:InP fr 0 7)(hw:∀ x∈ws,gh x)(hr:fQ w.2.1)(hl:ws.length<=1000)(hK:1048577<K) :
  Tot (Q76.f K (w,fr,ws,())) λr=>∃ rd,fQ rd/\r.1.1=(w.1,rd,w.2.2):=by
 simp only[Q76.f,Q76.pre];obtain⟨f0,f1⟩:=hf;refine Tot.iter (step:=λrec a=>Q76.l0.step K (w,fr,ws,()) rec a) (λa=>0<=a.1/\a.1<=ws.length/\fQ a.2) (λa=>ws.length-a.1.toNat) ?_ K _ (by show ws.length-AD 0<K;omega) ⟨by show (0:Int)<=0;omega,by show (0:Int)<=_;omega,hr⟩;rintro rec ⟨i,rd⟩ ⟨h0,h1,h2⟩ ih;simp only at h0 h1 h2 ih ⊢;simp only[Q76.l0.step];refine Tot.cnd (λh=>?_) λ_=>Tot.ret ⟨rd,h2,rfl⟩
 have h:=of_decide_eq_true h;rw[aM (n:=i+1) (by omega) (by omega)];have go:∀ rd',fQ rd'->Tot (rec (i+1,rd')) λr=>∃ rd,fQ rd/\r.1.1=(w.1,rd,w.2.2):=λrd' hr'=>ih _ ⟨by show 0<=i+1;omega,by show i+1<=_;omega,hr'⟩ (by show ws.length-AD (i+1)<ws.length-AD i;omega)
 refine Tot.cnd (λh3=>?_) λ_=>go rd h2
 have h3:=of_decide_eq_true h3;refine Tot.ix f0 (by omega) λ_ _ _=>Tot.ix h0 h λy2 hy2 _=>?_
 obtain⟨⟨t0,t1⟩,_⟩:=hw y2 hy2;refine Tot.ix t0 (by omega) λ_ _ _=>Tot.cnd (λ_=>Tot.fit (Tot.ix h0 h λy4 hy4 _=>Tot.ix h0 h λy5 hy5 _=>Tot.bind (mV K y5 (hw y5 hy5).2 hK) λv hv=>Tot.fit (go _ ⟨?_,λf hf=>?_⟩) (by omega) ?_) (by omega) ?_) λ_=>go rd h2
 ·simp;omega
 ·rcases AK.1 hf with hf|hf
  ·exact h2.2 f (by simpa using hf)
  ·rw[AG.1 hf];exact⟨(hw y4 hy4).1,by show v.1.1.size<=2000;have:=hv.1;omega⟩
 ·simp;omega
 ·simp;omega
theorem Tot.ins {α:Type}{l:List α}{x:α}{a:Int}{c:Nat}{Q:(List α×Unit)×Unit->Prop}(h0:0<=a)(h1:a<=l.length)(hl:l.length<=1048576)(hc:c<=64)(k:∀ r:List α,r.length=l.length+1->Q ((r,()),())) :
  Tot (bif decide ((0:Int)<=0)&&decide (0<=a)&&decide (a<=(AE l:Int))&&true then (bif decide ((AE ([]:List α)+AE ((l.take (AD a)).drop (AD 0)))*c<=aj) then (bif decide ((AE ([]++((l.take (AD a)).drop (AD 0)))+AE ([x]))*c<=aj) then (bif decide (0<=a)&&decide (a<=(AE l:Int))&&decide ((AE l:Int)<=(AE l:Int))&&true then (bif decide ((AE (([]++((l.take (AD a)).drop (AD 0)))++([x]))+AE ((l.take (AD (AE l:Int))).drop (AD a)))*c<=aj) then (some (((([]++((l.take (AD a)).drop (AD 0)))++([x]))++((l.take (AD (AE l:Int))).drop (AD a)),()),())) else none) else none) else none) else none) else none) Q:=by
 obtain⟨m,rfl⟩:=AL h0;refine Tot.must (by simp;omega) (Tot.fit (Tot.fit (Tot.must (by simp;omega) (Tot.fit (Tot.ret (k _ ?_)) (by omega) ?_)) (by omega) ?_) (by omega) ?_) <;>
 simp only[AC,AO,AP,AM,AH,AJ,AN,Al,AZ] <;> omega
theorem wX (K:Nat)(f g:af):Tot (Q79.f K (f,g,())) λ_=>True:=by
 simp only[Q79.f];exact Tot.cnd (λ_=>Tot.ret trivial) λ_=>Tot.bind (nT K g f).tot λ_ _=>Tot.ret trivial
theorem vF (K:Nat)(l:List af)(f:af)(hl:l.length<=1048576)(hK:1048577<K):Tot (Q80.f K (l,f,())) λr=>r.1.1.length<=l.length+1:=by
 simp only[Q80.f,Q80.pre];refine Tot.iter (A:=Int) (step:=λrec a=>Q80.l0.step K (l,f,()) rec a) (λa=>0<=a/\a<=l.length) (λa=>l.length-a.toNat) ?_ K _ (by show l.length-AD 0<K;omega) ⟨by show (0:Int)<=0;omega,by show (0:Int)<=_;omega⟩;rintro rec i ⟨h0,h1⟩ ih;simp only[Q80.l0.step];have hfit:=λ (h1:i<=l.length)=>Tot.ins (x:=f) (c:=32) (Q:=λr=>r.1.1.length<=l.length+1) h0 h1 hl (by omega) λr hr=>by show r.length<=_;omega
 have hsame:l.length<=l.length+1:=Ae _;refine Tot.cnd (λh=>?_) λ_=>Tot.cnd (λh=>Tot.ix h0 (of_decide_eq_true h) λ_ _ _=>Tot.cnd (λ_=>Tot.ret hsame) λ_=>hfit h1) λ_=>hfit h1
 have h:i<(l.length:Int):=of_decide_eq_true h;rw[aM (n:=i+1) (by omega) (by omega)];refine Tot.ix h0 h λy1 _ _=>Tot.bind (wX K y1 f) λ_ _=>Tot.cnd (λ_=>ih (i+1) ⟨by show 0<=i+1;omega,by show i+1<=(l.length:Int);omega⟩ (by show l.length-AD (i+1)<l.length-AD i;omega)) λ_=>Tot.cnd (λ_=>Tot.ix h0 h λ_ _ _=>Tot.cnd (λ_=>Tot.ret hsame) λ_=>hfit h1) λ_=>hfit h1
theorem xz (K:Nat)(w:ai)(was heard now:List af)(h1:was.length<=1048576)(h2:heard.length<=1048576)(h3:now.length<=100)(hb:w.2.2.2.length<=1000000)(hK:1048577<K) :
  Tot (Q81.f K (w,was,heard,now,())) λr=>∃ b,b.length<=w.2.2.2.length+now.length/\r.1.1=(w.1,w.2.1,w.2.2.1,b):=by
 simp only[Q81.f,Q81.pre];refine Tot.iter (step:=λrec a=>Q81.l0.step K (w,was,heard,now,()) rec a) (λa=>0<=a.1/\a.1<=now.length/\(a.2.length:Int)<=w.2.2.2.length+a.1) (λa=>now.length-a.1.toNat) ?_ K _ (by show now.length-AD 0<K;omega) ⟨by show (0:Int)<=0;omega,by show (0:Int)<=_;omega,by show (w.2.2.2.length:Int)<=w.2.2.2.length+0;omega⟩;rintro rec ⟨i,b⟩ ⟨i0,i1,i2⟩ ih;simp only at i0 i1 i2 ih ⊢;simp only[Q81.l0.step];refine Tot.cnd (λh=>?_) λ_=>Tot.ret ⟨b,by omega,rfl⟩
 have h:=of_decide_eq_true h;rw[aM (n:=i+1) (by omega) (by omega)];have go:∀ b':List af,b'.length<=b.length+1->Tot (rec (i+1,b')) λr=>∃ b,b.length<=w.2.2.2.length+now.length/\r.1.1=(w.1,w.2.1,w.2.2.1,b):=λb' hb'=>ih _ ⟨by show 0<=i+1;omega,by show i+1<=_;omega,by show (b'.length:Int)<=_+(i+1);omega⟩ (by show now.length-AD (i+1)<now.length-AD i;omega)
 refine Tot.ix i0 h λy1 _ _=>Tot.bind (lf K was y1 h1 hK).tot λ_ _=>Tot.cnd (λ_=>?_) λ_=>go b (Ae _)
 refine Tot.ix i0 h λy3 _ _=>Tot.bind (lf K heard y3 h2 hK).tot λ_ _=>Tot.cnd (λ_=>?_) λ_=>go b (Ae _)
 exact Tot.ix i0 h λy5 _ _=>Tot.bind (vF K b y5 (by omega) hK) λv hv=>go v.1.1 hv
structure xA (w:ai) (i:Nat) (n:aa) (ws:List av) (heard:List af) (c:Nat):Prop where
 wi:WI w c
 lt:i<8
 n:dK i n
 sent:∀ x∈ws,gh x
 wl:ws.length<=1000
 hl:heard.length<=1048576
 c:c<=1000000
theorem set_t (K:Nat)(w:ai)(i:Nat)(n:aa)(ws:List av)(heard:List af)(c:Nat)(h:xA w i n ws heard c)(hK:1048577<K):Tot (Q82.f K ((w,i),n,ws,heard,())) λr=>WI r.1.1 (c+4):=by
 simp only[Q82.f];have hi:i<w.1.length:=by rw[h.wi.len];exact h.lt
 have hc:=h.c;have hb:=h.wi.born;have hsh:=h.n.short;rw[h.n.me];refine Tot.vl (ah hi) (Tot.vl (by rw[AC];exact ah hi) (Tot.vl (ah hi) (Tot.vl (by rw[AC];exact ah hi) ?_)));refine Tot.must (by simp) ?_;rw[AC];refine Tot.bind (xz K (w.1.set i n,w.2) (aa.table w.1[i]) heard (aa.table n) (h.wi.node i hi).nb.table h.hl (by omega) (by show w.2.2.2.length<=_;omega) hK) ?_;rintro⟨⟨v,⟨⟩⟩,⟨⟩⟩ ⟨b,hb1,rfl⟩;refine Tot.bind (vE K (w.1.set i n,w.2.1,w.2.2.1,b) (i:Int) ws h.wi.sides ⟨by omega,by have:=h.lt;omega⟩ h.sent h.wi.radio h.wl hK) ?_;rintro⟨⟨v,⟨⟩⟩,⟨⟩⟩ ⟨rd,hr,rfl⟩;have hb1:b.length<=w.2.2.2.length+(aa.table n).length:=hb1;exact Tot.ret (h.wi.put h.n hr (by omega))
theorem zj (K:Nat)(w:ai)(i:Nat)(n:aa)(ws:List av)(heard:List af)(c:Nat)(h:xA w i n ws heard c)(hK:1048577<K):Tot (Q145.f K (w,n,ws,heard,())) λr=>WI r.1.1 (c+4):=by
 simp only[Q145.f];have hi:i<w.1.length:=by rw[h.wi.len];exact h.lt
 have hc:=h.c;have hb:=h.wi.born;have hsh:=h.n.short;rw[h.n.me];refine Tot.vl (ah hi) (Tot.vl (by rw[AC];exact ah hi) (Tot.vl (ah hi) (Tot.vl (by rw[AC];exact ah hi) ?_)));rw[AC];refine Tot.bind (xz K (w.1.set i n,w.2) (aa.table w.1[i]) heard (aa.table n) (h.wi.node i hi).nb.table h.hl (by omega) (by show w.2.2.2.length<=_;omega) hK) ?_;rintro⟨⟨v,⟨⟩⟩,⟨⟩⟩ ⟨b,hb1,rfl⟩;refine Tot.bind (vE K (w.1.set i n,w.2.1,w.2.2.1,b) (i:Int) ws h.wi.sides ⟨by omega,by have:=h.lt;omega⟩ h.sent h.wi.radio h.wl hK) ?_;rintro⟨⟨v,⟨⟩⟩,⟨⟩⟩ ⟨rd,hr,rfl⟩;have hb1:b.length<=w.2.2.2.length+(aa.table n).length:=hb1;exact Tot.ret (h.wi.put h.n hr (by omega))
theorem pX (K:Nat)(l:List fy)(at_:Int)(h0:0<=at_)(h1:at_<l.length)(hr:fQ l):Tot (Q83.f K (l,at_,())) λr=>fQ r.1.1:=by
 have hl:=hr.1;obtain⟨m,rfl⟩:=AL h0;simp only[Q83.f];rw[aw m (by omega)];refine Tot.must (by simp;omega) (Tot.fit (Tot.must (by simp;omega) (Tot.fit (Tot.ret ⟨?_,λf hf=>hr.2 f ?_⟩) (by omega) ?_)) (by omega) ?_)
 ·simp only[AC,AO,AP,AM,AH,AJ,AN];omega
 ·simp only[AC,AO,AP,AM,Am]at hf;rcases AK.1 hf with hf|hf
  ·exact AQ hf
  ·exact Af hf
 ·simp only[AC,AO,AP,AM,AH,AJ,AN];omega
 ·simp only[AC,AO,AP,AM,AJ,AZ];omega
theorem pY (K:Nat)(w:ai)(c:Nat)(h:WI w c)(hc:c<=1000000)(to:Int)(t0:0<=to)(t1:to<=7)(x:av)(hx:gO x)(hK:1048577<K){G:aa->aa->Option ((ai×Unit)×Unit)}
  (hG:∀ y:aa,G y y=(Q126.f K (y,x,())).bind λy12=>(Q82.f K ((w,AD to),y12.1.1,y12.1.2.1,av.table x,())).bind λy13=>some ((y13.1.1,()),())) :
  Tot ((idx w.1 to).bind λ_=>(idx w.1 (AD to:Nat)).bind λy10=>(idx w.1 (AD to:Nat)).bind λy11=>G y10 y11) λr=>WI r.1.1 (c+4):=by
 obtain⟨i,rfl⟩:=AL t0;have hi:i<w.1.length:=by rw[h.len];omega
 have hn:=h.node i hi;refine Tot.vl (ah hi) (Tot.vl (by rw[AC];exact ah hi) (Tot.vl (by rw[AC];exact ah hi) ?_));rw[hG,zd K w.1[i] x hn.up (cK hx.2.2.2.2.2.2.2.1) hK];simp only[AB,AC];refine Tot.bind (set_t K w i _ _ _ c ⟨h,hn.lt,?_,?_,?_,cK hx.2.2.2.2.2.2.2.1,hc⟩ hK) λv hv=>Tot.ret hv
 ·cases hu:w.1[i].2.1 with
  |true=>exact hn.of (tk (hn.up hu) hK).1 (tk (hn.up hu) hK).2.1
  |false =>
   rw[show dg K w.1[i] x=(w.1[i],[]) by unfold dg;rw[if_neg λh=>by have:=h.2.1;rw[hu]at this;cases this]];exact hn
 ·cases hu:w.1[i].2.1 with
  |true=>exact λy hy=>(oz (hn.up hu) hK).2 y hy
  |false =>
   rw[show dg K w.1[i] x=(w.1[i],[]) by unfold dg;rw[if_neg λh=>by have:=h.2.1;rw[hu]at this;cases this]];simp
 ·cases hu:w.1[i].2.1 with
  |true=>have:=(oz (w:=x) (hn.up hu) hK).1;omega
  |false =>
   rw[show dg K w.1[i] x=(w.1[i],[]) by unfold dg;rw[if_neg λh=>by have:=h.2.1;rw[hu]at this;cases this]];simp
theorem yc (K:Nat)(w:ai)(c:Nat)(h:WI w c)(hc:c<=1000000)(at_:Int)(keep:Bool)(h0:0<=at_)(h1:at_<w.2.1.length)(hK:1048577<K):Tot (Q127.f K (w,at_,keep,())) λr=>WI r.1.1 (c+4):=by
 simp only[Q127.f];refine Tot.ix2 h0 h1 λf hf _=>?_
 obtain⟨⟨t0,t1⟩,hsz⟩:=h.radio.2 f hf;have hs:=h.sides;refine Tot.cnd (λ_=>Tot.bind (pX K w.2.1 at_ h0 h1 h.radio) ?_) λ_=>Tot.bind (om K f.2.1 (by omega) hK) ?_
 ·rintro⟨⟨rd,⟨⟩⟩,⟨⟩⟩ hr;have hW:WI (w.1,rd,w.2.2) (c+4):=⟨h.len,h.node,hr,h.sides,AF h.born (by omega)⟩;refine Tot.bind (om K f.2.1 (by omega) hK) ?_;rintro⟨⟨(x:av),ok,⟨⟩⟩,⟨⟩⟩ hx;refine Tot.cnd (λ_=>Tot.ret hW) λh2=>?_
  have hx:gO x:=hx (by simpa using h2);obtain⟨fr0,fr1⟩:=hx.2.2.1;have hfr:x.2.2.1<(w.2.2.1.length:Int):=by rw[hs];omega
  refine Tot.ix2 fr0 hfr λ_ _ _=>Tot.ix2 t0 (by omega) λ_ _ _=>Tot.cnd (λ_=>Tot.ret hW) λ_=>Tot.cnd (λ_=>Tot.ret hW) λ_=>?_
  exact pY K (w.1,rd,w.2.2) c ⟨h.len,h.node,hr,h.sides,h.born⟩ hc f.1 t0 t1 x hx hK (G:=λy10 y11=>(Q126.f K ((y10.1,(y10.2.1,(y10.2.2.1,(y10.2.2.2.1,(y10.2.2.2.2.1,(y10.2.2.2.2.2.1,(y10.2.2.2.2.2.2.1,(y10.2.2.2.2.2.2.2.1,(y10.2.2.2.2.2.2.2.2.1,(y10.2.2.2.2.2.2.2.2.2.1,(y10.2.2.2.2.2.2.2.2.2.2.1,(y11.2.2.2.2.2.2.2.2.2.2.2.1,y10.2.2.2.2.2.2.2.2.2.2.2.2)))))))))))),x,())).bind λy12=>(Q82.f K (((w.1,rd,w.2.2),AD f.1),y12.1.1,y12.1.2.1,av.table x,())).bind λy13=>some ((y13.1.1,()),())) λy=>rfl
 ·rintro⟨⟨(x:av),ok,⟨⟩⟩,⟨⟩⟩ hx;have hW:WI w (c+4):=h.mono (by omega);refine Tot.cnd (λ_=>Tot.ret hW) λh2=>?_
  have hx:gO x:=hx (by simpa using h2);obtain⟨fr0,fr1⟩:=hx.2.2.1;have hfr:x.2.2.1<(w.2.2.1.length:Int):=by rw[hs];omega
  refine Tot.ix2 fr0 hfr λ_ _ _=>Tot.ix2 t0 (by omega) λ_ _ _=>Tot.cnd (λ_=>Tot.ret hW) λ_=>Tot.cnd (λ_=>Tot.ret hW) λ_=>?_
  exact pY K w c h hc f.1 t0 t1 x hx hK (G:=λy10 y11=>(Q126.f K ((y10.1,(y10.2.1,(y10.2.2.1,(y10.2.2.2.1,(y10.2.2.2.2.1,(y10.2.2.2.2.2.1,(y10.2.2.2.2.2.2.1,(y10.2.2.2.2.2.2.2.1,(y10.2.2.2.2.2.2.2.2.1,(y10.2.2.2.2.2.2.2.2.2.1,(y10.2.2.2.2.2.2.2.2.2.2.1,(y11.2.2.2.2.2.2.2.2.2.2.2.1,y10.2.2.2.2.2.2.2.2.2.2.2.2)))))))))))),x,())).bind λy12=>(Q82.f K (((w.1,w.2),AD f.1),y12.1.1,y12.1.2.1,av.table x,())).bind λy13=>some ((y13.1.1,()),())) λy=>rfl
theorem yd (K:Nat)(w:ai)(c:Nat)(h:WI w c)(at_ draw:Int)(h0:0<=at_)(h1:at_<w.2.1.length):Tot (Q128.f K (w,at_,draw,())) λr=>WI r.1.1 c:=by
 simp only[Q128.f];refine Tot.ix2 h0 h1 λf hf _=>?_
 obtain⟨hto,hsz⟩:=h.radio.2 f hf;refine Tot.cnd (λ_=>Tot.ret h) λ_=>Tot.cnd (λ_=>Tot.ret h) λh2=>?_
 have hne:¬ (f.2.1.size:Int)=0:=by simpa using h2
 obtain⟨b0,b1⟩:=kx (a:=draw) (m:=4095) (by omega);have b0:0<=bg .i64 draw 4095:=b0;have m0:0<=AY (bg .i64 draw 4095) (f.2.1.size:Int):=Ao _ b0;have m1:AY (bg .i64 draw 4095) (f.2.1.size:Int)<((dP f.2.1).length:Int):=by rw[pU];exact Ai _ (by omega)
 refine Tot.not (decide_eq_false hne) (Tot.ix2 m0 m1 λ_ _ _=>Tot.ix2 m0 m1 λ_ _ _=>Tot.ix2 h0 h1 λ_ _ _=>Tot.ret ⟨h.len,h.node,⟨?_,λg hg=>?_⟩,h.sides,h.born⟩)
 ·show (w.2.1.set _ _).length<=60;rw[AI];exact h.radio.1
 ·rcases Aa hg with hg|rfl
  ·exact h.radio.2 g hg
  ·refine⟨hto,?_⟩;show (fK _).size<=2000;rw[gT,AI,pU];exact hsz
def lg (i:Int)(g:Bool):aa:=(i,true,false,g,0,0,0,0,[(i,0,1,g)],[],(-1,0,0,false),[],(0,0,0,1500),[],[])
theorem ye {i:Int}{g:Bool}(h:InP i 0 7):UpN (lg i g):=by
 refine⟨⟨h,Int.le_refl _,⟨λf hf=>?_,List.pairwise_singleton _ _⟩,λf hf=>?_,⟨λx hx=>(nomatch hx),List.Pairwise.nil⟩,λx hx=>(nomatch hx),?_,⟨λd hd=>(nomatch hd),List.Pairwise.nil,rfl⟩,⟨?_,?_,?_,?_⟩,⟨λp hp=>(nomatch hp),List.Pairwise.nil⟩,⟨λp hp=>(nomatch hp),List.Pairwise.nil⟩⟩,?_,?_,⟨?_,?_⟩,?_,rfl⟩
 ·rw[AG.1 hf];exact⟨h,⟨by show (0:Int)<=0;omega,by show (0:Int)<=999;omega⟩,by show (1:Int)<=1;omega,by show (1:Int)<=4;omega⟩
 ·rw[AG.1 hf];rfl
 ·unfold cM;rw[if_pos (show (aa.probe (lg i g)).1=-1 from rfl)];rfl
 ·exact⟨by show (-100000:Int)<=0;omega,by show (0:Int)<=100000;omega⟩
 ·exact⟨by show (-100000:Int)<=0;omega,by show (0:Int)<=100000;omega⟩
 ·exact⟨by show (0:Int)<=0;omega,by show (0:Int)<=100000;omega⟩
 ·exact⟨by show (1:Int)<=1500;omega,by show (1500:Int)<=1500;omega⟩
 ·exact AG.2 rfl
 ·show (0:Int)<=999999;omega
 ·exact⟨by show (0:Int)<=0;omega,by show (0:Int)<=999999;omega⟩
 ·exact⟨by show (0:Int)<=0;omega,by show (0:Int)<=8;omega⟩
 ·exact⟨by show (0:Int)<=0;omega,by show (0:Int)<=999;omega⟩
theorem pZ (K:Nat)(i:Int)(g:Bool)(h:InP i 0 7):Q58.f K (i,g,())=some ((lg i g,()),()):=by
 simp only[Q58.f];obtain⟨b,e,hb⟩:=ch K i 0 7;rw[e,hb.2 h];rfl
theorem dK.new (i:Nat)(g:Bool)(h:i<8):dK i (lg (i:Int) g):=⟨rfl,h,λ_=>ye ⟨by omega,by omega⟩,λhu=>by cases hu⟩
theorem zk (K:Nat)(w:ai)(c:Nat)(h:WI w c)(hc:c<=1000000)(node:Int)(h0:InP node 0 7)(hK:1048577<K):Tot (Q147.f K (w,node,())) λr=>WI r.1.1 (c+4):=by
 have hb:=h.born;have hi:node.toNat<8:=by obtain⟨a,b⟩:=h0;omega
 have hlen:=h.len;simp only[Q147.f,Q59.f,AB];rw[pZ K node _ h0];simp only[AB];refine Tot.ix2 h0.1 (by have:=h0.2;omega) λ_ _ _=>?_
 refine Tot.vl (show idx (lg node (decide (AY node 4<3))).2.2.2.2.2.2.2.2.1 0=some (node,0,1,decide (AY node 4<3)) from rfl) (Tot.bind (vF K w.2.2.2 _ (by omega) hK) λv hv=>Tot.ret (h.put ?_ h.radio (by omega)));have:=dK.new node.toNat (decide (AY node 4<3)) hi
 rwa [Ah h0.1]at this
theorem yf {n:aa}(h:UpN n):(ku n).length<=8/\∀ x∈ku n,gh x:=by
 unfold ku;refine⟨?_,λx hx=>?_⟩
 ·rw[Ac];exact AF (Ad _ _) (gP h.x.table.2 λf hf=>(h.x.table.1 f hf).1)
 ·obtain⟨f,hf,rfl⟩:=AW.1 hx;exact⟨(h.x.table.1 f (AX.1 hf).1).1,cK h.x.table⟩
theorem zl (K:Nat)(w:ai)(c:Nat)(h:WI w c)(hc:c<=1000000)(e:af)(h0:InP e.2.1 0 7)(hK:1048577<K):Tot (Q149.f K (w,e,())) λr=>WI r.1.1 (c+4):=by
 have hlen:=h.len;have hs:=h.sides;obtain⟨kind,node,draw,keep⟩:=e;obtain⟨e0,e1⟩:=h0;simp only at e0 e1;obtain⟨i,rfl⟩:=AL e0;have hi:i<w.1.length:=by omega
 have hn:=h.node i hi;have hw:=h.mono (show c<=c+4 by omega);simp only[Q149.f];refine Tot.vl (ah hi) (Tot.vl (by rw[AC];exact ah hi) ?_);generalize w.1[i]=n at hn ⊢;refine Tot.cnd (λ_=>?_) λ_=>Tot.cnd (λ_=>?_) λ_=>Tot.cnd (λ_=>?_) λ_=>?_
 ·
  rw[xw];simp only[AB];exact Tot.ix2 (by omega) (by omega) λ_ _ _=>Tot.ret ⟨hw.len,hw.node,hw.radio,by show (w.2.2.1.set _ _).length=8;rw[AI];exact h.sides,hw.born⟩
 ·
  simp only[Q146.f,AB];refine Tot.ix2 (by omega) (by omega) λ_ _ _=>Tot.ret (hw.put (i:=i) (n:=is n.1 n.2.2.2.1) ?_ hw.radio hw.born)
  exact⟨hn.me,hn.lt,λhu=>(by cases hu),λ_=>rfl⟩
 ·
  exact Tot.cnd (λ_=>Tot.ret hw) λ_=>Tot.bind (zk K w c h hc (i:Int) ⟨by omega,by omega⟩ hK) λv hv=>Tot.ret hv
 ·refine Tot.cnd (λ_=>Tot.ret hw) λhu=>Tot.cnd (λ_=>Tot.ret hw) λhg=>?_
  have hu:n.2.1=true:=by simpa using hu
  have hU:=hn.up hu;have set:=λ (m:aa) (ws:List av) (hm:UpN m) (em:m.1=n.1) (hsw:∀ x∈ws,gh x) (hl:ws.length<=1000)=>zj K w i m ws [] c ⟨h,hn.lt,hn.of hm em,hsw,hl,AU _,hc⟩ hK
  refine Tot.cnd (λ_=>?_) λ_=>Tot.cnd (λ_=>?_) λ_=>Tot.cnd (λ_=>?_) λ_=>Tot.ret hw
  ·refine Tot.cnd (λ_=>Tot.ret hw) λhm=>?_
   have hm:bZ n<999999:=by have hm:¬ n.2.2.2.2.2.1>=999999:=of_decide_eq_false hm;show n.2.2.2.2.2.1<999999;omega
   obtain⟨t1,t2,_⟩:=pa hU hm;obtain⟨w1,w2⟩:=zf hU hm draw;exact Tot.vl (zg K n draw hU hg hm hK) (Tot.bind (set _ _ t1 t2 w2 (AF w1 (by omega))) λv hv=>Tot.ret hv)
  ·obtain⟨t1,t2⟩:=wQ hU hg;obtain⟨w1,w2⟩:=yf t1;exact Tot.vl (xQ K n hU.nb hU.ok hu hg hK) (Tot.bind (set _ _ t1 t2 w2 (AF w1 (by omega))) λv hv=>Tot.ret hv)
  ·refine Tot.bind (ch K draw 0 7).tot λv hv=>Tot.cnd (λ_=>Tot.ret hw) λh1=>Tot.cnd (λ_=>Tot.ret hw) λ_=>?_
   have hd:InP draw 0 7:=hv.1 (by simpa using h1);rw[dV K,dV K];simp only[AB];refine Tot.cnd (λ_=>Tot.ret hw) λ_=>?_
   refine Tot.vl (mC K n 4 draw (cK hU.x.table)) (Tot.bind (set n _ hU rfl (λx hx=>?_) (by simp)) λv hv=>Tot.ret hv);rw[AG.1 hx];exact⟨hd,cK hU.x.table⟩
theorem do_t (K:Nat)(w:ai)(c:Nat)(h:WI w c)(hc:c<=1000000)(e:af)(hK:1048577<K):Tot (Q151.f K (w,e,())) λr=>WI r.1.1 (c+4):=by
 have hw:=h.mono (show c<=c+4 by omega);have hr:=h.radio.1;simp only[Q151.f];rw[aM (n:=(AE w.2.1:Int)-1) (by omega) (by omega)];have three:Tot ((Q56.f K (e.2.1,0,(AE w.2.1:Int)-1,())).bind λy1=>bif !y1.1.1 then (some ((w,false,()),())) else (bif e.1==2 then ((Q127.f K (w,e.2.1,e.2.2.2,())).bind λy2=>some ((y2.1.1,true,()),())) else (bif e.1==4 then ((Q128.f K (w,e.2.1,e.2.2.1,())).bind λy3=>some ((y3.1.1,y3.1.2.1,()),())) else ((Q83.f K (w.2.1,e.2.1,())).bind λy4=>some (((w.1,(y4.1.1,w.2.2)),true,()),()))))) λr=>WI r.1.1 (c+4):=by
  refine Tot.bind (ch K _ _ _).tot λv hv=>Tot.cnd (λ_=>Tot.ret hw) λh1=>?_
  obtain⟨p0,p1⟩:InP e.2.1 0 ((AE w.2.1:Int)-1):=hv.1 (by simpa using h1);have p1:e.2.1<(w.2.1.length:Int):=by omega
  refine Tot.cnd (λ_=>Tot.bind (yc K w c h hc e.2.1 e.2.2.2 p0 p1 hK) λv hv=>Tot.ret hv) λ_=>Tot.cnd (λ_=>Tot.bind (yd K w c h e.2.1 e.2.2.1 p0 p1) λv hv=>Tot.ret (WI.mono hv (by omega))) λ_=>?_
  exact Tot.bind (pX K w.2.1 e.2.1 p0 p1 h.radio) λv hv=>Tot.ret ⟨hw.len,hw.node,hv,hw.sides,hw.born⟩
 refine Tot.cnd (λ_=>three) λ_=>Tot.cnd (λ_=>three) λ_=>Tot.cnd (λ_=>three) λ_=>?_
 exact Tot.bind (ch K _ _ _).tot λv hv=>Tot.cnd (λ_=>Tot.ret hw) λh1=>Tot.bind (zl K w c h hc e (hv.1 (by simpa using h1)) hK) λv hv=>Tot.ret hv
theorem wY (K:Nat)(w:ai)(h1:w.1.length<=1048576)(hn:∀ n∈w.1,NB n)(h2:w.2.1.length<=1048576)(h3:w.2.2.1.length<=1048576)(h4:w.2.2.2.length<=1048576)(hK:1048577<K):Q55.f K (w,())=some ((w,()),()):=by
 simp only[Q55.f,Q55.pre];rw[szb _ _ _ (by omega) (by show (AE ([]:List fy))+w.2.1.length<=_;simp;omega)];simp only[cond_true];rw[szb _ _ _ (by omega) (by show (AE ([]:List Int))+w.2.2.1.length<=_;simp;omega)];simp only[cond_true];rw[szb _ _ _ (by omega) (by show (AE ([]:List af))+w.2.2.2.length<=_;simp;omega)];simp only[cond_true];have:∀ (d i k:Nat),i+d=w.1.length->d<k->ae (λrec a=>Q55.l0.step K (w,()) rec a) k ((i:Int),w.1.take i)=some ((w,()),()):=by
  intro d;induction d with
  |zero =>
   intro i k hi hk;obtain⟨k,rfl⟩:∃ k',k=k'+1:=⟨k-1,by omega⟩;have:i=w.1.length:=by omega
   subst this;show Q55.l0.step K (w,()) _ _=_;simp only[Q55.l0.step,aR,Am];rfl
  |succ d ih =>
   intro i k hi hk;obtain⟨k,rfl⟩:∃ k',k=k'+1:=⟨k-1,by omega⟩;have hlt:i<w.1.length:=by omega
   show Q55.l0.step K (w,()) _ _=_;simp only[Q55.l0.step];rw[bC (by omega:(i:Int)<(AE w.1:Int)),ah hlt,aw i (by omega)];simp only[cond_true,AB];refine (congrArg (λo=>AV o _) (vb K w.1[i] (hn _ (AT hlt)) hK)).trans ?_;simp only[AB];have hz:decide (((w.1.take i).length+[w.1[i]].length)*232<=aj)=true:=decide_eq_true (by
    rw[AJ];simp only[Al,AZ,aj];omega)
   refine (congrArg (λb=>bif b then _ else _) hz).trans ?_;have e:w.1.take i++[w.1[i]]=w.1.take (i+1):=by rw[List.take_add_one,List.getElem?_eq_getElem hlt];rfl
   rw[<- ih (i+1) k (by omega) (by omega),<- e];rfl
 exact this w.1.length 0 K (by omega) (by omega)
theorem WI.copy {w:ai}{c:Nat}(h:WI w c)(hc:c<=1000000)(K:Nat)(hK:1048577<K):Q55.f K (w,())=some ((w,()),()):=by
 have h1:=h.len;have h2:=h.radio.1;have h3:=h.sides;have h4:=h.born;refine wY K w (by omega) (λn hn=>?_) (by omega) (by omega) (by omega) hK;obtain⟨i,hi,rfl⟩:=AS hn;exact (h.node i hi).nb
theorem zm (K:Nat)(w:ai)(c:Nat)(evs:List af)(h:WI w c)(hl:evs.length<=1000)(hc:c<=900000)(hK:1048577<K):Tot (Q152.f K (w,evs,())) λr=>WI r.1.1 (c+4*evs.length)/\r.2.1=evs:=by
 simp only[Q152.f,Q152.pre];refine Tot.iter (step:=λrec a=>Q152.l0.step K (w,evs,()) rec a) (λa=>0<=a.1/\a.1<=evs.length/\WI a.2 (c+4*a.1.toNat)) (λa=>evs.length-a.1.toNat) ?_ K _ (by show evs.length-AD 0<K;omega) ⟨by show (0:Int)<=0;omega,by show (0:Int)<=_;omega,h⟩;rintro rec ⟨i,v⟩ ⟨h0,h1,h2⟩ ih;simp only at h0 h1 h2 ih ⊢;simp only[Q152.l0.step];refine Tot.cnd (λhlt=>?_) λ_=>Tot.ret ⟨WI.mono h2 (by omega),rfl⟩
 have hlt:i<(evs.length:Int):=of_decide_eq_true hlt;rw[aM (n:=i+1) (by omega) (by omega)];refine Tot.vl (h2.copy (by omega) K hK) (Tot.ix2 h0 hlt λe _ _=>Tot.bind (do_t K v _ h2 (by omega) e hK) ?_);rintro⟨⟨v',ok,⟨⟩⟩,⟨⟩⟩ hv;have hv:WI v' (c+4*i.toNat+4):=hv;have go:∀ u:ai,WI u (c+4*i.toNat+4)->Tot (rec (i+1,u)) λr=>WI r.1.1 (c+4*evs.length)/\r.2.1=evs:=λu hu=>ih (i+1,u) ⟨by show 0<=i+1;omega,by show i+1<=_;omega,hu.mono (by show _<=c+4*(i+1).toNat;omega)⟩ (by show evs.length-AD (i+1)<evs.length-AD i;omega)
 exact Tot.cnd (λ_=>go v' hv) λ_=>go v (h2.mono (by omega))
theorem ul (K:Nat)(hK:1048577<K):Tot (Q60.f K ()) λr=>WI r.1.1 8:=by
 simp only[Q60.f,Q60.pre];refine Tot.iter (step:=λrec a=>Q60.l0.step K () rec a) (λa=>0<=a.1/\a.1<=8/\a.2.1.length=a.1.toNat/\(∀ (j:Nat) (hj:j<a.2.1.length),dK j a.2.1[j])/\a.2.2.1.length=a.1.toNat/\a.2.2.2.length=a.1.toNat) (λa=>8-a.1.toNat) ?_ K _ (by show 8-AD 0<K;omega) ⟨by show (0:Int)<=0;omega,by show (0:Int)<=8;omega,rfl,λj hj=>(by cases hj),rfl,rfl⟩;rintro rec ⟨i,ns,ss,bs⟩ ⟨h0,h1,h2,h3,h4,h5⟩ ih;simp only at h0 h1 h2 h3 h4 h5 ih ⊢;simp only[Q60.l0.step];refine Tot.cnd (λhlt=>?_) λhlt=>?_
 ·have hlt:i<=7:=of_decide_eq_true hlt;rw[aM (n:=i+1) (by omega) (by omega)];simp only[Q59.f,AB];refine Tot.vl (pZ K i _ ⟨h0,hlt⟩) (Tot.fit (Tot.fit (Tot.vl (show idx (lg i (decide (AY i 4<3))).2.2.2.2.2.2.2.2.1 0=some (i,0,1,decide (AY i 4<3)) from rfl) (Tot.fit (ih _ ⟨by show 0<=i+1;omega,by show i+1<=8;omega,?_,λj hj=>?_,?_,?_⟩ (by show 8-AD (i+1)<8-AD i;omega)) (by omega) ?_)) (by omega) ?_) (by omega) ?_)
  ·show (ns++[lg i _]).length=(i+1).toNat;simp;omega
  ·show dK j ((ns++[lg i (decide (AY i 4<3))])[j]'hj);rw[List.getElem_append];split
   ·exact h3 j _
   ·rename_i hge;have hj:j<(ns++[lg i (decide (AY i 4<3))]).length:=hj;have hji:j=i.toNat:=by simp at hj;omega
    subst hji;have:=dK.new i.toNat (decide (AY i 4<3)) (by omega);rw[Ah h0]at this;simpa using this
  ·show (ss++[0]).length=(i+1).toNat;simp;omega
  ·show (bs++[_]).length=(i+1).toNat;simp;omega
  ·simp;omega
  ·simp;omega
  ·simp;omega
 ·have hge:=of_decide_eq_false hlt;refine Tot.ret ⟨?_,h3,⟨AU _,λf hf=>(nomatch hf)⟩,?_,?_⟩
  ·show ns.length=8;omega
  ·show ss.length=8;omega
  ·show bs.length<=8;omega
abbrev LtP (v n:Int):Prop:=0<=v/\v<n
def bj (b:List Int)(m:Nat)(s:List Int×Int):Prop:=∃ q:Nat,q<=m/\s=(b,(q:Int))
theorem bj.up {b:List Int}{m:Nat}{s:List Int×Int}(h:bj b m s){m':Nat}(hm:m<=m'):bj b m' s:=by obtain⟨q,h1,h2⟩:=h;exact⟨q,by omega,h2⟩
section
variable {K:Nat} {b:List Int} {m:Nat} {s:List Int×Int}
theorem aG (h:fg b)(hs:bj b m s)(n:Int)(hn:1<=n)(hm:m<=99000):Tot (Q53.f K (s,n,())) λr=>LtP r.1.1 n/\bj b (m+1) r.2.1:=by
 obtain⟨q,hq,rfl⟩:=hs;obtain⟨v,e,v0,v1⟩:=xW K b q n h (by omega) hn;exact⟨_,e,⟨v0,v1⟩,q+1,by omega,rfl⟩
theorem zn (code:List Int)(hb:∀ y∈code,0<=y/\y<=255)(hl:code.length<=9223372036854775807):∃ bs:List Int,fg bs/\Q52.f K (code,())=some (((bs,(0:Int)),()),()):=by
 simp only[Q52.f];by_cases h:(code.length:Int)>2000
 ·rw[decide_eq_true h,decide_eq_true (by omega:(2000:Int)<=(code.length:Int))];exact⟨(code.take 2000).drop 0,⟨λy hy=>hb y (AQ (by simpa using hy)),by simp;omega⟩,rfl⟩
 ·rw[decide_eq_false h];exact⟨code,⟨hb,by omega⟩,rfl⟩
theorem vG (h:fg b)(hs:bj b m s)(site:Int)(h0:0<=site)(h1:site<=1)(hm:m<=98000):Tot (Q158.f K (s,site,())) λr=>(bB r.1.1/\ar r.1.1.1=site)/\bj b (m+5) r.2.1:=by
 simp only[Q158.f];refine Tot.bind (aG h hs 4 (by decide) (by omega)) λv1 ⟨⟨a1,b1⟩,s1⟩=>Tot.bind (aG h s1 3 (by decide) (by omega)) λv2 ⟨⟨a2,b2⟩,s2⟩=>Tot.bind (aG h s2 12 (by decide) (by omega)) λv3 ⟨⟨a3,b3⟩,s3⟩=>Tot.bind (aG h s3 3 (by decide) (by omega)) λv4 ⟨⟨a4,b4⟩,s4⟩=>Tot.ix2 a4 b4 λy hy _=>Tot.bind (aG h s4 4 (by decide) (by omega)) λv5 ⟨⟨a5,b5⟩,s5⟩=>?_
 simp only[Q59.f,AB];have hy:InP y 0 999:=by
  simp only[Ap,An,or_false]at hy;rcases hy with rfl|rfl|rfl <;> constructor <;> omega
 rw[aM (n:=site*4) (by omega) (by omega),aM (n:=site*4+v1.1.1) (by omega) (by omega),aM (n:=1+v5.1.1) (by omega) (by omega)];refine Tot.ret ⟨⟨⟨⟨?_,?_⟩,hy,?_,?_⟩,?_⟩,s5⟩
 ·show (0:Int)<=site*4+v1.1.1;omega
 ·show site*4+v1.1.1<=7;omega
 ·show (1:Int)<=1+v5.1.1;omega
 ·show (1:Int)+v5.1.1<=4;omega
 ·show ar (site*4+v1.1.1)=site;rw[jq ⟨by omega,by omega⟩];omega
theorem lU (h:fg b)(hs:bj b m s)(hm:m<=97000):Tot (Q159.f K (s,())) λr=>bj b (m+8) r.2.1:=by
 simp only[Q159.f];refine Tot.bind (aG h hs 2 (by decide) (by omega)) λv1 ⟨⟨a1,b1⟩,s1⟩=>Tot.bind (vG h s1 v1.1.1 a1 (by omega) (by omega)) λf ⟨_,s2⟩=>Tot.bind (aG h s2 12 (by decide) (by omega)) λv3 ⟨_,s3⟩=>?_
 have two:∀ {x y:Int} {G:(Int×Unit)×(List Int×Int)×Unit->Int->Option ((af×Unit)×(List Int×Int)×Unit)},(∀ v z,Tot (G v z) λr=>r.2.1=v.2.1)->Tot ((Q53.f K (v3.2.1,2,())).bind λv=>(idx [x,y] v.1.1).bind λ_=>(idx [x,y] (AD v.1.1:Nat)).bind (G v)) λr=>bj b (m+8) r.2.1:=λhG=>Tot.bind (aG h s3 2 (by decide) (by omega)) λv ⟨⟨a,b⟩,s4⟩=>Tot.ix2 a b λz _ _=>(hG v z).mono λr e=>by rw[e];exact s4.up (by omega)
 refine Tot.cnd (λ_=>two λ_ _=>Tot.ret rfl) λ_=>Tot.cnd (λ_=>two λ_ _=>Tot.ret rfl) λ_=>Tot.cnd (λ_=>two λ_ _=>Tot.ret rfl) λ_=>Tot.cnd (λ_=>Tot.ret (s3.up (by omega))) λ_=>Tot.ret (s3.up (by omega))
theorem vH (t:List af)(f:af):(bY t f).1.length<=t.length+1:=by
 rcases fZ t f with e|e
 ·rw[e];omega
 ·rw[e];exact wC
theorem um {t:List af}{f:af}{z:Int}(h:bX t z)(hf:ar f.1=z):bX (bY t f).1 z:=by
 rcases fZ t f with e|e <;> rw[e]
 ·exact h
 ·intro g hg;rcases a7.1 hg with rfl|⟨hg,_⟩
  ·exact hf
  ·exact h g hg
theorem tq (h:fg b)(hs:bj b m s)(site:Int)(h0:-1<=site)(h1:site<=1)(hm:m<=96000)(hK:1048577<K):Tot (Q160.f K (s,site,())) λr=>(aB r.1.1/\(0<=site->bX r.1.1 site)/\r.1.1.length<=5)/\bj b (m+31) r.2.1:=by
 simp only[Q160.f,Q160.pre];refine Tot.bind (aG h hs 6 (by decide) (by omega)) λv ⟨⟨v0,v1⟩,s1⟩=>?_
 refine Tot.iter (step:=λrec a=>Q160.l0.step K (s,site,()) rec a) (λa=>∃ q:Nat,0<=a.2.1/\aB a.1/\(0<=site->bX a.1 site)/\(a.1.length:Int)+a.2.1<=5/\bj b q a.2.2/\q+6*a.2.1.toNat<=m+31) (λa=>a.2.1.toNat) ?_ K _ (by show v.1.1.toNat<K;omega) ⟨m+1,v0,⟨by simp,List.Pairwise.nil⟩,λ_ f hf=>(nomatch hf),by show ((0:Nat):Int)+v.1.1<=5;omega,s1,by show m+1+6*v.1.1.toNat<=m+31;omega⟩;rintro rec ⟨t,n,s2⟩ ⟨q,n0,hT,hS,hl,hs2,hq⟩ ih;simp only at n0 hT hS hl hs2 hq ih ⊢;simp only[Q160.l0.step];refine Tot.cnd (λhn=>?_) λ_=>Tot.ret ⟨⟨hT,hS,by show t.length<=5;omega⟩,hs2.up (by omega)⟩
 have hn:n>0:=of_decide_eq_true hn;rw[aM (n:=n-1) (by omega) (by omega)];have go:∀ (z:Int) (q':Nat) (s3:List Int×Int),0<=z->z<=1->(0<=site->z=site)->bj b q' s3->q'<=q+1->Tot ((Q158.f K (s3,z,())).bind λy3=>(Q102.f K (t,y3.1.1,())).bind λy4=>rec (y4.1.1,n-1,y3.2.1.1,y3.2.1.2)) λr=>(aB r.1.1/\(0<=site->bX r.1.1 site)/\r.1.1.length<=5)/\bj b (m+31) r.2.1:=λz q' s3 z0 z1 hz hs3 hq'=>by
  refine Tot.bind (vG h hs3 z z0 z1 (by omega)) λy ⟨⟨hf,hfs⟩,hs4⟩=>Tot.vl (ub K t y.1.1 (by omega) hT.2 hK) (ih (_,_,y.2.1) ⟨q'+5,by show 0<=n-1;omega,ji hT hf,λh9=>um (hS h9) (by rw[hfs];exact hz h9),?_,hs4,by show q'+5+6*(n-1).toNat<=m+31;omega⟩ (by show (n-1).toNat<n.toNat;omega))
  have:=vH t y.1.1;show ((bY t y.1.1).1.length:Int)+(n-1)<=5;omega
 refine Tot.cnd (λhneg=>?_) λhneg=>?_
 ·have hneg:site<0:=of_decide_eq_true hneg;exact Tot.bind (aG h hs2 2 (by decide) (by omega)) λv ⟨⟨a,b⟩,s3⟩=>go v.1.1 (q+1) v.2.1 a (by omega) (λh9=>by omega) s3 (AR _)
 ·have hneg:¬ site<0:=of_decide_eq_false hneg;exact go site q s2 (by omega) h1 (λ_=>rfl) hs2 (by omega)
theorem oC (h:fg b)(hs:bj b m s)(hm:m<=95000)(hK:1048577<K):Tot (Q161.f K (s,())) λr=>r.1.1.length<=6/\bj b (m+42) r.2.1:=by
 simp only[Q161.f];refine Tot.bind (tq h hs (-1) (by decide) (by decide) (by omega) hK) λt ⟨⟨hT,_,hl⟩,s1⟩=>?_
 refine Tot.cnd (λh1=>?_) λ_=>Tot.ret ⟨by show t.1.1.length<=6;omega,s1.up (by omega)⟩
 have h1:(t.1.1.length:Int)>0:=of_decide_eq_true h1;refine Tot.bind (aG h s1 12 (by decide) (by omega)) λv2 ⟨_,s2⟩=>Tot.cnd (λ_=>?_) λ_=>Tot.ret ⟨by show t.1.1.length<=6;omega,s2.up (by omega)⟩
 refine Tot.bind (aG h s2 (t.1.1.length:Int) (by omega) (by omega)) λv3 ⟨⟨a3,b3⟩,s3⟩=>Tot.bind (aG h s3 3 (by decide) (by omega)) λv4 ⟨_,s4⟩=>?_
 refine Tot.cnd (λ_=>Tot.bind (lU h s4 (by omega)) λf s5=>Tot.ix2 a3 b3 λ_ _ _=>Tot.ret ⟨by show (t.1.1.set _ _).length<=6;rw[AI];omega,s5.up (by omega)⟩) λ_=>?_
 refine Tot.cnd (λ_=>Tot.ix2 a3 b3 λy _ _=>Tot.fit (Tot.ret ⟨by show (t.1.1++[y]).length<=6;simp;omega,s4.up (by omega)⟩) (by omega) (by simp;omega)) λ_=>Tot.ix2 a3 b3 λy _ _=>Tot.ret ⟨by show (t.1.1.set _ _).length<=6;rw[AI];omega,s4.up (by omega)⟩
theorem yg (h:fg b)(hs:bj b m s)(site:Int)(h0:-1<=site)(h1:site<=1)(hm:m<=95000)(hK:1048577<K):Tot (Q162.f K (s,site,())) λr=>r.1.1.length<=5/\bj b (m+36) r.2.1:=by
 simp only[Q162.f,Q162.pre];refine Tot.bind (tq h hs site h0 h1 (by omega) hK) λt ⟨⟨hT,_,hl⟩,s1⟩=>?_
 refine Tot.iter (step:=λrec a=>Q162.l0.step K (s,site,()) rec a) (λa=>a.2.1=t.1.1/\0<=a.2.2.1/\a.2.2.1<=t.1.1.length/\(a.1.length:Int)=a.2.2.1/\bj b (m+31+a.2.2.1.toNat) a.2.2.2) (λa=>t.1.1.length-a.2.2.1.toNat) ?_ K _ (by show t.1.1.length-AD 0<K;omega) ⟨rfl,by show (0:Int)<=0;omega,by show (0:Int)<=_;omega,rfl,s1⟩;rintro rec ⟨acc,t',i,s2⟩ ⟨e,i0,i1,hla,hs2⟩ ih;simp only at e i0 i1 hla hs2 ih ⊢;subst e;simp only[Q162.l0.step];refine Tot.cnd (λhi=>?_) λ_=>Tot.ret ⟨by show acc.length<=5;omega,hs2.up (by omega)⟩
 have hi:i<(t.1.1.length:Int):=of_decide_eq_true hi;rw[aM (n:=i+1) (by omega) (by omega)];refine Tot.ix2 i0 hi λy _ _=>Tot.bind (aG h hs2 4 (by decide) (by omega)) λv ⟨_,s3⟩=>Tot.fit (ih (_,_,_,v.2.1) ⟨rfl,by show 0<=i+1;omega,by show i+1<=_;omega,?_,s3.up (by show _<=m+31+(i+1).toNat;omega)⟩ (by show t.1.1.length-(i+1).toNat<t.1.1.length-i.toNat;omega)) (by omega) (by simp;omega)
 show ((acc++[_]).length:Int)=i+1;simp;omega
theorem un (h:fg b)(hs:bj b m s)(hm:m<=94000)(hK:1048577<K):Tot (Q163.f K (s,())) λr=>r.1.1.length<=6/\bj b (m+50) r.2.1:=by
 simp only[Q163.f];refine Tot.bind (yg h hs (-1) (by decide) (by decide) (by omega) hK) λt ⟨hl,s1⟩=>?_
 refine Tot.cnd (λh1=>?_) λ_=>Tot.ret ⟨by show t.1.1.length<=6;omega,s1.up (by omega)⟩
 have h1:(t.1.1.length:Int)>0:=of_decide_eq_true h1;refine Tot.bind (aG h s1 10 (by decide) (by omega)) λv2 ⟨_,s2⟩=>Tot.cnd (λ_=>?_) λ_=>Tot.ret ⟨by show t.1.1.length<=6;omega,s2.up (by omega)⟩
 refine Tot.bind (aG h s2 (t.1.1.length:Int) (by omega) (by omega)) λv3 ⟨⟨a3,b3⟩,s3⟩=>Tot.bind (aG h s3 3 (by decide) (by omega)) λv4 ⟨_,s4⟩=>?_
 refine Tot.cnd (λ_=>Tot.bind (aG h s4 2 (by decide) (by omega)) λv5 ⟨⟨a5,b5⟩,s5⟩=>Tot.ix2 a5 b5 λ_ _ _=>Tot.ix2 a3 b3 λ_ _ _=>Tot.ret ⟨by show (t.1.1.set _ _).length<=6;rw[AI];omega,s5.up (by omega)⟩) λ_=>?_
 refine Tot.cnd (λ_=>Tot.bind (lU h s4 (by omega)) λf s5=>Tot.ix2 a3 b3 λ_ _ _=>Tot.ret ⟨by show (t.1.1.set _ _).length<=6;rw[AI];omega,s5.up (by omega)⟩) λ_=>?_
 exact Tot.ix2 a3 b3 λy _ _=>Tot.fit (Tot.ret ⟨by show (t.1.1++[y]).length<=6;simp;omega,s4.up (by omega)⟩) (by omega) (by simp;omega)
theorem vI (h:fg b)(hs:bj b m s)(hm:m<=95000):Tot (Q164.f K (s,())) λr=>bj b (m+6) r.2.1:=by
 simp only[Q164.f,Q57.f];refine Tot.bind (aG h hs 6 (by decide) (by omega)) λv1 ⟨_,s1⟩=>Tot.cnd (λ_=>Tot.ret (s1.up (by omega))) λ_=>Tot.bind (aG h s1 3 (by decide) (by omega)) λv3 ⟨⟨a3,b3⟩,s3⟩=>Tot.ix2 a3 b3 λy hy _=>?_
 have hy:InP y 10 100000:=by
  simp only[Ap,An,or_false]at hy;rcases hy with rfl|rfl|rfl <;> constructor <;> omega
 rw[aM (n:=2*y) (by omega) (by omega),aM (n:=2*y+1) (by omega) (by omega),aM (n:=y+1) (by omega) (by omega)];exact Tot.bind (aG h s3 _ (by omega) (by omega)) λv6 ⟨_,s6⟩=>Tot.bind (aG h s6 _ (by omega) (by omega)) λv7 ⟨_,s7⟩=>Tot.bind (aG h s7 _ (by omega) (by omega)) λv8 ⟨_,s8⟩=>Tot.bind (aG h s8 _ (by decide) (by omega)) λv9 ⟨_,s9⟩=>Tot.ret s9
theorem oD (h:fg b)(hs:bj b m s)(hm:m<=94000):Tot (Q165.f K (s,())) λr=>bj b (m+8) r.2.1:=by
 simp only[Q165.f];exact Tot.bind (vI h hs (by omega)) λc s1=>Tot.bind (aG h s1 16 (by decide) (by omega)) λv2 ⟨_,s2⟩=>Tot.cnd (λ_=>Tot.bind (aG h s2 3 (by decide) (by omega)) λv ⟨⟨a,b⟩,s3⟩=>Tot.ix2 a b λ_ _ _=>Tot.ret s3) λ_=>Tot.cnd (λ_=>Tot.bind (aG h s2 2 (by decide) (by omega)) λv ⟨⟨a,b⟩,s3⟩=>Tot.ix2 a b λ_ _ _=>Tot.ret s3) λ_=>Tot.cnd (λ_=>Tot.bind (aG h s2 2 (by decide) (by omega)) λv ⟨⟨a,b⟩,s3⟩=>Tot.ix2 a b λ_ _ _=>Tot.ret s3) λ_=>Tot.ret (s2.up (by omega))
theorem vJ (h:fg b)(hs:bj b m s)(w:ai)(hm:m<=95000):Tot (Q153.f K (s,w,())) λr=>bj b (m+2) r.2.1:=by
 simp only[Q153.f];refine Tot.cnd (λ_=>Tot.ret (hs.up (by omega))) λh1=>?_
 have h1:¬ (w.2.1.length:Int)=0:=by simpa using h1
 refine Tot.bind (aG h hs 3 (by decide) (by omega)) λv1 ⟨_,s1⟩=>Tot.cnd (λ_=>Tot.cnd (λ_=>Tot.bind (aG h s1 4 (by decide) (by omega)) λv ⟨_,s2⟩=>Tot.ret s2) λ_=>?_) λ_=>?_ <;>
 exact Tot.bind (aG h s1 _ (by show (1:Int)<=(w.2.1.length:Int);omega) (by omega)) λv ⟨_,s2⟩=>Tot.ret s2
theorem yh (h:fg b)(hs:bj b m s)(w:ai)(hm:m<=94000):Tot (Q154.f K (s,w,())) λr=>bj b (m+8) r.2.1:=by
 simp only[Q154.f];refine Tot.bind (aG h hs 8 (by decide) (by omega)) λv1 ⟨_,s1⟩=>Tot.bind (aG h s1 256 (by decide) (by omega)) λv2 ⟨_,s2⟩=>Tot.bind (aG h s2 16 (by decide) (by omega)) λv3 ⟨_,s3⟩=>Tot.bind (aG h s3 40 (by decide) (by omega)) λv4 ⟨_,s4⟩=>?_
 have s4:bj b (m+4) v4.2.1:=s4.up (by omega);generalize v4.2.1=z at s4 ⊢;have u4:bj b (m+8) z:=s4.up (by omega);have pl:=vJ (K:=K) h s4 w (by omega);have pk:∀ n:Int,1<=n->Tot (Q53.f K (z,n,())) λr=>bj b (m+8) r.2.1:=λn hn=>(aG h s4 n hn (by omega)).mono λr hr=>hr.2.up (by omega)
 have pp:∀ (z':List Int×Int) (n:Int),bj b (m+4+2) z'->1<=n->Tot (Q53.f K (z',n,())) λr=>bj b (m+8) r.2.1:=λz' n h1 hn=>(aG h h1 n hn (by omega)).mono λr hr=>hr.2.up (by omega)
 repeat' first
  |exact Tot.ret u4
  |exact Tot.bind pl λv hv=>Tot.ret (bj.up hv (by omega))
  |exact Tot.bind pl λv hv=>Tot.bind (pp _ _ hv (by decide)) λv hv=>Tot.ret hv
  |exact Tot.bind (pk _ (by decide)) λv hv=>Tot.ret hv
  |exact Tot.bind (pk _ (by decide)) λv hv=>Tot.cnd (λ_=>Tot.ret hv) λ_=>Tot.ret hv
  |refine Tot.cnd (λ_=>?_) λ_=>?_
theorem yi (h:fg b)(hs:bj b m s)(most:Int)(h1:1<=most)(h2:most<=200)(hm:m<=90000)(hK:1048577<K):Tot (Q155.f K (s,most,())) λr=>(WI r.1.2.1 2000/\r.1.1.length<=300)/\bj b (m+8*most.toNat+2) r.2.1:=by
 simp only[Q155.f,Q155.pre];have loop:∀ (out:List af) (n:Int) (z:List Int×Int) (w:ai) (q c:Nat),0<=n->n<most->out.length<=24->bj b q z->q<=m+2->WI w c->c<=200->Tot (Q155.l1 K (s,most,()) (out,n,z.1,z.2,w)) λr=>(WI r.1.2.1 2000/\r.1.1.length<=300)/\bj b (m+8*most.toNat+2) r.2.1:=λout n z w q c n0 n1 ho hz hq hw hc=>by
  refine Tot.iter (step:=λrec a=>Q155.l1.step K (s,most,()) rec a) (λa=>∃ q c:Nat,0<=a.2.1/\a.2.1<most/\(a.1.length:Int)+a.2.1<=24+most/\bj b q (a.2.2.1,a.2.2.2.1)/\q+8*a.2.1.toNat<=m+8*most.toNat+2/\WI a.2.2.2.2 c/\c+4*a.2.1.toNat<=2000) (λa=>a.2.1.toNat) ?_ K _ (by show n.toNat<K;omega) ⟨q,c,n0,n1,by show (out.length:Int)+n<=_;omega,hz,by show q+8*n.toNat<=_;omega,hw,by show c+4*n.toNat<=2000;omega⟩;clear hz hq hw hc n0 n1 ho;rintro rec ⟨out,n,z1,z2,w⟩ ⟨q,c,n0,n1,ho,hz,hq,hw,hc⟩ ih;simp only at n0 n1 ho hz hq hw hc ih ⊢;simp only[Q155.l1.step];refine Tot.cnd (λhn=>?_) λ_=>Tot.vl (hw.copy (by omega) K hK) (Tot.ret ⟨⟨hw.mono (by omega),by show out.length<=300;omega⟩,hz.up (by omega)⟩)
  have hn:n>0:=of_decide_eq_true hn;rw[aM (n:=n-1) (by omega) (by omega)];refine Tot.bind (yh h hz w (by omega)) λe he=>Tot.fit (Tot.vl (hw.copy (by omega) K hK) (Tot.bind (do_t K w c hw (by omega) e.1.1 hK) ?_)) (by omega) (by simp;omega)
  rintro⟨⟨v',ok,⟨⟩⟩,⟨⟩⟩ hv;have go:∀ u:ai,WI u (c+4)->Tot (rec (out++[e.1.1],n-1,e.2.1.1,e.2.1.2,u)) λr=>(WI r.1.2.1 2000/\r.1.1.length<=300)/\bj b (m+8*most.toNat+2) r.2.1:=λu hu=>ih _ ⟨q+8,c+4,by show 0<=n-1;omega,by show n-1<most;omega,by show ((out++[e.1.1]).length:Int)+(n-1)<=_;simp;omega,he,by show q+8+8*(n-1).toNat<=_;omega,hu,by show c+4+4*(n-1).toNat<=2000;omega⟩ (by show (n-1).toNat<n.toNat;omega)
  exact Tot.cnd (λ_=>go v' hv) λ_=>go w (hw.mono (by omega))
 refine Tot.bind (ul K hK) λw0 hw0=>Tot.bind (aG h hs 3 (by decide) (by omega)) λv2 ⟨_,s2⟩=>Tot.cnd (λ_=>?_) λ_=>Tot.bind (aG h s2 most h1 (by omega)) λv9 ⟨⟨a9,b9⟩,s9⟩=>loop [] v9.1.1 v9.2.1 w0.1.1 (m+2) 8 a9 b9 (by simp) s9 (AR _) hw0 (by omega)
 refine Tot.iter (step:=λrec a=>Q155.l0.step K (s,most,()) (Q155.l1 K (s,most,())) rec a) (λa=>0<=a.2.1/\a.2.1<=8/\(a.1.length:Int)<=3*a.2.1/\bj b (m+1) (a.2.2.1,a.2.2.2.1)/\WI a.2.2.2.2 8) (λa=>8-a.2.1.toNat) ?_ K _ (by show 8-AD 0<K;omega) ⟨by show (0:Int)<=0;omega,by show (0:Int)<=8;omega,by show ((0:Nat):Int)<=3*0;omega,s2,hw0⟩;rintro rec ⟨out,i,z1,z2,w⟩ ⟨i0,i1,ho,hz,hw⟩ ih;simp only at i0 i1 ho hz hw ih ⊢;simp only[Q155.l0.step];refine Tot.cnd (λhi=>?_) λ_=>?_
 ·have hi:i<=7:=of_decide_eq_true hi;rw[aM (n:=i+1) (by omega) (by omega)];have go:∀ out':List af,(out'.length:Int)<=3*(i+1)->Tot (rec (out',i+1,z1,z2,w)) λr=>(WI r.1.2.1 2000/\r.1.1.length<=300)/\bj b (m+8*most.toNat+2) r.2.1:=λout' ho'=>ih _ ⟨by show 0<=i+1;omega,by show i+1<=8;omega,ho',hz,hw⟩ (by show 8-(i+1).toNat<8-i.toNat;omega)
  exact Tot.cnd (λ_=>Tot.fit (Tot.fit (go _ (by simp;omega)) (by omega) (by simp;omega)) (by omega) (by simp;omega)) λ_=>go out (by omega)
 ·refine Tot.bind (zm K w 8 out hw (by omega) (by omega) hK) λv ⟨hv,ev⟩=>Tot.bind (aG h hz most h1 (by omega)) λv4 ⟨⟨a4,b4⟩,s4⟩=>?_
  exact loop v.2.1 v4.1.1 v4.2.1 v.1.1 (m+1+1) _ a4 b4 (by rw[ev];omega) s4 (by omega) hv (by omega)
theorem yj (h:fg b)(hs:bj b m s)(hm:m<=90000)(hK:1048577<K):Tot (Q156.f K (s,())) λr=>WI r.1.1 2000/\bj b (m+802) r.2.1:=by
 simp only[Q156.f];exact Tot.bind (yi h hs 100 (by decide) (by decide) hm hK) λv hv=>Tot.ret ⟨hv.1.1,hv.2⟩
structure NS (c:Nat) (n:aa):Prop where
 nb:NB n
 table:(aa.table n).length<=c
 cast:(aa.cast n).length<=c
 doubts:(aa.doubts n).length<=c
 places:(aa.places n).length<=c
 others:(aa.others n).length<=c
theorem dK.ns {i:Nat}{n:aa}(h:dK i n):NS 8 n:=by
 cases hu:n.2.1 with
 |true =>
  have hU:=h.up hu;refine⟨h.nb,by have:=h.short;omega,by have:=clen hU.x.say;omega,?_,?_,?_⟩
  ·exact AF (gP hU.x.say.asc hU.x.say.inp) (by decide)
  ·exact AF (gP hU.x.places.2 λx hx=>(hU.x.places.1 x hx).1) (by decide)
  ·exact AF (gP hU.x.others.2 λx hx=>⟨(hU.x.others.1 x hx).1.1,Int.le_trans (hU.x.others.1 x hx).1.2 (by decide)⟩) (by decide)
 |false =>
  have e:=h.down hu;refine⟨h.nb,?_,?_,?_,?_,?_⟩ <;> rw[e] <;> exact AU _
theorem vK (h:fg b)(hs:bj b m s)(n:aa){c:Nat}(hn:NS c n)(h8:8<=c)(hc:c<=1000)(hm:m<=90000)(hK:1048577<K):Tot (Q166.f K (s,n,())) λr=>NS (c+1) r.1.1/\bj b (m+60) r.2.1:=by
 simp only[Q166.f];rw[vb K n hn.nb hK];simp only[AB];obtain⟨⟨n1,n2,n3,n4,n5,n6,n7,n8⟩,l1,l2,l3,l4,l5⟩:=hn;refine Tot.bind (aG h hs 12 (by decide) (by omega)) λv2 ⟨_,s2⟩=>?_
 have same:∀ (n':aa) (z:List Int×Int),n'.2.2.2.2.2.2.2.2=n.2.2.2.2.2.2.2.2->bj b (m+60) z->NS (c+1) n'/\bj b (m+60) z:=λn' z e hz=>by
  refine⟨⟨⟨?_,?_,?_,?_,?_,?_,?_,?_⟩,?_,?_,?_,?_,?_⟩,hz⟩ <;> simp only[aa.table,aa.cast,aa.doubts,aa.places,aa.others] <;> rw[e] <;> first|assumption|(refine AF ?_ (Ae c);assumption)
 have u2:bj b (m+60) v2.2.1:=s2.up (by omega);refine Tot.cnd (λ_=>Tot.bind (oC h s2 (by omega) hK) λt ⟨tl,s3⟩=>Tot.ret ⟨⟨⟨by show t.1.1.length<=_;omega,n2,n3,n4,n5,n6,n7,n8⟩,by show t.1.1.length<=_;omega,AA l2,AA l3,AA l4,AA l5⟩,s3.up (by omega)⟩) λ_=>?_
 refine Tot.cnd (λ_=>Tot.bind (un h s2 (by omega) hK) λt ⟨tl,s3⟩=>Tot.ret ⟨⟨⟨n1,by show t.1.1.length<=_;omega,n3,n4,n5,n6,n7,n8⟩,AA l1,by show t.1.1.length<=_;omega,AA l3,AA l4,AA l5⟩,s3.up (by omega)⟩) λ_=>?_
 refine Tot.cnd (λ_=>Tot.ret (same _ _ rfl u2)) λ_=>?_
 refine Tot.cnd (λ_=>Tot.bind (aG h s2 9 (by decide) (by omega)) λv5 ⟨_,s5⟩=>Tot.bind (aG h s5 3 (by decide) (by omega)) λv6 ⟨_,s6⟩=>Tot.bind (aG h s6 3 (by decide) (by omega)) λv7 ⟨_,s7⟩=>Tot.bind (aG h s7 2 (by decide) (by omega)) λv8 ⟨_,s8⟩=>Tot.ret ⟨⟨⟨n1,n2,n3,n4,n5,n6,n7,n8⟩,AA l1,AA l2,AA l3,AA l4,AA l5⟩,s8.up (by omega)⟩) λ_=>?_
 refine Tot.cnd (λ_=>Tot.bind (aG h s2 8 (by decide) (by omega)) λv9 ⟨_,s9⟩=>Tot.bind (aG h s9 8 (by decide) (by omega)) λv10 ⟨_,s10⟩=>Tot.fit (Tot.ret ⟨⟨⟨n1,n2,?_,?_,n5,n6,n7,n8⟩,AA l1,AA l2,?_,AA l4,AA l5⟩,s10.up (by omega)⟩) (by omega) ?_) λ_=>?_
 ·show (aa.doubts n++[_]).length<=_;simp;omega
 ·intro d hd;rcases AK.1 hd with hd|hd
  ·exact n4 d hd
  ·rw[AG.1 hd];show ([v10.1.1]:List Int).length<=_;simp
 ·show (aa.doubts n++[_]).length<=_;simp;omega
 ·show (aa.doubts n).length+_<=_;simp;omega
 refine Tot.cnd (λ_=>Tot.bind (oD h s2 (by omega)) λc s3=>Tot.ret ⟨⟨⟨n1,n2,n3,n4,n5,n6,n7,n8⟩,AA l1,AA l2,AA l3,AA l4,AA l5⟩,s3.up (by omega)⟩) λ_=>?_
 refine Tot.cnd (λ_=>Tot.bind (aG h s2 9 (by decide) (by omega)) λv9 ⟨_,s9⟩=>Tot.bind (oD h s9 (by omega)) λc s10=>Tot.bind (aG h s10 3 (by decide) (by omega)) λv11 ⟨_,s11⟩=>Tot.fit (Tot.ret ⟨⟨⟨n1,n2,n3,n4,?_,?_,n7,n8⟩,AA l1,AA l2,AA l3,?_,AA l5⟩,s11.up (by omega)⟩) (by omega) ?_) λ_=>?_
 ·show (aa.places n++[_]).length<=_;simp;omega
 ·intro d hd;rcases AK.1 hd with hd|hd
  ·exact n6 d hd
  ·rw[AG.1 hd];show ([v11.1.1]:List Int).length<=_;simp
 ·show (aa.places n++[_]).length<=_;simp;omega
 ·show (aa.places n).length+_<=_;simp;omega
 refine Tot.cnd (λ_=>Tot.bind (aG h s2 3 (by decide) (by omega)) λv9 ⟨_,s9⟩=>Tot.bind (oC h s9 (by omega) hK) λt ⟨tl,s10⟩=>Tot.fit (Tot.ret ⟨⟨⟨n1,n2,n3,n4,n5,n6,?_,?_⟩,AA l1,AA l2,AA l3,AA l4,?_⟩,s10.up (by omega)⟩) (by omega) ?_) λ_=>?_
 ·show (aa.others n++[_]).length<=_;simp;omega
 ·intro d hd;rcases AK.1 hd with hd|hd
  ·exact n8 d hd
  ·rw[AG.1 hd];show t.1.1.length<=_;omega
 ·show (aa.others n++[_]).length<=_;simp;omega
 ·show (aa.others n).length+_<=_;simp;omega
 refine Tot.cnd (λ_=>Tot.ret (same _ _ rfl u2)) λ_=>Tot.cnd (λ_=>Tot.ret (same _ _ rfl u2)) λ_=>?_
 refine Tot.cnd (λ_=>Tot.bind (aG h s2 3 (by decide) (by omega)) λv ⟨⟨a,b⟩,s3⟩=>Tot.ix2 a b λ_ _ _=>Tot.ret (same _ _ rfl (s3.up (by omega)))) λ_=>?_
 exact Tot.bind (aG h s2 8 (by decide) (by omega)) λv9 ⟨_,s9⟩=>Tot.bind (aG h s9 3 (by decide) (by omega)) λv ⟨⟨a,b⟩,s3⟩=>Tot.ix2 a b λ_ _ _=>Tot.ret (same _ _ rfl (s3.up (by omega)))
end
theorem pg (K:Nat)(n:aa)(hn:NB n)(hK:1048577<K):∃ r:List af,r.length<=1048576/\Q51.f K (n,())=some ((r,()),())/\((¬ (eU n/\n.2.1=true)/\r=[])\/(eU n/\n.2.1=true/\r=er n)):=by
 obtain⟨b,h1,h2,h3⟩:=sx K n hn hK;simp only[Q51.f];rw[h2];cases b with
 |false=>exact⟨[],by simp,rfl,.inl ⟨λh=>(by have:=h3.2 h.1;cases this),rfl⟩⟩
 |true =>
  have hP:=h3.1 rfl;cases hu:n.2.1 with
  |false=>exact⟨[],by simp,by simp only[AB,hu];rfl,.inl ⟨λh=>(by cases h.2),rfl⟩⟩
  |true =>
   refine⟨er n,by have:=oA hn hP;omega,?_,.inr ⟨hP,rfl,rfl⟩⟩;simp only[AB,hu,Bool.not_true,cond_false];rw[rM K n hn hP hK];rfl
section
variable {K:Nat} {b:List Int} {m:Nat} {s:List Int×Int}
end
theorem bj.zero (b:List Int):bj b 0 (b,0):=⟨0,AR _,rfl⟩
structure vL (code:List Int):Prop where
 byte:∀ y∈code,0<=y/\y<=255
 len:code.length<=9223372036854775807
theorem zo (K:Nat)(s:ByteArray)(n:Int)(h0:n<1024)(hs:s.size<=1)(hK:1048577<K):Tot (Q167.f K (s,n,())) λr=>r.1.1.size<=1024:=by
 simp only[Q167.f,Q167.pre];refine Tot.iter (step:=λrec a=>Q167.l0.step K (s,n,()) rec a) (λa=>∃ d e:Nat,d+e=10/\a.2.1.toNat<2 ^ d/\a.1.size<=2 ^ e/\a.2.2.size<=2 ^ e) (λa=>a.2.1.toNat) ?_ K _ (by show n.toNat<K;omega) ⟨10,0,rfl,by show n.toNat<1024;omega,hs,AU _⟩;rintro rec ⟨x,n,out⟩ ⟨d,e,hde,hn,hx,ho⟩ ih;simp only at hn hx ho ih ⊢;simp only[Q167.l0.step];have he:2 ^ e<=1024:=AF (Ag (by decide) (show e<=10 by omega)) (by decide);refine Tot.cnd (λhp=>?_) λ_=>Tot.ret (AF ho he)
 have hp:n>0:=of_decide_eq_true hp;obtain⟨d,rfl⟩:∃ d',d=d'+1:=by
  cases d with
  |zero=>exfalso;have:n.toNat<1:=hn;omega
  |succ d=>exact⟨d,rfl⟩
 have hb:2 ^ (d+1)<=2 ^ 10:=Ag (by decide) (by omega);have hb:2 ^ (d+1)<=1024:=hb;rw[Nat.pow_succ]at hn hb;have htd:Int.tdiv n 2=n / 2:=Int.tdiv_eq_ediv_of_nonneg (by omega);rw[htd,aM (n:=n / 2) (by omega) (by omega)];have hpow:2 ^ (e+1)=2 ^ e+2 ^ e:=by rw[Nat.pow_succ];omega
 have go:∀ (x' out':ByteArray),x'.size<=x.size+x.size->out'.size<=2 ^ e+2 ^ e->Tot (rec (x',n / 2,out')) λr=>r.1.1.size<=1024:=λx' out' h1 h2=>ih _ ⟨d,e+1,by omega,by show (n / 2).toNat<2 ^ d;omega,by show x'.size<=_;omega,by show out'.size<=_;omega⟩ (by show (n / 2).toNat<n.toNat;omega)
 exact Tot.cnd (λ_=>Tot.cat (AR out.size) (AR x.size) (λz hz=>Tot.cat (AR x.size) (AR x.size) (λy hy=>go y z hy (by omega)) (by omega)) (by omega)) λ_=>Tot.cat (AR x.size) (AR x.size) (λy hy=>go y out hy (by omega)) (by omega)
structure WS (w:ai):Prop where
 nodes:w.1.length<=8
 node:∀ n∈w.1,NS 9 n
 radio:w.2.1.length<=100
 text:∀ f∈w.2.1,f.2.1.size<=2000
 sides:w.2.2.1.length<=8
 born:w.2.2.2.length<=100000
theorem NS.up {c:Nat}{n:aa}(h:NS c n):NS (c+1) n:=⟨h.nb,AA h.table,AA h.cast,AA h.doubts,AA h.places,AA h.others⟩
theorem WI.ws {w:ai}{c:Nat}(h:WI w c)(hc:c<=100000):WS w:=⟨Nat.le_of_eq h.len,λn hn=>by
 obtain⟨i,hi,rfl⟩:=AS hn;exact (h.node i hi).ns.up,AF h.radio.1 (by decide),λf hf=>(h.radio.2 f hf).2,Nat.le_of_eq h.sides,AF h.born hc⟩
theorem WS.wb {w:ai}(h:WS w):WB w:=⟨AF h.nodes (by decide),λn hn=>(h.node n hn).nb,AF h.radio (by decide),λf hf=>AF (h.text f hf) (by decide),AF h.sides (by decide),AF h.born (by decide)⟩
section
variable {K:Nat} {b:List Int} {m:Nat} {s:List Int×Int}
theorem rO (h:fg b)(hs:bj b m s)(w:ai){c:Nat}(hw:WI w c)(hc:c<=90000)(hm:m<=89000)(hK:1048577<K):Tot (Q168.f K (s,w,())) λr=>WS r.1.1/\bj b (m+70) r.2.1:=by
 simp only[Q168.f];have hW:=hw.ws (by omega);have hlen:=hw.len;have hsd:=hw.sides;have hbn:=hw.born;have hrd:=hw.radio.1;refine Tot.vl (show Q157.f K (w,())=some ((w,()),()) from hw.copy (by omega) K hK) (Tot.bind (aG h hs _ (by show (1:Int)<=(w.1.length:Int);omega) (by omega)) λv ⟨⟨a0,a1⟩,s1⟩=>Tot.bind (aG h s1 6 (by decide) (by omega)) λv3 ⟨_,s3⟩=>?_);obtain⟨_,a1⟩:LtP v.1.1 (w.1.length:Int):=⟨a0,a1⟩;obtain⟨_,a2⟩:LtP v.1.1 (w.2.2.1.length:Int):=⟨a0,by rw[hsd];omega⟩;refine Tot.cnd (λ_=>Tot.must (by simp;omega) (Tot.ret ⟨⟨?_,λn hn=>?_,hW.radio,hW.text,hW.sides,hW.born⟩,s3.up (by omega)⟩)) λ_=>?_
 ·show ((w.1.take _).drop _).length<=8;rw[AN,AJ];omega
 ·exact hW.node n (AQ (Af hn))
 refine Tot.cnd (λ_=>Tot.bind (aG h s3 3 (by decide) (by omega)) λv4 ⟨⟨a,b⟩,s4⟩=>Tot.ix2 a b λ_ _ _=>Tot.ix2 a0 a2 λ_ _ _=>Tot.ret ⟨⟨hW.nodes,hW.node,hW.radio,hW.text,by show (w.2.2.1.set _ _).length<=8;rw[AI];omega,hW.born⟩,s4.up (by omega)⟩) λ_=>?_
 refine Tot.cnd (λ_=>Tot.bind (lU h s3 (by omega)) λf s4=>Tot.fit (Tot.ret ⟨⟨hW.nodes,hW.node,hW.radio,hW.text,hW.sides,by show (w.2.2.2++[f.1.1]).length<=_;simp;omega⟩,s4.up (by omega)⟩) (by omega) (by simp;omega)) λ_=>?_
 refine Tot.cnd (λ_=>Tot.bind (aG h s3 10 (by decide) (by omega)) λv10 ⟨_,s4⟩=>Tot.bind (aG h s4 2 (by decide) (by omega)) λv11 ⟨⟨b0,b1⟩,s5⟩=>Tot.bind (zo K (ByteArray.mk #[116]) _ ?_ (by decide) hK) λt ht=>Tot.fit (Tot.ret ⟨⟨hW.nodes,hW.node,?_,λf hf=>?_,hW.sides,hW.born⟩,s5.up (by omega)⟩) (by omega) (by simp;omega)) λ_=>?_
 ·rw[aM (n:=v11.1.1*301) (by omega) (by omega)];omega
 ·show (w.2.1++[_]).length<=100;simp;omega
 ·rcases AK.1 hf with hf|hf
  ·exact hW.text f hf
  ·rw[AG.1 hf];exact AF ht (by decide)
 refine Tot.ix2 a0 a1 λn hn _=>?_
 obtain⟨i,hi,rfl⟩:=AS hn;refine Tot.bind (vK h s3 w.1[i] (hw.node i hi).ns (AR _) (by omega) (by omega) hK) λn' ⟨hn',s4⟩=>Tot.ix2 a0 a1 λ_ _ _=>Tot.ret ⟨⟨by show (w.1.set _ _).length<=8;rw[AI];omega,λy hy=>?_,hW.radio,hW.text,hW.sides,hW.born⟩,s4.up (by omega)⟩
 rcases Aa hy with hy|rfl
 ·exact hW.node y hy
 ·exact hn'
theorem uo (h:fg b)(hs:bj b m s)(hm:m<=80000)(hK:1048577<K):Tot (Q169.f K (s,())) λr=>WS r.1.1/\bj b (m+900) r.2.1:=by
 simp only[Q169.f];exact Tot.bind (yj h hs (by omega) hK) λw ⟨hw,s1⟩=>Tot.bind (aG h s1 24 (by decide) (by omega)) λv ⟨_,s2⟩=>Tot.cnd (λ_=>Tot.bind (rO h s2 w.1.1 hw (by omega) (by omega) hK) λr ⟨hr,s3⟩=>Tot.ret ⟨hr,s3.up (by omega)⟩) λ_=>Tot.ret ⟨hw.ws (by omega),s2.up (by omega)⟩
end
theorem uq (K:Nat)(code:List Int)(hc:vL code)(hK:1048577<K):Tot (Q170.f K (code,())) λr=>WS r.1.1:=by
 obtain⟨bs,hR,e⟩:=zn (K:=K) code hc.byte hc.len;simp only[Q170.f];refine Tot.vl e (Tot.bind (uo hR (bj.zero bs) (by omega) hK) λw ⟨hw,s1⟩=>Tot.cnd (λh1=>?_) λ_=>Tot.ret hw);have h1:(w.1.1.2.2.2.length:Int)>0:=of_decide_eq_true h1;have hb:=hw.born;refine Tot.bind (aG hR s1 4 (by decide) (by omega)) λv3 ⟨_,s3⟩=>Tot.cnd (λ_=>?_) λ_=>Tot.ret hw
 refine Tot.bind (aG hR s3 (w.1.1.2.2.2.length:Int) (by omega) (by omega)) λv4 ⟨⟨a0,a1⟩,_⟩=>?_
 obtain⟨j,hj⟩:=AL a0;rw[hj]at a1 ⊢;rw[aw j (by omega)];refine Tot.must (by simp;omega) (Tot.fit (Tot.must (by simp;omega) (Tot.fit (Tot.ret ⟨hw.nodes,hw.node,hw.radio,hw.text,hw.sides,?_⟩) (by omega) ?_)) (by omega) ?_)
 ·show (([]++((w.1.1.2.2.2.take _).drop _))++((w.1.1.2.2.2.take _).drop _)).length<=100000;simp only[AC,AO,AP,AM,AH,AJ,AN];omega
 ·simp only[AC,AO,AP,AM,AH,AJ,AN];omega
 ·simp only[AC,AO,AP,AM,AH,AJ,AN,AZ];omega
end Go.Proofs.YtmcbmojdeikcdaaGreatEv
