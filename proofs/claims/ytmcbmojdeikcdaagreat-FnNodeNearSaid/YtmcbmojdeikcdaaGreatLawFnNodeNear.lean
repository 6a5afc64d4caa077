/- FnNodeNear: the plain law. -/
import Derived.Test.YtmcbmojdeikcdaaGreatP3
set_option linter.unusedVariables false
set_option linter.unusedSimpArgs false
open Bool renaming not_true->AL,true_and->AR
open Int renaming toNat_natCast->AP
open List renaming length->AB,mem_filter->AC,length_map->AE,length_filter_le->AF,filter_cons->AG,length_take->AH,mem_append->AI,getElem_of_mem->AJ,mem_cons->AK,length_append->AM,pairwise_cons->AN,getElem_mem->AQ
open Nat renaming le_trans->AO
open Option renaming bind_some->AA,bind->AD
namespace Go.Proofs.YtmcbmojdeikcdaaGreatEv
open Go
def xH (a:Q119.A_l0):aa:=(a.2.1,(a.2.2.1,(a.2.2.2.1,(a.2.2.2.2.1,(a.2.2.2.2.2.1,(a.2.2.2.2.2.2.1,(a.2.2.2.2.2.2.2.1,(a.2.2.2.2.2.2.2.2.1,(a.2.2.2.2.2.2.2.2.2.1,(a.2.2.2.2.2.2.2.2.2.2.1,((a.2.2.2.2.2.2.2.2.2.2.2.1,(a.2.2.2.2.2.2.2.2.2.2.2.2.1,(a.2.2.2.2.2.2.2.2.2.2.2.2.2.1,a.2.2.2.2.2.2.2.2.2.2.2.2.2.2.1))),(a.2.2.2.2.2.2.2.2.2.2.2.2.2.2.2.1,((a.2.2.2.2.2.2.2.2.2.2.2.2.2.2.2.2.1,(a.2.2.2.2.2.2.2.2.2.2.2.2.2.2.2.2.2.1,(a.2.2.2.2.2.2.2.2.2.2.2.2.2.2.2.2.2.2.1,a.2.2.2.2.2.2.2.2.2.2.2.2.2.2.2.2.2.2.2.1))),(a.2.2.2.2.2.2.2.2.2.2.2.2.2.2.2.2.2.2.2.2.1,a.2.2.2.2.2.2.2.2.2.2.2.2.2.2.2.2.2.2.2.2.2.1))))))))))))))
theorem NS.places_ {a1:Int}{a2 a3 a4:Bool}{a5 a6 a7 a8:Int}{a9:List ag}{a10:List aV}{a11:ag}{a15:List ce}{a16:cF}{pl ps:List bf}{ot:List cD}
  (h:NS 9 (a1,a2,a3,a4,a5,a6,a7,a8,a9,a10,a11,a15,a16,pl,ot)) (h1:ps.length<=9) (h2:∀ p∈ps,p.2.2.length<=1048576):NS 9 (a1,a2,a3,a4,a5,a6,a7,a8,a9,a10,a11,a15,a16,ps,ot):=by
 have t1:a9.length<=1048576:=h.nb.table;have t2:a10.length<=1048576:=h.nb.cast;have t3:a15.length<=1048576:=h.nb.doubts;have t4:∀ d∈a15,d.2.2.2.length<=1048576:=h.nb.by_;have t5:ot.length<=1048576:=h.nb.others;have t6:∀ x∈ot,x.2.length<=1048576:=h.nb.facts;have t7:a9.length<=9:=h.table;have t8:a10.length<=9:=h.cast;have t9:a15.length<=9:=h.doubts;have t10:ot.length<=9:=h.others;exact⟨⟨t1,t2,t3,t4,AO h1 (by decide),h2,t5,t6⟩,t7,t8,t9,h1,t10⟩
theorem uw (K:Nat)(code bs:List Int)(hR:fe bs)(n:aa)(hn:NS 9 n)(z:List Int×Int)(hz:bd bs 2000 z)(hK:1048577<K):Tot (Q119.l0 K (code,()) (0,n.1,n.2.1,n.2.2.1,n.2.2.2.1,n.2.2.2.2.1,n.2.2.2.2.2.1,n.2.2.2.2.2.2.1,n.2.2.2.2.2.2.2.1,n.2.2.2.2.2.2.2.2.1,n.2.2.2.2.2.2.2.2.2.1,n.2.2.2.2.2.2.2.2.2.2.1.1,n.2.2.2.2.2.2.2.2.2.2.1.2.1,n.2.2.2.2.2.2.2.2.2.2.1.2.2.1,n.2.2.2.2.2.2.2.2.2.2.1.2.2.2,n.2.2.2.2.2.2.2.2.2.2.2.1,n.2.2.2.2.2.2.2.2.2.2.2.2.1.1,n.2.2.2.2.2.2.2.2.2.2.2.2.1.2.1,n.2.2.2.2.2.2.2.2.2.2.2.2.1.2.2.1,n.2.2.2.2.2.2.2.2.2.2.2.2.1.2.2.2,[],n.2.2.2.2.2.2.2.2.2.2.2.2.2.2,z.1,z.2)) λr=>NS 9 r.1.1:=by
 obtain⟨a1,a2,a3,a4,a5,a6,a7,a8,a9,a10,⟨a11,a12,a13,a14⟩,a15,⟨a16,a17,a18,a19⟩,pl0,ot⟩:=n;have h0:NS 9 (a1,a2,a3,a4,a5,a6,a7,a8,a9,a10,(a11,a12,a13,a14),a15,(a16,a17,a18,a19),[],ot):=hn.places_ (Nat.zero_le _) (λp hp=>(nomatch hp));clear hn;refine Tot.iter (step:=λrec a=>Q119.l0.step K (code,()) rec a) (λa=>0<=a.1/\a.1<=4/\((aa.places (xH a)).length:Int)<=a.1/\NS 9 (xH a)/\bd bs (2000+8*a.1.toNat) (a.2.2.2.2.2.2.2.2.2.2.2.2.2.2.2.2.2.2.2.2.2.2.1,a.2.2.2.2.2.2.2.2.2.2.2.2.2.2.2.2.2.2.2.2.2.2.2)) (λa=>4-a.1.toNat) ?_ K _ (by show 4-Int.toNat 0<K;omega) ⟨by show (0:Int)<=0;omega,by show (0:Int)<=4;omega,by show ((0:Nat):Int)<=0;omega,h0,hz.up (by show 2000<=2000+8*Int.toNat 0;omega)⟩;clear h0 hz;rintro rec ⟨i,a1,a2,a3,a4,a5,a6,a7,a8,a9,a10,a11,a12,a13,a14,a15,a16,a17,a18,a19,pl,ot,z1,z2⟩ ⟨i0,i1,hl,hn,hs⟩ ih;have hn:NS 9 (a1,a2,a3,a4,a5,a6,a7,a8,a9,a10,(a11,a12,a13,a14),a15,(a16,a17,a18,a19),pl,ot):=hn;have hl:(pl.length:Int)<=i:=hl;have hs:bd bs (2000+8*i.toNat) (z1,z2):=hs;have i0:0<=i:=i0;have i1:i<=4:=i1;simp only[Q119.l0.step];refine Tot.cnd (λhi=>?_) λ_=>Tot.bind (aE hR hs 6 (by decide) (by omega)) λ_ _=>Tot.ret hn
 have hi:i<4:=of_decide_eq_true hi;rw[aL (n:=i+1) (by omega) (by omega)];rw[dE K];simp only[AA];have go:∀ (ps:List bf) (z:List Int×Int),(ps.length:Int)<=i+1->(∀ p∈ps,p.2.2.length<=1048576)->bd bs (2000+8*i.toNat+8) z->Tot (rec (i+1,a1,a2,a3,a4,a5,a6,a7,a8,a9,a10,a11,a12,a13,a14,a15,a16,a17,a18,a19,ps,ot,z.1,z.2)) λr=>NS 9 r.1.1:=λps z h1 h2 h3=>by
  have hps:NS 9 (a1,a2,a3,a4,a5,a6,a7,a8,a9,a10,(a11,a12,a13,a14),a15,(a16,a17,a18,a19),ps,ot):=hn.places_ (by omega) h2;exact ih (i+1,a1,a2,a3,a4,a5,a6,a7,a8,a9,a10,a11,a12,a13,a14,a15,a16,a17,a18,a19,ps,ot,z.1,z.2) ⟨by show 0<=i+1;omega,by show i+1<=4;omega,h1,hps,h3.up (by show _<=2000+8*(i+1).toNat;omega)⟩ (by show 4-(i+1).toNat<4-i.toNat;omega)
 have htr:∀ p∈pl,p.2.2.length<=1048576:=hn.nb.trips;refine Tot.cnd (λ_=>Tot.bind (aE hR hs 4 (by decide) (by omega)) λv5 ⟨_,s5⟩=>Tot.cnd (λ_=>Tot.bind (qa hR s5 (by omega)) λc s6=>Tot.bind (aE hR s6 9 (by decide) (by omega)) λv7 ⟨_,s7⟩=>Tot.fit (go _ v7.2.1 ?_ (λp hp=>?_) s7) (by omega) ?_) λ_=>go pl v5.2.1 (by omega) htr (s5.up (by omega))) λ_=>go pl (z1,z2) (by omega) htr (hs.up (by omega))
 ·show ((pl++[_]).length:Int)<=_;rw[AM,List.length_singleton];omega
 ·rcases AI.1 hp with hp|hp
  ·exact htr p hp
  ·rw[List.mem_singleton.1 hp];show ([_]:List Int).length<=_;simp
 ·show pl.length+_<=_;simp;omega
theorem ux (K:Nat)(code:List Int)(hc:vU code)(hK:1048577<K):Tot (Q119.f K (code,())) λr=>NS 9 r.1.1:=by
 obtain⟨bs,hR,e⟩:=zr (K:=K) code hc.byte hc.len;simp only[Q119.f,Q119.pre];exact Tot.vl e (Tot.bind (vT hR (bd.zero bs) (by omega) hK) λn ⟨hn,s1⟩=>Tot.cnd (λ_=>Tot.bind (aE hR s1 2 (by decide) (by omega)) λv3 ⟨_,s3⟩=>Tot.cnd (λ_=>uw K code bs hR n.1.1 hn v3.2.1 (s3.up (by omega)) hK) λ_=>Tot.bind (aE hR s3 6 (by decide) (by omega)) λ_ _=>Tot.ret hn) λ_=>Tot.bind (aE hR s1 6 (by decide) (by omega)) λ_ _=>Tot.ret hn)
def lt2P (K:Nat)(n:aa)(x y:bf):Prop:=bQ K (aa.coord n) x.2.1<bQ K (aa.coord n) y.2.1\/(bQ K (aa.coord n) x.2.1=bQ K (aa.coord n) y.2.1/\x.1<y.1)
theorem qe (K:Nat)(n:aa)(p:bf->Bool):∀ (xs L:List bf),L.Pairwise (lt2P K n)->(∀ y∈L,∀ x∈xs,y.1<x.1)->Asc (λp:bf=>p.1) xs->(eB (ltP K n) p L xs).Pairwise (lt2P K n)
 |[],L,h,_,_=>h
 |x::xs,L,h,hL,hA=>by
  have hA':=AN.1 hA;refine qe K n p xs _ ?_ ?_ hA'.2
  ·cases p x with
   |false=>exact h
   |true =>
    simp only[cond_true];rw[List.pairwise_append];refine⟨h.filter _,AN.2 ⟨λb hb=>?_,h.filter _⟩,λa ha b hb=>?_⟩
    ·have:=(AC.1 hb).2;simp only[ltP,decide_eq_true_eq]at this;exact .inl this
    ·have ha2:=(AC.1 ha).2;have ha1:=hL a (AC.1 ha).1 x (by simp);simp only[ltP,Bool.not_eq_true',decide_eq_false_iff_not]at ha2;rcases AK.1 hb with rfl|hb
     ·by_cases e:bQ K (aa.coord n) a.2.1=bQ K (aa.coord n) b.2.1
      ·exact .inr ⟨e,ha1⟩
      ·exact .inl (by omega)
     ·have hb2:=(AC.1 hb).2;simp only[ltP,decide_eq_true_eq]at hb2;exact .inl (by omega)
  ·intro y hy z hz;have hzx:=hA'.1 z hz;have:y∈L\/y=x:=by
    cases hp:p x with
    |false=>rw[hp]at hy;exact .inl hy
    |true =>
     rw[hp]at hy;simp only[cond_true]at hy;rcases AI.1 hy with hy|hy
     ·exact .inl (AC.1 hy).1
     ·rcases AK.1 hy with rfl|hy
      ·exact .inr rfl
      ·exact .inl (AC.1 hy).1
   rcases this with h1|rfl
   ·exact hL y h1 z (by simp[hz])
   ·exact hzx
theorem qf {α:Type}(lt:α->α->Bool)(p:α->Bool):∀ (xs L:List α) (y:α),y∈eB lt p L xs->y∈L\/y∈xs
 |[],L,y,h=>.inl h
 |x::xs,L,y,h=>by
  rcases qf lt p xs _ y h with h|h
  ·cases hp:p x with
   |false=>rw[hp]at h;exact .inl h
   |true =>
    rw[hp]at h;simp only[cond_true]at h;rcases AI.1 h with h|h
    ·exact .inl (AC.1 h).1
    ·rcases AK.1 h with rfl|h
     ·exact .inr (by simp)
     ·exact .inl (AC.1 h).1
  ·exact .inr (by simp[h])
theorem kd {α:Type}(lt:α->α->Bool)(p:α->Bool):∀ (xs L:List α),(eB lt p L xs).length=L.length+(xs.filter p).length
 |[],L=>by simp[eB]
 |x::xs,L=>by
  simp only[eB];rw[kd lt p xs _,AG];cases p x with
  |false=>simp
  |true =>
   have:((L.filter λy=>!lt x y).length+(L.filter λy=>lt x y).length)=L.length:=by
    induction L with
    |nil=>rfl
    |cons a L ih=>simp only[AG];cases lt x a <;> simp <;> omega
   simp;omega
noncomputable def fZ (K:Nat)(n:aa):List bf:=eB (ltP K n) (λp=>cG (aa.table n) p.1) [] (aa.places n)
theorem yw (K:Nat)(n:aa)(p:bf)(hn:NB n)(hP:e8 n)(hu:n.2.1=true)(hp:p∈aa.places n)(hK:1048577<K):Q182.f K (n,p.1,())=some ((bQ K (aa.coord n) p.2.1,true,()),()):=by
 have hl:=hn.places;obtain⟨b,h1,h2⟩:=rr K n hn hK;have hb:=h2.2 hP;subst hb;simp only[Q182.f];have hi:=cK (step:=λrec a=>Q180.l0.step K (aa.places n,(λy1=>(Q181.f K (y1.1,p.1,())).map λy=>y.1.1),()) rec a) (aa.places n).length (λi=>(i:Int)) (λj=>∃ h:j<(aa.places n).length,(aa.places n)[j].1=p.1) (some ((-1,()),())) (λj=>some ((((j:Nat):Int),()),())) ?_ ?_ (aa.places n).length K 0 (by omega) (by omega)
 ·obtain⟨i,hi',e⟩:=AJ hp;rcases hi with ⟨i1,_⟩|⟨j,_,j1,⟨j0,j2⟩,_,j4⟩
  ·exact absurd ⟨hi',by rw[e]⟩ (i1 i (Nat.zero_le _) hi')
  ·have hj:j=i:=nn (hP.up hu).2.2.2.2.2.2.2.1.2 j1 hi' (by rw[e];exact j2);subst hj;have e4:Q180.f K (aa.places n,(λy1=>(Q181.f K (y1.1,p.1,())).map λy=>y.1.1),())=some ((((j:Nat):Int),()),()):=j4;refine (congrArg (λo=>AD o _) e4).trans ?_;simp only[AA];rw[show decide (((j:Nat):Int)<0)=false from decide_eq_false (by omega),h1];simp only[cond_false,rb,AA,AL];refine (congrArg (λo=>AD o _) ((ai j1).trans (congrArg some e))).trans ?_;simp only[AA];refine (congrArg (λo=>AD o _) (jX K (aa.coord n) p.2.1 hK).2).trans rfl
 ·intro rec i hi;simp only[Q180.l0.step];rw[decide_eq_true (show (i:Int)<(AB (aa.places n):Int) by omega),ai hi,av i (by omega)];simp only[cond_true,AA,Q181.f,Option.map_some];by_cases h:(aa.places n)[i].1=p.1
  ·rw[show ((aa.places n)[i].1==p.1)=true by simpa using h];exact .inr ⟨⟨hi,h⟩,rfl⟩
  ·rw[show ((aa.places n)[i].1==p.1)=false by simpa using h];exact .inl ⟨λ⟨_,h2⟩=>h h2,rfl⟩
 ·intro rec;simp only[Q180.l0.step,bq];rfl
theorem yx (K:Nat){t:List ag}(i:Int)(hT:aA t)(hK:1048577<K):∃ (g:ag) (ok:Bool),Q130.f K (t,i,())=some ((g,ok,()),())/\(ok&&g.2.2.1==1)=cG t i:=by
 rcases iH K t i (cI hT) hK with ⟨h,_⟩|⟨_,⟨g,hg,e,h⟩|⟨h,h1⟩⟩
 ·exact absurd hT h
 ·obtain⟨j,hj,rfl⟩:=AJ hg;exact⟨_,true,h,by rw[AR,<- e,nH hT hj]⟩
 ·exact⟨_,false,h1,by rw[Bool.false_and,nI h]⟩
theorem yy (K:Nat)(x:ab Q183.ps)(v:Int)(all:List Int)(hl:all.length<=1048576)(hK:1048577<K):Q183.l2 K x (v,all.take v.toNat,all,(all.length:Int),0)=some ((true,()),()):=by
 have ht:(all.take v.toNat).length=min v.toNat all.length:=AH;refine jh (step:=λrec a=>Q183.l2.step K x rec a) (all.take v.toNat).length (λi=>(v,all.take v.toNat,all,(all.length:Int),(i:Int))) (rb true) ?_ ?_ (by omega)
 ·intro rec i hi;simp only[Q183.l2.step];rw[bM (by omega:(i:Int)<(AB (all.take v.toNat):Int)),AP,ai hi,av i (by omega),ai (show i<all.length by omega)];simp only[cond_true,AA,List.getElem_take,bne_self_eq_false,cond_false]
 ·intro rec;simp only[Q183.l2.step,bq,cond_false,beq_self_eq_true,cond_true];by_cases hv:v<0
  ·rw[decide_eq_true hv];rfl
  ·rw[decide_eq_false hv];simp only[cond_false];by_cases he:((all.take v.toNat).length:Int)=v
   ·rw[show ((AB (all.take v.toNat):Int)==v)=true by simpa using he];rfl
   ·rw[show ((AB (all.take v.toNat):Int)==v)=false by simpa using he,show ((AB (all.take v.toNat):Int)==(AB all:Int))=true by simp;omega];rfl
theorem mV (K:Nat)(x:ab Q183.ps)(n:aa)(v:Int)(N:List bf)(hl:N.length<=1048576)(hN:∀ p∈N,Q182.f K (n,p.1,())=some ((bQ K (aa.coord n) p.2.1,true,()),()))(hs:N.Pairwise (lt2P K n))(hK:1048577<K) :
  Q183.l1 K x (v,(N.map (·.1)).take v.toNat,N.map (·.1),(N.length:Int),1,n.1,n.2.1,n.2.2.1,n.2.2.2.1,n.2.2.2.2.1,n.2.2.2.2.2.1,n.2.2.2.2.2.2.1,n.2.2.2.2.2.2.2.1,n.2.2.2.2.2.2.2.2.1,n.2.2.2.2.2.2.2.2.2.1,n.2.2.2.2.2.2.2.2.2.2.1.1,n.2.2.2.2.2.2.2.2.2.2.1.2.1,n.2.2.2.2.2.2.2.2.2.2.1.2.2.1,n.2.2.2.2.2.2.2.2.2.2.1.2.2.2,n.2.2.2.2.2.2.2.2.2.2.2.1,n.2.2.2.2.2.2.2.2.2.2.2.2.1.1,n.2.2.2.2.2.2.2.2.2.2.2.2.1.2.1,n.2.2.2.2.2.2.2.2.2.2.2.2.1.2.2.1,n.2.2.2.2.2.2.2.2.2.2.2.2.1.2.2.2,n.2.2.2.2.2.2.2.2.2.2.2.2.2.1,n.2.2.2.2.2.2.2.2.2.2.2.2.2.2)=some ((true,()),()):=by
 refine jh (step:=λrec a=>Q183.l1.step K x (Q183.l2 K x) rec a) (N.length-1) (λj=>(v,(N.map (·.1)).take v.toNat,N.map (·.1),(N.length:Int),((j+1:Nat):Int),n.1,n.2.1,n.2.2.1,n.2.2.2.1,n.2.2.2.2.1,n.2.2.2.2.2.1,n.2.2.2.2.2.2.1,n.2.2.2.2.2.2.2.1,n.2.2.2.2.2.2.2.2.1,n.2.2.2.2.2.2.2.2.2.1,n.2.2.2.2.2.2.2.2.2.2.1.1,n.2.2.2.2.2.2.2.2.2.2.1.2.1,n.2.2.2.2.2.2.2.2.2.2.1.2.2.1,n.2.2.2.2.2.2.2.2.2.2.1.2.2.2,n.2.2.2.2.2.2.2.2.2.2.2.1,n.2.2.2.2.2.2.2.2.2.2.2.2.1.1,n.2.2.2.2.2.2.2.2.2.2.2.2.1.2.1,n.2.2.2.2.2.2.2.2.2.2.2.2.1.2.2.1,n.2.2.2.2.2.2.2.2.2.2.2.2.1.2.2.2,n.2.2.2.2.2.2.2.2.2.2.2.2.2.1,n.2.2.2.2.2.2.2.2.2.2.2.2.2.2)) (rb true) ?_ ?_ (by omega)
 ·intro rec j hj;have h1:j<N.length:=by omega
  have h2:j+1<N.length:=by omega
  have m1:j<(N.map (·.1)).length:=by rw[AE];exact h1
  have m2:j+1<(N.map (·.1)).length:=by rw[AE];exact h2
  simp only[Q183.l1.step];rw[bM (by omega:((j+1:Nat):Int)<(AB (N.map (·.1)):Int)),dS (j+1) (by omega) (by omega),av (j+1) (by omega)];simp only[cond_true,Nat.add_sub_cancel,AP];rw[ai m1,ai m2];simp only[AA,List.getElem_map];refine (congrArg (λo=>AD o _) (hN N[j] (AQ h1))).trans ?_;simp only[AA];refine (congrArg (λo=>AD o _) (hN N[j+1] (AQ h2))).trans ?_;simp only[AA,AL,cond_false];rcases (List.pairwise_iff_getElem.1 hs) j (j+1) h1 h2 (by omega) with h|⟨h,h'⟩
  ·rw[decide_eq_false (by omega:¬ bQ K (aa.coord n) N[j].2.1>bQ K (aa.coord n) N[j+1].2.1),show (bQ K (aa.coord n) N[j].2.1==bQ K (aa.coord n) N[j+1].2.1)=false by simp;omega];rfl
  ·rw[decide_eq_false (by omega:¬ bQ K (aa.coord n) N[j].2.1>bQ K (aa.coord n) N[j+1].2.1),show (bQ K (aa.coord n) N[j].2.1==bQ K (aa.coord n) N[j+1].2.1)=true by simp;omega];simp only[cond_true,cond_false];rw[decide_eq_false (by omega:¬ N[j].1>N[j+1].1)];rfl
 ·intro rec;simp only[Q183.l1.step];rw[decide_eq_false (show ¬ ((N.length-1+1:Nat):Int)<(AB (N.map (·.1)):Int) by rw[AE];omega)];have:=yy K x v (N.map (·.1)) (by rw[AE];exact hl) hK;rw[AE]at this;exact this
theorem pt (K:Nat)(code:List Int)(hc:vU code)(hK:1048577<K):Q183.f K (code,())=some ((true,()),()):=by
 simp only[Q183.f,Q183.pre];by_cases h:(code.length:Int)>1048576
 ·rw[decide_eq_true h];rfl
 rw[decide_eq_false h];simp only[cond_false];obtain⟨⟨⟨n,(v:Int),⟨⟩⟩,⟨⟩⟩,e0,hn⟩:=ux K code hc hK;have hn:NS 9 n:=hn;rw[e0];simp only[AA];obtain⟨r,hr,e1,e2,h3⟩:=lD K n v hn.nb hK;obtain⟨a,_,_,e3,h4⟩:=lD K n 8 hn.nb hK;obtain⟨b,o1,o2,o3⟩:=mO K n hn.nb hK;rw[e2,e1];simp only[AA];rw[sR K r hr hK,o1,o2];simp only[rb,AA,AL,cond_false,bne_self_eq_false];rw[e3];simp only[AA];have hpl:=hn.nb.places;rcases h3 with ⟨hno,rfl⟩|⟨hP,hu,rfl⟩
 ·have ha:a=[]:=by
   rcases h4 with ⟨_,h⟩|⟨h1,h2,_⟩
   ·exact h
   ·exact absurd ⟨h1,h2⟩ hno
  subst ha;have h1:=mV K (code,()) n v [] (by simp) (by simp) List.Pairwise.nil hK;simp only[List.map_nil,List.take_nil,List.length_nil]at h1;have goal:Q183.l0 K (code,()) (v,[],[],0,0,n.1,n.2.1,n.2.2.1,n.2.2.2.1,n.2.2.2.2.1,n.2.2.2.2.2.1,n.2.2.2.2.2.2.1,n.2.2.2.2.2.2.2.1,n.2.2.2.2.2.2.2.2.1,n.2.2.2.2.2.2.2.2.2.1,n.2.2.2.2.2.2.2.2.2.2.1.1,n.2.2.2.2.2.2.2.2.2.2.1.2.1,n.2.2.2.2.2.2.2.2.2.2.1.2.2.1,n.2.2.2.2.2.2.2.2.2.2.1.2.2.2,n.2.2.2.2.2.2.2.2.2.2.2.1,n.2.2.2.2.2.2.2.2.2.2.2.2.1.1,n.2.2.2.2.2.2.2.2.2.2.2.2.1.2.1,n.2.2.2.2.2.2.2.2.2.2.2.2.1.2.2.1,n.2.2.2.2.2.2.2.2.2.2.2.2.1.2.2.2,n.2.2.2.2.2.2.2.2.2.2.2.2.2.1,n.2.2.2.2.2.2.2.2.2.2.2.2.2.2)=some ((true,()),()):=by
   obtain⟨k,rfl⟩:∃ k,K=k+1:=⟨K-1,by omega⟩;show Q183.l0.step (k+1) (code,()) (Q183.l1 (k+1) (code,())) (ae (λrec a=>Q183.l0.step (k+1) (code,()) (Q183.l1 (k+1) (code,())) rec a) k) _=_;generalize ae (λrec a=>Q183.l0.step (k+1) (code,()) (Q183.l1 (k+1) (code,())) rec a) k=REC;simp only[Q183.l0.step];cases decide ((0:Int)<(AB n.2.2.2.2.2.2.2.2.2.2.2.2.2.1:Int)) with
   |false=>exact h1
   |true =>
    simp only[cond_true];refine (congrArg (λo=>AD o _) o1).trans ?_;simp only[rb,AA];cases hb:b with
    |false=>exact h1
    |true =>
     simp only[cond_true];refine (congrArg (λb=>bif b then _ else _) (Bool.eq_false_iff.2 λhu=>hno ⟨o3.1 hb,hu⟩:n.2.1=false)).trans ?_;exact h1
  cases decide ((AB ([]:List Int):Int)>v) <;> exact goal
 ·have ha:a=(fZ K n).map (·.1):=by
   rcases h4 with ⟨h,_⟩|⟨_,_,h⟩
   ·exact absurd ⟨hP,hu⟩ h
   ·rw[h];have h5:=kd (ltP K n) (λp=>cG (aa.table n) p.1) (aa.places n) [];have h6:=hY hP hu;have h7:=AF (λp:bf=>cG (aa.table n) p.1) (aa.places n);exact List.take_of_length_le (by rw[AE,h5];simp;show _<=8;omega)
  subst ha;have hT:=(hP.up hu).1;have hcount:(fZ K n).length=((aa.places n).filter λp=>cG (aa.table n) p.1).length:=by
   unfold fZ;rw[kd];simp
  have hNl:(fZ K n).length<=1048576:=by rw[hcount];exact AO (AF _ _) hpl
  have h1:=mV K (code,()) n v (fZ K n) hNl (λp hp=>yw K n p hn.nb hP hu ((qf _ _ _ _ p hp).resolve_left (by simp)) hK) (qe K n _ _ [] List.Pairwise.nil (by simp) (hP.up hu).2.2.2.2.2.2.2.1.2) hK;have goal:Q183.l0 K (code,()) (v,((fZ K n).map (·.1)).take v.toNat,(fZ K n).map (·.1),0,0,n.1,n.2.1,n.2.2.1,n.2.2.2.1,n.2.2.2.2.1,n.2.2.2.2.2.1,n.2.2.2.2.2.2.1,n.2.2.2.2.2.2.2.1,n.2.2.2.2.2.2.2.2.1,n.2.2.2.2.2.2.2.2.2.1,n.2.2.2.2.2.2.2.2.2.2.1.1,n.2.2.2.2.2.2.2.2.2.2.1.2.1,n.2.2.2.2.2.2.2.2.2.2.1.2.2.1,n.2.2.2.2.2.2.2.2.2.2.1.2.2.2,n.2.2.2.2.2.2.2.2.2.2.2.1,n.2.2.2.2.2.2.2.2.2.2.2.2.1.1,n.2.2.2.2.2.2.2.2.2.2.2.2.1.2.1,n.2.2.2.2.2.2.2.2.2.2.2.2.1.2.2.1,n.2.2.2.2.2.2.2.2.2.2.2.2.1.2.2.2,n.2.2.2.2.2.2.2.2.2.2.2.2.2.1,n.2.2.2.2.2.2.2.2.2.2.2.2.2.2)=some ((true,()),()):=by
   refine Eq.trans ?_ (jh (step:=λrec a=>Q183.l0.step K (code,()) (Q183.l1 K (code,())) rec a) (aa.places n).length (λi=>(v,((fZ K n).map (·.1)).take v.toNat,(fZ K n).map (·.1),((((aa.places n).take i).filter λp=>cG (aa.table n) p.1).length:Int),(i:Int),n.1,n.2.1,n.2.2.1,n.2.2.2.1,n.2.2.2.2.1,n.2.2.2.2.2.1,n.2.2.2.2.2.2.1,n.2.2.2.2.2.2.2.1,n.2.2.2.2.2.2.2.2.1,n.2.2.2.2.2.2.2.2.2.1,n.2.2.2.2.2.2.2.2.2.2.1.1,n.2.2.2.2.2.2.2.2.2.2.1.2.1,n.2.2.2.2.2.2.2.2.2.2.1.2.2.1,n.2.2.2.2.2.2.2.2.2.2.1.2.2.2,n.2.2.2.2.2.2.2.2.2.2.2.1,n.2.2.2.2.2.2.2.2.2.2.2.2.1.1,n.2.2.2.2.2.2.2.2.2.2.2.2.1.2.1,n.2.2.2.2.2.2.2.2.2.2.2.2.1.2.2.1,n.2.2.2.2.2.2.2.2.2.2.2.2.1.2.2.2,n.2.2.2.2.2.2.2.2.2.2.2.2.2.1,n.2.2.2.2.2.2.2.2.2.2.2.2.2.2)) (rb true) ?_ ?_ (k:=K) (by omega))
   ·rfl
   ·intro rec i hi;simp only[Q183.l0.step];rw[show decide ((i:Int)<(AB n.2.2.2.2.2.2.2.2.2.2.2.2.2.1:Int))=true from bM (by omega:(i:Int)<(AB (aa.places n):Int)),av i (by omega)];simp only[cond_true];refine (congrArg (λo=>AD o _) o1).trans ?_;rw[o3.2 hP];simp only[rb,AA,cond_true];refine (congrArg (λb=>bif b then _ else _) hu).trans ?_;simp only[cond_true];refine (congrArg (λo=>AD o _) (show idx n.2.2.2.2.2.2.2.2.2.2.2.2.2.1 (i:Int)=some (aa.places n)[i] from ai hi)).trans ?_;simp only[AA];obtain⟨g,ok,g1,g2⟩:=yx K (aa.places n)[i].1 hT hK;refine (congrArg (λo=>AD o _) g1).trans ?_;simp only[AA];have e:(((aa.places n).take (i+1)).filter λp=>cG (aa.table n) p.1).length=(((aa.places n).take i).filter λp=>cG (aa.table n) p.1).length+(bif cG (aa.table n) (aa.places n)[i].1 then 1 else 0):=by
     rw[List.take_add_one,List.getElem?_eq_getElem hi,List.filter_append,AM];simp only[Option.toList_some,AG,List.filter_nil];cases cG (aa.table n) (aa.places n)[i].1 <;> rfl
    have hle:(((aa.places n).take i).filter λp=>cG (aa.table n) p.1).length<=1048576:=AO (AF _ _) (by rw[AH];omega);rw[e,<- g2];cases ok with
    |false=>rfl
    |true =>
     simp only[cond_true,AR];cases g.2.2.1==1 with
     |false=>rfl
     |true =>
      simp only[cond_true];rw[av _ (by omega)]
   ·intro rec;simp only[Q183.l0.step];rw[show decide (((aa.places n).length:Int)<(AB n.2.2.2.2.2.2.2.2.2.2.2.2.2.1:Int))=false from bq _];simp only[cond_false,List.take_length];rw[<- hcount];exact h1
  show (bif decide ((AB (((fZ K n).map (·.1)).take v.toNat):Int)>v) then (bif decide ((AB (((fZ K n).map (·.1)).take v.toNat):Int)>0) then some ((false,()),()) else _) else _)=_;by_cases hv:v<0
  ·rw[show v.toNat=0 by omega,List.take_zero]at goal ⊢;cases decide ((AB ([]:List Int):Int)>v) <;> exact goal
  ·have:=AH (i:=v.toNat) (l:=(fZ K n).map (·.1));rw[decide_eq_false (show ¬ ((AB (((fZ K n).map (·.1)).take v.toNat):Int)>v) by omega)];exact goal
end Go.Proofs.YtmcbmojdeikcdaaGreatEv
