/- What a node hears, by the specification. -/
import Derived.Test.YtmibehbhnkeaiaaGreatP2
set_option linter.unusedVariables false
set_option linter.unusedSimpArgs false
open Bool renaming not_true->FR,and_eq_true->GA,not_false->GI,eq_iff_iff->GL,not_eq_true'->GU,and_true->Gc,false_eq_true->Gg,not_eq_true->Gk,and_self->Gr
open Classical renaming not_not->GT
open Eq renaming trans->Gu
open Int renaming toNat->FM,toNat_natCast->FO,eq_ofNat_of_zero_le->FZ,toNat_zero->F9,le_refl->GC,tdiv_eq_ediv_of_nonneg->GG,tdiv->GK,tmod->GP,fdiv->GX,toNat_of_nonneg->Gb,tmod_lt_of_pos->Gf,tmod_nonneg->Gn
open List renaming length->FK,length_append->FP,mem_singleton->FQ,length_take->FS,nil_append->FT,length_cons->FU,getElem_mem->FV,length_nil->FW,drop_eq_getElem_cons->FX,mem_append->FY,length_drop->F0,drop_zero->F2,length_set->F3,mem_map->F5,getElem?_eq_getElem->F6,filter_eq_self->F7,getElem_of_mem->F8,take_length->GB,pairwise_cons->GE,filter_eq_nil_iff->GF,mem_of_mem_take->GJ,length_map->GM,mem_filter->GN,foldl_cons->GO,length_filter_le->GQ,append_nil->GR,take_add_one->GS,append_assoc->GV,filter_cons->GW,foldl_nil->GZ,length_take_le->Ga,mem_cons->Gd,filter_append->Ge,reverse_cons->Gh,drop_length->Gj,cons_append->Gl,not_mem_nil->Gm,set_set->Gt
open Nat renaming le_succ_of_le->FN,le_trans->F1,zero_le->F4,le_refl->GD,le_succ->GY,min_eq_left->Gp,mul_le_mul->Gq
open Option renaming bind_some->FJ,bind->FL
open Option.some renaming injEq->Gi
open Prod.mk renaming injEq->Gs
namespace Go.Proofs.YtmibehbhnkeaiaaGreatEv
open Go
theorem yS (K:Nat)(x y:Int)(I:1048577<K):Tot (Q182.f K (x,y,())) λ_=>True:=by
 simp only[Q182.f];rw[kS K x,kS K y];simp only[FJ];have M:=Bb (uz x);have O:=Bb (uz y);generalize gb x*gb x=a at *;generalize gb y*gb y=b at *;have u:wr .i64 a=a:=aC (by omega) (by omega);have z:wr .i64 b=b:=aC (by omega) (by omega);have H:wr .i64 (a+b)=(((a+b).toNat:Nat):Int):=(aC (by omega) (by omega)).trans (by omega);rw[u,z,H];obtain⟨r,_,J⟩:=yR K (a+b).toNat (by omega) I;rw[J];simp only[FJ];rw[kS K r];exact⟨_,rfl,trivial⟩
theorem CF (K:Nat)(c d:cW)(r:1048577<K):Tot (Q183.f K (c,d,())) λ_=>True:=by
 simp only[Q183.f];exact Tot.bind (fu K c).tot λ_ _=>Tot.cnd (λ_=>Tot.ret trivial) λ_=>Tot.bind (fu K d).tot λ_ _=>Tot.cnd (λ_=>Tot.ret trivial) λ_=>Tot.bind (yS K _ _ r) λ_ _=>Tot.ret trivial
theorem lz (K:Nat)(n y u:Int)(h:y<=u):Tot (Q177.f K (n,y,u,())) λr=>InP r.1.1 y u:=by
 simp only[Q177.f];exact Tot.cnd (λ_=>Tot.ret ⟨GC _,h⟩) λz=>Tot.cnd (λ_=>Tot.ret ⟨h,GC _⟩) λH=>Tot.ret ⟨Int.not_lt.1 (of_decide_eq_false z),Int.not_lt.1 (of_decide_eq_false H)⟩
theorem CG (K:Nat)(c b:cW)(t s:Int)(H:bX c)(R:1048577<K):Tot (Q188.f K (c,b,t,s,())) λr=>bX r.1.1:=by
 simp only[Q188.f];refine Tot.bind (fu K c).tot λv M=>Tot.cnd (λh=>?_) λ_=>Tot.bind (fu K b).tot λv M=>Tot.cnd (λ_=>Tot.ret H) λy=>Tot.bind (cK K _ _ _).tot λv' O=>Tot.cnd (λ_=>Tot.ret H) λz=>?_
 ·rw[M.2 H]at h;cases h
 have Z:=M.1 (by simpa using y);have ht:=O.1 (by simpa using z);obtain⟨_,_,_,⟨c1,c2⟩⟩:=H;obtain⟨_,_,_,⟨b1,b2⟩⟩:=Z;obtain⟨t1,t2⟩:=ht;have Y:¬ wr .i64 (c.2.2.2+b.2.2.2)=0:=by rw[aC (by omega) (by omega)];omega
 have u:∀ w:Int,Tot (Q187.f K (c,b,w,t,())) λr=>InP r.1.1 1 1500:=λw=>by
  simp only[Q187.f,Q186.f];refine Tot.bind (P:=λ_=>True) (Tot.cnd (λ_=>Tot.ret trivial) λ_=>Tot.ret trivial) λ_ _=>Tot.not (decide_eq_false (show ¬ t=0 by omega)) (Tot.bind (lz K _ _ _ (by omega)) λ_ _=>Tot.not (decide_eq_false Y) (Tot.bind (lz K _ _ _ (by omega)) λ_ h=>Tot.ret h))
 refine Tot.bind (CF K c b R) λ_ _=>?_
 simp only[Q184.f];refine Tot.bind (P:=λ_=>True) (Tot.not (decide_eq_false Y) (Tot.ret trivial)) λ_ _=>Tot.bind (yS K _ _ R) λn _=>Tot.cnd (λ_=>?_) λh=>?_
 ·simp only[Q185.f];refine Tot.bind (P:=λ_=>True) (Tot.cnd (λ_=>Tot.ret trivial) λ_=>Tot.cnd (λ_=>Tot.ret trivial) λ_=>Tot.cnd (λ_=>Tot.ret trivial) λ_=>Tot.ret trivial) λ_ _=>Tot.cnd (λ_=>?_) λ_=>?_ <;>
  exact Tot.bind (lz K _ _ _ (by omega)) λ_ I=>Tot.bind (lz K _ _ _ (by omega)) λ_ y=>Tot.bind (lz K _ _ _ (by omega)) λ_ z=>Tot.bind (u _) λ_ J=>Tot.ret ⟨I,y,z,J⟩
 ·have X:¬ n.1.1=0:=by simpa using h
  refine Tot.cnd (λ_=>?_) λ_=>?_ <;>
  exact Tot.not (decide_eq_false X) (Tot.bind (lz K _ _ _ (by omega)) λ_ I=>Tot.not (decide_eq_false X) (Tot.bind (lz K _ _ _ (by omega)) λ_ y=>Tot.bind (lz K _ _ _ (by omega)) λ_ z=>Tot.bind (u _) λ_ J=>Tot.ret ⟨I,y,z,J⟩))
noncomputable def lg (K:Nat)(c b:cW)(t s:Int):cW:=((Q188.f K (c,b,t,s,())).getD (((0,0,0,0),()),())).1.1
noncomputable def lA (K:Nat)(l:List Int):Int:=((Q189.f K (l,())).getD ((0,()),())).1.1
theorem uA (K:Nat)(c b:cW)(t s:Int)(u:bX c)(r:1048577<K):Q188.f K (c,b,t,s,())=some ((lg K c b t s,()),())/\bX (lg K c b t s):=by
 obtain⟨⟨⟨v,⟨⟩⟩,⟨⟩⟩,e,h⟩:=CG K c b t s u r;unfold lg;rw[e];exact⟨rfl,h⟩
theorem med_t (K:Nat)(l:List Int)(hl:l.length<=100)(hK:1048577<K):Tot (Q189.f K (l,())) λ_=>True:=by
 simp only[Q189.f,Q189.pre];have u:∀ J:List Int,J.length<=100->Tot (Q189.l0 K (l,()) (J,[],0)) λ_=>True:=λJ hx=>by
  refine Tot.iter (step:=λrec a=>Q189.s0 K (l,()) (Q189.l1 K (l,()) rec) rec a) (λa=>a.1=J/\0<=a.2.2/\a.2.2<=J.length/\(a.2.1.length:Int)=a.2.2) (λa=>J.length-a.2.2.toNat) ?_ K _ (by show J.length-FM 0<K;omega) ⟨rfl,by show (0:Int)<=0;omega,by show (0:Int)<=_;omega,rfl⟩;rintro rec ⟨ys,H,i⟩ ⟨rfl,X,h1,h2⟩ Z;simp only at X h1 h2 hx Z ⊢;simp only[Q189.s0];obtain⟨i,rfl⟩:=FZ X;refine Tot.cnd (λh=>?_) λ_=>Tot.cnd (λ_=>Tot.ret trivial) λh=>?_
  ·have I:=of_decide_eq_true h;clear h;refine Tot.iter (step:=λz a=>Q189.s1 K (l,()) rec z a) (λa=>a.1=ys/\a.2.1=H/\a.2.2.1=i/\0<=a.2.2.2/\a.2.2.2<=H.length) (λa=>H.length-a.2.2.2.toNat) ?_ K _ (by show H.length-FM 0<K;omega) ⟨rfl,rfl,rfl,by show (0:Int)<=0;omega,by show (0:Int)<=_;omega⟩;rintro z ⟨R,r,j,k⟩ ⟨rfl,rfl,e,k0,k1⟩ O;simp only at e k0 k1 I h1 h2 hx O Z ⊢;subst e;simp only[Q189.s1];obtain⟨k,rfl⟩:=FZ k0;have a0:∀ y:Int,Tot (rec (R,(([]++((r.take (FM (k:Int))).drop (FM 0)))++([y]))++((r.take (FM (FK r:Int))).drop (FM (k:Int))),wr .i64 ((i:Int)+1))) λ_=>True:=λy=>by
    rw[ar i (by omega)];refine Z _ ⟨rfl,by show (0:Int)<=((i+1:Nat):Int);omega,by show ((i+1:Nat):Int)<=_;omega,?_⟩ (by show R.length-FM ((i+1:Nat):Int)<R.length-FM (i:Int);omega);simp only[FO,F9,F2,FT,FP,FS,F0,FU,FW];omega
   have M:Tot (bif decide (0<=0)&&decide ((0:Int)<=(k:Int))&&decide ((k:Int)<=(FK r:Int))&&true then (bif decide ((FK ([]:List (Ty.den (.int .i64)))+FK ((r.take (FM (k:Int))).drop (FM 0)))*8<=am) then ((idx R (i:Int)).bind λy3=>bif decide ((FK ([]++((r.take (FM (k:Int))).drop (FM 0)))+FK ([y3]))*8<=am) then (bif decide ((0:Int)<=(k:Int))&&decide ((k:Int)<=(FK r:Int))&&decide ((FK r:Int)<=(FK r:Int))&&true then (bif decide ((FK (([]++((r.take (FM (k:Int))).drop (FM 0)))++([y3]))+FK ((r.take (FM (FK r:Int))).drop (FM (k:Int))))*8<=am) then (rec (R,(([]++((r.take (FM (k:Int))).drop (FM 0)))++([y3]))++((r.take (FM (FK r:Int))).drop (FM (k:Int))),wr .i64 ((i:Int)+1))) else none) else none) else none) else none) else none) λ_=>True:=by
    refine Tot.must (by simp only[GA,decide_eq_true_eq,Gc];omega) (Tot.fit (Tot.ix X I λy _ _=>Tot.fit (Tot.must (by simp only[GA,decide_eq_true_eq,Gc];omega) (Tot.fit (a0 y) (by omega) ?_)) (by omega) ?_) (by omega) ?_) <;>
    simp only[FO,F9,F2,FT,FP,FS,F0,FU,FW] <;> omega
   refine Tot.cnd (λY=>?_) λ_=>M
   have Y:=of_decide_eq_true Y;refine Tot.ix k0 Y λy1 _ _=>Tot.ix X I λy2 _ _=>Tot.cnd (λ_=>?_) λ_=>M
   rw[ar k (by omega)];exact O _ ⟨rfl,rfl,rfl,by show (0:Int)<=((k+1:Nat):Int);omega,by show ((k+1:Nat):Int)<=_;omega⟩ (by show r.length-FM ((k+1:Nat):Int)<r.length-FM (k:Int);omega)
  ·have h:¬ (H.length:Int)=0:=by simpa using h
   rw[aC (n:=(H.length:Int)-1) (by omega) (by omega)];have e:GK ((H.length:Int)-1) 2=((H.length:Int)-1) / 2:=by rw[GG (by omega)]
   rw[e,aC (by omega) (by omega)];exact Tot.ix (by omega) (by omega) λy _ _=>Tot.ret trivial
 refine Tot.cnd (λh=>?_) λ_=>u l hl
 have h:=of_decide_eq_true h;rw[aC (n:=(l.length:Int)-3) (by omega) (by omega)];exact Tot.must (by simp only[GA,decide_eq_true_eq,Gc];omega) (u _ (by simp only[F0,FS];omega))
theorem Bc (K:Nat)(l:List Int)(u:l.length<=100)(r:1048577<K):Q189.f K (l,())=some ((lA K l,()),()):=by
 obtain⟨⟨⟨v,⟨⟩⟩,⟨⟩⟩,e,_⟩:=med_t K l u r;unfold lA;rw[e];rfl
theorem sE {α A R:Type}(k:α->Int)(x:α)(t:List α)(hA:Asc k t)(Y S1:List α->Nat->A)(I:List α->Option R){step:(A->Option R)->A->Option R}
  (h0:∀ (rec:A->Option R) (r:List α) (i:Nat) (O:i<t.length),r.length=i->(∀ y∈t.take i,k y<k x)->step rec (Y r i)=if k t[i]<k x then rec (Y (r++[t[i]]) (i+1)) else if k t[i]=k x then rec (S1 (r++[x]) (i+1)) else rec (S1 (r++[x]++[t[i]]) (i+1)))
  (h1:∀ (rec:A->Option R) (r:List α) (i:Nat) (O:i<t.length),r.length<=i+1->k x<k t[i]->step rec (S1 r i)=rec (S1 (r++[t[i]]) (i+1)))
  (e0:∀ (rec:A->Option R) (r:List α),r.length=t.length->(∀ y∈t,k y<k x)->step rec (Y r t.length)=I (r++[x]))
  (e1:∀ (rec:A->Option R) (r:List α),r.length<=t.length+1->step rec (S1 r t.length)=I r) {K:Nat} (Z:t.length<K):ae step K (Y [] 0)=I (bD k x t):=by
 have r1:∀ (n i K:Nat) (r:List α),i+n=t.length->n<K->r.length<=i+1->(∀ y∈t.drop i,k x<k y)->ae step K (S1 r i)=I (r++t.drop i):=by
  intro n;induction n with
  |zero =>
   intro i K r O Z M _;obtain⟨K,rfl⟩:∃ X,K=X+1:=⟨K-1,by omega⟩;have:i=t.length:=by omega
   subst this;show step (ae step K) _=_;rw[e1 _ _ M,Gj,GR]
  |succ n ih =>
   intro i K r O Z M hg;obtain⟨K,rfl⟩:∃ X,K=X+1:=⟨K-1,by omega⟩;have u:i<t.length:=by omega
   rw[FX u]at hg;show step (ae step K) _=_;rw[h1 _ _ _ u M (hg _ (.head _)),ih (i+1) K _ (by omega) (by omega) (by simp;omega) (λy z=>hg y (.tail _ z)),FX u];simp
 have H:∀ i (O:i<t.length),∀ y∈t.drop (i+1),k t[i]<k y:=λi O y z=>by
  have:=List.Pairwise.drop (i:=i) hA;rw[FX O]at this;exact (GE.1 this).1 y z
 have r0:∀ (n i K:Nat) (r:List α),i+n=t.length->n<K->r=t.take i->(∀ y∈t.take i,k y<k x)->ae step K (Y r i)=I (bD k x t):=by
  intro n;induction n with
  |zero =>
   intro i K r O Z M J;obtain⟨K,rfl⟩:∃ X,K=X+1:=⟨K-1,by omega⟩;have:i=t.length:=by omega
   subst this;rw[GB]at M J;subst M;show step (ae step K) _=_;rw[e0 _ _ rfl J];unfold bD;rw[F7.2 (by simpa using J),GF.2 (λy z=>by have:=J y z;simp;omega)]
  |succ n ih =>
   intro i K r O Z M J;obtain⟨K,rfl⟩:∃ X,K=X+1:=⟨K-1,by omega⟩;have u:i<t.length:=by omega
   subst M;have a1:(t.take i).length=i:=by rw[FS];omega
   show step (ae step K) _=_;rw[h0 _ _ _ u a1 J];have a0:k x<=k t[i]->bD k x t=t.take i++x::(t.drop i).filter (λy=>decide (k x<k y)):=λhc=>by
    unfold bD;conv=>lhs;rw[<- List.take_append_drop i t]
    rw[Ge,Ge,F7.2 (by simpa using J),(GF (l:=t.take i)).2 (λy z=>by have:=J y z;simp;omega),FT];rw[FX u,GW,if_neg (by simp;omega),GF.2 (λy z=>by have:=H i u y z;simp;omega),GR]
   by_cases hc:k t[i]<k x
   ·rw[if_pos hc];refine ih (i+1) K _ (by omega) (by omega) (by rw[GS,F6 u];rfl) λy z=>?_
    rw[GS,F6 u]at z;rcases FY.1 z with z|z
    ·exact J y z
    ·simp at z;rw[z];exact hc
   ·rw[if_neg hc,a0 (by omega),FX u];by_cases he:k t[i]=k x
    ·rw[if_pos he,r1 n (i+1) K _ (by omega) (by omega) (by simp;omega) (λy z=>by have:=H i u y z;omega),GW,if_neg (by simp;omega),F7.2 (λy z=>by have:=H i u y z;simp;omega)];simp
    ·rw[if_neg he,r1 n (i+1) K _ (by omega) (by omega) (by simp;omega) (λy z=>by have:=H i u y z;omega),GW,if_pos (by simp;omega),F7.2 (λy z=>by have:=H i u y z;simp;omega)];simp
 exact r0 t.length 0 K [] (by omega) Z rfl (by simp)
theorem yT {t:List ah}{f:ah}(h:∀ g∈t,g.1<f.1):(bZ t f).1=t++[f]:=by
 rw[iU (λg r e=>by have:=h g r;omega)];unfold bD;rw[F7.2 (by simpa using h),GF.2 (λy u=>by have:=h y u;simp;omega)]
theorem qS:∀ {fs t:List ah},Asc (λf:ah=>f.1) fs->(∀ g∈t,∀ f∈fs,g.1<f.1)->fG t fs=t++fs
 |[],t,_,_=>by simp[fG]
 |f::fs,t,u,h=>by
  show fG (bZ t f).1 fs=_;rw[yT (λg r=>h g r f (by simp)),qS (GE.1 u).2 ?_]
  ·simp
  ·intro g r e y;rcases FY.1 r with r|r
   ·exact h g r e (by simp[y])
   ·rw[FQ.1 r];exact (GE.1 u).1 e y
theorem xq {fs:List ah}(h:aE fs):fG [] fs=fs:=by
 rw[qS h.2 (by simp)];rfl
theorem BP (K:Nat)(a b:List ah)(r:aE a)(u:aE b)(y:1048577<K):Q169.f K (a,b,())=some ((fG a b,()),()):=by
 simp only[Q169.f,Q169.pre];obtain⟨R,I,J⟩:=gW K a (cf r) y;obtain⟨X,M,O⟩:=gW K b (cf u) y;have:=cf r;have:=cf u;rw[I,M,J.2 r,O.2 u];simp only[FJ,FR,cond_false];rw[szb _ _ _ (by omega) (by show (FK ([]:List ah))+a.length<=_;simp;omega)];simp only[cond_true,FT];refine pq a b r u.1 (step:=λrec x=>Q169.s0 K (a,b,()) rec x) (λt=>some ((t,()),())) ?_ ?_ (by omega)
 ·intro rec t i H z;simp only[Q169.s0];rw[bt (by omega:(i:Int)<(FK b:Int)),af H,ar i (by omega)];simp only[cond_true,FJ];rw[xh K t _ (cf z) z.2 y];rfl
 ·intro rec t;simp only[Q169.s0,aS];rfl
theorem qd {u:Int}{l:List ch}(h:dn u l)(s:Int):aE (fg l s):=by
 rcases sn (l:=l) (s:=s) with e|⟨x,r,_,e⟩ <;> rw[e]
 ·exact⟨by simp,List.Pairwise.nil⟩
 ·exact (h.1 x r).2.2.2.1
theorem olen {u:Int}{l:List ch}(h:dn u l):l.length<=1048576:=F1 (jx h.2 λx r=>⟨(h.1 x r).1.1,Int.le_trans (h.1 x r).1.2 (by decide)⟩) (by decide)
theorem yU (K:Nat)(n:aa)(s:Int)(t:List ah)(h:dn n.1 (aa.others n))(r:aE t)(y:1048577<K):Q170.f K (n,s,t,())=some ((fG (fg (aa.others n) s) t,()),()):=by
 have z:=olen h;refine qG (step:=λrec a=>Q170.s0 K (n,s,t,()) rec a) (aa.others n) s (λl=>some ((fG l t,()),())) ?_ ?_ (aa.others n).length 0 K (by omega) (by omega)
 ·intro rec i u;simp only[Q170.s0];rw[bt (by omega:(i:Int)<(FK (aa.others n):Int)),af u,ar i (by omega)];simp only[cond_true,FJ];cases (aa.others n)[i].1==s with
  |false=>rfl
  |true=>exact (congrArg (λo=>FL o _) (BP K _ t (h.1 _ (FV u)).2.2.2.1 r y)).trans rfl
 ·intro rec;simp only[Q170.s0,aS,cond_false];rw[xq r];refine (congrArg (λb=>bif b then _ else _) (szb (FK ([]:List ah)) t.length 32 (by omega) ?_)).trans rfl;have:=cf r;simp;omega
theorem sum_s (K:Nat)(n:aa)(s:Int)(t:List ah)(h:dn n.1 (aa.others n))(R:1048577<K):Q171.f K (n,s,t,())=some ((oa n (bD (λx:ch=>x.1) (s,t) (aa.others n)),()),()):=by
 have X:=olen h;refine sE (step:=λrec a=>Q171.s0 K (n,s,t,()) rec a) (λx:ch=>x.1) (s,t) (aa.others n) h.2 (λr i=>(r,false,(i:Int))) (λr i=>(r,true,(i:Int))) (λo=>some ((oa n o,()),())) ?_ ?_ ?_ ?_ (by omega)
 ·intro rec r i I H _;simp only[Q171.s0,zcp4,zcp8];rw[bt (by omega:(i:Int)<(FK (aa.others n):Int)),af I,ar i (by omega)];simp only[cond_true,FJ,GI];have z:=szb r.length 1 32 (by omega) (by omega);have O:=szb (r++[(s,t)]).length 1 32 (by omega) (by simp;omega);generalize (aa.others n)[i]=y at *;by_cases J:y.1<s
  ·rw[if_pos J,show decide (y.1>=s)=false from decide_eq_false (by omega),show (y.1 != s)=true by simp;omega];exact (congrArg (λb=>bif b then _ else _) z).trans rfl
  ·rw[if_neg J,show decide (y.1>=s)=true from decide_eq_true (by omega)];refine (congrArg (λb=>bif b then _ else _) z).trans ?_;by_cases u:y.1=s
   ·rw[if_pos u,show (y.1 != s)=false by simpa using u];rfl
   ·rw[if_neg u,show (y.1 != s)=true by simpa using u];exact (congrArg (λb=>bif b then _ else _) O).trans rfl
 ·intro rec r i I H M;simp only[Q171.s0,zcp4,zcp8];rw[bt (by omega:(i:Int)<(FK (aa.others n):Int)),af I,ar i (by omega)];simp only[cond_true,FJ,FR,cond_false];have z:=szb r.length 1 32 (by omega) (by omega);rw[show ((aa.others n)[i].1 != s)=true by simp;have:s<_:=M;omega];exact (congrArg (λb=>bif b then _ else _) z).trans rfl
 ·intro rec r H _;simp only[Q171.s0,zcp4,zcp8,aS,cond_false,GI,cond_true];exact (congrArg (λb=>bif b then _ else _) (szb r.length 1 32 (by omega) (by omega))).trans rfl
 ·intro rec r H;simp only[Q171.s0,zcp4,zcp8,aS,cond_false,FR];rfl
theorem At (K:Nat)(a b:List ah)(Z:a.length<=1048576)(Y:1048577<K):Q172.f K (a,b,())=rb (decide (a≠b)):=by
 simp only[Q172.f,Q172.pre];by_cases M:a.length=b.length
 ·rw[show ((FK a:Int) != (FK b:Int))=false by simp;omega];have:=cG (step:=λrec x=>Q172.s0 K (a,b,()) rec x) a.length (λi=>(i:Int)) (λj=>∃ (h:j<a.length) (X:j<b.length),a[j]≠b[j]) (rb false) (λ_=>rb true) ?_ ?_ a.length K 0 (by omega) (by omega)
  ·rcases this with ⟨H,u⟩|⟨j,_,H,⟨y,I,O⟩,_,u⟩
   ·refine (u:Q172.l0 K (a,b,()) 0=_).trans ?_;rw[decide_eq_false];rintro z;exact z (List.ext_getElem M λi y I=>GT.1 λR=>H i (F4 _) y ⟨y,I,R⟩)
   ·refine (u:Q172.l0 K (a,b,()) 0=_).trans ?_;rw[decide_eq_true];rintro rfl;exact O rfl
  ·intro rec i J;simp only[Q172.s0];rw[bt (by omega:(i:Int)<(FK a:Int)),af J,ar i (by omega),af (show i<b.length by omega)];simp only[cond_true,FJ];rw[show Ty.eqv t2 a[i] (b[i]'(by omega))=decide (a[i]=b[i]'(by omega)) from iE _ _];by_cases r:a[i]=b[i]'(by omega)
   ·exact .inl ⟨λ⟨_,_,h⟩=>h r,by rw[decide_eq_true r];rfl⟩
   ·exact .inr ⟨⟨J,by omega,r⟩,by rw[decide_eq_false r];rfl⟩
  ·intro rec;simp only[Q172.s0,aS];rfl
 ·rw[show ((FK a:Int) != (FK b:Int))=true by simp;omega,decide_eq_true (show a≠b from λe=>M (by rw[e]))];rfl
theorem rP (K:Nat)(l:List Int)(t:Int)(u:l.length<=1048576):Q178.f K (l,t,())=some ((dC l t,()),()):=by
 simp only[Q178.f];rw[szb _ _ _ (by omega) (by show (FK ([]:List Int))+l.length<=_;simp;omega)];simp only[cond_true,FT];rw[szb _ _ _ (by omega) (by show l.length+[t].length<=_;simp;omega)];simp only[cond_true];have r:(l++[t]).length=l.length+1:=by simp
 show (bif decide (((l++[t]).length:Int)>3) then (bif decide (0<=wr .i64 (((l++[t]).length:Int)-3))&&decide (wr .i64 (((l++[t]).length:Int)-3)<=((l++[t]).length:Int))&&decide (((l++[t]).length:Int)<=((l++[t]).length:Int))&&true then some ((((l++[t]).take (FM ((l++[t]).length:Int))).drop (FM (wr .i64 (((l++[t]).length:Int)-3))),()),()) else none) else some ((l++[t],()),()))=_;by_cases h:l.length+1>3
 ·rw[aC (by omega) (by omega),decide_eq_true (by omega:((l++[t]).length:Int)>3),decide_eq_true (by omega:(0:Int)<=((l++[t]).length:Int)-3),decide_eq_true (by omega:((l++[t]).length:Int)-3<=((l++[t]).length:Int)),decide_eq_true (GC _)];simp only[Gr,cond_true,dC];rw[show FM (((l++[t]).length:Int)-3)=(l++[t]).length-3 by omega,FO,GB]
 ·rw[decide_eq_false (by omega:¬ ((l++[t]).length:Int)>3)];simp only[cond_false,dC];rw[show (l++[t]).length-3=0 by omega,F2]
theorem plen {u:Int}{l:List cm}(h:eT u l):l.length<=1048576:=F1 (jx h.2 λx r=>(h.1 x r).1) (by decide)
theorem pA {y:Int}{l:List cm}(h:eT y l)(r:Int):(ci l r).length<=3:=by
 unfold ci;cases u:l.find? λp=>p.1==r with
 |none=>simp
 |some p =>
  have:=(h.1 p (List.mem_of_find?_eq_some u)).2.2.2.2.1.2;show p.2.2.length<=3;omega
theorem BQ (K:Nat)(l:List cm)(r:Int)(c:cW)(t:Int)(me:Int)(h:eT me l)(hK:1048577<K):Q179.f K (l,r,c,t,())=some ((jQ l r c t,()),()):=by
 have hl:=plen h;have h3:=pA h r;refine sE (step:=λrec a=>Q179.s0 K (l,r,c,t,()) rec a) (λx:cm=>x.1) (r,c,dC (ci l r) t) l h.2 (λu i=>(u,false,(i:Int),[])) (λu i=>(u,true,(i:Int),dC (ci l r) t)) (λo=>some ((o,()),())) ?_ ?_ ?_ ?_ (by omega)
 ·intro rec u i I J z;simp only[Q179.s0];rw[bt (by omega:(i:Int)<(FK l:Int)),af I,ar i (by omega)];simp only[cond_true,FJ,GI];have X:=szb u.length 1 64 (by omega) (by omega);have z2:=szb (u++[(r,c,dC (ci l r) t)]).length 1 64 (by omega) (by simp;omega);have M:l[i].1=r->ci l r=l[i].2.2:=λe=>by unfold ci;rw[mR h.2 I e];rfl
  have O:r<l[i].1->ci l r=[]:=λe=>by
   unfold ci;rw[mo (k:=λp:cm=>p.1)]
   ·rfl
   intro y R;obtain⟨j,hj,rfl⟩:=F8 R;by_cases a0:j<i
   ·have:=z l[j] (by rw[List.mem_take_iff_getElem];exact⟨j,by omega,rfl⟩);show l[j].1≠r;have:l[j].1<r:=this;omega
   ·have:l[i].1<=l[j].1:=by
     by_cases e:i=j
     ·subst e;exact GC _
     ·exact Int.le_of_lt (ct.1 h.2 i j I hj (by omega))
    show l[j].1≠r;omega
  have a1:=(h.1 _ (FV I)).2.2.2.2.1.2;generalize l[i]=y at *;by_cases Y:y.1<r
  ·rw[if_pos Y,show decide (y.1>=r)=false from decide_eq_false (by omega),show (y.1 != r)=true by simp;omega,show (y.1==r)=false by simp;omega];exact (congrArg (λb=>bif b then _ else _) X).trans rfl
  ·rw[if_neg Y,show decide (y.1>=r)=true from decide_eq_true (by omega)];by_cases H:y.1=r
   ·rw[if_pos H,show (y.1 != r)=false by simpa using H,show (y.1==r)=true by simpa using H];simp only[cond_true,cond_false];rw[<- M H];refine (congrArg (λo=>FL o _) (rP K _ t (by omega))).trans ?_;exact (congrArg (λb=>bif b then _ else _) X).trans rfl
   ·rw[if_neg H,show (y.1 != r)=true by simpa using H,show (y.1==r)=false by simpa using H];simp only[cond_true,cond_false];have e:=O (by omega);rw[e]at z2 ⊢;refine (congrArg (λo=>FL o _) (rP K [] t (by simp))).trans ?_;refine (congrArg (λb=>bif b then _ else _) X).trans ?_;exact (congrArg (λb=>bif b then _ else _) z2).trans rfl
 ·intro rec u i I J Z;simp only[Q179.s0];rw[bt (by omega:(i:Int)<(FK l:Int)),af I,ar i (by omega)];have Z:r<l[i].1:=Z;simp only[cond_true,FJ,FR,cond_false];rw[show (l[i].1 != r)=true by simp;omega,show (l[i].1==r)=false by simp;omega];exact (congrArg (λb=>bif b then _ else _) (szb u.length 1 64 (by omega) (by omega))).trans rfl
 ·intro rec u J z;simp only[Q179.s0,aS,cond_false,GI,cond_true];have e:ci l r=[]:=by
   unfold ci;rw[mo (k:=λp:cm=>p.1) (λy R=>by have:y.1<r:=z y R;show y.1≠r;omega)];rfl
  rw[e];refine (congrArg (λo=>FL o _) (rP K [] t (by simp))).trans ?_;exact (congrArg (λb=>bif b then _ else _) (szb u.length 1 64 (by omega) (by omega))).trans rfl
 ·intro rec u J;simp only[Q179.s0,aS,cond_false,FR]
def iZ (n u r:Int):Int:=if n<u then u else if n>r then r else n
theorem di (K:Nat)(n z y:Int):Q177.f K (n,z,y,())=some ((iZ n z y,()),()):=by
 simp only[Q177.f,iZ];by_cases r:n<z
 ·rw[decide_eq_true r,if_pos r];rfl
 ·rw[decide_eq_false r,if_neg r];by_cases u:n>y
  ·rw[decide_eq_true u,if_pos u];rfl
  ·rw[decide_eq_false u,if_neg u];rfl
theorem BR {n u r:Int}(h:u<=r):InP (iZ n u r) u r:=by
 unfold iZ;split
 ·exact⟨GC _,h⟩
 ·split
  ·exact⟨h,GC _⟩
  ·exact⟨by omega,by omega⟩
def gy (n:aa):Int:=iZ ((cg n-(aa.probe n).2.1)*1000+500) 1 60000
noncomputable def nc (K:Nat)(w:aj)(c:cW)(p:cm):cW:=bif p.1==w.2.2.1 then lg K c (aj.coord w) (lA K p.2.2) w.2.2.2.2.1 else c
def gI (n:aa)(w:aj):List cm:=jQ (aa.places n) w.2.2.1 (aj.coord w) (gy n)
def jR (n:aa)(w:aj):Bool:=!decide ((aa.probe n).1<0)&&(aa.probe n).1==w.2.2.1&&(aa.probe n).2.2.1==w.2.2.2.2.1&&w.2.2.2.2.2.1==w.2.2.1
noncomputable def cX (K:Nat)(n:aa)(w:aj):aa:=bif jR n w then oc n ((gI n w).foldl (nc K w) (aa.coord n)) (gI n w) else n
theorem wt {K:Nat}{w:aj}{c:cW}{p:cm}(r:bX c)(u:1048577<K):bX (nc K w c p):=by
 unfold nc;cases p.1==w.2.2.1 with
 |false=>exact r
 |true=>exact (uA K c _ _ _ r u).2
theorem nd {n:aa}(h:UpX n)(H:¬ (aa.probe n).1<0):(aa.probe n).1≠n.1/\InP (aa.probe n).1 0 7/\ak (aa.probe n).1=ak n.1/\InP (aa.probe n).2.1 0 (cg n):=by
 have r:=h.probe;unfold dm at r;rw[if_neg (by omega)]at r;obtain⟨y,⟨f,u,e⟩,z,_⟩:=r;exact⟨y,e ▸ (h.table.1 f u).1,e ▸ h.site f u,z⟩
theorem rQ {n:aa}{w:aj}(h:UpX n)(J:bX (aj.coord w))(r:jR n w=true):eT n.1 (gI n w):=by
 simp only[jR,GA,GU,decide_eq_false_iff_not,beq_iff_eq]at r;obtain⟨⟨⟨H,I⟩,M⟩,O⟩:=r;obtain⟨u,y,z,_⟩:=nd h H;rw[I]at u y z;exact xo h.places y z u J (BR (by decide))
theorem ack_s (K:Nat)(n:aa)(w:aj)(h:UpN n)(hw:bX (aj.coord w))(J:1048577<K):Q190.f K (n,w,())=some ((cX K n w,()),()):=by
 simp only[Q190.f,Q190.pre,zc00556];have H:jR n w=(!decide ((aa.probe n).1<0)&&(aa.probe n).1==w.2.2.1&&(aa.probe n).2.2.1==w.2.2.2.2.1&&w.2.2.2.2.2.1==w.2.2.1):=rfl;by_cases r:(aa.probe n).1<0
 ·rw[show decide (n.2.2.2.2.2.2.2.2.2.2.1.1<0)=true from decide_eq_true r];rw[show cX K n w=n by unfold cX;rw[H,decide_eq_true r];rfl];rfl
 ·rw[show decide (n.2.2.2.2.2.2.2.2.2.2.1.1<0)=false from decide_eq_false r];cases u:(aa.probe n).1==w.2.2.1 with
  |false =>
   rw[show cX K n w=n by unfold cX;rw[H,decide_eq_false r,u];rfl];rw[show (n.2.2.2.2.2.2.2.2.2.2.1.1 != w.2.2.1)=true by unfold bne;rw[show (n.2.2.2.2.2.2.2.2.2.2.1.1==w.2.2.1)=false from u];rfl];rfl
  |true =>
   rw[show (n.2.2.2.2.2.2.2.2.2.2.1.1 != w.2.2.1)=false by unfold bne;rw[show (n.2.2.2.2.2.2.2.2.2.2.1.1==w.2.2.1)=true from u];rfl];cases z:(aa.probe n).2.2.1==w.2.2.2.2.1 with
   |false =>
    rw[show cX K n w=n by unfold cX;rw[H,decide_eq_false r,u,z];rfl];rw[show (n.2.2.2.2.2.2.2.2.2.2.1.2.2.1 != w.2.2.2.2.1)=true by unfold bne;rw[show (n.2.2.2.2.2.2.2.2.2.2.1.2.2.1==w.2.2.2.2.1)=false from z];rfl];rfl
   |true =>
    rw[show (n.2.2.2.2.2.2.2.2.2.2.1.2.2.1 != w.2.2.2.2.1)=false by unfold bne;rw[show (n.2.2.2.2.2.2.2.2.2.2.1.2.2.1==w.2.2.2.2.1)=true from z];rfl];cases I:w.2.2.2.2.2.1==w.2.2.1 with
    |false =>
     rw[show cX K n w=n by unfold cX;rw[H,decide_eq_false r,u,z,I];rfl];rw[show (w.2.2.2.2.2.1 != w.2.2.1)=true by unfold bne;rw[I];rfl];rfl
    |true =>
     have O:jR n w=true:=by rw[H,decide_eq_false r,u,z,I];rfl
     rw[show (w.2.2.2.2.2.1 != w.2.2.1)=false by unfold bne;rw[I];rfl];have Y:=(nd h.x r).2.2.2;have hn:=h.now1;have R:=rQ h.x hw O;simp only[cond_false];rw[show wr .i64 (wr .i64 (wr .i64 (n.2.2.2.2.2.1-n.2.2.2.2.2.2.2.2.2.2.1.2.1)*1000)+500)=(cg n-(aa.probe n).2.1)*1000+500 by
      obtain⟨p1,p2⟩:=Y;show wr .i64 (wr .i64 (wr .i64 (cg n-(aa.probe n).2.1)*1000)+500)=_;rw[aC (n:=cg n-_) (by omega) (by omega),aC (n:=_*1000) (by omega) (by omega),aC (by omega) (by omega)]]
     rw[di];simp only[FJ];refine (congrArg (λo=>FL o _) (BQ K (aa.places n) w.2.2.1 (aj.coord w) (gy n) n.1 h.x.places J)).trans ?_;simp only[FJ];rw[show cX K n w=oc n ((gI n w).foldl (nc K w) (aa.coord n)) (gI n w) by unfold cX;rw[O];rfl];show Q190.l0 K (n,w,()) (0,(aa.coord n).1,(aa.coord n).2.1,(aa.coord n).2.2.1,(aa.coord n).2.2.2,gI n w)=_;have hl:=plen R;refine lw (step:=λrec a=>Q190.s0 K (n,w,()) rec a) (gI n w) (nc K w) bX (λc i=>((i:Int),c.1,c.2.1,c.2.2.1,c.2.2.2,gI n w)) (λc=>some ((oc n c (gI n w),()),())) (aa.coord n) h.x.coord ?_ ?_ (by omega)
     ·intro rec c i X M;refine⟨?_,wt M J⟩;simp only[Q190.s0,zc00556,zcp8];rw[bt (by omega:(i:Int)<(FK (gI n w):Int)),FO,af X,ar i (by omega)];simp only[cond_true,FJ];have Z:=(R.1 _ (FV X)).2.2.2.2.1.2;generalize (gI n w)[i]=y at *;unfold nc;cases y.1==w.2.2.1 with
      |false=>rfl
      |true =>
       simp only[cond_true];refine (congrArg (λo=>FL o _) (Bc K y.2.2 (by omega) J)).trans ?_;refine (congrArg (λo=>FL o _) (uA K c (aj.coord w) (lA K y.2.2) w.2.2.2.2.1 M J).1).trans ?_;rfl
     ·intro rec c M;simp only[Q190.s0,zc00556,zcp8,aS,cond_false];rfl
theorem CH {K:Nat}{n:aa}{w:aj}(h:UpN n)(z:bX (aj.coord w))(r:1048577<K):UpN (cX K n w)/\(cX K n w).1=n.1/\(cX K n w).2.2.1=n.2.2.1:=by
 unfold cX;cases u:jR n w with
 |false=>exact⟨h,rfl,rfl⟩
 |true=>exact⟨h.heard (mW (Inv:=bX) h.x.coord λc p _ y=>wt y r) (rQ h.x z u),rfl,rfl⟩
def ge (n:aa)(w:aj):Prop:=n.2.1=true/\n.2.2.1=false/\w.2.2.2.1=n.1/\w.2.2.1≠n.1 /\
 (if w.1=2 then w.2.1=6/\ak w.2.2.1≠ak n.1/\(cn (aj.table w) (ak n.1)\/cn (aj.table w) (ak w.2.2.1)) else ak w.2.2.1=ak n.1/\(w.2.1≠6\/¬ cn (aj.table w) (ak n.1)))
theorem rR (K:Nat)(n:aa)(w:aj)(J:(aj.table w).length<=1048576)(I:1048577<K):Ret (Q160.f K (n,w,())) (ge n w):=by
 refine (Ret.cndN (P:=¬ n.2.1=true) (b:=!n.2.1) (by simp) λ_=>Ret.cndN (P:=n.2.2.1=true) (b:=n.2.2.1) Iff.rfl λ_=>Ret.cndN (P:=w.2.2.2.1≠n.1) (b:=w.2.2.2.1 != n.1) (by simp) λ_=>Ret.cndN (P:=w.2.2.1=n.1) (b:=w.2.2.1==n.1) (by simp) λ_ =>
  (?_:Ret _ (if w.1=2 then w.2.1=6/\ak w.2.2.1≠ak n.1/\(cn (aj.table w) (ak n.1)\/cn (aj.table w) (ak w.2.2.1)) else ak w.2.2.1=ak n.1/\(w.2.1≠6\/¬ cn (aj.table w) (ak n.1))))).iff ?_
 ·refine Ret.vl (de K n.1) ?_;obtain⟨z,H,y⟩:=eo K (aj.table w) (ak n.1) J I;obtain⟨M,O,R⟩:=eo K (aj.table w) (ak w.2.2.1) J I;by_cases u:w.1=2
  ·rw[show (w.1==2)=true by simpa using u,if_pos u];refine Ret.cnd (P:=w.2.1=6) (b:=w.2.1==6) (by simp) λ_=>?_
   refine Ret.cnd (P:=ak w.2.2.1≠ak n.1) (b:=ak w.2.2.1 != ak n.1) (by simp) λ_=>Ret.vl H ?_
   cases z with
   |true=>exact Ret.yes (.inl (y.1 rfl))
   |false =>
    refine Ret.vl O ?_;exact Ret.of (b:=M) (R.trans ⟨.inr,λh=>h.resolve_left λh=>by have:=y.2 h;cases this⟩)
  ·rw[show (w.1==2)=false by simpa using u,if_neg u];refine Ret.cnd (P:=ak w.2.2.1=ak n.1) (b:=ak w.2.2.1==ak n.1) (by simp) λ_=>?_
   by_cases r:w.2.1=6
   ·show Ret (bif w.2.1 != 6 then _ else _) _;rw[show (w.2.1 != 6)=false by simpa using r];refine Ret.vl H (Ret.of (b:=!z) ?_);rw[GU,<- Gk,y];exact⟨.inr,λh=>h.resolve_left λh=>h r⟩
   ·show Ret (bif w.2.1 != 6 then _ else _) _;rw[show (w.2.1 != 6)=true by simpa using r];exact Ret.yes (.inl r)
 ·unfold ge;rw[GT,Gk,GT]
def qT (u:Int)(n:aa)(to y r:Int)(t:List ah):aj:=(1,u,n.1,to,y,r,aa.coord n,t)
theorem qU (K:Nat)(n:aa)(u to y r:Int)(t:List ah)(z:t.length<=1048576):Q161.f K (n,u,to,y,r,t,())=some ((qT u n to y r t,()),()):=by
 simp only[Q161.f];rw[szb _ _ _ (by omega) (by show (FK ([]:List ah))+t.length<=_;simp;omega)];rfl
def ne (t:List ah)(s:Int):Bool:=t.all λf=>ak f.1==s
theorem lB {t:List ah}{s:Int}:ne t s=true<->cn t s:=by simp[ne,cn]
def cz (t:List ah):ah:=(t.head?).getD (0,0,0,false)
def bN (n:aa)(w:aj):List ah:=fG (fg (aa.others n) (ak (cz (aj.table w)).1)) (aj.table w)
def xt (n:aa)(w:aj):aj:=(2,6,n.1,w.2.2.1,0,n.1,aa.coord n,bN n w)
def DE (n:aa)(w:aj):aa:=oa n (bD (λx:ch=>x.1) (ak (cz (aj.table w)).1,bN n w) (aa.others n))
def fw (n:aa)(w:aj):aa×List aj:=bif ne (aj.table w) (ak n.1) then (gB n (aj.table w) n.1,[]) else
 (DE n w,bif w.1==2&&decide (aj.table w≠bN n w) then [xt n w] else [])
theorem qW:∀ {fs t:List ah} {g:ah},g∈fG t fs->g∈t\/g∈fs
 |[],_,_,h=>.inl h
 |f::fs,t,g,h=>by
  rcases qW (fs:=fs) h with h|h
  ·have h:g∈(bZ t f).1:=h;rcases iF t f with e|e
   ·rw[e]at h;exact .inl h
   ·rw[e]at h;rcases bd.1 h with rfl|⟨h,_⟩
    ·exact .inr (by simp)
    ·exact .inl h
  ·exact .inr (by simp[h])
theorem qX:∀ {fs t:List ah} {g:ah},g∈t->∃ y∈fG t fs,y.1=g.1
 |[],_,g,h=>⟨g,h,rfl⟩
 |f::fs,t,g,h=>by
  obtain⟨J,H,r⟩:=nV (f:=f) h;obtain⟨z,I,u⟩:=qX (fs:=fs) H;exact⟨z,I,u.trans r⟩
theorem vM {t:List ah}(H:Asc (λg:ah=>g.1) t)(f:ah):∃ g∈(bZ t f).1,g.1=f.1:=by
 by_cases h:∃ g∈t,g.1=f.1
 ·obtain⟨g,r,e⟩:=h;obtain⟨u,y,z⟩:=nV (f:=f) r;exact⟨u,y,z.trans e⟩
 ·rw[iU λg r e=>h ⟨g,r,e⟩];exact⟨f,bd.2 (.inl rfl),rfl⟩
theorem lC {n:aa}{w:aj}(h:dn n.1 (aa.others n))(M:aE (aj.table w))(u:mS (aj.table w)):aE (bN n w)/\bN n w≠[]/\cn (bN n w) (ak (cz (aj.table w)).1):=by
 have z:=qd h (ak (cz (aj.table w)).1);refine⟨su z M.1,?_,?_⟩
 ·unfold bN;cases y:aj.table w with
  |nil=>rw[y]at u;exact u.elim
  |cons f l =>
   obtain⟨g,I,_⟩:=vM (f:=f) (t:=fg (aa.others n) (ak (cz (f::l)).1)) (by rw[y]at z;exact z.2);obtain⟨R,J,_⟩:=qX (fs:=l) I;exact List.ne_nil_of_mem J
 ·intro g r;rcases qW r with r|r
  ·rcases sn (l:=aa.others n) (s:=ak (cz (aj.table w)).1) with e|⟨x,O,H,e⟩
   ·rw[e]at r;cases r
   ·rw[e]at r;rw[<- H];exact (h.1 x O).2.2.2.2 g r
  ·cases y:aj.table w with
   |nil=>rw[y]at u;exact u.elim
   |cons f l =>
    rw[y]at u r;exact u g r
theorem wu {x:Int}(h:InP x 0 7):InP (ak x) 0 1:=by
 rw[jO h];obtain⟨r,u⟩:=h;constructor <;> omega
theorem uB {t:List ah}(r:mS t)(u:aE t):InP (cz t).1 0 7:=by
 cases t with
 |nil=>exact r.elim
 |cons f l=>exact (u.1 f (by simp)).1
theorem yV (K:Nat)(n:aa)(w:aj)(h:UpN n)(r:aE (aj.table w))(z:mS (aj.table w))(u:1048577<K):Q173.f K (n,w,())=some (((fw n w).1,(fw n w).2,()),()):=by
 simp only[Q173.f];rw[de K n.1];simp only[FJ];obtain⟨H,J,M⟩:=eo K (aj.table w) (ak n.1) (cf r) u;have O:ne (aj.table w) (ak n.1)=H:=by rw[GL,lB,M]
 unfold fw;rw[O];refine (congrArg (λo=>FL o _) J).trans ?_;simp only[rb,FJ];cases H with
 |true =>
  simp only[cond_true];refine (congrArg (λo=>FL o _) (wm K n (aj.table w) n.1 h.learns r.1 (cf r) h.x.me u)).trans rfl
 |false =>
  simp only[cond_false];obtain⟨I,X,Y⟩:=lC (n:=n) h.x.others r z;have y:idx (aj.table w) 0=some (cz (aj.table w)):=by
   cases R:aj.table w with
   |nil=>rw[R]at z;exact z.elim
   |cons f l=>rfl
  refine (congrArg (λo=>FL o _) y).trans ?_;simp only[FJ];rw[de K];simp only[FJ];refine (congrArg (λo=>FL o _) (yU K n (ak (cz (aj.table w)).1) (aj.table w) h.x.others r u)).trans ?_;simp only[FJ];refine (congrArg (λo=>FL o _) (sum_s K n (ak (cz (aj.table w)).1) (bN n w) h.x.others u)).trans ?_;simp only[FJ];cases w.1==2 with
  |false=>rfl
  |true =>
   simp only[cond_true,Bool.true_and];refine (congrArg (λo=>FL o _) (At K (aj.table w) (bN n w) (cf r) u)).trans ?_;simp only[rb,FJ];cases decide (aj.table w≠bN n w) with
   |false=>rfl
   |true =>
    simp only[cond_true];refine (congrArg (λo=>FL o _) (qU K (DE n w) 6 w.2.2.1 0 n.1 (bN n w) (cf I))).trans rfl
theorem xu {n:aa}{w:aj}(h:UpN n)(z:n.2.2.1=false)(y:aE (aj.table w))(r:mS (aj.table w)):UpN (fw n w).1/\(fw n w).1.1=n.1/\(fw n w).1.2.2.1=false:=by
 unfold fw;cases u:ne (aj.table w) (ak n.1) with
 |true=>exact jP h z y (lB.1 u) (fX.me h.x.me)
 |false =>
  obtain⟨I,J,M⟩:=lC (n:=n) h.x.others y r;refine⟨h.setOthers (xn h.x.others (wu (uB r y)) (λe=>?_) J I M),rfl,z⟩;have:cn (aj.table w) (ak n.1):=by
   cases H:aj.table w with
   |nil=>rw[H]at r;exact r.elim
   |cons f l=>rw[H]at r e;rw[<- e];exact r
  rw[lB.2 this]at u;cases u
noncomputable def er (K:Nat)(n:aa)(w:aj):aa×List aj :=
 bif w.2.1==1 then (bif ak w.2.2.2.2.2.1 != ak n.1 then (n,[]) else bif w.2.2.2.2.2.1==n.1 then (n,[]) else (jz n,[qT 2 (jz n) w.2.2.2.2.2.1 w.2.2.2.2.1 n.1 (iH n w.2.2.2.2.2.1)]))
 else bif w.2.1==3 then (bif ak w.2.2.2.2.2.1 != ak n.1 then (n,[]) else bif w.2.2.2.2.2.1==n.1 then (n,[]) else bif w.2.2.2.2.2.1==w.2.2.1 then (n,[]) else (jz n,[qT 1 (jz n) w.2.2.2.2.2.1 w.2.2.2.2.1 w.2.2.1 (iH n w.2.2.2.2.2.1)]))
 else bif w.2.1==4 then (n,[qT 5 n w.2.2.1 0 n.1 (aa.table n)]) else bif w.2.1==2 then (cX K n w,[]) else (n,[])
theorem Au (K:Nat)(n:aa)(w:aj)(h:UpN n)(z:bX (aj.coord w))(r:1048577<K):Q191.f K (n,w,())=some (((er K n w).1,(er K n w).2,()),()):=by
 simp only[Q191.f];rw[de K n.1];simp only[FJ];have u:=wo K n w.2.2.2.2.2.1 h.x.say r;have y:=cf (o6 h.x.say w.2.2.2.2.2.1);unfold er;cases w.2.1==1 with
 |true =>
  simp only[cond_true];rw[de K];simp only[FJ];cases ak w.2.2.2.2.2.1 != ak n.1 with
  |true=>rfl
  |false =>
   simp only[cond_false];cases w.2.2.2.2.2.1==n.1 with
   |true=>rfl
   |false =>
    simp only[cond_false];refine (congrArg (λo=>FL o _) u).trans ?_;simp only[FJ];refine (congrArg (λo=>FL o _) (qU K (jz n) 2 w.2.2.2.2.2.1 w.2.2.2.2.1 n.1 _ y)).trans rfl
 |false =>
  simp only[cond_false];cases w.2.1==3 with
  |true =>
   simp only[cond_true];rw[de K];simp only[FJ];cases ak w.2.2.2.2.2.1 != ak n.1 with
   |true=>rfl
   |false =>
    simp only[cond_false];cases w.2.2.2.2.2.1==n.1 with
    |true=>rfl
    |false =>
     simp only[cond_false];cases w.2.2.2.2.2.1==w.2.2.1 with
     |true=>rfl
     |false =>
      simp only[cond_false];refine (congrArg (λo=>FL o _) u).trans ?_;simp only[FJ];refine (congrArg (λo=>FL o _) (qU K (jz n) 1 w.2.2.2.2.2.1 w.2.2.2.2.1 w.2.2.1 _ y)).trans rfl
  |false =>
   simp only[cond_false];cases w.2.1==4 with
   |true=>exact (congrArg (λo=>FL o _) (qU K n 5 w.2.2.1 0 n.1 (aa.table n) (cf h.x.table))).trans rfl
   |false =>
    simp only[cond_false];cases w.2.1==2 with
    |true=>exact (congrArg (λo=>FL o _) (ack_s K n w h z r)).trans rfl
    |false=>rfl
theorem yW {K:Nat}{n:aa}{w:aj}(h:UpN n)(u:bX (aj.coord w))(r:1048577<K):UpN (er K n w).1/\(er K n w).1.1=n.1/\(er K n w).1.2.2.1=n.2.2.1:=by
 unfold er;cases w.2.1==1 <;> cases w.2.1==3 <;> cases w.2.1==4 <;> cases w.2.1==2 <;> cases ak w.2.2.2.2.2.1 != ak n.1 <;> cases w.2.2.2.2.2.1==n.1 <;> cases w.2.2.2.2.2.1==w.2.2.1 <;> first|exact⟨h,rfl,rfl⟩|exact⟨h.way,rfl,rfl⟩|exact CH h u r
open Classical in
noncomputable def bO (K:Nat)(n:aa)(w:aj):aa×List aj :=
 if dz w/\ge n w then (if w.2.1=6 then fw n w else er K (gB n (aj.table w) w.2.2.1) w) else (n,[])
theorem jC {n:aa}{w:aj}(H:dz w)(h:ge n w)(u:w.2.1≠6):cn (aj.table w) (ak n.1)/\fX n w.2.2.1:=by
 obtain⟨_,_,w3,_,_,_,_,_,z⟩:=H;rw[if_neg u]at z;obtain⟨_,_,_,_,r⟩:=h;by_cases y:w.1=2
 ·rw[if_pos y]at r;exact absurd r.1 u
 ·rw[if_neg y]at r;exact⟨r.1 ▸ z,w3,r.1⟩
theorem yX (K:Nat)(n:aa)(w:aj)(h:n.2.1=true->UpN n)(J:(aj.table w).length<=1048576)(y:1048577<K):Q192.f K (n,w,())=some (((bO K n w).1,(bO K n w).2,()),()):=by
 simp only[Q192.f];obtain⟨Y,e1,M⟩:=mT K w J y;obtain⟨Z,e2,O⟩:=rR K n w J y;rw[e1];cases Y with
 |false =>
  unfold bO;rw[if_neg λh=>by have:=M.2 h.1;cases this];rfl
 |true =>
  have z:=M.1 rfl;simp only[rb,FJ,FR,cond_false];refine (congrArg (λo=>FL o _) e2).trans ?_;cases Z with
  |false =>
   unfold bO;rw[if_neg λh=>by have:=O.2 h.2;cases this];rfl
  |true =>
   have H:=O.1 rfl;have I:=h H.1;simp only[rb,FJ,FR,cond_false];unfold bO;rw[if_pos ⟨z,H⟩];have r:=z.2.2.2.2.2.2.2.1;by_cases u:w.2.1=6
   ·rw[if_pos u,show (w.2.1==6)=true by simpa using u];have X:=z.2.2.2.2.2.2.2.2;rw[if_pos u]at X;exact (congrArg (λo=>FL o _) (yV K n w I r X y)).trans rfl
   ·rw[if_neg u,show (w.2.1==6)=false by simpa using u];obtain⟨hs,R⟩:=jC z H u;have hl:=(jP I H.2.1 r hs R).1;refine (congrArg (λo=>FL o _) (wm K n (aj.table w) w.2.2.1 I.learns r.1 J R.1 y)).trans ?_;exact (congrArg (λo=>FL o _) (Au K _ w hl z.2.2.2.2.2.2.1 y)).trans rfl
theorem rS {K:Nat}{n:aa}{w:aj}(h:UpN n)(M:1048577<K):UpN (bO K n w).1/\(bO K n w).1.1=n.1/\(bO K n w).1.2.2.1=n.2.2.1:=by
 unfold bO;split
 ·rename_i R;obtain⟨y,r⟩:=R;have u:=y.2.2.2.2.2.2.2.1;split
  ·rename_i H;have J:=y.2.2.2.2.2.2.2.2;rw[if_pos H]at J;rw[r.2.1];exact xu h r.2.1 u J
  ·rename_i H;obtain⟨X,O⟩:=jC y r H;have I:=jP h r.2.1 u X O;have z:=yW (w:=w) I.1 y.2.2.2.2.2.2.1 M;exact⟨z.1,z.2.1.trans I.2.1,z.2.2.trans (I.2.2.trans r.2.1.symm)⟩
 ·exact⟨h,rfl,rfl⟩
theorem nf {K:Nat}{n:aa}{w:aj}(h:UpN n)(hK:1048577<K):(bO K n w).2.length<=1/\∀ x∈(bO K n w).2,InP x.2.2.2.1 0 7/\(aj.table x).length<=1048576:=by
 unfold bO;split
 ·rename_i X;obtain⟨u,I⟩:=X;have y:=u.2.2.2.2.2.2.2.1;split
  ·rename_i z;have J:=u.2.2.2.2.2.2.2.2;rw[if_pos z]at J;obtain⟨O,a2,a3⟩:=lC (n:=n) h.x.others y J;unfold fw;cases ne (aj.table w) (ak n.1) with
   |true=>exact⟨by simp,by simp⟩
   |false =>
    simp only[cond_false];cases w.1==2&&decide (aj.table w≠bN n w) with
    |false=>exact⟨by simp,by simp⟩
    |true=>exact⟨by simp,λx r=>by rw[FQ.1 r];exact⟨u.2.2.1,cf O⟩⟩
  ·rename_i z;obtain⟨Y,R⟩:=jC u I z;have M:=jP h I.2.1 y Y R;have Z:=cf (o6 M.1.x.say w.2.2.2.2.2.1);have H:=cf M.1.x.table;have w3:=u.2.2.1;have w6:=u.2.2.2.2.2.1;generalize gB n (aj.table w) w.2.2.1=m at *;unfold er;cases w.2.1==1 <;> cases w.2.1==3 <;> cases w.2.1==4 <;> cases w.2.1==2 <;> cases ak w.2.2.2.2.2.1 != ak m.1 <;> cases w.2.2.2.2.2.1==m.1 <;> cases w.2.2.2.2.2.1==w.2.2.1 <;>
    first|exact⟨GD _,λx r=>by rw[FQ.1 r];exact⟨w6,Z⟩⟩|exact⟨GD _,λx r=>by rw[FQ.1 r];exact⟨w3,H⟩⟩|exact⟨F4 _,λx r=>nomatch r⟩
 ·exact⟨by simp,by simp⟩
structure lR (n m:aa):Prop where
 ok:cH m
 me:m.1=n.1
 now_:m.2.2.2.2.2.1=n.2.2.2.2.2.1
 seq:m.2.2.2.2.2.2.1=n.2.2.2.2.2.2.1
 turn:m.2.2.2.2.2.2.2.1=n.2.2.2.2.2.2.2.1
 rest:m.2.2.2.2.2.2.2.2.2.2.2.2=n.2.2.2.2.2.2.2.2.2.2.2.2
 by_:∀ d∈aa.doubts m,d.2.2.2.length<=1048576
theorem lR.say {n m:aa}(h:lR n m){f:ah}(b:Int)(I:bw f):lR n (sayOf m f b):=by
 obtain⟨u,_,_,_,_,y,z,H,_,r⟩:=jy m f b;exact⟨iV h.ok I,u.trans h.me,y.trans h.now_,z.trans h.seq,H.trans h.turn,r.trans h.rest,Ab h.by_⟩
theorem lR.setP {n m:aa}(h:lR n m)(p:ah):lR n (setP m p):=⟨h.ok.setP p,h.me,h.now_,h.seq,h.turn,h.rest,h.by_⟩
theorem lR.nb {n m:aa}(h:lR n m)(u:NB n):NB m:=by
 have z:aa.places m=aa.places n:=congrArg (λr=>r.2.1) h.rest;have y:aa.others m=aa.others n:=congrArg (λr=>r.2.2) h.rest;exact⟨h.ok.lt,h.ok.lc,h.ok.ld,h.by_,by rw[z];exact u.places,by rw[z];exact u.trips,by rw[y];exact u.others,by rw[y];exact u.facts⟩
theorem lR.far {n m:aa}(h:lR n m)(u:o7 n):o7 m:=by
 have y:aa.others m=aa.others n:=congrArg (λr=>r.2.2) h.rest;exact⟨by rw[y];exact u.short,by rw[y];exact u.table⟩
theorem El {n:aa}(h:lR n n)(z:∀ d∈aa.doubts n,∃ f∈aa.table n,f.1=d.1):lR n (la n)/\aa.probe (la n)=aa.probe n:=by
 have:=mW (st:=iW) (Inv:=λm=>qL (aa.doubts n) n.2.2.2.2.2.1 m/\lR n m/\aa.probe m=aa.probe n) (ds:=aa.doubts n) (n:=n) ⟨⟨h.ok,z,rfl⟩,h,rfl⟩ (λm d u r=>by
  refine⟨vE r.1 u,?_⟩;unfold iW;cases rI m.2.2.2.2.2.1 d.2.2.1 d.2.2.2.length with
  |false=>exact r.2
  |true =>
   have y:=wk (eP r.1.ok.table (r.1.key d u)).1;exact⟨r.2.1.say _ y,(jy m _ _).2.2.2.2.2.2.2.2.1.trans r.2.2⟩)
 exact this.2
theorem Ef {n m:aa}(h:lR n m):lR n (dA m).1/\((aa.probe (dA m).1).1=-1\/(aa.probe (dA m).1).1=(aa.probe m).1)/\(dA m).2.length<=2/\∀ w∈(dA m).2,(aj.table w).length<=1048576:=by
 unfold dA;cases z:(aa.probe m).1==-1 with
 |true=>exact⟨h,.inr rfl,by simp,by simp⟩
 |false =>
  simp only[cond_false];cases u:eZ (aT (aa.table m) (aa.probe m).1) with
  |false=>exact⟨h.setP _,.inl rfl,by simp,by simp⟩
  |true =>
   have r:=eP h.ok.table (iG u);simp only[FR,cond_false];cases decide (m.2.2.2.2.2.1-(aa.probe m).2.1>=4) with
   |true =>
    simp only[cond_true];cases (aT (aa.table m) (aa.probe m).1).2.2.1==1 with
    |true=>exact⟨(h.setP noP).say _ (BD r.1),.inl (congrArg (·.1) (jy (setP m noP) _ _).2.2.2.2.2.2.2.2.1),by simp,by simp⟩
    |false=>exact⟨h.setP _,.inl rfl,by simp,by simp⟩
   |false =>
    simp only[cond_false];cases decide (m.2.2.2.2.2.1-(aa.probe m).2.1>=2) with
    |false=>exact⟨h,.inr rfl,by simp,by simp⟩
    |true =>
     simp only[cond_true];cases (aa.probe m).2.2.2 with
     |true=>exact⟨h,.inr rfl,by simp,by simp⟩
     |false =>
      refine⟨h.setP _,.inr rfl,?_,λw y=>?_⟩
      ·show ((gi m).map (askW m)).length<=2;rw[GM];exact Ga _ _
      ·obtain⟨to,_,rfl⟩:=F5.1 y;exact F4 _
theorem Ew {n:aa}(z:o7 n)(y:(aa.table n).length<=1048576)(r:Int):(kR n r).length<=2/\∀ w∈kR n r,(aj.table w).length<=1048576:=by
 unfold kR;cases bz .i64 r 3==1 with
 |true =>
  simp only[cond_true,m8];cases mu n with
  |false=>exact⟨by simp,by simp⟩
  |true =>
   refine⟨?_,λw u=>?_⟩
   ·show ((([0,1]:List Int).filter (λs=>s != ak n.1)).map _).length<=2;rw[GM];exact GQ _ _
   ·obtain⟨s,_,rfl⟩:=F5.1 u;exact y
 |false =>
  simp only[cond_false];cases (bz .i64 r 3==3||decide (fW n=[])) with
  |true=>exact⟨by simp,by simp⟩
  |false =>
   simp only[cond_false];cases bz .i64 r 3==0 with
   |true =>
    refine⟨by simp,λw u=>?_⟩;rw[cond_true,FQ]at u;subst u;exact y
   |false =>
    simp only[cond_false,ut]
    match H:aa.others n with
    |[]=>exact⟨by simp,by simp⟩
    |x::_ =>
     refine⟨by simp,λw u=>?_⟩;rw[FQ]at u;subst u;exact (z.table x (by rw[H];simp)).2
def D7 (n:aa):aa:=(n.1,n.2.1,n.2.2.1,n.2.2.2.1,n.2.2.2.2.1,n.2.2.2.2.2.1+1,n.2.2.2.2.2.2)
theorem Em (K:Nat)(n:aa)(z:Int)(Y:NB n)(hP:ff n)(hu:n.2.1=true)(hg:n.2.2.1=false)(a6:¬ n.2.2.2.2.2.1>=999999)(hK:1048577<K) :
  ∃ (y:aa) (O:List aj),NB y/\O.length<=1048576/\(∀ w∈O,(aj.table w).length<=1048576)/\Q234.f K (n,z,())=some ((y,O,()),())/\Q138.f K (n,z,())=some ((O,()),(y,())):=by
 have hU:=hP.up hu;have hs:=hU.say;obtain⟨hT,_,_,_,a0,hD,_,_,hO⟩:=hU;obtain⟨⟨c5,c6⟩,⟨cu,cw⟩,⟨bn,cx⟩,⟨az,b0⟩,_⟩:=hP;have c3:=uq ⟨c5,c6⟩ hO;have a3:o7 n:=⟨by rcases c3 with e|⟨x,e⟩ <;> rw[e] <;> simp,λx hx=>⟨(hO.1 x hx).2.2.2.1,Y.facts x hx⟩⟩;have b9:lR (D7 n) (D7 n):=⟨⟨hs.table,hs.cast,hs.asc,hs.inp,hs.lt,hs.lc,hs.ld⟩,rfl,rfl,rfl,rfl,rfl,Y.by_⟩;have c1:NB (D7 n):=⟨Y.table,Y.cast,Y.doubts,Y.by_,Y.places,Y.trips,Y.others,Y.facts⟩;have bo:o7 (D7 n):=⟨a3.short,a3.table⟩;have a4:∀ d∈aa.doubts (D7 n),∃ f∈aa.table (D7 n),f.1=d.1:=λd hd=>by
  obtain⟨f,hf,e,_⟩:=(hD.1 d hd).1;exact⟨f,hf,e⟩
 have b6:∀ d∈aa.doubts (D7 n),0<=d.2.2.1/\d.2.2.1<=(D7 n).2.2.2.2.2.1/\d.2.2.2.length<=1048576:=λd hd=>by
  obtain⟨s0,s1⟩:=(hD.1 d hd).2.1;refine⟨s0,?_,Y.by_ d hd⟩;show d.2.2.1<=n.2.2.2.2.2.1+1;omega
 have b5:qL (aa.doubts (D7 n)) (D7 n).2.2.2.2.2.1 (D7 n):=⟨b9.ok,a4,rfl⟩;have a7:(D7 n).2.2.2.2.2.1<=1000000:=by show n.2.2.2.2.2.1+1<=1000000;omega
 have eD:=Ct K (D7 n) b5 b6 a7 hK;have eB:=EB K (D7 n) b5 b6 a7 hK;obtain⟨X,a2⟩:=El b9 a4;generalize la (D7 n)=m at eD eB X a2;have a2:aa.probe m=aa.probe n:=a2;have u:((aa.probe m).1=-1\/0<=(aa.probe m).1)/\0<=(aa.probe m).2.1/\(aa.probe m).2.1<=1000000:=by
  rw[a2];unfold dm at a0;split at a0
  ·rename_i h1;rw[a0];exact⟨.inl rfl,by show (0:Int)<=0;omega,by show (0:Int)<=1000000;omega⟩
  ·obtain⟨_,⟨f,hf,e⟩,⟨s0,s1⟩,_⟩:=a0;have:=(hT.1 f hf).1.1;exact⟨.inr (e ▸ this),s0,by omega⟩
 have c0:m.2.2.2.2.2.1=n.2.2.2.2.2.1+1:=X.now_;have eF:=Er K m X.ok u.2.1 u.2.2 (by omega) (by omega) hK;have eW:=λc2=>Cu K m X.ok c2 u.2.1 u.2.2 (by omega) (by omega) hK
 obtain⟨r,ad,ba,ay⟩:=Ef X;have Z:(aa.probe m).1=-1->dA m=(m,[]):=λh=>by unfold dA;rw[show ((aa.probe m).1==-1)=true by simpa using h];rfl
 generalize R:dA m=fo at eF eW r ad ba ay Z;obtain⟨H,cb⟩:=fo;simp only at eF eW r ad ba ay;have b4:∃ (y:aa) (O:List aj),Q129.f K (H,())=some ((O,()),(y,()))/\((aa.probe H).1=-1->Q227.f K (H,())=some ((y,O,()),()))/\((aa.probe H).1≠-1->y=H/\O=[])/\NB y/\o7 y/\aE (aa.table y)/\O.length<=1/\∀ w∈O,(aj.table w).length<=1048576:=by
  have J:=r.nb c1;have R:=r.far bo;by_cases I:(aa.probe H).1=-1
  ·obtain⟨y,O,e1,e2,h3⟩:=Es K H r.ok I (by rw[r.seq];exact bn) (by rw[r.seq];show n.2.2.2.2.2.2.1<=1000000;omega) (by rw[r.turn];exact az) (by rw[r.turn];exact b0) hK;refine⟨y,O,e2,λ_=>e1,λh=>absurd I h,?_⟩;rcases h3 with ⟨rfl,rfl⟩|⟨to,rfl,rfl⟩
   ·exact⟨J,R,r.ok.table,by simp,by simp⟩
   ·have M:=EC r.ok;refine⟨⟨M.lt,M.lc,M.ld,J.by_,J.places,J.trips,J.others,J.facts⟩,⟨R.short,R.table⟩,M.table,by simp,λw bl=>?_⟩;rw[FQ]at bl;subst bl;exact cf (o6 r.ok to)
  ·refine⟨H,[],?_,λh=>absurd h I,λ_=>⟨rfl,rfl⟩,J,R,r.ok.table,by simp,by simp⟩;simp only[Q129.f,Q129.pre];rw[show (H.2.2.2.2.2.2.2.2.2.2.1.1 != -1)=true by show ((aa.probe H).1 != -1)=true;simpa using I];rfl
 obtain⟨y,cc,eA,b1,aw,a1,a9,b3,cy,c4⟩:=b4;have b2:=EA K y z a1 a9 b3 hK;have eM:=CC K y z a9 b3 a1.table hK;obtain⟨bx,bb⟩:=Ew a9 a1.table z;generalize kR y z=cp at b2 eM bx bb;have a5:(n.1,n.2.1,n.2.2.1,n.2.2.2.1,n.2.2.2.2.1,wr .i64 (n.2.2.2.2.2.1+1),n.2.2.2.2.2.2)=D7 n:=by
  rw[aC (by omega) (by omega)];rfl
 refine⟨y,(cb++cc)++cp,a1,by simp only[FP];omega,λw M=>?_,?_,?_⟩
 ·simp only[FY]at M;rcases M with (M|M)|M
  ·exact ay w M
  ·exact c4 w M
  ·exact bb w M
 ·simp only[Q234.f,zcp4];rw[a5,hu,hg,decide_eq_false a6];simp only[FR,cond_false];rw[eD];simp only[FJ];by_cases I:(aa.probe m).1=-1
  ·obtain⟨rfl,rfl⟩:=Prod.mk.inj (Z I);rw[show decide (H.2.2.2.2.2.2.2.2.2.2.1.1>=0)=false from decide_eq_false (by show ¬ (aa.probe H).1>=0;omega),show decide (H.2.2.2.2.2.2.2.2.2.2.1.1<0)=true from decide_eq_true (by show (aa.probe H).1<0;omega)];simp only[cond_true,cond_false];rw[b1 I];simp only[FJ];rw[szw _ _ _ (by omega) (by simp only[FW];omega)];simp only[cond_true];rw[eM];simp only[FJ];rw[szw _ _ _ (by omega) (by simp only[FP,FW];omega)];rfl
  ·rw[show decide (m.2.2.2.2.2.2.2.2.2.2.1.1>=0)=true from decide_eq_true (by show (aa.probe m).1>=0;omega)];simp only[cond_true];rw[eW I];simp only[FJ];by_cases a8:(aa.probe H).1=-1
   ·rw[show decide (H.2.2.2.2.2.2.2.2.2.2.1.1<0)=true from decide_eq_true (by show (aa.probe H).1<0;omega)];simp only[cond_true];rw[b1 a8];simp only[FJ];rw[szw _ _ _ (by omega) (by omega)];simp only[cond_true];rw[eM];simp only[FJ];rw[szw _ _ _ (by omega) (by simp only[FP];omega)];rfl
   ·rw[show decide (H.2.2.2.2.2.2.2.2.2.2.1.1<0)=false from decide_eq_false (by show ¬ (aa.probe H).1<0;rcases ad with h|h <;> omega)];obtain⟨rfl,rfl⟩:=aw a8;simp only[cond_false];rw[eM];simp only[FJ];rw[szw _ _ _ (by omega) (by omega),GR];rfl
 ·simp only[Q138.f,zcp4,Q52.f];rw[a5,hu,hg,decide_eq_false a6];simp only[cond_true,FJ,GI,FR,cond_false];rw[eB];simp only[FJ];rw[eF];simp only[FJ];rw[eA];simp only[FJ];rw[szw _ _ _ (by omega) (by omega)];simp only[cond_true];rw[b2];simp only[FJ];rw[szw _ _ _ (by omega) (by simp only[FP];omega)];rfl
theorem Eb (K:Nat)(n y:aa)(z:List aj)(r:Int)(J:NB n)(u:Q50.f K (n,())=rb true)(I:Q138.f K (n,r,())=some ((z,()),(y,())))(H:1048577<K):Q141.f K (n,r,())=some ((y,z,()),()):=by
 simp only[Q141.f,Q140.f];rw[u];simp only[FJ,FR,cond_false];rw[Aa K n J H];simp only[FJ,Q139.f];rw[I];simp only[FJ,Q89.f];simp
theorem EE (K:Nat)(n:aa)(r:Int)(J:NB n)(I:1048577<K):∃ y:aa,∃ u:List aj,NB y/\u.length<=1048576/\(∀ w∈u,(aj.table w).length<=1048576)/\Q251.f K (n,r,())=some ((y,u,()),())/\Q141.f K (n,r,())=some ((y,u,()),()):=by
 obtain⟨b,Y,Z,h3⟩:=pm K n J I;cases b with
 |false =>
  refine⟨mV,[],vD,by simp,by simp,?_,?_⟩
  ·simp only[Q251.f];rw[Y];rfl
  ·simp only[Q141.f,Q140.f];rw[Z];rfl
 |true =>
  have hP:=h3.1 rfl;have z:=nS K n J I;have hb:∃ (y:aa) (u:List aj),NB y/\u.length<=1048576/\(∀ w∈u,(aj.table w).length<=1048576)/\Q234.f K (n,r,())=some ((y,u,()),())/\Q138.f K (n,r,())=some ((u,()),(y,())):=by
   by_cases H:n.2.1=true/\n.2.2.1=false/\¬ n.2.2.2.2.2.1>=999999
   ·exact Em K n r J hP H.1 H.2.1 H.2.2 I
   ·refine⟨n,[],J,by simp,by simp,?_,?_⟩
    ·simp only[Q234.f,zcp4];cases R:n.2.1 with
     |false=>rfl
     |true =>
      cases M:n.2.2.1 with
      |true=>rfl
      |false =>
       have:n.2.2.2.2.2.1>=999999:=by by_cases h:n.2.2.2.2.2.1>=999999;exact h;exact absurd ⟨R,M,h⟩ H
       rw[decide_eq_true this];rfl
    ·simp only[Q138.f,zcp4,Q52.f];cases R:n.2.1 with
     |false=>rfl
     |true =>
      cases M:n.2.2.1 with
      |true=>rfl
      |false =>
       have:n.2.2.2.2.2.1>=999999:=by by_cases h:n.2.2.2.2.2.1>=999999;exact h;exact absurd ⟨R,M,h⟩ H
       rw[decide_eq_true this];rfl
  obtain⟨y,u,hy,X,O,H,hi⟩:=hb;refine⟨y,u,hy,X,O,?_,Eb K n y u r J Z hi I⟩;simp only[Q251.f];rw[Y];simp only[FJ,FR,cond_false];rw[z];simp only[FJ];rw[H];simp only[FJ];rw[nS K y hy I];rfl
theorem vN {n:aa}(h:∀ k,k<8->¬ iK n k):jA n=none:=by
 unfold jA;rw[List.find?_eq_none];intro x u;obtain⟨k,r,rfl⟩:=F5.1 u;have:=h k (by simpa using r);unfold iK at this;simpa using this
theorem vO {n:aa}{k:Nat}(y:k<8)(r:iK n k)(h:∀ j,j<k->¬ iK n j):jA n=some (cQ n k):=by
 unfold jA;rw[List.find?_map,List.find?_range_eq_some.2 ⟨?_,by simpa using y,λj u=>?_⟩]
 ·rfl
 ·unfold iK at r;simpa using r
 ·have:=h j u;unfold iK at this;simpa[Classical.or_iff_not_imp_left]using this
theorem wv (K:Nat)(n:aa)(h:cH n)(X:uu n)(J:1048577<K):Q227.f K (n,())=some (((d9 n).1,(d9 n).2,()),()):=by
 obtain⟨⟨Y,Z⟩,⟨t0,t1⟩⟩:=X;obtain⟨to,M,H⟩:=BI K n h t0 t1 J;simp only[Q227.f,zcp4];rw[M];simp only[FJ,d9];by_cases r:kt n>=999999
 ·rw[decide_eq_true r,show decide (n.2.2.2.2.2.2.1>=999999)=true from decide_eq_true r];cases decide (to<0) <;> rfl
 ·rw[decide_eq_false r,show decide (n.2.2.2.2.2.2.1>=999999)=false from decide_eq_false r];simp only[cond_false];rcases H with ⟨rfl,z⟩|⟨k,O,u,y,rfl⟩
  ·rw[vN z];rfl
  ·rw[vO O u y];have R:0<=cQ n k/\cQ n k<8:=⟨Gn _ (by omega),Gf _ (by omega)⟩;rw[decide_eq_false (by omega:¬ cQ n k<0)];simp only[cond_false];rw[wo K n _ h J];simp only[FJ];have I:wr .i64 (kt n+1)=kt n+1:=aC (by omega) (by omega);rw[show wr .i64 ((jz n).2.2.2.2.2.2.1+1)=n.2.2.2.2.2.2.1+1 from I,aC (n:=cQ n k+1) (by omega) (by omega)];simp only[Q161.f];rw[szb _ _ _ (by omega) (by have:=cf (o6 h (cQ n k));simp;omega)];rfl
def iL (w:aj):Prop:=InP w.2.2.2.1 0 7/\(aj.table w).length<=1048576
theorem uC {n:aa}(y:aE (aa.table n)):(dA n).2.length<=2/\∀ w∈(dA n).2,iL w:=by
 have r:([]:List aj).length<=2/\∀ w∈([]:List aj),iL w:=⟨by simp,by simp⟩;unfold dA;cases (aa.probe n).1==-1 with
 |true=>exact r
 |false =>
  cases !eZ (aT (aa.table n) (aa.probe n).1) with
  |true=>exact r
  |false =>
   cases decide (n.2.2.2.2.2.1-(aa.probe n).2.1>=4) with
   |true=>exact r
   |false =>
    cases decide (n.2.2.2.2.2.1-(aa.probe n).2.1>=2) with
    |false=>exact r
    |true =>
     cases !(aa.probe n).2.2.2 with
     |false=>exact r
     |true =>
      simp only[cond_true,cond_false];refine⟨by rw[GM];exact Ga _ _,λw H=>?_⟩;obtain⟨to,u,rfl⟩:=F5.1 H;obtain⟨f,z,rfl⟩:=F5.1 (GJ u);exact⟨(y.1 f (GN.1 z).1).1,F4 _⟩
theorem Bd {n:aa}(h:cH n):(d9 n).2.length<=1/\∀ w∈(d9 n).2,iL w:=by
 have r:([]:List aj).length<=1/\∀ w∈([]:List aj),iL w:=⟨by simp,by simp⟩;unfold d9;cases decide (kt n>=999999) with
 |true=>exact r
 |false =>
  simp only[cond_false];cases H:jA n with
  |none=>exact r
  |some to =>
   refine⟨by simp,λw z=>?_⟩;rw[FQ.1 z];obtain⟨u,y,I⟩:=eP h.table (iG (sA H).2);exact⟨y ▸ u.1,cf (o6 h to)⟩
theorem CI {n:aa}(z:dn n.1 (aa.others n)){s d:Int}(I:InP s 0 1):InP (m7 n s d) 0 7:=by
 unfold m7;cases y:decide (gr (fg (aa.others n) s)≠[])&&bz .i64 d 4==0 with
 |true =>
  rw[GA,decide_eq_true_eq]at y;have:=(iY (d:=GX d (2 ^ 3)) y.1).2.2;unfold gr at this;obtain⟨f,H,e⟩:=F5.1 (GJ this);simp only[cond_true];show InP (iu (gr (fg (aa.others n) s)) (GX d (2 ^ 3))) 0 7;unfold gr;rw[<- e];exact ((qd z s).1 f (GN.1 H).1).1
 |false =>
  obtain⟨r,u⟩:=mt (a:=GX d (2 ^ 3)) (m:=3) (by omega);have r:0<=bz .i64 (GX d (2 ^ 3)) 3:=r;have u:bz .i64 (GX d (2 ^ 3)) 3<=3:=u;obtain⟨J,M⟩:=I;simp only[cond_false];exact⟨by omega,by omega⟩
theorem ww {n:aa}(I:aE (aa.table n))(J:dn n.1 (aa.others n))(r:Int):(kR n r).length<=2/\∀ w∈kR n r,iL w:=by
 have u:([]:List aj).length<=2/\∀ w∈([]:List aj),iL w:=⟨by simp,by simp⟩;unfold kR;cases bz .i64 r 3==1 with
 |true =>
  simp only[cond_true,m8];cases mu n with
  |false=>exact u
  |true =>
   refine⟨?_,λw H=>?_⟩
   ·show ((([0,1]:List Int).filter (λs=>s != ak n.1)).map _).length<=2;rw[GM];exact GQ _ _
   ·obtain⟨s,R,rfl⟩:=F5.1 H;refine⟨CI J ?_,cf I⟩;have:=(GN.1 R).1;simp at this;rcases this with rfl|rfl <;> exact⟨by decide,by decide⟩
 |false =>
  simp only[cond_false];by_cases y:fW n=[]
  ·rw[decide_eq_true y,Bool.or_true];exact u
  ·rw[decide_eq_false y,Bool.or_false];obtain⟨f,M,e⟩:=F5.1 (iY (d:=GX r (2 ^ 2)) y).2.2;have z:InP (iu (fW n) (GX r (2 ^ 2))) 0 7:=by
    rw[<- e];exact (I.1 f (GN.1 M).1).1
   cases bz .i64 r 3==3 with
   |true=>exact u
   |false =>
    simp only[cond_false];cases bz .i64 r 3==0 with
    |true=>exact⟨by simp,λw H=>by rw[FQ.1 H];exact⟨z,cf I⟩⟩
    |false =>
     simp only[cond_false,ut]
     match O:aa.others n with
     |[]=>exact u
     |x::_=>exact⟨by simp,λw H=>by rw[FQ.1 H];exact⟨z,cf (J.1 x (by rw[O];simp)).2.2.2.1⟩⟩
theorem UpX.far {n:aa}(h:UpX n):o7 n:=⟨by rcases uq h.me h.others with e|⟨x,e⟩ <;> rw[e] <;> simp,λx r=>⟨(h.others.1 x r).2.2.2.1,cf (h.others.1 x r).2.2.2.1⟩⟩
theorem sG {n:aa}(h:UpX n)(I:cg n<=1000000):((aa.probe n).1=-1\/0<=(aa.probe n).1)/\0<=(aa.probe n).2.1/\(aa.probe n).2.1<=1000000:=by
 have r:=h.probe;have y:cg n=n.2.2.2.2.2.1:=rfl;unfold dm at r;split at r
 ·rename_i H;rw[r];exact⟨.inl rfl,by show (0:Int)<=0;omega,by show (0:Int)<=1000000;omega⟩
 ·obtain⟨_,⟨f,u,e⟩,⟨z,J⟩,_⟩:=r;have:=(h.table.1 f u).1.1;exact⟨.inr (e ▸ this),z,by omega⟩
theorem CJ {n:aa}(h:UpN n)(H:cg n<999999)(r:Int):(qP n r).length<=5/\∀ w∈qP n r,iL w:=by
 have O:=(nZ h.x.later (show dt (eE n) from h.self)).1.table;obtain⟨y,J⟩:=uC O;obtain⟨M,_,_⟩:=qQ h H;have z:=(rN h H).1;obtain⟨X,I⟩:=ww z.x.table z.x.others r;have R:(fY (fZ n).1).2.length<=1/\∀ w∈(fY (fZ n).1).2,iL w:=by
  unfold fY;cases (aa.probe (fZ n).1).1==-1 with
  |true=>exact Bd M.x.say
  |false=>exact⟨by simp,by simp⟩
 unfold qP;have y:(fZ n).2.length<=2:=y;refine⟨by rw[FP,FP];omega,λw u=>?_⟩;rcases FY.1 u with u|u
 ·rcases FY.1 u with u|u
  ·exact J w u
  ·exact R.2 w u
 ·exact I w u
theorem CK (K:Nat)(n:aa)(H:Int)(h:UpN n)(hg:n.2.2.1=false)(hm:cg n<999999)(X:1048577<K):Q234.f K (n,H,())=some ((ly n,qP n H,()),()):=by
 have a3:=h.x.now0;simp only[Q234.f,zcp4];refine (congrArg (λb=>bif !b then _ else _) h.up).trans ?_;refine (congrArg (λb=>bif b then _ else _) hg).trans ?_;refine (congrArg (λb=>bif b then _ else _) (decide_eq_false (show ¬ n.2.2.2.2.2.1>=999999 by have:cg n=n.2.2.2.2.2.1:=rfl;omega))).trans ?_;simp only[cond_false];rw[show wr .i64 (n.2.2.2.2.2.1+1)=n.2.2.2.2.2.1+1 from aC (by have:cg n=n.2.2.2.2.2.1:=rfl;omega) (by have:cg n=n.2.2.2.2.2.1:=rfl;omega)];have hl:UpX (eE n):=h.x.later;have a1:∀ d∈aa.doubts (eE n),0<=d.2.2.1/\d.2.2.1<=(eE n).2.2.2.2.2.1/\d.2.2.2.length<=1048576:=λd hd=>by
  obtain⟨_,⟨s0,s1⟩,_,h4⟩:=hl.doubts.1 d hd;exact⟨s0,s1,F1 (jx (k:=λx=>x) h4.2 λx hx=>(h4.1 x hx).1) (by decide)⟩
 have Y:∀ d∈aa.doubts (eE n),∃ f∈aa.table (eE n),f.1=d.1:=λd hd=>by
  obtain⟨⟨f,hf,e,_⟩,_⟩:=hl.doubts.1 d hd;exact⟨f,hf,e⟩
 have Z:(eE n).2.2.2.2.2.1<=1000000:=by show cg n+1<=1000000;omega
 refine (congrArg (λo=>FL o _) (Ct K (eE n) ⟨hl.say,Y,rfl⟩ a1 Z X)).trans ?_;simp only[FJ];obtain⟨b1,b2,t,c,ds,eb⟩:=nZ hl (show dt (eE n) from h.self);have z:uu (fZ n).1:=(qQ h hm).1.seq;have a2:cg (la (eE n))=cg n+1:=by rw[eb];rfl
 have hp:=sG b1 (by omega);obtain⟨a0,_⟩:=uC b1.table;have R:=(rN h hm).1;have r:=CC K (ly n) H R.x.far R.x.table (cf R.x.table) X;have u:=(qQ h hm).1;obtain⟨I,_⟩:=Bd u.x.say;obtain⟨y,_⟩:=ww R.x.table R.x.others H;unfold ly fY fZ at r R y;unfold fZ at z u I;unfold qP ly fY fZ;generalize la (eE n)=m at *;rcases hp.1 with J|J
 ·have e0:dA m=(m,[]):=by unfold dA;rw[show ((aa.probe m).1==-1)=true by simpa using J];rfl
  rw[e0]at r z u I y ⊢;refine (congrArg (λb=>bif b then _ else _) (decide_eq_false (show ¬ m.2.2.2.2.2.2.2.2.2.2.1.1>=0 by have:(aa.probe m).1=m.2.2.2.2.2.2.2.2.2.2.1.1:=rfl;omega))).trans ?_;refine (congrArg (λb=>bif b then _ else _) (decide_eq_true (show m.2.2.2.2.2.2.2.2.2.2.1.1<0 by have:(aa.probe m).1=m.2.2.2.2.2.2.2.2.2.2.1.1:=rfl;omega))).trans ?_;refine (congrArg (λo=>FL o _) (wv K m u.x.say z X)).trans ?_;simp only[FJ];rw[show ((aa.probe m).1==-1)=true by simpa using J]at r y ⊢;simp only[cond_true]at r y I ⊢;rw[szw _ _ _ (by omega) (by simp;omega)];simp only[cond_true];refine (congrArg (λo=>FL o _) r).trans ?_;simp only[FJ];rw[szw _ _ _ (by omega) (by simp;omega)];rfl
 ·refine (congrArg (λb=>bif b then _ else _) (decide_eq_true (show m.2.2.2.2.2.2.2.2.2.2.1.1>=0 from J))).trans ?_;refine (congrArg (λo=>FL o _) (Cu K m b1.say (by omega) hp.2.1 hp.2.2 b1.now0 (by have:cg m=m.2.2.2.2.2.1:=rfl;omega) X)).trans ?_;simp only[FJ];generalize dA m=fo at *;obtain⟨O,ws⟩:=fo;simp only at r z u I y a0 ⊢;have M:=(sG u.x (by have:=u.now1;omega)).1;rcases M with M|M
  ·refine (congrArg (λb=>bif b then _ else _) (decide_eq_true (show O.2.2.2.2.2.2.2.2.2.2.1.1<0 by have:(aa.probe O).1=O.2.2.2.2.2.2.2.2.2.2.1.1:=rfl;omega))).trans ?_;refine (congrArg (λo=>FL o _) (wv K O u.x.say z X)).trans ?_;simp only[FJ];rw[show ((aa.probe O).1==-1)=true by simpa using M]at r y ⊢;simp only[cond_true]at r y ⊢;rw[szw _ _ _ (by omega) (by omega)];simp only[cond_true];refine (congrArg (λo=>FL o _) r).trans ?_;simp only[FJ];rw[szw _ _ _ (by omega) (by rw[FP];omega)];rfl
  ·refine (congrArg (λb=>bif b then _ else _) (decide_eq_false (show ¬ O.2.2.2.2.2.2.2.2.2.2.1.1<0 by have:(aa.probe O).1=O.2.2.2.2.2.2.2.2.2.2.1.1:=rfl;omega))).trans ?_;rw[show ((aa.probe O).1==-1)=false by simp;omega]at r y ⊢;simp only[cond_false]at r y ⊢;refine (congrArg (λo=>FL o _) r).trans ?_;simp only[FJ,GR];rw[szw _ _ _ (by omega) (by omega)];rfl
theorem uD (K:Nat)(l:List ah)(f:ah)(M:l.length<=1048576)(J:1048577<K):Ret (Q214.f K (l,f,())) (f∈l):=by
 have:=cG (step:=λrec a=>Q214.s0 K (l,f,()) rec a) l.length (λi=>(i:Int)) (λj=>∃ h:j<l.length,l[j]=f) (rb false) (λ_=>rb true) ?_ ?_ l.length K 0 (by omega) (by omega)
 ·rcases this with ⟨y,r⟩|⟨j,_,_,⟨z,H⟩,_,r⟩
  ·refine⟨false,r,?_⟩;refine⟨λh=>absurd h (by decide),λI=>?_⟩;obtain⟨i,u,e⟩:=F8 I;exact absurd ⟨u,e⟩ (y i (F4 _) u)
  ·exact⟨true,r,λ_=>H ▸ FV z,λ_=>rfl⟩
 ·intro rec i u;simp only[Q214.s0];rw[bt (by omega:(i:Int)<(FK l:Int)),af u,ar i (by omega)];simp only[cond_true,FJ];rw[iE];by_cases h:l[i]=f
  ·rw[decide_eq_true h];exact .inr ⟨⟨u,h⟩,rfl⟩
  ·rw[decide_eq_false h];exact .inl ⟨λ⟨_,r⟩=>h r,rfl⟩
 ·intro rec;simp only[Q214.s0,aS];rfl
theorem UpN.nb {n:aa}(h:UpN n):NB n where
 table:=cf h.x.table
 cast:=by have:=clen h.x.say;omega
 doubts:=h.x.say.ld
 by_:=λd r=>by have:=(h.learns.by_ d r).len;omega
 places:=plen h.x.places
 trips:=λp u=>by have:=(h.x.places.1 p u).2.2.2.2.1.2;omega
 others:=olen h.x.others
 facts:=λx y=>cf (h.x.others.1 x y).2.2.2.1
def ka (r:Int)(g:Bool):aa:=(r,false,false,g,0,0,0,0,[],[],(0,0,0,false),[],(0,0,0,0),[],[])
structure eN (i:Nat) (n:aa):Prop where
 me:n.1=(i:Int)
 lt:i<8
 up:n.2.1=true->UpN n
 down:n.2.1=false->n=ka n.1 n.2.2.2.1
theorem eN.nb {i:Nat}{n:aa}(h:eN i n):NB n:=by
 cases r:n.2.1 with
 |true=>exact (h.up r).nb
 |false =>
  rw[h.down r];exact⟨by simp[ka,aa.table],by simp[ka,aa.cast],by simp[ka,aa.doubts],by simp[ka,aa.doubts],by simp[ka,aa.places],by simp[ka,aa.places],by simp[ka,aa.others],by simp[ka,aa.others]⟩
theorem eN.short {i:Nat}{n:aa}(h:eN i n):(aa.table n).length<=4:=by
 cases r:n.2.1 with
 |true=>exact vK (h.up r).x.table (h.up r).x.site
 |false=>rw[h.down r];exact F4 _
theorem eN.of {i:Nat}{n m:aa}(h:eN i n)(r:UpN m)(e:m.1=n.1):eN i m:=⟨e.trans h.me,h.lt,λ_=>r,λu=>by rw[r.up]at u;cases u⟩
def gC (l:List mr):Prop:=l.length<=60/\∀ f∈l,InP f.1 0 7/\f.2.1.size<=2000
structure WI (w:bY) (c:Nat):Prop where
 len:w.1.length=8
 node:∀ (i:Nat) (h:i<w.1.length),eN i w.1[i]
 radio:gC w.2.1
 sides:w.2.2.1.length=8
 born:w.2.2.2.length<=c
theorem WI.mono {w:bY}{c d:Nat}(h:WI w c)(r:c<=d):WI w d:=⟨h.len,h.node,h.radio,h.sides,F1 h.born r⟩
theorem WI.put {w:bY}{c:Nat}(h:WI w c){i:Nat}{n:aa}(y:eN i n){rd:List mr}(z:gC rd){b:List ah}{d:Nat}(r:b.length<=d):WI (w.1.set i n,rd,w.2.2.1,b) d:=by
 refine⟨by rw[F3];exact h.len,λj u=>?_,z,h.sides,r⟩;show eN j ((w.1.set i n)[j]'u);rw[List.getElem_set];split
 ·rename_i e;exact e ▸ y
 ·exact h.node j _
theorem yY (K:Nat)(w:bY)(J:Int)(u:List aj)(hs:w.2.2.1.length=8)(y:InP J 0 7)(R:∀ x∈u,iL x)(hr:gC w.2.1)(hl:u.length<=1000)(hK:1048577<K) :
  Tot (Q211.f K (w,J,u,())) λr=>∃ rd,gC rd/\r.1.1=(w.1,rd,w.2.2):=by
 simp only[Q211.f,Q211.pre];obtain⟨f0,f1⟩:=y;refine Tot.iter (step:=λrec a=>Q211.s0 K (w,J,u,()) rec a) (λa=>0<=a.1/\a.1<=u.length/\gC a.2) (λa=>u.length-a.1.toNat) ?_ K _ (by show u.length-FM 0<K;omega) ⟨by show (0:Int)<=0;omega,by show (0:Int)<=_;omega,hr⟩;rintro rec ⟨i,rd⟩ ⟨I,h1,H⟩ ih;simp only at I h1 H ih ⊢;simp only[Q211.s0];refine Tot.cnd (λh=>?_) λ_=>Tot.ret ⟨rd,H,rfl⟩
 have h:=of_decide_eq_true h;rw[aC (n:=i+1) (by omega) (by omega)];have M:∀ z,gC z->Tot (rec (i+1,z)) λr=>∃ rd,gC rd/\r.1.1=(w.1,rd,w.2.2):=λz O=>ih _ ⟨by show 0<=i+1;omega,by show i+1<=_;omega,O⟩ (by show u.length-FM (i+1)<u.length-FM i;omega)
 refine Tot.cnd (λh3=>?_) λ_=>M rd H
 have h3:=of_decide_eq_true h3;refine Tot.ix f0 (by omega) λ_ _ _=>Tot.ix I h λy2 X _=>?_
 obtain⟨⟨t0,t1⟩,_⟩:=R y2 X;refine Tot.ix t0 (by omega) λ_ _ _=>Tot.cnd (λ_=>Tot.fit (Tot.ix I h λy4 Y _=>Tot.ix I h λy5 Z _=>Tot.bind (pz K y5 (R y5 Z).2 hK) λv hv=>Tot.fit (M _ ⟨?_,λf y=>?_⟩) (by omega) ?_) (by omega) ?_) λ_=>M rd H
 ·simp;omega
 ·rcases FY.1 y with y|y
  ·exact H.2 f (by simpa using y)
  ·rw[FQ.1 y];exact⟨(R y4 Y).1,by show v.1.1.size<=2000;have:=hv.1;omega⟩
 ·simp;omega
 ·simp;omega
theorem Tot.ins {α:Type}{l:List α}{x:α}{a:Int}{c:Nat}{Q:(List α×Unit)×Unit->Prop}(u:0<=a)(y:a<=l.length)(H:l.length<=1048576)(z:c<=64)(k:∀ r:List α,r.length=l.length+1->Q ((r,()),())) :
  Tot (bif decide ((0:Int)<=0)&&decide (0<=a)&&decide (a<=(FK l:Int))&&true then (bif decide ((FK ([]:List α)+FK ((l.take (FM a)).drop (FM 0)))*c<=am) then (bif decide ((FK ([]++((l.take (FM a)).drop (FM 0)))+FK ([x]))*c<=am) then (bif decide (0<=a)&&decide (a<=(FK l:Int))&&decide ((FK l:Int)<=(FK l:Int))&&true then (bif decide ((FK (([]++((l.take (FM a)).drop (FM 0)))++([x]))+FK ((l.take (FM (FK l:Int))).drop (FM a)))*c<=am) then (some (((([]++((l.take (FM a)).drop (FM 0)))++([x]))++((l.take (FM (FK l:Int))).drop (FM a)),()),())) else none) else none) else none) else none) else none) Q:=by
 obtain⟨m,rfl⟩:=FZ u;refine Tot.must (by simp;omega) (Tot.fit (Tot.fit (Tot.must (by simp;omega) (Tot.fit (Tot.ret (k _ ?_)) (by omega) ?_)) (by omega) ?_) (by omega) ?_) <;>
 simp only[FO,F9,F2,FT,FP,FS,F0,FU,FW] <;> omega
theorem Av (K:Nat)(f g:ah):Tot (Q212.f K (f,g,())) λ_=>True:=by
 simp only[Q212.f];exact Tot.cnd (λ_=>Tot.ret trivial) λ_=>Tot.bind (tZ K g f).tot λ_ _=>Tot.ret trivial
theorem yZ (K:Nat)(l:List ah)(f:ah)(I:l.length<=1048576)(O:1048577<K):Tot (Q213.f K (l,f,())) λr=>r.1.1.length<=l.length+1:=by
 simp only[Q213.f,Q213.pre];refine Tot.iter (A:=Int) (step:=λrec a=>Q213.s0 K (l,f,()) rec a) (λa=>0<=a/\a<=l.length) (λa=>l.length-a.toNat) ?_ K _ (by show l.length-FM 0<K;omega) ⟨by show (0:Int)<=0;omega,by show (0:Int)<=_;omega⟩;rintro rec i ⟨H,z⟩ J;simp only[Q213.s0];have u:=λ (z:i<=l.length)=>Tot.ins (x:=f) (c:=32) (Q:=λr=>r.1.1.length<=l.length+1) H z I (by omega) λr R=>by show r.length<=_;omega
 have y:l.length<=l.length+1:=GY _;refine Tot.cnd (λh=>?_) λ_=>Tot.cnd (λh=>Tot.ix H (of_decide_eq_true h) λ_ _ _=>Tot.cnd (λ_=>Tot.ret y) λ_=>u z) λ_=>u z
 have h:i<(l.length:Int):=of_decide_eq_true h;rw[aC (n:=i+1) (by omega) (by omega)];refine Tot.ix H h λM _ _=>Tot.bind (Av K M f) λ_ _=>Tot.cnd (λ_=>J (i+1) ⟨by show 0<=i+1;omega,by show i+1<=(l.length:Int);omega⟩ (by show l.length-FM (i+1)<l.length-FM i;omega)) λ_=>Tot.cnd (λ_=>Tot.ix H h λ_ _ _=>Tot.cnd (λ_=>Tot.ret y) λ_=>u z) λ_=>u z
theorem Be (K:Nat)(w:bY)(z y u:List ah)(R:z.length<=1048576)(X:y.length<=1048576)(h3:u.length<=100)(hb:w.2.2.2.length<=1000000)(M:1048577<K) :
  Tot (Q215.f K (w,z,y,u,())) λr=>∃ b,b.length<=w.2.2.2.length+u.length/\r.1.1=(w.1,w.2.1,w.2.2.1,b):=by
 simp only[Q215.f,Q215.pre];refine Tot.iter (step:=λrec a=>Q215.s0 K (w,z,y,u,()) rec a) (λa=>0<=a.1/\a.1<=u.length/\(a.2.length:Int)<=w.2.2.2.length+a.1) (λa=>u.length-a.1.toNat) ?_ K _ (by show u.length-FM 0<K;omega) ⟨by show (0:Int)<=0;omega,by show (0:Int)<=_;omega,by show (w.2.2.2.length:Int)<=w.2.2.2.length+0;omega⟩;rintro rec ⟨i,b⟩ ⟨I,i1,i2⟩ O;simp only at I i1 i2 O ⊢;simp only[Q215.s0];refine Tot.cnd (λh=>?_) λ_=>Tot.ret ⟨b,by omega,rfl⟩
 have h:=of_decide_eq_true h;rw[aC (n:=i+1) (by omega) (by omega)];have J:∀ H:List ah,H.length<=b.length+1->Tot (rec (i+1,H)) λr=>∃ b,b.length<=w.2.2.2.length+u.length/\r.1.1=(w.1,w.2.1,w.2.2.1,b):=λH Y=>O _ ⟨by show 0<=i+1;omega,by show i+1<=_;omega,by show (H.length:Int)<=_+(i+1);omega⟩ (by show u.length-FM (i+1)<u.length-FM i;omega)
 refine Tot.ix I h λy1 _ _=>Tot.bind (uD K z y1 R M).tot λ_ _=>Tot.cnd (λ_=>?_) λ_=>J b (GY _)
 refine Tot.ix I h λy3 _ _=>Tot.bind (uD K y y3 X M).tot λ_ _=>Tot.cnd (λ_=>?_) λ_=>J b (GY _)
 exact Tot.ix I h λy5 _ _=>Tot.bind (yZ K b y5 (by omega) M) λv Z=>J v.1.1 Z
structure Bf (w:bY) (i:Nat) (n:aa) (ws:List aj) (heard:List ah) (c:Nat):Prop where
 wi:WI w c
 lt:i<8
 n:eN i n
 sent:∀ x∈ws,iL x
 wl:ws.length<=1000
 hl:heard.length<=1048576
 c:c<=1000000
theorem set_t (K:Nat)(w:bY)(i:Nat)(n:aa)(H:List aj)(u:List ah)(c:Nat)(h:Bf w i n H u c)(I:1048577<K):Tot (Q216.f K ((w,i),n,H,u,())) λr=>WI r.1.1 (c+4):=by
 simp only[Q216.f];have z:i<w.1.length:=by rw[h.wi.len];exact h.lt
 have O:=h.c;have M:=h.wi.born;have J:=h.n.short;rw[h.n.me];refine Tot.vl (af z) (Tot.vl (by rw[FO];exact af z) (Tot.vl (af z) (Tot.vl (by rw[FO];exact af z) ?_)));refine Tot.must (by simp) ?_;rw[FO];refine Tot.bind (Be K (w.1.set i n,w.2) (aa.table w.1[i]) u (aa.table n) (h.wi.node i z).nb.table h.hl (by omega) (by show w.2.2.2.length<=_;omega) I) ?_;rintro⟨⟨v,⟨⟩⟩,⟨⟩⟩ ⟨b,y,rfl⟩;refine Tot.bind (yY K (w.1.set i n,w.2.1,w.2.2.1,b) (i:Int) H h.wi.sides ⟨by omega,by have:=h.lt;omega⟩ h.sent h.wi.radio h.wl I) ?_;rintro⟨⟨v,⟨⟩⟩,⟨⟩⟩ ⟨rd,hr,rfl⟩;have y:b.length<=w.2.2.2.length+(aa.table n).length:=y;exact Tot.ret (h.wi.put h.n hr (by omega))
theorem CL (K:Nat)(w:bY)(i:Nat)(n:aa)(H:List aj)(u:List ah)(c:Nat)(h:Bf w i n H u c)(I:1048577<K):Tot (Q236.f K (w,n,H,u,())) λr=>WI r.1.1 (c+4):=by
 simp only[Q236.f];have z:i<w.1.length:=by rw[h.wi.len];exact h.lt
 have O:=h.c;have M:=h.wi.born;have J:=h.n.short;rw[h.n.me];refine Tot.vl (af z) (Tot.vl (by rw[FO];exact af z) (Tot.vl (af z) (Tot.vl (by rw[FO];exact af z) ?_)));rw[FO];refine Tot.bind (Be K (w.1.set i n,w.2) (aa.table w.1[i]) u (aa.table n) (h.wi.node i z).nb.table h.hl (by omega) (by show w.2.2.2.length<=_;omega) I) ?_;rintro⟨⟨v,⟨⟩⟩,⟨⟩⟩ ⟨b,y,rfl⟩;refine Tot.bind (yY K (w.1.set i n,w.2.1,w.2.2.1,b) (i:Int) H h.wi.sides ⟨by omega,by have:=h.lt;omega⟩ h.sent h.wi.radio h.wl I) ?_;rintro⟨⟨v,⟨⟩⟩,⟨⟩⟩ ⟨rd,hr,rfl⟩;have y:b.length<=w.2.2.2.length+(aa.table n).length:=y;exact Tot.ret (h.wi.put h.n hr (by omega))
theorem sH (K:Nat)(l:List mr)(at_:Int)(z:0<=at_)(H:at_<l.length)(y:gC l):Tot (Q210.f K (l,at_,())) λr=>gC r.1.1:=by
 have I:=y.1;obtain⟨m,rfl⟩:=FZ z;simp only[Q210.f];rw[ar m (by omega)];refine Tot.must (by simp;omega) (Tot.fit (Tot.must (by simp;omega) (Tot.fit (Tot.ret ⟨?_,λf u=>y.2 f ?_⟩) (by omega) ?_)) (by omega) ?_)
 ·simp only[FO,F9,F2,FT,FP,FS,F0];omega
 ·simp only[FO,F9,F2,FT,GB]at u;rcases FY.1 u with u|u
  ·exact GJ u
  ·exact List.mem_of_mem_drop u
 ·simp only[FO,F9,F2,FT,FP,FS,F0];omega
 ·simp only[FO,F9,F2,FT,FS,FW];omega
theorem sI (K:Nat)(w:bY)(c:Nat)(h:WI w c)(Z:c<=1000000)(to:Int)(t0:0<=to)(t1:to<=7)(x:aj)(X:dz x)(H:1048577<K){G:aa->aa->Option ((bY×Unit)×Unit)}
  (Y:∀ y:aa,G y y=(Q192.f K (y,x,())).bind λI=>(Q216.f K ((w,FM to),I.1.1,I.1.2.1,aj.table x,())).bind λR=>some ((R.1.1,()),())) :
  Tot ((idx w.1 to).bind λ_=>(idx w.1 (FM to:Nat)).bind λM=>(idx w.1 (FM to:Nat)).bind λO=>G M O) λr=>WI r.1.1 (c+4):=by
 obtain⟨i,rfl⟩:=FZ t0;have J:i<w.1.length:=by rw[h.len];omega
 have z:=h.node i J;refine Tot.vl (af J) (Tot.vl (by rw[FO];exact af J) (Tot.vl (by rw[FO];exact af J) ?_));rw[Y,yX K w.1[i] x z.up (cf X.2.2.2.2.2.2.2.1) H];simp only[FJ,FO];refine Tot.bind (set_t K w i _ _ _ c ⟨h,z.lt,?_,?_,?_,cf X.2.2.2.2.2.2.2.1,Z⟩ H) λv hv=>Tot.ret hv
 ·cases u:w.1[i].2.1 with
  |true=>exact z.of (rS (z.up u) H).1 (rS (z.up u) H).2.1
  |false =>
   rw[show bO K w.1[i] x=(w.1[i],[]) by unfold bO;rw[if_neg λh=>by have:=h.2.1;rw[u]at this;cases this]];exact z
 ·cases u:w.1[i].2.1 with
  |true=>exact λy hy=>(nf (z.up u) H).2 y hy
  |false =>
   rw[show bO K w.1[i] x=(w.1[i],[]) by unfold bO;rw[if_neg λh=>by have:=h.2.1;rw[u]at this;cases this]];simp
 ·cases u:w.1[i].2.1 with
  |true=>have:=(nf (w:=x) (z.up u) H).1;omega
  |false =>
   rw[show bO K w.1[i] x=(w.1[i],[]) by unfold bO;rw[if_neg λh=>by have:=h.2.1;rw[u]at this;cases this]];simp
theorem BS (K:Nat)(w:bY)(c:Nat)(h:WI w c)(hc:c<=1000000)(at_:Int)(keep:Bool)(h0:0<=at_)(h1:at_<w.2.1.length)(X:1048577<K):Tot (Q217.f K (w,at_,keep,())) λr=>WI r.1.1 (c+4):=by
 simp only[Q217.f,zcp8];refine Tot.ix2 h0 h1 λf hf _=>?_
 obtain⟨⟨t0,t1⟩,a0⟩:=h.radio.2 f hf;have hs:=h.sides;refine Tot.cnd (λ_=>Tot.bind (sH K w.2.1 at_ h0 h1 h.radio) ?_) λ_=>Tot.bind (na K f.2.1 (by omega) X) ?_
 ·rintro⟨⟨rd,⟨⟩⟩,⟨⟩⟩ hr;have J:WI (w.1,rd,w.2.2) (c+4):=⟨h.len,h.node,hr,h.sides,F1 h.born (by omega)⟩;refine Tot.bind (na K f.2.1 (by omega) X) ?_;rintro⟨⟨(x:aj),ok,⟨⟩⟩,⟨⟩⟩ H;refine Tot.cnd (λ_=>Tot.ret J) λZ=>?_
  have H:dz x:=H (by simpa using Z);obtain⟨I,Y⟩:=H.2.2.1;have M:x.2.2.1<(w.2.2.1.length:Int):=by rw[hs];omega
  refine Tot.ix2 I M λ_ _ _=>Tot.ix2 t0 (by omega) λ_ _ _=>Tot.cnd (λ_=>Tot.ret J) λ_=>Tot.cnd (λ_=>Tot.ret J) λ_=>?_
  exact sI K (w.1,rd,w.2.2) c ⟨h.len,h.node,hr,h.sides,h.born⟩ hc f.1 t0 t1 x H X (G:=λu O=>(Q192.f K ((u.1,(u.2.1,(u.2.2.1,(u.2.2.2.1,(u.2.2.2.2.1,(u.2.2.2.2.2.1,(u.2.2.2.2.2.2.1,(u.2.2.2.2.2.2.2.1,(u.2.2.2.2.2.2.2.2.1,(u.2.2.2.2.2.2.2.2.2.1,(u.2.2.2.2.2.2.2.2.2.2.1,(O.2.2.2.2.2.2.2.2.2.2.2.1,u.2.2.2.2.2.2.2.2.2.2.2.2)))))))))))),x,())).bind λz=>(Q216.f K (((w.1,rd,w.2.2),FM f.1),z.1.1,z.1.2.1,aj.table x,())).bind λR=>some ((R.1.1,()),())) λy=>rfl
 ·rintro⟨⟨(x:aj),ok,⟨⟩⟩,⟨⟩⟩ H;have J:WI w (c+4):=h.mono (by omega);refine Tot.cnd (λ_=>Tot.ret J) λZ=>?_
  have H:dz x:=H (by simpa using Z);obtain⟨I,Y⟩:=H.2.2.1;have M:x.2.2.1<(w.2.2.1.length:Int):=by rw[hs];omega
  refine Tot.ix2 I M λ_ _ _=>Tot.ix2 t0 (by omega) λ_ _ _=>Tot.cnd (λ_=>Tot.ret J) λ_=>Tot.cnd (λ_=>Tot.ret J) λ_=>?_
  exact sI K w c h hc f.1 t0 t1 x H X (G:=λu O=>(Q192.f K ((u.1,(u.2.1,(u.2.2.1,(u.2.2.2.1,(u.2.2.2.2.1,(u.2.2.2.2.2.1,(u.2.2.2.2.2.2.1,(u.2.2.2.2.2.2.2.1,(u.2.2.2.2.2.2.2.2.1,(u.2.2.2.2.2.2.2.2.2.1,(u.2.2.2.2.2.2.2.2.2.2.1,(O.2.2.2.2.2.2.2.2.2.2.2.1,u.2.2.2.2.2.2.2.2.2.2.2.2)))))))))))),x,())).bind λz=>(Q216.f K (((w.1,w.2),FM f.1),z.1.1,z.1.2.1,aj.table x,())).bind λR=>some ((R.1.1,()),())) λy=>rfl
theorem BT (K:Nat)(w:bY)(c:Nat)(h:WI w c)(at_ u:Int)(M:0<=at_)(O:at_<w.2.1.length):Tot (Q218.f K (w,at_,u,())) λr=>WI r.1.1 c:=by
 simp only[Q218.f];refine Tot.ix2 M O λf Z _=>?_
 obtain⟨J,I⟩:=h.radio.2 f Z;refine Tot.cnd (λ_=>Tot.ret h) λ_=>Tot.cnd (λ_=>Tot.ret h) λY=>?_
 have H:¬ (f.2.1.size:Int)=0:=by simpa using Y
 obtain⟨y,b1⟩:=mt (a:=u) (m:=4095) (by omega);have y:0<=bz .i64 u 4095:=y;have R:0<=GP (bz .i64 u 4095) (f.2.1.size:Int):=Gn _ y;have X:GP (bz .i64 u 4095) (f.2.1.size:Int)<((eS f.2.1).length:Int):=by rw[sD];exact Gf _ (by omega)
 refine Tot.not (decide_eq_false H) (Tot.ix2 R X λ_ _ _=>Tot.ix2 R X λ_ _ _=>Tot.ix2 M O λ_ _ _=>Tot.ret ⟨h.len,h.node,⟨?_,λg z=>?_⟩,h.sides,h.born⟩)
 ·show (w.2.1.set _ _).length<=60;rw[F3];exact h.radio.1
 ·rcases List.mem_or_eq_of_mem_set z with z|rfl
  ·exact h.radio.2 g z
  ·refine⟨J,?_⟩;show (ip _).size<=2000;rw[jB,F3,sD];exact I
def ng (i:Int)(g:Bool):aa:=(i,true,false,g,0,0,0,0,[(i,0,1,g)],[],(-1,0,0,false),[],(0,0,0,1500),[],[])
theorem BU {i:Int}{g:Bool}(h:InP i 0 7):UpN (ng i g):=by
 refine⟨⟨h,GC _,⟨λf r=>?_,List.pairwise_singleton _ _⟩,λf r=>?_,⟨λx y=>(nomatch y),List.Pairwise.nil⟩,λx y=>(nomatch y),?_,⟨λd z=>(nomatch z),List.Pairwise.nil,rfl⟩,⟨?_,?_,?_,?_⟩,⟨λp u=>(nomatch u),List.Pairwise.nil⟩,⟨λp u=>(nomatch u),List.Pairwise.nil⟩⟩,?_,?_,⟨?_,?_⟩,?_,rfl⟩
 ·rw[FQ.1 r];exact⟨h,⟨by show (0:Int)<=0;omega,by show (0:Int)<=999;omega⟩,by show (1:Int)<=1;omega,by show (1:Int)<=4;omega⟩
 ·rw[FQ.1 r];rfl
 ·unfold dm;rw[if_pos (show (aa.probe (ng i g)).1=-1 from rfl)];rfl
 ·exact⟨by show (-100000:Int)<=0;omega,by show (0:Int)<=100000;omega⟩
 ·exact⟨by show (-100000:Int)<=0;omega,by show (0:Int)<=100000;omega⟩
 ·exact⟨by show (0:Int)<=0;omega,by show (0:Int)<=100000;omega⟩
 ·exact⟨by show (1:Int)<=1500;omega,by show (1500:Int)<=1500;omega⟩
 ·exact FQ.2 rfl
 ·show (0:Int)<=999999;omega
 ·exact⟨by show (0:Int)<=0;omega,by show (0:Int)<=999999;omega⟩
 ·exact⟨by show (0:Int)<=0;omega,by show (0:Int)<=8;omega⟩
 ·exact⟨by show (0:Int)<=0;omega,by show (0:Int)<=999;omega⟩
theorem sJ (K:Nat)(i:Int)(g:Bool)(h:InP i 0 7):Q157.f K (i,g,())=some ((ng i g,()),()):=by
 simp only[Q157.f];obtain⟨b,e,r⟩:=cK K i 0 7;rw[e,r.2 h];rfl
theorem eN.new (i:Nat)(g:Bool)(h:i<8):eN i (ng (i:Int) g):=⟨rfl,h,λ_=>BU ⟨by omega,by omega⟩,λr=>by cases r⟩
theorem CM (K:Nat)(w:bY)(c:Nat)(h:WI w c)(M:c<=1000000)(u:Int)(y:InP u 0 7)(H:1048577<K):Tot (Q238.f K (w,u,())) λr=>WI r.1.1 (c+4):=by
 have J:=h.born;have I:u.toNat<8:=by obtain⟨a,b⟩:=y;omega
 have z:=h.len;simp only[Q238.f,Q146.f,FJ];rw[sJ K u _ y];simp only[FJ];refine Tot.ix2 y.1 (by have:=y.2;omega) λ_ _ _=>?_
 refine Tot.vl (show idx (ng u (decide (GP u 4<3))).2.2.2.2.2.2.2.2.1 0=some (u,0,1,decide (GP u 4<3)) from rfl) (Tot.bind (yZ K w.2.2.2 _ (by omega) H) λv O=>Tot.ret (h.put ?_ h.radio (by omega)));have:=eN.new u.toNat (decide (GP u 4<3)) I
 rwa [Gb y.1]at this
theorem BV (K:Nat)(n:aa)(w:aj)(hn:NB n)(u:(aj.table w).length<=1048576)(r:1048577<K):Ret (Q53.f K (n,w,())) (ff n/\dz w/\ge n w):=by
 obtain⟨O,e1,J⟩:=p8 K n hn r;obtain⟨R,e2,M⟩:=ub K w u r;simp only[Q53.f];rw[e1];cases O with
 |false=>exact⟨false,rfl,by simp only[Gg,false_iff];exact λh=>by have:=J.2 h.1;cases this⟩
 |true =>
  simp only[rb,FJ,FR,cond_false];rw[e2];cases R with
  |false=>exact⟨false,rfl,by simp only[Gg,false_iff];exact λh=>by have:=M.2 h.2.1;cases this⟩
  |true =>
   have hP:=J.1 rfl;have I:=M.1 rfl;simp only[rb,FJ,FR,cond_false];obtain⟨X,h3,y⟩:=(eo K (aj.table w) (ak n.1) u r).same (gq K (aj.table w) (ak n.1) u r) Iff.rfl;obtain⟨Y,h4,z⟩:=(eo K (aj.table w) (ak w.2.2.1) u r).same (gq K (aj.table w) (ak w.2.2.1) u r) Iff.rfl;obtain⟨Z,h5,H⟩:=nQ K n w.2.2.1;have h6:Z=(ak w.2.2.1==ak n.1):=by
    rw[GL,H,beq_iff_eq];exact⟨λh=>h.2,λh=>⟨I.2.2.1,h⟩⟩
   have hp:InP w.1 1 2:=I.1;obtain⟨b,e4,e5⟩:=rR K n w u r;refine⟨b,?_,e5.trans ⟨λh=>⟨hP,I,h⟩,λh=>h.2.2⟩⟩;rw[<- e4];simp only[Q160.f,Q52.f];rw[h5,de K n.1,de K w.2.2.1,ml K w.2.2.1,mm K n,h6];simp only[FJ];rw[h3,h4,z,y];simp only[FJ,bne];generalize (ak w.2.2.1==ak n.1)=c1;generalize (w.2.2.2.1==n.1)=c2;generalize (w.2.2.1==n.1)=c3;generalize (w.2.1==6)=c4;generalize n.2.1=c5;generalize n.2.2.1=c6;rcases (by omega:w.1=1\/w.1=2) with h|h <;> rw[h] <;> cases c1 <;> cases c2 <;> cases c3 <;> cases c4 <;> cases c5 <;> cases c6 <;> cases X <;> cases Y <;> rfl
theorem nh (K:Nat)(n u r:Int)(h:u<=r):Q69.f K (n,u,r,())=some ((iZ n u r,()),()):=by
 simp only[Q69.f,iZ];by_cases z:n<u
 ·rw[if_pos z,decide_eq_false (by omega:¬ r<n)];simp only[cond_false];rw[decide_eq_false (by omega:¬ u<n)];rfl
 ·rw[if_neg z];by_cases H:n>r
  ·rw[if_pos H,decide_eq_true (by omega:r<n)];simp only[cond_true];by_cases y:u<r
   ·rw[decide_eq_true y];rfl
   ·rw[decide_eq_false y];have:u=r:=by omega
    rw[this];rfl
  ·rw[if_neg H,decide_eq_false (by omega:¬ r<n)];simp only[cond_false];by_cases y:u<n
   ·rw[decide_eq_true y];rfl
   ·rw[decide_eq_false y];have:u=n:=by omega
    rw[this];rfl
theorem od {x:Int}(h:InP x (-1000000000) 1000000000):gb x=x:=by
 obtain⟨r,u⟩:=h;unfold gb;split
 ·omega
 ·split <;> omega
theorem uE {x:Int}(h:InP x (-200000) 200000):0<=x*x/\x*x<=40000000000/\(x*x=0->x=0):=by
 obtain⟨u,y⟩:=h;have e:x*x=((x.natAbs*x.natAbs:Nat):Int):=Int.natAbs_mul_self.symm;have r:x.natAbs<=200000:=by omega
 have:=Gq r r;refine⟨by omega,by omega,λh=>?_⟩;rcases Int.mul_eq_zero.1 h with h|h <;> exact h
theorem sK (K:Nat)(x y:Int)(J:InP x (-200000) 200000)(M:InP y (-200000) 200000)(I:1048577<K):∃ r:Int,0<=r/\r<=1000000/\(r=0->x=0/\y=0)/\Q182.f K (x,y,())=some ((r,()),())/\Q72.f K (x,y,())=some ((r,()),()):=by
 simp only[Q182.f,Q72.f];obtain⟨x1,x2,x3⟩:=uE J;obtain⟨y1,y2,y3⟩:=uE M;have u:InP x (-1000000000) 1000000000:=by obtain⟨a,b⟩:=J;exact⟨by omega,by omega⟩
 have z:InP y (-1000000000) 1000000000:=by obtain⟨a,b⟩:=M;exact⟨by omega,by omega⟩
 rw[kS K x,kS K y,rO K x,rO K y,od u,od z];simp only[FJ];generalize hA:x*x=a at *;generalize hB:y*y=b at *;have O:wr .i64 a=a:=aC (by omega) (by omega);have R:wr .i64 b=b:=aC (by omega) (by omega);have X:wr .i64 (a+b)=(((a+b).toNat:Nat):Int):=(aC (by omega) (by omega)).trans (by omega);rw[O,R,X];obtain⟨r,H,Z⟩:=yR K (a+b).toNat (by omega) I;obtain⟨s,s1,s2⟩:=CE K (a+b).toNat (by omega) I;have:r=s:=H.eq s1;subst this;rw[Z,s2];simp only[FJ];have hr:r<=1000000:=by
  rcases Nat.lt_or_ge r 1000001 with h|h
  ·omega
  ·have h1:=Gq h h;have h2:=H.1;omega
 rw[kS K r,rO K r,od ⟨by omega,by omega⟩];refine⟨(r:Int),by omega,by omega,λh=>?_,rfl,rfl⟩;have Y:r=0:=by omega
 subst Y;have:=H.2;exact⟨x3 (by omega),y3 (by omega)⟩
theorem zc (K:Nat)(c d:cW)(y:bX c)(z:bX d)(Z:1048577<K):∃ r:Int,0<=r/\r<=2000000/\Q183.f K (c,d,())=some ((r,()),())/\Q73.f K (c,d,())=some ((r,()),()):=by
 simp only[Q183.f,Q73.f];obtain⟨b,H,I⟩:=fu K c;obtain⟨u,J,M⟩:=ji K c;obtain rfl:b=true:=I.2 y;obtain rfl:u=true:=M.2 y;obtain⟨b,O,R⟩:=fu K d;obtain⟨u,X,Y⟩:=ji K d;obtain rfl:b=true:=R.2 z;obtain rfl:u=true:=Y.2 z;rw[H,J];simp only[rb,FJ,FR,cond_false];rw[O,X];simp only[rb,FJ,FR,cond_false];obtain⟨⟨c1,c2⟩,⟨c3,c4⟩,⟨c5,c6⟩,_⟩:=y;obtain⟨⟨d1,d2⟩,⟨d3,d4⟩,⟨d5,d6⟩,_⟩:=z;rw[aC (n:=c.1-d.1) (by omega) (by omega),aC (n:=c.2.1-d.2.1) (by omega) (by omega)];obtain⟨r,r1,r2,_,r4,r5⟩:=sK K (c.1-d.1) (c.2.1-d.2.1) ⟨by omega,by omega⟩ ⟨by omega,by omega⟩ Z;rw[r4,r5];simp only[FJ];rw[aC (n:=r+c.2.2.1) (by omega) (by omega),aC (n:=r+c.2.2.1+d.2.2.1) (by omega) (by omega)];exact⟨_,by omega,by omega,rfl,rfl⟩
def gM (w t:Int):Int:=GK ((w.natAbs:Int)*1000) t
theorem uF {w t:Int}(r:InP t 1 60000)(u:InP w (-3000000) 3000000):0<=gM w t/\gM w t<=3000000000:=by
 obtain⟨t1,t2⟩:=r;obtain⟨w1,w2⟩:=u;unfold gM;refine⟨Int.tdiv_nonneg (by omega) (by omega),?_⟩;rw[GG (by omega)];exact Int.ediv_le_of_le_mul (by omega) (by
  have:(3000000000:Int)*1<=3000000000*t:=Int.mul_le_mul_of_nonneg_left t1 (by decide);omega)
noncomputable def Bg (a b:cW)(w t:Int):Int:=iZ (wr .i64 (a.2.2.2+(wr .i64 (GK (wr .i64 (GK (wr .i64 ((wr .i64 (iZ (gM w t) 0 1500-a.2.2.2))*a.2.2.2)) (wr .i64 (a.2.2.2+b.2.2.2)))) 4)))) 1 1500
theorem err_s (K:Nat)(a b:cW)(w t:Int)(z:bX a)(H:bX b)(u:InP t 1 60000)(r:InP w (-3000000) 3000000):Q187.f K (a,b,w,t,())=some ((Bg a b w t,()),()):=by
 have Y:=uF u r;have J:=r;obtain⟨t1,t2⟩:=u;obtain⟨w1,w2⟩:=r;obtain⟨_,_,_,M,O⟩:=z;obtain⟨_,_,_,R,X⟩:=H;simp only[Q187.f,Q186.f];have I:¬ wr .i64 (a.2.2.2+b.2.2.2)=0:=by rw[aC (by omega) (by omega)];omega
 rw[decide_eq_false I,decide_eq_false (by omega:¬ t=0)];have y:(bif decide (w<0) then some ((wr .i64 (0-w),()),()) else some ((w,()),()))=some (((w.natAbs:Int),()),()):=by
  rw[aC (n:=0-w) (by omega) (by omega)];by_cases h:w<0
  ·rw[decide_eq_true h,show 0-w=(w.natAbs:Int) by omega];rfl
  ·rw[decide_eq_false h];have:w=(w.natAbs:Int):=by omega
   simp only[cond_false];rw[<- this]
 refine (congrArg (λo=>FL o _) y).trans ?_;simp only[FJ,cond_false];rw[aC (n:=(w.natAbs:Int)*1000) (by omega) (by omega)];show (Q177.f K (wr .i64 (gM w t),0,1500,())).bind _=_;rw[aC (n:=gM w t) (by omega) (by omega),di];simp only[FJ];rw[di];rfl
theorem err_i (K:Nat)(a b:cW)(w t:Int)(r:InP t 1 60000)(u:InP w (-3000000) 3000000):Q69.f K (wr .i64 (a.2.2.2+(wr .i64 (GK (wr .i64 (GK (wr .i64 ((wr .i64 ((bif decide (1500<(wr .i64 (GK (wr .i64 ((bif decide (w<(wr .i64 (0-w))) then wr .i64 (0-w) else w)*1000)) t))) then 1500 else wr .i64 (GK (wr .i64 ((bif decide (w<(wr .i64 (0-w))) then wr .i64 (0-w) else w)*1000)) t))-a.2.2.2))*a.2.2.2)) (wr .i64 (a.2.2.2+b.2.2.2)))) 4))),1,1500,())=some ((Bg a b w t,()),()):=by
 have H:=uF r u;obtain⟨t1,t2⟩:=r;obtain⟨w1,w2⟩:=u;have y:(bif decide (w<(wr .i64 (0-w))) then wr .i64 (0-w) else w)=(w.natAbs:Int):=by
  rw[aC (by omega) (by omega)];by_cases h:w<0-w
  ·rw[decide_eq_true h];simp only[cond_true];omega
  ·rw[decide_eq_false h];simp only[cond_false];omega
 rw[y,aC (n:=(w.natAbs:Int)*1000) (by omega) (by omega),show GK ((w.natAbs:Int)*1000) t=gM w t from rfl,aC (n:=gM w t) (by omega) (by omega)];have z:(bif decide (1500<gM w t) then 1500 else gM w t)=iZ (gM w t) 0 1500:=by
  unfold iZ;rw[if_neg (by omega)];by_cases h:gM w t>1500
  ·rw[if_pos h,decide_eq_true (by omega:1500<gM w t)];rfl
  ·rw[if_neg h,decide_eq_false (by omega:¬ 1500<gM w t)];rfl
 rw[z];exact nh K _ 1 1500 (by decide)
theorem CP (K:Nat)(a b:cW)(t s:Int)(H:bX a)(hK:1048577<K):Q74.f K (a,b,t,s,())=some ((lg K a b t s,()),()):=by
 refine Gu ?_ (uA K a b t s H hK).1;simp only[Q74.f,Q188.f];obtain⟨v,h1,h2⟩:=fu K a;obtain⟨v',h3,h4⟩:=ji K a;obtain rfl:v=true:=h2.2 H;obtain rfl:v'=true:=h4.2 H;obtain⟨v,h5,h6⟩:=fu K b;obtain⟨v',h7,h8⟩:=ji K b;obtain rfl:v=v':=by rw[GL,h6,h8]
 obtain⟨u,h9,R⟩:=cK K t 1 60000;obtain⟨u',a0,a3⟩:=eY K t 1 60000;obtain rfl:u=u':=by rw[GL,R,a3]
 rw[h1,h3];simp only[rb,FJ,FR,cond_false];rw[h5,h7];cases v with
 |false=>rfl
 |true =>
  simp only[rb,FJ,FR,cond_false];rw[h9,a0];cases u with
  |false=>rfl
  |true =>
   have O:=h6.1 rfl;have Y:=R.1 rfl;obtain⟨d,d1,d2,d3,d4⟩:=zc K a b H O hK;have t0:¬ t=0:=by obtain⟨t1,t2⟩:=Y;omega
   have tw:wr .i64 (t-d)=t-d:=by obtain⟨t1,t2⟩:=Y;exact aC (by omega) (by omega)
   have hw:InP (t-d) (-3000000) 3000000:=by obtain⟨t1,t2⟩:=Y;exact⟨by omega,by omega⟩
   have hs:¬ wr .i64 (a.2.2.2+b.2.2.2)=0:=by
    obtain⟨_,_,_,Z,a2⟩:=H;obtain⟨_,_,_,y,z⟩:=O;rw[aC (by omega) (by omega)];omega
   have x0:wr .i64 (a.1-b.1)=a.1-b.1:=by
    obtain⟨⟨Z,a2⟩,_⟩:=H;obtain⟨⟨y,z⟩,_⟩:=O;exact aC (by omega) (by omega)
   have y0:wr .i64 (a.2.1-b.2.1)=a.2.1-b.2.1:=by
    obtain⟨_,⟨Z,a2⟩,_⟩:=H;obtain⟨_,⟨y,z⟩,_⟩:=O;exact aC (by omega) (by omega)
   obtain⟨r,r1,r2,r3,r4,r5⟩:=sK K (a.1-b.1) (a.2.1-b.2.1) (by
    obtain⟨⟨Z,a2⟩,_⟩:=H;obtain⟨⟨y,z⟩,_⟩:=O;exact⟨by omega,by omega⟩) (by
    obtain⟨_,⟨Z,a2⟩,_⟩:=H;obtain⟨_,⟨y,z⟩,_⟩:=O;exact⟨by omega,by omega⟩) hK
   have J:=err_s K a b (t-d) t H O Y hw;have M:=err_i K a b (t-d) t Y hw;simp only[rb,FJ,FR,cond_false];rw[d3,d4];simp only[FJ,Q184.f,tw,x0,y0];rw[r4,r5,decide_eq_false hs];simp only[FJ,cond_false];generalize wr .i64 (GK (wr .i64 (GK (wr .i64 ((t-d)*a.2.2.2)) (wr .i64 (a.2.2.2+b.2.2.2)))) 4)=F;have cb:∀ n lo hi:Int,lo<=hi->Q69.f K (n,lo,hi,())=some ((iZ n lo hi,()),()):=nh K;have y:∀ n,Q69.f K (n,-100000,100000,())=some ((iZ n (-100000) 100000,()),()):=λn=>nh K n _ _ (by decide)
   have z:∀ n,Q69.f K (n,0,100000,())=some ((iZ n 0 100000,()),()):=λn=>nh K n _ _ (by decide)
   by_cases hr:r=0
   ·subst hr;obtain⟨xz,yz⟩:=r3 rfl;rw[xz,yz];rw[show ((0:Int)==0)=true from rfl,decide_eq_false (by omega:¬ (0:Int)>0),decide_eq_false t0];simp only[cond_true,cond_false];by_cases X:F>=0
    ·rw[decide_eq_true X,decide_eq_false (by omega:¬ F<0)];simp only[cond_true,cond_false,Q185.f];rcases and3 s with I|I|I|I <;> rw[I]
     ·rw[show idx [((1:Int),(0:Int)),(0,1),((-1),0),(0,(-1))] 0=some (1,0) from rfl];simp only[FJ,y,z,beq_self_eq_true,cond_true];rw[di];simp only[FJ];rw[di];simp only[FJ];rw[di];simp only[FJ];rw[J,M]
     ·rw[show idx [((1:Int),(0:Int)),(0,1),((-1),0),(0,(-1))] 1=some (0,1) from rfl,show ((1:Int)==0)=false from rfl];simp only[FJ,y,z,beq_self_eq_true,cond_true,cond_false];rw[di];simp only[FJ];rw[di];simp only[FJ];rw[di];simp only[FJ];rw[J,M]
     ·rw[show idx [((1:Int),(0:Int)),(0,1),((-1),0),(0,(-1))] 2=some (-1,0) from rfl,show ((2:Int)==0)=false from rfl,show ((2:Int)==1)=false from rfl];simp only[FJ,y,z,beq_self_eq_true,cond_true,cond_false];rw[di];simp only[FJ];rw[di];simp only[FJ];rw[di];simp only[FJ];rw[J,M]
     ·rw[show idx [((1:Int),(0:Int)),(0,1),((-1),0),(0,(-1))] 3=some (0,-1) from rfl,show ((3:Int)==0)=false from rfl,show ((3:Int)==1)=false from rfl,show ((3:Int)==2)=false from rfl];simp only[FJ,y,z,cond_false];rw[di];simp only[FJ];rw[di];simp only[FJ];rw[di];simp only[FJ];rw[J,M]
    ·rw[decide_eq_false X,decide_eq_true (by omega:F<0)];simp only[cond_true,cond_false,Q185.f,y,z,FJ];have aw:∃ p:Int×Int,(bif bz .i64 s 3==0 then some (((1:Int),(0:Int),()),()) else (bif bz .i64 s 3==1 then some ((0,1,()),()) else (bif bz .i64 s 3==2 then some (((-1),0,()),()) else some ((0,(-1),()),()))))=some ((p.1,p.2,()),()):=by
      rcases and3 s with I|I|I|I <;> rw[I]
      ·exact⟨(1,0),rfl⟩
      ·exact⟨(0,1),rfl⟩
      ·exact⟨(-1,0),rfl⟩
      ·exact⟨(0,-1),rfl⟩
     obtain⟨p,hp⟩:=aw;refine Gu ?_ (congrArg (λo=>FL o _) hp).symm;simp only[FJ];rw[di];simp only[FJ];rw[di];simp only[FJ];rw[di];simp only[FJ];rw[J,M]
   ·rw[show (r==0)=false by simpa using hr,decide_eq_true (by omega:r>0),decide_eq_false t0,decide_eq_false hr];simp only[cond_true,cond_false];by_cases X:F<wr .i64 (0-r)
    ·rw[decide_eq_true X];simp only[cond_true,y,z,FJ];rw[di];simp only[FJ];rw[di];simp only[FJ];rw[di];simp only[FJ];rw[J,M]
    ·rw[decide_eq_false X];simp only[cond_false,y,z,FJ];rw[di];simp only[FJ];rw[di];simp only[FJ];rw[di];simp only[FJ];rw[J,M]
theorem zd (K:Nat)(t:List cm)(v:Int)(ht:t.length<=1048576)(z:Asc (λx:cm=>x.1) t)(h7:∀ d∈t,InP d.1 0 7)(R:InP v 0 7)(hK:1048577<K) :
  ∃ m,m<=t.length/\(∀ i,(h:i<t.length)->i<m->t[i].1<v)/\(∀ i,(h:i<t.length)->m<=i->v<=t[i].1)/\Q67.f K (t,v,(λI=>(Q68.f K (I.1,I.2.1,())).map λy=>y.1.1),())=some ((((m:Nat):Int),decide (∃ h:m<t.length,t[m].1=v),()),()):=by
 let ks:Nat->Int:=λi=>if h:i<t.length then t[i].1 else 0
 have r:∀ i (h:i<t.length),ks i=t[i].1:=λi h=>by simp[ks,h]
 let u:Nat->Option ((Int×Bool×Unit)×Unit):=λm=>some ((((m:Nat):Int),decide (∃ h:m<t.length,t[m].1=v),()),())
 have X:∀ d∈t,((Q68.f K (d,v,())).map λy=>y.1.1)=some (d.1-v):=λd hd=>by
  obtain⟨a1,a2⟩:=h7 d hd;obtain⟨a3,a4⟩:=R;simp only[Q68.f];rw[aC (by omega) (by omega)];rfl
 have:=nO (step:=λrec a=>Q67.s0 K (t,v,(λI=>(Q68.f K (I.1,I.2.1,())).map λy=>y.1.1),()) rec a) (ks:=ks) (n:=t.length) (t:=v) u ht
  (λi j J O=>by
   rw[r i (by omega),r j O];exact ct.1 z i j (by omega) O J) ?_ ?_ t.length K 0 t.length (by omega) (F4 _) (GD _) (by omega) (λi H=>by omega) (λi H R=>by omega)
 ·obtain⟨m,Z,h2,h3,h4⟩:=this;exact⟨m,Z,λi h H=>by rw[<- r i h];exact h2 i H,λi h H=>by rw[<- r i h];exact h3 i H h,h4⟩
 ·intro rec a b a0 hb;have M:(a+b) / 2<t.length:=by omega
  simp only[Q67.s0];rw[decide_eq_true (by omega:(a:Int)<(b:Int)),mj (by omega)];simp only[cond_true];rw[af M];simp only[FJ,X _ (FV M)];rw[r _ M,ar _ (by omega)];by_cases h:t[(a+b) / 2].1<v
  ·rw[if_pos h,decide_eq_true (by omega:t[(a+b) / 2].1-v<0)];rfl
  ·rw[if_neg h,decide_eq_false (by omega:¬ t[(a+b) / 2].1-v<0)];rfl
 ·intro rec a ha;simp only[Q67.s0];rw[decide_eq_false (by omega)];simp only[cond_false];by_cases h:a<t.length
  ·rw[decide_eq_true (by omega:(a:Int)<(FK t:Int)),af h];simp only[cond_true,FJ,X _ (FV h)];have:(t[a].1-v==0)=decide (∃ h:a<t.length,t[a].1=v):=by
    rw[GL];simp only[beq_iff_eq,decide_eq_true_eq];exact⟨λe=>⟨h,by omega⟩,λ⟨_,e⟩=>by omega⟩
   rw[this]
  ·rw[decide_eq_false (by omega:¬ (a:Int)<(FK t:Int))];simp only[cond_false,u];rw[decide_eq_false (λ⟨Y,_⟩=>h Y)]
theorem ze {α β:Type}{k:α->Int}{v:Int}{x:α}{g:β->α->β}{G:β->β}(I:∀ c p,k p≠v->g c p=c)(O:k x=v)(J:∀ c,g c x=G c):∀ {l:List α} {c:β},Asc k l->x∈l->l.foldl g c=G c:=by
 have no:∀ {l:List α} {c:β},(∀ p∈l,k p≠v)->l.foldl g c=c:=by
  intro l;induction l with
  |nil=>exact λ_=>rfl
  |cons p l z=>exact λh=>by rw[GO,I _ _ (h p (by simp))];exact z λq y=>h q (by simp[y])
 intro l;induction l with
 |nil=>exact λ_ h=>by simp at h
 |cons p l z =>
  intro c H M;rw[GO];have u:Asc k l:=(GE.1 H).2;have r:=(GE.1 H).1;rcases Gd.1 M with rfl|h
  ·rw[J];exact no λq y=>by have:=r q y;omega
  ·rw[I _ _ (by have:=r x h;omega)];exact z u h
theorem CQ (n:aa)(h:UpN n)(r:¬ (aa.probe n).1<0):(bif decide (60000<wr .i64 (wr .i64 (wr .i64 (cg n-(aa.probe n).2.1)*1000)+500)) then 60000 else wr .i64 (wr .i64 (wr .i64 (cg n-(aa.probe n).2.1)*1000)+500))=gy n:=by
 obtain⟨y,z⟩:=(nd h.x r).2.2.2;have u:=h.now1;rw[aC (n:=cg n-_) (by omega) (by omega),aC (n:=_*1000) (by omega) (by omega),aC (by omega) (by omega)];unfold gy iZ;rw[if_neg (by omega)];by_cases h:(cg n-(aa.probe n).2.1)*1000+500>60000
 ·rw[if_pos h,decide_eq_true (by omega)];rfl
 ·rw[if_neg h,decide_eq_false (by omega)];rfl
theorem fit3 (l:List Int)(t:Int)(r:l.length<=3):decide ((FK l+FK [t])*8<=am)=true:=szb _ _ _ (by omega) (by show l.length+[t].length<=_;simp;omega)
theorem Bh (l:List Int)(t:Int)(u:l.length<=3):(bif decide (wr .i64 ((FK (l++[t]):Int)-3)<0) then 0 else wr .i64 ((FK (l++[t]):Int)-3))=(((l++[t]).length-3:Nat):Int):=by
 have r:(l++[t]).length=l.length+1:=by simp
 rw[aC (n:=((l++[t]).length:Int)-3) (by omega) (by omega)];by_cases h:((l++[t]).length:Int)-3<0
 ·rw[decide_eq_true h];simp only[cond_true];omega
 ·rw[decide_eq_false h];simp only[cond_false];omega
theorem cut3 (l:List Int)(t:Int):(decide (0<=(((l++[t]).length-3:Nat):Int))&&decide ((((l++[t]).length-3:Nat):Int)<=(FK (l++[t]):Int))&&decide ((FK (l++[t]):Int)<=(FK (l++[t]):Int))&&true)=true:=by
 rw[decide_eq_true (by omega:(0:Int)<=(((l++[t]).length-3:Nat):Int)),decide_eq_true (by omega:(((l++[t]).length-3:Nat):Int)<=((l++[t]).length:Int)),decide_eq_true (GC _)];rfl
theorem zf (K:Nat)(l:List Int)(t:Int)(u:l.length<=3):Q7.f K (((l++[t]).take (FM (FK (l++[t]):Int))).drop (FM (((l++[t]).length-3:Nat):Int)),())=some ((dC l t,()),()):=by
 have r:(l++[t]).length=l.length+1:=by simp
 simp only[FO,GB,Q7.f];exact dR (by rw[F0];omega)
theorem xx (l:List Int)(t:Int):(dC l t).length<=3:=by
 unfold dC;rw[F0];omega
def jS (v:Int):List Int->List Int
 |[]=>[v]
 |b::r=>if b<=v then b::jS v r else v::b::r
theorem uG (v:Int):∀ l:List Int,(jS v l).length=l.length+1
 |[]=>rfl
 |b::r=>by
  unfold jS;split
  ·rw[FU,uG v r,FU]
  ·rfl
theorem BW (K:Nat)(x:ab Q189.ps)(us:List Int)(i:Nat)(H:i<us.length)(X:i<=1000)(r:Q189.A0->Option Q189.Res):∀ (B A:List Int) (k:Nat),A.length+B.length<=500->B.length<k ->
  ae (λy a=>Q189.s1 K x r y a) k (us,A++B,(i:Int),(A.length:Int))=r (us,A++jS us[i] B,((i+1:Nat):Int)):=by
 have u:∀ A B:List Int,A.length+B.length<=500->(bif decide (0<=0)&&decide (0<=(A.length:Int))&&decide ((A.length:Int)<=(FK (A++B):Int))&&true then (bif decide ((FK ([]:List (Ty.den (.int .i64)))+FK (((A++B).take (FM (A.length:Int))).drop (FM 0)))*8<=am) then ((idx us (i:Int)).bind λJ=>bif decide ((FK ([]++(((A++B).take (FM (A.length:Int))).drop (FM 0)))+FK ([J]))*8<=am) then (bif decide (0<=(A.length:Int))&&decide ((A.length:Int)<=(FK (A++B):Int))&&decide ((FK (A++B):Int)<=(FK (A++B):Int))&&true then (bif decide ((FK (([]++(((A++B).take (FM (A.length:Int))).drop (FM 0)))++([J]))+FK (((A++B).take (FM (FK (A++B):Int))).drop (FM (A.length:Int))))*8<=am) then (r (us,(([]++(((A++B).take (FM (A.length:Int))).drop (FM 0)))++([J]))++(((A++B).take (FM (FK (A++B):Int))).drop (FM (A.length:Int))),wr .i64 ((i:Int)+1))) else none) else none) else none) else none) else none)=r (us,A++us[i]::B,((i+1:Nat):Int)):=by
  intro A B h;have hl:(A++B).length=A.length+B.length:=FP;have O:List.drop (FM 0) (List.take (FM (A.length:Int)) (A++B))=A:=by simp
  have R:List.drop (FM (A.length:Int)) (List.take (FM (FK (A++B):Int)) (A++B))=B:=by
   rw[FO,FO,GB];simp
  rw[O,R,decide_eq_true (GD 0),decide_eq_true (by omega:(0:Int)<=(A.length:Int)),decide_eq_true (by omega:(A.length:Int)<=(FK (A++B):Int)),decide_eq_true (GC _),ar i (by omega)];simp only[Gr,cond_true,FT];rw[af H];simp only[FJ];have Z:decide ((FK ([]:List Int)+FK A)*8<=am)=true:=szb _ _ _ (by decide) (by simp;omega);have z2:decide ((FK A+FK [us[i]])*8<=am)=true:=szb _ _ _ (by decide) (by simp;omega);have z3:decide ((FK (A++[us[i]])+FK B)*8<=am)=true:=szb _ _ _ (by decide) (by simp;omega);refine (congrArg (λb=>bif b then _ else _) Z).trans ?_;refine (congrArg (λb=>bif b then _ else _) z2).trans ?_;refine (congrArg (λb=>bif b then _ else _) z3).trans ?_;simp only[cond_true,GV,Gl,FT]
 intro B;induction B with
 |nil =>
  intro A k h M;obtain⟨k,rfl⟩:∃ I,k=I+1:=⟨k-1,by omega⟩;show Q189.s1 K x r _ _=_;simp only[Q189.s1];rw[decide_eq_false (by simp:¬ (A.length:Int)<(FK (A++([]:List Int)):Int))];simp only[cond_false];exact u A [] h
 |cons b B Y =>
  intro A k h M;obtain⟨k,rfl⟩:∃ I,k=I+1:=⟨k-1,by omega⟩;show Q189.s1 K x r _ _=_;simp only[Q189.s1];rw[decide_eq_true (by simp only[FP,FU];omega:(A.length:Int)<(FK (A++b::B):Int)),rL,af H];simp only[cond_true,FJ];by_cases z:b<=us[i]
  ·rw[decide_eq_true z,ar A.length (by omega)];simp only[cond_true];have:=Y (A++[b]) k (by simp only[FP,FU,FW]at h ⊢;omega) (by simp at M;omega);rw[GV,GV,FP]at this;refine this.trans ?_;simp only[jS,if_pos z,Gl,FT]
  ·rw[decide_eq_false z];simp only[cond_false,jS,if_neg z];have:=u A (b::B) h;rw[af H]at this;exact this
def uH (l:List Int):List Int:=l.foldl (λs v=>jS v s) []
theorem CR (K:Nat)(l:List Int)(X:l.length<=3)(R:1048577<K):Q189.f K (l,())=some (((uH l).getD (((uH l).length-1) / 2) 0,()),()):=by
 simp only[Q189.f,Q189.pre];rw[decide_eq_false (by omega:¬ (l.length:Int)>3)];simp only[cond_false];have y:∀ (d i k:Nat) (r:List Int),i+d=l.length->d<k->r.length=i->ae (λrec a=>Q189.s0 K (l,()) (Q189.l1 K (l,()) rec) rec a) k (l,r,(i:Int))=some ((((l.drop i).foldl (λs v=>jS v s) r).getD ((((l.drop i).foldl (λs v=>jS v s) r).length-1) / 2) 0,()),()):=by
  intro d;induction d with
  |zero =>
   intro i k r J M I;obtain⟨k,rfl⟩:∃ H,k=H+1:=⟨k-1,by omega⟩;have:i=l.length:=by omega
   subst this;show (λrec a=>Q189.s0 K (l,()) (Q189.l1 K (l,()) rec) rec a) (ae _ k) _=_;simp only[Q189.s0];rw[aS,Gj];simp only[cond_false,GZ];by_cases z:r=[]
   ·subst z;rfl
   ·have Y:0<r.length:=List.length_pos_iff.2 z;rw[show ((r.length:Int)==0)=false by simp;exact z];simp only[cond_false];rw[aC (n:=(r.length:Int)-1) (by omega) (by omega),GG (by omega),aC (by omega) (by omega),show ((r.length:Int)-1) / 2=(((r.length-1) / 2:Nat):Int) by omega,af (by omega)];simp only[FJ];rw[List.getD_eq_getElem?_getD,F6 (by omega)];rfl
  |succ d O =>
   intro i k r J M I;obtain⟨k,rfl⟩:∃ H,k=H+1:=⟨k-1,by omega⟩;have u:i<l.length:=by omega
   show (λrec a=>Q189.s0 K (l,()) (Q189.l1 K (l,()) rec) rec a) (ae _ k) _=_;simp only[Q189.s0];rw[bt (by omega:(i:Int)<(FK l:Int))];simp only[cond_true];refine (BW K (l,()) l i u (by omega) _ r [] K (by simp;omega) (by omega)).trans ?_;rw[FX u,GO];exact O (i+1) k (jS l[i] r) (by omega) (by omega) (by rw[uG,I])
 have:=y l.length 0 K [] (by omega) (by omega) rfl;rw[F2]at this;exact this
theorem tE (a b:Int):(a<=b/\ltZ b a=false)\/(¬ a<=b/\ltZ b a=true):=by
 by_cases h:a<=b
 ·exact .inl ⟨h,decide_eq_false (by omega)⟩
 ·exact .inr ⟨h,decide_eq_true (by omega)⟩
theorem Az:∀ (l:List Int),l.length<=3->uH l=cI ltZ [] l
 |[],_=>rfl
 |[a],_=>rfl
 |[a,b],_=>by
  simp only[uH,GO,GZ,jS,cI,dk,Gh,List.reverse_nil,FT];rcases tE a b with ⟨u,r⟩|⟨u,r⟩ <;> rw[r] <;> simp[u]
 |[a,b,c],_=>by
  simp only[uH,GO,GZ,jS,cI,dk,Gh,List.reverse_nil,FT];rcases tE a b with ⟨u,r⟩|⟨u,r⟩ <;> rcases tE a c with ⟨H,y⟩|⟨H,y⟩ <;> rcases tE b c with ⟨I,z⟩|⟨I,z⟩ <;> (first|(exfalso;omega)|simp[u,H,I,r,y,z,jS,dk])
 |_::_::_::_::_,h=>by simp at h
theorem med_i (K:Nat)(l:List Int)(u:l.length<=3)(r:1048577<K):Q84.f K (l,())=some ((lA K l,()),()):=by
 refine Gu ?_ (Bc K l (by omega) r);rw[CR K l u r,Az l u];simp only[Q84.f];rw[decide_eq_true u];simp only[cond_true];refine (congrArg (λo=>FL (Option.map _ o) _) (un K l (by omega) r)).trans ?_;rfl
theorem xy (K:Nat)(n:aa)(w:aj)(h:UpN n)(hw:bX (aj.coord w))(hb:jR n w=true)(hK:1048577<K):Q85.f K (n,w,())=some ((),(cX K n w,())):=by
 have Y:=hb;simp only[jR,GA,GU,decide_eq_false_iff_not,beq_iff_eq]at Y;obtain⟨⟨⟨h1,h2⟩,h3⟩,h4⟩:=Y;obtain⟨p1,p2,p3,_⟩:=nd h.x h1;rw[h2]at p1 p2 p3;have O:=h.x.places;have hl:=plen O;have ht:(bif decide (60000<wr .i64 (wr .i64 (wr .i64 (n.2.2.2.2.2.1-n.2.2.2.2.2.2.2.2.2.2.1.2.1)*1000)+500)) then 60000 else wr .i64 (wr .i64 (wr .i64 (n.2.2.2.2.2.1-n.2.2.2.2.2.2.2.2.2.2.1.2.1)*1000)+500))=gy n:=CQ n h h1;obtain⟨m,hm,lo,hi,hs⟩:=zd K (aa.places n) w.2.2.1 hl O.2 (λx hx=>(O.1 x hx).1) p2 hK;have hA:cX K n w=oc n (lg K (aa.coord n) (aj.coord w) (lA K (dC (ci (aa.places n) w.2.2.1) (gy n))) w.2.2.2.2.1) (gI n w):=by
  have a4:=rQ h.x hw hb;have a1:((w.2.2.1,aj.coord w,dC (ci (aa.places n) w.2.2.1) (gy n)):cm)∈gI n w:=by unfold gI jQ bD;simp
  unfold cX;rw[hb];simp only[cond_true];rw[ze (k:=λp:cm=>p.1) (v:=w.2.2.1) (g:=nc K w) (G:=λc=>lg K c (aj.coord w) (lA K (dC (ci (aa.places n) w.2.2.1) (gy n))) w.2.2.2.2.1) (λc p hp=>?_) rfl (λc=>?_) a4.2 a1]
  ·unfold nc;rw[show (p.1==w.2.2.1)=false by simpa using hp];rfl
  ·unfold nc;rw[beq_self_eq_true];rfl
 rw[hA];have X:=xx (ci (aa.places n) w.2.2.1) (gy n);have z:=pA O w.2.2.1;have J:=med_i K _ X hK;have M:=CP K (aa.coord n) (aj.coord w) (lA K (dC (ci (aa.places n) w.2.2.1) (gy n))) w.2.2.2.2.1 h.x.coord hK;simp only[Q85.f,zcp8];rw[ht];refine (congrArg (λo=>FL o _) hs).trans ?_;simp only[FJ,FO,Nat.beq_refl,cond_true];by_cases hf:∃ h:m<(aa.places n).length,(aa.places n)[m].1=w.2.2.1
 ·rw[decide_eq_true hf];obtain⟨u,e⟩:=hf;simp only[FR,cond_false];have r:idx (aa.places n) (m:Int)=some (aa.places n)[m]:=af u;have I:ci (aa.places n) w.2.2.1=(aa.places n)[m].2.2:=by unfold ci;rw[mR O.2 u e];rfl
  rw[I]at J M X z ⊢;have H:(aa.places n).set m (w.2.2.1,aj.coord w,dC (aa.places n)[m].2.2 (gy n))=gI n w:=by
   unfold gI jQ;rw[I];exact gY (k:=λx:cm=>x.1) O.2 u e
  refine (congrArg (λo=>FL o _) r).trans ?_;simp only[FJ];refine (congrArg (λo=>FL o _) r).trans ?_;simp only[FJ];refine (congrArg (λo=>FL o _) r).trans ?_;simp only[FJ];rw[fit3 _ _ z,Bh _ _ z,cut3];simp only[cond_true];refine (congrArg (λo=>FL o _) (zf K _ _ z)).trans ?_;simp only[FJ];refine (congrArg (λo=>FL o _) r).trans ?_;simp only[FJ];refine (congrArg (λo=>FL o _) (oX u)).trans ?_;simp only[FJ];rw[Gt,e];refine (congrArg (λo=>FL o _) (oX u)).trans ?_;simp only[FJ];refine (congrArg (λo=>FL o _) J).trans ?_;simp only[FJ];refine (congrArg (λo=>FL o _) M).trans ?_;rw[<- H];rfl
 ·rw[decide_eq_false hf];simp only[GI,cond_true];have a0:∀ j,(R:j<(aa.places n).length)->m<=j->w.2.2.1<(aa.places n)[j].1:=λj R a2=>by
   rcases Int.lt_or_eq_of_le (hi j R a2) with h|h
   ·exact h
   ·exfalso;rcases Nat.lt_or_eq_of_le a2 with h4|rfl
    ·have:(aa.places n)[m].1<(aa.places n)[j].1:=ct.1 O.2 m j (by omega) R h4;have h5:=hi m (by omega) (GD _);omega
    ·exact hf ⟨R,h.symm⟩
  have I:ci (aa.places n) w.2.2.1=[]:=by
   unfold ci;rw[mo (k:=λp:cm=>p.1) (λy hy=>?_)]
   ·rfl
   ·obtain⟨j,R,rfl⟩:=F8 hy;show (aa.places n)[j].1≠_;by_cases a5:j<m
    ·have:=lo j R a5;omega
    ·have:=a0 j R (by omega);omega
  rw[I]at J M X z ⊢;have Z:Q8.f K (aa.places n,(m:Int),[(w.2.2.1,(0,0,0,0),[])],())=some (((aa.places n).take m++[(w.2.2.1,(0,0,0,0),[])]++(aa.places n).drop m,()),()):=jl hm (by decide) hl;have H:(aa.places n).take m++[(w.2.2.1,aj.coord w,dC [] (gy n))]++(aa.places n).drop m=gI n w:=by
   unfold gI jQ;rw[I];exact gu (k:=λx:cm=>x.1) hm lo a0
  have u:m<((aa.places n).take m++[((w.2.2.1,(0,0,0,0),[]):cm)]++(aa.places n).drop m).length:=by
   simp only[FP,FS,F0,FU,FW];omega
  have r:idx ((aa.places n).take m++[((w.2.2.1,(0,0,0,0),[]):cm)]++(aa.places n).drop m) (m:Int)=some (w.2.2.1,(0,0,0,0),[]):=by
   rw[af u];congr 1;rw[List.getElem_append_left (by simp only[FP,FS,FU,FW];omega),List.getElem_append_right (by simp only[FS];omega)];simp[Gp hm]
  have a3:∀ v:cm,((aa.places n).take m++[((w.2.2.1,(0,0,0,0),[]):cm)]++(aa.places n).drop m).set m v=(aa.places n).take m++[v]++(aa.places n).drop m:=λv=>by
   rw[List.set_append_left _ _ (by simp only[FP,FS,FU,FW];omega),List.set_append_right _ _ (by simp only[FS];omega)];simp[Gp hm]
  refine (congrArg (λo=>FL o _) Z).trans ?_;simp only[FJ];generalize hQ:(aa.places n).take m++[((w.2.2.1,(0,0,0,0),[]):cm)]++(aa.places n).drop m=Q at *;refine (congrArg (λo=>FL o _) r).trans ?_;simp only[FJ];refine (congrArg (λo=>FL o _) r).trans ?_;simp only[FJ];refine (congrArg (λo=>FL o _) r).trans ?_;simp only[FJ];rw[fit3 _ _ z,Bh _ _ z,cut3];simp only[cond_true];refine (congrArg (λo=>FL o _) (zf K _ _ z)).trans ?_;simp only[FJ];refine (congrArg (λo=>FL o _) r).trans ?_;simp only[FJ];refine (congrArg (λo=>FL o _) (oX u)).trans ?_;simp only[FJ];rw[Gt];refine (congrArg (λo=>FL o _) (oX u)).trans ?_;simp only[FJ];refine (congrArg (λo=>FL o _) J).trans ?_;simp only[FJ];refine (congrArg (λo=>FL o _) M).trans ?_;rw[<- H,<- a3];rfl
theorem BX {n:aa}(h:UpN n):(mp n).length<=8/\∀ x∈mp n,iL x:=by
 unfold mp;refine⟨?_,λx u=>?_⟩
 ·rw[GM];exact F1 (GQ _ _) (jx h.x.table.2 λf r=>(h.x.table.1 f r).1)
 ·obtain⟨f,r,rfl⟩:=F5.1 u;exact⟨(h.x.table.1 f (GN.1 r).1).1,cf h.x.table⟩
theorem CS (K:Nat)(w:bY)(c:Nat)(h:WI w c)(hc:c<=1000000)(e:ah)(h0:InP e.2.1 0 7)(O:1048577<K):Tot (Q239.f K (w,e,())) λr=>WI r.1.1 (c+4):=by
 have a0:=h.len;have hs:=h.sides;obtain⟨a1,a2,u,keep⟩:=e;obtain⟨e0,e1⟩:=h0;simp only at e0 e1;obtain⟨i,rfl⟩:=FZ e0;have X:i<w.1.length:=by omega
 have J:=h.node i X;have y:=h.mono (show c<=c+4 by omega);simp only[Q239.f];refine Tot.vl (af X) (Tot.vl (by rw[FO];exact af X) ?_);generalize w.1[i]=n at J ⊢;refine Tot.cnd (λ_=>?_) λ_=>Tot.cnd (λ_=>?_) λ_=>Tot.cnd (λ_=>?_) λ_=>?_
 ·
  rw[di];simp only[FJ];exact Tot.ix2 (by omega) (by omega) λ_ _ _=>Tot.ret ⟨y.len,y.node,y.radio,by show (w.2.2.1.set _ _).length=8;rw[F3];exact h.sides,y.born⟩
 ·
  simp only[Q237.f,FJ];refine Tot.ix2 (by omega) (by omega) λ_ _ _=>Tot.ret (y.put (i:=i) (n:=ka n.1 n.2.2.2.1) ?_ y.radio y.born)
  exact⟨J.me,J.lt,λM=>(by cases M),λ_=>rfl⟩
 ·
  exact Tot.cnd (λ_=>Tot.ret y) λ_=>Tot.bind (CM K w c h hc (i:Int) ⟨by omega,by omega⟩ O) λv H=>Tot.ret H
 ·refine Tot.cnd (λ_=>Tot.ret y) λM=>Tot.cnd (λ_=>Tot.ret y) λR=>?_
  have M:n.2.1=true:=by simpa using M
  have z:=J.up M;have set:=λ (m:aa) (Z:List aj) (I:UpN m) (em:m.1=n.1) (Y:∀ x∈Z,iL x) (hl:Z.length<=1000)=>CL K w i m Z [] c ⟨h,J.lt,J.of I em,Y,hl,F4 _,hc⟩ O
  refine Tot.cnd (λ_=>?_) λ_=>Tot.cnd (λ_=>?_) λ_=>Tot.cnd (λ_=>?_) λ_=>Tot.ret y
  ·refine Tot.cnd (λ_=>Tot.ret y) λI=>?_
   have I:cg n<999999:=by have I:¬ n.2.2.2.2.2.1>=999999:=of_decide_eq_false I;show n.2.2.2.2.2.1<999999;omega
   obtain⟨t1,t2,_⟩:=rN z I;obtain⟨w1,w2⟩:=CJ z I u;exact Tot.vl (CK K n u z R I O) (Tot.bind (set _ _ t1 t2 w2 (F1 w1 (by omega))) λv H=>Tot.ret H)
  ·obtain⟨t1,t2⟩:=Ao z R;obtain⟨w1,w2⟩:=BX t1;exact Tot.vl (BC K n z.nb z.ok M R O) (Tot.bind (set _ _ t1 t2 w2 (F1 w1 (by omega))) λv H=>Tot.ret H)
  ·refine Tot.bind (cK K u 0 7).tot λv H=>Tot.cnd (λ_=>Tot.ret y) λh1=>Tot.cnd (λ_=>Tot.ret y) λ_=>?_
   have hd:InP u 0 7:=H.1 (by simpa using h1);rw[de K,de K];simp only[FJ];refine Tot.cnd (λ_=>Tot.ret y) λ_=>?_
   refine Tot.vl (oZ K n 4 u (cf z.x.table)) (Tot.bind (set n _ z rfl (λx hx=>?_) (by simp)) λv H=>Tot.ret H);rw[FQ.1 hx];exact⟨hd,cf z.x.table⟩
theorem do_t (K:Nat)(w:bY)(c:Nat)(h:WI w c)(O:c<=1000000)(e:ah)(M:1048577<K):Tot (Q241.f K (w,e,())) λr=>WI r.1.1 (c+4):=by
 have z:=h.mono (show c<=c+4 by omega);have hr:=h.radio.1;simp only[Q241.f];rw[aC (n:=(FK w.2.1:Int)-1) (by omega) (by omega)];have u:Tot ((Q98.f K (e.2.1,0,(FK w.2.1:Int)-1,())).bind λX=>bif !X.1.1 then (some ((w,false,()),())) else (bif e.1==2 then ((Q217.f K (w,e.2.1,e.2.2.2,())).bind λY=>some ((Y.1.1,true,()),())) else (bif e.1==4 then ((Q218.f K (w,e.2.1,e.2.2.1,())).bind λR=>some ((R.1.1,R.1.2.1,()),())) else ((Q210.f K (w.2.1,e.2.1,())).bind λZ=>some (((w.1,(Z.1.1,w.2.2)),true,()),()))))) λr=>WI r.1.1 (c+4):=by
  refine Tot.bind (cK K _ _ _).tot λv y=>Tot.cnd (λ_=>Tot.ret z) λI=>?_
  obtain⟨J,H⟩:InP e.2.1 0 ((FK w.2.1:Int)-1):=y.1 (by simpa using I);have H:e.2.1<(w.2.1.length:Int):=by omega
  refine Tot.cnd (λ_=>Tot.bind (BS K w c h O e.2.1 e.2.2.2 J H M) λv y=>Tot.ret y) λ_=>Tot.cnd (λ_=>Tot.bind (BT K w c h e.2.1 e.2.2.1 J H) λv y=>Tot.ret (WI.mono y (by omega))) λ_=>?_
  exact Tot.bind (sH K w.2.1 e.2.1 J H h.radio) λv y=>Tot.ret ⟨z.len,z.node,y,z.sides,z.born⟩
 refine Tot.cnd (λ_=>u) λ_=>Tot.cnd (λ_=>u) λ_=>Tot.cnd (λ_=>u) λ_=>?_
 exact Tot.bind (cK K _ _ _).tot λv y=>Tot.cnd (λ_=>Tot.ret z) λI=>Tot.bind (CS K w c h O e (y.1 (by simpa using I)) M) λv y=>Tot.ret y
theorem AA (K:Nat)(w:bY)(O:w.1.length<=1048576)(I:∀ n∈w.1,NB n)(R:w.2.1.length<=1048576)(X:w.2.2.1.length<=1048576)(Y:w.2.2.2.length<=1048576)(y:1048577<K):Q242.f K (w,())=some ((w,()),()):=by
 simp only[Q242.f,Q242.pre];rw[szb _ _ _ (by omega) (by show (FK ([]:List mr))+w.2.1.length<=_;simp;omega)];simp only[cond_true];rw[szb _ _ _ (by omega) (by show (FK ([]:List Int))+w.2.2.1.length<=_;simp;omega)];simp only[cond_true];rw[szb _ _ _ (by omega) (by show (FK ([]:List ah))+w.2.2.2.length<=_;simp;omega)];simp only[cond_true];have:∀ (d i k:Nat),i+d=w.1.length->d<k->ae (λrec a=>Q242.s0 K (w,()) rec a) k ((i:Int),w.1.take i)=some ((w,()),()):=by
  intro d;induction d with
  |zero =>
   intro i k z H;obtain⟨k,rfl⟩:∃ u,k=u+1:=⟨k-1,by omega⟩;have:i=w.1.length:=by omega
   subst this;show Q242.s0 K (w,()) _ _=_;simp only[Q242.s0,aS,GB];rfl
  |succ d M =>
   intro i k z H;obtain⟨k,rfl⟩:∃ u,k=u+1:=⟨k-1,by omega⟩;have r:i<w.1.length:=by omega
   show Q242.s0 K (w,()) _ _=_;simp only[Q242.s0];rw[bt (by omega:(i:Int)<(FK w.1:Int)),af r,ar i (by omega)];simp only[cond_true,FJ];refine (congrArg (λo=>FL o _) (nS K w.1[i] (I _ (FV r)) y)).trans ?_;simp only[FJ];have J:decide (((w.1.take i).length+[w.1[i]].length)*232<=am)=true:=decide_eq_true (by
    rw[FS];simp only[FU,FW,am];omega)
   refine (congrArg (λb=>bif b then _ else _) J).trans ?_;have e:w.1.take i++[w.1[i]]=w.1.take (i+1):=by rw[GS,F6 r];rfl
   rw[<- M (i+1) k (by omega) (by omega),<- e];rfl
 exact this w.1.length 0 K (by omega) (by omega)
theorem WI.copy {w:bY}{c:Nat}(h:WI w c)(M:c<=1000000)(K:Nat)(r:1048577<K):Q242.f K (w,())=some ((w,()),()):=by
 have z:=h.len;have H:=h.radio.1;have I:=h.sides;have J:=h.born;refine AA K w (by omega) (λn y=>?_) (by omega) (by omega) (by omega) r;obtain⟨i,u,rfl⟩:=F8 y;exact (h.node i u).nb
theorem CT (K:Nat)(w:bY)(c:Nat)(y:List ah)(h:WI w c)(hl:y.length<=1000)(Z:c<=900000)(O:1048577<K):Tot (Q243.f K (w,y,())) λr=>WI r.1.1 (c+4*y.length)/\r.2.1=y:=by
 simp only[Q243.f,Q243.pre];refine Tot.iter (step:=λrec a=>Q243.s0 K (w,y,()) rec a) (λa=>0<=a.1/\a.1<=y.length/\WI a.2 (c+4*a.1.toNat)) (λa=>y.length-a.1.toNat) ?_ K _ (by show y.length-FM 0<K;omega) ⟨by show (0:Int)<=0;omega,by show (0:Int)<=_;omega,h⟩;rintro rec ⟨i,v⟩ ⟨M,X,H⟩ R;simp only at M X H R ⊢;simp only[Q243.s0];refine Tot.cnd (λz=>?_) λ_=>Tot.ret ⟨WI.mono H (by omega),rfl⟩
 have z:i<(y.length:Int):=of_decide_eq_true z;rw[aC (n:=i+1) (by omega) (by omega)];refine Tot.vl (H.copy (by omega) K O) (Tot.ix2 M z λe _ _=>Tot.bind (do_t K v _ H (by omega) e O) ?_);rintro⟨⟨v',ok,⟨⟩⟩,⟨⟩⟩ I;have I:WI v' (c+4*i.toNat+4):=I;have J:∀ u:bY,WI u (c+4*i.toNat+4)->Tot (rec (i+1,u)) λr=>WI r.1.1 (c+4*y.length)/\r.2.1=y:=λu Y=>R (i+1,u) ⟨by show 0<=i+1;omega,by show i+1<=_;omega,Y.mono (by show _<=c+4*(i+1).toNat;omega)⟩ (by show y.length-FM (i+1)<y.length-FM i;omega)
 exact Tot.cnd (λ_=>J v' I) λ_=>J v (H.mono (by omega))
theorem xA (K:Nat)(hK:1048577<K):Tot (Q158.f K ()) λr=>WI r.1.1 8:=by
 simp only[Q158.f,Q158.pre];refine Tot.iter (step:=λrec a=>Q158.s0 K () rec a) (λa=>0<=a.1/\a.1<=8/\a.2.1.length=a.1.toNat/\(∀ (j:Nat) (y:j<a.2.1.length),eN j a.2.1[j])/\a.2.2.1.length=a.1.toNat/\a.2.2.2.length=a.1.toNat) (λa=>8-a.1.toNat) ?_ K _ (by show 8-FM 0<K;omega) ⟨by show (0:Int)<=0;omega,by show (0:Int)<=8;omega,rfl,λj y=>(by cases y),rfl,rfl⟩;rintro rec ⟨i,z,X,O⟩ ⟨H,Y,Z,I,h4,h5⟩ R;simp only at H Y Z I h4 h5 R ⊢;simp only[Q158.s0];refine Tot.cnd (λu=>?_) λu=>?_
 ·have u:i<=7:=of_decide_eq_true u;rw[aC (n:=i+1) (by omega) (by omega)];simp only[Q146.f,FJ];refine Tot.vl (sJ K i _ ⟨H,u⟩) (Tot.fit (Tot.fit (Tot.vl (show idx (ng i (decide (GP i 4<3))).2.2.2.2.2.2.2.2.1 0=some (i,0,1,decide (GP i 4<3)) from rfl) (Tot.fit (R _ ⟨by show 0<=i+1;omega,by show i+1<=8;omega,?_,λj y=>?_,?_,?_⟩ (by show 8-FM (i+1)<8-FM i;omega)) (by omega) ?_)) (by omega) ?_) (by omega) ?_)
  ·show (z++[ng i _]).length=(i+1).toNat;simp;omega
  ·show eN j ((z++[ng i (decide (GP i 4<3))])[j]'y);rw[List.getElem_append];split
   ·exact I j _
   ·rename_i J;have y:j<(z++[ng i (decide (GP i 4<3))]).length:=y;have M:j=i.toNat:=by simp at y;omega
    subst M;have:=eN.new i.toNat (decide (GP i 4<3)) (by omega);rw[Gb H]at this;simpa using this
  ·show (X++[0]).length=(i+1).toNat;simp;omega
  ·show (O++[_]).length=(i+1).toNat;simp;omega
  ·simp;omega
  ·simp;omega
  ·simp;omega
 ·have J:=of_decide_eq_false u;refine Tot.ret ⟨?_,I,⟨F4 _,λf hf=>(nomatch hf)⟩,?_,?_⟩
  ·show z.length=8;omega
  ·show X.length=8;omega
  ·show O.length<=8;omega
abbrev LtP (v n:Int):Prop:=0<=v/\v<n
def bg (b:List Int)(m:Nat)(s:List Int×Int):Prop:=∃ q:Nat,q<=m/\s=(b,(q:Int))
theorem bg.up {b:List Int}{m:Nat}{s:List Int×Int}(h:bg b m s){m':Nat}(y:m<=m'):bg b m' s:=by obtain⟨q,u,r⟩:=h;exact⟨q,by omega,r⟩
section
variable {K:Nat} {b:List Int} {m:Nat} {s:List Int×Int}
theorem aD (h:gv b)(y:bg b m s)(n:Int)(u:1<=n)(I:m<=99000):Tot (Q143.f K (s,n,())) λr=>LtP r.1.1 n/\bg b (m+1) r.2.1:=by
 obtain⟨q,J,rfl⟩:=y;obtain⟨v,e,z,H⟩:=BH K b q n h (by omega) u;exact⟨_,e,⟨z,H⟩,q+1,by omega,rfl⟩
theorem CU (r:List Int)(z:∀ y∈r,0<=y/\y<=255)(I:r.length<=9223372036854775807):∃ u:List Int,gv u/\Q142.f K (r,())=some (((u,(0:Int)),()),()):=by
 simp only[Q142.f];by_cases h:(r.length:Int)>2000
 ·rw[decide_eq_true h,decide_eq_true (by omega:(2000:Int)<=(r.length:Int))];exact⟨(r.take 2000).drop 0,⟨λy H=>z y (GJ (by simpa using H)),by simp;omega⟩,rfl⟩
 ·rw[decide_eq_false h];exact⟨r,⟨z,by omega⟩,rfl⟩
theorem zg (h:gv b)(O:bg b m s)(u:Int)(h0:0<=u)(h1:u<=1)(hm:m<=98000):Tot (Q147.f K (s,u,())) λr=>(bw r.1.1/\ak r.1.1.1=u)/\bg b (m+5) r.2.1:=by
 simp only[Q147.f];refine Tot.bind (aD h O 4 (by decide) (by omega)) λH ⟨⟨a1,b1⟩,R⟩=>Tot.bind (aD h R 3 (by decide) (by omega)) λv2 ⟨⟨a2,b2⟩,X⟩=>Tot.bind (aD h X 12 (by decide) (by omega)) λv3 ⟨⟨a3,b3⟩,Y⟩=>Tot.bind (aD h Y 3 (by decide) (by omega)) λv4 ⟨⟨J,M⟩,Z⟩=>Tot.ix2 J M λy z _=>Tot.bind (aD h Z 4 (by decide) (by omega)) λI ⟨⟨a5,b5⟩,s5⟩=>?_
 simp only[Q146.f,FJ];have z:InP y 0 999:=by
  simp only[Gd,Gm,or_false]at z;rcases z with rfl|rfl|rfl <;> constructor <;> omega
 rw[aC (n:=u*4) (by omega) (by omega),aC (n:=u*4+H.1.1) (by omega) (by omega),aC (n:=1+I.1.1) (by omega) (by omega)];refine Tot.ret ⟨⟨⟨⟨?_,?_⟩,z,?_,?_⟩,?_⟩,s5⟩
 ·show (0:Int)<=u*4+H.1.1;omega
 ·show u*4+H.1.1<=7;omega
 ·show (1:Int)<=1+I.1.1;omega
 ·show (1:Int)+I.1.1<=4;omega
 ·show ak (u*4+H.1.1)=u;rw[jO ⟨by omega,by omega⟩];omega
theorem oe (h:gv b)(M:bg b m s)(hm:m<=97000):Tot (Q149.f K (s,())) λr=>bg b (m+8) r.2.1:=by
 simp only[Q149.f];refine Tot.bind (aD h M 2 (by decide) (by omega)) λY ⟨⟨I,b1⟩,O⟩=>Tot.bind (zg h O Y.1.1 I (by omega) (by omega)) λf ⟨_,R⟩=>Tot.bind (aD h R 12 (by decide) (by omega)) λZ ⟨_,H⟩=>?_
 have u:∀ {x y:Int} {G:(Int×Unit)×(List Int×Int)×Unit->Int->Option ((ah×Unit)×(List Int×Int)×Unit)},(∀ v z,Tot (G v z) λr=>r.2.1=v.2.1)->Tot ((Q143.f K (Z.2.1,2,())).bind λv=>(idx [x,y] v.1.1).bind λ_=>(idx [x,y] (FM v.1.1:Nat)).bind (G v)) λr=>bg b (m+8) r.2.1:=λJ=>Tot.bind (aD h H 2 (by decide) (by omega)) λv ⟨⟨a,b⟩,X⟩=>Tot.ix2 a b λz _ _=>(J v z).mono λr e=>by rw[e];exact X.up (by omega)
 refine Tot.cnd (λ_=>u λ_ _=>Tot.ret rfl) λ_=>Tot.cnd (λ_=>u λ_ _=>Tot.ret rfl) λ_=>Tot.cnd (λ_=>u λ_ _=>Tot.ret rfl) λ_=>Tot.cnd (λ_=>Tot.ret (H.up (by omega))) λ_=>Tot.ret (H.up (by omega))
theorem zh (t:List ah)(f:ah):(bZ t f).1.length<=t.length+1:=by
 rcases iF t f with e|e
 ·rw[e];omega
 ·rw[e];exact z9
theorem xB {t:List ah}{f:ah}{z:Int}(h:cn t z)(u:ak f.1=z):cn (bZ t f).1 z:=by
 rcases iF t f with e|e <;> rw[e]
 ·exact h
 ·intro g r;rcases bd.1 r with rfl|⟨r,_⟩
  ·exact u
  ·exact h g r
theorem o8 (h:gv b)(hs:bg b m s)(u:Int)(h0:-1<=u)(h1:u<=1)(hm:m<=96000)(hK:1048577<K):Tot (Q148.f K (s,u,())) λr=>(aE r.1.1/\(0<=u->cn r.1.1 u)/\r.1.1.length<=5)/\bg b (m+31) r.2.1:=by
 simp only[Q148.f,Q148.pre];refine Tot.bind (aD h hs 6 (by decide) (by omega)) λv ⟨⟨v0,v1⟩,s1⟩=>?_
 refine Tot.iter (step:=λrec a=>Q148.s0 K (s,u,()) rec a) (λa=>∃ q:Nat,0<=a.2.1/\aE a.1/\(0<=u->cn a.1 u)/\(a.1.length:Int)+a.2.1<=5/\bg b q a.2.2/\q+6*a.2.1.toNat<=m+31) (λa=>a.2.1.toNat) ?_ K _ (by show v.1.1.toNat<K;omega) ⟨m+1,v0,⟨by simp,List.Pairwise.nil⟩,λ_ f Y=>(nomatch Y),by show ((0:Nat):Int)+v.1.1<=5;omega,s1,by show m+1+6*v.1.1.toNat<=m+31;omega⟩;rintro rec ⟨t,n,s2⟩ ⟨q,n0,O,X,hl,I,hq⟩ ih;simp only at n0 O X hl I hq ih ⊢;simp only[Q148.s0];refine Tot.cnd (λhn=>?_) λ_=>Tot.ret ⟨⟨O,X,by show t.length<=5;omega⟩,I.up (by omega)⟩
 have hn:n>0:=of_decide_eq_true hn;rw[aC (n:=n-1) (by omega) (by omega)];have go:∀ (z:Int) (J:Nat) (M:List Int×Int),0<=z->z<=1->(0<=u->z=u)->bg b J M->J<=q+1->Tot ((Q147.f K (M,z,())).bind λy3=>(Q145.f K (t,y3.1.1,())).bind λy4=>rec (y4.1.1,n-1,y3.2.1.1,y3.2.1.2)) λr=>(aE r.1.1/\(0<=u->cn r.1.1 u)/\r.1.1.length<=5)/\bg b (m+31) r.2.1:=λz J M z0 z1 hz a0 a2=>by
  refine Tot.bind (zg h a0 z z0 z1 (by omega)) λy ⟨⟨Y,Z⟩,a1⟩=>Tot.vl (xh K t y.1.1 (by omega) O.2 hK) (ih (_,_,y.2.1) ⟨J+5,by show 0<=n-1;omega,k8 O Y,λR=>xB (X R) (by rw[Z];exact hz R),?_,a1,by show J+5+6*(n-1).toNat<=m+31;omega⟩ (by show (n-1).toNat<n.toNat;omega))
  have:=zh t y.1.1;show ((bZ t y.1.1).1.length:Int)+(n-1)<=5;omega
 refine Tot.cnd (λH=>?_) λH=>?_
 ·have H:u<0:=of_decide_eq_true H;exact Tot.bind (aD h I 2 (by decide) (by omega)) λv ⟨⟨a,b⟩,M⟩=>go v.1.1 (q+1) v.2.1 a (by omega) (λR=>by omega) M (GD _)
 ·have H:¬ u<0:=of_decide_eq_false H;exact go u q s2 (by omega) h1 (λ_=>rfl) I (by omega)
theorem qY (h:gv b)(R:bg b m s)(hm:m<=95000)(O:1048577<K):Tot (Q150.f K (s,())) λr=>r.1.1.length<=6/\bg b (m+42) r.2.1:=by
 simp only[Q150.f];refine Tot.bind (o8 h R (-1) (by decide) (by decide) (by omega) O) λt ⟨⟨Z,_,hl⟩,J⟩=>?_
 refine Tot.cnd (λI=>?_) λ_=>Tot.ret ⟨by show t.1.1.length<=6;omega,J.up (by omega)⟩
 have I:(t.1.1.length:Int)>0:=of_decide_eq_true I;refine Tot.bind (aD h J 12 (by decide) (by omega)) λv2 ⟨_,M⟩=>Tot.cnd (λ_=>?_) λ_=>Tot.ret ⟨by show t.1.1.length<=6;omega,M.up (by omega)⟩
 refine Tot.bind (aD h M (t.1.1.length:Int) (by omega) (by omega)) λv3 ⟨⟨u,z⟩,X⟩=>Tot.bind (aD h X 3 (by decide) (by omega)) λv4 ⟨_,H⟩=>?_
 refine Tot.cnd (λ_=>Tot.bind (oe h H (by omega)) λf Y=>Tot.ix2 u z λ_ _ _=>Tot.ret ⟨by show (t.1.1.set _ _).length<=6;rw[F3];omega,Y.up (by omega)⟩) λ_=>?_
 refine Tot.cnd (λ_=>Tot.ix2 u z λy _ _=>Tot.fit (Tot.ret ⟨by show (t.1.1++[y]).length<=6;simp;omega,H.up (by omega)⟩) (by omega) (by simp;omega)) λ_=>Tot.ix2 u z λy _ _=>Tot.ret ⟨by show (t.1.1.set _ _).length<=6;rw[F3];omega,H.up (by omega)⟩
theorem BY (h:gv b)(Z:bg b m s)(u:Int)(R:-1<=u)(X:u<=1)(hm:m<=95000)(Y:1048577<K):Tot (Q151.f K (s,u,())) λr=>r.1.1.length<=5/\bg b (m+36) r.2.1:=by
 simp only[Q151.f,Q151.pre];refine Tot.bind (o8 h Z u R X (by omega) Y) λt ⟨⟨hT,_,hl⟩,s1⟩=>?_
 refine Tot.iter (step:=λrec a=>Q151.s0 K (s,u,()) rec a) (λa=>a.2.1=t.1.1/\0<=a.2.2.1/\a.2.2.1<=t.1.1.length/\(a.1.length:Int)=a.2.2.1/\bg b (m+31+a.2.2.1.toNat) a.2.2.2) (λa=>t.1.1.length-a.2.2.1.toNat) ?_ K _ (by show t.1.1.length-FM 0<K;omega) ⟨rfl,by show (0:Int)<=0;omega,by show (0:Int)<=_;omega,rfl,s1⟩;rintro rec ⟨H,t',i,s2⟩ ⟨e,M,i1,J,z⟩ O;simp only at e M i1 J z O ⊢;subst e;simp only[Q151.s0];refine Tot.cnd (λI=>?_) λ_=>Tot.ret ⟨by show H.length<=5;omega,z.up (by omega)⟩
 have I:i<(t.1.1.length:Int):=of_decide_eq_true I;rw[aC (n:=i+1) (by omega) (by omega)];refine Tot.ix2 M I λy _ _=>Tot.bind (aD h z 4 (by decide) (by omega)) λv ⟨_,s3⟩=>Tot.fit (O (_,_,_,v.2.1) ⟨rfl,by show 0<=i+1;omega,by show i+1<=_;omega,?_,s3.up (by show _<=m+31+(i+1).toNat;omega)⟩ (by show t.1.1.length-(i+1).toNat<t.1.1.length-i.toNat;omega)) (by omega) (by simp;omega)
 show ((H++[_]).length:Int)=i+1;simp;omega
theorem xC (h:gv b)(Z:bg b m s)(hm:m<=94000)(Y:1048577<K):Tot (Q152.f K (s,())) λr=>r.1.1.length<=6/\bg b (m+50) r.2.1:=by
 simp only[Q152.f];refine Tot.bind (BY h Z (-1) (by decide) (by decide) (by omega) Y) λt ⟨hl,M⟩=>?_
 refine Tot.cnd (λJ=>?_) λ_=>Tot.ret ⟨by show t.1.1.length<=6;omega,M.up (by omega)⟩
 have J:(t.1.1.length:Int)>0:=of_decide_eq_true J;refine Tot.bind (aD h M 10 (by decide) (by omega)) λv2 ⟨_,O⟩=>Tot.cnd (λ_=>?_) λ_=>Tot.ret ⟨by show t.1.1.length<=6;omega,O.up (by omega)⟩
 refine Tot.bind (aD h O (t.1.1.length:Int) (by omega) (by omega)) λv3 ⟨⟨u,z⟩,s3⟩=>Tot.bind (aD h s3 3 (by decide) (by omega)) λv4 ⟨_,H⟩=>?_
 refine Tot.cnd (λ_=>Tot.bind (aD h H 2 (by decide) (by omega)) λv5 ⟨⟨R,X⟩,I⟩=>Tot.ix2 R X λ_ _ _=>Tot.ix2 u z λ_ _ _=>Tot.ret ⟨by show (t.1.1.set _ _).length<=6;rw[F3];omega,I.up (by omega)⟩) λ_=>?_
 refine Tot.cnd (λ_=>Tot.bind (oe h H (by omega)) λf I=>Tot.ix2 u z λ_ _ _=>Tot.ret ⟨by show (t.1.1.set _ _).length<=6;rw[F3];omega,I.up (by omega)⟩) λ_=>?_
 exact Tot.ix2 u z λy _ _=>Tot.fit (Tot.ret ⟨by show (t.1.1++[y]).length<=6;simp;omega,H.up (by omega)⟩) (by omega) (by simp;omega)
theorem sL (h:gv b)(J:bg b m s)(Z:m<=95000):Tot (Q154.f K (s,())) λr=>bg b (m+6) r.2.1:=by
 simp only[Q154.f,Q153.f];refine Tot.bind (aD h J 6 (by decide) (by omega)) λv1 ⟨_,z⟩=>Tot.cnd (λ_=>Tot.ret (z.up (by omega))) λ_=>Tot.bind (aD h z 3 (by decide) (by omega)) λv3 ⟨⟨H,I⟩,M⟩=>Tot.ix2 H I λy u _=>?_
 have u:InP y 10 100000:=by
  simp only[Gd,Gm,or_false]at u;rcases u with rfl|rfl|rfl <;> constructor <;> omega
 rw[aC (n:=2*y) (by omega) (by omega),aC (n:=2*y+1) (by omega) (by omega),aC (n:=y+1) (by omega) (by omega)];exact Tot.bind (aD h M _ (by omega) (by omega)) λv6 ⟨_,O⟩=>Tot.bind (aD h O _ (by omega) (by omega)) λv7 ⟨_,R⟩=>Tot.bind (aD h R _ (by omega) (by omega)) λv8 ⟨_,X⟩=>Tot.bind (aD h X _ (by decide) (by omega)) λv9 ⟨_,Y⟩=>Tot.ret Y
theorem ni (h:gv b)(z:bg b m s)(I:m<=94000):Tot (Q155.f K (s,())) λr=>bg b (m+8) r.2.1:=by
 simp only[Q155.f];exact Tot.bind (sL h z (by omega)) λc H=>Tot.bind (aD h H 16 (by decide) (by omega)) λJ ⟨_,y⟩=>Tot.cnd (λ_=>Tot.bind (aD h y 3 (by decide) (by omega)) λv ⟨⟨a,b⟩,u⟩=>Tot.ix2 a b λ_ _ _=>Tot.ret u) λ_=>Tot.cnd (λ_=>Tot.bind (aD h y 2 (by decide) (by omega)) λv ⟨⟨a,b⟩,u⟩=>Tot.ix2 a b λ_ _ _=>Tot.ret u) λ_=>Tot.cnd (λ_=>Tot.bind (aD h y 2 (by decide) (by omega)) λv ⟨⟨a,b⟩,u⟩=>Tot.ix2 a b λ_ _ _=>Tot.ret u) λ_=>Tot.ret (y.up (by omega))
theorem zi (h:gv b)(z:bg b m s)(w:bY)(I:m<=95000):Tot (Q244.f K (s,w,())) λr=>bg b (m+2) r.2.1:=by
 simp only[Q244.f];refine Tot.cnd (λ_=>Tot.ret (z.up (by omega))) λy=>?_
 have y:¬ (w.2.1.length:Int)=0:=by simpa using y
 refine Tot.bind (aD h z 3 (by decide) (by omega)) λJ ⟨_,H⟩=>Tot.cnd (λ_=>Tot.cnd (λ_=>Tot.bind (aD h H 4 (by decide) (by omega)) λv ⟨_,u⟩=>Tot.ret u) λ_=>?_) λ_=>?_ <;>
 exact Tot.bind (aD h H _ (by show (1:Int)<=(w.2.1.length:Int);omega) (by omega)) λv ⟨_,u⟩=>Tot.ret u
theorem BZ (h:gv b)(Y:bg b m s)(w:bY)(hm:m<=94000):Tot (Q245.f K (s,w,())) λr=>bg b (m+8) r.2.1:=by
 simp only[Q245.f];refine Tot.bind (aD h Y 8 (by decide) (by omega)) λv1 ⟨_,s1⟩=>Tot.bind (aD h s1 256 (by decide) (by omega)) λv2 ⟨_,s2⟩=>Tot.bind (aD h s2 16 (by decide) (by omega)) λv3 ⟨_,s3⟩=>Tot.bind (aD h s3 40 (by decide) (by omega)) λR ⟨_,y⟩=>?_
 have y:bg b (m+4) R.2.1:=y.up (by omega);generalize R.2.1=z at y ⊢;have u4:bg b (m+8) z:=y.up (by omega);have O:=zi (K:=K) h y w (by omega);have M:∀ n:Int,1<=n->Tot (Q143.f K (z,n,())) λr=>bg b (m+8) r.2.1:=λn H=>(aD h y n H (by omega)).mono λr I=>I.2.up (by omega)
 have Z:∀ (J:List Int×Int) (n:Int),bg b (m+4+2) J->1<=n->Tot (Q143.f K (J,n,())) λr=>bg b (m+8) r.2.1:=λJ n X H=>(aD h X n H (by omega)).mono λr I=>I.2.up (by omega)
 repeat' first
  |exact Tot.ret u4
  |exact Tot.bind O λv u=>Tot.ret (bg.up u (by omega))
  |exact Tot.bind O λv u=>Tot.bind (Z _ _ u (by decide)) λv u=>Tot.ret u
  |exact Tot.bind (M _ (by decide)) λv u=>Tot.ret u
  |exact Tot.bind (M _ (by decide)) λv u=>Tot.cnd (λ_=>Tot.ret u) λ_=>Tot.ret u
  |refine Tot.cnd (λ_=>?_) λ_=>?_
theorem B3 (h:gv b)(hs:bg b m s)(y:Int)(h1:1<=y)(h2:y<=200)(hm:m<=90000)(X:1048577<K):Tot (Q246.f K (s,y,())) λr=>(WI r.1.2.1 2000/\r.1.1.length<=300)/\bg b (m+8*y.toNat+2) r.2.1:=by
 simp only[Q246.f,Q246.pre];have O:∀ (H:List ah) (n:Int) (z:List Int×Int) (w:bY) (q c:Nat),0<=n->n<y->H.length<=24->bg b q z->q<=m+2->WI w c->c<=200->Tot (Q246.l1 K (s,y,()) (H,n,z.1,z.2,w)) λr=>(WI r.1.2.1 2000/\r.1.1.length<=300)/\bg b (m+8*y.toNat+2) r.2.1:=λH n z w q c n0 n1 Y M hq I hc=>by
  refine Tot.iter (step:=λrec a=>Q246.s1 K (s,y,()) rec a) (λa=>∃ q c:Nat,0<=a.2.1/\a.2.1<y/\(a.1.length:Int)+a.2.1<=24+y/\bg b q (a.2.2.1,a.2.2.2.1)/\q+8*a.2.1.toNat<=m+8*y.toNat+2/\WI a.2.2.2.2 c/\c+4*a.2.1.toNat<=2000) (λa=>a.2.1.toNat) ?_ K _ (by show n.toNat<K;omega) ⟨q,c,n0,n1,by show (H.length:Int)+n<=_;omega,M,by show q+8*n.toNat<=_;omega,I,by show c+4*n.toNat<=2000;omega⟩;clear M hq I hc n0 n1 Y;rintro rec ⟨H,n,z1,z2,w⟩ ⟨q,c,n0,n1,Y,M,hq,I,hc⟩ ih;simp only at n0 n1 Y M hq I hc ih ⊢;simp only[Q246.s1];refine Tot.cnd (λhn=>?_) λ_=>Tot.vl (I.copy (by omega) K X) (Tot.ret ⟨⟨I.mono (by omega),by show H.length<=300;omega⟩,M.up (by omega)⟩)
  have hn:n>0:=of_decide_eq_true hn;rw[aC (n:=n-1) (by omega) (by omega)];refine Tot.bind (BZ h M w (by omega)) λe he=>Tot.fit (Tot.vl (I.copy (by omega) K X) (Tot.bind (do_t K w c I (by omega) e.1.1 X) ?_)) (by omega) (by simp;omega)
  rintro⟨⟨v',ok,⟨⟩⟩,⟨⟩⟩ hv;have R:∀ u:bY,WI u (c+4)->Tot (rec (H++[e.1.1],n-1,e.2.1.1,e.2.1.2,u)) λr=>(WI r.1.2.1 2000/\r.1.1.length<=300)/\bg b (m+8*y.toNat+2) r.2.1:=λu hu=>ih _ ⟨q+8,c+4,by show 0<=n-1;omega,by show n-1<y;omega,by show ((H++[e.1.1]).length:Int)+(n-1)<=_;simp;omega,he,by show q+8+8*(n-1).toNat<=_;omega,hu,by show c+4+4*(n-1).toNat<=2000;omega⟩ (by show (n-1).toNat<n.toNat;omega)
  exact Tot.cnd (λ_=>R v' hv) λ_=>R w (I.mono (by omega))
 refine Tot.bind (xA K X) λw0 Z=>Tot.bind (aD h hs 3 (by decide) (by omega)) λv2 ⟨_,s2⟩=>Tot.cnd (λ_=>?_) λ_=>Tot.bind (aD h s2 y h1 (by omega)) λv9 ⟨⟨a9,b9⟩,s9⟩=>O [] v9.1.1 v9.2.1 w0.1.1 (m+2) 8 a9 b9 (by simp) s9 (GD _) Z (by omega)
 refine Tot.iter (step:=λrec a=>Q246.s0 K (s,y,()) (Q246.l1 K (s,y,())) rec a) (λa=>0<=a.2.1/\a.2.1<=8/\(a.1.length:Int)<=3*a.2.1/\bg b (m+1) (a.2.2.1,a.2.2.2.1)/\WI a.2.2.2.2 8) (λa=>8-a.2.1.toNat) ?_ K _ (by show 8-FM 0<K;omega) ⟨by show (0:Int)<=0;omega,by show (0:Int)<=8;omega,by show ((0:Nat):Int)<=3*0;omega,s2,Z⟩;rintro rec ⟨H,i,z1,z2,w⟩ ⟨i0,i1,Y,M,I⟩ ih;simp only at i0 i1 Y M I ih ⊢;simp only[Q246.s0];refine Tot.cnd (λhi=>?_) λ_=>?_
 ·have hi:i<=7:=of_decide_eq_true hi;rw[aC (n:=i+1) (by omega) (by omega)];have R:∀ J:List ah,(J.length:Int)<=3*(i+1)->Tot (rec (J,i+1,z1,z2,w)) λr=>(WI r.1.2.1 2000/\r.1.1.length<=300)/\bg b (m+8*y.toNat+2) r.2.1:=λJ a0=>ih _ ⟨by show 0<=i+1;omega,by show i+1<=8;omega,a0,M,I⟩ (by show 8-(i+1).toNat<8-i.toNat;omega)
  exact Tot.cnd (λ_=>Tot.fit (Tot.fit (R _ (by simp;omega)) (by omega) (by simp;omega)) (by omega) (by simp;omega)) λ_=>R H (by omega)
 ·refine Tot.bind (CT K w 8 H I (by omega) (by omega) X) λv ⟨hv,ev⟩=>Tot.bind (aD h M y h1 (by omega)) λv4 ⟨⟨a4,b4⟩,s4⟩=>?_
  exact O v.2.1 v4.1.1 v4.2.1 v.1.1 (m+1+1) _ a4 b4 (by rw[ev];omega) s4 (by omega) hv (by omega)
theorem B4 (h:gv b)(H:bg b m s)(z:m<=90000)(y:1048577<K):Tot (Q247.f K (s,())) λr=>WI r.1.1 2000/\bg b (m+802) r.2.1:=by
 simp only[Q247.f];exact Tot.bind (B3 h H 100 (by decide) (by decide) z y) λv u=>Tot.ret ⟨u.1.1,u.2⟩
theorem EL (h:gv b)(J:bg b m s)(I:m<=90000)(z:1048577<K):Tot (Q248.f K (s,())) λr=>(∃ i,eN i r.1.1)/\bg b (m+803) r.2.1:=by
 simp only[Q248.f];refine Tot.bind (B4 h J I z) λw ⟨u,O⟩=>Tot.bind (aD h O _ (by have:=u.len;show (1:Int)<=(w.1.1.1.length:Int);omega) (by omega)) λv ⟨⟨a,b⟩,R⟩=>Tot.ix a b λy M _=>Tot.ret ⟨?_,R⟩
 obtain⟨i,H,rfl⟩:=F8 M;exact⟨i,u.node i H⟩
structure NS (c:Nat) (n:aa):Prop where
 nb:NB n
 table:(aa.table n).length<=c
 cast:(aa.cast n).length<=c
 doubts:(aa.doubts n).length<=c
 places:(aa.places n).length<=c
 others:(aa.others n).length<=c
theorem eN.ns {i:Nat}{n:aa}(h:eN i n):NS 8 n:=by
 cases y:n.2.1 with
 |true =>
  have r:=h.up y;refine⟨h.nb,by have:=h.short;omega,by have:=clen r.x.say;omega,?_,?_,?_⟩
  ·exact F1 (jx r.x.say.asc r.x.say.inp) (by decide)
  ·exact F1 (jx r.x.places.2 λx u=>(r.x.places.1 x u).1) (by decide)
  ·exact F1 (jx r.x.others.2 λx u=>⟨(r.x.others.1 x u).1.1,Int.le_trans (r.x.others.1 x u).1.2 (by decide)⟩) (by decide)
 |false =>
  have e:=h.down y;refine⟨h.nb,?_,?_,?_,?_,?_⟩ <;> rw[e] <;> exact F4 _
theorem zj (h:gv b)(hs:bg b m s)(n:aa){c:Nat}(hn:NS c n)(h8:8<=c)(hc:c<=1000)(hm:m<=90000)(hK:1048577<K):Tot (Q156.f K (s,n,())) λr=>NS (c+1) r.1.1/\bg b (m+60) r.2.1:=by
 simp only[Q156.f,zcp4,zcp8];rw[nS K n hn.nb hK];simp only[FJ];obtain⟨⟨n1,n2,n3,M,n5,O,n7,R⟩,Y,Z,l3,l4,l5⟩:=hn;refine Tot.bind (aD h hs 12 (by decide) (by omega)) λv2 ⟨_,I⟩=>?_
 have y:∀ (n':aa) (z:List Int×Int),n'.2.2.2.2.2.2.2.2=n.2.2.2.2.2.2.2.2->bg b (m+60) z->NS (c+1) n'/\bg b (m+60) z:=λn' z e hz=>by
  refine⟨⟨⟨?_,?_,?_,?_,?_,?_,?_,?_⟩,?_,?_,?_,?_,?_⟩,hz⟩ <;> simp only[aa.table,aa.cast,aa.doubts,aa.places,aa.others] <;> rw[e] <;> first|assumption|(refine F1 ?_ (GY c);assumption)
 have u2:bg b (m+60) v2.2.1:=I.up (by omega);refine Tot.cnd (λ_=>Tot.bind (qY h I (by omega) hK) λt ⟨tl,J⟩=>Tot.ret ⟨⟨⟨by show t.1.1.length<=_;omega,n2,n3,M,n5,O,n7,R⟩,by show t.1.1.length<=_;omega,FN Z,FN l3,FN l4,FN l5⟩,J.up (by omega)⟩) λ_=>?_
 refine Tot.cnd (λ_=>Tot.bind (xC h I (by omega) hK) λt ⟨tl,J⟩=>Tot.ret ⟨⟨⟨n1,by show t.1.1.length<=_;omega,n3,M,n5,O,n7,R⟩,FN Y,by show t.1.1.length<=_;omega,FN l3,FN l4,FN l5⟩,J.up (by omega)⟩) λ_=>?_
 refine Tot.cnd (λ_=>Tot.ret (y _ _ rfl u2)) λ_=>?_
 refine Tot.cnd (λ_=>Tot.bind (aD h I 9 (by decide) (by omega)) λv5 ⟨_,s5⟩=>Tot.bind (aD h s5 3 (by decide) (by omega)) λv6 ⟨_,s6⟩=>Tot.bind (aD h s6 3 (by decide) (by omega)) λv7 ⟨_,s7⟩=>Tot.bind (aD h s7 2 (by decide) (by omega)) λv8 ⟨_,s8⟩=>Tot.ret ⟨⟨⟨n1,n2,n3,M,n5,O,n7,R⟩,FN Y,FN Z,FN l3,FN l4,FN l5⟩,s8.up (by omega)⟩) λ_=>?_
 refine Tot.cnd (λ_=>Tot.bind (aD h I 8 (by decide) (by omega)) λv9 ⟨_,X⟩=>Tot.bind (aD h X 8 (by decide) (by omega)) λa1 ⟨_,H⟩=>Tot.fit (Tot.ret ⟨⟨⟨n1,n2,?_,?_,n5,O,n7,R⟩,FN Y,FN Z,?_,FN l4,FN l5⟩,H.up (by omega)⟩) (by omega) ?_) λ_=>?_
 ·show (aa.doubts n++[_]).length<=_;simp;omega
 ·intro d u;rcases FY.1 u with u|u
  ·exact M d u
  ·rw[FQ.1 u];show ([a1.1.1]:List Int).length<=_;simp
 ·show (aa.doubts n++[_]).length<=_;simp;omega
 ·show (aa.doubts n).length+_<=_;simp;omega
 refine Tot.cnd (λ_=>Tot.bind (ni h I (by omega)) λc J=>Tot.ret ⟨⟨⟨n1,n2,n3,M,n5,O,n7,R⟩,FN Y,FN Z,FN l3,FN l4,FN l5⟩,J.up (by omega)⟩) λ_=>?_
 refine Tot.cnd (λ_=>Tot.bind (aD h I 9 (by decide) (by omega)) λv9 ⟨_,X⟩=>Tot.bind (ni h X (by omega)) λc H=>Tot.bind (aD h H 3 (by decide) (by omega)) λa2 ⟨_,a0⟩=>Tot.fit (Tot.ret ⟨⟨⟨n1,n2,n3,M,?_,?_,n7,R⟩,FN Y,FN Z,FN l3,?_,FN l5⟩,a0.up (by omega)⟩) (by omega) ?_) λ_=>?_
 ·show (aa.places n++[_]).length<=_;simp;omega
 ·intro d u;rcases FY.1 u with u|u
  ·exact O d u
  ·rw[FQ.1 u];show ([a2.1.1]:List Int).length<=_;simp
 ·show (aa.places n++[_]).length<=_;simp;omega
 ·show (aa.places n).length+_<=_;simp;omega
 refine Tot.cnd (λ_=>Tot.bind (aD h I 3 (by decide) (by omega)) λv9 ⟨_,X⟩=>Tot.bind (qY h X (by omega) hK) λt ⟨tl,H⟩=>Tot.fit (Tot.ret ⟨⟨⟨n1,n2,n3,M,n5,O,?_,?_⟩,FN Y,FN Z,FN l3,FN l4,?_⟩,H.up (by omega)⟩) (by omega) ?_) λ_=>?_
 ·show (aa.others n++[_]).length<=_;simp;omega
 ·intro d u;rcases FY.1 u with u|u
  ·exact R d u
  ·rw[FQ.1 u];show t.1.1.length<=_;omega
 ·show (aa.others n++[_]).length<=_;simp;omega
 ·show (aa.others n).length+_<=_;simp;omega
 refine Tot.cnd (λ_=>Tot.ret (y _ _ rfl u2)) λ_=>Tot.cnd (λ_=>Tot.ret (y _ _ rfl u2)) λ_=>?_
 refine Tot.cnd (λ_=>Tot.bind (aD h I 3 (by decide) (by omega)) λv ⟨⟨a,b⟩,J⟩=>Tot.ix2 a b λ_ _ _=>Tot.ret (y _ _ rfl (J.up (by omega)))) λ_=>?_
 exact Tot.bind (aD h I 8 (by decide) (by omega)) λv9 ⟨_,X⟩=>Tot.bind (aD h X 3 (by decide) (by omega)) λv ⟨⟨a,b⟩,J⟩=>Tot.ix2 a b λ_ _ _=>Tot.ret (y _ _ rfl (J.up (by omega)))
end
section
variable {K:Nat} {b:List Int} {m:Nat} {s:List Int×Int}
theorem EK (h:gv b)(Y:bg b m s)(hm:m<=89000)(u:1048577<K):Tot (Q249.f K (s,())) λr=>NS 9 r.1.1/\bg b (m+864) r.2.1:=by
 simp only[Q249.f];refine Tot.bind (EL h Y (by omega) u) λn ⟨⟨i,y⟩,Z⟩=>Tot.bind (aD h Z 20 (by decide) (by omega)) λv ⟨_,z⟩=>Tot.cnd (λ_=>Tot.bind (zj h z n.1.1 y.ns (GD _) (by omega) (by omega) u) λr X=>Tot.ret X) λ_=>Tot.ret ⟨?_,z.up (by omega)⟩
 obtain⟨H,I,J,M,O,R⟩:=y.ns;exact⟨H,FN I,FN J,FN M,FN O,FN R⟩
end
theorem bg.zero (b:List Int):bg b 0 (b,0):=⟨0,GD _,rfl⟩
structure zk (code:List Int):Prop where
 byte:∀ y∈code,0<=y/\y<=255
 len:code.length<=9223372036854775807
theorem pB (K:Nat)(xs:List Int)(z:xs.length<=1048576)(y:1048577<K):Q94.f K (xs,xs,())=rb true:=by
 have u:Q94.l0 K (xs,xs,()) 0=rb true:=by
  refine fV (step:=λrec a=>Q94.s0 K (xs,xs,()) rec a) xs.length (λi=>(i:Int)) (rb true) ?_ ?_ (by omega)
  ·intro rec i r;simp only[Q94.s0];rw[decide_eq_true (by omega:(i:Int)<(FK xs:Int)),af r,ar i (by omega)];simp only[cond_true,FJ,bne_self_eq_false,cond_false]
  ·intro rec;simp only[Q94.s0,aS];rfl
 simp only[Q94.f,Q94.pre,bne_self_eq_false,cond_false];exact u
theorem uI (K:Nat)(xs:List aO)(z:xs.length<=1048576)(y:1048577<K):Q93.f K (xs,xs,())=rb true:=by
 have u:Q93.l0 K (xs,xs,()) 0=rb true:=by
  refine fV (step:=λrec a=>Q93.s0 K (xs,xs,()) rec a) xs.length (λi=>(i:Int)) (rb true) ?_ ?_ (by omega)
  ·intro rec i r;simp only[Q93.s0];rw[decide_eq_true (by omega:(i:Int)<(FK xs:Int)),af r,ar i (by omega)];simp only[cond_true,FJ];rw[show Ty.eqv t3 xs[i] xs[i]=true by
    show (Ty.eqv t2 xs[i].1 xs[i].1&&decide (xs[i].2=xs[i].2))=true;rw[show Ty.eqv t2 xs[i].1 xs[i].1=decide (xs[i].1=xs[i].1) from iE _ _,decide_eq_true rfl,decide_eq_true rfl];rfl]
   rfl
  ·intro rec;simp only[Q93.s0,aS];rfl
 simp only[Q93.f,Q93.pre,bne_self_eq_false,cond_false];exact u
theorem vP (K:Nat)(n:aa)(u:NB n)(y:1048577<K):Q95.f K (n,n,())=rb true:=by
 have J:Q95.l2 K (n,n,()) 0=rb true:=by
  have z:=u.others;refine fV (step:=λrec a=>Q95.s2 K (n,n,()) rec a) (aa.others n).length (λi=>(i:Int)) (rb true) ?_ ?_ (by omega)
  ·intro rec i r;simp only[Q95.s2];rw[bt (by omega:(i:Int)<(FK (aa.others n):Int)),af r,ar i (by omega)];simp only[cond_true,FJ,bne_self_eq_false,cond_false];refine (congrArg (λo=>FL o _) (lf K _ (u.facts _ (FV r)) y)).trans rfl
  ·intro rec;simp only[Q95.s2,aS];rfl
 have I:Q95.l1 K (n,n,()) 0=rb true:=by
  have z:=u.places;refine fV (step:=λrec a=>Q95.s1 K (n,n,()) (Q95.l2 K (n,n,())) rec a) (aa.places n).length (λi=>(i:Int)) (rb true) ?_ ?_ (by omega)
  ·intro rec i r;simp only[Q95.s1];rw[bt (by omega:(i:Int)<(FK (aa.places n):Int)),af r,ar i (by omega)];simp only[cond_true,FJ,bne_self_eq_false,cond_false];rw[show Ty.eqv t9 (aa.places n)[i].2.1 (aa.places n)[i].2.1=decide ((aa.places n)[i].2.1=(aa.places n)[i].2.1) from qF _ _,decide_eq_true rfl];simp only[FR,cond_false];refine (congrArg (λo=>FL o _) (pB K _ (u.trips _ (FV r)) y)).trans rfl
  ·intro rec;simp only[Q95.s1,aS];exact J
 have H:Q95.l0 K (n,n,()) 0=rb true:=by
  have z:=u.doubts;refine fV (step:=λrec a=>Q95.s0 K (n,n,()) (Q95.l1 K (n,n,())) rec a) (aa.doubts n).length (λi=>(i:Int)) (rb true) ?_ ?_ (by omega)
  ·intro rec i r;simp only[Q95.s0];rw[bt (by omega:(i:Int)<(FK (aa.doubts n):Int)),af r,ar i (by omega)];simp only[cond_true,FJ,bne_self_eq_false,cond_false];refine (congrArg (λo=>FL o _) (pB K _ (u.by_ _ (FV r)) y)).trans rfl
  ·intro rec;simp only[Q95.s0,aS];exact I
 simp only[Q95.f,Q95.pre,bne_self_eq_false,cond_false];refine (congrArg (λo=>FL o _) (lf K (aa.table n) u.table y)).trans ?_;simp only[rb,FJ,FR,cond_false];refine (congrArg (λo=>FL o _) (uI K (aa.cast n) u.cast y)).trans ?_;simp only[rb,FJ,FR,cond_false];rw[show Ty.eqv t2 n.2.2.2.2.2.2.2.2.2.2.1 n.2.2.2.2.2.2.2.2.2.2.1=decide (aa.probe n=aa.probe n) from iE _ _,show Ty.eqv t9 n.2.2.2.2.2.2.2.2.2.2.2.2.1 n.2.2.2.2.2.2.2.2.2.2.2.2.1=decide (aa.coord n=aa.coord n) from qF _ _,decide_eq_true rfl,decide_eq_true rfl];exact H
theorem EI (K:Nat)(u:List Int)(z:zk u)(I:1048577<K):Tot (Q250.f K (u,())) λr=>NS 9 r.1.1:=by
 obtain⟨H,y,e⟩:=CU (K:=K) u z.byte z.len;simp only[Q250.f];exact Tot.vl e (Tot.bind (EK y (bg.zero H) (by omega) I) λn ⟨J,M⟩=>Tot.bind (aD y M 4096 (by decide) (by omega)) λv ⟨_,O⟩=>Tot.bind (aD y O 4 (by decide) (by omega)) λ_ _=>Tot.ret J)
theorem vQ (K:Nat)(w:aj)(u:(aj.table w).length<=1048576)(r:1048577<K):Q96.f K (w,w,())=rb true:=by
 simp only[Q96.f,beq_self_eq_true,cond_true];rw[show Ty.eqv t9 w.2.2.2.2.2.2.1 w.2.2.2.2.2.2.1=decide (w.2.2.2.2.2.2.1=w.2.2.2.2.2.2.1) from qF _ _,decide_eq_true rfl];simp only[cond_true];exact (congrArg (λo=>FL o _) (lf K (aj.table w) u r)).trans rfl
theorem uJ (K:Nat)(xs:List aj)(H:xs.length<=1048576)(z:∀ w∈xs,(aj.table w).length<=1048576)(u:1048577<K):Q97.f K (xs,xs,())=rb true:=by
 have y:Q97.l0 K (xs,xs,()) 0=rb true:=by
  refine fV (step:=λrec a=>Q97.s0 K (xs,xs,()) rec a) xs.length (λi=>(i:Int)) (rb true) ?_ ?_ (by omega)
  ·intro rec i r;simp only[Q97.s0];rw[bt (by omega:(i:Int)<(FK xs:Int)),af r,ar i (by omega)];simp only[cond_true,FJ];exact (congrArg (λo=>FL o _) (vQ K _ (z _ (FV r)) u)).trans rfl
  ·intro rec;simp only[Q97.s0,aS];rfl
 simp only[Q97.f,Q97.pre,bne_self_eq_false,cond_false];exact y
theorem EJ (K:Nat)(n:aa)(r:Int)(z:NB n)(h:UpN n)(M:n.2.2.1=false)(y:cg n<999999)(u:1048577<K):Q251.f K (n,r,())=some ((ly n,qP n r,()),()):=by
 obtain⟨b,H,_,I⟩:=pm K n z u;have J:=I.2 h.ok;subst J;simp only[Q251.f];rw[H];simp only[rb,FJ,FR,cond_false];rw[nS K n z u];simp only[FJ];rw[CK K n r h M y u];simp only[FJ];rw[nS K _ (rN h y).1.nb u];rfl
theorem EG (K:Nat)(n:aa)(r:Int)(I:NB n)(H:1048577<K):∃ y:aa,∃ u:List aj,NB y/\u.length<=1048576/\(∀ w∈u,(aj.table w).length<=1048576)/\Q251.f K (n,r,())=some ((y,u,()),())/\Q141.f K (n,r,())=some ((y,u,()),()) /\
  (ff n->((n.2.1=true/\n.2.2.1=false/\cg n<999999)/\y=ly n/\u=qP n r)\/(¬ (n.2.1=true/\n.2.2.1=false/\cg n<999999)/\y=n/\u=[])):=by
 obtain⟨y,u,R,X,Y,J,Z⟩:=EE K n r I H;refine⟨y,u,R,X,Y,J,Z,λO=>?_⟩;by_cases z:n.2.1=true/\n.2.2.1=false/\cg n<999999
 ·have:=EJ K n r I (UpN.of O z.1) z.2.1 z.2.2 H;rw[J]at this;simp only[Gi,Gs,and_true]at this;exact .inl ⟨z,this⟩
 ·right;refine⟨z,?_⟩;obtain⟨b,o1,_,o3⟩:=pm K n I H;have hb:=o3.2 O;subst hb;have M:Q234.f K (n,r,())=some ((n,[],()),()):=by
   simp only[Q234.f,zcp4];cases hu:n.2.1 with
   |false=>rfl
   |true =>
    cases hg:n.2.2.1 with
    |true=>rfl
    |false =>
     have:n.2.2.2.2.2.1>=999999:=by by_cases h:n.2.2.2.2.2.1>=999999;exact h;exact absurd ⟨hu,hg,by have e:cg n=n.2.2.2.2.2.1:=rfl;omega⟩ z
     rw[decide_eq_true this];rfl
  have:Q251.f K (n,r,())=some ((n,[],()),()):=by
   simp only[Q251.f];rw[o1];simp only[rb,FJ,FR,cond_false];rw[nS K n I H];simp only[FJ];rw[M];simp only[FJ];rw[nS K n I H];rfl
  rw[J]at this;simp only[Gi,Gs,and_true]at this;exact this
theorem ack_i {R:Type}(K:Nat)(n:aa)(w:aj)(h:UpN n)(M:bX (aj.coord w))(I:InP w.2.2.1 0 7)(z:1048577<K)(G:aa->Option R) :
  (bif (aa.probe n).1==w.2.2.1 then (bif (aa.probe n).2.2.1==w.2.2.2.2.1 then (bif w.2.2.2.2.2.1==w.2.2.1 then ((Q85.f K (n,w,())).bind λO=>G O.2.1) else G n) else G n) else G n)=G (cX K n w):=by
 cases r:(aa.probe n).1==w.2.2.1 with
 |false=>rw[show cX K n w=n by unfold cX jR;rw[r];simp];rfl
 |true =>
  have J:¬ (aa.probe n).1<0:=by rw[beq_iff_eq.1 r];obtain⟨a,b⟩:=I;omega
  cases u:(aa.probe n).2.2.1==w.2.2.2.2.1 with
  |false=>rw[show cX K n w=n by unfold cX jR;rw[u];simp];rfl
  |true =>
   cases y:w.2.2.2.2.2.1==w.2.2.1 with
   |false=>rw[show cX K n w=n by unfold cX jR;rw[y];simp];rfl
   |true =>
    have H:jR n w=true:=by unfold jR;rw[decide_eq_false J,r,u,y];rfl
    simp only[cond_true];exact (congrArg (λo=>FL o _) (xy K n w h M H z)).trans rfl
section
variable {K:Nat} {b:List Int} {m:Nat} {s:List Int×Int}
end
end Go.Proofs.YtmibehbhnkeaiaaGreatEv
