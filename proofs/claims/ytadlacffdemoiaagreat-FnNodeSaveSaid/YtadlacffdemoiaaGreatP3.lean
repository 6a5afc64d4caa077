/- What a node hears, by the specification. -/
import Derived.Test.YtadlacffdemoiaaGreatP2
import Derived.Test.YtadlacffdemoiaaGreatP1
set_option linter.unusedVariables false
set_option linter.unusedSimpArgs false
open Bool renaming not_true->CA,not_false->CK,and_eq_true->CX,eq_iff_iff->CZ,true_and->Cl,and_true->Cs,false_eq_true->Cv,not_eq_true'->Cx,not_eq_true->Cz
open Classical renaming not_not->Ck
open Iff renaming rfl->C6
open Int renaming toNat->B7,toNat_natCast->B8,eq_ofNat_of_zero_le->CG,toNat_zero->CR,tmod->CU,le_refl->Cc,fdiv->Cn,le_trans->Co,toNat_of_nonneg->Cr,tmod_lt_of_pos->Cu,tdiv->Cw,tmod_nonneg->C3
open List renaming length->B4,mem_singleton->B9,getElem_mem->CB,length_append->CC,nil_append->CE,mem_append->CF,length_take->CH,drop_eq_getElem_cons->CJ,length_set->CL,getElem_of_mem->CM,drop_zero->CN,length_nil->CO,mem_map->CP,filter_eq_self->CQ,length_drop->CS,filter_eq_nil_iff->CT,mem_of_mem_take->CW,getElem?_eq_getElem->CY,length_map->Ca,mem_filter->Cb,length_filter_le->Cd,length_cons->Ce,take_length->Cf,append_nil->Cg,length_pos_iff->Ch,pairwise_cons->Ci,take_add_one->Cj,filter_cons->Cm,length_take_le->Cq,filter_append->Ct,ext_getElem->Cy,not_mem_nil->C0,mem_cons->C5
open Nat renaming le_succ_of_le->B5,zero_le->CD,le_trans->CI,le_refl->CV,le_succ->Cp
open Option renaming bind_some->B3,bind->B6,map_some->C4
namespace Go.Proofs.YtadlacffdemoiaaGreatEv
open Go
theorem xW (K:Nat)(x y:Int)(J:1048577<K):Tot (Q157.f K (x,y,())) λ_=>True:=by
 simp only[Q157.f];rw[qT K x,qT K y];simp only[B3];have M:=Aa (tM x);have O:=Aa (tM y);generalize jk x*jk x=a at *;generalize jk y*jk y=b at *;have u:wr .i64 a=a:=aA (by omega) (by omega);have I:wr .i64 b=b:=aA (by omega) (by omega);have z:wr .i64 (a+b)=(((a+b).toNat:Nat):Int):=(aA (by omega) (by omega)).trans (by omega);rw[u,I,z];obtain⟨r,_,H⟩:=By K (a+b).toNat (by omega) J;rw[H];simp only[B3];rw[qT K r];exact⟨_,rfl,trivial⟩
theorem Bz (K:Nat)(c d:dJ)(r:1048577<K):Tot (Q158.f K (c,d,())) λ_=>True:=by
 simp only[Q158.f];exact Tot.bind (iT K c).tot λ_ _=>Tot.cnd (λ_=>Tot.ret trivial) λ_=>Tot.bind (iT K d).tot λ_ _=>Tot.cnd (λ_=>Tot.ret trivial) λ_=>Tot.bind (xW K _ _ r) λ_ _=>Tot.ret trivial
theorem k9 (K:Nat)(n u y:Int)(h:u<=y):Tot (Q152.f K (n,u,y,())) λr=>InP r.1.1 u y:=by
 simp only[Q152.f];exact Tot.cnd (λ_=>Tot.ret ⟨Cc _,h⟩) λz=>Tot.cnd (λ_=>Tot.ret ⟨h,Cc _⟩) λH=>Tot.ret ⟨Int.not_lt.1 (of_decide_eq_false z),Int.not_lt.1 (of_decide_eq_false H)⟩
theorem BA (K:Nat)(c b:dJ)(t s:Int)(H:cN c)(Y:1048577<K):Tot (Q163.f K (c,b,t,s,())) λr=>cN r.1.1:=by
 simp only[Q163.f];refine Tot.bind (iT K c).tot λv M=>Tot.cnd (λh=>?_) λ_=>Tot.bind (iT K b).tot λv M=>Tot.cnd (λ_=>Tot.ret H) λu=>Tot.bind (cM K _ _ _).tot λv' J=>Tot.cnd (λ_=>Tot.ret H) λy=>?_
 ·rw[M.2 H]at h;cases h
 have Z:=M.1 (by simpa using u);have ht:=J.1 (by simpa using y);obtain⟨_,_,_,⟨c1,c2⟩⟩:=H;obtain⟨_,_,_,⟨b1,b2⟩⟩:=Z;obtain⟨t1,t2⟩:=ht;have X:¬ wr .i64 (c.2.2.2+b.2.2.2)=0:=by rw[aA (by omega) (by omega)];omega
 have z:∀ w:Int,Tot (Q162.f K (c,b,w,t,())) λr=>InP r.1.1 1 1500:=λw=>by
  simp only[Q162.f,Q161.f];refine Tot.bind (P:=λ_=>True) (Tot.cnd (λ_=>Tot.ret trivial) λ_=>Tot.ret trivial) λ_ _=>Tot.not (decide_eq_false (show ¬ t=0 by omega)) (Tot.bind (k9 K _ _ _ (by omega)) λ_ _=>Tot.not (decide_eq_false X) (Tot.bind (k9 K _ _ _ (by omega)) λ_ h=>Tot.ret h))
 refine Tot.bind (Bz K c b Y) λ_ _=>?_
 simp only[Q159.f];refine Tot.bind (P:=λ_=>True) (Tot.not (decide_eq_false X) (Tot.ret trivial)) λ_ _=>Tot.bind (xW K _ _ Y) λn _=>Tot.cnd (λ_=>?_) λh=>?_
 ·simp only[Q160.f];refine Tot.bind (P:=λ_=>True) (Tot.cnd (λ_=>Tot.ret trivial) λ_=>Tot.cnd (λ_=>Tot.ret trivial) λ_=>Tot.cnd (λ_=>Tot.ret trivial) λ_=>Tot.ret trivial) λ_ _=>Tot.cnd (λ_=>?_) λ_=>?_ <;>
  exact Tot.bind (k9 K _ _ _ (by omega)) λ_ I=>Tot.bind (k9 K _ _ _ (by omega)) λ_ u=>Tot.bind (k9 K _ _ _ (by omega)) λ_ y=>Tot.bind (z _) λ_ O=>Tot.ret ⟨I,u,y,O⟩
 ·have R:¬ n.1.1=0:=by simpa using h
  refine Tot.cnd (λ_=>?_) λ_=>?_ <;>
  exact Tot.not (decide_eq_false R) (Tot.bind (k9 K _ _ _ (by omega)) λ_ I=>Tot.not (decide_eq_false R) (Tot.bind (k9 K _ _ _ (by omega)) λ_ u=>Tot.bind (k9 K _ _ _ (by omega)) λ_ y=>Tot.bind (z _) λ_ O=>Tot.ret ⟨I,u,y,O⟩))
noncomputable def qe (K:Nat)(c b:dJ)(t s:Int):dJ:=((Q163.f K (c,b,t,s,())).getD (((0,0,0,0),()),())).1.1
noncomputable def sL (K:Nat)(l:List Int):Int:=((Q164.f K (l,())).getD ((0,()),())).1.1
theorem xX (K:Nat)(c b:dJ)(t s:Int)(r:cN c)(u:1048577<K):Q163.f K (c,b,t,s,())=some ((qe K c b t s,()),())/\cN (qe K c b t s):=by
 obtain⟨⟨⟨v,⟨⟩⟩,⟨⟩⟩,e,h⟩:=BA K c b t s r u;unfold qe;rw[e];exact⟨rfl,h⟩
theorem med_t (K:Nat)(l:List Int)(hl:l.length<=100)(hK:1048577<K):Tot (Q164.f K (l,())) λ_=>True:=by
 simp only[Q164.f,Q164.pre];have u:∀ I:List Int,I.length<=100->Tot (Q164.l0 K (l,()) (I,[],0)) λ_=>True:=λI hx=>by
  refine Tot.iter (step:=λrec a=>Q164.s0 K (l,()) (Q164.l1 K (l,()) rec) rec a) (λa=>a.1=I/\0<=a.2.2/\a.2.2<=I.length/\(a.2.1.length:Int)=a.2.2) (λa=>I.length-a.2.2.toNat) ?_ K _ (by show I.length-B7 0<K;omega) ⟨rfl,by show (0:Int)<=0;omega,by show (0:Int)<=_;omega,rfl⟩;rintro rec ⟨ys,H,i⟩ ⟨rfl,X,h1,h2⟩ ih;simp only at X h1 h2 hx ih ⊢;simp only[Q164.s0];obtain⟨i,rfl⟩:=CG X;refine Tot.cnd (λh=>?_) λ_=>Tot.cnd (λ_=>Tot.ret trivial) λh=>?_
  ·have J:=of_decide_eq_true h;clear h;refine Tot.iter (step:=λz a=>Q164.s1 K (l,()) rec z a) (λa=>a.1=ys/\a.2.1=H/\a.2.2.1=i/\0<=a.2.2.2/\a.2.2.2<=H.length) (λa=>H.length-a.2.2.2.toNat) ?_ K _ (by show H.length-B7 0<K;omega) ⟨rfl,rfl,rfl,by show (0:Int)<=0;omega,by show (0:Int)<=_;omega⟩;rintro z ⟨R,r,j,k⟩ ⟨rfl,rfl,e,Y,k1⟩ M;simp only at e Y k1 J h1 h2 hx M ih ⊢;subst e;simp only[Q164.s1];obtain⟨k,rfl⟩:=CG Y;have a0:∀ y:Int,Tot (rec (R,(([]++((r.take (B7 (k:Int))).drop (B7 0)))++([y]))++((r.take (B7 (B4 r:Int))).drop (B7 (k:Int))),wr .i64 ((i:Int)+1))) λ_=>True:=λy=>by
    rw[ar i (by omega)];refine ih _ ⟨rfl,by show (0:Int)<=((i+1:Nat):Int);omega,by show ((i+1:Nat):Int)<=_;omega,?_⟩ (by show R.length-B7 ((i+1:Nat):Int)<R.length-B7 (i:Int);omega);simp only[B8,CR,CN,CE,CC,CH,CS,Ce,CO];omega
   have O:Tot (bif decide (0<=0)&&decide ((0:Int)<=(k:Int))&&decide ((k:Int)<=(B4 r:Int))&&true then (bif decide ((B4 ([]:List (Ty.den (.int .i64)))+B4 ((r.take (B7 (k:Int))).drop (B7 0)))*8<=am) then ((idx R (i:Int)).bind λZ=>bif decide ((B4 ([]++((r.take (B7 (k:Int))).drop (B7 0)))+B4 ([Z]))*8<=am) then (bif decide ((0:Int)<=(k:Int))&&decide ((k:Int)<=(B4 r:Int))&&decide ((B4 r:Int)<=(B4 r:Int))&&true then (bif decide ((B4 (([]++((r.take (B7 (k:Int))).drop (B7 0)))++([Z]))+B4 ((r.take (B7 (B4 r:Int))).drop (B7 (k:Int))))*8<=am) then (rec (R,(([]++((r.take (B7 (k:Int))).drop (B7 0)))++([Z]))++((r.take (B7 (B4 r:Int))).drop (B7 (k:Int))),wr .i64 ((i:Int)+1))) else none) else none) else none) else none) else none) λ_=>True:=by
    refine Tot.must (by simp only[CX,decide_eq_true_eq,Cs];omega) (Tot.fit (Tot.ix X J λy _ _=>Tot.fit (Tot.must (by simp only[CX,decide_eq_true_eq,Cs];omega) (Tot.fit (a0 y) (by omega) ?_)) (by omega) ?_) (by omega) ?_) <;>
    simp only[B8,CR,CN,CE,CC,CH,CS,Ce,CO] <;> omega
   refine Tot.cnd (λh4=>?_) λ_=>O
   have h4:=of_decide_eq_true h4;refine Tot.ix Y h4 λy1 _ _=>Tot.ix X J λy2 _ _=>Tot.cnd (λ_=>?_) λ_=>O
   rw[ar k (by omega)];exact M _ ⟨rfl,rfl,rfl,by show (0:Int)<=((k+1:Nat):Int);omega,by show ((k+1:Nat):Int)<=_;omega⟩ (by show r.length-B7 ((k+1:Nat):Int)<r.length-B7 (k:Int);omega)
  ·have h:¬ (H.length:Int)=0:=by simpa using h
   rw[aA (n:=(H.length:Int)-1) (by omega) (by omega)];have e:Cw ((H.length:Int)-1) 2=((H.length:Int)-1) / 2:=by rw[Int.tdiv_eq_ediv_of_nonneg (by omega)]
   rw[e,aA (by omega) (by omega)];exact Tot.ix (by omega) (by omega) λy _ _=>Tot.ret trivial
 refine Tot.cnd (λh=>?_) λ_=>u l hl
 have h:=of_decide_eq_true h;rw[aA (n:=(l.length:Int)-3) (by omega) (by omega)];exact Tot.must (by simp only[CX,decide_eq_true_eq,Cs];omega) (u _ (by simp only[CS,CH];omega))
theorem med_s (K:Nat)(l:List Int)(r:l.length<=100)(u:1048577<K):Q164.f K (l,())=some ((sL K l,()),()):=by
 obtain⟨⟨⟨v,⟨⟩⟩,⟨⟩⟩,e,_⟩:=med_t K l r u;unfold sL;rw[e];rfl
theorem rO {α A R:Type}(k:α->Int)(x:α)(t:List α)(hA:Asc k t)(Z S1:List α->Nat->A)(I:List α->Option R){step:(A->Option R)->A->Option R}
  (h0:∀ (rec:A->Option R) (r:List α) (i:Nat) (O:i<t.length),r.length=i->(∀ y∈t.take i,k y<k x)->step rec (Z r i)=if k t[i]<k x then rec (Z (r++[t[i]]) (i+1)) else if k t[i]=k x then rec (S1 (r++[x]) (i+1)) else rec (S1 (r++[x]++[t[i]]) (i+1)))
  (h1:∀ (rec:A->Option R) (r:List α) (i:Nat) (O:i<t.length),r.length<=i+1->k x<k t[i]->step rec (S1 r i)=rec (S1 (r++[t[i]]) (i+1)))
  (e0:∀ (rec:A->Option R) (r:List α),r.length=t.length->(∀ y∈t,k y<k x)->step rec (Z r t.length)=I (r++[x]))
  (e1:∀ (rec:A->Option R) (r:List α),r.length<=t.length+1->step rec (S1 r t.length)=I r) {K:Nat} (hK:t.length<K):ae step K (Z [] 0)=I (bD k x t):=by
 have r1:∀ (n i K:Nat) (r:List α),i+n=t.length->n<K->r.length<=i+1->(∀ y∈t.drop i,k x<k y)->ae step K (S1 r i)=I (r++t.drop i):=by
  intro n;induction n with
  |zero =>
   intro i K r O hK M _;obtain⟨K,rfl⟩:∃ X,K=X+1:=⟨K-1,by omega⟩;have:i=t.length:=by omega
   subst this;show step (ae step K) _=_;rw[e1 _ _ M,List.drop_length,Cg]
  |succ n ih =>
   intro i K r O hK M hg;obtain⟨K,rfl⟩:∃ X,K=X+1:=⟨K-1,by omega⟩;have u:i<t.length:=by omega
   rw[CJ u]at hg;show step (ae step K) _=_;rw[h1 _ _ _ u M (hg _ (.head _)),ih (i+1) K _ (by omega) (by omega) (by simp;omega) (λy z=>hg y (.tail _ z)),CJ u];simp
 have H:∀ i (O:i<t.length),∀ y∈t.drop (i+1),k t[i]<k y:=λi O y z=>by
  have:=List.Pairwise.drop (i:=i) hA;rw[CJ O]at this;exact (Ci.1 this).1 y z
 have r0:∀ (n i K:Nat) (r:List α),i+n=t.length->n<K->r=t.take i->(∀ y∈t.take i,k y<k x)->ae step K (Z r i)=I (bD k x t):=by
  intro n;induction n with
  |zero =>
   intro i K r O hK M J;obtain⟨K,rfl⟩:∃ X,K=X+1:=⟨K-1,by omega⟩;have:i=t.length:=by omega
   subst this;rw[Cf]at M J;subst M;show step (ae step K) _=_;rw[e0 _ _ rfl J];unfold bD;rw[CQ.2 (by simpa using J),CT.2 (λy z=>by have:=J y z;simp;omega)]
  |succ n ih =>
   intro i K r O hK M J;obtain⟨K,rfl⟩:∃ X,K=X+1:=⟨K-1,by omega⟩;have u:i<t.length:=by omega
   subst M;have a0:(t.take i).length=i:=by rw[CH];omega
   show step (ae step K) _=_;rw[h0 _ _ _ u a0 J];have Y:k x<=k t[i]->bD k x t=t.take i++x::(t.drop i).filter (λy=>decide (k x<k y)):=λhc=>by
    unfold bD;conv=>lhs;rw[<- List.take_append_drop i t]
    rw[Ct,Ct,CQ.2 (by simpa using J),(CT (l:=t.take i)).2 (λy z=>by have:=J y z;simp;omega),CE];rw[CJ u,Cm,if_neg (by simp;omega),CT.2 (λy z=>by have:=H i u y z;simp;omega),Cg]
   by_cases hc:k t[i]<k x
   ·rw[if_pos hc];refine ih (i+1) K _ (by omega) (by omega) (by rw[Cj,CY u];rfl) λy z=>?_
    rw[Cj,CY u]at z;rcases CF.1 z with z|z
    ·exact J y z
    ·simp at z;rw[z];exact hc
   ·rw[if_neg hc,Y (by omega),CJ u];by_cases he:k t[i]=k x
    ·rw[if_pos he,r1 n (i+1) K _ (by omega) (by omega) (by simp;omega) (λy z=>by have:=H i u y z;omega),Cm,if_neg (by simp;omega),CQ.2 (λy z=>by have:=H i u y z;simp;omega)];simp
    ·rw[if_neg he,r1 n (i+1) K _ (by omega) (by omega) (by simp;omega) (λy z=>by have:=H i u y z;omega),Cm,if_pos (by simp;omega),CQ.2 (λy z=>by have:=H i u y z;simp;omega)];simp
 exact r0 t.length 0 K [] (by omega) hK rfl (by simp)
theorem xY {t:List af}{f:af}(h:∀ g∈t,g.1<f.1):(bY t f).1=t++[f]:=by
 rw[iG (λg r e=>by have:=h g r;omega)];unfold bD;rw[CQ.2 (by simpa using h),CT.2 (λy u=>by have:=h y u;simp;omega)]
theorem qf:∀ {fs t:List af},Asc (λf:af=>f.1) fs->(∀ g∈t,∀ f∈fs,g.1<f.1)->fy t fs=t++fs
 |[],t,_,_=>by simp[fy]
 |f::fs,t,u,h=>by
  show fy (bY t f).1 fs=_;rw[xY (λg r=>h g r f (by simp)),qf (Ci.1 u).2 ?_]
  ·simp
  ·intro g r e y;rcases CF.1 r with r|r
   ·exact h g r e (by simp[y])
   ·rw[B9.1 r];exact (Ci.1 u).1 e y
theorem wt {fs:List af}(h:aw fs):fy [] fs=fs:=by
 rw[qf h.2 (by simp)];rfl
theorem AI (K:Nat)(a b:List af)(r:aw a)(u:aw b)(y:1048577<K):Q143.f K (a,b,())=some ((fy a b,()),()):=by
 simp only[Q143.f,Q143.pre];obtain⟨R,H,M⟩:=gF K a (bR r) y;obtain⟨X,J,I⟩:=gF K b (bR u) y;have:=bR r;have:=bR u;rw[H,J,M.2 r,I.2 u];simp only[B3,CA,cond_false];rw[szb _ _ _ (by omega) (by show (B4 ([]:List af))+a.length<=_;simp;omega)];simp only[cond_true,CE];refine oF a b r u.1 (step:=λrec x=>Q143.s0 K (a,b,()) rec x) (λt=>some ((t,()),())) ?_ ?_ (by omega)
 ·intro rec t i O z;simp only[Q143.s0];rw[bz (by omega:(i:Int)<(B4 b:Int)),ag O,ar i (by omega)];simp only[cond_true,B3];rw[wh K t _ (bR z) z.2 y];rfl
 ·intro rec t;simp only[Q143.s0,aS];rfl
theorem po {u:Int}{l:List ce}(h:dk u l)(s:Int):aw (dp l s):=by
 rcases m9 (l:=l) (s:=s) with e|⟨x,r,_,e⟩ <;> rw[e]
 ·exact⟨by simp,List.Pairwise.nil⟩
 ·exact (h.1 x r).2.2.2.1
theorem olen {u:Int}{l:List ce}(h:dk u l):l.length<=1048576:=CI (jh h.2 λx r=>⟨(h.1 x r).1.1,Co (h.1 x r).1.2 (by decide)⟩) (by decide)
theorem xZ (K:Nat)(n:aa)(s:Int)(t:List af)(h:dk n.1 (aa.others n))(r:aw t)(y:1048577<K):Q144.f K (n,s,t,())=some ((fy (dp (aa.others n) s) t,()),()):=by
 have z:=olen h;refine pV (step:=λrec a=>Q144.s0 K (n,s,t,()) rec a) (aa.others n) s (λl=>some ((fy l t,()),())) ?_ ?_ (aa.others n).length 0 K (by omega) (by omega)
 ·intro rec i u;simp only[Q144.s0];rw[bz (by omega:(i:Int)<(B4 (aa.others n):Int)),ag u,ar i (by omega)];simp only[cond_true,B3];cases (aa.others n)[i].1==s with
  |false=>rfl
  |true=>exact (congrArg (λo=>B6 o _) (AI K _ t (h.1 _ (CB u)).2.2.2.1 r y)).trans rfl
 ·intro rec;simp only[Q144.s0,aS,cond_false];rw[wt r];refine (congrArg (λb=>bif b then _ else _) (szb (B4 ([]:List af)) t.length 32 (by omega) ?_)).trans rfl;have:=bR r;simp;omega
theorem sum_s (K:Nat)(n:aa)(s:Int)(t:List af)(h:dk n.1 (aa.others n))(X:1048577<K):Q145.f K (n,s,t,())=some ((nl n (bD (λx:ce=>x.1) (s,t) (aa.others n)),()),()):=by
 have R:=olen h;refine rO (step:=λrec a=>Q145.s0 K (n,s,t,()) rec a) (λx:ce=>x.1) (s,t) (aa.others n) h.2 (λr i=>(r,false,(i:Int))) (λr i=>(r,true,(i:Int))) (λo=>some ((nl n o,()),())) ?_ ?_ ?_ ?_ (by omega)
 ·intro rec r i I H _;simp only[Q145.s0,zcp4,zcp8];rw[bz (by omega:(i:Int)<(B4 (aa.others n):Int)),ag I,ar i (by omega)];simp only[cond_true,B3,CK];have z:=szb r.length 1 32 (by omega) (by omega);have O:=szb (r++[(s,t)]).length 1 32 (by omega) (by simp;omega);generalize (aa.others n)[i]=y at *;by_cases J:y.1<s
  ·rw[if_pos J,show decide (y.1>=s)=false from decide_eq_false (by omega),show (y.1 != s)=true by simp;omega];exact (congrArg (λb=>bif b then _ else _) z).trans rfl
  ·rw[if_neg J,show decide (y.1>=s)=true from decide_eq_true (by omega)];refine (congrArg (λb=>bif b then _ else _) z).trans ?_;by_cases u:y.1=s
   ·rw[if_pos u,show (y.1 != s)=false by simpa using u];rfl
   ·rw[if_neg u,show (y.1 != s)=true by simpa using u];exact (congrArg (λb=>bif b then _ else _) O).trans rfl
 ·intro rec r i I H M;simp only[Q145.s0,zcp4,zcp8];rw[bz (by omega:(i:Int)<(B4 (aa.others n):Int)),ag I,ar i (by omega)];simp only[cond_true,B3,CA,cond_false];have z:=szb r.length 1 32 (by omega) (by omega);rw[show ((aa.others n)[i].1 != s)=true by simp;have:s<_:=M;omega];exact (congrArg (λb=>bif b then _ else _) z).trans rfl
 ·intro rec r H _;simp only[Q145.s0,zcp4,zcp8,aS,cond_false,CK,cond_true];exact (congrArg (λb=>bif b then _ else _) (szb r.length 1 32 (by omega) (by omega))).trans rfl
 ·intro rec r H;simp only[Q145.s0,zcp4,zcp8,aS,cond_false,CA];rfl
theorem zA (K:Nat)(a b:List af)(Y:a.length<=1048576)(Z:1048577<K):Q146.f K (a,b,())=rb (decide (a≠b)):=by
 simp only[Q146.f,Q146.pre];by_cases I:a.length=b.length
 ·rw[show ((B4 a:Int) != (B4 b:Int))=false by simp;omega];have:=bL (step:=λrec x=>Q146.s0 K (a,b,()) rec x) a.length (λi=>(i:Int)) (λj=>∃ (h:j<a.length) (X:j<b.length),a[j]≠b[j]) (rb false) (λ_=>rb true) ?_ ?_ a.length K 0 (by omega) (by omega)
  ·rcases this with ⟨H,u⟩|⟨j,_,H,⟨y,J,O⟩,_,u⟩
   ·refine (u:Q146.l0 K (a,b,()) 0=_).trans ?_;rw[decide_eq_false];rintro z;exact z (Cy I λi y J=>Ck.1 λR=>H i (CD _) y ⟨y,J,R⟩)
   ·refine (u:Q146.l0 K (a,b,()) 0=_).trans ?_;rw[decide_eq_true];rintro rfl;exact O rfl
  ·intro rec i M;simp only[Q146.s0];rw[bz (by omega:(i:Int)<(B4 a:Int)),ag M,ar i (by omega),ag (show i<b.length by omega)];simp only[cond_true,B3];rw[show Ty.eqv t2 a[i] (b[i]'(by omega))=decide (a[i]=b[i]'(by omega)) from jR _ _];by_cases r:a[i]=b[i]'(by omega)
   ·exact .inl ⟨λ⟨_,_,h⟩=>h r,by rw[decide_eq_true r];rfl⟩
   ·exact .inr ⟨⟨M,by omega,r⟩,by rw[decide_eq_false r];rfl⟩
  ·intro rec;simp only[Q146.s0,aS];rfl
 ·rw[show ((B4 a:Int) != (B4 b:Int))=true by simp;omega,decide_eq_true (show a≠b from λe=>I (by rw[e]))];rfl
theorem qU (K:Nat)(l:List Int)(t:Int)(u:l.length<=1048576):Q153.f K (l,t,())=some ((is l t,()),()):=by
 simp only[Q153.f];rw[szb _ _ _ (by omega) (by show (B4 ([]:List Int))+l.length<=_;simp;omega)];simp only[cond_true,CE];rw[szb _ _ _ (by omega) (by show l.length+[t].length<=_;simp;omega)];simp only[cond_true];have r:(l++[t]).length=l.length+1:=by simp
 show (bif decide (((l++[t]).length:Int)>3) then (bif decide (0<=wr .i64 (((l++[t]).length:Int)-3))&&decide (wr .i64 (((l++[t]).length:Int)-3)<=((l++[t]).length:Int))&&decide (((l++[t]).length:Int)<=((l++[t]).length:Int))&&true then some ((((l++[t]).take (B7 ((l++[t]).length:Int))).drop (B7 (wr .i64 (((l++[t]).length:Int)-3))),()),()) else none) else some ((l++[t],()),()))=_;by_cases h:l.length+1>3
 ·rw[aA (by omega) (by omega),decide_eq_true (by omega:((l++[t]).length:Int)>3),decide_eq_true (by omega:(0:Int)<=((l++[t]).length:Int)-3),decide_eq_true (by omega:((l++[t]).length:Int)-3<=((l++[t]).length:Int)),decide_eq_true (Cc _)];simp only[Bool.and_self,cond_true,is];rw[show B7 (((l++[t]).length:Int)-3)=(l++[t]).length-3 by omega,B8,Cf]
 ·rw[decide_eq_false (by omega:¬ ((l++[t]).length:Int)>3)];simp only[cond_false,is];rw[show (l++[t]).length-3=0 by omega,CN]
theorem plen {u:Int}{l:List dV}(h:eK u l):l.length<=1048576:=CI (jh h.2 λx r=>(h.1 x r).1) (by decide)
theorem uN {y:Int}{l:List dV}(h:eK y l)(r:Int):(dR l r).length<=3:=by
 unfold dR;cases u:l.find? λp=>p.1==r with
 |none=>simp
 |some p =>
  have:=(h.1 p (List.mem_of_find?_eq_some u)).2.2.2.2.1.2;show p.2.2.length<=3;omega
theorem AJ (K:Nat)(l:List dV)(r:Int)(c:dJ)(t:Int)(me:Int)(h:eK me l)(hK:1048577<K):Q154.f K (l,r,c,t,())=some ((pn l r c t,()),()):=by
 have hl:=plen h;have h3:=uN h r;refine rO (step:=λrec a=>Q154.s0 K (l,r,c,t,()) rec a) (λx:dV=>x.1) (r,c,is (dR l r) t) l h.2 (λu i=>(u,false,(i:Int),[])) (λu i=>(u,true,(i:Int),is (dR l r) t)) (λo=>some ((o,()),())) ?_ ?_ ?_ ?_ (by omega)
 ·intro rec u i I J z;simp only[Q154.s0];rw[bz (by omega:(i:Int)<(B4 l:Int)),ag I,ar i (by omega)];simp only[cond_true,B3,CK];have M:=szb u.length 1 64 (by omega) (by omega);have z2:=szb (u++[(r,c,is (dR l r) t)]).length 1 64 (by omega) (by simp;omega);have R:l[i].1=r->dR l r=l[i].2.2:=λe=>by unfold dR;rw[pg h.2 I e];rfl
  have X:r<l[i].1->dR l r=[]:=λe=>by
   unfold dR;rw[od (k:=λp:dV=>p.1)]
   ·rfl
   intro y O;obtain⟨j,hj,rfl⟩:=CM O;by_cases a1:j<i
   ·have:=z l[j] (by rw[List.mem_take_iff_getElem];exact⟨j,by omega,rfl⟩);show l[j].1≠r;have:l[j].1<r:=this;omega
   ·have:l[i].1<=l[j].1:=by
     by_cases e:i=j
     ·subst e;exact Cc _
     ·exact Int.le_of_lt (cI.1 h.2 i j I hj (by omega))
    show l[j].1≠r;omega
  have a0:=(h.1 _ (CB I)).2.2.2.2.1.2;generalize l[i]=y at *;by_cases Y:y.1<r
  ·rw[if_pos Y,show decide (y.1>=r)=false from decide_eq_false (by omega),show (y.1 != r)=true by simp;omega,show (y.1==r)=false by simp;omega];exact (congrArg (λb=>bif b then _ else _) M).trans rfl
  ·rw[if_neg Y,show decide (y.1>=r)=true from decide_eq_true (by omega)];by_cases H:y.1=r
   ·rw[if_pos H,show (y.1 != r)=false by simpa using H,show (y.1==r)=true by simpa using H];simp only[cond_true,cond_false];rw[<- R H];refine (congrArg (λo=>B6 o _) (qU K _ t (by omega))).trans ?_;exact (congrArg (λb=>bif b then _ else _) M).trans rfl
   ·rw[if_neg H,show (y.1 != r)=true by simpa using H,show (y.1==r)=false by simpa using H];simp only[cond_true,cond_false];have e:=X (by omega);rw[e]at z2 ⊢;refine (congrArg (λo=>B6 o _) (qU K [] t (by simp))).trans ?_;refine (congrArg (λb=>bif b then _ else _) M).trans ?_;exact (congrArg (λb=>bif b then _ else _) z2).trans rfl
 ·intro rec u i I J Z;simp only[Q154.s0];rw[bz (by omega:(i:Int)<(B4 l:Int)),ag I,ar i (by omega)];have Z:r<l[i].1:=Z;simp only[cond_true,B3,CA,cond_false];rw[show (l[i].1 != r)=true by simp;omega,show (l[i].1==r)=false by simp;omega];exact (congrArg (λb=>bif b then _ else _) (szb u.length 1 64 (by omega) (by omega))).trans rfl
 ·intro rec u J z;simp only[Q154.s0,aS,cond_false,CK,cond_true];have e:dR l r=[]:=by
   unfold dR;rw[od (k:=λp:dV=>p.1) (λy O=>by have:y.1<r:=z y O;show y.1≠r;omega)];rfl
  rw[e];refine (congrArg (λo=>B6 o _) (qU K [] t (by simp))).trans ?_;exact (congrArg (λb=>bif b then _ else _) (szb u.length 1 64 (by omega) (by omega))).trans rfl
 ·intro rec u J;simp only[Q154.s0,aS,cond_false,CA]
def tN (n r u:Int):Int:=if n<r then r else if n>u then u else n
theorem Ab (K:Nat)(n y z:Int):Q152.f K (n,y,z,())=some ((tN n y z,()),()):=by
 simp only[Q152.f,tN];by_cases r:n<y
 ·rw[decide_eq_true r,if_pos r];rfl
 ·rw[decide_eq_false r,if_neg r];by_cases u:n>z
  ·rw[decide_eq_true u,if_pos u];rfl
  ·rw[decide_eq_false u,if_neg u];rfl
theorem AK {n r u:Int}(h:r<=u):InP (tN n r u) r u:=by
 unfold tN;split
 ·exact⟨Cc _,h⟩
 ·split
  ·exact⟨h,Cc _⟩
  ·exact⟨by omega,by omega⟩
def x3 (n:aa):Int:=tN ((aZ n-(aa.probe n).2.1)*1000+500) 1 60000
noncomputable def qW (K:Nat)(w:an)(c:dJ)(p:dV):dJ:=bif p.1==w.2.2.1 then qe K c (an.coord w) (sL K p.2.2) w.2.2.2.2.1 else c
def kO (n:aa)(w:an):List dV:=pn (aa.places n) w.2.2.1 (an.coord w) (x3 n)
def qX (n:aa)(w:an):Bool:=!decide ((aa.probe n).1<0)&&(aa.probe n).1==w.2.2.1&&(aa.probe n).2.2.1==w.2.2.2.2.1&&w.2.2.2.2.2.1==w.2.2.1
noncomputable def fI (K:Nat)(n:aa)(w:an):aa:=bif qX n w then qb n ((kO n w).foldl (qW K w) (aa.coord n)) (kO n w) else n
theorem vo {K:Nat}{w:an}{c:dJ}{p:dV}(r:cN c)(u:1048577<K):cN (qW K w c p):=by
 unfold qW;cases p.1==w.2.2.1 with
 |false=>exact r
 |true=>exact (xX K c _ _ _ r u).2
theorem tO {n:aa}(h:UpX n)(H:¬ (aa.probe n).1<0):(aa.probe n).1≠n.1/\InP (aa.probe n).1 0 7/\aj (aa.probe n).1=aj n.1/\InP (aa.probe n).2.1 0 (aZ n):=by
 have r:=h.probe;unfold da at r;rw[if_neg (by omega)]at r;obtain⟨y,⟨f,u,e⟩,z,_⟩:=r;exact⟨y,e ▸ (h.table.1 f u).1,e ▸ h.site f u,z⟩
theorem vp {n:aa}{w:an}(h:UpX n)(J:cN (an.coord w))(r:qX n w=true):eK n.1 (kO n w):=by
 simp only[qX,CX,Cx,decide_eq_false_iff_not,beq_iff_eq]at r;obtain⟨⟨⟨H,I⟩,M⟩,O⟩:=r;obtain⟨u,y,z,_⟩:=tO h H;rw[I]at u y z;exact wo h.places y z u J (AK (by decide))
theorem ack_s (K:Nat)(n:aa)(w:an)(h:UpN n)(Y:cN (an.coord w))(J:1048577<K):Q165.f K (n,w,())=some ((fI K n w,()),()):=by
 simp only[Q165.f,Q165.pre,zc00556];have z:qX n w=(!decide ((aa.probe n).1<0)&&(aa.probe n).1==w.2.2.1&&(aa.probe n).2.2.1==w.2.2.2.2.1&&w.2.2.2.2.2.1==w.2.2.1):=rfl;by_cases r:(aa.probe n).1<0
 ·rw[show decide (n.2.2.2.2.2.2.2.2.2.2.1.1<0)=true from decide_eq_true r];rw[show fI K n w=n by unfold fI;rw[z,decide_eq_true r];rfl];rfl
 ·rw[show decide (n.2.2.2.2.2.2.2.2.2.2.1.1<0)=false from decide_eq_false r];cases u:(aa.probe n).1==w.2.2.1 with
  |false =>
   rw[show fI K n w=n by unfold fI;rw[z,decide_eq_false r,u];rfl];rw[show (n.2.2.2.2.2.2.2.2.2.2.1.1 != w.2.2.1)=true by unfold bne;rw[show (n.2.2.2.2.2.2.2.2.2.2.1.1==w.2.2.1)=false from u];rfl];rfl
  |true =>
   rw[show (n.2.2.2.2.2.2.2.2.2.2.1.1 != w.2.2.1)=false by unfold bne;rw[show (n.2.2.2.2.2.2.2.2.2.2.1.1==w.2.2.1)=true from u];rfl];cases H:(aa.probe n).2.2.1==w.2.2.2.2.1 with
   |false =>
    rw[show fI K n w=n by unfold fI;rw[z,decide_eq_false r,u,H];rfl];rw[show (n.2.2.2.2.2.2.2.2.2.2.1.2.2.1 != w.2.2.2.2.1)=true by unfold bne;rw[show (n.2.2.2.2.2.2.2.2.2.2.1.2.2.1==w.2.2.2.2.1)=false from H];rfl];rfl
   |true =>
    rw[show (n.2.2.2.2.2.2.2.2.2.2.1.2.2.1 != w.2.2.2.2.1)=false by unfold bne;rw[show (n.2.2.2.2.2.2.2.2.2.2.1.2.2.1==w.2.2.2.2.1)=true from H];rfl];cases I:w.2.2.2.2.2.1==w.2.2.1 with
    |false =>
     rw[show fI K n w=n by unfold fI;rw[z,decide_eq_false r,u,H,I];rfl];rw[show (w.2.2.2.2.2.1 != w.2.2.1)=true by unfold bne;rw[I];rfl];rfl
    |true =>
     have R:qX n w=true:=by rw[z,decide_eq_false r,u,H,I];rfl
     rw[show (w.2.2.2.2.2.1 != w.2.2.1)=false by unfold bne;rw[I];rfl];have hp:=(tO h.x r).2.2.2;have hn:=h.now1;have O:=vp h.x Y R;simp only[cond_false];rw[show wr .i64 (wr .i64 (wr .i64 (n.2.2.2.2.2.1-n.2.2.2.2.2.2.2.2.2.2.1.2.1)*1000)+500)=(aZ n-(aa.probe n).2.1)*1000+500 by
      obtain⟨p1,p2⟩:=hp;show wr .i64 (wr .i64 (wr .i64 (aZ n-(aa.probe n).2.1)*1000)+500)=_;rw[aA (n:=aZ n-_) (by omega) (by omega),aA (n:=_*1000) (by omega) (by omega),aA (by omega) (by omega)]]
     rw[Ab];simp only[B3];refine (congrArg (λo=>B6 o _) (AJ K (aa.places n) w.2.2.1 (an.coord w) (x3 n) n.1 h.x.places J)).trans ?_;simp only[B3];rw[show fI K n w=qb n ((kO n w).foldl (qW K w) (aa.coord n)) (kO n w) by unfold fI;rw[R];rfl];show Q165.l0 K (n,w,()) (0,(aa.coord n).1,(aa.coord n).2.1,(aa.coord n).2.2.1,(aa.coord n).2.2.2,kO n w)=_;have hl:=plen O;refine jT (step:=λrec a=>Q165.s0 K (n,w,()) rec a) (kO n w) (qW K w) cN (λc i=>((i:Int),c.1,c.2.1,c.2.2.1,c.2.2.2,kO n w)) (λc=>some ((qb n c (kO n w),()),())) (aa.coord n) h.x.coord ?_ ?_ (by omega)
     ·intro rec c i X M;refine⟨?_,vo M J⟩;simp only[Q165.s0,zc00556,zcp8];rw[bz (by omega:(i:Int)<(B4 (kO n w):Int)),B8,ag X,ar i (by omega)];simp only[cond_true,B3];have Z:=(O.1 _ (CB X)).2.2.2.2.1.2;generalize (kO n w)[i]=y at *;unfold qW;cases y.1==w.2.2.1 with
      |false=>rfl
      |true =>
       simp only[cond_true];refine (congrArg (λo=>B6 o _) (med_s K y.2.2 (by omega) J)).trans ?_;refine (congrArg (λo=>B6 o _) (xX K c (an.coord w) (sL K y.2.2) w.2.2.2.2.1 M J).1).trans ?_;rfl
     ·intro rec c M;simp only[Q165.s0,zc00556,zcp8,aS,cond_false];rfl
theorem BB {K:Nat}{n:aa}{w:an}(h:UpN n)(z:cN (an.coord w))(u:1048577<K):UpN (fI K n w)/\(fI K n w).1=n.1/\(fI K n w).2.2.1=n.2.2.1:=by
 unfold fI;cases r:qX n w with
 |false=>exact⟨h,rfl,rfl⟩
 |true=>exact⟨h.heard (jv (Inv:=cN) h.x.coord λc p _ y=>vo y u) (vp h.x z r),rfl,rfl⟩
def kP (n:aa)(w:an):Prop:=n.2.1=true/\n.2.2.1=false/\w.2.2.2.1=n.1/\w.2.2.1≠n.1 /\
 (if w.1=2 then w.2.1=6/\aj w.2.2.1≠aj n.1/\(bV (an.table w) (aj n.1)\/bV (an.table w) (aj w.2.2.1)) else aj w.2.2.1=aj n.1/\(w.2.1≠6\/¬ bV (an.table w) (aj n.1)))
theorem AL (K:Nat)(n:aa)(w:an)(I:(an.table w).length<=1048576)(J:1048577<K):Ret (Q135.f K (n,w,())) (kP n w):=by
 refine (Ret.cndN (P:=¬ n.2.1=true) (b:=!n.2.1) (by simp) λ_=>Ret.cndN (P:=n.2.2.1=true) (b:=n.2.2.1) C6 λ_=>Ret.cndN (P:=w.2.2.2.1≠n.1) (b:=w.2.2.2.1 != n.1) (by simp) λ_=>Ret.cndN (P:=w.2.2.1=n.1) (b:=w.2.2.1==n.1) (by simp) λ_ =>
  (?_:Ret _ (if w.1=2 then w.2.1=6/\aj w.2.2.1≠aj n.1/\(bV (an.table w) (aj n.1)\/bV (an.table w) (aj w.2.2.1)) else aj w.2.2.1=aj n.1/\(w.2.1≠6\/¬ bV (an.table w) (aj n.1))))).iff ?_
 ·refine Ret.vl (eQ K n.1) ?_;obtain⟨H,z,y⟩:=gG K (an.table w) (aj n.1) I J;obtain⟨M,R,O⟩:=gG K (an.table w) (aj w.2.2.1) I J;by_cases u:w.1=2
  ·rw[show (w.1==2)=true by simpa using u,if_pos u];refine Ret.cnd (P:=w.2.1=6) (b:=w.2.1==6) (by simp) λ_=>?_
   refine Ret.cnd (P:=aj w.2.2.1≠aj n.1) (b:=aj w.2.2.1 != aj n.1) (by simp) λ_=>Ret.vl z ?_
   cases H with
   |true=>exact Ret.yes (.inl (y.1 rfl))
   |false =>
    refine Ret.vl R ?_;exact Ret.of (b:=M) (O.trans ⟨.inr,λh=>h.resolve_left λh=>by have:=y.2 h;cases this⟩)
  ·rw[show (w.1==2)=false by simpa using u,if_neg u];refine Ret.cnd (P:=aj w.2.2.1=aj n.1) (b:=aj w.2.2.1==aj n.1) (by simp) λ_=>?_
   by_cases r:w.2.1=6
   ·show Ret (bif w.2.1 != 6 then _ else _) _;rw[show (w.2.1 != 6)=false by simpa using r];refine Ret.vl z (Ret.of (b:=!H) ?_);rw[Cx,<- Cz,y];exact⟨.inr,λh=>h.resolve_left λh=>h r⟩
   ·show Ret (bif w.2.1 != 6 then _ else _) _;rw[show (w.2.1 != 6)=true by simpa using r];exact Ret.yes (.inl r)
 ·unfold kP;rw[Ck,Cz,Ck]
def qg (u:Int)(n:aa)(to y r:Int)(t:List af):an:=(1,u,n.1,to,y,r,aa.coord n,t)
theorem qh (K:Nat)(n:aa)(u to y r:Int)(t:List af)(z:t.length<=1048576):Q147.f K (n,u,to,y,r,t,())=some ((qg u n to y r t,()),()):=by
 simp only[Q147.f];rw[szb _ _ _ (by omega) (by show (B4 ([]:List af))+t.length<=_;simp;omega)];rfl
def mz (t:List af)(s:Int):Bool:=t.all λf=>aj f.1==s
theorem la {t:List af}{s:Int}:mz t s=true<->bV t s:=by simp[mz,bV]
def cq (t:List af):af:=(t.head?).getD (0,0,0,false)
def bO (n:aa)(w:an):List af:=fy (dp (aa.others n) (aj (cq (an.table w)).1)) (an.table w)
def wu (n:aa)(w:an):an:=(2,6,n.1,w.2.2.1,0,n.1,aa.coord n,bO n w)
def sumN (n:aa)(w:an):aa:=nl n (bD (λx:ce=>x.1) (aj (cq (an.table w)).1,bO n w) (aa.others n))
def fg (n:aa)(w:an):aa×List an:=bif mz (an.table w) (aj n.1) then (dC n (an.table w) n.1,[]) else
 (sumN n w,bif w.1==2&&decide (an.table w≠bO n w) then [wu n w] else [])
theorem qi:∀ {fs t:List af} {g:af},g∈fy t fs->g∈t\/g∈fs
 |[],_,_,h=>.inl h
 |f::fs,t,g,h=>by
  rcases qi (fs:=fs) h with h|h
  ·have h:g∈(bY t f).1:=h;rcases ip t f with e|e
   ·rw[e]at h;exact .inl h
   ·rw[e]at h;rcases aW.1 h with rfl|⟨h,_⟩
    ·exact .inr (by simp)
    ·exact .inl h
  ·exact .inr (by simp[h])
theorem qj:∀ {fs t:List af} {g:af},g∈t->∃ z∈fy t fs,z.1=g.1
 |[],_,g,h=>⟨g,h,rfl⟩
 |f::fs,t,g,h=>by
  obtain⟨J,r,u⟩:=nc (f:=f) h;obtain⟨H,y,I⟩:=qj (fs:=fs) r;exact⟨H,y,I.trans u⟩
theorem uO {t:List af}(H:Asc (λg:af=>g.1) t)(f:af):∃ g∈(bY t f).1,g.1=f.1:=by
 by_cases h:∃ g∈t,g.1=f.1
 ·obtain⟨g,r,e⟩:=h;obtain⟨z,u,y⟩:=nc (f:=f) r;exact⟨z,u,y.trans e⟩
 ·rw[iG λg r e=>h ⟨g,r,e⟩];exact⟨f,aW.2 (.inl rfl),rfl⟩
theorem lf {n:aa}{w:an}(h:dk n.1 (aa.others n))(M:aw (an.table w))(u:mp (an.table w)):aw (bO n w)/\bO n w≠[]/\bV (bO n w) (aj (cq (an.table w)).1):=by
 have z:=po h (aj (cq (an.table w)).1);refine⟨rI z M.1,?_,?_⟩
 ·unfold bO;cases y:an.table w with
  |nil=>rw[y]at u;exact u.elim
  |cons f l =>
   obtain⟨g,H,_⟩:=uO (f:=f) (t:=dp (aa.others n) (aj (cq (f::l)).1)) (by rw[y]at z;exact z.2);obtain⟨R,I,_⟩:=qj (fs:=l) H;exact List.ne_nil_of_mem I
 ·intro g r;rcases qi r with r|r
  ·rcases m9 (l:=aa.others n) (s:=aj (cq (an.table w)).1) with e|⟨x,O,J,e⟩
   ·rw[e]at r;cases r
   ·rw[e]at r;rw[<- J];exact (h.1 x O).2.2.2.2 g r
  ·cases y:an.table w with
   |nil=>rw[y]at u;exact u.elim
   |cons f l =>
    rw[y]at u r;exact u g r
theorem vq {x:Int}(h:InP x 0 7):InP (aj x) 0 1:=by
 rw[gN h];obtain⟨u,r⟩:=h;constructor <;> omega
theorem tP {t:List af}(r:mp t)(u:aw t):InP (cq t).1 0 7:=by
 cases t with
 |nil=>exact r.elim
 |cons f l=>exact (u.1 f (by simp)).1
theorem x4 (K:Nat)(n:aa)(w:an)(h:UpN n)(r:aw (an.table w))(z:mp (an.table w))(y:1048577<K):Q148.f K (n,w,())=some (((fg n w).1,(fg n w).2,()),()):=by
 simp only[Q148.f];rw[eQ K n.1];simp only[B3];obtain⟨H,I,J⟩:=gG K (an.table w) (aj n.1) (bR r) y;have M:mz (an.table w) (aj n.1)=H:=by rw[CZ,la,J]
 unfold fg;rw[M];refine (congrArg (λo=>B6 o _) I).trans ?_;simp only[rb,B3];cases H with
 |true =>
  simp only[cond_true];refine (congrArg (λo=>B6 o _) (vh K n (an.table w) n.1 h.learns r.1 (bR r) h.x.me y)).trans rfl
 |false =>
  simp only[cond_false];obtain⟨O,X,Y⟩:=lf (n:=n) h.x.others r z;have u:idx (an.table w) 0=some (cq (an.table w)):=by
   cases R:an.table w with
   |nil=>rw[R]at z;exact z.elim
   |cons f l=>rfl
  refine (congrArg (λo=>B6 o _) u).trans ?_;simp only[B3];rw[eQ K];simp only[B3];refine (congrArg (λo=>B6 o _) (xZ K n (aj (cq (an.table w)).1) (an.table w) h.x.others r y)).trans ?_;simp only[B3];refine (congrArg (λo=>B6 o _) (sum_s K n (aj (cq (an.table w)).1) (bO n w) h.x.others y)).trans ?_;simp only[B3];cases w.1==2 with
  |false=>rfl
  |true =>
   simp only[cond_true,Cl];refine (congrArg (λo=>B6 o _) (zA K (an.table w) (bO n w) (bR r) y)).trans ?_;simp only[rb,B3];cases decide (an.table w≠bO n w) with
   |false=>rfl
   |true =>
    simp only[cond_true];refine (congrArg (λo=>B6 o _) (qh K (sumN n w) 6 w.2.2.1 0 n.1 (bO n w) (bR O))).trans rfl
theorem wv {n:aa}{w:an}(h:UpN n)(z:n.2.2.1=false)(y:aw (an.table w))(r:mp (an.table w)):UpN (fg n w).1/\(fg n w).1.1=n.1/\(fg n w).1.2.2.1=false:=by
 unfold fg;cases u:mz (an.table w) (aj n.1) with
 |true=>exact kN h z y (la.1 u) (fA.me h.x.me)
 |false =>
  obtain⟨J,M,I⟩:=lf (n:=n) h.x.others y r;refine⟨h.setOthers (wn h.x.others (vq (tP r y)) (λe=>?_) M J I),rfl,z⟩;have:bV (an.table w) (aj n.1):=by
   cases H:an.table w with
   |nil=>rw[H]at r;exact r.elim
   |cons f l=>rw[H]at r e;rw[<- e];exact r
  rw[la.2 this]at u;cases u
noncomputable def fH (K:Nat)(n:aa)(w:an):aa×List an :=
 bif w.2.1==1 then (bif aj w.2.2.2.2.2.1 != aj n.1 then (n,[]) else bif w.2.2.2.2.2.1==n.1 then (n,[]) else (gM n,[qg 2 (gM n) w.2.2.2.2.2.1 w.2.2.2.2.1 n.1 (iq n w.2.2.2.2.2.1)]))
 else bif w.2.1==3 then (bif aj w.2.2.2.2.2.1 != aj n.1 then (n,[]) else bif w.2.2.2.2.2.1==n.1 then (n,[]) else bif w.2.2.2.2.2.1==w.2.2.1 then (n,[]) else (gM n,[qg 1 (gM n) w.2.2.2.2.2.1 w.2.2.2.2.1 w.2.2.1 (iq n w.2.2.2.2.2.1)]))
 else bif w.2.1==4 then (n,[qg 5 n w.2.2.1 0 n.1 (aa.table n)]) else bif w.2.1==2 then (fI K n w,[]) else (n,[])
theorem zC (K:Nat)(n:aa)(w:an)(h:UpN n)(z:cN (an.coord w))(r:1048577<K):Q166.f K (n,w,())=some (((fH K n w).1,(fH K n w).2,()),()):=by
 simp only[Q166.f];rw[eQ K n.1];simp only[B3];have u:=qQ K n w.2.2.2.2.2.1 h.x.say r;have y:=bR (kz h.x.say w.2.2.2.2.2.1);unfold fH;cases w.2.1==1 with
 |true =>
  simp only[cond_true];rw[eQ K];simp only[B3];cases aj w.2.2.2.2.2.1 != aj n.1 with
  |true=>rfl
  |false =>
   simp only[cond_false];cases w.2.2.2.2.2.1==n.1 with
   |true=>rfl
   |false =>
    simp only[cond_false];refine (congrArg (λo=>B6 o _) u).trans ?_;simp only[B3];refine (congrArg (λo=>B6 o _) (qh K (gM n) 2 w.2.2.2.2.2.1 w.2.2.2.2.1 n.1 _ y)).trans rfl
 |false =>
  simp only[cond_false];cases w.2.1==3 with
  |true =>
   simp only[cond_true];rw[eQ K];simp only[B3];cases aj w.2.2.2.2.2.1 != aj n.1 with
   |true=>rfl
   |false =>
    simp only[cond_false];cases w.2.2.2.2.2.1==n.1 with
    |true=>rfl
    |false =>
     simp only[cond_false];cases w.2.2.2.2.2.1==w.2.2.1 with
     |true=>rfl
     |false =>
      simp only[cond_false];refine (congrArg (λo=>B6 o _) u).trans ?_;simp only[B3];refine (congrArg (λo=>B6 o _) (qh K (gM n) 1 w.2.2.2.2.2.1 w.2.2.2.2.1 w.2.2.1 _ y)).trans rfl
  |false =>
   simp only[cond_false];cases w.2.1==4 with
   |true=>exact (congrArg (λo=>B6 o _) (qh K n 5 w.2.2.1 0 n.1 (aa.table n) (bR h.x.table))).trans rfl
   |false =>
    simp only[cond_false];cases w.2.1==2 with
    |true=>exact (congrArg (λo=>B6 o _) (ack_s K n w h z r)).trans rfl
    |false=>rfl
theorem x5 {K:Nat}{n:aa}{w:an}(h:UpN n)(u:cN (an.coord w))(r:1048577<K):UpN (fH K n w).1/\(fH K n w).1.1=n.1/\(fH K n w).1.2.2.1=n.2.2.1:=by
 unfold fH;cases w.2.1==1 <;> cases w.2.1==3 <;> cases w.2.1==4 <;> cases w.2.1==2 <;> cases aj w.2.2.2.2.2.1 != aj n.1 <;> cases w.2.2.2.2.2.1==n.1 <;> cases w.2.2.2.2.2.1==w.2.2.1 <;> first|exact⟨h,rfl,rfl⟩|exact⟨h.way,rfl,rfl⟩|exact BB h u r
open Classical in
noncomputable def cP (K:Nat)(n:aa)(w:an):aa×List an :=
 if ft w/\kP n w then (if w.2.1=6 then fg n w else fH K (dC n (an.table w) w.2.2.1) w) else (n,[])
theorem kr {n:aa}{w:an}(H:ft w)(h:kP n w)(y:w.2.1≠6):bV (an.table w) (aj n.1)/\fA n w.2.2.1:=by
 obtain⟨_,_,w3,_,_,_,_,_,u⟩:=H;rw[if_neg y]at u;obtain⟨_,_,_,_,r⟩:=h;by_cases z:w.1=2
 ·rw[if_pos z]at r;exact absurd r.1 y
 ·rw[if_neg z]at r;exact⟨r.1 ▸ u,w3,r.1⟩
theorem BC (K:Nat)(n:aa)(w:an)(h:n.2.1=true->UpN n)(J:(an.table w).length<=1048576)(z:1048577<K):Q167.f K (n,w,())=some (((cP K n w).1,(cP K n w).2,()),()):=by
 simp only[Q167.f];obtain⟨Z,Y,M⟩:=tp K w J z;obtain⟨b2,e2,O⟩:=AL K n w J z;rw[Y];cases Z with
 |false =>
  unfold cP;rw[if_neg λh=>by have:=M.2 h.1;cases this];rfl
 |true =>
  have y:=M.1 rfl;simp only[rb,B3,CA,cond_false];refine (congrArg (λo=>B6 o _) e2).trans ?_;cases b2 with
  |false =>
   unfold cP;rw[if_neg λh=>by have:=O.2 h.2;cases this];rfl
  |true =>
   have H:=O.1 rfl;have I:=h H.1;simp only[rb,B3,CA,cond_false];unfold cP;rw[if_pos ⟨y,H⟩];have r:=y.2.2.2.2.2.2.2.1;by_cases u:w.2.1=6
   ·rw[if_pos u,show (w.2.1==6)=true by simpa using u];have X:=y.2.2.2.2.2.2.2.2;rw[if_pos u]at X;exact (congrArg (λo=>B6 o _) (x4 K n w I r X z)).trans rfl
   ·rw[if_neg u,show (w.2.1==6)=false by simpa using u];obtain⟨hs,R⟩:=kr y H u;have hl:=(kN I H.2.1 r hs R).1;refine (congrArg (λo=>B6 o _) (vh K n (an.table w) w.2.2.1 I.learns r.1 J R.1 z)).trans ?_;exact (congrArg (λo=>B6 o _) (zC K _ w hl y.2.2.2.2.2.2.1 z)).trans rfl
theorem qY {K:Nat}{n:aa}{w:an}(h:UpN n)(X:1048577<K):UpN (cP K n w).1/\(cP K n w).1.1=n.1/\(cP K n w).1.2.2.1=n.2.2.1:=by
 unfold cP;split
 ·rename_i R;obtain⟨y,r⟩:=R;have u:=y.2.2.2.2.2.2.2.1;split
  ·rename_i H;have J:=y.2.2.2.2.2.2.2.2;rw[if_pos H]at J;rw[r.2.1];exact wv h r.2.1 u J
  ·rename_i H;obtain⟨M,O⟩:=kr y r H;have z:=kN h r.2.1 u M O;have I:=x5 (w:=w) z.1 y.2.2.2.2.2.2.1 X;exact⟨I.1,I.2.1.trans z.2.1,I.2.2.trans (z.2.2.trans r.2.1.symm)⟩
 ·exact⟨h,rfl,rfl⟩
theorem qk {K:Nat}{n:aa}{w:an}(h:UpN n)(hK:1048577<K):(cP K n w).2.length<=1/\∀ x∈(cP K n w).2,InP x.2.2.2.1 0 7/\(an.table x).length<=1048576:=by
 unfold cP;split
 ·rename_i Y;obtain⟨u,M⟩:=Y;have y:=u.2.2.2.2.2.2.2.1;split
  ·rename_i z;have I:=u.2.2.2.2.2.2.2.2;rw[if_pos z]at I;obtain⟨R,a2,a3⟩:=lf (n:=n) h.x.others y I;unfold fg;cases mz (an.table w) (aj n.1) with
   |true=>exact⟨by simp,by simp⟩
   |false =>
    simp only[cond_false];cases w.1==2&&decide (an.table w≠bO n w) with
    |false=>exact⟨by simp,by simp⟩
    |true=>exact⟨by simp,λx r=>by rw[B9.1 r];exact⟨u.2.2.1,bR R⟩⟩
  ·rename_i z;obtain⟨hs,O⟩:=kr u M z;have J:=kN h M.2.1 y hs O;have Z:=bR (kz J.1.x.say w.2.2.2.2.2.1);have H:=bR J.1.x.table;have w3:=u.2.2.1;have X:=u.2.2.2.2.2.1;generalize dC n (an.table w) w.2.2.1=m at *;unfold fH;cases w.2.1==1 <;> cases w.2.1==3 <;> cases w.2.1==4 <;> cases w.2.1==2 <;> cases aj w.2.2.2.2.2.1 != aj m.1 <;> cases w.2.2.2.2.2.1==m.1 <;> cases w.2.2.2.2.2.1==w.2.2.1 <;>
    first|exact⟨CV _,λx r=>by rw[B9.1 r];exact⟨X,Z⟩⟩|exact⟨CV _,λx r=>by rw[B9.1 r];exact⟨w3,H⟩⟩|exact⟨CD _,λx r=>nomatch r⟩
 ·exact⟨by simp,by simp⟩
structure ij (n m:aa):Prop where
 ok:cf m
 me:m.1=n.1
 now_:m.2.2.2.2.2.1=n.2.2.2.2.2.1
 seq:m.2.2.2.2.2.2.1=n.2.2.2.2.2.2.1
 turn:m.2.2.2.2.2.2.2.1=n.2.2.2.2.2.2.2.1
 rest:m.2.2.2.2.2.2.2.2.2.2.2.2=n.2.2.2.2.2.2.2.2.2.2.2.2
 by_:∀ d∈aa.doubts m,d.2.2.2.length<=1048576
theorem ij.say {n m:aa}(h:ij n m){f:af}(b:Int)(z:bu f):ij n (sayOf m f b):=by
 obtain⟨y,_,_,_,_,u,H,I,_,r⟩:=dw m f b;exact⟨iH h.ok z,y.trans h.me,u.trans h.now_,H.trans h.seq,I.trans h.turn,r.trans h.rest,zf h.by_⟩
theorem ij.setP {n m:aa}(h:ij n m)(p:af):ij n (setP m p):=⟨h.ok.setP p,h.me,h.now_,h.seq,h.turn,h.rest,h.by_⟩
theorem ij.nb {n m:aa}(h:ij n m)(u:NB n):NB m:=by
 have y:aa.places m=aa.places n:=congrArg (λr=>r.2.1) h.rest;have z:aa.others m=aa.others n:=congrArg (λr=>r.2.2) h.rest;exact⟨h.ok.lt,h.ok.lc,h.ok.ld,h.by_,by rw[y];exact u.places,by rw[y];exact u.trips,by rw[z];exact u.others,by rw[z];exact u.facts⟩
theorem ij.far {n m:aa}(h:ij n m)(u:iv n):iv m:=by
 have y:aa.others m=aa.others n:=congrArg (λr=>r.2.2) h.rest;exact⟨by rw[y];exact u.short,by rw[y];exact u.table⟩
theorem x6 {n:aa}(h:ij n n)(y:∀ d∈aa.doubts n,∃ f∈aa.table n,f.1=d.1):ij n (dO n)/\aa.probe (dO n)=aa.probe n:=by
 have:=jv (st:=cX) (Inv:=λm=>jW (aa.doubts n) n.2.2.2.2.2.1 m/\ij n m/\aa.probe m=aa.probe n) (ds:=aa.doubts n) (n:=n) ⟨⟨h.ok,y,rfl⟩,h,rfl⟩ (λm d u r=>by
  refine⟨lv r.1 u,?_⟩;unfold cX;cases ii m.2.2.2.2.2.1 d.2.2.1 d.2.2.2.length with
  |false=>exact r.2
  |true =>
   have z:=lV (cC r.1.ok.table (r.1.key d u)).1;exact⟨r.2.1.say _ z,(dw m _ _).2.2.2.2.2.2.2.2.1.trans r.2.2⟩)
 exact this.2
theorem uP {n m:aa}(h:ij n m):ij n (bd m).1/\((aa.probe (bd m).1).1=-1\/(aa.probe (bd m).1).1=(aa.probe m).1)/\(bd m).2.length<=2/\∀ w∈(bd m).2,(an.table w).length<=1048576:=by
 unfold bd;cases z:(aa.probe m).1==-1 with
 |true=>exact⟨h,.inr rfl,by simp,by simp⟩
 |false =>
  simp only[cond_false];cases r:cW (aB (aa.table m) (aa.probe m).1) with
  |false=>exact⟨h.setP _,.inl rfl,by simp,by simp⟩
  |true =>
   have u:=cC h.ok.table (eE r);simp only[CA,cond_false];cases decide (m.2.2.2.2.2.1-(aa.probe m).2.1>=4) with
   |true =>
    simp only[cond_true];cases (aB (aa.table m) (aa.probe m).1).2.2.1==1 with
    |true=>exact⟨(h.setP noP).say _ (qO u.1),.inl (congrArg (·.1) (dw (setP m noP) _ _).2.2.2.2.2.2.2.2.1),by simp,by simp⟩
    |false=>exact⟨h.setP _,.inl rfl,by simp,by simp⟩
   |false =>
    simp only[cond_false];cases decide (m.2.2.2.2.2.1-(aa.probe m).2.1>=2) with
    |false=>exact⟨h,.inr rfl,by simp,by simp⟩
    |true =>
     simp only[cond_true];cases (aa.probe m).2.2.2 with
     |true=>exact⟨h,.inr rfl,by simp,by simp⟩
     |false =>
      refine⟨h.setP _,.inr rfl,?_,λw y=>?_⟩
      ·show ((cO m).map (askW m)).length<=2;rw[Ca];exact Cq _ _
      ·obtain⟨to,_,rfl⟩:=CP.1 y;exact CD _
theorem zD {n:aa}(z:iv n)(y:(aa.table n).length<=1048576)(r:Int):(ff n r).length<=2/\∀ w∈ff n r,(an.table w).length<=1048576:=by
 unfold ff;cases aQ .i64 r 3==1 with
 |true =>
  simp only[cond_true,iJ];cases i9 n with
  |false=>exact⟨by simp,by simp⟩
  |true =>
   refine⟨?_,λw u=>?_⟩
   ·show ((([0,1]:List Int).filter (λs=>s != aj n.1)).map _).length<=2;rw[Ca];exact Cd _ _
   ·obtain⟨s,_,rfl⟩:=CP.1 u;exact y
 |false =>
  simp only[cond_false];cases (aQ .i64 r 3==3||decide (cl n=[])) with
  |true=>exact⟨by simp,by simp⟩
  |false =>
   simp only[cond_false];cases aQ .i64 r 3==0 with
   |true =>
    refine⟨by simp,λw u=>?_⟩;rw[cond_true,B9]at u;subst u;exact y
   |false =>
    simp only[cond_false,ni]
    match H:aa.others n with
    |[]=>exact⟨by simp,by simp⟩
    |x::_ =>
     refine⟨by simp,λw u=>?_⟩;rw[B9]at u;subst u;exact (z.table x (by rw[H];simp)).2
def eq (n:aa):aa:=(n.1,n.2.1,n.2.2.1,n.2.2.2.1,n.2.2.2.2.1,n.2.2.2.2.2.1+1,n.2.2.2.2.2.2)
theorem x7 (K:Nat)(n:aa)(z:Int)(Z:NB n)(hP:gu n)(hu:n.2.1=true)(hg:n.2.2.1=false)(a6:¬ n.2.2.2.2.2.1>=999999)(hK:1048577<K) :
  ∃ (y:aa) (O:List an),NB y/\O.length<=1048576/\(∀ w∈O,(an.table w).length<=1048576)/\Q212.f K (n,z,())=some ((y,O,()),())/\Q245.f K (n,z,())=some ((O,()),(y,())):=by
 have hU:=hP.up hu;have hs:=hU.say;obtain⟨hT,_,_,_,a2,hD,_,_,hO⟩:=hU;obtain⟨⟨c4,d2⟩,⟨d3,dc⟩,⟨b4,dd⟩,⟨b3,b2⟩,_⟩:=hP;have d1:=ng ⟨c4,d2⟩ hO;have a5:iv n:=⟨by rcases d1 with e|⟨x,e⟩ <;> rw[e] <;> simp,λx hx=>⟨(hO.1 x hx).2.2.2.1,Z.facts x hx⟩⟩;have bn:ij (eq n) (eq n):=⟨⟨hs.table,hs.cast,hs.asc,hs.inp,hs.lt,hs.lc,hs.ld⟩,rfl,rfl,rfl,rfl,rfl,Z.by_⟩;have c3:NB (eq n):=⟨Z.table,Z.cast,Z.doubts,Z.by_,Z.places,Z.trips,Z.others,Z.facts⟩;have cb:iv (eq n):=⟨a5.short,a5.table⟩;have a4:∀ d∈aa.doubts (eq n),∃ f∈aa.table (eq n),f.1=d.1:=λd hd=>by
  obtain⟨f,hf,e,_⟩:=(hD.1 d hd).1;exact⟨f,hf,e⟩
 have bx:∀ d∈aa.doubts (eq n),0<=d.2.2.1/\d.2.2.1<=(eq n).2.2.2.2.2.1/\d.2.2.2.length<=1048576:=λd hd=>by
  obtain⟨s0,s1⟩:=(hD.1 d hd).2.1;refine⟨s0,?_,Z.by_ d hd⟩;show d.2.2.1<=n.2.2.2.2.2.1+1;omega
 have c1:jW (aa.doubts (eq n)) (eq n).2.2.2.2.2.1 (eq n):=⟨bn.ok,a4,rfl⟩;have a3:(eq n).2.2.2.2.2.1<=1000000:=by show n.2.2.2.2.2.1+1<=1000000;omega
 have eD:=xz K (eq n) c1 bx a3 hK;have eB:=Bp K (eq n) c1 bx a3 hK;obtain⟨X,a0⟩:=x6 bn a4;generalize dO (eq n)=m at eD eB X a0;have a0:aa.probe m=aa.probe n:=a0;have u:((aa.probe m).1=-1\/0<=(aa.probe m).1)/\0<=(aa.probe m).2.1/\(aa.probe m).2.1<=1000000:=by
  rw[a0];unfold da at a2;split at a2
  ·rename_i h1;rw[a2];exact⟨.inl rfl,by show (0:Int)<=0;omega,by show (0:Int)<=1000000;omega⟩
  ·obtain⟨_,⟨f,hf,e⟩,⟨s0,s1⟩,_⟩:=a2;have:=(hT.1 f hf).1.1;exact⟨.inr (e ▸ this),s0,by omega⟩
 have cy:m.2.2.2.2.2.1=n.2.2.2.2.2.1+1:=X.now_;have eF:=zg K m X.ok u.2.1 u.2.2 (by omega) (by omega) hK;have eW:=λcp=>xC K m X.ok cp u.2.1 u.2.2 (by omega) (by omega) hK
 obtain⟨r,a9,b9,b0⟩:=uP X;have R:(aa.probe m).1=-1->bd m=(m,[]):=λh=>by unfold bd;rw[show ((aa.probe m).1==-1)=true by simpa using h];rfl
 generalize Y:bd m=fo at eF eW r a9 b9 b0 R;obtain⟨H,cw⟩:=fo;simp only at eF eW r a9 b9 b0;have b5:∃ (y:aa) (O:List an),Q237.f K (H,())=some ((O,()),(y,()))/\((aa.probe H).1=-1->Q205.f K (H,())=some ((y,O,()),()))/\((aa.probe H).1≠-1->y=H/\O=[])/\NB y/\iv y/\aw (aa.table y)/\O.length<=1/\∀ w∈O,(an.table w).length<=1048576:=by
  have J:=r.nb c3;have Y:=r.far cb;by_cases I:(aa.probe H).1=-1
  ·obtain⟨y,O,e1,e2,h3⟩:=zq K H r.ok I (by rw[r.seq];exact b4) (by rw[r.seq];show n.2.2.2.2.2.2.1<=1000000;omega) (by rw[r.turn];exact b3) (by rw[r.turn];exact b2) hK;refine⟨y,O,e2,λ_=>e1,λh=>absurd I h,?_⟩;rcases h3 with ⟨rfl,rfl⟩|⟨to,rfl,rfl⟩
   ·exact⟨J,Y,r.ok.table,by simp,by simp⟩
   ·have M:=Bv r.ok;refine⟨⟨M.lt,M.lc,M.ld,J.by_,J.places,J.trips,J.others,J.facts⟩,⟨Y.short,Y.table⟩,M.table,by simp,λw bb=>?_⟩;rw[B9]at bb;subst bb;exact bR (kz r.ok to)
  ·refine⟨H,[],?_,λh=>absurd h I,λ_=>⟨rfl,rfl⟩,J,Y,r.ok.table,by simp,by simp⟩;simp only[Q237.f,Q237.pre];rw[show (H.2.2.2.2.2.2.2.2.2.2.1.1 != -1)=true by show ((aa.probe H).1 != -1)=true;simpa using I];rfl
 obtain⟨y,cu,eA,b6,b1,a1,ad,bl,e0,cc⟩:=b5;have ba:=AC K y z a1 ad bl hK;have eM:=xP K y z ad bl a1.table hK;obtain⟨c2,c0⟩:=zD ad a1.table z;generalize ff y z=cx at ba eM c2 c0;have a8:(n.1,n.2.1,n.2.2.1,n.2.2.2.1,n.2.2.2.2.1,wr .i64 (n.2.2.2.2.2.1+1),n.2.2.2.2.2.2)=eq n:=by
  rw[aA (by omega) (by omega)];rfl
 refine⟨y,(cw++cu)++cx,a1,by simp only[CC];omega,λw M=>?_,?_,?_⟩
 ·simp only[CF]at M;rcases M with (M|M)|M
  ·exact b0 w M
  ·exact cc w M
  ·exact c0 w M
 ·simp only[Q212.f,zcp4];rw[a8,hu,hg,decide_eq_false a6];simp only[CA,cond_false];rw[eD];simp only[B3];by_cases I:(aa.probe m).1=-1
  ·obtain⟨rfl,rfl⟩:=Prod.mk.inj (R I);rw[show decide (H.2.2.2.2.2.2.2.2.2.2.1.1>=0)=false from decide_eq_false (by show ¬ (aa.probe H).1>=0;omega),show decide (H.2.2.2.2.2.2.2.2.2.2.1.1<0)=true from decide_eq_true (by show (aa.probe H).1<0;omega)];simp only[cond_true,cond_false];rw[b6 I];simp only[B3];rw[szw _ _ _ (by omega) (by simp only[CO];omega)];simp only[cond_true];rw[eM];simp only[B3];rw[szw _ _ _ (by omega) (by simp only[CC,CO];omega)];rfl
  ·rw[show decide (m.2.2.2.2.2.2.2.2.2.2.1.1>=0)=true from decide_eq_true (by show (aa.probe m).1>=0;omega)];simp only[cond_true];rw[eW I];simp only[B3];by_cases a7:(aa.probe H).1=-1
   ·rw[show decide (H.2.2.2.2.2.2.2.2.2.2.1.1<0)=true from decide_eq_true (by show (aa.probe H).1<0;omega)];simp only[cond_true];rw[b6 a7];simp only[B3];rw[szw _ _ _ (by omega) (by omega)];simp only[cond_true];rw[eM];simp only[B3];rw[szw _ _ _ (by omega) (by simp only[CC];omega)];rfl
   ·rw[show decide (H.2.2.2.2.2.2.2.2.2.2.1.1<0)=false from decide_eq_false (by show ¬ (aa.probe H).1<0;rcases a9 with h|h <;> omega)];obtain⟨rfl,rfl⟩:=b1 a7;simp only[cond_false];rw[eM];simp only[B3];rw[szw _ _ _ (by omega) (by omega),Cg];rfl
 ·simp only[Q245.f,zcp4,Q52.f];rw[a8,hu,hg,decide_eq_false a6];simp only[cond_true,B3,CK,CA,cond_false];rw[eB];simp only[B3];rw[eF];simp only[B3];rw[eA];simp only[B3];rw[szw _ _ _ (by omega) (by omega)];simp only[cond_true];rw[ba];simp only[B3];rw[szw _ _ _ (by omega) (by simp only[CC];omega)];rfl
theorem rP (K:Nat)(n y:aa)(z:List an)(r:Int)(I:NB n)(u:Q50.f K (n,())=rb true)(H:Q245.f K (n,r,())=some ((z,()),(y,())))(J:1048577<K):Q248.f K (n,r,())=some ((y,z,()),()):=by
 simp only[Q248.f,Q247.f];rw[u];simp only[B3,CA,cond_false];rw[tq K n I J];simp only[B3,Q246.f];rw[H];simp only[B3,Q95.f];simp
theorem uQ {n:aa}(h:∀ k,k<8->¬ hM n k):ir n=none:=by
 unfold ir;rw[List.find?_eq_none];intro x r;obtain⟨k,u,rfl⟩:=CP.1 r;have:=h k (by simpa using u);unfold hM at this;simpa using this
theorem uR {n:aa}{k:Nat}(y:k<8)(r:hM n k)(h:∀ j,j<k->¬ hM n j):ir n=some (bk n k):=by
 unfold ir;rw[List.find?_map,List.find?_range_eq_some.2 ⟨?_,by simpa using y,λj u=>?_⟩]
 ·rfl
 ·unfold hM at r;simpa using r
 ·have:=h j u;unfold hM at this;simpa[Classical.or_iff_not_imp_left]using this
theorem vr (K:Nat)(n:aa)(h:cf n)(R:tH n)(J:1048577<K):Q205.f K (n,())=some (((d4 n).1,(d4 n).2,()),()):=by
 obtain⟨⟨Z,Y⟩,⟨t0,t1⟩⟩:=R;obtain⟨to,X,H⟩:=vm K n h t0 t1 J;simp only[Q205.f,zcp4];rw[X];simp only[B3,d4];by_cases r:jy n>=999999
 ·rw[decide_eq_true r,show decide (n.2.2.2.2.2.2.1>=999999)=true from decide_eq_true r];cases decide (to<0) <;> rfl
 ·rw[decide_eq_false r,show decide (n.2.2.2.2.2.2.1>=999999)=false from decide_eq_false r];simp only[cond_false];rcases H with ⟨rfl,I⟩|⟨k,O,u,z,rfl⟩
  ·rw[uQ I];rfl
  ·rw[uR O u z];have M:0<=bk n k/\bk n k<8:=⟨C3 _ (by omega),Cu _ (by omega)⟩;rw[decide_eq_false (by omega:¬ bk n k<0)];simp only[cond_false];rw[qQ K n _ h J];simp only[B3];have y:wr .i64 (jy n+1)=jy n+1:=aA (by omega) (by omega);rw[show wr .i64 ((gM n).2.2.2.2.2.2.1+1)=n.2.2.2.2.2.2.1+1 from y,aA (n:=bk n k+1) (by omega) (by omega)];simp only[Q147.f];rw[szb _ _ _ (by omega) (by have:=bR (kz h (bk n k));simp;omega)];rfl
def iw (w:an):Prop:=InP w.2.2.2.1 0 7/\(an.table w).length<=1048576
theorem tQ {n:aa}(y:aw (aa.table n)):(bd n).2.length<=2/\∀ w∈(bd n).2,iw w:=by
 have r:([]:List an).length<=2/\∀ w∈([]:List an),iw w:=⟨by simp,by simp⟩;unfold bd;cases (aa.probe n).1==-1 with
 |true=>exact r
 |false =>
  cases !cW (aB (aa.table n) (aa.probe n).1) with
  |true=>exact r
  |false =>
   cases decide (n.2.2.2.2.2.1-(aa.probe n).2.1>=4) with
   |true=>exact r
   |false =>
    cases decide (n.2.2.2.2.2.1-(aa.probe n).2.1>=2) with
    |false=>exact r
    |true =>
     cases !(aa.probe n).2.2.2 with
     |false=>exact r
     |true =>
      simp only[cond_true,cond_false];refine⟨by rw[Ca];exact Cq _ _,λw H=>?_⟩;obtain⟨to,u,rfl⟩:=CP.1 H;obtain⟨f,z,rfl⟩:=CP.1 (CW u);exact⟨(y.1 f (Cb.1 z).1).1,CD _⟩
theorem Ac {n:aa}(h:cf n):(d4 n).2.length<=1/\∀ w∈(d4 n).2,iw w:=by
 have r:([]:List an).length<=1/\∀ w∈([]:List an),iw w:=⟨by simp,by simp⟩;unfold d4;cases decide (jy n>=999999) with
 |true=>exact r
 |false =>
  simp only[cond_false];cases u:ir n with
  |none=>exact r
  |some to =>
   refine⟨by simp,λw H=>?_⟩;rw[B9.1 H];obtain⟨y,z,I⟩:=cC h.table (eE (rL u).2);exact⟨z ▸ y.1,bR (kz h to)⟩
theorem BD {n:aa}(H:dk n.1 (aa.others n)){s d:Int}(z:InP s 0 1):InP (ji n s d) 0 7:=by
 unfold ji;cases u:decide (dW (dp (aa.others n) s)≠[])&&aQ .i64 d 4==0 with
 |true =>
  rw[CX,decide_eq_true_eq]at u;have:=(eT (d:=Cn d (2 ^ 3)) u.1).2.2;unfold dW at this;obtain⟨f,I,e⟩:=CP.1 (CW this);simp only[cond_true];show InP (hX (dW (dp (aa.others n) s)) (Cn d (2 ^ 3))) 0 7;unfold dW;rw[<- e];exact ((po H s).1 f (Cb.1 I).1).1
 |false =>
  obtain⟨r,y⟩:=lX (a:=Cn d (2 ^ 3)) (m:=3) (by omega);have r:0<=aQ .i64 (Cn d (2 ^ 3)) 3:=r;have y:aQ .i64 (Cn d (2 ^ 3)) 3<=3:=y;obtain⟨M,J⟩:=z;simp only[cond_false];exact⟨by omega,by omega⟩
theorem vt {n:aa}(I:aw (aa.table n))(J:dk n.1 (aa.others n))(r:Int):(ff n r).length<=2/\∀ w∈ff n r,iw w:=by
 have u:([]:List an).length<=2/\∀ w∈([]:List an),iw w:=⟨by simp,by simp⟩;unfold ff;cases aQ .i64 r 3==1 with
 |true =>
  simp only[cond_true,iJ];cases i9 n with
  |false=>exact u
  |true =>
   refine⟨?_,λw H=>?_⟩
   ·show ((([0,1]:List Int).filter (λs=>s != aj n.1)).map _).length<=2;rw[Ca];exact Cd _ _
   ·obtain⟨s,M,rfl⟩:=CP.1 H;refine⟨BD J ?_,bR I⟩;have:=(Cb.1 M).1;simp at this;rcases this with rfl|rfl <;> exact⟨by decide,by decide⟩
 |false =>
  simp only[cond_false];by_cases y:cl n=[]
  ·rw[decide_eq_true y,Bool.or_true];exact u
  ·rw[decide_eq_false y,Bool.or_false];obtain⟨f,O,e⟩:=CP.1 (eT (d:=Cn r (2 ^ 2)) y).2.2;have z:InP (hX (cl n) (Cn r (2 ^ 2))) 0 7:=by
    rw[<- e];exact (I.1 f (Cb.1 O).1).1
   cases aQ .i64 r 3==3 with
   |true=>exact u
   |false =>
    simp only[cond_false];cases aQ .i64 r 3==0 with
    |true=>exact⟨by simp,λw H=>by rw[B9.1 H];exact⟨z,bR I⟩⟩
    |false =>
     simp only[cond_false,ni]
     match R:aa.others n with
     |[]=>exact u
     |x::_=>exact⟨by simp,λw H=>by rw[B9.1 H];exact⟨z,bR (J.1 x (by rw[R];simp)).2.2.2.1⟩⟩
theorem UpX.far {n:aa}(h:UpX n):iv n:=⟨by rcases ng h.me h.others with e|⟨x,e⟩ <;> rw[e] <;> simp,λx r=>⟨(h.others.1 x r).2.2.2.1,bR (h.others.1 x r).2.2.2.1⟩⟩
theorem rQ {n:aa}(h:UpX n)(J:aZ n<=1000000):((aa.probe n).1=-1\/0<=(aa.probe n).1)/\0<=(aa.probe n).2.1/\(aa.probe n).2.1<=1000000:=by
 have r:=h.probe;have u:aZ n=n.2.2.2.2.2.1:=rfl;unfold da at r;split at r
 ·rename_i H;rw[r];exact⟨.inl rfl,by show (0:Int)<=0;omega,by show (0:Int)<=1000000;omega⟩
 ·obtain⟨_,⟨f,y,e⟩,⟨z,I⟩,_⟩:=r;have:=(h.table.1 f y).1.1;exact⟨.inr (e ▸ this),z,by omega⟩
theorem BE {n:aa}(h:UpN n)(H:aZ n<999999)(r:Int):(oi n r).length<=5/\∀ w∈oi n r,iw w:=by
 have I:=(k8 h.x.later (show cV (db n) from h.self)).1.table;obtain⟨y,M⟩:=tQ I;obtain⟨J,_,_⟩:=qa h H;have z:=(oj h H).1;obtain⟨X,O⟩:=vt z.x.table z.x.others r;have R:(d8 (fG n).1).2.length<=1/\∀ w∈(d8 (fG n).1).2,iw w:=by
  unfold d8;cases (aa.probe (fG n).1).1==-1 with
  |true=>exact Ac J.x.say
  |false=>exact⟨by simp,by simp⟩
 unfold oi;have y:(fG n).2.length<=2:=y;refine⟨by rw[CC,CC];omega,λw u=>?_⟩;rcases CF.1 u with u|u
 ·rcases CF.1 u with u|u
  ·exact M w u
  ·exact R.2 w u
 ·exact O w u
theorem x8 (K:Nat)(n:aa)(H:Int)(h:UpN n)(hg:n.2.2.1=false)(hm:aZ n<999999)(Z:1048577<K):Q212.f K (n,H,())=some ((hY n,oi n H,()),()):=by
 have a3:=h.x.now0;simp only[Q212.f,zcp4];refine (congrArg (λb=>bif !b then _ else _) h.up).trans ?_;refine (congrArg (λb=>bif b then _ else _) hg).trans ?_;refine (congrArg (λb=>bif b then _ else _) (decide_eq_false (show ¬ n.2.2.2.2.2.1>=999999 by have:aZ n=n.2.2.2.2.2.1:=rfl;omega))).trans ?_;simp only[cond_false];rw[show wr .i64 (n.2.2.2.2.2.1+1)=n.2.2.2.2.2.1+1 from aA (by have:aZ n=n.2.2.2.2.2.1:=rfl;omega) (by have:aZ n=n.2.2.2.2.2.1:=rfl;omega)];have hl:UpX (db n):=h.x.later;have a2:∀ d∈aa.doubts (db n),0<=d.2.2.1/\d.2.2.1<=(db n).2.2.2.2.2.1/\d.2.2.2.length<=1048576:=λd hd=>by
  obtain⟨_,⟨s0,s1⟩,_,h4⟩:=hl.doubts.1 d hd;exact⟨s0,s1,CI (jh (k:=λx=>x) h4.2 λx hx=>(h4.1 x hx).1) (by decide)⟩
 have Y:∀ d∈aa.doubts (db n),∃ f∈aa.table (db n),f.1=d.1:=λd hd=>by
  obtain⟨⟨f,hf,e,_⟩,_⟩:=hl.doubts.1 d hd;exact⟨f,hf,e⟩
 have X:(db n).2.2.2.2.2.1<=1000000:=by show aZ n+1<=1000000;omega
 refine (congrArg (λo=>B6 o _) (xz K (db n) ⟨hl.say,Y,rfl⟩ a2 X Z)).trans ?_;simp only[B3];obtain⟨b1,b2,t,c,ds,eb⟩:=k8 hl (show cV (db n) from h.self);have z:tH (fG n).1:=(qa h hm).1.seq;have a1:aZ (dO (db n))=aZ n+1:=by rw[eb];rfl
 have hp:=rQ b1 (by omega);obtain⟨a0,_⟩:=tQ b1.table;have R:=(oj h hm).1;have r:=xP K (hY n) H R.x.far R.x.table (bR R.x.table) Z;have u:=(qa h hm).1;obtain⟨O,_⟩:=Ac u.x.say;obtain⟨y,_⟩:=vt R.x.table R.x.others H;unfold hY d8 fG at r R y;unfold fG at z u O;unfold oi hY d8 fG;generalize dO (db n)=m at *;rcases hp.1 with J|J
 ·have e0:bd m=(m,[]):=by unfold bd;rw[show ((aa.probe m).1==-1)=true by simpa using J];rfl
  rw[e0]at r z u O y ⊢;refine (congrArg (λb=>bif b then _ else _) (decide_eq_false (show ¬ m.2.2.2.2.2.2.2.2.2.2.1.1>=0 by have:(aa.probe m).1=m.2.2.2.2.2.2.2.2.2.2.1.1:=rfl;omega))).trans ?_;refine (congrArg (λb=>bif b then _ else _) (decide_eq_true (show m.2.2.2.2.2.2.2.2.2.2.1.1<0 by have:(aa.probe m).1=m.2.2.2.2.2.2.2.2.2.2.1.1:=rfl;omega))).trans ?_;refine (congrArg (λo=>B6 o _) (vr K m u.x.say z Z)).trans ?_;simp only[B3];rw[show ((aa.probe m).1==-1)=true by simpa using J]at r y ⊢;simp only[cond_true]at r y O ⊢;rw[szw _ _ _ (by omega) (by simp;omega)];simp only[cond_true];refine (congrArg (λo=>B6 o _) r).trans ?_;simp only[B3];rw[szw _ _ _ (by omega) (by simp;omega)];rfl
 ·refine (congrArg (λb=>bif b then _ else _) (decide_eq_true (show m.2.2.2.2.2.2.2.2.2.2.1.1>=0 from J))).trans ?_;refine (congrArg (λo=>B6 o _) (xC K m b1.say (by omega) hp.2.1 hp.2.2 b1.now0 (by have:aZ m=m.2.2.2.2.2.1:=rfl;omega) Z)).trans ?_;simp only[B3];generalize bd m=fo at *;obtain⟨I,ws⟩:=fo;simp only at r z u O y a0 ⊢;have M:=(rQ u.x (by have:=u.now1;omega)).1;rcases M with M|M
  ·refine (congrArg (λb=>bif b then _ else _) (decide_eq_true (show I.2.2.2.2.2.2.2.2.2.2.1.1<0 by have:(aa.probe I).1=I.2.2.2.2.2.2.2.2.2.2.1.1:=rfl;omega))).trans ?_;refine (congrArg (λo=>B6 o _) (vr K I u.x.say z Z)).trans ?_;simp only[B3];rw[show ((aa.probe I).1==-1)=true by simpa using M]at r y ⊢;simp only[cond_true]at r y ⊢;rw[szw _ _ _ (by omega) (by omega)];simp only[cond_true];refine (congrArg (λo=>B6 o _) r).trans ?_;simp only[B3];rw[szw _ _ _ (by omega) (by rw[CC];omega)];rfl
  ·refine (congrArg (λb=>bif b then _ else _) (decide_eq_false (show ¬ I.2.2.2.2.2.2.2.2.2.2.1.1<0 by have:(aa.probe I).1=I.2.2.2.2.2.2.2.2.2.2.1.1:=rfl;omega))).trans ?_;rw[show ((aa.probe I).1==-1)=false by simp;omega]at r y ⊢;simp only[cond_false]at r y ⊢;refine (congrArg (λo=>B6 o _) r).trans ?_;simp only[B3,Cg];rw[szw _ _ _ (by omega) (by omega)];rfl
theorem tR (K:Nat)(l:List af)(f:af)(J:l.length<=1048576)(M:1048577<K):Ret (Q189.f K (l,f,())) (f∈l):=by
 have:=bL (step:=λrec a=>Q189.s0 K (l,f,()) rec a) l.length (λi=>(i:Int)) (λj=>∃ h:j<l.length,l[j]=f) (rb false) (λ_=>rb true) ?_ ?_ l.length K 0 (by omega) (by omega)
 ·rcases this with ⟨y,r⟩|⟨j,_,_,⟨H,I⟩,_,r⟩
  ·refine⟨false,r,?_⟩;refine⟨λh=>absurd h (by decide),λz=>?_⟩;obtain⟨i,u,e⟩:=CM z;exact absurd ⟨u,e⟩ (y i (CD _) u)
  ·exact⟨true,r,λ_=>I ▸ CB H,λ_=>rfl⟩
 ·intro rec i u;simp only[Q189.s0];rw[bz (by omega:(i:Int)<(B4 l:Int)),ag u,ar i (by omega)];simp only[cond_true,B3];rw[jR];by_cases h:l[i]=f
  ·rw[decide_eq_true h];exact .inr ⟨⟨u,h⟩,rfl⟩
  ·rw[decide_eq_false h];exact .inl ⟨λ⟨_,r⟩=>h r,rfl⟩
 ·intro rec;simp only[Q189.s0,aS];rfl
theorem UpN.nb {n:aa}(h:UpN n):NB n where
 table:=bR h.x.table
 cast:=by have:=clen h.x.say;omega
 doubts:=h.x.say.ld
 by_:=λd u=>by have:=(h.learns.by_ d u).len;omega
 places:=plen h.x.places
 trips:=λp y=>by have:=(h.x.places.1 p y).2.2.2.2.1.2;omega
 others:=olen h.x.others
 facts:=λx r=>bR (h.x.others.1 x r).2.2.2.1
def jK (r:Int)(g:Bool):aa:=(r,false,false,g,0,0,0,0,[],[],(0,0,0,false),[],(0,0,0,0),[],[])
structure dL (i:Nat) (n:aa):Prop where
 me:n.1=(i:Int)
 lt:i<8
 up:n.2.1=true->UpN n
 down:n.2.1=false->n=jK n.1 n.2.2.2.1
theorem dL.nb {i:Nat}{n:aa}(h:dL i n):NB n:=by
 cases r:n.2.1 with
 |true=>exact (h.up r).nb
 |false =>
  rw[h.down r];exact⟨by simp[jK,aa.table],by simp[jK,aa.cast],by simp[jK,aa.doubts],by simp[jK,aa.doubts],by simp[jK,aa.places],by simp[jK,aa.places],by simp[jK,aa.others],by simp[jK,aa.others]⟩
theorem dL.short {i:Nat}{n:aa}(h:dL i n):(aa.table n).length<=4:=by
 cases r:n.2.1 with
 |true=>exact uL (h.up r).x.table (h.up r).x.site
 |false=>rw[h.down r];exact CD _
theorem dL.of {i:Nat}{n m:aa}(h:dL i n)(u:UpN m)(e:m.1=n.1):dL i m:=⟨e.trans h.me,h.lt,λ_=>u,λr=>by rw[u.up]at r;cases r⟩
def hZ (l:List lW):Prop:=l.length<=60/\∀ f∈l,InP f.1 0 7/\f.2.1.size<=2000
structure WI (w:cd) (c:Nat):Prop where
 len:w.1.length=8
 node:∀ (i:Nat) (h:i<w.1.length),dL i w.1[i]
 radio:hZ w.2.1
 sides:w.2.2.1.length=8
 born:w.2.2.2.length<=c
theorem WI.mono {w:cd}{c d:Nat}(h:WI w c)(r:c<=d):WI w d:=⟨h.len,h.node,h.radio,h.sides,CI h.born r⟩
theorem WI.put {w:cd}{c:Nat}(h:WI w c){i:Nat}{n:aa}(z:dL i n){rd:List lW}(r:hZ rd){b:List af}{d:Nat}(u:b.length<=d):WI (w.1.set i n,rd,w.2.2.1,b) d:=by
 refine⟨by rw[CL];exact h.len,λj y=>?_,r,h.sides,u⟩;show dL j ((w.1.set i n)[j]'y);rw[List.getElem_set];split
 ·rename_i e;exact e ▸ z
 ·exact h.node j _
theorem x9 (K:Nat)(w:cd)(Y:Int)(u:List an)(hs:w.2.2.1.length=8)(y:InP Y 0 7)(O:∀ x∈u,iw x)(hr:hZ w.2.1)(hl:u.length<=1000)(hK:1048577<K) :
  Tot (Q186.f K (w,Y,u,())) λr=>∃ rd,hZ rd/\r.1.1=(w.1,rd,w.2.2):=by
 simp only[Q186.f,Q186.pre];obtain⟨f0,f1⟩:=y;refine Tot.iter (step:=λrec a=>Q186.s0 K (w,Y,u,()) rec a) (λa=>0<=a.1/\a.1<=u.length/\hZ a.2) (λa=>u.length-a.1.toNat) ?_ K _ (by show u.length-B7 0<K;omega) ⟨by show (0:Int)<=0;omega,by show (0:Int)<=_;omega,hr⟩;rintro rec ⟨i,rd⟩ ⟨I,h1,H⟩ ih;simp only at I h1 H ih ⊢;simp only[Q186.s0];refine Tot.cnd (λh=>?_) λ_=>Tot.ret ⟨rd,H,rfl⟩
 have h:=of_decide_eq_true h;rw[aA (n:=i+1) (by omega) (by omega)];have Z:∀ z,hZ z->Tot (rec (i+1,z)) λr=>∃ rd,hZ rd/\r.1.1=(w.1,rd,w.2.2):=λz X=>ih _ ⟨by show 0<=i+1;omega,by show i+1<=_;omega,X⟩ (by show u.length-B7 (i+1)<u.length-B7 i;omega)
 refine Tot.cnd (λh3=>?_) λ_=>Z rd H
 have h3:=of_decide_eq_true h3;refine Tot.ix f0 (by omega) λ_ _ _=>Tot.ix I h λy2 M _=>?_
 obtain⟨⟨t0,t1⟩,_⟩:=O y2 M;refine Tot.ix t0 (by omega) λ_ _ _=>Tot.cnd (λ_=>Tot.fit (Tot.ix I h λy4 R _=>Tot.ix I h λy5 J _=>Tot.bind (oJ K y5 (O y5 J).2 hK) λv hv=>Tot.fit (Z _ ⟨?_,λf y=>?_⟩) (by omega) ?_) (by omega) ?_) λ_=>Z rd H
 ·simp;omega
 ·rcases CF.1 y with y|y
  ·exact H.2 f (by simpa using y)
  ·rw[B9.1 y];exact⟨(O y4 R).1,by show v.1.1.size<=2000;have:=hv.1;omega⟩
 ·simp;omega
 ·simp;omega
theorem Tot.ins {α:Type}{l:List α}{x:α}{a:Int}{c:Nat}{Q:(List α×Unit)×Unit->Prop}(u:0<=a)(y:a<=l.length)(z:l.length<=1048576)(H:c<=64)(k:∀ r:List α,r.length=l.length+1->Q ((r,()),())) :
  Tot (bif decide ((0:Int)<=0)&&decide (0<=a)&&decide (a<=(B4 l:Int))&&true then (bif decide ((B4 ([]:List α)+B4 ((l.take (B7 a)).drop (B7 0)))*c<=am) then (bif decide ((B4 ([]++((l.take (B7 a)).drop (B7 0)))+B4 ([x]))*c<=am) then (bif decide (0<=a)&&decide (a<=(B4 l:Int))&&decide ((B4 l:Int)<=(B4 l:Int))&&true then (bif decide ((B4 (([]++((l.take (B7 a)).drop (B7 0)))++([x]))+B4 ((l.take (B7 (B4 l:Int))).drop (B7 a)))*c<=am) then (some (((([]++((l.take (B7 a)).drop (B7 0)))++([x]))++((l.take (B7 (B4 l:Int))).drop (B7 a)),()),())) else none) else none) else none) else none) else none) Q:=by
 obtain⟨m,rfl⟩:=CG u;refine Tot.must (by simp;omega) (Tot.fit (Tot.fit (Tot.must (by simp;omega) (Tot.fit (Tot.ret (k _ ?_)) (by omega) ?_)) (by omega) ?_) (by omega) ?_) <;>
 simp only[B8,CR,CN,CE,CC,CH,CS,Ce,CO] <;> omega
theorem zE (K:Nat)(f g:af):Tot (Q187.f K (f,g,())) λ_=>True:=by
 simp only[Q187.f];exact Tot.cnd (λ_=>Tot.ret trivial) λ_=>Tot.bind (tk K g f).tot λ_ _=>Tot.ret trivial
theorem ya (K:Nat)(l:List af)(f:af)(I:l.length<=1048576)(R:1048577<K):Tot (Q188.f K (l,f,())) λr=>r.1.1.length<=l.length+1:=by
 simp only[Q188.f,Q188.pre];refine Tot.iter (A:=Int) (step:=λrec a=>Q188.s0 K (l,f,()) rec a) (λa=>0<=a/\a<=l.length) (λa=>l.length-a.toNat) ?_ K _ (by show l.length-B7 0<K;omega) ⟨by show (0:Int)<=0;omega,by show (0:Int)<=_;omega⟩;rintro rec i ⟨H,z⟩ M;simp only[Q188.s0];have u:=λ (z:i<=l.length)=>Tot.ins (x:=f) (c:=32) (Q:=λr=>r.1.1.length<=l.length+1) H z I (by omega) λr O=>by show r.length<=_;omega
 have y:l.length<=l.length+1:=Cp _;refine Tot.cnd (λh=>?_) λ_=>Tot.cnd (λh=>Tot.ix H (of_decide_eq_true h) λ_ _ _=>Tot.cnd (λ_=>Tot.ret y) λ_=>u z) λ_=>u z
 have h:i<(l.length:Int):=of_decide_eq_true h;rw[aA (n:=i+1) (by omega) (by omega)];refine Tot.ix H h λJ _ _=>Tot.bind (zE K J f) λ_ _=>Tot.cnd (λ_=>M (i+1) ⟨by show 0<=i+1;omega,by show i+1<=(l.length:Int);omega⟩ (by show l.length-B7 (i+1)<l.length-B7 i;omega)) λ_=>Tot.cnd (λ_=>Tot.ix H h λ_ _ _=>Tot.cnd (λ_=>Tot.ret y) λ_=>u z) λ_=>u z
theorem Ad (K:Nat)(w:cd)(z y u:List af)(R:z.length<=1048576)(X:y.length<=1048576)(h3:u.length<=100)(hb:w.2.2.2.length<=1000000)(J:1048577<K) :
  Tot (Q190.f K (w,z,y,u,())) λr=>∃ b,b.length<=w.2.2.2.length+u.length/\r.1.1=(w.1,w.2.1,w.2.2.1,b):=by
 simp only[Q190.f,Q190.pre];refine Tot.iter (step:=λrec a=>Q190.s0 K (w,z,y,u,()) rec a) (λa=>0<=a.1/\a.1<=u.length/\(a.2.length:Int)<=w.2.2.2.length+a.1) (λa=>u.length-a.1.toNat) ?_ K _ (by show u.length-B7 0<K;omega) ⟨by show (0:Int)<=0;omega,by show (0:Int)<=_;omega,by show (w.2.2.2.length:Int)<=w.2.2.2.length+0;omega⟩;rintro rec ⟨i,b⟩ ⟨H,i1,Y⟩ O;simp only at H i1 Y O ⊢;simp only[Q190.s0];refine Tot.cnd (λh=>?_) λ_=>Tot.ret ⟨b,by omega,rfl⟩
 have h:=of_decide_eq_true h;rw[aA (n:=i+1) (by omega) (by omega)];have M:∀ I:List af,I.length<=b.length+1->Tot (rec (i+1,I)) λr=>∃ b,b.length<=w.2.2.2.length+u.length/\r.1.1=(w.1,w.2.1,w.2.2.1,b):=λI a0=>O _ ⟨by show 0<=i+1;omega,by show i+1<=_;omega,by show (I.length:Int)<=_+(i+1);omega⟩ (by show u.length-B7 (i+1)<u.length-B7 i;omega)
 refine Tot.ix H h λy1 _ _=>Tot.bind (tR K z y1 R J).tot λ_ _=>Tot.cnd (λ_=>?_) λ_=>M b (Cp _)
 refine Tot.ix H h λZ _ _=>Tot.bind (tR K y Z X J).tot λ_ _=>Tot.cnd (λ_=>?_) λ_=>M b (Cp _)
 exact Tot.ix H h λy5 _ _=>Tot.bind (ya K b y5 (by omega) J) λv hv=>M v.1.1 hv
structure Ae (w:cd) (i:Nat) (n:aa) (ws:List an) (heard:List af) (c:Nat):Prop where
 wi:WI w c
 lt:i<8
 n:dL i n
 sent:∀ x∈ws,iw x
 wl:ws.length<=1000
 hl:heard.length<=1048576
 c:c<=1000000
theorem set_t (K:Nat)(w:cd)(i:Nat)(n:aa)(H:List an)(u:List af)(c:Nat)(h:Ae w i n H u c)(I:1048577<K):Tot (Q191.f K ((w,i),n,H,u,())) λr=>WI r.1.1 (c+4):=by
 simp only[Q191.f];have z:i<w.1.length:=by rw[h.wi.len];exact h.lt
 have O:=h.c;have M:=h.wi.born;have J:=h.n.short;rw[h.n.me];refine Tot.vl (ag z) (Tot.vl (by rw[B8];exact ag z) (Tot.vl (ag z) (Tot.vl (by rw[B8];exact ag z) ?_)));refine Tot.must (by simp) ?_;rw[B8];refine Tot.bind (Ad K (w.1.set i n,w.2) (aa.table w.1[i]) u (aa.table n) (h.wi.node i z).nb.table h.hl (by omega) (by show w.2.2.2.length<=_;omega) I) ?_;rintro⟨⟨v,⟨⟩⟩,⟨⟩⟩ ⟨b,y,rfl⟩;refine Tot.bind (x9 K (w.1.set i n,w.2.1,w.2.2.1,b) (i:Int) H h.wi.sides ⟨by omega,by have:=h.lt;omega⟩ h.sent h.wi.radio h.wl I) ?_;rintro⟨⟨v,⟨⟩⟩,⟨⟩⟩ ⟨rd,hr,rfl⟩;have y:b.length<=w.2.2.2.length+(aa.table n).length:=y;exact Tot.ret (h.wi.put h.n hr (by omega))
theorem BF (K:Nat)(w:cd)(i:Nat)(n:aa)(H:List an)(u:List af)(c:Nat)(h:Ae w i n H u c)(I:1048577<K):Tot (Q194.f K (w,n,H,u,())) λr=>WI r.1.1 (c+4):=by
 simp only[Q194.f];have z:i<w.1.length:=by rw[h.wi.len];exact h.lt
 have O:=h.c;have M:=h.wi.born;have J:=h.n.short;rw[h.n.me];refine Tot.vl (ag z) (Tot.vl (by rw[B8];exact ag z) (Tot.vl (ag z) (Tot.vl (by rw[B8];exact ag z) ?_)));rw[B8];refine Tot.bind (Ad K (w.1.set i n,w.2) (aa.table w.1[i]) u (aa.table n) (h.wi.node i z).nb.table h.hl (by omega) (by show w.2.2.2.length<=_;omega) I) ?_;rintro⟨⟨v,⟨⟩⟩,⟨⟩⟩ ⟨b,y,rfl⟩;refine Tot.bind (x9 K (w.1.set i n,w.2.1,w.2.2.1,b) (i:Int) H h.wi.sides ⟨by omega,by have:=h.lt;omega⟩ h.sent h.wi.radio h.wl I) ?_;rintro⟨⟨v,⟨⟩⟩,⟨⟩⟩ ⟨rd,hr,rfl⟩;have y:b.length<=w.2.2.2.length+(aa.table n).length:=y;exact Tot.ret (h.wi.put h.n hr (by omega))
theorem rR (K:Nat)(l:List lW)(at_:Int)(z:0<=at_)(H:at_<l.length)(y:hZ l):Tot (Q185.f K (l,at_,())) λr=>hZ r.1.1:=by
 have I:=y.1;obtain⟨m,rfl⟩:=CG z;simp only[Q185.f];rw[ar m (by omega)];refine Tot.must (by simp;omega) (Tot.fit (Tot.must (by simp;omega) (Tot.fit (Tot.ret ⟨?_,λf u=>y.2 f ?_⟩) (by omega) ?_)) (by omega) ?_)
 ·simp only[B8,CR,CN,CE,CC,CH,CS];omega
 ·simp only[B8,CR,CN,CE,Cf]at u;rcases CF.1 u with u|u
  ·exact CW u
  ·exact List.mem_of_mem_drop u
 ·simp only[B8,CR,CN,CE,CC,CH,CS];omega
 ·simp only[B8,CR,CN,CE,CH,CO];omega
theorem rS (K:Nat)(w:cd)(c:Nat)(h:WI w c)(hc:c<=1000000)(to:Int)(t0:0<=to)(t1:to<=7)(x:an)(X:ft x)(H:1048577<K){G:aa->aa->Option ((cd×Unit)×Unit)}
  (Z:∀ y:aa,G y y=(Q167.f K (y,x,())).bind λI=>(Q191.f K ((w,B7 to),I.1.1,I.1.2.1,an.table x,())).bind λM=>some ((M.1.1,()),())) :
  Tot ((idx w.1 to).bind λ_=>(idx w.1 (B7 to:Nat)).bind λR=>(idx w.1 (B7 to:Nat)).bind λO=>G R O) λr=>WI r.1.1 (c+4):=by
 obtain⟨i,rfl⟩:=CG t0;have J:i<w.1.length:=by rw[h.len];omega
 have z:=h.node i J;refine Tot.vl (ag J) (Tot.vl (by rw[B8];exact ag J) (Tot.vl (by rw[B8];exact ag J) ?_));rw[Z,BC K w.1[i] x z.up (bR X.2.2.2.2.2.2.2.1) H];simp only[B3,B8];refine Tot.bind (set_t K w i _ _ _ c ⟨h,z.lt,?_,?_,?_,bR X.2.2.2.2.2.2.2.1,hc⟩ H) λv hv=>Tot.ret hv
 ·cases u:w.1[i].2.1 with
  |true=>exact z.of (qY (z.up u) H).1 (qY (z.up u) H).2.1
  |false =>
   rw[show cP K w.1[i] x=(w.1[i],[]) by unfold cP;rw[if_neg λh=>by have:=h.2.1;rw[u]at this;cases this]];exact z
 ·cases u:w.1[i].2.1 with
  |true=>exact λy Y=>(qk (z.up u) H).2 y Y
  |false =>
   rw[show cP K w.1[i] x=(w.1[i],[]) by unfold cP;rw[if_neg λh=>by have:=h.2.1;rw[u]at this;cases this]];simp
 ·cases u:w.1[i].2.1 with
  |true=>have:=(qk (w:=x) (z.up u) H).1;omega
  |false =>
   rw[show cP K w.1[i] x=(w.1[i],[]) by unfold cP;rw[if_neg λh=>by have:=h.2.1;rw[u]at this;cases this]];simp
theorem AM (K:Nat)(w:cd)(c:Nat)(h:WI w c)(hc:c<=1000000)(at_:Int)(keep:Bool)(h0:0<=at_)(h1:at_<w.2.1.length)(X:1048577<K):Tot (Q192.f K (w,at_,keep,())) λr=>WI r.1.1 (c+4):=by
 simp only[Q192.f,zcp8];refine Tot.ix2 h0 h1 λf hf _=>?_
 obtain⟨⟨t0,t1⟩,a0⟩:=h.radio.2 f hf;have hs:=h.sides;refine Tot.cnd (λ_=>Tot.bind (rR K w.2.1 at_ h0 h1 h.radio) ?_) λ_=>Tot.bind (qd K f.2.1 (by omega) X) ?_
 ·rintro⟨⟨rd,⟨⟩⟩,⟨⟩⟩ hr;have O:WI (w.1,rd,w.2.2) (c+4):=⟨h.len,h.node,hr,h.sides,CI h.born (by omega)⟩;refine Tot.bind (qd K f.2.1 (by omega) X) ?_;rintro⟨⟨(x:an),ok,⟨⟩⟩,⟨⟩⟩ H;refine Tot.cnd (λ_=>Tot.ret O) λY=>?_
  have H:ft x:=H (by simpa using Y);obtain⟨J,Z⟩:=H.2.2.1;have M:x.2.2.1<(w.2.2.1.length:Int):=by rw[hs];omega
  refine Tot.ix2 J M λ_ _ _=>Tot.ix2 t0 (by omega) λ_ _ _=>Tot.cnd (λ_=>Tot.ret O) λ_=>Tot.cnd (λ_=>Tot.ret O) λ_=>?_
  exact rS K (w.1,rd,w.2.2) c ⟨h.len,h.node,hr,h.sides,h.born⟩ hc f.1 t0 t1 x H X (G:=λu R=>(Q167.f K ((u.1,(u.2.1,(u.2.2.1,(u.2.2.2.1,(u.2.2.2.2.1,(u.2.2.2.2.2.1,(u.2.2.2.2.2.2.1,(u.2.2.2.2.2.2.2.1,(u.2.2.2.2.2.2.2.2.1,(u.2.2.2.2.2.2.2.2.2.1,(u.2.2.2.2.2.2.2.2.2.2.1,(R.2.2.2.2.2.2.2.2.2.2.2.1,u.2.2.2.2.2.2.2.2.2.2.2.2)))))))))))),x,())).bind λz=>(Q191.f K (((w.1,rd,w.2.2),B7 f.1),z.1.1,z.1.2.1,an.table x,())).bind λI=>some ((I.1.1,()),())) λy=>rfl
 ·rintro⟨⟨(x:an),ok,⟨⟩⟩,⟨⟩⟩ H;have O:WI w (c+4):=h.mono (by omega);refine Tot.cnd (λ_=>Tot.ret O) λY=>?_
  have H:ft x:=H (by simpa using Y);obtain⟨J,Z⟩:=H.2.2.1;have M:x.2.2.1<(w.2.2.1.length:Int):=by rw[hs];omega
  refine Tot.ix2 J M λ_ _ _=>Tot.ix2 t0 (by omega) λ_ _ _=>Tot.cnd (λ_=>Tot.ret O) λ_=>Tot.cnd (λ_=>Tot.ret O) λ_=>?_
  exact rS K w c h hc f.1 t0 t1 x H X (G:=λu R=>(Q167.f K ((u.1,(u.2.1,(u.2.2.1,(u.2.2.2.1,(u.2.2.2.2.1,(u.2.2.2.2.2.1,(u.2.2.2.2.2.2.1,(u.2.2.2.2.2.2.2.1,(u.2.2.2.2.2.2.2.2.1,(u.2.2.2.2.2.2.2.2.2.1,(u.2.2.2.2.2.2.2.2.2.2.1,(R.2.2.2.2.2.2.2.2.2.2.2.1,u.2.2.2.2.2.2.2.2.2.2.2.2)))))))))))),x,())).bind λz=>(Q191.f K (((w.1,w.2),B7 f.1),z.1.1,z.1.2.1,an.table x,())).bind λI=>some ((I.1.1,()),())) λy=>rfl
theorem AN (K:Nat)(w:cd)(c:Nat)(h:WI w c)(at_ u:Int)(X:0<=at_)(M:at_<w.2.1.length):Tot (Q193.f K (w,at_,u,())) λr=>WI r.1.1 c:=by
 simp only[Q193.f];refine Tot.ix2 X M λf Z _=>?_
 obtain⟨I,H⟩:=h.radio.2 f Z;refine Tot.cnd (λ_=>Tot.ret h) λ_=>Tot.cnd (λ_=>Tot.ret h) λY=>?_
 have J:¬ (f.2.1.size:Int)=0:=by simpa using Y
 obtain⟨z,b1⟩:=lX (a:=u) (m:=4095) (by omega);have z:0<=aQ .i64 u 4095:=z;have O:0<=CU (aQ .i64 u 4095) (f.2.1.size:Int):=C3 _ z;have R:CU (aQ .i64 u 4095) (f.2.1.size:Int)<((eJ f.2.1).length:Int):=by rw[rN];exact Cu _ (by omega)
 refine Tot.not (decide_eq_false J) (Tot.ix2 O R λ_ _ _=>Tot.ix2 O R λ_ _ _=>Tot.ix2 X M λ_ _ _=>Tot.ret ⟨h.len,h.node,⟨?_,λg y=>?_⟩,h.sides,h.born⟩)
 ·show (w.2.1.set _ _).length<=60;rw[CL];exact h.radio.1
 ·rcases List.mem_or_eq_of_mem_set y with y|rfl
  ·exact h.radio.2 g y
  ·refine⟨I,?_⟩;show (gY _).size<=2000;rw[jj,CL,rN];exact H
def mA (i:Int)(g:Bool):aa:=(i,true,false,g,0,0,0,0,[(i,0,1,g)],[],(-1,0,0,false),[],(0,0,0,1500),[],[])
theorem AO {i:Int}{g:Bool}(h:InP i 0 7):UpN (mA i g):=by
 refine⟨⟨h,Cc _,⟨λf u=>?_,List.pairwise_singleton _ _⟩,λf u=>?_,⟨λx r=>(nomatch r),List.Pairwise.nil⟩,λx r=>(nomatch r),?_,⟨λd z=>(nomatch z),List.Pairwise.nil,rfl⟩,⟨?_,?_,?_,?_⟩,⟨λp y=>(nomatch y),List.Pairwise.nil⟩,⟨λp y=>(nomatch y),List.Pairwise.nil⟩⟩,?_,?_,⟨?_,?_⟩,?_,rfl⟩
 ·rw[B9.1 u];exact⟨h,⟨by show (0:Int)<=0;omega,by show (0:Int)<=999;omega⟩,by show (1:Int)<=1;omega,by show (1:Int)<=4;omega⟩
 ·rw[B9.1 u];rfl
 ·unfold da;rw[if_pos (show (aa.probe (mA i g)).1=-1 from rfl)];rfl
 ·exact⟨by show (-100000:Int)<=0;omega,by show (0:Int)<=100000;omega⟩
 ·exact⟨by show (-100000:Int)<=0;omega,by show (0:Int)<=100000;omega⟩
 ·exact⟨by show (0:Int)<=0;omega,by show (0:Int)<=100000;omega⟩
 ·exact⟨by show (1:Int)<=1500;omega,by show (1500:Int)<=1500;omega⟩
 ·exact B9.2 rfl
 ·show (0:Int)<=999999;omega
 ·exact⟨by show (0:Int)<=0;omega,by show (0:Int)<=999999;omega⟩
 ·exact⟨by show (0:Int)<=0;omega,by show (0:Int)<=8;omega⟩
 ·exact⟨by show (0:Int)<=0;omega,by show (0:Int)<=999;omega⟩
theorem rT (K:Nat)(i:Int)(g:Bool)(h:InP i 0 7):Q132.f K (i,g,())=some ((mA i g,()),()):=by
 simp only[Q132.f];obtain⟨b,e,r⟩:=cM K i 0 7;rw[e,r.2 h];rfl
theorem dL.new (i:Nat)(g:Bool)(h:i<8):dL i (mA (i:Int) g):=⟨rfl,h,λ_=>AO ⟨by omega,by omega⟩,λr=>by cases r⟩
theorem BG (K:Nat)(w:cd)(c:Nat)(h:WI w c)(O:c<=1000000)(u:Int)(y:InP u 0 7)(H:1048577<K):Tot (Q196.f K (w,u,())) λr=>WI r.1.1 (c+4):=by
 have M:=h.born;have I:u.toNat<8:=by obtain⟨a,b⟩:=y;omega
 have z:=h.len;simp only[Q196.f,Q121.f,B3];rw[rT K u _ y];simp only[B3];refine Tot.ix2 y.1 (by have:=y.2;omega) λ_ _ _=>?_
 refine Tot.vl (show idx (mA u (decide (CU u 4<3))).2.2.2.2.2.2.2.2.1 0=some (u,0,1,decide (CU u 4<3)) from rfl) (Tot.bind (ya K w.2.2.2 _ (by omega) H) λv J=>Tot.ret (h.put ?_ h.radio (by omega)));have:=dL.new u.toNat (decide (CU u 4<3)) I
 rwa [Cr y.1]at this
theorem yb (K:Nat)(n:aa)(r:Int)(w:an)(h:cf n)(u:1048577<K):Q90.f K (n,r,w,())=some ((qg r (gM n) w.2.2.2.2.2.1 w.2.2.2.2.1 n.1 (iq n w.2.2.2.2.2.1),()),(gM n,())):=by
 simp only[Q90.f,zcp4];refine (congrArg (λo=>B6 o _) (p9 K n w.2.2.2.2.2.1 h u)).trans ?_;simp only[B3,Q70.f];rfl
theorem zF (K:Nat)(n:aa)(x:Int)(r:InP x 0 7):Q44.f K (n,x,())=rb (aj x==aj n.1&&x != n.1):=by
 obtain⟨b,e,h⟩:=pS K n x;simp only[Q44.f];rw[e];have u:b=(aj x==aj n.1):=by
  rw[CZ,h,beq_iff_eq];exact⟨λh=>h.2,λh=>⟨r,h⟩⟩
 subst u;simp only[rb,B3];cases aj x==aj n.1 with
 |true=>rfl
 |false=>rfl
theorem zG (K:Nat)(xs r:List af)(R:xs.length<=1048576)(X:1048577<K):Q69.f K (xs,r,())=rb (decide (xs=r)):=by
 simp only[Q69.f,Q69.pre];by_cases y:xs.length=r.length
 case neg =>
  rw[show ((B4 xs:Int) != (B4 r:Int))=true by simp only[bne_iff_ne,ne_eq];omega,decide_eq_false (λe=>y (by rw[e]))];rfl
 rw[show ((B4 xs:Int) != (B4 r:Int))=false by rw[y];simp];simp only[cond_false];have:=bL (step:=λrec a=>Q69.s0 K (xs,r,()) rec a) xs.length (λi=>(i:Int)) (λj=>∃ h:j<xs.length,xs[j]≠r[j]'(by omega)) (rb true) (λ_=>rb false) ?_ ?_ xs.length K 0 (by omega) (by omega)
 ·rcases this with ⟨I,u⟩|⟨j,_,I,⟨O,M⟩,_,u⟩
  ·rw[decide_eq_true (Cy y λi h _=>Classical.byContradiction λH=>I i (CD _) h ⟨h,H⟩)];exact u
  ·rw[decide_eq_false (λe=>M (by subst e;rfl))];exact u
 ·intro rec i J;have z:i<r.length:=by omega
  simp only[Q69.s0];rw[bz (by omega:(i:Int)<(B4 xs:Int)),ag J,ag z,ar i (by omega)];simp only[cond_true,B3];by_cases e:xs[i]=r[i]
  ·left;refine⟨λ⟨_,h⟩=>h e,?_⟩;rw[show Ty.eqv t2 xs[i] r[i]=decide (xs[i]=r[i]) from jR _ _,decide_eq_true e];rfl
  ·right;refine⟨⟨J,e⟩,?_⟩;rw[show Ty.eqv t2 xs[i] r[i]=decide (xs[i]=r[i]) from jR _ _,decide_eq_false e];rfl
 ·intro rec;simp only[Q69.s0,aS];rfl
theorem zH (K:Nat)(t:List ce)(v:Int)(ht:t.length<=1048576)(H:Asc (λx:ce=>x.1) t)(h7:∀ d∈t,InP d.1 0 7)(R:InP v 0 7)(hK:1048577<K) :
  ∃ m,m<=t.length/\(∀ i,(h:i<t.length)->i<m->t[i].1<v)/\(∀ i,(h:i<t.length)->m<=i->v<=t[i].1)/\Q67.f K (t,v,(λu=>(Q68.f K (u.1,u.2.1,())).map λy=>y.1.1),())=some ((((m:Nat):Int),decide (∃ h:m<t.length,t[m].1=v),()),()):=by
 let ks:Nat->Int:=λi=>if h:i<t.length then t[i].1 else 0
 have r:∀ i (h:i<t.length),ks i=t[i].1:=λi h=>by simp[ks,h]
 let z:Nat->Option ((Int×Bool×Unit)×Unit):=λm=>some ((((m:Nat):Int),decide (∃ h:m<t.length,t[m].1=v),()),())
 have O:∀ d∈t,((Q68.f K (d,v,())).map λy=>y.1.1)=some (d.1-v):=λd hd=>by
  obtain⟨a1,a2⟩:=h7 d hd;obtain⟨a3,a4⟩:=R;simp only[Q68.f];rw[aA (by omega) (by omega)];rfl
 have:=pQ (step:=λrec a=>Q67.s0 K (t,v,(λu=>(Q68.f K (u.1,u.2.1,())).map λy=>y.1.1),()) rec a) (ks:=ks) (n:=t.length) (t:=v) z ht
  (λi j M X=>by
   rw[r i (by omega),r j X];exact cI.1 H i j (by omega) X M) ?_ ?_ t.length K 0 t.length (by omega) (CD _) (CV _) (by omega) (λi I=>by omega) (λi I R=>by omega)
 ·obtain⟨m,Y,Z,h3,h4⟩:=this;exact⟨m,Y,λi h I=>by rw[<- r i h];exact Z i I,λi h I=>by rw[<- r i h];exact h3 i I h,h4⟩
 ·intro rec a b a0 hb;have J:(a+b) / 2<t.length:=by omega
  simp only[Q67.s0];rw[decide_eq_true (by omega:(a:Int)<(b:Int)),nY (by omega)];simp only[cond_true];rw[ag J];simp only[B3,O _ (CB J)];rw[r _ J,ar _ (by omega)];by_cases h:t[(a+b) / 2].1<v
  ·rw[if_pos h,decide_eq_true (by omega:t[(a+b) / 2].1-v<0)];rfl
  ·rw[if_neg h,decide_eq_false (by omega:¬ t[(a+b) / 2].1-v<0)];rfl
 ·intro rec a ha;simp only[Q67.s0];rw[decide_eq_false (by omega)];simp only[cond_false];by_cases h:a<t.length
  ·rw[decide_eq_true (by omega:(a:Int)<(B4 t:Int)),ag h];simp only[cond_true,B3,O _ (CB h)];have:(t[a].1-v==0)=decide (∃ h:a<t.length,t[a].1=v):=by
    rw[CZ];simp only[beq_iff_eq,decide_eq_true_eq];exact⟨λe=>⟨h,by omega⟩,λ⟨_,e⟩=>by omega⟩
   rw[this]
  ·rw[decide_eq_false (by omega:¬ (a:Int)<(B4 t:Int))];simp only[cond_false,z];rw[decide_eq_false (λ⟨h',_⟩=>h h')]
theorem yc {R:Type}(K:Nat)(n m:aa)(w:an)(X:InP w.1 1 2)(M:(bO n w).length<=1048576)(I:m.1=n.1)(J:aa.coord m=aa.coord n)(O:1048577<K)(G:List an->Option R) :
  (bif w.1==1 then G [] else ((Q69.f K (bO n w,an.table w,())).bind λy=>bif y.1.1 then G [] else ((Q70.f K (m,6,w.2.2.1,())).bind λr=>(Q0.f K (bO n w,())).bind λz =>
   G [(2,r.1.1.2.1,r.1.1.2.2.1,r.1.1.2.2.2.1,r.1.1.2.2.2.2.1,r.1.1.2.2.2.2.2.1,r.1.1.2.2.2.2.2.2.1,z.1.1)])))=G (bif w.1==2&&decide (an.table w≠bO n w) then [wu n w] else []):=by
 by_cases u:w.1=1
 ·rw[u];rfl
 ·have H:w.1=2:=by obtain⟨a,b⟩:=X;omega
  rw[show (w.1==1)=false by simpa using u,show (w.1==2)=true by simpa using H,zG K _ _ M O];simp only[cond_false,rb,B3,Cl];by_cases e:bO n w=an.table w
  ·rw[decide_eq_true e,decide_eq_false (p:=an.table w≠bO n w) (λh=>h e.symm)];rfl
  ·rw[decide_eq_false e,decide_eq_true (p:=an.table w≠bO n w) (λh=>e h.symm)];simp only[cond_false,cond_true,Q70.f,B3,Q0.f];rw[dv (by show (bO n w).length*_<=_;omega)];simp only[B3];unfold wu;rw[I,show m.2.2.2.2.2.2.2.2.2.2.2.2.1=aa.coord n from J]
theorem sum_i (K:Nat)(n:aa)(w:an)(hn:NB n)(h:UpN n)(hp:InP w.1 1 2)(H:aw (an.table w))(r:mp (an.table w))(y:1048577<K):Q71.f K (n,w,())=some (((fg n w).2,()),((fg n w).1,())):=by
 have X:idx (an.table w) 0=some (cq (an.table w)):=by
  cases ht:an.table w with
  |nil=>rw[ht]at r;exact r.elim
  |cons f l=>rfl
 have z:=vq (tP r H);have a0:InP (aj (cq (an.table w)).1) 0 7:=⟨z.1,Co z.2 (by decide)⟩;have hb:mz (an.table w) (aj n.1)=(aj (cq (an.table w)).1==aj n.1):=by
  rw[CZ,la,beq_iff_eq];cases ht:an.table w with
  |nil=>rw[ht]at r;exact r.elim
  |cons f l =>
   rw[ht]at r;exact⟨λh=>h f (by simp),λe g hg=>(r g hg).trans e⟩
 simp only[Q71.f,zcp4,zcp8];refine (congrArg (λo=>B6 o _) X).trans ?_;simp only[B3];rw[m7 K (cq (an.table w)).1,n9 K n];simp only[B3];unfold fg;rw[hb];cases aj (cq (an.table w)).1==aj n.1 with
 |true =>
  simp only[cond_true];refine (congrArg (λo=>B6 o _) (vi K n (an.table w) n.1 h.learns H.1 (bR H) h.x.me y)).trans rfl
 |false =>
  simp only[cond_false];obtain⟨a1,a2,a3⟩:=lf (n:=n) h.x.others H r;refine (congrArg (λo=>B6 o _) (vf K n (aj (cq (an.table w)).1) hn y)).trans ?_;simp only[B3];refine (congrArg (λo=>B6 o _) (Bu K (dp (aa.others n) (aj (cq (an.table w)).1)) (an.table w) (po h.x.others _) H y)).trans ?_;simp only[B3];have u:=h.x.others;have O:=olen u;obtain⟨m,hm,lo,hi,hs⟩:=zH K (aa.others n) (aj (cq (an.table w)).1) O u.2 (λx hx=>⟨(u.1 x hx).1.1,Co (u.1 x hx).1.2 (by decide)⟩) a0 y;refine (congrArg (λo=>B6 o _) hs).trans ?_;simp only[B3];by_cases hf:∃ h:m<(aa.others n).length,(aa.others n)[m].1=aj (cq (an.table w)).1
  ·rw[decide_eq_true hf];obtain⟨Y,e⟩:=hf;simp only[cond_true,B8];have R:idx (aa.others n) (m:Int)=some (aa.others n)[m]:=ag Y;refine (congrArg (λo=>B6 o _) R).trans ?_;simp only[B3];refine (congrArg (λo=>B6 o _) R).trans ?_;simp only[B3];rw[e];have I:(aa.others n).set m (aj (cq (an.table w)).1,bO n w)=bD (λx:ce=>x.1) (aj (cq (an.table w)).1,bO n w) (aa.others n):=iF (k:=λx:ce=>x.1) (x:=(aj (cq (an.table w)).1,bO n w)) u.2 Y e;have:=yc K n (nl n ((aa.others n).set m (aj (cq (an.table w)).1,bO n w))) w hp (bR a1) rfl rfl y (λws=>some ((ws,()),(nl n ((aa.others n).set m (aj (cq (an.table w)).1,bO n w)),())));refine Eq.trans this ?_;rw[I];rfl
  ·rw[decide_eq_false hf];simp only[cond_false];have M:Q7.f K (aa.others n,(m:Int),[(aj (cq (an.table w)).1,bO n w)],())=some (((aa.others n).take m++[(aj (cq (an.table w)).1,bO n w)]++(aa.others n).drop m,()),()):=jS hm (by decide) O;refine (congrArg (λo=>B6 o _) M).trans ?_;simp only[B3];have J:(aa.others n).take m++[(aj (cq (an.table w)).1,bO n w)]++(aa.others n).drop m=bD (λx:ce=>x.1) (aj (cq (an.table w)).1,bO n w) (aa.others n):=gI (k:=λx:ce=>x.1) (x:=(aj (cq (an.table w)).1,bO n w)) hm lo (λj hj Z=>by
    rcases Int.lt_or_eq_of_le (hi j hj Z) with h|h
    ·exact h
    ·exfalso;rcases Nat.lt_or_eq_of_le Z with h4|rfl
     ·have:(aa.others n)[m].1<(aa.others n)[j].1:=cI.1 u.2 m j (by omega) hj h4;have h5:=hi m (by omega) (CV _);omega
     ·exact hf ⟨hj,h.symm⟩)
   have:=yc K n (nl n ((aa.others n).take m++[(aj (cq (an.table w)).1,bO n w)]++(aa.others n).drop m)) w hp (bR a1) rfl rfl y (λws=>some ((ws,()),(nl n ((aa.others n).take m++[(aj (cq (an.table w)).1,bO n w)]++(aa.others n).drop m),())));refine Eq.trans this ?_;rw[J];rfl
theorem BH (K:Nat)(n:aa)(w:an)(Y:NB n)(h:UpN n)(u:ft w)(M:kP n w)(z:w.2.1≠2)(I:1048577<K):Q92.f K (n,w,())=some (((cP K n w).2,()),((cP K n w).1,())):=by
 have r:=u.2.2.2.2.2.2.2.1;unfold cP;rw[if_pos ⟨u,M⟩];simp only[Q92.f,zcp4];by_cases y:w.2.1=6
 ·rw[if_pos y,show (w.2.1==6)=true by simpa using y];have X:=u.2.2.2.2.2.2.2.2;rw[if_pos y]at X;simp only[cond_true];exact (congrArg (λo=>B6 o _) (sum_i K n w Y h u.1 r X I)).trans rfl
 ·rw[if_neg y,show (w.2.1==6)=false by simpa using y];obtain⟨Z,O⟩:=kr u M y;have H:=(kN h M.2.1 r Z O).1;simp only[cond_false];refine (congrArg (λo=>B6 o _) (vi K n (an.table w) w.2.2.1 h.learns r.1 (bR r) O.1 I)).trans ?_;simp only[B3];generalize dC n (an.table w) w.2.2.1=m at H ⊢;have J:=u.2.2.2.2.2.1;have R:=zF K m w.2.2.2.2.2.1 J;rw[show (w.2.1==2)=false by simpa using z];unfold fH;rw[show (w.2.1==2)=false by simpa using z];cases w.2.1==1 with
  |true =>
   simp only[cond_true];refine (congrArg (λo=>B6 o _) R).trans ?_;simp only[rb,B3,bne];cases aj w.2.2.2.2.2.1==aj m.1 with
   |false=>rfl
   |true =>
    cases w.2.2.2.2.2.1==m.1 with
    |true=>rfl
    |false =>
     simp only[Cl,CK,CA,cond_true,cond_false];exact (congrArg (λo=>B6 o _) (yb K m 2 w H.x.say I)).trans rfl
  |false =>
   simp only[cond_false];cases w.2.1==3 with
   |true =>
    simp only[cond_true];refine (congrArg (λo=>B6 o _) R).trans ?_;simp only[rb,B3,bne];cases aj w.2.2.2.2.2.1==aj m.1 with
    |false=>rfl
    |true =>
     cases w.2.2.2.2.2.1==m.1 with
     |true=>rfl
     |false =>
      simp only[Cl,CK,CA,cond_true,cond_false];cases w.2.2.2.2.2.1==w.2.2.1 with
      |true=>rfl
      |false =>
       simp only[CK,cond_true,cond_false];exact (congrArg (λo=>B6 o _) (yb K m 1 w H.x.say I)).trans rfl
   |false =>
    simp only[cond_false];cases w.2.1==4 with
    |true =>
     simp only[cond_true];exact (congrArg (λo=>B6 o _) (qN K m 5 w.2.2.1 (bR H.x.table))).trans rfl
    |false=>rfl
theorem AP {n:aa}(h:UpN n):(lU n).length<=8/\∀ x∈lU n,iw x:=by
 unfold lU;refine⟨?_,λx u=>?_⟩
 ·rw[Ca];exact CI (Cd _ _) (jh h.x.table.2 λf r=>(h.x.table.1 f r).1)
 ·obtain⟨f,r,rfl⟩:=CP.1 u;exact⟨(h.x.table.1 f (Cb.1 r).1).1,bR h.x.table⟩
theorem BI (K:Nat)(w:cd)(c:Nat)(h:WI w c)(hc:c<=1000000)(e:af)(h0:InP e.2.1 0 7)(O:1048577<K):Tot (Q214.f K (w,e,())) λr=>WI r.1.1 (c+4):=by
 have a0:=h.len;have hs:=h.sides;obtain⟨a2,a1,u,keep⟩:=e;obtain⟨e0,e1⟩:=h0;simp only at e0 e1;obtain⟨i,rfl⟩:=CG e0;have Z:i<w.1.length:=by omega
 have M:=h.node i Z;have y:=h.mono (show c<=c+4 by omega);simp only[Q214.f];refine Tot.vl (ag Z) (Tot.vl (by rw[B8];exact ag Z) ?_);generalize w.1[i]=n at M ⊢;refine Tot.cnd (λ_=>?_) λ_=>Tot.cnd (λ_=>?_) λ_=>Tot.cnd (λ_=>?_) λ_=>?_
 ·
  rw[Ab];simp only[B3];exact Tot.ix2 (by omega) (by omega) λ_ _ _=>Tot.ret ⟨y.len,y.node,y.radio,by show (w.2.2.1.set _ _).length=8;rw[CL];exact h.sides,y.born⟩
 ·
  simp only[Q195.f,B3];refine Tot.ix2 (by omega) (by omega) λ_ _ _=>Tot.ret (y.put (i:=i) (n:=jK n.1 n.2.2.2.1) ?_ y.radio y.born)
  exact⟨M.me,M.lt,λJ=>(by cases J),λ_=>rfl⟩
 ·
  exact Tot.cnd (λ_=>Tot.ret y) λ_=>Tot.bind (BG K w c h hc (i:Int) ⟨by omega,by omega⟩ O) λv H=>Tot.ret H
 ·refine Tot.cnd (λ_=>Tot.ret y) λJ=>Tot.cnd (λ_=>Tot.ret y) λR=>?_
  have J:n.2.1=true:=by simpa using J
  have z:=M.up J;have set:=λ (m:aa) (Y:List an) (I:UpN m) (em:m.1=n.1) (X:∀ x∈Y,iw x) (hl:Y.length<=1000)=>BF K w i m Y [] c ⟨h,M.lt,M.of I em,X,hl,CD _,hc⟩ O
  refine Tot.cnd (λ_=>?_) λ_=>Tot.cnd (λ_=>?_) λ_=>Tot.cnd (λ_=>?_) λ_=>Tot.ret y
  ·refine Tot.cnd (λ_=>Tot.ret y) λI=>?_
   have I:aZ n<999999:=by have I:¬ n.2.2.2.2.2.1>=999999:=of_decide_eq_false I;show n.2.2.2.2.2.1<999999;omega
   obtain⟨t1,t2,_⟩:=oj z I;obtain⟨w1,w2⟩:=BE z I u;exact Tot.vl (x8 K n u z R I O) (Tot.bind (set _ _ t1 t2 w2 (CI w1 (by omega))) λv H=>Tot.ret H)
  ·obtain⟨t1,t2⟩:=zw z R;obtain⟨w1,w2⟩:=AP t1;exact Tot.vl (Av K n z.nb z.ok J R O) (Tot.bind (set _ _ t1 t2 w2 (CI w1 (by omega))) λv H=>Tot.ret H)
  ·refine Tot.bind (cM K u 0 7).tot λv H=>Tot.cnd (λ_=>Tot.ret y) λh1=>Tot.cnd (λ_=>Tot.ret y) λ_=>?_
   have hd:InP u 0 7:=H.1 (by simpa using h1);rw[eQ K,eQ K];simp only[B3];refine Tot.cnd (λ_=>Tot.ret y) λ_=>?_
   refine Tot.vl (oh K n 4 u (bR z.x.table)) (Tot.bind (set n _ z rfl (λx hx=>?_) (by simp)) λv H=>Tot.ret H);rw[B9.1 hx];exact⟨hd,bR z.x.table⟩
theorem do_t (K:Nat)(w:cd)(c:Nat)(h:WI w c)(O:c<=1000000)(e:af)(R:1048577<K):Tot (Q216.f K (w,e,())) λr=>WI r.1.1 (c+4):=by
 have z:=h.mono (show c<=c+4 by omega);have hr:=h.radio.1;simp only[Q216.f];rw[aA (n:=(B4 w.2.1:Int)-1) (by omega) (by omega)];have u:Tot ((Q98.f K (e.2.1,0,(B4 w.2.1:Int)-1,())).bind λX=>bif !X.1.1 then (some ((w,false,()),())) else (bif e.1==2 then ((Q192.f K (w,e.2.1,e.2.2.2,())).bind λY=>some ((Y.1.1,true,()),())) else (bif e.1==4 then ((Q193.f K (w,e.2.1,e.2.2.1,())).bind λM=>some ((M.1.1,M.1.2.1,()),())) else ((Q185.f K (w.2.1,e.2.1,())).bind λZ=>some (((w.1,(Z.1.1,w.2.2)),true,()),()))))) λr=>WI r.1.1 (c+4):=by
  refine Tot.bind (cM K _ _ _).tot λv y=>Tot.cnd (λ_=>Tot.ret z) λI=>?_
  obtain⟨J,H⟩:InP e.2.1 0 ((B4 w.2.1:Int)-1):=y.1 (by simpa using I);have H:e.2.1<(w.2.1.length:Int):=by omega
  refine Tot.cnd (λ_=>Tot.bind (AM K w c h O e.2.1 e.2.2.2 J H R) λv y=>Tot.ret y) λ_=>Tot.cnd (λ_=>Tot.bind (AN K w c h e.2.1 e.2.2.1 J H) λv y=>Tot.ret (WI.mono y (by omega))) λ_=>?_
  exact Tot.bind (rR K w.2.1 e.2.1 J H h.radio) λv y=>Tot.ret ⟨z.len,z.node,y,z.sides,z.born⟩
 refine Tot.cnd (λ_=>u) λ_=>Tot.cnd (λ_=>u) λ_=>Tot.cnd (λ_=>u) λ_=>?_
 exact Tot.bind (cM K _ _ _).tot λv y=>Tot.cnd (λ_=>Tot.ret z) λI=>Tot.bind (BI K w c h O e (y.1 (by simpa using I)) R) λv y=>Tot.ret y
theorem zI (K:Nat)(w:cd)(R:w.1.length<=1048576)(y:∀ n∈w.1,NB n)(O:w.2.1.length<=1048576)(X:w.2.2.1.length<=1048576)(Y:w.2.2.2.length<=1048576)(M:1048577<K):Q217.f K (w,())=some ((w,()),()):=by
 simp only[Q217.f,Q217.pre];rw[szb _ _ _ (by omega) (by show (B4 ([]:List lW))+w.2.1.length<=_;simp;omega)];simp only[cond_true];rw[szb _ _ _ (by omega) (by show (B4 ([]:List Int))+w.2.2.1.length<=_;simp;omega)];simp only[cond_true];rw[szb _ _ _ (by omega) (by show (B4 ([]:List af))+w.2.2.2.length<=_;simp;omega)];simp only[cond_true];have:∀ (d i k:Nat),i+d=w.1.length->d<k->ae (λrec a=>Q217.s0 K (w,()) rec a) k ((i:Int),w.1.take i)=some ((w,()),()):=by
  intro d;induction d with
  |zero =>
   intro i k J z;obtain⟨k,rfl⟩:∃ u,k=u+1:=⟨k-1,by omega⟩;have:i=w.1.length:=by omega
   subst this;show Q217.s0 K (w,()) _ _=_;simp only[Q217.s0,aS,Cf];rfl
  |succ d H =>
   intro i k J z;obtain⟨k,rfl⟩:∃ u,k=u+1:=⟨k-1,by omega⟩;have r:i<w.1.length:=by omega
   show Q217.s0 K (w,()) _ _=_;simp only[Q217.s0];rw[bz (by omega:(i:Int)<(B4 w.1:Int)),ag r,ar i (by omega)];simp only[cond_true,B3];refine (congrArg (λo=>B6 o _) (xx K w.1[i] (y _ (CB r)) M)).trans ?_;simp only[B3];have I:decide (((w.1.take i).length+[w.1[i]].length)*232<=am)=true:=decide_eq_true (by
    rw[CH];simp only[Ce,CO,am];omega)
   refine (congrArg (λb=>bif b then _ else _) I).trans ?_;have e:w.1.take i++[w.1[i]]=w.1.take (i+1):=by rw[Cj,CY r];rfl
   rw[<- H (i+1) k (by omega) (by omega),<- e];rfl
 exact this w.1.length 0 K (by omega) (by omega)
theorem WI.copy {w:cd}{c:Nat}(h:WI w c)(M:c<=1000000)(K:Nat)(r:1048577<K):Q217.f K (w,())=some ((w,()),()):=by
 have z:=h.len;have H:=h.radio.1;have I:=h.sides;have J:=h.born;refine zI K w (by omega) (λn u=>?_) (by omega) (by omega) (by omega) r;obtain⟨i,y,rfl⟩:=CM u;exact (h.node i y).nb
theorem BJ (K:Nat)(w:cd)(c:Nat)(y:List af)(h:WI w c)(Z:y.length<=1000)(hc:c<=900000)(R:1048577<K):Tot (Q218.f K (w,y,())) λr=>WI r.1.1 (c+4*y.length)/\r.2.1=y:=by
 simp only[Q218.f,Q218.pre];refine Tot.iter (step:=λrec a=>Q218.s0 K (w,y,()) rec a) (λa=>0<=a.1/\a.1<=y.length/\WI a.2 (c+4*a.1.toNat)) (λa=>y.length-a.1.toNat) ?_ K _ (by show y.length-B7 0<K;omega) ⟨by show (0:Int)<=0;omega,by show (0:Int)<=_;omega,h⟩;rintro rec ⟨i,v⟩ ⟨J,X,H⟩ M;simp only at J X H M ⊢;simp only[Q218.s0];refine Tot.cnd (λz=>?_) λ_=>Tot.ret ⟨WI.mono H (by omega),rfl⟩
 have z:i<(y.length:Int):=of_decide_eq_true z;rw[aA (n:=i+1) (by omega) (by omega)];refine Tot.vl (H.copy (by omega) K R) (Tot.ix2 J z λe _ _=>Tot.bind (do_t K v _ H (by omega) e R) ?_);rintro⟨⟨v',ok,⟨⟩⟩,⟨⟩⟩ I;have I:WI v' (c+4*i.toNat+4):=I;have O:∀ u:cd,WI u (c+4*i.toNat+4)->Tot (rec (i+1,u)) λr=>WI r.1.1 (c+4*y.length)/\r.2.1=y:=λu Y=>M (i+1,u) ⟨by show 0<=i+1;omega,by show i+1<=_;omega,Y.mono (by show _<=c+4*(i+1).toNat;omega)⟩ (by show y.length-B7 (i+1)<y.length-B7 i;omega)
 exact Tot.cnd (λ_=>O v' I) λ_=>O v (H.mono (by omega))
theorem ww (K:Nat)(hK:1048577<K):Tot (Q133.f K ()) λr=>WI r.1.1 8:=by
 simp only[Q133.f,Q133.pre];refine Tot.iter (step:=λrec a=>Q133.s0 K () rec a) (λa=>0<=a.1/\a.1<=8/\a.2.1.length=a.1.toNat/\(∀ (j:Nat) (y:j<a.2.1.length),dL j a.2.1[j])/\a.2.2.1.length=a.1.toNat/\a.2.2.2.length=a.1.toNat) (λa=>8-a.1.toNat) ?_ K _ (by show 8-B7 0<K;omega) ⟨by show (0:Int)<=0;omega,by show (0:Int)<=8;omega,rfl,λj y=>(by cases y),rfl,rfl⟩;rintro rec ⟨i,z,X,R⟩ ⟨M,Y,Z,J,h4,h5⟩ O;simp only at M Y Z J h4 h5 O ⊢;simp only[Q133.s0];refine Tot.cnd (λu=>?_) λu=>?_
 ·have u:i<=7:=of_decide_eq_true u;rw[aA (n:=i+1) (by omega) (by omega)];simp only[Q121.f,B3];refine Tot.vl (rT K i _ ⟨M,u⟩) (Tot.fit (Tot.fit (Tot.vl (show idx (mA i (decide (CU i 4<3))).2.2.2.2.2.2.2.2.1 0=some (i,0,1,decide (CU i 4<3)) from rfl) (Tot.fit (O _ ⟨by show 0<=i+1;omega,by show i+1<=8;omega,?_,λj y=>?_,?_,?_⟩ (by show 8-B7 (i+1)<8-B7 i;omega)) (by omega) ?_)) (by omega) ?_) (by omega) ?_)
  ·show (z++[mA i _]).length=(i+1).toNat;simp;omega
  ·show dL j ((z++[mA i (decide (CU i 4<3))])[j]'y);rw[List.getElem_append];split
   ·exact J j _
   ·rename_i H;have y:j<(z++[mA i (decide (CU i 4<3))]).length:=y;have I:j=i.toNat:=by simp at y;omega
    subst I;have:=dL.new i.toNat (decide (CU i 4<3)) (by omega);rw[Cr M]at this;simpa using this
  ·show (X++[0]).length=(i+1).toNat;simp;omega
  ·show (R++[_]).length=(i+1).toNat;simp;omega
  ·simp;omega
  ·simp;omega
  ·simp;omega
 ·have H:=of_decide_eq_false u;refine Tot.ret ⟨?_,J,⟨CD _,λf hf=>(nomatch hf)⟩,?_,?_⟩
  ·show z.length=8;omega
  ·show X.length=8;omega
  ·show R.length<=8;omega
abbrev LtP (v n:Int):Prop:=0<=v/\v<n
def bi (b:List Int)(m:Nat)(s:List Int×Int):Prop:=∃ q:Nat,q<=m/\s=(b,(q:Int))
theorem bi.up {b:List Int}{m:Nat}{s:List Int×Int}(h:bi b m s){m':Nat}(y:m<=m'):bi b m' s:=by obtain⟨q,u,r⟩:=h;exact⟨q,by omega,r⟩
section
variable {K:Nat} {b:List Int} {m:Nat} {s:List Int×Int}
theorem aG (h:fY b)(u:bi b m s)(n:Int)(z:1<=n)(J:m<=99000):Tot (Q118.f K (s,n,())) λr=>LtP r.1.1 n/\bi b (m+1) r.2.1:=by
 obtain⟨q,I,rfl⟩:=u;obtain⟨v,e,H,y⟩:=AA K b q n h (by omega) z;exact⟨_,e,⟨H,y⟩,q+1,by omega,rfl⟩
theorem BK (r:List Int)(u:∀ y∈r,0<=y/\y<=255)(I:r.length<=9223372036854775807):∃ z:List Int,fY z/\Q117.f K (r,())=some (((z,(0:Int)),()),()):=by
 simp only[Q117.f];by_cases h:(r.length:Int)>2000
 ·rw[decide_eq_true h,decide_eq_true (by omega:(2000:Int)<=(r.length:Int))];exact⟨(r.take 2000).drop 0,⟨λy H=>u y (CW (by simpa using H)),by simp;omega⟩,rfl⟩
 ·rw[decide_eq_false h];exact⟨r,⟨u,by omega⟩,rfl⟩
theorem yd (h:fY b)(Y:bi b m s)(u:Int)(h0:0<=u)(h1:u<=1)(hm:m<=98000):Tot (Q122.f K (s,u,())) λr=>(bu r.1.1/\aj r.1.1.1=u)/\bi b (m+5) r.2.1:=by
 simp only[Q122.f];refine Tot.bind (aG h Y 4 (by decide) (by omega)) λH ⟨⟨a1,b1⟩,J⟩=>Tot.bind (aG h J 3 (by decide) (by omega)) λv2 ⟨⟨a2,b2⟩,s2⟩=>Tot.bind (aG h s2 12 (by decide) (by omega)) λv3 ⟨⟨a3,b3⟩,Z⟩=>Tot.bind (aG h Z 3 (by decide) (by omega)) λv4 ⟨⟨O,R⟩,X⟩=>Tot.ix2 O R λy z _=>Tot.bind (aG h X 4 (by decide) (by omega)) λI ⟨⟨a5,b5⟩,M⟩=>?_
 simp only[Q121.f,B3];have z:InP y 0 999:=by
  simp only[C5,C0,or_false]at z;rcases z with rfl|rfl|rfl <;> constructor <;> omega
 rw[aA (n:=u*4) (by omega) (by omega),aA (n:=u*4+H.1.1) (by omega) (by omega),aA (n:=1+I.1.1) (by omega) (by omega)];refine Tot.ret ⟨⟨⟨⟨?_,?_⟩,z,?_,?_⟩,?_⟩,M⟩
 ·show (0:Int)<=u*4+H.1.1;omega
 ·show u*4+H.1.1<=7;omega
 ·show (1:Int)<=1+I.1.1;omega
 ·show (1:Int)+I.1.1<=4;omega
 ·show aj (u*4+H.1.1)=u;rw[gN ⟨by omega,by omega⟩];omega
theorem rU (h:fY b)(Y:bi b m s)(hm:m<=97000):Tot (Q124.f K (s,())) λr=>bi b (m+8) r.2.1:=by
 simp only[Q124.f];refine Tot.bind (aG h Y 2 (by decide) (by omega)) λM ⟨⟨J,b1⟩,I⟩=>Tot.bind (yd h I M.1.1 J (by omega) (by omega)) λf ⟨_,Z⟩=>Tot.bind (aG h Z 12 (by decide) (by omega)) λX ⟨_,H⟩=>?_
 have u:∀ {x y:Int} {G:(Int×Unit)×(List Int×Int)×Unit->Int->Option ((af×Unit)×(List Int×Int)×Unit)},(∀ v z,Tot (G v z) λr=>r.2.1=v.2.1)->Tot ((Q118.f K (X.2.1,2,())).bind λv=>(idx [x,y] v.1.1).bind λ_=>(idx [x,y] (B7 v.1.1:Nat)).bind (G v)) λr=>bi b (m+8) r.2.1:=λO=>Tot.bind (aG h H 2 (by decide) (by omega)) λv ⟨⟨a,b⟩,R⟩=>Tot.ix2 a b λz _ _=>(O v z).mono λr e=>by rw[e];exact R.up (by omega)
 refine Tot.cnd (λ_=>u λ_ _=>Tot.ret rfl) λ_=>Tot.cnd (λ_=>u λ_ _=>Tot.ret rfl) λ_=>Tot.cnd (λ_=>u λ_ _=>Tot.ret rfl) λ_=>Tot.cnd (λ_=>Tot.ret (H.up (by omega))) λ_=>Tot.ret (H.up (by omega))
theorem ye (t:List af)(f:af):(bY t f).1.length<=t.length+1:=by
 rcases ip t f with e|e
 ·rw[e];omega
 ·rw[e];exact zd
theorem wz {t:List af}{f:af}{z:Int}(h:bV t z)(u:aj f.1=z):bV (bY t f).1 z:=by
 rcases ip t f with e|e <;> rw[e]
 ·exact h
 ·intro g r;rcases aW.1 r with rfl|⟨r,_⟩
  ·exact u
  ·exact h g r
theorem vu (h:fY b)(hs:bi b m s)(u:Int)(h0:-1<=u)(h1:u<=1)(hm:m<=96000)(hK:1048577<K):Tot (Q123.f K (s,u,())) λr=>(aw r.1.1/\(0<=u->bV r.1.1 u)/\r.1.1.length<=5)/\bi b (m+31) r.2.1:=by
 simp only[Q123.f,Q123.pre];refine Tot.bind (aG h hs 6 (by decide) (by omega)) λv ⟨⟨v0,v1⟩,s1⟩=>?_
 refine Tot.iter (step:=λrec a=>Q123.s0 K (s,u,()) rec a) (λa=>∃ q:Nat,0<=a.2.1/\aw a.1/\(0<=u->bV a.1 u)/\(a.1.length:Int)+a.2.1<=5/\bi b q a.2.2/\q+6*a.2.1.toNat<=m+31) (λa=>a.2.1.toNat) ?_ K _ (by show v.1.1.toNat<K;omega) ⟨m+1,v0,⟨by simp,List.Pairwise.nil⟩,λ_ f Z=>(nomatch Z),by show ((0:Nat):Int)+v.1.1<=5;omega,s1,by show m+1+6*v.1.1.toNat<=m+31;omega⟩;rintro rec ⟨t,n,s2⟩ ⟨q,n0,O,Y,hl,I,hq⟩ ih;simp only at n0 O Y hl I hq ih ⊢;simp only[Q123.s0];refine Tot.cnd (λhn=>?_) λ_=>Tot.ret ⟨⟨O,Y,by show t.length<=5;omega⟩,I.up (by omega)⟩
 have hn:n>0:=of_decide_eq_true hn;rw[aA (n:=n-1) (by omega) (by omega)];have go:∀ (z:Int) (J:Nat) (M:List Int×Int),0<=z->z<=1->(0<=u->z=u)->bi b J M->J<=q+1->Tot ((Q122.f K (M,z,())).bind λR=>(Q120.f K (t,R.1.1,())).bind λy4=>rec (y4.1.1,n-1,R.2.1.1,R.2.1.2)) λr=>(aw r.1.1/\(0<=u->bV r.1.1 u)/\r.1.1.length<=5)/\bi b (m+31) r.2.1:=λz J M z0 z1 hz a1 a2=>by
  refine Tot.bind (yd h a1 z z0 z1 (by omega)) λy ⟨⟨Z,a0⟩,X⟩=>Tot.vl (wh K t y.1.1 (by omega) O.2 hK) (ih (_,_,y.2.1) ⟨J+5,by show 0<=n-1;omega,kL O Z,λh9=>wz (Y h9) (by rw[a0];exact hz h9),?_,X,by show J+5+6*(n-1).toNat<=m+31;omega⟩ (by show (n-1).toNat<n.toNat;omega))
  have:=ye t y.1.1;show ((bY t y.1.1).1.length:Int)+(n-1)<=5;omega
 refine Tot.cnd (λH=>?_) λH=>?_
 ·have H:u<0:=of_decide_eq_true H;exact Tot.bind (aG h I 2 (by decide) (by omega)) λv ⟨⟨a,b⟩,M⟩=>go v.1.1 (q+1) v.2.1 a (by omega) (λh9=>by omega) M (CV _)
 ·have H:¬ u<0:=of_decide_eq_false H;exact go u q s2 (by omega) h1 (λ_=>rfl) I (by omega)
theorem ql (h:fY b)(R:bi b m s)(Z:m<=95000)(Y:1048577<K):Tot (Q125.f K (s,())) λr=>r.1.1.length<=6/\bi b (m+42) r.2.1:=by
 simp only[Q125.f];refine Tot.bind (vu h R (-1) (by decide) (by decide) (by omega) Y) λt ⟨⟨hT,_,hl⟩,J⟩=>?_
 refine Tot.cnd (λI=>?_) λ_=>Tot.ret ⟨by show t.1.1.length<=6;omega,J.up (by omega)⟩
 have I:(t.1.1.length:Int)>0:=of_decide_eq_true I;refine Tot.bind (aG h J 12 (by decide) (by omega)) λv2 ⟨_,M⟩=>Tot.cnd (λ_=>?_) λ_=>Tot.ret ⟨by show t.1.1.length<=6;omega,M.up (by omega)⟩
 refine Tot.bind (aG h M (t.1.1.length:Int) (by omega) (by omega)) λv3 ⟨⟨H,u⟩,X⟩=>Tot.bind (aG h X 3 (by decide) (by omega)) λv4 ⟨_,z⟩=>?_
 refine Tot.cnd (λ_=>Tot.bind (rU h z (by omega)) λf O=>Tot.ix2 H u λ_ _ _=>Tot.ret ⟨by show (t.1.1.set _ _).length<=6;rw[CL];omega,O.up (by omega)⟩) λ_=>?_
 refine Tot.cnd (λ_=>Tot.ix2 H u λy _ _=>Tot.fit (Tot.ret ⟨by show (t.1.1++[y]).length<=6;simp;omega,z.up (by omega)⟩) (by omega) (by simp;omega)) λ_=>Tot.ix2 H u λy _ _=>Tot.ret ⟨by show (t.1.1.set _ _).length<=6;rw[CL];omega,z.up (by omega)⟩
theorem AQ (h:fY b)(hs:bi b m s)(u:Int)(Y:-1<=u)(R:u<=1)(hm:m<=95000)(hK:1048577<K):Tot (Q126.f K (s,u,())) λr=>r.1.1.length<=5/\bi b (m+36) r.2.1:=by
 simp only[Q126.f,Q126.pre];refine Tot.bind (vu h hs u Y R (by omega) hK) λt ⟨⟨hT,_,hl⟩,X⟩=>?_
 refine Tot.iter (step:=λrec a=>Q126.s0 K (s,u,()) rec a) (λa=>a.2.1=t.1.1/\0<=a.2.2.1/\a.2.2.1<=t.1.1.length/\(a.1.length:Int)=a.2.2.1/\bi b (m+31+a.2.2.1.toNat) a.2.2.2) (λa=>t.1.1.length-a.2.2.1.toNat) ?_ K _ (by show t.1.1.length-B7 0<K;omega) ⟨rfl,by show (0:Int)<=0;omega,by show (0:Int)<=_;omega,rfl,X⟩;rintro rec ⟨H,t',i,s2⟩ ⟨e,O,Z,I,z⟩ M;simp only at e O Z I z M ⊢;subst e;simp only[Q126.s0];refine Tot.cnd (λJ=>?_) λ_=>Tot.ret ⟨by show H.length<=5;omega,z.up (by omega)⟩
 have J:i<(t.1.1.length:Int):=of_decide_eq_true J;rw[aA (n:=i+1) (by omega) (by omega)];refine Tot.ix2 O J λy _ _=>Tot.bind (aG h z 4 (by decide) (by omega)) λv ⟨_,s3⟩=>Tot.fit (M (_,_,_,v.2.1) ⟨rfl,by show 0<=i+1;omega,by show i+1<=_;omega,?_,s3.up (by show _<=m+31+(i+1).toNat;omega)⟩ (by show t.1.1.length-(i+1).toNat<t.1.1.length-i.toNat;omega)) (by omega) (by simp;omega)
 show ((H++[_]).length:Int)=i+1;simp;omega
theorem wA (h:fY b)(X:bi b m s)(hm:m<=94000)(hK:1048577<K):Tot (Q127.f K (s,())) λr=>r.1.1.length<=6/\bi b (m+50) r.2.1:=by
 simp only[Q127.f];refine Tot.bind (AQ h X (-1) (by decide) (by decide) (by omega) hK) λt ⟨hl,M⟩=>?_
 refine Tot.cnd (λJ=>?_) λ_=>Tot.ret ⟨by show t.1.1.length<=6;omega,M.up (by omega)⟩
 have J:(t.1.1.length:Int)>0:=of_decide_eq_true J;refine Tot.bind (aG h M 10 (by decide) (by omega)) λv2 ⟨_,O⟩=>Tot.cnd (λ_=>?_) λ_=>Tot.ret ⟨by show t.1.1.length<=6;omega,O.up (by omega)⟩
 refine Tot.bind (aG h O (t.1.1.length:Int) (by omega) (by omega)) λv3 ⟨⟨I,z⟩,Y⟩=>Tot.bind (aG h Y 3 (by decide) (by omega)) λv4 ⟨_,H⟩=>?_
 refine Tot.cnd (λ_=>Tot.bind (aG h H 2 (by decide) (by omega)) λv5 ⟨⟨R,Z⟩,u⟩=>Tot.ix2 R Z λ_ _ _=>Tot.ix2 I z λ_ _ _=>Tot.ret ⟨by show (t.1.1.set _ _).length<=6;rw[CL];omega,u.up (by omega)⟩) λ_=>?_
 refine Tot.cnd (λ_=>Tot.bind (rU h H (by omega)) λf u=>Tot.ix2 I z λ_ _ _=>Tot.ret ⟨by show (t.1.1.set _ _).length<=6;rw[CL];omega,u.up (by omega)⟩) λ_=>?_
 exact Tot.ix2 I z λy _ _=>Tot.fit (Tot.ret ⟨by show (t.1.1++[y]).length<=6;simp;omega,H.up (by omega)⟩) (by omega) (by simp;omega)
theorem yf (h:fY b)(O:bi b m s)(hm:m<=95000):Tot (Q129.f K (s,())) λr=>bi b (m+6) r.2.1:=by
 simp only[Q129.f,Q128.f];refine Tot.bind (aG h O 6 (by decide) (by omega)) λv1 ⟨_,z⟩=>Tot.cnd (λ_=>Tot.ret (z.up (by omega))) λ_=>Tot.bind (aG h z 3 (by decide) (by omega)) λv3 ⟨⟨M,I⟩,R⟩=>Tot.ix2 M I λy u _=>?_
 have u:InP y 10 100000:=by
  simp only[C5,C0,or_false]at u;rcases u with rfl|rfl|rfl <;> constructor <;> omega
 rw[aA (n:=2*y) (by omega) (by omega),aA (n:=2*y+1) (by omega) (by omega),aA (n:=y+1) (by omega) (by omega)];exact Tot.bind (aG h R _ (by omega) (by omega)) λv6 ⟨_,J⟩=>Tot.bind (aG h J _ (by omega) (by omega)) λv7 ⟨_,X⟩=>Tot.bind (aG h X _ (by omega) (by omega)) λv8 ⟨_,H⟩=>Tot.bind (aG h H _ (by decide) (by omega)) λZ ⟨_,Y⟩=>Tot.ret Y
theorem qm (h:fY b)(z:bi b m s)(J:m<=94000):Tot (Q130.f K (s,())) λr=>bi b (m+8) r.2.1:=by
 simp only[Q130.f];exact Tot.bind (yf h z (by omega)) λc H=>Tot.bind (aG h H 16 (by decide) (by omega)) λI ⟨_,y⟩=>Tot.cnd (λ_=>Tot.bind (aG h y 3 (by decide) (by omega)) λv ⟨⟨a,b⟩,u⟩=>Tot.ix2 a b λ_ _ _=>Tot.ret u) λ_=>Tot.cnd (λ_=>Tot.bind (aG h y 2 (by decide) (by omega)) λv ⟨⟨a,b⟩,u⟩=>Tot.ix2 a b λ_ _ _=>Tot.ret u) λ_=>Tot.cnd (λ_=>Tot.bind (aG h y 2 (by decide) (by omega)) λv ⟨⟨a,b⟩,u⟩=>Tot.ix2 a b λ_ _ _=>Tot.ret u) λ_=>Tot.ret (y.up (by omega))
theorem yg (h:fY b)(y:bi b m s)(w:cd)(I:m<=95000):Tot (Q219.f K (s,w,())) λr=>bi b (m+2) r.2.1:=by
 simp only[Q219.f];refine Tot.cnd (λ_=>Tot.ret (y.up (by omega))) λz=>?_
 have z:¬ (w.2.1.length:Int)=0:=by simpa using z
 refine Tot.bind (aG h y 3 (by decide) (by omega)) λJ ⟨_,H⟩=>Tot.cnd (λ_=>Tot.cnd (λ_=>Tot.bind (aG h H 4 (by decide) (by omega)) λv ⟨_,u⟩=>Tot.ret u) λ_=>?_) λ_=>?_ <;>
 exact Tot.bind (aG h H _ (by show (1:Int)<=(w.2.1.length:Int);omega) (by omega)) λv ⟨_,u⟩=>Tot.ret u
theorem AR (h:fY b)(hs:bi b m s)(w:cd)(hm:m<=94000):Tot (Q220.f K (s,w,())) λr=>bi b (m+8) r.2.1:=by
 simp only[Q220.f];refine Tot.bind (aG h hs 8 (by decide) (by omega)) λv1 ⟨_,Y⟩=>Tot.bind (aG h Y 256 (by decide) (by omega)) λv2 ⟨_,s2⟩=>Tot.bind (aG h s2 16 (by decide) (by omega)) λv3 ⟨_,s3⟩=>Tot.bind (aG h s3 40 (by decide) (by omega)) λO ⟨_,y⟩=>?_
 have y:bi b (m+4) O.2.1:=y.up (by omega);generalize O.2.1=z at y ⊢;have u4:bi b (m+8) z:=y.up (by omega);have M:=yg (K:=K) h y w (by omega);have R:∀ n:Int,1<=n->Tot (Q118.f K (z,n,())) λr=>bi b (m+8) r.2.1:=λn I=>(aG h y n I (by omega)).mono λr H=>H.2.up (by omega)
 have Z:∀ (J:List Int×Int) (n:Int),bi b (m+4+2) J->1<=n->Tot (Q118.f K (J,n,())) λr=>bi b (m+8) r.2.1:=λJ n X I=>(aG h X n I (by omega)).mono λr H=>H.2.up (by omega)
 repeat' first
  |exact Tot.ret u4
  |exact Tot.bind M λv u=>Tot.ret (bi.up u (by omega))
  |exact Tot.bind M λv u=>Tot.bind (Z _ _ u (by decide)) λv u=>Tot.ret u
  |exact Tot.bind (R _ (by decide)) λv u=>Tot.ret u
  |exact Tot.bind (R _ (by decide)) λv u=>Tot.cnd (λ_=>Tot.ret u) λ_=>Tot.ret u
  |refine Tot.cnd (λ_=>?_) λ_=>?_
theorem AS (h:fY b)(hs:bi b m s)(y:Int)(h1:1<=y)(h2:y<=200)(hm:m<=90000)(hK:1048577<K):Tot (Q221.f K (s,y,())) λr=>(WI r.1.2.1 2000/\r.1.1.length<=300)/\bi b (m+8*y.toNat+2) r.2.1:=by
 simp only[Q221.f,Q221.pre];have O:∀ (H:List af) (n:Int) (z:List Int×Int) (w:cd) (q c:Nat),0<=n->n<y->H.length<=24->bi b q z->q<=m+2->WI w c->c<=200->Tot (Q221.l1 K (s,y,()) (H,n,z.1,z.2,w)) λr=>(WI r.1.2.1 2000/\r.1.1.length<=300)/\bi b (m+8*y.toNat+2) r.2.1:=λH n z w q c n0 n1 R M hq I hc=>by
  refine Tot.iter (step:=λrec a=>Q221.s1 K (s,y,()) rec a) (λa=>∃ q c:Nat,0<=a.2.1/\a.2.1<y/\(a.1.length:Int)+a.2.1<=24+y/\bi b q (a.2.2.1,a.2.2.2.1)/\q+8*a.2.1.toNat<=m+8*y.toNat+2/\WI a.2.2.2.2 c/\c+4*a.2.1.toNat<=2000) (λa=>a.2.1.toNat) ?_ K _ (by show n.toNat<K;omega) ⟨q,c,n0,n1,by show (H.length:Int)+n<=_;omega,M,by show q+8*n.toNat<=_;omega,I,by show c+4*n.toNat<=2000;omega⟩;clear M hq I hc n0 n1 R;rintro rec ⟨H,n,z1,z2,w⟩ ⟨q,c,n0,n1,R,M,hq,I,hc⟩ Y;simp only at n0 n1 R M hq I hc Y ⊢;simp only[Q221.s1];refine Tot.cnd (λhn=>?_) λ_=>Tot.vl (I.copy (by omega) K hK) (Tot.ret ⟨⟨I.mono (by omega),by show H.length<=300;omega⟩,M.up (by omega)⟩)
  have hn:n>0:=of_decide_eq_true hn;rw[aA (n:=n-1) (by omega) (by omega)];refine Tot.bind (AR h M w (by omega)) λe he=>Tot.fit (Tot.vl (I.copy (by omega) K hK) (Tot.bind (do_t K w c I (by omega) e.1.1 hK) ?_)) (by omega) (by simp;omega)
  rintro⟨⟨v',ok,⟨⟩⟩,⟨⟩⟩ hv;have Z:∀ u:cd,WI u (c+4)->Tot (rec (H++[e.1.1],n-1,e.2.1.1,e.2.1.2,u)) λr=>(WI r.1.2.1 2000/\r.1.1.length<=300)/\bi b (m+8*y.toNat+2) r.2.1:=λu hu=>Y _ ⟨q+8,c+4,by show 0<=n-1;omega,by show n-1<y;omega,by show ((H++[e.1.1]).length:Int)+(n-1)<=_;simp;omega,he,by show q+8+8*(n-1).toNat<=_;omega,hu,by show c+4+4*(n-1).toNat<=2000;omega⟩ (by show (n-1).toNat<n.toNat;omega)
  exact Tot.cnd (λ_=>Z v' hv) λ_=>Z w (I.mono (by omega))
 refine Tot.bind (ww K hK) λw0 X=>Tot.bind (aG h hs 3 (by decide) (by omega)) λv2 ⟨_,s2⟩=>Tot.cnd (λ_=>?_) λ_=>Tot.bind (aG h s2 y h1 (by omega)) λv9 ⟨⟨a9,b9⟩,s9⟩=>O [] v9.1.1 v9.2.1 w0.1.1 (m+2) 8 a9 b9 (by simp) s9 (CV _) X (by omega)
 refine Tot.iter (step:=λrec a=>Q221.s0 K (s,y,()) (Q221.l1 K (s,y,())) rec a) (λa=>0<=a.2.1/\a.2.1<=8/\(a.1.length:Int)<=3*a.2.1/\bi b (m+1) (a.2.2.1,a.2.2.2.1)/\WI a.2.2.2.2 8) (λa=>8-a.2.1.toNat) ?_ K _ (by show 8-B7 0<K;omega) ⟨by show (0:Int)<=0;omega,by show (0:Int)<=8;omega,by show ((0:Nat):Int)<=3*0;omega,s2,X⟩;rintro rec ⟨H,i,z1,z2,w⟩ ⟨i0,i1,R,M,I⟩ Y;simp only at i0 i1 R M I Y ⊢;simp only[Q221.s0];refine Tot.cnd (λhi=>?_) λ_=>?_
 ·have hi:i<=7:=of_decide_eq_true hi;rw[aA (n:=i+1) (by omega) (by omega)];have Z:∀ J:List af,(J.length:Int)<=3*(i+1)->Tot (rec (J,i+1,z1,z2,w)) λr=>(WI r.1.2.1 2000/\r.1.1.length<=300)/\bi b (m+8*y.toNat+2) r.2.1:=λJ a0=>Y _ ⟨by show 0<=i+1;omega,by show i+1<=8;omega,a0,M,I⟩ (by show 8-(i+1).toNat<8-i.toNat;omega)
  exact Tot.cnd (λ_=>Tot.fit (Tot.fit (Z _ (by simp;omega)) (by omega) (by simp;omega)) (by omega) (by simp;omega)) λ_=>Z H (by omega)
 ·refine Tot.bind (BJ K w 8 H I (by omega) (by omega) hK) λv ⟨hv,ev⟩=>Tot.bind (aG h M y h1 (by omega)) λv4 ⟨⟨a4,b4⟩,s4⟩=>?_
  exact O v.2.1 v4.1.1 v4.2.1 v.1.1 (m+1+1) _ a4 b4 (by rw[ev];omega) s4 (by omega) hv (by omega)
theorem AT (h:fY b)(y:bi b m s)(z:m<=90000)(H:1048577<K):Tot (Q222.f K (s,())) λr=>WI r.1.1 2000/\bi b (m+802) r.2.1:=by
 simp only[Q222.f];exact Tot.bind (AS h y 100 (by decide) (by decide) z H) λv u=>Tot.ret ⟨u.1.1,u.2⟩
theorem tS (h:fY b)(z:bi b m s)(J:m<=90000)(R:1048577<K):Tot (Q223.f K (s,())) λr=>(∃ i,dL i r.1.1)/\bi b (m+803) r.2.1:=by
 simp only[Q223.f];refine Tot.bind (AT h z J R) λw ⟨u,I⟩=>Tot.bind (aG h I _ (by have:=u.len;show (1:Int)<=(w.1.1.1.length:Int);omega) (by omega)) λv ⟨⟨a,b⟩,H⟩=>Tot.ix a b λy M _=>Tot.ret ⟨?_,H⟩
 obtain⟨i,O,rfl⟩:=CM M;exact⟨i,u.node i O⟩
structure NS (c:Nat) (n:aa):Prop where
 nb:NB n
 table:(aa.table n).length<=c
 cast:(aa.cast n).length<=c
 doubts:(aa.doubts n).length<=c
 places:(aa.places n).length<=c
 others:(aa.others n).length<=c
theorem dL.ns {i:Nat}{n:aa}(h:dL i n):NS 8 n:=by
 cases y:n.2.1 with
 |true =>
  have r:=h.up y;refine⟨h.nb,by have:=h.short;omega,by have:=clen r.x.say;omega,?_,?_,?_⟩
  ·exact CI (jh r.x.say.asc r.x.say.inp) (by decide)
  ·exact CI (jh r.x.places.2 λx u=>(r.x.places.1 x u).1) (by decide)
  ·exact CI (jh r.x.others.2 λx u=>⟨(r.x.others.1 x u).1.1,Co (r.x.others.1 x u).1.2 (by decide)⟩) (by decide)
 |false =>
  have e:=h.down y;refine⟨h.nb,?_,?_,?_,?_,?_⟩ <;> rw[e] <;> exact CD _
theorem yh (h:fY b)(hs:bi b m s)(n:aa){c:Nat}(hn:NS c n)(h8:8<=c)(hc:c<=1000)(hm:m<=90000)(hK:1048577<K):Tot (Q131.f K (s,n,())) λr=>NS (c+1) r.1.1/\bi b (m+60) r.2.1:=by
 simp only[Q131.f,zcp4,zcp8];rw[xx K n hn.nb hK];simp only[B3];obtain⟨⟨n1,Y,n3,R,Z,X,n7,M⟩,l1,l2,l3,l4,l5⟩:=hn;refine Tot.bind (aG h hs 12 (by decide) (by omega)) λv2 ⟨_,I⟩=>?_
 have y:∀ (n':aa) (z:List Int×Int),n'.2.2.2.2.2.2.2.2=n.2.2.2.2.2.2.2.2->bi b (m+60) z->NS (c+1) n'/\bi b (m+60) z:=λn' z e hz=>by
  refine⟨⟨⟨?_,?_,?_,?_,?_,?_,?_,?_⟩,?_,?_,?_,?_,?_⟩,hz⟩ <;> simp only[aa.table,aa.cast,aa.doubts,aa.places,aa.others] <;> rw[e] <;> first|assumption|(refine CI ?_ (Cp c);assumption)
 have u2:bi b (m+60) v2.2.1:=I.up (by omega);refine Tot.cnd (λ_=>Tot.bind (ql h I (by omega) hK) λt ⟨tl,J⟩=>Tot.ret ⟨⟨⟨by show t.1.1.length<=_;omega,Y,n3,R,Z,X,n7,M⟩,by show t.1.1.length<=_;omega,B5 l2,B5 l3,B5 l4,B5 l5⟩,J.up (by omega)⟩) λ_=>?_
 refine Tot.cnd (λ_=>Tot.bind (wA h I (by omega) hK) λt ⟨tl,J⟩=>Tot.ret ⟨⟨⟨n1,by show t.1.1.length<=_;omega,n3,R,Z,X,n7,M⟩,B5 l1,by show t.1.1.length<=_;omega,B5 l3,B5 l4,B5 l5⟩,J.up (by omega)⟩) λ_=>?_
 refine Tot.cnd (λ_=>Tot.ret (y _ _ rfl u2)) λ_=>?_
 refine Tot.cnd (λ_=>Tot.bind (aG h I 9 (by decide) (by omega)) λv5 ⟨_,s5⟩=>Tot.bind (aG h s5 3 (by decide) (by omega)) λv6 ⟨_,s6⟩=>Tot.bind (aG h s6 3 (by decide) (by omega)) λv7 ⟨_,s7⟩=>Tot.bind (aG h s7 2 (by decide) (by omega)) λv8 ⟨_,s8⟩=>Tot.ret ⟨⟨⟨n1,Y,n3,R,Z,X,n7,M⟩,B5 l1,B5 l2,B5 l3,B5 l4,B5 l5⟩,s8.up (by omega)⟩) λ_=>?_
 refine Tot.cnd (λ_=>Tot.bind (aG h I 8 (by decide) (by omega)) λv9 ⟨_,O⟩=>Tot.bind (aG h O 8 (by decide) (by omega)) λa0 ⟨_,H⟩=>Tot.fit (Tot.ret ⟨⟨⟨n1,Y,?_,?_,Z,X,n7,M⟩,B5 l1,B5 l2,?_,B5 l4,B5 l5⟩,H.up (by omega)⟩) (by omega) ?_) λ_=>?_
 ·show (aa.doubts n++[_]).length<=_;simp;omega
 ·intro d u;rcases CF.1 u with u|u
  ·exact R d u
  ·rw[B9.1 u];show ([a0.1.1]:List Int).length<=_;simp
 ·show (aa.doubts n++[_]).length<=_;simp;omega
 ·show (aa.doubts n).length+_<=_;simp;omega
 refine Tot.cnd (λ_=>Tot.bind (qm h I (by omega)) λc J=>Tot.ret ⟨⟨⟨n1,Y,n3,R,Z,X,n7,M⟩,B5 l1,B5 l2,B5 l3,B5 l4,B5 l5⟩,J.up (by omega)⟩) λ_=>?_
 refine Tot.cnd (λ_=>Tot.bind (aG h I 9 (by decide) (by omega)) λv9 ⟨_,O⟩=>Tot.bind (qm h O (by omega)) λc H=>Tot.bind (aG h H 3 (by decide) (by omega)) λa2 ⟨_,a1⟩=>Tot.fit (Tot.ret ⟨⟨⟨n1,Y,n3,R,?_,?_,n7,M⟩,B5 l1,B5 l2,B5 l3,?_,B5 l5⟩,a1.up (by omega)⟩) (by omega) ?_) λ_=>?_
 ·show (aa.places n++[_]).length<=_;simp;omega
 ·intro d u;rcases CF.1 u with u|u
  ·exact X d u
  ·rw[B9.1 u];show ([a2.1.1]:List Int).length<=_;simp
 ·show (aa.places n++[_]).length<=_;simp;omega
 ·show (aa.places n).length+_<=_;simp;omega
 refine Tot.cnd (λ_=>Tot.bind (aG h I 3 (by decide) (by omega)) λv9 ⟨_,O⟩=>Tot.bind (ql h O (by omega) hK) λt ⟨tl,H⟩=>Tot.fit (Tot.ret ⟨⟨⟨n1,Y,n3,R,Z,X,?_,?_⟩,B5 l1,B5 l2,B5 l3,B5 l4,?_⟩,H.up (by omega)⟩) (by omega) ?_) λ_=>?_
 ·show (aa.others n++[_]).length<=_;simp;omega
 ·intro d u;rcases CF.1 u with u|u
  ·exact M d u
  ·rw[B9.1 u];show t.1.1.length<=_;omega
 ·show (aa.others n++[_]).length<=_;simp;omega
 ·show (aa.others n).length+_<=_;simp;omega
 refine Tot.cnd (λ_=>Tot.ret (y _ _ rfl u2)) λ_=>Tot.cnd (λ_=>Tot.ret (y _ _ rfl u2)) λ_=>?_
 refine Tot.cnd (λ_=>Tot.bind (aG h I 3 (by decide) (by omega)) λv ⟨⟨a,b⟩,J⟩=>Tot.ix2 a b λ_ _ _=>Tot.ret (y _ _ rfl (J.up (by omega)))) λ_=>?_
 exact Tot.bind (aG h I 8 (by decide) (by omega)) λv9 ⟨_,O⟩=>Tot.bind (aG h O 3 (by decide) (by omega)) λv ⟨⟨a,b⟩,J⟩=>Tot.ix2 a b λ_ _ _=>Tot.ret (y _ _ rfl (J.up (by omega)))
end
section
variable {K:Nat} {b:List Int} {m:Nat} {s:List Int×Int}
theorem yi (h:fY b)(X:bi b m s)(hm:m<=89000)(z:1048577<K):Tot (Q224.f K (s,())) λr=>NS 9 r.1.1/\bi b (m+864) r.2.1:=by
 simp only[Q224.f];refine Tot.bind (tS h X (by omega) z) λn ⟨⟨i,u⟩,M⟩=>Tot.bind (aG h M 20 (by decide) (by omega)) λv ⟨_,y⟩=>Tot.cnd (λ_=>Tot.bind (yh h y n.1.1 u.ns (CV _) (by omega) (by omega) z) λr I=>Tot.ret I) λ_=>Tot.ret ⟨?_,y.up (by omega)⟩
 obtain⟨H,J,O,Y,R,Z⟩:=u.ns;exact⟨H,B5 J,B5 O,B5 Y,B5 R,B5 Z⟩
end
theorem bi.zero (b:List Int):bi b 0 (b,0):=⟨0,CV _,rfl⟩
structure yj (code:List Int):Prop where
 byte:∀ y∈code,0<=y/\y<=255
 len:code.length<=9223372036854775807
theorem qn (K:Nat){t:List af}{f:af}(r:aw t)(u:f∈t)(z:1048577<K):Q23.f K (t,f.1,())=some ((f,true,()),()):=by
 rcases gH K t f.1 (bR r) z with ⟨h,_⟩|⟨_,⟨g,y,e,h⟩|⟨h,_⟩⟩
 ·exact absurd r h
 ·rw[h,fD r.2 y u e]
 ·exact absurd rfl (h f u)
theorem wB (K:Nat)(n:aa)(r:Int)(z:NB n)(h:UpN n)(I:n.2.2.1=false)(O:aZ n<999999)(u:1048577<K):Q248.f K (n,r,())=some ((hY n,oi n r,()),()):=by
 obtain⟨y,Y,_,_,_,H,X⟩:=x7 K n r z h.ok h.up I (by have e:aZ n=n.2.2.2.2.2.1:=rfl;omega) u;rw[x8 K n r h I O u]at H;simp only[Option.some.injEq,Prod.mk.injEq,and_true]at H;obtain⟨rfl,rfl⟩:=H;obtain⟨b,R,J⟩:=ju K n z u;have M:=J.2 h.ok;subst M;exact rP K n _ _ r z R X u
theorem yk (n:aa):aa.probe (dO n)=aa.probe n/\aZ (dO n)=aZ n:=by
 unfold dO;generalize aa.doubts n=u;induction u generalizing n with
 |nil=>exact⟨rfl,rfl⟩
 |cons d u y =>
  rw[List.foldl_cons];have r:aa.probe (cX n d)=aa.probe n/\aZ (cX n d)=aZ n:=by
   unfold cX;cases ii n.2.2.2.2.2.1 d.2.2.1 d.2.2.2.length with
   |false=>exact⟨rfl,rfl⟩
   |true =>
    obtain⟨_,_,_,_,_,H,_,_,z,_⟩:=dw n (fu (aB (aa.table n) d.1)) n.1;exact⟨z,H⟩
  exact⟨(y _).1.trans r.1,(y _).2.trans r.2⟩
theorem vv {n:aa}{f g:af}{b:Int}(u:Asc (λg:af=>g.1) (aa.table n))(r:g∈aa.table (sayOf n f b)):g=f\/g∈aa.table n:=by
 rcases jJ u f b with h|⟨h,_⟩
 ·rw[h]at r;exact .inr r
 ·rw[h]at r;have r:g∈bD (λg:af=>g.1) f (aa.table n):=r;exact (aW.1 r).imp id (·.1)
theorem wC (m:aa):aa.table (d8 m).1=aa.table m/\aZ (d8 m).1=aZ m:=by
 unfold d8;cases (aa.probe m).1==-1 with
 |false=>exact⟨rfl,rfl⟩
 |true =>
  simp only[cond_true,d4];cases decide (jy m>=999999) with
  |true=>exact⟨rfl,rfl⟩
  |false =>
   simp only[cond_false];cases ir m with
   |none=>exact⟨rfl,rfl⟩
   |some to=>exact⟨rfl,rfl⟩
theorem wD {m:aa}(y:aw (aa.table m)):aZ (bd m).1=aZ m/\∀ f∈aa.table (bd m).1,f∈aa.table m \/
  ∃ g∈aa.table m,f=mr g/\g.2.2.1=1/\g.1=(aa.probe m).1/\4<=aZ m-(aa.probe m).2.1:=by
 unfold bd;cases O:(aa.probe m).1==-1 with
 |true=>exact⟨rfl,λf r=>.inl r⟩
 |false =>
  simp only[cond_false];cases J:cW (aB (aa.table m) (aa.probe m).1) with
  |false=>exact⟨rfl,λf r=>.inl r⟩
  |true =>
   simp only[CA,cond_false];by_cases u:m.2.2.2.2.2.1-(aa.probe m).2.1>=4
   ·rw[decide_eq_true u];simp only[cond_true];obtain⟨R,M,I⟩:=cC y (eE J);cases H:(aB (aa.table m) (aa.probe m).1).2.2.1==1 with
    |false=>exact⟨rfl,λf r=>.inl r⟩
    |true =>
     simp only[cond_true];refine⟨(dw (setP m noP) _ _).2.2.2.2.2.1,λf r=>?_⟩;rcases vv (n:=setP m noP) y.2 r with rfl|r
     ·exact .inr ⟨_,I,rfl,by simpa using H,M,u⟩
     ·exact .inl r
   ·rw[decide_eq_false u];simp only[cond_false];by_cases z:m.2.2.2.2.2.1-(aa.probe m).2.1>=2
    ·rw[decide_eq_true z];cases (aa.probe m).2.2.2 with
     |true=>exact⟨rfl,λf r=>.inl r⟩
     |false=>exact⟨rfl,λf r=>.inl r⟩
    ·rw[decide_eq_false z];exact⟨rfl,λf r=>.inl r⟩
theorem bkOk {n:aa}(z:UpN n)(M:n.2.2.1=false){t:List af}(H:aw t)(I:bV t (aj n.1)){r:Int}(u:InP r 0 7)(y:aj r=aj n.1)(J:r≠n.1):ft (1,5,r,n.1,0,r,(0,0,0,1500),t)/\kP n (1,5,r,n.1,0,r,(0,0,0,1500),t):=by
 refine⟨⟨show InP 1 1 2 by decide,show InP 5 1 6 by decide,u,z.x.me,show InP 0 0 999999 by decide,u,?_,H,?_⟩,z.up,M,rfl,J,?_⟩
 ·show InP 0 (-100000) 100000/\InP 0 (-100000) 100000/\InP 0 0 100000/\InP 1500 1 1500;decide
 ·rw[if_neg (show ¬ (5:Int)=6 by decide)];show bV t (aj r);rw[y];exact I
 ·rw[if_neg (show ¬ (1:Int)=2 by decide)];exact⟨y,.inl (show (5:Int)≠6 by decide)⟩
theorem yl (K:Nat){n:aa}{t:List af}{r:Int}(h:ft (1,5,r,n.1,0,r,(0,0,0,1500),t)/\kP n (1,5,r,n.1,0,r,(0,0,0,1500),t)):cP K n (1,5,r,n.1,0,r,(0,0,0,1500),t)=(dC n t r,[]):=by
 unfold cP;rw[if_pos h,if_neg (show ¬ (5:Int)=6 by decide)];rfl
theorem BL (K:Nat){n:aa}(u:UpN n)(I:n.2.2.1=false){t:List af}(hT:aw t)(hS:bV t (aj n.1)){r:Int}(O:InP r 0 7)(R:aj r=aj n.1)(h3:r≠n.1)(z:1048577<K) :
  Q97.f K (n,(1,5,r,n.1,0,r,(0,0,0,1500),t),())=some ((dC n t r,[],()),())/\UpN (dC n t r)/\(dC n t r).1=n.1/\(dC n t r).2.2.1=false:=by
 obtain⟨M,y⟩:=bkOk u I hT hS O R h3;have X:=yl K ⟨M,y⟩;have Y:=qY (w:=(1,5,r,n.1,0,r,(0,0,0,1500),t)) u z;rw[X,I]at Y;refine⟨?_,Y⟩;have H:NB n:=u.nb;obtain⟨b,Z,o3⟩:=ju K n H z;obtain rfl:b=true:=o3.2 u.ok;obtain⟨c,w1,w3⟩:=ze K (1,5,r,n.1,0,r,(0,0,0,1500),t) (bR hT) z;obtain rfl:c=true:=w3.2 M;obtain⟨d,q1,q3⟩:=pS K n r;obtain rfl:d=true:=q3.2 ⟨O,R⟩;have J:Q53.f K (n,(1,5,r,n.1,0,r,(0,0,0,1500),t),())=rb true:=by
  simp only[Q53.f];rw[Z];simp only[rb,B3,CA,cond_false];rw[w1];simp only[rb,B3,CA,cond_false,Q52.f];rw[u.up,I,q1];simp only[rb,B3,CA,cond_false,cond_true,CK,bne_self_eq_false,beq_self_eq_true];rw[show (r==n.1)=false by simpa using h3];rfl
 simp only[Q97.f,Q96.f];rw[Z];simp only[rb,B3,CA,cond_false];rw[tq K n H z];simp only[B3,Q93.f];rw[J];simp only[rb,B3,CA,cond_false];rw[BH K n _ H u M y (show (5:Int)≠2 by decide) z,X];simp only[B3,Q95.f];simp
def dq (d:bt):Int:=if 7-(d.2.2.2.length:Int)<3 then 3 else 7-(d.2.2.2.length:Int)
theorem vw (d:bt)(u:d.2.2.2.length<=1048576):wr .i64 (wr .i64 (6-(B4 d.2.2.2:Int))+1)=7-(d.2.2.2.length:Int):=by
 have r:wr .i64 (6-(B4 d.2.2.2:Int))=6-(d.2.2.2.length:Int):=aA (by omega) (by omega);rw[r,aA (by omega) (by omega)];omega
theorem ym (K:Nat)(d:bt)(r:d.2.2.2.length<=1048576):Q227.f K (d,())=some ((dq d,()),()):=by
 simp only[Q227.f,dq];rw[vw d r];by_cases h:7-(d.2.2.2.length:Int)<3
 ·rw[decide_eq_true h,if_pos h];rfl
 ·rw[decide_eq_false h,if_neg h];rfl
theorem yn (K:Nat)(m:Int)(d:bt)(u:d.2.2.2.length<=1048576)(z:InP m 0 2000000)(y:InP d.2.2.1 0 2000000):Q197.f K (m,d,())=rb (decide (m-d.2.2.1>=dq d)):=by
 simp only[Q197.f];have e:wr .i64 (m-d.2.2.1)=m-d.2.2.1:=aA (by omega) (by omega);rw[vw d u,e];by_cases h:7-(d.2.2.2.length:Int)<3
 ·have r:dq d=3:=if_pos h;rw[decide_eq_true h,r];rfl
 ·have r:dq d=7-(d.2.2.2.length:Int):=if_neg h;rw[decide_eq_false h,r];rfl
def gv (r:Int)(d:bt):Int:=if dq d-(r-d.2.2.1)<0 then 0 else dq d-(r-d.2.2.1)
theorem AU (K:Nat)(n:aa)(v:Int)(d:bt)(Z:d.2.2.2.length<=1048576)(X:d.2.2.2≠[])(a0:InP n.2.2.2.2.2.1 0 999999)(hs:InP d.2.2.1 0 n.2.2.2.2.2.1)(hK:1048577<K)(u:Int->Option Q229.Res) :
  Q229.l1 K (n,v,()) u (0,d.1,d.2.1,d.2.2.1,d.2.2.2)=some ((gv n.2.2.2.2.2.1 d,true,()),()):=by
 have h1:1<=d.2.2.2.length:=Ch.2 X;have hL:3<=dq d/\dq d<=6:=by unfold dq;split <;> omega
 have hr:0<=gv n.2.2.2.2.2.1 d/\gv n.2.2.2.2.2.1 d<=6:=by unfold gv;split <;> omega
 obtain⟨r,I⟩:∃ r:Nat,gv n.2.2.2.2.2.1 d=(r:Int):=⟨(gv n.2.2.2.2.2.1 d).toNat,by omega⟩;have J:∀ (e k i:Nat),i+e=r->e<k->ae (λrec a=>Q229.s1 K (n,v,()) u rec a) k ((i:Int),d.1,d.2.1,d.2.2.1,d.2.2.2)=some (((r:Int),true,()),()):=by
  intro e;induction e with
  |zero =>
   intro k i hi hk;obtain⟨k,rfl⟩:∃ R,k=R+1:=⟨k-1,by omega⟩;have:i=r:=by omega
   subst this;show Q229.s1 K (n,v,()) u _ _=_;simp only[Q229.s1];by_cases Y:(i:Int)<6
   ·rw[decide_eq_true Y];have M:wr .i64 (n.2.2.2.2.2.1+(i:Int))=n.2.2.2.2.2.1+i:=aA (by omega) (by omega);rw[M];have H:=yn K (n.2.2.2.2.2.1+(i:Int)) d Z (by constructor <;> omega) (by constructor <;> omega);have y:decide (n.2.2.2.2.2.1+(i:Int)-d.2.2.1>=dq d)=true:=decide_eq_true (by rw[<- I];unfold gv;split <;> omega);rw[y]at H;simp only[cond_true];exact (congrArg (λo=>B6 o _) H).trans rfl
   ·rw[decide_eq_false Y];rfl
  |succ e O =>
   intro k i hi hk;obtain⟨k,rfl⟩:∃ R,k=R+1:=⟨k-1,by omega⟩;have O:=O k (i+1) (by omega) (by omega);show Q229.s1 K (n,v,()) u _ _=_;simp only[Q229.s1];rw[decide_eq_true (show (i:Int)<6 by omega),ar i (by omega)];have M:wr .i64 (n.2.2.2.2.2.1+(i:Int))=n.2.2.2.2.2.1+i:=aA (by omega) (by omega);rw[M];have H:=yn K (n.2.2.2.2.2.1+(i:Int)) d Z (by constructor <;> omega) (by constructor <;> omega);have y:decide (n.2.2.2.2.2.1+(i:Int)-d.2.2.1>=dq d)=false:=decide_eq_false (by
    have z:(i:Int)<gv n.2.2.2.2.2.1 d:=by omega
    unfold gv at z;split at z <;> omega)
   rw[y]at H;simp only[cond_true];exact ((congrArg (λo=>B6 o _) H).trans rfl).trans O
 rw[I];exact J r K 0 (by omega) (by omega)
theorem pq (n:aa)(r:NB n)(h:pT n):aa.doubts n=[]:=by
 obtain⟨_,_,_,_,_,h,_⟩:=h;have H:=r.table;have I:=r.cast;have J:=r.doubts;have M:=r.places;have O:=r.others;have u:wr .i64 ((B4 (aa.table n):Int)+(B4 (aa.cast n):Int))=(B4 (aa.table n):Int)+(B4 (aa.cast n):Int):=aA (by omega) (by omega);rw[u]at h;have z:wr .i64 ((B4 (aa.table n):Int)+(B4 (aa.cast n):Int)+(B4 (aa.doubts n):Int))=(B4 (aa.table n):Int)+(B4 (aa.cast n):Int)+(B4 (aa.doubts n):Int):=aA (by omega) (by omega);rw[z]at h;have y:wr .i64 ((B4 (aa.table n):Int)+(B4 (aa.cast n):Int)+(B4 (aa.doubts n):Int)+(B4 (aa.places n):Int))=(B4 (aa.table n):Int)+(B4 (aa.cast n):Int)+(B4 (aa.doubts n):Int)+(B4 (aa.places n):Int):=aA (by omega) (by omega);rw[y,aA (by omega) (by omega)]at h;exact List.eq_nil_of_length_eq_zero (by omega)
theorem wE (K:Nat)(n:aa)(v:Int)(O:NB n)(hK:1048577<K):∃ r:Int×Bool×Unit,Q228.f K (n,v,())=some (r,())/\(gu n->∀ d∈aa.doubts n,d.1=v->∃ e∈aa.doubts n,e.1=v/\r=(gv n.2.2.2.2.2.1 e,true,()))/\(r.2.1=true->gu n/\∃ d∈aa.doubts n,d.1=v):=by
 have hl:=O.doubts;obtain⟨b,h3,I⟩:=ju K n O hK;simp only[Q228.f];have R:=bL (step:=λrec a=>Q57.s0 K (aa.doubts n,(λM=>(Q226.f K (M.1,v,())).map λy=>y.1.1),()) rec a) (aa.doubts n).length (λi=>(i:Int)) (λj=>∃ h:j<(aa.doubts n).length,(aa.doubts n)[j].1=v) (some ((-1,()),())) (λj=>some ((((j:Nat):Int),()),())) ?_ ?_ (aa.doubts n).length K 0 (by omega) (by omega)
 ·have z:b=true->∀ j (h:j<(aa.doubts n).length),InP n.2.2.2.2.2.1 0 999999/\InP (aa.doubts n)[j].2.2.1 0 n.2.2.2.2.2.1/\(aa.doubts n)[j].2.2.2≠[]/\(aa.doubts n)[j].2.2.2.length<=1048576:=by
   intro Y j u;have J:=I.1 Y;have z:n.2.1=true:=by
    cases hu:n.2.1 with
    |true=>rfl
    |false =>
     have H:=J.2.2.2.2.2;rw[hu]at H;simp only[Cv,if_false]at H;have:=pq n O H;rw[this]at u;simp at u
   have H:=J.2.2.2.2.2;rw[if_pos z]at H;obtain⟨_,Z,X,_⟩:=H.2.2.2.2.2.1.1 _ (CB u);exact⟨J.2.1,Z,X,O.by_ _ (CB u)⟩
  rcases R with ⟨i1,i2⟩|⟨j,_,u,j2,j3,j4⟩
  ·have e:Q57.f K (aa.doubts n,(λM=>(Q226.f K (M.1,v,())).map λy=>y.1.1),())=some ((-1,()),()):=i2;rw[e];refine⟨(0,false,()),rfl,λ_ d hd e=>?_,λh=>by cases h⟩;obtain⟨j,hj,rfl⟩:=CM hd;exact absurd ⟨hj,e⟩ (i1 j (CD _) hj)
  ·have e:Q57.f K (aa.doubts n,(λM=>(Q226.f K (M.1,v,())).map λy=>y.1.1),())=some ((((j:Nat):Int),()),()):=j4;rw[e];simp only[B3];rw[show decide (((j:Nat):Int)<0)=false from decide_eq_false (by omega),h3];simp only[cond_false,B3];cases b with
   |false=>exact⟨(0,false,()),rfl,λJ=>(by cases I.2 J),λh=>by cases h⟩
   |true =>
    obtain⟨a0,Z,X,hb⟩:=z rfl j u;simp only[CA,cond_false];rw[ag u];simp only[B3];refine⟨_,?_,λ_ _ _ _=>⟨_,CB u,j2.2,rfl⟩,λ_=>⟨I.1 rfl,_,CB u,j2.2⟩⟩;rw[ym K _ hb];have h1:1<=(aa.doubts n)[j].2.2.2.length:=Ch.2 X;simp only[B3,gv];have hL:3<=dq (aa.doubts n)[j]/\dq (aa.doubts n)[j]<=7:=by unfold dq;split <;> omega
    generalize (aa.doubts n)[j]=d at *;have e1:wr .i64 (n.2.2.2.2.2.1-d.2.2.1)=n.2.2.2.2.2.1-d.2.2.1:=aA (by omega) (by omega);rw[e1];have e2:wr .i64 (dq d-(n.2.2.2.2.2.1-d.2.2.1))=dq d-(n.2.2.2.2.2.1-d.2.2.1):=aA (by omega) (by omega);rw[e2];by_cases h:dq d-(n.2.2.2.2.2.1-d.2.2.1)<0
    ·rw[decide_eq_true h,if_pos h];rfl
    ·rw[decide_eq_false h,if_neg h];rfl
 ·intro rec i R;simp only[Q57.s0];rw[decide_eq_true (show (i:Int)<(B4 (aa.doubts n):Int) by omega),ag R,ar i (by omega)];simp only[cond_true,B3,Q226.f,C4];by_cases h:(aa.doubts n)[i].1=v
  ·have e:((aa.doubts n)[i].1==v)=true:=by simpa using h
   rw[e];exact .inr ⟨⟨R,h⟩,rfl⟩
  ·have e:((aa.doubts n)[i].1==v)=false:=by simpa using h
   rw[e];exact .inl ⟨λ⟨_,I⟩=>h I,rfl⟩
 ·intro rec;simp only[Q57.s0,aS];rfl
theorem sw (K:Nat)(n:aa)(v:Int)(X:NB n)(hK:1048577<K):∃ r:Int×Bool×Unit,Q229.f K (n,v,())=some (r,())/\Q228.f K (n,v,())=some (r,())/\(gu n->∀ d∈aa.doubts n,d.1=v->∃ e∈aa.doubts n,e.1=v/\r=(gv n.2.2.2.2.2.1 e,true,()))/\(r.2.1=true->gu n/\∃ d∈aa.doubts n,d.1=v):=by
 have hl:=X.doubts;obtain⟨b,h1,H⟩:=tm K n X hK;have h3:Q50.f K (n,())=rb b:=by
  obtain⟨b',I,h5⟩:=ju K n X hK;have:b=b':=by rw[CZ,H,h5]
  rw[this];exact I
 simp only[Q229.f,Q229.pre,Q228.f];rw[h1];have J:=bL (step:=λrec a=>Q57.s0 K (aa.doubts n,(λR=>(Q226.f K (R.1,v,())).map λy=>y.1.1),()) rec a) (aa.doubts n).length (λi=>(i:Int)) (λj=>∃ h:j<(aa.doubts n).length,(aa.doubts n)[j].1=v) (some ((-1,()),())) (λj=>some ((((j:Nat):Int),()),())) ?_ ?_ (aa.doubts n).length K 0 (by omega) (by omega)
 ·have z:b=true->∀ j (h:j<(aa.doubts n).length),InP n.2.2.2.2.2.1 0 999999/\InP (aa.doubts n)[j].2.2.1 0 n.2.2.2.2.2.1/\(aa.doubts n)[j].2.2.2≠[]/\(aa.doubts n)[j].2.2.2.length<=1048576:=by
   intro M j u;have O:=H.1 M;have z:n.2.1=true:=by
    cases hu:n.2.1 with
    |true=>rfl
    |false =>
     have I:=O.2.2.2.2.2;rw[hu]at I;simp only[Cv,if_false]at I;have:=pq n X I;rw[this]at u;simp at u
   have I:=O.2.2.2.2.2;rw[if_pos z]at I;obtain⟨_,d2,d3,_⟩:=I.2.2.2.2.2.1.1 _ (CB u);exact⟨O.2.1,d2,d3,X.by_ _ (CB u)⟩
  have hs:=λM:b=true=>bL (step:=λrec a=>Q229.s0 K (n,v,()) (Q229.l1 K (n,v,()) rec) rec a) (aa.doubts n).length (λi=>(i:Int)) (λj=>∃ h:j<(aa.doubts n).length,(aa.doubts n)[j].1=v) (some ((0,false,()),()))
   (λj=>(idx (aa.doubts n) (j:Int)).bind λy2=>some ((gv n.2.2.2.2.2.1 y2,true,()),())) (by
    intro rec i J;show _\/_;simp only[Q229.s0];rw[decide_eq_true (show (i:Int)<(B4 (aa.doubts n):Int) by omega),ag J,ar i (by omega)];simp only[cond_true,B3];by_cases h:(aa.doubts n)[i].1=v
    ·have e:((aa.doubts n)[i].1 != v)=false:=by simpa using h
     rw[e];obtain⟨q1,q2,q3,q4⟩:=z M i J;exact .inr ⟨⟨J,h⟩,AU K n v _ q4 q3 q1 q2 hK rec⟩
    ·have e:((aa.doubts n)[i].1 != v)=true:=by simpa using h
     rw[e];exact .inl ⟨λ⟨_,H⟩=>h H,rfl⟩) (by
    intro rec;simp only[Q229.s0,aS];rfl) (aa.doubts n).length K 0 (by omega) (by omega)
  rcases J with ⟨i1,i2⟩|⟨j,_,u,j2,j3,j4⟩
  ·have e:Q57.f K (aa.doubts n,(λR=>(Q226.f K (R.1,v,())).map λy=>y.1.1),())=some ((-1,()),()):=i2;rw[e];refine⟨(0,false,()),?_,rfl,λ_ d hd e=>?_,λh=>by cases h⟩
   case refine_2 =>
    obtain⟨j,hj,rfl⟩:=CM hd;exact absurd ⟨hj,e⟩ (i1 j (CD _) hj)
   simp only[B3];cases b with
   |false=>rfl
   |true =>
    rcases hs rfl with ⟨_,Y⟩|⟨Z,_,s1,Y,_⟩
    ·exact Y
    ·exact absurd Y (i1 Z (CD _) s1)
  ·have e:Q57.f K (aa.doubts n,(λR=>(Q226.f K (R.1,v,())).map λy=>y.1.1),())=some ((((j:Nat):Int),()),()):=j4;rw[e];simp only[B3];rw[show decide (((j:Nat):Int)<0)=false from decide_eq_false (by omega),h3];simp only[cond_false,B3];cases b with
   |false=>exact⟨(0,false,()),rfl,rfl,λO=>(by cases H.2 O),λh=>by cases h⟩
   |true =>
    obtain⟨a0,d2,d3,hb⟩:=z rfl j u;simp only[CA,cond_false];rw[ag u];simp only[B3];rcases hs rfl with ⟨s1,_⟩|⟨Z,_,s1,Y,s3,s4⟩
    ·exact absurd j2 (s1 j (CD _) u)
    ·have hj:j=Z:=by
      rcases Nat.lt_trichotomy j Z with h|h|h
      ·exact absurd j2 (s3 j (CD _) h)
      ·exact h
      ·exact absurd Y (j3 Z (CD _) h)
     subst hj;rw[ag u]at s4;simp only[B3]at s4;refine⟨_,s4,?_,λ_ _ _ _=>⟨_,CB u,j2.2,rfl⟩,λ_=>⟨H.1 rfl,_,CB u,j2.2⟩⟩;rw[ym K _ hb];have h1:1<=(aa.doubts n)[j].2.2.2.length:=Ch.2 d3;simp only[B3,gv];have hL:3<=dq (aa.doubts n)[j]/\dq (aa.doubts n)[j]<=7:=by unfold dq;split <;> omega
     generalize (aa.doubts n)[j]=d at *;have e1:wr .i64 (n.2.2.2.2.2.1-d.2.2.1)=n.2.2.2.2.2.1-d.2.2.1:=aA (by omega) (by omega);rw[e1];have e2:wr .i64 (dq d-(n.2.2.2.2.2.1-d.2.2.1))=dq d-(n.2.2.2.2.2.1-d.2.2.1):=aA (by omega) (by omega);rw[e2];by_cases h:dq d-(n.2.2.2.2.2.1-d.2.2.1)<0
     ·rw[decide_eq_true h,if_pos h];rfl
     ·rw[decide_eq_false h,if_neg h];rfl
 ·intro rec i J;simp only[Q57.s0];rw[decide_eq_true (show (i:Int)<(B4 (aa.doubts n):Int) by omega),ag J,ar i (by omega)];simp only[cond_true,B3,Q226.f,C4];by_cases h:(aa.doubts n)[i].1=v
  ·have e:((aa.doubts n)[i].1==v)=true:=by simpa using h
   rw[e];exact .inr ⟨⟨J,h⟩,rfl⟩
  ·have e:((aa.doubts n)[i].1==v)=false:=by simpa using h
   rw[e];exact .inl ⟨λ⟨_,H⟩=>h H,rfl⟩
 ·intro rec;simp only[Q57.s0,aS];rfl
theorem dL.ns9 {i:Nat}{n:aa}(z:dL i n):NS 9 n:=by
 obtain⟨r,u,y,H,I,J⟩:=z.ns;exact⟨r,B5 u,B5 y,B5 H,B5 I,B5 J⟩
theorem wF (K:Nat)(a0 bs:List Int)(hR:fY bs)(n:aa)(hn:NS 9 n)(z:List Int×Int)(hz:bi bs 2000 z)(hK:1048577<K):Tot (Q225.l0 K (a0,()) (0,n.1,n.2.1,n.2.2.1,n.2.2.2.1,n.2.2.2.2.1,n.2.2.2.2.2.1,n.2.2.2.2.2.2.1,n.2.2.2.2.2.2.2.1,n.2.2.2.2.2.2.2.2.1,n.2.2.2.2.2.2.2.2.2.1,n.2.2.2.2.2.2.2.2.2.2.1.1,n.2.2.2.2.2.2.2.2.2.2.1.2.1,n.2.2.2.2.2.2.2.2.2.2.1.2.2.1,n.2.2.2.2.2.2.2.2.2.2.1.2.2.2,n.2.2.2.2.2.2.2.2.2.2.2.1,n.2.2.2.2.2.2.2.2.2.2.2.2.1.1,n.2.2.2.2.2.2.2.2.2.2.2.2.1.2.1,n.2.2.2.2.2.2.2.2.2.2.2.2.1.2.2.1,n.2.2.2.2.2.2.2.2.2.2.2.2.1.2.2.2,n.2.2.2.2.2.2.2.2.2.2.2.2.2.1,n.2.2.2.2.2.2.2.2.2.2.2.2.2.2,z.1,z.2)) λr=>NS 9 r.1.1:=by
 refine Tot.iter (step:=λrec a=>Q225.s0 K (a0,()) rec a) (λa=>∃ (i:Nat) (n:aa) (z:List Int×Int),i<=6/\NS 9 n/\bi bs (2000+1000*i) z/\a=((i:Int),n.1,n.2.1,n.2.2.1,n.2.2.2.1,n.2.2.2.2.1,n.2.2.2.2.2.1,n.2.2.2.2.2.2.1,n.2.2.2.2.2.2.2.1,n.2.2.2.2.2.2.2.2.1,n.2.2.2.2.2.2.2.2.2.1,n.2.2.2.2.2.2.2.2.2.2.1.1,n.2.2.2.2.2.2.2.2.2.2.1.2.1,n.2.2.2.2.2.2.2.2.2.2.1.2.2.1,n.2.2.2.2.2.2.2.2.2.2.1.2.2.2,n.2.2.2.2.2.2.2.2.2.2.2.1,n.2.2.2.2.2.2.2.2.2.2.2.2.1.1,n.2.2.2.2.2.2.2.2.2.2.2.2.1.2.1,n.2.2.2.2.2.2.2.2.2.2.2.2.1.2.2.1,n.2.2.2.2.2.2.2.2.2.2.2.2.1.2.2.2,n.2.2.2.2.2.2.2.2.2.2.2.2.2.1,n.2.2.2.2.2.2.2.2.2.2.2.2.2.2,z.1,z.2)) (λa=>6-a.1.toNat) ?_ K _ (by show 6-B7 0<K;omega) ⟨0,n,z,by omega,hn,hz,rfl⟩;clear hn hz;rintro rec _ ⟨i,⟨a1,a2,a3,a4,a5,a6,a7,a8,a9,Y,⟨O,I,R,Z⟩,u,⟨J,M,X,H⟩,pl,ot⟩,⟨z1,z2⟩,hi,hn,hz,rfl⟩ ih;have b1:u.length<=9:=hn.doubts;have b0:∀ v:Int,Tot (some (((((a1,a2,a3,a4,a5,a6,a7,a8,a9,Y,(O,I,R,Z),u,(J,M,X,H),pl,ot):aa),v,()),()):(aa×Int×Unit)×Unit)) λr=>NS 9 r.1.1:=λv=>Tot.ret hn
 have ad:Tot (bif decide ((B4 u:Int)>0) then ((Q118.f K ((z1,z2),6,())).bind λy4=>bif decide (y4.1.1>0) then ((Q118.f K (y4.2.1,(B4 u:Int),())).bind λy5=>(idx u y5.1.1).bind λy6=>some (((((a1,a2,a3,a4,a5,a6,a7,a8,a9,Y,(O,I,R,Z),u,(J,M,X,H),pl,ot):aa),y6.1,()),()):(aa×Int×Unit)×Unit)) else ((Q118.f K (y4.2.1,9,())).bind λy7=>some (((((a1,a2,a3,a4,a5,a6,a7,a8,a9,Y,(O,I,R,Z),u,(J,M,X,H),pl,ot):aa),wr .i64 (y7.1.1-1),()),()):(aa×Int×Unit)×Unit))) else ((Q118.f K ((z1,z2),9,())).bind λy8=>some (((((a1,a2,a3,a4,a5,a6,a7,a8,a9,Y,(O,I,R,Z),u,(J,M,X,H),pl,ot):aa),wr .i64 (y8.1.1-1),()),()):(aa×Int×Unit)×Unit))) λr=>NS 9 r.1.1:=by
  refine Tot.cnd (λh1=>Tot.bind (aG hR hz 6 (by decide) (by omega)) λv4 ⟨_,s4⟩=>Tot.cnd (λ_=>?_) λ_=>Tot.bind (aG hR s4 9 (by decide) (by omega)) λ_ _=>b0 _) λ_=>Tot.bind (aG hR hz 9 (by decide) (by omega)) λ_ _=>b0 _
  have h1:(u.length:Int)>0:=of_decide_eq_true h1;exact Tot.bind (aG hR s4 (u.length:Int) (by omega) (by omega)) λv5 ⟨⟨q0,q1⟩,_⟩=>Tot.ix q0 (by omega) λy _ _=>b0 _
 simp only[Q225.s0,zc31b9a,zc59c5b];refine Tot.cnd (λh6=>Tot.cnd (λ_=>?_) λ_=>ad) λ_=>ad
 have h6:(i:Int)<6:=of_decide_eq_true h6;rw[ar i (by omega)];exact Tot.bind (tS hR hz (by omega) hK) λy ⟨⟨j,hj⟩,hs⟩=>ih _ ⟨i+1,y.1.1,y.2.1,by omega,hj.ns9,hs.up (by omega),rfl⟩ (by show 6-B7 ((i+1:Nat):Int)<6-B7 (i:Int);omega)
theorem wG (K:Nat)(u:List Int)(z:yj u)(I:1048577<K):Tot (Q225.f K (u,())) λr=>NS 9 r.1.1:=by
 obtain⟨y,H,e⟩:=BK (K:=K) u z.byte z.len;simp only[Q225.f,Q225.pre,zc31b9a];exact Tot.vl e (Tot.bind (yi H (bi.zero y) (by omega) I) λn ⟨M,J⟩=>wF K u y H n.1.1 M n.2.1 (J.up (by omega)) I)
theorem yp {n:aa}(u:Asc (λg:af=>g.1) (aa.table n)){f:af}{b:Int}{d:bt}(r:d.1≠f.1):d∈aa.doubts (sayOf n f b)<->d∈aa.doubts n:=by
 rcases jJ u f b with e|⟨e,_⟩
 ·rw[e]
 ·rw[e];show d∈(bif jg n f then aa.doubts n else cD (aZ n) (aa.doubts n) f b)<->_;cases jg n f with
  |true=>exact C6
  |false =>
   simp only[cond_false];unfold cD;split
   ·exact aW.trans ⟨λh=>h.elim (λh=>absurd (by rw[h];rfl) r) (·.1),λh=>.inr ⟨h,r⟩⟩
   ·exact List.mem_filter.trans ⟨(·.1),λh=>⟨h,by simpa using r⟩⟩
def mB (v:Int)(n m:aa):Prop:=(∀ g:af,g.1=v->(g∈aa.table m<->g∈aa.table n))/\∀ d:bt,d.1=v->(d∈aa.doubts m<->d∈aa.doubts n)
theorem mB.refl (v:Int)(n:aa):mB v n n:=⟨λ_ _=>C6,λ_ _=>C6⟩
theorem mB.trans {v:Int}{n m k:aa}(h:mB v n m)(h':mB v m k):mB v n k:=⟨λg e=>(h'.1 g e).trans (h.1 g e),λd e=>(h'.2 d e).trans (h.2 d e)⟩
theorem mB.say {v:Int}{n:aa}(u:Asc (λg:af=>g.1) (aa.table n)){f:af}{b:Int}(r:f.1≠v):mB v n (sayOf n f b) :=
 ⟨λ_ e=>rK u (by rw[e];exact Ne.symm r),λ_ e=>yp u (by rw[e];exact Ne.symm r)⟩
def nm (n:aa)(v r:Int):Prop:=∃ g∈aa.table n,g.1=v/\g.2.2.1=3/\g.2.1=r
theorem nm.same {n m:aa}{v u:Int}(h:nm n v u)(y:mB v n m):nm m v u:=by
 obtain⟨g,z,e,r⟩:=h;exact⟨g,(y.1 g e).2 z,e,r⟩
theorem nm.no {n:aa}{v u:Int}(h:nm n v u)(y:UpX n):∀ d∈aa.doubts n,d.1≠v:=by
 intro d H e;obtain⟨g,I,z,R,_⟩:=h;obtain⟨⟨O,r,J,M,_⟩,_⟩:=y.doubts.1 d H;have:=fD y.table.2 I r (by rw[z,J,e]);subst this;omega
theorem yq {n:aa}(h:UpX n)(hs:cV n):∀ f∈aa.table (dO n),f∈aa.table n \/
  ∃ d∈aa.doubts n,∃ g∈aa.table n,g.1=d.1/\f=fu g/\ii (aZ n) d.2.2.1 d.2.2.2.length=true:=by
 have:=jv (st:=cX) (Inv:=λm=>(UpX m/\cV m/\OnN n m/\aZ m=aZ n/\∀ f∈aa.table m,f∈aa.table n \/
  ∃ d∈aa.doubts n,∃ g∈aa.table n,g.1=d.1/\f=fu g/\ii (aZ n) d.2.2.1 d.2.2.2.length=true)/\∀ g∈aa.table n,∃ M∈aa.table m,M.1=g.1) (ds:=aa.doubts n) (n:=n) ⟨⟨h,hs,OnN.refl n,rfl,λf H=>.inl H⟩,λg J=>⟨g,J,rfl⟩⟩ ?_
 ·exact this.1.2.2.2.2
 ·rintro m d hd ⟨⟨z,I,X,r,hi⟩,hk⟩;have a2:=pm h hs hd;unfold cX;cases u:ii m.2.2.2.2.2.1 d.2.2.1 d.2.2.2.length with
  |false=>exact⟨⟨z,I,X,r,hi⟩,hk⟩
  |true =>
   have u:ii (aZ n) d.2.2.1 d.2.2.2.length=true:=by rw[<- r];exact u
   obtain⟨⟨g,J,e,_⟩,_⟩:=h.doubts.1 d hd;obtain⟨M,y,e'⟩:=hk g J;obtain⟨h1,h2,h3⟩:=cC z.table ⟨M,y,e'.trans e⟩;have Y:aj (fu (aB (aa.table m) d.1)).1=aj m.1:=by
    show aj (aB (aa.table m) d.1).1=aj m.1;exact z.site _ h3
   have a0:(fu (aB (aa.table m) d.1)).1≠n.1:=by rw[show (fu (aB (aa.table m) d.1)).1=_ from h2];exact a2
   refine⟨⟨z.said (lV h1) Y (fA.me z.me),my z.table.2 X a0 I,X.say _ _,(dw m _ _).2.2.2.2.2.1.trans r,λf H=>?_⟩,λg J=>?_⟩
   ·rcases vv z.table.2 H with rfl|H
    ·rcases hi _ h3 with h4|⟨d',Z,M,y,O,e2,e3⟩
     ·exact .inr ⟨d,hd,_,h4,h2,rfl,u⟩
     ·exact .inr ⟨d',Z,M,y,O,by rw[e2];rfl,e3⟩
    ·exact hi f H
   ·obtain⟨g1,a1,O⟩:=hk g J;obtain⟨g2,R,e2⟩:=iY (f:=fu (aB (aa.table m) d.1)) (b:=m.1) a1;exact⟨g2,R,e2.trans O⟩
theorem yt {n:aa}(h:UpN n):∀ f∈aa.table (hY n),f.2.2.1=3->f∈aa.table n \/
  ∃ d∈aa.doubts n,∃ g∈aa.table n,g.1=d.1/\f=fu g/\ii (aZ n+1) d.2.2.1 d.2.2.2.length=true/\aZ (hY n)=aZ n+1:=by
 intro f r J;have y:=h.x.later;have z:cV (db n):=h.self;obtain⟨X,b2,_⟩:=k8 y z;obtain⟨p1,R⟩:=yk (db n);obtain⟨f1,f2⟩:=wD (m:=dO (db n)) X.table;obtain⟨t1,t2⟩:=wC (fG n).1;have M:aZ (hY n)=aZ n+1:=(t2.trans f1).trans R;have r:f∈aa.table (bd (dO (db n))).1:=by
  have:aa.table (hY n)=aa.table (bd (dO (db n))).1:=t1;rw[<- this];exact r
 rcases f2 f r with Y|⟨g,u,rfl,g1,g2,g3⟩
 ·rcases yq y z f Y with h4|⟨d,Z,g,u,O,H,I⟩
  ·exact .inl h4
  ·exact .inr ⟨d,Z,g,u,O,H,I,M⟩
 ·exact absurd (show (2:Int)=3 from J) (by decide)
section
variable {K:Nat} {b:List Int} {m:Nat} {s:List Int×Int}
end
theorem BM {v:Int}(h:InP v 0 7)(d:Int)(z:InP d 1 3):InP (wr .i64 (wr .i64 (wr .i64 (Cw v 4)*4)+CU (wr .i64 (v+d)) 4)) 0 7/\aj (wr .i64 (wr .i64 (wr .i64 (Cw v 4)*4)+CU (wr .i64 (v+d)) 4))=aj v/\wr .i64 (wr .i64 (wr .i64 (Cw v 4)*4)+CU (wr .i64 (v+d)) 4)≠v:=by
 have u:wr .i64 (Cw v 4)=v / 4:=gN h;obtain⟨y,r⟩:=h;obtain⟨H,I⟩:=z;rw[u,aA (n:=v / 4*4) (by omega) (by omega),aA (n:=v+d) (by omega) (by omega),Int.tmod_eq_emod_of_nonneg (by omega),aA (by omega) (by omega)];rw[gN (n:=v / 4*4+(v+d) % 4) ⟨by omega,by omega⟩,gN ⟨y,r⟩];exact⟨⟨by omega,by omega⟩,by omega,by omega⟩
end Go.Proofs.YtadlacffdemoiaaGreatEv
