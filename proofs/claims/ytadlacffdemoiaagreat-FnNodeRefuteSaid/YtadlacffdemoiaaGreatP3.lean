/- What a node answers, by the specification. -/
import Derived.Test.YtadlacffdemoiaaGreatP2
set_option linter.unusedVariables false
set_option linter.unusedSimpArgs false
open Bool renaming not_true->BH,eq_iff_iff->BX,not_false->BZ,true_and->Bx,false_eq_true->CA,not_eq_true'->CB,and_eq_true->CE,not_eq_true->CF
open Classical renaming not_not->CC
open Int renaming toNat->BE,toNat_natCast->BF,eq_ofNat_of_zero_le->BO,tmod->BR,toNat_zero->Bu,tdiv->Bv,le_refl->Bw,fdiv->Bz,toNat_of_nonneg->B8,tmod_lt_of_pos->B9,le_trans->CD,tmod_nonneg->CI
open List renaming length->BD,mem_singleton->BG,getElem_mem->BI,length_set->BK,length_append->BL,mem_append->BM,getElem_of_mem->BN,nil_append->BQ,drop_zero->BS,mem_of_mem_take->BU,mem_map->BV,length_take->BW,mem_filter->BY,take_length->By,length_drop->B3,length_map->B4,length_nil->B5,length_filter_le->B6,length_cons->CG,not_mem_nil->CH,mem_cons->CJ
open Nat renaming le_succ_of_le->BB,le_trans->BJ,zero_le->BP,le_refl->BT,le_succ->B7
open Option renaming bind_some->BA,bind->BC
namespace Go.Proofs.YtadlacffdemoiaaGreatEv
open Go
theorem qw (K:Nat)(l:List Int)(t:Int)(u:l.length<=1048576):Q45.f K (l,t,())=some ((gZ l t,()),()):=by
 simp only[Q45.f];rw[szb _ _ _ (by omega) (by show (BD ([]:List Int))+l.length<=_;simp;omega)];simp only[cond_true,BQ];rw[szb _ _ _ (by omega) (by show l.length+[t].length<=_;simp;omega)];simp only[cond_true];have r:(l++[t]).length=l.length+1:=by simp
 show (bif decide (((l++[t]).length:Int)>3) then (bif decide (0<=wr .i64 (((l++[t]).length:Int)-3))&&decide (wr .i64 (((l++[t]).length:Int)-3)<=((l++[t]).length:Int))&&decide (((l++[t]).length:Int)<=((l++[t]).length:Int))&&true then some ((((l++[t]).take (BE ((l++[t]).length:Int))).drop (BE (wr .i64 (((l++[t]).length:Int)-3))),()),()) else none) else some ((l++[t],()),()))=_;by_cases h:l.length+1>3
 ·rw[aH (by omega) (by omega),decide_eq_true (by omega:((l++[t]).length:Int)>3),decide_eq_true (by omega:(0:Int)<=((l++[t]).length:Int)-3),decide_eq_true (by omega:((l++[t]).length:Int)-3<=((l++[t]).length:Int)),decide_eq_true (Bw _)];simp only[Bool.and_self,cond_true,gZ];rw[show BE (((l++[t]).length:Int)-3)=(l++[t]).length-3 by omega,BF,By]
 ·rw[decide_eq_false (by omega:¬ ((l++[t]).length:Int)>3)];simp only[cond_false,gZ];rw[show (l++[t]).length-3=0 by omega,BS]
theorem plen {r:Int}{l:List dI}(h:er r l):l.length<=1048576:=BJ (iP h.2 λx u=>(h.1 x u).1) (by decide)
theorem uh {u:Int}{l:List dI}(h:er u l)(r:Int):(dF l r).length<=3:=by
 unfold dF;cases y:l.find? λp=>p.1==r with
 |none=>simp
 |some p =>
  have:=(h.1 p (List.mem_of_find?_eq_some y)).2.2.2.2.1.2;show p.2.2.length<=3;omega
theorem Aa (K:Nat)(l:List dI)(r:Int)(c:dz)(t:Int)(me:Int)(h:er me l)(hK:1048577<K):Q46.f K (l,r,c,t,())=some ((oZ l r c t,()),()):=by
 have hl:=plen h;have h3:=uh h r;refine q9 (step:=λrec a=>Q46.s0 K (l,r,c,t,()) rec a) (λx:dI=>x.1) (r,c,gZ (dF l r) t) l h.2 (λu i=>(u,false,(i:Int),[])) (λu i=>(u,true,(i:Int),gZ (dF l r) t)) (λo=>some ((o,()),())) ?_ ?_ ?_ ?_ (by omega)
 ·intro rec u i I X z;simp only[Q46.s0];rw[bk (by omega:(i:Int)<(BD l:Int)),ag I,ar i (by omega)];simp only[cond_true,BA,BZ];have J:=szb u.length 1 64 (by omega) (by omega);have Y:=szb (u++[(r,c,gZ (dF l r) t)]).length 1 64 (by omega) (by simp;omega);have O:l[i].1=r->dF l r=l[i].2.2:=λe=>by unfold dF;rw[oU h.2 I e];rfl
  have R:r<l[i].1->dF l r=[]:=λe=>by
   unfold dF;rw[nK (k:=λp:dI=>p.1)]
   ·rfl
   intro y M;obtain⟨j,hj,rfl⟩:=BN M;by_cases a0:j<i
   ·have:=z l[j] (by rw[List.mem_take_iff_getElem];exact⟨j,by omega,rfl⟩);show l[j].1≠r;have:l[j].1<r:=this;omega
   ·have:l[i].1<=l[j].1:=by
     by_cases e:i=j
     ·subst e;exact Bw _
     ·exact Int.le_of_lt (cB.1 h.2 i j I hj (by omega))
    show l[j].1≠r;omega
  have a1:=(h.1 _ (BI I)).2.2.2.2.1.2;generalize l[i]=y at *;by_cases Z:y.1<r
  ·rw[if_pos Z,show decide (y.1>=r)=false from decide_eq_false (by omega),show (y.1 != r)=true by simp;omega,show (y.1==r)=false by simp;omega];exact (congrArg (λb=>bif b then _ else _) J).trans rfl
  ·rw[if_neg Z,show decide (y.1>=r)=true from decide_eq_true (by omega)];by_cases H:y.1=r
   ·rw[if_pos H,show (y.1 != r)=false by simpa using H,show (y.1==r)=true by simpa using H];simp only[cond_true,cond_false];rw[<- O H];refine (congrArg (λo=>BC o _) (qw K _ t (by omega))).trans ?_;exact (congrArg (λb=>bif b then _ else _) J).trans rfl
   ·rw[if_neg H,show (y.1 != r)=true by simpa using H,show (y.1==r)=false by simpa using H];simp only[cond_true,cond_false];have e:=R (by omega);rw[e]at Y ⊢;refine (congrArg (λo=>BC o _) (qw K [] t (by simp))).trans ?_;refine (congrArg (λb=>bif b then _ else _) J).trans ?_;exact (congrArg (λb=>bif b then _ else _) Y).trans rfl
 ·intro rec u i I X hc;simp only[Q46.s0];rw[bk (by omega:(i:Int)<(BD l:Int)),ag I,ar i (by omega)];have hc:r<l[i].1:=hc;simp only[cond_true,BA,BH,cond_false];rw[show (l[i].1 != r)=true by simp;omega,show (l[i].1==r)=false by simp;omega];exact (congrArg (λb=>bif b then _ else _) (szb u.length 1 64 (by omega) (by omega))).trans rfl
 ·intro rec u X z;simp only[Q46.s0,aQ,cond_false,BZ,cond_true];have e:dF l r=[]:=by
   unfold dF;rw[nK (k:=λp:dI=>p.1) (λy M=>by have:y.1<r:=z y M;show y.1≠r;omega)];rfl
  rw[e];refine (congrArg (λo=>BC o _) (qw K [] t (by simp))).trans ?_;exact (congrArg (λb=>bif b then _ else _) (szb u.length 1 64 (by omega) (by omega))).trans rfl
 ·intro rec u X;simp only[Q46.s0,aQ,cond_false,BH]
def te (n u r:Int):Int:=if n<u then u else if n>r then r else n
theorem zq (K:Nat)(n y z:Int):Q44.f K (n,y,z,())=some ((te n y z,()),()):=by
 simp only[Q44.f,te];by_cases r:n<y
 ·rw[decide_eq_true r,if_pos r];rfl
 ·rw[decide_eq_false r,if_neg r];by_cases u:n>z
  ·rw[decide_eq_true u,if_pos u];rfl
  ·rw[decide_eq_false u,if_neg u];rfl
theorem Ab {n u r:Int}(h:u<=r):InP (te n u r) u r:=by
 unfold te;split
 ·exact⟨Bw _,h⟩
 ·split
  ·exact⟨h,Bw _⟩
  ·exact⟨by omega,by omega⟩
def xp (n:aa):Int:=te ((cf n-(aa.probe n).2.1)*1000+500) 1 60000
noncomputable def qx (K:Nat)(w:ak)(c:dz)(p:dI):dz:=bif p.1==w.2.2.1 then pR K c (ak.coord w) (r8 K p.2.2) w.2.2.2.2.1 else c
def km (n:aa)(w:ak):List dI:=oZ (aa.places n) w.2.2.1 (ak.coord w) (xp n)
def qy (n:aa)(w:ak):Bool:=!decide ((aa.probe n).1<0)&&(aa.probe n).1==w.2.2.1&&(aa.probe n).2.2.1==w.2.2.2.2.1&&w.2.2.2.2.2.1==w.2.2.1
noncomputable def fb (K:Nat)(n:aa)(w:ak):aa:=bif qy n w then pP n ((km n w).foldl (qx K w) (aa.coord n)) (km n w) else n
theorem uN {K:Nat}{w:ak}{c:dz}{p:dI}(r:cF c)(u:1048577<K):cF (qx K w c p):=by
 unfold qx;cases p.1==w.2.2.1 with
 |false=>exact r
 |true=>exact (xm K c _ _ _ r u).2
theorem tf {n:aa}(h:UpX n)(H:¬ (aa.probe n).1<0):(aa.probe n).1≠n.1/\InP (aa.probe n).1 0 7/\aj (aa.probe n).1=aj n.1/\InP (aa.probe n).2.1 0 (cf n):=by
 have r:=h.probe;unfold c7 at r;rw[if_neg (by omega)]at r;obtain⟨z,⟨f,u,e⟩,y,_⟩:=r;exact⟨z,e ▸ (h.table.1 f u).1,e ▸ h.site f u,y⟩
theorem uO {n:aa}{w:ak}(h:UpX n)(H:cF (ak.coord w))(z:qy n w=true):er n.1 (km n w):=by
 simp only[qy,CE,CB,decide_eq_false_iff_not,beq_iff_eq]at z;obtain⟨⟨⟨J,I⟩,O⟩,M⟩:=z;obtain⟨y,r,u,_⟩:=tf h J;rw[I]at y r u;exact vJ h.places r u y H (Ab (by decide))
theorem ack_s (K:Nat)(n:aa)(w:ak)(h:UpN n)(Y:cF (ak.coord w))(I:1048577<K):Q57.f K (n,w,())=some ((fb K n w,()),()):=by
 simp only[Q57.f,Q57.pre,zc00556];have H:qy n w=(!decide ((aa.probe n).1<0)&&(aa.probe n).1==w.2.2.1&&(aa.probe n).2.2.1==w.2.2.2.2.1&&w.2.2.2.2.2.1==w.2.2.1):=rfl;by_cases r:(aa.probe n).1<0
 ·rw[show decide (n.2.2.2.2.2.2.2.2.2.2.1.1<0)=true from decide_eq_true r];rw[show fb K n w=n by unfold fb;rw[H,decide_eq_true r];rfl];rfl
 ·rw[show decide (n.2.2.2.2.2.2.2.2.2.2.1.1<0)=false from decide_eq_false r];cases u:(aa.probe n).1==w.2.2.1 with
  |false =>
   rw[show fb K n w=n by unfold fb;rw[H,decide_eq_false r,u];rfl];rw[show (n.2.2.2.2.2.2.2.2.2.2.1.1 != w.2.2.1)=true by unfold bne;rw[show (n.2.2.2.2.2.2.2.2.2.2.1.1==w.2.2.1)=false from u];rfl];rfl
  |true =>
   rw[show (n.2.2.2.2.2.2.2.2.2.2.1.1 != w.2.2.1)=false by unfold bne;rw[show (n.2.2.2.2.2.2.2.2.2.2.1.1==w.2.2.1)=true from u];rfl];cases z:(aa.probe n).2.2.1==w.2.2.2.2.1 with
   |false =>
    rw[show fb K n w=n by unfold fb;rw[H,decide_eq_false r,u,z];rfl];rw[show (n.2.2.2.2.2.2.2.2.2.2.1.2.2.1 != w.2.2.2.2.1)=true by unfold bne;rw[show (n.2.2.2.2.2.2.2.2.2.2.1.2.2.1==w.2.2.2.2.1)=false from z];rfl];rfl
   |true =>
    rw[show (n.2.2.2.2.2.2.2.2.2.2.1.2.2.1 != w.2.2.2.2.1)=false by unfold bne;rw[show (n.2.2.2.2.2.2.2.2.2.2.1.2.2.1==w.2.2.2.2.1)=true from z];rfl];cases J:w.2.2.2.2.2.1==w.2.2.1 with
    |false =>
     rw[show fb K n w=n by unfold fb;rw[H,decide_eq_false r,u,z,J];rfl];rw[show (w.2.2.2.2.2.1 != w.2.2.1)=true by unfold bne;rw[J];rfl];rfl
    |true =>
     have O:qy n w=true:=by rw[H,decide_eq_false r,u,z,J];rfl
     rw[show (w.2.2.2.2.2.1 != w.2.2.1)=false by unfold bne;rw[J];rfl];have Z:=(tf h.x r).2.2.2;have hn:=h.now1;have X:=uO h.x Y O;simp only[cond_false];rw[show wr .i64 (wr .i64 (wr .i64 (n.2.2.2.2.2.1-n.2.2.2.2.2.2.2.2.2.2.1.2.1)*1000)+500)=(cf n-(aa.probe n).2.1)*1000+500 by
      obtain⟨p1,p2⟩:=Z;show wr .i64 (wr .i64 (wr .i64 (cf n-(aa.probe n).2.1)*1000)+500)=_;rw[aH (n:=cf n-_) (by omega) (by omega),aH (n:=_*1000) (by omega) (by omega),aH (by omega) (by omega)]]
     rw[zq];simp only[BA];refine (congrArg (λo=>BC o _) (Aa K (aa.places n) w.2.2.1 (ak.coord w) (xp n) n.1 h.x.places I)).trans ?_;simp only[BA];rw[show fb K n w=pP n ((km n w).foldl (qx K w) (aa.coord n)) (km n w) by unfold fb;rw[O];rfl];show Q57.l0 K (n,w,()) (0,(aa.coord n).1,(aa.coord n).2.1,(aa.coord n).2.2.1,(aa.coord n).2.2.2,km n w)=_;have hl:=plen X;refine kA (step:=λrec a=>Q57.s0 K (n,w,()) rec a) (km n w) (qx K w) cF (λc i=>((i:Int),c.1,c.2.1,c.2.2.1,c.2.2.2,km n w)) (λc=>some ((pP n c (km n w),()),())) (aa.coord n) h.x.coord ?_ ?_ (by omega)
     ·intro rec c i R M;refine⟨?_,uN M I⟩;simp only[Q57.s0,zc00556,zcp8];rw[bk (by omega:(i:Int)<(BD (km n w):Int)),BF,ag R,ar i (by omega)];simp only[cond_true,BA];have a0:=(X.1 _ (BI R)).2.2.2.2.1.2;generalize (km n w)[i]=y at *;unfold qx;cases y.1==w.2.2.1 with
      |false=>rfl
      |true =>
       simp only[cond_true];refine (congrArg (λo=>BC o _) (med_s K y.2.2 (by omega) I)).trans ?_;refine (congrArg (λo=>BC o _) (xm K c (ak.coord w) (r8 K y.2.2) w.2.2.2.2.1 M I).1).trans ?_;rfl
     ·intro rec c M;simp only[Q57.s0,zc00556,zcp8,aQ,cond_false];rfl
theorem AV {K:Nat}{n:aa}{w:ak}(h:UpN n)(r:cF (ak.coord w))(u:1048577<K):UpN (fb K n w)/\(fb K n w).1=n.1/\(fb K n w).2.2.1=n.2.2.1:=by
 unfold fb;cases z:qy n w with
 |false=>exact⟨h,rfl,rfl⟩
 |true=>exact⟨h.heard (lX (Inv:=cF) h.x.coord λc p _ y=>uN y u) (uO h.x r z),rfl,rfl⟩
def gx (n:aa)(w:ak):Prop:=n.2.1=true/\n.2.2.1=false/\w.2.2.2.1=n.1/\w.2.2.1≠n.1 /\
 (if w.1=2 then w.2.1=6/\aj w.2.2.1≠aj n.1/\(bR (ak.table w) (aj n.1)\/bR (ak.table w) (aj w.2.2.1)) else aj w.2.2.1=aj n.1/\(w.2.1≠6\/¬ bR (ak.table w) (aj n.1)))
theorem uP (K:Nat)(n:aa)(w:ak)(z:(ak.table w).length<=1048576)(I:1048577<K):Ret (Q24.f K (n,w,())) (gx n w):=by
 refine (Ret.cndN (P:=¬ n.2.1=true) (b:=!n.2.1) (by simp) λ_=>Ret.cndN (P:=n.2.2.1=true) (b:=n.2.2.1) Iff.rfl λ_=>Ret.cndN (P:=w.2.2.2.1≠n.1) (b:=w.2.2.2.1 != n.1) (by simp) λ_=>Ret.cndN (P:=w.2.2.1=n.1) (b:=w.2.2.1==n.1) (by simp) λ_ =>
  (?_:Ret _ (if w.1=2 then w.2.1=6/\aj w.2.2.1≠aj n.1/\(bR (ak.table w) (aj n.1)\/bR (ak.table w) (aj w.2.2.1)) else aj w.2.2.1=aj n.1/\(w.2.1≠6\/¬ bR (ak.table w) (aj n.1))))).iff ?_
 ·refine Ret.vl (dk K n.1) ?_;obtain⟨J,H,y⟩:=eZ K (ak.table w) (aj n.1) z I;obtain⟨M,R,O⟩:=eZ K (ak.table w) (aj w.2.2.1) z I;by_cases r:w.1=2
  ·rw[show (w.1==2)=true by simpa using r,if_pos r];refine Ret.cnd (P:=w.2.1=6) (b:=w.2.1==6) (by simp) λ_=>?_
   refine Ret.cnd (P:=aj w.2.2.1≠aj n.1) (b:=aj w.2.2.1 != aj n.1) (by simp) λ_=>Ret.vl H ?_
   cases J with
   |true=>exact Ret.yes (.inl (y.1 rfl))
   |false =>
    refine Ret.vl R ?_;exact Ret.of (b:=M) (O.trans ⟨.inr,λh=>h.resolve_left λh=>by have:=y.2 h;cases this⟩)
  ·rw[show (w.1==2)=false by simpa using r,if_neg r];refine Ret.cnd (P:=aj w.2.2.1=aj n.1) (b:=aj w.2.2.1==aj n.1) (by simp) λ_=>?_
   by_cases u:w.2.1=6
   ·show Ret (bif w.2.1 != 6 then _ else _) _;rw[show (w.2.1 != 6)=false by simpa using u];refine Ret.vl H (Ret.of (b:=!J) ?_);rw[CB,<- CF,y];exact⟨.inr,λh=>h.resolve_left λh=>h u⟩
   ·show Ret (bif w.2.1 != 6 then _ else _) _;rw[show (w.2.1 != 6)=true by simpa using u];exact Ret.yes (.inl u)
 ·unfold gx;rw[CC,CF,CC]
def pT (u:Int)(n:aa)(to y r:Int)(t:List af):ak:=(1,u,n.1,to,y,r,aa.coord n,t)
theorem pU (K:Nat)(n:aa)(u to y r:Int)(t:List af)(z:t.length<=1048576):Q39.f K (n,u,to,y,r,t,())=some ((pT u n to y r t,()),()):=by
 simp only[Q39.f];rw[szb _ _ _ (by omega) (by show (BD ([]:List af))+t.length<=_;simp;omega)];rfl
def mb (t:List af)(s:Int):Bool:=t.all λf=>aj f.1==s
theorem kG {t:List af}{s:Int}:mb t s=true<->bR t s:=by simp[mb,bR]
def ch (t:List af):af:=(t.head?).getD (0,0,0,false)
def bG (n:aa)(w:ak):List af:=eX (eF (aa.others n) (aj (ch (ak.table w)).1)) (ak.table w)
def vM (n:aa)(w:ak):ak:=(2,6,n.1,w.2.2.1,0,n.1,aa.coord n,bG n w)
def sumN (n:aa)(w:ak):aa:=mU n (bu (λx:bZ=>x.1) (aj (ch (ak.table w)).1,bG n w) (aa.others n))
def eQ (n:aa)(w:ak):aa×List ak:=bif mb (ak.table w) (aj n.1) then (dr n (ak.table w) n.1,[]) else
 (sumN n w,bif w.1==2&&decide (ak.table w≠bG n w) then [vM n w] else [])
theorem pV:∀ {fs t:List af} {g:af},g∈eX t fs->g∈t\/g∈fs
 |[],_,_,h=>.inl h
 |f::fs,t,g,h=>by
  rcases pV (fs:=fs) h with h|h
  ·have h:g∈(bN t f).1:=h;rcases gW t f with e|e
   ·rw[e]at h;exact .inl h
   ·rw[e]at h;rcases aX.1 h with rfl|⟨h,_⟩
    ·exact .inr (by simp)
    ·exact .inl h
  ·exact .inr (by simp[h])
theorem pW:∀ {fs t:List af} {g:af},g∈t->∃ I∈eX t fs,I.1=g.1
 |[],_,g,h=>⟨g,h,rfl⟩
 |f::fs,t,g,h=>by
  obtain⟨J,u,y⟩:=mN (f:=f) h;obtain⟨r,H,z⟩:=pW (fs:=fs) u;exact⟨r,H,z.trans y⟩
theorem ui {t:List af}(H:Asc (λg:af=>g.1) t)(f:af):∃ g∈(bN t f).1,g.1=f.1:=by
 by_cases h:∃ g∈t,g.1=f.1
 ·obtain⟨g,r,e⟩:=h;obtain⟨y,u,z⟩:=mN (f:=f) r;exact⟨y,u,z.trans e⟩
 ·rw[gu λg r e=>h ⟨g,r,e⟩];exact⟨f,aX.2 (.inl rfl),rfl⟩
theorem kH {n:aa}{w:ak}(h:c8 n.1 (aa.others n))(I:az (ak.table w))(u:lV (ak.table w)):az (bG n w)/\bG n w≠[]/\bR (bG n w) (aj (ch (ak.table w)).1):=by
 have z:=o6 h (aj (ch (ak.table w)).1);refine⟨qW z I.1,?_,?_⟩
 ·unfold bG;cases y:ak.table w with
  |nil=>rw[y]at u;exact u.elim
  |cons f l =>
   obtain⟨g,J,_⟩:=ui (f:=f) (t:=eF (aa.others n) (aj (ch (f::l)).1)) (by rw[y]at z;exact z.2);obtain⟨R,O,_⟩:=pW (fs:=l) J;exact List.ne_nil_of_mem O
 ·intro g r;rcases pV r with r|r
  ·rcases qR (l:=aa.others n) (s:=aj (ch (ak.table w)).1) with e|⟨x,H,M,e⟩
   ·rw[e]at r;cases r
   ·rw[e]at r;rw[<- M];exact (h.1 x H).2.2.2.2 g r
  ·cases y:ak.table w with
   |nil=>rw[y]at u;exact u.elim
   |cons f l =>
    rw[y]at u r;exact u g r
theorem uQ {x:Int}(h:InP x 0 7):InP (aj x) 0 1:=by
 rw[fG h];obtain⟨u,r⟩:=h;constructor <;> omega
theorem tg {t:List af}(u:lV t)(r:az t):InP (ch t).1 0 7:=by
 cases t with
 |nil=>exact u.elim
 |cons f l=>exact (r.1 f (by simp)).1
theorem xq (K:Nat)(n:aa)(w:ak)(h:UpN n)(r:az (ak.table w))(z:lV (ak.table w))(u:1048577<K):Q40.f K (n,w,())=some (((eQ n w).1,(eQ n w).2,()),()):=by
 simp only[Q40.f];rw[dk K n.1];simp only[BA];obtain⟨H,M,J⟩:=eZ K (ak.table w) (aj n.1) (bX r) u;have R:mb (ak.table w) (aj n.1)=H:=by rw[BX,kG,J]
 unfold eQ;rw[R];refine (congrArg (λo=>BC o _) M).trans ?_;simp only[rb,BA];cases H with
 |true =>
  simp only[cond_true];refine (congrArg (λo=>BC o _) (uH K n (ak.table w) n.1 h.learns r.1 (bX r) h.x.me u)).trans rfl
 |false =>
  simp only[cond_false];obtain⟨O,X,Y⟩:=kH (n:=n) h.x.others r z;have y:idx (ak.table w) 0=some (ch (ak.table w)):=by
   cases I:ak.table w with
   |nil=>rw[I]at z;exact z.elim
   |cons f l=>rfl
  refine (congrArg (λo=>BC o _) y).trans ?_;simp only[BA];rw[dk K];simp only[BA];refine (congrArg (λo=>BC o _) (xo K n (aj (ch (ak.table w)).1) (ak.table w) h.x.others r u)).trans ?_;simp only[BA];refine (congrArg (λo=>BC o _) (sum_s K n (aj (ch (ak.table w)).1) (bG n w) h.x.others u)).trans ?_;simp only[BA];cases w.1==2 with
  |false=>rfl
  |true =>
   simp only[cond_true,Bx];refine (congrArg (λo=>BC o _) (yI K (ak.table w) (bG n w) (bX r) u)).trans ?_;simp only[rb,BA];cases decide (ak.table w≠bG n w) with
   |false=>rfl
   |true =>
    simp only[cond_true];refine (congrArg (λo=>BC o _) (pU K (sumN n w) 6 w.2.2.1 0 n.1 (bG n w) (bX O))).trans rfl
theorem vN {n:aa}{w:ak}(h:UpN n)(H:n.2.2.1=false)(u:az (ak.table w))(r:lV (ak.table w)):UpN (eQ n w).1/\(eQ n w).1.1=n.1/\(eQ n w).1.2.2.1=false:=by
 unfold eQ;cases y:mb (ak.table w) (aj n.1) with
 |true=>exact kl h H u (kG.1 y) (fp.me h.x.me)
 |false =>
  obtain⟨M,I,J⟩:=kH (n:=n) h.x.others u r;refine⟨h.setOthers (vI h.x.others (uQ (tg r u)) (λe=>?_) I M J),rfl,H⟩;have:bR (ak.table w) (aj n.1):=by
   cases z:ak.table w with
   |nil=>rw[z]at r;exact r.elim
   |cons f l=>rw[z]at r e;rw[<- e];exact r
  rw[kG.2 this]at y;cases y
noncomputable def fa (K:Nat)(n:aa)(w:ak):aa×List ak :=
 bif w.2.1==1 then (bif aj w.2.2.2.2.2.1 != aj n.1 then (n,[]) else bif w.2.2.2.2.2.1==n.1 then (n,[]) else (iQ n,[pT 2 (iQ n) w.2.2.2.2.2.1 w.2.2.2.2.1 n.1 (gY n w.2.2.2.2.2.1)]))
 else bif w.2.1==3 then (bif aj w.2.2.2.2.2.1 != aj n.1 then (n,[]) else bif w.2.2.2.2.2.1==n.1 then (n,[]) else bif w.2.2.2.2.2.1==w.2.2.1 then (n,[]) else (iQ n,[pT 1 (iQ n) w.2.2.2.2.2.1 w.2.2.2.2.1 w.2.2.1 (gY n w.2.2.2.2.2.1)]))
 else bif w.2.1==4 then (n,[pT 5 n w.2.2.1 0 n.1 (aa.table n)]) else bif w.2.1==2 then (fb K n w,[]) else (n,[])
theorem yJ (K:Nat)(n:aa)(w:ak)(h:UpN n)(z:cF (ak.coord w))(u:1048577<K):Q58.f K (n,w,())=some (((fa K n w).1,(fa K n w).2,()),()):=by
 simp only[Q58.f];rw[dk K n.1];simp only[BA];have y:=uL K n w.2.2.2.2.2.1 h.x.say u;have r:=bX (nN h.x.say w.2.2.2.2.2.1);unfold fa;cases w.2.1==1 with
 |true =>
  simp only[cond_true];rw[dk K];simp only[BA];cases aj w.2.2.2.2.2.1 != aj n.1 with
  |true=>rfl
  |false =>
   simp only[cond_false];cases w.2.2.2.2.2.1==n.1 with
   |true=>rfl
   |false =>
    simp only[cond_false];refine (congrArg (λo=>BC o _) y).trans ?_;simp only[BA];refine (congrArg (λo=>BC o _) (pU K (iQ n) 2 w.2.2.2.2.2.1 w.2.2.2.2.1 n.1 _ r)).trans rfl
 |false =>
  simp only[cond_false];cases w.2.1==3 with
  |true =>
   simp only[cond_true];rw[dk K];simp only[BA];cases aj w.2.2.2.2.2.1 != aj n.1 with
   |true=>rfl
   |false =>
    simp only[cond_false];cases w.2.2.2.2.2.1==n.1 with
    |true=>rfl
    |false =>
     simp only[cond_false];cases w.2.2.2.2.2.1==w.2.2.1 with
     |true=>rfl
     |false =>
      simp only[cond_false];refine (congrArg (λo=>BC o _) y).trans ?_;simp only[BA];refine (congrArg (λo=>BC o _) (pU K (iQ n) 1 w.2.2.2.2.2.1 w.2.2.2.2.1 w.2.2.1 _ r)).trans rfl
  |false =>
   simp only[cond_false];cases w.2.1==4 with
   |true=>exact (congrArg (λo=>BC o _) (pU K n 5 w.2.2.1 0 n.1 (aa.table n) (bX h.x.table))).trans rfl
   |false =>
    simp only[cond_false];cases w.2.1==2 with
    |true=>exact (congrArg (λo=>BC o _) (ack_s K n w h z u)).trans rfl
    |false=>rfl
theorem xt {K:Nat}{n:aa}{w:ak}(h:UpN n)(r:cF (ak.coord w))(u:1048577<K):UpN (fa K n w).1/\(fa K n w).1.1=n.1/\(fa K n w).1.2.2.1=n.2.2.1:=by
 unfold fa;cases w.2.1==1 <;> cases w.2.1==3 <;> cases w.2.1==4 <;> cases w.2.1==2 <;> cases aj w.2.2.2.2.2.1 != aj n.1 <;> cases w.2.2.2.2.2.1==n.1 <;> cases w.2.2.2.2.2.1==w.2.2.1 <;> first|exact⟨h,rfl,rfl⟩|exact⟨h.way,rfl,rfl⟩|exact AV h r u
open Classical in
noncomputable def bY (K:Nat)(n:aa)(w:ak):aa×List ak :=
 if dJ w/\gx n w then (if w.2.1=6 then eQ n w else fa K (dr n (ak.table w) w.2.2.1) w) else (n,[])
theorem jU {n:aa}{w:ak}(H:dJ w)(h:gx n w)(y:w.2.1≠6):bR (ak.table w) (aj n.1)/\fp n w.2.2.1:=by
 obtain⟨_,_,w3,_,_,_,_,_,z⟩:=H;rw[if_neg y]at z;obtain⟨_,_,_,_,r⟩:=h;by_cases u:w.1=2
 ·rw[if_pos u]at r;exact absurd r.1 y
 ·rw[if_neg u]at r;exact⟨r.1 ▸ z,w3,r.1⟩
theorem xu (K:Nat)(n:aa)(w:ak)(h:n.2.1=true->UpN n)(J:(ak.table w).length<=1048576)(y:1048577<K):Q59.f K (n,w,())=some (((bY K n w).1,(bY K n w).2,()),()):=by
 simp only[Q59.f];obtain⟨b1,e1,M⟩:=sD K w J y;obtain⟨Y,e2,R⟩:=uP K n w J y;rw[e1];cases b1 with
 |false =>
  unfold bY;rw[if_neg λh=>by have:=M.2 h.1;cases this];rfl
 |true =>
  have z:=M.1 rfl;simp only[rb,BA,BH,cond_false];refine (congrArg (λo=>BC o _) e2).trans ?_;cases Y with
  |false =>
   unfold bY;rw[if_neg λh=>by have:=R.2 h.2;cases this];rfl
  |true =>
   have H:=R.1 rfl;have I:=h H.1;simp only[rb,BA,BH,cond_false];unfold bY;rw[if_pos ⟨z,H⟩];have r:=z.2.2.2.2.2.2.2.1;by_cases u:w.2.1=6
   ·rw[if_pos u,show (w.2.1==6)=true by simpa using u];have O:=z.2.2.2.2.2.2.2.2;rw[if_pos u]at O;exact (congrArg (λo=>BC o _) (xq K n w I r O y)).trans rfl
   ·rw[if_neg u,show (w.2.1==6)=false by simpa using u];obtain⟨hs,X⟩:=jU z H u;have Z:=(kl I H.2.1 r hs X).1;refine (congrArg (λo=>BC o _) (uH K n (ak.table w) w.2.2.1 I.learns r.1 J X.1 y)).trans ?_;exact (congrArg (λo=>BC o _) (yJ K _ w Z z.2.2.2.2.2.2.1 y)).trans rfl
theorem nP {K:Nat}{n:aa}{w:ak}(h:UpN n)(M:1048577<K):UpN (bY K n w).1/\(bY K n w).1.1=n.1/\(bY K n w).1.2.2.1=n.2.2.1:=by
 unfold bY;split
 ·rename_i R;obtain⟨y,r⟩:=R;have u:=y.2.2.2.2.2.2.2.1;split
  ·rename_i z;have J:=y.2.2.2.2.2.2.2.2;rw[if_pos z]at J;rw[r.2.1];exact vN h r.2.1 u J
  ·rename_i z;obtain⟨O,X⟩:=jU y r z;have I:=kl h r.2.1 u O X;have H:=xt (w:=w) I.1 y.2.2.2.2.2.2.1 M;exact⟨H.1,H.2.1.trans I.2.1,H.2.2.trans (I.2.2.trans r.2.1.symm)⟩
 ·exact⟨h,rfl,rfl⟩
theorem mc {K:Nat}{n:aa}{w:ak}(h:UpN n)(hK:1048577<K):(bY K n w).2.length<=1/\∀ x∈(bY K n w).2,InP x.2.2.2.1 0 7/\(ak.table x).length<=1048576:=by
 unfold bY;split
 ·rename_i Z;obtain⟨u,I⟩:=Z;have y:=u.2.2.2.2.2.2.2.1;split
  ·rename_i z;have M:=u.2.2.2.2.2.2.2.2;rw[if_pos z]at M;obtain⟨X,a2,a3⟩:=kH (n:=n) h.x.others y M;unfold eQ;cases mb (ak.table w) (aj n.1) with
   |true=>exact⟨by simp,by simp⟩
   |false =>
    simp only[cond_false];cases w.1==2&&decide (ak.table w≠bG n w) with
    |false=>exact⟨by simp,by simp⟩
    |true=>exact⟨by simp,λx r=>by rw[BG.1 r];exact⟨u.2.2.1,bX X⟩⟩
  ·rename_i z;obtain⟨Y,hb⟩:=jU u I z;have J:=kl h I.2.1 y Y hb;have O:=bX (nN J.1.x.say w.2.2.2.2.2.1);have H:=bX J.1.x.table;have w3:=u.2.2.1;have R:=u.2.2.2.2.2.1;generalize dr n (ak.table w) w.2.2.1=m at *;unfold fa;cases w.2.1==1 <;> cases w.2.1==3 <;> cases w.2.1==4 <;> cases w.2.1==2 <;> cases aj w.2.2.2.2.2.1 != aj m.1 <;> cases w.2.2.2.2.2.1==m.1 <;> cases w.2.2.2.2.2.1==w.2.2.1 <;>
    first|exact⟨BT _,λx r=>by rw[BG.1 r];exact⟨R,O⟩⟩|exact⟨BT _,λx r=>by rw[BG.1 r];exact⟨w3,H⟩⟩|exact⟨BP _,λx r=>nomatch r⟩
 ·exact⟨by simp,by simp⟩
structure kX (n m:aa):Prop where
 ok:cq m
 me:m.1=n.1
 now_:m.2.2.2.2.2.1=n.2.2.2.2.2.1
 seq:m.2.2.2.2.2.2.1=n.2.2.2.2.2.2.1
 turn:m.2.2.2.2.2.2.2.1=n.2.2.2.2.2.2.2.1
 rest:m.2.2.2.2.2.2.2.2.2.2.2.2=n.2.2.2.2.2.2.2.2.2.2.2.2
 by_:∀ d∈aa.doubts m,d.2.2.2.length<=1048576
theorem kX.say {n m:aa}(h:kX n m){f:af}(b:Int)(z:bg f):kX n (sayOf m f b):=by
 obtain⟨u,_,_,_,_,I,y,H,_,r⟩:=gv m f b;exact⟨il h.ok z,u.trans h.me,I.trans h.now_,y.trans h.seq,H.trans h.turn,r.trans h.rest,ym h.by_⟩
theorem kX.setP {n m:aa}(h:kX n m)(p:af):kX n (setP m p):=⟨h.ok.setP p,h.me,h.now_,h.seq,h.turn,h.rest,h.by_⟩
theorem kX.nb {n m:aa}(h:kX n m)(u:NB n):NB m:=by
 have y:aa.places m=aa.places n:=congrArg (λr=>r.2.1) h.rest;have z:aa.others m=aa.others n:=congrArg (λr=>r.2.2) h.rest;exact⟨h.ok.lt,h.ok.lc,h.ok.ld,h.by_,by rw[y];exact u.places,by rw[y];exact u.trips,by rw[z];exact u.others,by rw[z];exact u.facts⟩
theorem kX.far {n m:aa}(h:kX n m)(y:nO n):nO m:=by
 have u:aa.others m=aa.others n:=congrArg (λr=>r.2.2) h.rest;exact⟨by rw[u];exact y.short,by rw[u];exact y.table⟩
theorem uj {n:aa}(h:∀ k,k<8->¬ hM n k):iR n=none:=by
 unfold iR;rw[List.find?_eq_none];intro x u;obtain⟨k,r,rfl⟩:=BV.1 u;have:=h k (by simpa using r);unfold hM at this;simpa using this
theorem uk {n:aa}{k:Nat}(y:k<8)(r:hM n k)(h:∀ j,j<k->¬ hM n j):iR n=some (cG n k):=by
 unfold iR;rw[List.find?_map,List.find?_range_eq_some.2 ⟨?_,by simpa using y,λj u=>?_⟩]
 ·rfl
 ·unfold hM at r;simpa using r
 ·have:=h j u;unfold hM at this;simpa[Classical.or_iff_not_imp_left]using this
theorem uR (K:Nat)(n:aa)(h:cq n)(R:sX n)(J:1048577<K):Q97.f K (n,())=some (((dQ n).1,(dQ n).2,()),()):=by
 obtain⟨⟨Y,Z⟩,⟨t0,t1⟩⟩:=R;obtain⟨to,X,y⟩:=zV K n h t0 t1 J;simp only[Q97.f,zcp4];rw[X];simp only[BA,dQ];by_cases r:jF n>=999999
 ·rw[decide_eq_true r,show decide (n.2.2.2.2.2.2.1>=999999)=true from decide_eq_true r];cases decide (to<0) <;> rfl
 ·rw[decide_eq_false r,show decide (n.2.2.2.2.2.2.1>=999999)=false from decide_eq_false r];simp only[cond_false];rcases y with ⟨rfl,z⟩|⟨k,O,H,u,rfl⟩
  ·rw[uj z];rfl
  ·rw[uk O H u];have M:0<=cG n k/\cG n k<8:=⟨CI _ (by omega),B9 _ (by omega)⟩;rw[decide_eq_false (by omega:¬ cG n k<0)];simp only[cond_false];rw[uL K n _ h J];simp only[BA];have I:wr .i64 (jF n+1)=jF n+1:=aH (by omega) (by omega);rw[show wr .i64 ((iQ n).2.2.2.2.2.2.1+1)=n.2.2.2.2.2.2.1+1 from I,aH (n:=cG n k+1) (by omega) (by omega)];simp only[Q39.f];rw[szb _ _ _ (by omega) (by have:=bX (nN h (cG n k));simp;omega)];rfl
def hX (w:ak):Prop:=InP w.2.2.2.1 0 7/\(ak.table w).length<=1048576
theorem th {n:aa}(z:az (aa.table n)):(dl n).2.length<=2/\∀ w∈(dl n).2,hX w:=by
 have r:([]:List ak).length<=2/\∀ w∈([]:List ak),hX w:=⟨by simp,by simp⟩;unfold dl;cases (aa.probe n).1==-1 with
 |true=>exact r
 |false =>
  cases !ez (aP (aa.table n) (aa.probe n).1) with
  |true=>exact r
  |false =>
   cases decide (n.2.2.2.2.2.1-(aa.probe n).2.1>=4) with
   |true=>exact r
   |false =>
    cases decide (n.2.2.2.2.2.1-(aa.probe n).2.1>=2) with
    |false=>exact r
    |true =>
     cases !(aa.probe n).2.2.2 with
     |false=>exact r
     |true =>
      simp only[cond_true,cond_false];refine⟨by rw[B4];exact List.length_take_le _ _,λw y=>?_⟩;obtain⟨to,u,rfl⟩:=BV.1 y;obtain⟨f,H,rfl⟩:=BV.1 (BU u);exact⟨(z.1 f (BY.1 H).1).1,BP _⟩
theorem zr {n:aa}(h:cq n):(dQ n).2.length<=1/\∀ w∈(dQ n).2,hX w:=by
 have r:([]:List ak).length<=1/\∀ w∈([]:List ak),hX w:=⟨by simp,by simp⟩;unfold dQ;cases decide (jF n>=999999) with
 |true=>exact r
 |false =>
  simp only[cond_false];cases H:iR n with
  |none=>exact r
  |some to =>
   refine⟨by simp,λw u=>?_⟩;rw[BG.1 u];obtain⟨z,y,I⟩:=ek h.table (gX (qY H).2);exact⟨y ▸ z.1,bX (nN h to)⟩
theorem AW {n:aa}(I:c8 n.1 (aa.others n)){s d:Int}(z:InP s 0 1):InP (l7 n s d) 0 7:=by
 unfold l7;cases u:decide (fE (eF (aa.others n) s)≠[])&&bB .i64 d 4==0 with
 |true =>
  rw[CE,decide_eq_true_eq]at u;have:=(iq (d:=Bz d (2 ^ 3)) u.1).2.2;unfold fE at this;obtain⟨f,H,e⟩:=BV.1 (BU this);simp only[cond_true];show InP (gO (fE (eF (aa.others n) s)) (Bz d (2 ^ 3))) 0 7;unfold fE;rw[<- e];exact ((o6 I s).1 f (BY.1 H).1).1
 |false =>
  obtain⟨r,y⟩:=ly (a:=Bz d (2 ^ 3)) (m:=3) (by omega);have r:0<=bB .i64 (Bz d (2 ^ 3)) 3:=r;have y:bB .i64 (Bz d (2 ^ 3)) 3<=3:=y;obtain⟨J,M⟩:=z;simp only[cond_false];exact⟨by omega,by omega⟩
theorem uS {n:aa}(I:az (aa.table n))(J:c8 n.1 (aa.others n))(r:Int):(j8 n r).length<=2/\∀ w∈j8 n r,hX w:=by
 have u:([]:List ak).length<=2/\∀ w∈([]:List ak),hX w:=⟨by simp,by simp⟩;unfold j8;cases bB .i64 r 3==1 with
 |true =>
  simp only[cond_true,l8];cases lz n with
  |false=>exact u
  |true =>
   refine⟨?_,λw z=>?_⟩
   ·show ((([0,1]:List Int).filter (λs=>s != aj n.1)).map _).length<=2;rw[B4];exact B6 _ _
   ·obtain⟨s,O,rfl⟩:=BV.1 z;refine⟨AW J ?_,bX I⟩;have:=(BY.1 O).1;simp at this;rcases this with rfl|rfl <;> exact⟨by decide,by decide⟩
 |false =>
  simp only[cond_false];by_cases y:fm n=[]
  ·rw[decide_eq_true y,Bool.or_true];exact u
  ·rw[decide_eq_false y,Bool.or_false];obtain⟨f,R,e⟩:=BV.1 (iq (d:=Bz r (2 ^ 2)) y).2.2;have H:InP (gO (fm n) (Bz r (2 ^ 2))) 0 7:=by
    rw[<- e];exact (I.1 f (BY.1 R).1).1
   cases bB .i64 r 3==3 with
   |true=>exact u
   |false =>
    simp only[cond_false];cases bB .i64 r 3==0 with
    |true=>exact⟨by simp,λw z=>by rw[BG.1 z];exact⟨H,bX I⟩⟩
    |false =>
     simp only[cond_false,sW]
     match M:aa.others n with
     |[]=>exact u
     |x::_=>exact⟨by simp,λw z=>by rw[BG.1 z];exact⟨H,bX (J.1 x (by rw[M];simp)).2.2.2.1⟩⟩
theorem UpX.far {n:aa}(h:UpX n):nO n:=⟨by rcases sS h.me h.others with e|⟨x,e⟩ <;> rw[e] <;> simp,λx r=>⟨(h.others.1 x r).2.2.2.1,bX (h.others.1 x r).2.2.2.1⟩⟩
theorem ra {n:aa}(h:UpX n)(J:cf n<=1000000):((aa.probe n).1=-1\/0<=(aa.probe n).1)/\0<=(aa.probe n).2.1/\(aa.probe n).2.1<=1000000:=by
 have r:=h.probe;have y:cf n=n.2.2.2.2.2.1:=rfl;unfold c7 at r;split at r
 ·rename_i H;rw[r];exact⟨.inl rfl,by show (0:Int)<=0;omega,by show (0:Int)<=1000000;omega⟩
 ·obtain⟨_,⟨f,z,e⟩,⟨u,I⟩,_⟩:=r;have:=(h.table.1 f z).1.1;exact⟨.inr (e ▸ this),u,by omega⟩
theorem AX {n:aa}(h:UpN n)(y:cf n<999999)(r:Int):(pN n r).length<=5/\∀ w∈pN n r,hX w:=by
 have J:=(mS h.x.later (show cW (d6 n) from h.self)).1.table;obtain⟨z,O⟩:=th J;obtain⟨I,_,_⟩:=pO h y;have H:=(qu h y).1;obtain⟨X,R⟩:=uS H.x.table H.x.others r;have M:(fq (ft n).1).2.length<=1/\∀ w∈(fq (ft n).1).2,hX w:=by
  unfold fq;cases (aa.probe (ft n).1).1==-1 with
  |true=>exact zr I.x.say
  |false=>exact⟨by simp,by simp⟩
 unfold pN;have z:(ft n).2.length<=2:=z;refine⟨by rw[BL,BL];omega,λw u=>?_⟩;rcases BM.1 u with u|u
 ·rcases BM.1 u with u|u
  ·exact O w u
  ·exact M.2 w u
 ·exact R w u
theorem AY (K:Nat)(n:aa)(H:Int)(h:UpN n)(hg:n.2.2.1=false)(hm:cf n<999999)(Y:1048577<K):Q104.f K (n,H,())=some ((kE n,pN n H,()),()):=by
 have a3:=h.x.now0;simp only[Q104.f,zcp4];refine (congrArg (λb=>bif !b then _ else _) h.up).trans ?_;refine (congrArg (λb=>bif b then _ else _) hg).trans ?_;refine (congrArg (λb=>bif b then _ else _) (decide_eq_false (show ¬ n.2.2.2.2.2.1>=999999 by have:cf n=n.2.2.2.2.2.1:=rfl;omega))).trans ?_;simp only[cond_false];rw[show wr .i64 (n.2.2.2.2.2.1+1)=n.2.2.2.2.2.1+1 from aH (by have:cf n=n.2.2.2.2.2.1:=rfl;omega) (by have:cf n=n.2.2.2.2.2.1:=rfl;omega)];have hl:UpX (d6 n):=h.x.later;have a1:∀ d∈aa.doubts (d6 n),0<=d.2.2.1/\d.2.2.1<=(d6 n).2.2.2.2.2.1/\d.2.2.2.length<=1048576:=λd hd=>by
  obtain⟨_,⟨s0,s1⟩,_,h4⟩:=hl.doubts.1 d hd;exact⟨s0,s1,BJ (iP (k:=λx=>x) h4.2 λx hx=>(h4.1 x hx).1) (by decide)⟩
 have X:∀ d∈aa.doubts (d6 n),∃ f∈aa.table (d6 n),f.1=d.1:=λd hd=>by
  obtain⟨⟨f,hf,e,_⟩,_⟩:=hl.doubts.1 d hd;exact⟨f,hf,e⟩
 have Z:(d6 n).2.2.2.2.2.1<=1000000:=by show cf n+1<=1000000;omega
 refine (congrArg (λo=>BC o _) (AH K (d6 n) ⟨hl.say,X,rfl⟩ a1 Z Y)).trans ?_;simp only[BA];obtain⟨b1,b2,t,c,ds,eb⟩:=mS hl (show cW (d6 n) from h.self);have z:sX (ft n).1:=(pO h hm).1.seq;have a2:cf (kj (d6 n))=cf n+1:=by rw[eb];rfl
 have hp:=ra b1 (by omega);obtain⟨a0,_⟩:=th b1.table;have R:=(qu h hm).1;have r:=AQ K (kE n) H R.x.far R.x.table (bX R.x.table) Y;have u:=(pO h hm).1;obtain⟨O,_⟩:=zr u.x.say;obtain⟨y,_⟩:=uS R.x.table R.x.others H;unfold kE fq ft at r R y;unfold ft at z u O;unfold pN kE fq ft;generalize kj (d6 n)=m at *;rcases hp.1 with I|I
 ·have e0:dl m=(m,[]):=by unfold dl;rw[show ((aa.probe m).1==-1)=true by simpa using I];rfl
  rw[e0]at r z u O y ⊢;refine (congrArg (λb=>bif b then _ else _) (decide_eq_false (show ¬ m.2.2.2.2.2.2.2.2.2.2.1.1>=0 by have:(aa.probe m).1=m.2.2.2.2.2.2.2.2.2.2.1.1:=rfl;omega))).trans ?_;refine (congrArg (λb=>bif b then _ else _) (decide_eq_true (show m.2.2.2.2.2.2.2.2.2.2.1.1<0 by have:(aa.probe m).1=m.2.2.2.2.2.2.2.2.2.2.1.1:=rfl;omega))).trans ?_;refine (congrArg (λo=>BC o _) (uR K m u.x.say z Y)).trans ?_;simp only[BA];rw[show ((aa.probe m).1==-1)=true by simpa using I]at r y ⊢;simp only[cond_true]at r y O ⊢;rw[szw _ _ _ (by omega) (by simp;omega)];simp only[cond_true];refine (congrArg (λo=>BC o _) r).trans ?_;simp only[BA];rw[szw _ _ _ (by omega) (by simp;omega)];rfl
 ·refine (congrArg (λb=>bif b then _ else _) (decide_eq_true (show m.2.2.2.2.2.2.2.2.2.2.1.1>=0 from I))).trans ?_;refine (congrArg (λo=>BC o _) (AI K m b1.say (by omega) hp.2.1 hp.2.2 b1.now0 (by have:cf m=m.2.2.2.2.2.1:=rfl;omega) Y)).trans ?_;simp only[BA];generalize dl m=fo at *;obtain⟨M,ws⟩:=fo;simp only at r z u O y a0 ⊢;have J:=(ra u.x (by have:=u.now1;omega)).1;rcases J with J|J
  ·refine (congrArg (λb=>bif b then _ else _) (decide_eq_true (show M.2.2.2.2.2.2.2.2.2.2.1.1<0 by have:(aa.probe M).1=M.2.2.2.2.2.2.2.2.2.2.1.1:=rfl;omega))).trans ?_;refine (congrArg (λo=>BC o _) (uR K M u.x.say z Y)).trans ?_;simp only[BA];rw[show ((aa.probe M).1==-1)=true by simpa using J]at r y ⊢;simp only[cond_true]at r y ⊢;rw[szw _ _ _ (by omega) (by omega)];simp only[cond_true];refine (congrArg (λo=>BC o _) r).trans ?_;simp only[BA];rw[szw _ _ _ (by omega) (by rw[BL];omega)];rfl
  ·refine (congrArg (λb=>bif b then _ else _) (decide_eq_false (show ¬ M.2.2.2.2.2.2.2.2.2.2.1.1<0 by have:(aa.probe M).1=M.2.2.2.2.2.2.2.2.2.2.1.1:=rfl;omega))).trans ?_;rw[show ((aa.probe M).1==-1)=false by simp;omega]at r y ⊢;simp only[cond_false]at r y ⊢;refine (congrArg (λo=>BC o _) r).trans ?_;simp only[BA,List.append_nil];rw[szw _ _ _ (by omega) (by omega)];rfl
theorem tj (K:Nat)(l:List af)(f:af)(M:l.length<=1048576)(J:1048577<K):Ret (Q81.f K (l,f,())) (f∈l):=by
 have:=co (step:=λrec a=>Q81.s0 K (l,f,()) rec a) l.length (λi=>(i:Int)) (λj=>∃ h:j<l.length,l[j]=f) (rb false) (λ_=>rb true) ?_ ?_ l.length K 0 (by omega) (by omega)
 ·rcases this with ⟨y,r⟩|⟨j,_,_,⟨I,H⟩,_,r⟩
  ·refine⟨false,r,?_⟩;refine⟨λh=>absurd h (by decide),λz=>?_⟩;obtain⟨i,u,e⟩:=BN z;exact absurd ⟨u,e⟩ (y i (BP _) u)
  ·exact⟨true,r,λ_=>H ▸ BI I,λ_=>rfl⟩
 ·intro rec i u;simp only[Q81.s0];rw[bk (by omega:(i:Int)<(BD l:Int)),ag u,ar i (by omega)];simp only[cond_true,BA];rw[gq];by_cases h:l[i]=f
  ·rw[decide_eq_true h];exact .inr ⟨⟨u,h⟩,rfl⟩
  ·rw[decide_eq_false h];exact .inl ⟨λ⟨_,r⟩=>h r,rfl⟩
 ·intro rec;simp only[Q81.s0,aQ];rfl
theorem UpN.nb {n:aa}(h:UpN n):NB n where
 table:=bX h.x.table
 cast:=by have:=clen h.x.say;omega
 doubts:=h.x.say.ld
 by_:=λd u=>by have:=(h.learns.by_ d u).len;omega
 places:=plen h.x.places
 trips:=λp r=>by have:=(h.x.places.1 p r).2.2.2.2.1.2;omega
 others:=olen h.x.others
 facts:=λx y=>bX (h.x.others.1 x y).2.2.2.1
def jn (r:Int)(g:Bool):aa:=(r,false,false,g,0,0,0,0,[],[],(0,0,0,false),[],(0,0,0,0),[],[])
structure eh (i:Nat) (n:aa):Prop where
 me:n.1=(i:Int)
 lt:i<8
 up:n.2.1=true->UpN n
 down:n.2.1=false->n=jn n.1 n.2.2.2.1
theorem eh.nb {i:Nat}{n:aa}(h:eh i n):NB n:=by
 cases r:n.2.1 with
 |true=>exact (h.up r).nb
 |false =>
  rw[h.down r];exact⟨by simp[jn,aa.table],by simp[jn,aa.cast],by simp[jn,aa.doubts],by simp[jn,aa.doubts],by simp[jn,aa.places],by simp[jn,aa.places],by simp[jn,aa.others],by simp[jn,aa.others]⟩
theorem eh.short {i:Nat}{n:aa}(h:eh i n):(aa.table n).length<=4:=by
 cases r:n.2.1 with
 |true=>exact uf (h.up r).x.table (h.up r).x.site
 |false=>rw[h.down r];exact BP _
theorem eh.of {i:Nat}{n m:aa}(h:eh i n)(r:UpN m)(e:m.1=n.1):eh i m:=⟨e.trans h.me,h.lt,λ_=>r,λu=>by rw[r.up]at u;cases u⟩
def fP (l:List lx):Prop:=l.length<=60/\∀ f∈l,InP f.1 0 7/\f.2.1.size<=2000
structure WI (w:bQ) (c:Nat):Prop where
 len:w.1.length=8
 node:∀ (i:Nat) (h:i<w.1.length),eh i w.1[i]
 radio:fP w.2.1
 sides:w.2.2.1.length=8
 born:w.2.2.2.length<=c
theorem WI.mono {w:bQ}{c d:Nat}(h:WI w c)(r:c<=d):WI w d:=⟨h.len,h.node,h.radio,h.sides,BJ h.born r⟩
theorem WI.put {w:bQ}{c:Nat}(h:WI w c){i:Nat}{n:aa}(z:eh i n){rd:List lx}(u:fP rd){b:List af}{d:Nat}(y:b.length<=d):WI (w.1.set i n,rd,w.2.2.1,b) d:=by
 refine⟨by rw[BK];exact h.len,λj r=>?_,u,h.sides,y⟩;show eh j ((w.1.set i n)[j]'r);rw[List.getElem_set];split
 ·rename_i e;exact e ▸ z
 ·exact h.node j _
theorem xv (K:Nat)(w:bQ)(J:Int)(u:List ak)(hs:w.2.2.1.length=8)(y:InP J 0 7)(M:∀ x∈u,hX x)(hr:fP w.2.1)(hl:u.length<=1000)(hK:1048577<K) :
  Tot (Q78.f K (w,J,u,())) λr=>∃ rd,fP rd/\r.1.1=(w.1,rd,w.2.2):=by
 simp only[Q78.f,Q78.pre];obtain⟨f0,f1⟩:=y;refine Tot.iter (step:=λrec a=>Q78.s0 K (w,J,u,()) rec a) (λa=>0<=a.1/\a.1<=u.length/\fP a.2) (λa=>u.length-a.1.toNat) ?_ K _ (by show u.length-BE 0<K;omega) ⟨by show (0:Int)<=0;omega,by show (0:Int)<=_;omega,hr⟩;rintro rec ⟨i,rd⟩ ⟨I,h1,H⟩ ih;simp only at I h1 H ih ⊢;simp only[Q78.s0];refine Tot.cnd (λh=>?_) λ_=>Tot.ret ⟨rd,H,rfl⟩
 have h:=of_decide_eq_true h;rw[aH (n:=i+1) (by omega) (by omega)];have O:∀ z,fP z->Tot (rec (i+1,z)) λr=>∃ rd,fP rd/\r.1.1=(w.1,rd,w.2.2):=λz Z=>ih _ ⟨by show 0<=i+1;omega,by show i+1<=_;omega,Z⟩ (by show u.length-BE (i+1)<u.length-BE i;omega)
 refine Tot.cnd (λh3=>?_) λ_=>O rd H
 have h3:=of_decide_eq_true h3;refine Tot.ix f0 (by omega) λ_ _ _=>Tot.ix I h λy2 R _=>?_
 obtain⟨⟨t0,t1⟩,_⟩:=M y2 R;refine Tot.ix t0 (by omega) λ_ _ _=>Tot.cnd (λ_=>Tot.fit (Tot.ix I h λy4 X _=>Tot.ix I h λy5 Y _=>Tot.bind (om K y5 (M y5 Y).2 hK) λv hv=>Tot.fit (O _ ⟨?_,λf y=>?_⟩) (by omega) ?_) (by omega) ?_) λ_=>O rd H
 ·simp;omega
 ·rcases BM.1 y with y|y
  ·exact H.2 f (by simpa using y)
  ·rw[BG.1 y];exact⟨(M y4 X).1,by show v.1.1.size<=2000;have:=hv.1;omega⟩
 ·simp;omega
 ·simp;omega
theorem Tot.ins {α:Type}{l:List α}{x:α}{a:Int}{c:Nat}{Q:(List α×Unit)×Unit->Prop}(u:0<=a)(y:a<=l.length)(z:l.length<=1048576)(H:c<=64)(k:∀ r:List α,r.length=l.length+1->Q ((r,()),())) :
  Tot (bif decide ((0:Int)<=0)&&decide (0<=a)&&decide (a<=(BD l:Int))&&true then (bif decide ((BD ([]:List α)+BD ((l.take (BE a)).drop (BE 0)))*c<=an) then (bif decide ((BD ([]++((l.take (BE a)).drop (BE 0)))+BD ([x]))*c<=an) then (bif decide (0<=a)&&decide (a<=(BD l:Int))&&decide ((BD l:Int)<=(BD l:Int))&&true then (bif decide ((BD (([]++((l.take (BE a)).drop (BE 0)))++([x]))+BD ((l.take (BE (BD l:Int))).drop (BE a)))*c<=an) then (some (((([]++((l.take (BE a)).drop (BE 0)))++([x]))++((l.take (BE (BD l:Int))).drop (BE a)),()),())) else none) else none) else none) else none) else none) Q:=by
 obtain⟨m,rfl⟩:=BO u;refine Tot.must (by simp;omega) (Tot.fit (Tot.fit (Tot.must (by simp;omega) (Tot.fit (Tot.ret (k _ ?_)) (by omega) ?_)) (by omega) ?_) (by omega) ?_) <;>
 simp only[BF,Bu,BS,BQ,BL,BW,B3,CG,B5] <;> omega
theorem yK (K:Nat)(f g:af):Tot (Q79.f K (f,g,())) λ_=>True:=by
 simp only[Q79.f];exact Tot.cnd (λ_=>Tot.ret trivial) λ_=>Tot.bind (sy K g f).tot λ_ _=>Tot.ret trivial
theorem xw (K:Nat)(l:List af)(f:af)(M:l.length<=1048576)(R:1048577<K):Tot (Q80.f K (l,f,())) λr=>r.1.1.length<=l.length+1:=by
 simp only[Q80.f,Q80.pre];refine Tot.iter (A:=Int) (step:=λrec a=>Q80.s0 K (l,f,()) rec a) (λa=>0<=a/\a<=l.length) (λa=>l.length-a.toNat) ?_ K _ (by show l.length-BE 0<K;omega) ⟨by show (0:Int)<=0;omega,by show (0:Int)<=_;omega⟩;rintro rec i ⟨H,z⟩ J;simp only[Q80.s0];have u:=λ (z:i<=l.length)=>Tot.ins (x:=f) (c:=32) (Q:=λr=>r.1.1.length<=l.length+1) H z M (by omega) λr O=>by show r.length<=_;omega
 have y:l.length<=l.length+1:=B7 _;refine Tot.cnd (λh=>?_) λ_=>Tot.cnd (λh=>Tot.ix H (of_decide_eq_true h) λ_ _ _=>Tot.cnd (λ_=>Tot.ret y) λ_=>u z) λ_=>u z
 have h:i<(l.length:Int):=of_decide_eq_true h;rw[aH (n:=i+1) (by omega) (by omega)];refine Tot.ix H h λI _ _=>Tot.bind (yK K I f) λ_ _=>Tot.cnd (λ_=>J (i+1) ⟨by show 0<=i+1;omega,by show i+1<=(l.length:Int);omega⟩ (by show l.length-BE (i+1)<l.length-BE i;omega)) λ_=>Tot.cnd (λ_=>Tot.ix H h λ_ _ _=>Tot.cnd (λ_=>Tot.ret y) λ_=>u z) λ_=>u z
theorem zt (K:Nat)(w:bQ)(z y u:List af)(h1:z.length<=1048576)(h2:y.length<=1048576)(h3:u.length<=100)(hb:w.2.2.2.length<=1000000)(J:1048577<K) :
  Tot (Q82.f K (w,z,y,u,())) λr=>∃ b,b.length<=w.2.2.2.length+u.length/\r.1.1=(w.1,w.2.1,w.2.2.1,b):=by
 simp only[Q82.f,Q82.pre];refine Tot.iter (step:=λrec a=>Q82.s0 K (w,z,y,u,()) rec a) (λa=>0<=a.1/\a.1<=u.length/\(a.2.length:Int)<=w.2.2.2.length+a.1) (λa=>u.length-a.1.toNat) ?_ K _ (by show u.length-BE 0<K;omega) ⟨by show (0:Int)<=0;omega,by show (0:Int)<=_;omega,by show (w.2.2.2.length:Int)<=w.2.2.2.length+0;omega⟩;rintro rec ⟨i,b⟩ ⟨I,R,i2⟩ O;simp only at I R i2 O ⊢;simp only[Q82.s0];refine Tot.cnd (λh=>?_) λ_=>Tot.ret ⟨b,by omega,rfl⟩
 have h:=of_decide_eq_true h;rw[aH (n:=i+1) (by omega) (by omega)];have M:∀ H:List af,H.length<=b.length+1->Tot (rec (i+1,H)) λr=>∃ b,b.length<=w.2.2.2.length+u.length/\r.1.1=(w.1,w.2.1,w.2.2.1,b):=λH X=>O _ ⟨by show 0<=i+1;omega,by show i+1<=_;omega,by show (H.length:Int)<=_+(i+1);omega⟩ (by show u.length-BE (i+1)<u.length-BE i;omega)
 refine Tot.ix I h λy1 _ _=>Tot.bind (tj K z y1 h1 J).tot λ_ _=>Tot.cnd (λ_=>?_) λ_=>M b (B7 _)
 refine Tot.ix I h λZ _ _=>Tot.bind (tj K y Z h2 J).tot λ_ _=>Tot.cnd (λ_=>?_) λ_=>M b (B7 _)
 exact Tot.ix I h λY _ _=>Tot.bind (xw K b Y (by omega) J) λv hv=>M v.1.1 hv
structure zu (w:bQ) (i:Nat) (n:aa) (ws:List ak) (heard:List af) (c:Nat):Prop where
 wi:WI w c
 lt:i<8
 n:eh i n
 sent:∀ x∈ws,hX x
 wl:ws.length<=1000
 hl:heard.length<=1048576
 c:c<=1000000
theorem set_t (K:Nat)(w:bQ)(i:Nat)(n:aa)(H:List ak)(u:List af)(c:Nat)(h:zu w i n H u c)(I:1048577<K):Tot (Q83.f K ((w,i),n,H,u,())) λr=>WI r.1.1 (c+4):=by
 simp only[Q83.f];have y:i<w.1.length:=by rw[h.wi.len];exact h.lt
 have M:=h.c;have O:=h.wi.born;have J:=h.n.short;rw[h.n.me];refine Tot.vl (ag y) (Tot.vl (by rw[BF];exact ag y) (Tot.vl (ag y) (Tot.vl (by rw[BF];exact ag y) ?_)));refine Tot.must (by simp) ?_;rw[BF];refine Tot.bind (zt K (w.1.set i n,w.2) (aa.table w.1[i]) u (aa.table n) (h.wi.node i y).nb.table h.hl (by omega) (by show w.2.2.2.length<=_;omega) I) ?_;rintro⟨⟨v,⟨⟩⟩,⟨⟩⟩ ⟨b,z,rfl⟩;refine Tot.bind (xv K (w.1.set i n,w.2.1,w.2.2.1,b) (i:Int) H h.wi.sides ⟨by omega,by have:=h.lt;omega⟩ h.sent h.wi.radio h.wl I) ?_;rintro⟨⟨v,⟨⟩⟩,⟨⟩⟩ ⟨rd,hr,rfl⟩;have z:b.length<=w.2.2.2.length+(aa.table n).length:=z;exact Tot.ret (h.wi.put h.n hr (by omega))
theorem AZ (K:Nat)(w:bQ)(i:Nat)(n:aa)(H:List ak)(u:List af)(c:Nat)(h:zu w i n H u c)(I:1048577<K):Tot (Q86.f K (w,n,H,u,())) λr=>WI r.1.1 (c+4):=by
 simp only[Q86.f];have y:i<w.1.length:=by rw[h.wi.len];exact h.lt
 have M:=h.c;have O:=h.wi.born;have J:=h.n.short;rw[h.n.me];refine Tot.vl (ag y) (Tot.vl (by rw[BF];exact ag y) (Tot.vl (ag y) (Tot.vl (by rw[BF];exact ag y) ?_)));rw[BF];refine Tot.bind (zt K (w.1.set i n,w.2) (aa.table w.1[i]) u (aa.table n) (h.wi.node i y).nb.table h.hl (by omega) (by show w.2.2.2.length<=_;omega) I) ?_;rintro⟨⟨v,⟨⟩⟩,⟨⟩⟩ ⟨b,z,rfl⟩;refine Tot.bind (xv K (w.1.set i n,w.2.1,w.2.2.1,b) (i:Int) H h.wi.sides ⟨by omega,by have:=h.lt;omega⟩ h.sent h.wi.radio h.wl I) ?_;rintro⟨⟨v,⟨⟩⟩,⟨⟩⟩ ⟨rd,hr,rfl⟩;have z:b.length<=w.2.2.2.length+(aa.table n).length:=z;exact Tot.ret (h.wi.put h.n hr (by omega))
theorem re (K:Nat)(l:List lx)(at_:Int)(z:0<=at_)(H:at_<l.length)(y:fP l):Tot (Q77.f K (l,at_,())) λr=>fP r.1.1:=by
 have I:=y.1;obtain⟨m,rfl⟩:=BO z;simp only[Q77.f];rw[ar m (by omega)];refine Tot.must (by simp;omega) (Tot.fit (Tot.must (by simp;omega) (Tot.fit (Tot.ret ⟨?_,λf u=>y.2 f ?_⟩) (by omega) ?_)) (by omega) ?_)
 ·simp only[BF,Bu,BS,BQ,BL,BW,B3];omega
 ·simp only[BF,Bu,BS,BQ,By]at u;rcases BM.1 u with u|u
  ·exact BU u
  ·exact List.mem_of_mem_drop u
 ·simp only[BF,Bu,BS,BQ,BL,BW,B3];omega
 ·simp only[BF,Bu,BS,BQ,BW,B5];omega
theorem rg (K:Nat)(w:bQ)(c:Nat)(h:WI w c)(hc:c<=1000000)(to:Int)(t0:0<=to)(t1:to<=7)(x:ak)(X:dJ x)(H:1048577<K){G:aa->aa->Option ((bQ×Unit)×Unit)}
  (hG:∀ y:aa,G y y=(Q59.f K (y,x,())).bind λI=>(Q83.f K ((w,BE to),I.1.1,I.1.2.1,ak.table x,())).bind λR=>some ((R.1.1,()),())) :
  Tot ((idx w.1 to).bind λ_=>(idx w.1 (BE to:Nat)).bind λM=>(idx w.1 (BE to:Nat)).bind λO=>G M O) λr=>WI r.1.1 (c+4):=by
 obtain⟨i,rfl⟩:=BO t0;have J:i<w.1.length:=by rw[h.len];omega
 have z:=h.node i J;refine Tot.vl (ag J) (Tot.vl (by rw[BF];exact ag J) (Tot.vl (by rw[BF];exact ag J) ?_));rw[hG,xu K w.1[i] x z.up (bX X.2.2.2.2.2.2.2.1) H];simp only[BA,BF];refine Tot.bind (set_t K w i _ _ _ c ⟨h,z.lt,?_,?_,?_,bX X.2.2.2.2.2.2.2.1,hc⟩ H) λv Z=>Tot.ret Z
 ·cases u:w.1[i].2.1 with
  |true=>exact z.of (nP (z.up u) H).1 (nP (z.up u) H).2.1
  |false =>
   rw[show bY K w.1[i] x=(w.1[i],[]) by unfold bY;rw[if_neg λh=>by have:=h.2.1;rw[u]at this;cases this]];exact z
 ·cases u:w.1[i].2.1 with
  |true=>exact λy Y=>(mc (z.up u) H).2 y Y
  |false =>
   rw[show bY K w.1[i] x=(w.1[i],[]) by unfold bY;rw[if_neg λh=>by have:=h.2.1;rw[u]at this;cases this]];simp
 ·cases u:w.1[i].2.1 with
  |true=>have:=(mc (w:=x) (z.up u) H).1;omega
  |false =>
   rw[show bY K w.1[i] x=(w.1[i],[]) by unfold bY;rw[if_neg λh=>by have:=h.2.1;rw[u]at this;cases this]];simp
theorem Ac (K:Nat)(w:bQ)(c:Nat)(h:WI w c)(hc:c<=1000000)(at_:Int)(keep:Bool)(h0:0<=at_)(h1:at_<w.2.1.length)(X:1048577<K):Tot (Q84.f K (w,at_,keep,())) λr=>WI r.1.1 (c+4):=by
 simp only[Q84.f,zcp8];refine Tot.ix2 h0 h1 λf hf _=>?_
 obtain⟨⟨t0,t1⟩,a0⟩:=h.radio.2 f hf;have hs:=h.sides;refine Tot.cnd (λ_=>Tot.bind (re K w.2.1 at_ h0 h1 h.radio) ?_) λ_=>Tot.bind (ma K f.2.1 (by omega) X) ?_
 ·rintro⟨⟨rd,⟨⟩⟩,⟨⟩⟩ hr;have O:WI (w.1,rd,w.2.2) (c+4):=⟨h.len,h.node,hr,h.sides,BJ h.born (by omega)⟩;refine Tot.bind (ma K f.2.1 (by omega) X) ?_;rintro⟨⟨(x:ak),ok,⟨⟩⟩,⟨⟩⟩ H;refine Tot.cnd (λ_=>Tot.ret O) λY=>?_
  have H:dJ x:=H (by simpa using Y);obtain⟨M,Z⟩:=H.2.2.1;have I:x.2.2.1<(w.2.2.1.length:Int):=by rw[hs];omega
  refine Tot.ix2 M I λ_ _ _=>Tot.ix2 t0 (by omega) λ_ _ _=>Tot.cnd (λ_=>Tot.ret O) λ_=>Tot.cnd (λ_=>Tot.ret O) λ_=>?_
  exact rg K (w.1,rd,w.2.2) c ⟨h.len,h.node,hr,h.sides,h.born⟩ hc f.1 t0 t1 x H X (G:=λu J=>(Q59.f K ((u.1,(u.2.1,(u.2.2.1,(u.2.2.2.1,(u.2.2.2.2.1,(u.2.2.2.2.2.1,(u.2.2.2.2.2.2.1,(u.2.2.2.2.2.2.2.1,(u.2.2.2.2.2.2.2.2.1,(u.2.2.2.2.2.2.2.2.2.1,(u.2.2.2.2.2.2.2.2.2.2.1,(J.2.2.2.2.2.2.2.2.2.2.2.1,u.2.2.2.2.2.2.2.2.2.2.2.2)))))))))))),x,())).bind λz=>(Q83.f K (((w.1,rd,w.2.2),BE f.1),z.1.1,z.1.2.1,ak.table x,())).bind λR=>some ((R.1.1,()),())) λy=>rfl
 ·rintro⟨⟨(x:ak),ok,⟨⟩⟩,⟨⟩⟩ H;have O:WI w (c+4):=h.mono (by omega);refine Tot.cnd (λ_=>Tot.ret O) λY=>?_
  have H:dJ x:=H (by simpa using Y);obtain⟨M,Z⟩:=H.2.2.1;have I:x.2.2.1<(w.2.2.1.length:Int):=by rw[hs];omega
  refine Tot.ix2 M I λ_ _ _=>Tot.ix2 t0 (by omega) λ_ _ _=>Tot.cnd (λ_=>Tot.ret O) λ_=>Tot.cnd (λ_=>Tot.ret O) λ_=>?_
  exact rg K w c h hc f.1 t0 t1 x H X (G:=λu J=>(Q59.f K ((u.1,(u.2.1,(u.2.2.1,(u.2.2.2.1,(u.2.2.2.2.1,(u.2.2.2.2.2.1,(u.2.2.2.2.2.2.1,(u.2.2.2.2.2.2.2.1,(u.2.2.2.2.2.2.2.2.1,(u.2.2.2.2.2.2.2.2.2.1,(u.2.2.2.2.2.2.2.2.2.2.1,(J.2.2.2.2.2.2.2.2.2.2.2.1,u.2.2.2.2.2.2.2.2.2.2.2.2)))))))))))),x,())).bind λz=>(Q83.f K (((w.1,w.2),BE f.1),z.1.1,z.1.2.1,ak.table x,())).bind λR=>some ((R.1.1,()),())) λy=>rfl
theorem Ad (K:Nat)(w:bQ)(c:Nat)(h:WI w c)(at_ u:Int)(X:0<=at_)(O:at_<w.2.1.length):Tot (Q85.f K (w,at_,u,())) λr=>WI r.1.1 c:=by
 simp only[Q85.f];refine Tot.ix2 X O λf Y _=>?_
 obtain⟨y,J⟩:=h.radio.2 f Y;refine Tot.cnd (λ_=>Tot.ret h) λ_=>Tot.cnd (λ_=>Tot.ret h) λZ=>?_
 have H:¬ (f.2.1.size:Int)=0:=by simpa using Z
 obtain⟨z,b1⟩:=ly (a:=u) (m:=4095) (by omega);have z:0<=bB .i64 u 4095:=z;have M:0<=BR (bB .i64 u 4095) (f.2.1.size:Int):=CI _ z;have R:BR (bB .i64 u 4095) (f.2.1.size:Int)<((eq f.2.1).length:Int):=by rw[q8];exact B9 _ (by omega)
 refine Tot.not (decide_eq_false H) (Tot.ix2 M R λ_ _ _=>Tot.ix2 M R λ_ _ _=>Tot.ix2 X O λ_ _ _=>Tot.ret ⟨h.len,h.node,⟨?_,λg I=>?_⟩,h.sides,h.born⟩)
 ·show (w.2.1.set _ _).length<=60;rw[BK];exact h.radio.1
 ·rcases List.mem_or_eq_of_mem_set I with I|rfl
  ·exact h.radio.2 g I
  ·refine⟨y,?_⟩;show (gI _).size<=2000;rw[iS,BK,q8];exact J
def md (i:Int)(g:Bool):aa:=(i,true,false,g,0,0,0,0,[(i,0,1,g)],[],(-1,0,0,false),[],(0,0,0,1500),[],[])
theorem Ae {i:Int}{g:Bool}(h:InP i 0 7):UpN (md i g):=by
 refine⟨⟨h,Bw _,⟨λf y=>?_,List.pairwise_singleton _ _⟩,λf y=>?_,⟨λx u=>(nomatch u),List.Pairwise.nil⟩,λx u=>(nomatch u),?_,⟨λd z=>(nomatch z),List.Pairwise.nil,rfl⟩,⟨?_,?_,?_,?_⟩,⟨λp r=>(nomatch r),List.Pairwise.nil⟩,⟨λp r=>(nomatch r),List.Pairwise.nil⟩⟩,?_,?_,⟨?_,?_⟩,?_,rfl⟩
 ·rw[BG.1 y];exact⟨h,⟨by show (0:Int)<=0;omega,by show (0:Int)<=999;omega⟩,by show (1:Int)<=1;omega,by show (1:Int)<=4;omega⟩
 ·rw[BG.1 y];rfl
 ·unfold c7;rw[if_pos (show (aa.probe (md i g)).1=-1 from rfl)];rfl
 ·exact⟨by show (-100000:Int)<=0;omega,by show (0:Int)<=100000;omega⟩
 ·exact⟨by show (-100000:Int)<=0;omega,by show (0:Int)<=100000;omega⟩
 ·exact⟨by show (0:Int)<=0;omega,by show (0:Int)<=100000;omega⟩
 ·exact⟨by show (1:Int)<=1500;omega,by show (1500:Int)<=1500;omega⟩
 ·exact BG.2 rfl
 ·show (0:Int)<=999999;omega
 ·exact⟨by show (0:Int)<=0;omega,by show (0:Int)<=999999;omega⟩
 ·exact⟨by show (0:Int)<=0;omega,by show (0:Int)<=8;omega⟩
 ·exact⟨by show (0:Int)<=0;omega,by show (0:Int)<=999;omega⟩
theorem rh (K:Nat)(i:Int)(g:Bool)(h:InP i 0 7):Q15.f K (i,g,())=some ((md i g,()),()):=by
 simp only[Q15.f];obtain⟨b,e,r⟩:=cE K i 0 7;rw[e,r.2 h];rfl
theorem eh.new (i:Nat)(g:Bool)(h:i<8):eh i (md (i:Int) g):=⟨rfl,h,λ_=>Ae ⟨by omega,by omega⟩,λr=>by cases r⟩
theorem Ba (K:Nat)(w:bQ)(c:Nat)(h:WI w c)(M:c<=1000000)(u:Int)(y:InP u 0 7)(I:1048577<K):Tot (Q88.f K (w,u,())) λr=>WI r.1.1 (c+4):=by
 have O:=h.born;have H:u.toNat<8:=by obtain⟨a,b⟩:=y;omega
 have z:=h.len;simp only[Q88.f,Q16.f,BA];rw[rh K u _ y];simp only[BA];refine Tot.ix2 y.1 (by have:=y.2;omega) λ_ _ _=>?_
 refine Tot.vl (show idx (md u (decide (BR u 4<3))).2.2.2.2.2.2.2.2.1 0=some (u,0,1,decide (BR u 4<3)) from rfl) (Tot.bind (xw K w.2.2.2 _ (by omega) I) λv J=>Tot.ret (h.put ?_ h.radio (by omega)));have:=eh.new u.toNat (decide (BR u 4<3)) H
 rwa [B8 y.1]at this
theorem Af (K:Nat)(n:aa)(w:ak)(hn:NB n)(u:(ak.table w).length<=1048576)(r:1048577<K):Ret (Q170.f K (n,w,())) (gN n/\dJ w/\gx n w):=by
 obtain⟨b1,e1,J⟩:=sA K n hn r;obtain⟨O,e2,M⟩:=yk K w u r;simp only[Q170.f];rw[e1];cases b1 with
 |false=>exact⟨false,rfl,by simp only[CA,false_iff];exact λh=>by have:=J.2 h.1;cases this⟩
 |true =>
  simp only[rb,BA,BH,cond_false];rw[e2];cases O with
  |false=>exact⟨false,rfl,by simp only[CA,false_iff];exact λh=>by have:=M.2 h.2.1;cases this⟩
  |true =>
   have hP:=J.1 rfl;have z:=M.1 rfl;simp only[rb,BA,BH,cond_false];obtain⟨b3,h3,H⟩:=(eZ K (ak.table w) (aj n.1) u r).same (ij K (ak.table w) (aj n.1) u r) Iff.rfl;obtain⟨b4,h4,y⟩:=(eZ K (ak.table w) (aj w.2.2.1) u r).same (ij K (ak.table w) (aj w.2.2.1) u r) Iff.rfl;obtain⟨R,h5,I⟩:=pD K n w.2.2.1;have Z:R=(aj w.2.2.1==aj n.1):=by
    rw[BX,I,beq_iff_eq];exact⟨λh=>h.2,λh=>⟨z.2.2.1,h⟩⟩
   have hp:InP w.1 1 2:=z.1;obtain⟨b,e4,X⟩:=uP K n w u r;refine⟨b,?_,X.trans ⟨λh=>⟨hP,z,h⟩,λh=>h.2.2⟩⟩;rw[<- e4];simp only[Q24.f,Q169.f];rw[h5,dk K n.1,dk K w.2.2.1,mH K w.2.2.1,nI K n,Z];simp only[BA];rw[h3,h4,y,H];simp only[BA,bne];generalize (aj w.2.2.1==aj n.1)=c1;generalize (w.2.2.2.1==n.1)=c2;generalize (w.2.2.1==n.1)=c3;generalize (w.2.1==6)=c4;generalize n.2.1=c5;generalize n.2.2.1=Y;rcases (by omega:w.1=1\/w.1=2) with h|h <;> rw[h] <;> cases c1 <;> cases c2 <;> cases c3 <;> cases c4 <;> cases c5 <;> cases Y <;> cases b3 <;> cases b4 <;> rfl
theorem xx (K:Nat)(n:aa)(r:Int)(w:ak)(h:cq n)(u:1048577<K):Q207.f K (n,r,w,())=some ((pT r (iQ n) w.2.2.2.2.2.1 w.2.2.2.2.1 n.1 (gY n w.2.2.2.2.2.1),()),(iQ n,())):=by
 simp only[Q207.f,zcp4];refine (congrArg (λo=>BC o _) (vE K n w.2.2.2.2.2.1 h u)).trans ?_;simp only[BA,Q187.f];rfl
theorem yL (K:Nat)(n:aa)(x:Int)(r:InP x 0 7):Q161.f K (n,x,())=rb (aj x==aj n.1&&x != n.1):=by
 obtain⟨b,e,h⟩:=pD K n x;simp only[Q161.f];rw[e];have u:b=(aj x==aj n.1):=by
  rw[BX,h,beq_iff_eq];exact⟨λh=>h.2,λh=>⟨r,h⟩⟩
 subst u;simp only[rb,BA];cases aj x==aj n.1 with
 |true=>rfl
 |false=>rfl
theorem yM (K:Nat)(xs r:List af)(R:xs.length<=1048576)(O:1048577<K):Q186.f K (xs,r,())=rb (decide (xs=r)):=by
 simp only[Q186.f,Q186.pre];by_cases u:xs.length=r.length
 case neg =>
  rw[show ((BD xs:Int) != (BD r:Int))=true by simp only[bne_iff_ne,ne_eq];omega,decide_eq_false (λe=>u (by rw[e]))];rfl
 rw[show ((BD xs:Int) != (BD r:Int))=false by rw[u];simp];simp only[cond_false];have:=co (step:=λrec a=>Q186.s0 K (xs,r,()) rec a) xs.length (λi=>(i:Int)) (λj=>∃ h:j<xs.length,xs[j]≠r[j]'(by omega)) (rb true) (λ_=>rb false) ?_ ?_ xs.length K 0 (by omega) (by omega)
 ·rcases this with ⟨I,z⟩|⟨j,_,I,⟨X,M⟩,_,z⟩
  ·rw[decide_eq_true (List.ext_getElem u λi h _=>Classical.byContradiction λy=>I i (BP _) h ⟨h,y⟩)];exact z
  ·rw[decide_eq_false (λe=>M (by subst e;rfl))];exact z
 ·intro rec i J;have H:i<r.length:=by omega
  simp only[Q186.s0];rw[bk (by omega:(i:Int)<(BD xs:Int)),ag J,ag H,ar i (by omega)];simp only[cond_true,BA];by_cases e:xs[i]=r[i]
  ·left;refine⟨λ⟨_,h⟩=>h e,?_⟩;rw[show Ty.eqv t2 xs[i] r[i]=decide (xs[i]=r[i]) from gq _ _,decide_eq_true e];rfl
  ·right;refine⟨⟨J,e⟩,?_⟩;rw[show Ty.eqv t2 xs[i] r[i]=decide (xs[i]=r[i]) from gq _ _,decide_eq_false e];rfl
 ·intro rec;simp only[Q186.s0,aQ];rfl
theorem yN (K:Nat)(t:List bZ)(v:Int)(Y:t.length<=1048576)(z:Asc (λx:bZ=>x.1) t)(h7:∀ d∈t,InP d.1 0 7)(R:InP v 0 7)(hK:1048577<K) :
  ∃ m,m<=t.length/\(∀ i,(h:i<t.length)->i<m->t[i].1<v)/\(∀ i,(h:i<t.length)->m<=i->v<=t[i].1)/\Q184.f K (t,v,(λH=>(Q185.f K (H.1,H.2.1,())).map λy=>y.1.1),())=some ((((m:Nat):Int),decide (∃ h:m<t.length,t[m].1=v),()),()):=by
 let ks:Nat->Int:=λi=>if h:i<t.length then t[i].1 else 0
 have r:∀ i (h:i<t.length),ks i=t[i].1:=λi h=>by simp[ks,h]
 let u:Nat->Option ((Int×Bool×Unit)×Unit):=λm=>some ((((m:Nat):Int),decide (∃ h:m<t.length,t[m].1=v),()),())
 have X:∀ d∈t,((Q185.f K (d,v,())).map λy=>y.1.1)=some (d.1-v):=λd hd=>by
  obtain⟨a1,a2⟩:=h7 d hd;obtain⟨a3,a4⟩:=R;simp only[Q185.f];rw[aH (by omega) (by omega)];rfl
 have:=pA (step:=λrec a=>Q184.s0 K (t,v,(λH=>(Q185.f K (H.1,H.2.1,())).map λy=>y.1.1),()) rec a) (ks:=ks) (n:=t.length) (t:=v) u Y
  (λi j J O=>by
   rw[r i (by omega),r j O];exact cB.1 z i j (by omega) O J) ?_ ?_ t.length K 0 t.length (by omega) (BP _) (BT _) (by omega) (λi I=>by omega) (λi I R=>by omega)
 ·obtain⟨m,Z,h2,h3,h4⟩:=this;exact⟨m,Z,λi h I=>by rw[<- r i h];exact h2 i I,λi h I=>by rw[<- r i h];exact h3 i I h,h4⟩
 ·intro rec a b a0 hb;have M:(a+b) / 2<t.length:=by omega
  simp only[Q184.s0];rw[decide_eq_true (by omega:(a:Int)<(b:Int)),nG (by omega)];simp only[cond_true];rw[ag M];simp only[BA,X _ (BI M)];rw[r _ M,ar _ (by omega)];by_cases h:t[(a+b) / 2].1<v
  ·rw[if_pos h,decide_eq_true (by omega:t[(a+b) / 2].1-v<0)];rfl
  ·rw[if_neg h,decide_eq_false (by omega:¬ t[(a+b) / 2].1-v<0)];rfl
 ·intro rec a ha;simp only[Q184.s0];rw[decide_eq_false (by omega)];simp only[cond_false];by_cases h:a<t.length
  ·rw[decide_eq_true (by omega:(a:Int)<(BD t:Int)),ag h];simp only[cond_true,BA,X _ (BI h)];have:(t[a].1-v==0)=decide (∃ h:a<t.length,t[a].1=v):=by
    rw[BX];simp only[beq_iff_eq,decide_eq_true_eq];exact⟨λe=>⟨h,by omega⟩,λ⟨_,e⟩=>by omega⟩
   rw[this]
  ·rw[decide_eq_false (by omega:¬ (a:Int)<(BD t:Int))];simp only[cond_false,u];rw[decide_eq_false (λ⟨h',_⟩=>h h')]
theorem xy {R:Type}(K:Nat)(n m:aa)(w:ak)(J:InP w.1 1 2)(X:(bG n w).length<=1048576)(M:m.1=n.1)(O:aa.coord m=aa.coord n)(I:1048577<K)(G:List ak->Option R) :
  (bif w.1==1 then G [] else ((Q186.f K (bG n w,ak.table w,())).bind λy=>bif y.1.1 then G [] else ((Q187.f K (m,6,w.2.2.1,())).bind λr=>(Q1.f K (bG n w,())).bind λH =>
   G [(2,r.1.1.2.1,r.1.1.2.2.1,r.1.1.2.2.2.1,r.1.1.2.2.2.2.1,r.1.1.2.2.2.2.2.1,r.1.1.2.2.2.2.2.2.1,H.1.1)])))=G (bif w.1==2&&decide (ak.table w≠bG n w) then [vM n w] else []):=by
 by_cases u:w.1=1
 ·rw[u];rfl
 ·have z:w.1=2:=by obtain⟨a,b⟩:=J;omega
  rw[show (w.1==1)=false by simpa using u,show (w.1==2)=true by simpa using z,yM K _ _ X I];simp only[cond_false,rb,BA,Bx];by_cases e:bG n w=ak.table w
  ·rw[decide_eq_true e,decide_eq_false (p:=ak.table w≠bG n w) (λh=>h e.symm)];rfl
  ·rw[decide_eq_false e,decide_eq_true (p:=ak.table w≠bG n w) (λh=>e h.symm)];simp only[cond_false,cond_true,Q187.f,BA,Q1.f];rw[dX (by show (bG n w).length*_<=_;omega)];simp only[BA];unfold vM;rw[M,show m.2.2.2.2.2.2.2.2.2.2.2.2.1=aa.coord n from O]
theorem sum_i (K:Nat)(n:aa)(w:ak)(hn:NB n)(h:UpN n)(hp:InP w.1 1 2)(I:az (ak.table w))(r:lV (ak.table w))(u:1048577<K):Q188.f K (n,w,())=some (((eQ n w).2,()),((eQ n w).1,())):=by
 have M:idx (ak.table w) 0=some (ch (ak.table w)):=by
  cases ht:ak.table w with
  |nil=>rw[ht]at r;exact r.elim
  |cons f l=>rfl
 have Y:=uQ (tg r I);have a0:InP (aj (ch (ak.table w)).1) 0 7:=⟨Y.1,CD Y.2 (by decide)⟩;have hb:mb (ak.table w) (aj n.1)=(aj (ch (ak.table w)).1==aj n.1):=by
  rw[BX,kG,beq_iff_eq];cases ht:ak.table w with
  |nil=>rw[ht]at r;exact r.elim
  |cons f l =>
   rw[ht]at r;exact⟨λh=>h f (by simp),λe g hg=>(r g hg).trans e⟩
 simp only[Q188.f,zcp4,zcp8];refine (congrArg (λo=>BC o _) M).trans ?_;simp only[BA];rw[mH K (ch (ak.table w)).1,nI K n];simp only[BA];unfold eQ;rw[hb];cases aj (ch (ak.table w)).1==aj n.1 with
 |true =>
  simp only[cond_true];refine (congrArg (λo=>BC o _) (uI K n (ak.table w) n.1 h.learns I.1 (bX I) h.x.me u)).trans rfl
 |false =>
  simp only[cond_false];obtain⟨a1,a2,a3⟩:=kH (n:=n) h.x.others I r;refine (congrArg (λo=>BC o _) (zJ K n (aj (ch (ak.table w)).1) hn u)).trans ?_;simp only[BA];refine (congrArg (λo=>BC o _) (AN K (eF (aa.others n) (aj (ch (ak.table w)).1)) (ak.table w) (o6 h.x.others _) I u)).trans ?_;simp only[BA];have y:=h.x.others;have H:=olen y;obtain⟨m,hm,lo,hi,hs⟩:=yN K (aa.others n) (aj (ch (ak.table w)).1) H y.2 (λx hx=>⟨(y.1 x hx).1.1,CD (y.1 x hx).1.2 (by decide)⟩) a0 u;refine (congrArg (λo=>BC o _) hs).trans ?_;simp only[BA];by_cases hf:∃ h:m<(aa.others n).length,(aa.others n)[m].1=aj (ch (ak.table w)).1
  ·rw[decide_eq_true hf];obtain⟨J,e⟩:=hf;simp only[cond_true,BF];have Z:idx (aa.others n) (m:Int)=some (aa.others n)[m]:=ag J;refine (congrArg (λo=>BC o _) Z).trans ?_;simp only[BA];refine (congrArg (λo=>BC o _) Z).trans ?_;simp only[BA];rw[e];have X:(aa.others n).set m (aj (ch (ak.table w)).1,bG n w)=bu (λx:bZ=>x.1) (aj (ch (ak.table w)).1,bG n w) (aa.others n):=ik (k:=λx:bZ=>x.1) (x:=(aj (ch (ak.table w)).1,bG n w)) y.2 J e;have:=xy K n (mU n ((aa.others n).set m (aj (ch (ak.table w)).1,bG n w))) w hp (bX a1) rfl rfl u (λws=>some ((ws,()),(mU n ((aa.others n).set m (aj (ch (ak.table w)).1,bG n w)),())));refine Eq.trans this ?_;rw[X];rfl
  ·rw[decide_eq_false hf];simp only[cond_false];have z:Q8.f K (aa.others n,(m:Int),[(aj (ch (ak.table w)).1,bG n w)],())=some (((aa.others n).take m++[(aj (ch (ak.table w)).1,bG n w)]++(aa.others n).drop m,()),()):=ju hm (by decide) H;refine (congrArg (λo=>BC o _) z).trans ?_;simp only[BA];have O:(aa.others n).take m++[(aj (ch (ak.table w)).1,bG n w)]++(aa.others n).drop m=bu (λx:bZ=>x.1) (aj (ch (ak.table w)).1,bG n w) (aa.others n):=gr (k:=λx:bZ=>x.1) (x:=(aj (ch (ak.table w)).1,bG n w)) hm lo (λj hj R=>by
    rcases Int.lt_or_eq_of_le (hi j hj R) with h|h
    ·exact h
    ·exfalso;rcases Nat.lt_or_eq_of_le R with h4|rfl
     ·have:(aa.others n)[m].1<(aa.others n)[j].1:=cB.1 y.2 m j (by omega) hj h4;have h5:=hi m (by omega) (BT _);omega
     ·exact hf ⟨hj,h.symm⟩)
   have:=xy K n (mU n ((aa.others n).take m++[(aj (ch (ak.table w)).1,bG n w)]++(aa.others n).drop m)) w hp (bX a1) rfl rfl u (λws=>some ((ws,()),(mU n ((aa.others n).take m++[(aj (ch (ak.table w)).1,bG n w)]++(aa.others n).drop m),())));refine Eq.trans this ?_;rw[O];rfl
theorem Bb (K:Nat)(n:aa)(w:ak)(Y:NB n)(h:UpN n)(y:dJ w)(J:gx n w)(z:w.2.1≠2)(H:1048577<K):Q209.f K (n,w,())=some (((bY K n w).2,()),((bY K n w).1,())):=by
 have r:=y.2.2.2.2.2.2.2.1;unfold bY;rw[if_pos ⟨y,J⟩];simp only[Q209.f,zcp4];by_cases u:w.2.1=6
 ·rw[if_pos u,show (w.2.1==6)=true by simpa using u];have R:=y.2.2.2.2.2.2.2.2;rw[if_pos u]at R;simp only[cond_true];exact (congrArg (λo=>BC o _) (sum_i K n w Y h y.1 r R H)).trans rfl
 ·rw[if_neg u,show (w.2.1==6)=false by simpa using u];obtain⟨Z,X⟩:=jU y J u;have I:=(kl h J.2.1 r Z X).1;simp only[cond_false];refine (congrArg (λo=>BC o _) (uI K n (ak.table w) w.2.2.1 h.learns r.1 (bX r) X.1 H)).trans ?_;simp only[BA];generalize dr n (ak.table w) w.2.2.1=m at I ⊢;have M:=y.2.2.2.2.2.1;have O:=yL K m w.2.2.2.2.2.1 M;rw[show (w.2.1==2)=false by simpa using z];unfold fa;rw[show (w.2.1==2)=false by simpa using z];cases w.2.1==1 with
  |true =>
   simp only[cond_true];refine (congrArg (λo=>BC o _) O).trans ?_;simp only[rb,BA,bne];cases aj w.2.2.2.2.2.1==aj m.1 with
   |false=>rfl
   |true =>
    cases w.2.2.2.2.2.1==m.1 with
    |true=>rfl
    |false =>
     simp only[Bx,BZ,BH,cond_true,cond_false];exact (congrArg (λo=>BC o _) (xx K m 2 w I.x.say H)).trans rfl
  |false =>
   simp only[cond_false];cases w.2.1==3 with
   |true =>
    simp only[cond_true];refine (congrArg (λo=>BC o _) O).trans ?_;simp only[rb,BA,bne];cases aj w.2.2.2.2.2.1==aj m.1 with
    |false=>rfl
    |true =>
     cases w.2.2.2.2.2.1==m.1 with
     |true=>rfl
     |false =>
      simp only[Bx,BZ,BH,cond_true,cond_false];cases w.2.2.2.2.2.1==w.2.2.1 with
      |true=>rfl
      |false =>
       simp only[BZ,cond_true,cond_false];exact (congrArg (λo=>BC o _) (xx K m 1 w I.x.say H)).trans rfl
   |false =>
    simp only[cond_false];cases w.2.1==4 with
    |true =>
     simp only[cond_true];exact (congrArg (λo=>BC o _) (zO K m 5 w.2.2.1 (bX I.x.table))).trans rfl
    |false=>rfl
theorem ul (K:Nat)(n:aa)(w:ak)(H:NB n)(Y:(ak.table w).length<=1048576)(R:w.2.1≠2)(r:1048577<K):∃ y:aa,∃ z:List ak,NB y/\z.length<=1/\(∀ x∈z,(ak.table x).length<=1048576)/\Q223.f K (n,w,())=some ((y,z,()),())/\Q214.f K (n,w,())=some ((y,z,()),()) /\
  ((gN n/\dJ w/\gx n w)->y=(bY K n w).1/\z=(bY K n w).2)/\(gN n->¬ (dJ w/\gx n w)->y=n/\z=[])/\(¬ gN n->z=[]):=by
 obtain⟨b,o1,o2,X⟩:=oc K n H r;simp only[Q223.f,Q214.f,Q213.f];rw[o1,o2];cases b with
 |false=>exact⟨sI,[],tY,by simp,by simp,rfl,rfl,λh=>(by have:=X.2 h.1;cases this),λh=>(by have:=X.2 h;cases this),λ_=>rfl⟩
 |true =>
  have J:=X.1 rfl;have I:n.2.1=true->UpN n:=λI=>UpN.of J I
  simp only[rb,BA,BH,cond_false];rw[mK K n H r,yl K n H r];simp only[BA];rw[xu K n w I Y r];simp only[BA,Q210.f];obtain⟨c,t2,t3⟩:=Af K n w H Y r;rw[t2];cases c with
  |false =>
   have u:¬ (dJ w/\gx n w):=λh=>by have:=t3.2 ⟨J,h⟩;cases this
   have he:bY K n w=(n,[]):=by unfold bY;rw[if_neg u]
   rw[he];simp only;rw[mK K n H r];exact⟨n,[],H,by simp,by simp,rfl,rfl,λh=>absurd h.2 u,λ_ _=>⟨rfl,rfl⟩,λh=>absurd J h⟩
  |true =>
   obtain⟨_,hW,M⟩:=t3.1 rfl;have O:=I M.1;have Z:=nP (w:=w) O r;have h2:=mc (w:=w) O r;simp only[rb,BA,BH,cond_false];rw[Bb K n w H O hW M R r];simp only[BA];rw[mK K _ Z.1.nb r];refine⟨(bY K n w).1,(bY K n w).2,Z.1.nb,h2.1,λx hx=>(h2.2 x hx).2,rfl,?_,λ_=>⟨rfl,rfl⟩,λ_ u=>absurd ⟨hW,M⟩ u,λh=>absurd J h⟩;simp only[Q212.f];simp
theorem Ag {n:aa}(h:UpN n):(lv n).length<=8/\∀ x∈lv n,hX x:=by
 unfold lv;refine⟨?_,λx u=>?_⟩
 ·rw[B4];exact BJ (B6 _ _) (iP h.x.table.2 λf r=>(h.x.table.1 f r).1)
 ·obtain⟨f,r,rfl⟩:=BV.1 u;exact⟨(h.x.table.1 f (BY.1 r).1).1,bX h.x.table⟩
theorem Bc (K:Nat)(w:bQ)(c:Nat)(h:WI w c)(hc:c<=1000000)(e:af)(h0:InP e.2.1 0 7)(O:1048577<K):Tot (Q106.f K (w,e,())) λr=>WI r.1.1 (c+4):=by
 have a2:=h.len;have hs:=h.sides;obtain⟨a0,a1,u,keep⟩:=e;obtain⟨e0,e1⟩:=h0;simp only at e0 e1;obtain⟨i,rfl⟩:=BO e0;have Z:i<w.1.length:=by omega
 have M:=h.node i Z;have y:=h.mono (show c<=c+4 by omega);simp only[Q106.f];refine Tot.vl (ag Z) (Tot.vl (by rw[BF];exact ag Z) ?_);generalize w.1[i]=n at M ⊢;refine Tot.cnd (λ_=>?_) λ_=>Tot.cnd (λ_=>?_) λ_=>Tot.cnd (λ_=>?_) λ_=>?_
 ·
  rw[zq];simp only[BA];exact Tot.ix2 (by omega) (by omega) λ_ _ _=>Tot.ret ⟨y.len,y.node,y.radio,by show (w.2.2.1.set _ _).length=8;rw[BK];exact h.sides,y.born⟩
 ·
  simp only[Q87.f,BA];refine Tot.ix2 (by omega) (by omega) λ_ _ _=>Tot.ret (y.put (i:=i) (n:=jn n.1 n.2.2.2.1) ?_ y.radio y.born)
  exact⟨M.me,M.lt,λJ=>(by cases J),λ_=>rfl⟩
 ·
  exact Tot.cnd (λ_=>Tot.ret y) λ_=>Tot.bind (Ba K w c h hc (i:Int) ⟨by omega,by omega⟩ O) λv H=>Tot.ret H
 ·refine Tot.cnd (λ_=>Tot.ret y) λJ=>Tot.cnd (λ_=>Tot.ret y) λY=>?_
  have J:n.2.1=true:=by simpa using J
  have z:=M.up J;have set:=λ (m:aa) (X:List ak) (I:UpN m) (em:m.1=n.1) (R:∀ x∈X,hX x) (hl:X.length<=1000)=>AZ K w i m X [] c ⟨h,M.lt,M.of I em,R,hl,BP _,hc⟩ O
  refine Tot.cnd (λ_=>?_) λ_=>Tot.cnd (λ_=>?_) λ_=>Tot.cnd (λ_=>?_) λ_=>Tot.ret y
  ·refine Tot.cnd (λ_=>Tot.ret y) λI=>?_
   have I:cf n<999999:=by have I:¬ n.2.2.2.2.2.1>=999999:=of_decide_eq_false I;show n.2.2.2.2.2.1<999999;omega
   obtain⟨t1,t2,_⟩:=qu z I;obtain⟨w1,w2⟩:=AX z I u;exact Tot.vl (AY K n u z Y I O) (Tot.bind (set _ _ t1 t2 w2 (BJ w1 (by omega))) λv H=>Tot.ret H)
  ·obtain⟨t1,t2⟩:=yE z Y;obtain⟨w1,w2⟩:=Ag t1;exact Tot.vl (zP K n z.nb z.ok J Y O) (Tot.bind (set _ _ t1 t2 w2 (BJ w1 (by omega))) λv H=>Tot.ret H)
  ·refine Tot.bind (cE K u 0 7).tot λv H=>Tot.cnd (λ_=>Tot.ret y) λh1=>Tot.cnd (λ_=>Tot.ret y) λ_=>?_
   have hd:InP u 0 7:=H.1 (by simpa using h1);rw[dk K,dk K];simp only[BA];refine Tot.cnd (λ_=>Tot.ret y) λ_=>?_
   refine Tot.vl (nM K n 4 u (bX z.x.table)) (Tot.bind (set n _ z rfl (λx hx=>?_) (by simp)) λv H=>Tot.ret H);rw[BG.1 hx];exact⟨hd,bX z.x.table⟩
theorem do_t (K:Nat)(w:bQ)(c:Nat)(h:WI w c)(R:c<=1000000)(e:af)(M:1048577<K):Tot (Q108.f K (w,e,())) λr=>WI r.1.1 (c+4):=by
 have z:=h.mono (show c<=c+4 by omega);have hr:=h.radio.1;simp only[Q108.f];rw[aH (n:=(BD w.2.1:Int)-1) (by omega) (by omega)];have u:Tot ((Q13.f K (e.2.1,0,(BD w.2.1:Int)-1,())).bind λY=>bif !Y.1.1 then (some ((w,false,()),())) else (bif e.1==2 then ((Q84.f K (w,e.2.1,e.2.2.2,())).bind λZ=>some ((Z.1.1,true,()),())) else (bif e.1==4 then ((Q85.f K (w,e.2.1,e.2.2.1,())).bind λO=>some ((O.1.1,O.1.2.1,()),())) else ((Q77.f K (w.2.1,e.2.1,())).bind λX=>some (((w.1,(X.1.1,w.2.2)),true,()),()))))) λr=>WI r.1.1 (c+4):=by
  refine Tot.bind (cE K _ _ _).tot λv y=>Tot.cnd (λ_=>Tot.ret z) λI=>?_
  obtain⟨J,H⟩:InP e.2.1 0 ((BD w.2.1:Int)-1):=y.1 (by simpa using I);have H:e.2.1<(w.2.1.length:Int):=by omega
  refine Tot.cnd (λ_=>Tot.bind (Ac K w c h R e.2.1 e.2.2.2 J H M) λv y=>Tot.ret y) λ_=>Tot.cnd (λ_=>Tot.bind (Ad K w c h e.2.1 e.2.2.1 J H) λv y=>Tot.ret (WI.mono y (by omega))) λ_=>?_
  exact Tot.bind (re K w.2.1 e.2.1 J H h.radio) λv y=>Tot.ret ⟨z.len,z.node,y,z.sides,z.born⟩
 refine Tot.cnd (λ_=>u) λ_=>Tot.cnd (λ_=>u) λ_=>Tot.cnd (λ_=>u) λ_=>?_
 exact Tot.bind (cE K _ _ _).tot λv y=>Tot.cnd (λ_=>Tot.ret z) λI=>Tot.bind (Bc K w c h R e (y.1 (by simpa using I)) M) λv y=>Tot.ret y
theorem yO (K:Nat)(w:bQ)(O:w.1.length<=1048576)(H:∀ n∈w.1,NB n)(Y:w.2.1.length<=1048576)(X:w.2.2.1.length<=1048576)(R:w.2.2.2.length<=1048576)(y:1048577<K):Q110.f K (w,())=some ((w,()),()):=by
 simp only[Q110.f,Q110.pre];rw[szb _ _ _ (by omega) (by show (BD ([]:List lx))+w.2.1.length<=_;simp;omega)];simp only[cond_true];rw[szb _ _ _ (by omega) (by show (BD ([]:List Int))+w.2.2.1.length<=_;simp;omega)];simp only[cond_true];rw[szb _ _ _ (by omega) (by show (BD ([]:List af))+w.2.2.2.length<=_;simp;omega)];simp only[cond_true];have:∀ (d i k:Nat),i+d=w.1.length->d<k->ae (λrec a=>Q110.s0 K (w,()) rec a) k ((i:Int),w.1.take i)=some ((w,()),()):=by
  intro d;induction d with
  |zero =>
   intro i k M z;obtain⟨k,rfl⟩:∃ u,k=u+1:=⟨k-1,by omega⟩;have:i=w.1.length:=by omega
   subst this;show Q110.s0 K (w,()) _ _=_;simp only[Q110.s0,aQ,By];rfl
  |succ d I =>
   intro i k M z;obtain⟨k,rfl⟩:∃ u,k=u+1:=⟨k-1,by omega⟩;have r:i<w.1.length:=by omega
   show Q110.s0 K (w,()) _ _=_;simp only[Q110.s0];rw[bk (by omega:(i:Int)<(BD w.1:Int)),ag r,ar i (by omega)];simp only[cond_true,BA];refine (congrArg (λo=>BC o _) (mK K w.1[i] (H _ (BI r)) y)).trans ?_;simp only[BA];have J:decide (((w.1.take i).length+[w.1[i]].length)*232<=an)=true:=decide_eq_true (by
    rw[BW];simp only[CG,B5,an];omega)
   refine (congrArg (λb=>bif b then _ else _) J).trans ?_;have e:w.1.take i++[w.1[i]]=w.1.take (i+1):=by rw[List.take_add_one,List.getElem?_eq_getElem r];rfl
   rw[<- I (i+1) k (by omega) (by omega),<- e];rfl
 exact this w.1.length 0 K (by omega) (by omega)
theorem WI.copy {w:bQ}{c:Nat}(h:WI w c)(J:c<=1000000)(K:Nat)(u:1048577<K):Q110.f K (w,())=some ((w,()),()):=by
 have z:=h.len;have M:=h.radio.1;have I:=h.sides;have H:=h.born;refine yO K w (by omega) (λn y=>?_) (by omega) (by omega) (by omega) u;obtain⟨i,r,rfl⟩:=BN y;exact (h.node i r).nb
theorem Bd (K:Nat)(w:bQ)(c:Nat)(y:List af)(h:WI w c)(Z:y.length<=1000)(hc:c<=900000)(J:1048577<K):Tot (Q111.f K (w,y,())) λr=>WI r.1.1 (c+4*y.length)/\r.2.1=y:=by
 simp only[Q111.f,Q111.pre];refine Tot.iter (step:=λrec a=>Q111.s0 K (w,y,()) rec a) (λa=>0<=a.1/\a.1<=y.length/\WI a.2 (c+4*a.1.toNat)) (λa=>y.length-a.1.toNat) ?_ K _ (by show y.length-BE 0<K;omega) ⟨by show (0:Int)<=0;omega,by show (0:Int)<=_;omega,h⟩;rintro rec ⟨i,v⟩ ⟨R,Y,H⟩ O;simp only at R Y H O ⊢;simp only[Q111.s0];refine Tot.cnd (λz=>?_) λ_=>Tot.ret ⟨WI.mono H (by omega),rfl⟩
 have z:i<(y.length:Int):=of_decide_eq_true z;rw[aH (n:=i+1) (by omega) (by omega)];refine Tot.vl (H.copy (by omega) K J) (Tot.ix2 R z λe _ _=>Tot.bind (do_t K v _ H (by omega) e J) ?_);rintro⟨⟨v',ok,⟨⟩⟩,⟨⟩⟩ I;have I:WI v' (c+4*i.toNat+4):=I;have M:∀ u:bQ,WI u (c+4*i.toNat+4)->Tot (rec (i+1,u)) λr=>WI r.1.1 (c+4*y.length)/\r.2.1=y:=λu X=>O (i+1,u) ⟨by show 0<=i+1;omega,by show i+1<=_;omega,X.mono (by show _<=c+4*(i+1).toNat;omega)⟩ (by show y.length-BE (i+1)<y.length-BE i;omega)
 exact Tot.cnd (λ_=>M v' I) λ_=>M v (H.mono (by omega))
theorem vO (K:Nat)(hK:1048577<K):Tot (Q17.f K ()) λr=>WI r.1.1 8:=by
 simp only[Q17.f,Q17.pre];refine Tot.iter (step:=λrec a=>Q17.s0 K () rec a) (λa=>0<=a.1/\a.1<=8/\a.2.1.length=a.1.toNat/\(∀ (j:Nat) (y:j<a.2.1.length),eh j a.2.1[j])/\a.2.2.1.length=a.1.toNat/\a.2.2.2.length=a.1.toNat) (λa=>8-a.1.toNat) ?_ K _ (by show 8-BE 0<K;omega) ⟨by show (0:Int)<=0;omega,by show (0:Int)<=8;omega,rfl,λj y=>(by cases y),rfl,rfl⟩;rintro rec ⟨i,z,R,O⟩ ⟨M,Y,h2,J,h4,Z⟩ X;simp only at M Y h2 J h4 Z X ⊢;simp only[Q17.s0];refine Tot.cnd (λu=>?_) λu=>?_
 ·have u:i<=7:=of_decide_eq_true u;rw[aH (n:=i+1) (by omega) (by omega)];simp only[Q16.f,BA];refine Tot.vl (rh K i _ ⟨M,u⟩) (Tot.fit (Tot.fit (Tot.vl (show idx (md i (decide (BR i 4<3))).2.2.2.2.2.2.2.2.1 0=some (i,0,1,decide (BR i 4<3)) from rfl) (Tot.fit (X _ ⟨by show 0<=i+1;omega,by show i+1<=8;omega,?_,λj y=>?_,?_,?_⟩ (by show 8-BE (i+1)<8-BE i;omega)) (by omega) ?_)) (by omega) ?_) (by omega) ?_)
  ·show (z++[md i _]).length=(i+1).toNat;simp;omega
  ·show eh j ((z++[md i (decide (BR i 4<3))])[j]'y);rw[List.getElem_append];split
   ·exact J j _
   ·rename_i I;have y:j<(z++[md i (decide (BR i 4<3))]).length:=y;have H:j=i.toNat:=by simp at y;omega
    subst H;have:=eh.new i.toNat (decide (BR i 4<3)) (by omega);rw[B8 M]at this;simpa using this
  ·show (R++[0]).length=(i+1).toNat;simp;omega
  ·show (O++[_]).length=(i+1).toNat;simp;omega
  ·simp;omega
  ·simp;omega
  ·simp;omega
 ·have I:=of_decide_eq_false u;refine Tot.ret ⟨?_,J,⟨BP _,λf hf=>(nomatch hf)⟩,?_,?_⟩
  ·show z.length=8;omega
  ·show R.length=8;omega
  ·show O.length<=8;omega
abbrev LtP (v n:Int):Prop:=0<=v/\v<n
def a8 (b:List Int)(m:Nat)(s:List Int×Int):Prop:=∃ q:Nat,q<=m/\s=(b,(q:Int))
theorem a8.up {b:List Int}{m:Nat}{s:List Int×Int}(h:a8 b m s){m':Nat}(u:m<=m'):a8 b m' s:=by obtain⟨q,y,r⟩:=h;exact⟨q,by omega,r⟩
section
variable {K:Nat} {b:List Int} {m:Nat} {s:List Int×Int}
theorem aA (h:fF b)(y:a8 b m s)(n:Int)(H:1<=n)(I:m<=99000):Tot (Q12.f K (s,n,())) λr=>LtP r.1.1 n/\a8 b (m+1) r.2.1:=by
 obtain⟨q,J,rfl⟩:=y;obtain⟨v,e,z,u⟩:=zU K b q n h (by omega) H;exact⟨_,e,⟨z,u⟩,q+1,by omega,rfl⟩
theorem Be (r:List Int)(z:∀ y∈r,0<=y/\y<=255)(I:r.length<=9223372036854775807):∃ u:List Int,fF u/\Q11.f K (r,())=some (((u,(0:Int)),()),()):=by
 simp only[Q11.f];by_cases h:(r.length:Int)>2000
 ·rw[decide_eq_true h,decide_eq_true (by omega:(2000:Int)<=(r.length:Int))];exact⟨(r.take 2000).drop 0,⟨λy H=>z y (BU (by simpa using H)),by simp;omega⟩,rfl⟩
 ·rw[decide_eq_false h];exact⟨r,⟨z,by omega⟩,rfl⟩
theorem xz (h:fF b)(hs:a8 b m s)(u:Int)(h0:0<=u)(h1:u<=1)(hm:m<=98000):Tot (Q116.f K (s,u,())) λr=>(bg r.1.1/\aj r.1.1.1=u)/\a8 b (m+5) r.2.1:=by
 simp only[Q116.f];refine Tot.bind (aA h hs 4 (by decide) (by omega)) λz ⟨⟨a1,b1⟩,M⟩=>Tot.bind (aA h M 3 (by decide) (by omega)) λv2 ⟨⟨a2,b2⟩,J⟩=>Tot.bind (aA h J 12 (by decide) (by omega)) λv3 ⟨⟨a3,b3⟩,X⟩=>Tot.bind (aA h X 3 (by decide) (by omega)) λv4 ⟨⟨R,O⟩,Z⟩=>Tot.ix2 R O λy H _=>Tot.bind (aA h Z 4 (by decide) (by omega)) λI ⟨⟨a5,b5⟩,Y⟩=>?_
 simp only[Q16.f,BA];have H:InP y 0 999:=by
  simp only[CJ,CH,or_false]at H;rcases H with rfl|rfl|rfl <;> constructor <;> omega
 rw[aH (n:=u*4) (by omega) (by omega),aH (n:=u*4+z.1.1) (by omega) (by omega),aH (n:=1+I.1.1) (by omega) (by omega)];refine Tot.ret ⟨⟨⟨⟨?_,?_⟩,H,?_,?_⟩,?_⟩,Y⟩
 ·show (0:Int)<=u*4+z.1.1;omega
 ·show u*4+z.1.1<=7;omega
 ·show (1:Int)<=1+I.1.1;omega
 ·show (1:Int)+I.1.1<=4;omega
 ·show aj (u*4+z.1.1)=u;rw[fG ⟨by omega,by omega⟩];omega
theorem mV (h:fF b)(Z:a8 b m s)(hm:m<=97000):Tot (Q118.f K (s,())) λr=>a8 b (m+8) r.2.1:=by
 simp only[Q118.f];refine Tot.bind (aA h Z 2 (by decide) (by omega)) λJ ⟨⟨X,b1⟩,M⟩=>Tot.bind (xz h M J.1.1 X (by omega) (by omega)) λf ⟨_,I⟩=>Tot.bind (aA h I 12 (by decide) (by omega)) λO ⟨_,H⟩=>?_
 have u:∀ {x y:Int} {G:(Int×Unit)×(List Int×Int)×Unit->Int->Option ((af×Unit)×(List Int×Int)×Unit)},(∀ v z,Tot (G v z) λr=>r.2.1=v.2.1)->Tot ((Q12.f K (O.2.1,2,())).bind λv=>(idx [x,y] v.1.1).bind λ_=>(idx [x,y] (BE v.1.1:Nat)).bind (G v)) λr=>a8 b (m+8) r.2.1:=λR=>Tot.bind (aA h H 2 (by decide) (by omega)) λv ⟨⟨a,b⟩,Y⟩=>Tot.ix2 a b λz _ _=>(R v z).mono λr e=>by rw[e];exact Y.up (by omega)
 refine Tot.cnd (λ_=>u λ_ _=>Tot.ret rfl) λ_=>Tot.cnd (λ_=>u λ_ _=>Tot.ret rfl) λ_=>Tot.cnd (λ_=>u λ_ _=>Tot.ret rfl) λ_=>Tot.cnd (λ_=>Tot.ret (H.up (by omega))) λ_=>Tot.ret (H.up (by omega))
theorem xA (t:List af)(f:af):(bN t f).1.length<=t.length+1:=by
 rcases gW t f with e|e
 ·rw[e];omega
 ·rw[e];exact yj
theorem vP {t:List af}{f:af}{z:Int}(h:bR t z)(u:aj f.1=z):bR (bN t f).1 z:=by
 rcases gW t f with e|e <;> rw[e]
 ·exact h
 ·intro g r;rcases aX.1 r with rfl|⟨r,_⟩
  ·exact u
  ·exact h g r
theorem nQ (h:fF b)(hs:a8 b m s)(u:Int)(h0:-1<=u)(h1:u<=1)(hm:m<=96000)(hK:1048577<K):Tot (Q117.f K (s,u,())) λr=>(az r.1.1/\(0<=u->bR r.1.1 u)/\r.1.1.length<=5)/\a8 b (m+31) r.2.1:=by
 simp only[Q117.f,Q117.pre];refine Tot.bind (aA h hs 6 (by decide) (by omega)) λv ⟨⟨v0,v1⟩,s1⟩=>?_
 refine Tot.iter (step:=λrec a=>Q117.s0 K (s,u,()) rec a) (λa=>∃ q:Nat,0<=a.2.1/\az a.1/\(0<=u->bR a.1 u)/\(a.1.length:Int)+a.2.1<=5/\a8 b q a.2.2/\q+6*a.2.1.toNat<=m+31) (λa=>a.2.1.toNat) ?_ K _ (by show v.1.1.toNat<K;omega) ⟨m+1,v0,⟨by simp,List.Pairwise.nil⟩,λ_ f Y=>(nomatch Y),by show ((0:Nat):Int)+v.1.1<=5;omega,s1,by show m+1+6*v.1.1.toNat<=m+31;omega⟩;rintro rec ⟨t,n,s2⟩ ⟨q,n0,O,hS,hl,I,hq⟩ ih;simp only at n0 O hS hl I hq ih ⊢;simp only[Q117.s0];refine Tot.cnd (λhn=>?_) λ_=>Tot.ret ⟨⟨O,hS,by show t.length<=5;omega⟩,I.up (by omega)⟩
 have hn:n>0:=of_decide_eq_true hn;rw[aH (n:=n-1) (by omega) (by omega)];have go:∀ (z:Int) (J:Nat) (M:List Int×Int),0<=z->z<=1->(0<=u->z=u)->a8 b J M->J<=q+1->Tot ((Q116.f K (M,z,())).bind λX=>(Q34.f K (t,X.1.1,())).bind λy4=>rec (y4.1.1,n-1,X.2.1.1,X.2.1.2)) λr=>(az r.1.1/\(0<=u->bR r.1.1 u)/\r.1.1.length<=5)/\a8 b (m+31) r.2.1:=λz J M z0 z1 hz a0 a1=>by
  refine Tot.bind (xz h a0 z z0 z1 (by omega)) λy ⟨⟨Y,R⟩,Z⟩=>Tot.vl (vD K t y.1.1 (by omega) O.2 hK) (ih (_,_,y.2.1) ⟨J+5,by show 0<=n-1;omega,kh O Y,λh9=>vP (hS h9) (by rw[R];exact hz h9),?_,Z,by show J+5+6*(n-1).toNat<=m+31;omega⟩ (by show (n-1).toNat<n.toNat;omega))
  have:=xA t y.1.1;show ((bN t y.1.1).1.length:Int)+(n-1)<=5;omega
 refine Tot.cnd (λH=>?_) λH=>?_
 ·have H:u<0:=of_decide_eq_true H;exact Tot.bind (aA h I 2 (by decide) (by omega)) λv ⟨⟨a,b⟩,M⟩=>go v.1.1 (q+1) v.2.1 a (by omega) (λh9=>by omega) M (BT _)
 ·have H:¬ u<0:=of_decide_eq_false H;exact go u q s2 (by omega) h1 (λ_=>rfl) I (by omega)
theorem pX (h:fF b)(Y:a8 b m s)(hm:m<=95000)(O:1048577<K):Tot (Q119.f K (s,())) λr=>r.1.1.length<=6/\a8 b (m+42) r.2.1:=by
 simp only[Q119.f];refine Tot.bind (nQ h Y (-1) (by decide) (by decide) (by omega) O) λt ⟨⟨Z,_,hl⟩,M⟩=>?_
 refine Tot.cnd (λJ=>?_) λ_=>Tot.ret ⟨by show t.1.1.length<=6;omega,M.up (by omega)⟩
 have J:(t.1.1.length:Int)>0:=of_decide_eq_true J;refine Tot.bind (aA h M 12 (by decide) (by omega)) λv2 ⟨_,I⟩=>Tot.cnd (λ_=>?_) λ_=>Tot.ret ⟨by show t.1.1.length<=6;omega,I.up (by omega)⟩
 refine Tot.bind (aA h I (t.1.1.length:Int) (by omega) (by omega)) λv3 ⟨⟨u,z⟩,R⟩=>Tot.bind (aA h R 3 (by decide) (by omega)) λv4 ⟨_,H⟩=>?_
 refine Tot.cnd (λ_=>Tot.bind (mV h H (by omega)) λf X=>Tot.ix2 u z λ_ _ _=>Tot.ret ⟨by show (t.1.1.set _ _).length<=6;rw[BK];omega,X.up (by omega)⟩) λ_=>?_
 refine Tot.cnd (λ_=>Tot.ix2 u z λy _ _=>Tot.fit (Tot.ret ⟨by show (t.1.1++[y]).length<=6;simp;omega,H.up (by omega)⟩) (by omega) (by simp;omega)) λ_=>Tot.ix2 u z λy _ _=>Tot.ret ⟨by show (t.1.1.set _ _).length<=6;rw[BK];omega,H.up (by omega)⟩
theorem Ah (h:fF b)(hs:a8 b m s)(u:Int)(h0:-1<=u)(Y:u<=1)(hm:m<=95000)(X:1048577<K):Tot (Q120.f K (s,u,())) λr=>r.1.1.length<=5/\a8 b (m+36) r.2.1:=by
 simp only[Q120.f,Q120.pre];refine Tot.bind (nQ h hs u h0 Y (by omega) X) λt ⟨⟨hT,_,hl⟩,Z⟩=>?_
 refine Tot.iter (step:=λrec a=>Q120.s0 K (s,u,()) rec a) (λa=>a.2.1=t.1.1/\0<=a.2.2.1/\a.2.2.1<=t.1.1.length/\(a.1.length:Int)=a.2.2.1/\a8 b (m+31+a.2.2.1.toNat) a.2.2.2) (λa=>t.1.1.length-a.2.2.1.toNat) ?_ K _ (by show t.1.1.length-BE 0<K;omega) ⟨rfl,by show (0:Int)<=0;omega,by show (0:Int)<=_;omega,rfl,Z⟩;rintro rec ⟨H,t',i,s2⟩ ⟨e,M,R,I,z⟩ O;simp only at e M R I z O ⊢;subst e;simp only[Q120.s0];refine Tot.cnd (λJ=>?_) λ_=>Tot.ret ⟨by show H.length<=5;omega,z.up (by omega)⟩
 have J:i<(t.1.1.length:Int):=of_decide_eq_true J;rw[aH (n:=i+1) (by omega) (by omega)];refine Tot.ix2 M J λy _ _=>Tot.bind (aA h z 4 (by decide) (by omega)) λv ⟨_,s3⟩=>Tot.fit (O (_,_,_,v.2.1) ⟨rfl,by show 0<=i+1;omega,by show i+1<=_;omega,?_,s3.up (by show _<=m+31+(i+1).toNat;omega)⟩ (by show t.1.1.length-(i+1).toNat<t.1.1.length-i.toNat;omega)) (by omega) (by simp;omega)
 show ((H++[_]).length:Int)=i+1;simp;omega
theorem vQ (h:fF b)(hs:a8 b m s)(hm:m<=94000)(X:1048577<K):Tot (Q121.f K (s,())) λr=>r.1.1.length<=6/\a8 b (m+50) r.2.1:=by
 simp only[Q121.f];refine Tot.bind (Ah h hs (-1) (by decide) (by decide) (by omega) X) λt ⟨hl,O⟩=>?_
 refine Tot.cnd (λM=>?_) λ_=>Tot.ret ⟨by show t.1.1.length<=6;omega,O.up (by omega)⟩
 have M:(t.1.1.length:Int)>0:=of_decide_eq_true M;refine Tot.bind (aA h O 10 (by decide) (by omega)) λv2 ⟨_,J⟩=>Tot.cnd (λ_=>?_) λ_=>Tot.ret ⟨by show t.1.1.length<=6;omega,J.up (by omega)⟩
 refine Tot.bind (aA h J (t.1.1.length:Int) (by omega) (by omega)) λv3 ⟨⟨u,z⟩,Z⟩=>Tot.bind (aA h Z 3 (by decide) (by omega)) λv4 ⟨_,I⟩=>?_
 refine Tot.cnd (λ_=>Tot.bind (aA h I 2 (by decide) (by omega)) λv5 ⟨⟨Y,R⟩,H⟩=>Tot.ix2 Y R λ_ _ _=>Tot.ix2 u z λ_ _ _=>Tot.ret ⟨by show (t.1.1.set _ _).length<=6;rw[BK];omega,H.up (by omega)⟩) λ_=>?_
 refine Tot.cnd (λ_=>Tot.bind (mV h I (by omega)) λf H=>Tot.ix2 u z λ_ _ _=>Tot.ret ⟨by show (t.1.1.set _ _).length<=6;rw[BK];omega,H.up (by omega)⟩) λ_=>?_
 exact Tot.ix2 u z λy _ _=>Tot.fit (Tot.ret ⟨by show (t.1.1++[y]).length<=6;simp;omega,I.up (by omega)⟩) (by omega) (by simp;omega)
theorem ri (h:fF b)(Y:a8 b m s)(hm:m<=95000):Tot (Q122.f K (s,())) λr=>a8 b (m+6) r.2.1:=by
 simp only[Q122.f,Q14.f];refine Tot.bind (aA h Y 6 (by decide) (by omega)) λv1 ⟨_,z⟩=>Tot.cnd (λ_=>Tot.ret (z.up (by omega))) λ_=>Tot.bind (aA h z 3 (by decide) (by omega)) λv3 ⟨⟨J,M⟩,X⟩=>Tot.ix2 J M λy u _=>?_
 have u:InP y 10 100000:=by
  simp only[CJ,CH,or_false]at u;rcases u with rfl|rfl|rfl <;> constructor <;> omega
 rw[aH (n:=2*y) (by omega) (by omega),aH (n:=2*y+1) (by omega) (by omega),aH (n:=y+1) (by omega) (by omega)];exact Tot.bind (aA h X _ (by omega) (by omega)) λv6 ⟨_,O⟩=>Tot.bind (aA h O _ (by omega) (by omega)) λv7 ⟨_,I⟩=>Tot.bind (aA h I _ (by omega) (by omega)) λv8 ⟨_,R⟩=>Tot.bind (aA h R _ (by decide) (by omega)) λZ ⟨_,H⟩=>Tot.ret H
theorem mf (h:fF b)(H:a8 b m s)(I:m<=94000):Tot (Q123.f K (s,())) λr=>a8 b (m+8) r.2.1:=by
 simp only[Q123.f];exact Tot.bind (ri h H (by omega)) λc z=>Tot.bind (aA h z 16 (by decide) (by omega)) λJ ⟨_,y⟩=>Tot.cnd (λ_=>Tot.bind (aA h y 3 (by decide) (by omega)) λv ⟨⟨a,b⟩,u⟩=>Tot.ix2 a b λ_ _ _=>Tot.ret u) λ_=>Tot.cnd (λ_=>Tot.bind (aA h y 2 (by decide) (by omega)) λv ⟨⟨a,b⟩,u⟩=>Tot.ix2 a b λ_ _ _=>Tot.ret u) λ_=>Tot.cnd (λ_=>Tot.bind (aA h y 2 (by decide) (by omega)) λv ⟨⟨a,b⟩,u⟩=>Tot.ix2 a b λ_ _ _=>Tot.ret u) λ_=>Tot.ret (y.up (by omega))
theorem xB (h:fF b)(H:a8 b m s)(w:bQ)(I:m<=95000):Tot (Q112.f K (s,w,())) λr=>a8 b (m+2) r.2.1:=by
 simp only[Q112.f];refine Tot.cnd (λ_=>Tot.ret (H.up (by omega))) λy=>?_
 have y:¬ (w.2.1.length:Int)=0:=by simpa using y
 refine Tot.bind (aA h H 3 (by decide) (by omega)) λJ ⟨_,z⟩=>Tot.cnd (λ_=>Tot.cnd (λ_=>Tot.bind (aA h z 4 (by decide) (by omega)) λv ⟨_,u⟩=>Tot.ret u) λ_=>?_) λ_=>?_ <;>
 exact Tot.bind (aA h z _ (by show (1:Int)<=(w.2.1.length:Int);omega) (by omega)) λv ⟨_,u⟩=>Tot.ret u
theorem Ai (h:fF b)(hs:a8 b m s)(w:bQ)(hm:m<=94000):Tot (Q113.f K (s,w,())) λr=>a8 b (m+8) r.2.1:=by
 simp only[Q113.f];refine Tot.bind (aA h hs 8 (by decide) (by omega)) λv1 ⟨_,s1⟩=>Tot.bind (aA h s1 256 (by decide) (by omega)) λv2 ⟨_,Z⟩=>Tot.bind (aA h Z 16 (by decide) (by omega)) λv3 ⟨_,s3⟩=>Tot.bind (aA h s3 40 (by decide) (by omega)) λM ⟨_,y⟩=>?_
 have y:a8 b (m+4) M.2.1:=y.up (by omega);generalize M.2.1=z at y ⊢;have Y:a8 b (m+8) z:=y.up (by omega);have R:=xB (K:=K) h y w (by omega);have O:∀ n:Int,1<=n->Tot (Q12.f K (z,n,())) λr=>a8 b (m+8) r.2.1:=λn H=>(aA h y n H (by omega)).mono λr I=>I.2.up (by omega)
 have X:∀ (J:List Int×Int) (n:Int),a8 b (m+4+2) J->1<=n->Tot (Q12.f K (J,n,())) λr=>a8 b (m+8) r.2.1:=λJ n h1 H=>(aA h h1 n H (by omega)).mono λr I=>I.2.up (by omega)
 repeat' first
  |exact Tot.ret Y
  |exact Tot.bind R λv u=>Tot.ret (a8.up u (by omega))
  |exact Tot.bind R λv u=>Tot.bind (X _ _ u (by decide)) λv u=>Tot.ret u
  |exact Tot.bind (O _ (by decide)) λv u=>Tot.ret u
  |exact Tot.bind (O _ (by decide)) λv u=>Tot.cnd (λ_=>Tot.ret u) λ_=>Tot.ret u
  |refine Tot.cnd (λ_=>?_) λ_=>?_
theorem Aj (h:fF b)(hs:a8 b m s)(y:Int)(h1:1<=y)(h2:y<=200)(hm:m<=90000)(R:1048577<K):Tot (Q114.f K (s,y,())) λr=>(WI r.1.2.1 2000/\r.1.1.length<=300)/\a8 b (m+8*y.toNat+2) r.2.1:=by
 simp only[Q114.f,Q114.pre];have O:∀ (H:List af) (n:Int) (z:List Int×Int) (w:bQ) (q c:Nat),0<=n->n<y->H.length<=24->a8 b q z->q<=m+2->WI w c->c<=200->Tot (Q114.l1 K (s,y,()) (H,n,z.1,z.2,w)) λr=>(WI r.1.2.1 2000/\r.1.1.length<=300)/\a8 b (m+8*y.toNat+2) r.2.1:=λH n z w q c n0 n1 Y M hq I hc=>by
  refine Tot.iter (step:=λrec a=>Q114.s1 K (s,y,()) rec a) (λa=>∃ q c:Nat,0<=a.2.1/\a.2.1<y/\(a.1.length:Int)+a.2.1<=24+y/\a8 b q (a.2.2.1,a.2.2.2.1)/\q+8*a.2.1.toNat<=m+8*y.toNat+2/\WI a.2.2.2.2 c/\c+4*a.2.1.toNat<=2000) (λa=>a.2.1.toNat) ?_ K _ (by show n.toNat<K;omega) ⟨q,c,n0,n1,by show (H.length:Int)+n<=_;omega,M,by show q+8*n.toNat<=_;omega,I,by show c+4*n.toNat<=2000;omega⟩;clear M hq I hc n0 n1 Y;rintro rec ⟨H,n,z1,z2,w⟩ ⟨q,c,n0,n1,Y,M,hq,I,hc⟩ Z;simp only at n0 n1 Y M hq I hc Z ⊢;simp only[Q114.s1];refine Tot.cnd (λhn=>?_) λ_=>Tot.vl (I.copy (by omega) K R) (Tot.ret ⟨⟨I.mono (by omega),by show H.length<=300;omega⟩,M.up (by omega)⟩)
  have hn:n>0:=of_decide_eq_true hn;rw[aH (n:=n-1) (by omega) (by omega)];refine Tot.bind (Ai h M w (by omega)) λe he=>Tot.fit (Tot.vl (I.copy (by omega) K R) (Tot.bind (do_t K w c I (by omega) e.1.1 R) ?_)) (by omega) (by simp;omega)
  rintro⟨⟨v',ok,⟨⟩⟩,⟨⟩⟩ hv;have X:∀ u:bQ,WI u (c+4)->Tot (rec (H++[e.1.1],n-1,e.2.1.1,e.2.1.2,u)) λr=>(WI r.1.2.1 2000/\r.1.1.length<=300)/\a8 b (m+8*y.toNat+2) r.2.1:=λu hu=>Z _ ⟨q+8,c+4,by show 0<=n-1;omega,by show n-1<y;omega,by show ((H++[e.1.1]).length:Int)+(n-1)<=_;simp;omega,he,by show q+8+8*(n-1).toNat<=_;omega,hu,by show c+4+4*(n-1).toNat<=2000;omega⟩ (by show (n-1).toNat<n.toNat;omega)
  exact Tot.cnd (λ_=>X v' hv) λ_=>X w (I.mono (by omega))
 refine Tot.bind (vO K R) λw0 a0=>Tot.bind (aA h hs 3 (by decide) (by omega)) λv2 ⟨_,s2⟩=>Tot.cnd (λ_=>?_) λ_=>Tot.bind (aA h s2 y h1 (by omega)) λv9 ⟨⟨a9,b9⟩,s9⟩=>O [] v9.1.1 v9.2.1 w0.1.1 (m+2) 8 a9 b9 (by simp) s9 (BT _) a0 (by omega)
 refine Tot.iter (step:=λrec a=>Q114.s0 K (s,y,()) (Q114.l1 K (s,y,())) rec a) (λa=>0<=a.2.1/\a.2.1<=8/\(a.1.length:Int)<=3*a.2.1/\a8 b (m+1) (a.2.2.1,a.2.2.2.1)/\WI a.2.2.2.2 8) (λa=>8-a.2.1.toNat) ?_ K _ (by show 8-BE 0<K;omega) ⟨by show (0:Int)<=0;omega,by show (0:Int)<=8;omega,by show ((0:Nat):Int)<=3*0;omega,s2,a0⟩;rintro rec ⟨H,i,z1,z2,w⟩ ⟨i0,i1,Y,M,I⟩ Z;simp only at i0 i1 Y M I Z ⊢;simp only[Q114.s0];refine Tot.cnd (λhi=>?_) λ_=>?_
 ·have hi:i<=7:=of_decide_eq_true hi;rw[aH (n:=i+1) (by omega) (by omega)];have X:∀ J:List af,(J.length:Int)<=3*(i+1)->Tot (rec (J,i+1,z1,z2,w)) λr=>(WI r.1.2.1 2000/\r.1.1.length<=300)/\a8 b (m+8*y.toNat+2) r.2.1:=λJ a1=>Z _ ⟨by show 0<=i+1;omega,by show i+1<=8;omega,a1,M,I⟩ (by show 8-(i+1).toNat<8-i.toNat;omega)
  exact Tot.cnd (λ_=>Tot.fit (Tot.fit (X _ (by simp;omega)) (by omega) (by simp;omega)) (by omega) (by simp;omega)) λ_=>X H (by omega)
 ·refine Tot.bind (Bd K w 8 H I (by omega) (by omega) R) λv ⟨hv,ev⟩=>Tot.bind (aA h M y h1 (by omega)) λv4 ⟨⟨a4,b4⟩,s4⟩=>?_
  exact O v.2.1 v4.1.1 v4.2.1 v.1.1 (m+1+1) _ a4 b4 (by rw[ev];omega) s4 (by omega) hv (by omega)
theorem Ak (h:fF b)(H:a8 b m s)(y:m<=90000)(z:1048577<K):Tot (Q115.f K (s,())) λr=>WI r.1.1 2000/\a8 b (m+802) r.2.1:=by
 simp only[Q115.f];exact Tot.bind (Aj h H 100 (by decide) (by decide) y z) λv u=>Tot.ret ⟨u.1.1,u.2⟩
structure NS (c:Nat) (n:aa):Prop where
 nb:NB n
 table:(aa.table n).length<=c
 cast:(aa.cast n).length<=c
 doubts:(aa.doubts n).length<=c
 places:(aa.places n).length<=c
 others:(aa.others n).length<=c
theorem eh.ns {i:Nat}{n:aa}(h:eh i n):NS 8 n:=by
 cases y:n.2.1 with
 |true =>
  have r:=h.up y;refine⟨h.nb,by have:=h.short;omega,by have:=clen r.x.say;omega,?_,?_,?_⟩
  ·exact BJ (iP r.x.say.asc r.x.say.inp) (by decide)
  ·exact BJ (iP r.x.places.2 λx u=>(r.x.places.1 x u).1) (by decide)
  ·exact BJ (iP r.x.others.2 λx u=>⟨(r.x.others.1 x u).1.1,CD (r.x.others.1 x u).1.2 (by decide)⟩) (by decide)
 |false =>
  have e:=h.down y;refine⟨h.nb,?_,?_,?_,?_,?_⟩ <;> rw[e] <;> exact BP _
theorem xC (h:fF b)(hs:a8 b m s)(n:aa){c:Nat}(hn:NS c n)(h8:8<=c)(hc:c<=1000)(hm:m<=90000)(hK:1048577<K):Tot (Q124.f K (s,n,())) λr=>NS (c+1) r.1.1/\a8 b (m+60) r.2.1:=by
 simp only[Q124.f,zcp4,zcp8];rw[mK K n hn.nb hK];simp only[BA];obtain⟨⟨n1,Y,n3,R,Z,X,n7,O⟩,l1,l2,l3,l4,l5⟩:=hn;refine Tot.bind (aA h hs 12 (by decide) (by omega)) λv2 ⟨_,I⟩=>?_
 have y:∀ (n':aa) (z:List Int×Int),n'.2.2.2.2.2.2.2.2=n.2.2.2.2.2.2.2.2->a8 b (m+60) z->NS (c+1) n'/\a8 b (m+60) z:=λn' z e hz=>by
  refine⟨⟨⟨?_,?_,?_,?_,?_,?_,?_,?_⟩,?_,?_,?_,?_,?_⟩,hz⟩ <;> simp only[aa.table,aa.cast,aa.doubts,aa.places,aa.others] <;> rw[e] <;> first|assumption|(refine BJ ?_ (B7 c);assumption)
 have u2:a8 b (m+60) v2.2.1:=I.up (by omega);refine Tot.cnd (λ_=>Tot.bind (pX h I (by omega) hK) λt ⟨tl,J⟩=>Tot.ret ⟨⟨⟨by show t.1.1.length<=_;omega,Y,n3,R,Z,X,n7,O⟩,by show t.1.1.length<=_;omega,BB l2,BB l3,BB l4,BB l5⟩,J.up (by omega)⟩) λ_=>?_
 refine Tot.cnd (λ_=>Tot.bind (vQ h I (by omega) hK) λt ⟨tl,J⟩=>Tot.ret ⟨⟨⟨n1,by show t.1.1.length<=_;omega,n3,R,Z,X,n7,O⟩,BB l1,by show t.1.1.length<=_;omega,BB l3,BB l4,BB l5⟩,J.up (by omega)⟩) λ_=>?_
 refine Tot.cnd (λ_=>Tot.ret (y _ _ rfl u2)) λ_=>?_
 refine Tot.cnd (λ_=>Tot.bind (aA h I 9 (by decide) (by omega)) λv5 ⟨_,s5⟩=>Tot.bind (aA h s5 3 (by decide) (by omega)) λv6 ⟨_,s6⟩=>Tot.bind (aA h s6 3 (by decide) (by omega)) λv7 ⟨_,s7⟩=>Tot.bind (aA h s7 2 (by decide) (by omega)) λv8 ⟨_,s8⟩=>Tot.ret ⟨⟨⟨n1,Y,n3,R,Z,X,n7,O⟩,BB l1,BB l2,BB l3,BB l4,BB l5⟩,s8.up (by omega)⟩) λ_=>?_
 refine Tot.cnd (λ_=>Tot.bind (aA h I 8 (by decide) (by omega)) λv9 ⟨_,M⟩=>Tot.bind (aA h M 8 (by decide) (by omega)) λa0 ⟨_,H⟩=>Tot.fit (Tot.ret ⟨⟨⟨n1,Y,?_,?_,Z,X,n7,O⟩,BB l1,BB l2,?_,BB l4,BB l5⟩,H.up (by omega)⟩) (by omega) ?_) λ_=>?_
 ·show (aa.doubts n++[_]).length<=_;simp;omega
 ·intro d u;rcases BM.1 u with u|u
  ·exact R d u
  ·rw[BG.1 u];show ([a0.1.1]:List Int).length<=_;simp
 ·show (aa.doubts n++[_]).length<=_;simp;omega
 ·show (aa.doubts n).length+_<=_;simp;omega
 refine Tot.cnd (λ_=>Tot.bind (mf h I (by omega)) λc J=>Tot.ret ⟨⟨⟨n1,Y,n3,R,Z,X,n7,O⟩,BB l1,BB l2,BB l3,BB l4,BB l5⟩,J.up (by omega)⟩) λ_=>?_
 refine Tot.cnd (λ_=>Tot.bind (aA h I 9 (by decide) (by omega)) λv9 ⟨_,M⟩=>Tot.bind (mf h M (by omega)) λc H=>Tot.bind (aA h H 3 (by decide) (by omega)) λa2 ⟨_,a1⟩=>Tot.fit (Tot.ret ⟨⟨⟨n1,Y,n3,R,?_,?_,n7,O⟩,BB l1,BB l2,BB l3,?_,BB l5⟩,a1.up (by omega)⟩) (by omega) ?_) λ_=>?_
 ·show (aa.places n++[_]).length<=_;simp;omega
 ·intro d u;rcases BM.1 u with u|u
  ·exact X d u
  ·rw[BG.1 u];show ([a2.1.1]:List Int).length<=_;simp
 ·show (aa.places n++[_]).length<=_;simp;omega
 ·show (aa.places n).length+_<=_;simp;omega
 refine Tot.cnd (λ_=>Tot.bind (aA h I 3 (by decide) (by omega)) λv9 ⟨_,M⟩=>Tot.bind (pX h M (by omega) hK) λt ⟨tl,H⟩=>Tot.fit (Tot.ret ⟨⟨⟨n1,Y,n3,R,Z,X,?_,?_⟩,BB l1,BB l2,BB l3,BB l4,?_⟩,H.up (by omega)⟩) (by omega) ?_) λ_=>?_
 ·show (aa.others n++[_]).length<=_;simp;omega
 ·intro d u;rcases BM.1 u with u|u
  ·exact O d u
  ·rw[BG.1 u];show t.1.1.length<=_;omega
 ·show (aa.others n++[_]).length<=_;simp;omega
 ·show (aa.others n).length+_<=_;simp;omega
 refine Tot.cnd (λ_=>Tot.ret (y _ _ rfl u2)) λ_=>Tot.cnd (λ_=>Tot.ret (y _ _ rfl u2)) λ_=>?_
 refine Tot.cnd (λ_=>Tot.bind (aA h I 3 (by decide) (by omega)) λv ⟨⟨a,b⟩,J⟩=>Tot.ix2 a b λ_ _ _=>Tot.ret (y _ _ rfl (J.up (by omega)))) λ_=>?_
 exact Tot.bind (aA h I 8 (by decide) (by omega)) λv9 ⟨_,M⟩=>Tot.bind (aA h M 3 (by decide) (by omega)) λv ⟨⟨a,b⟩,J⟩=>Tot.ix2 a b λ_ _ _=>Tot.ret (y _ _ rfl (J.up (by omega)))
end
section
variable {K:Nat} {b:List Int} {m:Nat} {s:List Int×Int}
end
theorem a8.zero (b:List Int):a8 b 0 (b,0):=⟨0,BT _,rfl⟩
structure xD (code:List Int):Prop where
 byte:∀ y∈code,0<=y/\y<=255
 len:code.length<=9223372036854775807
theorem oo (K:Nat)(xs:List Int)(z:xs.length<=1048576)(y:1048577<K):Q226.f K (xs,xs,())=rb true:=by
 have u:Q226.l0 K (xs,xs,()) 0=rb true:=by
  refine eP (step:=λrec a=>Q226.s0 K (xs,xs,()) rec a) xs.length (λi=>(i:Int)) (rb true) ?_ ?_ (by omega)
  ·intro rec i r;simp only[Q226.s0];rw[decide_eq_true (by omega:(i:Int)<(BD xs:Int)),ag r,ar i (by omega)];simp only[cond_true,BA,bne_self_eq_false,cond_false]
  ·intro rec;simp only[Q226.s0,aQ];rfl
 simp only[Q226.f,Q226.pre,bne_self_eq_false,cond_false];exact u
theorem tk (K:Nat)(xs:List aG)(z:xs.length<=1048576)(y:1048577<K):Q225.f K (xs,xs,())=rb true:=by
 have u:Q225.l0 K (xs,xs,()) 0=rb true:=by
  refine eP (step:=λrec a=>Q225.s0 K (xs,xs,()) rec a) xs.length (λi=>(i:Int)) (rb true) ?_ ?_ (by omega)
  ·intro rec i r;simp only[Q225.s0];rw[decide_eq_true (by omega:(i:Int)<(BD xs:Int)),ag r,ar i (by omega)];simp only[cond_true,BA];rw[show Ty.eqv t3 xs[i] xs[i]=true by
    show (Ty.eqv t2 xs[i].1 xs[i].1&&decide (xs[i].2=xs[i].2))=true;rw[show Ty.eqv t2 xs[i].1 xs[i].1=decide (xs[i].1=xs[i].1) from gq _ _,decide_eq_true rfl,decide_eq_true rfl];rfl]
   rfl
  ·intro rec;simp only[Q225.s0,aQ];rfl
 simp only[Q225.f,Q225.pre,bne_self_eq_false,cond_false];exact u
theorem um (K:Nat)(n:aa)(u:NB n)(y:1048577<K):Q227.f K (n,n,())=rb true:=by
 have J:Q227.l2 K (n,n,()) 0=rb true:=by
  have z:=u.others;refine eP (step:=λrec a=>Q227.s2 K (n,n,()) rec a) (aa.others n).length (λi=>(i:Int)) (rb true) ?_ ?_ (by omega)
  ·intro rec i r;simp only[Q227.s2];rw[bk (by omega:(i:Int)<(BD (aa.others n):Int)),ag r,ar i (by omega)];simp only[cond_true,BA,bne_self_eq_false,cond_false];refine (congrArg (λo=>BC o _) (kk K _ (u.facts _ (BI r)) y)).trans rfl
  ·intro rec;simp only[Q227.s2,aQ];rfl
 have H:Q227.l1 K (n,n,()) 0=rb true:=by
  have z:=u.places;refine eP (step:=λrec a=>Q227.s1 K (n,n,()) (Q227.l2 K (n,n,())) rec a) (aa.places n).length (λi=>(i:Int)) (rb true) ?_ ?_ (by omega)
  ·intro rec i r;simp only[Q227.s1];rw[bk (by omega:(i:Int)<(BD (aa.places n):Int)),ag r,ar i (by omega)];simp only[cond_true,BA,bne_self_eq_false,cond_false];rw[show Ty.eqv t9 (aa.places n)[i].2.1 (aa.places n)[i].2.1=decide ((aa.places n)[i].2.1=(aa.places n)[i].2.1) from pC _ _,decide_eq_true rfl];simp only[BH,cond_false];refine (congrArg (λo=>BC o _) (oo K _ (u.trips _ (BI r)) y)).trans rfl
  ·intro rec;simp only[Q227.s1,aQ];exact J
 have I:Q227.l0 K (n,n,()) 0=rb true:=by
  have z:=u.doubts;refine eP (step:=λrec a=>Q227.s0 K (n,n,()) (Q227.l1 K (n,n,())) rec a) (aa.doubts n).length (λi=>(i:Int)) (rb true) ?_ ?_ (by omega)
  ·intro rec i r;simp only[Q227.s0];rw[bk (by omega:(i:Int)<(BD (aa.doubts n):Int)),ag r,ar i (by omega)];simp only[cond_true,BA,bne_self_eq_false,cond_false];refine (congrArg (λo=>BC o _) (oo K _ (u.by_ _ (BI r)) y)).trans rfl
  ·intro rec;simp only[Q227.s0,aQ];exact H
 simp only[Q227.f,Q227.pre,bne_self_eq_false,cond_false];refine (congrArg (λo=>BC o _) (kk K (aa.table n) u.table y)).trans ?_;simp only[rb,BA,BH,cond_false];refine (congrArg (λo=>BC o _) (tk K (aa.cast n) u.cast y)).trans ?_;simp only[rb,BA,BH,cond_false];rw[show Ty.eqv t2 n.2.2.2.2.2.2.2.2.2.2.1 n.2.2.2.2.2.2.2.2.2.2.1=decide (aa.probe n=aa.probe n) from gq _ _,show Ty.eqv t9 n.2.2.2.2.2.2.2.2.2.2.2.2.1 n.2.2.2.2.2.2.2.2.2.2.2.2.1=decide (aa.coord n=aa.coord n) from pC _ _,decide_eq_true rfl,decide_eq_true rfl];exact I
theorem vR (K:Nat){t:List af}{f:af}(r:az t)(u:f∈t)(y:1048577<K):Q140.f K (t,f.1,())=some ((f,true,()),()):=by
 rcases iB K t f.1 (bX r) y with ⟨h,_⟩|⟨_,⟨g,z,e,h⟩|⟨h,_⟩⟩
 ·exact absurd r h
 ·rw[h,gp r.2 z u e]
 ·exact absurd rfl (h f u)
theorem un (K:Nat)(w:ak)(r:(ak.table w).length<=1048576)(u:1048577<K):Q228.f K (w,w,())=rb true:=by
 simp only[Q228.f,beq_self_eq_true,cond_true];rw[show Ty.eqv t9 w.2.2.2.2.2.2.1 w.2.2.2.2.2.2.1=decide (w.2.2.2.2.2.2.1=w.2.2.2.2.2.2.1) from pC _ _,decide_eq_true rfl];simp only[cond_true];exact (congrArg (λo=>BC o _) (kk K (ak.table w) r u)).trans rfl
theorem tm (K:Nat)(xs:List ak)(H:xs.length<=1048576)(u:∀ w∈xs,(ak.table w).length<=1048576)(y:1048577<K):Q229.f K (xs,xs,())=rb true:=by
 have z:Q229.l0 K (xs,xs,()) 0=rb true:=by
  refine eP (step:=λrec a=>Q229.s0 K (xs,xs,()) rec a) xs.length (λi=>(i:Int)) (rb true) ?_ ?_ (by omega)
  ·intro rec i r;simp only[Q229.s0];rw[bk (by omega:(i:Int)<(BD xs:Int)),ag r,ar i (by omega)];simp only[cond_true,BA];exact (congrArg (λo=>BC o _) (un K _ (u _ (BI r)) y)).trans rfl
  ·intro rec;simp only[Q229.s0,aQ];rfl
 simp only[Q229.f,Q229.pre,bne_self_eq_false,cond_false];exact z
theorem yP {n:aa}(y:UpN n)(M:n.2.2.1=false){t:List af}(H:az t)(I:bR t (aj n.1)){r:Int}(u:InP r 0 7)(z:aj r=aj n.1)(J:r≠n.1):dJ (1,5,r,n.1,0,r,(0,0,0,1500),t)/\gx n (1,5,r,n.1,0,r,(0,0,0,1500),t):=by
 refine⟨⟨show InP 1 1 2 by decide,show InP 5 1 6 by decide,u,y.x.me,show InP 0 0 999999 by decide,u,?_,H,?_⟩,y.up,M,rfl,J,?_⟩
 ·show InP 0 (-100000) 100000/\InP 0 (-100000) 100000/\InP 0 0 100000/\InP 1500 1 1500;decide
 ·rw[if_neg (show ¬ (5:Int)=6 by decide)];show bR t (aj r);rw[z];exact I
 ·rw[if_neg (show ¬ (1:Int)=2 by decide)];exact⟨z,.inl (show (5:Int)≠6 by decide)⟩
theorem xE (K:Nat){n:aa}{t:List af}{r:Int}(h:dJ (1,5,r,n.1,0,r,(0,0,0,1500),t)/\gx n (1,5,r,n.1,0,r,(0,0,0,1500),t)):bY K n (1,5,r,n.1,0,r,(0,0,0,1500),t)=(dr n t r,[]):=by
 unfold bY;rw[if_pos h,if_neg (show ¬ (5:Int)=6 by decide)];rfl
theorem yQ {n:aa}(z:Asc (λg:af=>g.1) (aa.table n)){f:af}{b:Int}(h:∀ g∈aa.table n,g.1=f.1->bo f g)(M:∀ x∈aa.cast n,x.1.1=f.1->bo f x.1):((f,4):aG)∈aa.cast (sayOf n f b):=by
 have H:bN (aa.table n) f=(bu (λg=>g.1) f (aa.table n),true):=by
  rcases kV z f with e|⟨e,_⟩
  ·by_cases r:∃ g∈aa.table n,g.1=f.1
   ·obtain⟨g,u,y⟩:=r;obtain⟨i,J,rfl⟩:=BN u;rw[jb z J y,if_pos (h _ u y)]
   ·exact gu λg u e=>r ⟨g,u,e⟩
  ·exact e
 unfold Go.Proofs.YtadlacffdemoiaaGreatEv.sayOf;rw[H];show ((f,4):aG)∈cU (aa.cast n) f;unfold cU;rw[if_neg (λ⟨x,r,e,I⟩=>I (M x r e))];exact aX.2 (.inl rfl)
section
variable {K:Nat} {b:List Int} {m:Nat} {s:List Int×Int}
theorem yR {v:Int}(r:0<=v)(u:v<8):0<=wr .i64 (Bv v 4)/\wr .i64 (Bv v 4)<=1:=by
 have:aj v=v / 4:=fG ⟨r,by omega⟩;have e:wr .i64 (Bv v 4)=v / 4:=this;rw[e];omega
theorem yS (h:fF b)(hs:a8 b m s)(hm:m<=90000)(O:1048577<K):Tot (Q125.f K (s,())) λr=>(ak.table r.1.1).length<=5/\a8 b (m+100) r.2.1:=by
 simp only[Q125.f];refine Tot.bind (aA h hs 8 (by decide) (by omega)) λZ ⟨⟨a1,b1⟩,s1⟩=>Tot.bind (aA h s1 6 (by decide) (by omega)) λv2 ⟨_,X⟩=>Tot.bind (aA h X 4 (by decide) (by omega)) λv3 ⟨_,s3⟩=>Tot.bind (aA h s3 9 (by decide) (by omega)) λv4 ⟨_,s4⟩=>Tot.bind (aA h s4 3 (by decide) (by omega)) λv5 ⟨⟨a5,R⟩,s5⟩=>Tot.ix2 a5 R λy _ _=>?_
 obtain⟨q0,q1⟩:=yR a1 b1;refine Tot.bind (aA h s5 4 (by decide) (by omega)) λv8 ⟨_,s8⟩=>Tot.bind (ri h s8 (by omega)) λc Y=>Tot.bind (nQ h Y (wr .i64 (Bv Z.1.1 4)) (by omega) q1 (by omega) O) λt ⟨⟨_,_,t3⟩,u⟩=>?_
 refine Tot.cnd (λ_=>?_) λ_=>Tot.ret ⟨t3,u.up (by omega)⟩
 refine Tot.bind (aA h u 2 (by decide) (by omega)) λM ⟨⟨a3,a0⟩,I⟩=>Tot.bind (nQ h I M.1.1 (by omega) (by omega) (by omega) O) λt' ⟨⟨_,_,t4⟩,J⟩=>Tot.bind (aA h J 2 (by decide) (by omega)) λa4 ⟨_,z⟩=>Tot.cnd (λ_=>?_) λ_=>Tot.ret ⟨t4,z.up (by omega)⟩
 exact Tot.bind (aA h z 4 (by decide) (by omega)) λa2 ⟨_,H⟩=>Tot.ret ⟨t4,H.up (by omega)⟩
theorem xF (h:fF b)(J:a8 b m s)(M:m<=89000)(I:1048577<K):Tot (Q126.f K (s,())) λr=>(ak.table r.1.1).length<=6/\a8 b (m+120) r.2.1:=by
 simp only[Q126.f,zcp4];refine Tot.bind (yS h J (by omega) I) λw ⟨O,H⟩=>Tot.bind (aA h H 16 (by decide) (by omega)) λR ⟨_,z⟩=>?_
 have u:(ak.table w.1.1).length<=6:=by omega
 refine Tot.cnd (λ_=>Tot.bind (aA h z 2 (by decide) (by omega)) λv ⟨⟨a,c⟩,y⟩=>Tot.ix2 a c λ_ _ _=>Tot.ret ⟨u,y.up (by omega)⟩) λ_=>?_
 refine Tot.cnd (λ_=>Tot.bind (aA h z 4 (by decide) (by omega)) λv ⟨_,y⟩=>Tot.ret ⟨u,y.up (by omega)⟩) λ_=>?_
 refine Tot.cnd (λ_=>Tot.bind (mf h z (by omega)) λv y=>Tot.ret ⟨u,y.up (by omega)⟩) λ_=>?_
 refine Tot.cnd (λ_=>Tot.bind (mV h z (by omega)) λv y=>Tot.fit (Tot.ret ⟨?_,y.up (by omega)⟩) (by omega) (by show (ak.table w.1.1).length+_<=_;simp;omega)) λ_=>?_
 ·show (ak.table w.1.1++[_]).length<=6;simp;omega
 refine Tot.cnd (λ_=>Tot.bind (aA h z 2 (by decide) (by omega)) λv ⟨⟨a,c⟩,y⟩=>Tot.ix2 a c λ_ _ _=>Tot.ret ⟨u,y.up (by omega)⟩) λ_=>?_
 refine Tot.cnd (λ_=>Tot.bind (aA h z 2 (by decide) (by omega)) λv ⟨⟨a,c⟩,y⟩=>Tot.ix2 a c λ_ _ _=>Tot.ret ⟨u,y.up (by omega)⟩) λ_=>Tot.ret ⟨u,z.up (by omega)⟩
theorem to_t (h:fF b)(hs:a8 b m s)(w:bQ)(n:aa)(hr:fP w.2.1)(hm:m<=80000)(Z:1048577<K):Tot (Q127.f K (s,w,n,())) λr=>(ak.table r.1.1).length<=1048576:=by
 refine Tot.iter (step:=λrec a=>Q127.s0 K (s,w,n,()) rec a) (λa=>∃ i:Nat,i<=3/\a.1=(i:Int)/\a8 b (m+i) a.2) (λa=>3-a.1.toNat) ?_ K _ (by show 3-BE 0<K;omega) ⟨0,by omega,rfl,hs⟩;rintro rec ⟨i',z⟩ ⟨i,hi,e,J⟩ ih;have e:i'=(i:Int):=e;subst e;have J:a8 b (m+i) z:=J;have u:Tot ((Q126.f K (z,())).bind λH=>(Q12.f K (H.2.1,10,())).bind λY=>bif decide (Y.1.1>0) then some ((((H.1.1.1,H.1.1.2.1,H.1.1.2.2.1,n.1,H.1.1.2.2.2.2),()),Y.2.1,()):(ak×Unit)×(List Int×Int)×Unit) else some ((H.1.1,()),Y.2.1,())) λr=>(ak.table r.1.1).length<=1048576 :=
  Tot.bind (xF h J (by omega) Z) λv ⟨hv,I⟩=>Tot.bind (aA h I 10 (by decide) (by omega)) λ_ _=>Tot.cnd (λ_=>Tot.ret (show (ak.table v.1.1).length<=1048576 by omega)) λ_=>Tot.ret (show (ak.table v.1.1).length<=1048576 by omega)
 simp only[Q127.s0];refine Tot.cnd (λh3=>Tot.cnd (λh0=>?_) λ_=>u) λ_=>u
 have h3:(i:Int)<3:=of_decide_eq_true h3;have h0:(w.2.1.length:Int)>0:=of_decide_eq_true h0;rw[ar i (by omega)];refine Tot.bind (aA h J (w.2.1.length:Int) (by omega) (by omega)) λv1 ⟨⟨a1,b1⟩,I⟩=>Tot.ix a1 b1 λy hy _=>?_
 have a0:=(hr.2 y hy).2;have next:∀ X,a8 b (m+(i+1)) X->Tot (rec (((i+1:Nat):Int),X)) λr=>(ak.table r.1.1).length<=1048576:=λX O=>ih _ ⟨i+1,by omega,rfl,O⟩ (by show 3-BE ((i+1:Nat):Int)<3-BE (i:Int);omega)
 refine Tot.bind (ma K y.2.1 (by omega) Z) λv3 R=>Tot.cnd (λM=>?_) λ_=>next _ I
 have hW:=R M;rw[dk K,dk K];simp only[BA];exact Tot.cnd (λ_=>Tot.cnd (λ_=>Tot.ret (show (ak.table v3.1.1).length<=1048576 from bX hW.2.2.2.2.2.2.2.1)) λ_=>next _ I) λ_=>next _ I
end
theorem vS (K:Nat)(u:List Int)(R:xD u)(H:1048577<K):Tot (Q128.f K (u,())) λr=>NS 9 r.1.1/\(ak.table r.1.2.1).length<=1048576:=by
 obtain⟨bs,z,e⟩:=Be (K:=K) u R.byte R.len;simp only[Q128.f];refine Tot.vl e (Tot.bind (Ak z (a8.zero bs) (by omega) H) λw ⟨I,s1⟩=>Tot.bind (aA z s1 _ (by have:=I.len;show (1:Int)<=(w.1.1.1.length:Int);omega) (by omega)) λv3 ⟨⟨a3,b3⟩,s3⟩=>Tot.ix a3 b3 λy hy _=>?_);obtain⟨i,hi,rfl⟩:=BN hy;have M:=(I.node i hi).ns;refine Tot.bind (aA z s3 24 (by decide) (by omega)) λv5 ⟨_,O⟩=>Tot.cnd (λ_=>?_) λ_=>?_
 ·exact Tot.bind (xC z O _ M (BT _) (by omega) (by omega) H) λv6 ⟨J,s6⟩=>Tot.bind (to_t z s6 w.1.1 v6.1.1 I.radio (by omega) H) λv7 h7=>Tot.ret ⟨J,h7⟩
 ·refine Tot.bind (to_t z O w.1.1 _ I.radio (by omega) H) λv8 h8=>Tot.ret ⟨?_,h8⟩
  obtain⟨Y,h2,h3,h4,Z,X⟩:=M;exact⟨Y,BB h2,BB h3,BB h4,BB Z,BB X⟩
theorem Bf {v:Int}(h:InP v 0 7)(d:Int)(y:InP d 1 3):InP (wr .i64 (wr .i64 (wr .i64 (Bv v 4)*4)+BR (wr .i64 (v+d)) 4)) 0 7/\aj (wr .i64 (wr .i64 (wr .i64 (Bv v 4)*4)+BR (wr .i64 (v+d)) 4))=aj v/\wr .i64 (wr .i64 (wr .i64 (Bv v 4)*4)+BR (wr .i64 (v+d)) 4)≠v:=by
 have u:wr .i64 (Bv v 4)=v / 4:=fG h;obtain⟨z,r⟩:=h;obtain⟨H,I⟩:=y;rw[u,aH (n:=v / 4*4) (by omega) (by omega),aH (n:=v+d) (by omega) (by omega),Int.tmod_eq_emod_of_nonneg (by omega),aH (by omega) (by omega)];rw[fG (n:=v / 4*4+(v+d) % 4) ⟨by omega,by omega⟩,fG ⟨z,r⟩];exact⟨⟨by omega,by omega⟩,by omega,by omega⟩
end Go.Proofs.YtadlacffdemoiaaGreatEv
