/- What a node answers, by the specification. -/
import Derived.Test.YtaelpfghkndliaaGreatP2
set_option linter.unusedVariables false
set_option linter.unusedSimpArgs false
open Bool renaming not_true->BH,eq_iff_iff->BQ,not_false->BY,true_and->Bq,false_eq_true->B3,not_eq_true'->B4,and_eq_true->B7,not_eq_true->B8
open Classical renaming not_not->B5
open Iff renaming rfl->CE
open Int renaming toNat->BE,toNat_natCast->BF,eq_ofNat_of_zero_le->BN,toNat_zero->BZ,tmod->Bo,le_refl->Bp,fdiv->Bs,toNat_of_nonneg->By,tmod_lt_of_pos->Bz,le_trans->B6,tmod_nonneg->CB,tdiv->CC
open List renaming length->BD,mem_singleton->BG,getElem_mem->BI,length_set->BK,length_append->BL,mem_append->BM,nil_append->BP,drop_zero->BR,mem_of_mem_take->BT,mem_map->BU,length_take->BV,getElem_of_mem->BW,mem_filter->BX,take_length->Br,length_drop->Bt,length_map->Bu,length_nil->Bv,length_filter_le->Bw,length_cons->B9,not_mem_nil->CA,mem_cons->CD
open Nat renaming le_succ_of_le->BB,le_trans->BJ,zero_le->BO,le_refl->BS,le_succ->Bx
open Option renaming bind_some->BA,bind->BC
namespace Go.Proofs.YtaelpfghkndliaaGreatEv
open Go
theorem qv (K:Nat)(l:List Int)(t:Int)(u:l.length<=1048576):Q47.f K (l,t,())=some ((gW l t,()),()):=by
 simp only[Q47.f];rw[szb _ _ _ (by omega) (by show (BD ([]:List Int))+l.length<=_;simp;omega)];simp only[cond_true,BP];rw[szb _ _ _ (by omega) (by show l.length+[t].length<=_;simp;omega)];simp only[cond_true];have r:(l++[t]).length=l.length+1:=by simp
 show (bif decide (((l++[t]).length:Int)>3) then (bif decide (0<=wr .i64 (((l++[t]).length:Int)-3))&&decide (wr .i64 (((l++[t]).length:Int)-3)<=((l++[t]).length:Int))&&decide (((l++[t]).length:Int)<=((l++[t]).length:Int))&&true then some ((((l++[t]).take (BE ((l++[t]).length:Int))).drop (BE (wr .i64 (((l++[t]).length:Int)-3))),()),()) else none) else some ((l++[t],()),()))=_;by_cases h:l.length+1>3
 ·rw[aJ (by omega) (by omega),decide_eq_true (by omega:((l++[t]).length:Int)>3),decide_eq_true (by omega:(0:Int)<=((l++[t]).length:Int)-3),decide_eq_true (by omega:((l++[t]).length:Int)-3<=((l++[t]).length:Int)),decide_eq_true (Bp _)];simp only[Bool.and_self,cond_true,gW];rw[show BE (((l++[t]).length:Int)-3)=(l++[t]).length-3 by omega,BF,Br]
 ·rw[decide_eq_false (by omega:¬ ((l++[t]).length:Int)>3)];simp only[cond_false,gW];rw[show (l++[t]).length-3=0 by omega,BR]
theorem plen {u:Int}{l:List dI}(h:er u l):l.length<=1048576:=BJ (iM h.2 λx r=>(h.1 x r).1) (by decide)
theorem uj {y:Int}{l:List dI}(h:er y l)(r:Int):(dF l r).length<=3:=by
 unfold dF;cases u:l.find? λp=>p.1==r with
 |none=>simp
 |some p =>
  have:=(h.1 p (List.mem_of_find?_eq_some u)).2.2.2.2.1.2;show p.2.2.length<=3;omega
theorem zY (K:Nat)(l:List dI)(r:Int)(c:dz)(t:Int)(me:Int)(h:er me l)(hK:1048577<K):Q48.f K (l,r,c,t,())=some ((oY l r c t,()),()):=by
 have hl:=plen h;have h3:=uj h r;refine re (step:=λrec a=>Q48.s0 K (l,r,c,t,()) rec a) (λx:dI=>x.1) (r,c,gW (dF l r) t) l h.2 (λu i=>(u,false,(i:Int),[])) (λu i=>(u,true,(i:Int),gW (dF l r) t)) (λo=>some ((o,()),())) ?_ ?_ ?_ ?_ (by omega)
 ·intro rec u i I R z;simp only[Q48.s0];rw[bm (by omega:(i:Int)<(BD l:Int)),af I,ar i (by omega)];simp only[cond_true,BA,BY];have X:=szb u.length 1 64 (by omega) (by omega);have Z:=szb (u++[(r,c,gW (dF l r) t)]).length 1 64 (by omega) (by simp;omega);have O:l[i].1=r->dF l r=l[i].2.2:=λe=>by unfold dF;rw[oT h.2 I e];rfl
  have J:r<l[i].1->dF l r=[]:=λe=>by
   unfold dF;rw[nJ (k:=λp:dI=>p.1)]
   ·rfl
   intro y M;obtain⟨j,hj,rfl⟩:=BW M;by_cases a0:j<i
   ·have:=z l[j] (by rw[List.mem_take_iff_getElem];exact⟨j,by omega,rfl⟩);show l[j].1≠r;have:l[j].1<r:=this;omega
   ·have:l[i].1<=l[j].1:=by
     by_cases e:i=j
     ·subst e;exact Bp _
     ·exact Int.le_of_lt (cC.1 h.2 i j I hj (by omega))
    show l[j].1≠r;omega
  have a1:=(h.1 _ (BI I)).2.2.2.2.1.2;generalize l[i]=y at *;by_cases Y:y.1<r
  ·rw[if_pos Y,show decide (y.1>=r)=false from decide_eq_false (by omega),show (y.1 != r)=true by simp;omega,show (y.1==r)=false by simp;omega];exact (congrArg (λb=>bif b then _ else _) X).trans rfl
  ·rw[if_neg Y,show decide (y.1>=r)=true from decide_eq_true (by omega)];by_cases H:y.1=r
   ·rw[if_pos H,show (y.1 != r)=false by simpa using H,show (y.1==r)=true by simpa using H];simp only[cond_true,cond_false];rw[<- O H];refine (congrArg (λo=>BC o _) (qv K _ t (by omega))).trans ?_;exact (congrArg (λb=>bif b then _ else _) X).trans rfl
   ·rw[if_neg H,show (y.1 != r)=true by simpa using H,show (y.1==r)=false by simpa using H];simp only[cond_true,cond_false];have e:=J (by omega);rw[e]at Z ⊢;refine (congrArg (λo=>BC o _) (qv K [] t (by simp))).trans ?_;refine (congrArg (λb=>bif b then _ else _) X).trans ?_;exact (congrArg (λb=>bif b then _ else _) Z).trans rfl
 ·intro rec u i I R hc;simp only[Q48.s0];rw[bm (by omega:(i:Int)<(BD l:Int)),af I,ar i (by omega)];have hc:r<l[i].1:=hc;simp only[cond_true,BA,BH,cond_false];rw[show (l[i].1 != r)=true by simp;omega,show (l[i].1==r)=false by simp;omega];exact (congrArg (λb=>bif b then _ else _) (szb u.length 1 64 (by omega) (by omega))).trans rfl
 ·intro rec u R z;simp only[Q48.s0,aR,cond_false,BY,cond_true];have e:dF l r=[]:=by
   unfold dF;rw[nJ (k:=λp:dI=>p.1) (λy M=>by have:y.1<r:=z y M;show y.1≠r;omega)];rfl
  rw[e];refine (congrArg (λo=>BC o _) (qv K [] t (by simp))).trans ?_;exact (congrArg (λb=>bif b then _ else _) (szb u.length 1 64 (by omega) (by omega))).trans rfl
 ·intro rec u R;simp only[Q48.s0,aR,cond_false,BH]
def tf (n r u:Int):Int:=if n<r then r else if n>u then u else n
theorem zl (K:Nat)(n y z:Int):Q46.f K (n,y,z,())=some ((tf n y z,()),()):=by
 simp only[Q46.f,tf];by_cases r:n<y
 ·rw[decide_eq_true r,if_pos r];rfl
 ·rw[decide_eq_false r,if_neg r];by_cases u:n>z
  ·rw[decide_eq_true u,if_pos u];rfl
  ·rw[decide_eq_false u,if_neg u];rfl
theorem zZ {n r u:Int}(h:r<=u):InP (tf n r u) r u:=by
 unfold tf;split
 ·exact⟨Bp _,h⟩
 ·split
  ·exact⟨h,Bp _⟩
  ·exact⟨by omega,by omega⟩
def xp (n:aa):Int:=tf ((cg n-(aa.probe n).2.1)*1000+500) 1 60000
noncomputable def qw (K:Nat)(w:aj)(c:dz)(p:dI):dz:=bif p.1==w.2.2.1 then pP K c (aj.coord w) (sa K p.2.2) w.2.2.2.2.1 else c
def km (n:aa)(w:aj):List dI:=oY (aa.places n) w.2.2.1 (aj.coord w) (xp n)
def qx (n:aa)(w:aj):Bool:=!decide ((aa.probe n).1<0)&&(aa.probe n).1==w.2.2.1&&(aa.probe n).2.2.1==w.2.2.2.2.1&&w.2.2.2.2.2.1==w.2.2.1
noncomputable def fa (K:Nat)(n:aa)(w:aj):aa:=bif qx n w then pN n ((km n w).foldl (qw K w) (aa.coord n)) (km n w) else n
theorem uP {K:Nat}{w:aj}{c:dz}{p:dI}(r:cG c)(u:1048577<K):cG (qw K w c p):=by
 unfold qw;cases p.1==w.2.2.1 with
 |false=>exact r
 |true=>exact (xm K c _ _ _ r u).2
theorem tg {n:aa}(h:UpX n)(H:¬ (aa.probe n).1<0):(aa.probe n).1≠n.1/\InP (aa.probe n).1 0 7/\am (aa.probe n).1=am n.1/\InP (aa.probe n).2.1 0 (cg n):=by
 have r:=h.probe;unfold cY at r;rw[if_neg (by omega)]at r;obtain⟨y,⟨f,u,e⟩,z,_⟩:=r;exact⟨y,e ▸ (h.table.1 f u).1,e ▸ h.site f u,z⟩
theorem uQ {n:aa}{w:aj}(h:UpX n)(J:cG (aj.coord w))(y:qx n w=true):er n.1 (km n w):=by
 simp only[qx,B7,B4,decide_eq_false_iff_not,beq_iff_eq]at y;obtain⟨⟨⟨H,I⟩,M⟩,O⟩:=y;obtain⟨u,z,r,_⟩:=tg h H;rw[I]at u z r;exact vL h.places z r u J (zZ (by decide))
theorem ack_s (K:Nat)(n:aa)(w:aj)(h:UpN n)(Z:cG (aj.coord w))(J:1048577<K):Q59.f K (n,w,())=some ((fa K n w,()),()):=by
 simp only[Q59.f,Q59.pre,zc00556];have H:qx n w=(!decide ((aa.probe n).1<0)&&(aa.probe n).1==w.2.2.1&&(aa.probe n).2.2.1==w.2.2.2.2.1&&w.2.2.2.2.2.1==w.2.2.1):=rfl;by_cases r:(aa.probe n).1<0
 ·rw[show decide (n.2.2.2.2.2.2.2.2.2.2.1.1<0)=true from decide_eq_true r];rw[show fa K n w=n by unfold fa;rw[H,decide_eq_true r];rfl];rfl
 ·rw[show decide (n.2.2.2.2.2.2.2.2.2.2.1.1<0)=false from decide_eq_false r];cases u:(aa.probe n).1==w.2.2.1 with
  |false =>
   rw[show fa K n w=n by unfold fa;rw[H,decide_eq_false r,u];rfl];rw[show (n.2.2.2.2.2.2.2.2.2.2.1.1 != w.2.2.1)=true by unfold bne;rw[show (n.2.2.2.2.2.2.2.2.2.2.1.1==w.2.2.1)=false from u];rfl];rfl
  |true =>
   rw[show (n.2.2.2.2.2.2.2.2.2.2.1.1 != w.2.2.1)=false by unfold bne;rw[show (n.2.2.2.2.2.2.2.2.2.2.1.1==w.2.2.1)=true from u];rfl];cases z:(aa.probe n).2.2.1==w.2.2.2.2.1 with
   |false =>
    rw[show fa K n w=n by unfold fa;rw[H,decide_eq_false r,u,z];rfl];rw[show (n.2.2.2.2.2.2.2.2.2.2.1.2.2.1 != w.2.2.2.2.1)=true by unfold bne;rw[show (n.2.2.2.2.2.2.2.2.2.2.1.2.2.1==w.2.2.2.2.1)=false from z];rfl];rfl
   |true =>
    rw[show (n.2.2.2.2.2.2.2.2.2.2.1.2.2.1 != w.2.2.2.2.1)=false by unfold bne;rw[show (n.2.2.2.2.2.2.2.2.2.2.1.2.2.1==w.2.2.2.2.1)=true from z];rfl];cases I:w.2.2.2.2.2.1==w.2.2.1 with
    |false =>
     rw[show fa K n w=n by unfold fa;rw[H,decide_eq_false r,u,z,I];rfl];rw[show (w.2.2.2.2.2.1 != w.2.2.1)=true by unfold bne;rw[I];rfl];rfl
    |true =>
     have O:qx n w=true:=by rw[H,decide_eq_false r,u,z,I];rfl
     rw[show (w.2.2.2.2.2.1 != w.2.2.1)=false by unfold bne;rw[I];rfl];have Y:=(tg h.x r).2.2.2;have hn:=h.now1;have X:=uQ h.x Z O;simp only[cond_false];rw[show wr .i64 (wr .i64 (wr .i64 (n.2.2.2.2.2.1-n.2.2.2.2.2.2.2.2.2.2.1.2.1)*1000)+500)=(cg n-(aa.probe n).2.1)*1000+500 by
      obtain⟨p1,p2⟩:=Y;show wr .i64 (wr .i64 (wr .i64 (cg n-(aa.probe n).2.1)*1000)+500)=_;rw[aJ (n:=cg n-_) (by omega) (by omega),aJ (n:=_*1000) (by omega) (by omega),aJ (by omega) (by omega)]]
     rw[zl];simp only[BA];refine (congrArg (λo=>BC o _) (zY K (aa.places n) w.2.2.1 (aj.coord w) (xp n) n.1 h.x.places J)).trans ?_;simp only[BA];rw[show fa K n w=pN n ((km n w).foldl (qw K w) (aa.coord n)) (km n w) by unfold fa;rw[O];rfl];show Q59.l0 K (n,w,()) (0,(aa.coord n).1,(aa.coord n).2.1,(aa.coord n).2.2.1,(aa.coord n).2.2.2,km n w)=_;have hl:=plen X;refine kA (step:=λrec a=>Q59.s0 K (n,w,()) rec a) (km n w) (qw K w) cG (λc i=>((i:Int),c.1,c.2.1,c.2.2.1,c.2.2.2,km n w)) (λc=>some ((pN n c (km n w),()),())) (aa.coord n) h.x.coord ?_ ?_ (by omega)
     ·intro rec c i R M;refine⟨?_,uP M J⟩;simp only[Q59.s0,zc00556,zcp8];rw[bm (by omega:(i:Int)<(BD (km n w):Int)),BF,af R,ar i (by omega)];simp only[cond_true,BA];have a0:=(X.1 _ (BI R)).2.2.2.2.1.2;generalize (km n w)[i]=y at *;unfold qw;cases y.1==w.2.2.1 with
      |false=>rfl
      |true =>
       simp only[cond_true];refine (congrArg (λo=>BC o _) (med_s K y.2.2 (by omega) J)).trans ?_;refine (congrArg (λo=>BC o _) (xm K c (aj.coord w) (sa K y.2.2) w.2.2.2.2.1 M J).1).trans ?_;rfl
     ·intro rec c M;simp only[Q59.s0,zc00556,zcp8,aR,cond_false];rfl
theorem AP {K:Nat}{n:aa}{w:aj}(h:UpN n)(r:cG (aj.coord w))(z:1048577<K):UpN (fa K n w)/\(fa K n w).1=n.1/\(fa K n w).2.2.1=n.2.2.1:=by
 unfold fa;cases u:qx n w with
 |false=>exact⟨h,rfl,rfl⟩
 |true=>exact⟨h.heard (lX (Inv:=cG) h.x.coord λc p _ y=>uP y z) (uQ h.x r u),rfl,rfl⟩
def gu (n:aa)(w:aj):Prop:=n.2.1=true/\n.2.2.1=false/\w.2.2.2.1=n.1/\w.2.2.1≠n.1 /\
 (if w.1=2 then w.2.1=6/\am w.2.2.1≠am n.1/\(ca (aj.table w) (am n.1)\/ca (aj.table w) (am w.2.2.1)) else am w.2.2.1=am n.1/\(w.2.1≠6\/¬ ca (aj.table w) (am n.1)))
theorem uR (K:Nat)(n:aa)(w:aj)(I:(aj.table w).length<=1048576)(J:1048577<K):Ret (Q28.f K (n,w,())) (gu n w):=by
 refine (Ret.cndN (P:=¬ n.2.1=true) (b:=!n.2.1) (by simp) λ_=>Ret.cndN (P:=n.2.2.1=true) (b:=n.2.2.1) CE λ_=>Ret.cndN (P:=w.2.2.2.1≠n.1) (b:=w.2.2.2.1 != n.1) (by simp) λ_=>Ret.cndN (P:=w.2.2.1=n.1) (b:=w.2.2.1==n.1) (by simp) λ_ =>
  (?_:Ret _ (if w.1=2 then w.2.1=6/\am w.2.2.1≠am n.1/\(ca (aj.table w) (am n.1)\/ca (aj.table w) (am w.2.2.1)) else am w.2.2.1=am n.1/\(w.2.1≠6\/¬ ca (aj.table w) (am n.1))))).iff ?_
 ·refine Ret.vl (dj K n.1) ?_;obtain⟨z,H,y⟩:=eY K (aj.table w) (am n.1) I J;obtain⟨R,O,M⟩:=eY K (aj.table w) (am w.2.2.1) I J;by_cases u:w.1=2
  ·rw[show (w.1==2)=true by simpa using u,if_pos u];refine Ret.cnd (P:=w.2.1=6) (b:=w.2.1==6) (by simp) λ_=>?_
   refine Ret.cnd (P:=am w.2.2.1≠am n.1) (b:=am w.2.2.1 != am n.1) (by simp) λ_=>Ret.vl H ?_
   cases z with
   |true=>exact Ret.yes (.inl (y.1 rfl))
   |false =>
    refine Ret.vl O ?_;exact Ret.of (b:=R) (M.trans ⟨.inr,λh=>h.resolve_left λh=>by have:=y.2 h;cases this⟩)
  ·rw[show (w.1==2)=false by simpa using u,if_neg u];refine Ret.cnd (P:=am w.2.2.1=am n.1) (b:=am w.2.2.1==am n.1) (by simp) λ_=>?_
   by_cases r:w.2.1=6
   ·show Ret (bif w.2.1 != 6 then _ else _) _;rw[show (w.2.1 != 6)=false by simpa using r];refine Ret.vl H (Ret.of (b:=!z) ?_);rw[B4,<- B8,y];exact⟨.inr,λh=>h.resolve_left λh=>h r⟩
   ·show Ret (bif w.2.1 != 6 then _ else _) _;rw[show (w.2.1 != 6)=true by simpa using r];exact Ret.yes (.inl r)
 ·unfold gu;rw[B5,B8,B5]
def nO (u:Int)(n:aa)(to y r:Int)(t:List ag):aj:=(1,u,n.1,to,y,r,aa.coord n,t)
theorem pR (K:Nat)(n:aa)(u to y r:Int)(t:List ag)(z:t.length<=1048576):Q41.f K (n,u,to,y,r,t,())=some ((nO u n to y r t,()),()):=by
 simp only[Q41.f];rw[szb _ _ _ (by omega) (by show (BD ([]:List ag))+t.length<=_;simp;omega)];rfl
def mb (t:List ag)(s:Int):Bool:=t.all λf=>am f.1==s
theorem kG {t:List ag}{s:Int}:mb t s=true<->ca t s:=by simp[mb,ca]
def ci (t:List ag):ag:=(t.head?).getD (0,0,0,false)
def bF (n:aa)(w:aj):List ag:=eW (eF (aa.others n) (am (ci (aj.table w)).1)) (aj.table w)
def vO (n:aa)(w:aj):aj:=(2,6,n.1,w.2.2.1,0,n.1,aa.coord n,bF n w)
def sumN (n:aa)(w:aj):aa:=mT n (bu (λx:bY=>x.1) (am (ci (aj.table w)).1,bF n w) (aa.others n))
def eP (n:aa)(w:aj):aa×List aj:=bif mb (aj.table w) (am n.1) then (dQ n (aj.table w) n.1,[]) else
 (sumN n w,bif w.1==2&&decide (aj.table w≠bF n w) then [vO n w] else [])
theorem pS:∀ {fs t:List ag} {g:ag},g∈eW t fs->g∈t\/g∈fs
 |[],_,_,h=>.inl h
 |f::fs,t,g,h=>by
  rcases pS (fs:=fs) h with h|h
  ·have h:g∈(bR t f).1:=h;rcases gT t f with e|e
   ·rw[e]at h;exact .inl h
   ·rw[e]at h;rcases aY.1 h with rfl|⟨h,_⟩
    ·exact .inr (by simp)
    ·exact .inl h
  ·exact .inr (by simp[h])
theorem pT:∀ {fs t:List ag} {g:ag},g∈t->∃ I∈eW t fs,I.1=g.1
 |[],_,g,h=>⟨g,h,rfl⟩
 |f::fs,t,g,h=>by
  obtain⟨J,r,y⟩:=mN (f:=f) h;obtain⟨z,u,H⟩:=pT (fs:=fs) r;exact⟨z,u,H.trans y⟩
theorem uk {t:List ag}(H:Asc (λg:ag=>g.1) t)(f:ag):∃ g∈(bR t f).1,g.1=f.1:=by
 by_cases h:∃ g∈t,g.1=f.1
 ·obtain⟨g,r,e⟩:=h;obtain⟨z,u,y⟩:=mN (f:=f) r;exact⟨z,u,y.trans e⟩
 ·rw[ij λg r e=>h ⟨g,r,e⟩];exact⟨f,aY.2 (.inl rfl),rfl⟩
theorem kH {n:aa}{w:aj}(h:cZ n.1 (aa.others n))(O:aA (aj.table w))(u:lU (aj.table w)):aA (bF n w)/\bF n w≠[]/\ca (bF n w) (am (ci (aj.table w)).1):=by
 have z:=oZ h (am (ci (aj.table w)).1);refine⟨qX z O.1,?_,?_⟩
 ·unfold bF;cases y:aj.table w with
  |nil=>rw[y]at u;exact u.elim
  |cons f l =>
   obtain⟨g,M,_⟩:=uk (f:=f) (t:=eF (aa.others n) (am (ci (f::l)).1)) (by rw[y]at z;exact z.2);obtain⟨R,I,_⟩:=pT (fs:=l) M;exact List.ne_nil_of_mem I
 ·intro g r;rcases pS r with r|r
  ·rcases qS (l:=aa.others n) (s:=am (ci (aj.table w)).1) with e|⟨x,J,H,e⟩
   ·rw[e]at r;cases r
   ·rw[e]at r;rw[<- H];exact (h.1 x J).2.2.2.2 g r
  ·cases y:aj.table w with
   |nil=>rw[y]at u;exact u.elim
   |cons f l =>
    rw[y]at u r;exact u g r
theorem uS {x:Int}(h:InP x 0 7):InP (am x) 0 1:=by
 rw[jb h];obtain⟨r,u⟩:=h;constructor <;> omega
theorem th {t:List ag}(r:lU t)(u:aA t):InP (ci t).1 0 7:=by
 cases t with
 |nil=>exact r.elim
 |cons f l=>exact (u.1 f (by simp)).1
theorem xq (K:Nat)(n:aa)(w:aj)(h:UpN n)(r:aA (aj.table w))(z:lU (aj.table w))(y:1048577<K):Q42.f K (n,w,())=some (((eP n w).1,(eP n w).2,()),()):=by
 simp only[Q42.f];rw[dj K n.1];simp only[BA];obtain⟨H,I,R⟩:=eY K (aj.table w) (am n.1) (bX r) y;have J:mb (aj.table w) (am n.1)=H:=by rw[BQ,kG,R]
 unfold eP;rw[J];refine (congrArg (λo=>BC o _) I).trans ?_;simp only[rb,BA];cases H with
 |true =>
  simp only[cond_true];refine (congrArg (λo=>BC o _) (uJ K n (aj.table w) n.1 h.learns r.1 (bX r) h.x.me y)).trans rfl
 |false =>
  simp only[cond_false];obtain⟨O,X,Y⟩:=kH (n:=n) h.x.others r z;have u:idx (aj.table w) 0=some (ci (aj.table w)):=by
   cases M:aj.table w with
   |nil=>rw[M]at z;exact z.elim
   |cons f l=>rfl
  refine (congrArg (λo=>BC o _) u).trans ?_;simp only[BA];rw[dj K];simp only[BA];refine (congrArg (λo=>BC o _) (xo K n (am (ci (aj.table w)).1) (aj.table w) h.x.others r y)).trans ?_;simp only[BA];refine (congrArg (λo=>BC o _) (sum_s K n (am (ci (aj.table w)).1) (bF n w) h.x.others y)).trans ?_;simp only[BA];cases w.1==2 with
  |false=>rfl
  |true =>
   simp only[cond_true,Bq];refine (congrArg (λo=>BC o _) (yF K (aj.table w) (bF n w) (bX r) y)).trans ?_;simp only[rb,BA];cases decide (aj.table w≠bF n w) with
   |false=>rfl
   |true =>
    simp only[cond_true];refine (congrArg (λo=>BC o _) (pR K (sumN n w) 6 w.2.2.1 0 n.1 (bF n w) (bX O))).trans rfl
theorem vP {n:aa}{w:aj}(h:UpN n)(z:n.2.2.1=false)(u:aA (aj.table w))(r:lU (aj.table w)):UpN (eP n w).1/\(eP n w).1.1=n.1/\(eP n w).1.2.2.1=false:=by
 unfold eP;cases y:mb (aj.table w) (am n.1) with
 |true=>exact kl h z u (kG.1 y) (fp.me h.x.me)
 |false =>
  obtain⟨M,I,J⟩:=kH (n:=n) h.x.others u r;refine⟨h.setOthers (vK h.x.others (uS (th r u)) (λe=>?_) I M J),rfl,z⟩;have:ca (aj.table w) (am n.1):=by
   cases H:aj.table w with
   |nil=>rw[H]at r;exact r.elim
   |cons f l=>rw[H]at r e;rw[<- e];exact r
  rw[kG.2 this]at y;cases y
noncomputable def e9 (K:Nat)(n:aa)(w:aj):aa×List aj :=
 bif w.2.1==1 then (bif am w.2.2.2.2.2.1 != am n.1 then (n,[]) else bif w.2.2.2.2.2.1==n.1 then (n,[]) else (iP n,[nO 2 (iP n) w.2.2.2.2.2.1 w.2.2.2.2.1 n.1 (gV n w.2.2.2.2.2.1)]))
 else bif w.2.1==3 then (bif am w.2.2.2.2.2.1 != am n.1 then (n,[]) else bif w.2.2.2.2.2.1==n.1 then (n,[]) else bif w.2.2.2.2.2.1==w.2.2.1 then (n,[]) else (iP n,[nO 1 (iP n) w.2.2.2.2.2.1 w.2.2.2.2.1 w.2.2.1 (gV n w.2.2.2.2.2.1)]))
 else bif w.2.1==4 then (n,[nO 5 n w.2.2.1 0 n.1 (aa.table n)]) else bif w.2.1==2 then (fa K n w,[]) else (n,[])
theorem yG (K:Nat)(n:aa)(w:aj)(h:UpN n)(z:cG (aj.coord w))(y:1048577<K):Q60.f K (n,w,())=some (((e9 K n w).1,(e9 K n w).2,()),()):=by
 simp only[Q60.f];rw[dj K n.1];simp only[BA];have r:=uN K n w.2.2.2.2.2.1 h.x.say y;have u:=bX (nM h.x.say w.2.2.2.2.2.1);unfold e9;cases w.2.1==1 with
 |true =>
  simp only[cond_true];rw[dj K];simp only[BA];cases am w.2.2.2.2.2.1 != am n.1 with
  |true=>rfl
  |false =>
   simp only[cond_false];cases w.2.2.2.2.2.1==n.1 with
   |true=>rfl
   |false =>
    simp only[cond_false];refine (congrArg (λo=>BC o _) r).trans ?_;simp only[BA];refine (congrArg (λo=>BC o _) (pR K (iP n) 2 w.2.2.2.2.2.1 w.2.2.2.2.1 n.1 _ u)).trans rfl
 |false =>
  simp only[cond_false];cases w.2.1==3 with
  |true =>
   simp only[cond_true];rw[dj K];simp only[BA];cases am w.2.2.2.2.2.1 != am n.1 with
   |true=>rfl
   |false =>
    simp only[cond_false];cases w.2.2.2.2.2.1==n.1 with
    |true=>rfl
    |false =>
     simp only[cond_false];cases w.2.2.2.2.2.1==w.2.2.1 with
     |true=>rfl
     |false =>
      simp only[cond_false];refine (congrArg (λo=>BC o _) r).trans ?_;simp only[BA];refine (congrArg (λo=>BC o _) (pR K (iP n) 1 w.2.2.2.2.2.1 w.2.2.2.2.1 w.2.2.1 _ u)).trans rfl
  |false =>
   simp only[cond_false];cases w.2.1==4 with
   |true=>exact (congrArg (λo=>BC o _) (pR K n 5 w.2.2.1 0 n.1 (aa.table n) (bX h.x.table))).trans rfl
   |false =>
    simp only[cond_false];cases w.2.1==2 with
    |true=>exact (congrArg (λo=>BC o _) (ack_s K n w h z y)).trans rfl
    |false=>rfl
theorem xt {K:Nat}{n:aa}{w:aj}(h:UpN n)(r:cG (aj.coord w))(u:1048577<K):UpN (e9 K n w).1/\(e9 K n w).1.1=n.1/\(e9 K n w).1.2.2.1=n.2.2.1:=by
 unfold e9;cases w.2.1==1 <;> cases w.2.1==3 <;> cases w.2.1==4 <;> cases w.2.1==2 <;> cases am w.2.2.2.2.2.1 != am n.1 <;> cases w.2.2.2.2.2.1==n.1 <;> cases w.2.2.2.2.2.1==w.2.2.1 <;> first|exact⟨h,rfl,rfl⟩|exact⟨h.way,rfl,rfl⟩|exact AP h r u
open Classical in
noncomputable def bG (K:Nat)(n:aa)(w:aj):aa×List aj :=
 if dJ w/\gu n w then (if w.2.1=6 then eP n w else e9 K (dQ n (aj.table w) w.2.2.1) w) else (n,[])
theorem jV {n:aa}{w:aj}(H:dJ w)(h:gu n w)(y:w.2.1≠6):ca (aj.table w) (am n.1)/\fp n w.2.2.1:=by
 obtain⟨_,_,w3,_,_,_,_,_,u⟩:=H;rw[if_neg y]at u;obtain⟨_,_,_,_,r⟩:=h;by_cases z:w.1=2
 ·rw[if_pos z]at r;exact absurd r.1 y
 ·rw[if_neg z]at r;exact⟨r.1 ▸ u,w3,r.1⟩
theorem xu (K:Nat)(n:aa)(w:aj)(h:n.2.1=true->UpN n)(J:(aj.table w).length<=1048576)(y:1048577<K):Q61.f K (n,w,())=some (((bG K n w).1,(bG K n w).2,()),()):=by
 simp only[Q61.f];obtain⟨b1,Y,R⟩:=lV K w J y;obtain⟨b2,e2,O⟩:=uR K n w J y;rw[Y];cases b1 with
 |false =>
  unfold bG;rw[if_neg λh=>by have:=R.2 h.1;cases this];rfl
 |true =>
  have z:=R.1 rfl;simp only[rb,BA,BH,cond_false];refine (congrArg (λo=>BC o _) e2).trans ?_;cases b2 with
  |false =>
   unfold bG;rw[if_neg λh=>by have:=O.2 h.2;cases this];rfl
  |true =>
   have H:=O.1 rfl;have I:=h H.1;simp only[rb,BA,BH,cond_false];unfold bG;rw[if_pos ⟨z,H⟩];have r:=z.2.2.2.2.2.2.2.1;by_cases u:w.2.1=6
   ·rw[if_pos u,show (w.2.1==6)=true by simpa using u];have X:=z.2.2.2.2.2.2.2.2;rw[if_pos u]at X;exact (congrArg (λo=>BC o _) (xq K n w I r X y)).trans rfl
   ·rw[if_neg u,show (w.2.1==6)=false by simpa using u];obtain⟨hs,M⟩:=jV z H u;have Z:=(kl I H.2.1 r hs M).1;refine (congrArg (λo=>BC o _) (uJ K n (aj.table w) w.2.2.1 I.learns r.1 J M.1 y)).trans ?_;exact (congrArg (λo=>BC o _) (yG K _ w Z z.2.2.2.2.2.2.1 y)).trans rfl
theorem qy {K:Nat}{n:aa}{w:aj}(h:UpN n)(X:1048577<K):UpN (bG K n w).1/\(bG K n w).1.1=n.1/\(bG K n w).1.2.2.1=n.2.2.1:=by
 unfold bG;split
 ·rename_i R;obtain⟨y,r⟩:=R;have u:=y.2.2.2.2.2.2.2.1;split
  ·rename_i H;have J:=y.2.2.2.2.2.2.2.2;rw[if_pos H]at J;rw[r.2.1];exact vP h r.2.1 u J
  ·rename_i H;obtain⟨M,O⟩:=jV y r H;have z:=kl h r.2.1 u M O;have I:=xt (w:=w) z.1 y.2.2.2.2.2.2.1 X;exact⟨I.1,I.2.1.trans z.2.1,I.2.2.trans (z.2.2.trans r.2.1.symm)⟩
 ·exact⟨h,rfl,rfl⟩
theorem mc {K:Nat}{n:aa}{w:aj}(h:UpN n)(hK:1048577<K):(bG K n w).2.length<=1/\∀ x∈(bG K n w).2,InP x.2.2.2.1 0 7/\(aj.table x).length<=1048576:=by
 unfold bG;split
 ·rename_i hc;obtain⟨u,J⟩:=hc;have y:=u.2.2.2.2.2.2.2.1;split
  ·rename_i H;have M:=u.2.2.2.2.2.2.2.2;rw[if_pos H]at M;obtain⟨Y,a2,a3⟩:=kH (n:=n) h.x.others y M;unfold eP;cases mb (aj.table w) (am n.1) with
   |true=>exact⟨by simp,by simp⟩
   |false =>
    simp only[cond_false];cases w.1==2&&decide (aj.table w≠bF n w) with
    |false=>exact⟨by simp,by simp⟩
    |true=>exact⟨by simp,λx r=>by rw[BG.1 r];exact⟨u.2.2.1,bX Y⟩⟩
  ·rename_i H;obtain⟨R,O⟩:=jV u J H;have I:=kl h J.2.1 y R O;have X:=bX (nM I.1.x.say w.2.2.2.2.2.1);have z:=bX I.1.x.table;have w3:=u.2.2.1;have Z:=u.2.2.2.2.2.1;generalize dQ n (aj.table w) w.2.2.1=m at *;unfold e9;cases w.2.1==1 <;> cases w.2.1==3 <;> cases w.2.1==4 <;> cases w.2.1==2 <;> cases am w.2.2.2.2.2.1 != am m.1 <;> cases w.2.2.2.2.2.1==m.1 <;> cases w.2.2.2.2.2.1==w.2.2.1 <;>
    first|exact⟨BS _,λx r=>by rw[BG.1 r];exact⟨Z,X⟩⟩|exact⟨BS _,λx r=>by rw[BG.1 r];exact⟨w3,z⟩⟩|exact⟨BO _,λx r=>nomatch r⟩
 ·exact⟨by simp,by simp⟩
theorem vQ (K:Nat)(n:aa)(w:aj)(X:NB n)(u:(aj.table w).length<=1048576)(r:1048577<K):∃ b,Q229.f K (n,w,())=rb b/\Q104.f K (n,w,())=rb b:=by
 obtain⟨b1,h1,J⟩:=(oS K n X r).same (sD K n X r) CE;simp only[Q229.f,Q104.f];rw[h1,J];cases b1 with
 |false=>exact⟨false,rfl,rfl⟩
 |true =>
  simp only[BA,BH,cond_false];obtain⟨Z,h2,y⟩:=lV K w u r;obtain⟨R,O,M⟩:=yh K w u r;have:Z=R:=by rw[BQ,y,M]
  subst this;rw[h2,O];cases Z with
  |false=>exact⟨false,rfl,rfl⟩
  |true =>
   have Y:=y.1 rfl;simp only[BA,BH,cond_false];obtain⟨b3,h3,H⟩:=(eY K (aj.table w) (am n.1) u r).same (ic K (aj.table w) (am n.1) u r) CE;obtain⟨b4,h4,z⟩:=(eY K (aj.table w) (am w.2.2.1) u r).same (ic K (aj.table w) (am w.2.2.1) u r) CE;obtain⟨b5,h5,I⟩:=pB K n w.2.2.1;have h6:b5=(am w.2.2.1==am n.1):=by
    rw[BQ,I,beq_iff_eq];exact⟨λh=>h.2,λh=>⟨Y.2.2.1,h⟩⟩
   have hp:InP w.1 1 2:=Y.1;simp only[Q28.f,Q103.f];rw[h5,dj K n.1,dj K w.2.2.1,mH K w.2.2.1,nH K n,h6];simp only[BA];rw[h3,h4,z,H];simp only[BA,bne];generalize (am w.2.2.1==am n.1)=c1;generalize (w.2.2.2.1==n.1)=c2;generalize (w.2.2.1==n.1)=c3;generalize (w.2.1==6)=c4;generalize n.2.1=c5;generalize n.2.2.1=c6;rcases (by omega:w.1=1\/w.1=2) with h|h <;> rw[h] <;> cases c1 <;> cases c2 <;> cases c3 <;> cases c4 <;> cases c5 <;> cases c6 <;> cases b3 <;> cases b4 <;> exact⟨_,rfl,rfl⟩
structure kW (n m:aa):Prop where
 ok:cr m
 me:m.1=n.1
 now_:m.2.2.2.2.2.1=n.2.2.2.2.2.1
 seq:m.2.2.2.2.2.2.1=n.2.2.2.2.2.2.1
 turn:m.2.2.2.2.2.2.2.1=n.2.2.2.2.2.2.2.1
 rest:m.2.2.2.2.2.2.2.2.2.2.2.2=n.2.2.2.2.2.2.2.2.2.2.2.2
 by_:∀ d∈aa.doubts m,d.2.2.2.length<=1048576
theorem kW.say {n m:aa}(h:kW n m){f:ag}(b:Int)(u:bk f):kW n (sayOf m f b):=by
 obtain⟨y,_,_,_,_,H,z,I,_,r⟩:=iN m f b;exact⟨ik h.ok u,y.trans h.me,H.trans h.now_,z.trans h.seq,I.trans h.turn,r.trans h.rest,yj h.by_⟩
theorem kW.setP {n m:aa}(h:kW n m)(p:ag):kW n (setP m p):=⟨h.ok.setP p,h.me,h.now_,h.seq,h.turn,h.rest,h.by_⟩
theorem kW.nb {n m:aa}(h:kW n m)(u:NB n):NB m:=by
 have z:aa.places m=aa.places n:=congrArg (λr=>r.2.1) h.rest;have y:aa.others m=aa.others n:=congrArg (λr=>r.2.2) h.rest;exact⟨h.ok.lt,h.ok.lc,h.ok.ld,h.by_,by rw[z];exact u.places,by rw[z];exact u.trips,by rw[y];exact u.others,by rw[y];exact u.facts⟩
theorem kW.far {n m:aa}(h:kW n m)(u:nN n):nN m:=by
 have y:aa.others m=aa.others n:=congrArg (λr=>r.2.2) h.rest;exact⟨by rw[y];exact u.short,by rw[y];exact u.table⟩
theorem ul {n:aa}(h:∀ k,k<8->¬ gZ n k):iQ n=none:=by
 unfold iQ;rw[List.find?_eq_none];intro x r;obtain⟨k,u,rfl⟩:=BU.1 r;have:=h k (by simpa using u);unfold gZ at this;simpa using this
theorem um {n:aa}{k:Nat}(y:k<8)(r:gZ n k)(h:∀ j,j<k->¬ gZ n j):iQ n=some (cH n k):=by
 unfold iQ;rw[List.find?_map,List.find?_range_eq_some.2 ⟨?_,by simpa using y,λj u=>?_⟩]
 ·rfl
 ·unfold gZ at r;simpa using r
 ·have:=h j u;unfold gZ at this;simpa[Classical.or_iff_not_imp_left]using this
theorem uT (K:Nat)(n:aa)(h:cr n)(M:sY n)(J:1048577<K):Q192.f K (n,())=some (((dR n).1,(dR n).2,()),()):=by
 obtain⟨⟨Y,Z⟩,⟨t0,t1⟩⟩:=M;obtain⟨to,O,u⟩:=zQ K n h t0 t1 J;simp only[Q192.f,zcp4];rw[O];simp only[BA,dR];by_cases r:jG n>=999999
 ·rw[decide_eq_true r,show decide (n.2.2.2.2.2.2.1>=999999)=true from decide_eq_true r];cases decide (to<0) <;> rfl
 ·rw[decide_eq_false r,show decide (n.2.2.2.2.2.2.1>=999999)=false from decide_eq_false r];simp only[cond_false];rcases u with ⟨rfl,z⟩|⟨k,R,y,H,rfl⟩
  ·rw[ul z];rfl
  ·rw[um R y H];have X:0<=cH n k/\cH n k<8:=⟨CB _ (by omega),Bz _ (by omega)⟩;rw[decide_eq_false (by omega:¬ cH n k<0)];simp only[cond_false];rw[uN K n _ h J];simp only[BA];have I:wr .i64 (jG n+1)=jG n+1:=aJ (by omega) (by omega);rw[show wr .i64 ((iP n).2.2.2.2.2.2.1+1)=n.2.2.2.2.2.2.1+1 from I,aJ (n:=cH n k+1) (by omega) (by omega)];simp only[Q41.f];rw[szb _ _ _ (by omega) (by have:=bX (nM h (cH n k));simp;omega)];rfl
def hH (w:aj):Prop:=InP w.2.2.2.1 0 7/\(aj.table w).length<=1048576
theorem tj {n:aa}(H:aA (aa.table n)):(dk n).2.length<=2/\∀ w∈(dk n).2,hH w:=by
 have r:([]:List aj).length<=2/\∀ w∈([]:List aj),hH w:=⟨by simp,by simp⟩;unfold dk;cases (aa.probe n).1==-1 with
 |true=>exact r
 |false =>
  cases !ez (aP (aa.table n) (aa.probe n).1) with
  |true=>exact r
  |false =>
   cases decide (n.2.2.2.2.2.1-(aa.probe n).2.1>=4) with
   |true=>exact r
   |false =>
    cases decide (n.2.2.2.2.2.1-(aa.probe n).2.1>=2) with
    |false=>exact r
    |true =>
     cases !(aa.probe n).2.2.2 with
     |false=>exact r
     |true =>
      simp only[cond_true,cond_false];refine⟨by rw[Bu];exact List.length_take_le _ _,λw z=>?_⟩;obtain⟨to,u,rfl⟩:=BU.1 z;obtain⟨f,y,rfl⟩:=BU.1 (BT u);exact⟨(H.1 f (BX.1 y).1).1,BO _⟩
theorem zm {n:aa}(h:cr n):(dR n).2.length<=1/\∀ w∈(dR n).2,hH w:=by
 have r:([]:List aj).length<=1/\∀ w∈([]:List aj),hH w:=⟨by simp,by simp⟩;unfold dR;cases decide (jG n>=999999) with
 |true=>exact r
 |false =>
  simp only[cond_false];cases H:iQ n with
  |none=>exact r
  |some to =>
   refine⟨by simp,λw z=>?_⟩;rw[BG.1 z];obtain⟨y,u,I⟩:=ek h.table (gU (q8 H).2);exact⟨u ▸ y.1,bX (nM h to)⟩
theorem AQ {n:aa}(H:cZ n.1 (aa.others n)){s d:Int}(I:InP s 0 1):InP (l7 n s d) 0 7:=by
 unfold l7;cases y:decide (fF (eF (aa.others n) s)≠[])&&bA .i64 d 4==0 with
 |true =>
  rw[B7,decide_eq_true_eq]at y;have:=(ip (d:=Bs d (2 ^ 3)) y.1).2.2;unfold fF at this;obtain⟨f,z,e⟩:=BU.1 (BT this);simp only[cond_true];show InP (gK (fF (eF (aa.others n) s)) (Bs d (2 ^ 3))) 0 7;unfold fF;rw[<- e];exact ((oZ H s).1 f (BX.1 z).1).1
 |false =>
  obtain⟨r,u⟩:=lx (a:=Bs d (2 ^ 3)) (m:=3) (by omega);have r:0<=bA .i64 (Bs d (2 ^ 3)) 3:=r;have u:bA .i64 (Bs d (2 ^ 3)) 3<=3:=u;obtain⟨J,M⟩:=I;simp only[cond_false];exact⟨by omega,by omega⟩
theorem uU {n:aa}(I:aA (aa.table n))(J:cZ n.1 (aa.others n))(r:Int):(j9 n r).length<=2/\∀ w∈j9 n r,hH w:=by
 have u:([]:List aj).length<=2/\∀ w∈([]:List aj),hH w:=⟨by simp,by simp⟩;unfold j9;cases bA .i64 r 3==1 with
 |true =>
  simp only[cond_true,l8];cases ly n with
  |false=>exact u
  |true =>
   refine⟨?_,λw H=>?_⟩
   ·show ((([0,1]:List Int).filter (λs=>s != am n.1)).map _).length<=2;rw[Bu];exact Bw _ _
   ·obtain⟨s,O,rfl⟩:=BU.1 H;refine⟨AQ J ?_,bX I⟩;have:=(BX.1 O).1;simp at this;rcases this with rfl|rfl <;> exact⟨by decide,by decide⟩
 |false =>
  simp only[cond_false];by_cases y:fm n=[]
  ·rw[decide_eq_true y,Bool.or_true];exact u
  ·rw[decide_eq_false y,Bool.or_false];obtain⟨f,M,e⟩:=BU.1 (ip (d:=Bs r (2 ^ 2)) y).2.2;have z:InP (gK (fm n) (Bs r (2 ^ 2))) 0 7:=by
    rw[<- e];exact (I.1 f (BX.1 M).1).1
   cases bA .i64 r 3==3 with
   |true=>exact u
   |false =>
    simp only[cond_false];cases bA .i64 r 3==0 with
    |true=>exact⟨by simp,λw H=>by rw[BG.1 H];exact⟨z,bX I⟩⟩
    |false =>
     simp only[cond_false,sX]
     match R:aa.others n with
     |[]=>exact u
     |x::_=>exact⟨by simp,λw H=>by rw[BG.1 H];exact⟨z,bX (J.1 x (by rw[R];simp)).2.2.2.1⟩⟩
theorem UpX.far {n:aa}(h:UpX n):nN n:=⟨by rcases sU h.me h.others with e|⟨x,e⟩ <;> rw[e] <;> simp,λx r=>⟨(h.others.1 x r).2.2.2.1,bX (h.others.1 x r).2.2.2.1⟩⟩
theorem rg {n:aa}(h:UpX n)(J:cg n<=1000000):((aa.probe n).1=-1\/0<=(aa.probe n).1)/\0<=(aa.probe n).2.1/\(aa.probe n).2.1<=1000000:=by
 have r:=h.probe;have z:cg n=n.2.2.2.2.2.1:=rfl;unfold cY at r;split at r
 ·rename_i H;rw[r];exact⟨.inl rfl,by show (0:Int)<=0;omega,by show (0:Int)<=1000000;omega⟩
 ·obtain⟨_,⟨f,u,e⟩,⟨y,I⟩,_⟩:=r;have:=(h.table.1 f u).1.1;exact⟨.inr (e ▸ this),y,by omega⟩
theorem AR {n:aa}(h:UpN n)(y:cg n<999999)(r:Int):(pL n r).length<=5/\∀ w∈pL n r,hH w:=by
 have R:=(mR h.x.later (show da (d6 n) from h.self)).1.table;obtain⟨z,O⟩:=tj R;obtain⟨I,_,_⟩:=pM h y;have H:=(qt h y).1;obtain⟨X,J⟩:=uU H.x.table H.x.others r;have M:(fq (ft n).1).2.length<=1/\∀ w∈(fq (ft n).1).2,hH w:=by
  unfold fq;cases (aa.probe (ft n).1).1==-1 with
  |true=>exact zm I.x.say
  |false=>exact⟨by simp,by simp⟩
 unfold pL;have z:(ft n).2.length<=2:=z;refine⟨by rw[BL,BL];omega,λw u=>?_⟩;rcases BM.1 u with u|u
 ·rcases BM.1 u with u|u
  ·exact O w u
  ·exact M.2 w u
 ·exact J w u
theorem AS (K:Nat)(n:aa)(H:Int)(h:UpN n)(hg:n.2.2.1=false)(hm:cg n<999999)(Y:1048577<K):Q199.f K (n,H,())=some ((kE n,pL n H,()),()):=by
 have a3:=h.x.now0;simp only[Q199.f,zcp4];refine (congrArg (λb=>bif !b then _ else _) h.up).trans ?_;refine (congrArg (λb=>bif b then _ else _) hg).trans ?_;refine (congrArg (λb=>bif b then _ else _) (decide_eq_false (show ¬ n.2.2.2.2.2.1>=999999 by have:cg n=n.2.2.2.2.2.1:=rfl;omega))).trans ?_;simp only[cond_false];rw[show wr .i64 (n.2.2.2.2.2.1+1)=n.2.2.2.2.2.1+1 from aJ (by have:cg n=n.2.2.2.2.2.1:=rfl;omega) (by have:cg n=n.2.2.2.2.2.1:=rfl;omega)];have hl:UpX (d6 n):=h.x.later;have a2:∀ d∈aa.doubts (d6 n),0<=d.2.2.1/\d.2.2.1<=(d6 n).2.2.2.2.2.1/\d.2.2.2.length<=1048576:=λd hd=>by
  obtain⟨_,⟨s0,s1⟩,_,h4⟩:=hl.doubts.1 d hd;exact⟨s0,s1,BJ (iM (k:=λx=>x) h4.2 λx hx=>(h4.1 x hx).1) (by decide)⟩
 have Z:∀ d∈aa.doubts (d6 n),∃ f∈aa.table (d6 n),f.1=d.1:=λd hd=>by
  obtain⟨⟨f,hf,e,_⟩,_⟩:=hl.doubts.1 d hd;exact⟨f,hf,e⟩
 have X:(d6 n).2.2.2.2.2.1<=1000000:=by show cg n+1<=1000000;omega
 refine (congrArg (λo=>BC o _) (AB K (d6 n) ⟨hl.say,Z,rfl⟩ a2 X Y)).trans ?_;simp only[BA];obtain⟨b1,b2,t,c,ds,eb⟩:=mR hl (show da (d6 n) from h.self);have z:sY (ft n).1:=(pM h hm).1.seq;have a1:cg (kk (d6 n))=cg n+1:=by rw[eb];rfl
 have hp:=rg b1 (by omega);obtain⟨a0,_⟩:=tj b1.table;have R:=(qt h hm).1;have r:=AK K (kE n) H R.x.far R.x.table (bX R.x.table) Y;have u:=(pM h hm).1;obtain⟨J,_⟩:=zm u.x.say;obtain⟨y,_⟩:=uU R.x.table R.x.others H;unfold kE fq ft at r R y;unfold ft at z u J;unfold pL kE fq ft;generalize kk (d6 n)=m at *;rcases hp.1 with O|O
 ·have e0:dk m=(m,[]):=by unfold dk;rw[show ((aa.probe m).1==-1)=true by simpa using O];rfl
  rw[e0]at r z u J y ⊢;refine (congrArg (λb=>bif b then _ else _) (decide_eq_false (show ¬ m.2.2.2.2.2.2.2.2.2.2.1.1>=0 by have:(aa.probe m).1=m.2.2.2.2.2.2.2.2.2.2.1.1:=rfl;omega))).trans ?_;refine (congrArg (λb=>bif b then _ else _) (decide_eq_true (show m.2.2.2.2.2.2.2.2.2.2.1.1<0 by have:(aa.probe m).1=m.2.2.2.2.2.2.2.2.2.2.1.1:=rfl;omega))).trans ?_;refine (congrArg (λo=>BC o _) (uT K m u.x.say z Y)).trans ?_;simp only[BA];rw[show ((aa.probe m).1==-1)=true by simpa using O]at r y ⊢;simp only[cond_true]at r y J ⊢;rw[szw _ _ _ (by omega) (by simp;omega)];simp only[cond_true];refine (congrArg (λo=>BC o _) r).trans ?_;simp only[BA];rw[szw _ _ _ (by omega) (by simp;omega)];rfl
 ·refine (congrArg (λb=>bif b then _ else _) (decide_eq_true (show m.2.2.2.2.2.2.2.2.2.2.1.1>=0 from O))).trans ?_;refine (congrArg (λo=>BC o _) (AC K m b1.say (by omega) hp.2.1 hp.2.2 b1.now0 (by have:cg m=m.2.2.2.2.2.1:=rfl;omega) Y)).trans ?_;simp only[BA];generalize dk m=fo at *;obtain⟨I,ws⟩:=fo;simp only at r z u J y a0 ⊢;have M:=(rg u.x (by have:=u.now1;omega)).1;rcases M with M|M
  ·refine (congrArg (λb=>bif b then _ else _) (decide_eq_true (show I.2.2.2.2.2.2.2.2.2.2.1.1<0 by have:(aa.probe I).1=I.2.2.2.2.2.2.2.2.2.2.1.1:=rfl;omega))).trans ?_;refine (congrArg (λo=>BC o _) (uT K I u.x.say z Y)).trans ?_;simp only[BA];rw[show ((aa.probe I).1==-1)=true by simpa using M]at r y ⊢;simp only[cond_true]at r y ⊢;rw[szw _ _ _ (by omega) (by omega)];simp only[cond_true];refine (congrArg (λo=>BC o _) r).trans ?_;simp only[BA];rw[szw _ _ _ (by omega) (by rw[BL];omega)];rfl
  ·refine (congrArg (λb=>bif b then _ else _) (decide_eq_false (show ¬ I.2.2.2.2.2.2.2.2.2.2.1.1<0 by have:(aa.probe I).1=I.2.2.2.2.2.2.2.2.2.2.1.1:=rfl;omega))).trans ?_;rw[show ((aa.probe I).1==-1)=false by simp;omega]at r y ⊢;simp only[cond_false]at r y ⊢;refine (congrArg (λo=>BC o _) r).trans ?_;simp only[BA,List.append_nil];rw[szw _ _ _ (by omega) (by omega)];rfl
theorem tk (K:Nat)(l:List ag)(f:ag)(J:l.length<=1048576)(M:1048577<K):Ret (Q176.f K (l,f,())) (f∈l):=by
 have:=cq (step:=λrec a=>Q176.s0 K (l,f,()) rec a) l.length (λi=>(i:Int)) (λj=>∃ h:j<l.length,l[j]=f) (rb false) (λ_=>rb true) ?_ ?_ l.length K 0 (by omega) (by omega)
 ·rcases this with ⟨I,u⟩|⟨j,_,_,⟨y,H⟩,_,u⟩
  ·refine⟨false,u,?_⟩;refine⟨λh=>absurd h (by decide),λz=>?_⟩;obtain⟨i,r,e⟩:=BW z;exact absurd ⟨r,e⟩ (I i (BO _) r)
  ·exact⟨true,u,λ_=>H ▸ BI y,λ_=>rfl⟩
 ·intro rec i r;simp only[Q176.s0];rw[bm (by omega:(i:Int)<(BD l:Int)),af r,ar i (by omega)];simp only[cond_true,BA];rw[gS];by_cases h:l[i]=f
  ·rw[decide_eq_true h];exact .inr ⟨⟨r,h⟩,rfl⟩
  ·rw[decide_eq_false h];exact .inl ⟨λ⟨_,u⟩=>h u,rfl⟩
 ·intro rec;simp only[Q176.s0,aR];rfl
theorem UpN.nb {n:aa}(h:UpN n):NB n where
 table:=bX h.x.table
 cast:=by have:=clen h.x.say;omega
 doubts:=h.x.say.ld
 by_:=λd y=>by have:=(h.learns.by_ d y).len;omega
 places:=plen h.x.places
 trips:=λp u=>by have:=(h.x.places.1 p u).2.2.2.2.1.2;omega
 others:=olen h.x.others
 facts:=λx r=>bX (h.x.others.1 x r).2.2.2.1
def jm (r:Int)(g:Bool):aa:=(r,false,false,g,0,0,0,0,[],[],(0,0,0,false),[],(0,0,0,0),[],[])
structure eh (i:Nat) (n:aa):Prop where
 me:n.1=(i:Int)
 lt:i<8
 up:n.2.1=true->UpN n
 down:n.2.1=false->n=jm n.1 n.2.2.2.1
theorem eh.nb {i:Nat}{n:aa}(h:eh i n):NB n:=by
 cases r:n.2.1 with
 |true=>exact (h.up r).nb
 |false =>
  rw[h.down r];exact⟨by simp[jm,aa.table],by simp[jm,aa.cast],by simp[jm,aa.doubts],by simp[jm,aa.doubts],by simp[jm,aa.places],by simp[jm,aa.places],by simp[jm,aa.others],by simp[jm,aa.others]⟩
theorem eh.short {i:Nat}{n:aa}(h:eh i n):(aa.table n).length<=4:=by
 cases r:n.2.1 with
 |true=>exact uh (h.up r).x.table (h.up r).x.site
 |false=>rw[h.down r];exact BO _
theorem eh.of {i:Nat}{n m:aa}(h:eh i n)(r:UpN m)(e:m.1=n.1):eh i m:=⟨e.trans h.me,h.lt,λ_=>r,λu=>by rw[r.up]at u;cases u⟩
def fP (l:List lw):Prop:=l.length<=60/\∀ f∈l,InP f.1 0 7/\f.2.1.size<=2000
structure WI (w:bQ) (c:Nat):Prop where
 len:w.1.length=8
 node:∀ (i:Nat) (h:i<w.1.length),eh i w.1[i]
 radio:fP w.2.1
 sides:w.2.2.1.length=8
 born:w.2.2.2.length<=c
theorem WI.mono {w:bQ}{c d:Nat}(h:WI w c)(r:c<=d):WI w d:=⟨h.len,h.node,h.radio,h.sides,BJ h.born r⟩
theorem WI.put {w:bQ}{c:Nat}(h:WI w c){i:Nat}{n:aa}(z:eh i n){rd:List lw}(r:fP rd){b:List ag}{d:Nat}(y:b.length<=d):WI (w.1.set i n,rd,w.2.2.1,b) d:=by
 refine⟨by rw[BK];exact h.len,λj u=>?_,r,h.sides,y⟩;show eh j ((w.1.set i n)[j]'u);rw[List.getElem_set];split
 ·rename_i e;exact e ▸ z
 ·exact h.node j _
theorem xv (K:Nat)(w:bQ)(R:Int)(u:List aj)(hs:w.2.2.1.length=8)(z:InP R 0 7)(Y:∀ x∈u,hH x)(hr:fP w.2.1)(hl:u.length<=1000)(hK:1048577<K) :
  Tot (Q173.f K (w,R,u,())) λr=>∃ rd,fP rd/\r.1.1=(w.1,rd,w.2.2):=by
 simp only[Q173.f,Q173.pre];obtain⟨f0,f1⟩:=z;refine Tot.iter (step:=λrec a=>Q173.s0 K (w,R,u,()) rec a) (λa=>0<=a.1/\a.1<=u.length/\fP a.2) (λa=>u.length-a.1.toNat) ?_ K _ (by show u.length-BE 0<K;omega) ⟨by show (0:Int)<=0;omega,by show (0:Int)<=_;omega,hr⟩;rintro rec ⟨i,rd⟩ ⟨I,h1,H⟩ ih;simp only at I h1 H ih ⊢;simp only[Q173.s0];refine Tot.cnd (λh=>?_) λ_=>Tot.ret ⟨rd,H,rfl⟩
 have h:=of_decide_eq_true h;rw[aJ (n:=i+1) (by omega) (by omega)];have J:∀ y,fP y->Tot (rec (i+1,y)) λr=>∃ rd,fP rd/\r.1.1=(w.1,rd,w.2.2):=λy M=>ih _ ⟨by show 0<=i+1;omega,by show i+1<=_;omega,M⟩ (by show u.length-BE (i+1)<u.length-BE i;omega)
 refine Tot.cnd (λh3=>?_) λ_=>J rd H
 have h3:=of_decide_eq_true h3;refine Tot.ix f0 (by omega) λ_ _ _=>Tot.ix I h λy2 X _=>?_
 obtain⟨⟨t0,t1⟩,_⟩:=Y y2 X;refine Tot.ix t0 (by omega) λ_ _ _=>Tot.cnd (λ_=>Tot.fit (Tot.ix I h λy4 Z _=>Tot.ix I h λy5 O _=>Tot.bind (oj K y5 (Y y5 O).2 hK) λv hv=>Tot.fit (J _ ⟨?_,λf z=>?_⟩) (by omega) ?_) (by omega) ?_) λ_=>J rd H
 ·simp;omega
 ·rcases BM.1 z with z|z
  ·exact H.2 f (by simpa using z)
  ·rw[BG.1 z];exact⟨(Y y4 Z).1,by show v.1.1.size<=2000;have:=hv.1;omega⟩
 ·simp;omega
 ·simp;omega
theorem Tot.ins {α:Type}{l:List α}{x:α}{a:Int}{c:Nat}{Q:(List α×Unit)×Unit->Prop}(u:0<=a)(y:a<=l.length)(z:l.length<=1048576)(H:c<=64)(k:∀ r:List α,r.length=l.length+1->Q ((r,()),())) :
  Tot (bif decide ((0:Int)<=0)&&decide (0<=a)&&decide (a<=(BD l:Int))&&true then (bif decide ((BD ([]:List α)+BD ((l.take (BE a)).drop (BE 0)))*c<=an) then (bif decide ((BD ([]++((l.take (BE a)).drop (BE 0)))+BD ([x]))*c<=an) then (bif decide (0<=a)&&decide (a<=(BD l:Int))&&decide ((BD l:Int)<=(BD l:Int))&&true then (bif decide ((BD (([]++((l.take (BE a)).drop (BE 0)))++([x]))+BD ((l.take (BE (BD l:Int))).drop (BE a)))*c<=an) then (some (((([]++((l.take (BE a)).drop (BE 0)))++([x]))++((l.take (BE (BD l:Int))).drop (BE a)),()),())) else none) else none) else none) else none) else none) Q:=by
 obtain⟨m,rfl⟩:=BN u;refine Tot.must (by simp;omega) (Tot.fit (Tot.fit (Tot.must (by simp;omega) (Tot.fit (Tot.ret (k _ ?_)) (by omega) ?_)) (by omega) ?_) (by omega) ?_) <;>
 simp only[BF,BZ,BR,BP,BL,BV,Bt,B9,Bv] <;> omega
theorem yH (K:Nat)(f g:ag):Tot (Q174.f K (f,g,())) λ_=>True:=by
 simp only[Q174.f];exact Tot.cnd (λ_=>Tot.ret trivial) λ_=>Tot.bind (sC K g f).tot λ_ _=>Tot.ret trivial
theorem xw (K:Nat)(l:List ag)(f:ag)(I:l.length<=1048576)(R:1048577<K):Tot (Q175.f K (l,f,())) λr=>r.1.1.length<=l.length+1:=by
 simp only[Q175.f,Q175.pre];refine Tot.iter (A:=Int) (step:=λrec a=>Q175.s0 K (l,f,()) rec a) (λa=>0<=a/\a<=l.length) (λa=>l.length-a.toNat) ?_ K _ (by show l.length-BE 0<K;omega) ⟨by show (0:Int)<=0;omega,by show (0:Int)<=_;omega⟩;rintro rec i ⟨H,z⟩ J;simp only[Q175.s0];have u:=λ (z:i<=l.length)=>Tot.ins (x:=f) (c:=32) (Q:=λr=>r.1.1.length<=l.length+1) H z I (by omega) λr O=>by show r.length<=_;omega
 have y:l.length<=l.length+1:=Bx _;refine Tot.cnd (λh=>?_) λ_=>Tot.cnd (λh=>Tot.ix H (of_decide_eq_true h) λ_ _ _=>Tot.cnd (λ_=>Tot.ret y) λ_=>u z) λ_=>u z
 have h:i<(l.length:Int):=of_decide_eq_true h;rw[aJ (n:=i+1) (by omega) (by omega)];refine Tot.ix H h λM _ _=>Tot.bind (yH K M f) λ_ _=>Tot.cnd (λ_=>J (i+1) ⟨by show 0<=i+1;omega,by show i+1<=(l.length:Int);omega⟩ (by show l.length-BE (i+1)<l.length-BE i;omega)) λ_=>Tot.cnd (λ_=>Tot.ix H h λ_ _ _=>Tot.cnd (λ_=>Tot.ret y) λ_=>u z) λ_=>u z
theorem zn (K:Nat)(w:bQ)(z y u:List ag)(h1:z.length<=1048576)(Z:y.length<=1048576)(h3:u.length<=100)(hb:w.2.2.2.length<=1000000)(M:1048577<K) :
  Tot (Q177.f K (w,z,y,u,())) λr=>∃ b,b.length<=w.2.2.2.length+u.length/\r.1.1=(w.1,w.2.1,w.2.2.1,b):=by
 simp only[Q177.f,Q177.pre];refine Tot.iter (step:=λrec a=>Q177.s0 K (w,z,y,u,()) rec a) (λa=>0<=a.1/\a.1<=u.length/\(a.2.length:Int)<=w.2.2.2.length+a.1) (λa=>u.length-a.1.toNat) ?_ K _ (by show u.length-BE 0<K;omega) ⟨by show (0:Int)<=0;omega,by show (0:Int)<=_;omega,by show (w.2.2.2.length:Int)<=w.2.2.2.length+0;omega⟩;rintro rec ⟨i,b⟩ ⟨H,Y,i2⟩ O;simp only at H Y i2 O ⊢;simp only[Q177.s0];refine Tot.cnd (λh=>?_) λ_=>Tot.ret ⟨b,by omega,rfl⟩
 have h:=of_decide_eq_true h;rw[aJ (n:=i+1) (by omega) (by omega)];have J:∀ I:List ag,I.length<=b.length+1->Tot (rec (i+1,I)) λr=>∃ b,b.length<=w.2.2.2.length+u.length/\r.1.1=(w.1,w.2.1,w.2.2.1,b):=λI a0=>O _ ⟨by show 0<=i+1;omega,by show i+1<=_;omega,by show (I.length:Int)<=_+(i+1);omega⟩ (by show u.length-BE (i+1)<u.length-BE i;omega)
 refine Tot.ix H h λy1 _ _=>Tot.bind (tk K z y1 h1 M).tot λ_ _=>Tot.cnd (λ_=>?_) λ_=>J b (Bx _)
 refine Tot.ix H h λR _ _=>Tot.bind (tk K y R Z M).tot λ_ _=>Tot.cnd (λ_=>?_) λ_=>J b (Bx _)
 exact Tot.ix H h λy5 _ _=>Tot.bind (xw K b y5 (by omega) M) λv X=>J v.1.1 X
structure zo (w:bQ) (i:Nat) (n:aa) (ws:List aj) (heard:List ag) (c:Nat):Prop where
 wi:WI w c
 lt:i<8
 n:eh i n
 sent:∀ x∈ws,hH x
 wl:ws.length<=1000
 hl:heard.length<=1048576
 c:c<=1000000
theorem set_t (K:Nat)(w:bQ)(i:Nat)(n:aa)(H:List aj)(u:List ag)(c:Nat)(h:zo w i n H u c)(I:1048577<K):Tot (Q178.f K ((w,i),n,H,u,())) λr=>WI r.1.1 (c+4):=by
 simp only[Q178.f];have y:i<w.1.length:=by rw[h.wi.len];exact h.lt
 have O:=h.c;have M:=h.wi.born;have J:=h.n.short;rw[h.n.me];refine Tot.vl (af y) (Tot.vl (by rw[BF];exact af y) (Tot.vl (af y) (Tot.vl (by rw[BF];exact af y) ?_)));refine Tot.must (by simp) ?_;rw[BF];refine Tot.bind (zn K (w.1.set i n,w.2) (aa.table w.1[i]) u (aa.table n) (h.wi.node i y).nb.table h.hl (by omega) (by show w.2.2.2.length<=_;omega) I) ?_;rintro⟨⟨v,⟨⟩⟩,⟨⟩⟩ ⟨b,z,rfl⟩;refine Tot.bind (xv K (w.1.set i n,w.2.1,w.2.2.1,b) (i:Int) H h.wi.sides ⟨by omega,by have:=h.lt;omega⟩ h.sent h.wi.radio h.wl I) ?_;rintro⟨⟨v,⟨⟩⟩,⟨⟩⟩ ⟨rd,hr,rfl⟩;have z:b.length<=w.2.2.2.length+(aa.table n).length:=z;exact Tot.ret (h.wi.put h.n hr (by omega))
theorem AT (K:Nat)(w:bQ)(i:Nat)(n:aa)(H:List aj)(u:List ag)(c:Nat)(h:zo w i n H u c)(I:1048577<K):Tot (Q181.f K (w,n,H,u,())) λr=>WI r.1.1 (c+4):=by
 simp only[Q181.f];have y:i<w.1.length:=by rw[h.wi.len];exact h.lt
 have O:=h.c;have M:=h.wi.born;have J:=h.n.short;rw[h.n.me];refine Tot.vl (af y) (Tot.vl (by rw[BF];exact af y) (Tot.vl (af y) (Tot.vl (by rw[BF];exact af y) ?_)));rw[BF];refine Tot.bind (zn K (w.1.set i n,w.2) (aa.table w.1[i]) u (aa.table n) (h.wi.node i y).nb.table h.hl (by omega) (by show w.2.2.2.length<=_;omega) I) ?_;rintro⟨⟨v,⟨⟩⟩,⟨⟩⟩ ⟨b,z,rfl⟩;refine Tot.bind (xv K (w.1.set i n,w.2.1,w.2.2.1,b) (i:Int) H h.wi.sides ⟨by omega,by have:=h.lt;omega⟩ h.sent h.wi.radio h.wl I) ?_;rintro⟨⟨v,⟨⟩⟩,⟨⟩⟩ ⟨rd,hr,rfl⟩;have z:b.length<=w.2.2.2.length+(aa.table n).length:=z;exact Tot.ret (h.wi.put h.n hr (by omega))
theorem rh (K:Nat)(l:List lw)(at_:Int)(z:0<=at_)(H:at_<l.length)(y:fP l):Tot (Q172.f K (l,at_,())) λr=>fP r.1.1:=by
 have I:=y.1;obtain⟨m,rfl⟩:=BN z;simp only[Q172.f];rw[ar m (by omega)];refine Tot.must (by simp;omega) (Tot.fit (Tot.must (by simp;omega) (Tot.fit (Tot.ret ⟨?_,λf u=>y.2 f ?_⟩) (by omega) ?_)) (by omega) ?_)
 ·simp only[BF,BZ,BR,BP,BL,BV,Bt];omega
 ·simp only[BF,BZ,BR,BP,Br]at u;rcases BM.1 u with u|u
  ·exact BT u
  ·exact List.mem_of_mem_drop u
 ·simp only[BF,BZ,BR,BP,BL,BV,Bt];omega
 ·simp only[BF,BZ,BR,BP,BV,Bv];omega
theorem ri (K:Nat)(w:bQ)(c:Nat)(h:WI w c)(hc:c<=1000000)(to:Int)(t0:0<=to)(t1:to<=7)(x:aj)(X:dJ x)(H:1048577<K){G:aa->aa->Option ((bQ×Unit)×Unit)}
  (Y:∀ y:aa,G y y=(Q61.f K (y,x,())).bind λI=>(Q178.f K ((w,BE to),I.1.1,I.1.2.1,aj.table x,())).bind λM=>some ((M.1.1,()),())) :
  Tot ((idx w.1 to).bind λ_=>(idx w.1 (BE to:Nat)).bind λR=>(idx w.1 (BE to:Nat)).bind λO=>G R O) λr=>WI r.1.1 (c+4):=by
 obtain⟨i,rfl⟩:=BN t0;have J:i<w.1.length:=by rw[h.len];omega
 have z:=h.node i J;refine Tot.vl (af J) (Tot.vl (by rw[BF];exact af J) (Tot.vl (by rw[BF];exact af J) ?_));rw[Y,xu K w.1[i] x z.up (bX X.2.2.2.2.2.2.2.1) H];simp only[BA,BF];refine Tot.bind (set_t K w i _ _ _ c ⟨h,z.lt,?_,?_,?_,bX X.2.2.2.2.2.2.2.1,hc⟩ H) λv hv=>Tot.ret hv
 ·cases u:w.1[i].2.1 with
  |true=>exact z.of (qy (z.up u) H).1 (qy (z.up u) H).2.1
  |false =>
   rw[show bG K w.1[i] x=(w.1[i],[]) by unfold bG;rw[if_neg λh=>by have:=h.2.1;rw[u]at this;cases this]];exact z
 ·cases u:w.1[i].2.1 with
  |true=>exact λy Z=>(mc (z.up u) H).2 y Z
  |false =>
   rw[show bG K w.1[i] x=(w.1[i],[]) by unfold bG;rw[if_neg λh=>by have:=h.2.1;rw[u]at this;cases this]];simp
 ·cases u:w.1[i].2.1 with
  |true=>have:=(mc (w:=x) (z.up u) H).1;omega
  |false =>
   rw[show bG K w.1[i] x=(w.1[i],[]) by unfold bG;rw[if_neg λh=>by have:=h.2.1;rw[u]at this;cases this]];simp
theorem z7 (K:Nat)(w:bQ)(c:Nat)(h:WI w c)(hc:c<=1000000)(at_:Int)(keep:Bool)(h0:0<=at_)(h1:at_<w.2.1.length)(X:1048577<K):Tot (Q179.f K (w,at_,keep,())) λr=>WI r.1.1 (c+4):=by
 simp only[Q179.f,zcp8];refine Tot.ix2 h0 h1 λf hf _=>?_
 obtain⟨⟨t0,t1⟩,a0⟩:=h.radio.2 f hf;have hs:=h.sides;refine Tot.cnd (λ_=>Tot.bind (rh K w.2.1 at_ h0 h1 h.radio) ?_) λ_=>Tot.bind (ma K f.2.1 (by omega) X) ?_
 ·rintro⟨⟨rd,⟨⟩⟩,⟨⟩⟩ hr;have R:WI (w.1,rd,w.2.2) (c+4):=⟨h.len,h.node,hr,h.sides,BJ h.born (by omega)⟩;refine Tot.bind (ma K f.2.1 (by omega) X) ?_;rintro⟨⟨(x:aj),ok,⟨⟩⟩,⟨⟩⟩ H;refine Tot.cnd (λ_=>Tot.ret R) λZ=>?_
  have H:dJ x:=H (by simpa using Z);obtain⟨J,Y⟩:=H.2.2.1;have M:x.2.2.1<(w.2.2.1.length:Int):=by rw[hs];omega
  refine Tot.ix2 J M λ_ _ _=>Tot.ix2 t0 (by omega) λ_ _ _=>Tot.cnd (λ_=>Tot.ret R) λ_=>Tot.cnd (λ_=>Tot.ret R) λ_=>?_
  exact ri K (w.1,rd,w.2.2) c ⟨h.len,h.node,hr,h.sides,h.born⟩ hc f.1 t0 t1 x H X (G:=λu O=>(Q61.f K ((u.1,(u.2.1,(u.2.2.1,(u.2.2.2.1,(u.2.2.2.2.1,(u.2.2.2.2.2.1,(u.2.2.2.2.2.2.1,(u.2.2.2.2.2.2.2.1,(u.2.2.2.2.2.2.2.2.1,(u.2.2.2.2.2.2.2.2.2.1,(u.2.2.2.2.2.2.2.2.2.2.1,(O.2.2.2.2.2.2.2.2.2.2.2.1,u.2.2.2.2.2.2.2.2.2.2.2.2)))))))))))),x,())).bind λz=>(Q178.f K (((w.1,rd,w.2.2),BE f.1),z.1.1,z.1.2.1,aj.table x,())).bind λI=>some ((I.1.1,()),())) λy=>rfl
 ·rintro⟨⟨(x:aj),ok,⟨⟩⟩,⟨⟩⟩ H;have R:WI w (c+4):=h.mono (by omega);refine Tot.cnd (λ_=>Tot.ret R) λZ=>?_
  have H:dJ x:=H (by simpa using Z);obtain⟨J,Y⟩:=H.2.2.1;have M:x.2.2.1<(w.2.2.1.length:Int):=by rw[hs];omega
  refine Tot.ix2 J M λ_ _ _=>Tot.ix2 t0 (by omega) λ_ _ _=>Tot.cnd (λ_=>Tot.ret R) λ_=>Tot.cnd (λ_=>Tot.ret R) λ_=>?_
  exact ri K w c h hc f.1 t0 t1 x H X (G:=λu O=>(Q61.f K ((u.1,(u.2.1,(u.2.2.1,(u.2.2.2.1,(u.2.2.2.2.1,(u.2.2.2.2.2.1,(u.2.2.2.2.2.2.1,(u.2.2.2.2.2.2.2.1,(u.2.2.2.2.2.2.2.2.1,(u.2.2.2.2.2.2.2.2.2.1,(u.2.2.2.2.2.2.2.2.2.2.1,(O.2.2.2.2.2.2.2.2.2.2.2.1,u.2.2.2.2.2.2.2.2.2.2.2.2)))))))))))),x,())).bind λz=>(Q178.f K (((w.1,w.2),BE f.1),z.1.1,z.1.2.1,aj.table x,())).bind λI=>some ((I.1.1,()),())) λy=>rfl
theorem z8 (K:Nat)(w:bQ)(c:Nat)(h:WI w c)(at_ u:Int)(O:0<=at_)(X:at_<w.2.1.length):Tot (Q180.f K (w,at_,u,())) λr=>WI r.1.1 c:=by
 simp only[Q180.f];refine Tot.ix2 O X λf Y _=>?_
 obtain⟨y,z⟩:=h.radio.2 f Y;refine Tot.cnd (λ_=>Tot.ret h) λ_=>Tot.cnd (λ_=>Tot.ret h) λZ=>?_
 have I:¬ (f.2.1.size:Int)=0:=by simpa using Z
 obtain⟨H,b1⟩:=lx (a:=u) (m:=4095) (by omega);have H:0<=bA .i64 u 4095:=H;have M:0<=Bo (bA .i64 u 4095) (f.2.1.size:Int):=CB _ H;have R:Bo (bA .i64 u 4095) (f.2.1.size:Int)<((eq f.2.1).length:Int):=by rw[ra];exact Bz _ (by omega)
 refine Tot.not (decide_eq_false I) (Tot.ix2 M R λ_ _ _=>Tot.ix2 M R λ_ _ _=>Tot.ix2 O X λ_ _ _=>Tot.ret ⟨h.len,h.node,⟨?_,λg J=>?_⟩,h.sides,h.born⟩)
 ·show (w.2.1.set _ _).length<=60;rw[BK];exact h.radio.1
 ·rcases List.mem_or_eq_of_mem_set J with J|rfl
  ·exact h.radio.2 g J
  ·refine⟨y,?_⟩;show (gF _).size<=2000;rw[iR,BK,ra];exact z
def md (i:Int)(g:Bool):aa:=(i,true,false,g,0,0,0,0,[(i,0,1,g)],[],(-1,0,0,false),[],(0,0,0,1500),[],[])
theorem z9 {i:Int}{g:Bool}(h:InP i 0 7):UpN (md i g):=by
 refine⟨⟨h,Bp _,⟨λf r=>?_,List.pairwise_singleton _ _⟩,λf r=>?_,⟨λx u=>(nomatch u),List.Pairwise.nil⟩,λx u=>(nomatch u),?_,⟨λd z=>(nomatch z),List.Pairwise.nil,rfl⟩,⟨?_,?_,?_,?_⟩,⟨λp y=>(nomatch y),List.Pairwise.nil⟩,⟨λp y=>(nomatch y),List.Pairwise.nil⟩⟩,?_,?_,⟨?_,?_⟩,?_,rfl⟩
 ·rw[BG.1 r];exact⟨h,⟨by show (0:Int)<=0;omega,by show (0:Int)<=999;omega⟩,by show (1:Int)<=1;omega,by show (1:Int)<=4;omega⟩
 ·rw[BG.1 r];rfl
 ·unfold cY;rw[if_pos (show (aa.probe (md i g)).1=-1 from rfl)];rfl
 ·exact⟨by show (-100000:Int)<=0;omega,by show (0:Int)<=100000;omega⟩
 ·exact⟨by show (-100000:Int)<=0;omega,by show (0:Int)<=100000;omega⟩
 ·exact⟨by show (0:Int)<=0;omega,by show (0:Int)<=100000;omega⟩
 ·exact⟨by show (1:Int)<=1500;omega,by show (1500:Int)<=1500;omega⟩
 ·exact BG.2 rfl
 ·show (0:Int)<=999999;omega
 ·exact⟨by show (0:Int)<=0;omega,by show (0:Int)<=999999;omega⟩
 ·exact⟨by show (0:Int)<=0;omega,by show (0:Int)<=8;omega⟩
 ·exact⟨by show (0:Int)<=0;omega,by show (0:Int)<=999;omega⟩
theorem rj (K:Nat)(i:Int)(g:Bool)(h:InP i 0 7):Q152.f K (i,g,())=some ((md i g,()),()):=by
 simp only[Q152.f];obtain⟨b,e,r⟩:=cF K i 0 7;rw[e,r.2 h];rfl
theorem eh.new (i:Nat)(g:Bool)(h:i<8):eh i (md (i:Int) g):=⟨rfl,h,λ_=>z9 ⟨by omega,by omega⟩,λr=>by cases r⟩
theorem AU (K:Nat)(w:bQ)(c:Nat)(h:WI w c)(O:c<=1000000)(u:Int)(y:InP u 0 7)(I:1048577<K):Tot (Q183.f K (w,u,())) λr=>WI r.1.1 (c+4):=by
 have M:=h.born;have H:u.toNat<8:=by obtain⟨a,b⟩:=y;omega
 have z:=h.len;simp only[Q183.f,Q153.f,BA];rw[rj K u _ y];simp only[BA];refine Tot.ix2 y.1 (by have:=y.2;omega) λ_ _ _=>?_
 refine Tot.vl (show idx (md u (decide (Bo u 4<3))).2.2.2.2.2.2.2.2.1 0=some (u,0,1,decide (Bo u 4<3)) from rfl) (Tot.bind (xw K w.2.2.2 _ (by omega) I) λv J=>Tot.ret (h.put ?_ h.radio (by omega)));have:=eh.new u.toNat (decide (Bo u 4<3)) H
 rwa [By y.1]at this
theorem AV (K:Nat)(n:aa)(w:aj)(Y:NB n)(z:(aj.table w).length<=1048576)(r:1048577<K):Ret (Q229.f K (n,w,())) (fE n/\dJ w/\gu n w):=by
 obtain⟨H,J,u⟩:=oS K n Y r;obtain⟨X,R,y⟩:=lV K w z r;obtain⟨I,M,O⟩:=uR K n w z r;simp only[Q229.f];rw[J];cases H with
 |false=>exact⟨false,rfl,by simp only[B3,false_iff];exact λh=>by have:=u.2 h.1;cases this⟩
 |true =>
  simp only[rb,BA,BH,cond_false];rw[R];cases X with
  |false=>exact⟨false,rfl,by simp only[B3,false_iff];exact λh=>by have:=y.2 h.2.1;cases this⟩
  |true =>
   simp only[rb,BA,BH,cond_false];rw[M];exact⟨I,rfl,O.trans ⟨λh=>⟨u.1 rfl,y.1 rfl,h⟩,λh=>h.2.2⟩⟩
theorem pU (K:Nat)(n:aa)(w:aj)(z:NB n)(y:(aj.table w).length<=1048576)(H:1048577<K):∃ b,Q229.f K (n,w,())=rb b/\Q104.f K (n,w,())=rb b/\(b=true<->fE n/\dJ w/\gu n w):=by
 obtain⟨b,u,J⟩:=vQ K n w z y H;obtain⟨M,r,I⟩:=AV K n w z y H;rw[u]at r;have:b=M:=by simpa[rb]using r
 subst this;exact⟨b,u,J,I⟩
theorem xx (K:Nat)(n:aa)(r:Int)(w:aj)(h:cr n)(u:1048577<K):Q141.f K (n,r,w,())=some ((nO r (iP n) w.2.2.2.2.2.1 w.2.2.2.2.1 n.1 (gV n w.2.2.2.2.2.1),()),(iP n,())):=by
 simp only[Q141.f,zcp4];refine (congrArg (λo=>BC o _) (vG K n w.2.2.2.2.2.1 h u)).trans ?_;simp only[BA,Q121.f];rfl
theorem yI (K:Nat)(n:aa)(x:Int)(r:InP x 0 7):Q95.f K (n,x,())=rb (am x==am n.1&&x != n.1):=by
 obtain⟨b,e,h⟩:=pB K n x;simp only[Q95.f];rw[e];have u:b=(am x==am n.1):=by
  rw[BQ,h,beq_iff_eq];exact⟨λh=>h.2,λh=>⟨r,h⟩⟩
 subst u;simp only[rb,BA];cases am x==am n.1 with
 |true=>rfl
 |false=>rfl
theorem yJ (K:Nat)(xs r:List ag)(R:xs.length<=1048576)(X:1048577<K):Q120.f K (xs,r,())=rb (decide (xs=r)):=by
 simp only[Q120.f,Q120.pre];by_cases u:xs.length=r.length
 case neg =>
  rw[show ((BD xs:Int) != (BD r:Int))=true by simp only[bne_iff_ne,ne_eq];omega,decide_eq_false (λe=>u (by rw[e]))];rfl
 rw[show ((BD xs:Int) != (BD r:Int))=false by rw[u];simp];simp only[cond_false];have:=cq (step:=λrec a=>Q120.s0 K (xs,r,()) rec a) xs.length (λi=>(i:Int)) (λj=>∃ h:j<xs.length,xs[j]≠r[j]'(by omega)) (rb true) (λ_=>rb false) ?_ ?_ xs.length K 0 (by omega) (by omega)
 ·rcases this with ⟨J,y⟩|⟨j,_,J,⟨O,M⟩,_,y⟩
  ·rw[decide_eq_true (List.ext_getElem u λi h _=>Classical.byContradiction λz=>J i (BO _) h ⟨h,z⟩)];exact y
  ·rw[decide_eq_false (λe=>M (by subst e;rfl))];exact y
 ·intro rec i I;have H:i<r.length:=by omega
  simp only[Q120.s0];rw[bm (by omega:(i:Int)<(BD xs:Int)),af I,af H,ar i (by omega)];simp only[cond_true,BA];by_cases e:xs[i]=r[i]
  ·left;refine⟨λ⟨_,h⟩=>h e,?_⟩;rw[show Ty.eqv t2 xs[i] r[i]=decide (xs[i]=r[i]) from gS _ _,decide_eq_true e];rfl
  ·right;refine⟨⟨I,e⟩,?_⟩;rw[show Ty.eqv t2 xs[i] r[i]=decide (xs[i]=r[i]) from gS _ _,decide_eq_false e];rfl
 ·intro rec;simp only[Q120.s0,aR];rfl
theorem yK (K:Nat)(t:List bY)(v:Int)(ht:t.length<=1048576)(z:Asc (λx:bY=>x.1) t)(h7:∀ d∈t,InP d.1 0 7)(R:InP v 0 7)(hK:1048577<K) :
  ∃ m,m<=t.length/\(∀ i,(h:i<t.length)->i<m->t[i].1<v)/\(∀ i,(h:i<t.length)->m<=i->v<=t[i].1)/\Q118.f K (t,v,(λI=>(Q119.f K (I.1,I.2.1,())).map λy=>y.1.1),())=some ((((m:Nat):Int),decide (∃ h:m<t.length,t[m].1=v),()),()):=by
 let ks:Nat->Int:=λi=>if h:i<t.length then t[i].1 else 0
 have r:∀ i (h:i<t.length),ks i=t[i].1:=λi h=>by simp[ks,h]
 let H:Nat->Option ((Int×Bool×Unit)×Unit):=λm=>some ((((m:Nat):Int),decide (∃ h:m<t.length,t[m].1=v),()),())
 have O:∀ d∈t,((Q119.f K (d,v,())).map λy=>y.1.1)=some (d.1-v):=λd hd=>by
  obtain⟨a1,a2⟩:=h7 d hd;obtain⟨a3,a4⟩:=R;simp only[Q119.f];rw[aJ (by omega) (by omega)];rfl
 have:=pw (step:=λrec a=>Q118.s0 K (t,v,(λI=>(Q119.f K (I.1,I.2.1,())).map λy=>y.1.1),()) rec a) (ks:=ks) (n:=t.length) (t:=v) H ht
  (λi j J X=>by
   rw[r i (by omega),r j X];exact cC.1 z i j (by omega) X J) ?_ ?_ t.length K 0 t.length (by omega) (BO _) (BS _) (by omega) (λi u=>by omega) (λi u R=>by omega)
 ·obtain⟨m,h1,h2,Y,h4⟩:=this;exact⟨m,h1,λi h u=>by rw[<- r i h];exact h2 i u,λi h u=>by rw[<- r i h];exact Y i u h,h4⟩
 ·intro rec a b Z hb;have M:(a+b) / 2<t.length:=by omega
  simp only[Q118.s0];rw[decide_eq_true (by omega:(a:Int)<(b:Int)),nF (by omega)];simp only[cond_true];rw[af M];simp only[BA,O _ (BI M)];rw[r _ M,ar _ (by omega)];by_cases h:t[(a+b) / 2].1<v
  ·rw[if_pos h,decide_eq_true (by omega:t[(a+b) / 2].1-v<0)];rfl
  ·rw[if_neg h,decide_eq_false (by omega:¬ t[(a+b) / 2].1-v<0)];rfl
 ·intro rec a ha;simp only[Q118.s0];rw[decide_eq_false (by omega)];simp only[cond_false];by_cases h:a<t.length
  ·rw[decide_eq_true (by omega:(a:Int)<(BD t:Int)),af h];simp only[cond_true,BA,O _ (BI h)];have:(t[a].1-v==0)=decide (∃ h:a<t.length,t[a].1=v):=by
    rw[BQ];simp only[beq_iff_eq,decide_eq_true_eq];exact⟨λe=>⟨h,by omega⟩,λ⟨_,e⟩=>by omega⟩
   rw[this]
  ·rw[decide_eq_false (by omega:¬ (a:Int)<(BD t:Int))];simp only[cond_false,H];rw[decide_eq_false (λ⟨h',_⟩=>h h')]
theorem xy {R:Type}(K:Nat)(n m:aa)(w:aj)(O:InP w.1 1 2)(M:(bF n w).length<=1048576)(X:m.1=n.1)(I:aa.coord m=aa.coord n)(J:1048577<K)(G:List aj->Option R) :
  (bif w.1==1 then G [] else ((Q120.f K (bF n w,aj.table w,())).bind λy=>bif y.1.1 then G [] else ((Q121.f K (m,6,w.2.2.1,())).bind λr=>(Q0.f K (bF n w,())).bind λz =>
   G [(2,r.1.1.2.1,r.1.1.2.2.1,r.1.1.2.2.2.1,r.1.1.2.2.2.2.1,r.1.1.2.2.2.2.2.1,r.1.1.2.2.2.2.2.2.1,z.1.1)])))=G (bif w.1==2&&decide (aj.table w≠bF n w) then [vO n w] else []):=by
 by_cases u:w.1=1
 ·rw[u];rfl
 ·have H:w.1=2:=by obtain⟨a,b⟩:=O;omega
  rw[show (w.1==1)=false by simpa using u,show (w.1==2)=true by simpa using H,yJ K _ _ M J];simp only[cond_false,rb,BA,Bq];by_cases e:bF n w=aj.table w
  ·rw[decide_eq_true e,decide_eq_false (p:=aj.table w≠bF n w) (λh=>h e.symm)];rfl
  ·rw[decide_eq_false e,decide_eq_true (p:=aj.table w≠bF n w) (λh=>e h.symm)];simp only[cond_false,cond_true,Q121.f,BA,Q0.f];rw[dY (by show (bF n w).length*_<=_;omega)];simp only[BA];unfold vO;rw[X,show m.2.2.2.2.2.2.2.2.2.2.2.2.1=aa.coord n from I]
theorem sum_i (K:Nat)(n:aa)(w:aj)(hn:NB n)(h:UpN n)(hp:InP w.1 1 2)(X:aA (aj.table w))(r:lU (aj.table w))(y:1048577<K):Q122.f K (n,w,())=some (((eP n w).2,()),((eP n w).1,())):=by
 have H:idx (aj.table w) 0=some (ci (aj.table w)):=by
  cases ht:aj.table w with
  |nil=>rw[ht]at r;exact r.elim
  |cons f l=>rfl
 have Y:=uS (th r X);have a0:InP (am (ci (aj.table w)).1) 0 7:=⟨Y.1,B6 Y.2 (by decide)⟩;have hb:mb (aj.table w) (am n.1)=(am (ci (aj.table w)).1==am n.1):=by
  rw[BQ,kG,beq_iff_eq];cases ht:aj.table w with
  |nil=>rw[ht]at r;exact r.elim
  |cons f l =>
   rw[ht]at r;exact⟨λh=>h f (by simp),λe g hg=>(r g hg).trans e⟩
 simp only[Q122.f,zcp4,zcp8];refine (congrArg (λo=>BC o _) H).trans ?_;simp only[BA];rw[mH K (ci (aj.table w)).1,nH K n];simp only[BA];unfold eP;rw[hb];cases am (ci (aj.table w)).1==am n.1 with
 |true =>
  simp only[cond_true];refine (congrArg (λo=>BC o _) (uK K n (aj.table w) n.1 h.learns X.1 (bX X) h.x.me y)).trans rfl
 |false =>
  simp only[cond_false];obtain⟨a1,a2,a3⟩:=kH (n:=n) h.x.others X r;refine (congrArg (λo=>BC o _) (zE K n (am (ci (aj.table w)).1) hn y)).trans ?_;simp only[BA];refine (congrArg (λo=>BC o _) (AH K (eF (aa.others n) (am (ci (aj.table w)).1)) (aj.table w) (oZ h.x.others _) X y)).trans ?_;simp only[BA];have u:=h.x.others;have R:=olen u;obtain⟨m,hm,lo,hi,hs⟩:=yK K (aa.others n) (am (ci (aj.table w)).1) R u.2 (λx hx=>⟨(u.1 x hx).1.1,B6 (u.1 x hx).1.2 (by decide)⟩) a0 y;refine (congrArg (λo=>BC o _) hs).trans ?_;simp only[BA];by_cases hf:∃ h:m<(aa.others n).length,(aa.others n)[m].1=am (ci (aj.table w)).1
  ·rw[decide_eq_true hf];obtain⟨I,e⟩:=hf;simp only[cond_true,BF];have M:idx (aa.others n) (m:Int)=some (aa.others n)[m]:=af I;refine (congrArg (λo=>BC o _) M).trans ?_;simp only[BA];refine (congrArg (λo=>BC o _) M).trans ?_;simp only[BA];rw[e];have Z:(aa.others n).set m (am (ci (aj.table w)).1,bF n w)=bu (λx:bY=>x.1) (am (ci (aj.table w)).1,bF n w) (aa.others n):=ii (k:=λx:bY=>x.1) (x:=(am (ci (aj.table w)).1,bF n w)) u.2 I e;have:=xy K n (mT n ((aa.others n).set m (am (ci (aj.table w)).1,bF n w))) w hp (bX a1) rfl rfl y (λws=>some ((ws,()),(mT n ((aa.others n).set m (am (ci (aj.table w)).1,bF n w)),())));refine Eq.trans this ?_;rw[Z];rfl
  ·rw[decide_eq_false hf];simp only[cond_false];have z:Q7.f K (aa.others n,(m:Int),[(am (ci (aj.table w)).1,bF n w)],())=some (((aa.others n).take m++[(am (ci (aj.table w)).1,bF n w)]++(aa.others n).drop m,()),()):=ju hm (by decide) R;refine (congrArg (λo=>BC o _) z).trans ?_;simp only[BA];have J:(aa.others n).take m++[(am (ci (aj.table w)).1,bF n w)]++(aa.others n).drop m=bu (λx:bY=>x.1) (am (ci (aj.table w)).1,bF n w) (aa.others n):=gp (k:=λx:bY=>x.1) (x:=(am (ci (aj.table w)).1,bF n w)) hm lo (λj hj O=>by
    rcases Int.lt_or_eq_of_le (hi j hj O) with h|h
    ·exact h
    ·exfalso;rcases Nat.lt_or_eq_of_le O with h4|rfl
     ·have:(aa.others n)[m].1<(aa.others n)[j].1:=cC.1 u.2 m j (by omega) hj h4;have h5:=hi m (by omega) (BS _);omega
     ·exact hf ⟨hj,h.symm⟩)
   have:=xy K n (mT n ((aa.others n).take m++[(am (ci (aj.table w)).1,bF n w)]++(aa.others n).drop m)) w hp (bX a1) rfl rfl y (λws=>some ((ws,()),(mT n ((aa.others n).take m++[(am (ci (aj.table w)).1,bF n w)]++(aa.others n).drop m),())));refine Eq.trans this ?_;rw[J];rfl
theorem AW (K:Nat)(n:aa)(w:aj)(Z:NB n)(h:UpN n)(u:dJ w)(M:gu n w)(z:w.2.1≠2)(I:1048577<K):Q143.f K (n,w,())=some (((bG K n w).2,()),((bG K n w).1,())):=by
 have r:=u.2.2.2.2.2.2.2.1;unfold bG;rw[if_pos ⟨u,M⟩];simp only[Q143.f,zcp4];by_cases y:w.2.1=6
 ·rw[if_pos y,show (w.2.1==6)=true by simpa using y];have X:=u.2.2.2.2.2.2.2.2;rw[if_pos y]at X;simp only[cond_true];exact (congrArg (λo=>BC o _) (sum_i K n w Z h u.1 r X I)).trans rfl
 ·rw[if_neg y,show (w.2.1==6)=false by simpa using y];obtain⟨Y,O⟩:=jV u M y;have H:=(kl h M.2.1 r Y O).1;simp only[cond_false];refine (congrArg (λo=>BC o _) (uK K n (aj.table w) w.2.2.1 h.learns r.1 (bX r) O.1 I)).trans ?_;simp only[BA];generalize dQ n (aj.table w) w.2.2.1=m at H ⊢;have J:=u.2.2.2.2.2.1;have R:=yI K m w.2.2.2.2.2.1 J;rw[show (w.2.1==2)=false by simpa using z];unfold e9;rw[show (w.2.1==2)=false by simpa using z];cases w.2.1==1 with
  |true =>
   simp only[cond_true];refine (congrArg (λo=>BC o _) R).trans ?_;simp only[rb,BA,bne];cases am w.2.2.2.2.2.1==am m.1 with
   |false=>rfl
   |true =>
    cases w.2.2.2.2.2.1==m.1 with
    |true=>rfl
    |false =>
     simp only[Bq,BY,BH,cond_true,cond_false];exact (congrArg (λo=>BC o _) (xx K m 2 w H.x.say I)).trans rfl
  |false =>
   simp only[cond_false];cases w.2.1==3 with
   |true =>
    simp only[cond_true];refine (congrArg (λo=>BC o _) R).trans ?_;simp only[rb,BA,bne];cases am w.2.2.2.2.2.1==am m.1 with
    |false=>rfl
    |true =>
     cases w.2.2.2.2.2.1==m.1 with
     |true=>rfl
     |false =>
      simp only[Bq,BY,BH,cond_true,cond_false];cases w.2.2.2.2.2.1==w.2.2.1 with
      |true=>rfl
      |false =>
       simp only[BY,cond_true,cond_false];exact (congrArg (λo=>BC o _) (xx K m 1 w H.x.say I)).trans rfl
   |false =>
    simp only[cond_false];cases w.2.1==4 with
    |true =>
     simp only[cond_true];exact (congrArg (λo=>BC o _) (zJ K m 5 w.2.2.1 (bX H.x.table))).trans rfl
    |false=>rfl
theorem un (K:Nat)(n:aa)(w:aj)(H:NB n)(hw:(aj.table w).length<=1048576)(X:w.2.1≠2)(r:1048577<K):∃ y:aa,∃ z:List aj,NB y/\z.length<=1/\(∀ x∈z,(aj.table x).length<=1048576)/\Q63.f K (n,w,())=some ((y,z,()),())/\Q148.f K (n,w,())=some ((y,z,()),()) /\
  ((fE n/\dJ w/\gu n w)->y=(bG K n w).1/\z=(bG K n w).2)/\(fE n->¬ (dJ w/\gu n w)->y=n/\z=[])/\(¬ fE n->z=[]):=by
 obtain⟨b,o1,o2,M⟩:=tX K n H r;simp only[Q63.f,Q148.f,Q147.f];rw[o1,o2];cases b with
 |false=>exact⟨sJ,[],ua,by simp,by simp,rfl,rfl,λh=>(by have:=M.2 h.1;cases this),λh=>(by have:=M.2 h;cases this),λ_=>rfl⟩
 |true =>
  have J:=M.1 rfl;have I:n.2.1=true->UpN n:=λI=>UpN.of J I
  simp only[rb,BA,BH,cond_false];rw[mK K n H r,yi K n H r];simp only[BA];rw[xu K n w I hw r];simp only[BA,Q144.f];obtain⟨c,_,t2,t3⟩:=pU K n w H hw r;rw[t2];cases c with
  |false =>
   have u:¬ (dJ w/\gu n w):=λh=>by have:=t3.2 ⟨J,h⟩;cases this
   have he:bG K n w=(n,[]):=by unfold bG;rw[if_neg u]
   rw[he];simp only;rw[mK K n H r];exact⟨n,[],H,by simp,by simp,rfl,rfl,λh=>absurd h.2 u,λ_ _=>⟨rfl,rfl⟩,λh=>absurd J h⟩
  |true =>
   obtain⟨_,hW,O⟩:=t3.1 rfl;have R:=I O.1;have Z:=qy (w:=w) R r;have Y:=mc (w:=w) R r;simp only[rb,BA,BH,cond_false];rw[AW K n w H R hW O X r];simp only[BA];rw[mK K _ Z.1.nb r];refine⟨(bG K n w).1,(bG K n w).2,Z.1.nb,Y.1,λx hx=>(Y.2 x hx).2,rfl,?_,λ_=>⟨rfl,rfl⟩,λ_ u=>absurd ⟨hW,O⟩ u,λh=>absurd J h⟩;simp only[Q146.f];simp
theorem Aa {n:aa}(h:UpN n):(lu n).length<=8/\∀ x∈lu n,hH x:=by
 unfold lu;refine⟨?_,λx u=>?_⟩
 ·rw[Bu];exact BJ (Bw _ _) (iM h.x.table.2 λf r=>(h.x.table.1 f r).1)
 ·obtain⟨f,r,rfl⟩:=BU.1 u;exact⟨(h.x.table.1 f (BX.1 r).1).1,bX h.x.table⟩
theorem AX (K:Nat)(w:bQ)(c:Nat)(h:WI w c)(hc:c<=1000000)(e:ag)(h0:InP e.2.1 0 7)(O:1048577<K):Tot (Q201.f K (w,e,())) λr=>WI r.1.1 (c+4):=by
 have a2:=h.len;have hs:=h.sides;obtain⟨a0,a1,u,keep⟩:=e;obtain⟨e0,e1⟩:=h0;simp only at e0 e1;obtain⟨i,rfl⟩:=BN e0;have X:i<w.1.length:=by omega
 have M:=h.node i X;have y:=h.mono (show c<=c+4 by omega);simp only[Q201.f];refine Tot.vl (af X) (Tot.vl (by rw[BF];exact af X) ?_);generalize w.1[i]=n at M ⊢;refine Tot.cnd (λ_=>?_) λ_=>Tot.cnd (λ_=>?_) λ_=>Tot.cnd (λ_=>?_) λ_=>?_
 ·
  rw[zl];simp only[BA];exact Tot.ix2 (by omega) (by omega) λ_ _ _=>Tot.ret ⟨y.len,y.node,y.radio,by show (w.2.2.1.set _ _).length=8;rw[BK];exact h.sides,y.born⟩
 ·
  simp only[Q182.f,BA];refine Tot.ix2 (by omega) (by omega) λ_ _ _=>Tot.ret (y.put (i:=i) (n:=jm n.1 n.2.2.2.1) ?_ y.radio y.born)
  exact⟨M.me,M.lt,λJ=>(by cases J),λ_=>rfl⟩
 ·
  exact Tot.cnd (λ_=>Tot.ret y) λ_=>Tot.bind (AU K w c h hc (i:Int) ⟨by omega,by omega⟩ O) λv z=>Tot.ret z
 ·refine Tot.cnd (λ_=>Tot.ret y) λJ=>Tot.cnd (λ_=>Tot.ret y) λZ=>?_
  have J:n.2.1=true:=by simpa using J
  have H:=M.up J;have set:=λ (m:aa) (R:List aj) (I:UpN m) (em:m.1=n.1) (Y:∀ x∈R,hH x) (hl:R.length<=1000)=>AT K w i m R [] c ⟨h,M.lt,M.of I em,Y,hl,BO _,hc⟩ O
  refine Tot.cnd (λ_=>?_) λ_=>Tot.cnd (λ_=>?_) λ_=>Tot.cnd (λ_=>?_) λ_=>Tot.ret y
  ·refine Tot.cnd (λ_=>Tot.ret y) λI=>?_
   have I:cg n<999999:=by have I:¬ n.2.2.2.2.2.1>=999999:=of_decide_eq_false I;show n.2.2.2.2.2.1<999999;omega
   obtain⟨t1,t2,_⟩:=qt H I;obtain⟨w1,w2⟩:=AR H I u;exact Tot.vl (AS K n u H Z I O) (Tot.bind (set _ _ t1 t2 w2 (BJ w1 (by omega))) λv z=>Tot.ret z)
  ·obtain⟨t1,t2⟩:=yB H Z;obtain⟨w1,w2⟩:=Aa t1;exact Tot.vl (zK K n H.nb H.ok J Z O) (Tot.bind (set _ _ t1 t2 w2 (BJ w1 (by omega))) λv z=>Tot.ret z)
  ·refine Tot.bind (cF K u 0 7).tot λv z=>Tot.cnd (λ_=>Tot.ret y) λh1=>Tot.cnd (λ_=>Tot.ret y) λ_=>?_
   have hd:InP u 0 7:=z.1 (by simpa using h1);rw[dj K,dj K];simp only[BA];refine Tot.cnd (λ_=>Tot.ret y) λ_=>?_
   refine Tot.vl (nL K n 4 u (bX H.x.table)) (Tot.bind (set n _ H rfl (λx hx=>?_) (by simp)) λv z=>Tot.ret z);rw[BG.1 hx];exact⟨hd,bX H.x.table⟩
theorem do_t (K:Nat)(w:bQ)(c:Nat)(h:WI w c)(R:c<=1000000)(e:ag)(O:1048577<K):Tot (Q203.f K (w,e,())) λr=>WI r.1.1 (c+4):=by
 have z:=h.mono (show c<=c+4 by omega);have hr:=h.radio.1;simp only[Q203.f];rw[aJ (n:=(BD w.2.1:Int)-1) (by omega) (by omega)];have u:Tot ((Q11.f K (e.2.1,0,(BD w.2.1:Int)-1,())).bind λX=>bif !X.1.1 then (some ((w,false,()),())) else (bif e.1==2 then ((Q179.f K (w,e.2.1,e.2.2.2,())).bind λZ=>some ((Z.1.1,true,()),())) else (bif e.1==4 then ((Q180.f K (w,e.2.1,e.2.2.1,())).bind λM=>some ((M.1.1,M.1.2.1,()),())) else ((Q172.f K (w.2.1,e.2.1,())).bind λY=>some (((w.1,(Y.1.1,w.2.2)),true,()),()))))) λr=>WI r.1.1 (c+4):=by
  refine Tot.bind (cF K _ _ _).tot λv y=>Tot.cnd (λ_=>Tot.ret z) λJ=>?_
  obtain⟨I,H⟩:InP e.2.1 0 ((BD w.2.1:Int)-1):=y.1 (by simpa using J);have H:e.2.1<(w.2.1.length:Int):=by omega
  refine Tot.cnd (λ_=>Tot.bind (z7 K w c h R e.2.1 e.2.2.2 I H O) λv y=>Tot.ret y) λ_=>Tot.cnd (λ_=>Tot.bind (z8 K w c h e.2.1 e.2.2.1 I H) λv y=>Tot.ret (WI.mono y (by omega))) λ_=>?_
  exact Tot.bind (rh K w.2.1 e.2.1 I H h.radio) λv y=>Tot.ret ⟨z.len,z.node,y,z.sides,z.born⟩
 refine Tot.cnd (λ_=>u) λ_=>Tot.cnd (λ_=>u) λ_=>Tot.cnd (λ_=>u) λ_=>?_
 exact Tot.bind (cF K _ _ _).tot λv y=>Tot.cnd (λ_=>Tot.ret z) λJ=>Tot.bind (AX K w c h R e (y.1 (by simpa using J)) O) λv y=>Tot.ret y
theorem yL (K:Nat)(w:bQ)(Y:w.1.length<=1048576)(J:∀ n∈w.1,NB n)(R:w.2.1.length<=1048576)(O:w.2.2.1.length<=1048576)(X:w.2.2.2.length<=1048576)(H:1048577<K):Q204.f K (w,())=some ((w,()),()):=by
 simp only[Q204.f,Q204.pre];rw[szb _ _ _ (by omega) (by show (BD ([]:List lw))+w.2.1.length<=_;simp;omega)];simp only[cond_true];rw[szb _ _ _ (by omega) (by show (BD ([]:List Int))+w.2.2.1.length<=_;simp;omega)];simp only[cond_true];rw[szb _ _ _ (by omega) (by show (BD ([]:List ag))+w.2.2.2.length<=_;simp;omega)];simp only[cond_true];have:∀ (d i k:Nat),i+d=w.1.length->d<k->ae (λrec a=>Q204.s0 K (w,()) rec a) k ((i:Int),w.1.take i)=some ((w,()),()):=by
  intro d;induction d with
  |zero =>
   intro i k z M;obtain⟨k,rfl⟩:∃ u,k=u+1:=⟨k-1,by omega⟩;have:i=w.1.length:=by omega
   subst this;show Q204.s0 K (w,()) _ _=_;simp only[Q204.s0,aR,Br];rfl
  |succ d I =>
   intro i k z M;obtain⟨k,rfl⟩:∃ u,k=u+1:=⟨k-1,by omega⟩;have r:i<w.1.length:=by omega
   show Q204.s0 K (w,()) _ _=_;simp only[Q204.s0];rw[bm (by omega:(i:Int)<(BD w.1:Int)),af r,ar i (by omega)];simp only[cond_true,BA];refine (congrArg (λo=>BC o _) (mK K w.1[i] (J _ (BI r)) H)).trans ?_;simp only[BA];have y:decide (((w.1.take i).length+[w.1[i]].length)*232<=an)=true:=decide_eq_true (by
    rw[BV];simp only[B9,Bv,an];omega)
   refine (congrArg (λb=>bif b then _ else _) y).trans ?_;have e:w.1.take i++[w.1[i]]=w.1.take (i+1):=by rw[List.take_add_one,List.getElem?_eq_getElem r];rfl
   rw[<- I (i+1) k (by omega) (by omega),<- e];rfl
 exact this w.1.length 0 K (by omega) (by omega)
theorem WI.copy {w:bQ}{c:Nat}(h:WI w c)(M:c<=1000000)(K:Nat)(y:1048577<K):Q204.f K (w,())=some ((w,()),()):=by
 have z:=h.len;have H:=h.radio.1;have I:=h.sides;have J:=h.born;refine yL K w (by omega) (λn u=>?_) (by omega) (by omega) (by omega) y;obtain⟨i,r,rfl⟩:=BW u;exact (h.node i r).nb
theorem AY (K:Nat)(w:bQ)(c:Nat)(y:List ag)(h:WI w c)(Z:y.length<=1000)(hc:c<=900000)(O:1048577<K):Tot (Q205.f K (w,y,())) λr=>WI r.1.1 (c+4*y.length)/\r.2.1=y:=by
 simp only[Q205.f,Q205.pre];refine Tot.iter (step:=λrec a=>Q205.s0 K (w,y,()) rec a) (λa=>0<=a.1/\a.1<=y.length/\WI a.2 (c+4*a.1.toNat)) (λa=>y.length-a.1.toNat) ?_ K _ (by show y.length-BE 0<K;omega) ⟨by show (0:Int)<=0;omega,by show (0:Int)<=_;omega,h⟩;rintro rec ⟨i,v⟩ ⟨M,Y,H⟩ R;simp only at M Y H R ⊢;simp only[Q205.s0];refine Tot.cnd (λz=>?_) λ_=>Tot.ret ⟨WI.mono H (by omega),rfl⟩
 have z:i<(y.length:Int):=of_decide_eq_true z;rw[aJ (n:=i+1) (by omega) (by omega)];refine Tot.vl (H.copy (by omega) K O) (Tot.ix2 M z λe _ _=>Tot.bind (do_t K v _ H (by omega) e O) ?_);rintro⟨⟨v',ok,⟨⟩⟩,⟨⟩⟩ I;have I:WI v' (c+4*i.toNat+4):=I;have J:∀ u:bQ,WI u (c+4*i.toNat+4)->Tot (rec (i+1,u)) λr=>WI r.1.1 (c+4*y.length)/\r.2.1=y:=λu X=>R (i+1,u) ⟨by show 0<=i+1;omega,by show i+1<=_;omega,X.mono (by show _<=c+4*(i+1).toNat;omega)⟩ (by show y.length-BE (i+1)<y.length-BE i;omega)
 exact Tot.cnd (λ_=>J v' I) λ_=>J v (H.mono (by omega))
theorem vR (K:Nat)(hK:1048577<K):Tot (Q154.f K ()) λr=>WI r.1.1 8:=by
 simp only[Q154.f,Q154.pre];refine Tot.iter (step:=λrec a=>Q154.s0 K () rec a) (λa=>0<=a.1/\a.1<=8/\a.2.1.length=a.1.toNat/\(∀ (j:Nat) (y:j<a.2.1.length),eh j a.2.1[j])/\a.2.2.1.length=a.1.toNat/\a.2.2.2.length=a.1.toNat) (λa=>8-a.1.toNat) ?_ K _ (by show 8-BE 0<K;omega) ⟨by show (0:Int)<=0;omega,by show (0:Int)<=8;omega,rfl,λj y=>(by cases y),rfl,rfl⟩;rintro rec ⟨i,z,O,X⟩ ⟨J,h1,h2,I,h4,Y⟩ R;simp only at J h1 h2 I h4 Y R ⊢;simp only[Q154.s0];refine Tot.cnd (λu=>?_) λu=>?_
 ·have u:i<=7:=of_decide_eq_true u;rw[aJ (n:=i+1) (by omega) (by omega)];simp only[Q153.f,BA];refine Tot.vl (rj K i _ ⟨J,u⟩) (Tot.fit (Tot.fit (Tot.vl (show idx (md i (decide (Bo i 4<3))).2.2.2.2.2.2.2.2.1 0=some (i,0,1,decide (Bo i 4<3)) from rfl) (Tot.fit (R _ ⟨by show 0<=i+1;omega,by show i+1<=8;omega,?_,λj y=>?_,?_,?_⟩ (by show 8-BE (i+1)<8-BE i;omega)) (by omega) ?_)) (by omega) ?_) (by omega) ?_)
  ·show (z++[md i _]).length=(i+1).toNat;simp;omega
  ·show eh j ((z++[md i (decide (Bo i 4<3))])[j]'y);rw[List.getElem_append];split
   ·exact I j _
   ·rename_i M;have y:j<(z++[md i (decide (Bo i 4<3))]).length:=y;have H:j=i.toNat:=by simp at y;omega
    subst H;have:=eh.new i.toNat (decide (Bo i 4<3)) (by omega);rw[By J]at this;simpa using this
  ·show (O++[0]).length=(i+1).toNat;simp;omega
  ·show (X++[_]).length=(i+1).toNat;simp;omega
  ·simp;omega
  ·simp;omega
  ·simp;omega
 ·have M:=of_decide_eq_false u;refine Tot.ret ⟨?_,I,⟨BO _,λf Z=>(nomatch Z)⟩,?_,?_⟩
  ·show z.length=8;omega
  ·show O.length=8;omega
  ·show X.length<=8;omega
abbrev LtP (v n:Int):Prop:=0<=v/\v<n
def a8 (b:List Int)(m:Nat)(s:List Int×Int):Prop:=∃ q:Nat,q<=m/\s=(b,(q:Int))
theorem a8.up {b:List Int}{m:Nat}{s:List Int×Int}(h:a8 b m s){m':Nat}(u:m<=m'):a8 b m' s:=by obtain⟨q,y,r⟩:=h;exact⟨q,by omega,r⟩
section
variable {K:Nat} {b:List Int} {m:Nat} {s:List Int×Int}
theorem az (h:fG b)(z:a8 b m s)(n:Int)(H:1<=n)(I:m<=99000):Tot (Q150.f K (s,n,())) λr=>LtP r.1.1 n/\a8 b (m+1) r.2.1:=by
 obtain⟨q,J,rfl⟩:=z;obtain⟨v,e,y,u⟩:=zP K b q n h (by omega) H;exact⟨_,e,⟨y,u⟩,q+1,by omega,rfl⟩
theorem AZ (r:List Int)(z:∀ y∈r,0<=y/\y<=255)(I:r.length<=9223372036854775807):∃ u:List Int,fG u/\Q149.f K (r,())=some (((u,(0:Int)),()),()):=by
 simp only[Q149.f];by_cases h:(r.length:Int)>2000
 ·rw[decide_eq_true h,decide_eq_true (by omega:(2000:Int)<=(r.length:Int))];exact⟨(r.take 2000).drop 0,⟨λy H=>z y (BT (by simpa using H)),by simp;omega⟩,rfl⟩
 ·rw[decide_eq_false h];exact⟨r,⟨z,by omega⟩,rfl⟩
theorem xz (h:fG b)(R:a8 b m s)(u:Int)(h0:0<=u)(h1:u<=1)(hm:m<=98000):Tot (Q210.f K (s,u,())) λr=>(bk r.1.1/\am r.1.1.1=u)/\a8 b (m+5) r.2.1:=by
 simp only[Q210.f];refine Tot.bind (az h R 4 (by decide) (by omega)) λz ⟨⟨a1,b1⟩,X⟩=>Tot.bind (az h X 3 (by decide) (by omega)) λv2 ⟨⟨a2,b2⟩,Y⟩=>Tot.bind (az h Y 12 (by decide) (by omega)) λv3 ⟨⟨a3,b3⟩,O⟩=>Tot.bind (az h O 3 (by decide) (by omega)) λv4 ⟨⟨M,Z⟩,J⟩=>Tot.ix2 M Z λy H _=>Tot.bind (az h J 4 (by decide) (by omega)) λI ⟨⟨a5,b5⟩,s5⟩=>?_
 simp only[Q153.f,BA];have H:InP y 0 999:=by
  simp only[CD,CA,or_false]at H;rcases H with rfl|rfl|rfl <;> constructor <;> omega
 rw[aJ (n:=u*4) (by omega) (by omega),aJ (n:=u*4+z.1.1) (by omega) (by omega),aJ (n:=1+I.1.1) (by omega) (by omega)];refine Tot.ret ⟨⟨⟨⟨?_,?_⟩,H,?_,?_⟩,?_⟩,s5⟩
 ·show (0:Int)<=u*4+z.1.1;omega
 ·show u*4+z.1.1<=7;omega
 ·show (1:Int)<=1+I.1.1;omega
 ·show (1:Int)+I.1.1<=4;omega
 ·show am (u*4+z.1.1)=u;rw[jb ⟨by omega,by omega⟩];omega
theorem mU (h:fG b)(R:a8 b m s)(hm:m<=97000):Tot (Q212.f K (s,())) λr=>a8 b (m+8) r.2.1:=by
 simp only[Q212.f];refine Tot.bind (az h R 2 (by decide) (by omega)) λI ⟨⟨Y,b1⟩,X⟩=>Tot.bind (xz h X I.1.1 Y (by omega) (by omega)) λf ⟨_,Z⟩=>Tot.bind (az h Z 12 (by decide) (by omega)) λO ⟨_,H⟩=>?_
 have u:∀ {x y:Int} {G:(Int×Unit)×(List Int×Int)×Unit->Int->Option ((ag×Unit)×(List Int×Int)×Unit)},(∀ v z,Tot (G v z) λr=>r.2.1=v.2.1)->Tot ((Q150.f K (O.2.1,2,())).bind λv=>(idx [x,y] v.1.1).bind λ_=>(idx [x,y] (BE v.1.1:Nat)).bind (G v)) λr=>a8 b (m+8) r.2.1:=λJ=>Tot.bind (az h H 2 (by decide) (by omega)) λv ⟨⟨a,b⟩,M⟩=>Tot.ix2 a b λz _ _=>(J v z).mono λr e=>by rw[e];exact M.up (by omega)
 refine Tot.cnd (λ_=>u λ_ _=>Tot.ret rfl) λ_=>Tot.cnd (λ_=>u λ_ _=>Tot.ret rfl) λ_=>Tot.cnd (λ_=>u λ_ _=>Tot.ret rfl) λ_=>Tot.cnd (λ_=>Tot.ret (H.up (by omega))) λ_=>Tot.ret (H.up (by omega))
theorem xA (t:List ag)(f:ag):(bR t f).1.length<=t.length+1:=by
 rcases gT t f with e|e
 ·rw[e];omega
 ·rw[e];exact yg
theorem vS {t:List ag}{f:ag}{z:Int}(h:ca t z)(u:am f.1=z):ca (bR t f).1 z:=by
 rcases gT t f with e|e <;> rw[e]
 ·exact h
 ·intro g r;rcases aY.1 r with rfl|⟨r,_⟩
  ·exact u
  ·exact h g r
theorem nP (h:fG b)(hs:a8 b m s)(u:Int)(h0:-1<=u)(h1:u<=1)(hm:m<=96000)(hK:1048577<K):Tot (Q211.f K (s,u,())) λr=>(aA r.1.1/\(0<=u->ca r.1.1 u)/\r.1.1.length<=5)/\a8 b (m+31) r.2.1:=by
 simp only[Q211.f,Q211.pre];refine Tot.bind (az h hs 6 (by decide) (by omega)) λv ⟨⟨v0,v1⟩,s1⟩=>?_
 refine Tot.iter (step:=λrec a=>Q211.s0 K (s,u,()) rec a) (λa=>∃ q:Nat,0<=a.2.1/\aA a.1/\(0<=u->ca a.1 u)/\(a.1.length:Int)+a.2.1<=5/\a8 b q a.2.2/\q+6*a.2.1.toNat<=m+31) (λa=>a.2.1.toNat) ?_ K _ (by show v.1.1.toNat<K;omega) ⟨m+1,v0,⟨by simp,List.Pairwise.nil⟩,λ_ f Z=>(nomatch Z),by show ((0:Nat):Int)+v.1.1<=5;omega,s1,by show m+1+6*v.1.1.toNat<=m+31;omega⟩;rintro rec ⟨t,n,s2⟩ ⟨q,n0,O,hS,hl,I,hq⟩ ih;simp only at n0 O hS hl I hq ih ⊢;simp only[Q211.s0];refine Tot.cnd (λhn=>?_) λ_=>Tot.ret ⟨⟨O,hS,by show t.length<=5;omega⟩,I.up (by omega)⟩
 have hn:n>0:=of_decide_eq_true hn;rw[aJ (n:=n-1) (by omega) (by omega)];have go:∀ (z:Int) (J:Nat) (M:List Int×Int),0<=z->z<=1->(0<=u->z=u)->a8 b J M->J<=q+1->Tot ((Q210.f K (M,z,())).bind λR=>(Q36.f K (t,R.1.1,())).bind λy4=>rec (y4.1.1,n-1,R.2.1.1,R.2.1.2)) λr=>(aA r.1.1/\(0<=u->ca r.1.1 u)/\r.1.1.length<=5)/\a8 b (m+31) r.2.1:=λz J M z0 z1 hz a0 a1=>by
  refine Tot.bind (xz h a0 z z0 z1 (by omega)) λy ⟨⟨Z,X⟩,Y⟩=>Tot.vl (vF K t y.1.1 (by omega) O.2 hK) (ih (_,_,y.2.1) ⟨J+5,by show 0<=n-1;omega,ki O Z,λh9=>vS (hS h9) (by rw[X];exact hz h9),?_,Y,by show J+5+6*(n-1).toNat<=m+31;omega⟩ (by show (n-1).toNat<n.toNat;omega))
  have:=xA t y.1.1;show ((bR t y.1.1).1.length:Int)+(n-1)<=5;omega
 refine Tot.cnd (λH=>?_) λH=>?_
 ·have H:u<0:=of_decide_eq_true H;exact Tot.bind (az h I 2 (by decide) (by omega)) λv ⟨⟨a,b⟩,M⟩=>go v.1.1 (q+1) v.2.1 a (by omega) (λh9=>by omega) M (BS _)
 ·have H:¬ u<0:=of_decide_eq_false H;exact go u q s2 (by omega) h1 (λ_=>rfl) I (by omega)
theorem pV (h:fG b)(R:a8 b m s)(hm:m<=95000)(X:1048577<K):Tot (Q213.f K (s,())) λr=>r.1.1.length<=6/\a8 b (m+42) r.2.1:=by
 simp only[Q213.f];refine Tot.bind (nP h R (-1) (by decide) (by decide) (by omega) X) λt ⟨⟨hT,_,hl⟩,I⟩=>?_
 refine Tot.cnd (λJ=>?_) λ_=>Tot.ret ⟨by show t.1.1.length<=6;omega,I.up (by omega)⟩
 have J:(t.1.1.length:Int)>0:=of_decide_eq_true J;refine Tot.bind (az h I 12 (by decide) (by omega)) λv2 ⟨_,M⟩=>Tot.cnd (λ_=>?_) λ_=>Tot.ret ⟨by show t.1.1.length<=6;omega,M.up (by omega)⟩
 refine Tot.bind (az h M (t.1.1.length:Int) (by omega) (by omega)) λv3 ⟨⟨H,z⟩,O⟩=>Tot.bind (az h O 3 (by decide) (by omega)) λZ ⟨_,u⟩=>?_
 refine Tot.cnd (λ_=>Tot.bind (mU h u (by omega)) λf Y=>Tot.ix2 H z λ_ _ _=>Tot.ret ⟨by show (t.1.1.set _ _).length<=6;rw[BK];omega,Y.up (by omega)⟩) λ_=>?_
 refine Tot.cnd (λ_=>Tot.ix2 H z λy _ _=>Tot.fit (Tot.ret ⟨by show (t.1.1++[y]).length<=6;simp;omega,u.up (by omega)⟩) (by omega) (by simp;omega)) λ_=>Tot.ix2 H z λy _ _=>Tot.ret ⟨by show (t.1.1.set _ _).length<=6;rw[BK];omega,u.up (by omega)⟩
theorem Ab (h:fG b)(Z:a8 b m s)(u:Int)(R:-1<=u)(h1:u<=1)(hm:m<=95000)(hK:1048577<K):Tot (Q214.f K (s,u,())) λr=>r.1.1.length<=5/\a8 b (m+36) r.2.1:=by
 simp only[Q214.f,Q214.pre];refine Tot.bind (nP h Z u R h1 (by omega) hK) λt ⟨⟨hT,_,hl⟩,s1⟩=>?_
 refine Tot.iter (step:=λrec a=>Q214.s0 K (s,u,()) rec a) (λa=>a.2.1=t.1.1/\0<=a.2.2.1/\a.2.2.1<=t.1.1.length/\(a.1.length:Int)=a.2.2.1/\a8 b (m+31+a.2.2.1.toNat) a.2.2.2) (λa=>t.1.1.length-a.2.2.1.toNat) ?_ K _ (by show t.1.1.length-BE 0<K;omega) ⟨rfl,by show (0:Int)<=0;omega,by show (0:Int)<=_;omega,rfl,s1⟩;rintro rec ⟨H,t',i,s2⟩ ⟨e,M,X,J,z⟩ O;simp only at e M X J z O ⊢;subst e;simp only[Q214.s0];refine Tot.cnd (λI=>?_) λ_=>Tot.ret ⟨by show H.length<=5;omega,z.up (by omega)⟩
 have I:i<(t.1.1.length:Int):=of_decide_eq_true I;rw[aJ (n:=i+1) (by omega) (by omega)];refine Tot.ix2 M I λy _ _=>Tot.bind (az h z 4 (by decide) (by omega)) λv ⟨_,Y⟩=>Tot.fit (O (_,_,_,v.2.1) ⟨rfl,by show 0<=i+1;omega,by show i+1<=_;omega,?_,Y.up (by show _<=m+31+(i+1).toNat;omega)⟩ (by show t.1.1.length-(i+1).toNat<t.1.1.length-i.toNat;omega)) (by omega) (by simp;omega)
 show ((H++[_]).length:Int)=i+1;simp;omega
theorem vT (h:fG b)(X:a8 b m s)(hm:m<=94000)(Y:1048577<K):Tot (Q215.f K (s,())) λr=>r.1.1.length<=6/\a8 b (m+50) r.2.1:=by
 simp only[Q215.f];refine Tot.bind (Ab h X (-1) (by decide) (by decide) (by omega) Y) λt ⟨hl,J⟩=>?_
 refine Tot.cnd (λM=>?_) λ_=>Tot.ret ⟨by show t.1.1.length<=6;omega,J.up (by omega)⟩
 have M:(t.1.1.length:Int)>0:=of_decide_eq_true M;refine Tot.bind (az h J 10 (by decide) (by omega)) λv2 ⟨_,O⟩=>Tot.cnd (λ_=>?_) λ_=>Tot.ret ⟨by show t.1.1.length<=6;omega,O.up (by omega)⟩
 refine Tot.bind (az h O (t.1.1.length:Int) (by omega) (by omega)) λv3 ⟨⟨I,z⟩,R⟩=>Tot.bind (az h R 3 (by decide) (by omega)) λv4 ⟨_,u⟩=>?_
 refine Tot.cnd (λ_=>Tot.bind (az h u 2 (by decide) (by omega)) λv5 ⟨⟨a5,Z⟩,H⟩=>Tot.ix2 a5 Z λ_ _ _=>Tot.ix2 I z λ_ _ _=>Tot.ret ⟨by show (t.1.1.set _ _).length<=6;rw[BK];omega,H.up (by omega)⟩) λ_=>?_
 refine Tot.cnd (λ_=>Tot.bind (mU h u (by omega)) λf H=>Tot.ix2 I z λ_ _ _=>Tot.ret ⟨by show (t.1.1.set _ _).length<=6;rw[BK];omega,H.up (by omega)⟩) λ_=>?_
 exact Tot.ix2 I z λy _ _=>Tot.fit (Tot.ret ⟨by show (t.1.1++[y]).length<=6;simp;omega,u.up (by omega)⟩) (by omega) (by simp;omega)
theorem rl (h:fG b)(J:a8 b m s)(hm:m<=95000):Tot (Q216.f K (s,())) λr=>a8 b (m+6) r.2.1:=by
 simp only[Q216.f,Q151.f];refine Tot.bind (az h J 6 (by decide) (by omega)) λZ ⟨_,z⟩=>Tot.cnd (λ_=>Tot.ret (z.up (by omega))) λ_=>Tot.bind (az h z 3 (by decide) (by omega)) λv3 ⟨⟨X,O⟩,I⟩=>Tot.ix2 X O λy u _=>?_
 have u:InP y 10 100000:=by
  simp only[CD,CA,or_false]at u;rcases u with rfl|rfl|rfl <;> constructor <;> omega
 rw[aJ (n:=2*y) (by omega) (by omega),aJ (n:=2*y+1) (by omega) (by omega),aJ (n:=y+1) (by omega) (by omega)];exact Tot.bind (az h I _ (by omega) (by omega)) λv6 ⟨_,M⟩=>Tot.bind (az h M _ (by omega) (by omega)) λv7 ⟨_,Y⟩=>Tot.bind (az h Y _ (by omega) (by omega)) λv8 ⟨_,R⟩=>Tot.bind (az h R _ (by decide) (by omega)) λv9 ⟨_,H⟩=>Tot.ret H
theorem mf (h:fG b)(z:a8 b m s)(I:m<=94000):Tot (Q217.f K (s,())) λr=>a8 b (m+8) r.2.1:=by
 simp only[Q217.f];exact Tot.bind (rl h z (by omega)) λc H=>Tot.bind (az h H 16 (by decide) (by omega)) λJ ⟨_,y⟩=>Tot.cnd (λ_=>Tot.bind (az h y 3 (by decide) (by omega)) λv ⟨⟨a,b⟩,u⟩=>Tot.ix2 a b λ_ _ _=>Tot.ret u) λ_=>Tot.cnd (λ_=>Tot.bind (az h y 2 (by decide) (by omega)) λv ⟨⟨a,b⟩,u⟩=>Tot.ix2 a b λ_ _ _=>Tot.ret u) λ_=>Tot.cnd (λ_=>Tot.bind (az h y 2 (by decide) (by omega)) λv ⟨⟨a,b⟩,u⟩=>Tot.ix2 a b λ_ _ _=>Tot.ret u) λ_=>Tot.ret (y.up (by omega))
theorem xB (h:fG b)(z:a8 b m s)(w:bQ)(I:m<=95000):Tot (Q206.f K (s,w,())) λr=>a8 b (m+2) r.2.1:=by
 simp only[Q206.f];refine Tot.cnd (λ_=>Tot.ret (z.up (by omega))) λy=>?_
 have y:¬ (w.2.1.length:Int)=0:=by simpa using y
 refine Tot.bind (az h z 3 (by decide) (by omega)) λJ ⟨_,H⟩=>Tot.cnd (λ_=>Tot.cnd (λ_=>Tot.bind (az h H 4 (by decide) (by omega)) λv ⟨_,u⟩=>Tot.ret u) λ_=>?_) λ_=>?_ <;>
 exact Tot.bind (az h H _ (by show (1:Int)<=(w.2.1.length:Int);omega) (by omega)) λv ⟨_,u⟩=>Tot.ret u
theorem Ac (h:fG b)(Z:a8 b m s)(w:bQ)(hm:m<=94000):Tot (Q207.f K (s,w,())) λr=>a8 b (m+8) r.2.1:=by
 simp only[Q207.f];refine Tot.bind (az h Z 8 (by decide) (by omega)) λv1 ⟨_,s1⟩=>Tot.bind (az h s1 256 (by decide) (by omega)) λv2 ⟨_,s2⟩=>Tot.bind (az h s2 16 (by decide) (by omega)) λv3 ⟨_,Y⟩=>Tot.bind (az h Y 40 (by decide) (by omega)) λM ⟨_,y⟩=>?_
 have y:a8 b (m+4) M.2.1:=y.up (by omega);generalize M.2.1=z at y ⊢;have u4:a8 b (m+8) z:=y.up (by omega);have R:=xB (K:=K) h y w (by omega);have O:∀ n:Int,1<=n->Tot (Q150.f K (z,n,())) λr=>a8 b (m+8) r.2.1:=λn H=>(az h y n H (by omega)).mono λr I=>I.2.up (by omega)
 have X:∀ (J:List Int×Int) (n:Int),a8 b (m+4+2) J->1<=n->Tot (Q150.f K (J,n,())) λr=>a8 b (m+8) r.2.1:=λJ n h1 H=>(az h h1 n H (by omega)).mono λr I=>I.2.up (by omega)
 repeat' first
  |exact Tot.ret u4
  |exact Tot.bind R λv u=>Tot.ret (a8.up u (by omega))
  |exact Tot.bind R λv u=>Tot.bind (X _ _ u (by decide)) λv u=>Tot.ret u
  |exact Tot.bind (O _ (by decide)) λv u=>Tot.ret u
  |exact Tot.bind (O _ (by decide)) λv u=>Tot.cnd (λ_=>Tot.ret u) λ_=>Tot.ret u
  |refine Tot.cnd (λ_=>?_) λ_=>?_
theorem Ad (h:fG b)(hs:a8 b m s)(y:Int)(h1:1<=y)(h2:y<=200)(hm:m<=90000)(Y:1048577<K):Tot (Q208.f K (s,y,())) λr=>(WI r.1.2.1 2000/\r.1.1.length<=300)/\a8 b (m+8*y.toNat+2) r.2.1:=by
 simp only[Q208.f,Q208.pre];have O:∀ (H:List ag) (n:Int) (z:List Int×Int) (w:bQ) (q c:Nat),0<=n->n<y->H.length<=24->a8 b q z->q<=m+2->WI w c->c<=200->Tot (Q208.l1 K (s,y,()) (H,n,z.1,z.2,w)) λr=>(WI r.1.2.1 2000/\r.1.1.length<=300)/\a8 b (m+8*y.toNat+2) r.2.1:=λH n z w q c n0 n1 Z M hq I hc=>by
  refine Tot.iter (step:=λrec a=>Q208.s1 K (s,y,()) rec a) (λa=>∃ q c:Nat,0<=a.2.1/\a.2.1<y/\(a.1.length:Int)+a.2.1<=24+y/\a8 b q (a.2.2.1,a.2.2.2.1)/\q+8*a.2.1.toNat<=m+8*y.toNat+2/\WI a.2.2.2.2 c/\c+4*a.2.1.toNat<=2000) (λa=>a.2.1.toNat) ?_ K _ (by show n.toNat<K;omega) ⟨q,c,n0,n1,by show (H.length:Int)+n<=_;omega,M,by show q+8*n.toNat<=_;omega,I,by show c+4*n.toNat<=2000;omega⟩;clear M hq I hc n0 n1 Z;rintro rec ⟨H,n,z1,z2,w⟩ ⟨q,c,n0,n1,Z,M,hq,I,hc⟩ ih;simp only at n0 n1 Z M hq I hc ih ⊢;simp only[Q208.s1];refine Tot.cnd (λhn=>?_) λ_=>Tot.vl (I.copy (by omega) K Y) (Tot.ret ⟨⟨I.mono (by omega),by show H.length<=300;omega⟩,M.up (by omega)⟩)
  have hn:n>0:=of_decide_eq_true hn;rw[aJ (n:=n-1) (by omega) (by omega)];refine Tot.bind (Ac h M w (by omega)) λe he=>Tot.fit (Tot.vl (I.copy (by omega) K Y) (Tot.bind (do_t K w c I (by omega) e.1.1 Y) ?_)) (by omega) (by simp;omega)
  rintro⟨⟨v',ok,⟨⟩⟩,⟨⟩⟩ hv;have R:∀ u:bQ,WI u (c+4)->Tot (rec (H++[e.1.1],n-1,e.2.1.1,e.2.1.2,u)) λr=>(WI r.1.2.1 2000/\r.1.1.length<=300)/\a8 b (m+8*y.toNat+2) r.2.1:=λu hu=>ih _ ⟨q+8,c+4,by show 0<=n-1;omega,by show n-1<y;omega,by show ((H++[e.1.1]).length:Int)+(n-1)<=_;simp;omega,he,by show q+8+8*(n-1).toNat<=_;omega,hu,by show c+4+4*(n-1).toNat<=2000;omega⟩ (by show (n-1).toNat<n.toNat;omega)
  exact Tot.cnd (λ_=>R v' hv) λ_=>R w (I.mono (by omega))
 refine Tot.bind (vR K Y) λw0 X=>Tot.bind (az h hs 3 (by decide) (by omega)) λv2 ⟨_,s2⟩=>Tot.cnd (λ_=>?_) λ_=>Tot.bind (az h s2 y h1 (by omega)) λv9 ⟨⟨a9,b9⟩,s9⟩=>O [] v9.1.1 v9.2.1 w0.1.1 (m+2) 8 a9 b9 (by simp) s9 (BS _) X (by omega)
 refine Tot.iter (step:=λrec a=>Q208.s0 K (s,y,()) (Q208.l1 K (s,y,())) rec a) (λa=>0<=a.2.1/\a.2.1<=8/\(a.1.length:Int)<=3*a.2.1/\a8 b (m+1) (a.2.2.1,a.2.2.2.1)/\WI a.2.2.2.2 8) (λa=>8-a.2.1.toNat) ?_ K _ (by show 8-BE 0<K;omega) ⟨by show (0:Int)<=0;omega,by show (0:Int)<=8;omega,by show ((0:Nat):Int)<=3*0;omega,s2,X⟩;rintro rec ⟨H,i,z1,z2,w⟩ ⟨i0,i1,Z,M,I⟩ ih;simp only at i0 i1 Z M I ih ⊢;simp only[Q208.s0];refine Tot.cnd (λhi=>?_) λ_=>?_
 ·have hi:i<=7:=of_decide_eq_true hi;rw[aJ (n:=i+1) (by omega) (by omega)];have R:∀ J:List ag,(J.length:Int)<=3*(i+1)->Tot (rec (J,i+1,z1,z2,w)) λr=>(WI r.1.2.1 2000/\r.1.1.length<=300)/\a8 b (m+8*y.toNat+2) r.2.1:=λJ a0=>ih _ ⟨by show 0<=i+1;omega,by show i+1<=8;omega,a0,M,I⟩ (by show 8-(i+1).toNat<8-i.toNat;omega)
  exact Tot.cnd (λ_=>Tot.fit (Tot.fit (R _ (by simp;omega)) (by omega) (by simp;omega)) (by omega) (by simp;omega)) λ_=>R H (by omega)
 ·refine Tot.bind (AY K w 8 H I (by omega) (by omega) Y) λv ⟨hv,ev⟩=>Tot.bind (az h M y h1 (by omega)) λv4 ⟨⟨a4,b4⟩,s4⟩=>?_
  exact O v.2.1 v4.1.1 v4.2.1 v.1.1 (m+1+1) _ a4 b4 (by rw[ev];omega) s4 (by omega) hv (by omega)
theorem Ae (h:fG b)(z:a8 b m s)(y:m<=90000)(H:1048577<K):Tot (Q209.f K (s,())) λr=>WI r.1.1 2000/\a8 b (m+802) r.2.1:=by
 simp only[Q209.f];exact Tot.bind (Ad h z 100 (by decide) (by decide) y H) λv u=>Tot.ret ⟨u.1.1,u.2⟩
structure NS (c:Nat) (n:aa):Prop where
 nb:NB n
 table:(aa.table n).length<=c
 cast:(aa.cast n).length<=c
 doubts:(aa.doubts n).length<=c
 places:(aa.places n).length<=c
 others:(aa.others n).length<=c
theorem eh.ns {i:Nat}{n:aa}(h:eh i n):NS 8 n:=by
 cases y:n.2.1 with
 |true =>
  have r:=h.up y;refine⟨h.nb,by have:=h.short;omega,by have:=clen r.x.say;omega,?_,?_,?_⟩
  ·exact BJ (iM r.x.say.asc r.x.say.inp) (by decide)
  ·exact BJ (iM r.x.places.2 λx u=>(r.x.places.1 x u).1) (by decide)
  ·exact BJ (iM r.x.others.2 λx u=>⟨(r.x.others.1 x u).1.1,B6 (r.x.others.1 x u).1.2 (by decide)⟩) (by decide)
 |false =>
  have e:=h.down y;refine⟨h.nb,?_,?_,?_,?_,?_⟩ <;> rw[e] <;> exact BO _
theorem xC (h:fG b)(hs:a8 b m s)(n:aa){c:Nat}(hn:NS c n)(h8:8<=c)(hc:c<=1000)(hm:m<=90000)(hK:1048577<K):Tot (Q218.f K (s,n,())) λr=>NS (c+1) r.1.1/\a8 b (m+60) r.2.1:=by
 simp only[Q218.f,zcp4,zcp8];rw[mK K n hn.nb hK];simp only[BA];obtain⟨⟨n1,n2,Y,X,n5,O,n7,R⟩,l1,l2,Z,l4,l5⟩:=hn;refine Tot.bind (az h hs 12 (by decide) (by omega)) λv2 ⟨_,I⟩=>?_
 have y:∀ (n':aa) (z:List Int×Int),n'.2.2.2.2.2.2.2.2=n.2.2.2.2.2.2.2.2->a8 b (m+60) z->NS (c+1) n'/\a8 b (m+60) z:=λn' z e hz=>by
  refine⟨⟨⟨?_,?_,?_,?_,?_,?_,?_,?_⟩,?_,?_,?_,?_,?_⟩,hz⟩ <;> simp only[aa.table,aa.cast,aa.doubts,aa.places,aa.others] <;> rw[e] <;> first|assumption|(refine BJ ?_ (Bx c);assumption)
 have u2:a8 b (m+60) v2.2.1:=I.up (by omega);refine Tot.cnd (λ_=>Tot.bind (pV h I (by omega) hK) λt ⟨tl,J⟩=>Tot.ret ⟨⟨⟨by show t.1.1.length<=_;omega,n2,Y,X,n5,O,n7,R⟩,by show t.1.1.length<=_;omega,BB l2,BB Z,BB l4,BB l5⟩,J.up (by omega)⟩) λ_=>?_
 refine Tot.cnd (λ_=>Tot.bind (vT h I (by omega) hK) λt ⟨tl,J⟩=>Tot.ret ⟨⟨⟨n1,by show t.1.1.length<=_;omega,Y,X,n5,O,n7,R⟩,BB l1,by show t.1.1.length<=_;omega,BB Z,BB l4,BB l5⟩,J.up (by omega)⟩) λ_=>?_
 refine Tot.cnd (λ_=>Tot.ret (y _ _ rfl u2)) λ_=>?_
 refine Tot.cnd (λ_=>Tot.bind (az h I 9 (by decide) (by omega)) λv5 ⟨_,s5⟩=>Tot.bind (az h s5 3 (by decide) (by omega)) λv6 ⟨_,s6⟩=>Tot.bind (az h s6 3 (by decide) (by omega)) λv7 ⟨_,s7⟩=>Tot.bind (az h s7 2 (by decide) (by omega)) λv8 ⟨_,s8⟩=>Tot.ret ⟨⟨⟨n1,n2,Y,X,n5,O,n7,R⟩,BB l1,BB l2,BB Z,BB l4,BB l5⟩,s8.up (by omega)⟩) λ_=>?_
 refine Tot.cnd (λ_=>Tot.bind (az h I 8 (by decide) (by omega)) λv9 ⟨_,M⟩=>Tot.bind (az h M 8 (by decide) (by omega)) λa0 ⟨_,H⟩=>Tot.fit (Tot.ret ⟨⟨⟨n1,n2,?_,?_,n5,O,n7,R⟩,BB l1,BB l2,?_,BB l4,BB l5⟩,H.up (by omega)⟩) (by omega) ?_) λ_=>?_
 ·show (aa.doubts n++[_]).length<=_;simp;omega
 ·intro d u;rcases BM.1 u with u|u
  ·exact X d u
  ·rw[BG.1 u];show ([a0.1.1]:List Int).length<=_;simp
 ·show (aa.doubts n++[_]).length<=_;simp;omega
 ·show (aa.doubts n).length+_<=_;simp;omega
 refine Tot.cnd (λ_=>Tot.bind (mf h I (by omega)) λc J=>Tot.ret ⟨⟨⟨n1,n2,Y,X,n5,O,n7,R⟩,BB l1,BB l2,BB Z,BB l4,BB l5⟩,J.up (by omega)⟩) λ_=>?_
 refine Tot.cnd (λ_=>Tot.bind (az h I 9 (by decide) (by omega)) λv9 ⟨_,M⟩=>Tot.bind (mf h M (by omega)) λc H=>Tot.bind (az h H 3 (by decide) (by omega)) λa1 ⟨_,a2⟩=>Tot.fit (Tot.ret ⟨⟨⟨n1,n2,Y,X,?_,?_,n7,R⟩,BB l1,BB l2,BB Z,?_,BB l5⟩,a2.up (by omega)⟩) (by omega) ?_) λ_=>?_
 ·show (aa.places n++[_]).length<=_;simp;omega
 ·intro d u;rcases BM.1 u with u|u
  ·exact O d u
  ·rw[BG.1 u];show ([a1.1.1]:List Int).length<=_;simp
 ·show (aa.places n++[_]).length<=_;simp;omega
 ·show (aa.places n).length+_<=_;simp;omega
 refine Tot.cnd (λ_=>Tot.bind (az h I 3 (by decide) (by omega)) λv9 ⟨_,M⟩=>Tot.bind (pV h M (by omega) hK) λt ⟨tl,H⟩=>Tot.fit (Tot.ret ⟨⟨⟨n1,n2,Y,X,n5,O,?_,?_⟩,BB l1,BB l2,BB Z,BB l4,?_⟩,H.up (by omega)⟩) (by omega) ?_) λ_=>?_
 ·show (aa.others n++[_]).length<=_;simp;omega
 ·intro d u;rcases BM.1 u with u|u
  ·exact R d u
  ·rw[BG.1 u];show t.1.1.length<=_;omega
 ·show (aa.others n++[_]).length<=_;simp;omega
 ·show (aa.others n).length+_<=_;simp;omega
 refine Tot.cnd (λ_=>Tot.ret (y _ _ rfl u2)) λ_=>Tot.cnd (λ_=>Tot.ret (y _ _ rfl u2)) λ_=>?_
 refine Tot.cnd (λ_=>Tot.bind (az h I 3 (by decide) (by omega)) λv ⟨⟨a,b⟩,J⟩=>Tot.ix2 a b λ_ _ _=>Tot.ret (y _ _ rfl (J.up (by omega)))) λ_=>?_
 exact Tot.bind (az h I 8 (by decide) (by omega)) λv9 ⟨_,M⟩=>Tot.bind (az h M 3 (by decide) (by omega)) λv ⟨⟨a,b⟩,J⟩=>Tot.ix2 a b λ_ _ _=>Tot.ret (y _ _ rfl (J.up (by omega)))
end
section
variable {K:Nat} {b:List Int} {m:Nat} {s:List Int×Int}
end
theorem a8.zero (b:List Int):a8 b 0 (b,0):=⟨0,BS _,rfl⟩
structure xD (code:List Int):Prop where
 byte:∀ y∈code,0<=y/\y<=255
 len:code.length<=9223372036854775807
theorem ol (K:Nat)(xs:List Int)(y:xs.length<=1048576)(z:1048577<K):Q225.f K (xs,xs,())=rb true:=by
 have r:Q225.l0 K (xs,xs,()) 0=rb true:=by
  refine fk (step:=λrec a=>Q225.s0 K (xs,xs,()) rec a) xs.length (λi=>(i:Int)) (rb true) ?_ ?_ (by omega)
  ·intro rec i u;simp only[Q225.s0];rw[decide_eq_true (by omega:(i:Int)<(BD xs:Int)),af u,ar i (by omega)];simp only[cond_true,BA,bne_self_eq_false,cond_false]
  ·intro rec;simp only[Q225.s0,aR];rfl
 simp only[Q225.f,Q225.pre,bne_self_eq_false,cond_false];exact r
theorem tm (K:Nat)(xs:List aL)(y:xs.length<=1048576)(z:1048577<K):Q224.f K (xs,xs,())=rb true:=by
 have r:Q224.l0 K (xs,xs,()) 0=rb true:=by
  refine fk (step:=λrec a=>Q224.s0 K (xs,xs,()) rec a) xs.length (λi=>(i:Int)) (rb true) ?_ ?_ (by omega)
  ·intro rec i u;simp only[Q224.s0];rw[decide_eq_true (by omega:(i:Int)<(BD xs:Int)),af u,ar i (by omega)];simp only[cond_true,BA];rw[show Ty.eqv t3 xs[i] xs[i]=true by
    show (Ty.eqv t2 xs[i].1 xs[i].1&&decide (xs[i].2=xs[i].2))=true;rw[show Ty.eqv t2 xs[i].1 xs[i].1=decide (xs[i].1=xs[i].1) from gS _ _,decide_eq_true rfl,decide_eq_true rfl];rfl]
   rfl
  ·intro rec;simp only[Q224.s0,aR];rfl
 simp only[Q224.f,Q224.pre,bne_self_eq_false,cond_false];exact r
theorem uo (K:Nat)(n:aa)(u:NB n)(y:1048577<K):Q226.f K (n,n,())=rb true:=by
 have I:Q226.l2 K (n,n,()) 0=rb true:=by
  have z:=u.others;refine fk (step:=λrec a=>Q226.s2 K (n,n,()) rec a) (aa.others n).length (λi=>(i:Int)) (rb true) ?_ ?_ (by omega)
  ·intro rec i r;simp only[Q226.s2];rw[bm (by omega:(i:Int)<(BD (aa.others n):Int)),af r,ar i (by omega)];simp only[cond_true,BA,bne_self_eq_false,cond_false];refine (congrArg (λo=>BC o _) (iO K _ (u.facts _ (BI r)) y)).trans rfl
  ·intro rec;simp only[Q226.s2,aR];rfl
 have H:Q226.l1 K (n,n,()) 0=rb true:=by
  have z:=u.places;refine fk (step:=λrec a=>Q226.s1 K (n,n,()) (Q226.l2 K (n,n,())) rec a) (aa.places n).length (λi=>(i:Int)) (rb true) ?_ ?_ (by omega)
  ·intro rec i r;simp only[Q226.s1];rw[bm (by omega:(i:Int)<(BD (aa.places n):Int)),af r,ar i (by omega)];simp only[cond_true,BA,bne_self_eq_false,cond_false];rw[show Ty.eqv t9 (aa.places n)[i].2.1 (aa.places n)[i].2.1=decide ((aa.places n)[i].2.1=(aa.places n)[i].2.1) from pA _ _,decide_eq_true rfl];simp only[BH,cond_false];refine (congrArg (λo=>BC o _) (ol K _ (u.trips _ (BI r)) y)).trans rfl
  ·intro rec;simp only[Q226.s1,aR];exact I
 have J:Q226.l0 K (n,n,()) 0=rb true:=by
  have z:=u.doubts;refine fk (step:=λrec a=>Q226.s0 K (n,n,()) (Q226.l1 K (n,n,())) rec a) (aa.doubts n).length (λi=>(i:Int)) (rb true) ?_ ?_ (by omega)
  ·intro rec i r;simp only[Q226.s0];rw[bm (by omega:(i:Int)<(BD (aa.doubts n):Int)),af r,ar i (by omega)];simp only[cond_true,BA,bne_self_eq_false,cond_false];refine (congrArg (λo=>BC o _) (ol K _ (u.by_ _ (BI r)) y)).trans rfl
  ·intro rec;simp only[Q226.s0,aR];exact H
 simp only[Q226.f,Q226.pre,bne_self_eq_false,cond_false];refine (congrArg (λo=>BC o _) (iO K (aa.table n) u.table y)).trans ?_;simp only[rb,BA,BH,cond_false];refine (congrArg (λo=>BC o _) (tm K (aa.cast n) u.cast y)).trans ?_;simp only[rb,BA,BH,cond_false];rw[show Ty.eqv t2 n.2.2.2.2.2.2.2.2.2.2.1 n.2.2.2.2.2.2.2.2.2.2.1=decide (aa.probe n=aa.probe n) from gS _ _,show Ty.eqv t9 n.2.2.2.2.2.2.2.2.2.2.2.2.1 n.2.2.2.2.2.2.2.2.2.2.2.2.1=decide (aa.coord n=aa.coord n) from pA _ _,decide_eq_true rfl,decide_eq_true rfl];exact J
section
variable {K:Nat} {b:List Int} {m:Nat} {s:List Int×Int}
theorem yM {v:Int}(r:0<=v)(u:v<8):0<=wr .i64 (CC v 4)/\wr .i64 (CC v 4)<=1:=by
 have:am v=v / 4:=jb ⟨r,by omega⟩;have e:wr .i64 (CC v 4)=v / 4:=this;rw[e];omega
theorem yN (h:fG b)(hs:a8 b m s)(hm:m<=90000)(O:1048577<K):Tot (Q219.f K (s,())) λr=>(aj.table r.1.1).length<=5/\a8 b (m+100) r.2.1:=by
 simp only[Q219.f];refine Tot.bind (az h hs 8 (by decide) (by omega)) λR ⟨⟨a1,b1⟩,s1⟩=>Tot.bind (az h s1 6 (by decide) (by omega)) λv2 ⟨_,s2⟩=>Tot.bind (az h s2 4 (by decide) (by omega)) λv3 ⟨_,Z⟩=>Tot.bind (az h Z 9 (by decide) (by omega)) λv4 ⟨_,X⟩=>Tot.bind (az h X 3 (by decide) (by omega)) λv5 ⟨⟨a5,b5⟩,s5⟩=>Tot.ix2 a5 b5 λy _ _=>?_
 obtain⟨q0,q1⟩:=yM a1 b1;refine Tot.bind (az h s5 4 (by decide) (by omega)) λv8 ⟨_,s8⟩=>Tot.bind (rl h s8 (by omega)) λc Y=>Tot.bind (nP h Y (wr .i64 (CC R.1.1 4)) (by omega) q1 (by omega) O) λt ⟨⟨_,_,t3⟩,u⟩=>?_
 refine Tot.cnd (λ_=>?_) λ_=>Tot.ret ⟨t3,u.up (by omega)⟩
 refine Tot.bind (az h u 2 (by decide) (by omega)) λJ ⟨⟨a2,a4⟩,M⟩=>Tot.bind (nP h M J.1.1 (by omega) (by omega) (by omega) O) λt' ⟨⟨_,_,t4⟩,I⟩=>Tot.bind (az h I 2 (by decide) (by omega)) λa3 ⟨_,z⟩=>Tot.cnd (λ_=>?_) λ_=>Tot.ret ⟨t4,z.up (by omega)⟩
 exact Tot.bind (az h z 4 (by decide) (by omega)) λa0 ⟨_,H⟩=>Tot.ret ⟨t4,H.up (by omega)⟩
theorem xE (h:fG b)(H:a8 b m s)(M:m<=89000)(J:1048577<K):Tot (Q220.f K (s,())) λr=>(aj.table r.1.1).length<=6/\a8 b (m+120) r.2.1:=by
 simp only[Q220.f,zcp4];refine Tot.bind (yN h H (by omega) J) λw ⟨O,I⟩=>Tot.bind (az h I 16 (by decide) (by omega)) λR ⟨_,z⟩=>?_
 have u:(aj.table w.1.1).length<=6:=by omega
 refine Tot.cnd (λ_=>Tot.bind (az h z 2 (by decide) (by omega)) λv ⟨⟨a,c⟩,y⟩=>Tot.ix2 a c λ_ _ _=>Tot.ret ⟨u,y.up (by omega)⟩) λ_=>?_
 refine Tot.cnd (λ_=>Tot.bind (az h z 4 (by decide) (by omega)) λv ⟨_,y⟩=>Tot.ret ⟨u,y.up (by omega)⟩) λ_=>?_
 refine Tot.cnd (λ_=>Tot.bind (mf h z (by omega)) λv y=>Tot.ret ⟨u,y.up (by omega)⟩) λ_=>?_
 refine Tot.cnd (λ_=>Tot.bind (mU h z (by omega)) λv y=>Tot.fit (Tot.ret ⟨?_,y.up (by omega)⟩) (by omega) (by show (aj.table w.1.1).length+_<=_;simp;omega)) λ_=>?_
 ·show (aj.table w.1.1++[_]).length<=6;simp;omega
 refine Tot.cnd (λ_=>Tot.bind (az h z 2 (by decide) (by omega)) λv ⟨⟨a,c⟩,y⟩=>Tot.ix2 a c λ_ _ _=>Tot.ret ⟨u,y.up (by omega)⟩) λ_=>?_
 refine Tot.cnd (λ_=>Tot.bind (az h z 2 (by decide) (by omega)) λv ⟨⟨a,c⟩,y⟩=>Tot.ix2 a c λ_ _ _=>Tot.ret ⟨u,y.up (by omega)⟩) λ_=>Tot.ret ⟨u,z.up (by omega)⟩
theorem to_t (h:fG b)(hs:a8 b m s)(w:bQ)(n:aa)(hr:fP w.2.1)(hm:m<=80000)(hK:1048577<K):Tot (Q221.f K (s,w,n,())) λr=>(aj.table r.1.1).length<=1048576:=by
 refine Tot.iter (step:=λrec a=>Q221.s0 K (s,w,n,()) rec a) (λa=>∃ i:Nat,i<=3/\a.1=(i:Int)/\a8 b (m+i) a.2) (λa=>3-a.1.toNat) ?_ K _ (by show 3-BE 0<K;omega) ⟨0,by omega,rfl,hs⟩;rintro rec ⟨i',z⟩ ⟨i,hi,e,J⟩ ih;have e:i'=(i:Int):=e;subst e;have J:a8 b (m+i) z:=J;have u:Tot ((Q220.f K (z,())).bind λH=>(Q150.f K (H.2.1,10,())).bind λX=>bif decide (X.1.1>0) then some ((((H.1.1.1,H.1.1.2.1,H.1.1.2.2.1,n.1,H.1.1.2.2.2.2),()),X.2.1,()):(aj×Unit)×(List Int×Int)×Unit) else some ((H.1.1,()),X.2.1,())) λr=>(aj.table r.1.1).length<=1048576 :=
  Tot.bind (xE h J (by omega) hK) λv ⟨hv,I⟩=>Tot.bind (az h I 10 (by decide) (by omega)) λ_ _=>Tot.cnd (λ_=>Tot.ret (show (aj.table v.1.1).length<=1048576 by omega)) λ_=>Tot.ret (show (aj.table v.1.1).length<=1048576 by omega)
 simp only[Q221.s0];refine Tot.cnd (λZ=>Tot.cnd (λh0=>?_) λ_=>u) λ_=>u
 have Z:(i:Int)<3:=of_decide_eq_true Z;have h0:(w.2.1.length:Int)>0:=of_decide_eq_true h0;rw[ar i (by omega)];refine Tot.bind (az h J (w.2.1.length:Int) (by omega) (by omega)) λv1 ⟨⟨a1,b1⟩,I⟩=>Tot.ix a1 b1 λy hy _=>?_
 have a0:=(hr.2 y hy).2;have next:∀ Y,a8 b (m+(i+1)) Y->Tot (rec (((i+1:Nat):Int),Y)) λr=>(aj.table r.1.1).length<=1048576:=λY O=>ih _ ⟨i+1,by omega,rfl,O⟩ (by show 3-BE ((i+1:Nat):Int)<3-BE (i:Int);omega)
 refine Tot.bind (ma K y.2.1 (by omega) hK) λv3 M=>Tot.cnd (λR=>?_) λ_=>next _ I
 have hW:=M R;rw[dj K,dj K];simp only[BA];exact Tot.cnd (λ_=>Tot.cnd (λ_=>Tot.ret (show (aj.table v3.1.1).length<=1048576 from bX hW.2.2.2.2.2.2.2.1)) λ_=>next _ I) λ_=>next _ I
end
theorem vU (K:Nat)(u:List Int)(R:xD u)(H:1048577<K):Tot (Q222.f K (u,())) λr=>NS 9 r.1.1/\(aj.table r.1.2.1).length<=1048576:=by
 obtain⟨bs,z,e⟩:=AZ (K:=K) u R.byte R.len;simp only[Q222.f];refine Tot.vl e (Tot.bind (Ae z (a8.zero bs) (by omega) H) λw ⟨I,s1⟩=>Tot.bind (az z s1 _ (by have:=I.len;show (1:Int)<=(w.1.1.1.length:Int);omega) (by omega)) λv3 ⟨⟨a3,b3⟩,s3⟩=>Tot.ix a3 b3 λy hy _=>?_);obtain⟨i,Z,rfl⟩:=BW hy;have M:=(I.node i Z).ns;refine Tot.bind (az z s3 24 (by decide) (by omega)) λv5 ⟨_,O⟩=>Tot.cnd (λ_=>?_) λ_=>?_
 ·exact Tot.bind (xC z O _ M (BS _) (by omega) (by omega) H) λv6 ⟨J,s6⟩=>Tot.bind (to_t z s6 w.1.1 v6.1.1 I.radio (by omega) H) λv7 h7=>Tot.ret ⟨J,h7⟩
 ·refine Tot.bind (to_t z O w.1.1 _ I.radio (by omega) H) λv8 h8=>Tot.ret ⟨?_,h8⟩
  obtain⟨h1,h2,X,h4,Y,h6⟩:=M;exact⟨h1,BB h2,BB X,BB h4,BB Y,BB h6⟩
theorem uq (K:Nat)(w:aj)(r:(aj.table w).length<=1048576)(u:1048577<K):Q227.f K (w,w,())=rb true:=by
 simp only[Q227.f,beq_self_eq_true,cond_true];rw[show Ty.eqv t9 w.2.2.2.2.2.2.1 w.2.2.2.2.2.2.1=decide (w.2.2.2.2.2.2.1=w.2.2.2.2.2.2.1) from pA _ _,decide_eq_true rfl];simp only[cond_true];exact (congrArg (λo=>BC o _) (iO K (aj.table w) r u)).trans rfl
theorem tn (K:Nat)(xs:List aj)(H:xs.length<=1048576)(y:∀ w∈xs,(aj.table w).length<=1048576)(z:1048577<K):Q228.f K (xs,xs,())=rb true:=by
 have u:Q228.l0 K (xs,xs,()) 0=rb true:=by
  refine fk (step:=λrec a=>Q228.s0 K (xs,xs,()) rec a) xs.length (λi=>(i:Int)) (rb true) ?_ ?_ (by omega)
  ·intro rec i r;simp only[Q228.s0];rw[bm (by omega:(i:Int)<(BD xs:Int)),af r,ar i (by omega)];simp only[cond_true,BA];exact (congrArg (λo=>BC o _) (uq K _ (y _ (BI r)) z)).trans rfl
  ·intro rec;simp only[Q228.s0,aR];rfl
 simp only[Q228.f,Q228.pre,bne_self_eq_false,cond_false];exact u
theorem yO (K:Nat)(n:aa)(w:aj)(O:NB n)(R:(aj.table w).length<=1048576)(z:w.2.1≠2)(u:1048577<K):∃ (y:aa) (r:List aj) (b:Bool),NB y/\r.length<=1/\(∀ x∈r,(aj.table x).length<=1048576)/\Q63.f K (n,w,())=some ((y,r,()),())/\Q148.f K (n,w,())=some ((y,r,()),()) /\
  Q226.f K (y,y,())=rb true/\Q228.f K (r,r,())=rb true/\Q229.f K (n,w,())=rb b/\Q104.f K (n,w,())=rb b/\(b=true->fE n/\dJ w/\gu n w/\y=(bG K n w).1/\r=(bG K n w).2):=by
 obtain⟨y,r,H,hl,I,Y,e2,Z,_,_⟩:=un K n w O R z u;obtain⟨b,t1,t2,t3⟩:=pU K n w O R u;exact⟨y,r,b,H,hl,I,Y,e2,uo K y H u,tn K r (by omega) I u,t1,t2,λhb=>by
  obtain⟨M,J,X⟩:=t3.1 hb;exact⟨M,J,X,Z ⟨M,J,X⟩⟩⟩
end Go.Proofs.YtaelpfghkndliaaGreatEv
