/- What a node answers, by the specification. -/
import Derived.Test.YtadlacffdemoiaaGreatP2
set_option linter.unusedVariables false
set_option linter.unusedSimpArgs false
open Bool renaming not_true->B6,eq_iff_iff->CC,not_false->CK,true_and->CS,false_eq_true->CU,and_eq_true->CY,not_eq_true'->Cl,not_eq_true->Co,or_false->Cu
open Classical renaming not_not->Cm
open Iff renaming rfl->Cg
open Int renaming toNat->B3,toNat_natCast->B4,le_refl->CA,eq_ofNat_of_zero_le->CL,toNat_zero->CV,tmod->CW,fdiv->CZ,le_trans->Cb,toNat_of_nonneg->Ch,tmod_lt_of_pos->Cj,tmod_nonneg->Cs,tdiv->Ct
open List renaming length->BY,mem_singleton->BZ,mem_append->B5,getElem_mem->B7,mem_cons->B9,mem_append_left->CB,length_set->CD,getElem_of_mem->CE,length_append->CF,mem_map->CI,getElem?_eq_getElem->CJ,nil_append->CM,mem_append_right->CN,drop_zero->CO,mem_cons_of_mem->CP,mem_of_mem_take->CQ,length_take->CR,mem_filter->CT,take_length->CX,length_drop->Ca,length_map->Cc,length_nil->Cd,length_filter_le->Ce,pairwise_cons->Ci,take_add_one->Cn,length_cons->Cp,not_mem_nil->Cq,append_nil->Cr
open Nat renaming le_succ_of_le->BX,le_trans->B8,le_refl->CG,zero_le->CH,le_succ->Cf,lt_or_eq_of_le->Ck
open Option renaming bind_some->BV,bind->BW
namespace Go.Proofs.YtadlacffdemoiaaGreatEv
open Go
theorem qI (K:Nat)(l:List Int)(t:Int)(u:l.length<=1048576):Q45.f K (l,t,())=some ((hM l t,()),()):=by
 simp only[Q45.f];rw[szb _ _ _ (by omega) (by show (BY ([]:List Int))+l.length<=_;simp;omega)];simp only[cond_true,CM];rw[szb _ _ _ (by omega) (by show l.length+[t].length<=_;simp;omega)];simp only[cond_true];have r:(l++[t]).length=l.length+1:=by simp
 show (bif decide (((l++[t]).length:Int)>3) then (bif decide (0<=wr .i64 (((l++[t]).length:Int)-3))&&decide (wr .i64 (((l++[t]).length:Int)-3)<=((l++[t]).length:Int))&&decide (((l++[t]).length:Int)<=((l++[t]).length:Int))&&true then some ((((l++[t]).take (B3 ((l++[t]).length:Int))).drop (B3 (wr .i64 (((l++[t]).length:Int)-3))),()),()) else none) else some ((l++[t],()),()))=_;by_cases h:l.length+1>3
 ·rw[aJ (by omega) (by omega),decide_eq_true (by omega:((l++[t]).length:Int)>3),decide_eq_true (by omega:(0:Int)<=((l++[t]).length:Int)-3),decide_eq_true (by omega:((l++[t]).length:Int)-3<=((l++[t]).length:Int)),decide_eq_true (CA _)];simp only[Bool.and_self,cond_true,hM];rw[show B3 (((l++[t]).length:Int)-3)=(l++[t]).length-3 by omega,B4,CX]
 ·rw[decide_eq_false (by omega:¬ ((l++[t]).length:Int)>3)];simp only[cond_false,hM];rw[show (l++[t]).length-3=0 by omega,CO]
theorem plen {u:Int}{l:List dL}(h:eB u l):l.length<=1048576:=B8 (iU h.2 λx r=>(h.1 x r).1) (by decide)
theorem uD {u:Int}{l:List dL}(h:eB u l)(r:Int):(dI l r).length<=3:=by
 unfold dI;cases y:l.find? λp=>p.1==r with
 |none=>simp
 |some p =>
  have:=(h.1 p (List.mem_of_find?_eq_some y)).2.2.2.2.1.2;show p.2.2.length<=3;omega
theorem Az (K:Nat)(l:List dL)(r:Int)(c:dA)(t:Int)(me:Int)(h:eB me l)(hK:1048577<K):Q46.f K (l,r,c,t,())=some ((pm l r c t,()),()):=by
 have hl:=plen h;have h3:=uD h r;refine rA (step:=λrec a=>Q46.s0 K (l,r,c,t,()) rec a) (λx:dL=>x.1) (r,c,hM (dI l r) t) l h.2 (λu i=>(u,false,(i:Int),[])) (λu i=>(u,true,(i:Int),hM (dI l r) t)) (λo=>some ((o,()),())) ?_ ?_ ?_ ?_ (by omega)
 ·intro rec u i I O z;simp only[Q46.s0];rw[bj (by omega:(i:Int)<(BY l:Int)),ag I,ar i (by omega)];simp only[cond_true,BV,CK];have R:=szb u.length 1 64 (by omega) (by omega);have Z:=szb (u++[(r,c,hM (dI l r) t)]).length 1 64 (by omega) (by simp;omega);have X:l[i].1=r->dI l r=l[i].2.2:=λe=>by unfold dI;rw[md h.2 I e];rfl
  have M:r<l[i].1->dI l r=[]:=λe=>by
   unfold dI;rw[nY (k:=λp:dL=>p.1)]
   ·rfl
   intro y J;obtain⟨j,hj,rfl⟩:=CE J;by_cases a0:j<i
   ·have:=z l[j] (by rw[List.mem_take_iff_getElem];exact⟨j,by omega,rfl⟩);show l[j].1≠r;have:l[j].1<r:=this;omega
   ·have:l[i].1<=l[j].1:=by
     by_cases e:i=j
     ·subst e;exact CA _
     ·exact Int.le_of_lt (ci.1 h.2 i j I hj (by omega))
    show l[j].1≠r;omega
  have a1:=(h.1 _ (B7 I)).2.2.2.2.1.2;generalize l[i]=y at *;by_cases Y:y.1<r
  ·rw[if_pos Y,show decide (y.1>=r)=false from decide_eq_false (by omega),show (y.1 != r)=true by simp;omega,show (y.1==r)=false by simp;omega];exact (congrArg (λb=>bif b then _ else _) R).trans rfl
  ·rw[if_neg Y,show decide (y.1>=r)=true from decide_eq_true (by omega)];by_cases H:y.1=r
   ·rw[if_pos H,show (y.1 != r)=false by simpa using H,show (y.1==r)=true by simpa using H];simp only[cond_true,cond_false];rw[<- X H];refine (congrArg (λo=>BW o _) (qI K _ t (by omega))).trans ?_;exact (congrArg (λb=>bif b then _ else _) R).trans rfl
   ·rw[if_neg H,show (y.1 != r)=true by simpa using H,show (y.1==r)=false by simpa using H];simp only[cond_true,cond_false];have e:=M (by omega);rw[e]at Z ⊢;refine (congrArg (λo=>BW o _) (qI K [] t (by simp))).trans ?_;refine (congrArg (λb=>bif b then _ else _) R).trans ?_;exact (congrArg (λb=>bif b then _ else _) Z).trans rfl
 ·intro rec u i I O hc;simp only[Q46.s0];rw[bj (by omega:(i:Int)<(BY l:Int)),ag I,ar i (by omega)];have hc:r<l[i].1:=hc;simp only[cond_true,BV,B6,cond_false];rw[show (l[i].1 != r)=true by simp;omega,show (l[i].1==r)=false by simp;omega];exact (congrArg (λb=>bif b then _ else _) (szb u.length 1 64 (by omega) (by omega))).trans rfl
 ·intro rec u O z;simp only[Q46.s0,aP,cond_false,CK,cond_true];have e:dI l r=[]:=by
   unfold dI;rw[nY (k:=λp:dL=>p.1) (λy J=>by have:y.1<r:=z y J;show y.1≠r;omega)];rfl
  rw[e];refine (congrArg (λo=>BW o _) (qI K [] t (by simp))).trans ?_;exact (congrArg (λb=>bif b then _ else _) (szb u.length 1 64 (by omega) (by omega))).trans rfl
 ·intro rec u O;simp only[Q46.s0,aP,cond_false,B6]
def tA (n r u:Int):Int:=if n<r then r else if n>u then u else n
theorem zR (K:Nat)(n y z:Int):Q44.f K (n,y,z,())=some ((tA n y z,()),()):=by
 simp only[Q44.f,tA];by_cases u:n<y
 ·rw[decide_eq_true u,if_pos u];rfl
 ·rw[decide_eq_false u,if_neg u];by_cases r:n>z
  ·rw[decide_eq_true r,if_pos r];rfl
  ·rw[decide_eq_false r,if_neg r];rfl
theorem AA {n r u:Int}(h:r<=u):InP (tA n r u) r u:=by
 unfold tA;split
 ·exact⟨CA _,h⟩
 ·split
  ·exact⟨h,CA _⟩
  ·exact⟨by omega,by omega⟩
def xS (n:aa):Int:=tA ((cg n-(aa.probe n).2.1)*1000+500) 1 60000
noncomputable def qJ (K:Nat)(w:aj)(c:dA)(p:dL):dA:=bif p.1==w.2.2.1 then p9 K c (aj.coord w) (sv K p.2.2) w.2.2.2.2.1 else c
def ku (n:aa)(w:aj):List dL:=pm (aa.places n) w.2.2.1 (aj.coord w) (xS n)
def qK (n:aa)(w:aj):Bool:=!decide ((aa.probe n).1<0)&&(aa.probe n).1==w.2.2.1&&(aa.probe n).2.2.1==w.2.2.2.2.1&&w.2.2.2.2.2.1==w.2.2.1
noncomputable def fh (K:Nat)(n:aa)(w:aj):aa:=bif qK n w then p7 n ((ku n w).foldl (qJ K w) (aa.coord n)) (ku n w) else n
theorem vf {K:Nat}{w:aj}{c:dA}{p:dL}(r:cG c)(u:1048577<K):cG (qJ K w c p):=by
 unfold qJ;cases p.1==w.2.2.1 with
 |false=>exact r
 |true=>exact (xP K c _ _ _ r u).2
theorem tB {n:aa}(h:UpX n)(H:¬ (aa.probe n).1<0):(aa.probe n).1≠n.1/\InP (aa.probe n).1 0 7/\ak (aa.probe n).1=ak n.1/\InP (aa.probe n).2.1 0 (cg n):=by
 have r:=h.probe;unfold c8 at r;rw[if_neg (by omega)]at r;obtain⟨y,⟨f,u,e⟩,z,_⟩:=r;exact⟨y,e ▸ (h.table.1 f u).1,e ▸ h.site f u,z⟩
theorem vg {n:aa}{w:aj}(h:UpX n)(I:cG (aj.coord w))(u:qK n w=true):eB n.1 (ku n w):=by
 simp only[qK,CY,Cl,decide_eq_false_iff_not,beq_iff_eq]at u;obtain⟨⟨⟨J,H⟩,O⟩,M⟩:=u;obtain⟨r,y,z,_⟩:=tB h J;rw[H]at r y z;exact wh h.places y z r I (AA (by decide))
theorem ack_s (K:Nat)(n:aa)(w:aj)(h:UpN n)(Z:cG (aj.coord w))(J:1048577<K):Q57.f K (n,w,())=some ((fh K n w,()),()):=by
 simp only[Q57.f,Q57.pre,zc00556];have H:qK n w=(!decide ((aa.probe n).1<0)&&(aa.probe n).1==w.2.2.1&&(aa.probe n).2.2.1==w.2.2.2.2.1&&w.2.2.2.2.2.1==w.2.2.1):=rfl;by_cases r:(aa.probe n).1<0
 ·rw[show decide (n.2.2.2.2.2.2.2.2.2.2.1.1<0)=true from decide_eq_true r];rw[show fh K n w=n by unfold fh;rw[H,decide_eq_true r];rfl];rfl
 ·rw[show decide (n.2.2.2.2.2.2.2.2.2.2.1.1<0)=false from decide_eq_false r];cases u:(aa.probe n).1==w.2.2.1 with
  |false =>
   rw[show fh K n w=n by unfold fh;rw[H,decide_eq_false r,u];rfl];rw[show (n.2.2.2.2.2.2.2.2.2.2.1.1 != w.2.2.1)=true by unfold bne;rw[show (n.2.2.2.2.2.2.2.2.2.2.1.1==w.2.2.1)=false from u];rfl];rfl
  |true =>
   rw[show (n.2.2.2.2.2.2.2.2.2.2.1.1 != w.2.2.1)=false by unfold bne;rw[show (n.2.2.2.2.2.2.2.2.2.2.1.1==w.2.2.1)=true from u];rfl];cases z:(aa.probe n).2.2.1==w.2.2.2.2.1 with
   |false =>
    rw[show fh K n w=n by unfold fh;rw[H,decide_eq_false r,u,z];rfl];rw[show (n.2.2.2.2.2.2.2.2.2.2.1.2.2.1 != w.2.2.2.2.1)=true by unfold bne;rw[show (n.2.2.2.2.2.2.2.2.2.2.1.2.2.1==w.2.2.2.2.1)=false from z];rfl];rfl
   |true =>
    rw[show (n.2.2.2.2.2.2.2.2.2.2.1.2.2.1 != w.2.2.2.2.1)=false by unfold bne;rw[show (n.2.2.2.2.2.2.2.2.2.2.1.2.2.1==w.2.2.2.2.1)=true from z];rfl];cases I:w.2.2.2.2.2.1==w.2.2.1 with
    |false =>
     rw[show fh K n w=n by unfold fh;rw[H,decide_eq_false r,u,z,I];rfl];rw[show (w.2.2.2.2.2.1 != w.2.2.1)=true by unfold bne;rw[I];rfl];rfl
    |true =>
     have X:qK n w=true:=by rw[H,decide_eq_false r,u,z,I];rfl
     rw[show (w.2.2.2.2.2.1 != w.2.2.1)=false by unfold bne;rw[I];rfl];have Y:=(tB h.x r).2.2.2;have hn:=h.now1;have O:=vg h.x Z X;simp only[cond_false];rw[show wr .i64 (wr .i64 (wr .i64 (n.2.2.2.2.2.1-n.2.2.2.2.2.2.2.2.2.2.1.2.1)*1000)+500)=(cg n-(aa.probe n).2.1)*1000+500 by
      obtain⟨p1,p2⟩:=Y;show wr .i64 (wr .i64 (wr .i64 (cg n-(aa.probe n).2.1)*1000)+500)=_;rw[aJ (n:=cg n-_) (by omega) (by omega),aJ (n:=_*1000) (by omega) (by omega),aJ (by omega) (by omega)]]
     rw[zR];simp only[BV];refine (congrArg (λo=>BW o _) (Az K (aa.places n) w.2.2.1 (aj.coord w) (xS n) n.1 h.x.places J)).trans ?_;simp only[BV];rw[show fh K n w=p7 n ((ku n w).foldl (qJ K w) (aa.coord n)) (ku n w) by unfold fh;rw[X];rfl];show Q57.l0 K (n,w,()) (0,(aa.coord n).1,(aa.coord n).2.1,(aa.coord n).2.2.1,(aa.coord n).2.2.2,ku n w)=_;have hl:=plen O;refine kK (step:=λrec a=>Q57.s0 K (n,w,()) rec a) (ku n w) (qJ K w) cG (λc i=>((i:Int),c.1,c.2.1,c.2.2.1,c.2.2.2,ku n w)) (λc=>some ((p7 n c (ku n w),()),())) (aa.coord n) h.x.coord ?_ ?_ (by omega)
     ·intro rec c i R M;refine⟨?_,vf M J⟩;simp only[Q57.s0,zc00556,zcp8];rw[bj (by omega:(i:Int)<(BY (ku n w):Int)),B4,ag R,ar i (by omega)];simp only[cond_true,BV];have a0:=(O.1 _ (B7 R)).2.2.2.2.1.2;generalize (ku n w)[i]=y at *;unfold qJ;cases y.1==w.2.2.1 with
      |false=>rfl
      |true =>
       simp only[cond_true];refine (congrArg (λo=>BW o _) (med_s K y.2.2 (by omega) J)).trans ?_;refine (congrArg (λo=>BW o _) (xP K c (aj.coord w) (sv K y.2.2) w.2.2.2.2.1 M J).1).trans ?_;rfl
     ·intro rec c M;simp only[Q57.s0,zc00556,zcp8,aP,cond_false];rfl
theorem Bw {K:Nat}{n:aa}{w:aj}(h:UpN n)(y:cG (aj.coord w))(u:1048577<K):UpN (fh K n w)/\(fh K n w).1=n.1/\(fh K n w).2.2.1=n.2.2.1:=by
 unfold fh;cases r:qK n w with
 |false=>exact⟨h,rfl,rfl⟩
 |true=>exact⟨h.heard (mh (Inv:=cG) h.x.coord λc p _ z=>vf z u) (vg h.x y r),rfl,rfl⟩
def fQ (n:aa)(w:aj):Prop:=n.2.1=true/\n.2.2.1=false/\w.2.2.2.1=n.1/\w.2.2.1≠n.1 /\
 (if w.1=2 then w.2.1=6/\ak w.2.2.1≠ak n.1/\(ca (aj.table w) (ak n.1)\/ca (aj.table w) (ak w.2.2.1)) else ak w.2.2.1=ak n.1/\(w.2.1≠6\/¬ ca (aj.table w) (ak n.1)))
theorem qL (K:Nat)(n:aa)(w:aj)(J:(aj.table w).length<=1048576)(I:1048577<K):Ret (Q24.f K (n,w,())) (fQ n w):=by
 refine (Ret.cndN (P:=¬ n.2.1=true) (b:=!n.2.1) (by simp) λ_=>Ret.cndN (P:=n.2.2.1=true) (b:=n.2.2.1) Cg λ_=>Ret.cndN (P:=w.2.2.2.1≠n.1) (b:=w.2.2.2.1 != n.1) (by simp) λ_=>Ret.cndN (P:=w.2.2.1=n.1) (b:=w.2.2.1==n.1) (by simp) λ_ =>
  (?_:Ret _ (if w.1=2 then w.2.1=6/\ak w.2.2.1≠ak n.1/\(ca (aj.table w) (ak n.1)\/ca (aj.table w) (ak w.2.2.1)) else ak w.2.2.1=ak n.1/\(w.2.1≠6\/¬ ca (aj.table w) (ak n.1))))).iff ?_
 ·refine Ret.vl (cV K n.1) ?_;obtain⟨H,z,y⟩:=d4 K (aj.table w) (ak n.1) J I;obtain⟨R,M,O⟩:=d4 K (aj.table w) (ak w.2.2.1) J I;by_cases r:w.1=2
  ·rw[show (w.1==2)=true by simpa using r,if_pos r];refine Ret.cnd (P:=w.2.1=6) (b:=w.2.1==6) (by simp) λ_=>?_
   refine Ret.cnd (P:=ak w.2.2.1≠ak n.1) (b:=ak w.2.2.1 != ak n.1) (by simp) λ_=>Ret.vl z ?_
   cases H with
   |true=>exact Ret.yes (.inl (y.1 rfl))
   |false =>
    refine Ret.vl M ?_;exact Ret.of (b:=R) (O.trans ⟨.inr,λh=>h.resolve_left λh=>by have:=y.2 h;cases this⟩)
  ·rw[show (w.1==2)=false by simpa using r,if_neg r];refine Ret.cnd (P:=ak w.2.2.1=ak n.1) (b:=ak w.2.2.1==ak n.1) (by simp) λ_=>?_
   by_cases u:w.2.1=6
   ·show Ret (bif w.2.1 != 6 then _ else _) _;rw[show (w.2.1 != 6)=false by simpa using u];refine Ret.vl z (Ret.of (b:=!H) ?_);rw[Cl,<- Co,y];exact⟨.inr,λh=>h.resolve_left λh=>h u⟩
   ·show Ret (bif w.2.1 != 6 then _ else _) _;rw[show (w.2.1 != 6)=true by simpa using u];exact Ret.yes (.inl u)
 ·unfold fQ;rw[Cm,Co,Cm]
def qb (u:Int)(n:aa)(to y r:Int)(t:List af):aj:=(1,u,n.1,to,y,r,aa.coord n,t)
theorem qc (K:Nat)(n:aa)(u to y r:Int)(t:List af)(z:t.length<=1048576):Q39.f K (n,u,to,y,r,t,())=some ((qb u n to y r t,()),()):=by
 simp only[Q39.f];rw[szb _ _ _ (by omega) (by show (BY ([]:List af))+t.length<=_;simp;omega)];rfl
def ib (t:List af)(s:Int):Bool:=t.all λf=>ak f.1==s
theorem iN {t:List af}{s:Int}:ib t s=true<->ca t s:=by simp[ib,ca]
def bK (t:List af):af:=(t.head?).getD (0,0,0,false)
def bI (n:aa)(w:aj):List af:=putAll (dk (aa.others n) (ak (bK (aj.table w)).1)) (aj.table w)
def wm (n:aa)(w:aj):aj:=(2,6,n.1,w.2.2.1,0,n.1,aa.coord n,bI n w)
def sumN (n:aa)(w:aj):aa:=k9 n (a7 (λx:aY=>x.1) (ak (bK (aj.table w)).1,bI n w) (aa.others n))
def du (n:aa)(w:aj):aa×List aj:=bif ib (aj.table w) (ak n.1) then (eV n (aj.table w) n.1,[]) else
 (sumN n w,bif w.1==2&&decide (aj.table w≠bI n w) then [wm n w] else [])
theorem qd:∀ {fs t:List af} {g:af},g∈putAll t fs->g∈t\/g∈fs
 |[],_,_,h=>.inl h
 |f::fs,t,g,h=>by
  rcases qd (fs:=fs) h with h|h
  ·have h:g∈(bg t f).1:=h;rcases gZ t f with e|e
   ·rw[e]at h;exact .inl h
   ·rw[e]at h;rcases aO.1 h with rfl|⟨h,_⟩
    ·exact .inr (by simp)
    ·exact .inl h
  ·exact .inr (by simp[h])
theorem qe:∀ {fs t:List af} {g:af},g∈t->∃ I∈putAll t fs,I.1=g.1
 |[],_,g,h=>⟨g,h,rfl⟩
 |f::fs,t,g,h=>by
  obtain⟨J,y,u⟩:=m9 (f:=f) h;obtain⟨H,z,r⟩:=qe (fs:=fs) y;exact⟨H,z,r.trans u⟩
theorem uE {t:List af}(H:Asc (λg:af=>g.1) t)(f:af):∃ g∈(bg t f).1,g.1=f.1:=by
 by_cases h:∃ g∈t,g.1=f.1
 ·obtain⟨g,r,e⟩:=h;obtain⟨z,u,y⟩:=m9 (f:=f) r;exact⟨z,u,y.trans e⟩
 ·rw[fJ λg r e=>h ⟨g,r,e⟩];exact⟨f,aO.2 (.inl rfl),rfl⟩
theorem kO {n:aa}{w:aj}(h:cM n.1 (aa.others n))(O:aw (aj.table w))(u:kI (aj.table w)):aw (bI n w)/\bI n w≠[]/\ca (bI n w) (ak (bK (aj.table w)).1):=by
 have z:=jj h (ak (bK (aj.table w)).1);refine⟨rq z O.1,?_,?_⟩
 ·unfold bI;cases y:aj.table w with
  |nil=>rw[y]at u;exact u.elim
  |cons f l =>
   obtain⟨g,J,_⟩:=uE (f:=f) (t:=dk (aa.others n) (ak (bK (f::l)).1)) (by rw[y]at z;exact z.2);obtain⟨R,I,_⟩:=qe (fs:=l) J;exact List.ne_nil_of_mem I
 ·intro g r;rcases qd r with r|r
  ·rcases ri (l:=aa.others n) (s:=ak (bK (aj.table w)).1) with e|⟨x,M,H,e⟩
   ·rw[e]at r;cases r
   ·rw[e]at r;rw[<- H];exact (h.1 x M).2.2.2.2 g r
  ·cases y:aj.table w with
   |nil=>rw[y]at u;exact u.elim
   |cons f l =>
    rw[y]at u r;exact u g r
theorem vh {x:Int}(h:InP x 0 7):InP (ak x) 0 1:=by
 rw[ji h];obtain⟨u,r⟩:=h;constructor <;> omega
theorem tC {t:List af}(r:kI t)(u:aw t):InP (bK t).1 0 7:=by
 cases t with
 |nil=>exact r.elim
 |cons f l=>exact (u.1 f (by simp)).1
theorem xT (K:Nat)(n:aa)(w:aj)(h:UpN n)(r:aw (aj.table w))(z:kI (aj.table w))(y:1048577<K):Q40.f K (n,w,())=some (((du n w).1,(du n w).2,()),()):=by
 simp only[Q40.f];rw[cV K n.1];simp only[BV];obtain⟨H,I,M⟩:=d4 K (aj.table w) (ak n.1) (bV r) y;have O:ib (aj.table w) (ak n.1)=H:=by rw[CC,iN,M]
 unfold du;rw[O];refine (congrArg (λo=>BW o _) I).trans ?_;simp only[rb,BV];cases H with
 |true =>
  simp only[cond_true];refine (congrArg (λo=>BW o _) (u7 K n (aj.table w) n.1 h.learns r.1 (bV r) h.x.me y)).trans rfl
 |false =>
  simp only[cond_false];obtain⟨R,Y,X⟩:=kO (n:=n) h.x.others r z;have u:idx (aj.table w) 0=some (bK (aj.table w)):=by
   cases J:aj.table w with
   |nil=>rw[J]at z;exact z.elim
   |cons f l=>rfl
  refine (congrArg (λo=>BW o _) u).trans ?_;simp only[BV];rw[cV K];simp only[BV];refine (congrArg (λo=>BW o _) (xR K n (ak (bK (aj.table w)).1) (aj.table w) h.x.others r y)).trans ?_;simp only[BV];refine (congrArg (λo=>BW o _) (sum_s K n (ak (bK (aj.table w)).1) (bI n w) h.x.others y)).trans ?_;simp only[BV];cases w.1==2 with
  |false=>rfl
  |true =>
   simp only[cond_true,CS];refine (congrArg (λo=>BW o _) (zh K (aj.table w) (bI n w) (bV r) y)).trans ?_;simp only[rb,BV];cases decide (aj.table w≠bI n w) with
   |false=>rfl
   |true =>
    simp only[cond_true];refine (congrArg (λo=>BW o _) (qc K (sumN n w) 6 w.2.2.1 0 n.1 (bI n w) (bV R))).trans rfl
theorem qf {n:aa}{w:aj}(h:UpN n)(z:n.2.2.1=false)(y:aw (aj.table w))(r:kI (aj.table w)):UpN (du n w).1/\(du n w).1.1=n.1/\(du n w).1.2.2.1=false:=by
 unfold du;cases u:ib (aj.table w) (ak n.1) with
 |true=>exact kt h z y (iN.1 u) (eJ.me h.x.me)
 |false =>
  obtain⟨M,I,J⟩:=kO (n:=n) h.x.others y r;refine⟨h.setOthers (wg h.x.others (vh (tC r y)) (λe=>?_) I M J),rfl,z⟩;have:ca (aj.table w) (ak n.1):=by
   cases H:aj.table w with
   |nil=>rw[H]at r;exact r.elim
   |cons f l=>rw[H]at r e;rw[<- e];exact r
  rw[iN.2 this]at u;cases u
noncomputable def ff (K:Nat)(n:aa)(w:aj):aa×List aj :=
 bif w.2.1==1 then (bif ak w.2.2.2.2.2.1 != ak n.1 then (n,[]) else bif w.2.2.2.2.2.1==n.1 then (n,[]) else (iW n,[qb 2 (iW n) w.2.2.2.2.2.1 w.2.2.2.2.1 n.1 (hI n w.2.2.2.2.2.1)]))
 else bif w.2.1==3 then (bif ak w.2.2.2.2.2.1 != ak n.1 then (n,[]) else bif w.2.2.2.2.2.1==n.1 then (n,[]) else bif w.2.2.2.2.2.1==w.2.2.1 then (n,[]) else (iW n,[qb 1 (iW n) w.2.2.2.2.2.1 w.2.2.2.2.1 w.2.2.1 (hI n w.2.2.2.2.2.1)]))
 else bif w.2.1==4 then (n,[qb 5 n w.2.2.1 0 n.1 (aa.table n)]) else bif w.2.1==2 then (fh K n w,[]) else (n,[])
theorem zi (K:Nat)(n:aa)(w:aj)(h:UpN n)(z:cG (aj.coord w))(r:1048577<K):Q58.f K (n,w,())=some (((ff K n w).1,(ff K n w).2,()),()):=by
 simp only[Q58.f];rw[cV K n.1];simp only[BV];have y:=vd K n w.2.2.2.2.2.1 h.x.say r;have u:=bV (oc h.x.say w.2.2.2.2.2.1);unfold ff;cases w.2.1==1 with
 |true =>
  simp only[cond_true];rw[cV K];simp only[BV];cases ak w.2.2.2.2.2.1 != ak n.1 with
  |true=>rfl
  |false =>
   simp only[cond_false];cases w.2.2.2.2.2.1==n.1 with
   |true=>rfl
   |false =>
    simp only[cond_false];refine (congrArg (λo=>BW o _) y).trans ?_;simp only[BV];refine (congrArg (λo=>BW o _) (qc K (iW n) 2 w.2.2.2.2.2.1 w.2.2.2.2.1 n.1 _ u)).trans rfl
 |false =>
  simp only[cond_false];cases w.2.1==3 with
  |true =>
   simp only[cond_true];rw[cV K];simp only[BV];cases ak w.2.2.2.2.2.1 != ak n.1 with
   |true=>rfl
   |false =>
    simp only[cond_false];cases w.2.2.2.2.2.1==n.1 with
    |true=>rfl
    |false =>
     simp only[cond_false];cases w.2.2.2.2.2.1==w.2.2.1 with
     |true=>rfl
     |false =>
      simp only[cond_false];refine (congrArg (λo=>BW o _) y).trans ?_;simp only[BV];refine (congrArg (λo=>BW o _) (qc K (iW n) 1 w.2.2.2.2.2.1 w.2.2.2.2.1 w.2.2.1 _ u)).trans rfl
  |false =>
   simp only[cond_false];cases w.2.1==4 with
   |true=>exact (congrArg (λo=>BW o _) (qc K n 5 w.2.2.1 0 n.1 (aa.table n) (bV h.x.table))).trans rfl
   |false =>
    simp only[cond_false];cases w.2.1==2 with
    |true=>exact (congrArg (λo=>BW o _) (ack_s K n w h z r)).trans rfl
    |false=>rfl
theorem xU {K:Nat}{n:aa}{w:aj}(h:UpN n)(u:cG (aj.coord w))(r:1048577<K):UpN (ff K n w).1/\(ff K n w).1.1=n.1/\(ff K n w).1.2.2.1=n.2.2.1:=by
 unfold ff;cases w.2.1==1 <;> cases w.2.1==3 <;> cases w.2.1==4 <;> cases w.2.1==2 <;> cases ak w.2.2.2.2.2.1 != ak n.1 <;> cases w.2.2.2.2.2.1==n.1 <;> cases w.2.2.2.2.2.1==w.2.2.1 <;> first|exact⟨h,rfl,rfl⟩|exact⟨h.way,rfl,rfl⟩|exact Bw h u r
open Classical in
noncomputable def bM (K:Nat)(n:aa)(w:aj):aa×List aj :=
 if dB w/\fQ n w then (if w.2.1=6 then du n w else ff K (eV n (aj.table w) w.2.2.1) w) else (n,[])
theorem j9 {n:aa}{w:aj}(H:dB w)(h:fQ n w)(z:w.2.1≠6):ca (aj.table w) (ak n.1)/\eJ n w.2.2.1:=by
 obtain⟨_,_,w3,_,_,_,_,_,y⟩:=H;rw[if_neg z]at y;obtain⟨_,_,_,_,r⟩:=h;by_cases u:w.1=2
 ·rw[if_pos u]at r;exact absurd r.1 z
 ·rw[if_neg u]at r;exact⟨r.1 ▸ y,w3,r.1⟩
theorem xV (K:Nat)(n:aa)(w:aj)(h:n.2.1=true->UpN n)(J:(aj.table w).length<=1048576)(y:1048577<K):Q59.f K (n,w,())=some (((bM K n w).1,(bM K n w).2,()),()):=by
 simp only[Q59.f];obtain⟨b1,Z,O⟩:=mf K w J y;obtain⟨b2,Y,M⟩:=qL K n w J y;rw[Z];cases b1 with
 |false =>
  unfold bM;rw[if_neg λh=>by have:=O.2 h.1;cases this];rfl
 |true =>
  have z:=O.1 rfl;simp only[rb,BV,B6,cond_false];refine (congrArg (λo=>BW o _) Y).trans ?_;cases b2 with
  |false =>
   unfold bM;rw[if_neg λh=>by have:=M.2 h.2;cases this];rfl
  |true =>
   have H:=M.1 rfl;have I:=h H.1;simp only[rb,BV,B6,cond_false];unfold bM;rw[if_pos ⟨z,H⟩];have r:=z.2.2.2.2.2.2.2.1;by_cases u:w.2.1=6
   ·rw[if_pos u,show (w.2.1==6)=true by simpa using u];have X:=z.2.2.2.2.2.2.2.2;rw[if_pos u]at X;exact (congrArg (λo=>BW o _) (xT K n w I r X y)).trans rfl
   ·rw[if_neg u,show (w.2.1==6)=false by simpa using u];obtain⟨hs,R⟩:=j9 z H u;have hl:=(kt I H.2.1 r hs R).1;refine (congrArg (λo=>BW o _) (u7 K n (aj.table w) w.2.2.1 I.learns r.1 J R.1 y)).trans ?_;exact (congrArg (λo=>BW o _) (zi K _ w hl z.2.2.2.2.2.2.1 y)).trans rfl
theorem qM {K:Nat}{n:aa}{w:aj}(h:UpN n)(R:1048577<K):UpN (bM K n w).1/\(bM K n w).1.1=n.1/\(bM K n w).1.2.2.1=n.2.2.1:=by
 unfold bM;split
 ·rename_i X;obtain⟨y,r⟩:=X;have u:=y.2.2.2.2.2.2.2.1;split
  ·rename_i H;have J:=y.2.2.2.2.2.2.2.2;rw[if_pos H]at J;rw[r.2.1];exact qf h r.2.1 u J
  ·rename_i H;obtain⟨O,M⟩:=j9 y r H;have z:=kt h r.2.1 u O M;have I:=xU (w:=w) z.1 y.2.2.2.2.2.2.1 R;exact⟨I.1,I.2.1.trans z.2.1,I.2.2.trans (z.2.2.trans r.2.1.symm)⟩
 ·exact⟨h,rfl,rfl⟩
theorem mq {K:Nat}{n:aa}{w:aj}(h:UpN n)(hK:1048577<K):(bM K n w).2.length<=1/\∀ x∈(bM K n w).2,InP x.2.2.2.1 0 7/\(aj.table x).length<=1048576:=by
 unfold bM;split
 ·rename_i Z;obtain⟨u,M⟩:=Z;have y:=u.2.2.2.2.2.2.2.1;split
  ·rename_i z;have J:=u.2.2.2.2.2.2.2.2;rw[if_pos z]at J;obtain⟨a1,a2,a3⟩:=kO (n:=n) h.x.others y J;unfold du;cases ib (aj.table w) (ak n.1) with
   |true=>exact⟨by simp,by simp⟩
   |false =>
    simp only[cond_false];cases w.1==2&&decide (aj.table w≠bI n w) with
    |false=>exact⟨by simp,by simp⟩
    |true=>exact⟨by simp,λx r=>by rw[BZ.1 r];exact⟨u.2.2.1,bV a1⟩⟩
  ·rename_i z;obtain⟨Y,X⟩:=j9 u M z;have I:=kt h M.2.1 y Y X;have O:=bV (oc I.1.x.say w.2.2.2.2.2.1);have H:=bV I.1.x.table;have w3:=u.2.2.1;have R:=u.2.2.2.2.2.1;generalize eV n (aj.table w) w.2.2.1=m at *;unfold ff;cases w.2.1==1 <;> cases w.2.1==3 <;> cases w.2.1==4 <;> cases w.2.1==2 <;> cases ak w.2.2.2.2.2.1 != ak m.1 <;> cases w.2.2.2.2.2.1==m.1 <;> cases w.2.2.2.2.2.1==w.2.2.1 <;>
    first|exact⟨CG _,λx r=>by rw[BZ.1 r];exact⟨R,O⟩⟩|exact⟨CG _,λx r=>by rw[BZ.1 r];exact⟨w3,H⟩⟩|exact⟨CH _,λx r=>nomatch r⟩
 ·exact⟨by simp,by simp⟩
theorem vi {α:Type}{k:α->Int}:∀ {xs r:List α},Asc k xs->Asc k r->(∀ x,x∈xs<->x∈r)->xs=r
 |[],[],_,_,_=>rfl
 |[],y::r,_,_,h=>by have:=(h y).2 (by simp);simp at this
 |x::xs,[],_,_,h=>by have:=(h x).1 (by simp);simp at this
 |x::xs,y::r,O,M,h=>by
  have J:=Ci.1 O;have H:=Ci.1 M;have e:x=y:=by
   rcases B9.1 ((h x).1 (by simp)) with e|e
   ·exact e
   ·rcases B9.1 ((h y).2 (by simp)) with I|I
    ·exact I.symm
    ·have:=J.1 y I;have:=H.1 x e;omega
  subst e;rw[vi J.2 H.2 λz=>⟨λu=>?_,λu=>?_⟩]
  ·rcases B9.1 ((h z).1 (CP _ u)) with rfl|e
   ·have:=J.1 _ u;omega
   ·exact e
  ·rcases B9.1 ((h z).2 (CP _ u)) with rfl|e
   ·have:=H.1 _ u;omega
   ·exact e
def nh (fs:List af)(g:af):Prop:=g∈fs/\∀ h∈fs,h.1=g.1->rk h<=rk g
theorem xW {f g:af}(O:aV f)(I:aV g)(e:f.1=g.1)(h:rk f=rk g):f=g:=by
 obtain⟨_,_,J,y⟩:=O;obtain⟨_,_,H,M⟩:=I;obtain⟨a,b,c,d⟩:=f;obtain⟨R,u,r,z⟩:=g;unfold rk at h;simp only at h J y H M e;subst e;cases d <;> cases z <;> simp at h
 ·obtain rfl:b=u:=by omega
  obtain rfl:c=r:=by omega
  rfl
 ·omega
 ·omega
 ·obtain rfl:b=u:=by omega
  obtain rfl:c=r:=by omega
  rfl
theorem mr:∀ (B:List af) (v:Int),(∃ h∈B,h.1=v)->∃ g∈B,g.1=v/\∀ h∈B,h.1=v->rk h<=rk g
 |[],_,⟨_,h,_⟩=>by simp at h
 |x::B,v,J=>by
  by_cases z:∃ h∈B,h.1=v
  ·obtain⟨g,M,e,H⟩:=mr B v z;by_cases I:x.1=v/\rk g<rk x
   ·refine⟨x,by simp,I.1,λh r y=>?_⟩;rcases B9.1 r with rfl|r
    ·exact CA _
    ·have:=H h r y;omega
   ·refine⟨g,by simp[M],e,λh r y=>?_⟩;rcases B9.1 r with rfl|r
    ·exact Int.not_lt.1 λR=>I ⟨y,R⟩
    ·exact H h r y
  ·obtain⟨h,r,e⟩:=J;rcases B9.1 r with rfl|r
   ·refine⟨h,by simp,e,λO u y=>?_⟩;rcases B9.1 u with rfl|u
    ·exact CA _
    ·exact absurd ⟨O,u,y⟩ z
   ·exact absurd ⟨h,r,e⟩ z
theorem wn {t:List af}(u:Asc (λg:af=>g.1) t){g:af}:nh t g<->g∈t:=⟨λh=>h.1,λh=>⟨h,λy r e=>by rw[fb u r h e];exact CA _⟩⟩
theorem zj {A B:List af}(h:∀ g,g∈A<->nh B g)(fs:List af)(g:af):nh (A++fs) g<->nh (B++fs) g:=by
 constructor
 ·rintro⟨u,h2⟩;refine⟨?_,λx r e=>?_⟩
  ·rcases B5.1 u with u|u
   ·exact CB _ ((h g).1 u).1
   ·exact CN _ u
  ·rcases B5.1 r with r|r
   ·obtain⟨m,O,M,J⟩:=mr B g.1 ⟨x,r,e⟩;have H:m∈A:=(h m).2 ⟨O,λy z I=>J y z (I.trans M)⟩;have:=h2 m (CB _ H) M;have:=J x r e;omega
   ·exact h2 x (CN _ r) e
 ·rintro⟨u,h2⟩;refine⟨?_,λx r e=>?_⟩
  ·rcases B5.1 u with u|u
   ·exact CB _ ((h g).2 ⟨u,λy z I=>h2 y (CB _ z) I⟩)
   ·exact CN _ u
  ·rcases B5.1 r with r|r
   ·exact h2 x (CB _ ((h x).1 r).1) e
   ·exact h2 x (CN _ r) e
theorem mt {t:List af}{f:af}(H:aw t)(X:aV f){g:af}:g∈(bg t f).1<->nh (t++[f]) g:=by
 have z:(∀ h∈t,h.1=f.1->rk h<rk f)->(g∈a7 (λg:af=>g.1) f t<->nh (t++[f]) g):=λI=>by
  rw[aO];constructor
  ·rintro (rfl|⟨y,J⟩)
   ·refine⟨by simp,λx r e=>?_⟩;rcases B5.1 r with r|r
    ·have:=I x r e;omega
    ·rw[BZ.1 r];exact CA _
   ·refine⟨by simp[y],λx r e=>?_⟩;rcases B5.1 r with r|r
    ·rw[fb H.2 r y e];exact CA _
    ·rw[BZ.1 r]at e;exact absurd e.symm J
  ·rintro⟨y,J⟩;rcases B5.1 y with y|y
   ·refine .inr ⟨y,λe=>?_⟩;have:=I g y e;have:=J f (by simp) e.symm;omega
   ·exact .inl (BZ.1 y)
 by_cases h:∃ g∈t,g.1=f.1
 ·obtain⟨g0,u,M⟩:=h;obtain⟨i,Y,rfl⟩:=CE u;rw[ir H.2 Y M];by_cases I:bD f t[i]
  ·rw[if_pos I];exact z λh Z e=>by
    rw[fb H.2 Z u (e.trans M.symm)];exact (kh X (H.1 _ u)).1 I
  ·rw[if_neg I];have R:rk f<=rk t[i]:=Int.not_lt.1 λh=>I ((kh X (H.1 _ u)).2 h)
   show g∈t<->_;constructor
   ·intro O;refine⟨by simp[O],λx r e=>?_⟩;rcases B5.1 r with r|r
    ·rw[fb H.2 r O e];exact CA _
    ·rw[BZ.1 r]at e ⊢;rw[<- fb H.2 u O (M.trans e)];exact R
   ·rintro⟨y,J⟩;rcases B5.1 y with y|y
    ·exact y
    ·rw[BZ.1 y]at J ⊢;have:=J t[i] (CB _ u) M;rw[xW X (H.1 _ u) M.symm (by omega)];exact u
 ·rw[fJ λg O e=>h ⟨g,O,e⟩];exact z λx r e=>absurd ⟨x,r,e⟩ h
theorem uF {fs:List af}:∀ {t:List af},aw t->(∀ f∈fs,aV f)->∀ g,g∈putAll t fs<->nh (t++fs) g:=by
 induction fs with
 |nil=>intro t h _ g;rw[Cr];exact (wn h.2).symm
 |cons f fs y =>
  intro t h r g;have u:=r f (by simp);show g∈putAll (bg t f).1 fs<->_;rw[y (fK h u) (λg z=>r g (by simp[z])),zj (B:=t++[f]) (λx=>mt h u) fs g,List.append_assoc];rfl
theorem rB {f:af}{t:List af}:(a7 (λg:af=>g.1) f t).map (·.1)=a7 (λx:Int=>x) f.1 (t.map (·.1)):=by
 unfold a7;simp only[List.map_append,List.map_cons,List.filter_map];rfl
theorem tD {t:List af}(h:Asc (λg:af=>g.1) t):Asc (λx:Int=>x) (t.map (·.1)):=List.pairwise_map.2 h
theorem vj {ks:List Int}{v:Int}(r:Asc (λx:Int=>x) ks)(h:v∈ks):a7 (λx:Int=>x) v ks=ks:=vi (eF r) r λx=>by
 rw[aO];constructor
 ·rintro (rfl|⟨y,_⟩)
  ·exact h
  ·exact y
 ·intro u;by_cases e:x=v
  ·exact .inl e
  ·exact .inr ⟨u,e⟩
theorem pn {t:List af}(z:Asc (λg:af=>g.1) t)(f:af):(bg t f).1.map (·.1)=a7 (λx:Int=>x) f.1 (t.map (·.1)):=by
 by_cases h:∃ g∈t,g.1=f.1
 ·obtain⟨g0,r,u⟩:=h;obtain⟨i,H,rfl⟩:=CE r;rw[ir z H u];by_cases y:bD f t[i]
  ·rw[if_pos y];exact rB
  ·rw[if_neg y];exact (vj (tD z) (by rw[<- u];exact CI.2 ⟨_,r,rfl⟩)).symm
 ·rw[fJ λg I e=>h ⟨g,I,e⟩];exact rB
structure el (me:Int) (A B:List af):Prop where
 a:aw A
 b:aw B
 keys:A.map (·.1)=B.map (·.1)
 same:∀ g,g.1≠me->(g∈A<->g∈B)
theorem xX {t:List af}(u:aw t){f g:af}(r:g.1≠f.1):g∈(bg t f).1<->g∈t:=by
 rcases k8 u.2 f with e|⟨e,_⟩
 ·rw[e]
 ·rw[e];show g∈a7 _ _ _<->_;rw[aO];constructor
  ·rintro (rfl|⟨h,_⟩)
   ·exact absurd rfl r
   ·exact h
  ·exact λh=>.inr ⟨h,r⟩
theorem el.symm {r:Int}{A B:List af}(h:el r A B):el r B A:=⟨h.b,h.a,h.keys.symm,λg u=>(h.same g u).symm⟩
theorem el.mine {r:Int}{A B:List af}(h:el r A B)(y:r∈A.map (·.1)){f:af}(e:f.1=r)(z:aV f):el r A (bg B f).1:=by
 refine⟨h.a,fK h.b z,?_,λg u=>?_⟩
 ·rw[pn h.b.2,e,vj (tD h.b.2) (h.keys ▸ y),h.keys]
 ·rw[xX h.b (by rw[e];exact u)];exact h.same g u
theorem el.other {y:Int}{A B:List af}(h:el y A B){f:af}(e:f.1≠y)(u:aV f):el y (bg A f).1 (bg B f).1:=by
 refine⟨fK h.a u,fK h.b u,?_,λg M=>?_⟩
 ·rw[pn h.a.2,pn h.b.2,h.keys]
 ·rw[mt h.a u,mt h.b u];have H:∀ x:af,x.1=g.1->(x∈A++[f]<->x∈B++[f]):=λx J=>by
   rw[B5,B5,h.same x (by rw[J];exact M)]
  unfold nh;rw[H g rfl];exact and_congr_right λ_=>forall_congr' λx=>⟨λI z r=>I ((H x r).2 z) r,λI z r=>I ((H x r).1 z) r⟩
theorem rD (m:aa)(f:af)(b:Int):aa.table (sayOf m f b)=(bg (aa.table m) f).1:=by
 unfold sayOf;cases h:(bg (aa.table m) f).2 with
 |true=>rfl
 |false =>
  have e:(bg (aa.table m) f).1=aa.table m:=by
   revert h;unfold bg;split
   ·split
    ·intro h;cases h
    ·exact λ_=>rfl
   ·intro h;cases h
  rw[e];rfl
theorem tE {m:aa}(h:UpN m):m.1∈(aa.table m).map (·.1):=by
 exact CI.2 ⟨_,h.self,rfl⟩
theorem wo {m:aa}{B:List af}{f:af}{b:Int}(r:UpN m)(u:aV f)(h:el m.1 (aa.table m) B):el m.1 (aa.table (cR b m f)) (bg B f).1:=by
 unfold cR;by_cases e:f.1=m.1
 ·rw[show (f.1==m.1)=true by simpa using e];show el m.1 (aa.table (dH m f)) _;unfold dH;cases y:decide (bD f (aR (aa.table m) m.1))&&decide (f.2.1<999) with
  |false=>exact h.mine (tE r) e u
  |true =>
   rw[CY]at y;show el m.1 (aa.table (sayOf (gb m (f.2.1+1)) (m.1,f.2.1+1,1,m.2.2.2.1) m.1)) _;rw[rD];have z:=h.mine (tE r) e u;exact (z.symm.mine (z.keys ▸ tE r) (f:=(m.1,f.2.1+1,1,m.2.2.2.1)) rfl (oa r.x.me u (of_decide_eq_true y.2))).symm
 ·rw[show (f.1==m.1)=false by simpa using e];show el m.1 (aa.table (sayOf m f b)) _;rw[rD];exact h.other e u
theorem oG {b:Int}:∀ (fs:List af) (m:aa) (B:List af),UpN m->m.2.2.1=false->(∀ f∈fs,aV f/\ak f.1=ak m.1)->eJ m b->el m.1 (aa.table m) B->el m.1 (aa.table (eV m fs b)) (putAll B fs)
 |[],_,_,_,_,_,_,h=>h
 |f::fs,m,B,I,O,z,y,h=>by
  obtain⟨J,X⟩:=z f (List.mem_cons_self ..);obtain⟨R,u,M⟩:=ng I O J X y;have H:=wo (b:=b) I J h;rw[<- u]at H ⊢;exact oG fs _ _ R M (λg r=>⟨(z g (CP _ r)).1,by rw[u];exact (z g (CP _ r)).2⟩) ⟨y.1,by rw[u];exact y.2⟩ H
theorem el.refl {r:Int}{A:List af}(h:aw A):el r A A:=⟨h,h,rfl,λ_ _=>Cg⟩
theorem uG {n:aa}(h:∀ k,k<8->¬ ia n k):iX n=none:=by
 unfold iX;rw[List.find?_eq_none];intro x r;obtain⟨k,u,rfl⟩:=CI.1 r;have:=h k (by simpa using u);unfold ia at this;simpa using this
theorem uH {n:aa}{k:Nat}(y:k<8)(r:ia n k)(h:∀ j,j<k->¬ ia n j):iX n=some (cH n k):=by
 unfold iX;rw[List.find?_map,List.find?_range_eq_some.2 ⟨?_,by simpa using y,λj u=>?_⟩]
 ·rfl
 ·unfold ia at r;simpa using r
 ·have:=h j u;unfold ia at this;simpa[Classical.or_iff_not_imp_left]using this
theorem vk (K:Nat)(n:aa)(h:cr n)(M:tt n)(J:1048577<K):Q97.f K (n,())=some (((dU n).1,(dU n).2,()),()):=by
 obtain⟨⟨Y,Z⟩,⟨t0,t1⟩⟩:=M;obtain⟨to,R,z⟩:=Aq K n h t0 t1 J;simp only[Q97.f,zcp4];rw[R];simp only[BV,dU];by_cases r:jN n>=999999
 ·rw[decide_eq_true r,show decide (n.2.2.2.2.2.2.1>=999999)=true from decide_eq_true r];cases decide (to<0) <;> rfl
 ·rw[decide_eq_false r,show decide (n.2.2.2.2.2.2.1>=999999)=false from decide_eq_false r];simp only[cond_false];rcases z with ⟨rfl,u⟩|⟨k,O,y,H,rfl⟩
  ·rw[uG u];rfl
  ·rw[uH O y H];have X:0<=cH n k/\cH n k<8:=⟨Cs _ (by omega),Cj _ (by omega)⟩;rw[decide_eq_false (by omega:¬ cH n k<0)];simp only[cond_false];rw[vd K n _ h J];simp only[BV];have I:wr .i64 (jN n+1)=jN n+1:=aJ (by omega) (by omega);rw[show wr .i64 ((iW n).2.2.2.2.2.2.1+1)=n.2.2.2.2.2.2.1+1 from I,aJ (n:=cH n k+1) (by omega) (by omega)];simp only[Q39.f];rw[szb _ _ _ (by omega) (by have:=bV (oc h (cH n k));simp;omega)];rfl
def ic (w:aj):Prop:=InP w.2.2.2.1 0 7/\(aj.table w).length<=1048576
theorem tF {n:aa}(z:aw (aa.table n)):(dl n).2.length<=2/\∀ w∈(dl n).2,ic w:=by
 have r:([]:List aj).length<=2/\∀ w∈([]:List aj),ic w:=⟨by simp,by simp⟩;unfold dl;cases (aa.probe n).1==-1 with
 |true=>exact r
 |false =>
  cases !eG (aR (aa.table n) (aa.probe n).1) with
  |true=>exact r
  |false =>
   cases decide (n.2.2.2.2.2.1-(aa.probe n).2.1>=4) with
   |true=>exact r
   |false =>
    cases decide (n.2.2.2.2.2.1-(aa.probe n).2.1>=2) with
    |false=>exact r
    |true =>
     cases !(aa.probe n).2.2.2 with
     |false=>exact r
     |true =>
      simp only[cond_true,cond_false];refine⟨by rw[Cc];exact List.length_take_le _ _,λw y=>?_⟩;obtain⟨to,u,rfl⟩:=CI.1 y;obtain⟨f,H,rfl⟩:=CI.1 (CQ u);exact⟨(z.1 f (CT.1 H).1).1,CH _⟩
theorem zS {n:aa}(h:cr n):(dU n).2.length<=1/\∀ w∈(dU n).2,ic w:=by
 have r:([]:List aj).length<=1/\∀ w∈([]:List aj),ic w:=⟨by simp,by simp⟩;unfold dU;cases decide (jN n>=999999) with
 |true=>exact r
 |false =>
  simp only[cond_false];cases u:iX n with
  |none=>exact r
  |some to =>
   refine⟨by simp,λw z=>?_⟩;rw[BZ.1 z];obtain⟨H,y,I⟩:=er h.table (hH (rv u).2);exact⟨y ▸ H.1,bV (oc h to)⟩
theorem Bx {n:aa}(H:cM n.1 (aa.others n)){s d:Int}(z:InP s 0 1):InP (mm n s d) 0 7:=by
 unfold mm;cases y:decide (fI (dk (aa.others n) s)≠[])&&bC .i64 d 4==0 with
 |true =>
  rw[CY,decide_eq_true_eq]at y;have:=(iv (d:=CZ d (2 ^ 3)) y.1).2.2;unfold fI at this;obtain⟨f,I,e⟩:=CI.1 (CQ this);simp only[cond_true];show InP (gR (fI (dk (aa.others n) s)) (CZ d (2 ^ 3))) 0 7;unfold fI;rw[<- e];exact ((jj H s).1 f (CT.1 I).1).1
 |false =>
  obtain⟨u,r⟩:=lI (a:=CZ d (2 ^ 3)) (m:=3) (by omega);have u:0<=bC .i64 (CZ d (2 ^ 3)) 3:=u;have r:bC .i64 (CZ d (2 ^ 3)) 3<=3:=r;obtain⟨J,M⟩:=z;simp only[cond_false];exact⟨by omega,by omega⟩
theorem vm {n:aa}(I:aw (aa.table n))(J:cM n.1 (aa.others n))(r:Int):(kg n r).length<=2/\∀ w∈kg n r,ic w:=by
 have u:([]:List aj).length<=2/\∀ w∈([]:List aj),ic w:=⟨by simp,by simp⟩;unfold kg;cases bC .i64 r 3==1 with
 |true =>
  simp only[cond_true,mn];cases lJ n with
  |false=>exact u
  |true =>
   refine⟨?_,λw H=>?_⟩
   ·show ((([0,1]:List Int).filter (λs=>s != ak n.1)).map _).length<=2;rw[Cc];exact Ce _ _
   ·obtain⟨s,O,rfl⟩:=CI.1 H;refine⟨Bx J ?_,bV I⟩;have:=(CT.1 O).1;simp at this;rcases this with rfl|rfl <;> exact⟨by decide,by decide⟩
 |false =>
  simp only[cond_false];by_cases y:fu n=[]
  ·rw[decide_eq_true y,Bool.or_true];exact u
  ·rw[decide_eq_false y,Cu];obtain⟨f,R,e⟩:=CI.1 (iv (d:=CZ r (2 ^ 2)) y).2.2;have z:InP (gR (fu n) (CZ r (2 ^ 2))) 0 7:=by
    rw[<- e];exact (I.1 f (CT.1 R).1).1
   cases bC .i64 r 3==3 with
   |true=>exact u
   |false =>
    simp only[cond_false];cases bC .i64 r 3==0 with
    |true=>exact⟨by simp,λw H=>by rw[BZ.1 H];exact⟨z,bV I⟩⟩
    |false =>
     simp only[cond_false,tr]
     match M:aa.others n with
     |[]=>exact u
     |x::_=>exact⟨by simp,λw H=>by rw[BZ.1 H];exact⟨z,bV (J.1 x (by rw[M];simp)).2.2.2.1⟩⟩
theorem UpX.far {n:aa}(h:UpX n):od n:=⟨by rcases tp h.me h.others with e|⟨x,e⟩ <;> rw[e] <;> simp,λx r=>⟨(h.others.1 x r).2.2.2.1,bV (h.others.1 x r).2.2.2.1⟩⟩
theorem rE {n:aa}(h:UpX n)(J:cg n<=1000000):((aa.probe n).1=-1\/0<=(aa.probe n).1)/\0<=(aa.probe n).2.1/\(aa.probe n).2.1<=1000000:=by
 have r:=h.probe;have u:cg n=n.2.2.2.2.2.1:=rfl;unfold c8 at r;split at r
 ·rename_i H;rw[r];exact⟨.inl rfl,by show (0:Int)<=0;omega,by show (0:Int)<=1000000;omega⟩
 ·obtain⟨_,⟨f,z,e⟩,⟨y,I⟩,_⟩:=r;have:=(h.table.1 f z).1.1;exact⟨.inr (e ▸ this),y,by omega⟩
theorem By {n:aa}(h:UpN n)(y:cg n<999999)(r:Int):(pZ n r).length<=5/\∀ w∈pZ n r,ic w:=by
 have J:=(ne h.x.later (show de (d9 n) from h.self)).1.table;obtain⟨z,M⟩:=tF J;obtain⟨O,_,_⟩:=p6 h y;have H:=(qG h y).1;obtain⟨X,I⟩:=vm H.x.table H.x.others r;have R:(fw (fy n).1).2.length<=1/\∀ w∈(fw (fy n).1).2,ic w:=by
  unfold fw;cases (aa.probe (fy n).1).1==-1 with
  |true=>exact zS O.x.say
  |false=>exact⟨by simp,by simp⟩
 unfold pZ;have z:(fy n).2.length<=2:=z;refine⟨by rw[CF,CF];omega,λw u=>?_⟩;rcases B5.1 u with u|u
 ·rcases B5.1 u with u|u
  ·exact M w u
  ·exact R.2 w u
 ·exact I w u
theorem Bz (K:Nat)(n:aa)(H:Int)(h:UpN n)(hg:n.2.2.1=false)(hm:cg n<999999)(Z:1048577<K):Q104.f K (n,H,())=some ((kM n,pZ n H,()),()):=by
 have a3:=h.x.now0;simp only[Q104.f,zcp4];refine (congrArg (λb=>bif !b then _ else _) h.up).trans ?_;refine (congrArg (λb=>bif b then _ else _) hg).trans ?_;refine (congrArg (λb=>bif b then _ else _) (decide_eq_false (show ¬ n.2.2.2.2.2.1>=999999 by have:cg n=n.2.2.2.2.2.1:=rfl;omega))).trans ?_;simp only[cond_false];rw[show wr .i64 (n.2.2.2.2.2.1+1)=n.2.2.2.2.2.1+1 from aJ (by have:cg n=n.2.2.2.2.2.1:=rfl;omega) (by have:cg n=n.2.2.2.2.2.1:=rfl;omega)];have hl:UpX (d9 n):=h.x.later;have a0:∀ d∈aa.doubts (d9 n),0<=d.2.2.1/\d.2.2.1<=(d9 n).2.2.2.2.2.1/\d.2.2.2.length<=1048576:=λd hd=>by
  obtain⟨_,⟨s0,s1⟩,_,h4⟩:=hl.doubts.1 d hd;exact⟨s0,s1,B8 (iU (k:=λx=>x) h4.2 λx hx=>(h4.1 x hx).1) (by decide)⟩
 have X:∀ d∈aa.doubts (d9 n),∃ f∈aa.table (d9 n),f.1=d.1:=λd hd=>by
  obtain⟨⟨f,hf,e,_⟩,_⟩:=hl.doubts.1 d hd;exact⟨f,hf,e⟩
 have Y:(d9 n).2.2.2.2.2.1<=1000000:=by show cg n+1<=1000000;omega
 refine (congrArg (λo=>BW o _) (Bj K (d9 n) ⟨hl.say,X,rfl⟩ a0 Y Z)).trans ?_;simp only[BV];obtain⟨b1,b2,t,c,ds,eb⟩:=ne hl (show de (d9 n) from h.self);have z:tt (fy n).1:=(p6 h hm).1.seq;have a1:cg (kq (d9 n))=cg n+1:=by rw[eb];rfl
 have hp:=rE b1 (by omega);obtain⟨a2,_⟩:=tF b1.table;have R:=(qG h hm).1;have r:=Br K (kM n) H R.x.far R.x.table (bV R.x.table) Z;have u:=(p6 h hm).1;obtain⟨J,_⟩:=zS u.x.say;obtain⟨y,_⟩:=vm R.x.table R.x.others H;unfold kM fw fy at r R y;unfold fy at z u J;unfold pZ kM fw fy;generalize kq (d9 n)=m at *;rcases hp.1 with M|M
 ·have e0:dl m=(m,[]):=by unfold dl;rw[show ((aa.probe m).1==-1)=true by simpa using M];rfl
  rw[e0]at r z u J y ⊢;refine (congrArg (λb=>bif b then _ else _) (decide_eq_false (show ¬ m.2.2.2.2.2.2.2.2.2.2.1.1>=0 by have:(aa.probe m).1=m.2.2.2.2.2.2.2.2.2.2.1.1:=rfl;omega))).trans ?_;refine (congrArg (λb=>bif b then _ else _) (decide_eq_true (show m.2.2.2.2.2.2.2.2.2.2.1.1<0 by have:(aa.probe m).1=m.2.2.2.2.2.2.2.2.2.2.1.1:=rfl;omega))).trans ?_;refine (congrArg (λo=>BW o _) (vk K m u.x.say z Z)).trans ?_;simp only[BV];rw[show ((aa.probe m).1==-1)=true by simpa using M]at r y ⊢;simp only[cond_true]at r y J ⊢;rw[szw _ _ _ (by omega) (by simp;omega)];simp only[cond_true];refine (congrArg (λo=>BW o _) r).trans ?_;simp only[BV];rw[szw _ _ _ (by omega) (by simp;omega)];rfl
 ·refine (congrArg (λb=>bif b then _ else _) (decide_eq_true (show m.2.2.2.2.2.2.2.2.2.2.1.1>=0 from M))).trans ?_;refine (congrArg (λo=>BW o _) (Bk K m b1.say (by omega) hp.2.1 hp.2.2 b1.now0 (by have:cg m=m.2.2.2.2.2.1:=rfl;omega) Z)).trans ?_;simp only[BV];generalize dl m=fo at *;obtain⟨O,ws⟩:=fo;simp only at r z u J y a2 ⊢;have I:=(rE u.x (by have:=u.now1;omega)).1;rcases I with I|I
  ·refine (congrArg (λb=>bif b then _ else _) (decide_eq_true (show O.2.2.2.2.2.2.2.2.2.2.1.1<0 by have:(aa.probe O).1=O.2.2.2.2.2.2.2.2.2.2.1.1:=rfl;omega))).trans ?_;refine (congrArg (λo=>BW o _) (vk K O u.x.say z Z)).trans ?_;simp only[BV];rw[show ((aa.probe O).1==-1)=true by simpa using I]at r y ⊢;simp only[cond_true]at r y ⊢;rw[szw _ _ _ (by omega) (by omega)];simp only[cond_true];refine (congrArg (λo=>BW o _) r).trans ?_;simp only[BV];rw[szw _ _ _ (by omega) (by rw[CF];omega)];rfl
  ·refine (congrArg (λb=>bif b then _ else _) (decide_eq_false (show ¬ O.2.2.2.2.2.2.2.2.2.2.1.1<0 by have:(aa.probe O).1=O.2.2.2.2.2.2.2.2.2.2.1.1:=rfl;omega))).trans ?_;rw[show ((aa.probe O).1==-1)=false by simp;omega]at r y ⊢;simp only[cond_false]at r y ⊢;refine (congrArg (λo=>BW o _) r).trans ?_;simp only[BV,Cr];rw[szw _ _ _ (by omega) (by omega)];rfl
theorem tG (K:Nat)(l:List af)(f:af)(J:l.length<=1048576)(M:1048577<K):Ret (Q81.f K (l,f,())) (f∈l):=by
 have:=cq (step:=λrec a=>Q81.s0 K (l,f,()) rec a) l.length (λi=>(i:Int)) (λj=>∃ h:j<l.length,l[j]=f) (rb false) (λ_=>rb true) ?_ ?_ l.length K 0 (by omega) (by omega)
 ·rcases this with ⟨z,r⟩|⟨j,_,_,⟨y,H⟩,_,r⟩
  ·refine⟨false,r,?_⟩;refine⟨λh=>absurd h (by decide),λI=>?_⟩;obtain⟨i,u,e⟩:=CE I;exact absurd ⟨u,e⟩ (z i (CH _) u)
  ·exact⟨true,r,λ_=>H ▸ B7 y,λ_=>rfl⟩
 ·intro rec i u;simp only[Q81.s0];rw[bj (by omega:(i:Int)<(BY l:Int)),ag u,ar i (by omega)];simp only[cond_true,BV];rw[gA];by_cases h:l[i]=f
  ·rw[decide_eq_true h];exact .inr ⟨⟨u,h⟩,rfl⟩
  ·rw[decide_eq_false h];exact .inl ⟨λ⟨_,r⟩=>h r,rfl⟩
 ·intro rec;simp only[Q81.s0,aP];rfl
theorem UpN.nb {n:aa}(h:UpN n):NB n where
 table:=bV h.x.table
 cast:=by have:=clen h.x.say;omega
 doubts:=h.x.say.ld
 by_:=λd u=>by have:=(h.learns.by_ d u).len;omega
 places:=plen h.x.places
 trips:=λp y=>by have:=(h.x.places.1 p y).2.2.2.2.1.2;omega
 others:=tz h.x.others
 facts:=λx r=>bV (h.x.others.1 x r).2.2.2.1
def ju (r:Int)(g:Bool):aa:=(r,false,false,g,0,0,0,0,[],[],(0,0,0,false),[],(0,0,0,0),[],[])
structure eo (i:Nat) (n:aa):Prop where
 me:n.1=(i:Int)
 lt:i<8
 up:n.2.1=true->UpN n
 down:n.2.1=false->n=ju n.1 n.2.2.2.1
theorem eo.nb {i:Nat}{n:aa}(h:eo i n):NB n:=by
 cases r:n.2.1 with
 |true=>exact (h.up r).nb
 |false =>
  rw[h.down r];exact⟨by simp[ju,aa.table],by simp[ju,aa.cast],by simp[ju,aa.doubts],by simp[ju,aa.doubts],by simp[ju,aa.places],by simp[ju,aa.places],by simp[ju,aa.others],by simp[ju,aa.others]⟩
theorem eo.short {i:Nat}{n:aa}(h:eo i n):(aa.table n).length<=4:=by
 cases r:n.2.1 with
 |true=>exact uB (h.up r).x.table (h.up r).x.site
 |false=>rw[h.down r];exact CH _
theorem eo.of {i:Nat}{n m:aa}(h:eo i n)(r:UpN m)(e:m.1=n.1):eo i m:=⟨e.trans h.me,h.lt,λ_=>r,λu=>by rw[r.up]at u;cases u⟩
def fW (l:List lH):Prop:=l.length<=60/\∀ f∈l,InP f.1 0 7/\f.2.1.size<=2000
structure WI (w:bT) (c:Nat):Prop where
 len:w.1.length=8
 node:∀ (i:Nat) (h:i<w.1.length),eo i w.1[i]
 radio:fW w.2.1
 sides:w.2.2.1.length=8
 born:w.2.2.2.length<=c
theorem WI.mono {w:bT}{c d:Nat}(h:WI w c)(r:c<=d):WI w d:=⟨h.len,h.node,h.radio,h.sides,B8 h.born r⟩
theorem WI.put {w:bT}{c:Nat}(h:WI w c){i:Nat}{n:aa}(z:eo i n){rd:List lH}(y:fW rd){b:List af}{d:Nat}(r:b.length<=d):WI (w.1.set i n,rd,w.2.2.1,b) d:=by
 refine⟨by rw[CD];exact h.len,λj u=>?_,y,h.sides,r⟩;show eo j ((w.1.set i n)[j]'u);rw[List.getElem_set];split
 ·rename_i e;exact e ▸ z
 ·exact h.node j _
theorem xY (K:Nat)(w:bT)(J:Int)(u:List aj)(hs:w.2.2.1.length=8)(z:InP J 0 7)(X:∀ x∈u,ic x)(hr:fW w.2.1)(hl:u.length<=1000)(hK:1048577<K) :
  Tot (Q78.f K (w,J,u,())) λr=>∃ rd,fW rd/\r.1.1=(w.1,rd,w.2.2):=by
 simp only[Q78.f,Q78.pre];obtain⟨f0,f1⟩:=z;refine Tot.iter (step:=λrec a=>Q78.s0 K (w,J,u,()) rec a) (λa=>0<=a.1/\a.1<=u.length/\fW a.2) (λa=>u.length-a.1.toNat) ?_ K _ (by show u.length-B3 0<K;omega) ⟨by show (0:Int)<=0;omega,by show (0:Int)<=_;omega,hr⟩;rintro rec ⟨i,rd⟩ ⟨I,h1,H⟩ ih;simp only at I h1 H ih ⊢;simp only[Q78.s0];refine Tot.cnd (λh=>?_) λ_=>Tot.ret ⟨rd,H,rfl⟩
 have h:=of_decide_eq_true h;rw[aJ (n:=i+1) (by omega) (by omega)];have R:∀ y,fW y->Tot (rec (i+1,y)) λr=>∃ rd,fW rd/\r.1.1=(w.1,rd,w.2.2):=λy Y=>ih _ ⟨by show 0<=i+1;omega,by show i+1<=_;omega,Y⟩ (by show u.length-B3 (i+1)<u.length-B3 i;omega)
 refine Tot.cnd (λh3=>?_) λ_=>R rd H
 have h3:=of_decide_eq_true h3;refine Tot.ix f0 (by omega) λ_ _ _=>Tot.ix I h λy2 O _=>?_
 obtain⟨⟨t0,t1⟩,_⟩:=X y2 O;refine Tot.ix t0 (by omega) λ_ _ _=>Tot.cnd (λ_=>Tot.fit (Tot.ix I h λy4 Z _=>Tot.ix I h λy5 M _=>Tot.bind (oF K y5 (X y5 M).2 hK) λv hv=>Tot.fit (R _ ⟨?_,λf z=>?_⟩) (by omega) ?_) (by omega) ?_) λ_=>R rd H
 ·simp;omega
 ·rcases B5.1 z with z|z
  ·exact H.2 f (by simpa using z)
  ·rw[BZ.1 z];exact⟨(X y4 Z).1,by show v.1.1.size<=2000;have:=hv.1;omega⟩
 ·simp;omega
 ·simp;omega
theorem Tot.ins {α:Type}{l:List α}{x:α}{a:Int}{c:Nat}{Q:(List α×Unit)×Unit->Prop}(u:0<=a)(H:a<=l.length)(y:l.length<=1048576)(z:c<=64)(k:∀ r:List α,r.length=l.length+1->Q ((r,()),())) :
  Tot (bif decide ((0:Int)<=0)&&decide (0<=a)&&decide (a<=(BY l:Int))&&true then (bif decide ((BY ([]:List α)+BY ((l.take (B3 a)).drop (B3 0)))*c<=an) then (bif decide ((BY ([]++((l.take (B3 a)).drop (B3 0)))+BY ([x]))*c<=an) then (bif decide (0<=a)&&decide (a<=(BY l:Int))&&decide ((BY l:Int)<=(BY l:Int))&&true then (bif decide ((BY (([]++((l.take (B3 a)).drop (B3 0)))++([x]))+BY ((l.take (B3 (BY l:Int))).drop (B3 a)))*c<=an) then (some (((([]++((l.take (B3 a)).drop (B3 0)))++([x]))++((l.take (B3 (BY l:Int))).drop (B3 a)),()),())) else none) else none) else none) else none) else none) Q:=by
 obtain⟨m,rfl⟩:=CL u;refine Tot.must (by simp;omega) (Tot.fit (Tot.fit (Tot.must (by simp;omega) (Tot.fit (Tot.ret (k _ ?_)) (by omega) ?_)) (by omega) ?_) (by omega) ?_) <;>
 simp only[B4,CV,CO,CM,CF,CR,Ca,Cp,Cd] <;> omega
theorem zk (K:Nat)(f g:af):Tot (Q79.f K (f,g,())) λ_=>True:=by
 simp only[Q79.f];exact Tot.cnd (λ_=>Tot.ret trivial) λ_=>Tot.bind (sU K g f).tot λ_ _=>Tot.ret trivial
theorem xZ (K:Nat)(l:List af)(f:af)(M:l.length<=1048576)(O:1048577<K):Tot (Q80.f K (l,f,())) λr=>r.1.1.length<=l.length+1:=by
 simp only[Q80.f,Q80.pre];refine Tot.iter (A:=Int) (step:=λrec a=>Q80.s0 K (l,f,()) rec a) (λa=>0<=a/\a<=l.length) (λa=>l.length-a.toNat) ?_ K _ (by show l.length-B3 0<K;omega) ⟨by show (0:Int)<=0;omega,by show (0:Int)<=_;omega⟩;rintro rec i ⟨H,z⟩ I;simp only[Q80.s0];have u:=λ (z:i<=l.length)=>Tot.ins (x:=f) (c:=32) (Q:=λr=>r.1.1.length<=l.length+1) H z M (by omega) λr R=>by show r.length<=_;omega
 have y:l.length<=l.length+1:=Cf _;refine Tot.cnd (λh=>?_) λ_=>Tot.cnd (λh=>Tot.ix H (of_decide_eq_true h) λ_ _ _=>Tot.cnd (λ_=>Tot.ret y) λ_=>u z) λ_=>u z
 have h:i<(l.length:Int):=of_decide_eq_true h;rw[aJ (n:=i+1) (by omega) (by omega)];refine Tot.ix H h λJ _ _=>Tot.bind (zk K J f) λ_ _=>Tot.cnd (λ_=>I (i+1) ⟨by show 0<=i+1;omega,by show i+1<=(l.length:Int);omega⟩ (by show l.length-B3 (i+1)<l.length-B3 i;omega)) λ_=>Tot.cnd (λ_=>Tot.ix H h λ_ _ _=>Tot.cnd (λ_=>Tot.ret y) λ_=>u z) λ_=>u z
theorem zT (K:Nat)(w:bT)(z y u:List af)(h1:z.length<=1048576)(X:y.length<=1048576)(h3:u.length<=100)(hb:w.2.2.2.length<=1000000)(M:1048577<K) :
  Tot (Q82.f K (w,z,y,u,())) λr=>∃ b,b.length<=w.2.2.2.length+u.length/\r.1.1=(w.1,w.2.1,w.2.2.1,b):=by
 simp only[Q82.f,Q82.pre];refine Tot.iter (step:=λrec a=>Q82.s0 K (w,z,y,u,()) rec a) (λa=>0<=a.1/\a.1<=u.length/\(a.2.length:Int)<=w.2.2.2.length+a.1) (λa=>u.length-a.1.toNat) ?_ K _ (by show u.length-B3 0<K;omega) ⟨by show (0:Int)<=0;omega,by show (0:Int)<=_;omega,by show (w.2.2.2.length:Int)<=w.2.2.2.length+0;omega⟩;rintro rec ⟨i,b⟩ ⟨H,R,i2⟩ O;simp only at H R i2 O ⊢;simp only[Q82.s0];refine Tot.cnd (λh=>?_) λ_=>Tot.ret ⟨b,by omega,rfl⟩
 have h:=of_decide_eq_true h;rw[aJ (n:=i+1) (by omega) (by omega)];have J:∀ I:List af,I.length<=b.length+1->Tot (rec (i+1,I)) λr=>∃ b,b.length<=w.2.2.2.length+u.length/\r.1.1=(w.1,w.2.1,w.2.2.1,b):=λI a0=>O _ ⟨by show 0<=i+1;omega,by show i+1<=_;omega,by show (I.length:Int)<=_+(i+1);omega⟩ (by show u.length-B3 (i+1)<u.length-B3 i;omega)
 refine Tot.ix H h λy1 _ _=>Tot.bind (tG K z y1 h1 M).tot λ_ _=>Tot.cnd (λ_=>?_) λ_=>J b (Cf _)
 refine Tot.ix H h λy3 _ _=>Tot.bind (tG K y y3 X M).tot λ_ _=>Tot.cnd (λ_=>?_) λ_=>J b (Cf _)
 exact Tot.ix H h λZ _ _=>Tot.bind (xZ K b Z (by omega) M) λv Y=>J v.1.1 Y
structure zU (w:bT) (i:Nat) (n:aa) (ws:List aj) (heard:List af) (c:Nat):Prop where
 wi:WI w c
 lt:i<8
 n:eo i n
 sent:∀ x∈ws,ic x
 wl:ws.length<=1000
 hl:heard.length<=1048576
 c:c<=1000000
theorem set_t (K:Nat)(w:bT)(i:Nat)(n:aa)(H:List aj)(u:List af)(c:Nat)(h:zU w i n H u c)(I:1048577<K):Tot (Q83.f K ((w,i),n,H,u,())) λr=>WI r.1.1 (c+4):=by
 simp only[Q83.f];have z:i<w.1.length:=by rw[h.wi.len];exact h.lt
 have O:=h.c;have M:=h.wi.born;have J:=h.n.short;rw[h.n.me];refine Tot.vl (ag z) (Tot.vl (by rw[B4];exact ag z) (Tot.vl (ag z) (Tot.vl (by rw[B4];exact ag z) ?_)));refine Tot.must (by simp) ?_;rw[B4];refine Tot.bind (zT K (w.1.set i n,w.2) (aa.table w.1[i]) u (aa.table n) (h.wi.node i z).nb.table h.hl (by omega) (by show w.2.2.2.length<=_;omega) I) ?_;rintro⟨⟨v,⟨⟩⟩,⟨⟩⟩ ⟨b,y,rfl⟩;refine Tot.bind (xY K (w.1.set i n,w.2.1,w.2.2.1,b) (i:Int) H h.wi.sides ⟨by omega,by have:=h.lt;omega⟩ h.sent h.wi.radio h.wl I) ?_;rintro⟨⟨v,⟨⟩⟩,⟨⟩⟩ ⟨rd,hr,rfl⟩;have y:b.length<=w.2.2.2.length+(aa.table n).length:=y;exact Tot.ret (h.wi.put h.n hr (by omega))
theorem BA (K:Nat)(w:bT)(i:Nat)(n:aa)(H:List aj)(u:List af)(c:Nat)(h:zU w i n H u c)(I:1048577<K):Tot (Q86.f K (w,n,H,u,())) λr=>WI r.1.1 (c+4):=by
 simp only[Q86.f];have z:i<w.1.length:=by rw[h.wi.len];exact h.lt
 have O:=h.c;have M:=h.wi.born;have J:=h.n.short;rw[h.n.me];refine Tot.vl (ag z) (Tot.vl (by rw[B4];exact ag z) (Tot.vl (ag z) (Tot.vl (by rw[B4];exact ag z) ?_)));rw[B4];refine Tot.bind (zT K (w.1.set i n,w.2) (aa.table w.1[i]) u (aa.table n) (h.wi.node i z).nb.table h.hl (by omega) (by show w.2.2.2.length<=_;omega) I) ?_;rintro⟨⟨v,⟨⟩⟩,⟨⟩⟩ ⟨b,y,rfl⟩;refine Tot.bind (xY K (w.1.set i n,w.2.1,w.2.2.1,b) (i:Int) H h.wi.sides ⟨by omega,by have:=h.lt;omega⟩ h.sent h.wi.radio h.wl I) ?_;rintro⟨⟨v,⟨⟩⟩,⟨⟩⟩ ⟨rd,hr,rfl⟩;have y:b.length<=w.2.2.2.length+(aa.table n).length:=y;exact Tot.ret (h.wi.put h.n hr (by omega))
theorem rF (K:Nat)(l:List lH)(at_:Int)(z:0<=at_)(H:at_<l.length)(y:fW l):Tot (Q77.f K (l,at_,())) λr=>fW r.1.1:=by
 have I:=y.1;obtain⟨m,rfl⟩:=CL z;simp only[Q77.f];rw[ar m (by omega)];refine Tot.must (by simp;omega) (Tot.fit (Tot.must (by simp;omega) (Tot.fit (Tot.ret ⟨?_,λf u=>y.2 f ?_⟩) (by omega) ?_)) (by omega) ?_)
 ·simp only[B4,CV,CO,CM,CF,CR,Ca];omega
 ·simp only[B4,CV,CO,CM,CX]at u;rcases B5.1 u with u|u
  ·exact CQ u
  ·exact List.mem_of_mem_drop u
 ·simp only[B4,CV,CO,CM,CF,CR,Ca];omega
 ·simp only[B4,CV,CO,CM,CR,Cd];omega
theorem rG (K:Nat)(w:bT)(c:Nat)(h:WI w c)(hc:c<=1000000)(to:Int)(t0:0<=to)(t1:to<=7)(x:aj)(X:dB x)(H:1048577<K){G:aa->aa->Option ((bT×Unit)×Unit)}
  (hG:∀ y:aa,G y y=(Q59.f K (y,x,())).bind λI=>(Q83.f K ((w,B3 to),I.1.1,I.1.2.1,aj.table x,())).bind λR=>some ((R.1.1,()),())) :
  Tot ((idx w.1 to).bind λ_=>(idx w.1 (B3 to:Nat)).bind λO=>(idx w.1 (B3 to:Nat)).bind λM=>G O M) λr=>WI r.1.1 (c+4):=by
 obtain⟨i,rfl⟩:=CL t0;have J:i<w.1.length:=by rw[h.len];omega
 have z:=h.node i J;refine Tot.vl (ag J) (Tot.vl (by rw[B4];exact ag J) (Tot.vl (by rw[B4];exact ag J) ?_));rw[hG,xV K w.1[i] x z.up (bV X.2.2.2.2.2.2.2.1) H];simp only[BV,B4];refine Tot.bind (set_t K w i _ _ _ c ⟨h,z.lt,?_,?_,?_,bV X.2.2.2.2.2.2.2.1,hc⟩ H) λv Z=>Tot.ret Z
 ·cases u:w.1[i].2.1 with
  |true=>exact z.of (qM (z.up u) H).1 (qM (z.up u) H).2.1
  |false =>
   rw[show bM K w.1[i] x=(w.1[i],[]) by unfold bM;rw[if_neg λh=>by have:=h.2.1;rw[u]at this;cases this]];exact z
 ·cases u:w.1[i].2.1 with
  |true=>exact λy Y=>(mq (z.up u) H).2 y Y
  |false =>
   rw[show bM K w.1[i] x=(w.1[i],[]) by unfold bM;rw[if_neg λh=>by have:=h.2.1;rw[u]at this;cases this]];simp
 ·cases u:w.1[i].2.1 with
  |true=>have:=(mq (w:=x) (z.up u) H).1;omega
  |false =>
   rw[show bM K w.1[i] x=(w.1[i],[]) by unfold bM;rw[if_neg λh=>by have:=h.2.1;rw[u]at this;cases this]];simp
theorem AB (K:Nat)(w:bT)(c:Nat)(h:WI w c)(hc:c<=1000000)(at_:Int)(keep:Bool)(h0:0<=at_)(h1:at_<w.2.1.length)(X:1048577<K):Tot (Q84.f K (w,at_,keep,())) λr=>WI r.1.1 (c+4):=by
 simp only[Q84.f,zcp8];refine Tot.ix2 h0 h1 λf hf _=>?_
 obtain⟨⟨t0,t1⟩,a0⟩:=h.radio.2 f hf;have hs:=h.sides;refine Tot.cnd (λ_=>Tot.bind (rF K w.2.1 at_ h0 h1 h.radio) ?_) λ_=>Tot.bind (mp K f.2.1 (by omega) X) ?_
 ·rintro⟨⟨rd,⟨⟩⟩,⟨⟩⟩ hr;have O:WI (w.1,rd,w.2.2) (c+4):=⟨h.len,h.node,hr,h.sides,B8 h.born (by omega)⟩;refine Tot.bind (mp K f.2.1 (by omega) X) ?_;rintro⟨⟨(x:aj),ok,⟨⟩⟩,⟨⟩⟩ H;refine Tot.cnd (λ_=>Tot.ret O) λY=>?_
  have H:dB x:=H (by simpa using Y);obtain⟨M,Z⟩:=H.2.2.1;have I:x.2.2.1<(w.2.2.1.length:Int):=by rw[hs];omega
  refine Tot.ix2 M I λ_ _ _=>Tot.ix2 t0 (by omega) λ_ _ _=>Tot.cnd (λ_=>Tot.ret O) λ_=>Tot.cnd (λ_=>Tot.ret O) λ_=>?_
  exact rG K (w.1,rd,w.2.2) c ⟨h.len,h.node,hr,h.sides,h.born⟩ hc f.1 t0 t1 x H X (G:=λu J=>(Q59.f K ((u.1,(u.2.1,(u.2.2.1,(u.2.2.2.1,(u.2.2.2.2.1,(u.2.2.2.2.2.1,(u.2.2.2.2.2.2.1,(u.2.2.2.2.2.2.2.1,(u.2.2.2.2.2.2.2.2.1,(u.2.2.2.2.2.2.2.2.2.1,(u.2.2.2.2.2.2.2.2.2.2.1,(J.2.2.2.2.2.2.2.2.2.2.2.1,u.2.2.2.2.2.2.2.2.2.2.2.2)))))))))))),x,())).bind λz=>(Q83.f K (((w.1,rd,w.2.2),B3 f.1),z.1.1,z.1.2.1,aj.table x,())).bind λR=>some ((R.1.1,()),())) λy=>rfl
 ·rintro⟨⟨(x:aj),ok,⟨⟩⟩,⟨⟩⟩ H;have O:WI w (c+4):=h.mono (by omega);refine Tot.cnd (λ_=>Tot.ret O) λY=>?_
  have H:dB x:=H (by simpa using Y);obtain⟨M,Z⟩:=H.2.2.1;have I:x.2.2.1<(w.2.2.1.length:Int):=by rw[hs];omega
  refine Tot.ix2 M I λ_ _ _=>Tot.ix2 t0 (by omega) λ_ _ _=>Tot.cnd (λ_=>Tot.ret O) λ_=>Tot.cnd (λ_=>Tot.ret O) λ_=>?_
  exact rG K w c h hc f.1 t0 t1 x H X (G:=λu J=>(Q59.f K ((u.1,(u.2.1,(u.2.2.1,(u.2.2.2.1,(u.2.2.2.2.1,(u.2.2.2.2.2.1,(u.2.2.2.2.2.2.1,(u.2.2.2.2.2.2.2.1,(u.2.2.2.2.2.2.2.2.1,(u.2.2.2.2.2.2.2.2.2.1,(u.2.2.2.2.2.2.2.2.2.2.1,(J.2.2.2.2.2.2.2.2.2.2.2.1,u.2.2.2.2.2.2.2.2.2.2.2.2)))))))))))),x,())).bind λz=>(Q83.f K (((w.1,w.2),B3 f.1),z.1.1,z.1.2.1,aj.table x,())).bind λR=>some ((R.1.1,()),())) λy=>rfl
theorem AC (K:Nat)(w:bT)(c:Nat)(h:WI w c)(at_ u:Int)(X:0<=at_)(O:at_<w.2.1.length):Tot (Q85.f K (w,at_,u,())) λr=>WI r.1.1 c:=by
 simp only[Q85.f];refine Tot.ix2 X O λf Z _=>?_
 obtain⟨H,J⟩:=h.radio.2 f Z;refine Tot.cnd (λ_=>Tot.ret h) λ_=>Tot.cnd (λ_=>Tot.ret h) λY=>?_
 have z:¬ (f.2.1.size:Int)=0:=by simpa using Y
 obtain⟨I,b1⟩:=lI (a:=u) (m:=4095) (by omega);have I:0<=bC .i64 u 4095:=I;have M:0<=CW (bC .i64 u 4095) (f.2.1.size:Int):=Cs _ I;have R:CW (bC .i64 u 4095) (f.2.1.size:Int)<((eA f.2.1).length:Int):=by rw[rz];exact Cj _ (by omega)
 refine Tot.not (decide_eq_false z) (Tot.ix2 M R λ_ _ _=>Tot.ix2 M R λ_ _ _=>Tot.ix2 X O λ_ _ _=>Tot.ret ⟨h.len,h.node,⟨?_,λg y=>?_⟩,h.sides,h.born⟩)
 ·show (w.2.1.set _ _).length<=60;rw[CD];exact h.radio.1
 ·rcases List.mem_or_eq_of_mem_set y with y|rfl
  ·exact h.radio.2 g y
  ·refine⟨H,?_⟩;show (gN _).size<=2000;rw[iY,CD,rz];exact J
def mu (i:Int)(g:Bool):aa:=(i,true,false,g,0,0,0,0,[(i,0,1,g)],[],(-1,0,0,false),[],(0,0,0,1500),[],[])
theorem AD {i:Int}{g:Bool}(h:InP i 0 7):UpN (mu i g):=by
 refine⟨⟨h,CA _,⟨λf u=>?_,List.pairwise_singleton _ _⟩,λf u=>?_,⟨λx r=>(nomatch r),List.Pairwise.nil⟩,λx r=>(nomatch r),?_,⟨λd z=>(nomatch z),List.Pairwise.nil,rfl⟩,⟨?_,?_,?_,?_⟩,⟨λp y=>(nomatch y),List.Pairwise.nil⟩,⟨λp y=>(nomatch y),List.Pairwise.nil⟩⟩,?_,?_,⟨?_,?_⟩,?_,rfl⟩
 ·rw[BZ.1 u];exact⟨h,⟨by show (0:Int)<=0;omega,by show (0:Int)<=999;omega⟩,by show (1:Int)<=1;omega,by show (1:Int)<=4;omega⟩
 ·rw[BZ.1 u];rfl
 ·unfold c8;rw[if_pos (show (aa.probe (mu i g)).1=-1 from rfl)];rfl
 ·exact⟨by show (-100000:Int)<=0;omega,by show (0:Int)<=100000;omega⟩
 ·exact⟨by show (-100000:Int)<=0;omega,by show (0:Int)<=100000;omega⟩
 ·exact⟨by show (0:Int)<=0;omega,by show (0:Int)<=100000;omega⟩
 ·exact⟨by show (1:Int)<=1500;omega,by show (1500:Int)<=1500;omega⟩
 ·exact BZ.2 rfl
 ·show (0:Int)<=999999;omega
 ·exact⟨by show (0:Int)<=0;omega,by show (0:Int)<=999999;omega⟩
 ·exact⟨by show (0:Int)<=0;omega,by show (0:Int)<=8;omega⟩
 ·exact⟨by show (0:Int)<=0;omega,by show (0:Int)<=999;omega⟩
theorem rH (K:Nat)(i:Int)(g:Bool)(h:InP i 0 7):Q15.f K (i,g,())=some ((mu i g,()),()):=by
 simp only[Q15.f];obtain⟨b,e,r⟩:=cF K i 0 7;rw[e,r.2 h];rfl
theorem eo.new (i:Nat)(g:Bool)(h:i<8):eo i (mu (i:Int) g):=⟨rfl,h,λ_=>AD ⟨by omega,by omega⟩,λr=>by cases r⟩
theorem BB (K:Nat)(w:bT)(c:Nat)(h:WI w c)(O:c<=1000000)(u:Int)(y:InP u 0 7)(H:1048577<K):Tot (Q88.f K (w,u,())) λr=>WI r.1.1 (c+4):=by
 have M:=h.born;have I:u.toNat<8:=by obtain⟨a,b⟩:=y;omega
 have z:=h.len;simp only[Q88.f,Q16.f,BV];rw[rH K u _ y];simp only[BV];refine Tot.ix2 y.1 (by have:=y.2;omega) λ_ _ _=>?_
 refine Tot.vl (show idx (mu u (decide (CW u 4<3))).2.2.2.2.2.2.2.2.1 0=some (u,0,1,decide (CW u 4<3)) from rfl) (Tot.bind (xZ K w.2.2.2 _ (by omega) H) λv J=>Tot.ret (h.put ?_ h.radio (by omega)));have:=eo.new u.toNat (decide (CW u 4<3)) I
 rwa [Ch y.1]at this
theorem AE {n:aa}(h:UpN n):(lF n).length<=8/\∀ x∈lF n,ic x:=by
 unfold lF;refine⟨?_,λx u=>?_⟩
 ·rw[Cc];exact B8 (Ce _ _) (iU h.x.table.2 λf r=>(h.x.table.1 f r).1)
 ·obtain⟨f,r,rfl⟩:=CI.1 u;exact⟨(h.x.table.1 f (CT.1 r).1).1,bV h.x.table⟩
theorem BC (K:Nat)(w:bT)(c:Nat)(h:WI w c)(hc:c<=1000000)(e:af)(h0:InP e.2.1 0 7)(O:1048577<K):Tot (Q106.f K (w,e,())) λr=>WI r.1.1 (c+4):=by
 have a2:=h.len;have hs:=h.sides;obtain⟨a1,a0,u,keep⟩:=e;obtain⟨e0,e1⟩:=h0;simp only at e0 e1;obtain⟨i,rfl⟩:=CL e0;have R:i<w.1.length:=by omega
 have M:=h.node i R;have y:=h.mono (show c<=c+4 by omega);simp only[Q106.f];refine Tot.vl (ag R) (Tot.vl (by rw[B4];exact ag R) ?_);generalize w.1[i]=n at M ⊢;refine Tot.cnd (λ_=>?_) λ_=>Tot.cnd (λ_=>?_) λ_=>Tot.cnd (λ_=>?_) λ_=>?_
 ·
  rw[zR];simp only[BV];exact Tot.ix2 (by omega) (by omega) λ_ _ _=>Tot.ret ⟨y.len,y.node,y.radio,by show (w.2.2.1.set _ _).length=8;rw[CD];exact h.sides,y.born⟩
 ·
  simp only[Q87.f,BV];refine Tot.ix2 (by omega) (by omega) λ_ _ _=>Tot.ret (y.put (i:=i) (n:=ju n.1 n.2.2.2.1) ?_ y.radio y.born)
  exact⟨M.me,M.lt,λJ=>(by cases J),λ_=>rfl⟩
 ·
  exact Tot.cnd (λ_=>Tot.ret y) λ_=>Tot.bind (BB K w c h hc (i:Int) ⟨by omega,by omega⟩ O) λv z=>Tot.ret z
 ·refine Tot.cnd (λ_=>Tot.ret y) λJ=>Tot.cnd (λ_=>Tot.ret y) λX=>?_
  have J:n.2.1=true:=by simpa using J
  have H:=M.up J;have set:=λ (m:aa) (Z:List aj) (I:UpN m) (em:m.1=n.1) (Y:∀ x∈Z,ic x) (hl:Z.length<=1000)=>BA K w i m Z [] c ⟨h,M.lt,M.of I em,Y,hl,CH _,hc⟩ O
  refine Tot.cnd (λ_=>?_) λ_=>Tot.cnd (λ_=>?_) λ_=>Tot.cnd (λ_=>?_) λ_=>Tot.ret y
  ·refine Tot.cnd (λ_=>Tot.ret y) λI=>?_
   have I:cg n<999999:=by have I:¬ n.2.2.2.2.2.1>=999999:=of_decide_eq_false I;show n.2.2.2.2.2.1<999999;omega
   obtain⟨t1,t2,_⟩:=qG H I;obtain⟨w1,w2⟩:=By H I u;exact Tot.vl (Bz K n u H X I O) (Tot.bind (set _ _ t1 t2 w2 (B8 w1 (by omega))) λv z=>Tot.ret z)
  ·obtain⟨t1,t2⟩:=zd H X;obtain⟨w1,w2⟩:=AE t1;exact Tot.vl (Al K n H.nb H.ok J X O) (Tot.bind (set _ _ t1 t2 w2 (B8 w1 (by omega))) λv z=>Tot.ret z)
  ·refine Tot.bind (cF K u 0 7).tot λv z=>Tot.cnd (λ_=>Tot.ret y) λh1=>Tot.cnd (λ_=>Tot.ret y) λ_=>?_
   have hd:InP u 0 7:=z.1 (by simpa using h1);rw[cV K,cV K];simp only[BV];refine Tot.cnd (λ_=>Tot.ret y) λ_=>?_
   refine Tot.vl (n9 K n 4 u (bV H.x.table)) (Tot.bind (set n _ H rfl (λx hx=>?_) (by simp)) λv z=>Tot.ret z);rw[BZ.1 hx];exact⟨hd,bV H.x.table⟩
theorem do_t (K:Nat)(w:bT)(c:Nat)(h:WI w c)(R:c<=1000000)(e:af)(O:1048577<K):Tot (Q108.f K (w,e,())) λr=>WI r.1.1 (c+4):=by
 have z:=h.mono (show c<=c+4 by omega);have hr:=h.radio.1;simp only[Q108.f];rw[aJ (n:=(BY w.2.1:Int)-1) (by omega) (by omega)];have u:Tot ((Q13.f K (e.2.1,0,(BY w.2.1:Int)-1,())).bind λY=>bif !Y.1.1 then (some ((w,false,()),())) else (bif e.1==2 then ((Q84.f K (w,e.2.1,e.2.2.2,())).bind λZ=>some ((Z.1.1,true,()),())) else (bif e.1==4 then ((Q85.f K (w,e.2.1,e.2.2.1,())).bind λM=>some ((M.1.1,M.1.2.1,()),())) else ((Q77.f K (w.2.1,e.2.1,())).bind λX=>some (((w.1,(X.1.1,w.2.2)),true,()),()))))) λr=>WI r.1.1 (c+4):=by
  refine Tot.bind (cF K _ _ _).tot λv y=>Tot.cnd (λ_=>Tot.ret z) λI=>?_
  obtain⟨J,H⟩:InP e.2.1 0 ((BY w.2.1:Int)-1):=y.1 (by simpa using I);have H:e.2.1<(w.2.1.length:Int):=by omega
  refine Tot.cnd (λ_=>Tot.bind (AB K w c h R e.2.1 e.2.2.2 J H O) λv y=>Tot.ret y) λ_=>Tot.cnd (λ_=>Tot.bind (AC K w c h e.2.1 e.2.2.1 J H) λv y=>Tot.ret (WI.mono y (by omega))) λ_=>?_
  exact Tot.bind (rF K w.2.1 e.2.1 J H h.radio) λv y=>Tot.ret ⟨z.len,z.node,y,z.sides,z.born⟩
 refine Tot.cnd (λ_=>u) λ_=>Tot.cnd (λ_=>u) λ_=>Tot.cnd (λ_=>u) λ_=>?_
 exact Tot.bind (cF K _ _ _).tot λv y=>Tot.cnd (λ_=>Tot.ret z) λI=>Tot.bind (BC K w c h R e (y.1 (by simpa using I)) O) λv y=>Tot.ret y
theorem zl (K:Nat)(w:bT)(X:w.1.length<=1048576)(J:∀ n∈w.1,NB n)(O:w.2.1.length<=1048576)(R:w.2.2.1.length<=1048576)(Y:w.2.2.2.length<=1048576)(I:1048577<K):Q110.f K (w,())=some ((w,()),()):=by
 simp only[Q110.f,Q110.pre];rw[szb _ _ _ (by omega) (by show (BY ([]:List lH))+w.2.1.length<=_;simp;omega)];simp only[cond_true];rw[szb _ _ _ (by omega) (by show (BY ([]:List Int))+w.2.2.1.length<=_;simp;omega)];simp only[cond_true];rw[szb _ _ _ (by omega) (by show (BY ([]:List af))+w.2.2.2.length<=_;simp;omega)];simp only[cond_true];have:∀ (d i k:Nat),i+d=w.1.length->d<k->ae (λrec a=>Q110.s0 K (w,()) rec a) k ((i:Int),w.1.take i)=some ((w,()),()):=by
  intro d;induction d with
  |zero =>
   intro i k H z;obtain⟨k,rfl⟩:∃ u,k=u+1:=⟨k-1,by omega⟩;have:i=w.1.length:=by omega
   subst this;show Q110.s0 K (w,()) _ _=_;simp only[Q110.s0,aP,CX];rfl
  |succ d M =>
   intro i k H z;obtain⟨k,rfl⟩:∃ u,k=u+1:=⟨k-1,by omega⟩;have r:i<w.1.length:=by omega
   show Q110.s0 K (w,()) _ _=_;simp only[Q110.s0];rw[bj (by omega:(i:Int)<(BY w.1:Int)),ag r,ar i (by omega)];simp only[cond_true,BV];refine (congrArg (λo=>BW o _) (mZ K w.1[i] (J _ (B7 r)) I)).trans ?_;simp only[BV];have y:decide (((w.1.take i).length+[w.1[i]].length)*232<=an)=true:=decide_eq_true (by
    rw[CR];simp only[Cp,Cd,an];omega)
   refine (congrArg (λb=>bif b then _ else _) y).trans ?_;have e:w.1.take i++[w.1[i]]=w.1.take (i+1):=by rw[Cn,CJ r];rfl
   rw[<- M (i+1) k (by omega) (by omega),<- e];rfl
 exact this w.1.length 0 K (by omega) (by omega)
theorem WI.copy {w:bT}{c:Nat}(h:WI w c)(M:c<=1000000)(K:Nat)(r:1048577<K):Q110.f K (w,())=some ((w,()),()):=by
 have H:=h.len;have I:=h.radio.1;have J:=h.sides;have z:=h.born;refine zl K w (by omega) (λn y=>?_) (by omega) (by omega) (by omega) r;obtain⟨i,u,rfl⟩:=CE y;exact (h.node i u).nb
theorem BD (K:Nat)(w:bT)(c:Nat)(y:List af)(h:WI w c)(Z:y.length<=1000)(hc:c<=900000)(M:1048577<K):Tot (Q111.f K (w,y,())) λr=>WI r.1.1 (c+4*y.length)/\r.2.1=y:=by
 simp only[Q111.f,Q111.pre];refine Tot.iter (step:=λrec a=>Q111.s0 K (w,y,()) rec a) (λa=>0<=a.1/\a.1<=y.length/\WI a.2 (c+4*a.1.toNat)) (λa=>y.length-a.1.toNat) ?_ K _ (by show y.length-B3 0<K;omega) ⟨by show (0:Int)<=0;omega,by show (0:Int)<=_;omega,h⟩;rintro rec ⟨i,v⟩ ⟨R,Y,H⟩ O;simp only at R Y H O ⊢;simp only[Q111.s0];refine Tot.cnd (λz=>?_) λ_=>Tot.ret ⟨WI.mono H (by omega),rfl⟩
 have z:i<(y.length:Int):=of_decide_eq_true z;rw[aJ (n:=i+1) (by omega) (by omega)];refine Tot.vl (H.copy (by omega) K M) (Tot.ix2 R z λe _ _=>Tot.bind (do_t K v _ H (by omega) e M) ?_);rintro⟨⟨v',ok,⟨⟩⟩,⟨⟩⟩ I;have I:WI v' (c+4*i.toNat+4):=I;have J:∀ u:bT,WI u (c+4*i.toNat+4)->Tot (rec (i+1,u)) λr=>WI r.1.1 (c+4*y.length)/\r.2.1=y:=λu X=>O (i+1,u) ⟨by show 0<=i+1;omega,by show i+1<=_;omega,X.mono (by show _<=c+4*(i+1).toNat;omega)⟩ (by show y.length-B3 (i+1)<y.length-B3 i;omega)
 exact Tot.cnd (λ_=>J v' I) λ_=>J v (H.mono (by omega))
theorem wq (K:Nat)(hK:1048577<K):Tot (Q17.f K ()) λr=>WI r.1.1 8:=by
 simp only[Q17.f,Q17.pre];refine Tot.iter (step:=λrec a=>Q17.s0 K () rec a) (λa=>0<=a.1/\a.1<=8/\a.2.1.length=a.1.toNat/\(∀ (j:Nat) (y:j<a.2.1.length),eo j a.2.1[j])/\a.2.2.1.length=a.1.toNat/\a.2.2.2.length=a.1.toNat) (λa=>8-a.1.toNat) ?_ K _ (by show 8-B3 0<K;omega) ⟨by show (0:Int)<=0;omega,by show (0:Int)<=8;omega,rfl,λj y=>(by cases y),rfl,rfl⟩;rintro rec ⟨i,z,R,O⟩ ⟨I,Z,Y,H,h4,h5⟩ X;simp only at I Z Y H h4 h5 X ⊢;simp only[Q17.s0];refine Tot.cnd (λu=>?_) λu=>?_
 ·have u:i<=7:=of_decide_eq_true u;rw[aJ (n:=i+1) (by omega) (by omega)];simp only[Q16.f,BV];refine Tot.vl (rH K i _ ⟨I,u⟩) (Tot.fit (Tot.fit (Tot.vl (show idx (mu i (decide (CW i 4<3))).2.2.2.2.2.2.2.2.1 0=some (i,0,1,decide (CW i 4<3)) from rfl) (Tot.fit (X _ ⟨by show 0<=i+1;omega,by show i+1<=8;omega,?_,λj y=>?_,?_,?_⟩ (by show 8-B3 (i+1)<8-B3 i;omega)) (by omega) ?_)) (by omega) ?_) (by omega) ?_)
  ·show (z++[mu i _]).length=(i+1).toNat;simp;omega
  ·show eo j ((z++[mu i (decide (CW i 4<3))])[j]'y);rw[List.getElem_append];split
   ·exact H j _
   ·rename_i J;have y:j<(z++[mu i (decide (CW i 4<3))]).length:=y;have M:j=i.toNat:=by simp at y;omega
    subst M;have:=eo.new i.toNat (decide (CW i 4<3)) (by omega);rw[Ch I]at this;simpa using this
  ·show (R++[0]).length=(i+1).toNat;simp;omega
  ·show (O++[_]).length=(i+1).toNat;simp;omega
  ·simp;omega
  ·simp;omega
  ·simp;omega
 ·have J:=of_decide_eq_false u;refine Tot.ret ⟨?_,H,⟨CH _,λf hf=>(nomatch hf)⟩,?_,?_⟩
  ·show z.length=8;omega
  ·show R.length=8;omega
  ·show O.length<=8;omega
abbrev LtP (v n:Int):Prop:=0<=v/\v<n
def be (b:List Int)(m:Nat)(s:List Int×Int):Prop:=∃ q:Nat,q<=m/\s=(b,(q:Int))
theorem be.up {b:List Int}{m:Nat}{s:List Int×Int}(h:be b m s){m':Nat}(u:m<=m'):be b m' s:=by obtain⟨q,y,r⟩:=h;exact⟨q,by omega,r⟩
section
variable {K:Nat} {b:List Int} {m:Nat} {s:List Int×Int}
theorem aA (h:fN b)(u:be b m s)(n:Int)(H:1<=n)(I:m<=99000):Tot (Q12.f K (s,n,())) λr=>LtP r.1.1 n/\be b (m+1) r.2.1:=by
 obtain⟨q,J,rfl⟩:=u;obtain⟨v,e,z,y⟩:=Ap K b q n h (by omega) H;exact⟨_,e,⟨z,y⟩,q+1,by omega,rfl⟩
theorem BE (r:List Int)(z:∀ y∈r,0<=y/\y<=255)(I:r.length<=9223372036854775807):∃ u:List Int,fN u/\Q11.f K (r,())=some (((u,(0:Int)),()),()):=by
 simp only[Q11.f];by_cases h:(r.length:Int)>2000
 ·rw[decide_eq_true h,decide_eq_true (by omega:(2000:Int)<=(r.length:Int))];exact⟨(r.take 2000).drop 0,⟨λy H=>z y (CQ (by simpa using H)),by simp;omega⟩,rfl⟩
 ·rw[decide_eq_false h];exact⟨r,⟨z,by omega⟩,rfl⟩
theorem x3 (h:fN b)(Y:be b m s)(u:Int)(h0:0<=u)(h1:u<=1)(hm:m<=98000):Tot (Q116.f K (s,u,())) λr=>(aV r.1.1/\ak r.1.1.1=u)/\be b (m+5) r.2.1:=by
 simp only[Q116.f];refine Tot.bind (aA h Y 4 (by decide) (by omega)) λH ⟨⟨a1,b1⟩,O⟩=>Tot.bind (aA h O 3 (by decide) (by omega)) λv2 ⟨⟨a2,b2⟩,M⟩=>Tot.bind (aA h M 12 (by decide) (by omega)) λv3 ⟨⟨a3,b3⟩,Z⟩=>Tot.bind (aA h Z 3 (by decide) (by omega)) λv4 ⟨⟨R,J⟩,s4⟩=>Tot.ix2 R J λy z _=>Tot.bind (aA h s4 4 (by decide) (by omega)) λI ⟨⟨a5,b5⟩,X⟩=>?_
 simp only[Q16.f,BV];have z:InP y 0 999:=by
  simp only[B9,Cq,or_false]at z;rcases z with rfl|rfl|rfl <;> constructor <;> omega
 rw[aJ (n:=u*4) (by omega) (by omega),aJ (n:=u*4+H.1.1) (by omega) (by omega),aJ (n:=1+I.1.1) (by omega) (by omega)];refine Tot.ret ⟨⟨⟨⟨?_,?_⟩,z,?_,?_⟩,?_⟩,X⟩
 ·show (0:Int)<=u*4+H.1.1;omega
 ·show u*4+H.1.1<=7;omega
 ·show (1:Int)<=1+I.1.1;omega
 ·show (1:Int)+I.1.1<=4;omega
 ·show ak (u*4+H.1.1)=u;rw[ji ⟨by omega,by omega⟩];omega
theorem ni (h:fN b)(M:be b m s)(hm:m<=97000):Tot (Q118.f K (s,())) λr=>be b (m+8) r.2.1:=by
 simp only[Q118.f];refine Tot.bind (aA h M 2 (by decide) (by omega)) λO ⟨⟨Y,b1⟩,J⟩=>Tot.bind (x3 h J O.1.1 Y (by omega) (by omega)) λf ⟨_,I⟩=>Tot.bind (aA h I 12 (by decide) (by omega)) λR ⟨_,H⟩=>?_
 have u:∀ {x y:Int} {G:(Int×Unit)×(List Int×Int)×Unit->Int->Option ((af×Unit)×(List Int×Int)×Unit)},(∀ v z,Tot (G v z) λr=>r.2.1=v.2.1)->Tot ((Q12.f K (R.2.1,2,())).bind λv=>(idx [x,y] v.1.1).bind λ_=>(idx [x,y] (B3 v.1.1:Nat)).bind (G v)) λr=>be b (m+8) r.2.1:=λZ=>Tot.bind (aA h H 2 (by decide) (by omega)) λv ⟨⟨a,b⟩,X⟩=>Tot.ix2 a b λz _ _=>(Z v z).mono λr e=>by rw[e];exact X.up (by omega)
 refine Tot.cnd (λ_=>u λ_ _=>Tot.ret rfl) λ_=>Tot.cnd (λ_=>u λ_ _=>Tot.ret rfl) λ_=>Tot.cnd (λ_=>u λ_ _=>Tot.ret rfl) λ_=>Tot.cnd (λ_=>Tot.ret (H.up (by omega))) λ_=>Tot.ret (H.up (by omega))
theorem x4 (t:List af)(f:af):(bg t f).1.length<=t.length+1:=by
 rcases gZ t f with e|e
 ·rw[e];omega
 ·rw[e];exact yO
theorem wt {t:List af}{f:af}{z:Int}(h:ca t z)(u:ak f.1=z):ca (bg t f).1 z:=by
 rcases gZ t f with e|e <;> rw[e]
 ·exact h
 ·intro g r;rcases aO.1 r with rfl|⟨r,_⟩
  ·exact u
  ·exact h g r
theorem oe (h:fN b)(hs:be b m s)(u:Int)(h0:-1<=u)(h1:u<=1)(hm:m<=96000)(hK:1048577<K):Tot (Q117.f K (s,u,())) λr=>(aw r.1.1/\(0<=u->ca r.1.1 u)/\r.1.1.length<=5)/\be b (m+31) r.2.1:=by
 simp only[Q117.f,Q117.pre];refine Tot.bind (aA h hs 6 (by decide) (by omega)) λv ⟨⟨v0,v1⟩,s1⟩=>?_
 refine Tot.iter (step:=λrec a=>Q117.s0 K (s,u,()) rec a) (λa=>∃ q:Nat,0<=a.2.1/\aw a.1/\(0<=u->ca a.1 u)/\(a.1.length:Int)+a.2.1<=5/\be b q a.2.2/\q+6*a.2.1.toNat<=m+31) (λa=>a.2.1.toNat) ?_ K _ (by show v.1.1.toNat<K;omega) ⟨m+1,v0,⟨by simp,List.Pairwise.nil⟩,λ_ f hf=>(nomatch hf),by show ((0:Nat):Int)+v.1.1<=5;omega,s1,by show m+1+6*v.1.1.toNat<=m+31;omega⟩;rintro rec ⟨t,n,s2⟩ ⟨q,n0,O,hS,hl,I,hq⟩ ih;simp only at n0 O hS hl I hq ih ⊢;simp only[Q117.s0];refine Tot.cnd (λhn=>?_) λ_=>Tot.ret ⟨⟨O,hS,by show t.length<=5;omega⟩,I.up (by omega)⟩
 have hn:n>0:=of_decide_eq_true hn;rw[aJ (n:=n-1) (by omega) (by omega)];have go:∀ (z:Int) (M:Nat) (J:List Int×Int),0<=z->z<=1->(0<=u->z=u)->be b M J->M<=q+1->Tot ((Q116.f K (J,z,())).bind λX=>(Q34.f K (t,X.1.1,())).bind λy4=>rec (y4.1.1,n-1,X.2.1.1,X.2.1.2)) λr=>(aw r.1.1/\(0<=u->ca r.1.1 u)/\r.1.1.length<=5)/\be b (m+31) r.2.1:=λz M J z0 z1 hz Z a0=>by
  refine Tot.bind (x3 h Z z z0 z1 (by omega)) λy ⟨⟨hf,R⟩,Y⟩=>Tot.vl (wa K t y.1.1 (by omega) O.2 hK) (ih (_,_,y.2.1) ⟨M+5,by show 0<=n-1;omega,fK O hf,λh9=>wt (hS h9) (by rw[R];exact hz h9),?_,Y,by show M+5+6*(n-1).toNat<=m+31;omega⟩ (by show (n-1).toNat<n.toNat;omega))
  have:=x4 t y.1.1;show ((bg t y.1.1).1.length:Int)+(n-1)<=5;omega
 refine Tot.cnd (λH=>?_) λH=>?_
 ·have H:u<0:=of_decide_eq_true H;exact Tot.bind (aA h I 2 (by decide) (by omega)) λv ⟨⟨a,b⟩,J⟩=>go v.1.1 (q+1) v.2.1 a (by omega) (λh9=>by omega) J (CG _)
 ·have H:¬ u<0:=of_decide_eq_false H;exact go u q s2 (by omega) h1 (λ_=>rfl) I (by omega)
theorem qg (h:fN b)(R:be b m s)(Z:m<=95000)(Y:1048577<K):Tot (Q119.f K (s,())) λr=>r.1.1.length<=6/\be b (m+42) r.2.1:=by
 simp only[Q119.f];refine Tot.bind (oe h R (-1) (by decide) (by decide) (by omega) Y) λt ⟨⟨hT,_,hl⟩,J⟩=>?_
 refine Tot.cnd (λM=>?_) λ_=>Tot.ret ⟨by show t.1.1.length<=6;omega,J.up (by omega)⟩
 have M:(t.1.1.length:Int)>0:=of_decide_eq_true M;refine Tot.bind (aA h J 12 (by decide) (by omega)) λv2 ⟨_,I⟩=>Tot.cnd (λ_=>?_) λ_=>Tot.ret ⟨by show t.1.1.length<=6;omega,I.up (by omega)⟩
 refine Tot.bind (aA h I (t.1.1.length:Int) (by omega) (by omega)) λv3 ⟨⟨u,H⟩,X⟩=>Tot.bind (aA h X 3 (by decide) (by omega)) λv4 ⟨_,z⟩=>?_
 refine Tot.cnd (λ_=>Tot.bind (ni h z (by omega)) λf O=>Tot.ix2 u H λ_ _ _=>Tot.ret ⟨by show (t.1.1.set _ _).length<=6;rw[CD];omega,O.up (by omega)⟩) λ_=>?_
 refine Tot.cnd (λ_=>Tot.ix2 u H λy _ _=>Tot.fit (Tot.ret ⟨by show (t.1.1++[y]).length<=6;simp;omega,z.up (by omega)⟩) (by omega) (by simp;omega)) λ_=>Tot.ix2 u H λy _ _=>Tot.ret ⟨by show (t.1.1.set _ _).length<=6;rw[CD];omega,z.up (by omega)⟩
theorem AF (h:fN b)(Z:be b m s)(u:Int)(h0:-1<=u)(Y:u<=1)(hm:m<=95000)(hK:1048577<K):Tot (Q120.f K (s,u,())) λr=>r.1.1.length<=5/\be b (m+36) r.2.1:=by
 simp only[Q120.f,Q120.pre];refine Tot.bind (oe h Z u h0 Y (by omega) hK) λt ⟨⟨hT,_,hl⟩,X⟩=>?_
 refine Tot.iter (step:=λrec a=>Q120.s0 K (s,u,()) rec a) (λa=>a.2.1=t.1.1/\0<=a.2.2.1/\a.2.2.1<=t.1.1.length/\(a.1.length:Int)=a.2.2.1/\be b (m+31+a.2.2.1.toNat) a.2.2.2) (λa=>t.1.1.length-a.2.2.1.toNat) ?_ K _ (by show t.1.1.length-B3 0<K;omega) ⟨rfl,by show (0:Int)<=0;omega,by show (0:Int)<=_;omega,rfl,X⟩;rintro rec ⟨H,t',i,s2⟩ ⟨e,M,R,J,z⟩ O;simp only at e M R J z O ⊢;subst e;simp only[Q120.s0];refine Tot.cnd (λI=>?_) λ_=>Tot.ret ⟨by show H.length<=5;omega,z.up (by omega)⟩
 have I:i<(t.1.1.length:Int):=of_decide_eq_true I;rw[aJ (n:=i+1) (by omega) (by omega)];refine Tot.ix2 M I λy _ _=>Tot.bind (aA h z 4 (by decide) (by omega)) λv ⟨_,s3⟩=>Tot.fit (O (_,_,_,v.2.1) ⟨rfl,by show 0<=i+1;omega,by show i+1<=_;omega,?_,s3.up (by show _<=m+31+(i+1).toNat;omega)⟩ (by show t.1.1.length-(i+1).toNat<t.1.1.length-i.toNat;omega)) (by omega) (by simp;omega)
 show ((H++[_]).length:Int)=i+1;simp;omega
theorem wu (h:fN b)(Y:be b m s)(hm:m<=94000)(hK:1048577<K):Tot (Q121.f K (s,())) λr=>r.1.1.length<=6/\be b (m+50) r.2.1:=by
 simp only[Q121.f];refine Tot.bind (AF h Y (-1) (by decide) (by decide) (by omega) hK) λt ⟨hl,M⟩=>?_
 refine Tot.cnd (λO=>?_) λ_=>Tot.ret ⟨by show t.1.1.length<=6;omega,M.up (by omega)⟩
 have O:(t.1.1.length:Int)>0:=of_decide_eq_true O;refine Tot.bind (aA h M 10 (by decide) (by omega)) λv2 ⟨_,J⟩=>Tot.cnd (λ_=>?_) λ_=>Tot.ret ⟨by show t.1.1.length<=6;omega,J.up (by omega)⟩
 refine Tot.bind (aA h J (t.1.1.length:Int) (by omega) (by omega)) λv3 ⟨⟨u,I⟩,Z⟩=>Tot.bind (aA h Z 3 (by decide) (by omega)) λv4 ⟨_,H⟩=>?_
 refine Tot.cnd (λ_=>Tot.bind (aA h H 2 (by decide) (by omega)) λv5 ⟨⟨R,X⟩,z⟩=>Tot.ix2 R X λ_ _ _=>Tot.ix2 u I λ_ _ _=>Tot.ret ⟨by show (t.1.1.set _ _).length<=6;rw[CD];omega,z.up (by omega)⟩) λ_=>?_
 refine Tot.cnd (λ_=>Tot.bind (ni h H (by omega)) λf z=>Tot.ix2 u I λ_ _ _=>Tot.ret ⟨by show (t.1.1.set _ _).length<=6;rw[CD];omega,z.up (by omega)⟩) λ_=>?_
 exact Tot.ix2 u I λy _ _=>Tot.fit (Tot.ret ⟨by show (t.1.1++[y]).length<=6;simp;omega,H.up (by omega)⟩) (by omega) (by simp;omega)
theorem rI (h:fN b)(O:be b m s)(Z:m<=95000):Tot (Q122.f K (s,())) λr=>be b (m+6) r.2.1:=by
 simp only[Q122.f,Q14.f];refine Tot.bind (aA h O 6 (by decide) (by omega)) λv1 ⟨_,z⟩=>Tot.cnd (λ_=>Tot.ret (z.up (by omega))) λ_=>Tot.bind (aA h z 3 (by decide) (by omega)) λv3 ⟨⟨H,X⟩,R⟩=>Tot.ix2 H X λy u _=>?_
 have u:InP y 10 100000:=by
  simp only[B9,Cq,or_false]at u;rcases u with rfl|rfl|rfl <;> constructor <;> omega
 rw[aJ (n:=2*y) (by omega) (by omega),aJ (n:=2*y+1) (by omega) (by omega),aJ (n:=y+1) (by omega) (by omega)];exact Tot.bind (aA h R _ (by omega) (by omega)) λv6 ⟨_,Y⟩=>Tot.bind (aA h Y _ (by omega) (by omega)) λv7 ⟨_,I⟩=>Tot.bind (aA h I _ (by omega) (by omega)) λv8 ⟨_,J⟩=>Tot.bind (aA h J _ (by decide) (by omega)) λv9 ⟨_,M⟩=>Tot.ret M
theorem mv (h:fN b)(z:be b m s)(I:m<=94000):Tot (Q123.f K (s,())) λr=>be b (m+8) r.2.1:=by
 simp only[Q123.f];exact Tot.bind (rI h z (by omega)) λc H=>Tot.bind (aA h H 16 (by decide) (by omega)) λJ ⟨_,y⟩=>Tot.cnd (λ_=>Tot.bind (aA h y 3 (by decide) (by omega)) λv ⟨⟨a,b⟩,u⟩=>Tot.ix2 a b λ_ _ _=>Tot.ret u) λ_=>Tot.cnd (λ_=>Tot.bind (aA h y 2 (by decide) (by omega)) λv ⟨⟨a,b⟩,u⟩=>Tot.ix2 a b λ_ _ _=>Tot.ret u) λ_=>Tot.cnd (λ_=>Tot.bind (aA h y 2 (by decide) (by omega)) λv ⟨⟨a,b⟩,u⟩=>Tot.ix2 a b λ_ _ _=>Tot.ret u) λ_=>Tot.ret (y.up (by omega))
theorem x5 (h:fN b)(z:be b m s)(w:bT)(I:m<=95000):Tot (Q112.f K (s,w,())) λr=>be b (m+2) r.2.1:=by
 simp only[Q112.f];refine Tot.cnd (λ_=>Tot.ret (z.up (by omega))) λy=>?_
 have y:¬ (w.2.1.length:Int)=0:=by simpa using y
 refine Tot.bind (aA h z 3 (by decide) (by omega)) λJ ⟨_,H⟩=>Tot.cnd (λ_=>Tot.cnd (λ_=>Tot.bind (aA h H 4 (by decide) (by omega)) λv ⟨_,u⟩=>Tot.ret u) λ_=>?_) λ_=>?_ <;>
 exact Tot.bind (aA h H _ (by show (1:Int)<=(w.2.1.length:Int);omega) (by omega)) λv ⟨_,u⟩=>Tot.ret u
theorem AG (h:fN b)(hs:be b m s)(w:bT)(hm:m<=94000):Tot (Q113.f K (s,w,())) λr=>be b (m+8) r.2.1:=by
 simp only[Q113.f];refine Tot.bind (aA h hs 8 (by decide) (by omega)) λv1 ⟨_,Z⟩=>Tot.bind (aA h Z 256 (by decide) (by omega)) λv2 ⟨_,Y⟩=>Tot.bind (aA h Y 16 (by decide) (by omega)) λv3 ⟨_,s3⟩=>Tot.bind (aA h s3 40 (by decide) (by omega)) λM ⟨_,y⟩=>?_
 have y:be b (m+4) M.2.1:=y.up (by omega);generalize M.2.1=z at y ⊢;have u4:be b (m+8) z:=y.up (by omega);have R:=x5 (K:=K) h y w (by omega);have O:∀ n:Int,1<=n->Tot (Q12.f K (z,n,())) λr=>be b (m+8) r.2.1:=λn J=>(aA h y n J (by omega)).mono λr I=>I.2.up (by omega)
 have X:∀ (H:List Int×Int) (n:Int),be b (m+4+2) H->1<=n->Tot (Q12.f K (H,n,())) λr=>be b (m+8) r.2.1:=λH n h1 J=>(aA h h1 n J (by omega)).mono λr I=>I.2.up (by omega)
 repeat' first
  |exact Tot.ret u4
  |exact Tot.bind R λv u=>Tot.ret (be.up u (by omega))
  |exact Tot.bind R λv u=>Tot.bind (X _ _ u (by decide)) λv u=>Tot.ret u
  |exact Tot.bind (O _ (by decide)) λv u=>Tot.ret u
  |exact Tot.bind (O _ (by decide)) λv u=>Tot.cnd (λ_=>Tot.ret u) λ_=>Tot.ret u
  |refine Tot.cnd (λ_=>?_) λ_=>?_
theorem AH (h:fN b)(hs:be b m s)(y:Int)(h1:1<=y)(h2:y<=200)(hm:m<=90000)(Z:1048577<K):Tot (Q114.f K (s,y,())) λr=>(WI r.1.2.1 2000/\r.1.1.length<=300)/\be b (m+8*y.toNat+2) r.2.1:=by
 simp only[Q114.f,Q114.pre];have O:∀ (H:List af) (n:Int) (z:List Int×Int) (w:bT) (q c:Nat),0<=n->n<y->H.length<=24->be b q z->q<=m+2->WI w c->c<=200->Tot (Q114.l1 K (s,y,()) (H,n,z.1,z.2,w)) λr=>(WI r.1.2.1 2000/\r.1.1.length<=300)/\be b (m+8*y.toNat+2) r.2.1:=λH n z w q c n0 n1 R M hq I hc=>by
  refine Tot.iter (step:=λrec a=>Q114.s1 K (s,y,()) rec a) (λa=>∃ q c:Nat,0<=a.2.1/\a.2.1<y/\(a.1.length:Int)+a.2.1<=24+y/\be b q (a.2.2.1,a.2.2.2.1)/\q+8*a.2.1.toNat<=m+8*y.toNat+2/\WI a.2.2.2.2 c/\c+4*a.2.1.toNat<=2000) (λa=>a.2.1.toNat) ?_ K _ (by show n.toNat<K;omega) ⟨q,c,n0,n1,by show (H.length:Int)+n<=_;omega,M,by show q+8*n.toNat<=_;omega,I,by show c+4*n.toNat<=2000;omega⟩;clear M hq I hc n0 n1 R;rintro rec ⟨H,n,z1,z2,w⟩ ⟨q,c,n0,n1,R,M,hq,I,hc⟩ ih;simp only at n0 n1 R M hq I hc ih ⊢;simp only[Q114.s1];refine Tot.cnd (λhn=>?_) λ_=>Tot.vl (I.copy (by omega) K Z) (Tot.ret ⟨⟨I.mono (by omega),by show H.length<=300;omega⟩,M.up (by omega)⟩)
  have hn:n>0:=of_decide_eq_true hn;rw[aJ (n:=n-1) (by omega) (by omega)];refine Tot.bind (AG h M w (by omega)) λe he=>Tot.fit (Tot.vl (I.copy (by omega) K Z) (Tot.bind (do_t K w c I (by omega) e.1.1 Z) ?_)) (by omega) (by simp;omega)
  rintro⟨⟨v',ok,⟨⟩⟩,⟨⟩⟩ hv;have Y:∀ u:bT,WI u (c+4)->Tot (rec (H++[e.1.1],n-1,e.2.1.1,e.2.1.2,u)) λr=>(WI r.1.2.1 2000/\r.1.1.length<=300)/\be b (m+8*y.toNat+2) r.2.1:=λu hu=>ih _ ⟨q+8,c+4,by show 0<=n-1;omega,by show n-1<y;omega,by show ((H++[e.1.1]).length:Int)+(n-1)<=_;simp;omega,he,by show q+8+8*(n-1).toNat<=_;omega,hu,by show c+4+4*(n-1).toNat<=2000;omega⟩ (by show (n-1).toNat<n.toNat;omega)
  exact Tot.cnd (λ_=>Y v' hv) λ_=>Y w (I.mono (by omega))
 refine Tot.bind (wq K Z) λw0 X=>Tot.bind (aA h hs 3 (by decide) (by omega)) λv2 ⟨_,s2⟩=>Tot.cnd (λ_=>?_) λ_=>Tot.bind (aA h s2 y h1 (by omega)) λv9 ⟨⟨a9,b9⟩,s9⟩=>O [] v9.1.1 v9.2.1 w0.1.1 (m+2) 8 a9 b9 (by simp) s9 (CG _) X (by omega)
 refine Tot.iter (step:=λrec a=>Q114.s0 K (s,y,()) (Q114.l1 K (s,y,())) rec a) (λa=>0<=a.2.1/\a.2.1<=8/\(a.1.length:Int)<=3*a.2.1/\be b (m+1) (a.2.2.1,a.2.2.2.1)/\WI a.2.2.2.2 8) (λa=>8-a.2.1.toNat) ?_ K _ (by show 8-B3 0<K;omega) ⟨by show (0:Int)<=0;omega,by show (0:Int)<=8;omega,by show ((0:Nat):Int)<=3*0;omega,s2,X⟩;rintro rec ⟨H,i,z1,z2,w⟩ ⟨i0,i1,R,M,I⟩ ih;simp only at i0 i1 R M I ih ⊢;simp only[Q114.s0];refine Tot.cnd (λhi=>?_) λ_=>?_
 ·have hi:i<=7:=of_decide_eq_true hi;rw[aJ (n:=i+1) (by omega) (by omega)];have Y:∀ J:List af,(J.length:Int)<=3*(i+1)->Tot (rec (J,i+1,z1,z2,w)) λr=>(WI r.1.2.1 2000/\r.1.1.length<=300)/\be b (m+8*y.toNat+2) r.2.1:=λJ a0=>ih _ ⟨by show 0<=i+1;omega,by show i+1<=8;omega,a0,M,I⟩ (by show 8-(i+1).toNat<8-i.toNat;omega)
  exact Tot.cnd (λ_=>Tot.fit (Tot.fit (Y _ (by simp;omega)) (by omega) (by simp;omega)) (by omega) (by simp;omega)) λ_=>Y H (by omega)
 ·refine Tot.bind (BD K w 8 H I (by omega) (by omega) Z) λv ⟨hv,ev⟩=>Tot.bind (aA h M y h1 (by omega)) λv4 ⟨⟨a4,b4⟩,s4⟩=>?_
  exact O v.2.1 v4.1.1 v4.2.1 v.1.1 (m+1+1) _ a4 b4 (by rw[ev];omega) s4 (by omega) hv (by omega)
theorem AI (h:fN b)(z:be b m s)(y:m<=90000)(H:1048577<K):Tot (Q115.f K (s,())) λr=>WI r.1.1 2000/\be b (m+802) r.2.1:=by
 simp only[Q115.f];exact Tot.bind (AH h z 100 (by decide) (by decide) y H) λv u=>Tot.ret ⟨u.1.1,u.2⟩
structure NS (c:Nat) (n:aa):Prop where
 nb:NB n
 table:(aa.table n).length<=c
 cast:(aa.cast n).length<=c
 doubts:(aa.doubts n).length<=c
 places:(aa.places n).length<=c
 others:(aa.others n).length<=c
theorem eo.ns {i:Nat}{n:aa}(h:eo i n):NS 8 n:=by
 cases y:n.2.1 with
 |true =>
  have r:=h.up y;refine⟨h.nb,by have:=h.short;omega,by have:=clen r.x.say;omega,?_,?_,?_⟩
  ·exact B8 (iU r.x.say.asc r.x.say.inp) (by decide)
  ·exact B8 (iU r.x.places.2 λx u=>(r.x.places.1 x u).1) (by decide)
  ·exact B8 (iU r.x.others.2 λx u=>⟨(r.x.others.1 x u).1.1,Cb (r.x.others.1 x u).1.2 (by decide)⟩) (by decide)
 |false =>
  have e:=h.down y;refine⟨h.nb,?_,?_,?_,?_,?_⟩ <;> rw[e] <;> exact CH _
theorem x6 (h:fN b)(hs:be b m s)(n:aa){c:Nat}(hn:NS c n)(h8:8<=c)(hc:c<=1000)(hm:m<=90000)(hK:1048577<K):Tot (Q124.f K (s,n,())) λr=>NS (c+1) r.1.1/\be b (m+60) r.2.1:=by
 simp only[Q124.f,zcp4,zcp8];rw[mZ K n hn.nb hK];simp only[BV];obtain⟨⟨n1,n2,Z,M,Y,R,n7,O⟩,l1,l2,l3,l4,l5⟩:=hn;refine Tot.bind (aA h hs 12 (by decide) (by omega)) λv2 ⟨_,I⟩=>?_
 have u:∀ (n':aa) (z:List Int×Int),n'.2.2.2.2.2.2.2.2=n.2.2.2.2.2.2.2.2->be b (m+60) z->NS (c+1) n'/\be b (m+60) z:=λn' z e hz=>by
  refine⟨⟨⟨?_,?_,?_,?_,?_,?_,?_,?_⟩,?_,?_,?_,?_,?_⟩,hz⟩ <;> simp only[aa.table,aa.cast,aa.doubts,aa.places,aa.others] <;> rw[e] <;> first|assumption|(refine B8 ?_ (Cf c);assumption)
 have u2:be b (m+60) v2.2.1:=I.up (by omega);refine Tot.cnd (λ_=>Tot.bind (qg h I (by omega) hK) λt ⟨tl,J⟩=>Tot.ret ⟨⟨⟨by show t.1.1.length<=_;omega,n2,Z,M,Y,R,n7,O⟩,by show t.1.1.length<=_;omega,BX l2,BX l3,BX l4,BX l5⟩,J.up (by omega)⟩) λ_=>?_
 refine Tot.cnd (λ_=>Tot.bind (wu h I (by omega) hK) λt ⟨tl,J⟩=>Tot.ret ⟨⟨⟨n1,by show t.1.1.length<=_;omega,Z,M,Y,R,n7,O⟩,BX l1,by show t.1.1.length<=_;omega,BX l3,BX l4,BX l5⟩,J.up (by omega)⟩) λ_=>?_
 refine Tot.cnd (λ_=>Tot.ret (u _ _ rfl u2)) λ_=>?_
 refine Tot.cnd (λ_=>Tot.bind (aA h I 9 (by decide) (by omega)) λv5 ⟨_,s5⟩=>Tot.bind (aA h s5 3 (by decide) (by omega)) λv6 ⟨_,s6⟩=>Tot.bind (aA h s6 3 (by decide) (by omega)) λv7 ⟨_,s7⟩=>Tot.bind (aA h s7 2 (by decide) (by omega)) λv8 ⟨_,s8⟩=>Tot.ret ⟨⟨⟨n1,n2,Z,M,Y,R,n7,O⟩,BX l1,BX l2,BX l3,BX l4,BX l5⟩,s8.up (by omega)⟩) λ_=>?_
 refine Tot.cnd (λ_=>Tot.bind (aA h I 8 (by decide) (by omega)) λv9 ⟨_,X⟩=>Tot.bind (aA h X 8 (by decide) (by omega)) λa2 ⟨_,H⟩=>Tot.fit (Tot.ret ⟨⟨⟨n1,n2,?_,?_,Y,R,n7,O⟩,BX l1,BX l2,?_,BX l4,BX l5⟩,H.up (by omega)⟩) (by omega) ?_) λ_=>?_
 ·show (aa.doubts n++[_]).length<=_;simp;omega
 ·intro d y;rcases B5.1 y with y|y
  ·exact M d y
  ·rw[BZ.1 y];show ([a2.1.1]:List Int).length<=_;simp
 ·show (aa.doubts n++[_]).length<=_;simp;omega
 ·show (aa.doubts n).length+_<=_;simp;omega
 refine Tot.cnd (λ_=>Tot.bind (mv h I (by omega)) λc J=>Tot.ret ⟨⟨⟨n1,n2,Z,M,Y,R,n7,O⟩,BX l1,BX l2,BX l3,BX l4,BX l5⟩,J.up (by omega)⟩) λ_=>?_
 refine Tot.cnd (λ_=>Tot.bind (aA h I 9 (by decide) (by omega)) λv9 ⟨_,X⟩=>Tot.bind (mv h X (by omega)) λc H=>Tot.bind (aA h H 3 (by decide) (by omega)) λa1 ⟨_,a0⟩=>Tot.fit (Tot.ret ⟨⟨⟨n1,n2,Z,M,?_,?_,n7,O⟩,BX l1,BX l2,BX l3,?_,BX l5⟩,a0.up (by omega)⟩) (by omega) ?_) λ_=>?_
 ·show (aa.places n++[_]).length<=_;simp;omega
 ·intro d y;rcases B5.1 y with y|y
  ·exact R d y
  ·rw[BZ.1 y];show ([a1.1.1]:List Int).length<=_;simp
 ·show (aa.places n++[_]).length<=_;simp;omega
 ·show (aa.places n).length+_<=_;simp;omega
 refine Tot.cnd (λ_=>Tot.bind (aA h I 3 (by decide) (by omega)) λv9 ⟨_,X⟩=>Tot.bind (qg h X (by omega) hK) λt ⟨tl,H⟩=>Tot.fit (Tot.ret ⟨⟨⟨n1,n2,Z,M,Y,R,?_,?_⟩,BX l1,BX l2,BX l3,BX l4,?_⟩,H.up (by omega)⟩) (by omega) ?_) λ_=>?_
 ·show (aa.others n++[_]).length<=_;simp;omega
 ·intro d y;rcases B5.1 y with y|y
  ·exact O d y
  ·rw[BZ.1 y];show t.1.1.length<=_;omega
 ·show (aa.others n++[_]).length<=_;simp;omega
 ·show (aa.others n).length+_<=_;simp;omega
 refine Tot.cnd (λ_=>Tot.ret (u _ _ rfl u2)) λ_=>Tot.cnd (λ_=>Tot.ret (u _ _ rfl u2)) λ_=>?_
 refine Tot.cnd (λ_=>Tot.bind (aA h I 3 (by decide) (by omega)) λv ⟨⟨a,b⟩,J⟩=>Tot.ix2 a b λ_ _ _=>Tot.ret (u _ _ rfl (J.up (by omega)))) λ_=>?_
 exact Tot.bind (aA h I 8 (by decide) (by omega)) λv9 ⟨_,X⟩=>Tot.bind (aA h X 3 (by decide) (by omega)) λv ⟨⟨a,b⟩,J⟩=>Tot.ix2 a b λ_ _ _=>Tot.ret (u _ _ rfl (J.up (by omega)))
end
section
variable {K:Nat} {b:List Int} {m:Nat} {s:List Int×Int}
end
theorem be.zero (b:List Int):be b 0 (b,0):=⟨0,CG _,rfl⟩
structure x7 (code:List Int):Prop where
 byte:∀ y∈code,0<=y/\y<=255
 len:code.length<=9223372036854775807
theorem oH (K:Nat)(xs:List Int)(y:xs.length<=1048576)(z:1048577<K):Q225.f K (xs,xs,())=rb true:=by
 have r:Q225.l0 K (xs,xs,()) 0=rb true:=by
  refine dS (step:=λrec a=>Q225.s0 K (xs,xs,()) rec a) xs.length (λi=>(i:Int)) (rb true) ?_ ?_ (by omega)
  ·intro rec i u;simp only[Q225.s0];rw[decide_eq_true (by omega:(i:Int)<(BY xs:Int)),ag u,ar i (by omega)];simp only[cond_true,BV,bne_self_eq_false,cond_false]
  ·intro rec;simp only[Q225.s0,aP];rfl
 simp only[Q225.f,Q225.pre,bne_self_eq_false,cond_false];exact r
theorem tH (K:Nat)(xs:List aL)(y:xs.length<=1048576)(z:1048577<K):Q224.f K (xs,xs,())=rb true:=by
 have r:Q224.l0 K (xs,xs,()) 0=rb true:=by
  refine dS (step:=λrec a=>Q224.s0 K (xs,xs,()) rec a) xs.length (λi=>(i:Int)) (rb true) ?_ ?_ (by omega)
  ·intro rec i u;simp only[Q224.s0];rw[decide_eq_true (by omega:(i:Int)<(BY xs:Int)),ag u,ar i (by omega)];simp only[cond_true,BV];rw[show Ty.eqv t3 xs[i] xs[i]=true by
    show (Ty.eqv t2 xs[i].1 xs[i].1&&decide (xs[i].2=xs[i].2))=true;rw[show Ty.eqv t2 xs[i].1 xs[i].1=decide (xs[i].1=xs[i].1) from gA _ _,decide_eq_true rfl,decide_eq_true rfl];rfl]
   rfl
  ·intro rec;simp only[Q224.s0,aP];rfl
 simp only[Q224.f,Q224.pre,bne_self_eq_false,cond_false];exact r
theorem oI (K:Nat)(n:aa)(r:NB n)(y:1048577<K):Q226.f K (n,n,())=rb true:=by
 have J:Q226.l2 K (n,n,()) 0=rb true:=by
  have z:=r.others;refine dS (step:=λrec a=>Q226.s2 K (n,n,()) rec a) (aa.others n).length (λi=>(i:Int)) (rb true) ?_ ?_ (by omega)
  ·intro rec i u;simp only[Q226.s2];rw[bj (by omega:(i:Int)<(BY (aa.others n):Int)),ag u,ar i (by omega)];simp only[cond_true,BV,bne_self_eq_false,cond_false];refine (congrArg (λo=>BW o _) (kr K _ (r.facts _ (B7 u)) y)).trans rfl
  ·intro rec;simp only[Q226.s2,aP];rfl
 have I:Q226.l1 K (n,n,()) 0=rb true:=by
  have z:=r.places;refine dS (step:=λrec a=>Q226.s1 K (n,n,()) (Q226.l2 K (n,n,())) rec a) (aa.places n).length (λi=>(i:Int)) (rb true) ?_ ?_ (by omega)
  ·intro rec i u;simp only[Q226.s1];rw[bj (by omega:(i:Int)<(BY (aa.places n):Int)),ag u,ar i (by omega)];simp only[cond_true,BV,bne_self_eq_false,cond_false];rw[show Ty.eqv t9 (aa.places n)[i].2.1 (aa.places n)[i].2.1=decide ((aa.places n)[i].2.1=(aa.places n)[i].2.1) from pP _ _,decide_eq_true rfl];simp only[B6,cond_false];refine (congrArg (λo=>BW o _) (oH K _ (r.trips _ (B7 u)) y)).trans rfl
  ·intro rec;simp only[Q226.s1,aP];exact J
 have H:Q226.l0 K (n,n,()) 0=rb true:=by
  have z:=r.doubts;refine dS (step:=λrec a=>Q226.s0 K (n,n,()) (Q226.l1 K (n,n,())) rec a) (aa.doubts n).length (λi=>(i:Int)) (rb true) ?_ ?_ (by omega)
  ·intro rec i u;simp only[Q226.s0];rw[bj (by omega:(i:Int)<(BY (aa.doubts n):Int)),ag u,ar i (by omega)];simp only[cond_true,BV,bne_self_eq_false,cond_false];refine (congrArg (λo=>BW o _) (oH K _ (r.by_ _ (B7 u)) y)).trans rfl
  ·intro rec;simp only[Q226.s0,aP];exact I
 simp only[Q226.f,Q226.pre,bne_self_eq_false,cond_false];refine (congrArg (λo=>BW o _) (kr K (aa.table n) r.table y)).trans ?_;simp only[rb,BV,B6,cond_false];refine (congrArg (λo=>BW o _) (tH K (aa.cast n) r.cast y)).trans ?_;simp only[rb,BV,B6,cond_false];rw[show Ty.eqv t2 n.2.2.2.2.2.2.2.2.2.2.1 n.2.2.2.2.2.2.2.2.2.2.1=decide (aa.probe n=aa.probe n) from gA _ _,show Ty.eqv t9 n.2.2.2.2.2.2.2.2.2.2.2.2.1 n.2.2.2.2.2.2.2.2.2.2.2.2.1=decide (aa.coord n=aa.coord n) from pP _ _,decide_eq_true rfl,decide_eq_true rfl];exact H
theorem wv (K:Nat){t:List af}{f:af}(r:aw t)(u:f∈t)(z:1048577<K):Q139.f K (t,f.1,())=some ((f,true,()),()):=by
 rcases iG K t f.1 (bV r) z with ⟨h,_⟩|⟨_,⟨g,y,e,h⟩|⟨h,_⟩⟩
 ·exact absurd r h
 ·rw[h,fb r.2 y u e]
 ·exact absurd rfl (h f u)
theorem AJ {α:Type}(p:α->Bool){l:List α}{i:Nat}(r:i<l.length):(l.take (i+1)).any p=((l.take i).any p||p l[i]):=by
 rw[Cn,CJ r,List.any_append,Option.toList_some,List.any_cons,List.any_nil,Cu]
def gl (t x:List af):Prop:=∀ f∈t,∃ g∈x,g.1=f.1/\rk f<=rk g
theorem gl.refl (t:List af):gl t t:=λf r=>⟨f,r,rfl,CA _⟩
theorem gl.trans {a b c:List af}(h:gl a b)(h':gl b c):gl a c:=λf H=>by
 obtain⟨g,z,e,l⟩:=h f H;obtain⟨I,r,u,y⟩:=h' g z;exact⟨I,r,u.trans e,Cb l y⟩
theorem gl.put {t:List af}(J:aw t){f:af}(M:aV f):gl t (bg t f).1:=λg u=>by
 obtain⟨m,z,e,r⟩:=mr (t++[f]) g.1 ⟨g,by simp[u],rfl⟩;exact⟨m,(mt J M).2 ⟨z,λy H I=>r y H (I.trans e)⟩,e,r g (by simp[u]) rfl⟩
theorem gl.putAll {t fs:List af}(J:aw t)(M:∀ f∈fs,aV f):gl t (putAll t fs):=λg u=>by
 obtain⟨m,z,e,r⟩:=mr (t++fs) g.1 ⟨g,by simp[u],rfl⟩;exact⟨m,(uF J M m).2 ⟨z,λy H I=>r y H (I.trans e)⟩,e,r g (by simp[u]) rfl⟩
theorem AK (K:Nat)(t x:List af)(O:aw t)(y:aw x)(h:gl t x)(M:1048577<K):Q230.f K (t,x,())=rb true:=by
 have Y:=bV O;simp only[Q230.f,Q230.pre];refine dS (step:=λrec a=>Q230.s0 K (t,x,()) rec a) t.length (λi=>(i:Int)) (rb true) ?_ ?_ (by omega)
 ·intro rec i H;obtain⟨g,z,e,l⟩:=h t[i] (B7 H);have r:=O.1 _ (B7 H);have u:=wv K y z M;rw[e]at u;simp only[Q230.s0];rw[bj (by omega:(i:Int)<(BY t:Int)),ag H,ar i (by omega)];simp only[cond_true,BV];rw[u];simp only[BV,B6,cond_false];rw[show Ty.eqv t2 g t[i]=decide (g=t[i]) from gA _ _];by_cases I:g=t[i]
  ·rw[decide_eq_true I];rfl
  ·rw[decide_eq_false I];simp only[CK,cond_true];obtain⟨b,X,R⟩:=mc K g t[i] M;have J:rk t[i]<rk g:=by
    rcases Int.lt_or_eq_of_le l with h|h
    ·exact h
    ·exact absurd (xW (y.1 g z) r e h.symm) I
   obtain rfl:b=true:=R.2 ⟨y.1 g z,r,e,(kh (y.1 g z) r).2 J⟩;rw[X];rfl
 ·intro rec;simp only[Q230.s0];rw[aP];rfl
section
variable {K:Nat} {b:List Int} {m:Nat} {s:List Int×Int}
theorem zm {v:Int}(r:0<=v)(u:v<8):0<=wr .i64 (Ct v 4)/\wr .i64 (Ct v 4)<=1:=by
 have:ak v=v / 4:=ji ⟨r,by omega⟩;have e:wr .i64 (Ct v 4)=v / 4:=this;rw[e];omega
theorem zn (h:fN b)(hs:be b m s)(hm:m<=90000)(O:1048577<K):Tot (Q125.f K (s,())) λr=>(aj.table r.1.1).length<=5/\be b (m+100) r.2.1:=by
 simp only[Q125.f];refine Tot.bind (aA h hs 8 (by decide) (by omega)) λv1 ⟨⟨a1,b1⟩,s1⟩=>Tot.bind (aA h s1 6 (by decide) (by omega)) λv2 ⟨_,s2⟩=>Tot.bind (aA h s2 4 (by decide) (by omega)) λv3 ⟨_,s3⟩=>Tot.bind (aA h s3 9 (by decide) (by omega)) λv4 ⟨_,s4⟩=>Tot.bind (aA h s4 3 (by decide) (by omega)) λv5 ⟨⟨R,Y⟩,s5⟩=>Tot.ix2 R Y λy _ _=>?_
 obtain⟨q0,q1⟩:=zm a1 b1;refine Tot.bind (aA h s5 4 (by decide) (by omega)) λv8 ⟨_,Z⟩=>Tot.bind (rI h Z (by omega)) λc s9=>Tot.bind (oe h s9 (wr .i64 (Ct v1.1.1 4)) (by omega) q1 (by omega) O) λt ⟨⟨_,_,t3⟩,u⟩=>?_
 refine Tot.cnd (λ_=>?_) λ_=>Tot.ret ⟨t3,u.up (by omega)⟩
 refine Tot.bind (aA h u 2 (by decide) (by omega)) λM ⟨⟨a2,a3⟩,J⟩=>Tot.bind (oe h J M.1.1 (by omega) (by omega) (by omega) O) λt' ⟨⟨_,_,t4⟩,H⟩=>Tot.bind (aA h H 2 (by decide) (by omega)) λX ⟨_,z⟩=>Tot.cnd (λ_=>?_) λ_=>Tot.ret ⟨t4,z.up (by omega)⟩
 exact Tot.bind (aA h z 4 (by decide) (by omega)) λa0 ⟨_,I⟩=>Tot.ret ⟨t4,I.up (by omega)⟩
theorem x8 (h:fN b)(H:be b m s)(M:m<=89000)(I:1048577<K):Tot (Q126.f K (s,())) λr=>(aj.table r.1.1).length<=6/\be b (m+120) r.2.1:=by
 simp only[Q126.f,zcp4];refine Tot.bind (zn h H (by omega) I) λw ⟨R,J⟩=>Tot.bind (aA h J 16 (by decide) (by omega)) λO ⟨_,z⟩=>?_
 have u:(aj.table w.1.1).length<=6:=by omega
 refine Tot.cnd (λ_=>Tot.bind (aA h z 2 (by decide) (by omega)) λv ⟨⟨a,c⟩,y⟩=>Tot.ix2 a c λ_ _ _=>Tot.ret ⟨u,y.up (by omega)⟩) λ_=>?_
 refine Tot.cnd (λ_=>Tot.bind (aA h z 4 (by decide) (by omega)) λv ⟨_,y⟩=>Tot.ret ⟨u,y.up (by omega)⟩) λ_=>?_
 refine Tot.cnd (λ_=>Tot.bind (mv h z (by omega)) λv y=>Tot.ret ⟨u,y.up (by omega)⟩) λ_=>?_
 refine Tot.cnd (λ_=>Tot.bind (ni h z (by omega)) λv y=>Tot.fit (Tot.ret ⟨?_,y.up (by omega)⟩) (by omega) (by show (aj.table w.1.1).length+_<=_;simp;omega)) λ_=>?_
 ·show (aj.table w.1.1++[_]).length<=6;simp;omega
 refine Tot.cnd (λ_=>Tot.bind (aA h z 2 (by decide) (by omega)) λv ⟨⟨a,c⟩,y⟩=>Tot.ix2 a c λ_ _ _=>Tot.ret ⟨u,y.up (by omega)⟩) λ_=>?_
 refine Tot.cnd (λ_=>Tot.bind (aA h z 2 (by decide) (by omega)) λv ⟨⟨a,c⟩,y⟩=>Tot.ix2 a c λ_ _ _=>Tot.ret ⟨u,y.up (by omega)⟩) λ_=>Tot.ret ⟨u,z.up (by omega)⟩
theorem to_t (h:fN b)(hs:be b m s)(w:bT)(n:aa)(hr:fW w.2.1)(hm:m<=80000)(hK:1048577<K):Tot (Q127.f K (s,w,n,())) λr=>(aj.table r.1.1).length<=1048576:=by
 refine Tot.iter (step:=λrec a=>Q127.s0 K (s,w,n,()) rec a) (λa=>∃ i:Nat,i<=3/\a.1=(i:Int)/\be b (m+i) a.2) (λa=>3-a.1.toNat) ?_ K _ (by show 3-B3 0<K;omega) ⟨0,by omega,rfl,hs⟩;rintro rec ⟨i',z⟩ ⟨i,hi,e,J⟩ ih;have e:i'=(i:Int):=e;subst e;have J:be b (m+i) z:=J;have u:Tot ((Q126.f K (z,())).bind λH=>(Q12.f K (H.2.1,10,())).bind λY=>bif decide (Y.1.1>0) then some ((((H.1.1.1,H.1.1.2.1,H.1.1.2.2.1,n.1,H.1.1.2.2.2.2),()),Y.2.1,()):(aj×Unit)×(List Int×Int)×Unit) else some ((H.1.1,()),Y.2.1,())) λr=>(aj.table r.1.1).length<=1048576 :=
  Tot.bind (x8 h J (by omega) hK) λv ⟨hv,I⟩=>Tot.bind (aA h I 10 (by decide) (by omega)) λ_ _=>Tot.cnd (λ_=>Tot.ret (show (aj.table v.1.1).length<=1048576 by omega)) λ_=>Tot.ret (show (aj.table v.1.1).length<=1048576 by omega)
 simp only[Q127.s0];refine Tot.cnd (λZ=>Tot.cnd (λh0=>?_) λ_=>u) λ_=>u
 have Z:(i:Int)<3:=of_decide_eq_true Z;have h0:(w.2.1.length:Int)>0:=of_decide_eq_true h0;rw[ar i (by omega)];refine Tot.bind (aA h J (w.2.1.length:Int) (by omega) (by omega)) λv1 ⟨⟨a1,b1⟩,I⟩=>Tot.ix a1 b1 λy hy _=>?_
 have a0:=(hr.2 y hy).2;have next:∀ M,be b (m+(i+1)) M->Tot (rec (((i+1:Nat):Int),M)) λr=>(aj.table r.1.1).length<=1048576:=λM X=>ih _ ⟨i+1,by omega,rfl,X⟩ (by show 3-B3 ((i+1:Nat):Int)<3-B3 (i:Int);omega)
 refine Tot.bind (mp K y.2.1 (by omega) hK) λv3 O=>Tot.cnd (λR=>?_) λ_=>next _ I
 have hW:=O R;rw[cV K,cV K];simp only[BV];exact Tot.cnd (λ_=>Tot.cnd (λ_=>Tot.ret (show (aj.table v3.1.1).length<=1048576 from bV hW.2.2.2.2.2.2.2.1)) λ_=>next _ I) λ_=>next _ I
end
theorem ww (K:Nat)(u:List Int)(O:x7 u)(H:1048577<K):Tot (Q128.f K (u,())) λr=>NS 9 r.1.1/\(aj.table r.1.2.1).length<=1048576:=by
 obtain⟨bs,z,e⟩:=BE (K:=K) u O.byte O.len;simp only[Q128.f];refine Tot.vl e (Tot.bind (AI z (be.zero bs) (by omega) H) λw ⟨I,s1⟩=>Tot.bind (aA z s1 _ (by have:=I.len;show (1:Int)<=(w.1.1.1.length:Int);omega) (by omega)) λv3 ⟨⟨Y,b3⟩,s3⟩=>Tot.ix Y b3 λy hy _=>?_);obtain⟨i,hi,rfl⟩:=CE hy;have R:=(I.node i hi).ns;refine Tot.bind (aA z s3 24 (by decide) (by omega)) λv5 ⟨_,M⟩=>Tot.cnd (λ_=>?_) λ_=>?_
 ·exact Tot.bind (x6 z M _ R (CG _) (by omega) (by omega) H) λv6 ⟨J,s6⟩=>Tot.bind (to_t z s6 w.1.1 v6.1.1 I.radio (by omega) H) λv7 h7=>Tot.ret ⟨J,h7⟩
 ·refine Tot.bind (to_t z M w.1.1 _ I.radio (by omega) H) λv8 h8=>Tot.ret ⟨?_,h8⟩
  obtain⟨h1,X,Z,h4,h5,h6⟩:=R;exact⟨h1,BX X,BX Z,BX h4,BX h5,BX h6⟩
theorem AL (K:Nat)(l:List Int)(v:Int)(M:l.length<=1048576)(hA:Asc (λx:Int=>x) l)(hK:1048577<K) :
  ∃ m,m<=l.length/\(∀ i,(h:i<l.length)->i<m->l[i]<v)/\(∀ i,(h:i<l.length)->m<=i->v<=l[i])/\Q180.f K (l,v,())=some ((((m:Nat):Int),decide (∃ h:m<l.length,l[m]=v),()),()):=by
 let ks:Nat->Int:=λi=>if h:i<l.length then l[i] else 0
 have r:∀ i (h:i<l.length),ks i=l[i]:=λi h=>by simp[ks,h]
 let u:Nat->Option ((Int×Bool×Unit)×Unit):=λm=>some ((((m:Nat):Int),decide (∃ h:m<l.length,l[m]=v),()),())
 have:=pO (step:=λrec a=>Q180.s0 K (l,v,()) rec a) (ks:=ks) (n:=l.length) (t:=v) u M
  (λi j z I=>by
   rw[r i (by omega),r j I];exact ci.1 hA i j (by omega) I z) ?_ ?_ l.length K 0 l.length (by omega) (CH _) (CG _) (by omega) (λi y=>by omega) (λi y hn=>by omega)
 ·obtain⟨m,Y,J,R,Z⟩:=this;exact⟨m,Y,λi h y=>by rw[<- r i h];exact J i y,λi h y=>by rw[<- r i h];exact R i y h,Z⟩
 ·intro rec a b O hb;have H:(a+b) / 2<l.length:=by omega
  simp only[Q180.s0];rw[decide_eq_true (by omega:(a:Int)<(b:Int)),nV (by omega)];simp only[cond_true];rw[ag H];simp only[BV,Q178.f,Q135.f,bne_self_eq_false,cond_false];rw[r _ H,ar _ (by omega)];by_cases h:l[(a+b) / 2]<v
  ·rw[if_pos h,decide_eq_true h];rfl
  ·rw[if_neg h,decide_eq_false h];rfl
 ·intro rec a ha;simp only[Q180.s0];rw[decide_eq_false (by omega)];simp only[cond_false];by_cases h:a<l.length
  ·rw[decide_eq_true (by omega:(a:Int)<(BY l:Int)),ag h];simp only[cond_true,BV,Q179.f,bne_self_eq_false,cond_false];by_cases e:l[a]=v
   ·rw[show (l[a]==v)=true by simpa using e];simp only[cond_true,u];rw[decide_eq_true ⟨h,e⟩]
   ·rw[show (l[a]==v)=false by simpa using e];simp only[cond_false,u];rw[decide_eq_false (λ⟨_,X⟩=>e X)]
  ·rw[decide_eq_false (by omega:¬ (a:Int)<(BY l:Int))];simp only[cond_false,u];rw[decide_eq_false (λ⟨h',_⟩=>h h')]
abbrev flN {R:Type}(n:aa)(r:R):=(n.1,n.2.1,n.2.2.1,n.2.2.2.1,n.2.2.2.2.1,n.2.2.2.2.2.1,n.2.2.2.2.2.2.1,n.2.2.2.2.2.2.2.1,n.2.2.2.2.2.2.2.2.1,n.2.2.2.2.2.2.2.2.2.1,n.2.2.2.2.2.2.2.2.2.2.1.1,n.2.2.2.2.2.2.2.2.2.2.1.2.1,n.2.2.2.2.2.2.2.2.2.2.1.2.2.1,n.2.2.2.2.2.2.2.2.2.2.1.2.2.2,n.2.2.2.2.2.2.2.2.2.2.2.1,n.2.2.2.2.2.2.2.2.2.2.2.2.1.1,n.2.2.2.2.2.2.2.2.2.2.2.2.1.2.1,n.2.2.2.2.2.2.2.2.2.2.2.2.1.2.2.1,n.2.2.2.2.2.2.2.2.2.2.2.2.1.2.2.2,n.2.2.2.2.2.2.2.2.2.2.2.2.2.1,n.2.2.2.2.2.2.2.2.2.2.2.2.2.2,r)
abbrev flE (n:aa):=(n.1,n.2.1,n.2.2.1,n.2.2.2.1,n.2.2.2.2.1,n.2.2.2.2.2.1,n.2.2.2.2.2.2.1,n.2.2.2.2.2.2.2.1,n.2.2.2.2.2.2.2.2.1,n.2.2.2.2.2.2.2.2.2.1,n.2.2.2.2.2.2.2.2.2.2.1.1,n.2.2.2.2.2.2.2.2.2.2.1.2.1,n.2.2.2.2.2.2.2.2.2.2.1.2.2.1,n.2.2.2.2.2.2.2.2.2.2.1.2.2.2,n.2.2.2.2.2.2.2.2.2.2.2.1,n.2.2.2.2.2.2.2.2.2.2.2.2.1.1,n.2.2.2.2.2.2.2.2.2.2.2.2.1.2.1,n.2.2.2.2.2.2.2.2.2.2.2.2.1.2.2.1,n.2.2.2.2.2.2.2.2.2.2.2.2.1.2.2.2,n.2.2.2.2.2.2.2.2.2.2.2.2.2.1,n.2.2.2.2.2.2.2.2.2.2.2.2.2.2)
theorem x9 (K:Nat)(n0:aa)(t:List af)(n:aa)(f:af)(b:Int)(i:Nat)(hi:i<=1048576)(hd:∀ d∈aa.doubts n,k6 d.2.2.2)(hl:(aa.doubts n).length<=1048576)(hK:1048577<K)(H:Q181.A0->Option Q181.Res) :
  Q181.l1 K (n0,t,b,()) H ((i:Int),(BY (aa.doubts n):Int),0,flN n f)=H (((i+1:Nat):Int),flE (jG n f b)):=by
 refine tg (step:=λr a=>Q181.s1 K (n0,t,b,()) H r a) (aa.doubts n) (dM f b) (λu k=>((i:Int),(BY (aa.doubts n):Int),(k:Int),flN (f9 n (aa.table n) (aa.cast n) u) f)) (λu=>H (((i+1:Nat):Int),flE (f9 n (aa.table n) (aa.cast n) u))) ?_ ?_ (by omega)
 ·intro rec u k hk Z I;have R:k<u.length:=by omega
  have X:u[k]=(aa.doubts n)[k]:=by
   rw[CJ R]at I;exact Option.some.inj I
  have J:=hd _ (B7 hk);have z:idx u (k:Int)=some (aa.doubts n)[k]:=by rw[ag R,X]
  simp only[Q181.s1,zcp4,zcp8];rw[bj (by omega:(k:Int)<(BY (aa.doubts n):Int)),ar k (by omega),B4];simp only[cond_true];refine (congrArg (λo=>BW o _) z).trans ?_;simp only[BV];generalize a1:(aa.doubts n)[k]=d at J I z ⊢;have y:rec ((i:Int),(BY (aa.doubts n):Int),((k+1:Nat):Int),flN (f9 n (aa.table n) (aa.cast n) u) f)=rec ((i:Int),(BY (aa.doubts n):Int),((k+1:Nat):Int),flN (f9 n (aa.table n) (aa.cast n) (u.set k d)) f):=by rw[mi I]
  unfold dM;by_cases h3:f.2.2.1=2
  case neg =>
   rw[show (f.2.2.1 != 2)=true by simpa using h3,show (f.2.2.1==2)=false by simpa using h3,Bool.and_false];exact y
  rw[show (f.2.2.1 != 2)=false by simpa using h3,show (f.2.2.1==2)=true by simpa using h3];simp only[cond_false,Bool.and_true];refine (congrArg (λo=>BW o _) z).trans ?_;simp only[BV];by_cases h1:d.1=f.1
  case neg =>
   rw[show (d.1 != f.1)=true by simpa using h1,show (d.1==f.1)=false by simpa using h1,Bool.false_and];exact y
  rw[show (d.1 != f.1)=false by simpa using h1,show (d.1==f.1)=true by simpa using h1];simp only[cond_false,CS];refine (congrArg (λo=>BW o _) z).trans ?_;simp only[BV];by_cases h2:d.2.1=f.2.1
  case neg =>
   rw[show (d.2.1 != f.2.1)=true by simpa using h2,show (d.2.1==f.2.1)=false by simpa using h2];exact y
  rw[show (d.2.1 != f.2.1)=false by simpa using h2,show (d.2.1==f.2.1)=true by simpa using h2];simp only[cond_false,cond_true];refine (congrArg (λo=>BW o _) z).trans ?_;simp only[BV];have a2:=J.len;obtain⟨m,hm,lo,a0,hs⟩:=AL K d.2.2.2 b (by omega) J.1 hK;refine (congrArg (λo=>BW o _) hs).trans ?_;simp only[BV];by_cases hb:∃ h:m<d.2.2.2.length,d.2.2.2[m]=b
  ·rw[decide_eq_true hb];obtain⟨Y,e⟩:=hb;rw[show a7 (λx:Int=>x) b d.2.2.2=d.2.2.2 by rw[<- iq (k:=λx:Int=>x) J.1 Y e];exact mi (by rw[CJ Y,e])];exact y
  ·rw[decide_eq_false hb];simp only[CK,cond_true];refine (congrArg (λo=>BW o _) z).trans ?_;simp only[BV];refine (congrArg (λo=>BW o _) z).trans ?_;simp only[BV];have M:Q7.f K (d.2.2.2,(m:Int),[b],())=some ((d.2.2.2.take m++[b]++d.2.2.2.drop m,()),()):=jC hm (by decide) (by show d.2.2.2.length<=1048576;omega);refine (congrArg (λo=>BW o _) M).trans ?_;simp only[BV];refine (congrArg (λo=>BW o _) z).trans ?_;rw[<- gB (k:=λx:Int=>x) hm lo (λj hj O=>by
    rcases Int.lt_or_eq_of_le (a0 j hj O) with h|h
    ·exact h
    ·exfalso;rcases Ck O with h4|rfl
     ·have:=ci.1 J.1 m j (by omega) hj h4;have h5:=a0 m (by omega) (CG _);omega
     ·exact hb ⟨hj,h.symm⟩)]
   simp only[BV,Nat.beq_refl,cond_true];rfl
 ·intro rec u Z;simp only[Q181.s1,zcp4,zcp8];rw[aP,ar i (by omega)];rfl
theorem zo {R:Type}(K:Nat)(n:aa)(f:af)(h:dt n)(y:aV f)(e:f.1=n.1)(u:1048577<K)(G:aa->Option R) :
  ((Q139.f K (aa.table n,n.1,())).bind λZ=>(Q153.f K (f,Z.1.1,())).bind λM=>bif M.1.1 then (bif decide (f.2.1<999) then ((Q177.f K (gb n (wr .i64 (f.2.1+1)),(n.1,wr .i64 (f.2.1+1),1,n.2.2.2.1),n.1,())).bind λJ=>G J.2.1) else G n) else G n)=G (dH n f):=by
 obtain⟨b',I⟩:=m8 K (aa.table n) n.1 h.say.table h.say.lt u;rw[I];simp only[BV];obtain⟨Y,O,p3⟩:=er h.say.table h.has;obtain⟨c,z,H⟩:=mc K f (aR (aa.table n) n.1) u;rw[z];have X:c=decide (bD f (aR (aa.table n) n.1)):=by
  rw[CC,H,decide_eq_true_eq];exact⟨λh=>h.2.2.2,λh=>⟨y,Y,e.trans O.symm,h⟩⟩
 subst X;obtain⟨_,⟨i0,i1⟩,_⟩:=id y;simp only[rb,BV,dH];cases decide (bD f (aR (aa.table n) n.1)) with
 |false=>rfl
 |true =>
  simp only[cond_true,CS];by_cases r:f.2.1<999
  ·rw[decide_eq_true r,aJ (by omega) (by omega)];simp only[cond_true];rw[zP K (gb n (f.2.1+1)) (n.1,f.2.1+1,1,n.2.2.2.1) n.1 (h.say.inc _) (oa h.me y r) u];rfl
  ·rw[decide_eq_false r];rfl
theorem vn (K:Nat)(n:aa)(t:List af)(b:Int)(h:dt n)(J:∀ f∈t,aV f)(M:t.length<=1048576)(I:InP b 0 7)(y:1048577<K):Q181.f K (n,t,b,())=some ((),(eV n t b,())):=by
 refine kK (step:=λrec a=>Q181.s0 K (n,t,b,()) (Q181.l1 K (n,t,b,()) rec) rec a) t (cR b) dt (λm i=>((i:Int),flE m)) (λm=>some ((),(m,()))) n h ?_ ?_ (by omega)
 ·intro rec m i H r;have u:=J _ (B7 H);refine⟨?_,r.step u I⟩;simp only[Q181.s0,zc286a0,zc3ec45,zcf8680,zcp4];rw[bj (by omega:(i:Int)<(BY t:Int)),ag H,ar i (by omega)];simp only[cond_true,BV];generalize t[i]=f at u ⊢;unfold cR;by_cases e:f.1=m.1
  ·rw[show (f.1==m.1)=true by simpa using e];simp only[cond_true];exact zo K m f r u e y (λz=>rec (((i+1:Nat):Int),flE z))
  ·rw[show (f.1==m.1)=false by simpa using e];simp only[cond_false];refine (congrArg (λo=>BW o _) (zP K m f b r.say u y)).trans ?_;simp only[BV];exact x9 K n t (sayOf m f b) f b i (by omega) (j0 I r.by_) (is r.say u).ld y rec
 ·intro rec m r;simp only[Q181.s0,zc286a0,zc3ec45,zcf8680,zcp4];rw[aP];rfl
theorem wz (K:Nat)(n:aa)(w:aj)(Z:NB n)(u:(aj.table w).length<=1048576)(r:1048577<K):∃ b,Q229.f K (n,w,())=rb b/\Q169.f K (n,w,())=rb b:=by
 obtain⟨b1,h1,H⟩:=(pe K n Z r).same (pf K n Z r) Cg;simp only[Q229.f,Q169.f];rw[h1,H];cases b1 with
 |false=>exact⟨false,rfl,rfl⟩
 |true =>
  simp only[BV,B6,cond_false];obtain⟨X,h2,y⟩:=mf K w u r;obtain⟨M,J,I⟩:=sX K w u r;have:X=M:=by rw[CC,y,I]
  subst this;rw[h2,J];cases X with
  |false=>exact⟨false,rfl,rfl⟩
  |true =>
   have Y:=y.1 rfl;simp only[BV,B6,cond_false];obtain⟨b3,h3,O⟩:=(d4 K (aj.table w) (ak n.1) u r).same (fH K (aj.table w) (ak n.1) u r) Cg;obtain⟨b4,h4,z⟩:=(d4 K (aj.table w) (ak w.2.2.1) u r).same (fH K (aj.table w) (ak w.2.2.1) u r) Cg;obtain⟨b5,h5,R⟩:=mX K n w.2.2.1;have h6:b5=(ak w.2.2.1==ak n.1):=by
    rw[CC,R,beq_iff_eq];exact⟨λh=>h.2,λh=>⟨Y.2.2.1,h⟩⟩
   have hp:InP w.1 1 2:=Y.1;simp only[Q24.f,Q168.f];rw[h5,cV K n.1,cV K w.2.2.1,lC K w.2.2.1,lD K n,h6];simp only[BV];rw[h3,h4,z,O];simp only[BV,bne];generalize (ak w.2.2.1==ak n.1)=c1;generalize (w.2.2.2.1==n.1)=c2;generalize (w.2.2.1==n.1)=c3;generalize (w.2.1==6)=c4;generalize n.2.1=c5;generalize n.2.2.1=c6;rcases (by omega:w.1=1\/w.1=2) with h|h <;> rw[h] <;> cases c1 <;> cases c2 <;> cases c3 <;> cases c4 <;> cases c5 <;> cases c6 <;> cases b3 <;> cases b4 <;> exact⟨_,rfl,rfl⟩
structure lf (n m:aa):Prop where
 ok:cr m
 me:m.1=n.1
 now_:m.2.2.2.2.2.1=n.2.2.2.2.2.1
 seq:m.2.2.2.2.2.2.1=n.2.2.2.2.2.2.1
 turn:m.2.2.2.2.2.2.2.1=n.2.2.2.2.2.2.2.1
 rest:m.2.2.2.2.2.2.2.2.2.2.2.2=n.2.2.2.2.2.2.2.2.2.2.2.2
 by_:∀ d∈aa.doubts m,d.2.2.2.length<=1048576
theorem lf.say {n m:aa}(h:lf n m){f:af}(b:Int)(I:aV f):lf n (sayOf m f b):=by
 obtain⟨y,_,_,_,_,H,z,u,_,r⟩:=iV m f b;exact⟨is h.ok I,y.trans h.me,H.trans h.now_,z.trans h.seq,u.trans h.turn,r.trans h.rest,yQ h.by_⟩
theorem lf.setP {n m:aa}(h:lf n m)(p:af):lf n (setP m p):=⟨h.ok.setP p,h.me,h.now_,h.seq,h.turn,h.rest,h.by_⟩
theorem lf.nb {n m:aa}(h:lf n m)(u:NB n):NB m:=by
 have z:aa.places m=aa.places n:=congrArg (λr=>r.2.1) h.rest;have y:aa.others m=aa.others n:=congrArg (λr=>r.2.2) h.rest;exact⟨h.ok.lt,h.ok.lc,h.ok.ld,h.by_,by rw[z];exact u.places,by rw[z];exact u.trips,by rw[y];exact u.others,by rw[y];exact u.facts⟩
theorem lf.far {n m:aa}(h:lf n m)(y:od n):od m:=by
 have u:aa.others m=aa.others n:=congrArg (λr=>r.2.2) h.rest;exact⟨by rw[u];exact y.short,by rw[u];exact y.table⟩
theorem BF (K:Nat)(n:aa)(w:aj)(Y:NB n)(z:(aj.table w).length<=1048576)(r:1048577<K):Ret (Q229.f K (n,w,())) (fg n/\dB w/\fQ n w):=by
 obtain⟨M,J,u⟩:=pe K n Y r;obtain⟨X,H,y⟩:=mf K w z r;obtain⟨I,O,R⟩:=qL K n w z r;simp only[Q229.f];rw[J];cases M with
 |false=>exact⟨false,rfl,by simp only[CU,false_iff];exact λh=>by have:=u.2 h.1;cases this⟩
 |true =>
  simp only[rb,BV,B6,cond_false];rw[H];cases X with
  |false=>exact⟨false,rfl,by simp only[CU,false_iff];exact λh=>by have:=y.2 h.2.1;cases this⟩
  |true =>
   simp only[rb,BV,B6,cond_false];rw[O];exact⟨I,rfl,R.trans ⟨λh=>⟨u.1 rfl,y.1 rfl,h⟩,λh=>h.2.2⟩⟩
theorem wA (K:Nat)(n:aa)(w:aj)(H:NB n)(z:(aj.table w).length<=1048576)(y:1048577<K):∃ b,Q229.f K (n,w,())=rb b/\Q169.f K (n,w,())=rb b/\(b=true<->fg n/\dB w/\fQ n w):=by
 obtain⟨b,r,I⟩:=wz K n w H z y;obtain⟨J,u,M⟩:=BF K n w H z y;rw[r]at u;have:b=J:=by simpa[rb]using u
 subst this;exact⟨b,r,I,M⟩
theorem AM (K:Nat)(n:aa)(w:aj)(hn:NB n)(u:(aj.table w).length<=1048576)(r:1048577<K):Ret (Q169.f K (n,w,())) (fg n/\dB w/\fQ n w):=by
 obtain⟨b1,X,M⟩:=pf K n hn r;obtain⟨b2,R,J⟩:=sX K w u r;simp only[Q169.f];rw[X];cases b1 with
 |false=>exact⟨false,rfl,by simp only[CU,false_iff];exact λh=>by have:=M.2 h.1;cases this⟩
 |true =>
  simp only[rb,BV,B6,cond_false];rw[R];cases b2 with
  |false=>exact⟨false,rfl,by simp only[CU,false_iff];exact λh=>by have:=J.2 h.2.1;cases this⟩
  |true =>
   have Z:=M.1 rfl;have z:=J.1 rfl;simp only[rb,BV,B6,cond_false];obtain⟨b3,h3,H⟩:=(d4 K (aj.table w) (ak n.1) u r).same (fH K (aj.table w) (ak n.1) u r) Cg;obtain⟨O,h4,y⟩:=(d4 K (aj.table w) (ak w.2.2.1) u r).same (fH K (aj.table w) (ak w.2.2.1) u r) Cg;obtain⟨b5,h5,I⟩:=mX K n w.2.2.1;have h6:b5=(ak w.2.2.1==ak n.1):=by
    rw[CC,I,beq_iff_eq];exact⟨λh=>h.2,λh=>⟨z.2.2.1,h⟩⟩
   have hp:InP w.1 1 2:=z.1;obtain⟨b,e4,e5⟩:=qL K n w u r;refine⟨b,?_,e5.trans ⟨λh=>⟨Z,z,h⟩,λh=>h.2.2⟩⟩;rw[<- e4];simp only[Q24.f,Q168.f];rw[h5,cV K n.1,cV K w.2.2.1,lC K w.2.2.1,lD K n,h6];simp only[BV];rw[h3,h4,y,H];simp only[BV,bne];generalize (ak w.2.2.1==ak n.1)=c1;generalize (w.2.2.2.1==n.1)=c2;generalize (w.2.2.1==n.1)=c3;generalize (w.2.1==6)=c4;generalize n.2.1=Y;generalize n.2.2.1=c6;rcases (by omega:w.1=1\/w.1=2) with h|h <;> rw[h] <;> cases c1 <;> cases c2 <;> cases c3 <;> cases c4 <;> cases Y <;> cases c6 <;> cases b3 <;> cases O <;> rfl
theorem ya (K:Nat)(n:aa)(r:Int)(w:aj)(h:cr n)(u:1048577<K):Q206.f K (n,r,w,())=some ((qb r (iW n) w.2.2.2.2.2.1 w.2.2.2.2.1 n.1 (hI n w.2.2.2.2.2.1),()),(iW n,())):=by
 simp only[Q206.f,zcp4];refine (congrArg (λo=>BW o _) (wb K n w.2.2.2.2.2.1 h u)).trans ?_;simp only[BV,Q186.f];rfl
theorem zp (K:Nat)(n:aa)(x:Int)(r:InP x 0 7):Q160.f K (n,x,())=rb (ak x==ak n.1&&x != n.1):=by
 obtain⟨b,e,h⟩:=mX K n x;simp only[Q160.f];rw[e];have u:b=(ak x==ak n.1):=by
  rw[CC,h,beq_iff_eq];exact⟨λh=>h.2,λh=>⟨r,h⟩⟩
 subst u;simp only[rb,BV];cases ak x==ak n.1 with
 |true=>rfl
 |false=>rfl
theorem zq (K:Nat)(xs r:List af)(R:xs.length<=1048576)(X:1048577<K):Q185.f K (xs,r,())=rb (decide (xs=r)):=by
 simp only[Q185.f,Q185.pre];by_cases y:xs.length=r.length
 case neg =>
  rw[show ((BY xs:Int) != (BY r:Int))=true by simp only[bne_iff_ne,ne_eq];omega,decide_eq_false (λe=>y (by rw[e]))];rfl
 rw[show ((BY xs:Int) != (BY r:Int))=false by rw[y];simp];simp only[cond_false];have:=cq (step:=λrec a=>Q185.s0 K (xs,r,()) rec a) xs.length (λi=>(i:Int)) (λj=>∃ h:j<xs.length,xs[j]≠r[j]'(by omega)) (rb true) (λ_=>rb false) ?_ ?_ xs.length K 0 (by omega) (by omega)
 ·rcases this with ⟨J,u⟩|⟨j,_,J,⟨O,M⟩,_,u⟩
  ·rw[decide_eq_true (List.ext_getElem y λi h _=>Classical.byContradiction λz=>J i (CH _) h ⟨h,z⟩)];exact u
  ·rw[decide_eq_false (λe=>M (by subst e;rfl))];exact u
 ·intro rec i I;have H:i<r.length:=by omega
  simp only[Q185.s0];rw[bj (by omega:(i:Int)<(BY xs:Int)),ag I,ag H,ar i (by omega)];simp only[cond_true,BV];by_cases e:xs[i]=r[i]
  ·left;refine⟨λ⟨_,h⟩=>h e,?_⟩;rw[show Ty.eqv t2 xs[i] r[i]=decide (xs[i]=r[i]) from gA _ _,decide_eq_true e];rfl
  ·right;refine⟨⟨I,e⟩,?_⟩;rw[show Ty.eqv t2 xs[i] r[i]=decide (xs[i]=r[i]) from gA _ _,decide_eq_false e];rfl
 ·intro rec;simp only[Q185.s0,aP];rfl
theorem zr (K:Nat)(t:List aY)(v:Int)(ht:t.length<=1048576)(I:Asc (λx:aY=>x.1) t)(h7:∀ d∈t,InP d.1 0 7)(X:InP v 0 7)(hK:1048577<K) :
  ∃ m,m<=t.length/\(∀ i,(h:i<t.length)->i<m->t[i].1<v)/\(∀ i,(h:i<t.length)->m<=i->v<=t[i].1)/\Q183.f K (t,v,(λH=>(Q184.f K (H.1,H.2.1,())).map λy=>y.1.1),())=some ((((m:Nat):Int),decide (∃ h:m<t.length,t[m].1=v),()),()):=by
 let ks:Nat->Int:=λi=>if h:i<t.length then t[i].1 else 0
 have r:∀ i (h:i<t.length),ks i=t[i].1:=λi h=>by simp[ks,h]
 let u:Nat->Option ((Int×Bool×Unit)×Unit):=λm=>some ((((m:Nat):Int),decide (∃ h:m<t.length,t[m].1=v),()),())
 have R:∀ d∈t,((Q184.f K (d,v,())).map λy=>y.1.1)=some (d.1-v):=λd hd=>by
  obtain⟨a1,a2⟩:=h7 d hd;obtain⟨a3,a4⟩:=X;simp only[Q184.f];rw[aJ (by omega) (by omega)];rfl
 have:=pO (step:=λrec a=>Q183.s0 K (t,v,(λH=>(Q184.f K (H.1,H.2.1,())).map λy=>y.1.1),()) rec a) (ks:=ks) (n:=t.length) (t:=v) u ht
  (λi j M O=>by
   rw[r i (by omega),r j O];exact ci.1 I i j (by omega) O M) ?_ ?_ t.length K 0 t.length (by omega) (CH _) (CG _) (by omega) (λi z=>by omega) (λi z X=>by omega)
 ·obtain⟨m,h1,Y,h3,h4⟩:=this;exact⟨m,h1,λi h z=>by rw[<- r i h];exact Y i z,λi h z=>by rw[<- r i h];exact h3 i z h,h4⟩
 ·intro rec a b Z hb;have J:(a+b) / 2<t.length:=by omega
  simp only[Q183.s0];rw[decide_eq_true (by omega:(a:Int)<(b:Int)),nV (by omega)];simp only[cond_true];rw[ag J];simp only[BV,R _ (B7 J)];rw[r _ J,ar _ (by omega)];by_cases h:t[(a+b) / 2].1<v
  ·rw[if_pos h,decide_eq_true (by omega:t[(a+b) / 2].1-v<0)];rfl
  ·rw[if_neg h,decide_eq_false (by omega:¬ t[(a+b) / 2].1-v<0)];rfl
 ·intro rec a ha;simp only[Q183.s0];rw[decide_eq_false (by omega)];simp only[cond_false];by_cases h:a<t.length
  ·rw[decide_eq_true (by omega:(a:Int)<(BY t:Int)),ag h];simp only[cond_true,BV,R _ (B7 h)];have:(t[a].1-v==0)=decide (∃ h:a<t.length,t[a].1=v):=by
    rw[CC];simp only[beq_iff_eq,decide_eq_true_eq];exact⟨λe=>⟨h,by omega⟩,λ⟨_,e⟩=>by omega⟩
   rw[this]
  ·rw[decide_eq_false (by omega:¬ (a:Int)<(BY t:Int))];simp only[cond_false,u];rw[decide_eq_false (λ⟨h',_⟩=>h h')]
theorem yb {R:Type}(K:Nat)(n m:aa)(w:aj)(M:InP w.1 1 2)(O:(bI n w).length<=1048576)(J:m.1=n.1)(I:aa.coord m=aa.coord n)(X:1048577<K)(G:List aj->Option R) :
  (bif w.1==1 then G [] else ((Q185.f K (bI n w,aj.table w,())).bind λy=>bif y.1.1 then G [] else ((Q186.f K (m,6,w.2.2.1,())).bind λr=>(Q1.f K (bI n w,())).bind λH =>
   G [(2,r.1.1.2.1,r.1.1.2.2.1,r.1.1.2.2.2.1,r.1.1.2.2.2.2.1,r.1.1.2.2.2.2.2.1,r.1.1.2.2.2.2.2.2.1,H.1.1)])))=G (bif w.1==2&&decide (aj.table w≠bI n w) then [wm n w] else []):=by
 by_cases u:w.1=1
 ·rw[u];rfl
 ·have z:w.1=2:=by obtain⟨a,b⟩:=M;omega
  rw[show (w.1==1)=false by simpa using u,show (w.1==2)=true by simpa using z,zq K _ _ O X];simp only[cond_false,rb,BV,CS];by_cases e:bI n w=aj.table w
  ·rw[decide_eq_true e,decide_eq_false (p:=aj.table w≠bI n w) (λh=>h e.symm)];rfl
  ·rw[decide_eq_false e,decide_eq_true (p:=aj.table w≠bI n w) (λh=>e h.symm)];simp only[cond_false,cond_true,Q186.f,BV,Q1.f];rw[d5 (by show (bI n w).length*_<=_;omega)];simp only[BV];unfold wm;rw[J,show m.2.2.2.2.2.2.2.2.2.2.2.2.1=aa.coord n from I]
theorem sum_i (K:Nat)(n:aa)(w:aj)(hn:NB n)(h:UpN n)(hp:InP w.1 1 2)(R:aw (aj.table w))(r:kI (aj.table w))(y:1048577<K):Q187.f K (n,w,())=some (((du n w).2,()),((du n w).1,())):=by
 have M:idx (aj.table w) 0=some (bK (aj.table w)):=by
  cases ht:aj.table w with
  |nil=>rw[ht]at r;exact r.elim
  |cons f l=>rfl
 have Z:=vh (tC r R);have a0:InP (ak (bK (aj.table w)).1) 0 7:=⟨Z.1,Cb Z.2 (by decide)⟩;have hb:ib (aj.table w) (ak n.1)=(ak (bK (aj.table w)).1==ak n.1):=by
  rw[CC,iN,beq_iff_eq];cases ht:aj.table w with
  |nil=>rw[ht]at r;exact r.elim
  |cons f l =>
   rw[ht]at r;exact⟨λh=>h f (by simp),λe g hg=>(r g hg).trans e⟩
 simp only[Q187.f,zcp4,zcp8];refine (congrArg (λo=>BW o _) M).trans ?_;simp only[BV];rw[lC K (bK (aj.table w)).1,lD K n];simp only[BV];unfold du;rw[hb];cases ak (bK (aj.table w)).1==ak n.1 with
 |true =>
  simp only[cond_true];refine (congrArg (λo=>BW o _) (vn K n (aj.table w) n.1 h.learns R.1 (bV R) h.x.me y)).trans rfl
 |false =>
  simp only[cond_false];obtain⟨a1,a2,a3⟩:=kO (n:=n) h.x.others R r;refine (congrArg (λo=>BW o _) (Af K n (ak (bK (aj.table w)).1) hn y)).trans ?_;simp only[BV];refine (congrArg (λo=>BW o _) (xE K (dk (aa.others n) (ak (bK (aj.table w)).1)) (aj.table w) (jj h.x.others _) R y)).trans ?_;simp only[BV];have u:=h.x.others;have J:=tz u;obtain⟨m,hm,lo,hi,hs⟩:=zr K (aa.others n) (ak (bK (aj.table w)).1) J u.2 (λx hx=>⟨(u.1 x hx).1.1,Cb (u.1 x hx).1.2 (by decide)⟩) a0 y;refine (congrArg (λo=>BW o _) hs).trans ?_;simp only[BV];by_cases hf:∃ h:m<(aa.others n).length,(aa.others n)[m].1=ak (bK (aj.table w)).1
  ·rw[decide_eq_true hf];obtain⟨X,e⟩:=hf;simp only[cond_true,B4];have O:idx (aa.others n) (m:Int)=some (aa.others n)[m]:=ag X;refine (congrArg (λo=>BW o _) O).trans ?_;simp only[BV];refine (congrArg (λo=>BW o _) O).trans ?_;simp only[BV];rw[e];have H:(aa.others n).set m (ak (bK (aj.table w)).1,bI n w)=a7 (λx:aY=>x.1) (ak (bK (aj.table w)).1,bI n w) (aa.others n):=iq (k:=λx:aY=>x.1) (x:=(ak (bK (aj.table w)).1,bI n w)) u.2 X e;have:=yb K n (k9 n ((aa.others n).set m (ak (bK (aj.table w)).1,bI n w))) w hp (bV a1) rfl rfl y (λws=>some ((ws,()),(k9 n ((aa.others n).set m (ak (bK (aj.table w)).1,bI n w)),())));refine Eq.trans this ?_;rw[H];rfl
  ·rw[decide_eq_false hf];simp only[cond_false];have z:Q8.f K (aa.others n,(m:Int),[(ak (bK (aj.table w)).1,bI n w)],())=some (((aa.others n).take m++[(ak (bK (aj.table w)).1,bI n w)]++(aa.others n).drop m,()),()):=jC hm (by decide) J;refine (congrArg (λo=>BW o _) z).trans ?_;simp only[BV];have Y:(aa.others n).take m++[(ak (bK (aj.table w)).1,bI n w)]++(aa.others n).drop m=a7 (λx:aY=>x.1) (ak (bK (aj.table w)).1,bI n w) (aa.others n):=gB (k:=λx:aY=>x.1) (x:=(ak (bK (aj.table w)).1,bI n w)) hm lo (λj hj I=>by
    rcases Int.lt_or_eq_of_le (hi j hj I) with h|h
    ·exact h
    ·exfalso;rcases Ck I with h4|rfl
     ·have:(aa.others n)[m].1<(aa.others n)[j].1:=ci.1 u.2 m j (by omega) hj h4;have h5:=hi m (by omega) (CG _);omega
     ·exact hf ⟨hj,h.symm⟩)
   have:=yb K n (k9 n ((aa.others n).take m++[(ak (bK (aj.table w)).1,bI n w)]++(aa.others n).drop m)) w hp (bV a1) rfl rfl y (λws=>some ((ws,()),(k9 n ((aa.others n).take m++[(ak (bK (aj.table w)).1,bI n w)]++(aa.others n).drop m),())));refine Eq.trans this ?_;rw[Y];rfl
theorem BG (K:Nat)(n:aa)(w:aj)(Z:NB n)(h:UpN n)(y:dB w)(M:fQ n w)(z:w.2.1≠2)(I:1048577<K):Q208.f K (n,w,())=some (((bM K n w).2,()),((bM K n w).1,())):=by
 have r:=y.2.2.2.2.2.2.2.1;unfold bM;rw[if_pos ⟨y,M⟩];simp only[Q208.f,zcp4];by_cases u:w.2.1=6
 ·rw[if_pos u,show (w.2.1==6)=true by simpa using u];have X:=y.2.2.2.2.2.2.2.2;rw[if_pos u]at X;simp only[cond_true];exact (congrArg (λo=>BW o _) (sum_i K n w Z h y.1 r X I)).trans rfl
 ·rw[if_neg u,show (w.2.1==6)=false by simpa using u];obtain⟨Y,R⟩:=j9 y M u;have H:=(kt h M.2.1 r Y R).1;simp only[cond_false];refine (congrArg (λo=>BW o _) (vn K n (aj.table w) w.2.2.1 h.learns r.1 (bV r) R.1 I)).trans ?_;simp only[BV];generalize eV n (aj.table w) w.2.2.1=m at H ⊢;have J:=y.2.2.2.2.2.1;have O:=zp K m w.2.2.2.2.2.1 J;rw[show (w.2.1==2)=false by simpa using z];unfold ff;rw[show (w.2.1==2)=false by simpa using z];cases w.2.1==1 with
  |true =>
   simp only[cond_true];refine (congrArg (λo=>BW o _) O).trans ?_;simp only[rb,BV,bne];cases ak w.2.2.2.2.2.1==ak m.1 with
   |false=>rfl
   |true =>
    cases w.2.2.2.2.2.1==m.1 with
    |true=>rfl
    |false =>
     simp only[CS,CK,B6,cond_true,cond_false];exact (congrArg (λo=>BW o _) (ya K m 2 w H.x.say I)).trans rfl
  |false =>
   simp only[cond_false];cases w.2.1==3 with
   |true =>
    simp only[cond_true];refine (congrArg (λo=>BW o _) O).trans ?_;simp only[rb,BV,bne];cases ak w.2.2.2.2.2.1==ak m.1 with
    |false=>rfl
    |true =>
     cases w.2.2.2.2.2.1==m.1 with
     |true=>rfl
     |false =>
      simp only[CS,CK,B6,cond_true,cond_false];cases w.2.2.2.2.2.1==w.2.2.1 with
      |true=>rfl
      |false =>
       simp only[CK,cond_true,cond_false];exact (congrArg (λo=>BW o _) (ya K m 1 w H.x.say I)).trans rfl
   |false =>
    simp only[cond_false];cases w.2.1==4 with
    |true =>
     simp only[cond_true];exact (congrArg (λo=>BW o _) (Ak K m 5 w.2.2.1 (bV H.x.table))).trans rfl
    |false=>rfl
theorem uI (K:Nat)(n:aa)(w:aj)(H:NB n)(hw:(aj.table w).length<=1048576)(M:w.2.1≠2)(r:1048577<K):∃ y:aa,∃ z:List aj,NB y/\z.length<=1/\(∀ x∈z,(aj.table x).length<=1048576)/\Q222.f K (n,w,())=some ((y,z,()),())/\Q213.f K (n,w,())=some ((y,z,()),()) /\
  ((fg n/\dB w/\fQ n w)->y=(bM K n w).1/\z=(bM K n w).2)/\(fg n->¬ (dB w/\fQ n w)->y=n/\z=[])/\(¬ fg n->z=[]):=by
 obtain⟨b,o1,o2,O⟩:=uq K n H r;simp only[Q222.f,Q213.f,Q212.f];rw[o1,o2];cases b with
 |false=>exact⟨tc,[],uu,by simp,by simp,rfl,rfl,λh=>(by have:=O.2 h.1;cases this),λh=>(by have:=O.2 h;cases this),λ_=>rfl⟩
 |true =>
  have I:=O.1 rfl;have J:n.2.1=true->UpN n:=λJ=>UpN.of I J
  simp only[rb,BV,B6,cond_false];rw[mZ K n H r,yP K n H r];simp only[BV];rw[xV K n w J hw r];simp only[BV,Q209.f];obtain⟨c,t2,t3⟩:=AM K n w H hw r;rw[t2];cases c with
  |false =>
   have u:¬ (dB w/\fQ n w):=λh=>by have:=t3.2 ⟨I,h⟩;cases this
   have he:bM K n w=(n,[]):=by unfold bM;rw[if_neg u]
   rw[he];simp only;rw[mZ K n H r];exact⟨n,[],H,by simp,by simp,rfl,rfl,λh=>absurd h.2 u,λ_ _=>⟨rfl,rfl⟩,λh=>absurd I h⟩
  |true =>
   obtain⟨_,hW,X⟩:=t3.1 rfl;have R:=J X.1;have Z:=qM (w:=w) R r;have Y:=mq (w:=w) R r;simp only[rb,BV,B6,cond_false];rw[BG K n w H R hW X M r];simp only[BV];rw[mZ K _ Z.1.nb r];refine⟨(bM K n w).1,(bM K n w).2,Z.1.nb,Y.1,λx hx=>(Y.2 x hx).2,rfl,?_,λ_=>⟨rfl,rfl⟩,λ_ u=>absurd ⟨hW,X⟩ u,λh=>absurd I h⟩;simp only[Q211.f];simp
theorem uJ (K:Nat)(w:aj)(u:(aj.table w).length<=1048576)(r:1048577<K):Q227.f K (w,w,())=rb true:=by
 simp only[Q227.f,beq_self_eq_true,cond_true];rw[show Ty.eqv t9 w.2.2.2.2.2.2.1 w.2.2.2.2.2.2.1=decide (w.2.2.2.2.2.2.1=w.2.2.2.2.2.2.1) from pP _ _,decide_eq_true rfl];simp only[cond_true];exact (congrArg (λo=>BW o _) (kr K (aj.table w) u r)).trans rfl
theorem tI (K:Nat)(xs:List aj)(H:xs.length<=1048576)(y:∀ w∈xs,(aj.table w).length<=1048576)(u:1048577<K):Q228.f K (xs,xs,())=rb true:=by
 have z:Q228.l0 K (xs,xs,()) 0=rb true:=by
  refine dS (step:=λrec a=>Q228.s0 K (xs,xs,()) rec a) xs.length (λi=>(i:Int)) (rb true) ?_ ?_ (by omega)
  ·intro rec i r;simp only[Q228.s0];rw[bj (by omega:(i:Int)<(BY xs:Int)),ag r,ar i (by omega)];simp only[cond_true,BV];exact (congrArg (λo=>BW o _) (uJ K _ (y _ (B7 r)) u)).trans rfl
  ·intro rec;simp only[Q228.s0,aP];rfl
 simp only[Q228.f,Q228.pre,bne_self_eq_false,cond_false];exact z
theorem zt (K:Nat)(n:aa)(w:aj)(O:NB n)(J:(aj.table w).length<=1048576)(z:w.2.1≠2)(u:1048577<K):∃ (y:aa) (r:List aj) (b:Bool),NB y/\r.length<=1/\(∀ x∈r,(aj.table x).length<=1048576)/\Q222.f K (n,w,())=some ((y,r,()),())/\Q213.f K (n,w,())=some ((y,r,()),()) /\
  Q226.f K (y,y,())=rb true/\Q228.f K (r,r,())=rb true/\Q229.f K (n,w,())=rb b/\Q169.f K (n,w,())=rb b/\(b=true->fg n/\dB w/\fQ n w/\y=(bM K n w).1/\r=(bM K n w).2):=by
 obtain⟨y,r,H,hl,I,Z,Y,h3,_,_⟩:=uI K n w O J z u;obtain⟨b,t1,t2,t3⟩:=wA K n w O J u;exact⟨y,r,b,H,hl,I,Z,Y,oI K y H u,tI K r (by omega) I u,t1,t2,λhb=>by
  obtain⟨R,M,X⟩:=t3.1 hb;exact⟨R,M,X,h3 ⟨R,M,X⟩⟩⟩
end Go.Proofs.YtadlacffdemoiaaGreatEv
