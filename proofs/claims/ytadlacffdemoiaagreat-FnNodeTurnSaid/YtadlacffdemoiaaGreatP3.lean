/- What a node answers, by the specification. -/
import Derived.Test.YtadlacffdemoiaaGreatP2
set_option linter.unusedVariables false
set_option linter.unusedSimpArgs false
open Bool renaming not_true->BY,eq_iff_iff->B6,not_false->CI,true_and->CL,false_eq_true->CO,not_eq_true'->Ce,and_eq_true->Ch,not_eq_true->Ci
open Classical renaming not_not->Cf
open Iff renaming rfl->CZ
open Int renaming toNat->BV,toNat_natCast->BW,le_refl->B9,eq_ofNat_of_zero_le->CD,toNat_zero->CP,tmod->CQ,fdiv->CS,toNat_of_nonneg->Ca,tmod_lt_of_pos->Cc,le_trans->Cg,tmod_nonneg->Cm,tdiv->Cn
open List renaming length->BT,mem_singleton->BU,mem_append->BX,getElem_mem->BZ,mem_cons->B4,mem_append_left->B5,length_set->B7,getElem_of_mem->B8,length_append->CA,mem_map->CE,nil_append->CF,mem_append_right->CG,drop_zero->CH,mem_of_mem_take->CJ,length_take->CK,getElem?_eq_getElem->CM,mem_filter->CN,take_length->CR,length_drop->CT,length_map->CU,length_nil->CV,length_filter_le->CW,mem_cons_of_mem->CX,pairwise_cons->Cb,length_cons->Cj,not_mem_nil->Ck,append_nil->Cl
open Nat renaming le_succ_of_le->BS,le_trans->B3,le_refl->CB,zero_le->CC,le_succ->CY,lt_or_eq_of_le->Cd
open Option renaming bind_some->BQ,bind->BR
namespace Go.Proofs.YtadlacffdemoiaaGreatEv
open Go
theorem qK (K:Nat)(l:List Int)(t:Int)(u:l.length<=1048576):Q45.f K (l,t,())=some ((hY l t,()),()):=by
 simp only[Q45.f];rw[szb _ _ _ (by omega) (by show (BT ([]:List Int))+l.length<=_;simp;omega)];simp only[cond_true,CF];rw[szb _ _ _ (by omega) (by show l.length+[t].length<=_;simp;omega)];simp only[cond_true];have r:(l++[t]).length=l.length+1:=by simp
 show (bif decide (((l++[t]).length:Int)>3) then (bif decide (0<=wr .i64 (((l++[t]).length:Int)-3))&&decide (wr .i64 (((l++[t]).length:Int)-3)<=((l++[t]).length:Int))&&decide (((l++[t]).length:Int)<=((l++[t]).length:Int))&&true then some ((((l++[t]).take (BV ((l++[t]).length:Int))).drop (BV (wr .i64 (((l++[t]).length:Int)-3))),()),()) else none) else some ((l++[t],()),()))=_;by_cases h:l.length+1>3
 ·rw[aJ (by omega) (by omega),decide_eq_true (by omega:((l++[t]).length:Int)>3),decide_eq_true (by omega:(0:Int)<=((l++[t]).length:Int)-3),decide_eq_true (by omega:((l++[t]).length:Int)-3<=((l++[t]).length:Int)),decide_eq_true (B9 _)];simp only[Bool.and_self,cond_true,hY];rw[show BV (((l++[t]).length:Int)-3)=(l++[t]).length-3 by omega,BW,CR]
 ·rw[decide_eq_false (by omega:¬ ((l++[t]).length:Int)>3)];simp only[cond_false,hY];rw[show (l++[t]).length-3=0 by omega,CH]
theorem plen {me:Int}{l:List dL}(h:eA me l):l.length<=1048576:=B3 (iS h.2 λx r=>(h.1 x r).1) (by decide)
theorem uH {me:Int}{l:List dL}(h:eA me l)(r:Int):(dI l r).length<=3:=by
 unfold dI;cases u:l.find? λp=>p.1==r with
 |none=>simp
 |some p =>
  have:=(h.1 p (List.mem_of_find?_eq_some u)).2.2.2.2.1.2;show p.2.2.length<=3;omega
theorem Au (K:Nat)(l:List dL)(r:Int)(c:dC)(t:Int)(me:Int)(h:eA me l)(hK:1048577<K):Q46.f K (l,r,c,t,())=some ((pi l r c t,()),()):=by
 have hl:=plen h;have h3:=uH h r;refine rD (step:=λrec a=>Q46.s0 K (l,r,c,t,()) rec a) (λx:dL=>x.1) (r,c,hY (dI l r) t) l h.2 (λu i=>(u,false,(i:Int),[])) (λu i=>(u,true,(i:Int),hY (dI l r) t)) (λo=>some ((o,()),())) ?_ ?_ ?_ ?_ (by omega)
 ·intro rec u i I R z;simp only[Q46.s0];rw[bi (by omega:(i:Int)<(BT l:Int)),ag I,ar i (by omega)];simp only[cond_true,BQ,CI];have O:=szb u.length 1 64 (by omega) (by omega);have z2:=szb (u++[(r,c,hY (dI l r) t)]).length 1 64 (by omega) (by simp;omega);have X:l[i].1=r->dI l r=l[i].2.2:=λe=>by unfold dI;rw[pd h.2 I e];rfl
  have J:r<l[i].1->dI l r=[]:=λe=>by
   unfold dI;rw[nU (k:=λp:dL=>p.1)]
   ·rfl
   intro y M;obtain⟨j,hj,rfl⟩:=B8 M;by_cases a1:j<i
   ·have:=z l[j] (by rw[List.mem_take_iff_getElem];exact⟨j,by omega,rfl⟩);show l[j].1≠r;have:l[j].1<r:=this;omega
   ·have:l[i].1<=l[j].1:=by
     by_cases e:i=j
     ·subst e;exact B9 _
     ·exact Int.le_of_lt (cE.1 h.2 i j I hj (by omega))
    show l[j].1≠r;omega
  have a0:=(h.1 _ (BZ I)).2.2.2.2.1.2;generalize l[i]=y at *;by_cases Y:y.1<r
  ·rw[if_pos Y,show decide (y.1>=r)=false from decide_eq_false (by omega),show (y.1 != r)=true by simp;omega,show (y.1==r)=false by simp;omega];exact (congrArg (λb=>bif b then _ else _) O).trans rfl
  ·rw[if_neg Y,show decide (y.1>=r)=true from decide_eq_true (by omega)];by_cases H:y.1=r
   ·rw[if_pos H,show (y.1 != r)=false by simpa using H,show (y.1==r)=true by simpa using H];simp only[cond_true,cond_false];rw[<- X H];refine (congrArg (λo=>BR o _) (qK K _ t (by omega))).trans ?_;exact (congrArg (λb=>bif b then _ else _) O).trans rfl
   ·rw[if_neg H,show (y.1 != r)=true by simpa using H,show (y.1==r)=false by simpa using H];simp only[cond_true,cond_false];have e:=J (by omega);rw[e]at z2 ⊢;refine (congrArg (λo=>BR o _) (qK K [] t (by simp))).trans ?_;refine (congrArg (λb=>bif b then _ else _) O).trans ?_;exact (congrArg (λb=>bif b then _ else _) z2).trans rfl
 ·intro rec u i I R Z;simp only[Q46.s0];rw[bi (by omega:(i:Int)<(BT l:Int)),ag I,ar i (by omega)];have Z:r<l[i].1:=Z;simp only[cond_true,BQ,BY,cond_false];rw[show (l[i].1 != r)=true by simp;omega,show (l[i].1==r)=false by simp;omega];exact (congrArg (λb=>bif b then _ else _) (szb u.length 1 64 (by omega) (by omega))).trans rfl
 ·intro rec u R z;simp only[Q46.s0,aN,cond_false,CI,cond_true];have e:dI l r=[]:=by
   unfold dI;rw[nU (k:=λp:dL=>p.1) (λy M=>by have:y.1<r:=z y M;show y.1≠r;omega)];rfl
  rw[e];refine (congrArg (λo=>BR o _) (qK K [] t (by simp))).trans ?_;exact (congrArg (λb=>bif b then _ else _) (szb u.length 1 64 (by omega) (by omega))).trans rfl
 ·intro rec u R;simp only[Q46.s0,aN,cond_false,BY]
def tD (n r u:Int):Int:=if n<r then r else if n>u then u else n
theorem zM (K:Nat)(n y z:Int):Q44.f K (n,y,z,())=some ((tD n y z,()),()):=by
 simp only[Q44.f,tD];by_cases r:n<y
 ·rw[decide_eq_true r,if_pos r];rfl
 ·rw[decide_eq_false r,if_neg r];by_cases u:n>z
  ·rw[decide_eq_true u,if_pos u];rfl
  ·rw[decide_eq_false u,if_neg u];rfl
theorem Av {n r u:Int}(h:r<=u):InP (tD n r u) r u:=by
 unfold tD;split
 ·exact⟨B9 _,h⟩
 ·split
  ·exact⟨h,B9 _⟩
  ·exact⟨by omega,by omega⟩
def xN (n:aa):Int:=tD ((ch n-(aa.probe n).2.1)*1000+500) 1 60000
noncomputable def qL (K:Nat)(w:ah)(c:dC)(p:dL):dC:=bif p.1==w.2.2.1 then qa K c (ah.coord w) (sx K p.2.2) w.2.2.2.2.1 else c
def kq (n:aa)(w:ah):List dL:=pi (aa.places n) w.2.2.1 (ah.coord w) (xN n)
def qM (n:aa)(w:ah):Bool:=!decide ((aa.probe n).1<0)&&(aa.probe n).1==w.2.2.1&&(aa.probe n).2.2.1==w.2.2.2.2.1&&w.2.2.2.2.2.1==w.2.2.1
noncomputable def fh (K:Nat)(n:aa)(w:ah):aa:=bif qM n w then p8 n ((kq n w).foldl (qL K w) (aa.coord n)) (kq n w) else n
theorem vi {K:Nat}{w:ah}{c:dC}{p:dL}(r:cJ c)(u:1048577<K):cJ (qL K w c p):=by
 unfold qL;cases p.1==w.2.2.1 with
 |false=>exact r
 |true=>exact (xK K c _ _ _ r u).2
theorem tE {n:aa}(h:UpX n)(H:¬ (aa.probe n).1<0):(aa.probe n).1≠n.1/\InP (aa.probe n).1 0 7/\ak (aa.probe n).1=ak n.1/\InP (aa.probe n).2.1 0 (ch n):=by
 have r:=h.probe;unfold db at r;rw[if_neg (by omega)]at r;obtain⟨y,⟨f,u,e⟩,z,_⟩:=r;exact⟨y,e ▸ (h.table.1 f u).1,e ▸ h.site f u,z⟩
theorem vj {n:aa}{w:ah}(h:UpX n)(H:cJ (ah.coord w))(r:qM n w=true):eA n.1 (kq n w):=by
 simp only[qM,Ch,Ce,decide_eq_false_iff_not,beq_iff_eq]at r;obtain⟨⟨⟨I,J⟩,M⟩,O⟩:=r;obtain⟨z,u,y,_⟩:=tE h I;rw[J]at z u y;exact wk h.places u y z H (Av (by decide))
theorem ack_s (K:Nat)(n:aa)(w:ah)(h:UpN n)(Z:cJ (ah.coord w))(I:1048577<K):Q57.f K (n,w,())=some ((fh K n w,()),()):=by
 simp only[Q57.f,Q57.pre,zc00556];have z:qM n w=(!decide ((aa.probe n).1<0)&&(aa.probe n).1==w.2.2.1&&(aa.probe n).2.2.1==w.2.2.2.2.1&&w.2.2.2.2.2.1==w.2.2.1):=rfl;by_cases r:(aa.probe n).1<0
 ·rw[show decide (n.2.2.2.2.2.2.2.2.2.2.1.1<0)=true from decide_eq_true r];rw[show fh K n w=n by unfold fh;rw[z,decide_eq_true r];rfl];rfl
 ·rw[show decide (n.2.2.2.2.2.2.2.2.2.2.1.1<0)=false from decide_eq_false r];cases u:(aa.probe n).1==w.2.2.1 with
  |false =>
   rw[show fh K n w=n by unfold fh;rw[z,decide_eq_false r,u];rfl];rw[show (n.2.2.2.2.2.2.2.2.2.2.1.1 != w.2.2.1)=true by unfold bne;rw[show (n.2.2.2.2.2.2.2.2.2.2.1.1==w.2.2.1)=false from u];rfl];rfl
  |true =>
   rw[show (n.2.2.2.2.2.2.2.2.2.2.1.1 != w.2.2.1)=false by unfold bne;rw[show (n.2.2.2.2.2.2.2.2.2.2.1.1==w.2.2.1)=true from u];rfl];cases H:(aa.probe n).2.2.1==w.2.2.2.2.1 with
   |false =>
    rw[show fh K n w=n by unfold fh;rw[z,decide_eq_false r,u,H];rfl];rw[show (n.2.2.2.2.2.2.2.2.2.2.1.2.2.1 != w.2.2.2.2.1)=true by unfold bne;rw[show (n.2.2.2.2.2.2.2.2.2.2.1.2.2.1==w.2.2.2.2.1)=false from H];rfl];rfl
   |true =>
    rw[show (n.2.2.2.2.2.2.2.2.2.2.1.2.2.1 != w.2.2.2.2.1)=false by unfold bne;rw[show (n.2.2.2.2.2.2.2.2.2.2.1.2.2.1==w.2.2.2.2.1)=true from H];rfl];cases J:w.2.2.2.2.2.1==w.2.2.1 with
    |false =>
     rw[show fh K n w=n by unfold fh;rw[z,decide_eq_false r,u,H,J];rfl];rw[show (w.2.2.2.2.2.1 != w.2.2.1)=true by unfold bne;rw[J];rfl];rfl
    |true =>
     have O:qM n w=true:=by rw[z,decide_eq_false r,u,H,J];rfl
     rw[show (w.2.2.2.2.2.1 != w.2.2.1)=false by unfold bne;rw[J];rfl];have hp:=(tE h.x r).2.2.2;have hn:=h.now1;have R:=vj h.x Z O;simp only[cond_false];rw[show wr .i64 (wr .i64 (wr .i64 (n.2.2.2.2.2.1-n.2.2.2.2.2.2.2.2.2.2.1.2.1)*1000)+500)=(ch n-(aa.probe n).2.1)*1000+500 by
      obtain⟨p1,p2⟩:=hp;show wr .i64 (wr .i64 (wr .i64 (ch n-(aa.probe n).2.1)*1000)+500)=_;rw[aJ (n:=ch n-_) (by omega) (by omega),aJ (n:=_*1000) (by omega) (by omega),aJ (by omega) (by omega)]]
     rw[zM];simp only[BQ];refine (congrArg (λo=>BR o _) (Au K (aa.places n) w.2.2.1 (ah.coord w) (xN n) n.1 h.x.places I)).trans ?_;simp only[BQ];rw[show fh K n w=p8 n ((kq n w).foldl (qL K w) (aa.coord n)) (kq n w) by unfold fh;rw[O];rfl];show Q57.l0 K (n,w,()) (0,(aa.coord n).1,(aa.coord n).2.1,(aa.coord n).2.2.1,(aa.coord n).2.2.2,kq n w)=_;have hl:=plen R;refine kH (step:=λrec a=>Q57.s0 K (n,w,()) rec a) (kq n w) (qL K w) cJ (λc i=>((i:Int),c.1,c.2.1,c.2.2.1,c.2.2.2,kq n w)) (λc=>some ((p8 n c (kq n w),()),())) (aa.coord n) h.x.coord ?_ ?_ (by omega)
     ·intro rec c i X M;refine⟨?_,vi M I⟩;simp only[Q57.s0,zc00556,zcp8];rw[bi (by omega:(i:Int)<(BT (kq n w):Int)),BW,ag X,ar i (by omega)];simp only[cond_true,BQ];have Y:=(R.1 _ (BZ X)).2.2.2.2.1.2;generalize (kq n w)[i]=y at *;unfold qL;cases y.1==w.2.2.1 with
      |false=>rfl
      |true =>
       simp only[cond_true];refine (congrArg (λo=>BR o _) (med_s K y.2.2 (by omega) I)).trans ?_;refine (congrArg (λo=>BR o _) (xK K c (ah.coord w) (sx K y.2.2) w.2.2.2.2.1 M I).1).trans ?_;rfl
     ·intro rec c M;simp only[Q57.s0,zc00556,zcp8,aN,cond_false];rfl
theorem Bq {K:Nat}{n:aa}{w:ah}(h:UpN n)(y:cJ (ah.coord w))(z:1048577<K):UpN (fh K n w)/\(fh K n w).1=n.1/\(fh K n w).2.2.1=n.2.2.1:=by
 unfold fh;cases u:qM n w with
 |false=>exact⟨h,rfl,rfl⟩
 |true=>exact⟨h.heard (mf (Inv:=cJ) h.x.coord λc p _ r=>vi r z) (vj h.x y u),rfl,rfl⟩
def dR (n:aa)(w:ah):Prop:=n.2.1=true/\n.2.2.1=false/\w.2.2.2.1=n.1/\w.2.2.1≠n.1 /\
 (if w.1=2 then w.2.1=6/\ak w.2.2.1≠ak n.1/\(cd (ah.table w) (ak n.1)\/cd (ah.table w) (ak w.2.2.1)) else ak w.2.2.1=ak n.1/\(w.2.1≠6\/¬ cd (ah.table w) (ak n.1)))
theorem qN (K:Nat)(n:aa)(w:ah)(H:(ah.table w).length<=1048576)(I:1048577<K):Ret (Q24.f K (n,w,())) (dR n w):=by
 refine (Ret.cndN (P:=¬ n.2.1=true) (b:=!n.2.1) (by simp) λ_=>Ret.cndN (P:=n.2.2.1=true) (b:=n.2.2.1) CZ λ_=>Ret.cndN (P:=w.2.2.2.1≠n.1) (b:=w.2.2.2.1 != n.1) (by simp) λ_=>Ret.cndN (P:=w.2.2.1=n.1) (b:=w.2.2.1==n.1) (by simp) λ_ =>
  (?_:Ret _ (if w.1=2 then w.2.1=6/\ak w.2.2.1≠ak n.1/\(cd (ah.table w) (ak n.1)\/cd (ah.table w) (ak w.2.2.1)) else ak w.2.2.1=ak n.1/\(w.2.1≠6\/¬ cd (ah.table w) (ak n.1))))).iff ?_
 ·refine Ret.vl (cX K n.1) ?_;obtain⟨z,J,y⟩:=d4 K (ah.table w) (ak n.1) H I;obtain⟨O,R,M⟩:=d4 K (ah.table w) (ak w.2.2.1) H I;by_cases r:w.1=2
  ·rw[show (w.1==2)=true by simpa using r,if_pos r];refine Ret.cnd (P:=w.2.1=6) (b:=w.2.1==6) (by simp) λ_=>?_
   refine Ret.cnd (P:=ak w.2.2.1≠ak n.1) (b:=ak w.2.2.1 != ak n.1) (by simp) λ_=>Ret.vl J ?_
   cases z with
   |true=>exact Ret.yes (.inl (y.1 rfl))
   |false =>
    refine Ret.vl R ?_;exact Ret.of (b:=O) (M.trans ⟨.inr,λh=>h.resolve_left λh=>by have:=y.2 h;cases this⟩)
  ·rw[show (w.1==2)=false by simpa using r,if_neg r];refine Ret.cnd (P:=ak w.2.2.1=ak n.1) (b:=ak w.2.2.1==ak n.1) (by simp) λ_=>?_
   by_cases u:w.2.1=6
   ·show Ret (bif w.2.1 != 6 then _ else _) _;rw[show (w.2.1 != 6)=false by simpa using u];refine Ret.vl J (Ret.of (b:=!z) ?_);rw[Ce,<- Ci,y];exact⟨.inr,λh=>h.resolve_left λh=>h u⟩
   ·show Ret (bif w.2.1 != 6 then _ else _) _;rw[show (w.2.1 != 6)=true by simpa using u];exact Ret.yes (.inl u)
 ·unfold dR;rw[Cf,Ci,Cf]
def qc (u:Int)(n:aa)(to y r:Int)(t:List af):ah:=(1,u,n.1,to,y,r,aa.coord n,t)
theorem qd (K:Nat)(n:aa)(u to y r:Int)(t:List af)(z:t.length<=1048576):Q39.f K (n,u,to,y,r,t,())=some ((qc u n to y r t,()),()):=by
 simp only[Q39.f];rw[szb _ _ _ (by omega) (by show (BT ([]:List af))+t.length<=_;simp;omega)];rfl
def mo (t:List af)(s:Int):Bool:=t.all λf=>ak f.1==s
theorem kL {t:List af}{s:Int}:mo t s=true<->cd t s:=by simp[mo,cd]
def ck (t:List af):af:=(t.head?).getD (0,0,0,false)
def bH (n:aa)(w:ah):List af:=cK (eM (aa.others n) (ak (ck (ah.table w)).1)) (ah.table w)
def wo (n:aa)(w:ah):ah:=(2,6,n.1,w.2.2.1,0,n.1,aa.coord n,bH n w)
def sumN (n:aa)(w:ah):aa:=nd n (bh (λx:bY=>x.1) (ak (ck (ah.table w)).1,bH n w) (aa.others n))
def eW (n:aa)(w:ah):aa×List ah:=bif mo (ah.table w) (ak n.1) then (eV n (ah.table w) n.1,[]) else
 (sumN n w,bif w.1==2&&decide (ah.table w≠bH n w) then [wo n w] else [])
theorem qe:∀ {fs t:List af} {g:af},g∈cK t fs->g∈t\/g∈fs
 |[],_,_,h=>.inl h
 |f::fs,t,g,h=>by
  rcases qe (fs:=fs) h with h|h
  ·have h:g∈(bj t f).1:=h;rcases hI t f with e|e
   ·rw[e]at h;exact .inl h
   ·rw[e]at h;rcases aW.1 h with rfl|⟨h,_⟩
    ·exact .inr (by simp)
    ·exact .inl h
  ·exact .inr (by simp[h])
theorem qf:∀ {fs t:List af} {g:af},g∈t->∃ u∈cK t fs,u.1=g.1
 |[],_,g,h=>⟨g,h,rfl⟩
 |f::fs,t,g,h=>by
  obtain⟨J,y,H⟩:=mZ (f:=f) h;obtain⟨r,z,I⟩:=qf (fs:=fs) y;exact⟨r,z,I.trans H⟩
theorem uI {t:List af}(H:Asc (λg:af=>g.1) t)(f:af):∃ g∈(bj t f).1,g.1=f.1:=by
 by_cases h:∃ g∈t,g.1=f.1
 ·obtain⟨g,r,e⟩:=h;obtain⟨u,y,z⟩:=mZ (f:=f) r;exact⟨u,y,z.trans e⟩
 ·rw[fO λg r e=>h ⟨g,r,e⟩];exact⟨f,aW.2 (.inl rfl),rfl⟩
theorem kM {n:aa}{w:ah}(h:de n.1 (aa.others n))(I:ax (ah.table w))(u:mb (ah.table w)):ax (bH n w)/\bH n w≠[]/\cd (bH n w) (ak (ck (ah.table w)).1):=by
 have z:=pj h (ak (ck (ah.table w)).1);refine⟨er z I.1,?_,?_⟩
 ·unfold bH;cases y:ah.table w with
  |nil=>rw[y]at u;exact u.elim
  |cons f l =>
   obtain⟨g,H,_⟩:=uI (f:=f) (t:=eM (aa.others n) (ak (ck (f::l)).1)) (by rw[y]at z;exact z.2);obtain⟨R,O,_⟩:=qf (fs:=l) H;exact List.ne_nil_of_mem O
 ·intro g r;rcases qe r with r|r
  ·rcases rm (l:=aa.others n) (s:=ak (ck (ah.table w)).1) with e|⟨x,M,J,e⟩
   ·rw[e]at r;cases r
   ·rw[e]at r;rw[<- J];exact (h.1 x M).2.2.2.2 g r
  ·cases y:ah.table w with
   |nil=>rw[y]at u;exact u.elim
   |cons f l =>
    rw[y]at u r;exact u g r
theorem vk {x:Int}(h:InP x 0 7):InP (ak x) 0 1:=by
 rw[jh h];obtain⟨r,u⟩:=h;constructor <;> omega
theorem tF {t:List af}(u:mb t)(r:ax t):InP (ck t).1 0 7:=by
 cases t with
 |nil=>exact u.elim
 |cons f l=>exact (r.1 f (by simp)).1
theorem xO (K:Nat)(n:aa)(w:ah)(h:UpN n)(r:ax (ah.table w))(z:mb (ah.table w))(u:1048577<K):Q40.f K (n,w,())=some (((eW n w).1,(eW n w).2,()),()):=by
 simp only[Q40.f];rw[cX K n.1];simp only[BQ];obtain⟨H,O,J⟩:=d4 K (ah.table w) (ak n.1) (bR r) u;have I:mo (ah.table w) (ak n.1)=H:=by rw[B6,kL,J]
 unfold eW;rw[I];refine (congrArg (λo=>BR o _) O).trans ?_;simp only[rb,BQ];cases H with
 |true =>
  simp only[cond_true];refine (congrArg (λo=>BR o _) (vd K n (ah.table w) n.1 h.learns r.1 (bR r) h.x.me u)).trans rfl
 |false =>
  simp only[cond_false];obtain⟨R,Y,X⟩:=kM (n:=n) h.x.others r z;have y:idx (ah.table w) 0=some (ck (ah.table w)):=by
   cases M:ah.table w with
   |nil=>rw[M]at z;exact z.elim
   |cons f l=>rfl
  refine (congrArg (λo=>BR o _) y).trans ?_;simp only[BQ];rw[cX K];simp only[BQ];refine (congrArg (λo=>BR o _) (xM K n (ak (ck (ah.table w)).1) (ah.table w) h.x.others r u)).trans ?_;simp only[BQ];refine (congrArg (λo=>BR o _) (sum_s K n (ak (ck (ah.table w)).1) (bH n w) h.x.others u)).trans ?_;simp only[BQ];cases w.1==2 with
  |false=>rfl
  |true =>
   simp only[cond_true,CL];refine (congrArg (λo=>BR o _) (zb K (ah.table w) (bH n w) (bR r) u)).trans ?_;simp only[rb,BQ];cases decide (ah.table w≠bH n w) with
   |false=>rfl
   |true =>
    simp only[cond_true];refine (congrArg (λo=>BR o _) (qd K (sumN n w) 6 w.2.2.1 0 n.1 (bH n w) (bR R))).trans rfl
theorem wq {n:aa}{w:ah}(h:UpN n)(H:n.2.2.1=false)(y:ax (ah.table w))(r:mb (ah.table w)):UpN (eW n w).1/\(eW n w).1.1=n.1/\(eW n w).1.2.2.1=false:=by
 unfold eW;cases u:mo (ah.table w) (ak n.1) with
 |true=>exact kp h H y (kL.1 u) (fA.me h.x.me)
 |false =>
  obtain⟨M,I,J⟩:=kM (n:=n) h.x.others y r;refine⟨h.setOthers (wj h.x.others (vk (tF r y)) (λe=>?_) I M J),rfl,H⟩;have:cd (ah.table w) (ak n.1):=by
   cases z:ah.table w with
   |nil=>rw[z]at r;exact r.elim
   |cons f l=>rw[z]at r e;rw[<- e];exact r
  rw[kL.2 this]at u;cases u
noncomputable def fg (K:Nat)(n:aa)(w:ah):aa×List ah :=
 bif w.2.1==1 then (bif ak w.2.2.2.2.2.1 != ak n.1 then (n,[]) else bif w.2.2.2.2.2.1==n.1 then (n,[]) else (iV n,[qc 2 (iV n) w.2.2.2.2.2.1 w.2.2.2.2.1 n.1 (hX n w.2.2.2.2.2.1)]))
 else bif w.2.1==3 then (bif ak w.2.2.2.2.2.1 != ak n.1 then (n,[]) else bif w.2.2.2.2.2.1==n.1 then (n,[]) else bif w.2.2.2.2.2.1==w.2.2.1 then (n,[]) else (iV n,[qc 1 (iV n) w.2.2.2.2.2.1 w.2.2.2.2.1 w.2.2.1 (hX n w.2.2.2.2.2.1)]))
 else bif w.2.1==4 then (n,[qc 5 n w.2.2.1 0 n.1 (aa.table n)]) else bif w.2.1==2 then (fh K n w,[]) else (n,[])
theorem zc (K:Nat)(n:aa)(w:ah)(h:UpN n)(z:cJ (ah.coord w))(u:1048577<K):Q58.f K (n,w,())=some (((fg K n w).1,(fg K n w).2,()),()):=by
 simp only[Q58.f];rw[cX K n.1];simp only[BQ];have y:=vg K n w.2.2.2.2.2.1 h.x.say u;have r:=bR (nX h.x.say w.2.2.2.2.2.1);unfold fg;cases w.2.1==1 with
 |true =>
  simp only[cond_true];rw[cX K];simp only[BQ];cases ak w.2.2.2.2.2.1 != ak n.1 with
  |true=>rfl
  |false =>
   simp only[cond_false];cases w.2.2.2.2.2.1==n.1 with
   |true=>rfl
   |false =>
    simp only[cond_false];refine (congrArg (λo=>BR o _) y).trans ?_;simp only[BQ];refine (congrArg (λo=>BR o _) (qd K (iV n) 2 w.2.2.2.2.2.1 w.2.2.2.2.1 n.1 _ r)).trans rfl
 |false =>
  simp only[cond_false];cases w.2.1==3 with
  |true =>
   simp only[cond_true];rw[cX K];simp only[BQ];cases ak w.2.2.2.2.2.1 != ak n.1 with
   |true=>rfl
   |false =>
    simp only[cond_false];cases w.2.2.2.2.2.1==n.1 with
    |true=>rfl
    |false =>
     simp only[cond_false];cases w.2.2.2.2.2.1==w.2.2.1 with
     |true=>rfl
     |false =>
      simp only[cond_false];refine (congrArg (λo=>BR o _) y).trans ?_;simp only[BQ];refine (congrArg (λo=>BR o _) (qd K (iV n) 1 w.2.2.2.2.2.1 w.2.2.2.2.1 w.2.2.1 _ r)).trans rfl
  |false =>
   simp only[cond_false];cases w.2.1==4 with
   |true=>exact (congrArg (λo=>BR o _) (qd K n 5 w.2.2.1 0 n.1 (aa.table n) (bR h.x.table))).trans rfl
   |false =>
    simp only[cond_false];cases w.2.1==2 with
    |true=>exact (congrArg (λo=>BR o _) (ack_s K n w h z u)).trans rfl
    |false=>rfl
theorem xP {K:Nat}{n:aa}{w:ah}(h:UpN n)(r:cJ (ah.coord w))(u:1048577<K):UpN (fg K n w).1/\(fg K n w).1.1=n.1/\(fg K n w).1.2.2.1=n.2.2.1:=by
 unfold fg;cases w.2.1==1 <;> cases w.2.1==3 <;> cases w.2.1==4 <;> cases w.2.1==2 <;> cases ak w.2.2.2.2.2.1 != ak n.1 <;> cases w.2.2.2.2.2.1==n.1 <;> cases w.2.2.2.2.2.1==w.2.2.1 <;> first|exact⟨h,rfl,rfl⟩|exact⟨h.way,rfl,rfl⟩|exact Bq h r u
open Classical in
noncomputable def bI (K:Nat)(n:aa)(w:ah):aa×List ah :=
 if cZ w/\dR n w then (if w.2.1=6 then eW n w else fg K (eV n (ah.table w) w.2.2.1) w) else (n,[])
theorem j8 {n:aa}{w:ah}(H:cZ w)(h:dR n w)(z:w.2.1≠6):cd (ah.table w) (ak n.1)/\fA n w.2.2.1:=by
 obtain⟨_,_,w3,_,_,_,_,_,y⟩:=H;rw[if_neg z]at y;obtain⟨_,_,_,_,r⟩:=h;by_cases u:w.1=2
 ·rw[if_pos u]at r;exact absurd r.1 z
 ·rw[if_neg u]at r;exact⟨r.1 ▸ y,w3,r.1⟩
theorem xQ (K:Nat)(n:aa)(w:ah)(h:n.2.1=true->UpN n)(I:(ah.table w).length<=1048576)(y:1048577<K):Q59.f K (n,w,())=some (((bI K n w).1,(bI K n w).2,()),()):=by
 simp only[Q59.f];obtain⟨Z,e1,O⟩:=mc K w I y;obtain⟨b2,Y,R⟩:=qN K n w I y;rw[e1];cases Z with
 |false =>
  unfold bI;rw[if_neg λh=>by have:=O.2 h.1;cases this];rfl
 |true =>
  have z:=O.1 rfl;simp only[rb,BQ,BY,cond_false];refine (congrArg (λo=>BR o _) Y).trans ?_;cases b2 with
  |false =>
   unfold bI;rw[if_neg λh=>by have:=R.2 h.2;cases this];rfl
  |true =>
   have H:=R.1 rfl;have J:=h H.1;simp only[rb,BQ,BY,cond_false];unfold bI;rw[if_pos ⟨z,H⟩];have r:=z.2.2.2.2.2.2.2.1;by_cases u:w.2.1=6
   ·rw[if_pos u,show (w.2.1==6)=true by simpa using u];have X:=z.2.2.2.2.2.2.2.2;rw[if_pos u]at X;exact (congrArg (λo=>BR o _) (xO K n w J r X y)).trans rfl
   ·rw[if_neg u,show (w.2.1==6)=false by simpa using u];obtain⟨hs,M⟩:=j8 z H u;have hl:=(kp J H.2.1 r hs M).1;refine (congrArg (λo=>BR o _) (vd K n (ah.table w) w.2.2.1 J.learns r.1 I M.1 y)).trans ?_;exact (congrArg (λo=>BR o _) (zc K _ w hl z.2.2.2.2.2.2.1 y)).trans rfl
theorem nZ {K:Nat}{n:aa}{w:ah}(h:UpN n)(X:1048577<K):UpN (bI K n w).1/\(bI K n w).1.1=n.1/\(bI K n w).1.2.2.1=n.2.2.1:=by
 unfold bI;split
 ·rename_i M;obtain⟨y,r⟩:=M;have u:=y.2.2.2.2.2.2.2.1;split
  ·rename_i H;have J:=y.2.2.2.2.2.2.2.2;rw[if_pos H]at J;rw[r.2.1];exact wq h r.2.1 u J
  ·rename_i H;obtain⟨R,O⟩:=j8 y r H;have z:=kp h r.2.1 u R O;have I:=xP (w:=w) z.1 y.2.2.2.2.2.2.1 X;exact⟨I.1,I.2.1.trans z.2.1,I.2.2.trans (z.2.2.trans r.2.1.symm)⟩
 ·exact⟨h,rfl,rfl⟩
theorem mp {K:Nat}{n:aa}{w:ah}(h:UpN n)(hK:1048577<K):(bI K n w).2.length<=1/\∀ x∈(bI K n w).2,InP x.2.2.2.1 0 7/\(ah.table x).length<=1048576:=by
 unfold bI;split
 ·rename_i Y;obtain⟨u,J⟩:=Y;have y:=u.2.2.2.2.2.2.2.1;split
  ·rename_i z;have M:=u.2.2.2.2.2.2.2.2;rw[if_pos z]at M;obtain⟨Z,a2,a3⟩:=kM (n:=n) h.x.others y M;unfold eW;cases mo (ah.table w) (ak n.1) with
   |true=>exact⟨by simp,by simp⟩
   |false =>
    simp only[cond_false];cases w.1==2&&decide (ah.table w≠bH n w) with
    |false=>exact⟨by simp,by simp⟩
    |true=>exact⟨by simp,λx r=>by rw[BU.1 r];exact⟨u.2.2.1,bR Z⟩⟩
  ·rename_i z;obtain⟨hs,O⟩:=j8 u J z;have I:=kp h J.2.1 y hs O;have R:=bR (nX I.1.x.say w.2.2.2.2.2.1);have H:=bR I.1.x.table;have w3:=u.2.2.1;have X:=u.2.2.2.2.2.1;generalize eV n (ah.table w) w.2.2.1=m at *;unfold fg;cases w.2.1==1 <;> cases w.2.1==3 <;> cases w.2.1==4 <;> cases w.2.1==2 <;> cases ak w.2.2.2.2.2.1 != ak m.1 <;> cases w.2.2.2.2.2.1==m.1 <;> cases w.2.2.2.2.2.1==w.2.2.1 <;>
    first|exact⟨CB _,λx r=>by rw[BU.1 r];exact⟨X,R⟩⟩|exact⟨CB _,λx r=>by rw[BU.1 r];exact⟨w3,H⟩⟩|exact⟨CC _,λx r=>nomatch r⟩
 ·exact⟨by simp,by simp⟩
theorem qO {α:Type}{k:α->Int}:∀ {xs u:List α},Asc k xs->Asc k u->(∀ x,x∈xs<->x∈u)->xs=u
 |[],[],_,_,_=>rfl
 |[],y::u,_,_,h=>by have:=(h y).2 (by simp);simp at this
 |x::xs,[],_,_,h=>by have:=(h x).1 (by simp);simp at this
 |x::xs,y::u,M,O,h=>by
  have J:=Cb.1 M;have I:=Cb.1 O;have e:x=y:=by
   rcases B4.1 ((h x).1 (by simp)) with e|e
   ·exact e
   ·rcases B4.1 ((h y).2 (by simp)) with H|H
    ·exact H.symm
    ·have:=J.1 y H;have:=I.1 x e;omega
  subst e;rw[qO J.2 I.2 λz=>⟨λr=>?_,λr=>?_⟩]
  ·rcases B4.1 ((h z).1 (CX _ r)) with rfl|e
   ·have:=J.1 _ r;omega
   ·exact e
  ·rcases B4.1 ((h z).2 (CX _ r)) with rfl|e
   ·have:=I.1 _ r;omega
   ·exact e
def mq (fs:List af)(g:af):Prop:=g∈fs/\∀ h∈fs,h.1=g.1->rk h<=rk g
theorem Br {f g:af}(O:aX f)(H:aX g)(e:f.1=g.1)(h:rk f=rk g):f=g:=by
 obtain⟨_,_,y,J⟩:=O;obtain⟨_,_,M,z⟩:=H;obtain⟨a,b,c,d⟩:=f;obtain⟨R,u,r,I⟩:=g;unfold rk at h;simp only at h y J M z e;subst e;cases d <;> cases I <;> simp at h
 ·obtain rfl:b=u:=by omega
  obtain rfl:c=r:=by omega
  rfl
 ·omega
 ·omega
 ·obtain rfl:b=u:=by omega
  obtain rfl:c=r:=by omega
  rfl
theorem tG:∀ (B:List af) (v:Int),(∃ h∈B,h.1=v)->∃ g∈B,g.1=v/\∀ h∈B,h.1=v->rk h<=rk g
 |[],_,⟨_,h,_⟩=>by simp at h
 |x::B,v,R=>by
  by_cases z:∃ h∈B,h.1=v
  ·obtain⟨g,J,e,I⟩:=tG B v z;by_cases H:x.1=v/\rk g<rk x
   ·refine⟨x,by simp,H.1,λh r y=>?_⟩;rcases B4.1 r with rfl|r
    ·exact B9 _
    ·have:=I h r y;omega
   ·refine⟨g,by simp[J],e,λh r y=>?_⟩;rcases B4.1 r with rfl|r
    ·exact Int.not_lt.1 λM=>H ⟨y,M⟩
    ·exact I h r y
  ·obtain⟨h,r,e⟩:=R;rcases B4.1 r with rfl|r
   ·refine⟨h,by simp,e,λO u y=>?_⟩;rcases B4.1 u with rfl|u
    ·exact B9 _
    ·exact absurd ⟨O,u,y⟩ z
   ·exact absurd ⟨h,r,e⟩ z
theorem wt {t:List af}(r:Asc (λg:af=>g.1) t){g:af}:mq t g<->g∈t:=⟨λh=>h.1,λh=>⟨h,λy u e=>by rw[fu r u h e];exact B9 _⟩⟩
theorem pm {A B:List af}(h:∀ g,g∈A<->mq B g)(fs:List af)(g:af):mq (A++fs) g<->mq (B++fs) g:=by
 constructor
 ·rintro⟨u,h2⟩;refine⟨?_,λx r e=>?_⟩
  ·rcases BX.1 u with u|u
   ·exact B5 _ ((h g).1 u).1
   ·exact CG _ u
  ·rcases BX.1 r with r|r
   ·obtain⟨m,O,M,J⟩:=tG B g.1 ⟨x,r,e⟩;have I:m∈A:=(h m).2 ⟨O,λy z H=>J y z (H.trans M)⟩;have:=h2 m (B5 _ I) M;have:=J x r e;omega
   ·exact h2 x (CG _ r) e
 ·rintro⟨u,h2⟩;refine⟨?_,λx r e=>?_⟩
  ·rcases BX.1 u with u|u
   ·exact B5 _ ((h g).2 ⟨u,λy z H=>h2 y (B5 _ z) H⟩)
   ·exact CG _ u
  ·rcases BX.1 r with r|r
   ·exact h2 x (B5 _ ((h x).1 r).1) e
   ·exact h2 x (CG _ r) e
theorem pn {t:List af}{f:af}(H:ax t)(X:aX f){g:af}:g∈(bj t f).1<->mq (t++[f]) g:=by
 have z:(∀ h∈t,h.1=f.1->rk h<rk f)->(g∈bh (λg:af=>g.1) f t<->mq (t++[f]) g):=λI=>by
  rw[aW];constructor
  ·rintro (rfl|⟨y,J⟩)
   ·refine⟨by simp,λx r e=>?_⟩;rcases BX.1 r with r|r
    ·have:=I x r e;omega
    ·rw[BU.1 r];exact B9 _
   ·refine⟨by simp[y],λx r e=>?_⟩;rcases BX.1 r with r|r
    ·rw[fu H.2 r y e];exact B9 _
    ·rw[BU.1 r]at e;exact absurd e.symm J
  ·rintro⟨y,J⟩;rcases BX.1 y with y|y
   ·refine .inr ⟨y,λe=>?_⟩;have:=I g y e;have:=J f (by simp) e.symm;omega
   ·exact .inl (BU.1 y)
 by_cases h:∃ g∈t,g.1=f.1
 ·obtain⟨g0,u,M⟩:=h;obtain⟨i,Z,rfl⟩:=B8 u;rw[ir H.2 Z M];by_cases I:bC f t[i]
  ·rw[if_pos I];exact z λh Y e=>by
    rw[fu H.2 Y u (e.trans M.symm)];exact (lJ X (H.1 _ u)).1 I
  ·rw[if_neg I];have R:rk f<=rk t[i]:=Int.not_lt.1 λh=>I ((lJ X (H.1 _ u)).2 h)
   show g∈t<->_;constructor
   ·intro O;refine⟨by simp[O],λx r e=>?_⟩;rcases BX.1 r with r|r
    ·rw[fu H.2 r O e];exact B9 _
    ·rw[BU.1 r]at e ⊢;rw[<- fu H.2 u O (M.trans e)];exact R
   ·rintro⟨y,J⟩;rcases BX.1 y with y|y
    ·exact y
    ·rw[BU.1 y]at J ⊢;have:=J t[i] (B5 _ u) M;rw[Br X (H.1 _ u) M.symm (by omega)];exact u
 ·rw[fO λg O e=>h ⟨g,O,e⟩];exact z λx r e=>absurd ⟨x,r,e⟩ h
theorem js {fs:List af}:∀ {t:List af},ax t->(∀ f∈fs,aX f)->∀ g,g∈cK t fs<->mq (t++fs) g:=by
 induction fs with
 |nil=>intro t h _ g;rw[Cl];exact (wt h.2).symm
 |cons f fs z =>
  intro t h u g;have r:=u f (by simp);show g∈cK (bj t f).1 fs<->_;rw[z (gz h r) (λg y=>u g (by simp[y])),pm (B:=t++[f]) (λx=>pn h r) fs g,List.append_assoc];rfl
theorem uJ {t a b:List af}(r:ax t)(y:∀ f∈a,aX f)(u:∀ f∈b,aX f):cK (cK t a) b=cK (cK t b) a:=by
 refine qO (er (er r y) u).2 (er (er r u) y).2 λg=>?_
 rw[js (er r y) u,js (er r u) y,pm (js r y) b g,pm (js r u) a g];unfold mq;simp only[BX]
 grind
theorem rE {f:af}{t:List af}:(bh (λg:af=>g.1) f t).map (·.1)=bh (λx:Int=>x) f.1 (t.map (·.1)):=by
 unfold bh;simp only[List.map_append,List.map_cons,List.filter_map];rfl
theorem zd {t:List af}(h:Asc (λg:af=>g.1) t):Asc (λx:Int=>x) (t.map (·.1)):=List.pairwise_map.2 h
theorem Aw {ks:List Int}{v:Int}(r:Asc (λx:Int=>x) ks)(h:v∈ks):bh (λx:Int=>x) v ks=ks:=qO (eE r) r λx=>by
 rw[aW];constructor
 ·rintro (rfl|⟨u,_⟩)
  ·exact h
  ·exact u
 ·intro y;by_cases e:x=v
  ·exact .inl e
  ·exact .inr ⟨y,e⟩
theorem tH {t:List af}(z:Asc (λg:af=>g.1) t)(f:af):(bj t f).1.map (·.1)=bh (λx:Int=>x) f.1 (t.map (·.1)):=by
 by_cases h:∃ g∈t,g.1=f.1
 ·obtain⟨g0,r,u⟩:=h;obtain⟨i,I,rfl⟩:=B8 r;rw[ir z I u];by_cases y:bC f t[i]
  ·rw[if_pos y];exact rE
  ·rw[if_neg y];exact (Aw (zd z) (by rw[<- u];exact CE.2 ⟨_,r,rfl⟩)).symm
 ·rw[fO λg H e=>h ⟨g,H,e⟩];exact rE
structure kN (me:Int) (A B:List af):Prop where
 a:ax A
 b:ax B
 keys:A.map (·.1)=B.map (·.1)
 same:∀ g,g.1≠me->(g∈A<->g∈B)
theorem kN.symm {me:Int}{A B:List af}(h:kN me A B):kN me B A:=⟨h.b,h.a,h.keys.symm,λg r=>(h.same g r).symm⟩
theorem kN.other {me:Int}{A B:List af}(h:kN me A B){f:af}(e:f.1≠me)(u:aX f):kN me (bj A f).1 (bj B f).1:=by
 refine⟨gz h.a u,gz h.b u,?_,λg I=>?_⟩
 ·rw[tH h.a.2,tH h.b.2,h.keys]
 ·rw[pn h.a u,pn h.b u];have y:∀ x:af,x.1=g.1->(x∈A++[f]<->x∈B++[f]):=λx J=>by
   rw[BX,BX,h.same x (by rw[J];exact I)]
  unfold mq;rw[y g rfl];exact and_congr_right λ_=>forall_congr' λx=>⟨λz H r=>z ((y x r).2 H) r,λz H r=>z ((y x r).1 H) r⟩
theorem xR (m:aa)(f:af)(b:Int):aa.table (sayOf m f b)=(bj (aa.table m) f).1:=by
 unfold sayOf;cases h:(bj (aa.table m) f).2 with
 |true=>rfl
 |false =>
  have e:(bj (aa.table m) f).1=aa.table m:=by
   revert h;unfold bj;split
   ·split
    ·intro h;cases h
    ·exact λ_=>rfl
   ·intro h;cases h
  rw[e];rfl
theorem kN.refl {me:Int}{A:List af}(h:ax A):kN me A A:=⟨h,h,rfl,λ_ _=>CZ⟩
theorem kr {b:Int}:∀ (fs:List af) (m:aa),(∀ f∈fs,f.1≠m.1)->aa.table (eV m fs b)=cK (aa.table m) fs/\(eV m fs b).1=m.1
 |[],_,_=>⟨rfl,rfl⟩
 |f::fs,m,h=>by
  have y:=h f (by simp);have e:ci b m f=iJ (sayOf m f b) f b:=by
   unfold ci;rw[show (f.1==m.1)=false by simpa using y];rfl
  have u:(ci b m f).1=m.1:=by
   rw[e];show (sayOf m f b).1=m.1;obtain⟨t,c,H,r,_⟩:=gA m f b;rw[r];rfl
  have r:aa.table (ci b m f)=(bj (aa.table m) f).1:=by rw[e];exact xR m f b
  have:=kr (b:=b) fs (ci b m f) λg z=>by rw[u];exact h g (by simp[z])
  rw[r,u]at this;exact this
theorem uK {n:aa}(h:∀ k,k<8->¬ ib n k):iW n=none:=by
 unfold iW;rw[List.find?_eq_none];intro x u;obtain⟨k,r,rfl⟩:=CE.1 u;have:=h k (by simpa using r);unfold ib at this;simpa using this
theorem uL {n:aa}{k:Nat}(y:k<8)(r:ib n k)(h:∀ j,j<k->¬ ib n j):iW n=some (cL n k):=by
 unfold iW;rw[List.find?_map,List.find?_range_eq_some.2 ⟨?_,by simpa using y,λj u=>?_⟩]
 ·rfl
 ·unfold ib at r;simpa using r
 ·have:=h j u;unfold ib at this;simpa[Classical.or_iff_not_imp_left]using this
theorem vm (K:Nat)(n:aa)(h:cz n)(X:tw n)(J:1048577<K):Q97.f K (n,())=some (((dU n).1,(dU n).2,()),()):=by
 obtain⟨⟨Y,Z⟩,⟨t0,t1⟩⟩:=X;obtain⟨to,O,H⟩:=Al K n h t0 t1 J;simp only[Q97.f,zcp4];rw[O];simp only[BQ,dU];by_cases r:jM n>=999999
 ·rw[decide_eq_true r,show decide (n.2.2.2.2.2.2.1>=999999)=true from decide_eq_true r];cases decide (to<0) <;> rfl
 ·rw[decide_eq_false r,show decide (n.2.2.2.2.2.2.1>=999999)=false from decide_eq_false r];simp only[cond_false];rcases H with ⟨rfl,u⟩|⟨k,M,I,y,rfl⟩
  ·rw[uK u];rfl
  ·rw[uL M I y];have R:0<=cL n k/\cL n k<8:=⟨Cm _ (by omega),Cc _ (by omega)⟩;rw[decide_eq_false (by omega:¬ cL n k<0)];simp only[cond_false];rw[vg K n _ h J];simp only[BQ];have z:wr .i64 (jM n+1)=jM n+1:=aJ (by omega) (by omega);rw[show wr .i64 ((iV n).2.2.2.2.2.2.1+1)=n.2.2.2.2.2.2.1+1 from z,aJ (n:=cL n k+1) (by omega) (by omega)];simp only[Q39.f];rw[szb _ _ _ (by omega) (by have:=bR (nX h (cL n k));simp;omega)];rfl
def ic (w:ah):Prop:=InP w.2.2.2.1 0 7/\(ah.table w).length<=1048576
theorem tI {n:aa}(H:ax (aa.table n)):(dp n).2.length<=2/\∀ w∈(dp n).2,ic w:=by
 have r:([]:List ah).length<=2/\∀ w∈([]:List ah),ic w:=⟨by simp,by simp⟩;unfold dp;cases (aa.probe n).1==-1 with
 |true=>exact r
 |false =>
  cases !eF (aQ (aa.table n) (aa.probe n).1) with
  |true=>exact r
  |false =>
   cases decide (n.2.2.2.2.2.1-(aa.probe n).2.1>=4) with
   |true=>exact r
   |false =>
    cases decide (n.2.2.2.2.2.1-(aa.probe n).2.1>=2) with
    |false=>exact r
    |true =>
     cases !(aa.probe n).2.2.2 with
     |false=>exact r
     |true =>
      simp only[cond_true,cond_false];refine⟨by rw[CU];exact List.length_take_le _ _,λw z=>?_⟩;obtain⟨to,u,rfl⟩:=CE.1 z;obtain⟨f,y,rfl⟩:=CE.1 (CJ u);exact⟨(H.1 f (CN.1 y).1).1,CC _⟩
theorem zN {n:aa}(h:cz n):(dU n).2.length<=1/\∀ w∈(dU n).2,ic w:=by
 have r:([]:List ah).length<=1/\∀ w∈([]:List ah),ic w:=⟨by simp,by simp⟩;unfold dU;cases decide (jM n>=999999) with
 |true=>exact r
 |false =>
  simp only[cond_false];cases H:iW n with
  |none=>exact r
  |some to =>
   refine⟨by simp,λw y=>?_⟩;rw[BU.1 y];obtain⟨z,u,I⟩:=eq h.table (hM (rz H).2);exact⟨u ▸ z.1,bR (nX h to)⟩
theorem Bs {n:aa}(H:de n.1 (aa.others n)){s d:Int}(z:InP s 0 1):InP (mj n s d) 0 7:=by
 unfold mj;cases r:decide (fN (eM (aa.others n) s)≠[])&&bB .i64 d 4==0 with
 |true =>
  rw[Ch,decide_eq_true_eq]at r;have:=(iv (d:=CS d (2 ^ 3)) r.1).2.2;unfold fN at this;obtain⟨f,I,e⟩:=CE.1 (CJ this);simp only[cond_true];show InP (gS (fN (eM (aa.others n) s)) (CS d (2 ^ 3))) 0 7;unfold fN;rw[<- e];exact ((pj H s).1 f (CN.1 I).1).1
 |false =>
  obtain⟨y,u⟩:=lH (a:=CS d (2 ^ 3)) (m:=3) (by omega);have y:0<=bB .i64 (CS d (2 ^ 3)) 3:=y;have u:bB .i64 (CS d (2 ^ 3)) 3<=3:=u;obtain⟨J,M⟩:=z;simp only[cond_false];exact⟨by omega,by omega⟩
theorem vn {n:aa}(I:ax (aa.table n))(J:de n.1 (aa.others n))(r:Int):(kf n r).length<=2/\∀ w∈kf n r,ic w:=by
 have u:([]:List ah).length<=2/\∀ w∈([]:List ah),ic w:=⟨by simp,by simp⟩;unfold kf;cases bB .i64 r 3==1 with
 |true =>
  simp only[cond_true,ml];cases lI n with
  |false=>exact u
  |true =>
   refine⟨?_,λw z=>?_⟩
   ·show ((([0,1]:List Int).filter (λs=>s != ak n.1)).map _).length<=2;rw[CU];exact CW _ _
   ·obtain⟨s,O,rfl⟩:=CE.1 z;refine⟨Bs J ?_,bR I⟩;have:=(CN.1 O).1;simp at this;rcases this with rfl|rfl <;> exact⟨by decide,by decide⟩
 |false =>
  simp only[cond_false];by_cases y:fy n=[]
  ·rw[decide_eq_true y,Bool.or_true];exact u
  ·rw[decide_eq_false y,Bool.or_false];obtain⟨f,M,e⟩:=CE.1 (iv (d:=CS r (2 ^ 2)) y).2.2;have H:InP (gS (fy n) (CS r (2 ^ 2))) 0 7:=by
    rw[<- e];exact (I.1 f (CN.1 M).1).1
   cases bB .i64 r 3==3 with
   |true=>exact u
   |false =>
    simp only[cond_false];cases bB .i64 r 3==0 with
    |true=>exact⟨by simp,λw z=>by rw[BU.1 z];exact⟨H,bR I⟩⟩
    |false =>
     simp only[cond_false,tv]
     match R:aa.others n with
     |[]=>exact u
     |x::_=>exact⟨by simp,λw z=>by rw[BU.1 z];exact⟨H,bR (J.1 x (by rw[R];simp)).2.2.2.1⟩⟩
theorem UpX.far {n:aa}(h:UpX n):nY n:=⟨by rcases tt h.me h.others with e|⟨x,e⟩ <;> rw[e] <;> simp,λx r=>⟨(h.others.1 x r).2.2.2.1,bR (h.others.1 x r).2.2.2.1⟩⟩
theorem rF {n:aa}(h:UpX n)(H:ch n<=1000000):((aa.probe n).1=-1\/0<=(aa.probe n).1)/\0<=(aa.probe n).2.1/\(aa.probe n).2.1<=1000000:=by
 have r:=h.probe;have y:ch n=n.2.2.2.2.2.1:=rfl;unfold db at r;split at r
 ·rename_i J;rw[r];exact⟨.inl rfl,by show (0:Int)<=0;omega,by show (0:Int)<=1000000;omega⟩
 ·obtain⟨_,⟨f,z,e⟩,⟨u,I⟩,_⟩:=r;have:=(h.table.1 f z).1.1;exact⟨.inr (e ▸ this),u,by omega⟩
theorem Bt {n:aa}(h:UpN n)(H:ch n<999999)(r:Int):(p6 n r).length<=5/\∀ w∈p6 n r,ic w:=by
 have M:=(na h.x.later (show dj (d9 n) from h.self)).1.table;obtain⟨y,O⟩:=tI M;obtain⟨J,_,_⟩:=p7 h H;have z:=(qI h H).1;obtain⟨X,I⟩:=vn z.x.table z.x.others r;have R:(fC (fD n).1).2.length<=1/\∀ w∈(fC (fD n).1).2,ic w:=by
  unfold fC;cases (aa.probe (fD n).1).1==-1 with
  |true=>exact zN J.x.say
  |false=>exact⟨by simp,by simp⟩
 unfold p6;have y:(fD n).2.length<=2:=y;refine⟨by rw[CA,CA];omega,λw u=>?_⟩;rcases BX.1 u with u|u
 ·rcases BX.1 u with u|u
  ·exact O w u
  ·exact R.2 w u
 ·exact I w u
theorem Bu (K:Nat)(n:aa)(H:Int)(h:UpN n)(hg:n.2.2.1=false)(hm:ch n<999999)(X:1048577<K):Q104.f K (n,H,())=some ((kJ n,p6 n H,()),()):=by
 have a3:=h.x.now0;simp only[Q104.f,zcp4];refine (congrArg (λb=>bif !b then _ else _) h.up).trans ?_;refine (congrArg (λb=>bif b then _ else _) hg).trans ?_;refine (congrArg (λb=>bif b then _ else _) (decide_eq_false (show ¬ n.2.2.2.2.2.1>=999999 by have:ch n=n.2.2.2.2.2.1:=rfl;omega))).trans ?_;simp only[cond_false];rw[show wr .i64 (n.2.2.2.2.2.1+1)=n.2.2.2.2.2.1+1 from aJ (by have:ch n=n.2.2.2.2.2.1:=rfl;omega) (by have:ch n=n.2.2.2.2.2.1:=rfl;omega)];have hl:UpX (d9 n):=h.x.later;have a1:∀ d∈aa.doubts (d9 n),0<=d.2.2.1/\d.2.2.1<=(d9 n).2.2.2.2.2.1/\d.2.2.2.length<=1048576:=λd hd=>by
  obtain⟨_,⟨s0,s1⟩,_,h4⟩:=hl.doubts.1 d hd;exact⟨s0,s1,B3 (iS (k:=λx=>x) h4.2 λx hx=>(h4.1 x hx).1) (by decide)⟩
 have Z:∀ d∈aa.doubts (d9 n),∃ f∈aa.table (d9 n),f.1=d.1:=λd hd=>by
  obtain⟨⟨f,hf,e,_⟩,_⟩:=hl.doubts.1 d hd;exact⟨f,hf,e⟩
 have Y:(d9 n).2.2.2.2.2.1<=1000000:=by show ch n+1<=1000000;omega
 refine (congrArg (λo=>BR o _) (Bc K (d9 n) ⟨hl.say,Z,rfl⟩ a1 Y X)).trans ?_;simp only[BQ];obtain⟨b1,b2,t,c,ds,eb⟩:=na hl (show dj (d9 n) from h.self);have z:tw (fD n).1:=(p7 h hm).1.seq;have a2:ch (ko (d9 n))=ch n+1:=by rw[eb];rfl
 have hp:=rF b1 (by omega);obtain⟨a0,_⟩:=tI b1.table;have R:=(qI h hm).1;have r:=Bl K (kJ n) H R.x.far R.x.table (bR R.x.table) X;have u:=(p7 h hm).1;obtain⟨J,_⟩:=zN u.x.say;obtain⟨y,_⟩:=vn R.x.table R.x.others H;unfold kJ fC fD at r R y;unfold fD at z u J;unfold p6 kJ fC fD;generalize ko (d9 n)=m at *;rcases hp.1 with O|O
 ·have e0:dp m=(m,[]):=by unfold dp;rw[show ((aa.probe m).1==-1)=true by simpa using O];rfl
  rw[e0]at r z u J y ⊢;refine (congrArg (λb=>bif b then _ else _) (decide_eq_false (show ¬ m.2.2.2.2.2.2.2.2.2.2.1.1>=0 by have:(aa.probe m).1=m.2.2.2.2.2.2.2.2.2.2.1.1:=rfl;omega))).trans ?_;refine (congrArg (λb=>bif b then _ else _) (decide_eq_true (show m.2.2.2.2.2.2.2.2.2.2.1.1<0 by have:(aa.probe m).1=m.2.2.2.2.2.2.2.2.2.2.1.1:=rfl;omega))).trans ?_;refine (congrArg (λo=>BR o _) (vm K m u.x.say z X)).trans ?_;simp only[BQ];rw[show ((aa.probe m).1==-1)=true by simpa using O]at r y ⊢;simp only[cond_true]at r y J ⊢;rw[szw _ _ _ (by omega) (by simp;omega)];simp only[cond_true];refine (congrArg (λo=>BR o _) r).trans ?_;simp only[BQ];rw[szw _ _ _ (by omega) (by simp;omega)];rfl
 ·refine (congrArg (λb=>bif b then _ else _) (decide_eq_true (show m.2.2.2.2.2.2.2.2.2.2.1.1>=0 from O))).trans ?_;refine (congrArg (λo=>BR o _) (Bd K m b1.say (by omega) hp.2.1 hp.2.2 b1.now0 (by have:ch m=m.2.2.2.2.2.1:=rfl;omega) X)).trans ?_;simp only[BQ];generalize dp m=fo at *;obtain⟨I,ws⟩:=fo;simp only at r z u J y a0 ⊢;have M:=(rF u.x (by have:=u.now1;omega)).1;rcases M with M|M
  ·refine (congrArg (λb=>bif b then _ else _) (decide_eq_true (show I.2.2.2.2.2.2.2.2.2.2.1.1<0 by have:(aa.probe I).1=I.2.2.2.2.2.2.2.2.2.2.1.1:=rfl;omega))).trans ?_;refine (congrArg (λo=>BR o _) (vm K I u.x.say z X)).trans ?_;simp only[BQ];rw[show ((aa.probe I).1==-1)=true by simpa using M]at r y ⊢;simp only[cond_true]at r y ⊢;rw[szw _ _ _ (by omega) (by omega)];simp only[cond_true];refine (congrArg (λo=>BR o _) r).trans ?_;simp only[BQ];rw[szw _ _ _ (by omega) (by rw[CA];omega)];rfl
  ·refine (congrArg (λb=>bif b then _ else _) (decide_eq_false (show ¬ I.2.2.2.2.2.2.2.2.2.2.1.1<0 by have:(aa.probe I).1=I.2.2.2.2.2.2.2.2.2.2.1.1:=rfl;omega))).trans ?_;rw[show ((aa.probe I).1==-1)=false by simp;omega]at r y ⊢;simp only[cond_false]at r y ⊢;refine (congrArg (λo=>BR o _) r).trans ?_;simp only[BQ,Cl];rw[szw _ _ _ (by omega) (by omega)];rfl
theorem tJ (K:Nat)(l:List af)(f:af)(M:l.length<=1048576)(J:1048577<K):Ret (Q81.f K (l,f,())) (f∈l):=by
 have:=ct (step:=λrec a=>Q81.s0 K (l,f,()) rec a) l.length (λi=>(i:Int)) (λj=>∃ h:j<l.length,l[j]=f) (rb false) (λ_=>rb true) ?_ ?_ l.length K 0 (by omega) (by omega)
 ·rcases this with ⟨y,r⟩|⟨j,_,_,⟨H,z⟩,_,r⟩
  ·refine⟨false,r,?_⟩;refine⟨λh=>absurd h (by decide),λI=>?_⟩;obtain⟨i,u,e⟩:=B8 I;exact absurd ⟨u,e⟩ (y i (CC _) u)
  ·exact⟨true,r,λ_=>z ▸ BZ H,λ_=>rfl⟩
 ·intro rec i u;simp only[Q81.s0];rw[bi (by omega:(i:Int)<(BT l:Int)),ag u,ar i (by omega)];simp only[cond_true,BQ];rw[hH];by_cases h:l[i]=f
  ·rw[decide_eq_true h];exact .inr ⟨⟨u,h⟩,rfl⟩
  ·rw[decide_eq_false h];exact .inl ⟨λ⟨_,r⟩=>h r,rfl⟩
 ·intro rec;simp only[Q81.s0,aN];rfl
theorem UpN.nb {n:aa}(h:UpN n):NB n where
 table:=bR h.x.table
 cast:=by have:=clen h.x.say;omega
 doubts:=h.x.say.ld
 by_:=λd y=>by have:=(h.learns.by_ d y).len;omega
 places:=plen h.x.places
 trips:=λp r=>by have:=(h.x.places.1 p r).2.2.2.2.1.2;omega
 others:=olen h.x.others
 facts:=λx u=>bR (h.x.others.1 x u).2.2.2.1
def jt (me:Int)(g:Bool):aa:=(me,false,false,g,0,0,0,0,[],[],(0,0,0,false),[],(0,0,0,0),[],[])
structure el (i:Nat) (n:aa):Prop where
 me:n.1=(i:Int)
 lt:i<8
 up:n.2.1=true->UpN n
 down:n.2.1=false->n=jt n.1 n.2.2.2.1
theorem el.nb {i:Nat}{n:aa}(h:el i n):NB n:=by
 cases r:n.2.1 with
 |true=>exact (h.up r).nb
 |false =>
  rw[h.down r];exact⟨by simp[jt,aa.table],by simp[jt,aa.cast],by simp[jt,aa.doubts],by simp[jt,aa.doubts],by simp[jt,aa.places],by simp[jt,aa.places],by simp[jt,aa.others],by simp[jt,aa.others]⟩
theorem el.short {i:Nat}{n:aa}(h:el i n):(aa.table n).length<=4:=by
 cases r:n.2.1 with
 |true=>exact uF (h.up r).x.table (h.up r).x.site
 |false=>rw[h.down r];exact CC _
theorem el.of {i:Nat}{n m:aa}(h:el i n)(r:UpN m)(e:m.1=n.1):el i m:=⟨e.trans h.me,h.lt,λ_=>r,λu=>by rw[r.up]at u;cases u⟩
def fX (l:List lG):Prop:=l.length<=60/\∀ f∈l,InP f.1 0 7/\f.2.1.size<=2000
structure WI (w:bS) (c:Nat):Prop where
 len:w.1.length=8
 node:∀ (i:Nat) (h:i<w.1.length),el i w.1[i]
 radio:fX w.2.1
 sides:w.2.2.1.length=8
 born:w.2.2.2.length<=c
theorem WI.mono {w:bS}{c d:Nat}(h:WI w c)(r:c<=d):WI w d:=⟨h.len,h.node,h.radio,h.sides,B3 h.born r⟩
theorem WI.put {w:bS}{c:Nat}(h:WI w c){i:Nat}{n:aa}(u:el i n){rd:List lG}(y:fX rd){b:List af}{d:Nat}(r:b.length<=d):WI (w.1.set i n,rd,w.2.2.1,b) d:=by
 refine⟨by rw[B7];exact h.len,λj z=>?_,y,h.sides,r⟩;show el j ((w.1.set i n)[j]'z);rw[List.getElem_set];split
 ·rename_i e;exact e ▸ u
 ·exact h.node j _
theorem xS (K:Nat)(w:bS)(J:Int)(u:List ah)(hs:w.2.2.1.length=8)(z:InP J 0 7)(O:∀ x∈u,ic x)(hr:fX w.2.1)(hl:u.length<=1000)(hK:1048577<K) :
  Tot (Q78.f K (w,J,u,())) λr=>∃ rd,fX rd/\r.1.1=(w.1,rd,w.2.2):=by
 simp only[Q78.f,Q78.pre];obtain⟨f0,f1⟩:=z;refine Tot.iter (step:=λrec a=>Q78.s0 K (w,J,u,()) rec a) (λa=>0<=a.1/\a.1<=u.length/\fX a.2) (λa=>u.length-a.1.toNat) ?_ K _ (by show u.length-BV 0<K;omega) ⟨by show (0:Int)<=0;omega,by show (0:Int)<=_;omega,hr⟩;rintro rec ⟨i,rd⟩ ⟨I,h1,H⟩ ih;simp only at I h1 H ih ⊢;simp only[Q78.s0];refine Tot.cnd (λh=>?_) λ_=>Tot.ret ⟨rd,H,rfl⟩
 have h:=of_decide_eq_true h;rw[aJ (n:=i+1) (by omega) (by omega)];have M:∀ y,fX y->Tot (rec (i+1,y)) λr=>∃ rd,fX rd/\r.1.1=(w.1,rd,w.2.2):=λy X=>ih _ ⟨by show 0<=i+1;omega,by show i+1<=_;omega,X⟩ (by show u.length-BV (i+1)<u.length-BV i;omega)
 refine Tot.cnd (λh3=>?_) λ_=>M rd H
 have h3:=of_decide_eq_true h3;refine Tot.ix f0 (by omega) λ_ _ _=>Tot.ix I h λy2 Y _=>?_
 obtain⟨⟨t0,t1⟩,_⟩:=O y2 Y;refine Tot.ix t0 (by omega) λ_ _ _=>Tot.cnd (λ_=>Tot.fit (Tot.ix I h λy4 Z _=>Tot.ix I h λy5 R _=>Tot.bind (oE K y5 (O y5 R).2 hK) λv hv=>Tot.fit (M _ ⟨?_,λf z=>?_⟩) (by omega) ?_) (by omega) ?_) λ_=>M rd H
 ·simp;omega
 ·rcases BX.1 z with z|z
  ·exact H.2 f (by simpa using z)
  ·rw[BU.1 z];exact⟨(O y4 Z).1,by show v.1.1.size<=2000;have:=hv.1;omega⟩
 ·simp;omega
 ·simp;omega
theorem Tot.ins {α:Type}{l:List α}{x:α}{a:Int}{c:Nat}{Q:(List α×Unit)×Unit->Prop}(u:0<=a)(H:a<=l.length)(z:l.length<=1048576)(y:c<=64)(k:∀ r:List α,r.length=l.length+1->Q ((r,()),())) :
  Tot (bif decide ((0:Int)<=0)&&decide (0<=a)&&decide (a<=(BT l:Int))&&true then (bif decide ((BT ([]:List α)+BT ((l.take (BV a)).drop (BV 0)))*c<=an) then (bif decide ((BT ([]++((l.take (BV a)).drop (BV 0)))+BT ([x]))*c<=an) then (bif decide (0<=a)&&decide (a<=(BT l:Int))&&decide ((BT l:Int)<=(BT l:Int))&&true then (bif decide ((BT (([]++((l.take (BV a)).drop (BV 0)))++([x]))+BT ((l.take (BV (BT l:Int))).drop (BV a)))*c<=an) then (some (((([]++((l.take (BV a)).drop (BV 0)))++([x]))++((l.take (BV (BT l:Int))).drop (BV a)),()),())) else none) else none) else none) else none) else none) Q:=by
 obtain⟨m,rfl⟩:=CD u;refine Tot.must (by simp;omega) (Tot.fit (Tot.fit (Tot.must (by simp;omega) (Tot.fit (Tot.ret (k _ ?_)) (by omega) ?_)) (by omega) ?_) (by omega) ?_) <;>
 simp only[BW,CP,CH,CF,CA,CK,CT,Cj,CV] <;> omega
theorem ze (K:Nat)(f g:af):Tot (Q79.f K (f,g,())) λ_=>True:=by
 simp only[Q79.f];exact Tot.cnd (λ_=>Tot.ret trivial) λ_=>Tot.bind (sY K g f).tot λ_ _=>Tot.ret trivial
theorem xT (K:Nat)(l:List af)(f:af)(J:l.length<=1048576)(R:1048577<K):Tot (Q80.f K (l,f,())) λr=>r.1.1.length<=l.length+1:=by
 simp only[Q80.f,Q80.pre];refine Tot.iter (A:=Int) (step:=λrec a=>Q80.s0 K (l,f,()) rec a) (λa=>0<=a/\a<=l.length) (λa=>l.length-a.toNat) ?_ K _ (by show l.length-BV 0<K;omega) ⟨by show (0:Int)<=0;omega,by show (0:Int)<=_;omega⟩;rintro rec i ⟨H,z⟩ M;simp only[Q80.s0];have u:=λ (z:i<=l.length)=>Tot.ins (x:=f) (c:=32) (Q:=λr=>r.1.1.length<=l.length+1) H z J (by omega) λr O=>by show r.length<=_;omega
 have y:l.length<=l.length+1:=CY _;refine Tot.cnd (λh=>?_) λ_=>Tot.cnd (λh=>Tot.ix H (of_decide_eq_true h) λ_ _ _=>Tot.cnd (λ_=>Tot.ret y) λ_=>u z) λ_=>u z
 have h:i<(l.length:Int):=of_decide_eq_true h;rw[aJ (n:=i+1) (by omega) (by omega)];refine Tot.ix H h λI _ _=>Tot.bind (ze K I f) λ_ _=>Tot.cnd (λ_=>M (i+1) ⟨by show 0<=i+1;omega,by show i+1<=(l.length:Int);omega⟩ (by show l.length-BV (i+1)<l.length-BV i;omega)) λ_=>Tot.cnd (λ_=>Tot.ix H h λ_ _ _=>Tot.cnd (λ_=>Tot.ret y) λ_=>u z) λ_=>u z
theorem zO (K:Nat)(w:bS)(z y u:List af)(Y:z.length<=1048576)(h2:y.length<=1048576)(h3:u.length<=100)(hb:w.2.2.2.length<=1000000)(J:1048577<K) :
  Tot (Q82.f K (w,z,y,u,())) λr=>∃ b,b.length<=w.2.2.2.length+u.length/\r.1.1=(w.1,w.2.1,w.2.2.1,b):=by
 simp only[Q82.f,Q82.pre];refine Tot.iter (step:=λrec a=>Q82.s0 K (w,z,y,u,()) rec a) (λa=>0<=a.1/\a.1<=u.length/\(a.2.length:Int)<=w.2.2.2.length+a.1) (λa=>u.length-a.1.toNat) ?_ K _ (by show u.length-BV 0<K;omega) ⟨by show (0:Int)<=0;omega,by show (0:Int)<=_;omega,by show (w.2.2.2.length:Int)<=w.2.2.2.length+0;omega⟩;rintro rec ⟨i,b⟩ ⟨H,X,R⟩ O;simp only at H X R O ⊢;simp only[Q82.s0];refine Tot.cnd (λh=>?_) λ_=>Tot.ret ⟨b,by omega,rfl⟩
 have h:=of_decide_eq_true h;rw[aJ (n:=i+1) (by omega) (by omega)];have M:∀ I:List af,I.length<=b.length+1->Tot (rec (i+1,I)) λr=>∃ b,b.length<=w.2.2.2.length+u.length/\r.1.1=(w.1,w.2.1,w.2.2.1,b):=λI a0=>O _ ⟨by show 0<=i+1;omega,by show i+1<=_;omega,by show (I.length:Int)<=_+(i+1);omega⟩ (by show u.length-BV (i+1)<u.length-BV i;omega)
 refine Tot.ix H h λy1 _ _=>Tot.bind (tJ K z y1 Y J).tot λ_ _=>Tot.cnd (λ_=>?_) λ_=>M b (CY _)
 refine Tot.ix H h λZ _ _=>Tot.bind (tJ K y Z h2 J).tot λ_ _=>Tot.cnd (λ_=>?_) λ_=>M b (CY _)
 exact Tot.ix H h λy5 _ _=>Tot.bind (xT K b y5 (by omega) J) λv hv=>M v.1.1 hv
structure zP (w:bS) (i:Nat) (n:aa) (ws:List ah) (heard:List af) (c:Nat):Prop where
 wi:WI w c
 lt:i<8
 n:el i n
 sent:∀ x∈ws,ic x
 wl:ws.length<=1000
 hl:heard.length<=1048576
 c:c<=1000000
theorem set_t (K:Nat)(w:bS)(i:Nat)(n:aa)(H:List ah)(u:List af)(c:Nat)(h:zP w i n H u c)(I:1048577<K):Tot (Q83.f K ((w,i),n,H,u,())) λr=>WI r.1.1 (c+4):=by
 simp only[Q83.f];have z:i<w.1.length:=by rw[h.wi.len];exact h.lt
 have M:=h.c;have O:=h.wi.born;have J:=h.n.short;rw[h.n.me];refine Tot.vl (ag z) (Tot.vl (by rw[BW];exact ag z) (Tot.vl (ag z) (Tot.vl (by rw[BW];exact ag z) ?_)));refine Tot.must (by simp) ?_;rw[BW];refine Tot.bind (zO K (w.1.set i n,w.2) (aa.table w.1[i]) u (aa.table n) (h.wi.node i z).nb.table h.hl (by omega) (by show w.2.2.2.length<=_;omega) I) ?_;rintro⟨⟨v,⟨⟩⟩,⟨⟩⟩ ⟨b,y,rfl⟩;refine Tot.bind (xS K (w.1.set i n,w.2.1,w.2.2.1,b) (i:Int) H h.wi.sides ⟨by omega,by have:=h.lt;omega⟩ h.sent h.wi.radio h.wl I) ?_;rintro⟨⟨v,⟨⟩⟩,⟨⟩⟩ ⟨rd,hr,rfl⟩;have y:b.length<=w.2.2.2.length+(aa.table n).length:=y;exact Tot.ret (h.wi.put h.n hr (by omega))
theorem Bv (K:Nat)(w:bS)(i:Nat)(n:aa)(H:List ah)(u:List af)(c:Nat)(h:zP w i n H u c)(I:1048577<K):Tot (Q86.f K (w,n,H,u,())) λr=>WI r.1.1 (c+4):=by
 simp only[Q86.f];have z:i<w.1.length:=by rw[h.wi.len];exact h.lt
 have M:=h.c;have O:=h.wi.born;have J:=h.n.short;rw[h.n.me];refine Tot.vl (ag z) (Tot.vl (by rw[BW];exact ag z) (Tot.vl (ag z) (Tot.vl (by rw[BW];exact ag z) ?_)));rw[BW];refine Tot.bind (zO K (w.1.set i n,w.2) (aa.table w.1[i]) u (aa.table n) (h.wi.node i z).nb.table h.hl (by omega) (by show w.2.2.2.length<=_;omega) I) ?_;rintro⟨⟨v,⟨⟩⟩,⟨⟩⟩ ⟨b,y,rfl⟩;refine Tot.bind (xS K (w.1.set i n,w.2.1,w.2.2.1,b) (i:Int) H h.wi.sides ⟨by omega,by have:=h.lt;omega⟩ h.sent h.wi.radio h.wl I) ?_;rintro⟨⟨v,⟨⟩⟩,⟨⟩⟩ ⟨rd,hr,rfl⟩;have y:b.length<=w.2.2.2.length+(aa.table n).length:=y;exact Tot.ret (h.wi.put h.n hr (by omega))
theorem rG (K:Nat)(l:List lG)(at_:Int)(z:0<=at_)(I:at_<l.length)(y:fX l):Tot (Q77.f K (l,at_,())) λr=>fX r.1.1:=by
 have H:=y.1;obtain⟨m,rfl⟩:=CD z;simp only[Q77.f];rw[ar m (by omega)];refine Tot.must (by simp;omega) (Tot.fit (Tot.must (by simp;omega) (Tot.fit (Tot.ret ⟨?_,λf u=>y.2 f ?_⟩) (by omega) ?_)) (by omega) ?_)
 ·simp only[BW,CP,CH,CF,CA,CK,CT];omega
 ·simp only[BW,CP,CH,CF,CR]at u;rcases BX.1 u with u|u
  ·exact CJ u
  ·exact List.mem_of_mem_drop u
 ·simp only[BW,CP,CH,CF,CA,CK,CT];omega
 ·simp only[BW,CP,CH,CF,CK,CV];omega
theorem rH (K:Nat)(w:bS)(c:Nat)(h:WI w c)(hc:c<=1000000)(to:Int)(t0:0<=to)(t1:to<=7)(x:ah)(X:cZ x)(H:1048577<K){G:aa->aa->Option ((bS×Unit)×Unit)}
  (Y:∀ y:aa,G y y=(Q59.f K (y,x,())).bind λI=>(Q83.f K ((w,BV to),I.1.1,I.1.2.1,ah.table x,())).bind λR=>some ((R.1.1,()),())) :
  Tot ((idx w.1 to).bind λ_=>(idx w.1 (BV to:Nat)).bind λM=>(idx w.1 (BV to:Nat)).bind λO=>G M O) λr=>WI r.1.1 (c+4):=by
 obtain⟨i,rfl⟩:=CD t0;have J:i<w.1.length:=by rw[h.len];omega
 have z:=h.node i J;refine Tot.vl (ag J) (Tot.vl (by rw[BW];exact ag J) (Tot.vl (by rw[BW];exact ag J) ?_));rw[Y,xQ K w.1[i] x z.up (bR X.2.2.2.2.2.2.2.1) H];simp only[BQ,BW];refine Tot.bind (set_t K w i _ _ _ c ⟨h,z.lt,?_,?_,?_,bR X.2.2.2.2.2.2.2.1,hc⟩ H) λv hv=>Tot.ret hv
 ·cases u:w.1[i].2.1 with
  |true=>exact z.of (nZ (z.up u) H).1 (nZ (z.up u) H).2.1
  |false =>
   rw[show bI K w.1[i] x=(w.1[i],[]) by unfold bI;rw[if_neg λh=>by have:=h.2.1;rw[u]at this;cases this]];exact z
 ·cases u:w.1[i].2.1 with
  |true=>exact λy Z=>(mp (z.up u) H).2 y Z
  |false =>
   rw[show bI K w.1[i] x=(w.1[i],[]) by unfold bI;rw[if_neg λh=>by have:=h.2.1;rw[u]at this;cases this]];simp
 ·cases u:w.1[i].2.1 with
  |true=>have:=(mp (w:=x) (z.up u) H).1;omega
  |false =>
   rw[show bI K w.1[i] x=(w.1[i],[]) by unfold bI;rw[if_neg λh=>by have:=h.2.1;rw[u]at this;cases this]];simp
theorem Ax (K:Nat)(w:bS)(c:Nat)(h:WI w c)(hc:c<=1000000)(at_:Int)(keep:Bool)(h0:0<=at_)(h1:at_<w.2.1.length)(X:1048577<K):Tot (Q84.f K (w,at_,keep,())) λr=>WI r.1.1 (c+4):=by
 simp only[Q84.f,zcp8];refine Tot.ix2 h0 h1 λf hf _=>?_
 obtain⟨⟨t0,t1⟩,a0⟩:=h.radio.2 f hf;have hs:=h.sides;refine Tot.cnd (λ_=>Tot.bind (rG K w.2.1 at_ h0 h1 h.radio) ?_) λ_=>Tot.bind (mn K f.2.1 (by omega) X) ?_
 ·rintro⟨⟨rd,⟨⟩⟩,⟨⟩⟩ hr;have J:WI (w.1,rd,w.2.2) (c+4):=⟨h.len,h.node,hr,h.sides,B3 h.born (by omega)⟩;refine Tot.bind (mn K f.2.1 (by omega) X) ?_;rintro⟨⟨(x:ah),ok,⟨⟩⟩,⟨⟩⟩ H;refine Tot.cnd (λ_=>Tot.ret J) λZ=>?_
  have H:cZ x:=H (by simpa using Z);obtain⟨M,Y⟩:=H.2.2.1;have I:x.2.2.1<(w.2.2.1.length:Int):=by rw[hs];omega
  refine Tot.ix2 M I λ_ _ _=>Tot.ix2 t0 (by omega) λ_ _ _=>Tot.cnd (λ_=>Tot.ret J) λ_=>Tot.cnd (λ_=>Tot.ret J) λ_=>?_
  exact rH K (w.1,rd,w.2.2) c ⟨h.len,h.node,hr,h.sides,h.born⟩ hc f.1 t0 t1 x H X (G:=λu O=>(Q59.f K ((u.1,(u.2.1,(u.2.2.1,(u.2.2.2.1,(u.2.2.2.2.1,(u.2.2.2.2.2.1,(u.2.2.2.2.2.2.1,(u.2.2.2.2.2.2.2.1,(u.2.2.2.2.2.2.2.2.1,(u.2.2.2.2.2.2.2.2.2.1,(u.2.2.2.2.2.2.2.2.2.2.1,(O.2.2.2.2.2.2.2.2.2.2.2.1,u.2.2.2.2.2.2.2.2.2.2.2.2)))))))))))),x,())).bind λz=>(Q83.f K (((w.1,rd,w.2.2),BV f.1),z.1.1,z.1.2.1,ah.table x,())).bind λR=>some ((R.1.1,()),())) λy=>rfl
 ·rintro⟨⟨(x:ah),ok,⟨⟩⟩,⟨⟩⟩ H;have J:WI w (c+4):=h.mono (by omega);refine Tot.cnd (λ_=>Tot.ret J) λZ=>?_
  have H:cZ x:=H (by simpa using Z);obtain⟨M,Y⟩:=H.2.2.1;have I:x.2.2.1<(w.2.2.1.length:Int):=by rw[hs];omega
  refine Tot.ix2 M I λ_ _ _=>Tot.ix2 t0 (by omega) λ_ _ _=>Tot.cnd (λ_=>Tot.ret J) λ_=>Tot.cnd (λ_=>Tot.ret J) λ_=>?_
  exact rH K w c h hc f.1 t0 t1 x H X (G:=λu O=>(Q59.f K ((u.1,(u.2.1,(u.2.2.1,(u.2.2.2.1,(u.2.2.2.2.1,(u.2.2.2.2.2.1,(u.2.2.2.2.2.2.1,(u.2.2.2.2.2.2.2.1,(u.2.2.2.2.2.2.2.2.1,(u.2.2.2.2.2.2.2.2.2.1,(u.2.2.2.2.2.2.2.2.2.2.1,(O.2.2.2.2.2.2.2.2.2.2.2.1,u.2.2.2.2.2.2.2.2.2.2.2.2)))))))))))),x,())).bind λz=>(Q83.f K (((w.1,w.2),BV f.1),z.1.1,z.1.2.1,ah.table x,())).bind λR=>some ((R.1.1,()),())) λy=>rfl
theorem Ay (K:Nat)(w:bS)(c:Nat)(h:WI w c)(at_ u:Int)(M:0<=at_)(O:at_<w.2.1.length):Tot (Q85.f K (w,at_,u,())) λr=>WI r.1.1 c:=by
 simp only[Q85.f];refine Tot.ix2 M O λf Z _=>?_
 obtain⟨I,J⟩:=h.radio.2 f Z;refine Tot.cnd (λ_=>Tot.ret h) λ_=>Tot.cnd (λ_=>Tot.ret h) λY=>?_
 have y:¬ (f.2.1.size:Int)=0:=by simpa using Y
 obtain⟨z,b1⟩:=lH (a:=u) (m:=4095) (by omega);have z:0<=bB .i64 u 4095:=z;have R:0<=CQ (bB .i64 u 4095) (f.2.1.size:Int):=Cm _ z;have X:CQ (bB .i64 u 4095) (f.2.1.size:Int)<((ez f.2.1).length:Int):=by rw[rB];exact Cc _ (by omega)
 refine Tot.not (decide_eq_false y) (Tot.ix2 R X λ_ _ _=>Tot.ix2 R X λ_ _ _=>Tot.ix2 M O λ_ _ _=>Tot.ret ⟨h.len,h.node,⟨?_,λg H=>?_⟩,h.sides,h.born⟩)
 ·show (w.2.1.set _ _).length<=60;rw[B7];exact h.radio.1
 ·rcases List.mem_or_eq_of_mem_set H with H|rfl
  ·exact h.radio.2 g H
  ·refine⟨I,?_⟩;show (gN _).size<=2000;rw[iX,B7,rB];exact J
def mr (i:Int)(g:Bool):aa:=(i,true,false,g,0,0,0,0,[(i,0,1,g)],[],(-1,0,0,false),[],(0,0,0,1500),[],[])
theorem Az {i:Int}{g:Bool}(h:InP i 0 7):UpN (mr i g):=by
 refine⟨⟨h,B9 _,⟨λf r=>?_,List.pairwise_singleton _ _⟩,λf r=>?_,⟨λx y=>(nomatch y),List.Pairwise.nil⟩,λx y=>(nomatch y),?_,⟨λd z=>(nomatch z),List.Pairwise.nil,rfl⟩,⟨?_,?_,?_,?_⟩,⟨λp u=>(nomatch u),List.Pairwise.nil⟩,⟨λp u=>(nomatch u),List.Pairwise.nil⟩⟩,?_,?_,⟨?_,?_⟩,?_,rfl⟩
 ·rw[BU.1 r];exact⟨h,⟨by show (0:Int)<=0;omega,by show (0:Int)<=999;omega⟩,by show (1:Int)<=1;omega,by show (1:Int)<=4;omega⟩
 ·rw[BU.1 r];rfl
 ·unfold db;rw[if_pos (show (aa.probe (mr i g)).1=-1 from rfl)];rfl
 ·exact⟨by show (-100000:Int)<=0;omega,by show (0:Int)<=100000;omega⟩
 ·exact⟨by show (-100000:Int)<=0;omega,by show (0:Int)<=100000;omega⟩
 ·exact⟨by show (0:Int)<=0;omega,by show (0:Int)<=100000;omega⟩
 ·exact⟨by show (1:Int)<=1500;omega,by show (1500:Int)<=1500;omega⟩
 ·exact BU.2 rfl
 ·show (0:Int)<=999999;omega
 ·exact⟨by show (0:Int)<=0;omega,by show (0:Int)<=999999;omega⟩
 ·exact⟨by show (0:Int)<=0;omega,by show (0:Int)<=8;omega⟩
 ·exact⟨by show (0:Int)<=0;omega,by show (0:Int)<=999;omega⟩
theorem rI (K:Nat)(i:Int)(g:Bool)(h:InP i 0 7):Q15.f K (i,g,())=some ((mr i g,()),()):=by
 simp only[Q15.f];obtain⟨b,e,r⟩:=cI K i 0 7;rw[e,r.2 h];rfl
theorem el.new (i:Nat)(g:Bool)(h:i<8):el i (mr (i:Int) g):=⟨rfl,h,λ_=>Az ⟨by omega,by omega⟩,λr=>by cases r⟩
theorem Bw (K:Nat)(w:bS)(c:Nat)(h:WI w c)(J:c<=1000000)(u:Int)(y:InP u 0 7)(H:1048577<K):Tot (Q88.f K (w,u,())) λr=>WI r.1.1 (c+4):=by
 have M:=h.born;have I:u.toNat<8:=by obtain⟨a,b⟩:=y;omega
 have z:=h.len;simp only[Q88.f,Q16.f,BQ];rw[rI K u _ y];simp only[BQ];refine Tot.ix2 y.1 (by have:=y.2;omega) λ_ _ _=>?_
 refine Tot.vl (show idx (mr u (decide (CQ u 4<3))).2.2.2.2.2.2.2.2.1 0=some (u,0,1,decide (CQ u 4<3)) from rfl) (Tot.bind (xT K w.2.2.2 _ (by omega) H) λv O=>Tot.ret (h.put ?_ h.radio (by omega)));have:=el.new u.toNat (decide (CQ u 4<3)) I
 rwa [Ca y.1]at this
theorem AA {n:aa}(h:UpN n):(lE n).length<=8/\∀ x∈lE n,ic x:=by
 unfold lE;refine⟨?_,λx u=>?_⟩
 ·rw[CU];exact B3 (CW _ _) (iS h.x.table.2 λf r=>(h.x.table.1 f r).1)
 ·obtain⟨f,r,rfl⟩:=CE.1 u;exact⟨(h.x.table.1 f (CN.1 r).1).1,bR h.x.table⟩
theorem Bx (K:Nat)(w:bS)(c:Nat)(h:WI w c)(hc:c<=1000000)(e:af)(h0:InP e.2.1 0 7)(O:1048577<K):Tot (Q106.f K (w,e,())) λr=>WI r.1.1 (c+4):=by
 have a0:=h.len;have hs:=h.sides;obtain⟨a2,a1,u,keep⟩:=e;obtain⟨e0,e1⟩:=h0;simp only at e0 e1;obtain⟨i,rfl⟩:=CD e0;have Z:i<w.1.length:=by omega
 have J:=h.node i Z;have y:=h.mono (show c<=c+4 by omega);simp only[Q106.f];refine Tot.vl (ag Z) (Tot.vl (by rw[BW];exact ag Z) ?_);generalize w.1[i]=n at J ⊢;refine Tot.cnd (λ_=>?_) λ_=>Tot.cnd (λ_=>?_) λ_=>Tot.cnd (λ_=>?_) λ_=>?_
 ·
  rw[zM];simp only[BQ];exact Tot.ix2 (by omega) (by omega) λ_ _ _=>Tot.ret ⟨y.len,y.node,y.radio,by show (w.2.2.1.set _ _).length=8;rw[B7];exact h.sides,y.born⟩
 ·
  simp only[Q87.f,BQ];refine Tot.ix2 (by omega) (by omega) λ_ _ _=>Tot.ret (y.put (i:=i) (n:=jt n.1 n.2.2.2.1) ?_ y.radio y.born)
  exact⟨J.me,J.lt,λM=>(by cases M),λ_=>rfl⟩
 ·
  exact Tot.cnd (λ_=>Tot.ret y) λ_=>Tot.bind (Bw K w c h hc (i:Int) ⟨by omega,by omega⟩ O) λv H=>Tot.ret H
 ·refine Tot.cnd (λ_=>Tot.ret y) λM=>Tot.cnd (λ_=>Tot.ret y) λX=>?_
  have M:n.2.1=true:=by simpa using M
  have z:=J.up M;have set:=λ (m:aa) (R:List ah) (I:UpN m) (em:m.1=n.1) (Y:∀ x∈R,ic x) (hl:R.length<=1000)=>Bv K w i m R [] c ⟨h,J.lt,J.of I em,Y,hl,CC _,hc⟩ O
  refine Tot.cnd (λ_=>?_) λ_=>Tot.cnd (λ_=>?_) λ_=>Tot.cnd (λ_=>?_) λ_=>Tot.ret y
  ·refine Tot.cnd (λ_=>Tot.ret y) λI=>?_
   have I:ch n<999999:=by have I:¬ n.2.2.2.2.2.1>=999999:=of_decide_eq_false I;show n.2.2.2.2.2.1<999999;omega
   obtain⟨t1,t2,_⟩:=qI z I;obtain⟨w1,w2⟩:=Bt z I u;exact Tot.vl (Bu K n u z X I O) (Tot.bind (set _ _ t1 t2 w2 (B3 w1 (by omega))) λv H=>Tot.ret H)
  ·obtain⟨t1,t2⟩:=yX z X;obtain⟨w1,w2⟩:=AA t1;exact Tot.vl (Ag K n z.nb z.ok M X O) (Tot.bind (set _ _ t1 t2 w2 (B3 w1 (by omega))) λv H=>Tot.ret H)
  ·refine Tot.bind (cI K u 0 7).tot λv H=>Tot.cnd (λ_=>Tot.ret y) λh1=>Tot.cnd (λ_=>Tot.ret y) λ_=>?_
   have hd:InP u 0 7:=H.1 (by simpa using h1);rw[cX K,cX K];simp only[BQ];refine Tot.cnd (λ_=>Tot.ret y) λ_=>?_
   refine Tot.vl (nW K n 4 u (bR z.x.table)) (Tot.bind (set n _ z rfl (λx hx=>?_) (by simp)) λv H=>Tot.ret H);rw[BU.1 hx];exact⟨hd,bR z.x.table⟩
theorem do_t (K:Nat)(w:bS)(c:Nat)(h:WI w c)(R:c<=1000000)(e:af)(M:1048577<K):Tot (Q108.f K (w,e,())) λr=>WI r.1.1 (c+4):=by
 have z:=h.mono (show c<=c+4 by omega);have hr:=h.radio.1;simp only[Q108.f];rw[aJ (n:=(BT w.2.1:Int)-1) (by omega) (by omega)];have u:Tot ((Q13.f K (e.2.1,0,(BT w.2.1:Int)-1,())).bind λY=>bif !Y.1.1 then (some ((w,false,()),())) else (bif e.1==2 then ((Q84.f K (w,e.2.1,e.2.2.2,())).bind λX=>some ((X.1.1,true,()),())) else (bif e.1==4 then ((Q85.f K (w,e.2.1,e.2.2.1,())).bind λO=>some ((O.1.1,O.1.2.1,()),())) else ((Q77.f K (w.2.1,e.2.1,())).bind λZ=>some (((w.1,(Z.1.1,w.2.2)),true,()),()))))) λr=>WI r.1.1 (c+4):=by
  refine Tot.bind (cI K _ _ _).tot λv y=>Tot.cnd (λ_=>Tot.ret z) λI=>?_
  obtain⟨J,H⟩:InP e.2.1 0 ((BT w.2.1:Int)-1):=y.1 (by simpa using I);have H:e.2.1<(w.2.1.length:Int):=by omega
  refine Tot.cnd (λ_=>Tot.bind (Ax K w c h R e.2.1 e.2.2.2 J H M) λv y=>Tot.ret y) λ_=>Tot.cnd (λ_=>Tot.bind (Ay K w c h e.2.1 e.2.2.1 J H) λv y=>Tot.ret (WI.mono y (by omega))) λ_=>?_
  exact Tot.bind (rG K w.2.1 e.2.1 J H h.radio) λv y=>Tot.ret ⟨z.len,z.node,y,z.sides,z.born⟩
 refine Tot.cnd (λ_=>u) λ_=>Tot.cnd (λ_=>u) λ_=>Tot.cnd (λ_=>u) λ_=>?_
 exact Tot.bind (cI K _ _ _).tot λv y=>Tot.cnd (λ_=>Tot.ret z) λI=>Tot.bind (Bx K w c h R e (y.1 (by simpa using I)) M) λv y=>Tot.ret y
theorem zf (K:Nat)(w:bS)(O:w.1.length<=1048576)(y:∀ n∈w.1,NB n)(X:w.2.1.length<=1048576)(Y:w.2.2.1.length<=1048576)(R:w.2.2.2.length<=1048576)(z:1048577<K):Q110.f K (w,())=some ((w,()),()):=by
 simp only[Q110.f,Q110.pre];rw[szb _ _ _ (by omega) (by show (BT ([]:List lG))+w.2.1.length<=_;simp;omega)];simp only[cond_true];rw[szb _ _ _ (by omega) (by show (BT ([]:List Int))+w.2.2.1.length<=_;simp;omega)];simp only[cond_true];rw[szb _ _ _ (by omega) (by show (BT ([]:List af))+w.2.2.2.length<=_;simp;omega)];simp only[cond_true];have:∀ (d i k:Nat),i+d=w.1.length->d<k->ae (λrec a=>Q110.s0 K (w,()) rec a) k ((i:Int),w.1.take i)=some ((w,()),()):=by
  intro d;induction d with
  |zero =>
   intro i k M H;obtain⟨k,rfl⟩:∃ u,k=u+1:=⟨k-1,by omega⟩;have:i=w.1.length:=by omega
   subst this;show Q110.s0 K (w,()) _ _=_;simp only[Q110.s0,aN,CR];rfl
  |succ d I =>
   intro i k M H;obtain⟨k,rfl⟩:∃ u,k=u+1:=⟨k-1,by omega⟩;have r:i<w.1.length:=by omega
   show Q110.s0 K (w,()) _ _=_;simp only[Q110.s0];rw[bi (by omega:(i:Int)<(BT w.1:Int)),ag r,ar i (by omega)];simp only[cond_true,BQ];refine (congrArg (λo=>BR o _) (mW K w.1[i] (y _ (BZ r)) z)).trans ?_;simp only[BQ];have J:decide (((w.1.take i).length+[w.1[i]].length)*232<=an)=true:=decide_eq_true (by
    rw[CK];simp only[Cj,CV,an];omega)
   refine (congrArg (λb=>bif b then _ else _) J).trans ?_;have e:w.1.take i++[w.1[i]]=w.1.take (i+1):=by rw[List.take_add_one,CM r];rfl
   rw[<- I (i+1) k (by omega) (by omega),<- e];rfl
 exact this w.1.length 0 K (by omega) (by omega)
theorem WI.copy {w:bS}{c:Nat}(h:WI w c)(z:c<=1000000)(K:Nat)(u:1048577<K):Q110.f K (w,())=some ((w,()),()):=by
 have H:=h.len;have I:=h.radio.1;have J:=h.sides;have M:=h.born;refine zf K w (by omega) (λn r=>?_) (by omega) (by omega) (by omega) u;obtain⟨i,y,rfl⟩:=B8 r;exact (h.node i y).nb
theorem By (K:Nat)(w:bS)(c:Nat)(y:List af)(h:WI w c)(Z:y.length<=1000)(hc:c<=900000)(M:1048577<K):Tot (Q111.f K (w,y,())) λr=>WI r.1.1 (c+4*y.length)/\r.2.1=y:=by
 simp only[Q111.f,Q111.pre];refine Tot.iter (step:=λrec a=>Q111.s0 K (w,y,()) rec a) (λa=>0<=a.1/\a.1<=y.length/\WI a.2 (c+4*a.1.toNat)) (λa=>y.length-a.1.toNat) ?_ K _ (by show y.length-BV 0<K;omega) ⟨by show (0:Int)<=0;omega,by show (0:Int)<=_;omega,h⟩;rintro rec ⟨i,v⟩ ⟨J,X,H⟩ R;simp only at J X H R ⊢;simp only[Q111.s0];refine Tot.cnd (λz=>?_) λ_=>Tot.ret ⟨WI.mono H (by omega),rfl⟩
 have z:i<(y.length:Int):=of_decide_eq_true z;rw[aJ (n:=i+1) (by omega) (by omega)];refine Tot.vl (H.copy (by omega) K M) (Tot.ix2 J z λe _ _=>Tot.bind (do_t K v _ H (by omega) e M) ?_);rintro⟨⟨v',ok,⟨⟩⟩,⟨⟩⟩ I;have I:WI v' (c+4*i.toNat+4):=I;have O:∀ u:bS,WI u (c+4*i.toNat+4)->Tot (rec (i+1,u)) λr=>WI r.1.1 (c+4*y.length)/\r.2.1=y:=λu Y=>R (i+1,u) ⟨by show 0<=i+1;omega,by show i+1<=_;omega,Y.mono (by show _<=c+4*(i+1).toNat;omega)⟩ (by show y.length-BV (i+1)<y.length-BV i;omega)
 exact Tot.cnd (λ_=>O v' I) λ_=>O v (H.mono (by omega))
theorem wu (K:Nat)(hK:1048577<K):Tot (Q17.f K ()) λr=>WI r.1.1 8:=by
 simp only[Q17.f,Q17.pre];refine Tot.iter (step:=λrec a=>Q17.s0 K () rec a) (λa=>0<=a.1/\a.1<=8/\a.2.1.length=a.1.toNat/\(∀ (j:Nat) (y:j<a.2.1.length),el j a.2.1[j])/\a.2.2.1.length=a.1.toNat/\a.2.2.2.length=a.1.toNat) (λa=>8-a.1.toNat) ?_ K _ (by show 8-BV 0<K;omega) ⟨by show (0:Int)<=0;omega,by show (0:Int)<=8;omega,rfl,λj y=>(by cases y),rfl,rfl⟩;rintro rec ⟨i,z,O,R⟩ ⟨H,Y,h2,M,Z,h5⟩ X;simp only at H Y h2 M Z h5 X ⊢;simp only[Q17.s0];refine Tot.cnd (λu=>?_) λu=>?_
 ·have u:i<=7:=of_decide_eq_true u;rw[aJ (n:=i+1) (by omega) (by omega)];simp only[Q16.f,BQ];refine Tot.vl (rI K i _ ⟨H,u⟩) (Tot.fit (Tot.fit (Tot.vl (show idx (mr i (decide (CQ i 4<3))).2.2.2.2.2.2.2.2.1 0=some (i,0,1,decide (CQ i 4<3)) from rfl) (Tot.fit (X _ ⟨by show 0<=i+1;omega,by show i+1<=8;omega,?_,λj y=>?_,?_,?_⟩ (by show 8-BV (i+1)<8-BV i;omega)) (by omega) ?_)) (by omega) ?_) (by omega) ?_)
  ·show (z++[mr i _]).length=(i+1).toNat;simp;omega
  ·show el j ((z++[mr i (decide (CQ i 4<3))])[j]'y);rw[List.getElem_append];split
   ·exact M j _
   ·rename_i J;have y:j<(z++[mr i (decide (CQ i 4<3))]).length:=y;have I:j=i.toNat:=by simp at y;omega
    subst I;have:=el.new i.toNat (decide (CQ i 4<3)) (by omega);rw[Ca H]at this;simpa using this
  ·show (O++[0]).length=(i+1).toNat;simp;omega
  ·show (R++[_]).length=(i+1).toNat;simp;omega
  ·simp;omega
  ·simp;omega
  ·simp;omega
 ·have J:=of_decide_eq_false u;refine Tot.ret ⟨?_,M,⟨CC _,λf hf=>(nomatch hf)⟩,?_,?_⟩
  ·show z.length=8;omega
  ·show O.length=8;omega
  ·show R.length<=8;omega
abbrev LtP (v n:Int):Prop:=0<=v/\v<n
def bc (b:List Int)(m:Nat)(s:List Int×Int):Prop:=∃ q:Nat,q<=m/\s=(b,(q:Int))
theorem bc.up {b:List Int}{m:Nat}{s:List Int×Int}(h:bc b m s){m':Nat}(y:m<=m'):bc b m' s:=by obtain⟨q,u,r⟩:=h;exact⟨q,by omega,r⟩
section
variable {K:Nat} {b:List Int} {m:Nat} {s:List Int×Int}
theorem aA (h:fP b)(y:bc b m s)(n:Int)(u:1<=n)(J:m<=99000):Tot (Q12.f K (s,n,())) λr=>LtP r.1.1 n/\bc b (m+1) r.2.1:=by
 obtain⟨q,I,rfl⟩:=y;obtain⟨v,e,H,z⟩:=Ak K b q n h (by omega) u;exact⟨_,e,⟨H,z⟩,q+1,by omega,rfl⟩
theorem Bz (r:List Int)(u:∀ y∈r,0<=y/\y<=255)(I:r.length<=9223372036854775807):∃ z:List Int,fP z/\Q11.f K (r,())=some (((z,(0:Int)),()),()):=by
 simp only[Q11.f];by_cases h:(r.length:Int)>2000
 ·rw[decide_eq_true h,decide_eq_true (by omega:(2000:Int)<=(r.length:Int))];exact⟨(r.take 2000).drop 0,⟨λy H=>u y (CJ (by simpa using H)),by simp;omega⟩,rfl⟩
 ·rw[decide_eq_false h];exact⟨r,⟨u,by omega⟩,rfl⟩
theorem xU (h:fP b)(Y:bc b m s)(u:Int)(h0:0<=u)(h1:u<=1)(hm:m<=98000):Tot (Q116.f K (s,u,())) λr=>(aX r.1.1/\ak r.1.1.1=u)/\bc b (m+5) r.2.1:=by
 simp only[Q116.f];refine Tot.bind (aA h Y 4 (by decide) (by omega)) λH ⟨⟨a1,b1⟩,O⟩=>Tot.bind (aA h O 3 (by decide) (by omega)) λv2 ⟨⟨a2,b2⟩,Z⟩=>Tot.bind (aA h Z 12 (by decide) (by omega)) λv3 ⟨⟨a3,b3⟩,J⟩=>Tot.bind (aA h J 3 (by decide) (by omega)) λv4 ⟨⟨R,M⟩,s4⟩=>Tot.ix2 R M λy z _=>Tot.bind (aA h s4 4 (by decide) (by omega)) λI ⟨⟨a5,b5⟩,X⟩=>?_
 simp only[Q16.f,BQ];have z:InP y 0 999:=by
  simp only[B4,Ck,or_false]at z;rcases z with rfl|rfl|rfl <;> constructor <;> omega
 rw[aJ (n:=u*4) (by omega) (by omega),aJ (n:=u*4+H.1.1) (by omega) (by omega),aJ (n:=1+I.1.1) (by omega) (by omega)];refine Tot.ret ⟨⟨⟨⟨?_,?_⟩,z,?_,?_⟩,?_⟩,X⟩
 ·show (0:Int)<=u*4+H.1.1;omega
 ·show u*4+H.1.1<=7;omega
 ·show (1:Int)<=1+I.1.1;omega
 ·show (1:Int)+I.1.1<=4;omega
 ·show ak (u*4+H.1.1)=u;rw[jh ⟨by omega,by omega⟩];omega
theorem ne (h:fP b)(X:bc b m s)(hm:m<=97000):Tot (Q118.f K (s,())) λr=>bc b (m+8) r.2.1:=by
 simp only[Q118.f];refine Tot.bind (aA h X 2 (by decide) (by omega)) λO ⟨⟨R,b1⟩,J⟩=>Tot.bind (xU h J O.1.1 R (by omega) (by omega)) λf ⟨_,Y⟩=>Tot.bind (aA h Y 12 (by decide) (by omega)) λM ⟨_,H⟩=>?_
 have u:∀ {x y:Int} {G:(Int×Unit)×(List Int×Int)×Unit->Int->Option ((af×Unit)×(List Int×Int)×Unit)},(∀ v z,Tot (G v z) λr=>r.2.1=v.2.1)->Tot ((Q12.f K (M.2.1,2,())).bind λv=>(idx [x,y] v.1.1).bind λ_=>(idx [x,y] (BV v.1.1:Nat)).bind (G v)) λr=>bc b (m+8) r.2.1:=λI=>Tot.bind (aA h H 2 (by decide) (by omega)) λv ⟨⟨a,b⟩,Z⟩=>Tot.ix2 a b λz _ _=>(I v z).mono λr e=>by rw[e];exact Z.up (by omega)
 refine Tot.cnd (λ_=>u λ_ _=>Tot.ret rfl) λ_=>Tot.cnd (λ_=>u λ_ _=>Tot.ret rfl) λ_=>Tot.cnd (λ_=>u λ_ _=>Tot.ret rfl) λ_=>Tot.cnd (λ_=>Tot.ret (H.up (by omega))) λ_=>Tot.ret (H.up (by omega))
theorem xV (t:List af)(f:af):(bj t f).1.length<=t.length+1:=by
 rcases hI t f with e|e
 ·rw[e];omega
 ·rw[e];exact yI
theorem wv {t:List af}{f:af}{z:Int}(h:cd t z)(u:ak f.1=z):cd (bj t f).1 z:=by
 rcases hI t f with e|e <;> rw[e]
 ·exact h
 ·intro g r;rcases aW.1 r with rfl|⟨r,_⟩
  ·exact u
  ·exact h g r
theorem n9 (h:fP b)(hs:bc b m s)(u:Int)(h0:-1<=u)(h1:u<=1)(hm:m<=96000)(hK:1048577<K):Tot (Q117.f K (s,u,())) λr=>(ax r.1.1/\(0<=u->cd r.1.1 u)/\r.1.1.length<=5)/\bc b (m+31) r.2.1:=by
 simp only[Q117.f,Q117.pre];refine Tot.bind (aA h hs 6 (by decide) (by omega)) λv ⟨⟨v0,v1⟩,s1⟩=>?_
 refine Tot.iter (step:=λrec a=>Q117.s0 K (s,u,()) rec a) (λa=>∃ q:Nat,0<=a.2.1/\ax a.1/\(0<=u->cd a.1 u)/\(a.1.length:Int)+a.2.1<=5/\bc b q a.2.2/\q+6*a.2.1.toNat<=m+31) (λa=>a.2.1.toNat) ?_ K _ (by show v.1.1.toNat<K;omega) ⟨m+1,v0,⟨by simp,List.Pairwise.nil⟩,λ_ f hf=>(nomatch hf),by show ((0:Nat):Int)+v.1.1<=5;omega,s1,by show m+1+6*v.1.1.toNat<=m+31;omega⟩;rintro rec ⟨t,n,s2⟩ ⟨q,n0,O,X,hl,I,hq⟩ ih;simp only at n0 O X hl I hq ih ⊢;simp only[Q117.s0];refine Tot.cnd (λhn=>?_) λ_=>Tot.ret ⟨⟨O,X,by show t.length<=5;omega⟩,I.up (by omega)⟩
 have hn:n>0:=of_decide_eq_true hn;rw[aJ (n:=n-1) (by omega) (by omega)];have go:∀ (z:Int) (M:Nat) (J:List Int×Int),0<=z->z<=1->(0<=u->z=u)->bc b M J->M<=q+1->Tot ((Q116.f K (J,z,())).bind λZ=>(Q34.f K (t,Z.1.1,())).bind λy4=>rec (y4.1.1,n-1,Z.2.1.1,Z.2.1.2)) λr=>(ax r.1.1/\(0<=u->cd r.1.1 u)/\r.1.1.length<=5)/\bc b (m+31) r.2.1:=λz M J z0 z1 hz a0 a2=>by
  refine Tot.bind (xU h a0 z z0 z1 (by omega)) λy ⟨⟨hf,Y⟩,a1⟩=>Tot.vl (wc K t y.1.1 (by omega) O.2 hK) (ih (_,_,y.2.1) ⟨M+5,by show 0<=n-1;omega,gz O hf,λR=>wv (X R) (by rw[Y];exact hz R),?_,a1,by show M+5+6*(n-1).toNat<=m+31;omega⟩ (by show (n-1).toNat<n.toNat;omega))
  have:=xV t y.1.1;show ((bj t y.1.1).1.length:Int)+(n-1)<=5;omega
 refine Tot.cnd (λH=>?_) λH=>?_
 ·have H:u<0:=of_decide_eq_true H;exact Tot.bind (aA h I 2 (by decide) (by omega)) λv ⟨⟨a,b⟩,J⟩=>go v.1.1 (q+1) v.2.1 a (by omega) (λR=>by omega) J (CB _)
 ·have H:¬ u<0:=of_decide_eq_false H;exact go u q s2 (by omega) h1 (λ_=>rfl) I (by omega)
theorem qg (h:fP b)(Y:bc b m s)(hm:m<=95000)(O:1048577<K):Tot (Q119.f K (s,())) λr=>r.1.1.length<=6/\bc b (m+42) r.2.1:=by
 simp only[Q119.f];refine Tot.bind (n9 h Y (-1) (by decide) (by decide) (by omega) O) λt ⟨⟨hT,_,hl⟩,J⟩=>?_
 refine Tot.cnd (λI=>?_) λ_=>Tot.ret ⟨by show t.1.1.length<=6;omega,J.up (by omega)⟩
 have I:(t.1.1.length:Int)>0:=of_decide_eq_true I;refine Tot.bind (aA h J 12 (by decide) (by omega)) λv2 ⟨_,M⟩=>Tot.cnd (λ_=>?_) λ_=>Tot.ret ⟨by show t.1.1.length<=6;omega,M.up (by omega)⟩
 refine Tot.bind (aA h M (t.1.1.length:Int) (by omega) (by omega)) λv3 ⟨⟨z,u⟩,R⟩=>Tot.bind (aA h R 3 (by decide) (by omega)) λZ ⟨_,H⟩=>?_
 refine Tot.cnd (λ_=>Tot.bind (ne h H (by omega)) λf X=>Tot.ix2 z u λ_ _ _=>Tot.ret ⟨by show (t.1.1.set _ _).length<=6;rw[B7];omega,X.up (by omega)⟩) λ_=>?_
 refine Tot.cnd (λ_=>Tot.ix2 z u λy _ _=>Tot.fit (Tot.ret ⟨by show (t.1.1++[y]).length<=6;simp;omega,H.up (by omega)⟩) (by omega) (by simp;omega)) λ_=>Tot.ix2 z u λy _ _=>Tot.ret ⟨by show (t.1.1.set _ _).length<=6;rw[B7];omega,H.up (by omega)⟩
theorem AB (h:fP b)(hs:bc b m s)(u:Int)(R:-1<=u)(Y:u<=1)(hm:m<=95000)(Z:1048577<K):Tot (Q120.f K (s,u,())) λr=>r.1.1.length<=5/\bc b (m+36) r.2.1:=by
 simp only[Q120.f,Q120.pre];refine Tot.bind (n9 h hs u R Y (by omega) Z) λt ⟨⟨hT,_,hl⟩,s1⟩=>?_
 refine Tot.iter (step:=λrec a=>Q120.s0 K (s,u,()) rec a) (λa=>a.2.1=t.1.1/\0<=a.2.2.1/\a.2.2.1<=t.1.1.length/\(a.1.length:Int)=a.2.2.1/\bc b (m+31+a.2.2.1.toNat) a.2.2.2) (λa=>t.1.1.length-a.2.2.1.toNat) ?_ K _ (by show t.1.1.length-BV 0<K;omega) ⟨rfl,by show (0:Int)<=0;omega,by show (0:Int)<=_;omega,rfl,s1⟩;rintro rec ⟨H,t',i,s2⟩ ⟨e,M,X,I,z⟩ O;simp only at e M X I z O ⊢;subst e;simp only[Q120.s0];refine Tot.cnd (λJ=>?_) λ_=>Tot.ret ⟨by show H.length<=5;omega,z.up (by omega)⟩
 have J:i<(t.1.1.length:Int):=of_decide_eq_true J;rw[aJ (n:=i+1) (by omega) (by omega)];refine Tot.ix2 M J λy _ _=>Tot.bind (aA h z 4 (by decide) (by omega)) λv ⟨_,s3⟩=>Tot.fit (O (_,_,_,v.2.1) ⟨rfl,by show 0<=i+1;omega,by show i+1<=_;omega,?_,s3.up (by show _<=m+31+(i+1).toNat;omega)⟩ (by show t.1.1.length-(i+1).toNat<t.1.1.length-i.toNat;omega)) (by omega) (by simp;omega)
 show ((H++[_]).length:Int)=i+1;simp;omega
theorem ww (h:fP b)(Z:bc b m s)(hm:m<=94000)(R:1048577<K):Tot (Q121.f K (s,())) λr=>r.1.1.length<=6/\bc b (m+50) r.2.1:=by
 simp only[Q121.f];refine Tot.bind (AB h Z (-1) (by decide) (by decide) (by omega) R) λt ⟨hl,M⟩=>?_
 refine Tot.cnd (λJ=>?_) λ_=>Tot.ret ⟨by show t.1.1.length<=6;omega,M.up (by omega)⟩
 have J:(t.1.1.length:Int)>0:=of_decide_eq_true J;refine Tot.bind (aA h M 10 (by decide) (by omega)) λv2 ⟨_,O⟩=>Tot.cnd (λ_=>?_) λ_=>Tot.ret ⟨by show t.1.1.length<=6;omega,O.up (by omega)⟩
 refine Tot.bind (aA h O (t.1.1.length:Int) (by omega) (by omega)) λv3 ⟨⟨z,u⟩,X⟩=>Tot.bind (aA h X 3 (by decide) (by omega)) λv4 ⟨_,I⟩=>?_
 refine Tot.cnd (λ_=>Tot.bind (aA h I 2 (by decide) (by omega)) λv5 ⟨⟨Y,b5⟩,H⟩=>Tot.ix2 Y b5 λ_ _ _=>Tot.ix2 z u λ_ _ _=>Tot.ret ⟨by show (t.1.1.set _ _).length<=6;rw[B7];omega,H.up (by omega)⟩) λ_=>?_
 refine Tot.cnd (λ_=>Tot.bind (ne h I (by omega)) λf H=>Tot.ix2 z u λ_ _ _=>Tot.ret ⟨by show (t.1.1.set _ _).length<=6;rw[B7];omega,H.up (by omega)⟩) λ_=>?_
 exact Tot.ix2 z u λy _ _=>Tot.fit (Tot.ret ⟨by show (t.1.1++[y]).length<=6;simp;omega,I.up (by omega)⟩) (by omega) (by simp;omega)
theorem rJ (h:fP b)(Y:bc b m s)(hm:m<=95000):Tot (Q122.f K (s,())) λr=>bc b (m+6) r.2.1:=by
 simp only[Q122.f,Q14.f];refine Tot.bind (aA h Y 6 (by decide) (by omega)) λv1 ⟨_,z⟩=>Tot.cnd (λ_=>Tot.ret (z.up (by omega))) λ_=>Tot.bind (aA h z 3 (by decide) (by omega)) λv3 ⟨⟨R,H⟩,M⟩=>Tot.ix2 R H λy u _=>?_
 have u:InP y 10 100000:=by
  simp only[B4,Ck,or_false]at u;rcases u with rfl|rfl|rfl <;> constructor <;> omega
 rw[aJ (n:=2*y) (by omega) (by omega),aJ (n:=2*y+1) (by omega) (by omega),aJ (n:=y+1) (by omega) (by omega)];exact Tot.bind (aA h M _ (by omega) (by omega)) λZ ⟨_,J⟩=>Tot.bind (aA h J _ (by omega) (by omega)) λv7 ⟨_,X⟩=>Tot.bind (aA h X _ (by omega) (by omega)) λv8 ⟨_,O⟩=>Tot.bind (aA h O _ (by decide) (by omega)) λv9 ⟨_,I⟩=>Tot.ret I
theorem mt (h:fP b)(H:bc b m s)(J:m<=94000):Tot (Q123.f K (s,())) λr=>bc b (m+8) r.2.1:=by
 simp only[Q123.f];exact Tot.bind (rJ h H (by omega)) λc z=>Tot.bind (aA h z 16 (by decide) (by omega)) λI ⟨_,y⟩=>Tot.cnd (λ_=>Tot.bind (aA h y 3 (by decide) (by omega)) λv ⟨⟨a,b⟩,u⟩=>Tot.ix2 a b λ_ _ _=>Tot.ret u) λ_=>Tot.cnd (λ_=>Tot.bind (aA h y 2 (by decide) (by omega)) λv ⟨⟨a,b⟩,u⟩=>Tot.ix2 a b λ_ _ _=>Tot.ret u) λ_=>Tot.cnd (λ_=>Tot.bind (aA h y 2 (by decide) (by omega)) λv ⟨⟨a,b⟩,u⟩=>Tot.ix2 a b λ_ _ _=>Tot.ret u) λ_=>Tot.ret (y.up (by omega))
theorem xW (h:fP b)(z:bc b m s)(w:bS)(J:m<=95000):Tot (Q112.f K (s,w,())) λr=>bc b (m+2) r.2.1:=by
 simp only[Q112.f];refine Tot.cnd (λ_=>Tot.ret (z.up (by omega))) λH=>?_
 have H:¬ (w.2.1.length:Int)=0:=by simpa using H
 refine Tot.bind (aA h z 3 (by decide) (by omega)) λI ⟨_,y⟩=>Tot.cnd (λ_=>Tot.cnd (λ_=>Tot.bind (aA h y 4 (by decide) (by omega)) λv ⟨_,u⟩=>Tot.ret u) λ_=>?_) λ_=>?_ <;>
 exact Tot.bind (aA h y _ (by show (1:Int)<=(w.2.1.length:Int);omega) (by omega)) λv ⟨_,u⟩=>Tot.ret u
theorem AC (h:fP b)(hs:bc b m s)(w:bS)(hm:m<=94000):Tot (Q113.f K (s,w,())) λr=>bc b (m+8) r.2.1:=by
 simp only[Q113.f];refine Tot.bind (aA h hs 8 (by decide) (by omega)) λv1 ⟨_,s1⟩=>Tot.bind (aA h s1 256 (by decide) (by omega)) λv2 ⟨_,s2⟩=>Tot.bind (aA h s2 16 (by decide) (by omega)) λv3 ⟨_,Y⟩=>Tot.bind (aA h Y 40 (by decide) (by omega)) λM ⟨_,y⟩=>?_
 have y:bc b (m+4) M.2.1:=y.up (by omega);generalize M.2.1=z at y ⊢;have Z:bc b (m+8) z:=y.up (by omega);have O:=xW (K:=K) h y w (by omega);have R:∀ n:Int,1<=n->Tot (Q12.f K (z,n,())) λr=>bc b (m+8) r.2.1:=λn H=>(aA h y n H (by omega)).mono λr J=>J.2.up (by omega)
 have pp:∀ (I:List Int×Int) (n:Int),bc b (m+4+2) I->1<=n->Tot (Q12.f K (I,n,())) λr=>bc b (m+8) r.2.1:=λI n X H=>(aA h X n H (by omega)).mono λr J=>J.2.up (by omega)
 repeat' first
  |exact Tot.ret Z
  |exact Tot.bind O λv u=>Tot.ret (bc.up u (by omega))
  |exact Tot.bind O λv u=>Tot.bind (pp _ _ u (by decide)) λv u=>Tot.ret u
  |exact Tot.bind (R _ (by decide)) λv u=>Tot.ret u
  |exact Tot.bind (R _ (by decide)) λv u=>Tot.cnd (λ_=>Tot.ret u) λ_=>Tot.ret u
  |refine Tot.cnd (λ_=>?_) λ_=>?_
theorem AD (h:fP b)(hs:bc b m s)(y:Int)(h1:1<=y)(h2:y<=200)(hm:m<=90000)(R:1048577<K):Tot (Q114.f K (s,y,())) λr=>(WI r.1.2.1 2000/\r.1.1.length<=300)/\bc b (m+8*y.toNat+2) r.2.1:=by
 simp only[Q114.f,Q114.pre];have O:∀ (H:List af) (n:Int) (z:List Int×Int) (w:bS) (q c:Nat),0<=n->n<y->H.length<=24->bc b q z->q<=m+2->WI w c->c<=200->Tot (Q114.l1 K (s,y,()) (H,n,z.1,z.2,w)) λr=>(WI r.1.2.1 2000/\r.1.1.length<=300)/\bc b (m+8*y.toNat+2) r.2.1:=λH n z w q c n0 n1 X M hq I hc=>by
  refine Tot.iter (step:=λrec a=>Q114.s1 K (s,y,()) rec a) (λa=>∃ q c:Nat,0<=a.2.1/\a.2.1<y/\(a.1.length:Int)+a.2.1<=24+y/\bc b q (a.2.2.1,a.2.2.2.1)/\q+8*a.2.1.toNat<=m+8*y.toNat+2/\WI a.2.2.2.2 c/\c+4*a.2.1.toNat<=2000) (λa=>a.2.1.toNat) ?_ K _ (by show n.toNat<K;omega) ⟨q,c,n0,n1,by show (H.length:Int)+n<=_;omega,M,by show q+8*n.toNat<=_;omega,I,by show c+4*n.toNat<=2000;omega⟩;clear M hq I hc n0 n1 X;rintro rec ⟨H,n,z1,z2,w⟩ ⟨q,c,n0,n1,X,M,hq,I,hc⟩ Z;simp only at n0 n1 X M hq I hc Z ⊢;simp only[Q114.s1];refine Tot.cnd (λhn=>?_) λ_=>Tot.vl (I.copy (by omega) K R) (Tot.ret ⟨⟨I.mono (by omega),by show H.length<=300;omega⟩,M.up (by omega)⟩)
  have hn:n>0:=of_decide_eq_true hn;rw[aJ (n:=n-1) (by omega) (by omega)];refine Tot.bind (AC h M w (by omega)) λe he=>Tot.fit (Tot.vl (I.copy (by omega) K R) (Tot.bind (do_t K w c I (by omega) e.1.1 R) ?_)) (by omega) (by simp;omega)
  rintro⟨⟨v',ok,⟨⟩⟩,⟨⟩⟩ hv;have Y:∀ u:bS,WI u (c+4)->Tot (rec (H++[e.1.1],n-1,e.2.1.1,e.2.1.2,u)) λr=>(WI r.1.2.1 2000/\r.1.1.length<=300)/\bc b (m+8*y.toNat+2) r.2.1:=λu hu=>Z _ ⟨q+8,c+4,by show 0<=n-1;omega,by show n-1<y;omega,by show ((H++[e.1.1]).length:Int)+(n-1)<=_;simp;omega,he,by show q+8+8*(n-1).toNat<=_;omega,hu,by show c+4+4*(n-1).toNat<=2000;omega⟩ (by show (n-1).toNat<n.toNat;omega)
  exact Tot.cnd (λ_=>Y v' hv) λ_=>Y w (I.mono (by omega))
 refine Tot.bind (wu K R) λw0 a0=>Tot.bind (aA h hs 3 (by decide) (by omega)) λv2 ⟨_,s2⟩=>Tot.cnd (λ_=>?_) λ_=>Tot.bind (aA h s2 y h1 (by omega)) λv9 ⟨⟨a9,b9⟩,s9⟩=>O [] v9.1.1 v9.2.1 w0.1.1 (m+2) 8 a9 b9 (by simp) s9 (CB _) a0 (by omega)
 refine Tot.iter (step:=λrec a=>Q114.s0 K (s,y,()) (Q114.l1 K (s,y,())) rec a) (λa=>0<=a.2.1/\a.2.1<=8/\(a.1.length:Int)<=3*a.2.1/\bc b (m+1) (a.2.2.1,a.2.2.2.1)/\WI a.2.2.2.2 8) (λa=>8-a.2.1.toNat) ?_ K _ (by show 8-BV 0<K;omega) ⟨by show (0:Int)<=0;omega,by show (0:Int)<=8;omega,by show ((0:Nat):Int)<=3*0;omega,s2,a0⟩;rintro rec ⟨H,i,z1,z2,w⟩ ⟨i0,i1,X,M,I⟩ Z;simp only at i0 i1 X M I Z ⊢;simp only[Q114.s0];refine Tot.cnd (λhi=>?_) λ_=>?_
 ·have hi:i<=7:=of_decide_eq_true hi;rw[aJ (n:=i+1) (by omega) (by omega)];have Y:∀ J:List af,(J.length:Int)<=3*(i+1)->Tot (rec (J,i+1,z1,z2,w)) λr=>(WI r.1.2.1 2000/\r.1.1.length<=300)/\bc b (m+8*y.toNat+2) r.2.1:=λJ a1=>Z _ ⟨by show 0<=i+1;omega,by show i+1<=8;omega,a1,M,I⟩ (by show 8-(i+1).toNat<8-i.toNat;omega)
  exact Tot.cnd (λ_=>Tot.fit (Tot.fit (Y _ (by simp;omega)) (by omega) (by simp;omega)) (by omega) (by simp;omega)) λ_=>Y H (by omega)
 ·refine Tot.bind (By K w 8 H I (by omega) (by omega) R) λv ⟨hv,ev⟩=>Tot.bind (aA h M y h1 (by omega)) λv4 ⟨⟨a4,b4⟩,s4⟩=>?_
  exact O v.2.1 v4.1.1 v4.2.1 v.1.1 (m+1+1) _ a4 b4 (by rw[ev];omega) s4 (by omega) hv (by omega)
theorem AE (h:fP b)(y:bc b m s)(H:m<=90000)(z:1048577<K):Tot (Q115.f K (s,())) λr=>WI r.1.1 2000/\bc b (m+802) r.2.1:=by
 simp only[Q115.f];exact Tot.bind (AD h y 100 (by decide) (by decide) H z) λv u=>Tot.ret ⟨u.1.1,u.2⟩
structure NS (c:Nat) (n:aa):Prop where
 nb:NB n
 table:(aa.table n).length<=c
 cast:(aa.cast n).length<=c
 doubts:(aa.doubts n).length<=c
 places:(aa.places n).length<=c
 others:(aa.others n).length<=c
theorem el.ns {i:Nat}{n:aa}(h:el i n):NS 8 n:=by
 cases y:n.2.1 with
 |true =>
  have r:=h.up y;refine⟨h.nb,by have:=h.short;omega,by have:=clen r.x.say;omega,?_,?_,?_⟩
  ·exact B3 (iS r.x.say.asc r.x.say.inp) (by decide)
  ·exact B3 (iS r.x.places.2 λx u=>(r.x.places.1 x u).1) (by decide)
  ·exact B3 (iS r.x.others.2 λx u=>⟨(r.x.others.1 x u).1.1,Cg (r.x.others.1 x u).1.2 (by decide)⟩) (by decide)
 |false =>
  have e:=h.down y;refine⟨h.nb,?_,?_,?_,?_,?_⟩ <;> rw[e] <;> exact CC _
theorem xX (h:fP b)(hs:bc b m s)(n:aa){c:Nat}(hn:NS c n)(h8:8<=c)(hc:c<=1000)(hm:m<=90000)(hK:1048577<K):Tot (Q124.f K (s,n,())) λr=>NS (c+1) r.1.1/\bc b (m+60) r.2.1:=by
 simp only[Q124.f,zcp4,zcp8];rw[mW K n hn.nb hK];simp only[BQ];obtain⟨⟨n1,n2,n3,O,Y,X,Z,R⟩,l1,l2,l3,l4,l5⟩:=hn;refine Tot.bind (aA h hs 12 (by decide) (by omega)) λv2 ⟨_,I⟩=>?_
 have y:∀ (n':aa) (z:List Int×Int),n'.2.2.2.2.2.2.2.2=n.2.2.2.2.2.2.2.2->bc b (m+60) z->NS (c+1) n'/\bc b (m+60) z:=λn' z e hz=>by
  refine⟨⟨⟨?_,?_,?_,?_,?_,?_,?_,?_⟩,?_,?_,?_,?_,?_⟩,hz⟩ <;> simp only[aa.table,aa.cast,aa.doubts,aa.places,aa.others] <;> rw[e] <;> first|assumption|(refine B3 ?_ (CY c);assumption)
 have u2:bc b (m+60) v2.2.1:=I.up (by omega);refine Tot.cnd (λ_=>Tot.bind (qg h I (by omega) hK) λt ⟨tl,J⟩=>Tot.ret ⟨⟨⟨by show t.1.1.length<=_;omega,n2,n3,O,Y,X,Z,R⟩,by show t.1.1.length<=_;omega,BS l2,BS l3,BS l4,BS l5⟩,J.up (by omega)⟩) λ_=>?_
 refine Tot.cnd (λ_=>Tot.bind (ww h I (by omega) hK) λt ⟨tl,J⟩=>Tot.ret ⟨⟨⟨n1,by show t.1.1.length<=_;omega,n3,O,Y,X,Z,R⟩,BS l1,by show t.1.1.length<=_;omega,BS l3,BS l4,BS l5⟩,J.up (by omega)⟩) λ_=>?_
 refine Tot.cnd (λ_=>Tot.ret (y _ _ rfl u2)) λ_=>?_
 refine Tot.cnd (λ_=>Tot.bind (aA h I 9 (by decide) (by omega)) λv5 ⟨_,s5⟩=>Tot.bind (aA h s5 3 (by decide) (by omega)) λv6 ⟨_,s6⟩=>Tot.bind (aA h s6 3 (by decide) (by omega)) λv7 ⟨_,s7⟩=>Tot.bind (aA h s7 2 (by decide) (by omega)) λv8 ⟨_,s8⟩=>Tot.ret ⟨⟨⟨n1,n2,n3,O,Y,X,Z,R⟩,BS l1,BS l2,BS l3,BS l4,BS l5⟩,s8.up (by omega)⟩) λ_=>?_
 refine Tot.cnd (λ_=>Tot.bind (aA h I 8 (by decide) (by omega)) λv9 ⟨_,M⟩=>Tot.bind (aA h M 8 (by decide) (by omega)) λa1 ⟨_,H⟩=>Tot.fit (Tot.ret ⟨⟨⟨n1,n2,?_,?_,Y,X,Z,R⟩,BS l1,BS l2,?_,BS l4,BS l5⟩,H.up (by omega)⟩) (by omega) ?_) λ_=>?_
 ·show (aa.doubts n++[_]).length<=_;simp;omega
 ·intro d u;rcases BX.1 u with u|u
  ·exact O d u
  ·rw[BU.1 u];show ([a1.1.1]:List Int).length<=_;simp
 ·show (aa.doubts n++[_]).length<=_;simp;omega
 ·show (aa.doubts n).length+_<=_;simp;omega
 refine Tot.cnd (λ_=>Tot.bind (mt h I (by omega)) λc J=>Tot.ret ⟨⟨⟨n1,n2,n3,O,Y,X,Z,R⟩,BS l1,BS l2,BS l3,BS l4,BS l5⟩,J.up (by omega)⟩) λ_=>?_
 refine Tot.cnd (λ_=>Tot.bind (aA h I 9 (by decide) (by omega)) λv9 ⟨_,M⟩=>Tot.bind (mt h M (by omega)) λc H=>Tot.bind (aA h H 3 (by decide) (by omega)) λa2 ⟨_,a0⟩=>Tot.fit (Tot.ret ⟨⟨⟨n1,n2,n3,O,?_,?_,Z,R⟩,BS l1,BS l2,BS l3,?_,BS l5⟩,a0.up (by omega)⟩) (by omega) ?_) λ_=>?_
 ·show (aa.places n++[_]).length<=_;simp;omega
 ·intro d u;rcases BX.1 u with u|u
  ·exact X d u
  ·rw[BU.1 u];show ([a2.1.1]:List Int).length<=_;simp
 ·show (aa.places n++[_]).length<=_;simp;omega
 ·show (aa.places n).length+_<=_;simp;omega
 refine Tot.cnd (λ_=>Tot.bind (aA h I 3 (by decide) (by omega)) λv9 ⟨_,M⟩=>Tot.bind (qg h M (by omega) hK) λt ⟨tl,H⟩=>Tot.fit (Tot.ret ⟨⟨⟨n1,n2,n3,O,Y,X,?_,?_⟩,BS l1,BS l2,BS l3,BS l4,?_⟩,H.up (by omega)⟩) (by omega) ?_) λ_=>?_
 ·show (aa.others n++[_]).length<=_;simp;omega
 ·intro d u;rcases BX.1 u with u|u
  ·exact R d u
  ·rw[BU.1 u];show t.1.1.length<=_;omega
 ·show (aa.others n++[_]).length<=_;simp;omega
 ·show (aa.others n).length+_<=_;simp;omega
 refine Tot.cnd (λ_=>Tot.ret (y _ _ rfl u2)) λ_=>Tot.cnd (λ_=>Tot.ret (y _ _ rfl u2)) λ_=>?_
 refine Tot.cnd (λ_=>Tot.bind (aA h I 3 (by decide) (by omega)) λv ⟨⟨a,b⟩,J⟩=>Tot.ix2 a b λ_ _ _=>Tot.ret (y _ _ rfl (J.up (by omega)))) λ_=>?_
 exact Tot.bind (aA h I 8 (by decide) (by omega)) λv9 ⟨_,M⟩=>Tot.bind (aA h M 3 (by decide) (by omega)) λv ⟨⟨a,b⟩,J⟩=>Tot.ix2 a b λ_ _ _=>Tot.ret (y _ _ rfl (J.up (by omega)))
end
section
variable {K:Nat} {b:List Int} {m:Nat} {s:List Int×Int}
end
theorem bc.zero (b:List Int):bc b 0 (b,0):=⟨0,CB _,rfl⟩
structure tK (code:List Int):Prop where
 byte:∀ y∈code,0<=y/\y<=255
 len:code.length<=9223372036854775807
theorem oF (K:Nat)(xs:List Int)(z:xs.length<=1048576)(y:1048577<K):Q225.f K (xs,xs,())=rb true:=by
 have r:Q225.l0 K (xs,xs,()) 0=rb true:=by
  refine fw (step:=λrec a=>Q225.s0 K (xs,xs,()) rec a) xs.length (λi=>(i:Int)) (rb true) ?_ ?_ (by omega)
  ·intro rec i u;simp only[Q225.s0];rw[decide_eq_true (by omega:(i:Int)<(BT xs:Int)),ag u,ar i (by omega)];simp only[cond_true,BQ,bne_self_eq_false,cond_false]
  ·intro rec;simp only[Q225.s0,aN];rfl
 simp only[Q225.f,Q225.pre,bne_self_eq_false,cond_false];exact r
theorem tL (K:Nat)(xs:List aL)(z:xs.length<=1048576)(y:1048577<K):Q224.f K (xs,xs,())=rb true:=by
 have r:Q224.l0 K (xs,xs,()) 0=rb true:=by
  refine fw (step:=λrec a=>Q224.s0 K (xs,xs,()) rec a) xs.length (λi=>(i:Int)) (rb true) ?_ ?_ (by omega)
  ·intro rec i u;simp only[Q224.s0];rw[decide_eq_true (by omega:(i:Int)<(BT xs:Int)),ag u,ar i (by omega)];simp only[cond_true,BQ];rw[show Ty.eqv t3 xs[i] xs[i]=true by
    show (Ty.eqv t2 xs[i].1 xs[i].1&&decide (xs[i].2=xs[i].2))=true;rw[show Ty.eqv t2 xs[i].1 xs[i].1=decide (xs[i].1=xs[i].1) from hH _ _,decide_eq_true rfl,decide_eq_true rfl];rfl]
   rfl
  ·intro rec;simp only[Q224.s0,aN];rfl
 simp only[Q224.f,Q224.pre,bne_self_eq_false,cond_false];exact r
theorem uM (K:Nat)(n:aa)(r:NB n)(y:1048577<K):Q226.f K (n,n,())=rb true:=by
 have I:Q226.l2 K (n,n,()) 0=rb true:=by
  have z:=r.others;refine fw (step:=λrec a=>Q226.s2 K (n,n,()) rec a) (aa.others n).length (λi=>(i:Int)) (rb true) ?_ ?_ (by omega)
  ·intro rec i u;simp only[Q226.s2];rw[bi (by omega:(i:Int)<(BT (aa.others n):Int)),ag u,ar i (by omega)];simp only[cond_true,BQ,bne_self_eq_false,cond_false];refine (congrArg (λo=>BR o _) (iU K _ (r.facts _ (BZ u)) y)).trans rfl
  ·intro rec;simp only[Q226.s2,aN];rfl
 have J:Q226.l1 K (n,n,()) 0=rb true:=by
  have z:=r.places;refine fw (step:=λrec a=>Q226.s1 K (n,n,()) (Q226.l2 K (n,n,())) rec a) (aa.places n).length (λi=>(i:Int)) (rb true) ?_ ?_ (by omega)
  ·intro rec i u;simp only[Q226.s1];rw[bi (by omega:(i:Int)<(BT (aa.places n):Int)),ag u,ar i (by omega)];simp only[cond_true,BQ,bne_self_eq_false,cond_false];rw[show Ty.eqv t9 (aa.places n)[i].2.1 (aa.places n)[i].2.1=decide ((aa.places n)[i].2.1=(aa.places n)[i].2.1) from pQ _ _,decide_eq_true rfl];simp only[BY,cond_false];refine (congrArg (λo=>BR o _) (oF K _ (r.trips _ (BZ u)) y)).trans rfl
  ·intro rec;simp only[Q226.s1,aN];exact I
 have H:Q226.l0 K (n,n,()) 0=rb true:=by
  have z:=r.doubts;refine fw (step:=λrec a=>Q226.s0 K (n,n,()) (Q226.l1 K (n,n,())) rec a) (aa.doubts n).length (λi=>(i:Int)) (rb true) ?_ ?_ (by omega)
  ·intro rec i u;simp only[Q226.s0];rw[bi (by omega:(i:Int)<(BT (aa.doubts n):Int)),ag u,ar i (by omega)];simp only[cond_true,BQ,bne_self_eq_false,cond_false];refine (congrArg (λo=>BR o _) (oF K _ (r.by_ _ (BZ u)) y)).trans rfl
  ·intro rec;simp only[Q226.s0,aN];exact J
 simp only[Q226.f,Q226.pre,bne_self_eq_false,cond_false];refine (congrArg (λo=>BR o _) (iU K (aa.table n) r.table y)).trans ?_;simp only[rb,BQ,BY,cond_false];refine (congrArg (λo=>BR o _) (tL K (aa.cast n) r.cast y)).trans ?_;simp only[rb,BQ,BY,cond_false];rw[show Ty.eqv t2 n.2.2.2.2.2.2.2.2.2.2.1 n.2.2.2.2.2.2.2.2.2.2.1=decide (aa.probe n=aa.probe n) from hH _ _,show Ty.eqv t9 n.2.2.2.2.2.2.2.2.2.2.2.2.1 n.2.2.2.2.2.2.2.2.2.2.2.2.1=decide (aa.coord n=aa.coord n) from pQ _ _,decide_eq_true rfl,decide_eq_true rfl];exact H
section
variable {K:Nat} {b:List Int} {m:Nat} {s:List Int×Int}
theorem zg {v:Int}(r:0<=v)(u:v<8):0<=wr .i64 (Cn v 4)/\wr .i64 (Cn v 4)<=1:=by
 have:ak v=v / 4:=jh ⟨r,by omega⟩;have e:wr .i64 (Cn v 4)=v / 4:=this;rw[e];omega
theorem zh (h:fP b)(hs:bc b m s)(hm:m<=90000)(O:1048577<K):Tot (Q125.f K (s,())) λr=>(ah.table r.1.1).length<=5/\bc b (m+100) r.2.1:=by
 simp only[Q125.f];refine Tot.bind (aA h hs 8 (by decide) (by omega)) λv1 ⟨⟨a1,b1⟩,s1⟩=>Tot.bind (aA h s1 6 (by decide) (by omega)) λv2 ⟨_,s2⟩=>Tot.bind (aA h s2 4 (by decide) (by omega)) λv3 ⟨_,Z⟩=>Tot.bind (aA h Z 9 (by decide) (by omega)) λv4 ⟨_,s4⟩=>Tot.bind (aA h s4 3 (by decide) (by omega)) λv5 ⟨⟨a5,b5⟩,s5⟩=>Tot.ix2 a5 b5 λy _ _=>?_
 obtain⟨q0,q1⟩:=zg a1 b1;refine Tot.bind (aA h s5 4 (by decide) (by omega)) λv8 ⟨_,s8⟩=>Tot.bind (rJ h s8 (by omega)) λc Y=>Tot.bind (n9 h Y (wr .i64 (Cn v1.1.1 4)) (by omega) q1 (by omega) O) λt ⟨⟨_,_,t3⟩,u⟩=>?_
 refine Tot.cnd (λ_=>?_) λ_=>Tot.ret ⟨t3,u.up (by omega)⟩
 refine Tot.bind (aA h u 2 (by decide) (by omega)) λM ⟨⟨X,a0⟩,J⟩=>Tot.bind (n9 h J M.1.1 (by omega) (by omega) (by omega) O) λt' ⟨⟨_,_,t4⟩,H⟩=>Tot.bind (aA h H 2 (by decide) (by omega)) λa2 ⟨_,z⟩=>Tot.cnd (λ_=>?_) λ_=>Tot.ret ⟨t4,z.up (by omega)⟩
 exact Tot.bind (aA h z 4 (by decide) (by omega)) λR ⟨_,I⟩=>Tot.ret ⟨t4,I.up (by omega)⟩
theorem xY (h:fP b)(I:bc b m s)(R:m<=89000)(J:1048577<K):Tot (Q126.f K (s,())) λr=>(ah.table r.1.1).length<=6/\bc b (m+120) r.2.1:=by
 simp only[Q126.f,zcp4];refine Tot.bind (zh h I (by omega) J) λw ⟨M,H⟩=>Tot.bind (aA h H 16 (by decide) (by omega)) λO ⟨_,z⟩=>?_
 have u:(ah.table w.1.1).length<=6:=by omega
 refine Tot.cnd (λ_=>Tot.bind (aA h z 2 (by decide) (by omega)) λv ⟨⟨a,c⟩,y⟩=>Tot.ix2 a c λ_ _ _=>Tot.ret ⟨u,y.up (by omega)⟩) λ_=>?_
 refine Tot.cnd (λ_=>Tot.bind (aA h z 4 (by decide) (by omega)) λv ⟨_,y⟩=>Tot.ret ⟨u,y.up (by omega)⟩) λ_=>?_
 refine Tot.cnd (λ_=>Tot.bind (mt h z (by omega)) λv y=>Tot.ret ⟨u,y.up (by omega)⟩) λ_=>?_
 refine Tot.cnd (λ_=>Tot.bind (ne h z (by omega)) λv y=>Tot.fit (Tot.ret ⟨?_,y.up (by omega)⟩) (by omega) (by show (ah.table w.1.1).length+_<=_;simp;omega)) λ_=>?_
 ·show (ah.table w.1.1++[_]).length<=6;simp;omega
 refine Tot.cnd (λ_=>Tot.bind (aA h z 2 (by decide) (by omega)) λv ⟨⟨a,c⟩,y⟩=>Tot.ix2 a c λ_ _ _=>Tot.ret ⟨u,y.up (by omega)⟩) λ_=>?_
 refine Tot.cnd (λ_=>Tot.bind (aA h z 2 (by decide) (by omega)) λv ⟨⟨a,c⟩,y⟩=>Tot.ix2 a c λ_ _ _=>Tot.ret ⟨u,y.up (by omega)⟩) λ_=>Tot.ret ⟨u,z.up (by omega)⟩
theorem to_t (h:fP b)(hs:bc b m s)(w:bS)(n:aa)(hr:fX w.2.1)(hm:m<=80000)(hK:1048577<K):Tot (Q127.f K (s,w,n,())) λr=>(ah.table r.1.1).length<=1048576:=by
 refine Tot.iter (step:=λrec a=>Q127.s0 K (s,w,n,()) rec a) (λa=>∃ i:Nat,i<=3/\a.1=(i:Int)/\bc b (m+i) a.2) (λa=>3-a.1.toNat) ?_ K _ (by show 3-BV 0<K;omega) ⟨0,by omega,rfl,hs⟩;rintro rec ⟨i',z⟩ ⟨i,hi,e,J⟩ ih;have e:i'=(i:Int):=e;subst e;have J:bc b (m+i) z:=J;have u:Tot ((Q126.f K (z,())).bind λH=>(Q12.f K (H.2.1,10,())).bind λO=>bif decide (O.1.1>0) then some ((((H.1.1.1,H.1.1.2.1,H.1.1.2.2.1,n.1,H.1.1.2.2.2.2),()),O.2.1,()):(ah×Unit)×(List Int×Int)×Unit) else some ((H.1.1,()),O.2.1,())) λr=>(ah.table r.1.1).length<=1048576 :=
  Tot.bind (xY h J (by omega) hK) λv ⟨hv,I⟩=>Tot.bind (aA h I 10 (by decide) (by omega)) λ_ _=>Tot.cnd (λ_=>Tot.ret (show (ah.table v.1.1).length<=1048576 by omega)) λ_=>Tot.ret (show (ah.table v.1.1).length<=1048576 by omega)
 simp only[Q127.s0];refine Tot.cnd (λh3=>Tot.cnd (λZ=>?_) λ_=>u) λ_=>u
 have h3:(i:Int)<3:=of_decide_eq_true h3;have Z:(w.2.1.length:Int)>0:=of_decide_eq_true Z;rw[ar i (by omega)];refine Tot.bind (aA h J (w.2.1.length:Int) (by omega) (by omega)) λv1 ⟨⟨a1,b1⟩,I⟩=>Tot.ix a1 b1 λy hy _=>?_
 have a0:=(hr.2 y hy).2;have next:∀ M,bc b (m+(i+1)) M->Tot (rec (((i+1:Nat):Int),M)) λr=>(ah.table r.1.1).length<=1048576:=λM Y=>ih _ ⟨i+1,by omega,rfl,Y⟩ (by show 3-BV ((i+1:Nat):Int)<3-BV (i:Int);omega)
 refine Tot.bind (mn K y.2.1 (by omega) hK) λv3 X=>Tot.cnd (λR=>?_) λ_=>next _ I
 have hW:=X R;rw[cX K,cX K];simp only[BQ];exact Tot.cnd (λ_=>Tot.cnd (λ_=>Tot.ret (show (ah.table v3.1.1).length<=1048576 from bR hW.2.2.2.2.2.2.2.1)) λ_=>next _ I) λ_=>next _ I
end
theorem qh (K:Nat)(u:List Int)(O:tK u)(H:1048577<K):Tot (Q128.f K (u,())) λr=>NS 9 r.1.1/\(ah.table r.1.2.1).length<=1048576:=by
 obtain⟨bs,z,e⟩:=Bz (K:=K) u O.byte O.len;simp only[Q128.f];refine Tot.vl e (Tot.bind (AE z (bc.zero bs) (by omega) H) λw ⟨I,s1⟩=>Tot.bind (aA z s1 _ (by have:=I.len;show (1:Int)<=(w.1.1.1.length:Int);omega) (by omega)) λv3 ⟨⟨a3,Y⟩,s3⟩=>Tot.ix a3 Y λy hy _=>?_);obtain⟨i,hi,rfl⟩:=B8 hy;have M:=(I.node i hi).ns;refine Tot.bind (aA z s3 24 (by decide) (by omega)) λv5 ⟨_,R⟩=>Tot.cnd (λ_=>?_) λ_=>?_
 ·exact Tot.bind (xX z R _ M (CB _) (by omega) (by omega) H) λX ⟨J,s6⟩=>Tot.bind (to_t z s6 w.1.1 X.1.1 I.radio (by omega) H) λv7 h7=>Tot.ret ⟨J,h7⟩
 ·refine Tot.bind (to_t z R w.1.1 _ I.radio (by omega) H) λv8 h8=>Tot.ret ⟨?_,h8⟩
  obtain⟨Z,h2,h3,h4,h5,h6⟩:=M;exact⟨Z,BS h2,BS h3,BS h4,BS h5,BS h6⟩
theorem AF (K:Nat)(l:List Int)(v:Int)(R:l.length<=1048576)(Y:Asc (λx:Int=>x) l)(hK:1048577<K) :
  ∃ m,m<=l.length/\(∀ i,(h:i<l.length)->i<m->l[i]<v)/\(∀ i,(h:i<l.length)->m<=i->v<=l[i])/\Q180.f K (l,v,())=some ((((m:Nat):Int),decide (∃ h:m<l.length,l[m]=v),()),()):=by
 let ks:Nat->Int:=λi=>if h:i<l.length then l[i] else 0
 have r:∀ i (h:i<l.length),ks i=l[i]:=λi h=>by simp[ks,h]
 let u:Nat->Option ((Int×Bool×Unit)×Unit):=λm=>some ((((m:Nat):Int),decide (∃ h:m<l.length,l[m]=v),()),())
 have:=pO (step:=λrec a=>Q180.s0 K (l,v,()) rec a) (ks:=ks) (n:=l.length) (t:=v) u R
  (λi j z H=>by
   rw[r i (by omega),r j H];exact cE.1 Y i j (by omega) H z) ?_ ?_ l.length K 0 l.length (by omega) (CC _) (CB _) (by omega) (λi y=>by omega) (λi y hn=>by omega)
 ·obtain⟨m,J,Z,h3,M⟩:=this;exact⟨m,J,λi h y=>by rw[<- r i h];exact Z i y,λi h y=>by rw[<- r i h];exact h3 i y h,M⟩
 ·intro rec a b a0 hb;have I:(a+b) / 2<l.length:=by omega
  simp only[Q180.s0];rw[decide_eq_true (by omega:(a:Int)<(b:Int)),nR (by omega)];simp only[cond_true];rw[ag I];simp only[BQ,Q178.f,Q135.f,bne_self_eq_false,cond_false];rw[r _ I,ar _ (by omega)];by_cases h:l[(a+b) / 2]<v
  ·rw[if_pos h,decide_eq_true h];rfl
  ·rw[if_neg h,decide_eq_false h];rfl
 ·intro rec a ha;simp only[Q180.s0];rw[decide_eq_false (by omega)];simp only[cond_false];by_cases h:a<l.length
  ·rw[decide_eq_true (by omega:(a:Int)<(BT l:Int)),ag h];simp only[cond_true,BQ,Q179.f,bne_self_eq_false,cond_false];by_cases e:l[a]=v
   ·rw[show (l[a]==v)=true by simpa using e];simp only[cond_true,u];rw[decide_eq_true ⟨h,e⟩]
   ·rw[show (l[a]==v)=false by simpa using e];simp only[cond_false,u];rw[decide_eq_false (λ⟨_,O⟩=>e O)]
  ·rw[decide_eq_false (by omega:¬ (a:Int)<(BT l:Int))];simp only[cond_false,u];rw[decide_eq_false (λ⟨X,_⟩=>h X)]
abbrev flN {R:Type}(n:aa)(r:R):=(n.1,n.2.1,n.2.2.1,n.2.2.2.1,n.2.2.2.2.1,n.2.2.2.2.2.1,n.2.2.2.2.2.2.1,n.2.2.2.2.2.2.2.1,n.2.2.2.2.2.2.2.2.1,n.2.2.2.2.2.2.2.2.2.1,n.2.2.2.2.2.2.2.2.2.2.1.1,n.2.2.2.2.2.2.2.2.2.2.1.2.1,n.2.2.2.2.2.2.2.2.2.2.1.2.2.1,n.2.2.2.2.2.2.2.2.2.2.1.2.2.2,n.2.2.2.2.2.2.2.2.2.2.2.1,n.2.2.2.2.2.2.2.2.2.2.2.2.1.1,n.2.2.2.2.2.2.2.2.2.2.2.2.1.2.1,n.2.2.2.2.2.2.2.2.2.2.2.2.1.2.2.1,n.2.2.2.2.2.2.2.2.2.2.2.2.1.2.2.2,n.2.2.2.2.2.2.2.2.2.2.2.2.2.1,n.2.2.2.2.2.2.2.2.2.2.2.2.2.2,r)
abbrev flE (n:aa):=(n.1,n.2.1,n.2.2.1,n.2.2.2.1,n.2.2.2.2.1,n.2.2.2.2.2.1,n.2.2.2.2.2.2.1,n.2.2.2.2.2.2.2.1,n.2.2.2.2.2.2.2.2.1,n.2.2.2.2.2.2.2.2.2.1,n.2.2.2.2.2.2.2.2.2.2.1.1,n.2.2.2.2.2.2.2.2.2.2.1.2.1,n.2.2.2.2.2.2.2.2.2.2.1.2.2.1,n.2.2.2.2.2.2.2.2.2.2.1.2.2.2,n.2.2.2.2.2.2.2.2.2.2.2.1,n.2.2.2.2.2.2.2.2.2.2.2.2.1.1,n.2.2.2.2.2.2.2.2.2.2.2.2.1.2.1,n.2.2.2.2.2.2.2.2.2.2.2.2.1.2.2.1,n.2.2.2.2.2.2.2.2.2.2.2.2.1.2.2.2,n.2.2.2.2.2.2.2.2.2.2.2.2.2.1,n.2.2.2.2.2.2.2.2.2.2.2.2.2.2)
theorem xZ (K:Nat)(n0:aa)(t:List af)(n:aa)(f:af)(b:Int)(i:Nat)(hi:i<=1048576)(hd:∀ d∈aa.doubts n,kZ d.2.2.2)(hl:(aa.doubts n).length<=1048576)(hK:1048577<K)(H:Q181.A0->Option Q181.Res) :
  Q181.l1 K (n0,t,b,()) H ((i:Int),(BT (aa.doubts n):Int),0,flN n f)=H (((i+1:Nat):Int),flE (iJ n f b)):=by
 refine tk (step:=λr a=>Q181.s1 K (n0,t,b,()) H r a) (aa.doubts n) (dM f b) (λu k=>((i:Int),(BT (aa.doubts n):Int),(k:Int),flN (gb n (aa.table n) (aa.cast n) u) f)) (λu=>H (((i+1:Nat):Int),flE (gb n (aa.table n) (aa.cast n) u))) ?_ ?_ (by omega)
 ·intro rec u k hk X I;have Z:k<u.length:=by omega
  have M:u[k]=(aa.doubts n)[k]:=by
   rw[CM Z]at I;exact Option.some.inj I
  have J:=hd _ (BZ hk);have z:idx u (k:Int)=some (aa.doubts n)[k]:=by rw[ag Z,M]
  simp only[Q181.s1,zcp4,zcp8];rw[bi (by omega:(k:Int)<(BT (aa.doubts n):Int)),ar k (by omega),BW];simp only[cond_true];refine (congrArg (λo=>BR o _) z).trans ?_;simp only[BQ];generalize a2:(aa.doubts n)[k]=d at J I z ⊢;have y:rec ((i:Int),(BT (aa.doubts n):Int),((k+1:Nat):Int),flN (gb n (aa.table n) (aa.cast n) u) f)=rec ((i:Int),(BT (aa.doubts n):Int),((k+1:Nat):Int),flN (gb n (aa.table n) (aa.cast n) (u.set k d)) f):=by rw[mg I]
  unfold dM;by_cases h3:f.2.2.1=2
  case neg =>
   rw[show (f.2.2.1 != 2)=true by simpa using h3,show (f.2.2.1==2)=false by simpa using h3,Bool.and_false];exact y
  rw[show (f.2.2.1 != 2)=false by simpa using h3,show (f.2.2.1==2)=true by simpa using h3];simp only[cond_false,Bool.and_true];refine (congrArg (λo=>BR o _) z).trans ?_;simp only[BQ];by_cases h1:d.1=f.1
  case neg =>
   rw[show (d.1 != f.1)=true by simpa using h1,show (d.1==f.1)=false by simpa using h1,Bool.false_and];exact y
  rw[show (d.1 != f.1)=false by simpa using h1,show (d.1==f.1)=true by simpa using h1];simp only[cond_false,CL];refine (congrArg (λo=>BR o _) z).trans ?_;simp only[BQ];by_cases h2:d.2.1=f.2.1
  case neg =>
   rw[show (d.2.1 != f.2.1)=true by simpa using h2,show (d.2.1==f.2.1)=false by simpa using h2];exact y
  rw[show (d.2.1 != f.2.1)=false by simpa using h2,show (d.2.1==f.2.1)=true by simpa using h2];simp only[cond_false,cond_true];refine (congrArg (λo=>BR o _) z).trans ?_;simp only[BQ];have a1:=J.len;obtain⟨m,hm,lo,R,hs⟩:=AF K d.2.2.2 b (by omega) J.1 hK;refine (congrArg (λo=>BR o _) hs).trans ?_;simp only[BQ];by_cases hb:∃ h:m<d.2.2.2.length,d.2.2.2[m]=b
  ·rw[decide_eq_true hb];obtain⟨O,e⟩:=hb;rw[show bh (λx:Int=>x) b d.2.2.2=d.2.2.2 by rw[<- iq (k:=λx:Int=>x) J.1 O e];exact mg (by rw[CM O,e])];exact y
  ·rw[decide_eq_false hb];simp only[CI,cond_true];refine (congrArg (λo=>BR o _) z).trans ?_;simp only[BQ];refine (congrArg (λo=>BR o _) z).trans ?_;simp only[BQ];have Y:Q7.f K (d.2.2.2,(m:Int),[b],())=some ((d.2.2.2.take m++[b]++d.2.2.2.drop m,()),()):=jC hm (by decide) (by show d.2.2.2.length<=1048576;omega);refine (congrArg (λo=>BR o _) Y).trans ?_;simp only[BQ];refine (congrArg (λo=>BR o _) z).trans ?_;rw[<- gy (k:=λx:Int=>x) hm lo (λj hj a0=>by
    rcases Int.lt_or_eq_of_le (R j hj a0) with h|h
    ·exact h
    ·exfalso;rcases Cd a0 with h4|rfl
     ·have:=cE.1 J.1 m j (by omega) hj h4;have h5:=R m (by omega) (CB _);omega
     ·exact hb ⟨hj,h.symm⟩)]
   simp only[BQ,Nat.beq_refl,cond_true];rfl
 ·intro rec u X;simp only[Q181.s1,zcp4,zcp8];rw[aN,ar i (by omega)];rfl
theorem zi {R:Type}(K:Nat)(n:aa)(f:af)(h:dw n)(u:aX f)(e:f.1=n.1)(r:1048577<K)(G:aa->Option R) :
  ((Q139.f K (aa.table n,n.1,())).bind λH=>(Q153.f K (f,H.1.1,())).bind λJ=>bif J.1.1 then (bif decide (f.2.1<999) then ((Q177.f K (gB n (wr .i64 (f.2.1+1)),(n.1,wr .i64 (f.2.1+1),1,n.2.2.2.1),n.1,())).bind λZ=>G Z.2.1) else G n) else G n)=G (eG n f):=by
 obtain⟨b',I⟩:=mY K (aa.table n) n.1 h.say.table h.say.lt r;rw[I];simp only[BQ];obtain⟨Y,z,p3⟩:=eq h.say.table h.has;obtain⟨c,O,X⟩:=pP K f (aQ (aa.table n) n.1) r;rw[O];have M:c=decide (bC f (aQ (aa.table n) n.1)):=by
  rw[B6,X,decide_eq_true_eq];exact⟨λh=>h.2.2.2,λh=>⟨u,Y,e.trans z.symm,h⟩⟩
 subst M;obtain⟨_,⟨i0,i1⟩,_⟩:=id u;simp only[rb,BQ,eG];cases decide (bC f (aQ (aa.table n) n.1)) with
 |false=>rfl
 |true =>
  simp only[cond_true,CL];by_cases y:f.2.1<999
  ·rw[decide_eq_true y,aJ (by omega) (by omega)];simp only[cond_true];rw[zK K (gB n (f.2.1+1)) (n.1,f.2.1+1,1,n.2.2.2.1) n.1 (h.say.inc _) (qH h.me u y) r];rfl
  ·rw[decide_eq_false y];rfl
theorem vo (K:Nat)(n:aa)(t:List af)(b:Int)(h:dw n)(J:∀ f∈t,aX f)(M:t.length<=1048576)(H:InP b 0 7)(y:1048577<K):Q181.f K (n,t,b,())=some ((),(eV n t b,())):=by
 refine kH (step:=λrec a=>Q181.s0 K (n,t,b,()) (Q181.l1 K (n,t,b,()) rec) rec a) t (ci b) dw (λm i=>((i:Int),flE m)) (λm=>some ((),(m,()))) n h ?_ ?_ (by omega)
 ·intro rec m i I r;have u:=J _ (BZ I);refine⟨?_,r.step u H⟩;simp only[Q181.s0,zc286a0,zc3ec45,zcp4];rw[bi (by omega:(i:Int)<(BT t:Int)),ag I,ar i (by omega)];simp only[cond_true,BQ];generalize t[i]=f at u ⊢;unfold ci;by_cases e:f.1=m.1
  ·rw[show (f.1==m.1)=true by simpa using e];simp only[cond_true];exact zi K m f r u e y (λz=>rec (((i+1:Nat):Int),flE z))
  ·rw[show (f.1==m.1)=false by simpa using e];simp only[cond_false];refine (congrArg (λo=>BR o _) (zK K m f b r.say u y)).trans ?_;simp only[BQ];exact xZ K n t (sayOf m f b) f b i (by omega) (jZ H r.by_) (is r.say u).ld y rec
 ·intro rec m r;simp only[Q181.s0,zc286a0,zc3ec45,zcp4];rw[aN];rfl
theorem wz (K:Nat)(n:aa)(w:ah)(X:NB n)(u:(ah.table w).length<=1048576)(r:1048577<K):∃ b,Q229.f K (n,w,())=rb b/\Q169.f K (n,w,())=rb b:=by
 obtain⟨b1,h1,z⟩:=(pb K n X r).same (pc K n X r) CZ;simp only[Q229.f,Q169.f];rw[h1,z];cases b1 with
 |false=>exact⟨false,rfl,rfl⟩
 |true =>
  simp only[BQ,BY,cond_false];obtain⟨Z,h2,y⟩:=mc K w u r;obtain⟨I,H,R⟩:=ta K w u r;have:Z=I:=by rw[B6,y,R]
  subst this;rw[h2,H];cases Z with
  |false=>exact⟨false,rfl,rfl⟩
  |true =>
   have Y:=y.1 rfl;simp only[BQ,BY,cond_false];obtain⟨b3,h3,J⟩:=(d4 K (ah.table w) (ak n.1) u r).same (fK K (ah.table w) (ak n.1) u r) CZ;obtain⟨b4,h4,O⟩:=(d4 K (ah.table w) (ak w.2.2.1) u r).same (fK K (ah.table w) (ak w.2.2.1) u r) CZ;obtain⟨b5,h5,M⟩:=mU K n w.2.2.1;have h6:b5=(ak w.2.2.1==ak n.1):=by
    rw[B6,M,beq_iff_eq];exact⟨λh=>h.2,λh=>⟨Y.2.2.1,h⟩⟩
   have hp:InP w.1 1 2:=Y.1;simp only[Q24.f,Q168.f];rw[h5,cX K n.1,cX K w.2.2.1,lA K w.2.2.1,lB K n,h6];simp only[BQ];rw[h3,h4,O,J];simp only[BQ,bne];generalize (ak w.2.2.1==ak n.1)=c1;generalize (w.2.2.2.1==n.1)=c2;generalize (w.2.2.1==n.1)=c3;generalize (w.2.1==6)=c4;generalize n.2.1=c5;generalize n.2.2.1=c6;rcases (by omega:w.1=1\/w.1=2) with h|h <;> rw[h] <;> cases c1 <;> cases c2 <;> cases c3 <;> cases c4 <;> cases c5 <;> cases c6 <;> cases b3 <;> cases b4 <;> exact⟨_,rfl,rfl⟩
structure k8 (n m:aa):Prop where
 ok:cz m
 me:m.1=n.1
 now_:m.2.2.2.2.2.1=n.2.2.2.2.2.1
 seq:m.2.2.2.2.2.2.1=n.2.2.2.2.2.2.1
 turn:m.2.2.2.2.2.2.2.1=n.2.2.2.2.2.2.2.1
 rest:m.2.2.2.2.2.2.2.2.2.2.2.2=n.2.2.2.2.2.2.2.2.2.2.2.2
 by_:∀ d∈aa.doubts m,d.2.2.2.length<=1048576
theorem k8.say {n m:aa}(h:k8 n m){f:af}(b:Int)(I:aX f):k8 n (sayOf m f b):=by
 obtain⟨u,_,_,_,_,y,H,z,_,r⟩:=iT m f b;exact⟨is h.ok I,u.trans h.me,y.trans h.now_,H.trans h.seq,z.trans h.turn,r.trans h.rest,yK h.by_⟩
theorem k8.setP {n m:aa}(h:k8 n m)(p:af):k8 n (setP m p):=⟨h.ok.setP p,h.me,h.now_,h.seq,h.turn,h.rest,h.by_⟩
theorem k8.nb {n m:aa}(h:k8 n m)(u:NB n):NB m:=by
 have y:aa.places m=aa.places n:=congrArg (λr=>r.2.1) h.rest;have z:aa.others m=aa.others n:=congrArg (λr=>r.2.2) h.rest;exact⟨h.ok.lt,h.ok.lc,h.ok.ld,h.by_,by rw[y];exact u.places,by rw[y];exact u.trips,by rw[z];exact u.others,by rw[z];exact u.facts⟩
theorem k8.far {n m:aa}(h:k8 n m)(y:nY n):nY m:=by
 have u:aa.others m=aa.others n:=congrArg (λr=>r.2.2) h.rest;exact⟨by rw[u];exact y.short,by rw[u];exact y.table⟩
theorem BA (K:Nat)(n:aa)(w:ah)(J:NB n)(u:(ah.table w).length<=1048576)(r:1048577<K):Ret (Q229.f K (n,w,())) (fa n/\cZ w/\dR n w):=by
 obtain⟨H,R,y⟩:=pb K n J r;obtain⟨M,Y,z⟩:=mc K w u r;obtain⟨I,X,O⟩:=qN K n w u r;simp only[Q229.f];rw[R];cases H with
 |false=>exact⟨false,rfl,by simp only[CO,false_iff];exact λh=>by have:=y.2 h.1;cases this⟩
 |true =>
  simp only[rb,BQ,BY,cond_false];rw[Y];cases M with
  |false=>exact⟨false,rfl,by simp only[CO,false_iff];exact λh=>by have:=z.2 h.2.1;cases this⟩
  |true =>
   simp only[rb,BQ,BY,cond_false];rw[X];exact⟨I,rfl,O.trans ⟨λh=>⟨y.1 rfl,z.1 rfl,h⟩,λh=>h.2.2⟩⟩
theorem qi (K:Nat)(n:aa)(w:ah)(r:NB n)(y:(ah.table w).length<=1048576)(z:1048577<K):∃ b,Q229.f K (n,w,())=rb b/\Q169.f K (n,w,())=rb b/\(b=true<->fa n/\cZ w/\dR n w):=by
 obtain⟨b,H,M⟩:=wz K n w r y z;obtain⟨I,u,J⟩:=BA K n w r y z;rw[H]at u;have:b=I:=by simpa[rb]using u
 subst this;exact⟨b,H,M,J⟩
theorem AG (K:Nat)(n:aa)(w:ah)(X:NB n)(u:(ah.table w).length<=1048576)(r:1048577<K):Ret (Q169.f K (n,w,())) (fa n/\cZ w/\dR n w):=by
 obtain⟨b1,e1,J⟩:=pc K n X r;obtain⟨b2,e2,M⟩:=ta K w u r;simp only[Q169.f];rw[e1];cases b1 with
 |false=>exact⟨false,rfl,by simp only[CO,false_iff];exact λh=>by have:=J.2 h.1;cases this⟩
 |true =>
  simp only[rb,BQ,BY,cond_false];rw[e2];cases b2 with
  |false=>exact⟨false,rfl,by simp only[CO,false_iff];exact λh=>by have:=M.2 h.2.1;cases this⟩
  |true =>
   have Z:=J.1 rfl;have I:=M.1 rfl;simp only[rb,BQ,BY,cond_false];obtain⟨R,h3,y⟩:=(d4 K (ah.table w) (ak n.1) u r).same (fK K (ah.table w) (ak n.1) u r) CZ;obtain⟨b4,h4,H⟩:=(d4 K (ah.table w) (ak w.2.2.1) u r).same (fK K (ah.table w) (ak w.2.2.1) u r) CZ;obtain⟨b5,h5,z⟩:=mU K n w.2.2.1;have h6:b5=(ak w.2.2.1==ak n.1):=by
    rw[B6,z,beq_iff_eq];exact⟨λh=>h.2,λh=>⟨I.2.2.1,h⟩⟩
   have hp:InP w.1 1 2:=I.1;obtain⟨b,e4,e5⟩:=qN K n w u r;refine⟨b,?_,e5.trans ⟨λh=>⟨Z,I,h⟩,λh=>h.2.2⟩⟩;rw[<- e4];simp only[Q24.f,Q168.f];rw[h5,cX K n.1,cX K w.2.2.1,lA K w.2.2.1,lB K n,h6];simp only[BQ];rw[h3,h4,H,y];simp only[BQ,bne];generalize (ak w.2.2.1==ak n.1)=O;generalize (w.2.2.2.1==n.1)=c2;generalize (w.2.2.1==n.1)=c3;generalize (w.2.1==6)=c4;generalize n.2.1=Y;generalize n.2.2.1=c6;rcases (by omega:w.1=1\/w.1=2) with h|h <;> rw[h] <;> cases O <;> cases c2 <;> cases c3 <;> cases c4 <;> cases Y <;> cases c6 <;> cases R <;> cases b4 <;> rfl
theorem x3 (K:Nat)(n:aa)(r:Int)(w:ah)(h:cz n)(u:1048577<K):Q206.f K (n,r,w,())=some ((qc r (iV n) w.2.2.2.2.2.1 w.2.2.2.2.1 n.1 (hX n w.2.2.2.2.2.1),()),(iV n,())):=by
 simp only[Q206.f,zcp4];refine (congrArg (λo=>BR o _) (wd K n w.2.2.2.2.2.1 h u)).trans ?_;simp only[BQ,Q186.f];rfl
theorem zj (K:Nat)(n:aa)(x:Int)(u:InP x 0 7):Q160.f K (n,x,())=rb (ak x==ak n.1&&x != n.1):=by
 obtain⟨b,e,h⟩:=mU K n x;simp only[Q160.f];rw[e];have r:b=(ak x==ak n.1):=by
  rw[B6,h,beq_iff_eq];exact⟨λh=>h.2,λh=>⟨u,h⟩⟩
 subst r;simp only[rb,BQ];cases ak x==ak n.1 with
 |true=>rfl
 |false=>rfl
theorem zk (K:Nat)(xs r:List af)(R:xs.length<=1048576)(O:1048577<K):Q185.f K (xs,r,())=rb (decide (xs=r)):=by
 simp only[Q185.f,Q185.pre];by_cases z:xs.length=r.length
 case neg =>
  rw[show ((BT xs:Int) != (BT r:Int))=true by simp only[bne_iff_ne,ne_eq];omega,decide_eq_false (λe=>z (by rw[e]))];rfl
 rw[show ((BT xs:Int) != (BT r:Int))=false by rw[z];simp];simp only[cond_false];have:=ct (step:=λrec a=>Q185.s0 K (xs,r,()) rec a) xs.length (λi=>(i:Int)) (λj=>∃ h:j<xs.length,xs[j]≠r[j]'(by omega)) (rb true) (λ_=>rb false) ?_ ?_ xs.length K 0 (by omega) (by omega)
 ·rcases this with ⟨I,H⟩|⟨j,_,I,⟨X,M⟩,_,H⟩
  ·rw[decide_eq_true (List.ext_getElem z λi h _=>Classical.byContradiction λu=>I i (CC _) h ⟨h,u⟩)];exact H
  ·rw[decide_eq_false (λe=>M (by subst e;rfl))];exact H
 ·intro rec i J;have y:i<r.length:=by omega
  simp only[Q185.s0];rw[bi (by omega:(i:Int)<(BT xs:Int)),ag J,ag y,ar i (by omega)];simp only[cond_true,BQ];by_cases e:xs[i]=r[i]
  ·left;refine⟨λ⟨_,h⟩=>h e,?_⟩;rw[show Ty.eqv t2 xs[i] r[i]=decide (xs[i]=r[i]) from hH _ _,decide_eq_true e];rfl
  ·right;refine⟨⟨J,e⟩,?_⟩;rw[show Ty.eqv t2 xs[i] r[i]=decide (xs[i]=r[i]) from hH _ _,decide_eq_false e];rfl
 ·intro rec;simp only[Q185.s0,aN];rfl
theorem zl (K:Nat)(t:List bY)(v:Int)(ht:t.length<=1048576)(u:Asc (λx:bY=>x.1) t)(h7:∀ d∈t,InP d.1 0 7)(O:InP v 0 7)(hK:1048577<K) :
  ∃ m,m<=t.length/\(∀ i,(h:i<t.length)->i<m->t[i].1<v)/\(∀ i,(h:i<t.length)->m<=i->v<=t[i].1)/\Q183.f K (t,v,(λz=>(Q184.f K (z.1,z.2.1,())).map λy=>y.1.1),())=some ((((m:Nat):Int),decide (∃ h:m<t.length,t[m].1=v),()),()):=by
 let ks:Nat->Int:=λi=>if h:i<t.length then t[i].1 else 0
 have r:∀ i (h:i<t.length),ks i=t[i].1:=λi h=>by simp[ks,h]
 let H:Nat->Option ((Int×Bool×Unit)×Unit):=λm=>some ((((m:Nat):Int),decide (∃ h:m<t.length,t[m].1=v),()),())
 have X:∀ d∈t,((Q184.f K (d,v,())).map λy=>y.1.1)=some (d.1-v):=λd hd=>by
  obtain⟨a1,a2⟩:=h7 d hd;obtain⟨a3,a4⟩:=O;simp only[Q184.f];rw[aJ (by omega) (by omega)];rfl
 have:=pO (step:=λrec a=>Q183.s0 K (t,v,(λz=>(Q184.f K (z.1,z.2.1,())).map λy=>y.1.1),()) rec a) (ks:=ks) (n:=t.length) (t:=v) H ht
  (λi j J R=>by
   rw[r i (by omega),r j R];exact cE.1 u i j (by omega) R J) ?_ ?_ t.length K 0 t.length (by omega) (CC _) (CB _) (by omega) (λi I=>by omega) (λi I O=>by omega)
 ·obtain⟨m,Y,h2,h3,Z⟩:=this;exact⟨m,Y,λi h I=>by rw[<- r i h];exact h2 i I,λi h I=>by rw[<- r i h];exact h3 i I h,Z⟩
 ·intro rec a b a0 hb;have M:(a+b) / 2<t.length:=by omega
  simp only[Q183.s0];rw[decide_eq_true (by omega:(a:Int)<(b:Int)),nR (by omega)];simp only[cond_true];rw[ag M];simp only[BQ,X _ (BZ M)];rw[r _ M,ar _ (by omega)];by_cases h:t[(a+b) / 2].1<v
  ·rw[if_pos h,decide_eq_true (by omega:t[(a+b) / 2].1-v<0)];rfl
  ·rw[if_neg h,decide_eq_false (by omega:¬ t[(a+b) / 2].1-v<0)];rfl
 ·intro rec a ha;simp only[Q183.s0];rw[decide_eq_false (by omega)];simp only[cond_false];by_cases h:a<t.length
  ·rw[decide_eq_true (by omega:(a:Int)<(BT t:Int)),ag h];simp only[cond_true,BQ,X _ (BZ h)];have:(t[a].1-v==0)=decide (∃ h:a<t.length,t[a].1=v):=by
    rw[B6];simp only[beq_iff_eq,decide_eq_true_eq];exact⟨λe=>⟨h,by omega⟩,λ⟨_,e⟩=>by omega⟩
   rw[this]
  ·rw[decide_eq_false (by omega:¬ (a:Int)<(BT t:Int))];simp only[cond_false,H];rw[decide_eq_false (λ⟨h',_⟩=>h h')]
theorem x4 {R:Type}(K:Nat)(n m:aa)(w:ah)(X:InP w.1 1 2)(O:(bH n w).length<=1048576)(I:m.1=n.1)(M:aa.coord m=aa.coord n)(J:1048577<K)(G:List ah->Option R) :
  (bif w.1==1 then G [] else ((Q185.f K (bH n w,ah.table w,())).bind λy=>bif y.1.1 then G [] else ((Q186.f K (m,6,w.2.2.1,())).bind λr=>(Q1.f K (bH n w,())).bind λH =>
   G [(2,r.1.1.2.1,r.1.1.2.2.1,r.1.1.2.2.2.1,r.1.1.2.2.2.2.1,r.1.1.2.2.2.2.2.1,r.1.1.2.2.2.2.2.2.1,H.1.1)])))=G (bif w.1==2&&decide (ah.table w≠bH n w) then [wo n w] else []):=by
 by_cases u:w.1=1
 ·rw[u];rfl
 ·have z:w.1=2:=by obtain⟨a,b⟩:=X;omega
  rw[show (w.1==1)=false by simpa using u,show (w.1==2)=true by simpa using z,zk K _ _ O J];simp only[cond_false,rb,BQ,CL];by_cases e:bH n w=ah.table w
  ·rw[decide_eq_true e,decide_eq_false (p:=ah.table w≠bH n w) (λh=>h e.symm)];rfl
  ·rw[decide_eq_false e,decide_eq_true (p:=ah.table w≠bH n w) (λh=>e h.symm)];simp only[cond_false,cond_true,Q186.f,BQ,Q1.f];rw[d5 (by show (bH n w).length*_<=_;omega)];simp only[BQ];unfold wo;rw[I,show m.2.2.2.2.2.2.2.2.2.2.2.2.1=aa.coord n from M]
theorem sum_i (K:Nat)(n:aa)(w:ah)(hn:NB n)(h:UpN n)(hp:InP w.1 1 2)(M:ax (ah.table w))(r:mb (ah.table w))(u:1048577<K):Q187.f K (n,w,())=some (((eW n w).2,()),((eW n w).1,())):=by
 have Y:idx (ah.table w) 0=some (ck (ah.table w)):=by
  cases ht:ah.table w with
  |nil=>rw[ht]at r;exact r.elim
  |cons f l=>rfl
 have J:=vk (tF r M);have a0:InP (ak (ck (ah.table w)).1) 0 7:=⟨J.1,Cg J.2 (by decide)⟩;have hb:mo (ah.table w) (ak n.1)=(ak (ck (ah.table w)).1==ak n.1):=by
  rw[B6,kL,beq_iff_eq];cases ht:ah.table w with
  |nil=>rw[ht]at r;exact r.elim
  |cons f l =>
   rw[ht]at r;exact⟨λh=>h f (by simp),λe g hg=>(r g hg).trans e⟩
 simp only[Q187.f,zcp4,zcp8];refine (congrArg (λo=>BR o _) Y).trans ?_;simp only[BQ];rw[lA K (ck (ah.table w)).1,lB K n];simp only[BQ];unfold eW;rw[hb];cases ak (ck (ah.table w)).1==ak n.1 with
 |true =>
  simp only[cond_true];refine (congrArg (λo=>BR o _) (vo K n (ah.table w) n.1 h.learns M.1 (bR M) h.x.me u)).trans rfl
 |false =>
  simp only[cond_false];obtain⟨a1,a2,a3⟩:=kM (n:=n) h.x.others M r;refine (congrArg (λo=>BR o _) (Aa K n (ak (ck (ah.table w)).1) hn u)).trans ?_;simp only[BQ];refine (congrArg (λo=>BR o _) (Bi K (eM (aa.others n) (ak (ck (ah.table w)).1)) (ah.table w) (pj h.x.others _) M u)).trans ?_;simp only[BQ];have y:=h.x.others;have X:=olen y;obtain⟨m,hm,lo,hi,hs⟩:=zl K (aa.others n) (ak (ck (ah.table w)).1) X y.2 (λx hx=>⟨(y.1 x hx).1.1,Cg (y.1 x hx).1.2 (by decide)⟩) a0 u;refine (congrArg (λo=>BR o _) hs).trans ?_;simp only[BQ];by_cases hf:∃ h:m<(aa.others n).length,(aa.others n)[m].1=ak (ck (ah.table w)).1
  ·rw[decide_eq_true hf];obtain⟨H,e⟩:=hf;simp only[cond_true,BW];have O:idx (aa.others n) (m:Int)=some (aa.others n)[m]:=ag H;refine (congrArg (λo=>BR o _) O).trans ?_;simp only[BQ];refine (congrArg (λo=>BR o _) O).trans ?_;simp only[BQ];rw[e];have I:(aa.others n).set m (ak (ck (ah.table w)).1,bH n w)=bh (λx:bY=>x.1) (ak (ck (ah.table w)).1,bH n w) (aa.others n):=iq (k:=λx:bY=>x.1) (x:=(ak (ck (ah.table w)).1,bH n w)) y.2 H e;have:=x4 K n (nd n ((aa.others n).set m (ak (ck (ah.table w)).1,bH n w))) w hp (bR a1) rfl rfl u (λws=>some ((ws,()),(nd n ((aa.others n).set m (ak (ck (ah.table w)).1,bH n w)),())));refine Eq.trans this ?_;rw[I];rfl
  ·rw[decide_eq_false hf];simp only[cond_false];have R:Q8.f K (aa.others n,(m:Int),[(ak (ck (ah.table w)).1,bH n w)],())=some (((aa.others n).take m++[(ak (ck (ah.table w)).1,bH n w)]++(aa.others n).drop m,()),()):=jC hm (by decide) X;refine (congrArg (λo=>BR o _) R).trans ?_;simp only[BQ];have z:(aa.others n).take m++[(ak (ck (ah.table w)).1,bH n w)]++(aa.others n).drop m=bh (λx:bY=>x.1) (ak (ck (ah.table w)).1,bH n w) (aa.others n):=gy (k:=λx:bY=>x.1) (x:=(ak (ck (ah.table w)).1,bH n w)) hm lo (λj hj Z=>by
    rcases Int.lt_or_eq_of_le (hi j hj Z) with h|h
    ·exact h
    ·exfalso;rcases Cd Z with h4|rfl
     ·have:(aa.others n)[m].1<(aa.others n)[j].1:=cE.1 y.2 m j (by omega) hj h4;have h5:=hi m (by omega) (CB _);omega
     ·exact hf ⟨hj,h.symm⟩)
   have:=x4 K n (nd n ((aa.others n).take m++[(ak (ck (ah.table w)).1,bH n w)]++(aa.others n).drop m)) w hp (bR a1) rfl rfl u (λws=>some ((ws,()),(nd n ((aa.others n).take m++[(ak (ck (ah.table w)).1,bH n w)]++(aa.others n).drop m),())));refine Eq.trans this ?_;rw[z];rfl
theorem BB (K:Nat)(n:aa)(w:ah)(Y:NB n)(h:UpN n)(y:cZ w)(J:dR n w)(z:w.2.1≠2)(H:1048577<K):Q208.f K (n,w,())=some (((bI K n w).2,()),((bI K n w).1,())):=by
 have r:=y.2.2.2.2.2.2.2.1;unfold bI;rw[if_pos ⟨y,J⟩];simp only[Q208.f,zcp4];by_cases u:w.2.1=6
 ·rw[if_pos u,show (w.2.1==6)=true by simpa using u];have X:=y.2.2.2.2.2.2.2.2;rw[if_pos u]at X;simp only[cond_true];exact (congrArg (λo=>BR o _) (sum_i K n w Y h y.1 r X H)).trans rfl
 ·rw[if_neg u,show (w.2.1==6)=false by simpa using u];obtain⟨Z,O⟩:=j8 y J u;have I:=(kp h J.2.1 r Z O).1;simp only[cond_false];refine (congrArg (λo=>BR o _) (vo K n (ah.table w) w.2.2.1 h.learns r.1 (bR r) O.1 H)).trans ?_;simp only[BQ];generalize eV n (ah.table w) w.2.2.1=m at I ⊢;have M:=y.2.2.2.2.2.1;have R:=zj K m w.2.2.2.2.2.1 M;rw[show (w.2.1==2)=false by simpa using z];unfold fg;rw[show (w.2.1==2)=false by simpa using z];cases w.2.1==1 with
  |true =>
   simp only[cond_true];refine (congrArg (λo=>BR o _) R).trans ?_;simp only[rb,BQ,bne];cases ak w.2.2.2.2.2.1==ak m.1 with
   |false=>rfl
   |true =>
    cases w.2.2.2.2.2.1==m.1 with
    |true=>rfl
    |false =>
     simp only[CL,CI,BY,cond_true,cond_false];exact (congrArg (λo=>BR o _) (x3 K m 2 w I.x.say H)).trans rfl
  |false =>
   simp only[cond_false];cases w.2.1==3 with
   |true =>
    simp only[cond_true];refine (congrArg (λo=>BR o _) R).trans ?_;simp only[rb,BQ,bne];cases ak w.2.2.2.2.2.1==ak m.1 with
    |false=>rfl
    |true =>
     cases w.2.2.2.2.2.1==m.1 with
     |true=>rfl
     |false =>
      simp only[CL,CI,BY,cond_true,cond_false];cases w.2.2.2.2.2.1==w.2.2.1 with
      |true=>rfl
      |false =>
       simp only[CI,cond_true,cond_false];exact (congrArg (λo=>BR o _) (x3 K m 1 w I.x.say H)).trans rfl
   |false =>
    simp only[cond_false];cases w.2.1==4 with
    |true =>
     simp only[cond_true];exact (congrArg (λo=>BR o _) (Af K m 5 w.2.2.1 (bR I.x.table))).trans rfl
    |false=>rfl
theorem k9 (K:Nat)(n:aa)(w:ah)(z:NB n)(Z:(ah.table w).length<=1048576)(X:w.2.1≠2)(r:1048577<K):∃ y:aa,∃ H:List ah,NB y/\H.length<=1/\(∀ x∈H,(ah.table x).length<=1048576)/\Q222.f K (n,w,())=some ((y,H,()),())/\Q213.f K (n,w,())=some ((y,H,()),()) /\
  ((fa n/\cZ w/\dR n w)->y=(bI K n w).1/\H=(bI K n w).2)/\(fa n->¬ (cZ w/\dR n w)->y=n/\H=[])/\(¬ fa n->H=[]):=by
 obtain⟨b,o1,o2,M⟩:=uv K n z r;simp only[Q222.f,Q213.f,Q212.f];rw[o1,o2];cases b with
 |false=>exact⟨tf,[],uy,by simp,by simp,rfl,rfl,λh=>(by have:=M.2 h.1;cases this),λh=>(by have:=M.2 h;cases this),λ_=>rfl⟩
 |true =>
  have I:=M.1 rfl;have J:n.2.1=true->UpN n:=λJ=>UpN.of I J
  simp only[rb,BQ,BY,cond_false];rw[mW K n z r,yJ K n z r];simp only[BQ];rw[xQ K n w J Z r];simp only[BQ,Q209.f];obtain⟨c,t2,t3⟩:=AG K n w z Z r;rw[t2];cases c with
  |false =>
   have u:¬ (cZ w/\dR n w):=λh=>by have:=t3.2 ⟨I,h⟩;cases this
   have he:bI K n w=(n,[]):=by unfold bI;rw[if_neg u]
   rw[he];simp only;rw[mW K n z r];exact⟨n,[],z,by simp,by simp,rfl,rfl,λh=>absurd h.2 u,λ_ _=>⟨rfl,rfl⟩,λh=>absurd I h⟩
  |true =>
   obtain⟨_,hW,R⟩:=t3.1 rfl;have O:=J R.1;have Y:=nZ (w:=w) O r;have h2:=mp (w:=w) O r;simp only[rb,BQ,BY,cond_false];rw[BB K n w z O hW R X r];simp only[BQ];rw[mW K _ Y.1.nb r];refine⟨(bI K n w).1,(bI K n w).2,Y.1.nb,h2.1,λx hx=>(h2.2 x hx).2,rfl,?_,λ_=>⟨rfl,rfl⟩,λ_ u=>absurd ⟨hW,R⟩ u,λh=>absurd I h⟩;simp only[Q211.f];simp
theorem uN (K:Nat)(w:ah)(r:(ah.table w).length<=1048576)(u:1048577<K):Q227.f K (w,w,())=rb true:=by
 simp only[Q227.f,beq_self_eq_true,cond_true];rw[show Ty.eqv t9 w.2.2.2.2.2.2.1 w.2.2.2.2.2.2.1=decide (w.2.2.2.2.2.2.1=w.2.2.2.2.2.2.1) from pQ _ _,decide_eq_true rfl];simp only[cond_true];exact (congrArg (λo=>BR o _) (iU K (ah.table w) r u)).trans rfl
theorem tM (K:Nat)(xs:List ah)(H:xs.length<=1048576)(u:∀ w∈xs,(ah.table w).length<=1048576)(z:1048577<K):Q228.f K (xs,xs,())=rb true:=by
 have y:Q228.l0 K (xs,xs,()) 0=rb true:=by
  refine fw (step:=λrec a=>Q228.s0 K (xs,xs,()) rec a) xs.length (λi=>(i:Int)) (rb true) ?_ ?_ (by omega)
  ·intro rec i r;simp only[Q228.s0];rw[bi (by omega:(i:Int)<(BT xs:Int)),ag r,ar i (by omega)];simp only[cond_true,BQ];exact (congrArg (λo=>BR o _) (uN K _ (u _ (BZ r)) z)).trans rfl
  ·intro rec;simp only[Q228.s0,aN];rfl
 simp only[Q228.f,Q228.pre,bne_self_eq_false,cond_false];exact y
theorem zm (K:Nat)(n:aa)(w:ah)(H:NB n)(J:(ah.table w).length<=1048576)(z:w.2.1≠2)(u:1048577<K):∃ (y:aa) (r:List ah) (b:Bool),NB y/\r.length<=1/\(∀ x∈r,(ah.table x).length<=1048576)/\Q222.f K (n,w,())=some ((y,r,()),())/\Q213.f K (n,w,())=some ((y,r,()),()) /\
  Q226.f K (y,y,())=rb true/\Q228.f K (r,r,())=rb true/\Q229.f K (n,w,())=rb b/\Q169.f K (n,w,())=rb b/\(b=true->fa n/\cZ w/\dR n w/\y=(bI K n w).1/\r=(bI K n w).2):=by
 obtain⟨y,r,M,hl,I,e1,Z,h3,_,_⟩:=k9 K n w H J z u;obtain⟨b,t1,t2,t3⟩:=qi K n w H J u;exact⟨y,r,b,M,hl,I,e1,Z,uM K y M u,tM K r (by omega) I u,t1,t2,λY=>by
  obtain⟨R,O,X⟩:=t3.1 Y;exact⟨R,O,X,h3 ⟨R,O,X⟩⟩⟩
end Go.Proofs.YtadlacffdemoiaaGreatEv
