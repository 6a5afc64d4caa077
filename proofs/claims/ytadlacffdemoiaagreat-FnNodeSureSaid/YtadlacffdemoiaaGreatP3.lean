/- What a node answers, by the specification. -/
import Derived.Test.YtadlacffdemoiaaGreatP2
import Derived.Test.YtadlacffdemoiaaGreatP1
set_option linter.unusedVariables false
set_option linter.unusedSimpArgs false
open Bool renaming not_true->BI,not_false->BU,eq_iff_iff->BZ,true_and->B3,false_eq_true->CD,not_eq_true'->CE,and_eq_true->CH,not_eq_true->CI
open Classical renaming not_not->CF
open Iff renaming rfl->CO
open Int renaming toNat->BE,toNat_natCast->BF,eq_ofNat_of_zero_le->BP,tmod->BS,toNat_zero->Bx,le_refl->Bz,fdiv->B5,toNat_of_nonneg->CB,tmod_lt_of_pos->CC,le_trans->CG,tmod_nonneg->CK,tdiv->CM
open List renaming length->BC,mem_singleton->BG,getElem_mem->BH,length_append->BK,length_set->BM,getElem_of_mem->BN,mem_append->BO,length_cons->BQ,nil_append->BR,drop_zero->BT,mem_of_mem_take->BW,mem_map->BX,length_take->BY,mem_filter->Bw,length_pos_iff->By,take_length->B4,length_drop->B6,length_map->B7,length_nil->B8,length_filter_le->B9,not_mem_nil->CJ,mem_cons->CN
open Nat renaming le_succ_of_le->BB,zero_le->BJ,le_trans->BL,le_refl->BV,le_succ->CA
open Option renaming bind_some->BA,bind->BD,map_some->CL
namespace Go.Proofs.YtadlacffdemoiaaGreatEv
open Go
theorem qv (K:Nat)(l:List Int)(t:Int)(u:l.length<=1048576):Q149.f K (l,t,())=some ((gY l t,()),()):=by
 simp only[Q149.f];rw[szb _ _ _ (by omega) (by show (BC ([]:List Int))+l.length<=_;simp;omega)];simp only[cond_true,BR];rw[szb _ _ _ (by omega) (by show l.length+[t].length<=_;simp;omega)];simp only[cond_true];have r:(l++[t]).length=l.length+1:=by simp
 show (bif decide (((l++[t]).length:Int)>3) then (bif decide (0<=wr .i64 (((l++[t]).length:Int)-3))&&decide (wr .i64 (((l++[t]).length:Int)-3)<=((l++[t]).length:Int))&&decide (((l++[t]).length:Int)<=((l++[t]).length:Int))&&true then some ((((l++[t]).take (BE ((l++[t]).length:Int))).drop (BE (wr .i64 (((l++[t]).length:Int)-3))),()),()) else none) else some ((l++[t],()),()))=_;by_cases h:l.length+1>3
 ·rw[aC (by omega) (by omega),decide_eq_true (by omega:((l++[t]).length:Int)>3),decide_eq_true (by omega:(0:Int)<=((l++[t]).length:Int)-3),decide_eq_true (by omega:((l++[t]).length:Int)-3<=((l++[t]).length:Int)),decide_eq_true (Bz _)];simp only[Bool.and_self,cond_true,gY];rw[show BE (((l++[t]).length:Int)-3)=(l++[t]).length-3 by omega,BF,B4]
 ·rw[decide_eq_false (by omega:¬ ((l++[t]).length:Int)>3)];simp only[cond_false,gY];rw[show (l++[t]).length-3=0 by omega,BT]
theorem plen {u:Int}{l:List dM}(h:er u l):l.length<=1048576:=BL (iO h.2 λx r=>(h.1 x r).1) (by decide)
theorem uk {y:Int}{l:List dM}(h:er y l)(r:Int):(dJ l r).length<=3:=by
 unfold dJ;cases u:l.find? λp=>p.1==r with
 |none=>simp
 |some p =>
  have:=(h.1 p (List.mem_of_find?_eq_some u)).2.2.2.2.1.2;show p.2.2.length<=3;omega
theorem z7 (K:Nat)(l:List dM)(r:Int)(c:dC)(t:Int)(me:Int)(h:er me l)(hK:1048577<K):Q150.f K (l,r,c,t,())=some ((oT l r c t,()),()):=by
 have hl:=plen h;have h3:=uk h r;refine rh (step:=λrec a=>Q150.s0 K (l,r,c,t,()) rec a) (λx:dM=>x.1) (r,c,gY (dJ l r) t) l h.2 (λu i=>(u,false,(i:Int),[])) (λu i=>(u,true,(i:Int),gY (dJ l r) t)) (λo=>some ((o,()),())) ?_ ?_ ?_ ?_ (by omega)
 ·intro rec u i I R z;simp only[Q150.s0];rw[bD (by omega:(i:Int)<(BC l:Int)),ag I,ar i (by omega)];simp only[cond_true,BA,BU];have J:=szb u.length 1 64 (by omega) (by omega);have z2:=szb (u++[(r,c,gY (dJ l r) t)]).length 1 64 (by omega) (by simp;omega);have O:l[i].1=r->dJ l r=l[i].2.2:=λe=>by unfold dJ;rw[oO h.2 I e];rfl
  have M:r<l[i].1->dJ l r=[]:=λe=>by
   unfold dJ;rw[nJ (k:=λp:dM=>p.1)]
   ·rfl
   intro y X;obtain⟨j,hj,rfl⟩:=BN X;by_cases a1:j<i
   ·have:=z l[j] (by rw[List.mem_take_iff_getElem];exact⟨j,by omega,rfl⟩);show l[j].1≠r;have:l[j].1<r:=this;omega
   ·have:l[i].1<=l[j].1:=by
     by_cases e:i=j
     ·subst e;exact Bz _
     ·exact Int.le_of_lt (cE.1 h.2 i j I hj (by omega))
    show l[j].1≠r;omega
  have a0:=(h.1 _ (BH I)).2.2.2.2.1.2;generalize l[i]=y at *;by_cases Z:y.1<r
  ·rw[if_pos Z,show decide (y.1>=r)=false from decide_eq_false (by omega),show (y.1 != r)=true by simp;omega,show (y.1==r)=false by simp;omega];exact (congrArg (λb=>bif b then _ else _) J).trans rfl
  ·rw[if_neg Z,show decide (y.1>=r)=true from decide_eq_true (by omega)];by_cases H:y.1=r
   ·rw[if_pos H,show (y.1 != r)=false by simpa using H,show (y.1==r)=true by simpa using H];simp only[cond_true,cond_false];rw[<- O H];refine (congrArg (λo=>BD o _) (qv K _ t (by omega))).trans ?_;exact (congrArg (λb=>bif b then _ else _) J).trans rfl
   ·rw[if_neg H,show (y.1 != r)=true by simpa using H,show (y.1==r)=false by simpa using H];simp only[cond_true,cond_false];have e:=M (by omega);rw[e]at z2 ⊢;refine (congrArg (λo=>BD o _) (qv K [] t (by simp))).trans ?_;refine (congrArg (λb=>bif b then _ else _) J).trans ?_;exact (congrArg (λb=>bif b then _ else _) z2).trans rfl
 ·intro rec u i I R Y;simp only[Q150.s0];rw[bD (by omega:(i:Int)<(BC l:Int)),ag I,ar i (by omega)];have Y:r<l[i].1:=Y;simp only[cond_true,BA,BI,cond_false];rw[show (l[i].1 != r)=true by simp;omega,show (l[i].1==r)=false by simp;omega];exact (congrArg (λb=>bif b then _ else _) (szb u.length 1 64 (by omega) (by omega))).trans rfl
 ·intro rec u R z;simp only[Q150.s0,aU,cond_false,BU,cond_true];have e:dJ l r=[]:=by
   unfold dJ;rw[nJ (k:=λp:dM=>p.1) (λy X=>by have:y.1<r:=z y X;show y.1≠r;omega)];rfl
  rw[e];refine (congrArg (λo=>BD o _) (qv K [] t (by simp))).trans ?_;exact (congrArg (λb=>bif b then _ else _) (szb u.length 1 64 (by omega) (by omega))).trans rfl
 ·intro rec u R;simp only[Q150.s0,aU,cond_false,BI]
def tj (n u r:Int):Int:=if n<u then u else if n>r then r else n
theorem zn (K:Nat)(n z y:Int):Q148.f K (n,z,y,())=some ((tj n z y,()),()):=by
 simp only[Q148.f,tj];by_cases r:n<z
 ·rw[decide_eq_true r,if_pos r];rfl
 ·rw[decide_eq_false r,if_neg r];by_cases u:n>y
  ·rw[decide_eq_true u,if_pos u];rfl
  ·rw[decide_eq_false u,if_neg u];rfl
theorem z8 {n u r:Int}(h:u<=r):InP (tj n u r) u r:=by
 unfold tj;split
 ·exact⟨Bz _,h⟩
 ·split
  ·exact⟨h,Bz _⟩
  ·exact⟨by omega,by omega⟩
def xq (n:aa):Int:=tj ((ch n-(aa.probe n).2.1)*1000+500) 1 60000
noncomputable def qw (K:Nat)(w:ao)(c:dC)(p:dM):dC:=bif p.1==w.2.2.1 then pN K c (ao.coord w) (sd K p.2.2) w.2.2.2.2.1 else c
def km (n:aa)(w:ao):List dM:=oT (aa.places n) w.2.2.1 (ao.coord w) (xq n)
def qx (n:aa)(w:ao):Bool:=!decide ((aa.probe n).1<0)&&(aa.probe n).1==w.2.2.1&&(aa.probe n).2.2.1==w.2.2.2.2.1&&w.2.2.2.2.2.1==w.2.2.1
noncomputable def fe (K:Nat)(n:aa)(w:ao):aa:=bif qx n w then pK n ((km n w).foldl (qw K w) (aa.coord n)) (km n w) else n
theorem uN {K:Nat}{w:ao}{c:dC}{p:dM}(r:cJ c)(u:1048577<K):cJ (qw K w c p):=by
 unfold qw;cases p.1==w.2.2.1 with
 |false=>exact r
 |true=>exact (xn K c _ _ _ r u).2
theorem tk {n:aa}(h:UpX n)(H:¬ (aa.probe n).1<0):(aa.probe n).1≠n.1/\InP (aa.probe n).1 0 7/\ak (aa.probe n).1=ak n.1/\InP (aa.probe n).2.1 0 (ch n):=by
 have r:=h.probe;unfold c9 at r;rw[if_neg (by omega)]at r;obtain⟨y,⟨f,u,e⟩,z,_⟩:=r;exact⟨y,e ▸ (h.table.1 f u).1,e ▸ h.site f u,z⟩
theorem uO {n:aa}{w:ao}(h:UpX n)(J:cJ (ao.coord w))(u:qx n w=true):er n.1 (km n w):=by
 simp only[qx,CH,CE,decide_eq_false_iff_not,beq_iff_eq]at u;obtain⟨⟨⟨H,I⟩,O⟩,M⟩:=u;obtain⟨z,r,y,_⟩:=tk h H;rw[I]at z r y;exact vK h.places r y z J (z8 (by decide))
theorem ack_s (K:Nat)(n:aa)(w:ao)(h:UpN n)(hw:cJ (ao.coord w))(I:1048577<K):Q161.f K (n,w,())=some ((fe K n w,()),()):=by
 simp only[Q161.f,Q161.pre,zc00556];have H:qx n w=(!decide ((aa.probe n).1<0)&&(aa.probe n).1==w.2.2.1&&(aa.probe n).2.2.1==w.2.2.2.2.1&&w.2.2.2.2.2.1==w.2.2.1):=rfl;by_cases r:(aa.probe n).1<0
 ·rw[show decide (n.2.2.2.2.2.2.2.2.2.2.1.1<0)=true from decide_eq_true r];rw[show fe K n w=n by unfold fe;rw[H,decide_eq_true r];rfl];rfl
 ·rw[show decide (n.2.2.2.2.2.2.2.2.2.2.1.1<0)=false from decide_eq_false r];cases u:(aa.probe n).1==w.2.2.1 with
  |false =>
   rw[show fe K n w=n by unfold fe;rw[H,decide_eq_false r,u];rfl];rw[show (n.2.2.2.2.2.2.2.2.2.2.1.1 != w.2.2.1)=true by unfold bne;rw[show (n.2.2.2.2.2.2.2.2.2.2.1.1==w.2.2.1)=false from u];rfl];rfl
  |true =>
   rw[show (n.2.2.2.2.2.2.2.2.2.2.1.1 != w.2.2.1)=false by unfold bne;rw[show (n.2.2.2.2.2.2.2.2.2.2.1.1==w.2.2.1)=true from u];rfl];cases z:(aa.probe n).2.2.1==w.2.2.2.2.1 with
   |false =>
    rw[show fe K n w=n by unfold fe;rw[H,decide_eq_false r,u,z];rfl];rw[show (n.2.2.2.2.2.2.2.2.2.2.1.2.2.1 != w.2.2.2.2.1)=true by unfold bne;rw[show (n.2.2.2.2.2.2.2.2.2.2.1.2.2.1==w.2.2.2.2.1)=false from z];rfl];rfl
   |true =>
    rw[show (n.2.2.2.2.2.2.2.2.2.2.1.2.2.1 != w.2.2.2.2.1)=false by unfold bne;rw[show (n.2.2.2.2.2.2.2.2.2.2.1.2.2.1==w.2.2.2.2.1)=true from z];rfl];cases J:w.2.2.2.2.2.1==w.2.2.1 with
    |false =>
     rw[show fe K n w=n by unfold fe;rw[H,decide_eq_false r,u,z,J];rfl];rw[show (w.2.2.2.2.2.1 != w.2.2.1)=true by unfold bne;rw[J];rfl];rfl
    |true =>
     have X:qx n w=true:=by rw[H,decide_eq_false r,u,z,J];rfl
     rw[show (w.2.2.2.2.2.1 != w.2.2.1)=false by unfold bne;rw[J];rfl];have Z:=(tk h.x r).2.2.2;have hn:=h.now1;have R:=uO h.x hw X;simp only[cond_false];rw[show wr .i64 (wr .i64 (wr .i64 (n.2.2.2.2.2.1-n.2.2.2.2.2.2.2.2.2.2.1.2.1)*1000)+500)=(ch n-(aa.probe n).2.1)*1000+500 by
      obtain⟨p1,p2⟩:=Z;show wr .i64 (wr .i64 (wr .i64 (ch n-(aa.probe n).2.1)*1000)+500)=_;rw[aC (n:=ch n-_) (by omega) (by omega),aC (n:=_*1000) (by omega) (by omega),aC (by omega) (by omega)]]
     rw[zn];simp only[BA];refine (congrArg (λo=>BD o _) (z7 K (aa.places n) w.2.2.1 (ao.coord w) (xq n) n.1 h.x.places I)).trans ?_;simp only[BA];rw[show fe K n w=pK n ((km n w).foldl (qw K w) (aa.coord n)) (km n w) by unfold fe;rw[X];rfl];show Q161.l0 K (n,w,()) (0,(aa.coord n).1,(aa.coord n).2.1,(aa.coord n).2.2.1,(aa.coord n).2.2.2,km n w)=_;have hl:=plen R;refine kA (step:=λrec a=>Q161.s0 K (n,w,()) rec a) (km n w) (qw K w) cJ (λc i=>((i:Int),c.1,c.2.1,c.2.2.1,c.2.2.2,km n w)) (λc=>some ((pK n c (km n w),()),())) (aa.coord n) h.x.coord ?_ ?_ (by omega)
     ·intro rec c i O M;refine⟨?_,uN M I⟩;simp only[Q161.s0,zc00556,zcp8];rw[bD (by omega:(i:Int)<(BC (km n w):Int)),BF,ag O,ar i (by omega)];simp only[cond_true,BA];have Y:=(R.1 _ (BH O)).2.2.2.2.1.2;generalize (km n w)[i]=y at *;unfold qw;cases y.1==w.2.2.1 with
      |false=>rfl
      |true =>
       simp only[cond_true];refine (congrArg (λo=>BD o _) (med_s K y.2.2 (by omega) I)).trans ?_;refine (congrArg (λo=>BD o _) (xn K c (ao.coord w) (sd K y.2.2) w.2.2.2.2.1 M I).1).trans ?_;rfl
     ·intro rec c M;simp only[Q161.s0,zc00556,zcp8,aU,cond_false];rfl
theorem AV {K:Nat}{n:aa}{w:ao}(h:UpN n)(y:cJ (ao.coord w))(r:1048577<K):UpN (fe K n w)/\(fe K n w).1=n.1/\(fe K n w).2.2.1=n.2.2.1:=by
 unfold fe;cases z:qx n w with
 |false=>exact⟨h,rfl,rfl⟩
 |true=>exact⟨h.heard (l7 (Inv:=cJ) h.x.coord λc p _ u=>uN u r) (uO h.x y z),rfl,rfl⟩
def lB (n:aa)(w:ao):Prop:=n.2.1=true/\n.2.2.1=false/\w.2.2.2.1=n.1/\w.2.2.1≠n.1 /\
 (if w.1=2 then w.2.1=6/\ak w.2.2.1≠ak n.1/\(bP (ao.table w) (ak n.1)\/bP (ao.table w) (ak w.2.2.1)) else ak w.2.2.1=ak n.1/\(w.2.1≠6\/¬ bP (ao.table w) (ak n.1)))
theorem z9 (K:Nat)(n:aa)(w:ao)(H:(ao.table w).length<=1048576)(z:1048577<K):Ret (Q131.f K (n,w,())) (lB n w):=by
 refine (Ret.cndN (P:=¬ n.2.1=true) (b:=!n.2.1) (by simp) λ_=>Ret.cndN (P:=n.2.2.1=true) (b:=n.2.2.1) CO λ_=>Ret.cndN (P:=w.2.2.2.1≠n.1) (b:=w.2.2.2.1 != n.1) (by simp) λ_=>Ret.cndN (P:=w.2.2.1=n.1) (b:=w.2.2.1==n.1) (by simp) λ_ =>
  (?_:Ret _ (if w.1=2 then w.2.1=6/\ak w.2.2.1≠ak n.1/\(bP (ao.table w) (ak n.1)\/bP (ao.table w) (ak w.2.2.1)) else ak w.2.2.1=ak n.1/\(w.2.1≠6\/¬ bP (ao.table w) (ak n.1))))).iff ?_
 ·refine Ret.vl (ez K n.1) ?_;obtain⟨J,I,y⟩:=gn K (ao.table w) (ak n.1) H z;obtain⟨O,M,R⟩:=gn K (ao.table w) (ak w.2.2.1) H z;by_cases r:w.1=2
  ·rw[show (w.1==2)=true by simpa using r,if_pos r];refine Ret.cnd (P:=w.2.1=6) (b:=w.2.1==6) (by simp) λ_=>?_
   refine Ret.cnd (P:=ak w.2.2.1≠ak n.1) (b:=ak w.2.2.1 != ak n.1) (by simp) λ_=>Ret.vl I ?_
   cases J with
   |true=>exact Ret.yes (.inl (y.1 rfl))
   |false =>
    refine Ret.vl M ?_;exact Ret.of (b:=O) (R.trans ⟨.inr,λh=>h.resolve_left λh=>by have:=y.2 h;cases this⟩)
  ·rw[show (w.1==2)=false by simpa using r,if_neg r];refine Ret.cnd (P:=ak w.2.2.1=ak n.1) (b:=ak w.2.2.1==ak n.1) (by simp) λ_=>?_
   by_cases u:w.2.1=6
   ·show Ret (bif w.2.1 != 6 then _ else _) _;rw[show (w.2.1 != 6)=false by simpa using u];refine Ret.vl I (Ret.of (b:=!J) ?_);rw[CE,<- CI,y];exact⟨.inr,λh=>h.resolve_left λh=>h u⟩
   ·show Ret (bif w.2.1 != 6 then _ else _) _;rw[show (w.2.1 != 6)=true by simpa using u];exact Ret.yes (.inl u)
 ·unfold lB;rw[CF,CI,CF]
def pP (u:Int)(n:aa)(to y r:Int)(t:List af):ao:=(1,u,n.1,to,y,r,aa.coord n,t)
theorem pQ (K:Nat)(n:aa)(u to y r:Int)(t:List af)(z:t.length<=1048576):Q143.f K (n,u,to,y,r,t,())=some ((pP u n to y r t,()),()):=by
 simp only[Q143.f];rw[szb _ _ _ (by omega) (by show (BC ([]:List af))+t.length<=_;simp;omega)];rfl
def mf (t:List af)(s:Int):Bool:=t.all λf=>ak f.1==s
theorem kG {t:List af}{s:Int}:mf t s=true<->bP t s:=by simp[mf,bP]
def ck (t:List af):af:=(t.head?).getD (0,0,0,false)
def bJ (n:aa)(w:ao):List af:=eX (eG (aa.others n) (ak (ck (ao.table w)).1)) (ao.table w)
def vN (n:aa)(w:ao):ao:=(2,6,n.1,w.2.2.1,0,n.1,aa.coord n,bJ n w)
def sumN (n:aa)(w:ao):aa:=mT n (bi (λx:b8=>x.1) (ak (ck (ao.table w)).1,bJ n w) (aa.others n))
def eQ (n:aa)(w:ao):aa×List ao:=bif mf (ao.table w) (ak n.1) then (cY n (ao.table w) n.1,[]) else
 (sumN n w,bif w.1==2&&decide (ao.table w≠bJ n w) then [vN n w] else [])
theorem pR:∀ {fs t:List af} {g:af},g∈eX t fs->g∈t\/g∈fs
 |[],_,_,h=>.inl h
 |f::fs,t,g,h=>by
  rcases pR (fs:=fs) h with h|h
  ·have h:g∈(bS t f).1:=h;rcases gV t f with e|e
   ·rw[e]at h;exact .inl h
   ·rw[e]at h;rcases aX.1 h with rfl|⟨h,_⟩
    ·exact .inr (by simp)
    ·exact .inl h
  ·exact .inr (by simp[h])
theorem pS:∀ {fs t:List af} {g:af},g∈t->∃ z∈eX t fs,z.1=g.1
 |[],_,g,h=>⟨g,h,rfl⟩
 |f::fs,t,g,h=>by
  obtain⟨J,u,H⟩:=mN (f:=f) h;obtain⟨I,y,r⟩:=pS (fs:=fs) u;exact⟨I,y,r.trans H⟩
theorem ul {t:List af}(H:Asc (λg:af=>g.1) t)(f:af):∃ g∈(bS t f).1,g.1=f.1:=by
 by_cases h:∃ g∈t,g.1=f.1
 ·obtain⟨g,r,e⟩:=h;obtain⟨z,u,y⟩:=mN (f:=f) r;exact⟨z,u,y.trans e⟩
 ·rw[ii λg r e=>h ⟨g,r,e⟩];exact⟨f,aX.2 (.inl rfl),rfl⟩
theorem kH {n:aa}{w:ao}(h:da n.1 (aa.others n))(O:ax (ao.table w))(u:lZ (ao.table w)):ax (bJ n w)/\bJ n w≠[]/\bP (bJ n w) (ak (ck (ao.table w)).1):=by
 have z:=oU h (ak (ck (ao.table w)).1);refine⟨qY z O.1,?_,?_⟩
 ·unfold bJ;cases y:ao.table w with
  |nil=>rw[y]at u;exact u.elim
  |cons f l =>
   obtain⟨g,J,_⟩:=ul (f:=f) (t:=eG (aa.others n) (ak (ck (f::l)).1)) (by rw[y]at z;exact z.2);obtain⟨R,H,_⟩:=pS (fs:=l) J;exact List.ne_nil_of_mem H
 ·intro g r;rcases pR r with r|r
  ·rcases qT (l:=aa.others n) (s:=ak (ck (ao.table w)).1) with e|⟨x,I,M,e⟩
   ·rw[e]at r;cases r
   ·rw[e]at r;rw[<- M];exact (h.1 x I).2.2.2.2 g r
  ·cases y:ao.table w with
   |nil=>rw[y]at u;exact u.elim
   |cons f l =>
    rw[y]at u r;exact u g r
theorem uP {x:Int}(h:InP x 0 7):InP (ak x) 0 1:=by
 rw[gv h];obtain⟨r,u⟩:=h;constructor <;> omega
theorem tm {t:List af}(u:lZ t)(r:ax t):InP (ck t).1 0 7:=by
 cases t with
 |nil=>exact u.elim
 |cons f l=>exact (r.1 f (by simp)).1
theorem xt (K:Nat)(n:aa)(w:ao)(h:UpN n)(r:ax (ao.table w))(z:lZ (ao.table w))(u:1048577<K):Q144.f K (n,w,())=some (((eQ n w).1,(eQ n w).2,()),()):=by
 simp only[Q144.f];rw[ez K n.1];simp only[BA];obtain⟨H,O,J⟩:=gn K (ao.table w) (ak n.1) (bZ r) u;have I:mf (ao.table w) (ak n.1)=H:=by rw[BZ,kG,J]
 unfold eQ;rw[I];refine (congrArg (λo=>BD o _) O).trans ?_;simp only[rb,BA];cases H with
 |true =>
  simp only[cond_true];refine (congrArg (λo=>BD o _) (uH K n (ao.table w) n.1 h.learns r.1 (bZ r) h.x.me u)).trans rfl
 |false =>
  simp only[cond_false];obtain⟨R,X,Y⟩:=kH (n:=n) h.x.others r z;have y:idx (ao.table w) 0=some (ck (ao.table w)):=by
   cases M:ao.table w with
   |nil=>rw[M]at z;exact z.elim
   |cons f l=>rfl
  refine (congrArg (λo=>BD o _) y).trans ?_;simp only[BA];rw[ez K];simp only[BA];refine (congrArg (λo=>BD o _) (xp K n (ak (ck (ao.table w)).1) (ao.table w) h.x.others r u)).trans ?_;simp only[BA];refine (congrArg (λo=>BD o _) (sum_s K n (ak (ck (ao.table w)).1) (bJ n w) h.x.others u)).trans ?_;simp only[BA];cases w.1==2 with
  |false=>rfl
  |true =>
   simp only[cond_true,B3];refine (congrArg (λo=>BD o _) (yJ K (ao.table w) (bJ n w) (bZ r) u)).trans ?_;simp only[rb,BA];cases decide (ao.table w≠bJ n w) with
   |false=>rfl
   |true =>
    simp only[cond_true];refine (congrArg (λo=>BD o _) (pQ K (sumN n w) 6 w.2.2.1 0 n.1 (bJ n w) (bZ R))).trans rfl
theorem vO {n:aa}{w:ao}(h:UpN n)(H:n.2.2.1=false)(u:ax (ao.table w))(r:lZ (ao.table w)):UpN (eQ n w).1/\(eQ n w).1.1=n.1/\(eQ n w).1.2.2.1=false:=by
 unfold eQ;cases y:mf (ao.table w) (ak n.1) with
 |true=>exact kl h H u (kG.1 y) (fq.me h.x.me)
 |false =>
  obtain⟨M,I,J⟩:=kH (n:=n) h.x.others u r;refine⟨h.setOthers (vJ h.x.others (uP (tm r u)) (λe=>?_) I M J),rfl,H⟩;have:bP (ao.table w) (ak n.1):=by
   cases z:ao.table w with
   |nil=>rw[z]at r;exact r.elim
   |cons f l=>rw[z]at r e;rw[<- e];exact r
  rw[kG.2 this]at y;cases y
noncomputable def fa (K:Nat)(n:aa)(w:ao):aa×List ao :=
 bif w.2.1==1 then (bif ak w.2.2.2.2.2.1 != ak n.1 then (n,[]) else bif w.2.2.2.2.2.1==n.1 then (n,[]) else (iQ n,[pP 2 (iQ n) w.2.2.2.2.2.1 w.2.2.2.2.1 n.1 (gX n w.2.2.2.2.2.1)]))
 else bif w.2.1==3 then (bif ak w.2.2.2.2.2.1 != ak n.1 then (n,[]) else bif w.2.2.2.2.2.1==n.1 then (n,[]) else bif w.2.2.2.2.2.1==w.2.2.1 then (n,[]) else (iQ n,[pP 1 (iQ n) w.2.2.2.2.2.1 w.2.2.2.2.1 w.2.2.1 (gX n w.2.2.2.2.2.1)]))
 else bif w.2.1==4 then (n,[pP 5 n w.2.2.1 0 n.1 (aa.table n)]) else bif w.2.1==2 then (fe K n w,[]) else (n,[])
theorem yK (K:Nat)(n:aa)(w:ao)(h:UpN n)(z:cJ (ao.coord w))(r:1048577<K):Q162.f K (n,w,())=some (((fa K n w).1,(fa K n w).2,()),()):=by
 simp only[Q162.f];rw[ez K n.1];simp only[BA];have y:=uL K n w.2.2.2.2.2.1 h.x.say r;have u:=bZ (nM h.x.say w.2.2.2.2.2.1);unfold fa;cases w.2.1==1 with
 |true =>
  simp only[cond_true];rw[ez K];simp only[BA];cases ak w.2.2.2.2.2.1 != ak n.1 with
  |true=>rfl
  |false =>
   simp only[cond_false];cases w.2.2.2.2.2.1==n.1 with
   |true=>rfl
   |false =>
    simp only[cond_false];refine (congrArg (λo=>BD o _) y).trans ?_;simp only[BA];refine (congrArg (λo=>BD o _) (pQ K (iQ n) 2 w.2.2.2.2.2.1 w.2.2.2.2.1 n.1 _ u)).trans rfl
 |false =>
  simp only[cond_false];cases w.2.1==3 with
  |true =>
   simp only[cond_true];rw[ez K];simp only[BA];cases ak w.2.2.2.2.2.1 != ak n.1 with
   |true=>rfl
   |false =>
    simp only[cond_false];cases w.2.2.2.2.2.1==n.1 with
    |true=>rfl
    |false =>
     simp only[cond_false];cases w.2.2.2.2.2.1==w.2.2.1 with
     |true=>rfl
     |false =>
      simp only[cond_false];refine (congrArg (λo=>BD o _) y).trans ?_;simp only[BA];refine (congrArg (λo=>BD o _) (pQ K (iQ n) 1 w.2.2.2.2.2.1 w.2.2.2.2.1 w.2.2.1 _ u)).trans rfl
  |false =>
   simp only[cond_false];cases w.2.1==4 with
   |true=>exact (congrArg (λo=>BD o _) (pQ K n 5 w.2.2.1 0 n.1 (aa.table n) (bZ h.x.table))).trans rfl
   |false =>
    simp only[cond_false];cases w.2.1==2 with
    |true=>exact (congrArg (λo=>BD o _) (ack_s K n w h z r)).trans rfl
    |false=>rfl
theorem xu {K:Nat}{n:aa}{w:ao}(h:UpN n)(u:cJ (ao.coord w))(r:1048577<K):UpN (fa K n w).1/\(fa K n w).1.1=n.1/\(fa K n w).1.2.2.1=n.2.2.1:=by
 unfold fa;cases w.2.1==1 <;> cases w.2.1==3 <;> cases w.2.1==4 <;> cases w.2.1==2 <;> cases ak w.2.2.2.2.2.1 != ak n.1 <;> cases w.2.2.2.2.2.1==n.1 <;> cases w.2.2.2.2.2.1==w.2.2.1 <;> first|exact⟨h,rfl,rfl⟩|exact⟨h.way,rfl,rfl⟩|exact AV h u r
open Classical in
noncomputable def cL (K:Nat)(n:aa)(w:ao):aa×List ao :=
 if fb w/\lB n w then (if w.2.1=6 then eQ n w else fa K (cY n (ao.table w) w.2.2.1) w) else (n,[])
theorem jT {n:aa}{w:ao}(H:fb w)(h:lB n w)(z:w.2.1≠6):bP (ao.table w) (ak n.1)/\fq n w.2.2.1:=by
 obtain⟨_,_,w3,_,_,_,_,_,u⟩:=H;rw[if_neg z]at u;obtain⟨_,_,_,_,r⟩:=h;by_cases y:w.1=2
 ·rw[if_pos y]at r;exact absurd r.1 z
 ·rw[if_neg y]at r;exact⟨r.1 ▸ u,w3,r.1⟩
theorem AW (K:Nat)(n:aa)(w:ao)(h:n.2.1=true->UpN n)(I:(ao.table w).length<=1048576)(y:1048577<K):Q163.f K (n,w,())=some (((cL K n w).1,(cL K n w).2,()),()):=by
 simp only[Q163.f];obtain⟨b1,e1,R⟩:=sI K w I y;obtain⟨b2,e2,M⟩:=z9 K n w I y;rw[e1];cases b1 with
 |false =>
  unfold cL;rw[if_neg λh=>by have:=R.2 h.1;cases this];rfl
 |true =>
  have z:=R.1 rfl;simp only[rb,BA,BI,cond_false];refine (congrArg (λo=>BD o _) e2).trans ?_;cases b2 with
  |false =>
   unfold cL;rw[if_neg λh=>by have:=M.2 h.2;cases this];rfl
  |true =>
   have H:=M.1 rfl;have J:=h H.1;simp only[rb,BA,BI,cond_false];unfold cL;rw[if_pos ⟨z,H⟩];have r:=z.2.2.2.2.2.2.2.1;by_cases u:w.2.1=6
   ·rw[if_pos u,show (w.2.1==6)=true by simpa using u];have X:=z.2.2.2.2.2.2.2.2;rw[if_pos u]at X;exact (congrArg (λo=>BD o _) (xt K n w J r X y)).trans rfl
   ·rw[if_neg u,show (w.2.1==6)=false by simpa using u];obtain⟨Z,O⟩:=jT z H u;have Y:=(kl J H.2.1 r Z O).1;refine (congrArg (λo=>BD o _) (uH K n (ao.table w) w.2.2.1 J.learns r.1 I O.1 y)).trans ?_;exact (congrArg (λo=>BD o _) (yK K _ w Y z.2.2.2.2.2.2.1 y)).trans rfl
theorem qy {K:Nat}{n:aa}{w:ao}(h:UpN n)(M:1048577<K):UpN (cL K n w).1/\(cL K n w).1.1=n.1/\(cL K n w).1.2.2.1=n.2.2.1:=by
 unfold cL;split
 ·rename_i O;obtain⟨y,r⟩:=O;have u:=y.2.2.2.2.2.2.2.1;split
  ·rename_i H;have J:=y.2.2.2.2.2.2.2.2;rw[if_pos H]at J;rw[r.2.1];exact vO h r.2.1 u J
  ·rename_i H;obtain⟨R,X⟩:=jT y r H;have z:=kl h r.2.1 u R X;have I:=xu (w:=w) z.1 y.2.2.2.2.2.2.1 M;exact⟨I.1,I.2.1.trans z.2.1,I.2.2.trans (z.2.2.trans r.2.1.symm)⟩
 ·exact⟨h,rfl,rfl⟩
theorem pT {K:Nat}{n:aa}{w:ao}(h:UpN n)(hK:1048577<K):(cL K n w).2.length<=1/\∀ x∈(cL K n w).2,InP x.2.2.2.1 0 7/\(ao.table x).length<=1048576:=by
 unfold cL;split
 ·rename_i O;obtain⟨u,I⟩:=O;have y:=u.2.2.2.2.2.2.2.1;split
  ·rename_i z;have M:=u.2.2.2.2.2.2.2.2;rw[if_pos z]at M;obtain⟨a1,a2,a3⟩:=kH (n:=n) h.x.others y M;unfold eQ;cases mf (ao.table w) (ak n.1) with
   |true=>exact⟨by simp,by simp⟩
   |false =>
    simp only[cond_false];cases w.1==2&&decide (ao.table w≠bJ n w) with
    |false=>exact⟨by simp,by simp⟩
    |true=>exact⟨by simp,λx r=>by rw[BG.1 r];exact⟨u.2.2.1,bZ a1⟩⟩
  ·rename_i z;obtain⟨X,Y⟩:=jT u I z;have J:=kl h I.2.1 y X Y;have Z:=bZ (nM J.1.x.say w.2.2.2.2.2.1);have H:=bZ J.1.x.table;have w3:=u.2.2.1;have R:=u.2.2.2.2.2.1;generalize cY n (ao.table w) w.2.2.1=m at *;unfold fa;cases w.2.1==1 <;> cases w.2.1==3 <;> cases w.2.1==4 <;> cases w.2.1==2 <;> cases ak w.2.2.2.2.2.1 != ak m.1 <;> cases w.2.2.2.2.2.1==m.1 <;> cases w.2.2.2.2.2.1==w.2.2.1 <;>
    first|exact⟨BV _,λx r=>by rw[BG.1 r];exact⟨R,Z⟩⟩|exact⟨BV _,λx r=>by rw[BG.1 r];exact⟨w3,H⟩⟩|exact⟨BJ _,λx r=>nomatch r⟩
 ·exact⟨by simp,by simp⟩
structure kY (n m:aa):Prop where
 ok:cz m
 me:m.1=n.1
 now_:m.2.2.2.2.2.1=n.2.2.2.2.2.1
 seq:m.2.2.2.2.2.2.1=n.2.2.2.2.2.2.1
 turn:m.2.2.2.2.2.2.2.1=n.2.2.2.2.2.2.2.1
 rest:m.2.2.2.2.2.2.2.2.2.2.2.2=n.2.2.2.2.2.2.2.2.2.2.2.2
 by_:∀ d∈aa.doubts m,d.2.2.2.length<=1048576
theorem kY.say {n m:aa}(h:kY n m){f:af}(b:Int)(y:bq f):kY n (sayOf m f b):=by
 obtain⟨H,_,_,_,_,I,z,u,_,r⟩:=iP m f b;exact⟨ij h.ok y,H.trans h.me,I.trans h.now_,z.trans h.seq,u.trans h.turn,r.trans h.rest,yp h.by_⟩
theorem kY.setP {n m:aa}(h:kY n m)(p:af):kY n (setP m p):=⟨h.ok.setP p,h.me,h.now_,h.seq,h.turn,h.rest,h.by_⟩
theorem kY.nb {n m:aa}(h:kY n m)(u:NB n):NB m:=by
 have y:aa.places m=aa.places n:=congrArg (λr=>r.2.1) h.rest;have z:aa.others m=aa.others n:=congrArg (λr=>r.2.2) h.rest;exact⟨h.ok.lt,h.ok.lc,h.ok.ld,h.by_,by rw[y];exact u.places,by rw[y];exact u.trips,by rw[z];exact u.others,by rw[z];exact u.facts⟩
theorem kY.far {n m:aa}(h:kY n m)(y:nN n):nN m:=by
 have u:aa.others m=aa.others n:=congrArg (λr=>r.2.2) h.rest;exact⟨by rw[u];exact y.short,by rw[u];exact y.table⟩
theorem um {n:aa}(h:∀ k,k<8->¬ hH n k):iR n=none:=by
 unfold iR;rw[List.find?_eq_none];intro x r;obtain⟨k,u,rfl⟩:=BX.1 r;have:=h k (by simpa using u);unfold hH at this;simpa using this
theorem un {n:aa}{k:Nat}(u:k<8)(r:hH n k)(h:∀ j,j<k->¬ hH n j):iR n=some (cK n k):=by
 unfold iR;rw[List.find?_map,List.find?_range_eq_some.2 ⟨?_,by simpa using u,λj y=>?_⟩]
 ·rfl
 ·unfold hH at r;simpa using r
 ·have:=h j y;unfold hH at this;simpa[Classical.or_iff_not_imp_left]using this
theorem uQ (K:Nat)(n:aa)(h:cz n)(O:tc n)(J:1048577<K):Q201.f K (n,())=some (((dS n).1,(dS n).2,()),()):=by
 obtain⟨⟨Y,Z⟩,⟨t0,t1⟩⟩:=O;obtain⟨to,R,H⟩:=zS K n h t0 t1 J;simp only[Q201.f,zcp4];rw[R];simp only[BA,dS];by_cases r:jF n>=999999
 ·rw[decide_eq_true r,show decide (n.2.2.2.2.2.2.1>=999999)=true from decide_eq_true r];cases decide (to<0) <;> rfl
 ·rw[decide_eq_false r,show decide (n.2.2.2.2.2.2.1>=999999)=false from decide_eq_false r];simp only[cond_false];rcases H with ⟨rfl,z⟩|⟨k,X,I,u,rfl⟩
  ·rw[um z];rfl
  ·rw[un X I u];have M:0<=cK n k/\cK n k<8:=⟨CK _ (by omega),CC _ (by omega)⟩;rw[decide_eq_false (by omega:¬ cK n k<0)];simp only[cond_false];rw[uL K n _ h J];simp only[BA];have y:wr .i64 (jF n+1)=jF n+1:=aC (by omega) (by omega);rw[show wr .i64 ((iQ n).2.2.2.2.2.2.1+1)=n.2.2.2.2.2.2.1+1 from y,aC (n:=cK n k+1) (by omega) (by omega)];simp only[Q143.f];rw[szb _ _ _ (by omega) (by have:=bZ (nM h (cK n k));simp;omega)];rfl
def hI (w:ao):Prop:=InP w.2.2.2.1 0 7/\(ao.table w).length<=1048576
theorem tn {n:aa}(y:ax (aa.table n)):(dp n).2.length<=2/\∀ w∈(dp n).2,hI w:=by
 have r:([]:List ao).length<=2/\∀ w∈([]:List ao),hI w:=⟨by simp,by simp⟩;unfold dp;cases (aa.probe n).1==-1 with
 |true=>exact r
 |false =>
  cases !eA (aP (aa.table n) (aa.probe n).1) with
  |true=>exact r
  |false =>
   cases decide (n.2.2.2.2.2.1-(aa.probe n).2.1>=4) with
   |true=>exact r
   |false =>
    cases decide (n.2.2.2.2.2.1-(aa.probe n).2.1>=2) with
    |false=>exact r
    |true =>
     cases !(aa.probe n).2.2.2 with
     |false=>exact r
     |true =>
      simp only[cond_true,cond_false];refine⟨by rw[B7];exact List.length_take_le _ _,λw z=>?_⟩;obtain⟨to,u,rfl⟩:=BX.1 z;obtain⟨f,H,rfl⟩:=BX.1 (BW u);exact⟨(y.1 f (Bw.1 H).1).1,BJ _⟩
theorem zo {n:aa}(h:cz n):(dS n).2.length<=1/\∀ w∈(dS n).2,hI w:=by
 have r:([]:List ao).length<=1/\∀ w∈([]:List ao),hI w:=⟨by simp,by simp⟩;unfold dS;cases decide (jF n>=999999) with
 |true=>exact r
 |false =>
  simp only[cond_false];cases y:iR n with
  |none=>exact r
  |some to =>
   refine⟨by simp,λw u=>?_⟩;rw[BG.1 u];obtain⟨z,H,I⟩:=ek h.table (gW (ra y).2);exact⟨H ▸ z.1,bZ (nM h to)⟩
theorem AX {n:aa}(I:da n.1 (aa.others n)){s d:Int}(H:InP s 0 1):InP (mb n s d) 0 7:=by
 unfold mb;cases r:decide (fF (eG (aa.others n) s)≠[])&&bC .i64 d 4==0 with
 |true =>
  rw[CH,decide_eq_true_eq]at r;have:=(im (d:=B5 d (2 ^ 3)) r.1).2.2;unfold fF at this;obtain⟨f,z,e⟩:=BX.1 (BW this);simp only[cond_true];show InP (gM (fF (eG (aa.others n) s)) (B5 d (2 ^ 3))) 0 7;unfold fF;rw[<- e];exact ((oU I s).1 f (Bw.1 z).1).1
 |false =>
  obtain⟨y,u⟩:=lz (a:=B5 d (2 ^ 3)) (m:=3) (by omega);have y:0<=bC .i64 (B5 d (2 ^ 3)) 3:=y;have u:bC .i64 (B5 d (2 ^ 3)) 3<=3:=u;obtain⟨J,M⟩:=H;simp only[cond_false];exact⟨by omega,by omega⟩
theorem uR {n:aa}(I:ax (aa.table n))(J:da n.1 (aa.others n))(r:Int):(j0 n r).length<=2/\∀ w∈j0 n r,hI w:=by
 have u:([]:List ao).length<=2/\∀ w∈([]:List ao),hI w:=⟨by simp,by simp⟩;unfold j0;cases bC .i64 r 3==1 with
 |true =>
  simp only[cond_true,mc];cases lA n with
  |false=>exact u
  |true =>
   refine⟨?_,λw H=>?_⟩
   ·show ((([0,1]:List Int).filter (λs=>s != ak n.1)).map _).length<=2;rw[B7];exact B9 _ _
   ·obtain⟨s,R,rfl⟩:=BX.1 H;refine⟨AX J ?_,bZ I⟩;have:=(Bw.1 R).1;simp at this;rcases this with rfl|rfl <;> exact⟨by decide,by decide⟩
 |false =>
  simp only[cond_false];by_cases y:fp n=[]
  ·rw[decide_eq_true y,Bool.or_true];exact u
  ·rw[decide_eq_false y,Bool.or_false];obtain⟨f,O,e⟩:=BX.1 (im (d:=B5 r (2 ^ 2)) y).2.2;have z:InP (gM (fp n) (B5 r (2 ^ 2))) 0 7:=by
    rw[<- e];exact (I.1 f (Bw.1 O).1).1
   cases bC .i64 r 3==3 with
   |true=>exact u
   |false =>
    simp only[cond_false];cases bC .i64 r 3==0 with
    |true=>exact⟨by simp,λw H=>by rw[BG.1 H];exact⟨z,bZ I⟩⟩
    |false =>
     simp only[cond_false,sZ]
     match M:aa.others n with
     |[]=>exact u
     |x::_=>exact⟨by simp,λw H=>by rw[BG.1 H];exact⟨z,bZ (J.1 x (by rw[M];simp)).2.2.2.1⟩⟩
theorem UpX.far {n:aa}(h:UpX n):nN n:=⟨by rcases sX h.me h.others with e|⟨x,e⟩ <;> rw[e] <;> simp,λx r=>⟨(h.others.1 x r).2.2.2.1,bZ (h.others.1 x r).2.2.2.1⟩⟩
theorem ri {n:aa}(h:UpX n)(J:ch n<=1000000):((aa.probe n).1=-1\/0<=(aa.probe n).1)/\0<=(aa.probe n).2.1/\(aa.probe n).2.1<=1000000:=by
 have r:=h.probe;have z:ch n=n.2.2.2.2.2.1:=rfl;unfold c9 at r;split at r
 ·rename_i I;rw[r];exact⟨.inl rfl,by show (0:Int)<=0;omega,by show (0:Int)<=1000000;omega⟩
 ·obtain⟨_,⟨f,y,e⟩,⟨u,H⟩,_⟩:=r;have:=(h.table.1 f y).1.1;exact⟨.inr (e ▸ this),u,by omega⟩
theorem AY {n:aa}(h:UpN n)(y:ch n<999999)(r:Int):(pI n r).length<=5/\∀ w∈pI n r,hI w:=by
 have I:=(mR h.x.later (show dh (d7 n) from h.self)).1.table;obtain⟨H,R⟩:=tn I;obtain⟨J,_,_⟩:=pJ h y;have z:=(qt h y).1;obtain⟨X,M⟩:=uR z.x.table z.x.others r;have O:(ft (fu n).1).2.length<=1/\∀ w∈(ft (fu n).1).2,hI w:=by
  unfold ft;cases (aa.probe (fu n).1).1==-1 with
  |true=>exact zo J.x.say
  |false=>exact⟨by simp,by simp⟩
 unfold pI;have H:(fu n).2.length<=2:=H;refine⟨by rw[BK,BK];omega,λw u=>?_⟩;rcases BO.1 u with u|u
 ·rcases BO.1 u with u|u
  ·exact R w u
  ·exact O.2 w u
 ·exact M w u
theorem AZ (K:Nat)(n:aa)(H:Int)(h:UpN n)(hg:n.2.2.1=false)(hm:ch n<999999)(X:1048577<K):Q208.f K (n,H,())=some ((kE n,pI n H,()),()):=by
 have a3:=h.x.now0;simp only[Q208.f,zcp4];refine (congrArg (λb=>bif !b then _ else _) h.up).trans ?_;refine (congrArg (λb=>bif b then _ else _) hg).trans ?_;refine (congrArg (λb=>bif b then _ else _) (decide_eq_false (show ¬ n.2.2.2.2.2.1>=999999 by have:ch n=n.2.2.2.2.2.1:=rfl;omega))).trans ?_;simp only[cond_false];rw[show wr .i64 (n.2.2.2.2.2.1+1)=n.2.2.2.2.2.1+1 from aC (by have:ch n=n.2.2.2.2.2.1:=rfl;omega) (by have:ch n=n.2.2.2.2.2.1:=rfl;omega)];have hl:UpX (d7 n):=h.x.later;have a2:∀ d∈aa.doubts (d7 n),0<=d.2.2.1/\d.2.2.1<=(d7 n).2.2.2.2.2.1/\d.2.2.2.length<=1048576:=λd hd=>by
  obtain⟨_,⟨s0,s1⟩,_,h4⟩:=hl.doubts.1 d hd;exact⟨s0,s1,BL (iO (k:=λx=>x) h4.2 λx hx=>(h4.1 x hx).1) (by decide)⟩
 have Z:∀ d∈aa.doubts (d7 n),∃ f∈aa.table (d7 n),f.1=d.1:=λd hd=>by
  obtain⟨⟨f,hf,e,_⟩,_⟩:=hl.doubts.1 d hd;exact⟨f,hf,e⟩
 have Y:(d7 n).2.2.2.2.2.1<=1000000:=by show ch n+1<=1000000;omega
 refine (congrArg (λo=>BD o _) (AH K (d7 n) ⟨hl.say,Z,rfl⟩ a2 Y X)).trans ?_;simp only[BA];obtain⟨b1,b2,t,c,ds,eb⟩:=mR hl (show dh (d7 n) from h.self);have z:tc (fu n).1:=(pJ h hm).1.seq;have a0:ch (kk (d7 n))=ch n+1:=by rw[eb];rfl
 have hp:=ri b1 (by omega);obtain⟨a1,_⟩:=tn b1.table;have R:=(qt h hm).1;have r:=AQ K (kE n) H R.x.far R.x.table (bZ R.x.table) X;have u:=(pJ h hm).1;obtain⟨M,_⟩:=zo u.x.say;obtain⟨y,_⟩:=uR R.x.table R.x.others H;unfold kE ft fu at r R y;unfold fu at z u M;unfold pI kE ft fu;generalize kk (d7 n)=m at *;rcases hp.1 with O|O
 ·have e0:dp m=(m,[]):=by unfold dp;rw[show ((aa.probe m).1==-1)=true by simpa using O];rfl
  rw[e0]at r z u M y ⊢;refine (congrArg (λb=>bif b then _ else _) (decide_eq_false (show ¬ m.2.2.2.2.2.2.2.2.2.2.1.1>=0 by have:(aa.probe m).1=m.2.2.2.2.2.2.2.2.2.2.1.1:=rfl;omega))).trans ?_;refine (congrArg (λb=>bif b then _ else _) (decide_eq_true (show m.2.2.2.2.2.2.2.2.2.2.1.1<0 by have:(aa.probe m).1=m.2.2.2.2.2.2.2.2.2.2.1.1:=rfl;omega))).trans ?_;refine (congrArg (λo=>BD o _) (uQ K m u.x.say z X)).trans ?_;simp only[BA];rw[show ((aa.probe m).1==-1)=true by simpa using O]at r y ⊢;simp only[cond_true]at r y M ⊢;rw[szw _ _ _ (by omega) (by simp;omega)];simp only[cond_true];refine (congrArg (λo=>BD o _) r).trans ?_;simp only[BA];rw[szw _ _ _ (by omega) (by simp;omega)];rfl
 ·refine (congrArg (λb=>bif b then _ else _) (decide_eq_true (show m.2.2.2.2.2.2.2.2.2.2.1.1>=0 from O))).trans ?_;refine (congrArg (λo=>BD o _) (AI K m b1.say (by omega) hp.2.1 hp.2.2 b1.now0 (by have:ch m=m.2.2.2.2.2.1:=rfl;omega) X)).trans ?_;simp only[BA];generalize dp m=fo at *;obtain⟨J,ws⟩:=fo;simp only at r z u M y a1 ⊢;have I:=(ri u.x (by have:=u.now1;omega)).1;rcases I with I|I
  ·refine (congrArg (λb=>bif b then _ else _) (decide_eq_true (show J.2.2.2.2.2.2.2.2.2.2.1.1<0 by have:(aa.probe J).1=J.2.2.2.2.2.2.2.2.2.2.1.1:=rfl;omega))).trans ?_;refine (congrArg (λo=>BD o _) (uQ K J u.x.say z X)).trans ?_;simp only[BA];rw[show ((aa.probe J).1==-1)=true by simpa using I]at r y ⊢;simp only[cond_true]at r y ⊢;rw[szw _ _ _ (by omega) (by omega)];simp only[cond_true];refine (congrArg (λo=>BD o _) r).trans ?_;simp only[BA];rw[szw _ _ _ (by omega) (by rw[BK];omega)];rfl
  ·refine (congrArg (λb=>bif b then _ else _) (decide_eq_false (show ¬ J.2.2.2.2.2.2.2.2.2.2.1.1<0 by have:(aa.probe J).1=J.2.2.2.2.2.2.2.2.2.2.1.1:=rfl;omega))).trans ?_;rw[show ((aa.probe J).1==-1)=false by simp;omega]at r y ⊢;simp only[cond_false]at r y ⊢;refine (congrArg (λo=>BD o _) r).trans ?_;simp only[BA,List.append_nil];rw[szw _ _ _ (by omega) (by omega)];rfl
theorem tp (K:Nat)(l:List af)(f:af)(M:l.length<=1048576)(J:1048577<K):Ret (Q185.f K (l,f,())) (f∈l):=by
 have:=bX (step:=λrec a=>Q185.s0 K (l,f,()) rec a) l.length (λi=>(i:Int)) (λj=>∃ h:j<l.length,l[j]=f) (rb false) (λ_=>rb true) ?_ ?_ l.length K 0 (by omega) (by omega)
 ·rcases this with ⟨z,u⟩|⟨j,_,_,⟨y,I⟩,_,u⟩
  ·refine⟨false,u,?_⟩;refine⟨λh=>absurd h (by decide),λH=>?_⟩;obtain⟨i,r,e⟩:=BN H;exact absurd ⟨r,e⟩ (z i (BJ _) r)
  ·exact⟨true,u,λ_=>I ▸ BH y,λ_=>rfl⟩
 ·intro rec i r;simp only[Q185.s0];rw[bD (by omega:(i:Int)<(BC l:Int)),ag r,ar i (by omega)];simp only[cond_true,BA];rw[kg];by_cases h:l[i]=f
  ·rw[decide_eq_true h];exact .inr ⟨⟨r,h⟩,rfl⟩
  ·rw[decide_eq_false h];exact .inl ⟨λ⟨_,u⟩=>h u,rfl⟩
 ·intro rec;simp only[Q185.s0,aU];rfl
theorem UpN.nb {n:aa}(h:UpN n):NB n where
 table:=bZ h.x.table
 cast:=by have:=clen h.x.say;omega
 doubts:=h.x.say.ld
 by_:=λd y=>by have:=(h.learns.by_ d y).len;omega
 places:=plen h.x.places
 trips:=λp r=>by have:=(h.x.places.1 p r).2.2.2.2.1.2;omega
 others:=olen h.x.others
 facts:=λx u=>bZ (h.x.others.1 x u).2.2.2.1
def jn (r:Int)(g:Bool):aa:=(r,false,false,g,0,0,0,0,[],[],(0,0,0,false),[],(0,0,0,0),[],[])
structure dE (i:Nat) (n:aa):Prop where
 me:n.1=(i:Int)
 lt:i<8
 up:n.2.1=true->UpN n
 down:n.2.1=false->n=jn n.1 n.2.2.2.1
theorem dE.nb {i:Nat}{n:aa}(h:dE i n):NB n:=by
 cases r:n.2.1 with
 |true=>exact (h.up r).nb
 |false =>
  rw[h.down r];exact⟨by simp[jn,aa.table],by simp[jn,aa.cast],by simp[jn,aa.doubts],by simp[jn,aa.doubts],by simp[jn,aa.places],by simp[jn,aa.places],by simp[jn,aa.others],by simp[jn,aa.others]⟩
theorem dE.short {i:Nat}{n:aa}(h:dE i n):(aa.table n).length<=4:=by
 cases r:n.2.1 with
 |true=>exact ui (h.up r).x.table (h.up r).x.site
 |false=>rw[h.down r];exact BJ _
theorem dE.of {i:Nat}{n m:aa}(h:dE i n)(r:UpN m)(e:m.1=n.1):dE i m:=⟨e.trans h.me,h.lt,λ_=>r,λu=>by rw[r.up]at u;cases u⟩
def gN (l:List ly):Prop:=l.length<=60/\∀ f∈l,InP f.1 0 7/\f.2.1.size<=2000
structure WI (w:b7) (c:Nat):Prop where
 len:w.1.length=8
 node:∀ (i:Nat) (h:i<w.1.length),dE i w.1[i]
 radio:gN w.2.1
 sides:w.2.2.1.length=8
 born:w.2.2.2.length<=c
theorem WI.mono {w:b7}{c d:Nat}(h:WI w c)(r:c<=d):WI w d:=⟨h.len,h.node,h.radio,h.sides,BL h.born r⟩
theorem WI.put {w:b7}{c:Nat}(h:WI w c){i:Nat}{n:aa}(r:dE i n){rd:List ly}(z:gN rd){b:List af}{d:Nat}(u:b.length<=d):WI (w.1.set i n,rd,w.2.2.1,b) d:=by
 refine⟨by rw[BM];exact h.len,λj y=>?_,z,h.sides,u⟩;show dE j ((w.1.set i n)[j]'y);rw[List.getElem_set];split
 ·rename_i e;exact e ▸ r
 ·exact h.node j _
theorem xv (K:Nat)(w:b7)(O:Int)(u:List ao)(hs:w.2.2.1.length=8)(z:InP O 0 7)(Y:∀ x∈u,hI x)(hr:gN w.2.1)(hl:u.length<=1000)(hK:1048577<K) :
  Tot (Q182.f K (w,O,u,())) λr=>∃ rd,gN rd/\r.1.1=(w.1,rd,w.2.2):=by
 simp only[Q182.f,Q182.pre];obtain⟨f0,f1⟩:=z;refine Tot.iter (step:=λrec a=>Q182.s0 K (w,O,u,()) rec a) (λa=>0<=a.1/\a.1<=u.length/\gN a.2) (λa=>u.length-a.1.toNat) ?_ K _ (by show u.length-BE 0<K;omega) ⟨by show (0:Int)<=0;omega,by show (0:Int)<=_;omega,hr⟩;rintro rec ⟨i,rd⟩ ⟨I,h1,H⟩ ih;simp only at I h1 H ih ⊢;simp only[Q182.s0];refine Tot.cnd (λh=>?_) λ_=>Tot.ret ⟨rd,H,rfl⟩
 have h:=of_decide_eq_true h;rw[aC (n:=i+1) (by omega) (by omega)];have R:∀ y,gN y->Tot (rec (i+1,y)) λr=>∃ rd,gN rd/\r.1.1=(w.1,rd,w.2.2):=λy X=>ih _ ⟨by show 0<=i+1;omega,by show i+1<=_;omega,X⟩ (by show u.length-BE (i+1)<u.length-BE i;omega)
 refine Tot.cnd (λh3=>?_) λ_=>R rd H
 have h3:=of_decide_eq_true h3;refine Tot.ix f0 (by omega) λ_ _ _=>Tot.ix I h λy2 Z _=>?_
 obtain⟨⟨t0,t1⟩,_⟩:=Y y2 Z;refine Tot.ix t0 (by omega) λ_ _ _=>Tot.cnd (λ_=>Tot.fit (Tot.ix I h λy4 M _=>Tot.ix I h λy5 J _=>Tot.bind (oe K y5 (Y y5 J).2 hK) λv hv=>Tot.fit (R _ ⟨?_,λf z=>?_⟩) (by omega) ?_) (by omega) ?_) λ_=>R rd H
 ·simp;omega
 ·rcases BO.1 z with z|z
  ·exact H.2 f (by simpa using z)
  ·rw[BG.1 z];exact⟨(Y y4 M).1,by show v.1.1.size<=2000;have:=hv.1;omega⟩
 ·simp;omega
 ·simp;omega
theorem Tot.ins {α:Type}{l:List α}{x:α}{a:Int}{c:Nat}{Q:(List α×Unit)×Unit->Prop}(u:0<=a)(y:a<=l.length)(H:l.length<=1048576)(z:c<=64)(k:∀ r:List α,r.length=l.length+1->Q ((r,()),())) :
  Tot (bif decide ((0:Int)<=0)&&decide (0<=a)&&decide (a<=(BC l:Int))&&true then (bif decide ((BC ([]:List α)+BC ((l.take (BE a)).drop (BE 0)))*c<=am) then (bif decide ((BC ([]++((l.take (BE a)).drop (BE 0)))+BC ([x]))*c<=am) then (bif decide (0<=a)&&decide (a<=(BC l:Int))&&decide ((BC l:Int)<=(BC l:Int))&&true then (bif decide ((BC (([]++((l.take (BE a)).drop (BE 0)))++([x]))+BC ((l.take (BE (BC l:Int))).drop (BE a)))*c<=am) then (some (((([]++((l.take (BE a)).drop (BE 0)))++([x]))++((l.take (BE (BC l:Int))).drop (BE a)),()),())) else none) else none) else none) else none) else none) Q:=by
 obtain⟨m,rfl⟩:=BP u;refine Tot.must (by simp;omega) (Tot.fit (Tot.fit (Tot.must (by simp;omega) (Tot.fit (Tot.ret (k _ ?_)) (by omega) ?_)) (by omega) ?_) (by omega) ?_) <;>
 simp only[BF,Bx,BT,BR,BK,BY,B6,BQ,B8] <;> omega
theorem yL (K:Nat)(f g:af):Tot (Q183.f K (f,g,())) λ_=>True:=by
 simp only[Q183.f];exact Tot.cnd (λ_=>Tot.ret trivial) λ_=>Tot.bind (sE K g f).tot λ_ _=>Tot.ret trivial
theorem xw (K:Nat)(l:List af)(f:af)(M:l.length<=1048576)(O:1048577<K):Tot (Q184.f K (l,f,())) λr=>r.1.1.length<=l.length+1:=by
 simp only[Q184.f,Q184.pre];refine Tot.iter (A:=Int) (step:=λrec a=>Q184.s0 K (l,f,()) rec a) (λa=>0<=a/\a<=l.length) (λa=>l.length-a.toNat) ?_ K _ (by show l.length-BE 0<K;omega) ⟨by show (0:Int)<=0;omega,by show (0:Int)<=_;omega⟩;rintro rec i ⟨H,z⟩ I;simp only[Q184.s0];have u:=λ (z:i<=l.length)=>Tot.ins (x:=f) (c:=32) (Q:=λr=>r.1.1.length<=l.length+1) H z M (by omega) λr R=>by show r.length<=_;omega
 have y:l.length<=l.length+1:=CA _;refine Tot.cnd (λh=>?_) λ_=>Tot.cnd (λh=>Tot.ix H (of_decide_eq_true h) λ_ _ _=>Tot.cnd (λ_=>Tot.ret y) λ_=>u z) λ_=>u z
 have h:i<(l.length:Int):=of_decide_eq_true h;rw[aC (n:=i+1) (by omega) (by omega)];refine Tot.ix H h λJ _ _=>Tot.bind (yL K J f) λ_ _=>Tot.cnd (λ_=>I (i+1) ⟨by show 0<=i+1;omega,by show i+1<=(l.length:Int);omega⟩ (by show l.length-BE (i+1)<l.length-BE i;omega)) λ_=>Tot.cnd (λ_=>Tot.ix H h λ_ _ _=>Tot.cnd (λ_=>Tot.ret y) λ_=>u z) λ_=>u z
theorem zp (K:Nat)(w:b7)(z y u:List af)(h1:z.length<=1048576)(Z:y.length<=1048576)(h3:u.length<=100)(hb:w.2.2.2.length<=1000000)(J:1048577<K) :
  Tot (Q186.f K (w,z,y,u,())) λr=>∃ b,b.length<=w.2.2.2.length+u.length/\r.1.1=(w.1,w.2.1,w.2.2.1,b):=by
 simp only[Q186.f,Q186.pre];refine Tot.iter (step:=λrec a=>Q186.s0 K (w,z,y,u,()) rec a) (λa=>0<=a.1/\a.1<=u.length/\(a.2.length:Int)<=w.2.2.2.length+a.1) (λa=>u.length-a.1.toNat) ?_ K _ (by show u.length-BE 0<K;omega) ⟨by show (0:Int)<=0;omega,by show (0:Int)<=_;omega,by show (w.2.2.2.length:Int)<=w.2.2.2.length+0;omega⟩;rintro rec ⟨i,b⟩ ⟨I,i1,X⟩ O;simp only at I i1 X O ⊢;simp only[Q186.s0];refine Tot.cnd (λh=>?_) λ_=>Tot.ret ⟨b,by omega,rfl⟩
 have h:=of_decide_eq_true h;rw[aC (n:=i+1) (by omega) (by omega)];have M:∀ H:List af,H.length<=b.length+1->Tot (rec (i+1,H)) λr=>∃ b,b.length<=w.2.2.2.length+u.length/\r.1.1=(w.1,w.2.1,w.2.2.1,b):=λH a0=>O _ ⟨by show 0<=i+1;omega,by show i+1<=_;omega,by show (H.length:Int)<=_+(i+1);omega⟩ (by show u.length-BE (i+1)<u.length-BE i;omega)
 refine Tot.ix I h λR _ _=>Tot.bind (tp K z R h1 J).tot λ_ _=>Tot.cnd (λ_=>?_) λ_=>M b (CA _)
 refine Tot.ix I h λY _ _=>Tot.bind (tp K y Y Z J).tot λ_ _=>Tot.cnd (λ_=>?_) λ_=>M b (CA _)
 exact Tot.ix I h λy5 _ _=>Tot.bind (xw K b y5 (by omega) J) λv hv=>M v.1.1 hv
structure zq (w:b7) (i:Nat) (n:aa) (ws:List ao) (heard:List af) (c:Nat):Prop where
 wi:WI w c
 lt:i<8
 n:dE i n
 sent:∀ x∈ws,hI x
 wl:ws.length<=1000
 hl:heard.length<=1048576
 c:c<=1000000
theorem set_t (K:Nat)(w:b7)(i:Nat)(n:aa)(H:List ao)(u:List af)(c:Nat)(h:zq w i n H u c)(I:1048577<K):Tot (Q187.f K ((w,i),n,H,u,())) λr=>WI r.1.1 (c+4):=by
 simp only[Q187.f];have y:i<w.1.length:=by rw[h.wi.len];exact h.lt
 have M:=h.c;have O:=h.wi.born;have J:=h.n.short;rw[h.n.me];refine Tot.vl (ag y) (Tot.vl (by rw[BF];exact ag y) (Tot.vl (ag y) (Tot.vl (by rw[BF];exact ag y) ?_)));refine Tot.must (by simp) ?_;rw[BF];refine Tot.bind (zp K (w.1.set i n,w.2) (aa.table w.1[i]) u (aa.table n) (h.wi.node i y).nb.table h.hl (by omega) (by show w.2.2.2.length<=_;omega) I) ?_;rintro⟨⟨v,⟨⟩⟩,⟨⟩⟩ ⟨b,z,rfl⟩;refine Tot.bind (xv K (w.1.set i n,w.2.1,w.2.2.1,b) (i:Int) H h.wi.sides ⟨by omega,by have:=h.lt;omega⟩ h.sent h.wi.radio h.wl I) ?_;rintro⟨⟨v,⟨⟩⟩,⟨⟩⟩ ⟨rd,hr,rfl⟩;have z:b.length<=w.2.2.2.length+(aa.table n).length:=z;exact Tot.ret (h.wi.put h.n hr (by omega))
theorem Ba (K:Nat)(w:b7)(i:Nat)(n:aa)(H:List ao)(u:List af)(c:Nat)(h:zq w i n H u c)(I:1048577<K):Tot (Q190.f K (w,n,H,u,())) λr=>WI r.1.1 (c+4):=by
 simp only[Q190.f];have y:i<w.1.length:=by rw[h.wi.len];exact h.lt
 have M:=h.c;have O:=h.wi.born;have J:=h.n.short;rw[h.n.me];refine Tot.vl (ag y) (Tot.vl (by rw[BF];exact ag y) (Tot.vl (ag y) (Tot.vl (by rw[BF];exact ag y) ?_)));rw[BF];refine Tot.bind (zp K (w.1.set i n,w.2) (aa.table w.1[i]) u (aa.table n) (h.wi.node i y).nb.table h.hl (by omega) (by show w.2.2.2.length<=_;omega) I) ?_;rintro⟨⟨v,⟨⟩⟩,⟨⟩⟩ ⟨b,z,rfl⟩;refine Tot.bind (xv K (w.1.set i n,w.2.1,w.2.2.1,b) (i:Int) H h.wi.sides ⟨by omega,by have:=h.lt;omega⟩ h.sent h.wi.radio h.wl I) ?_;rintro⟨⟨v,⟨⟩⟩,⟨⟩⟩ ⟨rd,hr,rfl⟩;have z:b.length<=w.2.2.2.length+(aa.table n).length:=z;exact Tot.ret (h.wi.put h.n hr (by omega))
theorem rj (K:Nat)(l:List ly)(at_:Int)(z:0<=at_)(H:at_<l.length)(y:gN l):Tot (Q181.f K (l,at_,())) λr=>gN r.1.1:=by
 have I:=y.1;obtain⟨m,rfl⟩:=BP z;simp only[Q181.f];rw[ar m (by omega)];refine Tot.must (by simp;omega) (Tot.fit (Tot.must (by simp;omega) (Tot.fit (Tot.ret ⟨?_,λf u=>y.2 f ?_⟩) (by omega) ?_)) (by omega) ?_)
 ·simp only[BF,Bx,BT,BR,BK,BY,B6];omega
 ·simp only[BF,Bx,BT,BR,B4]at u;rcases BO.1 u with u|u
  ·exact BW u
  ·exact List.mem_of_mem_drop u
 ·simp only[BF,Bx,BT,BR,BK,BY,B6];omega
 ·simp only[BF,Bx,BT,BR,BY,B8];omega
theorem rl (K:Nat)(w:b7)(c:Nat)(h:WI w c)(Y:c<=1000000)(to:Int)(t0:0<=to)(t1:to<=7)(x:ao)(X:fb x)(H:1048577<K){G:aa->aa->Option ((b7×Unit)×Unit)}
  (hG:∀ y:aa,G y y=(Q163.f K (y,x,())).bind λI=>(Q187.f K ((w,BE to),I.1.1,I.1.2.1,ao.table x,())).bind λM=>some ((M.1.1,()),())) :
  Tot ((idx w.1 to).bind λ_=>(idx w.1 (BE to:Nat)).bind λO=>(idx w.1 (BE to:Nat)).bind λR=>G O R) λr=>WI r.1.1 (c+4):=by
 obtain⟨i,rfl⟩:=BP t0;have J:i<w.1.length:=by rw[h.len];omega
 have z:=h.node i J;refine Tot.vl (ag J) (Tot.vl (by rw[BF];exact ag J) (Tot.vl (by rw[BF];exact ag J) ?_));rw[hG,AW K w.1[i] x z.up (bZ X.2.2.2.2.2.2.2.1) H];simp only[BA,BF];refine Tot.bind (set_t K w i _ _ _ c ⟨h,z.lt,?_,?_,?_,bZ X.2.2.2.2.2.2.2.1,Y⟩ H) λv hv=>Tot.ret hv
 ·cases u:w.1[i].2.1 with
  |true=>exact z.of (qy (z.up u) H).1 (qy (z.up u) H).2.1
  |false =>
   rw[show cL K w.1[i] x=(w.1[i],[]) by unfold cL;rw[if_neg λh=>by have:=h.2.1;rw[u]at this;cases this]];exact z
 ·cases u:w.1[i].2.1 with
  |true=>exact λy Z=>(pT (z.up u) H).2 y Z
  |false =>
   rw[show cL K w.1[i] x=(w.1[i],[]) by unfold cL;rw[if_neg λh=>by have:=h.2.1;rw[u]at this;cases this]];simp
 ·cases u:w.1[i].2.1 with
  |true=>have:=(pT (w:=x) (z.up u) H).1;omega
  |false =>
   rw[show cL K w.1[i] x=(w.1[i],[]) by unfold cL;rw[if_neg λh=>by have:=h.2.1;rw[u]at this;cases this]];simp
theorem Aa (K:Nat)(w:b7)(c:Nat)(h:WI w c)(hc:c<=1000000)(at_:Int)(keep:Bool)(h0:0<=at_)(h1:at_<w.2.1.length)(X:1048577<K):Tot (Q188.f K (w,at_,keep,())) λr=>WI r.1.1 (c+4):=by
 simp only[Q188.f,zcp8];refine Tot.ix2 h0 h1 λf hf _=>?_
 obtain⟨⟨t0,t1⟩,a0⟩:=h.radio.2 f hf;have hs:=h.sides;refine Tot.cnd (λ_=>Tot.bind (rj K w.2.1 at_ h0 h1 h.radio) ?_) λ_=>Tot.bind (pM K f.2.1 (by omega) X) ?_
 ·rintro⟨⟨rd,⟨⟩⟩,⟨⟩⟩ hr;have I:WI (w.1,rd,w.2.2) (c+4):=⟨h.len,h.node,hr,h.sides,BL h.born (by omega)⟩;refine Tot.bind (pM K f.2.1 (by omega) X) ?_;rintro⟨⟨(x:ao),ok,⟨⟩⟩,⟨⟩⟩ H;refine Tot.cnd (λ_=>Tot.ret I) λY=>?_
  have H:fb x:=H (by simpa using Y);obtain⟨M,Z⟩:=H.2.2.1;have O:x.2.2.1<(w.2.2.1.length:Int):=by rw[hs];omega
  refine Tot.ix2 M O λ_ _ _=>Tot.ix2 t0 (by omega) λ_ _ _=>Tot.cnd (λ_=>Tot.ret I) λ_=>Tot.cnd (λ_=>Tot.ret I) λ_=>?_
  exact rl K (w.1,rd,w.2.2) c ⟨h.len,h.node,hr,h.sides,h.born⟩ hc f.1 t0 t1 x H X (G:=λu R=>(Q163.f K ((u.1,(u.2.1,(u.2.2.1,(u.2.2.2.1,(u.2.2.2.2.1,(u.2.2.2.2.2.1,(u.2.2.2.2.2.2.1,(u.2.2.2.2.2.2.2.1,(u.2.2.2.2.2.2.2.2.1,(u.2.2.2.2.2.2.2.2.2.1,(u.2.2.2.2.2.2.2.2.2.2.1,(R.2.2.2.2.2.2.2.2.2.2.2.1,u.2.2.2.2.2.2.2.2.2.2.2.2)))))))))))),x,())).bind λz=>(Q187.f K (((w.1,rd,w.2.2),BE f.1),z.1.1,z.1.2.1,ao.table x,())).bind λJ=>some ((J.1.1,()),())) λy=>rfl
 ·rintro⟨⟨(x:ao),ok,⟨⟩⟩,⟨⟩⟩ H;have I:WI w (c+4):=h.mono (by omega);refine Tot.cnd (λ_=>Tot.ret I) λY=>?_
  have H:fb x:=H (by simpa using Y);obtain⟨M,Z⟩:=H.2.2.1;have O:x.2.2.1<(w.2.2.1.length:Int):=by rw[hs];omega
  refine Tot.ix2 M O λ_ _ _=>Tot.ix2 t0 (by omega) λ_ _ _=>Tot.cnd (λ_=>Tot.ret I) λ_=>Tot.cnd (λ_=>Tot.ret I) λ_=>?_
  exact rl K w c h hc f.1 t0 t1 x H X (G:=λu R=>(Q163.f K ((u.1,(u.2.1,(u.2.2.1,(u.2.2.2.1,(u.2.2.2.2.1,(u.2.2.2.2.2.1,(u.2.2.2.2.2.2.1,(u.2.2.2.2.2.2.2.1,(u.2.2.2.2.2.2.2.2.1,(u.2.2.2.2.2.2.2.2.2.1,(u.2.2.2.2.2.2.2.2.2.2.1,(R.2.2.2.2.2.2.2.2.2.2.2.1,u.2.2.2.2.2.2.2.2.2.2.2.2)))))))))))),x,())).bind λz=>(Q187.f K (((w.1,w.2),BE f.1),z.1.1,z.1.2.1,ao.table x,())).bind λJ=>some ((J.1.1,()),())) λy=>rfl
theorem Ab (K:Nat)(w:b7)(c:Nat)(h:WI w c)(at_ u:Int)(R:0<=at_)(X:at_<w.2.1.length):Tot (Q189.f K (w,at_,u,())) λr=>WI r.1.1 c:=by
 simp only[Q189.f];refine Tot.ix2 R X λf Z _=>?_
 obtain⟨I,z⟩:=h.radio.2 f Z;refine Tot.cnd (λ_=>Tot.ret h) λ_=>Tot.cnd (λ_=>Tot.ret h) λY=>?_
 have y:¬ (f.2.1.size:Int)=0:=by simpa using Y
 obtain⟨H,b1⟩:=lz (a:=u) (m:=4095) (by omega);have H:0<=bC .i64 u 4095:=H;have O:0<=BS (bC .i64 u 4095) (f.2.1.size:Int):=CK _ H;have M:BS (bC .i64 u 4095) (f.2.1.size:Int)<((eq f.2.1).length:Int):=by rw[rg];exact CC _ (by omega)
 refine Tot.not (decide_eq_false y) (Tot.ix2 O M λ_ _ _=>Tot.ix2 O M λ_ _ _=>Tot.ix2 R X λ_ _ _=>Tot.ret ⟨h.len,h.node,⟨?_,λg J=>?_⟩,h.sides,h.born⟩)
 ·show (w.2.1.set _ _).length<=60;rw[BM];exact h.radio.1
 ·rcases List.mem_or_eq_of_mem_set J with J|rfl
  ·exact h.radio.2 g J
  ·refine⟨I,?_⟩;show (gH _).size<=2000;rw[iS,BM,rg];exact z
def mg (i:Int)(g:Bool):aa:=(i,true,false,g,0,0,0,0,[(i,0,1,g)],[],(-1,0,0,false),[],(0,0,0,1500),[],[])
theorem Ac {i:Int}{g:Bool}(h:InP i 0 7):UpN (mg i g):=by
 refine⟨⟨h,Bz _,⟨λf y=>?_,List.pairwise_singleton _ _⟩,λf y=>?_,⟨λx u=>(nomatch u),List.Pairwise.nil⟩,λx u=>(nomatch u),?_,⟨λd z=>(nomatch z),List.Pairwise.nil,rfl⟩,⟨?_,?_,?_,?_⟩,⟨λp r=>(nomatch r),List.Pairwise.nil⟩,⟨λp r=>(nomatch r),List.Pairwise.nil⟩⟩,?_,?_,⟨?_,?_⟩,?_,rfl⟩
 ·rw[BG.1 y];exact⟨h,⟨by show (0:Int)<=0;omega,by show (0:Int)<=999;omega⟩,by show (1:Int)<=1;omega,by show (1:Int)<=4;omega⟩
 ·rw[BG.1 y];rfl
 ·unfold c9;rw[if_pos (show (aa.probe (mg i g)).1=-1 from rfl)];rfl
 ·exact⟨by show (-100000:Int)<=0;omega,by show (0:Int)<=100000;omega⟩
 ·exact⟨by show (-100000:Int)<=0;omega,by show (0:Int)<=100000;omega⟩
 ·exact⟨by show (0:Int)<=0;omega,by show (0:Int)<=100000;omega⟩
 ·exact⟨by show (1:Int)<=1500;omega,by show (1500:Int)<=1500;omega⟩
 ·exact BG.2 rfl
 ·show (0:Int)<=999999;omega
 ·exact⟨by show (0:Int)<=0;omega,by show (0:Int)<=999999;omega⟩
 ·exact⟨by show (0:Int)<=0;omega,by show (0:Int)<=8;omega⟩
 ·exact⟨by show (0:Int)<=0;omega,by show (0:Int)<=999;omega⟩
theorem rm (K:Nat)(i:Int)(g:Bool)(h:InP i 0 7):Q128.f K (i,g,())=some ((mg i g,()),()):=by
 simp only[Q128.f];obtain⟨b,e,r⟩:=cI K i 0 7;rw[e,r.2 h];rfl
theorem dE.new (i:Nat)(g:Bool)(h:i<8):dE i (mg (i:Int) g):=⟨rfl,h,λ_=>Ac ⟨by omega,by omega⟩,λr=>by cases r⟩
theorem Bb (K:Nat)(w:b7)(c:Nat)(h:WI w c)(J:c<=1000000)(u:Int)(y:InP u 0 7)(H:1048577<K):Tot (Q192.f K (w,u,())) λr=>WI r.1.1 (c+4):=by
 have O:=h.born;have I:u.toNat<8:=by obtain⟨a,b⟩:=y;omega
 have z:=h.len;simp only[Q192.f,Q117.f,BA];rw[rm K u _ y];simp only[BA];refine Tot.ix2 y.1 (by have:=y.2;omega) λ_ _ _=>?_
 refine Tot.vl (show idx (mg u (decide (BS u 4<3))).2.2.2.2.2.2.2.2.1 0=some (u,0,1,decide (BS u 4<3)) from rfl) (Tot.bind (xw K w.2.2.2 _ (by omega) H) λv M=>Tot.ret (h.put ?_ h.radio (by omega)));have:=dE.new u.toNat (decide (BS u 4<3)) I
 rwa [CB y.1]at this
theorem xx (K:Nat)(n:aa)(r:Int)(w:ao)(h:cz n)(u:1048577<K):Q89.f K (n,r,w,())=some ((pP r (iQ n) w.2.2.2.2.2.1 w.2.2.2.2.1 n.1 (gX n w.2.2.2.2.2.1),()),(iQ n,())):=by
 simp only[Q89.f,zcp4];refine (congrArg (λo=>BD o _) (vF K n w.2.2.2.2.2.1 h u)).trans ?_;simp only[BA,Q69.f];rfl
theorem yM (K:Nat)(n:aa)(x:Int)(r:InP x 0 7):Q43.f K (n,x,())=rb (ak x==ak n.1&&x != n.1):=by
 obtain⟨b,e,h⟩:=pv K n x;simp only[Q43.f];rw[e];have u:b=(ak x==ak n.1):=by
  rw[BZ,h,beq_iff_eq];exact⟨λh=>h.2,λh=>⟨r,h⟩⟩
 subst u;simp only[rb,BA];cases ak x==ak n.1 with
 |true=>rfl
 |false=>rfl
theorem yN (K:Nat)(xs r:List af)(X:xs.length<=1048576)(O:1048577<K):Q68.f K (xs,r,())=rb (decide (xs=r)):=by
 simp only[Q68.f,Q68.pre];by_cases y:xs.length=r.length
 case neg =>
  rw[show ((BC xs:Int) != (BC r:Int))=true by simp only[bne_iff_ne,ne_eq];omega,decide_eq_false (λe=>y (by rw[e]))];rfl
 rw[show ((BC xs:Int) != (BC r:Int))=false by rw[y];simp];simp only[cond_false];have:=bX (step:=λrec a=>Q68.s0 K (xs,r,()) rec a) xs.length (λi=>(i:Int)) (λj=>∃ h:j<xs.length,xs[j]≠r[j]'(by omega)) (rb true) (λ_=>rb false) ?_ ?_ xs.length K 0 (by omega) (by omega)
 ·rcases this with ⟨J,u⟩|⟨j,_,J,⟨R,M⟩,_,u⟩
  ·rw[decide_eq_true (List.ext_getElem y λi h _=>Classical.byContradiction λH=>J i (BJ _) h ⟨h,H⟩)];exact u
  ·rw[decide_eq_false (λe=>M (by subst e;rfl))];exact u
 ·intro rec i I;have z:i<r.length:=by omega
  simp only[Q68.s0];rw[bD (by omega:(i:Int)<(BC xs:Int)),ag I,ag z,ar i (by omega)];simp only[cond_true,BA];by_cases e:xs[i]=r[i]
  ·left;refine⟨λ⟨_,h⟩=>h e,?_⟩;rw[show Ty.eqv t2 xs[i] r[i]=decide (xs[i]=r[i]) from kg _ _,decide_eq_true e];rfl
  ·right;refine⟨⟨I,e⟩,?_⟩;rw[show Ty.eqv t2 xs[i] r[i]=decide (xs[i]=r[i]) from kg _ _,decide_eq_false e];rfl
 ·intro rec;simp only[Q68.s0,aU];rfl
theorem yO (K:Nat)(t:List b8)(v:Int)(ht:t.length<=1048576)(z:Asc (λx:b8=>x.1) t)(h7:∀ d∈t,InP d.1 0 7)(X:InP v 0 7)(hK:1048577<K) :
  ∃ m,m<=t.length/\(∀ i,(h:i<t.length)->i<m->t[i].1<v)/\(∀ i,(h:i<t.length)->m<=i->v<=t[i].1)/\Q66.f K (t,v,(λu=>(Q67.f K (u.1,u.2.1,())).map λy=>y.1.1),())=some ((((m:Nat):Int),decide (∃ h:m<t.length,t[m].1=v),()),()):=by
 let ks:Nat->Int:=λi=>if h:i<t.length then t[i].1 else 0
 have r:∀ i (h:i<t.length),ks i=t[i].1:=λi h=>by simp[ks,h]
 let I:Nat->Option ((Int×Bool×Unit)×Unit):=λm=>some ((((m:Nat):Int),decide (∃ h:m<t.length,t[m].1=v),()),())
 have O:∀ d∈t,((Q67.f K (d,v,())).map λy=>y.1.1)=some (d.1-v):=λd hd=>by
  obtain⟨a1,a2⟩:=h7 d hd;obtain⟨a3,a4⟩:=X;simp only[Q67.f];rw[aC (by omega) (by omega)];rfl
 have:=pq (step:=λrec a=>Q66.s0 K (t,v,(λu=>(Q67.f K (u.1,u.2.1,())).map λy=>y.1.1),()) rec a) (ks:=ks) (n:=t.length) (t:=v) I ht
  (λi j J R=>by
   rw[r i (by omega),r j R];exact cE.1 z i j (by omega) R J) ?_ ?_ t.length K 0 t.length (by omega) (BJ _) (BV _) (by omega) (λi H=>by omega) (λi H X=>by omega)
 ·obtain⟨m,h1,Y,Z,h4⟩:=this;exact⟨m,h1,λi h H=>by rw[<- r i h];exact Y i H,λi h H=>by rw[<- r i h];exact Z i H h,h4⟩
 ·intro rec a b a0 hb;have M:(a+b) / 2<t.length:=by omega
  simp only[Q66.s0];rw[decide_eq_true (by omega:(a:Int)<(b:Int)),nF (by omega)];simp only[cond_true];rw[ag M];simp only[BA,O _ (BH M)];rw[r _ M,ar _ (by omega)];by_cases h:t[(a+b) / 2].1<v
  ·rw[if_pos h,decide_eq_true (by omega:t[(a+b) / 2].1-v<0)];rfl
  ·rw[if_neg h,decide_eq_false (by omega:¬ t[(a+b) / 2].1-v<0)];rfl
 ·intro rec a ha;simp only[Q66.s0];rw[decide_eq_false (by omega)];simp only[cond_false];by_cases h:a<t.length
  ·rw[decide_eq_true (by omega:(a:Int)<(BC t:Int)),ag h];simp only[cond_true,BA,O _ (BH h)];have:(t[a].1-v==0)=decide (∃ h:a<t.length,t[a].1=v):=by
    rw[BZ];simp only[beq_iff_eq,decide_eq_true_eq];exact⟨λe=>⟨h,by omega⟩,λ⟨_,e⟩=>by omega⟩
   rw[this]
  ·rw[decide_eq_false (by omega:¬ (a:Int)<(BC t:Int))];simp only[cond_false,I];rw[decide_eq_false (λ⟨h',_⟩=>h h')]
theorem xy {R:Type}(K:Nat)(n m:aa)(w:ao)(X:InP w.1 1 2)(M:(bJ n w).length<=1048576)(O:m.1=n.1)(J:aa.coord m=aa.coord n)(I:1048577<K)(G:List ao->Option R) :
  (bif w.1==1 then G [] else ((Q68.f K (bJ n w,ao.table w,())).bind λy=>bif y.1.1 then G [] else ((Q69.f K (m,6,w.2.2.1,())).bind λr=>(Q0.f K (bJ n w,())).bind λH =>
   G [(2,r.1.1.2.1,r.1.1.2.2.1,r.1.1.2.2.2.1,r.1.1.2.2.2.2.1,r.1.1.2.2.2.2.2.1,r.1.1.2.2.2.2.2.2.1,H.1.1)])))=G (bif w.1==2&&decide (ao.table w≠bJ n w) then [vN n w] else []):=by
 by_cases u:w.1=1
 ·rw[u];rfl
 ·have z:w.1=2:=by obtain⟨a,b⟩:=X;omega
  rw[show (w.1==1)=false by simpa using u,show (w.1==2)=true by simpa using z,yN K _ _ M I];simp only[cond_false,rb,BA,B3];by_cases e:bJ n w=ao.table w
  ·rw[decide_eq_true e,decide_eq_false (p:=ao.table w≠bJ n w) (λh=>h e.symm)];rfl
  ·rw[decide_eq_false e,decide_eq_true (p:=ao.table w≠bJ n w) (λh=>e h.symm)];simp only[cond_false,cond_true,Q69.f,BA,Q0.f];rw[dZ (by show (bJ n w).length*_<=_;omega)];simp only[BA];unfold vN;rw[O,show m.2.2.2.2.2.2.2.2.2.2.2.2.1=aa.coord n from J]
theorem sum_i (K:Nat)(n:aa)(w:ao)(hn:NB n)(h:UpN n)(hp:InP w.1 1 2)(Z:ax (ao.table w))(r:lZ (ao.table w))(u:1048577<K):Q70.f K (n,w,())=some (((eQ n w).2,()),((eQ n w).1,())):=by
 have R:idx (ao.table w) 0=some (ck (ao.table w)):=by
  cases ht:ao.table w with
  |nil=>rw[ht]at r;exact r.elim
  |cons f l=>rfl
 have I:=uP (tm r Z);have a0:InP (ak (ck (ao.table w)).1) 0 7:=⟨I.1,CG I.2 (by decide)⟩;have hb:mf (ao.table w) (ak n.1)=(ak (ck (ao.table w)).1==ak n.1):=by
  rw[BZ,kG,beq_iff_eq];cases ht:ao.table w with
  |nil=>rw[ht]at r;exact r.elim
  |cons f l =>
   rw[ht]at r;exact⟨λh=>h f (by simp),λe g hg=>(r g hg).trans e⟩
 simp only[Q70.f,zcp4,zcp8];refine (congrArg (λo=>BD o _) R).trans ?_;simp only[BA];rw[pt K (ck (ao.table w)).1,qo K n];simp only[BA];unfold eQ;rw[hb];cases ak (ck (ao.table w)).1==ak n.1 with
 |true =>
  simp only[cond_true];refine (congrArg (λo=>BD o _) (uI K n (ao.table w) n.1 h.learns Z.1 (bZ Z) h.x.me u)).trans rfl
 |false =>
  simp only[cond_false];obtain⟨a1,a2,a3⟩:=kH (n:=n) h.x.others Z r;refine (congrArg (λo=>BD o _) (zG K n (ak (ck (ao.table w)).1) hn u)).trans ?_;simp only[BA];refine (congrArg (λo=>BD o _) (AN K (eG (aa.others n) (ak (ck (ao.table w)).1)) (ao.table w) (oU h.x.others _) Z u)).trans ?_;simp only[BA];have y:=h.x.others;have H:=olen y;obtain⟨m,hm,lo,hi,hs⟩:=yO K (aa.others n) (ak (ck (ao.table w)).1) H y.2 (λx hx=>⟨(y.1 x hx).1.1,CG (y.1 x hx).1.2 (by decide)⟩) a0 u;refine (congrArg (λo=>BD o _) hs).trans ?_;simp only[BA];by_cases hf:∃ h:m<(aa.others n).length,(aa.others n)[m].1=ak (ck (ao.table w)).1
  ·rw[decide_eq_true hf];obtain⟨O,e⟩:=hf;simp only[cond_true,BF];have X:idx (aa.others n) (m:Int)=some (aa.others n)[m]:=ag O;refine (congrArg (λo=>BD o _) X).trans ?_;simp only[BA];refine (congrArg (λo=>BD o _) X).trans ?_;simp only[BA];rw[e];have M:(aa.others n).set m (ak (ck (ao.table w)).1,bJ n w)=bi (λx:b8=>x.1) (ak (ck (ao.table w)).1,bJ n w) (aa.others n):=ig (k:=λx:b8=>x.1) (x:=(ak (ck (ao.table w)).1,bJ n w)) y.2 O e;have:=xy K n (mT n ((aa.others n).set m (ak (ck (ao.table w)).1,bJ n w))) w hp (bZ a1) rfl rfl u (λws=>some ((ws,()),(mT n ((aa.others n).set m (ak (ck (ao.table w)).1,bJ n w)),())));refine Eq.trans this ?_;rw[M];rfl
  ·rw[decide_eq_false hf];simp only[cond_false];have Y:Q7.f K (aa.others n,(m:Int),[(ak (ck (ao.table w)).1,bJ n w)],())=some (((aa.others n).take m++[(ak (ck (ao.table w)).1,bJ n w)]++(aa.others n).drop m,()),()):=ju hm (by decide) H;refine (congrArg (λo=>BD o _) Y).trans ?_;simp only[BA];have J:(aa.others n).take m++[(ak (ck (ao.table w)).1,bJ n w)]++(aa.others n).drop m=bi (λx:b8=>x.1) (ak (ck (ao.table w)).1,bJ n w) (aa.others n):=gq (k:=λx:b8=>x.1) (x:=(ak (ck (ao.table w)).1,bJ n w)) hm lo (λj hj z=>by
    rcases Int.lt_or_eq_of_le (hi j hj z) with h|h
    ·exact h
    ·exfalso;rcases Nat.lt_or_eq_of_le z with h4|rfl
     ·have:(aa.others n)[m].1<(aa.others n)[j].1:=cE.1 y.2 m j (by omega) hj h4;have h5:=hi m (by omega) (BV _);omega
     ·exact hf ⟨hj,h.symm⟩)
   have:=xy K n (mT n ((aa.others n).take m++[(ak (ck (ao.table w)).1,bJ n w)]++(aa.others n).drop m)) w hp (bZ a1) rfl rfl u (λws=>some ((ws,()),(mT n ((aa.others n).take m++[(ak (ck (ao.table w)).1,bJ n w)]++(aa.others n).drop m),())));refine Eq.trans this ?_;rw[J];rfl
theorem Bc (K:Nat)(n:aa)(w:ao)(Z:NB n)(h:UpN n)(u:fb w)(J:lB n w)(z:w.2.1≠2)(H:1048577<K):Q91.f K (n,w,())=some (((cL K n w).2,()),((cL K n w).1,())):=by
 have r:=u.2.2.2.2.2.2.2.1;unfold cL;rw[if_pos ⟨u,J⟩];simp only[Q91.f,zcp4];by_cases y:w.2.1=6
 ·rw[if_pos y,show (w.2.1==6)=true by simpa using y];have X:=u.2.2.2.2.2.2.2.2;rw[if_pos y]at X;simp only[cond_true];exact (congrArg (λo=>BD o _) (sum_i K n w Z h u.1 r X H)).trans rfl
 ·rw[if_neg y,show (w.2.1==6)=false by simpa using y];obtain⟨Y,O⟩:=jT u J y;have I:=(kl h J.2.1 r Y O).1;simp only[cond_false];refine (congrArg (λo=>BD o _) (uI K n (ao.table w) w.2.2.1 h.learns r.1 (bZ r) O.1 H)).trans ?_;simp only[BA];generalize cY n (ao.table w) w.2.2.1=m at I ⊢;have M:=u.2.2.2.2.2.1;have R:=yM K m w.2.2.2.2.2.1 M;rw[show (w.2.1==2)=false by simpa using z];unfold fa;rw[show (w.2.1==2)=false by simpa using z];cases w.2.1==1 with
  |true =>
   simp only[cond_true];refine (congrArg (λo=>BD o _) R).trans ?_;simp only[rb,BA,bne];cases ak w.2.2.2.2.2.1==ak m.1 with
   |false=>rfl
   |true =>
    cases w.2.2.2.2.2.1==m.1 with
    |true=>rfl
    |false =>
     simp only[B3,BU,BI,cond_true,cond_false];exact (congrArg (λo=>BD o _) (xx K m 2 w I.x.say H)).trans rfl
  |false =>
   simp only[cond_false];cases w.2.1==3 with
   |true =>
    simp only[cond_true];refine (congrArg (λo=>BD o _) R).trans ?_;simp only[rb,BA,bne];cases ak w.2.2.2.2.2.1==ak m.1 with
    |false=>rfl
    |true =>
     cases w.2.2.2.2.2.1==m.1 with
     |true=>rfl
     |false =>
      simp only[B3,BU,BI,cond_true,cond_false];cases w.2.2.2.2.2.1==w.2.2.1 with
      |true=>rfl
      |false =>
       simp only[BU,cond_true,cond_false];exact (congrArg (λo=>BD o _) (xx K m 1 w I.x.say H)).trans rfl
   |false =>
    simp only[cond_false];cases w.2.1==4 with
    |true =>
     simp only[cond_true];exact (congrArg (λo=>BD o _) (zL K m 5 w.2.2.1 (bZ I.x.table))).trans rfl
    |false=>rfl
theorem Ad {n:aa}(h:UpN n):(lw n).length<=8/\∀ x∈lw n,hI x:=by
 unfold lw;refine⟨?_,λx u=>?_⟩
 ·rw[B7];exact BL (B9 _ _) (iO h.x.table.2 λf r=>(h.x.table.1 f r).1)
 ·obtain⟨f,r,rfl⟩:=BX.1 u;exact⟨(h.x.table.1 f (Bw.1 r).1).1,bZ h.x.table⟩
theorem Bd (K:Nat)(w:b7)(c:Nat)(h:WI w c)(hc:c<=1000000)(e:af)(h0:InP e.2.1 0 7)(O:1048577<K):Tot (Q210.f K (w,e,())) λr=>WI r.1.1 (c+4):=by
 have a1:=h.len;have hs:=h.sides;obtain⟨a0,a2,u,keep⟩:=e;obtain⟨e0,e1⟩:=h0;simp only at e0 e1;obtain⟨i,rfl⟩:=BP e0;have R:i<w.1.length:=by omega
 have J:=h.node i R;have y:=h.mono (show c<=c+4 by omega);simp only[Q210.f];refine Tot.vl (ag R) (Tot.vl (by rw[BF];exact ag R) ?_);generalize w.1[i]=n at J ⊢;refine Tot.cnd (λ_=>?_) λ_=>Tot.cnd (λ_=>?_) λ_=>Tot.cnd (λ_=>?_) λ_=>?_
 ·
  rw[zn];simp only[BA];exact Tot.ix2 (by omega) (by omega) λ_ _ _=>Tot.ret ⟨y.len,y.node,y.radio,by show (w.2.2.1.set _ _).length=8;rw[BM];exact h.sides,y.born⟩
 ·
  simp only[Q191.f,BA];refine Tot.ix2 (by omega) (by omega) λ_ _ _=>Tot.ret (y.put (i:=i) (n:=jn n.1 n.2.2.2.1) ?_ y.radio y.born)
  exact⟨J.me,J.lt,λM=>(by cases M),λ_=>rfl⟩
 ·
  exact Tot.cnd (λ_=>Tot.ret y) λ_=>Tot.bind (Bb K w c h hc (i:Int) ⟨by omega,by omega⟩ O) λv H=>Tot.ret H
 ·refine Tot.cnd (λ_=>Tot.ret y) λM=>Tot.cnd (λ_=>Tot.ret y) λZ=>?_
  have M:n.2.1=true:=by simpa using M
  have z:=J.up M;have set:=λ (m:aa) (X:List ao) (I:UpN m) (em:m.1=n.1) (Y:∀ x∈X,hI x) (hl:X.length<=1000)=>Ba K w i m X [] c ⟨h,J.lt,J.of I em,Y,hl,BJ _,hc⟩ O
  refine Tot.cnd (λ_=>?_) λ_=>Tot.cnd (λ_=>?_) λ_=>Tot.cnd (λ_=>?_) λ_=>Tot.ret y
  ·refine Tot.cnd (λ_=>Tot.ret y) λI=>?_
   have I:ch n<999999:=by have I:¬ n.2.2.2.2.2.1>=999999:=of_decide_eq_false I;show n.2.2.2.2.2.1<999999;omega
   obtain⟨t1,t2,_⟩:=qt z I;obtain⟨w1,w2⟩:=AY z I u;exact Tot.vl (AZ K n u z Z I O) (Tot.bind (set _ _ t1 t2 w2 (BL w1 (by omega))) λv H=>Tot.ret H)
  ·obtain⟨t1,t2⟩:=yF z Z;obtain⟨w1,w2⟩:=Ad t1;exact Tot.vl (zM K n z.nb z.ok M Z O) (Tot.bind (set _ _ t1 t2 w2 (BL w1 (by omega))) λv H=>Tot.ret H)
  ·refine Tot.bind (cI K u 0 7).tot λv H=>Tot.cnd (λ_=>Tot.ret y) λh1=>Tot.cnd (λ_=>Tot.ret y) λ_=>?_
   have hd:InP u 0 7:=H.1 (by simpa using h1);rw[ez K,ez K];simp only[BA];refine Tot.cnd (λ_=>Tot.ret y) λ_=>?_
   refine Tot.vl (nL K n 4 u (bZ z.x.table)) (Tot.bind (set n _ z rfl (λx hx=>?_) (by simp)) λv H=>Tot.ret H);rw[BG.1 hx];exact⟨hd,bZ z.x.table⟩
theorem do_t (K:Nat)(w:b7)(c:Nat)(h:WI w c)(O:c<=1000000)(e:af)(M:1048577<K):Tot (Q212.f K (w,e,())) λr=>WI r.1.1 (c+4):=by
 have z:=h.mono (show c<=c+4 by omega);have hr:=h.radio.1;simp only[Q212.f];rw[aC (n:=(BC w.2.1:Int)-1) (by omega) (by omega)];have u:Tot ((Q97.f K (e.2.1,0,(BC w.2.1:Int)-1,())).bind λX=>bif !X.1.1 then (some ((w,false,()),())) else (bif e.1==2 then ((Q188.f K (w,e.2.1,e.2.2.2,())).bind λZ=>some ((Z.1.1,true,()),())) else (bif e.1==4 then ((Q189.f K (w,e.2.1,e.2.2.1,())).bind λR=>some ((R.1.1,R.1.2.1,()),())) else ((Q181.f K (w.2.1,e.2.1,())).bind λY=>some (((w.1,(Y.1.1,w.2.2)),true,()),()))))) λr=>WI r.1.1 (c+4):=by
  refine Tot.bind (cI K _ _ _).tot λv y=>Tot.cnd (λ_=>Tot.ret z) λJ=>?_
  obtain⟨I,H⟩:InP e.2.1 0 ((BC w.2.1:Int)-1):=y.1 (by simpa using J);have H:e.2.1<(w.2.1.length:Int):=by omega
  refine Tot.cnd (λ_=>Tot.bind (Aa K w c h O e.2.1 e.2.2.2 I H M) λv y=>Tot.ret y) λ_=>Tot.cnd (λ_=>Tot.bind (Ab K w c h e.2.1 e.2.2.1 I H) λv y=>Tot.ret (WI.mono y (by omega))) λ_=>?_
  exact Tot.bind (rj K w.2.1 e.2.1 I H h.radio) λv y=>Tot.ret ⟨z.len,z.node,y,z.sides,z.born⟩
 refine Tot.cnd (λ_=>u) λ_=>Tot.cnd (λ_=>u) λ_=>Tot.cnd (λ_=>u) λ_=>?_
 exact Tot.bind (cI K _ _ _).tot λv y=>Tot.cnd (λ_=>Tot.ret z) λJ=>Tot.bind (Bd K w c h O e (y.1 (by simpa using J)) M) λv y=>Tot.ret y
theorem yP (K:Nat)(w:b7)(X:w.1.length<=1048576)(M:∀ n∈w.1,NB n)(O:w.2.1.length<=1048576)(R:w.2.2.1.length<=1048576)(Y:w.2.2.2.length<=1048576)(z:1048577<K):Q213.f K (w,())=some ((w,()),()):=by
 simp only[Q213.f,Q213.pre];rw[szb _ _ _ (by omega) (by show (BC ([]:List ly))+w.2.1.length<=_;simp;omega)];simp only[cond_true];rw[szb _ _ _ (by omega) (by show (BC ([]:List Int))+w.2.2.1.length<=_;simp;omega)];simp only[cond_true];rw[szb _ _ _ (by omega) (by show (BC ([]:List af))+w.2.2.2.length<=_;simp;omega)];simp only[cond_true];have:∀ (d i k:Nat),i+d=w.1.length->d<k->ae (λrec a=>Q213.s0 K (w,()) rec a) k ((i:Int),w.1.take i)=some ((w,()),()):=by
  intro d;induction d with
  |zero =>
   intro i k H J;obtain⟨k,rfl⟩:∃ u,k=u+1:=⟨k-1,by omega⟩;have:i=w.1.length:=by omega
   subst this;show Q213.s0 K (w,()) _ _=_;simp only[Q213.s0,aU,B4];rfl
  |succ d y =>
   intro i k H J;obtain⟨k,rfl⟩:∃ u,k=u+1:=⟨k-1,by omega⟩;have r:i<w.1.length:=by omega
   show Q213.s0 K (w,()) _ _=_;simp only[Q213.s0];rw[bD (by omega:(i:Int)<(BC w.1:Int)),ag r,ar i (by omega)];simp only[cond_true,BA];refine (congrArg (λo=>BD o _) (wS K w.1[i] (M _ (BH r)) z)).trans ?_;simp only[BA];have I:decide (((w.1.take i).length+[w.1[i]].length)*232<=am)=true:=decide_eq_true (by
    rw[BY];simp only[BQ,B8,am];omega)
   refine (congrArg (λb=>bif b then _ else _) I).trans ?_;have e:w.1.take i++[w.1[i]]=w.1.take (i+1):=by rw[List.take_add_one,List.getElem?_eq_getElem r];rfl
   rw[<- y (i+1) k (by omega) (by omega),<- e];rfl
 exact this w.1.length 0 K (by omega) (by omega)
theorem WI.copy {w:b7}{c:Nat}(h:WI w c)(z:c<=1000000)(K:Nat)(r:1048577<K):Q213.f K (w,())=some ((w,()),()):=by
 have H:=h.len;have J:=h.radio.1;have M:=h.sides;have I:=h.born;refine yP K w (by omega) (λn u=>?_) (by omega) (by omega) (by omega) r;obtain⟨i,y,rfl⟩:=BN u;exact (h.node i y).nb
theorem Be (K:Nat)(w:b7)(c:Nat)(y:List af)(h:WI w c)(hl:y.length<=1000)(Z:c<=900000)(M:1048577<K):Tot (Q214.f K (w,y,())) λr=>WI r.1.1 (c+4*y.length)/\r.2.1=y:=by
 simp only[Q214.f,Q214.pre];refine Tot.iter (step:=λrec a=>Q214.s0 K (w,y,()) rec a) (λa=>0<=a.1/\a.1<=y.length/\WI a.2 (c+4*a.1.toNat)) (λa=>y.length-a.1.toNat) ?_ K _ (by show y.length-BE 0<K;omega) ⟨by show (0:Int)<=0;omega,by show (0:Int)<=_;omega,h⟩;rintro rec ⟨i,v⟩ ⟨R,X,H⟩ J;simp only at R X H J ⊢;simp only[Q214.s0];refine Tot.cnd (λz=>?_) λ_=>Tot.ret ⟨WI.mono H (by omega),rfl⟩
 have z:i<(y.length:Int):=of_decide_eq_true z;rw[aC (n:=i+1) (by omega) (by omega)];refine Tot.vl (H.copy (by omega) K M) (Tot.ix2 R z λe _ _=>Tot.bind (do_t K v _ H (by omega) e M) ?_);rintro⟨⟨v',ok,⟨⟩⟩,⟨⟩⟩ I;have I:WI v' (c+4*i.toNat+4):=I;have O:∀ u:b7,WI u (c+4*i.toNat+4)->Tot (rec (i+1,u)) λr=>WI r.1.1 (c+4*y.length)/\r.2.1=y:=λu Y=>J (i+1,u) ⟨by show 0<=i+1;omega,by show i+1<=_;omega,Y.mono (by show _<=c+4*(i+1).toNat;omega)⟩ (by show y.length-BE (i+1)<y.length-BE i;omega)
 exact Tot.cnd (λ_=>O v' I) λ_=>O v (H.mono (by omega))
theorem vP (K:Nat)(hK:1048577<K):Tot (Q129.f K ()) λr=>WI r.1.1 8:=by
 simp only[Q129.f,Q129.pre];refine Tot.iter (step:=λrec a=>Q129.s0 K () rec a) (λa=>0<=a.1/\a.1<=8/\a.2.1.length=a.1.toNat/\(∀ (j:Nat) (y:j<a.2.1.length),dE j a.2.1[j])/\a.2.2.1.length=a.1.toNat/\a.2.2.2.length=a.1.toNat) (λa=>8-a.1.toNat) ?_ K _ (by show 8-BE 0<K;omega) ⟨by show (0:Int)<=0;omega,by show (0:Int)<=8;omega,rfl,λj y=>(by cases y),rfl,rfl⟩;rintro rec ⟨i,z,R,X⟩ ⟨J,h1,Z,I,h4,Y⟩ O;simp only at J h1 Z I h4 Y O ⊢;simp only[Q129.s0];refine Tot.cnd (λu=>?_) λu=>?_
 ·have u:i<=7:=of_decide_eq_true u;rw[aC (n:=i+1) (by omega) (by omega)];simp only[Q117.f,BA];refine Tot.vl (rm K i _ ⟨J,u⟩) (Tot.fit (Tot.fit (Tot.vl (show idx (mg i (decide (BS i 4<3))).2.2.2.2.2.2.2.2.1 0=some (i,0,1,decide (BS i 4<3)) from rfl) (Tot.fit (O _ ⟨by show 0<=i+1;omega,by show i+1<=8;omega,?_,λj y=>?_,?_,?_⟩ (by show 8-BE (i+1)<8-BE i;omega)) (by omega) ?_)) (by omega) ?_) (by omega) ?_)
  ·show (z++[mg i _]).length=(i+1).toNat;simp;omega
  ·show dE j ((z++[mg i (decide (BS i 4<3))])[j]'y);rw[List.getElem_append];split
   ·exact I j _
   ·rename_i H;have y:j<(z++[mg i (decide (BS i 4<3))]).length:=y;have M:j=i.toNat:=by simp at y;omega
    subst M;have:=dE.new i.toNat (decide (BS i 4<3)) (by omega);rw[CB J]at this;simpa using this
  ·show (R++[0]).length=(i+1).toNat;simp;omega
  ·show (X++[_]).length=(i+1).toNat;simp;omega
  ·simp;omega
  ·simp;omega
  ·simp;omega
 ·have H:=of_decide_eq_false u;refine Tot.ret ⟨?_,I,⟨BJ _,λf hf=>(nomatch hf)⟩,?_,?_⟩
  ·show z.length=8;omega
  ·show R.length=8;omega
  ·show X.length<=8;omega
abbrev LtP (v n:Int):Prop:=0<=v/\v<n
def bf (b:List Int)(m:Nat)(s:List Int×Int):Prop:=∃ q:Nat,q<=m/\s=(b,(q:Int))
theorem bf.up {b:List Int}{m:Nat}{s:List Int×Int}(h:bf b m s){m':Nat}(u:m<=m'):bf b m' s:=by obtain⟨q,y,r⟩:=h;exact⟨q,by omega,r⟩
section
variable {K:Nat} {b:List Int} {m:Nat} {s:List Int×Int}
theorem aF (h:fH b)(z:bf b m s)(n:Int)(y:1<=n)(I:m<=99000):Tot (Q114.f K (s,n,())) λr=>LtP r.1.1 n/\bf b (m+1) r.2.1:=by
 obtain⟨q,J,rfl⟩:=z;obtain⟨v,e,H,u⟩:=zR K b q n h (by omega) y;exact⟨_,e,⟨H,u⟩,q+1,by omega,rfl⟩
theorem Bf (r:List Int)(z:∀ y∈r,0<=y/\y<=255)(I:r.length<=9223372036854775807):∃ u:List Int,fH u/\Q113.f K (r,())=some (((u,(0:Int)),()),()):=by
 simp only[Q113.f];by_cases h:(r.length:Int)>2000
 ·rw[decide_eq_true h,decide_eq_true (by omega:(2000:Int)<=(r.length:Int))];exact⟨(r.take 2000).drop 0,⟨λy H=>z y (BW (by simpa using H)),by simp;omega⟩,rfl⟩
 ·rw[decide_eq_false h];exact⟨r,⟨z,by omega⟩,rfl⟩
theorem xz (h:fH b)(X:bf b m s)(u:Int)(h0:0<=u)(h1:u<=1)(hm:m<=98000):Tot (Q118.f K (s,u,())) λr=>(bq r.1.1/\ak r.1.1.1=u)/\bf b (m+5) r.2.1:=by
 simp only[Q118.f];refine Tot.bind (aF h X 4 (by decide) (by omega)) λH ⟨⟨a1,b1⟩,Y⟩=>Tot.bind (aF h Y 3 (by decide) (by omega)) λv2 ⟨⟨a2,b2⟩,Z⟩=>Tot.bind (aF h Z 12 (by decide) (by omega)) λv3 ⟨⟨a3,b3⟩,R⟩=>Tot.bind (aF h R 3 (by decide) (by omega)) λv4 ⟨⟨a4,J⟩,M⟩=>Tot.ix2 a4 J λy z _=>Tot.bind (aF h M 4 (by decide) (by omega)) λI ⟨⟨a5,b5⟩,O⟩=>?_
 simp only[Q117.f,BA];have z:InP y 0 999:=by
  simp only[CN,CJ,or_false]at z;rcases z with rfl|rfl|rfl <;> constructor <;> omega
 rw[aC (n:=u*4) (by omega) (by omega),aC (n:=u*4+H.1.1) (by omega) (by omega),aC (n:=1+I.1.1) (by omega) (by omega)];refine Tot.ret ⟨⟨⟨⟨?_,?_⟩,z,?_,?_⟩,?_⟩,O⟩
 ·show (0:Int)<=u*4+H.1.1;omega
 ·show u*4+H.1.1<=7;omega
 ·show (1:Int)<=1+I.1.1;omega
 ·show (1:Int)+I.1.1<=4;omega
 ·show ak (u*4+H.1.1)=u;rw[gv ⟨by omega,by omega⟩];omega
theorem rq (h:fH b)(M:bf b m s)(hm:m<=97000):Tot (Q120.f K (s,())) λr=>bf b (m+8) r.2.1:=by
 simp only[Q120.f];refine Tot.bind (aF h M 2 (by decide) (by omega)) λO ⟨⟨Z,b1⟩,R⟩=>Tot.bind (xz h R O.1.1 Z (by omega) (by omega)) λf ⟨_,X⟩=>Tot.bind (aF h X 12 (by decide) (by omega)) λJ ⟨_,H⟩=>?_
 have u:∀ {x y:Int} {G:(Int×Unit)×(List Int×Int)×Unit->Int->Option ((af×Unit)×(List Int×Int)×Unit)},(∀ v z,Tot (G v z) λr=>r.2.1=v.2.1)->Tot ((Q114.f K (J.2.1,2,())).bind λv=>(idx [x,y] v.1.1).bind λ_=>(idx [x,y] (BE v.1.1:Nat)).bind (G v)) λr=>bf b (m+8) r.2.1:=λY=>Tot.bind (aF h H 2 (by decide) (by omega)) λv ⟨⟨a,b⟩,I⟩=>Tot.ix2 a b λz _ _=>(Y v z).mono λr e=>by rw[e];exact I.up (by omega)
 refine Tot.cnd (λ_=>u λ_ _=>Tot.ret rfl) λ_=>Tot.cnd (λ_=>u λ_ _=>Tot.ret rfl) λ_=>Tot.cnd (λ_=>u λ_ _=>Tot.ret rfl) λ_=>Tot.cnd (λ_=>Tot.ret (H.up (by omega))) λ_=>Tot.ret (H.up (by omega))
theorem xA (t:List af)(f:af):(bS t f).1.length<=t.length+1:=by
 rcases gV t f with e|e
 ·rw[e];omega
 ·rw[e];exact yl
theorem vQ {t:List af}{f:af}{z:Int}(h:bP t z)(u:ak f.1=z):bP (bS t f).1 z:=by
 rcases gV t f with e|e <;> rw[e]
 ·exact h
 ·intro g r;rcases aX.1 r with rfl|⟨r,_⟩
  ·exact u
  ·exact h g r
theorem uS (h:fH b)(hs:bf b m s)(u:Int)(h0:-1<=u)(h1:u<=1)(hm:m<=96000)(hK:1048577<K):Tot (Q119.f K (s,u,())) λr=>(ax r.1.1/\(0<=u->bP r.1.1 u)/\r.1.1.length<=5)/\bf b (m+31) r.2.1:=by
 simp only[Q119.f,Q119.pre];refine Tot.bind (aF h hs 6 (by decide) (by omega)) λv ⟨⟨v0,v1⟩,s1⟩=>?_
 refine Tot.iter (step:=λrec a=>Q119.s0 K (s,u,()) rec a) (λa=>∃ q:Nat,0<=a.2.1/\ax a.1/\(0<=u->bP a.1 u)/\(a.1.length:Int)+a.2.1<=5/\bf b q a.2.2/\q+6*a.2.1.toNat<=m+31) (λa=>a.2.1.toNat) ?_ K _ (by show v.1.1.toNat<K;omega) ⟨m+1,v0,⟨by simp,List.Pairwise.nil⟩,λ_ f hf=>(nomatch hf),by show ((0:Nat):Int)+v.1.1<=5;omega,s1,by show m+1+6*v.1.1.toNat<=m+31;omega⟩;rintro rec ⟨t,n,s2⟩ ⟨q,n0,O,X,hl,I,hq⟩ ih;simp only at n0 O X hl I hq ih ⊢;simp only[Q119.s0];refine Tot.cnd (λhn=>?_) λ_=>Tot.ret ⟨⟨O,X,by show t.length<=5;omega⟩,I.up (by omega)⟩
 have hn:n>0:=of_decide_eq_true hn;rw[aC (n:=n-1) (by omega) (by omega)];have go:∀ (z:Int) (J:Nat) (M:List Int×Int),0<=z->z<=1->(0<=u->z=u)->bf b J M->J<=q+1->Tot ((Q118.f K (M,z,())).bind λZ=>(Q116.f K (t,Z.1.1,())).bind λy4=>rec (y4.1.1,n-1,Z.2.1.1,Z.2.1.2)) λr=>(ax r.1.1/\(0<=u->bP r.1.1 u)/\r.1.1.length<=5)/\bf b (m+31) r.2.1:=λz J M z0 z1 hz Y a1=>by
  refine Tot.bind (xz h Y z z0 z1 (by omega)) λy ⟨⟨hf,R⟩,a0⟩=>Tot.vl (vE K t y.1.1 (by omega) O.2 hK) (ih (_,_,y.2.1) ⟨J+5,by show 0<=n-1;omega,ki O hf,λh9=>vQ (X h9) (by rw[R];exact hz h9),?_,a0,by show J+5+6*(n-1).toNat<=m+31;omega⟩ (by show (n-1).toNat<n.toNat;omega))
  have:=xA t y.1.1;show ((bS t y.1.1).1.length:Int)+(n-1)<=5;omega
 refine Tot.cnd (λH=>?_) λH=>?_
 ·have H:u<0:=of_decide_eq_true H;exact Tot.bind (aF h I 2 (by decide) (by omega)) λv ⟨⟨a,b⟩,M⟩=>go v.1.1 (q+1) v.2.1 a (by omega) (λh9=>by omega) M (BV _)
 ·have H:¬ u<0:=of_decide_eq_false H;exact go u q s2 (by omega) h1 (λ_=>rfl) I (by omega)
theorem pU (h:fH b)(Y:bf b m s)(hm:m<=95000)(O:1048577<K):Tot (Q121.f K (s,())) λr=>r.1.1.length<=6/\bf b (m+42) r.2.1:=by
 simp only[Q121.f];refine Tot.bind (uS h Y (-1) (by decide) (by decide) (by omega) O) λt ⟨⟨Z,_,hl⟩,I⟩=>?_
 refine Tot.cnd (λJ=>?_) λ_=>Tot.ret ⟨by show t.1.1.length<=6;omega,I.up (by omega)⟩
 have J:(t.1.1.length:Int)>0:=of_decide_eq_true J;refine Tot.bind (aF h I 12 (by decide) (by omega)) λv2 ⟨_,M⟩=>Tot.cnd (λ_=>?_) λ_=>Tot.ret ⟨by show t.1.1.length<=6;omega,M.up (by omega)⟩
 refine Tot.bind (aF h M (t.1.1.length:Int) (by omega) (by omega)) λv3 ⟨⟨z,H⟩,X⟩=>Tot.bind (aF h X 3 (by decide) (by omega)) λv4 ⟨_,u⟩=>?_
 refine Tot.cnd (λ_=>Tot.bind (rq h u (by omega)) λf R=>Tot.ix2 z H λ_ _ _=>Tot.ret ⟨by show (t.1.1.set _ _).length<=6;rw[BM];omega,R.up (by omega)⟩) λ_=>?_
 refine Tot.cnd (λ_=>Tot.ix2 z H λy _ _=>Tot.fit (Tot.ret ⟨by show (t.1.1++[y]).length<=6;simp;omega,u.up (by omega)⟩) (by omega) (by simp;omega)) λ_=>Tot.ix2 z H λy _ _=>Tot.ret ⟨by show (t.1.1.set _ _).length<=6;rw[BM];omega,u.up (by omega)⟩
theorem Ae (h:fH b)(Y:bf b m s)(u:Int)(Z:-1<=u)(h1:u<=1)(hm:m<=95000)(R:1048577<K):Tot (Q122.f K (s,u,())) λr=>r.1.1.length<=5/\bf b (m+36) r.2.1:=by
 simp only[Q122.f,Q122.pre];refine Tot.bind (uS h Y u Z h1 (by omega) R) λt ⟨⟨hT,_,hl⟩,s1⟩=>?_
 refine Tot.iter (step:=λrec a=>Q122.s0 K (s,u,()) rec a) (λa=>a.2.1=t.1.1/\0<=a.2.2.1/\a.2.2.1<=t.1.1.length/\(a.1.length:Int)=a.2.2.1/\bf b (m+31+a.2.2.1.toNat) a.2.2.2) (λa=>t.1.1.length-a.2.2.1.toNat) ?_ K _ (by show t.1.1.length-BE 0<K;omega) ⟨rfl,by show (0:Int)<=0;omega,by show (0:Int)<=_;omega,rfl,s1⟩;rintro rec ⟨H,t',i,s2⟩ ⟨e,O,i1,J,z⟩ M;simp only at e O i1 J z M ⊢;subst e;simp only[Q122.s0];refine Tot.cnd (λI=>?_) λ_=>Tot.ret ⟨by show H.length<=5;omega,z.up (by omega)⟩
 have I:i<(t.1.1.length:Int):=of_decide_eq_true I;rw[aC (n:=i+1) (by omega) (by omega)];refine Tot.ix2 O I λy _ _=>Tot.bind (aF h z 4 (by decide) (by omega)) λv ⟨_,X⟩=>Tot.fit (M (_,_,_,v.2.1) ⟨rfl,by show 0<=i+1;omega,by show i+1<=_;omega,?_,X.up (by show _<=m+31+(i+1).toNat;omega)⟩ (by show t.1.1.length-(i+1).toNat<t.1.1.length-i.toNat;omega)) (by omega) (by simp;omega)
 show ((H++[_]).length:Int)=i+1;simp;omega
theorem vR (h:fH b)(Y:bf b m s)(hm:m<=94000)(R:1048577<K):Tot (Q123.f K (s,())) λr=>r.1.1.length<=6/\bf b (m+50) r.2.1:=by
 simp only[Q123.f];refine Tot.bind (Ae h Y (-1) (by decide) (by decide) (by omega) R) λt ⟨hl,J⟩=>?_
 refine Tot.cnd (λM=>?_) λ_=>Tot.ret ⟨by show t.1.1.length<=6;omega,J.up (by omega)⟩
 have M:(t.1.1.length:Int)>0:=of_decide_eq_true M;refine Tot.bind (aF h J 10 (by decide) (by omega)) λv2 ⟨_,O⟩=>Tot.cnd (λ_=>?_) λ_=>Tot.ret ⟨by show t.1.1.length<=6;omega,O.up (by omega)⟩
 refine Tot.bind (aF h O (t.1.1.length:Int) (by omega) (by omega)) λv3 ⟨⟨z,I⟩,X⟩=>Tot.bind (aF h X 3 (by decide) (by omega)) λv4 ⟨_,u⟩=>?_
 refine Tot.cnd (λ_=>Tot.bind (aF h u 2 (by decide) (by omega)) λv5 ⟨⟨Z,b5⟩,H⟩=>Tot.ix2 Z b5 λ_ _ _=>Tot.ix2 z I λ_ _ _=>Tot.ret ⟨by show (t.1.1.set _ _).length<=6;rw[BM];omega,H.up (by omega)⟩) λ_=>?_
 refine Tot.cnd (λ_=>Tot.bind (rq h u (by omega)) λf H=>Tot.ix2 z I λ_ _ _=>Tot.ret ⟨by show (t.1.1.set _ _).length<=6;rw[BM];omega,H.up (by omega)⟩) λ_=>?_
 exact Tot.ix2 z I λy _ _=>Tot.fit (Tot.ret ⟨by show (t.1.1++[y]).length<=6;simp;omega,u.up (by omega)⟩) (by omega) (by simp;omega)
theorem xB (h:fH b)(R:bf b m s)(hm:m<=95000):Tot (Q125.f K (s,())) λr=>bf b (m+6) r.2.1:=by
 simp only[Q125.f,Q124.f];refine Tot.bind (aF h R 6 (by decide) (by omega)) λv1 ⟨_,z⟩=>Tot.cnd (λ_=>Tot.ret (z.up (by omega))) λ_=>Tot.bind (aF h z 3 (by decide) (by omega)) λv3 ⟨⟨I,Y⟩,O⟩=>Tot.ix2 I Y λy u _=>?_
 have u:InP y 10 100000:=by
  simp only[CN,CJ,or_false]at u;rcases u with rfl|rfl|rfl <;> constructor <;> omega
 rw[aC (n:=2*y) (by omega) (by omega),aC (n:=2*y+1) (by omega) (by omega),aC (n:=y+1) (by omega) (by omega)];exact Tot.bind (aF h O _ (by omega) (by omega)) λv6 ⟨_,X⟩=>Tot.bind (aF h X _ (by omega) (by omega)) λv7 ⟨_,M⟩=>Tot.bind (aF h M _ (by omega) (by omega)) λZ ⟨_,H⟩=>Tot.bind (aF h H _ (by decide) (by omega)) λv9 ⟨_,J⟩=>Tot.ret J
theorem pV (h:fH b)(H:bf b m s)(I:m<=94000):Tot (Q126.f K (s,())) λr=>bf b (m+8) r.2.1:=by
 simp only[Q126.f];exact Tot.bind (xB h H (by omega)) λc z=>Tot.bind (aF h z 16 (by decide) (by omega)) λJ ⟨_,y⟩=>Tot.cnd (λ_=>Tot.bind (aF h y 3 (by decide) (by omega)) λv ⟨⟨a,b⟩,u⟩=>Tot.ix2 a b λ_ _ _=>Tot.ret u) λ_=>Tot.cnd (λ_=>Tot.bind (aF h y 2 (by decide) (by omega)) λv ⟨⟨a,b⟩,u⟩=>Tot.ix2 a b λ_ _ _=>Tot.ret u) λ_=>Tot.cnd (λ_=>Tot.bind (aF h y 2 (by decide) (by omega)) λv ⟨⟨a,b⟩,u⟩=>Tot.ix2 a b λ_ _ _=>Tot.ret u) λ_=>Tot.ret (y.up (by omega))
theorem xC (h:fH b)(H:bf b m s)(w:b7)(I:m<=95000):Tot (Q215.f K (s,w,())) λr=>bf b (m+2) r.2.1:=by
 simp only[Q215.f];refine Tot.cnd (λ_=>Tot.ret (H.up (by omega))) λz=>?_
 have z:¬ (w.2.1.length:Int)=0:=by simpa using z
 refine Tot.bind (aF h H 3 (by decide) (by omega)) λJ ⟨_,y⟩=>Tot.cnd (λ_=>Tot.cnd (λ_=>Tot.bind (aF h y 4 (by decide) (by omega)) λv ⟨_,u⟩=>Tot.ret u) λ_=>?_) λ_=>?_ <;>
 exact Tot.bind (aF h y _ (by show (1:Int)<=(w.2.1.length:Int);omega) (by omega)) λv ⟨_,u⟩=>Tot.ret u
theorem Af (h:fH b)(Y:bf b m s)(w:b7)(hm:m<=94000):Tot (Q216.f K (s,w,())) λr=>bf b (m+8) r.2.1:=by
 simp only[Q216.f];refine Tot.bind (aF h Y 8 (by decide) (by omega)) λv1 ⟨_,Z⟩=>Tot.bind (aF h Z 256 (by decide) (by omega)) λv2 ⟨_,s2⟩=>Tot.bind (aF h s2 16 (by decide) (by omega)) λv3 ⟨_,X⟩=>Tot.bind (aF h X 40 (by decide) (by omega)) λM ⟨_,y⟩=>?_
 have y:bf b (m+4) M.2.1:=y.up (by omega);generalize M.2.1=z at y ⊢;have u4:bf b (m+8) z:=y.up (by omega);have O:=xC (K:=K) h y w (by omega);have R:∀ n:Int,1<=n->Tot (Q114.f K (z,n,())) λr=>bf b (m+8) r.2.1:=λn J=>(aF h y n J (by omega)).mono λr I=>I.2.up (by omega)
 have pp:∀ (H:List Int×Int) (n:Int),bf b (m+4+2) H->1<=n->Tot (Q114.f K (H,n,())) λr=>bf b (m+8) r.2.1:=λH n h1 J=>(aF h h1 n J (by omega)).mono λr I=>I.2.up (by omega)
 repeat' first
  |exact Tot.ret u4
  |exact Tot.bind O λv u=>Tot.ret (bf.up u (by omega))
  |exact Tot.bind O λv u=>Tot.bind (pp _ _ u (by decide)) λv u=>Tot.ret u
  |exact Tot.bind (R _ (by decide)) λv u=>Tot.ret u
  |exact Tot.bind (R _ (by decide)) λv u=>Tot.cnd (λ_=>Tot.ret u) λ_=>Tot.ret u
  |refine Tot.cnd (λ_=>?_) λ_=>?_
theorem Ag (h:fH b)(hs:bf b m s)(y:Int)(h1:1<=y)(h2:y<=200)(hm:m<=90000)(X:1048577<K):Tot (Q217.f K (s,y,())) λr=>(WI r.1.2.1 2000/\r.1.1.length<=300)/\bf b (m+8*y.toNat+2) r.2.1:=by
 simp only[Q217.f,Q217.pre];have O:∀ (H:List af) (n:Int) (z:List Int×Int) (w:b7) (q c:Nat),0<=n->n<y->H.length<=24->bf b q z->q<=m+2->WI w c->c<=200->Tot (Q217.l1 K (s,y,()) (H,n,z.1,z.2,w)) λr=>(WI r.1.2.1 2000/\r.1.1.length<=300)/\bf b (m+8*y.toNat+2) r.2.1:=λH n z w q c n0 n1 ho M hq I hc=>by
  refine Tot.iter (step:=λrec a=>Q217.s1 K (s,y,()) rec a) (λa=>∃ q c:Nat,0<=a.2.1/\a.2.1<y/\(a.1.length:Int)+a.2.1<=24+y/\bf b q (a.2.2.1,a.2.2.2.1)/\q+8*a.2.1.toNat<=m+8*y.toNat+2/\WI a.2.2.2.2 c/\c+4*a.2.1.toNat<=2000) (λa=>a.2.1.toNat) ?_ K _ (by show n.toNat<K;omega) ⟨q,c,n0,n1,by show (H.length:Int)+n<=_;omega,M,by show q+8*n.toNat<=_;omega,I,by show c+4*n.toNat<=2000;omega⟩;clear M hq I hc n0 n1 ho;rintro rec ⟨H,n,z1,z2,w⟩ ⟨q,c,n0,n1,ho,M,hq,I,hc⟩ Y;simp only at n0 n1 ho M hq I hc Y ⊢;simp only[Q217.s1];refine Tot.cnd (λhn=>?_) λ_=>Tot.vl (I.copy (by omega) K X) (Tot.ret ⟨⟨I.mono (by omega),by show H.length<=300;omega⟩,M.up (by omega)⟩)
  have hn:n>0:=of_decide_eq_true hn;rw[aC (n:=n-1) (by omega) (by omega)];refine Tot.bind (Af h M w (by omega)) λe he=>Tot.fit (Tot.vl (I.copy (by omega) K X) (Tot.bind (do_t K w c I (by omega) e.1.1 X) ?_)) (by omega) (by simp;omega)
  rintro⟨⟨v',ok,⟨⟩⟩,⟨⟩⟩ hv;have Z:∀ u:b7,WI u (c+4)->Tot (rec (H++[e.1.1],n-1,e.2.1.1,e.2.1.2,u)) λr=>(WI r.1.2.1 2000/\r.1.1.length<=300)/\bf b (m+8*y.toNat+2) r.2.1:=λu hu=>Y _ ⟨q+8,c+4,by show 0<=n-1;omega,by show n-1<y;omega,by show ((H++[e.1.1]).length:Int)+(n-1)<=_;simp;omega,he,by show q+8+8*(n-1).toNat<=_;omega,hu,by show c+4+4*(n-1).toNat<=2000;omega⟩ (by show (n-1).toNat<n.toNat;omega)
  exact Tot.cnd (λ_=>Z v' hv) λ_=>Z w (I.mono (by omega))
 refine Tot.bind (vP K X) λw0 R=>Tot.bind (aF h hs 3 (by decide) (by omega)) λv2 ⟨_,s2⟩=>Tot.cnd (λ_=>?_) λ_=>Tot.bind (aF h s2 y h1 (by omega)) λv9 ⟨⟨a9,b9⟩,s9⟩=>O [] v9.1.1 v9.2.1 w0.1.1 (m+2) 8 a9 b9 (by simp) s9 (BV _) R (by omega)
 refine Tot.iter (step:=λrec a=>Q217.s0 K (s,y,()) (Q217.l1 K (s,y,())) rec a) (λa=>0<=a.2.1/\a.2.1<=8/\(a.1.length:Int)<=3*a.2.1/\bf b (m+1) (a.2.2.1,a.2.2.2.1)/\WI a.2.2.2.2 8) (λa=>8-a.2.1.toNat) ?_ K _ (by show 8-BE 0<K;omega) ⟨by show (0:Int)<=0;omega,by show (0:Int)<=8;omega,by show ((0:Nat):Int)<=3*0;omega,s2,R⟩;rintro rec ⟨H,i,z1,z2,w⟩ ⟨i0,i1,ho,M,I⟩ Y;simp only at i0 i1 ho M I Y ⊢;simp only[Q217.s0];refine Tot.cnd (λhi=>?_) λ_=>?_
 ·have hi:i<=7:=of_decide_eq_true hi;rw[aC (n:=i+1) (by omega) (by omega)];have Z:∀ J:List af,(J.length:Int)<=3*(i+1)->Tot (rec (J,i+1,z1,z2,w)) λr=>(WI r.1.2.1 2000/\r.1.1.length<=300)/\bf b (m+8*y.toNat+2) r.2.1:=λJ a0=>Y _ ⟨by show 0<=i+1;omega,by show i+1<=8;omega,a0,M,I⟩ (by show 8-(i+1).toNat<8-i.toNat;omega)
  exact Tot.cnd (λ_=>Tot.fit (Tot.fit (Z _ (by simp;omega)) (by omega) (by simp;omega)) (by omega) (by simp;omega)) λ_=>Z H (by omega)
 ·refine Tot.bind (Be K w 8 H I (by omega) (by omega) X) λv ⟨hv,ev⟩=>Tot.bind (aF h M y h1 (by omega)) λv4 ⟨⟨a4,b4⟩,s4⟩=>?_
  exact O v.2.1 v4.1.1 v4.2.1 v.1.1 (m+1+1) _ a4 b4 (by rw[ev];omega) s4 (by omega) hv (by omega)
theorem Ah (h:fH b)(H:bf b m s)(y:m<=90000)(z:1048577<K):Tot (Q218.f K (s,())) λr=>WI r.1.1 2000/\bf b (m+802) r.2.1:=by
 simp only[Q218.f];exact Tot.bind (Ag h H 100 (by decide) (by decide) y z) λv u=>Tot.ret ⟨u.1.1,u.2⟩
theorem tq (h:fH b)(O:bf b m s)(z:m<=90000)(I:1048577<K):Tot (Q219.f K (s,())) λr=>(∃ i,dE i r.1.1)/\bf b (m+803) r.2.1:=by
 simp only[Q219.f];refine Tot.bind (Ah h O z I) λw ⟨u,H⟩=>Tot.bind (aF h H _ (by have:=u.len;show (1:Int)<=(w.1.1.1.length:Int);omega) (by omega)) λv ⟨⟨a,b⟩,J⟩=>Tot.ix a b λy R _=>Tot.ret ⟨?_,J⟩
 obtain⟨i,M,rfl⟩:=BN R;exact⟨i,u.node i M⟩
structure NS (c:Nat) (n:aa):Prop where
 nb:NB n
 table:(aa.table n).length<=c
 cast:(aa.cast n).length<=c
 doubts:(aa.doubts n).length<=c
 places:(aa.places n).length<=c
 others:(aa.others n).length<=c
theorem dE.ns {i:Nat}{n:aa}(h:dE i n):NS 8 n:=by
 cases y:n.2.1 with
 |true =>
  have r:=h.up y;refine⟨h.nb,by have:=h.short;omega,by have:=clen r.x.say;omega,?_,?_,?_⟩
  ·exact BL (iO r.x.say.asc r.x.say.inp) (by decide)
  ·exact BL (iO r.x.places.2 λx u=>(r.x.places.1 x u).1) (by decide)
  ·exact BL (iO r.x.others.2 λx u=>⟨(r.x.others.1 x u).1.1,CG (r.x.others.1 x u).1.2 (by decide)⟩) (by decide)
 |false =>
  have e:=h.down y;refine⟨h.nb,?_,?_,?_,?_,?_⟩ <;> rw[e] <;> exact BJ _
theorem xD (h:fH b)(hs:bf b m s)(n:aa){c:Nat}(hn:NS c n)(h8:8<=c)(hc:c<=1000)(hm:m<=90000)(hK:1048577<K):Tot (Q127.f K (s,n,())) λr=>NS (c+1) r.1.1/\bf b (m+60) r.2.1:=by
 simp only[Q127.f,zcp4,zcp8];rw[wS K n hn.nb hK];simp only[BA];obtain⟨⟨n1,Z,n3,M,n5,R,Y,X⟩,l1,l2,l3,l4,l5⟩:=hn;refine Tot.bind (aF h hs 12 (by decide) (by omega)) λv2 ⟨_,I⟩=>?_
 have y:∀ (n':aa) (z:List Int×Int),n'.2.2.2.2.2.2.2.2=n.2.2.2.2.2.2.2.2->bf b (m+60) z->NS (c+1) n'/\bf b (m+60) z:=λn' z e hz=>by
  refine⟨⟨⟨?_,?_,?_,?_,?_,?_,?_,?_⟩,?_,?_,?_,?_,?_⟩,hz⟩ <;> simp only[aa.table,aa.cast,aa.doubts,aa.places,aa.others] <;> rw[e] <;> first|assumption|(refine BL ?_ (CA c);assumption)
 have u2:bf b (m+60) v2.2.1:=I.up (by omega);refine Tot.cnd (λ_=>Tot.bind (pU h I (by omega) hK) λt ⟨tl,J⟩=>Tot.ret ⟨⟨⟨by show t.1.1.length<=_;omega,Z,n3,M,n5,R,Y,X⟩,by show t.1.1.length<=_;omega,BB l2,BB l3,BB l4,BB l5⟩,J.up (by omega)⟩) λ_=>?_
 refine Tot.cnd (λ_=>Tot.bind (vR h I (by omega) hK) λt ⟨tl,J⟩=>Tot.ret ⟨⟨⟨n1,by show t.1.1.length<=_;omega,n3,M,n5,R,Y,X⟩,BB l1,by show t.1.1.length<=_;omega,BB l3,BB l4,BB l5⟩,J.up (by omega)⟩) λ_=>?_
 refine Tot.cnd (λ_=>Tot.ret (y _ _ rfl u2)) λ_=>?_
 refine Tot.cnd (λ_=>Tot.bind (aF h I 9 (by decide) (by omega)) λv5 ⟨_,s5⟩=>Tot.bind (aF h s5 3 (by decide) (by omega)) λv6 ⟨_,s6⟩=>Tot.bind (aF h s6 3 (by decide) (by omega)) λv7 ⟨_,s7⟩=>Tot.bind (aF h s7 2 (by decide) (by omega)) λv8 ⟨_,s8⟩=>Tot.ret ⟨⟨⟨n1,Z,n3,M,n5,R,Y,X⟩,BB l1,BB l2,BB l3,BB l4,BB l5⟩,s8.up (by omega)⟩) λ_=>?_
 refine Tot.cnd (λ_=>Tot.bind (aF h I 8 (by decide) (by omega)) λv9 ⟨_,O⟩=>Tot.bind (aF h O 8 (by decide) (by omega)) λa1 ⟨_,H⟩=>Tot.fit (Tot.ret ⟨⟨⟨n1,Z,?_,?_,n5,R,Y,X⟩,BB l1,BB l2,?_,BB l4,BB l5⟩,H.up (by omega)⟩) (by omega) ?_) λ_=>?_
 ·show (aa.doubts n++[_]).length<=_;simp;omega
 ·intro d u;rcases BO.1 u with u|u
  ·exact M d u
  ·rw[BG.1 u];show ([a1.1.1]:List Int).length<=_;simp
 ·show (aa.doubts n++[_]).length<=_;simp;omega
 ·show (aa.doubts n).length+_<=_;simp;omega
 refine Tot.cnd (λ_=>Tot.bind (pV h I (by omega)) λc J=>Tot.ret ⟨⟨⟨n1,Z,n3,M,n5,R,Y,X⟩,BB l1,BB l2,BB l3,BB l4,BB l5⟩,J.up (by omega)⟩) λ_=>?_
 refine Tot.cnd (λ_=>Tot.bind (aF h I 9 (by decide) (by omega)) λv9 ⟨_,O⟩=>Tot.bind (pV h O (by omega)) λc H=>Tot.bind (aF h H 3 (by decide) (by omega)) λa0 ⟨_,a2⟩=>Tot.fit (Tot.ret ⟨⟨⟨n1,Z,n3,M,?_,?_,Y,X⟩,BB l1,BB l2,BB l3,?_,BB l5⟩,a2.up (by omega)⟩) (by omega) ?_) λ_=>?_
 ·show (aa.places n++[_]).length<=_;simp;omega
 ·intro d u;rcases BO.1 u with u|u
  ·exact R d u
  ·rw[BG.1 u];show ([a0.1.1]:List Int).length<=_;simp
 ·show (aa.places n++[_]).length<=_;simp;omega
 ·show (aa.places n).length+_<=_;simp;omega
 refine Tot.cnd (λ_=>Tot.bind (aF h I 3 (by decide) (by omega)) λv9 ⟨_,O⟩=>Tot.bind (pU h O (by omega) hK) λt ⟨tl,H⟩=>Tot.fit (Tot.ret ⟨⟨⟨n1,Z,n3,M,n5,R,?_,?_⟩,BB l1,BB l2,BB l3,BB l4,?_⟩,H.up (by omega)⟩) (by omega) ?_) λ_=>?_
 ·show (aa.others n++[_]).length<=_;simp;omega
 ·intro d u;rcases BO.1 u with u|u
  ·exact X d u
  ·rw[BG.1 u];show t.1.1.length<=_;omega
 ·show (aa.others n++[_]).length<=_;simp;omega
 ·show (aa.others n).length+_<=_;simp;omega
 refine Tot.cnd (λ_=>Tot.ret (y _ _ rfl u2)) λ_=>Tot.cnd (λ_=>Tot.ret (y _ _ rfl u2)) λ_=>?_
 refine Tot.cnd (λ_=>Tot.bind (aF h I 3 (by decide) (by omega)) λv ⟨⟨a,b⟩,J⟩=>Tot.ix2 a b λ_ _ _=>Tot.ret (y _ _ rfl (J.up (by omega)))) λ_=>?_
 exact Tot.bind (aF h I 8 (by decide) (by omega)) λv9 ⟨_,O⟩=>Tot.bind (aF h O 3 (by decide) (by omega)) λv ⟨⟨a,b⟩,J⟩=>Tot.ix2 a b λ_ _ _=>Tot.ret (y _ _ rfl (J.up (by omega)))
end
section
variable {K:Nat} {b:List Int} {m:Nat} {s:List Int×Int}
theorem xE (h:fH b)(O:bf b m s)(hm:m<=89000)(u:1048577<K):Tot (Q220.f K (s,())) λr=>NS 9 r.1.1/\bf b (m+864) r.2.1:=by
 simp only[Q220.f];refine Tot.bind (tq h O (by omega) u) λn ⟨⟨i,z⟩,X⟩=>Tot.bind (aF h X 20 (by decide) (by omega)) λv ⟨_,y⟩=>Tot.cnd (λ_=>Tot.bind (xD h y n.1.1 z.ns (BV _) (by omega) (by omega) u) λr R=>Tot.ret R) λ_=>Tot.ret ⟨?_,y.up (by omega)⟩
 obtain⟨Y,I,J,Z,H,M⟩:=z.ns;exact⟨Y,BB I,BB J,BB Z,BB H,BB M⟩
end
theorem bf.zero (b:List Int):bf b 0 (b,0):=⟨0,BV _,rfl⟩
structure xF (code:List Int):Prop where
 byte:∀ y∈code,0<=y/\y<=255
 len:code.length<=9223372036854775807
theorem vS (K:Nat){t:List af}{f:af}(r:ax t)(u:f∈t)(y:1048577<K):Q22.f K (t,f.1,())=some ((f,true,()),()):=by
 rcases iz K t f.1 (bZ r) y with ⟨h,_⟩|⟨_,⟨g,z,e,h⟩|⟨h,_⟩⟩
 ·exact absurd r h
 ·rw[h,gp r.2 z u e]
 ·exact absurd rfl (h f u)
theorem Ai {α:Type}{k:α->Int}{x:α}:∀ {xs:List α},Asc k xs->xs.length<=(bi k x xs).length:=by
 have h:∀ l:List α,Asc k l->l.length<=(l.filter (λy=>decide (k y<k x))).length+(l.filter (λy=>decide (k x<k y))).length+1:=by
  intro l;induction l with
  |nil=>intro _;simp
  |cons y l J =>
   intro u;have r:=List.pairwise_cons.1 u;have:=J r.2;simp only[List.filter_cons,BQ];by_cases H:k y<k x
   ·rw[if_pos (decide_eq_true H),if_neg (by simp;omega)];simp only[BQ];omega
   ·rw[if_neg (by simpa using H)];by_cases I:k x<k y
    ·rw[if_pos (decide_eq_true I)];simp only[BQ];omega
    ·rw[if_neg (by simpa using I)];have O:l.filter (λy=>decide (k x<k y))=l:=List.filter_eq_self.2 λz M=>decide_eq_true (by have:=r.1 z M;omega)
     rw[O];omega
 intro xs u;have:=h xs u;simp only[bi,BK,BQ];omega
theorem bkOk {n:aa}(z:UpN n)(J:n.2.2.1=false){t:List af}(H:ax t)(I:bP t (ak n.1)){r:Int}(u:InP r 0 7)(y:ak r=ak n.1)(M:r≠n.1):fb (1,5,r,n.1,0,r,(0,0,0,1500),t)/\lB n (1,5,r,n.1,0,r,(0,0,0,1500),t):=by
 refine⟨⟨show InP 1 1 2 by decide,show InP 5 1 6 by decide,u,z.x.me,show InP 0 0 999999 by decide,u,?_,H,?_⟩,z.up,J,rfl,M,?_⟩
 ·show InP 0 (-100000) 100000/\InP 0 (-100000) 100000/\InP 0 0 100000/\InP 1500 1 1500;decide
 ·rw[if_neg (show ¬ (5:Int)=6 by decide)];show bP t (ak r);rw[y];exact I
 ·rw[if_neg (show ¬ (1:Int)=2 by decide)];exact⟨y,.inl (show (5:Int)≠6 by decide)⟩
theorem Bg (K:Nat){n:aa}(u:UpN n)(M:n.2.2.1=false){t:List af}(O:ax t)(hS:bP t (ak n.1)){r:Int}(Z:InP r 0 7)(X:ak r=ak n.1)(Y:r≠n.1)(y:1048577<K) :
  Q96.f K (n,(1,5,r,n.1,0,r,(0,0,0,1500),t),())=some ((cY n t r,[],()),())/\UpN (cY n t r)/\(cY n t r).1=n.1/\(cY n t r).2.2.1=false:=by
 obtain⟨H,z⟩:=bkOk u M O hS Z X Y;have R:cL K n (1,5,r,n.1,0,r,(0,0,0,1500),t)=(cY n t r,[]):=by
  unfold cL;rw[if_pos ⟨H,z⟩,if_neg (show ¬ (5:Int)=6 by decide)];rfl
 have hu:=qy (w:=(1,5,r,n.1,0,r,(0,0,0,1500),t)) u y;rw[R,M]at hu;refine⟨?_,hu⟩;have J:NB n:=u.nb;obtain⟨b,o1,o3⟩:=lY K n J y;obtain rfl:b=true:=o3.2 u.ok;obtain⟨c,w1,w3⟩:=ym K (1,5,r,n.1,0,r,(0,0,0,1500),t) (bZ O) y;obtain rfl:c=true:=w3.2 H;obtain⟨d,q1,q3⟩:=pv K n r;obtain rfl:d=true:=q3.2 ⟨Z,X⟩;have I:Q52.f K (n,(1,5,r,n.1,0,r,(0,0,0,1500),t),())=rb true:=by
  simp only[Q52.f];rw[o1];simp only[rb,BA,BI,cond_false];rw[w1];simp only[rb,BA,BI,cond_false,Q51.f];rw[u.up,M,q1];simp only[rb,BA,BI,cond_false,cond_true,BU,bne_self_eq_false,beq_self_eq_true];rw[show (r==n.1)=false by simpa using Y];rfl
 simp only[Q96.f,Q95.f];rw[o1];simp only[rb,BA,BI,cond_false];rw[yn K n J y];simp only[BA,Q92.f];rw[I];simp only[rb,BA,BI,cond_false];rw[Bc K n _ J u H z (show (5:Int)≠2 by decide) y,R];simp only[BA,Q94.f];simp
theorem yQ {f:af}(r:bq f):¬ bI f f:=λh=>Int.lt_irrefl _ ((nO r r).1 h)
theorem xG {n:aa}(r:ax (aa.table n)){f:af}(u:f∈aa.table n)(b:Int):sayOf n f b=n:=by
 rcases kV r.2 f with e|⟨_,y⟩
 ·unfold Go.Proofs.YtadlacffdemoiaaGreatEv.sayOf;rw[e];rfl
 ·exact absurd (y f u rfl) (yQ (r.1 f u))
def c6 (d:bo):Int:=if 7-(d.2.2.2.length:Int)<3 then 3 else 7-(d.2.2.2.length:Int)
theorem uT (d:bo)(u:d.2.2.2.length<=1048576):wr .i64 (wr .i64 (6-(BC d.2.2.2:Int))+1)=7-(d.2.2.2.length:Int):=by
 have r:wr .i64 (6-(BC d.2.2.2:Int))=6-(d.2.2.2.length:Int):=aC (by omega) (by omega);rw[r,aC (by omega) (by omega)];omega
theorem xH (K:Nat)(d:bo)(r:d.2.2.2.length<=1048576):Q223.f K (d,())=some ((c6 d,()),()):=by
 simp only[Q223.f,c6];rw[uT d r];by_cases h:7-(d.2.2.2.length:Int)<3
 ·rw[decide_eq_true h,if_pos h];rfl
 ·rw[decide_eq_false h,if_neg h];rfl
theorem xI (K:Nat)(m:Int)(d:bo)(u:d.2.2.2.length<=1048576)(y:InP m 0 2000000)(z:InP d.2.2.1 0 2000000):Q193.f K (m,d,())=rb (decide (m-d.2.2.1>=c6 d)):=by
 simp only[Q193.f];have e:wr .i64 (m-d.2.2.1)=m-d.2.2.1:=aC (by omega) (by omega);rw[uT d u,e];by_cases h:7-(d.2.2.2.length:Int)<3
 ·have r:c6 d=3:=if_pos h;rw[decide_eq_true h,r];rfl
 ·have r:c6 d=7-(d.2.2.2.length:Int):=if_neg h;rw[decide_eq_false h,r];rfl
def eY (r:Int)(d:bo):Int:=if c6 d-(r-d.2.2.1)<0 then 0 else c6 d-(r-d.2.2.1)
theorem Aj (K:Nat)(n:aa)(v:Int)(d:bo)(hb:d.2.2.2.length<=1048576)(X:d.2.2.2≠[])(Y:InP n.2.2.2.2.2.1 0 999999)(hs:InP d.2.2.1 0 n.2.2.2.2.2.1)(hK:1048577<K)(u:Int->Option Q225.Res) :
  Q225.l1 K (n,v,()) u (0,d.1,d.2.1,d.2.2.1,d.2.2.2)=some ((eY n.2.2.2.2.2.1 d,true,()),()):=by
 have h1:1<=d.2.2.2.length:=By.2 X;have hL:3<=c6 d/\c6 d<=6:=by unfold c6;split <;> omega
 have hr:0<=eY n.2.2.2.2.2.1 d/\eY n.2.2.2.2.2.1 d<=6:=by unfold eY;split <;> omega
 obtain⟨r,z⟩:∃ r:Nat,eY n.2.2.2.2.2.1 d=(r:Int):=⟨(eY n.2.2.2.2.2.1 d).toNat,by omega⟩;have M:∀ (e k i:Nat),i+e=r->e<k->ae (λrec a=>Q225.s1 K (n,v,()) u rec a) k ((i:Int),d.1,d.2.1,d.2.2.1,d.2.2.2)=some (((r:Int),true,()),()):=by
  intro e;induction e with
  |zero =>
   intro k i hi hk;obtain⟨k,rfl⟩:∃ O,k=O+1:=⟨k-1,by omega⟩;have:i=r:=by omega
   subst this;show Q225.s1 K (n,v,()) u _ _=_;simp only[Q225.s1];by_cases Z:(i:Int)<6
   ·rw[decide_eq_true Z];have R:wr .i64 (n.2.2.2.2.2.1+(i:Int))=n.2.2.2.2.2.1+i:=aC (by omega) (by omega);rw[R];have H:=xI K (n.2.2.2.2.2.1+(i:Int)) d hb (by constructor <;> omega) (by constructor <;> omega);have y:decide (n.2.2.2.2.2.1+(i:Int)-d.2.2.1>=c6 d)=true:=decide_eq_true (by rw[<- z];unfold eY;split <;> omega);rw[y]at H;simp only[cond_true];exact (congrArg (λo=>BD o _) H).trans rfl
   ·rw[decide_eq_false Z];rfl
  |succ e J =>
   intro k i hi hk;obtain⟨k,rfl⟩:∃ O,k=O+1:=⟨k-1,by omega⟩;have J:=J k (i+1) (by omega) (by omega);show Q225.s1 K (n,v,()) u _ _=_;simp only[Q225.s1];rw[decide_eq_true (show (i:Int)<6 by omega),ar i (by omega)];have R:wr .i64 (n.2.2.2.2.2.1+(i:Int))=n.2.2.2.2.2.1+i:=aC (by omega) (by omega);rw[R];have H:=xI K (n.2.2.2.2.2.1+(i:Int)) d hb (by constructor <;> omega) (by constructor <;> omega);have y:decide (n.2.2.2.2.2.1+(i:Int)-d.2.2.1>=c6 d)=false:=decide_eq_false (by
    have I:(i:Int)<eY n.2.2.2.2.2.1 d:=by omega
    unfold eY at I;split at I <;> omega)
   rw[y]at H;simp only[cond_true];exact ((congrArg (λo=>BD o _) H).trans rfl).trans J
 rw[z];exact M r K 0 (by omega) (by omega)
theorem oV (n:aa)(r:NB n)(h:pw n):aa.doubts n=[]:=by
 obtain⟨_,_,_,_,_,h,_⟩:=h;have H:=r.table;have M:=r.cast;have O:=r.doubts;have J:=r.places;have I:=r.others;have y:wr .i64 ((BC (aa.table n):Int)+(BC (aa.cast n):Int))=(BC (aa.table n):Int)+(BC (aa.cast n):Int):=aC (by omega) (by omega);rw[y]at h;have u:wr .i64 ((BC (aa.table n):Int)+(BC (aa.cast n):Int)+(BC (aa.doubts n):Int))=(BC (aa.table n):Int)+(BC (aa.cast n):Int)+(BC (aa.doubts n):Int):=aC (by omega) (by omega);rw[u]at h;have z:wr .i64 ((BC (aa.table n):Int)+(BC (aa.cast n):Int)+(BC (aa.doubts n):Int)+(BC (aa.places n):Int))=(BC (aa.table n):Int)+(BC (aa.cast n):Int)+(BC (aa.doubts n):Int)+(BC (aa.places n):Int):=aC (by omega) (by omega);rw[z,aC (by omega) (by omega)]at h;exact List.eq_nil_of_length_eq_zero (by omega)
theorem vT (K:Nat)(n:aa)(v:Int)(R:NB n)(hK:1048577<K):∃ r:Int×Bool×Unit,Q224.f K (n,v,())=some (r,())/\(gL n->∀ d∈aa.doubts n,d.1=v->∃ e∈aa.doubts n,e.1=v/\r=(eY n.2.2.2.2.2.1 e,true,()))/\(r.2.1=true->gL n/\∃ d∈aa.doubts n,d.1=v):=by
 have hl:=R.doubts;obtain⟨b,h3,J⟩:=lY K n R hK;simp only[Q224.f];have O:=bX (step:=λrec a=>Q56.s0 K (aa.doubts n,(λI=>(Q222.f K (I.1,v,())).map λy=>y.1.1),()) rec a) (aa.doubts n).length (λi=>(i:Int)) (λj=>∃ h:j<(aa.doubts n).length,(aa.doubts n)[j].1=v) (some ((-1,()),())) (λj=>some ((((j:Nat):Int),()),())) ?_ ?_ (aa.doubts n).length K 0 (by omega) (by omega)
 ·have z:b=true->∀ j (h:j<(aa.doubts n).length),InP n.2.2.2.2.2.1 0 999999/\InP (aa.doubts n)[j].2.2.1 0 n.2.2.2.2.2.1/\(aa.doubts n)[j].2.2.2≠[]/\(aa.doubts n)[j].2.2.2.length<=1048576:=by
   intro Y j u;have M:=J.1 Y;have z:n.2.1=true:=by
    cases hu:n.2.1 with
    |true=>rfl
    |false =>
     have H:=M.2.2.2.2.2;rw[hu]at H;simp only[CD,if_false]at H;have:=oV n R H;rw[this]at u;simp at u
   have H:=M.2.2.2.2.2;rw[if_pos z]at H;obtain⟨_,Z,X,_⟩:=H.2.2.2.2.2.1.1 _ (BH u);exact⟨M.2.1,Z,X,R.by_ _ (BH u)⟩
  rcases O with ⟨i1,i2⟩|⟨j,_,u,j2,j3,j4⟩
  ·have e:Q56.f K (aa.doubts n,(λI=>(Q222.f K (I.1,v,())).map λy=>y.1.1),())=some ((-1,()),()):=i2;rw[e];refine⟨(0,false,()),rfl,λ_ d hd e=>?_,λh=>by cases h⟩;obtain⟨j,hj,rfl⟩:=BN hd;exact absurd ⟨hj,e⟩ (i1 j (BJ _) hj)
  ·have e:Q56.f K (aa.doubts n,(λI=>(Q222.f K (I.1,v,())).map λy=>y.1.1),())=some ((((j:Nat):Int),()),()):=j4;rw[e];simp only[BA];rw[show decide (((j:Nat):Int)<0)=false from decide_eq_false (by omega),h3];simp only[cond_false,BA];cases b with
   |false=>exact⟨(0,false,()),rfl,λM=>(by cases J.2 M),λh=>by cases h⟩
   |true =>
    obtain⟨a0,Z,X,hb⟩:=z rfl j u;simp only[BI,cond_false];rw[ag u];simp only[BA];refine⟨_,?_,λ_ _ _ _=>⟨_,BH u,j2.2,rfl⟩,λ_=>⟨J.1 rfl,_,BH u,j2.2⟩⟩;rw[xH K _ hb];have h1:1<=(aa.doubts n)[j].2.2.2.length:=By.2 X;simp only[BA,eY];have hL:3<=c6 (aa.doubts n)[j]/\c6 (aa.doubts n)[j]<=7:=by unfold c6;split <;> omega
    generalize (aa.doubts n)[j]=d at *;have e1:wr .i64 (n.2.2.2.2.2.1-d.2.2.1)=n.2.2.2.2.2.1-d.2.2.1:=aC (by omega) (by omega);rw[e1];have e2:wr .i64 (c6 d-(n.2.2.2.2.2.1-d.2.2.1))=c6 d-(n.2.2.2.2.2.1-d.2.2.1):=aC (by omega) (by omega);rw[e2];by_cases h:c6 d-(n.2.2.2.2.2.1-d.2.2.1)<0
    ·rw[decide_eq_true h,if_pos h];rfl
    ·rw[decide_eq_false h,if_neg h];rfl
 ·intro rec i O;simp only[Q56.s0];rw[decide_eq_true (show (i:Int)<(BC (aa.doubts n):Int) by omega),ag O,ar i (by omega)];simp only[cond_true,BA,Q222.f,CL];by_cases h:(aa.doubts n)[i].1=v
  ·have e:((aa.doubts n)[i].1==v)=true:=by simpa using h
   rw[e];exact .inr ⟨⟨O,h⟩,rfl⟩
  ·have e:((aa.doubts n)[i].1==v)=false:=by simpa using h
   rw[e];exact .inl ⟨λ⟨_,J⟩=>h J,rfl⟩
 ·intro rec;simp only[Q56.s0,aU];rfl
theorem rU (K:Nat)(n:aa)(v:Int)(Z:NB n)(hK:1048577<K):∃ r:Int×Bool×Unit,Q225.f K (n,v,())=some (r,())/\Q224.f K (n,v,())=some (r,())/\(gL n->∀ d∈aa.doubts n,d.1=v->∃ e∈aa.doubts n,e.1=v/\r=(eY n.2.2.2.2.2.1 e,true,()))/\(r.2.1=true->gL n/\∃ d∈aa.doubts n,d.1=v):=by
 have hl:=Z.doubts;obtain⟨b,h1,I⟩:=sG K n Z hK;have h3:Q49.f K (n,())=rb b:=by
  obtain⟨b',J,h5⟩:=lY K n Z hK;have:b=b':=by rw[BZ,I,h5]
  rw[this];exact J
 simp only[Q225.f,Q225.pre,Q224.f];rw[h1];have H:=bX (step:=λrec a=>Q56.s0 K (aa.doubts n,(λO=>(Q222.f K (O.1,v,())).map λy=>y.1.1),()) rec a) (aa.doubts n).length (λi=>(i:Int)) (λj=>∃ h:j<(aa.doubts n).length,(aa.doubts n)[j].1=v) (some ((-1,()),())) (λj=>some ((((j:Nat):Int),()),())) ?_ ?_ (aa.doubts n).length K 0 (by omega) (by omega)
 ·have z:b=true->∀ j (h:j<(aa.doubts n).length),InP n.2.2.2.2.2.1 0 999999/\InP (aa.doubts n)[j].2.2.1 0 n.2.2.2.2.2.1/\(aa.doubts n)[j].2.2.2≠[]/\(aa.doubts n)[j].2.2.2.length<=1048576:=by
   intro M j u;have X:=I.1 M;have z:n.2.1=true:=by
    cases hu:n.2.1 with
    |true=>rfl
    |false =>
     have J:=X.2.2.2.2.2;rw[hu]at J;simp only[CD,if_false]at J;have:=oV n Z J;rw[this]at u;simp at u
   have J:=X.2.2.2.2.2;rw[if_pos z]at J;obtain⟨_,d2,d3,_⟩:=J.2.2.2.2.2.1.1 _ (BH u);exact⟨X.2.1,d2,d3,Z.by_ _ (BH u)⟩
  have hs:=λM:b=true=>bX (step:=λrec a=>Q225.s0 K (n,v,()) (Q225.l1 K (n,v,()) rec) rec a) (aa.doubts n).length (λi=>(i:Int)) (λj=>∃ h:j<(aa.doubts n).length,(aa.doubts n)[j].1=v) (some ((0,false,()),()))
   (λj=>(idx (aa.doubts n) (j:Int)).bind λy2=>some ((eY n.2.2.2.2.2.1 y2,true,()),())) (by
    intro rec i H;show _\/_;simp only[Q225.s0];rw[decide_eq_true (show (i:Int)<(BC (aa.doubts n):Int) by omega),ag H,ar i (by omega)];simp only[cond_true,BA];by_cases h:(aa.doubts n)[i].1=v
    ·have e:((aa.doubts n)[i].1 != v)=false:=by simpa using h
     rw[e];obtain⟨q1,q2,q3,q4⟩:=z M i H;exact .inr ⟨⟨H,h⟩,Aj K n v _ q4 q3 q1 q2 hK rec⟩
    ·have e:((aa.doubts n)[i].1 != v)=true:=by simpa using h
     rw[e];exact .inl ⟨λ⟨_,I⟩=>h I,rfl⟩) (by
    intro rec;simp only[Q225.s0,aU];rfl) (aa.doubts n).length K 0 (by omega) (by omega)
  rcases H with ⟨i1,i2⟩|⟨j,_,u,j2,j3,j4⟩
  ·have e:Q56.f K (aa.doubts n,(λO=>(Q222.f K (O.1,v,())).map λy=>y.1.1),())=some ((-1,()),()):=i2;rw[e];refine⟨(0,false,()),?_,rfl,λ_ d hd e=>?_,λh=>by cases h⟩
   case refine_2 =>
    obtain⟨j,hj,rfl⟩:=BN hd;exact absurd ⟨hj,e⟩ (i1 j (BJ _) hj)
   simp only[BA];cases b with
   |false=>rfl
   |true =>
    rcases hs rfl with ⟨_,Y⟩|⟨R,_,s1,Y,_⟩
    ·exact Y
    ·exact absurd Y (i1 R (BJ _) s1)
  ·have e:Q56.f K (aa.doubts n,(λO=>(Q222.f K (O.1,v,())).map λy=>y.1.1),())=some ((((j:Nat):Int),()),()):=j4;rw[e];simp only[BA];rw[show decide (((j:Nat):Int)<0)=false from decide_eq_false (by omega),h3];simp only[cond_false,BA];cases b with
   |false=>exact⟨(0,false,()),rfl,rfl,λX=>(by cases I.2 X),λh=>by cases h⟩
   |true =>
    obtain⟨a0,d2,d3,hb⟩:=z rfl j u;simp only[BI,cond_false];rw[ag u];simp only[BA];rcases hs rfl with ⟨s1,_⟩|⟨R,_,s1,Y,s3,s4⟩
    ·exact absurd j2 (s1 j (BJ _) u)
    ·have hj:j=R:=by
      rcases Nat.lt_trichotomy j R with h|h|h
      ·exact absurd j2 (s3 j (BJ _) h)
      ·exact h
      ·exact absurd Y (j3 R (BJ _) h)
     subst hj;rw[ag u]at s4;simp only[BA]at s4;refine⟨_,s4,?_,λ_ _ _ _=>⟨_,BH u,j2.2,rfl⟩,λ_=>⟨I.1 rfl,_,BH u,j2.2⟩⟩;rw[xH K _ hb];have h1:1<=(aa.doubts n)[j].2.2.2.length:=By.2 d3;simp only[BA,eY];have hL:3<=c6 (aa.doubts n)[j]/\c6 (aa.doubts n)[j]<=7:=by unfold c6;split <;> omega
     generalize (aa.doubts n)[j]=d at *;have e1:wr .i64 (n.2.2.2.2.2.1-d.2.2.1)=n.2.2.2.2.2.1-d.2.2.1:=aC (by omega) (by omega);rw[e1];have e2:wr .i64 (c6 d-(n.2.2.2.2.2.1-d.2.2.1))=c6 d-(n.2.2.2.2.2.1-d.2.2.1):=aC (by omega) (by omega);rw[e2];by_cases h:c6 d-(n.2.2.2.2.2.1-d.2.2.1)<0
     ·rw[decide_eq_true h,if_pos h];rfl
     ·rw[decide_eq_false h,if_neg h];rfl
 ·intro rec i H;simp only[Q56.s0];rw[decide_eq_true (show (i:Int)<(BC (aa.doubts n):Int) by omega),ag H,ar i (by omega)];simp only[cond_true,BA,Q222.f,CL];by_cases h:(aa.doubts n)[i].1=v
  ·have e:((aa.doubts n)[i].1==v)=true:=by simpa using h
   rw[e];exact .inr ⟨⟨H,h⟩,rfl⟩
  ·have e:((aa.doubts n)[i].1==v)=false:=by simpa using h
   rw[e];exact .inl ⟨λ⟨_,I⟩=>h I,rfl⟩
 ·intro rec;simp only[Q56.s0,aU];rfl
theorem dE.ns9 {i:Nat}{n:aa}(u:dE i n):NS 9 n:=by
 obtain⟨r,I,J,H,y,z⟩:=u.ns;exact⟨r,BB I,BB J,BB H,BB y,BB z⟩
theorem vU (K:Nat)(ad bs:List Int)(hR:fH bs)(n:aa)(hn:NS 9 n)(z:List Int×Int)(hz:bf bs 2000 z)(hK:1048577<K):Tot (Q221.l0 K (ad,()) (0,n.1,n.2.1,n.2.2.1,n.2.2.2.1,n.2.2.2.2.1,n.2.2.2.2.2.1,n.2.2.2.2.2.2.1,n.2.2.2.2.2.2.2.1,n.2.2.2.2.2.2.2.2.1,n.2.2.2.2.2.2.2.2.2.1,n.2.2.2.2.2.2.2.2.2.2.1.1,n.2.2.2.2.2.2.2.2.2.2.1.2.1,n.2.2.2.2.2.2.2.2.2.2.1.2.2.1,n.2.2.2.2.2.2.2.2.2.2.1.2.2.2,n.2.2.2.2.2.2.2.2.2.2.2.1,n.2.2.2.2.2.2.2.2.2.2.2.2.1.1,n.2.2.2.2.2.2.2.2.2.2.2.2.1.2.1,n.2.2.2.2.2.2.2.2.2.2.2.2.1.2.2.1,n.2.2.2.2.2.2.2.2.2.2.2.2.1.2.2.2,n.2.2.2.2.2.2.2.2.2.2.2.2.2.1,n.2.2.2.2.2.2.2.2.2.2.2.2.2.2,z.1,z.2)) λr=>NS 9 r.1.1:=by
 refine Tot.iter (step:=λrec a=>Q221.s0 K (ad,()) rec a) (λa=>∃ (i:Nat) (n:aa) (z:List Int×Int),i<=6/\NS 9 n/\bf bs (2000+1000*i) z/\a=((i:Int),n.1,n.2.1,n.2.2.1,n.2.2.2.1,n.2.2.2.2.1,n.2.2.2.2.2.1,n.2.2.2.2.2.2.1,n.2.2.2.2.2.2.2.1,n.2.2.2.2.2.2.2.2.1,n.2.2.2.2.2.2.2.2.2.1,n.2.2.2.2.2.2.2.2.2.2.1.1,n.2.2.2.2.2.2.2.2.2.2.1.2.1,n.2.2.2.2.2.2.2.2.2.2.1.2.2.1,n.2.2.2.2.2.2.2.2.2.2.1.2.2.2,n.2.2.2.2.2.2.2.2.2.2.2.1,n.2.2.2.2.2.2.2.2.2.2.2.2.1.1,n.2.2.2.2.2.2.2.2.2.2.2.2.1.2.1,n.2.2.2.2.2.2.2.2.2.2.2.2.1.2.2.1,n.2.2.2.2.2.2.2.2.2.2.2.2.1.2.2.2,n.2.2.2.2.2.2.2.2.2.2.2.2.2.1,n.2.2.2.2.2.2.2.2.2.2.2.2.2.2,z.1,z.2)) (λa=>6-a.1.toNat) ?_ K _ (by show 6-BE 0<K;omega) ⟨0,n,z,by omega,hn,hz,rfl⟩;clear hn hz;rintro rec _ ⟨i,⟨a1,a2,a3,a4,a5,a6,a7,a8,a9,J,⟨H,R,Y,X⟩,u,⟨M,Z,I,O⟩,pl,ot⟩,⟨z1,z2⟩,hi,hn,hz,rfl⟩ ih;have b1:u.length<=9:=hn.doubts;have b0:∀ v:Int,Tot (some (((((a1,a2,a3,a4,a5,a6,a7,a8,a9,J,(H,R,Y,X),u,(M,Z,I,O),pl,ot):aa),v,()),()):(aa×Int×Unit)×Unit)) λr=>NS 9 r.1.1:=λv=>Tot.ret hn
 have a0:Tot (bif decide ((BC u:Int)>0) then ((Q114.f K ((z1,z2),6,())).bind λy4=>bif decide (y4.1.1>0) then ((Q114.f K (y4.2.1,(BC u:Int),())).bind λy5=>(idx u y5.1.1).bind λy6=>some (((((a1,a2,a3,a4,a5,a6,a7,a8,a9,J,(H,R,Y,X),u,(M,Z,I,O),pl,ot):aa),y6.1,()),()):(aa×Int×Unit)×Unit)) else ((Q114.f K (y4.2.1,9,())).bind λy7=>some (((((a1,a2,a3,a4,a5,a6,a7,a8,a9,J,(H,R,Y,X),u,(M,Z,I,O),pl,ot):aa),wr .i64 (y7.1.1-1),()),()):(aa×Int×Unit)×Unit))) else ((Q114.f K ((z1,z2),9,())).bind λy8=>some (((((a1,a2,a3,a4,a5,a6,a7,a8,a9,J,(H,R,Y,X),u,(M,Z,I,O),pl,ot):aa),wr .i64 (y8.1.1-1),()),()):(aa×Int×Unit)×Unit))) λr=>NS 9 r.1.1:=by
  refine Tot.cnd (λh1=>Tot.bind (aF hR hz 6 (by decide) (by omega)) λv4 ⟨_,s4⟩=>Tot.cnd (λ_=>?_) λ_=>Tot.bind (aF hR s4 9 (by decide) (by omega)) λ_ _=>b0 _) λ_=>Tot.bind (aF hR hz 9 (by decide) (by omega)) λ_ _=>b0 _
  have h1:(u.length:Int)>0:=of_decide_eq_true h1;exact Tot.bind (aF hR s4 (u.length:Int) (by omega) (by omega)) λv5 ⟨⟨q0,q1⟩,_⟩=>Tot.ix q0 (by omega) λy _ _=>b0 _
 simp only[Q221.s0,zc31b9a,zc59c5b];refine Tot.cnd (λh6=>Tot.cnd (λ_=>?_) λ_=>a0) λ_=>a0
 have h6:(i:Int)<6:=of_decide_eq_true h6;rw[ar i (by omega)];exact Tot.bind (tq hR hz (by omega) hK) λy ⟨⟨j,hj⟩,hs⟩=>ih _ ⟨i+1,y.1.1,y.2.1,by omega,hj.ns9,hs.up (by omega),rfl⟩ (by show 6-BE ((i+1:Nat):Int)<6-BE (i:Int);omega)
theorem vV (K:Nat)(u:List Int)(z:xF u)(y:1048577<K):Tot (Q221.f K (u,())) λr=>NS 9 r.1.1:=by
 obtain⟨H,I,e⟩:=Bf (K:=K) u z.byte z.len;simp only[Q221.f,Q221.pre,zc31b9a];exact Tot.vl e (Tot.bind (xE I (bf.zero H) (by omega) y) λn ⟨M,J⟩=>vU K u H I n.1.1 M n.2.1 (J.up (by omega)) y)
theorem xJ {n:aa}(u:Asc (λg:af=>g.1) (aa.table n)){f:af}{b:Int}{d:bo}(r:d.1≠f.1):d∈aa.doubts (sayOf n f b)<->d∈aa.doubts n:=by
 rcases kW u f b with e|⟨e,_⟩
 ·rw[e]
 ·rw[e];show d∈(bif iN n f then aa.doubts n else ct (ch n) (aa.doubts n) f b)<->_;cases iN n f with
  |true=>exact CO
  |false =>
   simp only[cond_false];unfold ct;split
   ·exact aX.trans ⟨λh=>h.elim (λh=>absurd (by rw[h];rfl) r) (·.1),λh=>.inr ⟨h,r⟩⟩
   ·exact List.mem_filter.trans ⟨(·.1),λh=>⟨h,by simpa using r⟩⟩
def mh (v:Int)(n m:aa):Prop:=(∀ g:af,g.1=v->(g∈aa.table m<->g∈aa.table n))/\∀ d:bo,d.1=v->(d∈aa.doubts m<->d∈aa.doubts n)
theorem mh.refl (v:Int)(n:aa):mh v n n:=⟨λ_ _=>CO,λ_ _=>CO⟩
theorem mh.trans {v:Int}{n m k:aa}(h:mh v n m)(h':mh v m k):mh v n k:=⟨λg e=>(h'.1 g e).trans (h.1 g e),λd e=>(h'.2 d e).trans (h.2 d e)⟩
theorem mh.say {v:Int}{n:aa}(u:Asc (λg:af=>g.1) (aa.table n)){f:af}{b:Int}(r:f.1≠v):mh v n (sayOf n f b) :=
 ⟨λ_ e=>q8 u (by rw[e];exact Ne.symm r),λ_ e=>xJ u (by rw[e];exact Ne.symm r)⟩
def mU (n:aa)(v r:Int):Prop:=∃ g∈aa.table n,g.1=v/\g.2.2.1=3/\g.2.1=r
theorem mU.same {n m:aa}{v u:Int}(h:mU n v u)(y:mh v n m):mU m v u:=by
 obtain⟨g,z,e,r⟩:=h;exact⟨g,(y.1 g e).2 z,e,r⟩
theorem mU.no {n:aa}{v r:Int}(h:mU n v r)(y:UpX n):∀ d∈aa.doubts n,d.1≠v:=by
 intro d J e;obtain⟨g,H,z,M,_⟩:=h;obtain⟨⟨O,u,I,R,_⟩,_⟩:=y.doubts.1 d J;have:=gp y.table.2 H u (by rw[z,I,e]);subst this;omega
section
variable {K:Nat} {b:List Int} {m:Nat} {s:List Int×Int}
end
theorem Bh {v:Int}(h:InP v 0 7)(d:Int)(z:InP d 1 3):InP (wr .i64 (wr .i64 (wr .i64 (CM v 4)*4)+BS (wr .i64 (v+d)) 4)) 0 7/\ak (wr .i64 (wr .i64 (wr .i64 (CM v 4)*4)+BS (wr .i64 (v+d)) 4))=ak v/\wr .i64 (wr .i64 (wr .i64 (CM v 4)*4)+BS (wr .i64 (v+d)) 4)≠v:=by
 have u:wr .i64 (CM v 4)=v / 4:=gv h;obtain⟨y,r⟩:=h;obtain⟨H,I⟩:=z;rw[u,aC (n:=v / 4*4) (by omega) (by omega),aC (n:=v+d) (by omega) (by omega),Int.tmod_eq_emod_of_nonneg (by omega),aC (by omega) (by omega)];rw[gv (n:=v / 4*4+(v+d) % 4) ⟨by omega,by omega⟩,gv ⟨y,r⟩];exact⟨⟨by omega,by omega⟩,by omega,by omega⟩
end Go.Proofs.YtadlacffdemoiaaGreatEv
