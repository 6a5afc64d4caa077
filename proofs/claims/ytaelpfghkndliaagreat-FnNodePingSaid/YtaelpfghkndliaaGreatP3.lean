/- What a node answers, by the specification. -/
import Derived.Test.YtaelpfghkndliaaGreatP2
set_option linter.unusedVariables false
set_option linter.unusedSimpArgs false
open Bool renaming not_true->BH,eq_iff_iff->BQ,not_false->BY,true_and->Bs,false_eq_true->B5,not_eq_true'->B6,and_eq_true->B9,not_eq_true->CA
open Classical renaming not_not->B7
open Iff renaming rfl->CG
open Int renaming toNat->BE,toNat_natCast->BF,eq_ofNat_of_zero_le->BN,toNat_zero->BZ,tmod->Bq,le_refl->Br,fdiv->Bu,toNat_of_nonneg->B3,tmod_lt_of_pos->B4,le_trans->B8,tmod_nonneg->CD,tdiv->CE
open List renaming length->BD,mem_singleton->BG,getElem_mem->BI,length_set->BK,length_append->BL,mem_append->BM,nil_append->BP,drop_zero->BR,mem_of_mem_take->BT,mem_map->BU,length_take->BV,getElem_of_mem->BW,mem_filter->BX,take_length->Bt,length_drop->Bv,length_map->Bw,length_nil->Bx,length_filter_le->By,length_cons->CB,not_mem_nil->CC,mem_cons->CF
open Nat renaming le_succ_of_le->BB,le_trans->BJ,zero_le->BO,le_refl->BS,le_succ->Bz
open Option renaming bind_some->BA,bind->BC
namespace Go.Proofs.YtaelpfghkndliaaGreatEv
open Go
theorem qw (K:Nat)(l:List Int)(t:Int)(u:l.length<=1048576):Q47.f K (l,t,())=some ((gY l t,()),()):=by
 simp only[Q47.f];rw[szb _ _ _ (by omega) (by show (BD ([]:List Int))+l.length<=_;simp;omega)];simp only[cond_true,BP];rw[szb _ _ _ (by omega) (by show l.length+[t].length<=_;simp;omega)];simp only[cond_true];have r:(l++[t]).length=l.length+1:=by simp
 show (bif decide (((l++[t]).length:Int)>3) then (bif decide (0<=wr .i64 (((l++[t]).length:Int)-3))&&decide (wr .i64 (((l++[t]).length:Int)-3)<=((l++[t]).length:Int))&&decide (((l++[t]).length:Int)<=((l++[t]).length:Int))&&true then some ((((l++[t]).take (BE ((l++[t]).length:Int))).drop (BE (wr .i64 (((l++[t]).length:Int)-3))),()),()) else none) else some ((l++[t],()),()))=_;by_cases h:l.length+1>3
 ·rw[aK (by omega) (by omega),decide_eq_true (by omega:((l++[t]).length:Int)>3),decide_eq_true (by omega:(0:Int)<=((l++[t]).length:Int)-3),decide_eq_true (by omega:((l++[t]).length:Int)-3<=((l++[t]).length:Int)),decide_eq_true (Br _)];simp only[Bool.and_self,cond_true,gY];rw[show BE (((l++[t]).length:Int)-3)=(l++[t]).length-3 by omega,BF,Bt]
 ·rw[decide_eq_false (by omega:¬ ((l++[t]).length:Int)>3)];simp only[cond_false,gY];rw[show (l++[t]).length-3=0 by omega,BR]
theorem plen {r:Int}{l:List dJ}(h:eu r l):l.length<=1048576:=BJ (iP h.2 λx u=>(h.1 x u).1) (by decide)
theorem uk {u:Int}{l:List dJ}(h:eu u l)(r:Int):(dG l r).length<=3:=by
 unfold dG;cases y:l.find? λp=>p.1==r with
 |none=>simp
 |some p =>
  have:=(h.1 p (List.mem_of_find?_eq_some y)).2.2.2.2.1.2;show p.2.2.length<=3;omega
theorem zZ (K:Nat)(l:List dJ)(r:Int)(c:dA)(t:Int)(me:Int)(h:eu me l)(hK:1048577<K):Q48.f K (l,r,c,t,())=some ((oZ l r c t,()),()):=by
 have hl:=plen h;have h3:=uk h r;refine rg (step:=λrec a=>Q48.s0 K (l,r,c,t,()) rec a) (λx:dJ=>x.1) (r,c,gY (dG l r) t) l h.2 (λu i=>(u,false,(i:Int),[])) (λu i=>(u,true,(i:Int),gY (dG l r) t)) (λo=>some ((o,()),())) ?_ ?_ ?_ ?_ (by omega)
 ·intro rec u i I X z;simp only[Q48.s0];rw[bo (by omega:(i:Int)<(BD l:Int)),ag I,au i (by omega)];simp only[cond_true,BA,BY];have O:=szb u.length 1 64 (by omega) (by omega);have Z:=szb (u++[(r,c,gY (dG l r) t)]).length 1 64 (by omega) (by simp;omega);have M:l[i].1=r->dG l r=l[i].2.2:=λe=>by unfold dG;rw[oU h.2 I e];rfl
  have J:r<l[i].1->dG l r=[]:=λe=>by
   unfold dG;rw[nK (k:=λp:dJ=>p.1)]
   ·rfl
   intro y R;obtain⟨j,hj,rfl⟩:=BW R;by_cases a1:j<i
   ·have:=z l[j] (by rw[List.mem_take_iff_getElem];exact⟨j,by omega,rfl⟩);show l[j].1≠r;have:l[j].1<r:=this;omega
   ·have:l[i].1<=l[j].1:=by
     by_cases e:i=j
     ·subst e;exact Br _
     ·exact Int.le_of_lt (cD.1 h.2 i j I hj (by omega))
    show l[j].1≠r;omega
  have a0:=(h.1 _ (BI I)).2.2.2.2.1.2;generalize l[i]=y at *;by_cases c1:y.1<r
  ·rw[if_pos c1,show decide (y.1>=r)=false from decide_eq_false (by omega),show (y.1 != r)=true by simp;omega,show (y.1==r)=false by simp;omega];exact (congrArg (λb=>bif b then _ else _) O).trans rfl
  ·rw[if_neg c1,show decide (y.1>=r)=true from decide_eq_true (by omega)];by_cases H:y.1=r
   ·rw[if_pos H,show (y.1 != r)=false by simpa using H,show (y.1==r)=true by simpa using H];simp only[cond_true,cond_false];rw[<- M H];refine (congrArg (λo=>BC o _) (qw K _ t (by omega))).trans ?_;exact (congrArg (λb=>bif b then _ else _) O).trans rfl
   ·rw[if_neg H,show (y.1 != r)=true by simpa using H,show (y.1==r)=false by simpa using H];simp only[cond_true,cond_false];have e:=J (by omega);rw[e]at Z ⊢;refine (congrArg (λo=>BC o _) (qw K [] t (by simp))).trans ?_;refine (congrArg (λb=>bif b then _ else _) O).trans ?_;exact (congrArg (λb=>bif b then _ else _) Z).trans rfl
 ·intro rec u i I X Y;simp only[Q48.s0];rw[bo (by omega:(i:Int)<(BD l:Int)),ag I,au i (by omega)];have Y:r<l[i].1:=Y;simp only[cond_true,BA,BH,cond_false];rw[show (l[i].1 != r)=true by simp;omega,show (l[i].1==r)=false by simp;omega];exact (congrArg (λb=>bif b then _ else _) (szb u.length 1 64 (by omega) (by omega))).trans rfl
 ·intro rec u X z;simp only[Q48.s0,aS,cond_false,BY,cond_true];have e:dG l r=[]:=by
   unfold dG;rw[nK (k:=λp:dJ=>p.1) (λy R=>by have:y.1<r:=z y R;show y.1≠r;omega)];rfl
  rw[e];refine (congrArg (λo=>BC o _) (qw K [] t (by simp))).trans ?_;exact (congrArg (λb=>bif b then _ else _) (szb u.length 1 64 (by omega) (by omega))).trans rfl
 ·intro rec u X;simp only[Q48.s0,aS,cond_false,BH]
def tg (n u r:Int):Int:=if n<u then u else if n>r then r else n
theorem zm (K:Nat)(n y z:Int):Q46.f K (n,y,z,())=some ((tg n y z,()),()):=by
 simp only[Q46.f,tg];by_cases r:n<y
 ·rw[decide_eq_true r,if_pos r];rfl
 ·rw[decide_eq_false r,if_neg r];by_cases u:n>z
  ·rw[decide_eq_true u,if_pos u];rfl
  ·rw[decide_eq_false u,if_neg u];rfl
theorem z7 {n u r:Int}(h:u<=r):InP (tg n u r) u r:=by
 unfold tg;split
 ·exact⟨Br _,h⟩
 ·split
  ·exact⟨h,Br _⟩
  ·exact⟨by omega,by omega⟩
def xq (n:aa):Int:=tg ((ch n-(aa.probe n).2.1)*1000+500) 1 60000
noncomputable def qx (K:Nat)(w:ak)(c:dA)(p:dJ):dA:=bif p.1==w.2.2.1 then pQ K c (ak.coord w) (sb K p.2.2) w.2.2.2.2.1 else c
def kn (n:aa)(w:ak):List dJ:=oZ (aa.places n) w.2.2.1 (ak.coord w) (xq n)
def qy (n:aa)(w:ak):Bool:=!decide ((aa.probe n).1<0)&&(aa.probe n).1==w.2.2.1&&(aa.probe n).2.2.1==w.2.2.2.2.1&&w.2.2.2.2.2.1==w.2.2.1
noncomputable def fa (K:Nat)(n:aa)(w:ak):aa:=bif qy n w then pO n ((kn n w).foldl (qx K w) (aa.coord n)) (kn n w) else n
theorem uQ {K:Nat}{w:ak}{c:dA}{p:dJ}(r:cH c)(u:1048577<K):cH (qx K w c p):=by
 unfold qx;cases p.1==w.2.2.1 with
 |false=>exact r
 |true=>exact (xn K c _ _ _ r u).2
theorem th {n:aa}(h:UpX n)(H:¬ (aa.probe n).1<0):(aa.probe n).1≠n.1/\InP (aa.probe n).1 0 7/\am (aa.probe n).1=am n.1/\InP (aa.probe n).2.1 0 (ch n):=by
 have r:=h.probe;unfold cZ at r;rw[if_neg (by omega)]at r;obtain⟨z,⟨f,u,e⟩,y,_⟩:=r;exact⟨z,e ▸ (h.table.1 f u).1,e ▸ h.site f u,y⟩
theorem uR {n:aa}{w:ak}(h:UpX n)(I:cH (ak.coord w))(r:qy n w=true):eu n.1 (kn n w):=by
 simp only[qy,B9,B6,decide_eq_false_iff_not,beq_iff_eq]at r;obtain⟨⟨⟨H,J⟩,M⟩,O⟩:=r;obtain⟨z,u,y,_⟩:=th h H;rw[J]at z u y;exact vM h.places u y z I (z7 (by decide))
theorem ack_s (K:Nat)(n:aa)(w:ak)(h:UpN n)(hw:cH (ak.coord w))(J:1048577<K):Q59.f K (n,w,())=some ((fa K n w,()),()):=by
 simp only[Q59.f,Q59.pre,zc00556];have H:qy n w=(!decide ((aa.probe n).1<0)&&(aa.probe n).1==w.2.2.1&&(aa.probe n).2.2.1==w.2.2.2.2.1&&w.2.2.2.2.2.1==w.2.2.1):=rfl;by_cases r:(aa.probe n).1<0
 ·rw[show decide (n.2.2.2.2.2.2.2.2.2.2.1.1<0)=true from decide_eq_true r];rw[show fa K n w=n by unfold fa;rw[H,decide_eq_true r];rfl];rfl
 ·rw[show decide (n.2.2.2.2.2.2.2.2.2.2.1.1<0)=false from decide_eq_false r];cases u:(aa.probe n).1==w.2.2.1 with
  |false =>
   rw[show fa K n w=n by unfold fa;rw[H,decide_eq_false r,u];rfl];rw[show (n.2.2.2.2.2.2.2.2.2.2.1.1 != w.2.2.1)=true by unfold bne;rw[show (n.2.2.2.2.2.2.2.2.2.2.1.1==w.2.2.1)=false from u];rfl];rfl
  |true =>
   rw[show (n.2.2.2.2.2.2.2.2.2.2.1.1 != w.2.2.1)=false by unfold bne;rw[show (n.2.2.2.2.2.2.2.2.2.2.1.1==w.2.2.1)=true from u];rfl];cases z:(aa.probe n).2.2.1==w.2.2.2.2.1 with
   |false =>
    rw[show fa K n w=n by unfold fa;rw[H,decide_eq_false r,u,z];rfl];rw[show (n.2.2.2.2.2.2.2.2.2.2.1.2.2.1 != w.2.2.2.2.1)=true by unfold bne;rw[show (n.2.2.2.2.2.2.2.2.2.2.1.2.2.1==w.2.2.2.2.1)=false from z];rfl];rfl
   |true =>
    rw[show (n.2.2.2.2.2.2.2.2.2.2.1.2.2.1 != w.2.2.2.2.1)=false by unfold bne;rw[show (n.2.2.2.2.2.2.2.2.2.2.1.2.2.1==w.2.2.2.2.1)=true from z];rfl];cases I:w.2.2.2.2.2.1==w.2.2.1 with
    |false =>
     rw[show fa K n w=n by unfold fa;rw[H,decide_eq_false r,u,z,I];rfl];rw[show (w.2.2.2.2.2.1 != w.2.2.1)=true by unfold bne;rw[I];rfl];rfl
    |true =>
     have X:qy n w=true:=by rw[H,decide_eq_false r,u,z,I];rfl
     rw[show (w.2.2.2.2.2.1 != w.2.2.1)=false by unfold bne;rw[I];rfl];have Z:=(th h.x r).2.2.2;have hn:=h.now1;have O:=uR h.x hw X;simp only[cond_false];rw[show wr .i64 (wr .i64 (wr .i64 (n.2.2.2.2.2.1-n.2.2.2.2.2.2.2.2.2.2.1.2.1)*1000)+500)=(ch n-(aa.probe n).2.1)*1000+500 by
      obtain⟨p1,p2⟩:=Z;show wr .i64 (wr .i64 (wr .i64 (ch n-(aa.probe n).2.1)*1000)+500)=_;rw[aK (n:=ch n-_) (by omega) (by omega),aK (n:=_*1000) (by omega) (by omega),aK (by omega) (by omega)]]
     rw[zm];simp only[BA];refine (congrArg (λo=>BC o _) (zZ K (aa.places n) w.2.2.1 (ak.coord w) (xq n) n.1 h.x.places J)).trans ?_;simp only[BA];rw[show fa K n w=pO n ((kn n w).foldl (qx K w) (aa.coord n)) (kn n w) by unfold fa;rw[X];rfl];show Q59.l0 K (n,w,()) (0,(aa.coord n).1,(aa.coord n).2.1,(aa.coord n).2.2.1,(aa.coord n).2.2.2,kn n w)=_;have hl:=plen O;refine kD (step:=λrec a=>Q59.s0 K (n,w,()) rec a) (kn n w) (qx K w) cH (λc i=>((i:Int),c.1,c.2.1,c.2.2.1,c.2.2.2,kn n w)) (λc=>some ((pO n c (kn n w),()),())) (aa.coord n) h.x.coord ?_ ?_ (by omega)
     ·intro rec c i R M;refine⟨?_,uQ M J⟩;simp only[Q59.s0,zc00556,zcp8];rw[bo (by omega:(i:Int)<(BD (kn n w):Int)),BF,ag R,au i (by omega)];simp only[cond_true,BA];have Y:=(O.1 _ (BI R)).2.2.2.2.1.2;generalize (kn n w)[i]=y at *;unfold qx;cases y.1==w.2.2.1 with
      |false=>rfl
      |true =>
       simp only[cond_true];refine (congrArg (λo=>BC o _) (med_s K y.2.2 (by omega) J)).trans ?_;refine (congrArg (λo=>BC o _) (xn K c (ak.coord w) (sb K y.2.2) w.2.2.2.2.1 M J).1).trans ?_;rfl
     ·intro rec c M;simp only[Q59.s0,zc00556,zcp8,aS,cond_false];rfl
theorem AQ {K:Nat}{n:aa}{w:ak}(h:UpN n)(y:cH (ak.coord w))(z:1048577<K):UpN (fa K n w)/\(fa K n w).1=n.1/\(fa K n w).2.2.1=n.2.2.1:=by
 unfold fa;cases r:qy n w with
 |false=>exact⟨h,rfl,rfl⟩
 |true=>exact⟨h.heard (lY (Inv:=cH) h.x.coord λc p _ u=>uQ u z) (uR h.x y r),rfl,rfl⟩
def gw (n:aa)(w:ak):Prop:=n.2.1=true/\n.2.2.1=false/\w.2.2.2.1=n.1/\w.2.2.1≠n.1 /\
 (if w.1=2 then w.2.1=6/\am w.2.2.1≠am n.1/\(cd (ak.table w) (am n.1)\/cd (ak.table w) (am w.2.2.1)) else am w.2.2.1=am n.1/\(w.2.1≠6\/¬ cd (ak.table w) (am n.1)))
theorem uS (K:Nat)(n:aa)(w:ak)(I:(ak.table w).length<=1048576)(J:1048577<K):Ret (Q28.f K (n,w,())) (gw n w):=by
 refine (Ret.cndN (P:=¬ n.2.1=true) (b:=!n.2.1) (by simp) λ_=>Ret.cndN (P:=n.2.2.1=true) (b:=n.2.2.1) CG λ_=>Ret.cndN (P:=w.2.2.2.1≠n.1) (b:=w.2.2.2.1 != n.1) (by simp) λ_=>Ret.cndN (P:=w.2.2.1=n.1) (b:=w.2.2.1==n.1) (by simp) λ_ =>
  (?_:Ret _ (if w.1=2 then w.2.1=6/\am w.2.2.1≠am n.1/\(cd (ak.table w) (am n.1)\/cd (ak.table w) (am w.2.2.1)) else am w.2.2.1=am n.1/\(w.2.1≠6\/¬ cd (ak.table w) (am n.1))))).iff ?_
 ·refine Ret.vl (dk K n.1) ?_;obtain⟨H,z,y⟩:=eZ K (ak.table w) (am n.1) I J;obtain⟨M,O,R⟩:=eZ K (ak.table w) (am w.2.2.1) I J;by_cases u:w.1=2
  ·rw[show (w.1==2)=true by simpa using u,if_pos u];refine Ret.cnd (P:=w.2.1=6) (b:=w.2.1==6) (by simp) λ_=>?_
   refine Ret.cnd (P:=am w.2.2.1≠am n.1) (b:=am w.2.2.1 != am n.1) (by simp) λ_=>Ret.vl z ?_
   cases H with
   |true=>exact Ret.yes (.inl (y.1 rfl))
   |false =>
    refine Ret.vl O ?_;exact Ret.of (b:=M) (R.trans ⟨.inr,λh=>h.resolve_left λh=>by have:=y.2 h;cases this⟩)
  ·rw[show (w.1==2)=false by simpa using u,if_neg u];refine Ret.cnd (P:=am w.2.2.1=am n.1) (b:=am w.2.2.1==am n.1) (by simp) λ_=>?_
   by_cases r:w.2.1=6
   ·show Ret (bif w.2.1 != 6 then _ else _) _;rw[show (w.2.1 != 6)=false by simpa using r];refine Ret.vl z (Ret.of (b:=!H) ?_);rw[B6,<- CA,y];exact⟨.inr,λh=>h.resolve_left λh=>h r⟩
   ·show Ret (bif w.2.1 != 6 then _ else _) _;rw[show (w.2.1 != 6)=true by simpa using r];exact Ret.yes (.inl r)
 ·unfold gw;rw[B7,CA,B7]
def nP (u:Int)(n:aa)(to y r:Int)(t:List ah):ak:=(1,u,n.1,to,y,r,aa.coord n,t)
theorem pS (K:Nat)(n:aa)(u to y r:Int)(t:List ah)(z:t.length<=1048576):Q41.f K (n,u,to,y,r,t,())=some ((nP u n to y r t,()),()):=by
 simp only[Q41.f];rw[szb _ _ _ (by omega) (by show (BD ([]:List ah))+t.length<=_;simp;omega)];rfl
def mc (t:List ah)(s:Int):Bool:=t.all λf=>am f.1==s
theorem kH {t:List ah}{s:Int}:mc t s=true<->cd t s:=by simp[mc,cd]
def cj (t:List ah):ah:=(t.head?).getD (0,0,0,false)
def bG (n:aa)(w:ak):List ah:=eX (eG (aa.others n) (am (cj (ak.table w)).1)) (ak.table w)
def vP (n:aa)(w:ak):ak:=(2,6,n.1,w.2.2.1,0,n.1,aa.coord n,bG n w)
def sumN (n:aa)(w:ak):aa:=mU n (bw (λx:bZ=>x.1) (am (cj (ak.table w)).1,bG n w) (aa.others n))
def eQ (n:aa)(w:ak):aa×List ak:=bif mc (ak.table w) (am n.1) then (gM n (ak.table w) n.1,[]) else
 (sumN n w,bif w.1==2&&decide (ak.table w≠bG n w) then [vP n w] else [])
theorem pT:∀ {fs t:List ah} {g:ah},g∈eX t fs->g∈t\/g∈fs
 |[],_,_,h=>.inl h
 |f::fs,t,g,h=>by
  rcases pT (fs:=fs) h with h|h
  ·have h:g∈(bS t f).1:=h;rcases gW t f with e|e
   ·rw[e]at h;exact .inl h
   ·rw[e]at h;rcases aZ.1 h with rfl|⟨h,_⟩
    ·exact .inr (by simp)
    ·exact .inl h
  ·exact .inr (by simp[h])
theorem pU:∀ {fs t:List ah} {g:ah},g∈t->∃ u∈eX t fs,u.1=g.1
 |[],_,g,h=>⟨g,h,rfl⟩
 |f::fs,t,g,h=>by
  obtain⟨J,z,r⟩:=mO (f:=f) h;obtain⟨y,I,H⟩:=pU (fs:=fs) z;exact⟨y,I,H.trans r⟩
theorem ul {t:List ah}(H:Asc (λg:ah=>g.1) t)(f:ah):∃ g∈(bS t f).1,g.1=f.1:=by
 by_cases h:∃ g∈t,g.1=f.1
 ·obtain⟨g,r,e⟩:=h;obtain⟨u,y,z⟩:=mO (f:=f) r;exact⟨u,y,z.trans e⟩
 ·rw[il λg r e=>h ⟨g,r,e⟩];exact⟨f,aZ.2 (.inl rfl),rfl⟩
theorem kI {n:aa}{w:ak}(h:c7 n.1 (aa.others n))(M:aB (ak.table w))(u:lV (ak.table w)):aB (bG n w)/\bG n w≠[]/\cd (bG n w) (am (cj (ak.table w)).1):=by
 have z:=o6 h (am (cj (ak.table w)).1);refine⟨qY z M.1,?_,?_⟩
 ·unfold bG;cases y:ak.table w with
  |nil=>rw[y]at u;exact u.elim
  |cons f l =>
   obtain⟨g,H,_⟩:=ul (f:=f) (t:=eG (aa.others n) (am (cj (f::l)).1)) (by rw[y]at z;exact z.2);obtain⟨R,O,_⟩:=pU (fs:=l) H;exact List.ne_nil_of_mem O
 ·intro g r;rcases pT r with r|r
  ·rcases qT (l:=aa.others n) (s:=am (cj (ak.table w)).1) with e|⟨x,J,I,e⟩
   ·rw[e]at r;cases r
   ·rw[e]at r;rw[<- I];exact (h.1 x J).2.2.2.2 g r
  ·cases y:ak.table w with
   |nil=>rw[y]at u;exact u.elim
   |cons f l =>
    rw[y]at u r;exact u g r
theorem uT {x:Int}(h:InP x 0 7):InP (am x) 0 1:=by
 rw[fH h];obtain⟨r,u⟩:=h;constructor <;> omega
theorem tj {t:List ah}(u:lV t)(r:aB t):InP (cj t).1 0 7:=by
 cases t with
 |nil=>exact u.elim
 |cons f l=>exact (r.1 f (by simp)).1
theorem xt (K:Nat)(n:aa)(w:ak)(h:UpN n)(r:aB (ak.table w))(z:lV (ak.table w))(y:1048577<K):Q42.f K (n,w,())=some (((eQ n w).1,(eQ n w).2,()),()):=by
 simp only[Q42.f];rw[dk K n.1];simp only[BA];obtain⟨H,J,I⟩:=eZ K (ak.table w) (am n.1) (bY r) y;have O:mc (ak.table w) (am n.1)=H:=by rw[BQ,kH,I]
 unfold eQ;rw[O];refine (congrArg (λo=>BC o _) J).trans ?_;simp only[rb,BA];cases H with
 |true =>
  simp only[cond_true];refine (congrArg (λo=>BC o _) (uK K n (ak.table w) n.1 h.learns r.1 (bY r) h.x.me y)).trans rfl
 |false =>
  simp only[cond_false];obtain⟨R,Y,X⟩:=kI (n:=n) h.x.others r z;have u:idx (ak.table w) 0=some (cj (ak.table w)):=by
   cases M:ak.table w with
   |nil=>rw[M]at z;exact z.elim
   |cons f l=>rfl
  refine (congrArg (λo=>BC o _) u).trans ?_;simp only[BA];rw[dk K];simp only[BA];refine (congrArg (λo=>BC o _) (xp K n (am (cj (ak.table w)).1) (ak.table w) h.x.others r y)).trans ?_;simp only[BA];refine (congrArg (λo=>BC o _) (sum_s K n (am (cj (ak.table w)).1) (bG n w) h.x.others y)).trans ?_;simp only[BA];cases w.1==2 with
  |false=>rfl
  |true =>
   simp only[cond_true,Bs];refine (congrArg (λo=>BC o _) (yG K (ak.table w) (bG n w) (bY r) y)).trans ?_;simp only[rb,BA];cases decide (ak.table w≠bG n w) with
   |false=>rfl
   |true =>
    simp only[cond_true];refine (congrArg (λo=>BC o _) (pS K (sumN n w) 6 w.2.2.1 0 n.1 (bG n w) (bY R))).trans rfl
theorem vQ {n:aa}{w:ak}(h:UpN n)(H:n.2.2.1=false)(y:aB (ak.table w))(r:lV (ak.table w)):UpN (eQ n w).1/\(eQ n w).1.1=n.1/\(eQ n w).1.2.2.1=false:=by
 unfold eQ;cases u:mc (ak.table w) (am n.1) with
 |true=>exact km h H y (kH.1 u) (fp.me h.x.me)
 |false =>
  obtain⟨J,M,I⟩:=kI (n:=n) h.x.others y r;refine⟨h.setOthers (vL h.x.others (uT (tj r y)) (λe=>?_) M J I),rfl,H⟩;have:cd (ak.table w) (am n.1):=by
   cases z:ak.table w with
   |nil=>rw[z]at r;exact r.elim
   |cons f l=>rw[z]at r e;rw[<- e];exact r
  rw[kH.2 this]at u;cases u
noncomputable def dZ (K:Nat)(n:aa)(w:ak):aa×List ak :=
 bif w.2.1==1 then (bif am w.2.2.2.2.2.1 != am n.1 then (n,[]) else bif w.2.2.2.2.2.1==n.1 then (n,[]) else (ir n,[nP 2 (ir n) w.2.2.2.2.2.1 w.2.2.2.2.1 n.1 (gv n w.2.2.2.2.2.1)]))
 else bif w.2.1==3 then (bif am w.2.2.2.2.2.1 != am n.1 then (n,[]) else bif w.2.2.2.2.2.1==n.1 then (n,[]) else bif w.2.2.2.2.2.1==w.2.2.1 then (n,[]) else (ir n,[nP 1 (ir n) w.2.2.2.2.2.1 w.2.2.2.2.1 w.2.2.1 (gv n w.2.2.2.2.2.1)]))
 else bif w.2.1==4 then (n,[nP 5 n w.2.2.1 0 n.1 (aa.table n)]) else bif w.2.1==2 then (fa K n w,[]) else (n,[])
theorem yH (K:Nat)(n:aa)(w:ak)(h:UpN n)(z:cH (ak.coord w))(y:1048577<K):Q60.f K (n,w,())=some (((dZ K n w).1,(dZ K n w).2,()),()):=by
 simp only[Q60.f];rw[dk K n.1];simp only[BA];have r:=uO K n w.2.2.2.2.2.1 h.x.say y;have u:=bY (nN h.x.say w.2.2.2.2.2.1);unfold dZ;cases w.2.1==1 with
 |true =>
  simp only[cond_true];rw[dk K];simp only[BA];cases am w.2.2.2.2.2.1 != am n.1 with
  |true=>rfl
  |false =>
   simp only[cond_false];cases w.2.2.2.2.2.1==n.1 with
   |true=>rfl
   |false =>
    simp only[cond_false];refine (congrArg (λo=>BC o _) r).trans ?_;simp only[BA];refine (congrArg (λo=>BC o _) (pS K (ir n) 2 w.2.2.2.2.2.1 w.2.2.2.2.1 n.1 _ u)).trans rfl
 |false =>
  simp only[cond_false];cases w.2.1==3 with
  |true =>
   simp only[cond_true];rw[dk K];simp only[BA];cases am w.2.2.2.2.2.1 != am n.1 with
   |true=>rfl
   |false =>
    simp only[cond_false];cases w.2.2.2.2.2.1==n.1 with
    |true=>rfl
    |false =>
     simp only[cond_false];cases w.2.2.2.2.2.1==w.2.2.1 with
     |true=>rfl
     |false =>
      simp only[cond_false];refine (congrArg (λo=>BC o _) r).trans ?_;simp only[BA];refine (congrArg (λo=>BC o _) (pS K (ir n) 1 w.2.2.2.2.2.1 w.2.2.2.2.1 w.2.2.1 _ u)).trans rfl
  |false =>
   simp only[cond_false];cases w.2.1==4 with
   |true=>exact (congrArg (λo=>BC o _) (pS K n 5 w.2.2.1 0 n.1 (aa.table n) (bY h.x.table))).trans rfl
   |false =>
    simp only[cond_false];cases w.2.1==2 with
    |true=>exact (congrArg (λo=>BC o _) (ack_s K n w h z y)).trans rfl
    |false=>rfl
theorem xu {K:Nat}{n:aa}{w:ak}(h:UpN n)(r:cH (ak.coord w))(u:1048577<K):UpN (dZ K n w).1/\(dZ K n w).1.1=n.1/\(dZ K n w).1.2.2.1=n.2.2.1:=by
 unfold dZ;cases w.2.1==1 <;> cases w.2.1==3 <;> cases w.2.1==4 <;> cases w.2.1==2 <;> cases am w.2.2.2.2.2.1 != am n.1 <;> cases w.2.2.2.2.2.1==n.1 <;> cases w.2.2.2.2.2.1==w.2.2.1 <;> first|exact⟨h,rfl,rfl⟩|exact⟨h.way,rfl,rfl⟩|exact AQ h r u
open Classical in
noncomputable def bK (K:Nat)(n:aa)(w:ak):aa×List ak :=
 if dK w/\gw n w then (if w.2.1=6 then eQ n w else dZ K (gM n (ak.table w) w.2.2.1) w) else (n,[])
theorem jV {n:aa}{w:ak}(H:dK w)(h:gw n w)(u:w.2.1≠6):cd (ak.table w) (am n.1)/\fp n w.2.2.1:=by
 obtain⟨_,_,w3,_,_,_,_,_,y⟩:=H;rw[if_neg u]at y;obtain⟨_,_,_,_,r⟩:=h;by_cases z:w.1=2
 ·rw[if_pos z]at r;exact absurd r.1 u
 ·rw[if_neg z]at r;exact⟨r.1 ▸ y,w3,r.1⟩
theorem xv (K:Nat)(n:aa)(w:ak)(h:n.2.1=true->UpN n)(J:(ak.table w).length<=1048576)(z:1048577<K):Q61.f K (n,w,())=some (((bK K n w).1,(bK K n w).2,()),()):=by
 simp only[Q61.f];obtain⟨Z,Y,M⟩:=lW K w J z;obtain⟨b2,e2,R⟩:=uS K n w J z;rw[Y];cases Z with
 |false =>
  unfold bK;rw[if_neg λh=>by have:=M.2 h.1;cases this];rfl
 |true =>
  have y:=M.1 rfl;simp only[rb,BA,BH,cond_false];refine (congrArg (λo=>BC o _) e2).trans ?_;cases b2 with
  |false =>
   unfold bK;rw[if_neg λh=>by have:=R.2 h.2;cases this];rfl
  |true =>
   have H:=R.1 rfl;have I:=h H.1;simp only[rb,BA,BH,cond_false];unfold bK;rw[if_pos ⟨y,H⟩];have r:=y.2.2.2.2.2.2.2.1;by_cases u:w.2.1=6
   ·rw[if_pos u,show (w.2.1==6)=true by simpa using u];have O:=y.2.2.2.2.2.2.2.2;rw[if_pos u]at O;exact (congrArg (λo=>BC o _) (xt K n w I r O z)).trans rfl
   ·rw[if_neg u,show (w.2.1==6)=false by simpa using u];obtain⟨hs,X⟩:=jV y H u;have hl:=(km I H.2.1 r hs X).1;refine (congrArg (λo=>BC o _) (uK K n (ak.table w) w.2.2.1 I.learns r.1 J X.1 z)).trans ?_;exact (congrArg (λo=>BC o _) (yH K _ w hl y.2.2.2.2.2.2.1 z)).trans rfl
theorem qz {K:Nat}{n:aa}{w:ak}(h:UpN n)(X:1048577<K):UpN (bK K n w).1/\(bK K n w).1.1=n.1/\(bK K n w).1.2.2.1=n.2.2.1:=by
 unfold bK;split
 ·rename_i R;obtain⟨y,r⟩:=R;have u:=y.2.2.2.2.2.2.2.1;split
  ·rename_i H;have J:=y.2.2.2.2.2.2.2.2;rw[if_pos H]at J;rw[r.2.1];exact vQ h r.2.1 u J
  ·rename_i H;obtain⟨O,M⟩:=jV y r H;have I:=km h r.2.1 u O M;have z:=xu (w:=w) I.1 y.2.2.2.2.2.2.1 X;exact⟨z.1,z.2.1.trans I.2.1,z.2.2.trans (I.2.2.trans r.2.1.symm)⟩
 ·exact⟨h,rfl,rfl⟩
theorem md {K:Nat}{n:aa}{w:ak}(h:UpN n)(hK:1048577<K):(bK K n w).2.length<=1/\∀ x∈(bK K n w).2,InP x.2.2.2.1 0 7/\(ak.table x).length<=1048576:=by
 unfold bK;split
 ·rename_i O;obtain⟨u,M⟩:=O;have y:=u.2.2.2.2.2.2.2.1;split
  ·rename_i H;have I:=u.2.2.2.2.2.2.2.2;rw[if_pos H]at I;obtain⟨a1,a2,a3⟩:=kI (n:=n) h.x.others y I;unfold eQ;cases mc (ak.table w) (am n.1) with
   |true=>exact⟨by simp,by simp⟩
   |false =>
    simp only[cond_false];cases w.1==2&&decide (ak.table w≠bG n w) with
    |false=>exact⟨by simp,by simp⟩
    |true=>exact⟨by simp,λx r=>by rw[BG.1 r];exact⟨u.2.2.1,bY a1⟩⟩
  ·rename_i H;obtain⟨Z,Y⟩:=jV u M H;have J:=km h M.2.1 y Z Y;have X:=bY (nN J.1.x.say w.2.2.2.2.2.1);have z:=bY J.1.x.table;have w3:=u.2.2.1;have R:=u.2.2.2.2.2.1;generalize gM n (ak.table w) w.2.2.1=m at *;unfold dZ;cases w.2.1==1 <;> cases w.2.1==3 <;> cases w.2.1==4 <;> cases w.2.1==2 <;> cases am w.2.2.2.2.2.1 != am m.1 <;> cases w.2.2.2.2.2.1==m.1 <;> cases w.2.2.2.2.2.1==w.2.2.1 <;>
    first|exact⟨BS _,λx r=>by rw[BG.1 r];exact⟨R,X⟩⟩|exact⟨BS _,λx r=>by rw[BG.1 r];exact⟨w3,z⟩⟩|exact⟨BO _,λx r=>nomatch r⟩
 ·exact⟨by simp,by simp⟩
theorem vR (K:Nat)(n:aa)(w:ak)(Z:NB n)(u:(ak.table w).length<=1048576)(r:1048577<K):∃ b,Q229.f K (n,w,())=rb b/\Q104.f K (n,w,())=rb b:=by
 obtain⟨b1,h1,H⟩:=(oT K n Z r).same (sE K n Z r) CG;simp only[Q229.f,Q104.f];rw[h1,H];cases b1 with
 |false=>exact⟨false,rfl,rfl⟩
 |true =>
  simp only[BA,BH,cond_false];obtain⟨X,h2,y⟩:=lW K w u r;obtain⟨I,J,z⟩:=yi K w u r;have:X=I:=by rw[BQ,y,z]
  subst this;rw[h2,J];cases X with
  |false=>exact⟨false,rfl,rfl⟩
  |true =>
   have Y:=y.1 rfl;simp only[BA,BH,cond_false];obtain⟨b3,h3,M⟩:=(eZ K (ak.table w) (am n.1) u r).same (ii K (ak.table w) (am n.1) u r) CG;obtain⟨b4,h4,R⟩:=(eZ K (ak.table w) (am w.2.2.1) u r).same (ii K (ak.table w) (am w.2.2.1) u r) CG;obtain⟨b5,h5,O⟩:=pC K n w.2.2.1;have h6:b5=(am w.2.2.1==am n.1):=by
    rw[BQ,O,beq_iff_eq];exact⟨λh=>h.2,λh=>⟨Y.2.2.1,h⟩⟩
   have hp:InP w.1 1 2:=Y.1;simp only[Q28.f,Q103.f];rw[h5,dk K n.1,dk K w.2.2.1,mI K w.2.2.1,nI K n,h6];simp only[BA];rw[h3,h4,R,M];simp only[BA,bne];generalize (am w.2.2.1==am n.1)=c1;generalize (w.2.2.2.1==n.1)=c2;generalize (w.2.2.1==n.1)=c3;generalize (w.2.1==6)=c4;generalize n.2.1=c5;generalize n.2.2.1=c6;rcases (by omega:w.1=1\/w.1=2) with h|h <;> rw[h] <;> cases c1 <;> cases c2 <;> cases c3 <;> cases c4 <;> cases c5 <;> cases c6 <;> cases b3 <;> cases b4 <;> exact⟨_,rfl,rfl⟩
structure kX (n m:aa):Prop where
 ok:ct m
 me:m.1=n.1
 now_:m.2.2.2.2.2.1=n.2.2.2.2.2.1
 seq:m.2.2.2.2.2.2.1=n.2.2.2.2.2.2.1
 turn:m.2.2.2.2.2.2.2.1=n.2.2.2.2.2.2.2.1
 rest:m.2.2.2.2.2.2.2.2.2.2.2.2=n.2.2.2.2.2.2.2.2.2.2.2.2
 by_:∀ d∈aa.doubts m,d.2.2.2.length<=1048576
theorem kX.say {n m:aa}(h:kX n m){f:ah}(b:Int)(I:bm f):kX n (sayOf m f b):=by
 obtain⟨y,_,_,_,_,H,u,z,_,r⟩:=iQ m f b;exact⟨im h.ok I,y.trans h.me,H.trans h.now_,u.trans h.seq,z.trans h.turn,r.trans h.rest,yk h.by_⟩
theorem kX.setP {n m:aa}(h:kX n m)(p:ah):kX n (setP m p):=⟨h.ok.setP p,h.me,h.now_,h.seq,h.turn,h.rest,h.by_⟩
theorem kX.nb {n m:aa}(h:kX n m)(u:NB n):NB m:=by
 have z:aa.places m=aa.places n:=congrArg (λr=>r.2.1) h.rest;have y:aa.others m=aa.others n:=congrArg (λr=>r.2.2) h.rest;exact⟨h.ok.lt,h.ok.lc,h.ok.ld,h.by_,by rw[z];exact u.places,by rw[z];exact u.trips,by rw[y];exact u.others,by rw[y];exact u.facts⟩
theorem kX.far {n m:aa}(h:kX n m)(y:nO n):nO m:=by
 have u:aa.others m=aa.others n:=congrArg (λr=>r.2.2) h.rest;exact⟨by rw[u];exact y.short,by rw[u];exact y.table⟩
theorem um {n:aa}(h:∀ k,k<8->¬ hI n k):iR n=none:=by
 unfold iR;rw[List.find?_eq_none];intro x u;obtain⟨k,r,rfl⟩:=BU.1 u;have:=h k (by simpa using r);unfold hI at this;simpa using this
theorem un {n:aa}{k:Nat}(u:k<8)(r:hI n k)(h:∀ j,j<k->¬ hI n j):iR n=some (cI n k):=by
 unfold iR;rw[List.find?_map,List.find?_range_eq_some.2 ⟨?_,by simpa using u,λj y=>?_⟩]
 ·rfl
 ·unfold hI at r;simpa using r
 ·have:=h j y;unfold hI at this;simpa[Classical.or_iff_not_imp_left]using this
theorem uU (K:Nat)(n:aa)(h:ct n)(M:sZ n)(J:1048577<K):Q192.f K (n,())=some (((dR n).1,(dR n).2,()),()):=by
 obtain⟨⟨Z,Y⟩,⟨t0,t1⟩⟩:=M;obtain⟨to,O,u⟩:=zR K n h t0 t1 J;simp only[Q192.f,zcp4];rw[O];simp only[BA,dR];by_cases r:jG n>=999999
 ·rw[decide_eq_true r,show decide (n.2.2.2.2.2.2.1>=999999)=true from decide_eq_true r];cases decide (to<0) <;> rfl
 ·rw[decide_eq_false r,show decide (n.2.2.2.2.2.2.1>=999999)=false from decide_eq_false r];simp only[cond_false];rcases u with ⟨rfl,z⟩|⟨k,X,I,H,rfl⟩
  ·rw[um z];rfl
  ·rw[un X I H];have R:0<=cI n k/\cI n k<8:=⟨CD _ (by omega),B4 _ (by omega)⟩;rw[decide_eq_false (by omega:¬ cI n k<0)];simp only[cond_false];rw[uO K n _ h J];simp only[BA];have y:wr .i64 (jG n+1)=jG n+1:=aK (by omega) (by omega);rw[show wr .i64 ((ir n).2.2.2.2.2.2.1+1)=n.2.2.2.2.2.2.1+1 from y,aK (n:=cI n k+1) (by omega) (by omega)];simp only[Q41.f];rw[szb _ _ _ (by omega) (by have:=bY (nN h (cI n k));simp;omega)];rfl
def hM (w:ak):Prop:=InP w.2.2.2.1 0 7/\(ak.table w).length<=1048576
theorem tk {n:aa}(y:aB (aa.table n)):(dl n).2.length<=2/\∀ w∈(dl n).2,hM w:=by
 have r:([]:List ak).length<=2/\∀ w∈([]:List ak),hM w:=⟨by simp,by simp⟩;unfold dl;cases (aa.probe n).1==-1 with
 |true=>exact r
 |false =>
  cases !eA (aQ (aa.table n) (aa.probe n).1) with
  |true=>exact r
  |false =>
   cases decide (n.2.2.2.2.2.1-(aa.probe n).2.1>=4) with
   |true=>exact r
   |false =>
    cases decide (n.2.2.2.2.2.1-(aa.probe n).2.1>=2) with
    |false=>exact r
    |true =>
     cases !(aa.probe n).2.2.2 with
     |false=>exact r
     |true =>
      simp only[cond_true,cond_false];refine⟨by rw[Bw];exact List.length_take_le _ _,λw z=>?_⟩;obtain⟨to,u,rfl⟩:=BU.1 z;obtain⟨f,H,rfl⟩:=BU.1 (BT u);exact⟨(y.1 f (BX.1 H).1).1,BO _⟩
theorem zn {n:aa}(h:ct n):(dR n).2.length<=1/\∀ w∈(dR n).2,hM w:=by
 have r:([]:List ak).length<=1/\∀ w∈([]:List ak),hM w:=⟨by simp,by simp⟩;unfold dR;cases decide (jG n>=999999) with
 |true=>exact r
 |false =>
  simp only[cond_false];cases u:iR n with
  |none=>exact r
  |some to =>
   refine⟨by simp,λw H=>?_⟩;rw[BG.1 H];obtain⟨y,z,I⟩:=el h.table (gX (q9 u).2);exact⟨z ▸ y.1,bY (nN h to)⟩
theorem AR {n:aa}(H:c7 n.1 (aa.others n)){s d:Int}(z:InP s 0 1):InP (l8 n s d) 0 7:=by
 unfold l8;cases y:decide (fF (eG (aa.others n) s)≠[])&&bB .i64 d 4==0 with
 |true =>
  rw[B9,decide_eq_true_eq]at y;have:=(is (d:=Bu d (2 ^ 3)) y.1).2.2;unfold fF at this;obtain⟨f,I,e⟩:=BU.1 (BT this);simp only[cond_true];show InP (gN (fF (eG (aa.others n) s)) (Bu d (2 ^ 3))) 0 7;unfold fF;rw[<- e];exact ((o6 H s).1 f (BX.1 I).1).1
 |false =>
  obtain⟨r,u⟩:=ly (a:=Bu d (2 ^ 3)) (m:=3) (by omega);have r:0<=bB .i64 (Bu d (2 ^ 3)) 3:=r;have u:bB .i64 (Bu d (2 ^ 3)) 3<=3:=u;obtain⟨J,M⟩:=z;simp only[cond_false];exact⟨by omega,by omega⟩
theorem uV {n:aa}(I:aB (aa.table n))(J:c7 n.1 (aa.others n))(r:Int):(j9 n r).length<=2/\∀ w∈j9 n r,hM w:=by
 have u:([]:List ak).length<=2/\∀ w∈([]:List ak),hM w:=⟨by simp,by simp⟩;unfold j9;cases bB .i64 r 3==1 with
 |true =>
  simp only[cond_true,l9];cases lz n with
  |false=>exact u
  |true =>
   refine⟨?_,λw H=>?_⟩
   ·show ((([0,1]:List Int).filter (λs=>s != am n.1)).map _).length<=2;rw[Bw];exact By _ _
   ·obtain⟨s,M,rfl⟩:=BU.1 H;refine⟨AR J ?_,bY I⟩;have:=(BX.1 M).1;simp at this;rcases this with rfl|rfl <;> exact⟨by decide,by decide⟩
 |false =>
  simp only[cond_false];by_cases y:fm n=[]
  ·rw[decide_eq_true y,Bool.or_true];exact u
  ·rw[decide_eq_false y,Bool.or_false];obtain⟨f,R,e⟩:=BU.1 (is (d:=Bu r (2 ^ 2)) y).2.2;have z:InP (gN (fm n) (Bu r (2 ^ 2))) 0 7:=by
    rw[<- e];exact (I.1 f (BX.1 R).1).1
   cases bB .i64 r 3==3 with
   |true=>exact u
   |false =>
    simp only[cond_false];cases bB .i64 r 3==0 with
    |true=>exact⟨by simp,λw H=>by rw[BG.1 H];exact⟨z,bY I⟩⟩
    |false =>
     simp only[cond_false,sY]
     match O:aa.others n with
     |[]=>exact u
     |x::_=>exact⟨by simp,λw H=>by rw[BG.1 H];exact⟨z,bY (J.1 x (by rw[O];simp)).2.2.2.1⟩⟩
theorem UpX.far {n:aa}(h:UpX n):nO n:=⟨by rcases sW h.me h.others with e|⟨x,e⟩ <;> rw[e] <;> simp,λx r=>⟨(h.others.1 x r).2.2.2.1,bY (h.others.1 x r).2.2.2.1⟩⟩
theorem rh {n:aa}(h:UpX n)(I:ch n<=1000000):((aa.probe n).1=-1\/0<=(aa.probe n).1)/\0<=(aa.probe n).2.1/\(aa.probe n).2.1<=1000000:=by
 have r:=h.probe;have u:ch n=n.2.2.2.2.2.1:=rfl;unfold cZ at r;split at r
 ·rename_i H;rw[r];exact⟨.inl rfl,by show (0:Int)<=0;omega,by show (0:Int)<=1000000;omega⟩
 ·obtain⟨_,⟨f,z,e⟩,⟨y,J⟩,_⟩:=r;have:=(h.table.1 f z).1.1;exact⟨.inr (e ▸ this),y,by omega⟩
theorem AS {n:aa}(h:UpN n)(y:ch n<999999)(r:Int):(pM n r).length<=5/\∀ w∈pM n r,hM w:=by
 have J:=(mS h.x.later (show db (d7 n) from h.self)).1.table;obtain⟨z,O⟩:=tk J;obtain⟨M,_,_⟩:=pN h y;have H:=(qu h y).1;obtain⟨X,R⟩:=uV H.x.table H.x.others r;have I:(fq (ft n).1).2.length<=1/\∀ w∈(fq (ft n).1).2,hM w:=by
  unfold fq;cases (aa.probe (ft n).1).1==-1 with
  |true=>exact zn M.x.say
  |false=>exact⟨by simp,by simp⟩
 unfold pM;have z:(ft n).2.length<=2:=z;refine⟨by rw[BL,BL];omega,λw u=>?_⟩;rcases BM.1 u with u|u
 ·rcases BM.1 u with u|u
  ·exact O w u
  ·exact I.2 w u
 ·exact R w u
theorem AT (K:Nat)(n:aa)(H:Int)(h:UpN n)(hg:n.2.2.1=false)(hm:ch n<999999)(X:1048577<K):Q199.f K (n,H,())=some ((kF n,pM n H,()),()):=by
 have a3:=h.x.now0;simp only[Q199.f,zcp4];refine (congrArg (λb=>bif !b then _ else _) h.up).trans ?_;refine (congrArg (λb=>bif b then _ else _) hg).trans ?_;refine (congrArg (λb=>bif b then _ else _) (decide_eq_false (show ¬ n.2.2.2.2.2.1>=999999 by have:ch n=n.2.2.2.2.2.1:=rfl;omega))).trans ?_;simp only[cond_false];rw[show wr .i64 (n.2.2.2.2.2.1+1)=n.2.2.2.2.2.1+1 from aK (by have:ch n=n.2.2.2.2.2.1:=rfl;omega) (by have:ch n=n.2.2.2.2.2.1:=rfl;omega)];have hl:UpX (d7 n):=h.x.later;have a1:∀ d∈aa.doubts (d7 n),0<=d.2.2.1/\d.2.2.1<=(d7 n).2.2.2.2.2.1/\d.2.2.2.length<=1048576:=λd hd=>by
  obtain⟨_,⟨s0,s1⟩,_,h4⟩:=hl.doubts.1 d hd;exact⟨s0,s1,BJ (iP (k:=λx=>x) h4.2 λx hx=>(h4.1 x hx).1) (by decide)⟩
 have Y:∀ d∈aa.doubts (d7 n),∃ f∈aa.table (d7 n),f.1=d.1:=λd hd=>by
  obtain⟨⟨f,hf,e,_⟩,_⟩:=hl.doubts.1 d hd;exact⟨f,hf,e⟩
 have Z:(d7 n).2.2.2.2.2.1<=1000000:=by show ch n+1<=1000000;omega
 refine (congrArg (λo=>BC o _) (AC K (d7 n) ⟨hl.say,Y,rfl⟩ a1 Z X)).trans ?_;simp only[BA];obtain⟨b1,b2,t,c,ds,eb⟩:=mS hl (show db (d7 n) from h.self);have z:sZ (ft n).1:=(pN h hm).1.seq;have a0:ch (kk (d7 n))=ch n+1:=by rw[eb];rfl
 have hp:=rh b1 (by omega);obtain⟨a2,_⟩:=tk b1.table;have R:=(qu h hm).1;have r:=AL K (kF n) H R.x.far R.x.table (bY R.x.table) X;have u:=(pN h hm).1;obtain⟨I,_⟩:=zn u.x.say;obtain⟨y,_⟩:=uV R.x.table R.x.others H;unfold kF fq ft at r R y;unfold ft at z u I;unfold pM kF fq ft;generalize kk (d7 n)=m at *;rcases hp.1 with O|O
 ·have e0:dl m=(m,[]):=by unfold dl;rw[show ((aa.probe m).1==-1)=true by simpa using O];rfl
  rw[e0]at r z u I y ⊢;refine (congrArg (λb=>bif b then _ else _) (decide_eq_false (show ¬ m.2.2.2.2.2.2.2.2.2.2.1.1>=0 by have:(aa.probe m).1=m.2.2.2.2.2.2.2.2.2.2.1.1:=rfl;omega))).trans ?_;refine (congrArg (λb=>bif b then _ else _) (decide_eq_true (show m.2.2.2.2.2.2.2.2.2.2.1.1<0 by have:(aa.probe m).1=m.2.2.2.2.2.2.2.2.2.2.1.1:=rfl;omega))).trans ?_;refine (congrArg (λo=>BC o _) (uU K m u.x.say z X)).trans ?_;simp only[BA];rw[show ((aa.probe m).1==-1)=true by simpa using O]at r y ⊢;simp only[cond_true]at r y I ⊢;rw[szw _ _ _ (by omega) (by simp;omega)];simp only[cond_true];refine (congrArg (λo=>BC o _) r).trans ?_;simp only[BA];rw[szw _ _ _ (by omega) (by simp;omega)];rfl
 ·refine (congrArg (λb=>bif b then _ else _) (decide_eq_true (show m.2.2.2.2.2.2.2.2.2.2.1.1>=0 from O))).trans ?_;refine (congrArg (λo=>BC o _) (AD K m b1.say (by omega) hp.2.1 hp.2.2 b1.now0 (by have:ch m=m.2.2.2.2.2.1:=rfl;omega) X)).trans ?_;simp only[BA];generalize dl m=fo at *;obtain⟨M,ws⟩:=fo;simp only at r z u I y a2 ⊢;have J:=(rh u.x (by have:=u.now1;omega)).1;rcases J with J|J
  ·refine (congrArg (λb=>bif b then _ else _) (decide_eq_true (show M.2.2.2.2.2.2.2.2.2.2.1.1<0 by have:(aa.probe M).1=M.2.2.2.2.2.2.2.2.2.2.1.1:=rfl;omega))).trans ?_;refine (congrArg (λo=>BC o _) (uU K M u.x.say z X)).trans ?_;simp only[BA];rw[show ((aa.probe M).1==-1)=true by simpa using J]at r y ⊢;simp only[cond_true]at r y ⊢;rw[szw _ _ _ (by omega) (by omega)];simp only[cond_true];refine (congrArg (λo=>BC o _) r).trans ?_;simp only[BA];rw[szw _ _ _ (by omega) (by rw[BL];omega)];rfl
  ·refine (congrArg (λb=>bif b then _ else _) (decide_eq_false (show ¬ M.2.2.2.2.2.2.2.2.2.2.1.1<0 by have:(aa.probe M).1=M.2.2.2.2.2.2.2.2.2.2.1.1:=rfl;omega))).trans ?_;rw[show ((aa.probe M).1==-1)=false by simp;omega]at r y ⊢;simp only[cond_false]at r y ⊢;refine (congrArg (λo=>BC o _) r).trans ?_;simp only[BA,List.append_nil];rw[szw _ _ _ (by omega) (by omega)];rfl
theorem tm (K:Nat)(l:List ah)(f:ah)(J:l.length<=1048576)(M:1048577<K):Ret (Q176.f K (l,f,())) (f∈l):=by
 have:=cr (step:=λrec a=>Q176.s0 K (l,f,()) rec a) l.length (λi=>(i:Int)) (λj=>∃ h:j<l.length,l[j]=f) (rb false) (λ_=>rb true) ?_ ?_ l.length K 0 (by omega) (by omega)
 ·rcases this with ⟨y,u⟩|⟨j,_,_,⟨H,I⟩,_,u⟩
  ·refine⟨false,u,?_⟩;refine⟨λh=>absurd h (by decide),λz=>?_⟩;obtain⟨i,r,e⟩:=BW z;exact absurd ⟨r,e⟩ (y i (BO _) r)
  ·exact⟨true,u,λ_=>I ▸ BI H,λ_=>rfl⟩
 ·intro rec i r;simp only[Q176.s0];rw[bo (by omega:(i:Int)<(BD l:Int)),ag r,au i (by omega)];simp only[cond_true,BA];rw[gV];by_cases h:l[i]=f
  ·rw[decide_eq_true h];exact .inr ⟨⟨r,h⟩,rfl⟩
  ·rw[decide_eq_false h];exact .inl ⟨λ⟨_,u⟩=>h u,rfl⟩
 ·intro rec;simp only[Q176.s0,aS];rfl
theorem UpN.nb {n:aa}(h:UpN n):NB n where
 table:=bY h.x.table
 cast:=by have:=clen h.x.say;omega
 doubts:=h.x.say.ld
 by_:=λd r=>by have:=(h.learns.by_ d r).len;omega
 places:=plen h.x.places
 trips:=λp u=>by have:=(h.x.places.1 p u).2.2.2.2.1.2;omega
 others:=olen h.x.others
 facts:=λx y=>bY (h.x.others.1 x y).2.2.2.1
def jm (r:Int)(g:Bool):aa:=(r,false,false,g,0,0,0,0,[],[],(0,0,0,false),[],(0,0,0,0),[],[])
structure ei (i:Nat) (n:aa):Prop where
 me:n.1=(i:Int)
 lt:i<8
 up:n.2.1=true->UpN n
 down:n.2.1=false->n=jm n.1 n.2.2.2.1
theorem ei.nb {i:Nat}{n:aa}(h:ei i n):NB n:=by
 cases r:n.2.1 with
 |true=>exact (h.up r).nb
 |false =>
  rw[h.down r];exact⟨by simp[jm,aa.table],by simp[jm,aa.cast],by simp[jm,aa.doubts],by simp[jm,aa.doubts],by simp[jm,aa.places],by simp[jm,aa.places],by simp[jm,aa.others],by simp[jm,aa.others]⟩
theorem ei.short {i:Nat}{n:aa}(h:ei i n):(aa.table n).length<=4:=by
 cases r:n.2.1 with
 |true=>exact ui (h.up r).x.table (h.up r).x.site
 |false=>rw[h.down r];exact BO _
theorem ei.of {i:Nat}{n m:aa}(h:ei i n)(r:UpN m)(e:m.1=n.1):ei i m:=⟨e.trans h.me,h.lt,λ_=>r,λu=>by rw[r.up]at u;cases u⟩
def fQ (l:List lx):Prop:=l.length<=60/\∀ f∈l,InP f.1 0 7/\f.2.1.size<=2000
structure WI (w:bR) (c:Nat):Prop where
 len:w.1.length=8
 node:∀ (i:Nat) (h:i<w.1.length),ei i w.1[i]
 radio:fQ w.2.1
 sides:w.2.2.1.length=8
 born:w.2.2.2.length<=c
theorem WI.mono {w:bR}{c d:Nat}(h:WI w c)(r:c<=d):WI w d:=⟨h.len,h.node,h.radio,h.sides,BJ h.born r⟩
theorem WI.put {w:bR}{c:Nat}(h:WI w c){i:Nat}{n:aa}(z:ei i n){rd:List lx}(u:fQ rd){b:List ah}{d:Nat}(r:b.length<=d):WI (w.1.set i n,rd,w.2.2.1,b) d:=by
 refine⟨by rw[BK];exact h.len,λj y=>?_,u,h.sides,r⟩;show ei j ((w.1.set i n)[j]'y);rw[List.getElem_set];split
 ·rename_i e;exact e ▸ z
 ·exact h.node j _
theorem xw (K:Nat)(w:bR)(X:Int)(u:List ak)(hs:w.2.2.1.length=8)(y:InP X 0 7)(O:∀ x∈u,hM x)(hr:fQ w.2.1)(hl:u.length<=1000)(hK:1048577<K) :
  Tot (Q173.f K (w,X,u,())) λr=>∃ rd,fQ rd/\r.1.1=(w.1,rd,w.2.2):=by
 simp only[Q173.f,Q173.pre];obtain⟨f0,f1⟩:=y;refine Tot.iter (step:=λrec a=>Q173.s0 K (w,X,u,()) rec a) (λa=>0<=a.1/\a.1<=u.length/\fQ a.2) (λa=>u.length-a.1.toNat) ?_ K _ (by show u.length-BE 0<K;omega) ⟨by show (0:Int)<=0;omega,by show (0:Int)<=_;omega,hr⟩;rintro rec ⟨i,rd⟩ ⟨I,h1,H⟩ ih;simp only at I h1 H ih ⊢;simp only[Q173.s0];refine Tot.cnd (λh=>?_) λ_=>Tot.ret ⟨rd,H,rfl⟩
 have h:=of_decide_eq_true h;rw[aK (n:=i+1) (by omega) (by omega)];have Z:∀ z,fQ z->Tot (rec (i+1,z)) λr=>∃ rd,fQ rd/\r.1.1=(w.1,rd,w.2.2):=λz R=>ih _ ⟨by show 0<=i+1;omega,by show i+1<=_;omega,R⟩ (by show u.length-BE (i+1)<u.length-BE i;omega)
 refine Tot.cnd (λh3=>?_) λ_=>Z rd H
 have h3:=of_decide_eq_true h3;refine Tot.ix f0 (by omega) λ_ _ _=>Tot.ix I h λy2 M _=>?_
 obtain⟨⟨t0,t1⟩,_⟩:=O y2 M;refine Tot.ix t0 (by omega) λ_ _ _=>Tot.cnd (λ_=>Tot.fit (Tot.ix I h λy4 Y _=>Tot.ix I h λy5 J _=>Tot.bind (ol K y5 (O y5 J).2 hK) λv hv=>Tot.fit (Z _ ⟨?_,λf y=>?_⟩) (by omega) ?_) (by omega) ?_) λ_=>Z rd H
 ·simp;omega
 ·rcases BM.1 y with y|y
  ·exact H.2 f (by simpa using y)
  ·rw[BG.1 y];exact⟨(O y4 Y).1,by show v.1.1.size<=2000;have:=hv.1;omega⟩
 ·simp;omega
 ·simp;omega
theorem Tot.ins {α:Type}{l:List α}{x:α}{a:Int}{c:Nat}{Q:(List α×Unit)×Unit->Prop}(u:0<=a)(y:a<=l.length)(H:l.length<=1048576)(z:c<=64)(k:∀ r:List α,r.length=l.length+1->Q ((r,()),())) :
  Tot (bif decide ((0:Int)<=0)&&decide (0<=a)&&decide (a<=(BD l:Int))&&true then (bif decide ((BD ([]:List α)+BD ((l.take (BE a)).drop (BE 0)))*c<=ao) then (bif decide ((BD ([]++((l.take (BE a)).drop (BE 0)))+BD ([x]))*c<=ao) then (bif decide (0<=a)&&decide (a<=(BD l:Int))&&decide ((BD l:Int)<=(BD l:Int))&&true then (bif decide ((BD (([]++((l.take (BE a)).drop (BE 0)))++([x]))+BD ((l.take (BE (BD l:Int))).drop (BE a)))*c<=ao) then (some (((([]++((l.take (BE a)).drop (BE 0)))++([x]))++((l.take (BE (BD l:Int))).drop (BE a)),()),())) else none) else none) else none) else none) else none) Q:=by
 obtain⟨m,rfl⟩:=BN u;refine Tot.must (by simp;omega) (Tot.fit (Tot.fit (Tot.must (by simp;omega) (Tot.fit (Tot.ret (k _ ?_)) (by omega) ?_)) (by omega) ?_) (by omega) ?_) <;>
 simp only[BF,BZ,BR,BP,BL,BV,Bv,CB,Bx] <;> omega
theorem yI (K:Nat)(f g:ah):Tot (Q174.f K (f,g,())) λ_=>True:=by
 simp only[Q174.f];exact Tot.cnd (λ_=>Tot.ret trivial) λ_=>Tot.bind (sD K g f).tot λ_ _=>Tot.ret trivial
theorem xx (K:Nat)(l:List ah)(f:ah)(M:l.length<=1048576)(R:1048577<K):Tot (Q175.f K (l,f,())) λr=>r.1.1.length<=l.length+1:=by
 simp only[Q175.f,Q175.pre];refine Tot.iter (A:=Int) (step:=λrec a=>Q175.s0 K (l,f,()) rec a) (λa=>0<=a/\a<=l.length) (λa=>l.length-a.toNat) ?_ K _ (by show l.length-BE 0<K;omega) ⟨by show (0:Int)<=0;omega,by show (0:Int)<=_;omega⟩;rintro rec i ⟨H,z⟩ I;simp only[Q175.s0];have u:=λ (z:i<=l.length)=>Tot.ins (x:=f) (c:=32) (Q:=λr=>r.1.1.length<=l.length+1) H z M (by omega) λr O=>by show r.length<=_;omega
 have y:l.length<=l.length+1:=Bz _;refine Tot.cnd (λh=>?_) λ_=>Tot.cnd (λh=>Tot.ix H (of_decide_eq_true h) λ_ _ _=>Tot.cnd (λ_=>Tot.ret y) λ_=>u z) λ_=>u z
 have h:i<(l.length:Int):=of_decide_eq_true h;rw[aK (n:=i+1) (by omega) (by omega)];refine Tot.ix H h λJ _ _=>Tot.bind (yI K J f) λ_ _=>Tot.cnd (λ_=>I (i+1) ⟨by show 0<=i+1;omega,by show i+1<=(l.length:Int);omega⟩ (by show l.length-BE (i+1)<l.length-BE i;omega)) λ_=>Tot.cnd (λ_=>Tot.ix H h λ_ _ _=>Tot.cnd (λ_=>Tot.ret y) λ_=>u z) λ_=>u z
theorem zo (K:Nat)(w:bR)(z y u:List ah)(X:z.length<=1048576)(h2:y.length<=1048576)(h3:u.length<=100)(hb:w.2.2.2.length<=1000000)(J:1048577<K) :
  Tot (Q177.f K (w,z,y,u,())) λr=>∃ b,b.length<=w.2.2.2.length+u.length/\r.1.1=(w.1,w.2.1,w.2.2.1,b):=by
 simp only[Q177.f,Q177.pre];refine Tot.iter (step:=λrec a=>Q177.s0 K (w,z,y,u,()) rec a) (λa=>0<=a.1/\a.1<=u.length/\(a.2.length:Int)<=w.2.2.2.length+a.1) (λa=>u.length-a.1.toNat) ?_ K _ (by show u.length-BE 0<K;omega) ⟨by show (0:Int)<=0;omega,by show (0:Int)<=_;omega,by show (w.2.2.2.length:Int)<=w.2.2.2.length+0;omega⟩;rintro rec ⟨i,b⟩ ⟨I,i1,R⟩ O;simp only at I i1 R O ⊢;simp only[Q177.s0];refine Tot.cnd (λh=>?_) λ_=>Tot.ret ⟨b,by omega,rfl⟩
 have h:=of_decide_eq_true h;rw[aK (n:=i+1) (by omega) (by omega)];have M:∀ H:List ah,H.length<=b.length+1->Tot (rec (i+1,H)) λr=>∃ b,b.length<=w.2.2.2.length+u.length/\r.1.1=(w.1,w.2.1,w.2.2.1,b):=λH Z=>O _ ⟨by show 0<=i+1;omega,by show i+1<=_;omega,by show (H.length:Int)<=_+(i+1);omega⟩ (by show u.length-BE (i+1)<u.length-BE i;omega)
 refine Tot.ix I h λy1 _ _=>Tot.bind (tm K z y1 X J).tot λ_ _=>Tot.cnd (λ_=>?_) λ_=>M b (Bz _)
 refine Tot.ix I h λy3 _ _=>Tot.bind (tm K y y3 h2 J).tot λ_ _=>Tot.cnd (λ_=>?_) λ_=>M b (Bz _)
 exact Tot.ix I h λY _ _=>Tot.bind (xx K b Y (by omega) J) λv hv=>M v.1.1 hv
structure zp (w:bR) (i:Nat) (n:aa) (ws:List ak) (heard:List ah) (c:Nat):Prop where
 wi:WI w c
 lt:i<8
 n:ei i n
 sent:∀ x∈ws,hM x
 wl:ws.length<=1000
 hl:heard.length<=1048576
 c:c<=1000000
theorem set_t (K:Nat)(w:bR)(i:Nat)(n:aa)(H:List ak)(u:List ah)(c:Nat)(h:zp w i n H u c)(I:1048577<K):Tot (Q178.f K ((w,i),n,H,u,())) λr=>WI r.1.1 (c+4):=by
 simp only[Q178.f];have y:i<w.1.length:=by rw[h.wi.len];exact h.lt
 have O:=h.c;have M:=h.wi.born;have J:=h.n.short;rw[h.n.me];refine Tot.vl (ag y) (Tot.vl (by rw[BF];exact ag y) (Tot.vl (ag y) (Tot.vl (by rw[BF];exact ag y) ?_)));refine Tot.must (by simp) ?_;rw[BF];refine Tot.bind (zo K (w.1.set i n,w.2) (aa.table w.1[i]) u (aa.table n) (h.wi.node i y).nb.table h.hl (by omega) (by show w.2.2.2.length<=_;omega) I) ?_;rintro⟨⟨v,⟨⟩⟩,⟨⟩⟩ ⟨b,z,rfl⟩;refine Tot.bind (xw K (w.1.set i n,w.2.1,w.2.2.1,b) (i:Int) H h.wi.sides ⟨by omega,by have:=h.lt;omega⟩ h.sent h.wi.radio h.wl I) ?_;rintro⟨⟨v,⟨⟩⟩,⟨⟩⟩ ⟨rd,hr,rfl⟩;have z:b.length<=w.2.2.2.length+(aa.table n).length:=z;exact Tot.ret (h.wi.put h.n hr (by omega))
theorem AU (K:Nat)(w:bR)(i:Nat)(n:aa)(H:List ak)(u:List ah)(c:Nat)(h:zp w i n H u c)(I:1048577<K):Tot (Q181.f K (w,n,H,u,())) λr=>WI r.1.1 (c+4):=by
 simp only[Q181.f];have y:i<w.1.length:=by rw[h.wi.len];exact h.lt
 have O:=h.c;have M:=h.wi.born;have J:=h.n.short;rw[h.n.me];refine Tot.vl (ag y) (Tot.vl (by rw[BF];exact ag y) (Tot.vl (ag y) (Tot.vl (by rw[BF];exact ag y) ?_)));rw[BF];refine Tot.bind (zo K (w.1.set i n,w.2) (aa.table w.1[i]) u (aa.table n) (h.wi.node i y).nb.table h.hl (by omega) (by show w.2.2.2.length<=_;omega) I) ?_;rintro⟨⟨v,⟨⟩⟩,⟨⟩⟩ ⟨b,z,rfl⟩;refine Tot.bind (xw K (w.1.set i n,w.2.1,w.2.2.1,b) (i:Int) H h.wi.sides ⟨by omega,by have:=h.lt;omega⟩ h.sent h.wi.radio h.wl I) ?_;rintro⟨⟨v,⟨⟩⟩,⟨⟩⟩ ⟨rd,hr,rfl⟩;have z:b.length<=w.2.2.2.length+(aa.table n).length:=z;exact Tot.ret (h.wi.put h.n hr (by omega))
theorem ri (K:Nat)(l:List lx)(at_:Int)(z:0<=at_)(H:at_<l.length)(y:fQ l):Tot (Q172.f K (l,at_,())) λr=>fQ r.1.1:=by
 have I:=y.1;obtain⟨m,rfl⟩:=BN z;simp only[Q172.f];rw[au m (by omega)];refine Tot.must (by simp;omega) (Tot.fit (Tot.must (by simp;omega) (Tot.fit (Tot.ret ⟨?_,λf u=>y.2 f ?_⟩) (by omega) ?_)) (by omega) ?_)
 ·simp only[BF,BZ,BR,BP,BL,BV,Bv];omega
 ·simp only[BF,BZ,BR,BP,Bt]at u;rcases BM.1 u with u|u
  ·exact BT u
  ·exact List.mem_of_mem_drop u
 ·simp only[BF,BZ,BR,BP,BL,BV,Bv];omega
 ·simp only[BF,BZ,BR,BP,BV,Bx];omega
theorem rj (K:Nat)(w:bR)(c:Nat)(h:WI w c)(Z:c<=1000000)(to:Int)(t0:0<=to)(t1:to<=7)(x:ak)(X:dK x)(H:1048577<K){G:aa->aa->Option ((bR×Unit)×Unit)}
  (Y:∀ y:aa,G y y=(Q61.f K (y,x,())).bind λI=>(Q178.f K ((w,BE to),I.1.1,I.1.2.1,ak.table x,())).bind λM=>some ((M.1.1,()),())) :
  Tot ((idx w.1 to).bind λ_=>(idx w.1 (BE to:Nat)).bind λR=>(idx w.1 (BE to:Nat)).bind λO=>G R O) λr=>WI r.1.1 (c+4):=by
 obtain⟨i,rfl⟩:=BN t0;have J:i<w.1.length:=by rw[h.len];omega
 have z:=h.node i J;refine Tot.vl (ag J) (Tot.vl (by rw[BF];exact ag J) (Tot.vl (by rw[BF];exact ag J) ?_));rw[Y,xv K w.1[i] x z.up (bY X.2.2.2.2.2.2.2.1) H];simp only[BA,BF];refine Tot.bind (set_t K w i _ _ _ c ⟨h,z.lt,?_,?_,?_,bY X.2.2.2.2.2.2.2.1,Z⟩ H) λv hv=>Tot.ret hv
 ·cases u:w.1[i].2.1 with
  |true=>exact z.of (qz (z.up u) H).1 (qz (z.up u) H).2.1
  |false =>
   rw[show bK K w.1[i] x=(w.1[i],[]) by unfold bK;rw[if_neg λh=>by have:=h.2.1;rw[u]at this;cases this]];exact z
 ·cases u:w.1[i].2.1 with
  |true=>exact λy hy=>(md (z.up u) H).2 y hy
  |false =>
   rw[show bK K w.1[i] x=(w.1[i],[]) by unfold bK;rw[if_neg λh=>by have:=h.2.1;rw[u]at this;cases this]];simp
 ·cases u:w.1[i].2.1 with
  |true=>have:=(md (w:=x) (z.up u) H).1;omega
  |false =>
   rw[show bK K w.1[i] x=(w.1[i],[]) by unfold bK;rw[if_neg λh=>by have:=h.2.1;rw[u]at this;cases this]];simp
theorem z8 (K:Nat)(w:bR)(c:Nat)(h:WI w c)(hc:c<=1000000)(at_:Int)(keep:Bool)(h0:0<=at_)(h1:at_<w.2.1.length)(X:1048577<K):Tot (Q179.f K (w,at_,keep,())) λr=>WI r.1.1 (c+4):=by
 simp only[Q179.f,zcp8];refine Tot.ix2 h0 h1 λf hf _=>?_
 obtain⟨⟨t0,t1⟩,a0⟩:=h.radio.2 f hf;have hs:=h.sides;refine Tot.cnd (λ_=>Tot.bind (ri K w.2.1 at_ h0 h1 h.radio) ?_) λ_=>Tot.bind (mb K f.2.1 (by omega) X) ?_
 ·rintro⟨⟨rd,⟨⟩⟩,⟨⟩⟩ hr;have R:WI (w.1,rd,w.2.2) (c+4):=⟨h.len,h.node,hr,h.sides,BJ h.born (by omega)⟩;refine Tot.bind (mb K f.2.1 (by omega) X) ?_;rintro⟨⟨(x:ak),ok,⟨⟩⟩,⟨⟩⟩ H;refine Tot.cnd (λ_=>Tot.ret R) λZ=>?_
  have H:dK x:=H (by simpa using Z);obtain⟨I,Y⟩:=H.2.2.1;have M:x.2.2.1<(w.2.2.1.length:Int):=by rw[hs];omega
  refine Tot.ix2 I M λ_ _ _=>Tot.ix2 t0 (by omega) λ_ _ _=>Tot.cnd (λ_=>Tot.ret R) λ_=>Tot.cnd (λ_=>Tot.ret R) λ_=>?_
  exact rj K (w.1,rd,w.2.2) c ⟨h.len,h.node,hr,h.sides,h.born⟩ hc f.1 t0 t1 x H X (G:=λu O=>(Q61.f K ((u.1,(u.2.1,(u.2.2.1,(u.2.2.2.1,(u.2.2.2.2.1,(u.2.2.2.2.2.1,(u.2.2.2.2.2.2.1,(u.2.2.2.2.2.2.2.1,(u.2.2.2.2.2.2.2.2.1,(u.2.2.2.2.2.2.2.2.2.1,(u.2.2.2.2.2.2.2.2.2.2.1,(O.2.2.2.2.2.2.2.2.2.2.2.1,u.2.2.2.2.2.2.2.2.2.2.2.2)))))))))))),x,())).bind λz=>(Q178.f K (((w.1,rd,w.2.2),BE f.1),z.1.1,z.1.2.1,ak.table x,())).bind λJ=>some ((J.1.1,()),())) λy=>rfl
 ·rintro⟨⟨(x:ak),ok,⟨⟩⟩,⟨⟩⟩ H;have R:WI w (c+4):=h.mono (by omega);refine Tot.cnd (λ_=>Tot.ret R) λZ=>?_
  have H:dK x:=H (by simpa using Z);obtain⟨I,Y⟩:=H.2.2.1;have M:x.2.2.1<(w.2.2.1.length:Int):=by rw[hs];omega
  refine Tot.ix2 I M λ_ _ _=>Tot.ix2 t0 (by omega) λ_ _ _=>Tot.cnd (λ_=>Tot.ret R) λ_=>Tot.cnd (λ_=>Tot.ret R) λ_=>?_
  exact rj K w c h hc f.1 t0 t1 x H X (G:=λu O=>(Q61.f K ((u.1,(u.2.1,(u.2.2.1,(u.2.2.2.1,(u.2.2.2.2.1,(u.2.2.2.2.2.1,(u.2.2.2.2.2.2.1,(u.2.2.2.2.2.2.2.1,(u.2.2.2.2.2.2.2.2.1,(u.2.2.2.2.2.2.2.2.2.1,(u.2.2.2.2.2.2.2.2.2.2.1,(O.2.2.2.2.2.2.2.2.2.2.2.1,u.2.2.2.2.2.2.2.2.2.2.2.2)))))))))))),x,())).bind λz=>(Q178.f K (((w.1,w.2),BE f.1),z.1.1,z.1.2.1,ak.table x,())).bind λJ=>some ((J.1.1,()),())) λy=>rfl
theorem z9 (K:Nat)(w:bR)(c:Nat)(h:WI w c)(at_ u:Int)(O:0<=at_)(M:at_<w.2.1.length):Tot (Q180.f K (w,at_,u,())) λr=>WI r.1.1 c:=by
 simp only[Q180.f];refine Tot.ix2 O M λf Y _=>?_
 obtain⟨z,I⟩:=h.radio.2 f Y;refine Tot.cnd (λ_=>Tot.ret h) λ_=>Tot.cnd (λ_=>Tot.ret h) λZ=>?_
 have H:¬ (f.2.1.size:Int)=0:=by simpa using Z
 obtain⟨y,b1⟩:=ly (a:=u) (m:=4095) (by omega);have y:0<=bB .i64 u 4095:=y;have X:0<=Bq (bB .i64 u 4095) (f.2.1.size:Int):=CD _ y;have R:Bq (bB .i64 u 4095) (f.2.1.size:Int)<((er f.2.1).length:Int):=by rw[re];exact B4 _ (by omega)
 refine Tot.not (decide_eq_false H) (Tot.ix2 X R λ_ _ _=>Tot.ix2 X R λ_ _ _=>Tot.ix2 O M λ_ _ _=>Tot.ret ⟨h.len,h.node,⟨?_,λg J=>?_⟩,h.sides,h.born⟩)
 ·show (w.2.1.set _ _).length<=60;rw[BK];exact h.radio.1
 ·rcases List.mem_or_eq_of_mem_set J with J|rfl
  ·exact h.radio.2 g J
  ·refine⟨z,?_⟩;show (gH _).size<=2000;rw[iS,BK,re];exact I
def mf (i:Int)(g:Bool):aa:=(i,true,false,g,0,0,0,0,[(i,0,1,g)],[],(-1,0,0,false),[],(0,0,0,1500),[],[])
theorem Aa {i:Int}{g:Bool}(h:InP i 0 7):UpN (mf i g):=by
 refine⟨⟨h,Br _,⟨λf y=>?_,List.pairwise_singleton _ _⟩,λf y=>?_,⟨λx u=>(nomatch u),List.Pairwise.nil⟩,λx u=>(nomatch u),?_,⟨λd z=>(nomatch z),List.Pairwise.nil,rfl⟩,⟨?_,?_,?_,?_⟩,⟨λp r=>(nomatch r),List.Pairwise.nil⟩,⟨λp r=>(nomatch r),List.Pairwise.nil⟩⟩,?_,?_,⟨?_,?_⟩,?_,rfl⟩
 ·rw[BG.1 y];exact⟨h,⟨by show (0:Int)<=0;omega,by show (0:Int)<=999;omega⟩,by show (1:Int)<=1;omega,by show (1:Int)<=4;omega⟩
 ·rw[BG.1 y];rfl
 ·unfold cZ;rw[if_pos (show (aa.probe (mf i g)).1=-1 from rfl)];rfl
 ·exact⟨by show (-100000:Int)<=0;omega,by show (0:Int)<=100000;omega⟩
 ·exact⟨by show (-100000:Int)<=0;omega,by show (0:Int)<=100000;omega⟩
 ·exact⟨by show (0:Int)<=0;omega,by show (0:Int)<=100000;omega⟩
 ·exact⟨by show (1:Int)<=1500;omega,by show (1500:Int)<=1500;omega⟩
 ·exact BG.2 rfl
 ·show (0:Int)<=999999;omega
 ·exact⟨by show (0:Int)<=0;omega,by show (0:Int)<=999999;omega⟩
 ·exact⟨by show (0:Int)<=0;omega,by show (0:Int)<=8;omega⟩
 ·exact⟨by show (0:Int)<=0;omega,by show (0:Int)<=999;omega⟩
theorem rl (K:Nat)(i:Int)(g:Bool)(h:InP i 0 7):Q152.f K (i,g,())=some ((mf i g,()),()):=by
 simp only[Q152.f];obtain⟨b,e,r⟩:=cG K i 0 7;rw[e,r.2 h];rfl
theorem ei.new (i:Nat)(g:Bool)(h:i<8):ei i (mf (i:Int) g):=⟨rfl,h,λ_=>Aa ⟨by omega,by omega⟩,λr=>by cases r⟩
theorem AV (K:Nat)(w:bR)(c:Nat)(h:WI w c)(M:c<=1000000)(u:Int)(y:InP u 0 7)(I:1048577<K):Tot (Q183.f K (w,u,())) λr=>WI r.1.1 (c+4):=by
 have J:=h.born;have H:u.toNat<8:=by obtain⟨a,b⟩:=y;omega
 have z:=h.len;simp only[Q183.f,Q153.f,BA];rw[rl K u _ y];simp only[BA];refine Tot.ix2 y.1 (by have:=y.2;omega) λ_ _ _=>?_
 refine Tot.vl (show idx (mf u (decide (Bq u 4<3))).2.2.2.2.2.2.2.2.1 0=some (u,0,1,decide (Bq u 4<3)) from rfl) (Tot.bind (xx K w.2.2.2 _ (by omega) I) λv O=>Tot.ret (h.put ?_ h.radio (by omega)));have:=ei.new u.toNat (decide (Bq u 4<3)) H
 rwa [B3 y.1]at this
theorem AW (K:Nat)(n:aa)(w:ak)(X:NB n)(y:(ak.table w).length<=1048576)(r:1048577<K):Ret (Q229.f K (n,w,())) (fE n/\dK w/\gw n w):=by
 obtain⟨O,I,u⟩:=oT K n X r;obtain⟨H,R,z⟩:=lW K w y r;obtain⟨M,Y,J⟩:=uS K n w y r;simp only[Q229.f];rw[I];cases O with
 |false=>exact⟨false,rfl,by simp only[B5,false_iff];exact λh=>by have:=u.2 h.1;cases this⟩
 |true =>
  simp only[rb,BA,BH,cond_false];rw[R];cases H with
  |false=>exact⟨false,rfl,by simp only[B5,false_iff];exact λh=>by have:=z.2 h.2.1;cases this⟩
  |true =>
   simp only[rb,BA,BH,cond_false];rw[Y];exact⟨M,rfl,J.trans ⟨λh=>⟨u.1 rfl,z.1 rfl,h⟩,λh=>h.2.2⟩⟩
theorem pV (K:Nat)(n:aa)(w:ak)(z:NB n)(u:(ak.table w).length<=1048576)(H:1048577<K):∃ b,Q229.f K (n,w,())=rb b/\Q104.f K (n,w,())=rb b/\(b=true<->fE n/\dK w/\gw n w):=by
 obtain⟨b,r,M⟩:=vR K n w z u H;obtain⟨J,y,I⟩:=AW K n w z u H;rw[r]at y;have:b=J:=by simpa[rb]using y
 subst this;exact⟨b,r,M,I⟩
theorem xy (K:Nat)(n:aa)(r:Int)(w:ak)(h:ct n)(u:1048577<K):Q141.f K (n,r,w,())=some ((nP r (ir n) w.2.2.2.2.2.1 w.2.2.2.2.1 n.1 (gv n w.2.2.2.2.2.1),()),(ir n,())):=by
 simp only[Q141.f,zcp4];refine (congrArg (λo=>BC o _) (vH K n w.2.2.2.2.2.1 h u)).trans ?_;simp only[BA,Q121.f];rfl
theorem yJ (K:Nat)(n:aa)(x:Int)(u:InP x 0 7):Q95.f K (n,x,())=rb (am x==am n.1&&x != n.1):=by
 obtain⟨b,e,h⟩:=pC K n x;simp only[Q95.f];rw[e];have r:b=(am x==am n.1):=by
  rw[BQ,h,beq_iff_eq];exact⟨λh=>h.2,λh=>⟨u,h⟩⟩
 subst r;simp only[rb,BA];cases am x==am n.1 with
 |true=>rfl
 |false=>rfl
theorem yK (K:Nat)(xs r:List ah)(R:xs.length<=1048576)(X:1048577<K):Q120.f K (xs,r,())=rb (decide (xs=r)):=by
 simp only[Q120.f,Q120.pre];by_cases z:xs.length=r.length
 case neg =>
  rw[show ((BD xs:Int) != (BD r:Int))=true by simp only[bne_iff_ne,ne_eq];omega,decide_eq_false (λe=>z (by rw[e]))];rfl
 rw[show ((BD xs:Int) != (BD r:Int))=false by rw[z];simp];simp only[cond_false];have:=cr (step:=λrec a=>Q120.s0 K (xs,r,()) rec a) xs.length (λi=>(i:Int)) (λj=>∃ h:j<xs.length,xs[j]≠r[j]'(by omega)) (rb true) (λ_=>rb false) ?_ ?_ xs.length K 0 (by omega) (by omega)
 ·rcases this with ⟨I,H⟩|⟨j,_,I,⟨O,M⟩,_,H⟩
  ·rw[decide_eq_true (List.ext_getElem z λi h _=>Classical.byContradiction λy=>I i (BO _) h ⟨h,y⟩)];exact H
  ·rw[decide_eq_false (λe=>M (by subst e;rfl))];exact H
 ·intro rec i J;have u:i<r.length:=by omega
  simp only[Q120.s0];rw[bo (by omega:(i:Int)<(BD xs:Int)),ag J,ag u,au i (by omega)];simp only[cond_true,BA];by_cases e:xs[i]=r[i]
  ·left;refine⟨λ⟨_,h⟩=>h e,?_⟩;rw[show Ty.eqv t2 xs[i] r[i]=decide (xs[i]=r[i]) from gV _ _,decide_eq_true e];rfl
  ·right;refine⟨⟨J,e⟩,?_⟩;rw[show Ty.eqv t2 xs[i] r[i]=decide (xs[i]=r[i]) from gV _ _,decide_eq_false e];rfl
 ·intro rec;simp only[Q120.s0,aS];rfl
theorem yL (K:Nat)(t:List bZ)(v:Int)(ht:t.length<=1048576)(H:Asc (λx:bZ=>x.1) t)(Z:∀ d∈t,InP d.1 0 7)(X:InP v 0 7)(hK:1048577<K) :
  ∃ m,m<=t.length/\(∀ i,(h:i<t.length)->i<m->t[i].1<v)/\(∀ i,(h:i<t.length)->m<=i->v<=t[i].1)/\Q118.f K (t,v,(λz=>(Q119.f K (z.1,z.2.1,())).map λy=>y.1.1),())=some ((((m:Nat):Int),decide (∃ h:m<t.length,t[m].1=v),()),()):=by
 let ks:Nat->Int:=λi=>if h:i<t.length then t[i].1 else 0
 have r:∀ i (h:i<t.length),ks i=t[i].1:=λi h=>by simp[ks,h]
 let I:Nat->Option ((Int×Bool×Unit)×Unit):=λm=>some ((((m:Nat):Int),decide (∃ h:m<t.length,t[m].1=v),()),())
 have O:∀ d∈t,((Q119.f K (d,v,())).map λy=>y.1.1)=some (d.1-v):=λd hd=>by
  obtain⟨a1,a2⟩:=Z d hd;obtain⟨a3,a4⟩:=X;simp only[Q119.f];rw[aK (by omega) (by omega)];rfl
 have:=pz (step:=λrec a=>Q118.s0 K (t,v,(λz=>(Q119.f K (z.1,z.2.1,())).map λy=>y.1.1),()) rec a) (ks:=ks) (n:=t.length) (t:=v) I ht
  (λi j M R=>by
   rw[r i (by omega),r j R];exact cD.1 H i j (by omega) R M) ?_ ?_ t.length K 0 t.length (by omega) (BO _) (BS _) (by omega) (λi u=>by omega) (λi u X=>by omega)
 ·obtain⟨m,Y,h2,h3,h4⟩:=this;exact⟨m,Y,λi h u=>by rw[<- r i h];exact h2 i u,λi h u=>by rw[<- r i h];exact h3 i u h,h4⟩
 ·intro rec a b a0 hb;have J:(a+b) / 2<t.length:=by omega
  simp only[Q118.s0];rw[decide_eq_true (by omega:(a:Int)<(b:Int)),nG (by omega)];simp only[cond_true];rw[ag J];simp only[BA,O _ (BI J)];rw[r _ J,au _ (by omega)];by_cases h:t[(a+b) / 2].1<v
  ·rw[if_pos h,decide_eq_true (by omega:t[(a+b) / 2].1-v<0)];rfl
  ·rw[if_neg h,decide_eq_false (by omega:¬ t[(a+b) / 2].1-v<0)];rfl
 ·intro rec a ha;simp only[Q118.s0];rw[decide_eq_false (by omega)];simp only[cond_false];by_cases h:a<t.length
  ·rw[decide_eq_true (by omega:(a:Int)<(BD t:Int)),ag h];simp only[cond_true,BA,O _ (BI h)];have:(t[a].1-v==0)=decide (∃ h:a<t.length,t[a].1=v):=by
    rw[BQ];simp only[beq_iff_eq,decide_eq_true_eq];exact⟨λe=>⟨h,by omega⟩,λ⟨_,e⟩=>by omega⟩
   rw[this]
  ·rw[decide_eq_false (by omega:¬ (a:Int)<(BD t:Int))];simp only[cond_false,I];rw[decide_eq_false (λ⟨h',_⟩=>h h')]
theorem xz {R:Type}(K:Nat)(n m:aa)(w:ak)(J:InP w.1 1 2)(O:(bG n w).length<=1048576)(I:m.1=n.1)(M:aa.coord m=aa.coord n)(X:1048577<K)(G:List ak->Option R) :
  (bif w.1==1 then G [] else ((Q120.f K (bG n w,ak.table w,())).bind λy=>bif y.1.1 then G [] else ((Q121.f K (m,6,w.2.2.1,())).bind λr=>(Q0.f K (bG n w,())).bind λH =>
   G [(2,r.1.1.2.1,r.1.1.2.2.1,r.1.1.2.2.2.1,r.1.1.2.2.2.2.1,r.1.1.2.2.2.2.2.1,r.1.1.2.2.2.2.2.2.1,H.1.1)])))=G (bif w.1==2&&decide (ak.table w≠bG n w) then [vP n w] else []):=by
 by_cases u:w.1=1
 ·rw[u];rfl
 ·have z:w.1=2:=by obtain⟨a,b⟩:=J;omega
  rw[show (w.1==1)=false by simpa using u,show (w.1==2)=true by simpa using z,yK K _ _ O X];simp only[cond_false,rb,BA,Bs];by_cases e:bG n w=ak.table w
  ·rw[decide_eq_true e,decide_eq_false (p:=ak.table w≠bG n w) (λh=>h e.symm)];rfl
  ·rw[decide_eq_false e,decide_eq_true (p:=ak.table w≠bG n w) (λh=>e h.symm)];simp only[cond_false,cond_true,Q121.f,BA,Q0.f];rw[dY (by show (bG n w).length*_<=_;omega)];simp only[BA];unfold vP;rw[I,show m.2.2.2.2.2.2.2.2.2.2.2.2.1=aa.coord n from M]
theorem sum_i (K:Nat)(n:aa)(w:ak)(hn:NB n)(h:UpN n)(hp:InP w.1 1 2)(X:aB (ak.table w))(r:lV (ak.table w))(y:1048577<K):Q122.f K (n,w,())=some (((eQ n w).2,()),((eQ n w).1,())):=by
 have Y:idx (ak.table w) 0=some (cj (ak.table w)):=by
  cases ht:ak.table w with
  |nil=>rw[ht]at r;exact r.elim
  |cons f l=>rfl
 have I:=uT (tj r X);have a0:InP (am (cj (ak.table w)).1) 0 7:=⟨I.1,B8 I.2 (by decide)⟩;have hb:mc (ak.table w) (am n.1)=(am (cj (ak.table w)).1==am n.1):=by
  rw[BQ,kH,beq_iff_eq];cases ht:ak.table w with
  |nil=>rw[ht]at r;exact r.elim
  |cons f l =>
   rw[ht]at r;exact⟨λh=>h f (by simp),λe g hg=>(r g hg).trans e⟩
 simp only[Q122.f,zcp4,zcp8];refine (congrArg (λo=>BC o _) Y).trans ?_;simp only[BA];rw[mI K (cj (ak.table w)).1,nI K n];simp only[BA];unfold eQ;rw[hb];cases am (cj (ak.table w)).1==am n.1 with
 |true =>
  simp only[cond_true];refine (congrArg (λo=>BC o _) (uL K n (ak.table w) n.1 h.learns X.1 (bY X) h.x.me y)).trans rfl
 |false =>
  simp only[cond_false];obtain⟨a1,a2,a3⟩:=kI (n:=n) h.x.others X r;refine (congrArg (λo=>BC o _) (zF K n (am (cj (ak.table w)).1) hn y)).trans ?_;simp only[BA];refine (congrArg (λo=>BC o _) (AI K (eG (aa.others n) (am (cj (ak.table w)).1)) (ak.table w) (o6 h.x.others _) X y)).trans ?_;simp only[BA];have u:=h.x.others;have H:=olen u;obtain⟨m,hm,lo,hi,hs⟩:=yL K (aa.others n) (am (cj (ak.table w)).1) H u.2 (λx hx=>⟨(u.1 x hx).1.1,B8 (u.1 x hx).1.2 (by decide)⟩) a0 y;refine (congrArg (λo=>BC o _) hs).trans ?_;simp only[BA];by_cases hf:∃ h:m<(aa.others n).length,(aa.others n)[m].1=am (cj (ak.table w)).1
  ·rw[decide_eq_true hf];obtain⟨O,e⟩:=hf;simp only[cond_true,BF];have z:idx (aa.others n) (m:Int)=some (aa.others n)[m]:=ag O;refine (congrArg (λo=>BC o _) z).trans ?_;simp only[BA];refine (congrArg (λo=>BC o _) z).trans ?_;simp only[BA];rw[e];have Z:(aa.others n).set m (am (cj (ak.table w)).1,bG n w)=bw (λx:bZ=>x.1) (am (cj (ak.table w)).1,bG n w) (aa.others n):=ik (k:=λx:bZ=>x.1) (x:=(am (cj (ak.table w)).1,bG n w)) u.2 O e;have:=xz K n (mU n ((aa.others n).set m (am (cj (ak.table w)).1,bG n w))) w hp (bY a1) rfl rfl y (λws=>some ((ws,()),(mU n ((aa.others n).set m (am (cj (ak.table w)).1,bG n w)),())));refine Eq.trans this ?_;rw[Z];rfl
  ·rw[decide_eq_false hf];simp only[cond_false];have J:Q7.f K (aa.others n,(m:Int),[(am (cj (ak.table w)).1,bG n w)],())=some (((aa.others n).take m++[(am (cj (ak.table w)).1,bG n w)]++(aa.others n).drop m,()),()):=ju hm (by decide) H;refine (congrArg (λo=>BC o _) J).trans ?_;simp only[BA];have R:(aa.others n).take m++[(am (cj (ak.table w)).1,bG n w)]++(aa.others n).drop m=bw (λx:bZ=>x.1) (am (cj (ak.table w)).1,bG n w) (aa.others n):=gq (k:=λx:bZ=>x.1) (x:=(am (cj (ak.table w)).1,bG n w)) hm lo (λj hj M=>by
    rcases Int.lt_or_eq_of_le (hi j hj M) with h|h
    ·exact h
    ·exfalso;rcases Nat.lt_or_eq_of_le M with h4|rfl
     ·have:(aa.others n)[m].1<(aa.others n)[j].1:=cD.1 u.2 m j (by omega) hj h4;have h5:=hi m (by omega) (BS _);omega
     ·exact hf ⟨hj,h.symm⟩)
   have:=xz K n (mU n ((aa.others n).take m++[(am (cj (ak.table w)).1,bG n w)]++(aa.others n).drop m)) w hp (bY a1) rfl rfl y (λws=>some ((ws,()),(mU n ((aa.others n).take m++[(am (cj (ak.table w)).1,bG n w)]++(aa.others n).drop m),())));refine Eq.trans this ?_;rw[R];rfl
theorem AX (K:Nat)(n:aa)(w:ak)(Z:NB n)(h:UpN n)(y:dK w)(M:gw n w)(z:w.2.1≠2)(I:1048577<K):Q143.f K (n,w,())=some (((bK K n w).2,()),((bK K n w).1,())):=by
 have r:=y.2.2.2.2.2.2.2.1;unfold bK;rw[if_pos ⟨y,M⟩];simp only[Q143.f,zcp4];by_cases u:w.2.1=6
 ·rw[if_pos u,show (w.2.1==6)=true by simpa using u];have O:=y.2.2.2.2.2.2.2.2;rw[if_pos u]at O;simp only[cond_true];exact (congrArg (λo=>BC o _) (sum_i K n w Z h y.1 r O I)).trans rfl
 ·rw[if_neg u,show (w.2.1==6)=false by simpa using u];obtain⟨Y,R⟩:=jV y M u;have H:=(km h M.2.1 r Y R).1;simp only[cond_false];refine (congrArg (λo=>BC o _) (uL K n (ak.table w) w.2.2.1 h.learns r.1 (bY r) R.1 I)).trans ?_;simp only[BA];generalize gM n (ak.table w) w.2.2.1=m at H ⊢;have J:=y.2.2.2.2.2.1;have X:=yJ K m w.2.2.2.2.2.1 J;rw[show (w.2.1==2)=false by simpa using z];unfold dZ;rw[show (w.2.1==2)=false by simpa using z];cases w.2.1==1 with
  |true =>
   simp only[cond_true];refine (congrArg (λo=>BC o _) X).trans ?_;simp only[rb,BA,bne];cases am w.2.2.2.2.2.1==am m.1 with
   |false=>rfl
   |true =>
    cases w.2.2.2.2.2.1==m.1 with
    |true=>rfl
    |false =>
     simp only[Bs,BY,BH,cond_true,cond_false];exact (congrArg (λo=>BC o _) (xy K m 2 w H.x.say I)).trans rfl
  |false =>
   simp only[cond_false];cases w.2.1==3 with
   |true =>
    simp only[cond_true];refine (congrArg (λo=>BC o _) X).trans ?_;simp only[rb,BA,bne];cases am w.2.2.2.2.2.1==am m.1 with
    |false=>rfl
    |true =>
     cases w.2.2.2.2.2.1==m.1 with
     |true=>rfl
     |false =>
      simp only[Bs,BY,BH,cond_true,cond_false];cases w.2.2.2.2.2.1==w.2.2.1 with
      |true=>rfl
      |false =>
       simp only[BY,cond_true,cond_false];exact (congrArg (λo=>BC o _) (xy K m 1 w H.x.say I)).trans rfl
   |false =>
    simp only[cond_false];cases w.2.1==4 with
    |true =>
     simp only[cond_true];exact (congrArg (λo=>BC o _) (zK K m 5 w.2.2.1 (bY H.x.table))).trans rfl
    |false=>rfl
theorem uo (K:Nat)(n:aa)(w:ak)(H:NB n)(Z:(ak.table w).length<=1048576)(X:w.2.1≠2)(r:1048577<K):∃ y:aa,∃ z:List ak,NB y/\z.length<=1/\(∀ x∈z,(ak.table x).length<=1048576)/\Q63.f K (n,w,())=some ((y,z,()),())/\Q148.f K (n,w,())=some ((y,z,()),()) /\
  ((fE n/\dK w/\gw n w)->y=(bK K n w).1/\z=(bK K n w).2)/\(fE n->¬ (dK w/\gw n w)->y=n/\z=[])/\(¬ fE n->z=[]):=by
 obtain⟨b,o1,o2,M⟩:=tY K n H r;simp only[Q63.f,Q148.f,Q147.f];rw[o1,o2];cases b with
 |false=>exact⟨sK,[],ub,by simp,by simp,rfl,rfl,λh=>(by have:=M.2 h.1;cases this),λh=>(by have:=M.2 h;cases this),λ_=>rfl⟩
 |true =>
  have J:=M.1 rfl;have I:n.2.1=true->UpN n:=λI=>UpN.of J I
  simp only[rb,BA,BH,cond_false];rw[mL K n H r,yj K n H r];simp only[BA];rw[xv K n w I Z r];simp only[BA,Q144.f];obtain⟨c,_,t2,t3⟩:=pV K n w H Z r;rw[t2];cases c with
  |false =>
   have u:¬ (dK w/\gw n w):=λh=>by have:=t3.2 ⟨J,h⟩;cases this
   have he:bK K n w=(n,[]):=by unfold bK;rw[if_neg u]
   rw[he];simp only;rw[mL K n H r];exact⟨n,[],H,by simp,by simp,rfl,rfl,λh=>absurd h.2 u,λ_ _=>⟨rfl,rfl⟩,λh=>absurd J h⟩
  |true =>
   obtain⟨_,hW,O⟩:=t3.1 rfl;have R:=I O.1;have Y:=qz (w:=w) R r;have h2:=md (w:=w) R r;simp only[rb,BA,BH,cond_false];rw[AX K n w H R hW O X r];simp only[BA];rw[mL K _ Y.1.nb r];refine⟨(bK K n w).1,(bK K n w).2,Y.1.nb,h2.1,λx hx=>(h2.2 x hx).2,rfl,?_,λ_=>⟨rfl,rfl⟩,λ_ u=>absurd ⟨hW,O⟩ u,λh=>absurd J h⟩;simp only[Q146.f];simp
theorem Ab {n:aa}(h:UpN n):(lv n).length<=8/\∀ x∈lv n,hM x:=by
 unfold lv;refine⟨?_,λx u=>?_⟩
 ·rw[Bw];exact BJ (By _ _) (iP h.x.table.2 λf r=>(h.x.table.1 f r).1)
 ·obtain⟨f,r,rfl⟩:=BU.1 u;exact⟨(h.x.table.1 f (BX.1 r).1).1,bY h.x.table⟩
theorem AY (K:Nat)(w:bR)(c:Nat)(h:WI w c)(hc:c<=1000000)(e:ah)(h0:InP e.2.1 0 7)(O:1048577<K):Tot (Q201.f K (w,e,())) λr=>WI r.1.1 (c+4):=by
 have a2:=h.len;have hs:=h.sides;obtain⟨a1,a0,u,keep⟩:=e;obtain⟨e0,e1⟩:=h0;simp only at e0 e1;obtain⟨i,rfl⟩:=BN e0;have R:i<w.1.length:=by omega
 have M:=h.node i R;have y:=h.mono (show c<=c+4 by omega);simp only[Q201.f];refine Tot.vl (ag R) (Tot.vl (by rw[BF];exact ag R) ?_);generalize w.1[i]=n at M ⊢;refine Tot.cnd (λ_=>?_) λ_=>Tot.cnd (λ_=>?_) λ_=>Tot.cnd (λ_=>?_) λ_=>?_
 ·
  rw[zm];simp only[BA];exact Tot.ix2 (by omega) (by omega) λ_ _ _=>Tot.ret ⟨y.len,y.node,y.radio,by show (w.2.2.1.set _ _).length=8;rw[BK];exact h.sides,y.born⟩
 ·
  simp only[Q182.f,BA];refine Tot.ix2 (by omega) (by omega) λ_ _ _=>Tot.ret (y.put (i:=i) (n:=jm n.1 n.2.2.2.1) ?_ y.radio y.born)
  exact⟨M.me,M.lt,λJ=>(by cases J),λ_=>rfl⟩
 ·
  exact Tot.cnd (λ_=>Tot.ret y) λ_=>Tot.bind (AV K w c h hc (i:Int) ⟨by omega,by omega⟩ O) λv z=>Tot.ret z
 ·refine Tot.cnd (λ_=>Tot.ret y) λJ=>Tot.cnd (λ_=>Tot.ret y) λZ=>?_
  have J:n.2.1=true:=by simpa using J
  have H:=M.up J;have set:=λ (m:aa) (X:List ak) (I:UpN m) (em:m.1=n.1) (Y:∀ x∈X,hM x) (hl:X.length<=1000)=>AU K w i m X [] c ⟨h,M.lt,M.of I em,Y,hl,BO _,hc⟩ O
  refine Tot.cnd (λ_=>?_) λ_=>Tot.cnd (λ_=>?_) λ_=>Tot.cnd (λ_=>?_) λ_=>Tot.ret y
  ·refine Tot.cnd (λ_=>Tot.ret y) λI=>?_
   have I:ch n<999999:=by have I:¬ n.2.2.2.2.2.1>=999999:=of_decide_eq_false I;show n.2.2.2.2.2.1<999999;omega
   obtain⟨t1,t2,_⟩:=qu H I;obtain⟨w1,w2⟩:=AS H I u;exact Tot.vl (AT K n u H Z I O) (Tot.bind (set _ _ t1 t2 w2 (BJ w1 (by omega))) λv z=>Tot.ret z)
  ·obtain⟨t1,t2⟩:=yC H Z;obtain⟨w1,w2⟩:=Ab t1;exact Tot.vl (zL K n H.nb H.ok J Z O) (Tot.bind (set _ _ t1 t2 w2 (BJ w1 (by omega))) λv z=>Tot.ret z)
  ·refine Tot.bind (cG K u 0 7).tot λv z=>Tot.cnd (λ_=>Tot.ret y) λh1=>Tot.cnd (λ_=>Tot.ret y) λ_=>?_
   have hd:InP u 0 7:=z.1 (by simpa using h1);rw[dk K,dk K];simp only[BA];refine Tot.cnd (λ_=>Tot.ret y) λ_=>?_
   refine Tot.vl (nM K n 4 u (bY H.x.table)) (Tot.bind (set n _ H rfl (λx hx=>?_) (by simp)) λv z=>Tot.ret z);rw[BG.1 hx];exact⟨hd,bY H.x.table⟩
theorem do_t (K:Nat)(w:bR)(c:Nat)(h:WI w c)(M:c<=1000000)(e:ah)(R:1048577<K):Tot (Q203.f K (w,e,())) λr=>WI r.1.1 (c+4):=by
 have z:=h.mono (show c<=c+4 by omega);have hr:=h.radio.1;simp only[Q203.f];rw[aK (n:=(BD w.2.1:Int)-1) (by omega) (by omega)];have u:Tot ((Q11.f K (e.2.1,0,(BD w.2.1:Int)-1,())).bind λZ=>bif !Z.1.1 then (some ((w,false,()),())) else (bif e.1==2 then ((Q179.f K (w,e.2.1,e.2.2.2,())).bind λY=>some ((Y.1.1,true,()),())) else (bif e.1==4 then ((Q180.f K (w,e.2.1,e.2.2.1,())).bind λO=>some ((O.1.1,O.1.2.1,()),())) else ((Q172.f K (w.2.1,e.2.1,())).bind λX=>some (((w.1,(X.1.1,w.2.2)),true,()),()))))) λr=>WI r.1.1 (c+4):=by
  refine Tot.bind (cG K _ _ _).tot λv y=>Tot.cnd (λ_=>Tot.ret z) λJ=>?_
  obtain⟨I,H⟩:InP e.2.1 0 ((BD w.2.1:Int)-1):=y.1 (by simpa using J);have H:e.2.1<(w.2.1.length:Int):=by omega
  refine Tot.cnd (λ_=>Tot.bind (z8 K w c h M e.2.1 e.2.2.2 I H R) λv y=>Tot.ret y) λ_=>Tot.cnd (λ_=>Tot.bind (z9 K w c h e.2.1 e.2.2.1 I H) λv y=>Tot.ret (WI.mono y (by omega))) λ_=>?_
  exact Tot.bind (ri K w.2.1 e.2.1 I H h.radio) λv y=>Tot.ret ⟨z.len,z.node,y,z.sides,z.born⟩
 refine Tot.cnd (λ_=>u) λ_=>Tot.cnd (λ_=>u) λ_=>Tot.cnd (λ_=>u) λ_=>?_
 exact Tot.bind (cG K _ _ _).tot λv y=>Tot.cnd (λ_=>Tot.ret z) λJ=>Tot.bind (AY K w c h M e (y.1 (by simpa using J)) R) λv y=>Tot.ret y
theorem yM (K:Nat)(w:bR)(O:w.1.length<=1048576)(I:∀ n∈w.1,NB n)(Y:w.2.1.length<=1048576)(R:w.2.2.1.length<=1048576)(X:w.2.2.2.length<=1048576)(M:1048577<K):Q204.f K (w,())=some ((w,()),()):=by
 simp only[Q204.f,Q204.pre];rw[szb _ _ _ (by omega) (by show (BD ([]:List lx))+w.2.1.length<=_;simp;omega)];simp only[cond_true];rw[szb _ _ _ (by omega) (by show (BD ([]:List Int))+w.2.2.1.length<=_;simp;omega)];simp only[cond_true];rw[szb _ _ _ (by omega) (by show (BD ([]:List ah))+w.2.2.2.length<=_;simp;omega)];simp only[cond_true];have:∀ (d i k:Nat),i+d=w.1.length->d<k->af (λrec a=>Q204.s0 K (w,()) rec a) k ((i:Int),w.1.take i)=some ((w,()),()):=by
  intro d;induction d with
  |zero =>
   intro i k y H;obtain⟨k,rfl⟩:∃ u,k=u+1:=⟨k-1,by omega⟩;have:i=w.1.length:=by omega
   subst this;show Q204.s0 K (w,()) _ _=_;simp only[Q204.s0,aS,Bt];rfl
  |succ d z =>
   intro i k y H;obtain⟨k,rfl⟩:∃ u,k=u+1:=⟨k-1,by omega⟩;have r:i<w.1.length:=by omega
   show Q204.s0 K (w,()) _ _=_;simp only[Q204.s0];rw[bo (by omega:(i:Int)<(BD w.1:Int)),ag r,au i (by omega)];simp only[cond_true,BA];refine (congrArg (λo=>BC o _) (mL K w.1[i] (I _ (BI r)) M)).trans ?_;simp only[BA];have J:decide (((w.1.take i).length+[w.1[i]].length)*232<=ao)=true:=decide_eq_true (by
    rw[BV];simp only[CB,Bx,ao];omega)
   refine (congrArg (λb=>bif b then _ else _) J).trans ?_;have e:w.1.take i++[w.1[i]]=w.1.take (i+1):=by rw[List.take_add_one,List.getElem?_eq_getElem r];rfl
   rw[<- z (i+1) k (by omega) (by omega),<- e];rfl
 exact this w.1.length 0 K (by omega) (by omega)
theorem WI.copy {w:bR}{c:Nat}(h:WI w c)(J:c<=1000000)(K:Nat)(y:1048577<K):Q204.f K (w,())=some ((w,()),()):=by
 have I:=h.len;have M:=h.radio.1;have z:=h.sides;have H:=h.born;refine yM K w (by omega) (λn u=>?_) (by omega) (by omega) (by omega) y;obtain⟨i,r,rfl⟩:=BW u;exact (h.node i r).nb
theorem AZ (K:Nat)(w:bR)(c:Nat)(y:List ah)(h:WI w c)(hl:y.length<=1000)(Z:c<=900000)(O:1048577<K):Tot (Q205.f K (w,y,())) λr=>WI r.1.1 (c+4*y.length)/\r.2.1=y:=by
 simp only[Q205.f,Q205.pre];refine Tot.iter (step:=λrec a=>Q205.s0 K (w,y,()) rec a) (λa=>0<=a.1/\a.1<=y.length/\WI a.2 (c+4*a.1.toNat)) (λa=>y.length-a.1.toNat) ?_ K _ (by show y.length-BE 0<K;omega) ⟨by show (0:Int)<=0;omega,by show (0:Int)<=_;omega,h⟩;rintro rec ⟨i,v⟩ ⟨J,X,H⟩ M;simp only at J X H M ⊢;simp only[Q205.s0];refine Tot.cnd (λz=>?_) λ_=>Tot.ret ⟨WI.mono H (by omega),rfl⟩
 have z:i<(y.length:Int):=of_decide_eq_true z;rw[aK (n:=i+1) (by omega) (by omega)];refine Tot.vl (H.copy (by omega) K O) (Tot.ix2 J z λe _ _=>Tot.bind (do_t K v _ H (by omega) e O) ?_);rintro⟨⟨v',ok,⟨⟩⟩,⟨⟩⟩ I;have I:WI v' (c+4*i.toNat+4):=I;have R:∀ u:bR,WI u (c+4*i.toNat+4)->Tot (rec (i+1,u)) λr=>WI r.1.1 (c+4*y.length)/\r.2.1=y:=λu Y=>M (i+1,u) ⟨by show 0<=i+1;omega,by show i+1<=_;omega,Y.mono (by show _<=c+4*(i+1).toNat;omega)⟩ (by show y.length-BE (i+1)<y.length-BE i;omega)
 exact Tot.cnd (λ_=>R v' I) λ_=>R v (H.mono (by omega))
theorem vS (K:Nat)(hK:1048577<K):Tot (Q154.f K ()) λr=>WI r.1.1 8:=by
 simp only[Q154.f,Q154.pre];refine Tot.iter (step:=λrec a=>Q154.s0 K () rec a) (λa=>0<=a.1/\a.1<=8/\a.2.1.length=a.1.toNat/\(∀ (j:Nat) (y:j<a.2.1.length),ei j a.2.1[j])/\a.2.2.1.length=a.1.toNat/\a.2.2.2.length=a.1.toNat) (λa=>8-a.1.toNat) ?_ K _ (by show 8-BE 0<K;omega) ⟨by show (0:Int)<=0;omega,by show (0:Int)<=8;omega,rfl,λj y=>(by cases y),rfl,rfl⟩;rintro rec ⟨i,z,O,X⟩ ⟨H,Y,h2,I,h4,h5⟩ R;simp only at H Y h2 I h4 h5 R ⊢;simp only[Q154.s0];refine Tot.cnd (λu=>?_) λu=>?_
 ·have u:i<=7:=of_decide_eq_true u;rw[aK (n:=i+1) (by omega) (by omega)];simp only[Q153.f,BA];refine Tot.vl (rl K i _ ⟨H,u⟩) (Tot.fit (Tot.fit (Tot.vl (show idx (mf i (decide (Bq i 4<3))).2.2.2.2.2.2.2.2.1 0=some (i,0,1,decide (Bq i 4<3)) from rfl) (Tot.fit (R _ ⟨by show 0<=i+1;omega,by show i+1<=8;omega,?_,λj y=>?_,?_,?_⟩ (by show 8-BE (i+1)<8-BE i;omega)) (by omega) ?_)) (by omega) ?_) (by omega) ?_)
  ·show (z++[mf i _]).length=(i+1).toNat;simp;omega
  ·show ei j ((z++[mf i (decide (Bq i 4<3))])[j]'y);rw[List.getElem_append];split
   ·exact I j _
   ·rename_i J;have y:j<(z++[mf i (decide (Bq i 4<3))]).length:=y;have M:j=i.toNat:=by simp at y;omega
    subst M;have:=ei.new i.toNat (decide (Bq i 4<3)) (by omega);rw[B3 H]at this;simpa using this
  ·show (O++[0]).length=(i+1).toNat;simp;omega
  ·show (X++[_]).length=(i+1).toNat;simp;omega
  ·simp;omega
  ·simp;omega
  ·simp;omega
 ·have J:=of_decide_eq_false u;refine Tot.ret ⟨?_,I,⟨BO _,λf Z=>(nomatch Z)⟩,?_,?_⟩
  ·show z.length=8;omega
  ·show O.length=8;omega
  ·show X.length<=8;omega
abbrev LtP (v n:Int):Prop:=0<=v/\v<n
def bc (b:List Int)(m:Nat)(s:List Int×Int):Prop:=∃ q:Nat,q<=m/\s=(b,(q:Int))
theorem bc.up {b:List Int}{m:Nat}{s:List Int×Int}(h:bc b m s){m':Nat}(u:m<=m'):bc b m' s:=by obtain⟨q,y,r⟩:=h;exact⟨q,by omega,r⟩
section
variable {K:Nat} {b:List Int} {m:Nat} {s:List Int×Int}
theorem aA (h:fG b)(y:bc b m s)(n:Int)(H:1<=n)(I:m<=99000):Tot (Q150.f K (s,n,())) λr=>LtP r.1.1 n/\bc b (m+1) r.2.1:=by
 obtain⟨q,J,rfl⟩:=y;obtain⟨v,e,z,u⟩:=zQ K b q n h (by omega) H;exact⟨_,e,⟨z,u⟩,q+1,by omega,rfl⟩
theorem Ba (r:List Int)(u:∀ y∈r,0<=y/\y<=255)(I:r.length<=9223372036854775807):∃ z:List Int,fG z/\Q149.f K (r,())=some (((z,(0:Int)),()),()):=by
 simp only[Q149.f];by_cases h:(r.length:Int)>2000
 ·rw[decide_eq_true h,decide_eq_true (by omega:(2000:Int)<=(r.length:Int))];exact⟨(r.take 2000).drop 0,⟨λy H=>u y (BT (by simpa using H)),by simp;omega⟩,rfl⟩
 ·rw[decide_eq_false h];exact⟨r,⟨u,by omega⟩,rfl⟩
theorem xA (h:fG b)(hs:bc b m s)(u:Int)(h0:0<=u)(h1:u<=1)(hm:m<=98000):Tot (Q210.f K (s,u,())) λr=>(bm r.1.1/\am r.1.1.1=u)/\bc b (m+5) r.2.1:=by
 simp only[Q210.f];refine Tot.bind (aA h hs 4 (by decide) (by omega)) λz ⟨⟨a1,b1⟩,X⟩=>Tot.bind (aA h X 3 (by decide) (by omega)) λv2 ⟨⟨a2,b2⟩,Y⟩=>Tot.bind (aA h Y 12 (by decide) (by omega)) λv3 ⟨⟨a3,b3⟩,M⟩=>Tot.bind (aA h M 3 (by decide) (by omega)) λv4 ⟨⟨Z,R⟩,J⟩=>Tot.ix2 Z R λy H _=>Tot.bind (aA h J 4 (by decide) (by omega)) λI ⟨⟨a5,b5⟩,O⟩=>?_
 simp only[Q153.f,BA];have H:InP y 0 999:=by
  simp only[CF,CC,or_false]at H;rcases H with rfl|rfl|rfl <;> constructor <;> omega
 rw[aK (n:=u*4) (by omega) (by omega),aK (n:=u*4+z.1.1) (by omega) (by omega),aK (n:=1+I.1.1) (by omega) (by omega)];refine Tot.ret ⟨⟨⟨⟨?_,?_⟩,H,?_,?_⟩,?_⟩,O⟩
 ·show (0:Int)<=u*4+z.1.1;omega
 ·show u*4+z.1.1<=7;omega
 ·show (1:Int)<=1+I.1.1;omega
 ·show (1:Int)+I.1.1<=4;omega
 ·show am (u*4+z.1.1)=u;rw[fH ⟨by omega,by omega⟩];omega
theorem mV (h:fG b)(Y:bc b m s)(hm:m<=97000):Tot (Q212.f K (s,())) λr=>bc b (m+8) r.2.1:=by
 simp only[Q212.f];refine Tot.bind (aA h Y 2 (by decide) (by omega)) λI ⟨⟨Z,b1⟩,O⟩=>Tot.bind (xA h O I.1.1 Z (by omega) (by omega)) λf ⟨_,X⟩=>Tot.bind (aA h X 12 (by decide) (by omega)) λR ⟨_,H⟩=>?_
 have u:∀ {x y:Int} {G:(Int×Unit)×(List Int×Int)×Unit->Int->Option ((ah×Unit)×(List Int×Int)×Unit)},(∀ v z,Tot (G v z) λr=>r.2.1=v.2.1)->Tot ((Q150.f K (R.2.1,2,())).bind λv=>(idx [x,y] v.1.1).bind λ_=>(idx [x,y] (BE v.1.1:Nat)).bind (G v)) λr=>bc b (m+8) r.2.1:=λJ=>Tot.bind (aA h H 2 (by decide) (by omega)) λv ⟨⟨a,b⟩,M⟩=>Tot.ix2 a b λz _ _=>(J v z).mono λr e=>by rw[e];exact M.up (by omega)
 refine Tot.cnd (λ_=>u λ_ _=>Tot.ret rfl) λ_=>Tot.cnd (λ_=>u λ_ _=>Tot.ret rfl) λ_=>Tot.cnd (λ_=>u λ_ _=>Tot.ret rfl) λ_=>Tot.cnd (λ_=>Tot.ret (H.up (by omega))) λ_=>Tot.ret (H.up (by omega))
theorem xB (t:List ah)(f:ah):(bS t f).1.length<=t.length+1:=by
 rcases gW t f with e|e
 ·rw[e];omega
 ·rw[e];exact yh
theorem vT {t:List ah}{f:ah}{z:Int}(h:cd t z)(u:am f.1=z):cd (bS t f).1 z:=by
 rcases gW t f with e|e <;> rw[e]
 ·exact h
 ·intro g r;rcases aZ.1 r with rfl|⟨r,_⟩
  ·exact u
  ·exact h g r
theorem nQ (h:fG b)(hs:bc b m s)(u:Int)(h0:-1<=u)(h1:u<=1)(hm:m<=96000)(hK:1048577<K):Tot (Q211.f K (s,u,())) λr=>(aB r.1.1/\(0<=u->cd r.1.1 u)/\r.1.1.length<=5)/\bc b (m+31) r.2.1:=by
 simp only[Q211.f,Q211.pre];refine Tot.bind (aA h hs 6 (by decide) (by omega)) λv ⟨⟨v0,v1⟩,s1⟩=>?_
 refine Tot.iter (step:=λrec a=>Q211.s0 K (s,u,()) rec a) (λa=>∃ q:Nat,0<=a.2.1/\aB a.1/\(0<=u->cd a.1 u)/\(a.1.length:Int)+a.2.1<=5/\bc b q a.2.2/\q+6*a.2.1.toNat<=m+31) (λa=>a.2.1.toNat) ?_ K _ (by show v.1.1.toNat<K;omega) ⟨m+1,v0,⟨by simp,List.Pairwise.nil⟩,λ_ f R=>(nomatch R),by show ((0:Nat):Int)+v.1.1<=5;omega,s1,by show m+1+6*v.1.1.toNat<=m+31;omega⟩;rintro rec ⟨t,n,s2⟩ ⟨q,n0,O,Y,hl,I,hq⟩ ih;simp only at n0 O Y hl I hq ih ⊢;simp only[Q211.s0];refine Tot.cnd (λhn=>?_) λ_=>Tot.ret ⟨⟨O,Y,by show t.length<=5;omega⟩,I.up (by omega)⟩
 have hn:n>0:=of_decide_eq_true hn;rw[aK (n:=n-1) (by omega) (by omega)];have go:∀ (z:Int) (M:Nat) (J:List Int×Int),0<=z->z<=1->(0<=u->z=u)->bc b M J->M<=q+1->Tot ((Q210.f K (J,z,())).bind λZ=>(Q36.f K (t,Z.1.1,())).bind λy4=>rec (y4.1.1,n-1,Z.2.1.1,Z.2.1.2)) λr=>(aB r.1.1/\(0<=u->cd r.1.1 u)/\r.1.1.length<=5)/\bc b (m+31) r.2.1:=λz M J z0 z1 hz X a2=>by
  refine Tot.bind (xA h X z z0 z1 (by omega)) λy ⟨⟨R,a0⟩,a1⟩=>Tot.vl (vG K t y.1.1 (by omega) O.2 hK) (ih (_,_,y.2.1) ⟨M+5,by show 0<=n-1;omega,ki O R,λh9=>vT (Y h9) (by rw[a0];exact hz h9),?_,a1,by show M+5+6*(n-1).toNat<=m+31;omega⟩ (by show (n-1).toNat<n.toNat;omega))
  have:=xB t y.1.1;show ((bS t y.1.1).1.length:Int)+(n-1)<=5;omega
 refine Tot.cnd (λH=>?_) λH=>?_
 ·have H:u<0:=of_decide_eq_true H;exact Tot.bind (aA h I 2 (by decide) (by omega)) λv ⟨⟨a,b⟩,J⟩=>go v.1.1 (q+1) v.2.1 a (by omega) (λh9=>by omega) J (BS _)
 ·have H:¬ u<0:=of_decide_eq_false H;exact go u q s2 (by omega) h1 (λ_=>rfl) I (by omega)
theorem pW (h:fG b)(X:bc b m s)(hm:m<=95000)(Y:1048577<K):Tot (Q213.f K (s,())) λr=>r.1.1.length<=6/\bc b (m+42) r.2.1:=by
 simp only[Q213.f];refine Tot.bind (nQ h X (-1) (by decide) (by decide) (by omega) Y) λt ⟨⟨hT,_,hl⟩,J⟩=>?_
 refine Tot.cnd (λI=>?_) λ_=>Tot.ret ⟨by show t.1.1.length<=6;omega,J.up (by omega)⟩
 have I:(t.1.1.length:Int)>0:=of_decide_eq_true I;refine Tot.bind (aA h J 12 (by decide) (by omega)) λZ ⟨_,M⟩=>Tot.cnd (λ_=>?_) λ_=>Tot.ret ⟨by show t.1.1.length<=6;omega,M.up (by omega)⟩
 refine Tot.bind (aA h M (t.1.1.length:Int) (by omega) (by omega)) λv3 ⟨⟨H,z⟩,O⟩=>Tot.bind (aA h O 3 (by decide) (by omega)) λv4 ⟨_,u⟩=>?_
 refine Tot.cnd (λ_=>Tot.bind (mV h u (by omega)) λf R=>Tot.ix2 H z λ_ _ _=>Tot.ret ⟨by show (t.1.1.set _ _).length<=6;rw[BK];omega,R.up (by omega)⟩) λ_=>?_
 refine Tot.cnd (λ_=>Tot.ix2 H z λy _ _=>Tot.fit (Tot.ret ⟨by show (t.1.1++[y]).length<=6;simp;omega,u.up (by omega)⟩) (by omega) (by simp;omega)) λ_=>Tot.ix2 H z λy _ _=>Tot.ret ⟨by show (t.1.1.set _ _).length<=6;rw[BK];omega,u.up (by omega)⟩
theorem Ac (h:fG b)(hs:bc b m s)(u:Int)(X:-1<=u)(R:u<=1)(hm:m<=95000)(hK:1048577<K):Tot (Q214.f K (s,u,())) λr=>r.1.1.length<=5/\bc b (m+36) r.2.1:=by
 simp only[Q214.f,Q214.pre];refine Tot.bind (nQ h hs u X R (by omega) hK) λt ⟨⟨hT,_,hl⟩,Z⟩=>?_
 refine Tot.iter (step:=λrec a=>Q214.s0 K (s,u,()) rec a) (λa=>a.2.1=t.1.1/\0<=a.2.2.1/\a.2.2.1<=t.1.1.length/\(a.1.length:Int)=a.2.2.1/\bc b (m+31+a.2.2.1.toNat) a.2.2.2) (λa=>t.1.1.length-a.2.2.1.toNat) ?_ K _ (by show t.1.1.length-BE 0<K;omega) ⟨rfl,by show (0:Int)<=0;omega,by show (0:Int)<=_;omega,rfl,Z⟩;rintro rec ⟨H,t',i,s2⟩ ⟨e,O,i1,I,z⟩ M;simp only at e O i1 I z M ⊢;subst e;simp only[Q214.s0];refine Tot.cnd (λJ=>?_) λ_=>Tot.ret ⟨by show H.length<=5;omega,z.up (by omega)⟩
 have J:i<(t.1.1.length:Int):=of_decide_eq_true J;rw[aK (n:=i+1) (by omega) (by omega)];refine Tot.ix2 O J λy _ _=>Tot.bind (aA h z 4 (by decide) (by omega)) λv ⟨_,Y⟩=>Tot.fit (M (_,_,_,v.2.1) ⟨rfl,by show 0<=i+1;omega,by show i+1<=_;omega,?_,Y.up (by show _<=m+31+(i+1).toNat;omega)⟩ (by show t.1.1.length-(i+1).toNat<t.1.1.length-i.toNat;omega)) (by omega) (by simp;omega)
 show ((H++[_]).length:Int)=i+1;simp;omega
theorem vU (h:fG b)(Y:bc b m s)(hm:m<=94000)(hK:1048577<K):Tot (Q215.f K (s,())) λr=>r.1.1.length<=6/\bc b (m+50) r.2.1:=by
 simp only[Q215.f];refine Tot.bind (Ac h Y (-1) (by decide) (by decide) (by omega) hK) λt ⟨hl,M⟩=>?_
 refine Tot.cnd (λJ=>?_) λ_=>Tot.ret ⟨by show t.1.1.length<=6;omega,M.up (by omega)⟩
 have J:(t.1.1.length:Int)>0:=of_decide_eq_true J;refine Tot.bind (aA h M 10 (by decide) (by omega)) λv2 ⟨_,O⟩=>Tot.cnd (λ_=>?_) λ_=>Tot.ret ⟨by show t.1.1.length<=6;omega,O.up (by omega)⟩
 refine Tot.bind (aA h O (t.1.1.length:Int) (by omega) (by omega)) λv3 ⟨⟨H,z⟩,R⟩=>Tot.bind (aA h R 3 (by decide) (by omega)) λv4 ⟨_,u⟩=>?_
 refine Tot.cnd (λ_=>Tot.bind (aA h u 2 (by decide) (by omega)) λv5 ⟨⟨Z,X⟩,I⟩=>Tot.ix2 Z X λ_ _ _=>Tot.ix2 H z λ_ _ _=>Tot.ret ⟨by show (t.1.1.set _ _).length<=6;rw[BK];omega,I.up (by omega)⟩) λ_=>?_
 refine Tot.cnd (λ_=>Tot.bind (mV h u (by omega)) λf I=>Tot.ix2 H z λ_ _ _=>Tot.ret ⟨by show (t.1.1.set _ _).length<=6;rw[BK];omega,I.up (by omega)⟩) λ_=>?_
 exact Tot.ix2 H z λy _ _=>Tot.fit (Tot.ret ⟨by show (t.1.1++[y]).length<=6;simp;omega,u.up (by omega)⟩) (by omega) (by simp;omega)
theorem rm (h:fG b)(X:bc b m s)(hm:m<=95000):Tot (Q216.f K (s,())) λr=>bc b (m+6) r.2.1:=by
 simp only[Q216.f,Q151.f];refine Tot.bind (aA h X 6 (by decide) (by omega)) λZ ⟨_,z⟩=>Tot.cnd (λ_=>Tot.ret (z.up (by omega))) λ_=>Tot.bind (aA h z 3 (by decide) (by omega)) λv3 ⟨⟨J,H⟩,I⟩=>Tot.ix2 J H λy u _=>?_
 have u:InP y 10 100000:=by
  simp only[CF,CC,or_false]at u;rcases u with rfl|rfl|rfl <;> constructor <;> omega
 rw[aK (n:=2*y) (by omega) (by omega),aK (n:=2*y+1) (by omega) (by omega),aK (n:=y+1) (by omega) (by omega)];exact Tot.bind (aA h I _ (by omega) (by omega)) λv6 ⟨_,O⟩=>Tot.bind (aA h O _ (by omega) (by omega)) λv7 ⟨_,R⟩=>Tot.bind (aA h R _ (by omega) (by omega)) λv8 ⟨_,Y⟩=>Tot.bind (aA h Y _ (by decide) (by omega)) λv9 ⟨_,M⟩=>Tot.ret M
theorem mg (h:fG b)(z:bc b m s)(J:m<=94000):Tot (Q217.f K (s,())) λr=>bc b (m+8) r.2.1:=by
 simp only[Q217.f];exact Tot.bind (rm h z (by omega)) λc H=>Tot.bind (aA h H 16 (by decide) (by omega)) λI ⟨_,y⟩=>Tot.cnd (λ_=>Tot.bind (aA h y 3 (by decide) (by omega)) λv ⟨⟨a,b⟩,u⟩=>Tot.ix2 a b λ_ _ _=>Tot.ret u) λ_=>Tot.cnd (λ_=>Tot.bind (aA h y 2 (by decide) (by omega)) λv ⟨⟨a,b⟩,u⟩=>Tot.ix2 a b λ_ _ _=>Tot.ret u) λ_=>Tot.cnd (λ_=>Tot.bind (aA h y 2 (by decide) (by omega)) λv ⟨⟨a,b⟩,u⟩=>Tot.ix2 a b λ_ _ _=>Tot.ret u) λ_=>Tot.ret (y.up (by omega))
theorem xC (h:fG b)(y:bc b m s)(w:bR)(J:m<=95000):Tot (Q206.f K (s,w,())) λr=>bc b (m+2) r.2.1:=by
 simp only[Q206.f];refine Tot.cnd (λ_=>Tot.ret (y.up (by omega))) λz=>?_
 have z:¬ (w.2.1.length:Int)=0:=by simpa using z
 refine Tot.bind (aA h y 3 (by decide) (by omega)) λI ⟨_,H⟩=>Tot.cnd (λ_=>Tot.cnd (λ_=>Tot.bind (aA h H 4 (by decide) (by omega)) λv ⟨_,u⟩=>Tot.ret u) λ_=>?_) λ_=>?_ <;>
 exact Tot.bind (aA h H _ (by show (1:Int)<=(w.2.1.length:Int);omega) (by omega)) λv ⟨_,u⟩=>Tot.ret u
theorem Ad (h:fG b)(hs:bc b m s)(w:bR)(hm:m<=94000):Tot (Q207.f K (s,w,())) λr=>bc b (m+8) r.2.1:=by
 simp only[Q207.f];refine Tot.bind (aA h hs 8 (by decide) (by omega)) λv1 ⟨_,s1⟩=>Tot.bind (aA h s1 256 (by decide) (by omega)) λv2 ⟨_,s2⟩=>Tot.bind (aA h s2 16 (by decide) (by omega)) λv3 ⟨_,Z⟩=>Tot.bind (aA h Z 40 (by decide) (by omega)) λR ⟨_,y⟩=>?_
 have y:bc b (m+4) R.2.1:=y.up (by omega);generalize R.2.1=z at y ⊢;have Y:bc b (m+8) z:=y.up (by omega);have M:=xC (K:=K) h y w (by omega);have O:∀ n:Int,1<=n->Tot (Q150.f K (z,n,())) λr=>bc b (m+8) r.2.1:=λn J=>(aA h y n J (by omega)).mono λr I=>I.2.up (by omega)
 have pp:∀ (H:List Int×Int) (n:Int),bc b (m+4+2) H->1<=n->Tot (Q150.f K (H,n,())) λr=>bc b (m+8) r.2.1:=λH n X J=>(aA h X n J (by omega)).mono λr I=>I.2.up (by omega)
 repeat' first
  |exact Tot.ret Y
  |exact Tot.bind M λv u=>Tot.ret (bc.up u (by omega))
  |exact Tot.bind M λv u=>Tot.bind (pp _ _ u (by decide)) λv u=>Tot.ret u
  |exact Tot.bind (O _ (by decide)) λv u=>Tot.ret u
  |exact Tot.bind (O _ (by decide)) λv u=>Tot.cnd (λ_=>Tot.ret u) λ_=>Tot.ret u
  |refine Tot.cnd (λ_=>?_) λ_=>?_
theorem Ae (h:fG b)(hs:bc b m s)(y:Int)(h1:1<=y)(h2:y<=200)(hm:m<=90000)(hK:1048577<K):Tot (Q208.f K (s,y,())) λr=>(WI r.1.2.1 2000/\r.1.1.length<=300)/\bc b (m+8*y.toNat+2) r.2.1:=by
 simp only[Q208.f,Q208.pre];have O:∀ (H:List ah) (n:Int) (z:List Int×Int) (w:bR) (q c:Nat),0<=n->n<y->H.length<=24->bc b q z->q<=m+2->WI w c->c<=200->Tot (Q208.l1 K (s,y,()) (H,n,z.1,z.2,w)) λr=>(WI r.1.2.1 2000/\r.1.1.length<=300)/\bc b (m+8*y.toNat+2) r.2.1:=λH n z w q c n0 n1 X M hq I hc=>by
  refine Tot.iter (step:=λrec a=>Q208.s1 K (s,y,()) rec a) (λa=>∃ q c:Nat,0<=a.2.1/\a.2.1<y/\(a.1.length:Int)+a.2.1<=24+y/\bc b q (a.2.2.1,a.2.2.2.1)/\q+8*a.2.1.toNat<=m+8*y.toNat+2/\WI a.2.2.2.2 c/\c+4*a.2.1.toNat<=2000) (λa=>a.2.1.toNat) ?_ K _ (by show n.toNat<K;omega) ⟨q,c,n0,n1,by show (H.length:Int)+n<=_;omega,M,by show q+8*n.toNat<=_;omega,I,by show c+4*n.toNat<=2000;omega⟩;clear M hq I hc n0 n1 X;rintro rec ⟨H,n,z1,z2,w⟩ ⟨q,c,n0,n1,X,M,hq,I,hc⟩ R;simp only at n0 n1 X M hq I hc R ⊢;simp only[Q208.s1];refine Tot.cnd (λhn=>?_) λ_=>Tot.vl (I.copy (by omega) K hK) (Tot.ret ⟨⟨I.mono (by omega),by show H.length<=300;omega⟩,M.up (by omega)⟩)
  have hn:n>0:=of_decide_eq_true hn;rw[aK (n:=n-1) (by omega) (by omega)];refine Tot.bind (Ad h M w (by omega)) λe he=>Tot.fit (Tot.vl (I.copy (by omega) K hK) (Tot.bind (do_t K w c I (by omega) e.1.1 hK) ?_)) (by omega) (by simp;omega)
  rintro⟨⟨v',ok,⟨⟩⟩,⟨⟩⟩ hv;have Y:∀ u:bR,WI u (c+4)->Tot (rec (H++[e.1.1],n-1,e.2.1.1,e.2.1.2,u)) λr=>(WI r.1.2.1 2000/\r.1.1.length<=300)/\bc b (m+8*y.toNat+2) r.2.1:=λu hu=>R _ ⟨q+8,c+4,by show 0<=n-1;omega,by show n-1<y;omega,by show ((H++[e.1.1]).length:Int)+(n-1)<=_;simp;omega,he,by show q+8+8*(n-1).toNat<=_;omega,hu,by show c+4+4*(n-1).toNat<=2000;omega⟩ (by show (n-1).toNat<n.toNat;omega)
  exact Tot.cnd (λ_=>Y v' hv) λ_=>Y w (I.mono (by omega))
 refine Tot.bind (vS K hK) λw0 Z=>Tot.bind (aA h hs 3 (by decide) (by omega)) λv2 ⟨_,s2⟩=>Tot.cnd (λ_=>?_) λ_=>Tot.bind (aA h s2 y h1 (by omega)) λv9 ⟨⟨a9,b9⟩,s9⟩=>O [] v9.1.1 v9.2.1 w0.1.1 (m+2) 8 a9 b9 (by simp) s9 (BS _) Z (by omega)
 refine Tot.iter (step:=λrec a=>Q208.s0 K (s,y,()) (Q208.l1 K (s,y,())) rec a) (λa=>0<=a.2.1/\a.2.1<=8/\(a.1.length:Int)<=3*a.2.1/\bc b (m+1) (a.2.2.1,a.2.2.2.1)/\WI a.2.2.2.2 8) (λa=>8-a.2.1.toNat) ?_ K _ (by show 8-BE 0<K;omega) ⟨by show (0:Int)<=0;omega,by show (0:Int)<=8;omega,by show ((0:Nat):Int)<=3*0;omega,s2,Z⟩;rintro rec ⟨H,i,z1,z2,w⟩ ⟨i0,i1,X,M,I⟩ R;simp only at i0 i1 X M I R ⊢;simp only[Q208.s0];refine Tot.cnd (λhi=>?_) λ_=>?_
 ·have hi:i<=7:=of_decide_eq_true hi;rw[aK (n:=i+1) (by omega) (by omega)];have Y:∀ J:List ah,(J.length:Int)<=3*(i+1)->Tot (rec (J,i+1,z1,z2,w)) λr=>(WI r.1.2.1 2000/\r.1.1.length<=300)/\bc b (m+8*y.toNat+2) r.2.1:=λJ a0=>R _ ⟨by show 0<=i+1;omega,by show i+1<=8;omega,a0,M,I⟩ (by show 8-(i+1).toNat<8-i.toNat;omega)
  exact Tot.cnd (λ_=>Tot.fit (Tot.fit (Y _ (by simp;omega)) (by omega) (by simp;omega)) (by omega) (by simp;omega)) λ_=>Y H (by omega)
 ·refine Tot.bind (AZ K w 8 H I (by omega) (by omega) hK) λv ⟨hv,ev⟩=>Tot.bind (aA h M y h1 (by omega)) λv4 ⟨⟨a4,b4⟩,s4⟩=>?_
  exact O v.2.1 v4.1.1 v4.2.1 v.1.1 (m+1+1) _ a4 b4 (by rw[ev];omega) s4 (by omega) hv (by omega)
theorem Af (h:fG b)(z:bc b m s)(y:m<=90000)(H:1048577<K):Tot (Q209.f K (s,())) λr=>WI r.1.1 2000/\bc b (m+802) r.2.1:=by
 simp only[Q209.f];exact Tot.bind (Ae h z 100 (by decide) (by decide) y H) λv u=>Tot.ret ⟨u.1.1,u.2⟩
structure NS (c:Nat) (n:aa):Prop where
 nb:NB n
 table:(aa.table n).length<=c
 cast:(aa.cast n).length<=c
 doubts:(aa.doubts n).length<=c
 places:(aa.places n).length<=c
 others:(aa.others n).length<=c
theorem ei.ns {i:Nat}{n:aa}(h:ei i n):NS 8 n:=by
 cases y:n.2.1 with
 |true =>
  have r:=h.up y;refine⟨h.nb,by have:=h.short;omega,by have:=clen r.x.say;omega,?_,?_,?_⟩
  ·exact BJ (iP r.x.say.asc r.x.say.inp) (by decide)
  ·exact BJ (iP r.x.places.2 λx u=>(r.x.places.1 x u).1) (by decide)
  ·exact BJ (iP r.x.others.2 λx u=>⟨(r.x.others.1 x u).1.1,B8 (r.x.others.1 x u).1.2 (by decide)⟩) (by decide)
 |false =>
  have e:=h.down y;refine⟨h.nb,?_,?_,?_,?_,?_⟩ <;> rw[e] <;> exact BO _
theorem xD (h:fG b)(hs:bc b m s)(n:aa){c:Nat}(hn:NS c n)(h8:8<=c)(hc:c<=1000)(hm:m<=90000)(hK:1048577<K):Tot (Q218.f K (s,n,())) λr=>NS (c+1) r.1.1/\bc b (m+60) r.2.1:=by
 simp only[Q218.f,zcp4,zcp8];rw[mL K n hn.nb hK];simp only[BA];obtain⟨⟨n1,n2,Z,M,n5,R,n7,X⟩,l1,l2,l3,l4,Y⟩:=hn;refine Tot.bind (aA h hs 12 (by decide) (by omega)) λv2 ⟨_,I⟩=>?_
 have y:∀ (n':aa) (z:List Int×Int),n'.2.2.2.2.2.2.2.2=n.2.2.2.2.2.2.2.2->bc b (m+60) z->NS (c+1) n'/\bc b (m+60) z:=λn' z e hz=>by
  refine⟨⟨⟨?_,?_,?_,?_,?_,?_,?_,?_⟩,?_,?_,?_,?_,?_⟩,hz⟩ <;> simp only[aa.table,aa.cast,aa.doubts,aa.places,aa.others] <;> rw[e] <;> first|assumption|(refine BJ ?_ (Bz c);assumption)
 have u2:bc b (m+60) v2.2.1:=I.up (by omega);refine Tot.cnd (λ_=>Tot.bind (pW h I (by omega) hK) λt ⟨tl,J⟩=>Tot.ret ⟨⟨⟨by show t.1.1.length<=_;omega,n2,Z,M,n5,R,n7,X⟩,by show t.1.1.length<=_;omega,BB l2,BB l3,BB l4,BB Y⟩,J.up (by omega)⟩) λ_=>?_
 refine Tot.cnd (λ_=>Tot.bind (vU h I (by omega) hK) λt ⟨tl,J⟩=>Tot.ret ⟨⟨⟨n1,by show t.1.1.length<=_;omega,Z,M,n5,R,n7,X⟩,BB l1,by show t.1.1.length<=_;omega,BB l3,BB l4,BB Y⟩,J.up (by omega)⟩) λ_=>?_
 refine Tot.cnd (λ_=>Tot.ret (y _ _ rfl u2)) λ_=>?_
 refine Tot.cnd (λ_=>Tot.bind (aA h I 9 (by decide) (by omega)) λv5 ⟨_,s5⟩=>Tot.bind (aA h s5 3 (by decide) (by omega)) λv6 ⟨_,s6⟩=>Tot.bind (aA h s6 3 (by decide) (by omega)) λv7 ⟨_,s7⟩=>Tot.bind (aA h s7 2 (by decide) (by omega)) λv8 ⟨_,s8⟩=>Tot.ret ⟨⟨⟨n1,n2,Z,M,n5,R,n7,X⟩,BB l1,BB l2,BB l3,BB l4,BB Y⟩,s8.up (by omega)⟩) λ_=>?_
 refine Tot.cnd (λ_=>Tot.bind (aA h I 8 (by decide) (by omega)) λv9 ⟨_,O⟩=>Tot.bind (aA h O 8 (by decide) (by omega)) λa0 ⟨_,H⟩=>Tot.fit (Tot.ret ⟨⟨⟨n1,n2,?_,?_,n5,R,n7,X⟩,BB l1,BB l2,?_,BB l4,BB Y⟩,H.up (by omega)⟩) (by omega) ?_) λ_=>?_
 ·show (aa.doubts n++[_]).length<=_;simp;omega
 ·intro d u;rcases BM.1 u with u|u
  ·exact M d u
  ·rw[BG.1 u];show ([a0.1.1]:List Int).length<=_;simp
 ·show (aa.doubts n++[_]).length<=_;simp;omega
 ·show (aa.doubts n).length+_<=_;simp;omega
 refine Tot.cnd (λ_=>Tot.bind (mg h I (by omega)) λc J=>Tot.ret ⟨⟨⟨n1,n2,Z,M,n5,R,n7,X⟩,BB l1,BB l2,BB l3,BB l4,BB Y⟩,J.up (by omega)⟩) λ_=>?_
 refine Tot.cnd (λ_=>Tot.bind (aA h I 9 (by decide) (by omega)) λv9 ⟨_,O⟩=>Tot.bind (mg h O (by omega)) λc H=>Tot.bind (aA h H 3 (by decide) (by omega)) λa2 ⟨_,a1⟩=>Tot.fit (Tot.ret ⟨⟨⟨n1,n2,Z,M,?_,?_,n7,X⟩,BB l1,BB l2,BB l3,?_,BB Y⟩,a1.up (by omega)⟩) (by omega) ?_) λ_=>?_
 ·show (aa.places n++[_]).length<=_;simp;omega
 ·intro d u;rcases BM.1 u with u|u
  ·exact R d u
  ·rw[BG.1 u];show ([a2.1.1]:List Int).length<=_;simp
 ·show (aa.places n++[_]).length<=_;simp;omega
 ·show (aa.places n).length+_<=_;simp;omega
 refine Tot.cnd (λ_=>Tot.bind (aA h I 3 (by decide) (by omega)) λv9 ⟨_,O⟩=>Tot.bind (pW h O (by omega) hK) λt ⟨tl,H⟩=>Tot.fit (Tot.ret ⟨⟨⟨n1,n2,Z,M,n5,R,?_,?_⟩,BB l1,BB l2,BB l3,BB l4,?_⟩,H.up (by omega)⟩) (by omega) ?_) λ_=>?_
 ·show (aa.others n++[_]).length<=_;simp;omega
 ·intro d u;rcases BM.1 u with u|u
  ·exact X d u
  ·rw[BG.1 u];show t.1.1.length<=_;omega
 ·show (aa.others n++[_]).length<=_;simp;omega
 ·show (aa.others n).length+_<=_;simp;omega
 refine Tot.cnd (λ_=>Tot.ret (y _ _ rfl u2)) λ_=>Tot.cnd (λ_=>Tot.ret (y _ _ rfl u2)) λ_=>?_
 refine Tot.cnd (λ_=>Tot.bind (aA h I 3 (by decide) (by omega)) λv ⟨⟨a,b⟩,J⟩=>Tot.ix2 a b λ_ _ _=>Tot.ret (y _ _ rfl (J.up (by omega)))) λ_=>?_
 exact Tot.bind (aA h I 8 (by decide) (by omega)) λv9 ⟨_,O⟩=>Tot.bind (aA h O 3 (by decide) (by omega)) λv ⟨⟨a,b⟩,J⟩=>Tot.ix2 a b λ_ _ _=>Tot.ret (y _ _ rfl (J.up (by omega)))
end
section
variable {K:Nat} {b:List Int} {m:Nat} {s:List Int×Int}
end
theorem bc.zero (b:List Int):bc b 0 (b,0):=⟨0,BS _,rfl⟩
structure xE (code:List Int):Prop where
 byte:∀ y∈code,0<=y/\y<=255
 len:code.length<=9223372036854775807
theorem om (K:Nat)(xs:List Int)(y:xs.length<=1048576)(z:1048577<K):Q225.f K (xs,xs,())=rb true:=by
 have u:Q225.l0 K (xs,xs,()) 0=rb true:=by
  refine fk (step:=λrec a=>Q225.s0 K (xs,xs,()) rec a) xs.length (λi=>(i:Int)) (rb true) ?_ ?_ (by omega)
  ·intro rec i r;simp only[Q225.s0];rw[decide_eq_true (by omega:(i:Int)<(BD xs:Int)),ag r,au i (by omega)];simp only[cond_true,BA,bne_self_eq_false,cond_false]
  ·intro rec;simp only[Q225.s0,aS];rfl
 simp only[Q225.f,Q225.pre,bne_self_eq_false,cond_false];exact u
theorem tn (K:Nat)(xs:List aM)(y:xs.length<=1048576)(z:1048577<K):Q224.f K (xs,xs,())=rb true:=by
 have u:Q224.l0 K (xs,xs,()) 0=rb true:=by
  refine fk (step:=λrec a=>Q224.s0 K (xs,xs,()) rec a) xs.length (λi=>(i:Int)) (rb true) ?_ ?_ (by omega)
  ·intro rec i r;simp only[Q224.s0];rw[decide_eq_true (by omega:(i:Int)<(BD xs:Int)),ag r,au i (by omega)];simp only[cond_true,BA];rw[show Ty.eqv t3 xs[i] xs[i]=true by
    show (Ty.eqv t2 xs[i].1 xs[i].1&&decide (xs[i].2=xs[i].2))=true;rw[show Ty.eqv t2 xs[i].1 xs[i].1=decide (xs[i].1=xs[i].1) from gV _ _,decide_eq_true rfl,decide_eq_true rfl];rfl]
   rfl
  ·intro rec;simp only[Q224.s0,aS];rfl
 simp only[Q224.f,Q224.pre,bne_self_eq_false,cond_false];exact u
theorem uq (K:Nat)(n:aa)(u:NB n)(y:1048577<K):Q226.f K (n,n,())=rb true:=by
 have I:Q226.l2 K (n,n,()) 0=rb true:=by
  have z:=u.others;refine fk (step:=λrec a=>Q226.s2 K (n,n,()) rec a) (aa.others n).length (λi=>(i:Int)) (rb true) ?_ ?_ (by omega)
  ·intro rec i r;simp only[Q226.s2];rw[bo (by omega:(i:Int)<(BD (aa.others n):Int)),ag r,au i (by omega)];simp only[cond_true,BA,bne_self_eq_false,cond_false];refine (congrArg (λo=>BC o _) (kl K _ (u.facts _ (BI r)) y)).trans rfl
  ·intro rec;simp only[Q226.s2,aS];rfl
 have H:Q226.l1 K (n,n,()) 0=rb true:=by
  have z:=u.places;refine fk (step:=λrec a=>Q226.s1 K (n,n,()) (Q226.l2 K (n,n,())) rec a) (aa.places n).length (λi=>(i:Int)) (rb true) ?_ ?_ (by omega)
  ·intro rec i r;simp only[Q226.s1];rw[bo (by omega:(i:Int)<(BD (aa.places n):Int)),ag r,au i (by omega)];simp only[cond_true,BA,bne_self_eq_false,cond_false];rw[show Ty.eqv t9 (aa.places n)[i].2.1 (aa.places n)[i].2.1=decide ((aa.places n)[i].2.1=(aa.places n)[i].2.1) from pB _ _,decide_eq_true rfl];simp only[BH,cond_false];refine (congrArg (λo=>BC o _) (om K _ (u.trips _ (BI r)) y)).trans rfl
  ·intro rec;simp only[Q226.s1,aS];exact I
 have J:Q226.l0 K (n,n,()) 0=rb true:=by
  have z:=u.doubts;refine fk (step:=λrec a=>Q226.s0 K (n,n,()) (Q226.l1 K (n,n,())) rec a) (aa.doubts n).length (λi=>(i:Int)) (rb true) ?_ ?_ (by omega)
  ·intro rec i r;simp only[Q226.s0];rw[bo (by omega:(i:Int)<(BD (aa.doubts n):Int)),ag r,au i (by omega)];simp only[cond_true,BA,bne_self_eq_false,cond_false];refine (congrArg (λo=>BC o _) (om K _ (u.by_ _ (BI r)) y)).trans rfl
  ·intro rec;simp only[Q226.s0,aS];exact H
 simp only[Q226.f,Q226.pre,bne_self_eq_false,cond_false];refine (congrArg (λo=>BC o _) (kl K (aa.table n) u.table y)).trans ?_;simp only[rb,BA,BH,cond_false];refine (congrArg (λo=>BC o _) (tn K (aa.cast n) u.cast y)).trans ?_;simp only[rb,BA,BH,cond_false];rw[show Ty.eqv t2 n.2.2.2.2.2.2.2.2.2.2.1 n.2.2.2.2.2.2.2.2.2.2.1=decide (aa.probe n=aa.probe n) from gV _ _,show Ty.eqv t9 n.2.2.2.2.2.2.2.2.2.2.2.2.1 n.2.2.2.2.2.2.2.2.2.2.2.2.1=decide (aa.coord n=aa.coord n) from pB _ _,decide_eq_true rfl,decide_eq_true rfl];exact J
section
variable {K:Nat} {b:List Int} {m:Nat} {s:List Int×Int}
theorem yN {v:Int}(r:0<=v)(u:v<8):0<=wr .i64 (CE v 4)/\wr .i64 (CE v 4)<=1:=by
 have:am v=v / 4:=fH ⟨r,by omega⟩;have e:wr .i64 (CE v 4)=v / 4:=this;rw[e];omega
theorem yO (h:fG b)(hs:bc b m s)(hm:m<=90000)(O:1048577<K):Tot (Q219.f K (s,())) λr=>(ak.table r.1.1).length<=5/\bc b (m+100) r.2.1:=by
 simp only[Q219.f];refine Tot.bind (aA h hs 8 (by decide) (by omega)) λR ⟨⟨a1,b1⟩,s1⟩=>Tot.bind (aA h s1 6 (by decide) (by omega)) λv2 ⟨_,s2⟩=>Tot.bind (aA h s2 4 (by decide) (by omega)) λv3 ⟨_,Y⟩=>Tot.bind (aA h Y 9 (by decide) (by omega)) λv4 ⟨_,X⟩=>Tot.bind (aA h X 3 (by decide) (by omega)) λv5 ⟨⟨a5,b5⟩,s5⟩=>Tot.ix2 a5 b5 λy _ _=>?_
 obtain⟨q0,q1⟩:=yN a1 b1;refine Tot.bind (aA h s5 4 (by decide) (by omega)) λv8 ⟨_,Z⟩=>Tot.bind (rm h Z (by omega)) λc s9=>Tot.bind (nQ h s9 (wr .i64 (CE R.1.1 4)) (by omega) q1 (by omega) O) λt ⟨⟨_,_,t3⟩,u⟩=>?_
 refine Tot.cnd (λ_=>?_) λ_=>Tot.ret ⟨t3,u.up (by omega)⟩
 refine Tot.bind (aA h u 2 (by decide) (by omega)) λJ ⟨⟨a0,a2⟩,H⟩=>Tot.bind (nQ h H J.1.1 (by omega) (by omega) (by omega) O) λt' ⟨⟨_,_,t4⟩,M⟩=>Tot.bind (aA h M 2 (by decide) (by omega)) λa4 ⟨_,z⟩=>Tot.cnd (λ_=>?_) λ_=>Tot.ret ⟨t4,z.up (by omega)⟩
 exact Tot.bind (aA h z 4 (by decide) (by omega)) λa3 ⟨_,I⟩=>Tot.ret ⟨t4,I.up (by omega)⟩
theorem xF (h:fG b)(H:bc b m s)(O:m<=89000)(I:1048577<K):Tot (Q220.f K (s,())) λr=>(ak.table r.1.1).length<=6/\bc b (m+120) r.2.1:=by
 simp only[Q220.f,zcp4];refine Tot.bind (yO h H (by omega) I) λw ⟨R,J⟩=>Tot.bind (aA h J 16 (by decide) (by omega)) λM ⟨_,z⟩=>?_
 have u:(ak.table w.1.1).length<=6:=by omega
 refine Tot.cnd (λ_=>Tot.bind (aA h z 2 (by decide) (by omega)) λv ⟨⟨a,c⟩,y⟩=>Tot.ix2 a c λ_ _ _=>Tot.ret ⟨u,y.up (by omega)⟩) λ_=>?_
 refine Tot.cnd (λ_=>Tot.bind (aA h z 4 (by decide) (by omega)) λv ⟨_,y⟩=>Tot.ret ⟨u,y.up (by omega)⟩) λ_=>?_
 refine Tot.cnd (λ_=>Tot.bind (mg h z (by omega)) λv y=>Tot.ret ⟨u,y.up (by omega)⟩) λ_=>?_
 refine Tot.cnd (λ_=>Tot.bind (mV h z (by omega)) λv y=>Tot.fit (Tot.ret ⟨?_,y.up (by omega)⟩) (by omega) (by show (ak.table w.1.1).length+_<=_;simp;omega)) λ_=>?_
 ·show (ak.table w.1.1++[_]).length<=6;simp;omega
 refine Tot.cnd (λ_=>Tot.bind (aA h z 2 (by decide) (by omega)) λv ⟨⟨a,c⟩,y⟩=>Tot.ix2 a c λ_ _ _=>Tot.ret ⟨u,y.up (by omega)⟩) λ_=>?_
 refine Tot.cnd (λ_=>Tot.bind (aA h z 2 (by decide) (by omega)) λv ⟨⟨a,c⟩,y⟩=>Tot.ix2 a c λ_ _ _=>Tot.ret ⟨u,y.up (by omega)⟩) λ_=>Tot.ret ⟨u,z.up (by omega)⟩
theorem to_t (h:fG b)(hs:bc b m s)(w:bR)(n:aa)(hr:fQ w.2.1)(hm:m<=80000)(hK:1048577<K):Tot (Q221.f K (s,w,n,())) λr=>(ak.table r.1.1).length<=1048576:=by
 refine Tot.iter (step:=λrec a=>Q221.s0 K (s,w,n,()) rec a) (λa=>∃ i:Nat,i<=3/\a.1=(i:Int)/\bc b (m+i) a.2) (λa=>3-a.1.toNat) ?_ K _ (by show 3-BE 0<K;omega) ⟨0,by omega,rfl,hs⟩;rintro rec ⟨i',z⟩ ⟨i,hi,e,J⟩ ih;have e:i'=(i:Int):=e;subst e;have J:bc b (m+i) z:=J;have u:Tot ((Q220.f K (z,())).bind λH=>(Q150.f K (H.2.1,10,())).bind λO=>bif decide (O.1.1>0) then some ((((H.1.1.1,H.1.1.2.1,H.1.1.2.2.1,n.1,H.1.1.2.2.2.2),()),O.2.1,()):(ak×Unit)×(List Int×Int)×Unit) else some ((H.1.1,()),O.2.1,())) λr=>(ak.table r.1.1).length<=1048576 :=
  Tot.bind (xF h J (by omega) hK) λv ⟨hv,I⟩=>Tot.bind (aA h I 10 (by decide) (by omega)) λ_ _=>Tot.cnd (λ_=>Tot.ret (show (ak.table v.1.1).length<=1048576 by omega)) λ_=>Tot.ret (show (ak.table v.1.1).length<=1048576 by omega)
 simp only[Q221.s0];refine Tot.cnd (λh3=>Tot.cnd (λZ=>?_) λ_=>u) λ_=>u
 have h3:(i:Int)<3:=of_decide_eq_true h3;have Z:(w.2.1.length:Int)>0:=of_decide_eq_true Z;rw[au i (by omega)];refine Tot.bind (aA h J (w.2.1.length:Int) (by omega) (by omega)) λv1 ⟨⟨a1,b1⟩,I⟩=>Tot.ix a1 b1 λy hy _=>?_
 have a0:=(hr.2 y hy).2;have next:∀ M,bc b (m+(i+1)) M->Tot (rec (((i+1:Nat):Int),M)) λr=>(ak.table r.1.1).length<=1048576:=λM R=>ih _ ⟨i+1,by omega,rfl,R⟩ (by show 3-BE ((i+1:Nat):Int)<3-BE (i:Int);omega)
 refine Tot.bind (mb K y.2.1 (by omega) hK) λv3 Y=>Tot.cnd (λX=>?_) λ_=>next _ I
 have hW:=Y X;rw[dk K,dk K];simp only[BA];exact Tot.cnd (λ_=>Tot.cnd (λ_=>Tot.ret (show (ak.table v3.1.1).length<=1048576 from bY hW.2.2.2.2.2.2.2.1)) λ_=>next _ I) λ_=>next _ I
end
theorem vV (K:Nat)(u:List Int)(M:xE u)(I:1048577<K):Tot (Q222.f K (u,())) λr=>NS 9 r.1.1/\(ak.table r.1.2.1).length<=1048576:=by
 obtain⟨bs,z,e⟩:=Ba (K:=K) u M.byte M.len;simp only[Q222.f];refine Tot.vl e (Tot.bind (Af z (bc.zero bs) (by omega) I) λw ⟨H,s1⟩=>Tot.bind (aA z s1 _ (by have:=H.len;show (1:Int)<=(w.1.1.1.length:Int);omega) (by omega)) λv3 ⟨⟨a3,b3⟩,s3⟩=>Tot.ix a3 b3 λy hy _=>?_);obtain⟨i,hi,rfl⟩:=BW hy;have R:=(H.node i hi).ns;refine Tot.bind (aA z s3 24 (by decide) (by omega)) λv5 ⟨_,O⟩=>Tot.cnd (λ_=>?_) λ_=>?_
 ·exact Tot.bind (xD z O _ R (BS _) (by omega) (by omega) I) λY ⟨J,s6⟩=>Tot.bind (to_t z s6 w.1.1 Y.1.1 H.radio (by omega) I) λv7 Z=>Tot.ret ⟨J,Z⟩
 ·refine Tot.bind (to_t z O w.1.1 _ H.radio (by omega) I) λv8 h8=>Tot.ret ⟨?_,h8⟩
  obtain⟨X,h2,h3,h4,h5,h6⟩:=R;exact⟨X,BB h2,BB h3,BB h4,BB h5,BB h6⟩
theorem ur (K:Nat)(w:ak)(r:(ak.table w).length<=1048576)(u:1048577<K):Q227.f K (w,w,())=rb true:=by
 simp only[Q227.f,beq_self_eq_true,cond_true];rw[show Ty.eqv t9 w.2.2.2.2.2.2.1 w.2.2.2.2.2.2.1=decide (w.2.2.2.2.2.2.1=w.2.2.2.2.2.2.1) from pB _ _,decide_eq_true rfl];simp only[cond_true];exact (congrArg (λo=>BC o _) (kl K (ak.table w) r u)).trans rfl
theorem tp (K:Nat)(xs:List ak)(H:xs.length<=1048576)(u:∀ w∈xs,(ak.table w).length<=1048576)(z:1048577<K):Q228.f K (xs,xs,())=rb true:=by
 have y:Q228.l0 K (xs,xs,()) 0=rb true:=by
  refine fk (step:=λrec a=>Q228.s0 K (xs,xs,()) rec a) xs.length (λi=>(i:Int)) (rb true) ?_ ?_ (by omega)
  ·intro rec i r;simp only[Q228.s0];rw[bo (by omega:(i:Int)<(BD xs:Int)),ag r,au i (by omega)];simp only[cond_true,BA];exact (congrArg (λo=>BC o _) (ur K _ (u _ (BI r)) z)).trans rfl
  ·intro rec;simp only[Q228.s0,aS];rfl
 simp only[Q228.f,Q228.pre,bne_self_eq_false,cond_false];exact y
end Go.Proofs.YtaelpfghkndliaaGreatEv
