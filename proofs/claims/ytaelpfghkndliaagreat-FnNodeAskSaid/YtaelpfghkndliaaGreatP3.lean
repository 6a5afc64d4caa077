/- What a node answers, by the specification. -/
import Derived.Test.YtaelpfghkndliaaGreatP2
set_option linter.unusedVariables false
set_option linter.unusedSimpArgs false
open Bool renaming not_true->BH,eq_iff_iff->BQ,not_false->BZ,true_and->Bu,false_eq_true->B7,not_eq_true'->B8,and_eq_true->CB,not_eq_true->CC
open Classical renaming not_not->B9
open Iff renaming rfl->CH
open Int renaming toNat->BE,toNat_natCast->BF,eq_ofNat_of_zero_le->BN,tmod->BR,toNat_zero->Br,tdiv->Bs,le_refl->Bt,fdiv->Bw,toNat_of_nonneg->B5,tmod_lt_of_pos->B6,le_trans->CA,tmod_nonneg->CF
open List renaming length->BD,mem_singleton->BG,getElem_mem->BI,length_set->BK,length_append->BL,mem_append->BM,nil_append->BP,drop_zero->BS,mem_of_mem_take->BU,mem_map->BV,length_take->BW,getElem_of_mem->BX,mem_filter->BY,take_length->Bv,length_drop->Bx,length_map->By,length_nil->Bz,length_filter_le->B3,length_cons->CD,not_mem_nil->CE,mem_cons->CG
open Nat renaming le_succ_of_le->BB,le_trans->BJ,zero_le->BO,le_refl->BT,le_succ->B4
open Option renaming bind_some->BA,bind->BC
namespace Go.Proofs.YtaelpfghkndliaaGreatEv
open Go
theorem qw (K:Nat)(l:List Int)(t:Int)(u:l.length<=1048576):Q47.f K (l,t,())=some ((gZ l t,()),()):=by
 simp only[Q47.f];rw[szb _ _ _ (by omega) (by show (BD ([]:List Int))+l.length<=_;simp;omega)];simp only[cond_true,BP];rw[szb _ _ _ (by omega) (by show l.length+[t].length<=_;simp;omega)];simp only[cond_true];have r:(l++[t]).length=l.length+1:=by simp
 show (bif decide (((l++[t]).length:Int)>3) then (bif decide (0<=wr .i64 (((l++[t]).length:Int)-3))&&decide (wr .i64 (((l++[t]).length:Int)-3)<=((l++[t]).length:Int))&&decide (((l++[t]).length:Int)<=((l++[t]).length:Int))&&true then some ((((l++[t]).take (BE ((l++[t]).length:Int))).drop (BE (wr .i64 (((l++[t]).length:Int)-3))),()),()) else none) else some ((l++[t],()),()))=_;by_cases h:l.length+1>3
 ·rw[aH (by omega) (by omega),decide_eq_true (by omega:((l++[t]).length:Int)>3),decide_eq_true (by omega:(0:Int)<=((l++[t]).length:Int)-3),decide_eq_true (by omega:((l++[t]).length:Int)-3<=((l++[t]).length:Int)),decide_eq_true (Bt _)];simp only[Bool.and_self,cond_true,gZ];rw[show BE (((l++[t]).length:Int)-3)=(l++[t]).length-3 by omega,BF,Bv]
 ·rw[decide_eq_false (by omega:¬ ((l++[t]).length:Int)>3)];simp only[cond_false,gZ];rw[show (l++[t]).length-3=0 by omega,BS]
theorem plen {r:Int}{l:List dJ}(h:eu r l):l.length<=1048576:=BJ (iP h.2 λx u=>(h.1 x u).1) (by decide)
theorem uk {u:Int}{l:List dJ}(h:eu u l)(r:Int):(dG l r).length<=3:=by
 unfold dG;cases y:l.find? λp=>p.1==r with
 |none=>simp
 |some p =>
  have:=(h.1 p (List.mem_of_find?_eq_some y)).2.2.2.2.1.2;show p.2.2.length<=3;omega
theorem zZ (K:Nat)(l:List dJ)(r:Int)(c:dA)(t:Int)(me:Int)(h:eu me l)(hK:1048577<K):Q48.f K (l,r,c,t,())=some ((oZ l r c t,()),()):=by
 have hl:=plen h;have h3:=uk h r;refine re (step:=λrec a=>Q48.s0 K (l,r,c,t,()) rec a) (λx:dJ=>x.1) (r,c,gZ (dG l r) t) l h.2 (λu i=>(u,false,(i:Int),[])) (λu i=>(u,true,(i:Int),gZ (dG l r) t)) (λo=>some ((o,()),())) ?_ ?_ ?_ ?_ (by omega)
 ·intro rec u i I R z;simp only[Q48.s0];rw[bo (by omega:(i:Int)<(BD l:Int)),ag I,au i (by omega)];simp only[cond_true,BA,BZ];have J:=szb u.length 1 64 (by omega) (by omega);have Z:=szb (u++[(r,c,gZ (dG l r) t)]).length 1 64 (by omega) (by simp;omega);have M:l[i].1=r->dG l r=l[i].2.2:=λe=>by unfold dG;rw[oU h.2 I e];rfl
  have O:r<l[i].1->dG l r=[]:=λe=>by
   unfold dG;rw[nL (k:=λp:dJ=>p.1)]
   ·rfl
   intro y X;obtain⟨j,hj,rfl⟩:=BX X;by_cases a0:j<i
   ·have:=z l[j] (by rw[List.mem_take_iff_getElem];exact⟨j,by omega,rfl⟩);show l[j].1≠r;have:l[j].1<r:=this;omega
   ·have:l[i].1<=l[j].1:=by
     by_cases e:i=j
     ·subst e;exact Bt _
     ·exact Int.le_of_lt (cD.1 h.2 i j I hj (by omega))
    show l[j].1≠r;omega
  have a1:=(h.1 _ (BI I)).2.2.2.2.1.2;generalize l[i]=y at *;by_cases c1:y.1<r
  ·rw[if_pos c1,show decide (y.1>=r)=false from decide_eq_false (by omega),show (y.1 != r)=true by simp;omega,show (y.1==r)=false by simp;omega];exact (congrArg (λb=>bif b then _ else _) J).trans rfl
  ·rw[if_neg c1,show decide (y.1>=r)=true from decide_eq_true (by omega)];by_cases H:y.1=r
   ·rw[if_pos H,show (y.1 != r)=false by simpa using H,show (y.1==r)=true by simpa using H];simp only[cond_true,cond_false];rw[<- M H];refine (congrArg (λo=>BC o _) (qw K _ t (by omega))).trans ?_;exact (congrArg (λb=>bif b then _ else _) J).trans rfl
   ·rw[if_neg H,show (y.1 != r)=true by simpa using H,show (y.1==r)=false by simpa using H];simp only[cond_true,cond_false];have e:=O (by omega);rw[e]at Z ⊢;refine (congrArg (λo=>BC o _) (qw K [] t (by simp))).trans ?_;refine (congrArg (λb=>bif b then _ else _) J).trans ?_;exact (congrArg (λb=>bif b then _ else _) Z).trans rfl
 ·intro rec u i I R Y;simp only[Q48.s0];rw[bo (by omega:(i:Int)<(BD l:Int)),ag I,au i (by omega)];have Y:r<l[i].1:=Y;simp only[cond_true,BA,BH,cond_false];rw[show (l[i].1 != r)=true by simp;omega,show (l[i].1==r)=false by simp;omega];exact (congrArg (λb=>bif b then _ else _) (szb u.length 1 64 (by omega) (by omega))).trans rfl
 ·intro rec u R z;simp only[Q48.s0,aS,cond_false,BZ,cond_true];have e:dG l r=[]:=by
   unfold dG;rw[nL (k:=λp:dJ=>p.1) (λy X=>by have:y.1<r:=z y X;show y.1≠r;omega)];rfl
  rw[e];refine (congrArg (λo=>BC o _) (qw K [] t (by simp))).trans ?_;exact (congrArg (λb=>bif b then _ else _) (szb u.length 1 64 (by omega) (by omega))).trans rfl
 ·intro rec u R;simp only[Q48.s0,aS,cond_false,BH]
def tg (n u r:Int):Int:=if n<u then u else if n>r then r else n
theorem zm (K:Nat)(n y z:Int):Q46.f K (n,y,z,())=some ((tg n y z,()),()):=by
 simp only[Q46.f,tg];by_cases u:n<y
 ·rw[decide_eq_true u,if_pos u];rfl
 ·rw[decide_eq_false u,if_neg u];by_cases r:n>z
  ·rw[decide_eq_true r,if_pos r];rfl
  ·rw[decide_eq_false r,if_neg r];rfl
theorem z7 {n u r:Int}(h:u<=r):InP (tg n u r) u r:=by
 unfold tg;split
 ·exact⟨Bt _,h⟩
 ·split
  ·exact⟨h,Bt _⟩
  ·exact⟨by omega,by omega⟩
def xq (n:aa):Int:=tg ((ch n-(aa.probe n).2.1)*1000+500) 1 60000
noncomputable def qx (K:Nat)(w:ak)(c:dA)(p:dJ):dA:=bif p.1==w.2.2.1 then pQ K c (ak.coord w) (sb K p.2.2) w.2.2.2.2.1 else c
def kn (n:aa)(w:ak):List dJ:=oZ (aa.places n) w.2.2.1 (ak.coord w) (xq n)
def qy (n:aa)(w:ak):Bool:=!decide ((aa.probe n).1<0)&&(aa.probe n).1==w.2.2.1&&(aa.probe n).2.2.1==w.2.2.2.2.1&&w.2.2.2.2.2.1==w.2.2.1
noncomputable def fb (K:Nat)(n:aa)(w:ak):aa:=bif qy n w then pO n ((kn n w).foldl (qx K w) (aa.coord n)) (kn n w) else n
theorem uQ {K:Nat}{w:ak}{c:dA}{p:dJ}(r:cH c)(u:1048577<K):cH (qx K w c p):=by
 unfold qx;cases p.1==w.2.2.1 with
 |false=>exact r
 |true=>exact (xn K c _ _ _ r u).2
theorem th {n:aa}(h:UpX n)(H:¬ (aa.probe n).1<0):(aa.probe n).1≠n.1/\InP (aa.probe n).1 0 7/\am (aa.probe n).1=am n.1/\InP (aa.probe n).2.1 0 (ch n):=by
 have r:=h.probe;unfold cZ at r;rw[if_neg (by omega)]at r;obtain⟨y,⟨f,u,e⟩,z,_⟩:=r;exact⟨y,e ▸ (h.table.1 f u).1,e ▸ h.site f u,z⟩
theorem uR {n:aa}{w:ak}(h:UpX n)(H:cH (ak.coord w))(z:qy n w=true):eu n.1 (kn n w):=by
 simp only[qy,CB,B8,decide_eq_false_iff_not,beq_iff_eq]at z;obtain⟨⟨⟨J,I⟩,M⟩,O⟩:=z;obtain⟨u,y,r,_⟩:=th h J;rw[I]at u y r;exact vM h.places y r u H (z7 (by decide))
theorem ack_s (K:Nat)(n:aa)(w:ak)(h:UpN n)(Z:cH (ak.coord w))(I:1048577<K):Q59.f K (n,w,())=some ((fb K n w,()),()):=by
 simp only[Q59.f,Q59.pre,zc00556];have z:qy n w=(!decide ((aa.probe n).1<0)&&(aa.probe n).1==w.2.2.1&&(aa.probe n).2.2.1==w.2.2.2.2.1&&w.2.2.2.2.2.1==w.2.2.1):=rfl;by_cases r:(aa.probe n).1<0
 ·rw[show decide (n.2.2.2.2.2.2.2.2.2.2.1.1<0)=true from decide_eq_true r];rw[show fb K n w=n by unfold fb;rw[z,decide_eq_true r];rfl];rfl
 ·rw[show decide (n.2.2.2.2.2.2.2.2.2.2.1.1<0)=false from decide_eq_false r];cases u:(aa.probe n).1==w.2.2.1 with
  |false =>
   rw[show fb K n w=n by unfold fb;rw[z,decide_eq_false r,u];rfl];rw[show (n.2.2.2.2.2.2.2.2.2.2.1.1 != w.2.2.1)=true by unfold bne;rw[show (n.2.2.2.2.2.2.2.2.2.2.1.1==w.2.2.1)=false from u];rfl];rfl
  |true =>
   rw[show (n.2.2.2.2.2.2.2.2.2.2.1.1 != w.2.2.1)=false by unfold bne;rw[show (n.2.2.2.2.2.2.2.2.2.2.1.1==w.2.2.1)=true from u];rfl];cases H:(aa.probe n).2.2.1==w.2.2.2.2.1 with
   |false =>
    rw[show fb K n w=n by unfold fb;rw[z,decide_eq_false r,u,H];rfl];rw[show (n.2.2.2.2.2.2.2.2.2.2.1.2.2.1 != w.2.2.2.2.1)=true by unfold bne;rw[show (n.2.2.2.2.2.2.2.2.2.2.1.2.2.1==w.2.2.2.2.1)=false from H];rfl];rfl
   |true =>
    rw[show (n.2.2.2.2.2.2.2.2.2.2.1.2.2.1 != w.2.2.2.2.1)=false by unfold bne;rw[show (n.2.2.2.2.2.2.2.2.2.2.1.2.2.1==w.2.2.2.2.1)=true from H];rfl];cases J:w.2.2.2.2.2.1==w.2.2.1 with
    |false =>
     rw[show fb K n w=n by unfold fb;rw[z,decide_eq_false r,u,H,J];rfl];rw[show (w.2.2.2.2.2.1 != w.2.2.1)=true by unfold bne;rw[J];rfl];rfl
    |true =>
     have O:qy n w=true:=by rw[z,decide_eq_false r,u,H,J];rfl
     rw[show (w.2.2.2.2.2.1 != w.2.2.1)=false by unfold bne;rw[J];rfl];have Y:=(th h.x r).2.2.2;have hn:=h.now1;have X:=uR h.x Z O;simp only[cond_false];rw[show wr .i64 (wr .i64 (wr .i64 (n.2.2.2.2.2.1-n.2.2.2.2.2.2.2.2.2.2.1.2.1)*1000)+500)=(ch n-(aa.probe n).2.1)*1000+500 by
      obtain⟨p1,p2⟩:=Y;show wr .i64 (wr .i64 (wr .i64 (ch n-(aa.probe n).2.1)*1000)+500)=_;rw[aH (n:=ch n-_) (by omega) (by omega),aH (n:=_*1000) (by omega) (by omega),aH (by omega) (by omega)]]
     rw[zm];simp only[BA];refine (congrArg (λo=>BC o _) (zZ K (aa.places n) w.2.2.1 (ak.coord w) (xq n) n.1 h.x.places I)).trans ?_;simp only[BA];rw[show fb K n w=pO n ((kn n w).foldl (qx K w) (aa.coord n)) (kn n w) by unfold fb;rw[O];rfl];show Q59.l0 K (n,w,()) (0,(aa.coord n).1,(aa.coord n).2.1,(aa.coord n).2.2.1,(aa.coord n).2.2.2,kn n w)=_;have hl:=plen X;refine kD (step:=λrec a=>Q59.s0 K (n,w,()) rec a) (kn n w) (qx K w) cH (λc i=>((i:Int),c.1,c.2.1,c.2.2.1,c.2.2.2,kn n w)) (λc=>some ((pO n c (kn n w),()),())) (aa.coord n) h.x.coord ?_ ?_ (by omega)
     ·intro rec c i R M;refine⟨?_,uQ M I⟩;simp only[Q59.s0,zc00556,zcp8];rw[bo (by omega:(i:Int)<(BD (kn n w):Int)),BF,ag R,au i (by omega)];simp only[cond_true,BA];have a0:=(X.1 _ (BI R)).2.2.2.2.1.2;generalize (kn n w)[i]=y at *;unfold qx;cases y.1==w.2.2.1 with
      |false=>rfl
      |true =>
       simp only[cond_true];refine (congrArg (λo=>BC o _) (med_s K y.2.2 (by omega) I)).trans ?_;refine (congrArg (λo=>BC o _) (xn K c (ak.coord w) (sb K y.2.2) w.2.2.2.2.1 M I).1).trans ?_;rfl
     ·intro rec c M;simp only[Q59.s0,zc00556,zcp8,aS,cond_false];rfl
theorem AR {K:Nat}{n:aa}{w:ak}(h:UpN n)(u:cH (ak.coord w))(z:1048577<K):UpN (fb K n w)/\(fb K n w).1=n.1/\(fb K n w).2.2.1=n.2.2.1:=by
 unfold fb;cases y:qy n w with
 |false=>exact⟨h,rfl,rfl⟩
 |true=>exact⟨h.heard (lY (Inv:=cH) h.x.coord λc p _ r=>uQ r z) (uR h.x u y),rfl,rfl⟩
def gx (n:aa)(w:ak):Prop:=n.2.1=true/\n.2.2.1=false/\w.2.2.2.1=n.1/\w.2.2.1≠n.1 /\
 (if w.1=2 then w.2.1=6/\am w.2.2.1≠am n.1/\(cd (ak.table w) (am n.1)\/cd (ak.table w) (am w.2.2.1)) else am w.2.2.1=am n.1/\(w.2.1≠6\/¬ cd (ak.table w) (am n.1)))
theorem uS (K:Nat)(n:aa)(w:ak)(H:(ak.table w).length<=1048576)(J:1048577<K):Ret (Q28.f K (n,w,())) (gx n w):=by
 refine (Ret.cndN (P:=¬ n.2.1=true) (b:=!n.2.1) (by simp) λ_=>Ret.cndN (P:=n.2.2.1=true) (b:=n.2.2.1) CH λ_=>Ret.cndN (P:=w.2.2.2.1≠n.1) (b:=w.2.2.2.1 != n.1) (by simp) λ_=>Ret.cndN (P:=w.2.2.1=n.1) (b:=w.2.2.1==n.1) (by simp) λ_ =>
  (?_:Ret _ (if w.1=2 then w.2.1=6/\am w.2.2.1≠am n.1/\(cd (ak.table w) (am n.1)\/cd (ak.table w) (am w.2.2.1)) else am w.2.2.1=am n.1/\(w.2.1≠6\/¬ cd (ak.table w) (am n.1))))).iff ?_
 ·refine Ret.vl (dk K n.1) ?_;obtain⟨z,I,y⟩:=eZ K (ak.table w) (am n.1) H J;obtain⟨R,M,O⟩:=eZ K (ak.table w) (am w.2.2.1) H J;by_cases r:w.1=2
  ·rw[show (w.1==2)=true by simpa using r,if_pos r];refine Ret.cnd (P:=w.2.1=6) (b:=w.2.1==6) (by simp) λ_=>?_
   refine Ret.cnd (P:=am w.2.2.1≠am n.1) (b:=am w.2.2.1 != am n.1) (by simp) λ_=>Ret.vl I ?_
   cases z with
   |true=>exact Ret.yes (.inl (y.1 rfl))
   |false =>
    refine Ret.vl M ?_;exact Ret.of (b:=R) (O.trans ⟨.inr,λh=>h.resolve_left λh=>by have:=y.2 h;cases this⟩)
  ·rw[show (w.1==2)=false by simpa using r,if_neg r];refine Ret.cnd (P:=am w.2.2.1=am n.1) (b:=am w.2.2.1==am n.1) (by simp) λ_=>?_
   by_cases u:w.2.1=6
   ·show Ret (bif w.2.1 != 6 then _ else _) _;rw[show (w.2.1 != 6)=false by simpa using u];refine Ret.vl I (Ret.of (b:=!z) ?_);rw[B8,<- CC,y];exact⟨.inr,λh=>h.resolve_left λh=>h u⟩
   ·show Ret (bif w.2.1 != 6 then _ else _) _;rw[show (w.2.1 != 6)=true by simpa using u];exact Ret.yes (.inl u)
 ·unfold gx;rw[B9,CC,B9]
def mc (u:Int)(n:aa)(to y r:Int)(t:List ah):ak:=(1,u,n.1,to,y,r,aa.coord n,t)
theorem pS (K:Nat)(n:aa)(u to y r:Int)(t:List ah)(z:t.length<=1048576):Q41.f K (n,u,to,y,r,t,())=some ((mc u n to y r t,()),()):=by
 simp only[Q41.f];rw[szb _ _ _ (by omega) (by show (BD ([]:List ah))+t.length<=_;simp;omega)];rfl
def md (t:List ah)(s:Int):Bool:=t.all λf=>am f.1==s
theorem kH {t:List ah}{s:Int}:md t s=true<->cd t s:=by simp[md,cd]
def cj (t:List ah):ah:=(t.head?).getD (0,0,0,false)
def bG (n:aa)(w:ak):List ah:=eX (eG (aa.others n) (am (cj (ak.table w)).1)) (ak.table w)
def vP (n:aa)(w:ak):ak:=(2,6,n.1,w.2.2.1,0,n.1,aa.coord n,bG n w)
def sumN (n:aa)(w:ak):aa:=mV n (bw (λx:bZ=>x.1) (am (cj (ak.table w)).1,bG n w) (aa.others n))
def eQ (n:aa)(w:ak):aa×List ak:=bif md (ak.table w) (am n.1) then (gN n (ak.table w) n.1,[]) else
 (sumN n w,bif w.1==2&&decide (ak.table w≠bG n w) then [vP n w] else [])
theorem pT:∀ {fs t:List ah} {g:ah},g∈eX t fs->g∈t\/g∈fs
 |[],_,_,h=>.inl h
 |f::fs,t,g,h=>by
  rcases pT (fs:=fs) h with h|h
  ·have h:g∈(bS t f).1:=h;rcases gX t f with e|e
   ·rw[e]at h;exact .inl h
   ·rw[e]at h;rcases aZ.1 h with rfl|⟨h,_⟩
    ·exact .inr (by simp)
    ·exact .inl h
  ·exact .inr (by simp[h])
theorem pU:∀ {fs t:List ah} {g:ah},g∈t->∃ u∈eX t fs,u.1=g.1
 |[],_,g,h=>⟨g,h,rfl⟩
 |f::fs,t,g,h=>by
  obtain⟨J,H,I⟩:=mP (f:=f) h;obtain⟨y,z,r⟩:=pU (fs:=fs) H;exact⟨y,z,r.trans I⟩
theorem ul {t:List ah}(H:Asc (λg:ah=>g.1) t)(f:ah):∃ g∈(bS t f).1,g.1=f.1:=by
 by_cases h:∃ g∈t,g.1=f.1
 ·obtain⟨g,r,e⟩:=h;obtain⟨u,z,y⟩:=mP (f:=f) r;exact⟨u,z,y.trans e⟩
 ·rw[im λg r e=>h ⟨g,r,e⟩];exact⟨f,aZ.2 (.inl rfl),rfl⟩
theorem kI {n:aa}{w:ak}(h:c7 n.1 (aa.others n))(J:aB (ak.table w))(u:lV (ak.table w)):aB (bG n w)/\bG n w≠[]/\cd (bG n w) (am (cj (ak.table w)).1):=by
 have z:=o6 h (am (cj (ak.table w)).1);refine⟨qX z J.1,?_,?_⟩
 ·unfold bG;cases y:ak.table w with
  |nil=>rw[y]at u;exact u.elim
  |cons f l =>
   obtain⟨g,I,_⟩:=ul (f:=f) (t:=eG (aa.others n) (am (cj (f::l)).1)) (by rw[y]at z;exact z.2);obtain⟨R,H,_⟩:=pU (fs:=l) I;exact List.ne_nil_of_mem H
 ·intro g r;rcases pT r with r|r
  ·rcases qS (l:=aa.others n) (s:=am (cj (ak.table w)).1) with e|⟨x,M,O,e⟩
   ·rw[e]at r;cases r
   ·rw[e]at r;rw[<- O];exact (h.1 x M).2.2.2.2 g r
  ·cases y:ak.table w with
   |nil=>rw[y]at u;exact u.elim
   |cons f l =>
    rw[y]at u r;exact u g r
theorem uT {x:Int}(h:InP x 0 7):InP (am x) 0 1:=by
 rw[fa h];obtain⟨r,u⟩:=h;constructor <;> omega
theorem tj {t:List ah}(r:lV t)(u:aB t):InP (cj t).1 0 7:=by
 cases t with
 |nil=>exact r.elim
 |cons f l=>exact (u.1 f (by simp)).1
theorem xt (K:Nat)(n:aa)(w:ak)(h:UpN n)(r:aB (ak.table w))(z:lV (ak.table w))(u:1048577<K):Q42.f K (n,w,())=some (((eQ n w).1,(eQ n w).2,()),()):=by
 simp only[Q42.f];rw[dk K n.1];simp only[BA];obtain⟨H,R,M⟩:=eZ K (ak.table w) (am n.1) (bY r) u;have I:md (ak.table w) (am n.1)=H:=by rw[BQ,kH,M]
 unfold eQ;rw[I];refine (congrArg (λo=>BC o _) R).trans ?_;simp only[rb,BA];cases H with
 |true =>
  simp only[cond_true];refine (congrArg (λo=>BC o _) (uK K n (ak.table w) n.1 h.learns r.1 (bY r) h.x.me u)).trans rfl
 |false =>
  simp only[cond_false];obtain⟨J,Y,X⟩:=kI (n:=n) h.x.others r z;have y:idx (ak.table w) 0=some (cj (ak.table w)):=by
   cases O:ak.table w with
   |nil=>rw[O]at z;exact z.elim
   |cons f l=>rfl
  refine (congrArg (λo=>BC o _) y).trans ?_;simp only[BA];rw[dk K];simp only[BA];refine (congrArg (λo=>BC o _) (xp K n (am (cj (ak.table w)).1) (ak.table w) h.x.others r u)).trans ?_;simp only[BA];refine (congrArg (λo=>BC o _) (sum_s K n (am (cj (ak.table w)).1) (bG n w) h.x.others u)).trans ?_;simp only[BA];cases w.1==2 with
  |false=>rfl
  |true =>
   simp only[cond_true,Bu];refine (congrArg (λo=>BC o _) (yG K (ak.table w) (bG n w) (bY r) u)).trans ?_;simp only[rb,BA];cases decide (ak.table w≠bG n w) with
   |false=>rfl
   |true =>
    simp only[cond_true];refine (congrArg (λo=>BC o _) (pS K (sumN n w) 6 w.2.2.1 0 n.1 (bG n w) (bY J))).trans rfl
theorem vQ {n:aa}{w:ak}(h:UpN n)(z:n.2.2.1=false)(u:aB (ak.table w))(r:lV (ak.table w)):UpN (eQ n w).1/\(eQ n w).1.1=n.1/\(eQ n w).1.2.2.1=false:=by
 unfold eQ;cases y:md (ak.table w) (am n.1) with
 |true=>exact km h z u (kH.1 y) (fq.me h.x.me)
 |false =>
  obtain⟨M,J,I⟩:=kI (n:=n) h.x.others u r;refine⟨h.setOthers (vL h.x.others (uT (tj r u)) (λe=>?_) J M I),rfl,z⟩;have:cd (ak.table w) (am n.1):=by
   cases H:ak.table w with
   |nil=>rw[H]at r;exact r.elim
   |cons f l=>rw[H]at r e;rw[<- e];exact r
  rw[kH.2 this]at y;cases y
noncomputable def dZ (K:Nat)(n:aa)(w:ak):aa×List ak :=
 bif w.2.1==1 then (bif am w.2.2.2.2.2.1 != am n.1 then (n,[]) else bif w.2.2.2.2.2.1==n.1 then (n,[]) else (gw n,[mc 2 (gw n) w.2.2.2.2.2.1 w.2.2.2.2.1 n.1 (fK n w.2.2.2.2.2.1)]))
 else bif w.2.1==3 then (bif am w.2.2.2.2.2.1 != am n.1 then (n,[]) else bif w.2.2.2.2.2.1==n.1 then (n,[]) else bif w.2.2.2.2.2.1==w.2.2.1 then (n,[]) else (gw n,[mc 1 (gw n) w.2.2.2.2.2.1 w.2.2.2.2.1 w.2.2.1 (fK n w.2.2.2.2.2.1)]))
 else bif w.2.1==4 then (n,[mc 5 n w.2.2.1 0 n.1 (aa.table n)]) else bif w.2.1==2 then (fb K n w,[]) else (n,[])
theorem yH (K:Nat)(n:aa)(w:ak)(h:UpN n)(z:cH (ak.coord w))(u:1048577<K):Q60.f K (n,w,())=some (((dZ K n w).1,(dZ K n w).2,()),()):=by
 simp only[Q60.f];rw[dk K n.1];simp only[BA];have y:=uO K n w.2.2.2.2.2.1 h.x.say u;have r:=bY (nO h.x.say w.2.2.2.2.2.1);unfold dZ;cases w.2.1==1 with
 |true =>
  simp only[cond_true];rw[dk K];simp only[BA];cases am w.2.2.2.2.2.1 != am n.1 with
  |true=>rfl
  |false =>
   simp only[cond_false];cases w.2.2.2.2.2.1==n.1 with
   |true=>rfl
   |false =>
    simp only[cond_false];refine (congrArg (λo=>BC o _) y).trans ?_;simp only[BA];refine (congrArg (λo=>BC o _) (pS K (gw n) 2 w.2.2.2.2.2.1 w.2.2.2.2.1 n.1 _ r)).trans rfl
 |false =>
  simp only[cond_false];cases w.2.1==3 with
  |true =>
   simp only[cond_true];rw[dk K];simp only[BA];cases am w.2.2.2.2.2.1 != am n.1 with
   |true=>rfl
   |false =>
    simp only[cond_false];cases w.2.2.2.2.2.1==n.1 with
    |true=>rfl
    |false =>
     simp only[cond_false];cases w.2.2.2.2.2.1==w.2.2.1 with
     |true=>rfl
     |false =>
      simp only[cond_false];refine (congrArg (λo=>BC o _) y).trans ?_;simp only[BA];refine (congrArg (λo=>BC o _) (pS K (gw n) 1 w.2.2.2.2.2.1 w.2.2.2.2.1 w.2.2.1 _ r)).trans rfl
  |false =>
   simp only[cond_false];cases w.2.1==4 with
   |true=>exact (congrArg (λo=>BC o _) (pS K n 5 w.2.2.1 0 n.1 (aa.table n) (bY h.x.table))).trans rfl
   |false =>
    simp only[cond_false];cases w.2.1==2 with
    |true=>exact (congrArg (λo=>BC o _) (ack_s K n w h z u)).trans rfl
    |false=>rfl
theorem xu {K:Nat}{n:aa}{w:ak}(h:UpN n)(r:cH (ak.coord w))(u:1048577<K):UpN (dZ K n w).1/\(dZ K n w).1.1=n.1/\(dZ K n w).1.2.2.1=n.2.2.1:=by
 unfold dZ;cases w.2.1==1 <;> cases w.2.1==3 <;> cases w.2.1==4 <;> cases w.2.1==2 <;> cases am w.2.2.2.2.2.1 != am n.1 <;> cases w.2.2.2.2.2.1==n.1 <;> cases w.2.2.2.2.2.1==w.2.2.1 <;> first|exact⟨h,rfl,rfl⟩|exact⟨h.way,rfl,rfl⟩|exact AR h r u
open Classical in
noncomputable def bK (K:Nat)(n:aa)(w:ak):aa×List ak :=
 if dK w/\gx n w then (if w.2.1=6 then eQ n w else dZ K (gN n (ak.table w) w.2.2.1) w) else (n,[])
theorem jV {n:aa}{w:ak}(H:dK w)(h:gx n w)(u:w.2.1≠6):cd (ak.table w) (am n.1)/\fq n w.2.2.1:=by
 obtain⟨_,_,w3,_,_,_,_,_,y⟩:=H;rw[if_neg u]at y;obtain⟨_,_,_,_,r⟩:=h;by_cases z:w.1=2
 ·rw[if_pos z]at r;exact absurd r.1 u
 ·rw[if_neg z]at r;exact⟨r.1 ▸ y,w3,r.1⟩
theorem xv (K:Nat)(n:aa)(w:ak)(h:n.2.1=true->UpN n)(I:(ak.table w).length<=1048576)(y:1048577<K):Q61.f K (n,w,())=some (((bK K n w).1,(bK K n w).2,()),()):=by
 simp only[Q61.f];obtain⟨b1,e1,X⟩:=lW K w I y;obtain⟨b2,Y,R⟩:=uS K n w I y;rw[e1];cases b1 with
 |false =>
  unfold bK;rw[if_neg λh=>by have:=X.2 h.1;cases this];rfl
 |true =>
  have z:=X.1 rfl;simp only[rb,BA,BH,cond_false];refine (congrArg (λo=>BC o _) Y).trans ?_;cases b2 with
  |false =>
   unfold bK;rw[if_neg λh=>by have:=R.2 h.2;cases this];rfl
  |true =>
   have H:=R.1 rfl;have J:=h H.1;simp only[rb,BA,BH,cond_false];unfold bK;rw[if_pos ⟨z,H⟩];have r:=z.2.2.2.2.2.2.2.1;by_cases u:w.2.1=6
   ·rw[if_pos u,show (w.2.1==6)=true by simpa using u];have O:=z.2.2.2.2.2.2.2.2;rw[if_pos u]at O;exact (congrArg (λo=>BC o _) (xt K n w J r O y)).trans rfl
   ·rw[if_neg u,show (w.2.1==6)=false by simpa using u];obtain⟨hs,M⟩:=jV z H u;have Z:=(km J H.2.1 r hs M).1;refine (congrArg (λo=>BC o _) (uK K n (ak.table w) w.2.2.1 J.learns r.1 I M.1 y)).trans ?_;exact (congrArg (λo=>BC o _) (yH K _ w Z z.2.2.2.2.2.2.1 y)).trans rfl
theorem qz {K:Nat}{n:aa}{w:ak}(h:UpN n)(R:1048577<K):UpN (bK K n w).1/\(bK K n w).1.1=n.1/\(bK K n w).1.2.2.1=n.2.2.1:=by
 unfold bK;split
 ·rename_i M;obtain⟨y,r⟩:=M;have u:=y.2.2.2.2.2.2.2.1;split
  ·rename_i H;have J:=y.2.2.2.2.2.2.2.2;rw[if_pos H]at J;rw[r.2.1];exact vQ h r.2.1 u J
  ·rename_i H;obtain⟨X,O⟩:=jV y r H;have I:=km h r.2.1 u X O;have z:=xu (w:=w) I.1 y.2.2.2.2.2.2.1 R;exact⟨z.1,z.2.1.trans I.2.1,z.2.2.trans (I.2.2.trans r.2.1.symm)⟩
 ·exact⟨h,rfl,rfl⟩
theorem mf {K:Nat}{n:aa}{w:ak}(h:UpN n)(hK:1048577<K):(bK K n w).2.length<=1/\∀ x∈(bK K n w).2,InP x.2.2.2.1 0 7/\(ak.table x).length<=1048576:=by
 unfold bK;split
 ·rename_i O;obtain⟨u,I⟩:=O;have y:=u.2.2.2.2.2.2.2.1;split
  ·rename_i z;have J:=u.2.2.2.2.2.2.2.2;rw[if_pos z]at J;obtain⟨X,a2,a3⟩:=kI (n:=n) h.x.others y J;unfold eQ;cases md (ak.table w) (am n.1) with
   |true=>exact⟨by simp,by simp⟩
   |false =>
    simp only[cond_false];cases w.1==2&&decide (ak.table w≠bG n w) with
    |false=>exact⟨by simp,by simp⟩
    |true=>exact⟨by simp,λx r=>by rw[BG.1 r];exact⟨u.2.2.1,bY X⟩⟩
  ·rename_i z;obtain⟨hs,R⟩:=jV u I z;have M:=km h I.2.1 y hs R;have Z:=bY (nO M.1.x.say w.2.2.2.2.2.1);have H:=bY M.1.x.table;have w3:=u.2.2.1;have Y:=u.2.2.2.2.2.1;generalize gN n (ak.table w) w.2.2.1=m at *;unfold dZ;cases w.2.1==1 <;> cases w.2.1==3 <;> cases w.2.1==4 <;> cases w.2.1==2 <;> cases am w.2.2.2.2.2.1 != am m.1 <;> cases w.2.2.2.2.2.1==m.1 <;> cases w.2.2.2.2.2.1==w.2.2.1 <;>
    first|exact⟨BT _,λx r=>by rw[BG.1 r];exact⟨Y,Z⟩⟩|exact⟨BT _,λx r=>by rw[BG.1 r];exact⟨w3,H⟩⟩|exact⟨BO _,λx r=>nomatch r⟩
 ·exact⟨by simp,by simp⟩
theorem vR (K:Nat)(n:aa)(w:ak)(X:NB n)(u:(ak.table w).length<=1048576)(r:1048577<K):∃ b,Q229.f K (n,w,())=rb b/\Q104.f K (n,w,())=rb b:=by
 obtain⟨b1,h1,O⟩:=(oT K n X r).same (sE K n X r) CH;simp only[Q229.f,Q104.f];rw[h1,O];cases b1 with
 |false=>exact⟨false,rfl,rfl⟩
 |true =>
  simp only[BA,BH,cond_false];obtain⟨Z,h2,y⟩:=lW K w u r;obtain⟨z,M,H⟩:=yi K w u r;have:Z=z:=by rw[BQ,y,H]
  subst this;rw[h2,M];cases Z with
  |false=>exact⟨false,rfl,rfl⟩
  |true =>
   have Y:=y.1 rfl;simp only[BA,BH,cond_false];obtain⟨b3,h3,I⟩:=(eZ K (ak.table w) (am n.1) u r).same (ij K (ak.table w) (am n.1) u r) CH;obtain⟨b4,h4,R⟩:=(eZ K (ak.table w) (am w.2.2.1) u r).same (ij K (ak.table w) (am w.2.2.1) u r) CH;obtain⟨b5,h5,J⟩:=pC K n w.2.2.1;have h6:b5=(am w.2.2.1==am n.1):=by
    rw[BQ,J,beq_iff_eq];exact⟨λh=>h.2,λh=>⟨Y.2.2.1,h⟩⟩
   have hp:InP w.1 1 2:=Y.1;simp only[Q28.f,Q103.f];rw[h5,dk K n.1,dk K w.2.2.1,mJ K w.2.2.1,nJ K n,h6];simp only[BA];rw[h3,h4,R,I];simp only[BA,bne];generalize (am w.2.2.1==am n.1)=c1;generalize (w.2.2.2.1==n.1)=c2;generalize (w.2.2.1==n.1)=c3;generalize (w.2.1==6)=c4;generalize n.2.1=c5;generalize n.2.2.1=c6;rcases (by omega:w.1=1\/w.1=2) with h|h <;> rw[h] <;> cases c1 <;> cases c2 <;> cases c3 <;> cases c4 <;> cases c5 <;> cases c6 <;> cases b3 <;> cases b4 <;> exact⟨_,rfl,rfl⟩
structure kX (n m:aa):Prop where
 ok:ct m
 me:m.1=n.1
 now_:m.2.2.2.2.2.1=n.2.2.2.2.2.1
 seq:m.2.2.2.2.2.2.1=n.2.2.2.2.2.2.1
 turn:m.2.2.2.2.2.2.2.1=n.2.2.2.2.2.2.2.1
 rest:m.2.2.2.2.2.2.2.2.2.2.2.2=n.2.2.2.2.2.2.2.2.2.2.2.2
 by_:∀ d∈aa.doubts m,d.2.2.2.length<=1048576
theorem kX.say {n m:aa}(h:kX n m){f:ah}(b:Int)(z:bm f):kX n (sayOf m f b):=by
 obtain⟨y,_,_,_,_,I,u,H,_,r⟩:=iQ m f b;exact⟨ip h.ok z,y.trans h.me,I.trans h.now_,u.trans h.seq,H.trans h.turn,r.trans h.rest,yk h.by_⟩
theorem kX.setP {n m:aa}(h:kX n m)(p:ah):kX n (setP m p):=⟨h.ok.setP p,h.me,h.now_,h.seq,h.turn,h.rest,h.by_⟩
theorem kX.nb {n m:aa}(h:kX n m)(u:NB n):NB m:=by
 have y:aa.places m=aa.places n:=congrArg (λr=>r.2.1) h.rest;have z:aa.others m=aa.others n:=congrArg (λr=>r.2.2) h.rest;exact⟨h.ok.lt,h.ok.lc,h.ok.ld,h.by_,by rw[y];exact u.places,by rw[y];exact u.trips,by rw[z];exact u.others,by rw[z];exact u.facts⟩
theorem kX.far {n m:aa}(h:kX n m)(u:nP n):nP m:=by
 have y:aa.others m=aa.others n:=congrArg (λr=>r.2.2) h.rest;exact⟨by rw[y];exact u.short,by rw[y];exact u.table⟩
theorem um {n:aa}(h:∀ k,k<8->¬ hM n k):iR n=none:=by
 unfold iR;rw[List.find?_eq_none];intro x u;obtain⟨k,r,rfl⟩:=BV.1 u;have:=h k (by simpa using r);unfold hM at this;simpa using this
theorem un {n:aa}{k:Nat}(u:k<8)(r:hM n k)(h:∀ j,j<k->¬ hM n j):iR n=some (cI n k):=by
 unfold iR;rw[List.find?_map,List.find?_range_eq_some.2 ⟨?_,by simpa using u,λj y=>?_⟩]
 ·rfl
 ·unfold hM at r;simpa using r
 ·have:=h j y;unfold hM at this;simpa[Classical.or_iff_not_imp_left]using this
theorem uU (K:Nat)(n:aa)(h:ct n)(R:sZ n)(J:1048577<K):Q192.f K (n,())=some (((dR n).1,(dR n).2,()),()):=by
 obtain⟨⟨Z,Y⟩,⟨t0,t1⟩⟩:=R;obtain⟨to,O,H⟩:=zR K n h t0 t1 J;simp only[Q192.f,zcp4];rw[O];simp only[BA,dR];by_cases r:jG n>=999999
 ·rw[decide_eq_true r,show decide (n.2.2.2.2.2.2.1>=999999)=true from decide_eq_true r];cases decide (to<0) <;> rfl
 ·rw[decide_eq_false r,show decide (n.2.2.2.2.2.2.1>=999999)=false from decide_eq_false r];simp only[cond_false];rcases H with ⟨rfl,y⟩|⟨k,M,z,I,rfl⟩
  ·rw[um y];rfl
  ·rw[un M z I];have X:0<=cI n k/\cI n k<8:=⟨CF _ (by omega),B6 _ (by omega)⟩;rw[decide_eq_false (by omega:¬ cI n k<0)];simp only[cond_false];rw[uO K n _ h J];simp only[BA];have u:wr .i64 (jG n+1)=jG n+1:=aH (by omega) (by omega);rw[show wr .i64 ((gw n).2.2.2.2.2.2.1+1)=n.2.2.2.2.2.2.1+1 from u,aH (n:=cI n k+1) (by omega) (by omega)];simp only[Q41.f];rw[szb _ _ _ (by omega) (by have:=bY (nO h (cI n k));simp;omega)];rfl
def hX (w:ak):Prop:=InP w.2.2.2.1 0 7/\(ak.table w).length<=1048576
theorem tk {n:aa}(y:aB (aa.table n)):(dl n).2.length<=2/\∀ w∈(dl n).2,hX w:=by
 have r:([]:List ak).length<=2/\∀ w∈([]:List ak),hX w:=⟨by simp,by simp⟩;unfold dl;cases (aa.probe n).1==-1 with
 |true=>exact r
 |false =>
  cases !eA (aQ (aa.table n) (aa.probe n).1) with
  |true=>exact r
  |false =>
   cases decide (n.2.2.2.2.2.1-(aa.probe n).2.1>=4) with
   |true=>exact r
   |false =>
    cases decide (n.2.2.2.2.2.1-(aa.probe n).2.1>=2) with
    |false=>exact r
    |true =>
     cases !(aa.probe n).2.2.2 with
     |false=>exact r
     |true =>
      simp only[cond_true,cond_false];refine⟨by rw[By];exact List.length_take_le _ _,λw z=>?_⟩;obtain⟨to,u,rfl⟩:=BV.1 z;obtain⟨f,H,rfl⟩:=BV.1 (BU u);exact⟨(y.1 f (BY.1 H).1).1,BO _⟩
theorem zn {n:aa}(h:ct n):(dR n).2.length<=1/\∀ w∈(dR n).2,hX w:=by
 have r:([]:List ak).length<=1/\∀ w∈([]:List ak),hX w:=⟨by simp,by simp⟩;unfold dR;cases decide (jG n>=999999) with
 |true=>exact r
 |false =>
  simp only[cond_false];cases u:iR n with
  |none=>exact r
  |some to =>
   refine⟨by simp,λw H=>?_⟩;rw[BG.1 H];obtain⟨y,z,I⟩:=el h.table (gY (q8 u).2);exact⟨z ▸ y.1,bY (nO h to)⟩
theorem AS {n:aa}(z:c7 n.1 (aa.others n)){s d:Int}(I:InP s 0 1):InP (l8 n s d) 0 7:=by
 unfold l8;cases r:decide (fG (eG (aa.others n) s)≠[])&&bB .i64 d 4==0 with
 |true =>
  rw[CB,decide_eq_true_eq]at r;have:=(is (d:=Bw d (2 ^ 3)) r.1).2.2;unfold fG at this;obtain⟨f,H,e⟩:=BV.1 (BU this);simp only[cond_true];show InP (gO (fG (eG (aa.others n) s)) (Bw d (2 ^ 3))) 0 7;unfold fG;rw[<- e];exact ((o6 z s).1 f (BY.1 H).1).1
 |false =>
  obtain⟨y,u⟩:=ly (a:=Bw d (2 ^ 3)) (m:=3) (by omega);have y:0<=bB .i64 (Bw d (2 ^ 3)) 3:=y;have u:bB .i64 (Bw d (2 ^ 3)) 3<=3:=u;obtain⟨J,M⟩:=I;simp only[cond_false];exact⟨by omega,by omega⟩
theorem uV {n:aa}(I:aB (aa.table n))(J:c7 n.1 (aa.others n))(r:Int):(j9 n r).length<=2/\∀ w∈j9 n r,hX w:=by
 have u:([]:List ak).length<=2/\∀ w∈([]:List ak),hX w:=⟨by simp,by simp⟩;unfold j9;cases bB .i64 r 3==1 with
 |true =>
  simp only[cond_true,l9];cases lz n with
  |false=>exact u
  |true =>
   refine⟨?_,λw z=>?_⟩
   ·show ((([0,1]:List Int).filter (λs=>s != am n.1)).map _).length<=2;rw[By];exact B3 _ _
   ·obtain⟨s,R,rfl⟩:=BV.1 z;refine⟨AS J ?_,bY I⟩;have:=(BY.1 R).1;simp at this;rcases this with rfl|rfl <;> exact⟨by decide,by decide⟩
 |false =>
  simp only[cond_false];by_cases y:fp n=[]
  ·rw[decide_eq_true y,Bool.or_true];exact u
  ·rw[decide_eq_false y,Bool.or_false];obtain⟨f,O,e⟩:=BV.1 (is (d:=Bw r (2 ^ 2)) y).2.2;have H:InP (gO (fp n) (Bw r (2 ^ 2))) 0 7:=by
    rw[<- e];exact (I.1 f (BY.1 O).1).1
   cases bB .i64 r 3==3 with
   |true=>exact u
   |false =>
    simp only[cond_false];cases bB .i64 r 3==0 with
    |true=>exact⟨by simp,λw z=>by rw[BG.1 z];exact⟨H,bY I⟩⟩
    |false =>
     simp only[cond_false,sY]
     match M:aa.others n with
     |[]=>exact u
     |x::_=>exact⟨by simp,λw z=>by rw[BG.1 z];exact⟨H,bY (J.1 x (by rw[M];simp)).2.2.2.1⟩⟩
theorem UpX.far {n:aa}(h:UpX n):nP n:=⟨by rcases sW h.me h.others with e|⟨x,e⟩ <;> rw[e] <;> simp,λx r=>⟨(h.others.1 x r).2.2.2.1,bY (h.others.1 x r).2.2.2.1⟩⟩
theorem rg {n:aa}(h:UpX n)(H:ch n<=1000000):((aa.probe n).1=-1\/0<=(aa.probe n).1)/\0<=(aa.probe n).2.1/\(aa.probe n).2.1<=1000000:=by
 have r:=h.probe;have u:ch n=n.2.2.2.2.2.1:=rfl;unfold cZ at r;split at r
 ·rename_i I;rw[r];exact⟨.inl rfl,by show (0:Int)<=0;omega,by show (0:Int)<=1000000;omega⟩
 ·obtain⟨_,⟨f,y,e⟩,⟨z,J⟩,_⟩:=r;have:=(h.table.1 f y).1.1;exact⟨.inr (e ▸ this),z,by omega⟩
theorem AT {n:aa}(h:UpN n)(y:ch n<999999)(r:Int):(pM n r).length<=5/\∀ w∈pM n r,hX w:=by
 have I:=(mT h.x.later (show db (d7 n) from h.self)).1.table;obtain⟨H,J⟩:=tk I;obtain⟨O,_,_⟩:=pN h y;have z:=(qu h y).1;obtain⟨X,M⟩:=uV z.x.table z.x.others r;have R:(ft (fu n).1).2.length<=1/\∀ w∈(ft (fu n).1).2,hX w:=by
  unfold ft;cases (aa.probe (fu n).1).1==-1 with
  |true=>exact zn O.x.say
  |false=>exact⟨by simp,by simp⟩
 unfold pM;have H:(fu n).2.length<=2:=H;refine⟨by rw[BL,BL];omega,λw u=>?_⟩;rcases BM.1 u with u|u
 ·rcases BM.1 u with u|u
  ·exact J w u
  ·exact R.2 w u
 ·exact M w u
theorem AU (K:Nat)(n:aa)(H:Int)(h:UpN n)(hg:n.2.2.1=false)(hm:ch n<999999)(X:1048577<K):Q199.f K (n,H,())=some ((kF n,pM n H,()),()):=by
 have a3:=h.x.now0;simp only[Q199.f,zcp4];refine (congrArg (λb=>bif !b then _ else _) h.up).trans ?_;refine (congrArg (λb=>bif b then _ else _) hg).trans ?_;refine (congrArg (λb=>bif b then _ else _) (decide_eq_false (show ¬ n.2.2.2.2.2.1>=999999 by have:ch n=n.2.2.2.2.2.1:=rfl;omega))).trans ?_;simp only[cond_false];rw[show wr .i64 (n.2.2.2.2.2.1+1)=n.2.2.2.2.2.1+1 from aH (by have:ch n=n.2.2.2.2.2.1:=rfl;omega) (by have:ch n=n.2.2.2.2.2.1:=rfl;omega)];have hl:UpX (d7 n):=h.x.later;have a1:∀ d∈aa.doubts (d7 n),0<=d.2.2.1/\d.2.2.1<=(d7 n).2.2.2.2.2.1/\d.2.2.2.length<=1048576:=λd hd=>by
  obtain⟨_,⟨s0,s1⟩,_,h4⟩:=hl.doubts.1 d hd;exact⟨s0,s1,BJ (iP (k:=λx=>x) h4.2 λx hx=>(h4.1 x hx).1) (by decide)⟩
 have Y:∀ d∈aa.doubts (d7 n),∃ f∈aa.table (d7 n),f.1=d.1:=λd hd=>by
  obtain⟨⟨f,hf,e,_⟩,_⟩:=hl.doubts.1 d hd;exact⟨f,hf,e⟩
 have Z:(d7 n).2.2.2.2.2.1<=1000000:=by show ch n+1<=1000000;omega
 refine (congrArg (λo=>BC o _) (AD K (d7 n) ⟨hl.say,Y,rfl⟩ a1 Z X)).trans ?_;simp only[BA];obtain⟨b1,b2,t,c,ds,eb⟩:=mT hl (show db (d7 n) from h.self);have z:sZ (fu n).1:=(pN h hm).1.seq;have a0:ch (kk (d7 n))=ch n+1:=by rw[eb];rfl
 have hp:=rg b1 (by omega);obtain⟨a2,_⟩:=tk b1.table;have R:=(qu h hm).1;have r:=AM K (kF n) H R.x.far R.x.table (bY R.x.table) X;have u:=(pN h hm).1;obtain⟨M,_⟩:=zn u.x.say;obtain⟨y,_⟩:=uV R.x.table R.x.others H;unfold kF ft fu at r R y;unfold fu at z u M;unfold pM kF ft fu;generalize kk (d7 n)=m at *;rcases hp.1 with O|O
 ·have e0:dl m=(m,[]):=by unfold dl;rw[show ((aa.probe m).1==-1)=true by simpa using O];rfl
  rw[e0]at r z u M y ⊢;refine (congrArg (λb=>bif b then _ else _) (decide_eq_false (show ¬ m.2.2.2.2.2.2.2.2.2.2.1.1>=0 by have:(aa.probe m).1=m.2.2.2.2.2.2.2.2.2.2.1.1:=rfl;omega))).trans ?_;refine (congrArg (λb=>bif b then _ else _) (decide_eq_true (show m.2.2.2.2.2.2.2.2.2.2.1.1<0 by have:(aa.probe m).1=m.2.2.2.2.2.2.2.2.2.2.1.1:=rfl;omega))).trans ?_;refine (congrArg (λo=>BC o _) (uU K m u.x.say z X)).trans ?_;simp only[BA];rw[show ((aa.probe m).1==-1)=true by simpa using O]at r y ⊢;simp only[cond_true]at r y M ⊢;rw[szw _ _ _ (by omega) (by simp;omega)];simp only[cond_true];refine (congrArg (λo=>BC o _) r).trans ?_;simp only[BA];rw[szw _ _ _ (by omega) (by simp;omega)];rfl
 ·refine (congrArg (λb=>bif b then _ else _) (decide_eq_true (show m.2.2.2.2.2.2.2.2.2.2.1.1>=0 from O))).trans ?_;refine (congrArg (λo=>BC o _) (AE K m b1.say (by omega) hp.2.1 hp.2.2 b1.now0 (by have:ch m=m.2.2.2.2.2.1:=rfl;omega) X)).trans ?_;simp only[BA];generalize dl m=fo at *;obtain⟨J,ws⟩:=fo;simp only at r z u M y a2 ⊢;have I:=(rg u.x (by have:=u.now1;omega)).1;rcases I with I|I
  ·refine (congrArg (λb=>bif b then _ else _) (decide_eq_true (show J.2.2.2.2.2.2.2.2.2.2.1.1<0 by have:(aa.probe J).1=J.2.2.2.2.2.2.2.2.2.2.1.1:=rfl;omega))).trans ?_;refine (congrArg (λo=>BC o _) (uU K J u.x.say z X)).trans ?_;simp only[BA];rw[show ((aa.probe J).1==-1)=true by simpa using I]at r y ⊢;simp only[cond_true]at r y ⊢;rw[szw _ _ _ (by omega) (by omega)];simp only[cond_true];refine (congrArg (λo=>BC o _) r).trans ?_;simp only[BA];rw[szw _ _ _ (by omega) (by rw[BL];omega)];rfl
  ·refine (congrArg (λb=>bif b then _ else _) (decide_eq_false (show ¬ J.2.2.2.2.2.2.2.2.2.2.1.1<0 by have:(aa.probe J).1=J.2.2.2.2.2.2.2.2.2.2.1.1:=rfl;omega))).trans ?_;rw[show ((aa.probe J).1==-1)=false by simp;omega]at r y ⊢;simp only[cond_false]at r y ⊢;refine (congrArg (λo=>BC o _) r).trans ?_;simp only[BA,List.append_nil];rw[szw _ _ _ (by omega) (by omega)];rfl
theorem tm (K:Nat)(l:List ah)(f:ah)(M:l.length<=1048576)(J:1048577<K):Ret (Q176.f K (l,f,())) (f∈l):=by
 have:=cr (step:=λrec a=>Q176.s0 K (l,f,()) rec a) l.length (λi=>(i:Int)) (λj=>∃ h:j<l.length,l[j]=f) (rb false) (λ_=>rb true) ?_ ?_ l.length K 0 (by omega) (by omega)
 ·rcases this with ⟨y,u⟩|⟨j,_,_,⟨H,z⟩,_,u⟩
  ·refine⟨false,u,?_⟩;refine⟨λh=>absurd h (by decide),λI=>?_⟩;obtain⟨i,r,e⟩:=BX I;exact absurd ⟨r,e⟩ (y i (BO _) r)
  ·exact⟨true,u,λ_=>z ▸ BI H,λ_=>rfl⟩
 ·intro rec i r;simp only[Q176.s0];rw[bo (by omega:(i:Int)<(BD l:Int)),ag r,au i (by omega)];simp only[cond_true,BA];rw[gW];by_cases h:l[i]=f
  ·rw[decide_eq_true h];exact .inr ⟨⟨r,h⟩,rfl⟩
  ·rw[decide_eq_false h];exact .inl ⟨λ⟨_,u⟩=>h u,rfl⟩
 ·intro rec;simp only[Q176.s0,aS];rfl
theorem UpN.nb {n:aa}(h:UpN n):NB n where
 table:=bY h.x.table
 cast:=by have:=clen h.x.say;omega
 doubts:=h.x.say.ld
 by_:=λd r=>by have:=(h.learns.by_ d r).len;omega
 places:=plen h.x.places
 trips:=λp u=>by have:=(h.x.places.1 p u).2.2.2.2.1.2;omega
 others:=olen h.x.others
 facts:=λx y=>bY (h.x.others.1 x y).2.2.2.1
def jm (r:Int)(g:Bool):aa:=(r,false,false,g,0,0,0,0,[],[],(0,0,0,false),[],(0,0,0,0),[],[])
structure ei (i:Nat) (n:aa):Prop where
 me:n.1=(i:Int)
 lt:i<8
 up:n.2.1=true->UpN n
 down:n.2.1=false->n=jm n.1 n.2.2.2.1
theorem ei.nb {i:Nat}{n:aa}(h:ei i n):NB n:=by
 cases r:n.2.1 with
 |true=>exact (h.up r).nb
 |false =>
  rw[h.down r];exact⟨by simp[jm,aa.table],by simp[jm,aa.cast],by simp[jm,aa.doubts],by simp[jm,aa.doubts],by simp[jm,aa.places],by simp[jm,aa.places],by simp[jm,aa.others],by simp[jm,aa.others]⟩
theorem ei.short {i:Nat}{n:aa}(h:ei i n):(aa.table n).length<=4:=by
 cases r:n.2.1 with
 |true=>exact ui (h.up r).x.table (h.up r).x.site
 |false=>rw[h.down r];exact BO _
theorem ei.of {i:Nat}{n m:aa}(h:ei i n)(r:UpN m)(e:m.1=n.1):ei i m:=⟨e.trans h.me,h.lt,λ_=>r,λu=>by rw[r.up]at u;cases u⟩
def fR (l:List lx):Prop:=l.length<=60/\∀ f∈l,InP f.1 0 7/\f.2.1.size<=2000
structure WI (w:bR) (c:Nat):Prop where
 len:w.1.length=8
 node:∀ (i:Nat) (h:i<w.1.length),ei i w.1[i]
 radio:fR w.2.1
 sides:w.2.2.1.length=8
 born:w.2.2.2.length<=c
theorem WI.mono {w:bR}{c d:Nat}(h:WI w c)(r:c<=d):WI w d:=⟨h.len,h.node,h.radio,h.sides,BJ h.born r⟩
theorem WI.put {w:bR}{c:Nat}(h:WI w c){i:Nat}{n:aa}(r:ei i n){rd:List lx}(z:fR rd){b:List ah}{d:Nat}(y:b.length<=d):WI (w.1.set i n,rd,w.2.2.1,b) d:=by
 refine⟨by rw[BK];exact h.len,λj u=>?_,z,h.sides,y⟩;show ei j ((w.1.set i n)[j]'u);rw[List.getElem_set];split
 ·rename_i e;exact e ▸ r
 ·exact h.node j _
theorem xw (K:Nat)(w:bR)(Y:Int)(u:List ak)(hs:w.2.2.1.length=8)(z:InP Y 0 7)(O:∀ x∈u,hX x)(hr:fR w.2.1)(hl:u.length<=1000)(hK:1048577<K) :
  Tot (Q173.f K (w,Y,u,())) λr=>∃ rd,fR rd/\r.1.1=(w.1,rd,w.2.2):=by
 simp only[Q173.f,Q173.pre];obtain⟨f0,f1⟩:=z;refine Tot.iter (step:=λrec a=>Q173.s0 K (w,Y,u,()) rec a) (λa=>0<=a.1/\a.1<=u.length/\fR a.2) (λa=>u.length-a.1.toNat) ?_ K _ (by show u.length-BE 0<K;omega) ⟨by show (0:Int)<=0;omega,by show (0:Int)<=_;omega,hr⟩;rintro rec ⟨i,rd⟩ ⟨I,h1,H⟩ ih;simp only at I h1 H ih ⊢;simp only[Q173.s0];refine Tot.cnd (λh=>?_) λ_=>Tot.ret ⟨rd,H,rfl⟩
 have h:=of_decide_eq_true h;rw[aH (n:=i+1) (by omega) (by omega)];have R:∀ y,fR y->Tot (rec (i+1,y)) λr=>∃ rd,fR rd/\r.1.1=(w.1,rd,w.2.2):=λy J=>ih _ ⟨by show 0<=i+1;omega,by show i+1<=_;omega,J⟩ (by show u.length-BE (i+1)<u.length-BE i;omega)
 refine Tot.cnd (λh3=>?_) λ_=>R rd H
 have h3:=of_decide_eq_true h3;refine Tot.ix f0 (by omega) λ_ _ _=>Tot.ix I h λy2 X _=>?_
 obtain⟨⟨t0,t1⟩,_⟩:=O y2 X;refine Tot.ix t0 (by omega) λ_ _ _=>Tot.cnd (λ_=>Tot.fit (Tot.ix I h λy4 M _=>Tot.ix I h λy5 Z _=>Tot.bind (ol K y5 (O y5 Z).2 hK) λv hv=>Tot.fit (R _ ⟨?_,λf z=>?_⟩) (by omega) ?_) (by omega) ?_) λ_=>R rd H
 ·simp;omega
 ·rcases BM.1 z with z|z
  ·exact H.2 f (by simpa using z)
  ·rw[BG.1 z];exact⟨(O y4 M).1,by show v.1.1.size<=2000;have:=hv.1;omega⟩
 ·simp;omega
 ·simp;omega
theorem Tot.ins {α:Type}{l:List α}{x:α}{a:Int}{c:Nat}{Q:(List α×Unit)×Unit->Prop}(u:0<=a)(H:a<=l.length)(z:l.length<=1048576)(y:c<=64)(k:∀ r:List α,r.length=l.length+1->Q ((r,()),())) :
  Tot (bif decide ((0:Int)<=0)&&decide (0<=a)&&decide (a<=(BD l:Int))&&true then (bif decide ((BD ([]:List α)+BD ((l.take (BE a)).drop (BE 0)))*c<=ao) then (bif decide ((BD ([]++((l.take (BE a)).drop (BE 0)))+BD ([x]))*c<=ao) then (bif decide (0<=a)&&decide (a<=(BD l:Int))&&decide ((BD l:Int)<=(BD l:Int))&&true then (bif decide ((BD (([]++((l.take (BE a)).drop (BE 0)))++([x]))+BD ((l.take (BE (BD l:Int))).drop (BE a)))*c<=ao) then (some (((([]++((l.take (BE a)).drop (BE 0)))++([x]))++((l.take (BE (BD l:Int))).drop (BE a)),()),())) else none) else none) else none) else none) else none) Q:=by
 obtain⟨m,rfl⟩:=BN u;refine Tot.must (by simp;omega) (Tot.fit (Tot.fit (Tot.must (by simp;omega) (Tot.fit (Tot.ret (k _ ?_)) (by omega) ?_)) (by omega) ?_) (by omega) ?_) <;>
 simp only[BF,Br,BS,BP,BL,BW,Bx,CD,Bz] <;> omega
theorem yI (K:Nat)(f g:ah):Tot (Q174.f K (f,g,())) λ_=>True:=by
 simp only[Q174.f];exact Tot.cnd (λ_=>Tot.ret trivial) λ_=>Tot.bind (sD K g f).tot λ_ _=>Tot.ret trivial
theorem xx (K:Nat)(l:List ah)(f:ah)(M:l.length<=1048576)(R:1048577<K):Tot (Q175.f K (l,f,())) λr=>r.1.1.length<=l.length+1:=by
 simp only[Q175.f,Q175.pre];refine Tot.iter (A:=Int) (step:=λrec a=>Q175.s0 K (l,f,()) rec a) (λa=>0<=a/\a<=l.length) (λa=>l.length-a.toNat) ?_ K _ (by show l.length-BE 0<K;omega) ⟨by show (0:Int)<=0;omega,by show (0:Int)<=_;omega⟩;rintro rec i ⟨H,z⟩ J;simp only[Q175.s0];have u:=λ (z:i<=l.length)=>Tot.ins (x:=f) (c:=32) (Q:=λr=>r.1.1.length<=l.length+1) H z M (by omega) λr O=>by show r.length<=_;omega
 have y:l.length<=l.length+1:=B4 _;refine Tot.cnd (λh=>?_) λ_=>Tot.cnd (λh=>Tot.ix H (of_decide_eq_true h) λ_ _ _=>Tot.cnd (λ_=>Tot.ret y) λ_=>u z) λ_=>u z
 have h:i<(l.length:Int):=of_decide_eq_true h;rw[aH (n:=i+1) (by omega) (by omega)];refine Tot.ix H h λI _ _=>Tot.bind (yI K I f) λ_ _=>Tot.cnd (λ_=>J (i+1) ⟨by show 0<=i+1;omega,by show i+1<=(l.length:Int);omega⟩ (by show l.length-BE (i+1)<l.length-BE i;omega)) λ_=>Tot.cnd (λ_=>Tot.ix H h λ_ _ _=>Tot.cnd (λ_=>Tot.ret y) λ_=>u z) λ_=>u z
theorem zo (K:Nat)(w:bR)(z y u:List ah)(h1:z.length<=1048576)(Z:y.length<=1048576)(h3:u.length<=100)(hb:w.2.2.2.length<=1000000)(J:1048577<K) :
  Tot (Q177.f K (w,z,y,u,())) λr=>∃ b,b.length<=w.2.2.2.length+u.length/\r.1.1=(w.1,w.2.1,w.2.2.1,b):=by
 simp only[Q177.f,Q177.pre];refine Tot.iter (step:=λrec a=>Q177.s0 K (w,z,y,u,()) rec a) (λa=>0<=a.1/\a.1<=u.length/\(a.2.length:Int)<=w.2.2.2.length+a.1) (λa=>u.length-a.1.toNat) ?_ K _ (by show u.length-BE 0<K;omega) ⟨by show (0:Int)<=0;omega,by show (0:Int)<=_;omega,by show (w.2.2.2.length:Int)<=w.2.2.2.length+0;omega⟩;rintro rec ⟨i,b⟩ ⟨I,Y,i2⟩ O;simp only at I Y i2 O ⊢;simp only[Q177.s0];refine Tot.cnd (λh=>?_) λ_=>Tot.ret ⟨b,by omega,rfl⟩
 have h:=of_decide_eq_true h;rw[aH (n:=i+1) (by omega) (by omega)];have M:∀ H:List ah,H.length<=b.length+1->Tot (rec (i+1,H)) λr=>∃ b,b.length<=w.2.2.2.length+u.length/\r.1.1=(w.1,w.2.1,w.2.2.1,b):=λH a0=>O _ ⟨by show 0<=i+1;omega,by show i+1<=_;omega,by show (H.length:Int)<=_+(i+1);omega⟩ (by show u.length-BE (i+1)<u.length-BE i;omega)
 refine Tot.ix I h λy1 _ _=>Tot.bind (tm K z y1 h1 J).tot λ_ _=>Tot.cnd (λ_=>?_) λ_=>M b (B4 _)
 refine Tot.ix I h λX _ _=>Tot.bind (tm K y X Z J).tot λ_ _=>Tot.cnd (λ_=>?_) λ_=>M b (B4 _)
 exact Tot.ix I h λR _ _=>Tot.bind (xx K b R (by omega) J) λv hv=>M v.1.1 hv
structure zp (w:bR) (i:Nat) (n:aa) (ws:List ak) (heard:List ah) (c:Nat):Prop where
 wi:WI w c
 lt:i<8
 n:ei i n
 sent:∀ x∈ws,hX x
 wl:ws.length<=1000
 hl:heard.length<=1048576
 c:c<=1000000
theorem set_t (K:Nat)(w:bR)(i:Nat)(n:aa)(H:List ak)(u:List ah)(c:Nat)(h:zp w i n H u c)(I:1048577<K):Tot (Q178.f K ((w,i),n,H,u,())) λr=>WI r.1.1 (c+4):=by
 simp only[Q178.f];have z:i<w.1.length:=by rw[h.wi.len];exact h.lt
 have M:=h.c;have O:=h.wi.born;have J:=h.n.short;rw[h.n.me];refine Tot.vl (ag z) (Tot.vl (by rw[BF];exact ag z) (Tot.vl (ag z) (Tot.vl (by rw[BF];exact ag z) ?_)));refine Tot.must (by simp) ?_;rw[BF];refine Tot.bind (zo K (w.1.set i n,w.2) (aa.table w.1[i]) u (aa.table n) (h.wi.node i z).nb.table h.hl (by omega) (by show w.2.2.2.length<=_;omega) I) ?_;rintro⟨⟨v,⟨⟩⟩,⟨⟩⟩ ⟨b,y,rfl⟩;refine Tot.bind (xw K (w.1.set i n,w.2.1,w.2.2.1,b) (i:Int) H h.wi.sides ⟨by omega,by have:=h.lt;omega⟩ h.sent h.wi.radio h.wl I) ?_;rintro⟨⟨v,⟨⟩⟩,⟨⟩⟩ ⟨rd,hr,rfl⟩;have y:b.length<=w.2.2.2.length+(aa.table n).length:=y;exact Tot.ret (h.wi.put h.n hr (by omega))
theorem AV (K:Nat)(w:bR)(i:Nat)(n:aa)(H:List ak)(u:List ah)(c:Nat)(h:zp w i n H u c)(I:1048577<K):Tot (Q181.f K (w,n,H,u,())) λr=>WI r.1.1 (c+4):=by
 simp only[Q181.f];have z:i<w.1.length:=by rw[h.wi.len];exact h.lt
 have M:=h.c;have O:=h.wi.born;have J:=h.n.short;rw[h.n.me];refine Tot.vl (ag z) (Tot.vl (by rw[BF];exact ag z) (Tot.vl (ag z) (Tot.vl (by rw[BF];exact ag z) ?_)));rw[BF];refine Tot.bind (zo K (w.1.set i n,w.2) (aa.table w.1[i]) u (aa.table n) (h.wi.node i z).nb.table h.hl (by omega) (by show w.2.2.2.length<=_;omega) I) ?_;rintro⟨⟨v,⟨⟩⟩,⟨⟩⟩ ⟨b,y,rfl⟩;refine Tot.bind (xw K (w.1.set i n,w.2.1,w.2.2.1,b) (i:Int) H h.wi.sides ⟨by omega,by have:=h.lt;omega⟩ h.sent h.wi.radio h.wl I) ?_;rintro⟨⟨v,⟨⟩⟩,⟨⟩⟩ ⟨rd,hr,rfl⟩;have y:b.length<=w.2.2.2.length+(aa.table n).length:=y;exact Tot.ret (h.wi.put h.n hr (by omega))
theorem rh (K:Nat)(l:List lx)(at_:Int)(z:0<=at_)(I:at_<l.length)(y:fR l):Tot (Q172.f K (l,at_,())) λr=>fR r.1.1:=by
 have H:=y.1;obtain⟨m,rfl⟩:=BN z;simp only[Q172.f];rw[au m (by omega)];refine Tot.must (by simp;omega) (Tot.fit (Tot.must (by simp;omega) (Tot.fit (Tot.ret ⟨?_,λf u=>y.2 f ?_⟩) (by omega) ?_)) (by omega) ?_)
 ·simp only[BF,Br,BS,BP,BL,BW,Bx];omega
 ·simp only[BF,Br,BS,BP,Bv]at u;rcases BM.1 u with u|u
  ·exact BU u
  ·exact List.mem_of_mem_drop u
 ·simp only[BF,Br,BS,BP,BL,BW,Bx];omega
 ·simp only[BF,Br,BS,BP,BW,Bz];omega
theorem ri (K:Nat)(w:bR)(c:Nat)(h:WI w c)(Y:c<=1000000)(to:Int)(t0:0<=to)(t1:to<=7)(x:ak)(X:dK x)(H:1048577<K){G:aa->aa->Option ((bR×Unit)×Unit)}
  (Z:∀ y:aa,G y y=(Q61.f K (y,x,())).bind λI=>(Q178.f K ((w,BE to),I.1.1,I.1.2.1,ak.table x,())).bind λR=>some ((R.1.1,()),())) :
  Tot ((idx w.1 to).bind λ_=>(idx w.1 (BE to:Nat)).bind λO=>(idx w.1 (BE to:Nat)).bind λM=>G O M) λr=>WI r.1.1 (c+4):=by
 obtain⟨i,rfl⟩:=BN t0;have J:i<w.1.length:=by rw[h.len];omega
 have z:=h.node i J;refine Tot.vl (ag J) (Tot.vl (by rw[BF];exact ag J) (Tot.vl (by rw[BF];exact ag J) ?_));rw[Z,xv K w.1[i] x z.up (bY X.2.2.2.2.2.2.2.1) H];simp only[BA,BF];refine Tot.bind (set_t K w i _ _ _ c ⟨h,z.lt,?_,?_,?_,bY X.2.2.2.2.2.2.2.1,Y⟩ H) λv hv=>Tot.ret hv
 ·cases u:w.1[i].2.1 with
  |true=>exact z.of (qz (z.up u) H).1 (qz (z.up u) H).2.1
  |false =>
   rw[show bK K w.1[i] x=(w.1[i],[]) by unfold bK;rw[if_neg λh=>by have:=h.2.1;rw[u]at this;cases this]];exact z
 ·cases u:w.1[i].2.1 with
  |true=>exact λy hy=>(mf (z.up u) H).2 y hy
  |false =>
   rw[show bK K w.1[i] x=(w.1[i],[]) by unfold bK;rw[if_neg λh=>by have:=h.2.1;rw[u]at this;cases this]];simp
 ·cases u:w.1[i].2.1 with
  |true=>have:=(mf (w:=x) (z.up u) H).1;omega
  |false =>
   rw[show bK K w.1[i] x=(w.1[i],[]) by unfold bK;rw[if_neg λh=>by have:=h.2.1;rw[u]at this;cases this]];simp
theorem z8 (K:Nat)(w:bR)(c:Nat)(h:WI w c)(hc:c<=1000000)(at_:Int)(keep:Bool)(h0:0<=at_)(h1:at_<w.2.1.length)(X:1048577<K):Tot (Q179.f K (w,at_,keep,())) λr=>WI r.1.1 (c+4):=by
 simp only[Q179.f,zcp8];refine Tot.ix2 h0 h1 λf hf _=>?_
 obtain⟨⟨t0,t1⟩,a0⟩:=h.radio.2 f hf;have hs:=h.sides;refine Tot.cnd (λ_=>Tot.bind (rh K w.2.1 at_ h0 h1 h.radio) ?_) λ_=>Tot.bind (mb K f.2.1 (by omega) X) ?_
 ·rintro⟨⟨rd,⟨⟩⟩,⟨⟩⟩ hr;have M:WI (w.1,rd,w.2.2) (c+4):=⟨h.len,h.node,hr,h.sides,BJ h.born (by omega)⟩;refine Tot.bind (mb K f.2.1 (by omega) X) ?_;rintro⟨⟨(x:ak),ok,⟨⟩⟩,⟨⟩⟩ H;refine Tot.cnd (λ_=>Tot.ret M) λY=>?_
  have H:dK x:=H (by simpa using Y);obtain⟨I,Z⟩:=H.2.2.1;have O:x.2.2.1<(w.2.2.1.length:Int):=by rw[hs];omega
  refine Tot.ix2 I O λ_ _ _=>Tot.ix2 t0 (by omega) λ_ _ _=>Tot.cnd (λ_=>Tot.ret M) λ_=>Tot.cnd (λ_=>Tot.ret M) λ_=>?_
  exact ri K (w.1,rd,w.2.2) c ⟨h.len,h.node,hr,h.sides,h.born⟩ hc f.1 t0 t1 x H X (G:=λu J=>(Q61.f K ((u.1,(u.2.1,(u.2.2.1,(u.2.2.2.1,(u.2.2.2.2.1,(u.2.2.2.2.2.1,(u.2.2.2.2.2.2.1,(u.2.2.2.2.2.2.2.1,(u.2.2.2.2.2.2.2.2.1,(u.2.2.2.2.2.2.2.2.2.1,(u.2.2.2.2.2.2.2.2.2.2.1,(J.2.2.2.2.2.2.2.2.2.2.2.1,u.2.2.2.2.2.2.2.2.2.2.2.2)))))))))))),x,())).bind λz=>(Q178.f K (((w.1,rd,w.2.2),BE f.1),z.1.1,z.1.2.1,ak.table x,())).bind λR=>some ((R.1.1,()),())) λy=>rfl
 ·rintro⟨⟨(x:ak),ok,⟨⟩⟩,⟨⟩⟩ H;have M:WI w (c+4):=h.mono (by omega);refine Tot.cnd (λ_=>Tot.ret M) λY=>?_
  have H:dK x:=H (by simpa using Y);obtain⟨I,Z⟩:=H.2.2.1;have O:x.2.2.1<(w.2.2.1.length:Int):=by rw[hs];omega
  refine Tot.ix2 I O λ_ _ _=>Tot.ix2 t0 (by omega) λ_ _ _=>Tot.cnd (λ_=>Tot.ret M) λ_=>Tot.cnd (λ_=>Tot.ret M) λ_=>?_
  exact ri K w c h hc f.1 t0 t1 x H X (G:=λu J=>(Q61.f K ((u.1,(u.2.1,(u.2.2.1,(u.2.2.2.1,(u.2.2.2.2.1,(u.2.2.2.2.2.1,(u.2.2.2.2.2.2.1,(u.2.2.2.2.2.2.2.1,(u.2.2.2.2.2.2.2.2.1,(u.2.2.2.2.2.2.2.2.2.1,(u.2.2.2.2.2.2.2.2.2.2.1,(J.2.2.2.2.2.2.2.2.2.2.2.1,u.2.2.2.2.2.2.2.2.2.2.2.2)))))))))))),x,())).bind λz=>(Q178.f K (((w.1,w.2),BE f.1),z.1.1,z.1.2.1,ak.table x,())).bind λR=>some ((R.1.1,()),())) λy=>rfl
theorem z9 (K:Nat)(w:bR)(c:Nat)(h:WI w c)(at_ u:Int)(M:0<=at_)(R:at_<w.2.1.length):Tot (Q180.f K (w,at_,u,())) λr=>WI r.1.1 c:=by
 simp only[Q180.f];refine Tot.ix2 M R λf Z _=>?_
 obtain⟨z,y⟩:=h.radio.2 f Z;refine Tot.cnd (λ_=>Tot.ret h) λ_=>Tot.cnd (λ_=>Tot.ret h) λY=>?_
 have I:¬ (f.2.1.size:Int)=0:=by simpa using Y
 obtain⟨H,b1⟩:=ly (a:=u) (m:=4095) (by omega);have H:0<=bB .i64 u 4095:=H;have X:0<=BR (bB .i64 u 4095) (f.2.1.size:Int):=CF _ H;have O:BR (bB .i64 u 4095) (f.2.1.size:Int)<((er f.2.1).length:Int):=by rw[ra];exact B6 _ (by omega)
 refine Tot.not (decide_eq_false I) (Tot.ix2 X O λ_ _ _=>Tot.ix2 X O λ_ _ _=>Tot.ix2 M R λ_ _ _=>Tot.ret ⟨h.len,h.node,⟨?_,λg J=>?_⟩,h.sides,h.born⟩)
 ·show (w.2.1.set _ _).length<=60;rw[BK];exact h.radio.1
 ·rcases List.mem_or_eq_of_mem_set J with J|rfl
  ·exact h.radio.2 g J
  ·refine⟨z,?_⟩;show (gI _).size<=2000;rw[iS,BK,ra];exact y
def mg (i:Int)(g:Bool):aa:=(i,true,false,g,0,0,0,0,[(i,0,1,g)],[],(-1,0,0,false),[],(0,0,0,1500),[],[])
theorem Aa {i:Int}{g:Bool}(h:InP i 0 7):UpN (mg i g):=by
 refine⟨⟨h,Bt _,⟨λf u=>?_,List.pairwise_singleton _ _⟩,λf u=>?_,⟨λx y=>(nomatch y),List.Pairwise.nil⟩,λx y=>(nomatch y),?_,⟨λd z=>(nomatch z),List.Pairwise.nil,rfl⟩,⟨?_,?_,?_,?_⟩,⟨λp r=>(nomatch r),List.Pairwise.nil⟩,⟨λp r=>(nomatch r),List.Pairwise.nil⟩⟩,?_,?_,⟨?_,?_⟩,?_,rfl⟩
 ·rw[BG.1 u];exact⟨h,⟨by show (0:Int)<=0;omega,by show (0:Int)<=999;omega⟩,by show (1:Int)<=1;omega,by show (1:Int)<=4;omega⟩
 ·rw[BG.1 u];rfl
 ·unfold cZ;rw[if_pos (show (aa.probe (mg i g)).1=-1 from rfl)];rfl
 ·exact⟨by show (-100000:Int)<=0;omega,by show (0:Int)<=100000;omega⟩
 ·exact⟨by show (-100000:Int)<=0;omega,by show (0:Int)<=100000;omega⟩
 ·exact⟨by show (0:Int)<=0;omega,by show (0:Int)<=100000;omega⟩
 ·exact⟨by show (1:Int)<=1500;omega,by show (1500:Int)<=1500;omega⟩
 ·exact BG.2 rfl
 ·show (0:Int)<=999999;omega
 ·exact⟨by show (0:Int)<=0;omega,by show (0:Int)<=999999;omega⟩
 ·exact⟨by show (0:Int)<=0;omega,by show (0:Int)<=8;omega⟩
 ·exact⟨by show (0:Int)<=0;omega,by show (0:Int)<=999;omega⟩
theorem rj (K:Nat)(i:Int)(g:Bool)(h:InP i 0 7):Q152.f K (i,g,())=some ((mg i g,()),()):=by
 simp only[Q152.f];obtain⟨b,e,r⟩:=cG K i 0 7;rw[e,r.2 h];rfl
theorem ei.new (i:Nat)(g:Bool)(h:i<8):ei i (mg (i:Int) g):=⟨rfl,h,λ_=>Aa ⟨by omega,by omega⟩,λr=>by cases r⟩
theorem AW (K:Nat)(w:bR)(c:Nat)(h:WI w c)(J:c<=1000000)(u:Int)(y:InP u 0 7)(I:1048577<K):Tot (Q183.f K (w,u,())) λr=>WI r.1.1 (c+4):=by
 have O:=h.born;have H:u.toNat<8:=by obtain⟨a,b⟩:=y;omega
 have z:=h.len;simp only[Q183.f,Q153.f,BA];rw[rj K u _ y];simp only[BA];refine Tot.ix2 y.1 (by have:=y.2;omega) λ_ _ _=>?_
 refine Tot.vl (show idx (mg u (decide (BR u 4<3))).2.2.2.2.2.2.2.2.1 0=some (u,0,1,decide (BR u 4<3)) from rfl) (Tot.bind (xx K w.2.2.2 _ (by omega) I) λv M=>Tot.ret (h.put ?_ h.radio (by omega)));have:=ei.new u.toNat (decide (BR u 4<3)) H
 rwa [B5 y.1]at this
theorem AX (K:Nat)(n:aa)(w:ak)(M:NB n)(u:(ak.table w).length<=1048576)(r:1048577<K):Ret (Q229.f K (n,w,())) (fF n/\dK w/\gx n w):=by
 obtain⟨I,X,z⟩:=oT K n M r;obtain⟨Y,H,y⟩:=lW K w u r;obtain⟨O,J,R⟩:=uS K n w u r;simp only[Q229.f];rw[X];cases I with
 |false=>exact⟨false,rfl,by simp only[B7,false_iff];exact λh=>by have:=z.2 h.1;cases this⟩
 |true =>
  simp only[rb,BA,BH,cond_false];rw[H];cases Y with
  |false=>exact⟨false,rfl,by simp only[B7,false_iff];exact λh=>by have:=y.2 h.2.1;cases this⟩
  |true =>
   simp only[rb,BA,BH,cond_false];rw[J];exact⟨O,rfl,R.trans ⟨λh=>⟨z.1 rfl,y.1 rfl,h⟩,λh=>h.2.2⟩⟩
theorem pV (K:Nat)(n:aa)(w:ak)(u:NB n)(y:(ak.table w).length<=1048576)(H:1048577<K):∃ b,Q229.f K (n,w,())=rb b/\Q104.f K (n,w,())=rb b/\(b=true<->fF n/\dK w/\gx n w):=by
 obtain⟨b,z,J⟩:=vR K n w u y H;obtain⟨I,r,M⟩:=AX K n w u y H;rw[z]at r;have:b=I:=by simpa[rb]using r
 subst this;exact⟨b,z,J,M⟩
theorem xy (K:Nat)(n:aa)(r:Int)(w:ak)(h:ct n)(u:1048577<K):Q141.f K (n,r,w,())=some ((mc r (gw n) w.2.2.2.2.2.1 w.2.2.2.2.1 n.1 (fK n w.2.2.2.2.2.1),()),(gw n,())):=by
 simp only[Q141.f,zcp4];refine (congrArg (λo=>BC o _) (vH K n w.2.2.2.2.2.1 h u)).trans ?_;simp only[BA,Q121.f];rfl
theorem yJ (K:Nat)(n:aa)(x:Int)(u:InP x 0 7):Q95.f K (n,x,())=rb (am x==am n.1&&x != n.1):=by
 obtain⟨b,e,h⟩:=pC K n x;simp only[Q95.f];rw[e];have r:b=(am x==am n.1):=by
  rw[BQ,h,beq_iff_eq];exact⟨λh=>h.2,λh=>⟨u,h⟩⟩
 subst r;simp only[rb,BA];cases am x==am n.1 with
 |true=>rfl
 |false=>rfl
theorem yK (K:Nat)(xs r:List ah)(X:xs.length<=1048576)(O:1048577<K):Q120.f K (xs,r,())=rb (decide (xs=r)):=by
 simp only[Q120.f,Q120.pre];by_cases y:xs.length=r.length
 case neg =>
  rw[show ((BD xs:Int) != (BD r:Int))=true by simp only[bne_iff_ne,ne_eq];omega,decide_eq_false (λe=>y (by rw[e]))];rfl
 rw[show ((BD xs:Int) != (BD r:Int))=false by rw[y];simp];simp only[cond_false];have:=cr (step:=λrec a=>Q120.s0 K (xs,r,()) rec a) xs.length (λi=>(i:Int)) (λj=>∃ h:j<xs.length,xs[j]≠r[j]'(by omega)) (rb true) (λ_=>rb false) ?_ ?_ xs.length K 0 (by omega) (by omega)
 ·rcases this with ⟨J,u⟩|⟨j,_,J,⟨R,M⟩,_,u⟩
  ·rw[decide_eq_true (List.ext_getElem y λi h _=>Classical.byContradiction λz=>J i (BO _) h ⟨h,z⟩)];exact u
  ·rw[decide_eq_false (λe=>M (by subst e;rfl))];exact u
 ·intro rec i I;have H:i<r.length:=by omega
  simp only[Q120.s0];rw[bo (by omega:(i:Int)<(BD xs:Int)),ag I,ag H,au i (by omega)];simp only[cond_true,BA];by_cases e:xs[i]=r[i]
  ·left;refine⟨λ⟨_,h⟩=>h e,?_⟩;rw[show Ty.eqv t2 xs[i] r[i]=decide (xs[i]=r[i]) from gW _ _,decide_eq_true e];rfl
  ·right;refine⟨⟨I,e⟩,?_⟩;rw[show Ty.eqv t2 xs[i] r[i]=decide (xs[i]=r[i]) from gW _ _,decide_eq_false e];rfl
 ·intro rec;simp only[Q120.s0,aS];rfl
theorem yL (K:Nat)(t:List bZ)(v:Int)(ht:t.length<=1048576)(z:Asc (λx:bZ=>x.1) t)(h7:∀ d∈t,InP d.1 0 7)(X:InP v 0 7)(hK:1048577<K) :
  ∃ m,m<=t.length/\(∀ i,(h:i<t.length)->i<m->t[i].1<v)/\(∀ i,(h:i<t.length)->m<=i->v<=t[i].1)/\Q118.f K (t,v,(λH=>(Q119.f K (H.1,H.2.1,())).map λy=>y.1.1),())=some ((((m:Nat):Int),decide (∃ h:m<t.length,t[m].1=v),()),()):=by
 let ks:Nat->Int:=λi=>if h:i<t.length then t[i].1 else 0
 have r:∀ i (h:i<t.length),ks i=t[i].1:=λi h=>by simp[ks,h]
 let I:Nat->Option ((Int×Bool×Unit)×Unit):=λm=>some ((((m:Nat):Int),decide (∃ h:m<t.length,t[m].1=v),()),())
 have R:∀ d∈t,((Q119.f K (d,v,())).map λy=>y.1.1)=some (d.1-v):=λd hd=>by
  obtain⟨a1,a2⟩:=h7 d hd;obtain⟨a3,a4⟩:=X;simp only[Q119.f];rw[aH (by omega) (by omega)];rfl
 have:=pz (step:=λrec a=>Q118.s0 K (t,v,(λH=>(Q119.f K (H.1,H.2.1,())).map λy=>y.1.1),()) rec a) (ks:=ks) (n:=t.length) (t:=v) I ht
  (λi j M O=>by
   rw[r i (by omega),r j O];exact cD.1 z i j (by omega) O M) ?_ ?_ t.length K 0 t.length (by omega) (BO _) (BT _) (by omega) (λi u=>by omega) (λi u X=>by omega)
 ·obtain⟨m,h1,h2,h3,h4⟩:=this;exact⟨m,h1,λi h u=>by rw[<- r i h];exact h2 i u,λi h u=>by rw[<- r i h];exact h3 i u h,h4⟩
 ·intro rec a b Y hb;have J:(a+b) / 2<t.length:=by omega
  simp only[Q118.s0];rw[decide_eq_true (by omega:(a:Int)<(b:Int)),nH (by omega)];simp only[cond_true];rw[ag J];simp only[BA,R _ (BI J)];rw[r _ J,au _ (by omega)];by_cases h:t[(a+b) / 2].1<v
  ·rw[if_pos h,decide_eq_true (by omega:t[(a+b) / 2].1-v<0)];rfl
  ·rw[if_neg h,decide_eq_false (by omega:¬ t[(a+b) / 2].1-v<0)];rfl
 ·intro rec a ha;simp only[Q118.s0];rw[decide_eq_false (by omega)];simp only[cond_false];by_cases h:a<t.length
  ·rw[decide_eq_true (by omega:(a:Int)<(BD t:Int)),ag h];simp only[cond_true,BA,R _ (BI h)];have:(t[a].1-v==0)=decide (∃ h:a<t.length,t[a].1=v):=by
    rw[BQ];simp only[beq_iff_eq,decide_eq_true_eq];exact⟨λe=>⟨h,by omega⟩,λ⟨_,e⟩=>by omega⟩
   rw[this]
  ·rw[decide_eq_false (by omega:¬ (a:Int)<(BD t:Int))];simp only[cond_false,I];rw[decide_eq_false (λ⟨Z,_⟩=>h Z)]
theorem xz {R:Type}(K:Nat)(n m:aa)(w:ak)(I:InP w.1 1 2)(X:(bG n w).length<=1048576)(O:m.1=n.1)(M:aa.coord m=aa.coord n)(J:1048577<K)(G:List ak->Option R) :
  (bif w.1==1 then G [] else ((Q120.f K (bG n w,ak.table w,())).bind λy=>bif y.1.1 then G [] else ((Q121.f K (m,6,w.2.2.1,())).bind λr=>(Q0.f K (bG n w,())).bind λH =>
   G [(2,r.1.1.2.1,r.1.1.2.2.1,r.1.1.2.2.2.1,r.1.1.2.2.2.2.1,r.1.1.2.2.2.2.2.1,r.1.1.2.2.2.2.2.2.1,H.1.1)])))=G (bif w.1==2&&decide (ak.table w≠bG n w) then [vP n w] else []):=by
 by_cases u:w.1=1
 ·rw[u];rfl
 ·have z:w.1=2:=by obtain⟨a,b⟩:=I;omega
  rw[show (w.1==1)=false by simpa using u,show (w.1==2)=true by simpa using z,yK K _ _ X J];simp only[cond_false,rb,BA,Bu];by_cases e:bG n w=ak.table w
  ·rw[decide_eq_true e,decide_eq_false (p:=ak.table w≠bG n w) (λh=>h e.symm)];rfl
  ·rw[decide_eq_false e,decide_eq_true (p:=ak.table w≠bG n w) (λh=>e h.symm)];simp only[cond_false,cond_true,Q121.f,BA,Q0.f];rw[dY (by show (bG n w).length*_<=_;omega)];simp only[BA];unfold vP;rw[O,show m.2.2.2.2.2.2.2.2.2.2.2.2.1=aa.coord n from M]
theorem sum_i (K:Nat)(n:aa)(w:ak)(hn:NB n)(h:UpN n)(hp:InP w.1 1 2)(O:aB (ak.table w))(r:lV (ak.table w))(u:1048577<K):Q122.f K (n,w,())=some (((eQ n w).2,()),((eQ n w).1,())):=by
 have X:idx (ak.table w) 0=some (cj (ak.table w)):=by
  cases ht:ak.table w with
  |nil=>rw[ht]at r;exact r.elim
  |cons f l=>rfl
 have Z:=uT (tj r O);have a0:InP (am (cj (ak.table w)).1) 0 7:=⟨Z.1,CA Z.2 (by decide)⟩;have hb:md (ak.table w) (am n.1)=(am (cj (ak.table w)).1==am n.1):=by
  rw[BQ,kH,beq_iff_eq];cases ht:ak.table w with
  |nil=>rw[ht]at r;exact r.elim
  |cons f l =>
   rw[ht]at r;exact⟨λh=>h f (by simp),λe g hg=>(r g hg).trans e⟩
 simp only[Q122.f,zcp4,zcp8];refine (congrArg (λo=>BC o _) X).trans ?_;simp only[BA];rw[mJ K (cj (ak.table w)).1,nJ K n];simp only[BA];unfold eQ;rw[hb];cases am (cj (ak.table w)).1==am n.1 with
 |true =>
  simp only[cond_true];refine (congrArg (λo=>BC o _) (uL K n (ak.table w) n.1 h.learns O.1 (bY O) h.x.me u)).trans rfl
 |false =>
  simp only[cond_false];obtain⟨a1,a2,a3⟩:=kI (n:=n) h.x.others O r;refine (congrArg (λo=>BC o _) (zF K n (am (cj (ak.table w)).1) hn u)).trans ?_;simp only[BA];refine (congrArg (λo=>BC o _) (AJ K (eG (aa.others n) (am (cj (ak.table w)).1)) (ak.table w) (o6 h.x.others _) O u)).trans ?_;simp only[BA];have y:=h.x.others;have M:=olen y;obtain⟨m,hm,lo,hi,hs⟩:=yL K (aa.others n) (am (cj (ak.table w)).1) M y.2 (λx hx=>⟨(y.1 x hx).1.1,CA (y.1 x hx).1.2 (by decide)⟩) a0 u;refine (congrArg (λo=>BC o _) hs).trans ?_;simp only[BA];by_cases hf:∃ h:m<(aa.others n).length,(aa.others n)[m].1=am (cj (ak.table w)).1
  ·rw[decide_eq_true hf];obtain⟨R,e⟩:=hf;simp only[cond_true,BF];have Y:idx (aa.others n) (m:Int)=some (aa.others n)[m]:=ag R;refine (congrArg (λo=>BC o _) Y).trans ?_;simp only[BA];refine (congrArg (λo=>BC o _) Y).trans ?_;simp only[BA];rw[e];have z:(aa.others n).set m (am (cj (ak.table w)).1,bG n w)=bw (λx:bZ=>x.1) (am (cj (ak.table w)).1,bG n w) (aa.others n):=il (k:=λx:bZ=>x.1) (x:=(am (cj (ak.table w)).1,bG n w)) y.2 R e;have:=xz K n (mV n ((aa.others n).set m (am (cj (ak.table w)).1,bG n w))) w hp (bY a1) rfl rfl u (λws=>some ((ws,()),(mV n ((aa.others n).set m (am (cj (ak.table w)).1,bG n w)),())));refine Eq.trans this ?_;rw[z];rfl
  ·rw[decide_eq_false hf];simp only[cond_false];have H:Q7.f K (aa.others n,(m:Int),[(am (cj (ak.table w)).1,bG n w)],())=some (((aa.others n).take m++[(am (cj (ak.table w)).1,bG n w)]++(aa.others n).drop m,()),()):=ju hm (by decide) M;refine (congrArg (λo=>BC o _) H).trans ?_;simp only[BA];have I:(aa.others n).take m++[(am (cj (ak.table w)).1,bG n w)]++(aa.others n).drop m=bw (λx:bZ=>x.1) (am (cj (ak.table w)).1,bG n w) (aa.others n):=gr (k:=λx:bZ=>x.1) (x:=(am (cj (ak.table w)).1,bG n w)) hm lo (λj hj J=>by
    rcases Int.lt_or_eq_of_le (hi j hj J) with h|h
    ·exact h
    ·exfalso;rcases Nat.lt_or_eq_of_le J with h4|rfl
     ·have:(aa.others n)[m].1<(aa.others n)[j].1:=cD.1 y.2 m j (by omega) hj h4;have h5:=hi m (by omega) (BT _);omega
     ·exact hf ⟨hj,h.symm⟩)
   have:=xz K n (mV n ((aa.others n).take m++[(am (cj (ak.table w)).1,bG n w)]++(aa.others n).drop m)) w hp (bY a1) rfl rfl u (λws=>some ((ws,()),(mV n ((aa.others n).take m++[(am (cj (ak.table w)).1,bG n w)]++(aa.others n).drop m),())));refine Eq.trans this ?_;rw[I];rfl
theorem AY (K:Nat)(n:aa)(w:ak)(Y:NB n)(h:UpN n)(y:dK w)(J:gx n w)(z:w.2.1≠2)(H:1048577<K):Q143.f K (n,w,())=some (((bK K n w).2,()),((bK K n w).1,())):=by
 have r:=y.2.2.2.2.2.2.2.1;unfold bK;rw[if_pos ⟨y,J⟩];simp only[Q143.f,zcp4];by_cases u:w.2.1=6
 ·rw[if_pos u,show (w.2.1==6)=true by simpa using u];have X:=y.2.2.2.2.2.2.2.2;rw[if_pos u]at X;simp only[cond_true];exact (congrArg (λo=>BC o _) (sum_i K n w Y h y.1 r X H)).trans rfl
 ·rw[if_neg u,show (w.2.1==6)=false by simpa using u];obtain⟨Z,O⟩:=jV y J u;have I:=(km h J.2.1 r Z O).1;simp only[cond_false];refine (congrArg (λo=>BC o _) (uL K n (ak.table w) w.2.2.1 h.learns r.1 (bY r) O.1 H)).trans ?_;simp only[BA];generalize gN n (ak.table w) w.2.2.1=m at I ⊢;have M:=y.2.2.2.2.2.1;have R:=yJ K m w.2.2.2.2.2.1 M;rw[show (w.2.1==2)=false by simpa using z];unfold dZ;rw[show (w.2.1==2)=false by simpa using z];cases w.2.1==1 with
  |true =>
   simp only[cond_true];refine (congrArg (λo=>BC o _) R).trans ?_;simp only[rb,BA,bne];cases am w.2.2.2.2.2.1==am m.1 with
   |false=>rfl
   |true =>
    cases w.2.2.2.2.2.1==m.1 with
    |true=>rfl
    |false =>
     simp only[Bu,BZ,BH,cond_true,cond_false];exact (congrArg (λo=>BC o _) (xy K m 2 w I.x.say H)).trans rfl
  |false =>
   simp only[cond_false];cases w.2.1==3 with
   |true =>
    simp only[cond_true];refine (congrArg (λo=>BC o _) R).trans ?_;simp only[rb,BA,bne];cases am w.2.2.2.2.2.1==am m.1 with
    |false=>rfl
    |true =>
     cases w.2.2.2.2.2.1==m.1 with
     |true=>rfl
     |false =>
      simp only[Bu,BZ,BH,cond_true,cond_false];cases w.2.2.2.2.2.1==w.2.2.1 with
      |true=>rfl
      |false =>
       simp only[BZ,cond_true,cond_false];exact (congrArg (λo=>BC o _) (xy K m 1 w I.x.say H)).trans rfl
   |false =>
    simp only[cond_false];cases w.2.1==4 with
    |true =>
     simp only[cond_true];exact (congrArg (λo=>BC o _) (zK K m 5 w.2.2.1 (bY I.x.table))).trans rfl
    |false=>rfl
theorem uo (K:Nat)(n:aa)(w:ak)(z:NB n)(hw:(ak.table w).length<=1048576)(O:w.2.1≠2)(r:1048577<K):∃ y:aa,∃ H:List ak,NB y/\H.length<=1/\(∀ x∈H,(ak.table x).length<=1048576)/\Q63.f K (n,w,())=some ((y,H,()),())/\Q148.f K (n,w,())=some ((y,H,()),()) /\
  ((fF n/\dK w/\gx n w)->y=(bK K n w).1/\H=(bK K n w).2)/\(fF n->¬ (dK w/\gx n w)->y=n/\H=[])/\(¬ fF n->H=[]):=by
 obtain⟨b,o1,o2,X⟩:=tY K n z r;simp only[Q63.f,Q148.f,Q147.f];rw[o1,o2];cases b with
 |false=>exact⟨sK,[],ub,by simp,by simp,rfl,rfl,λh=>(by have:=X.2 h.1;cases this),λh=>(by have:=X.2 h;cases this),λ_=>rfl⟩
 |true =>
  have I:=X.1 rfl;have J:n.2.1=true->UpN n:=λJ=>UpN.of I J
  simp only[rb,BA,BH,cond_false];rw[mM K n z r,yj K n z r];simp only[BA];rw[xv K n w J hw r];simp only[BA,Q144.f];obtain⟨c,_,t2,t3⟩:=pV K n w z hw r;rw[t2];cases c with
  |false =>
   have u:¬ (dK w/\gx n w):=λh=>by have:=t3.2 ⟨I,h⟩;cases this
   have he:bK K n w=(n,[]):=by unfold bK;rw[if_neg u]
   rw[he];simp only;rw[mM K n z r];exact⟨n,[],z,by simp,by simp,rfl,rfl,λh=>absurd h.2 u,λ_ _=>⟨rfl,rfl⟩,λh=>absurd I h⟩
  |true =>
   obtain⟨_,hW,M⟩:=t3.1 rfl;have R:=J M.1;have Z:=qz (w:=w) R r;have Y:=mf (w:=w) R r;simp only[rb,BA,BH,cond_false];rw[AY K n w z R hW M O r];simp only[BA];rw[mM K _ Z.1.nb r];refine⟨(bK K n w).1,(bK K n w).2,Z.1.nb,Y.1,λx hx=>(Y.2 x hx).2,rfl,?_,λ_=>⟨rfl,rfl⟩,λ_ u=>absurd ⟨hW,M⟩ u,λh=>absurd I h⟩;simp only[Q146.f];simp
theorem Ab {n:aa}(h:UpN n):(lv n).length<=8/\∀ x∈lv n,hX x:=by
 unfold lv;refine⟨?_,λx u=>?_⟩
 ·rw[By];exact BJ (B3 _ _) (iP h.x.table.2 λf r=>(h.x.table.1 f r).1)
 ·obtain⟨f,r,rfl⟩:=BV.1 u;exact⟨(h.x.table.1 f (BY.1 r).1).1,bY h.x.table⟩
theorem AZ (K:Nat)(w:bR)(c:Nat)(h:WI w c)(hc:c<=1000000)(e:ah)(h0:InP e.2.1 0 7)(O:1048577<K):Tot (Q201.f K (w,e,())) λr=>WI r.1.1 (c+4):=by
 have a2:=h.len;have hs:=h.sides;obtain⟨a0,a1,u,keep⟩:=e;obtain⟨e0,e1⟩:=h0;simp only at e0 e1;obtain⟨i,rfl⟩:=BN e0;have R:i<w.1.length:=by omega
 have J:=h.node i R;have y:=h.mono (show c<=c+4 by omega);simp only[Q201.f];refine Tot.vl (ag R) (Tot.vl (by rw[BF];exact ag R) ?_);generalize w.1[i]=n at J ⊢;refine Tot.cnd (λ_=>?_) λ_=>Tot.cnd (λ_=>?_) λ_=>Tot.cnd (λ_=>?_) λ_=>?_
 ·
  rw[zm];simp only[BA];exact Tot.ix2 (by omega) (by omega) λ_ _ _=>Tot.ret ⟨y.len,y.node,y.radio,by show (w.2.2.1.set _ _).length=8;rw[BK];exact h.sides,y.born⟩
 ·
  simp only[Q182.f,BA];refine Tot.ix2 (by omega) (by omega) λ_ _ _=>Tot.ret (y.put (i:=i) (n:=jm n.1 n.2.2.2.1) ?_ y.radio y.born)
  exact⟨J.me,J.lt,λM=>(by cases M),λ_=>rfl⟩
 ·
  exact Tot.cnd (λ_=>Tot.ret y) λ_=>Tot.bind (AW K w c h hc (i:Int) ⟨by omega,by omega⟩ O) λv z=>Tot.ret z
 ·refine Tot.cnd (λ_=>Tot.ret y) λM=>Tot.cnd (λ_=>Tot.ret y) λY=>?_
  have M:n.2.1=true:=by simpa using M
  have H:=J.up M;have set:=λ (m:aa) (X:List ak) (I:UpN m) (em:m.1=n.1) (Z:∀ x∈X,hX x) (hl:X.length<=1000)=>AV K w i m X [] c ⟨h,J.lt,J.of I em,Z,hl,BO _,hc⟩ O
  refine Tot.cnd (λ_=>?_) λ_=>Tot.cnd (λ_=>?_) λ_=>Tot.cnd (λ_=>?_) λ_=>Tot.ret y
  ·refine Tot.cnd (λ_=>Tot.ret y) λI=>?_
   have I:ch n<999999:=by have I:¬ n.2.2.2.2.2.1>=999999:=of_decide_eq_false I;show n.2.2.2.2.2.1<999999;omega
   obtain⟨t1,t2,_⟩:=qu H I;obtain⟨w1,w2⟩:=AT H I u;exact Tot.vl (AU K n u H Y I O) (Tot.bind (set _ _ t1 t2 w2 (BJ w1 (by omega))) λv z=>Tot.ret z)
  ·obtain⟨t1,t2⟩:=yC H Y;obtain⟨w1,w2⟩:=Ab t1;exact Tot.vl (zL K n H.nb H.ok M Y O) (Tot.bind (set _ _ t1 t2 w2 (BJ w1 (by omega))) λv z=>Tot.ret z)
  ·refine Tot.bind (cG K u 0 7).tot λv z=>Tot.cnd (λ_=>Tot.ret y) λh1=>Tot.cnd (λ_=>Tot.ret y) λ_=>?_
   have hd:InP u 0 7:=z.1 (by simpa using h1);rw[dk K,dk K];simp only[BA];refine Tot.cnd (λ_=>Tot.ret y) λ_=>?_
   refine Tot.vl (nN K n 4 u (bY H.x.table)) (Tot.bind (set n _ H rfl (λx hx=>?_) (by simp)) λv z=>Tot.ret z);rw[BG.1 hx];exact⟨hd,bY H.x.table⟩
theorem do_t (K:Nat)(w:bR)(c:Nat)(h:WI w c)(M:c<=1000000)(e:ah)(R:1048577<K):Tot (Q203.f K (w,e,())) λr=>WI r.1.1 (c+4):=by
 have z:=h.mono (show c<=c+4 by omega);have hr:=h.radio.1;simp only[Q203.f];rw[aH (n:=(BD w.2.1:Int)-1) (by omega) (by omega)];have u:Tot ((Q11.f K (e.2.1,0,(BD w.2.1:Int)-1,())).bind λY=>bif !Y.1.1 then (some ((w,false,()),())) else (bif e.1==2 then ((Q179.f K (w,e.2.1,e.2.2.2,())).bind λZ=>some ((Z.1.1,true,()),())) else (bif e.1==4 then ((Q180.f K (w,e.2.1,e.2.2.1,())).bind λO=>some ((O.1.1,O.1.2.1,()),())) else ((Q172.f K (w.2.1,e.2.1,())).bind λX=>some (((w.1,(X.1.1,w.2.2)),true,()),()))))) λr=>WI r.1.1 (c+4):=by
  refine Tot.bind (cG K _ _ _).tot λv y=>Tot.cnd (λ_=>Tot.ret z) λI=>?_
  obtain⟨J,H⟩:InP e.2.1 0 ((BD w.2.1:Int)-1):=y.1 (by simpa using I);have H:e.2.1<(w.2.1.length:Int):=by omega
  refine Tot.cnd (λ_=>Tot.bind (z8 K w c h M e.2.1 e.2.2.2 J H R) λv y=>Tot.ret y) λ_=>Tot.cnd (λ_=>Tot.bind (z9 K w c h e.2.1 e.2.2.1 J H) λv y=>Tot.ret (WI.mono y (by omega))) λ_=>?_
  exact Tot.bind (rh K w.2.1 e.2.1 J H h.radio) λv y=>Tot.ret ⟨z.len,z.node,y,z.sides,z.born⟩
 refine Tot.cnd (λ_=>u) λ_=>Tot.cnd (λ_=>u) λ_=>Tot.cnd (λ_=>u) λ_=>?_
 exact Tot.bind (cG K _ _ _).tot λv y=>Tot.cnd (λ_=>Tot.ret z) λI=>Tot.bind (AZ K w c h M e (y.1 (by simpa using I)) R) λv y=>Tot.ret y
theorem yM (K:Nat)(w:bR)(R:w.1.length<=1048576)(M:∀ n∈w.1,NB n)(O:w.2.1.length<=1048576)(Y:w.2.2.1.length<=1048576)(X:w.2.2.2.length<=1048576)(J:1048577<K):Q204.f K (w,())=some ((w,()),()):=by
 simp only[Q204.f,Q204.pre];rw[szb _ _ _ (by omega) (by show (BD ([]:List lx))+w.2.1.length<=_;simp;omega)];simp only[cond_true];rw[szb _ _ _ (by omega) (by show (BD ([]:List Int))+w.2.2.1.length<=_;simp;omega)];simp only[cond_true];rw[szb _ _ _ (by omega) (by show (BD ([]:List ah))+w.2.2.2.length<=_;simp;omega)];simp only[cond_true];have:∀ (d i k:Nat),i+d=w.1.length->d<k->af (λrec a=>Q204.s0 K (w,()) rec a) k ((i:Int),w.1.take i)=some ((w,()),()):=by
  intro d;induction d with
  |zero =>
   intro i k H z;obtain⟨k,rfl⟩:∃ u,k=u+1:=⟨k-1,by omega⟩;have:i=w.1.length:=by omega
   subst this;show Q204.s0 K (w,()) _ _=_;simp only[Q204.s0,aS,Bv];rfl
  |succ d y =>
   intro i k H z;obtain⟨k,rfl⟩:∃ u,k=u+1:=⟨k-1,by omega⟩;have r:i<w.1.length:=by omega
   show Q204.s0 K (w,()) _ _=_;simp only[Q204.s0];rw[bo (by omega:(i:Int)<(BD w.1:Int)),ag r,au i (by omega)];simp only[cond_true,BA];refine (congrArg (λo=>BC o _) (mM K w.1[i] (M _ (BI r)) J)).trans ?_;simp only[BA];have I:decide (((w.1.take i).length+[w.1[i]].length)*232<=ao)=true:=decide_eq_true (by
    rw[BW];simp only[CD,Bz,ao];omega)
   refine (congrArg (λb=>bif b then _ else _) I).trans ?_;have e:w.1.take i++[w.1[i]]=w.1.take (i+1):=by rw[List.take_add_one,List.getElem?_eq_getElem r];rfl
   rw[<- y (i+1) k (by omega) (by omega),<- e];rfl
 exact this w.1.length 0 K (by omega) (by omega)
theorem WI.copy {w:bR}{c:Nat}(h:WI w c)(z:c<=1000000)(K:Nat)(y:1048577<K):Q204.f K (w,())=some ((w,()),()):=by
 have I:=h.len;have H:=h.radio.1;have J:=h.sides;have M:=h.born;refine yM K w (by omega) (λn r=>?_) (by omega) (by omega) (by omega) y;obtain⟨i,u,rfl⟩:=BX r;exact (h.node i u).nb
theorem Ba (K:Nat)(w:bR)(c:Nat)(y:List ah)(h:WI w c)(hl:y.length<=1000)(Z:c<=900000)(O:1048577<K):Tot (Q205.f K (w,y,())) λr=>WI r.1.1 (c+4*y.length)/\r.2.1=y:=by
 simp only[Q205.f,Q205.pre];refine Tot.iter (step:=λrec a=>Q205.s0 K (w,y,()) rec a) (λa=>0<=a.1/\a.1<=y.length/\WI a.2 (c+4*a.1.toNat)) (λa=>y.length-a.1.toNat) ?_ K _ (by show y.length-BE 0<K;omega) ⟨by show (0:Int)<=0;omega,by show (0:Int)<=_;omega,h⟩;rintro rec ⟨i,v⟩ ⟨J,X,H⟩ M;simp only at J X H M ⊢;simp only[Q205.s0];refine Tot.cnd (λz=>?_) λ_=>Tot.ret ⟨WI.mono H (by omega),rfl⟩
 have z:i<(y.length:Int):=of_decide_eq_true z;rw[aH (n:=i+1) (by omega) (by omega)];refine Tot.vl (H.copy (by omega) K O) (Tot.ix2 J z λe _ _=>Tot.bind (do_t K v _ H (by omega) e O) ?_);rintro⟨⟨v',ok,⟨⟩⟩,⟨⟩⟩ I;have I:WI v' (c+4*i.toNat+4):=I;have R:∀ u:bR,WI u (c+4*i.toNat+4)->Tot (rec (i+1,u)) λr=>WI r.1.1 (c+4*y.length)/\r.2.1=y:=λu Y=>M (i+1,u) ⟨by show 0<=i+1;omega,by show i+1<=_;omega,Y.mono (by show _<=c+4*(i+1).toNat;omega)⟩ (by show y.length-BE (i+1)<y.length-BE i;omega)
 exact Tot.cnd (λ_=>R v' I) λ_=>R v (H.mono (by omega))
theorem vS (K:Nat)(hK:1048577<K):Tot (Q154.f K ()) λr=>WI r.1.1 8:=by
 simp only[Q154.f,Q154.pre];refine Tot.iter (step:=λrec a=>Q154.s0 K () rec a) (λa=>0<=a.1/\a.1<=8/\a.2.1.length=a.1.toNat/\(∀ (j:Nat) (y:j<a.2.1.length),ei j a.2.1[j])/\a.2.2.1.length=a.1.toNat/\a.2.2.2.length=a.1.toNat) (λa=>8-a.1.toNat) ?_ K _ (by show 8-BE 0<K;omega) ⟨by show (0:Int)<=0;omega,by show (0:Int)<=8;omega,rfl,λj y=>(by cases y),rfl,rfl⟩;rintro rec ⟨i,z,R,X⟩ ⟨H,Z,Y,M,h4,h5⟩ O;simp only at H Z Y M h4 h5 O ⊢;simp only[Q154.s0];refine Tot.cnd (λu=>?_) λu=>?_
 ·have u:i<=7:=of_decide_eq_true u;rw[aH (n:=i+1) (by omega) (by omega)];simp only[Q153.f,BA];refine Tot.vl (rj K i _ ⟨H,u⟩) (Tot.fit (Tot.fit (Tot.vl (show idx (mg i (decide (BR i 4<3))).2.2.2.2.2.2.2.2.1 0=some (i,0,1,decide (BR i 4<3)) from rfl) (Tot.fit (O _ ⟨by show 0<=i+1;omega,by show i+1<=8;omega,?_,λj y=>?_,?_,?_⟩ (by show 8-BE (i+1)<8-BE i;omega)) (by omega) ?_)) (by omega) ?_) (by omega) ?_)
  ·show (z++[mg i _]).length=(i+1).toNat;simp;omega
  ·show ei j ((z++[mg i (decide (BR i 4<3))])[j]'y);rw[List.getElem_append];split
   ·exact M j _
   ·rename_i I;have y:j<(z++[mg i (decide (BR i 4<3))]).length:=y;have J:j=i.toNat:=by simp at y;omega
    subst J;have:=ei.new i.toNat (decide (BR i 4<3)) (by omega);rw[B5 H]at this;simpa using this
  ·show (R++[0]).length=(i+1).toNat;simp;omega
  ·show (X++[_]).length=(i+1).toNat;simp;omega
  ·simp;omega
  ·simp;omega
  ·simp;omega
 ·have I:=of_decide_eq_false u;refine Tot.ret ⟨?_,M,⟨BO _,λf hf=>(nomatch hf)⟩,?_,?_⟩
  ·show z.length=8;omega
  ·show R.length=8;omega
  ·show X.length<=8;omega
abbrev LtP (v n:Int):Prop:=0<=v/\v<n
def bc (b:List Int)(m:Nat)(s:List Int×Int):Prop:=∃ q:Nat,q<=m/\s=(b,(q:Int))
theorem bc.up {b:List Int}{m:Nat}{s:List Int×Int}(h:bc b m s){m':Nat}(u:m<=m'):bc b m' s:=by obtain⟨q,y,r⟩:=h;exact⟨q,by omega,r⟩
section
variable {K:Nat} {b:List Int} {m:Nat} {s:List Int×Int}
theorem aA (h:fH b)(H:bc b m s)(n:Int)(u:1<=n)(J:m<=99000):Tot (Q150.f K (s,n,())) λr=>LtP r.1.1 n/\bc b (m+1) r.2.1:=by
 obtain⟨q,I,rfl⟩:=H;obtain⟨v,e,z,y⟩:=zQ K b q n h (by omega) u;exact⟨_,e,⟨z,y⟩,q+1,by omega,rfl⟩
theorem Bb (r:List Int)(z:∀ y∈r,0<=y/\y<=255)(I:r.length<=9223372036854775807):∃ u:List Int,fH u/\Q149.f K (r,())=some (((u,(0:Int)),()),()):=by
 simp only[Q149.f];by_cases h:(r.length:Int)>2000
 ·rw[decide_eq_true h,decide_eq_true (by omega:(2000:Int)<=(r.length:Int))];exact⟨(r.take 2000).drop 0,⟨λy H=>z y (BU (by simpa using H)),by simp;omega⟩,rfl⟩
 ·rw[decide_eq_false h];exact⟨r,⟨z,by omega⟩,rfl⟩
theorem xA (h:fH b)(Z:bc b m s)(u:Int)(h0:0<=u)(h1:u<=1)(hm:m<=98000):Tot (Q210.f K (s,u,())) λr=>(bm r.1.1/\am r.1.1.1=u)/\bc b (m+5) r.2.1:=by
 simp only[Q210.f];refine Tot.bind (aA h Z 4 (by decide) (by omega)) λz ⟨⟨a1,b1⟩,s1⟩=>Tot.bind (aA h s1 3 (by decide) (by omega)) λv2 ⟨⟨a2,b2⟩,R⟩=>Tot.bind (aA h R 12 (by decide) (by omega)) λv3 ⟨⟨a3,b3⟩,M⟩=>Tot.bind (aA h M 3 (by decide) (by omega)) λv4 ⟨⟨O,J⟩,Y⟩=>Tot.ix2 O J λy H _=>Tot.bind (aA h Y 4 (by decide) (by omega)) λI ⟨⟨a5,b5⟩,X⟩=>?_
 simp only[Q153.f,BA];have H:InP y 0 999:=by
  simp only[CG,CE,or_false]at H;rcases H with rfl|rfl|rfl <;> constructor <;> omega
 rw[aH (n:=u*4) (by omega) (by omega),aH (n:=u*4+z.1.1) (by omega) (by omega),aH (n:=1+I.1.1) (by omega) (by omega)];refine Tot.ret ⟨⟨⟨⟨?_,?_⟩,H,?_,?_⟩,?_⟩,X⟩
 ·show (0:Int)<=u*4+z.1.1;omega
 ·show u*4+z.1.1<=7;omega
 ·show (1:Int)<=1+I.1.1;omega
 ·show (1:Int)+I.1.1<=4;omega
 ·show am (u*4+z.1.1)=u;rw[fa ⟨by omega,by omega⟩];omega
theorem mW (h:fH b)(Y:bc b m s)(hm:m<=97000):Tot (Q212.f K (s,())) λr=>bc b (m+8) r.2.1:=by
 simp only[Q212.f];refine Tot.bind (aA h Y 2 (by decide) (by omega)) λI ⟨⟨J,b1⟩,Z⟩=>Tot.bind (xA h Z I.1.1 J (by omega) (by omega)) λf ⟨_,M⟩=>Tot.bind (aA h M 12 (by decide) (by omega)) λO ⟨_,H⟩=>?_
 have u:∀ {x y:Int} {G:(Int×Unit)×(List Int×Int)×Unit->Int->Option ((ah×Unit)×(List Int×Int)×Unit)},(∀ v z,Tot (G v z) λr=>r.2.1=v.2.1)->Tot ((Q150.f K (O.2.1,2,())).bind λv=>(idx [x,y] v.1.1).bind λ_=>(idx [x,y] (BE v.1.1:Nat)).bind (G v)) λr=>bc b (m+8) r.2.1:=λX=>Tot.bind (aA h H 2 (by decide) (by omega)) λv ⟨⟨a,b⟩,R⟩=>Tot.ix2 a b λz _ _=>(X v z).mono λr e=>by rw[e];exact R.up (by omega)
 refine Tot.cnd (λ_=>u λ_ _=>Tot.ret rfl) λ_=>Tot.cnd (λ_=>u λ_ _=>Tot.ret rfl) λ_=>Tot.cnd (λ_=>u λ_ _=>Tot.ret rfl) λ_=>Tot.cnd (λ_=>Tot.ret (H.up (by omega))) λ_=>Tot.ret (H.up (by omega))
theorem xB (t:List ah)(f:ah):(bS t f).1.length<=t.length+1:=by
 rcases gX t f with e|e
 ·rw[e];omega
 ·rw[e];exact yh
theorem vT {t:List ah}{f:ah}{z:Int}(h:cd t z)(u:am f.1=z):cd (bS t f).1 z:=by
 rcases gX t f with e|e <;> rw[e]
 ·exact h
 ·intro g r;rcases aZ.1 r with rfl|⟨r,_⟩
  ·exact u
  ·exact h g r
theorem nQ (h:fH b)(hs:bc b m s)(u:Int)(h0:-1<=u)(h1:u<=1)(hm:m<=96000)(hK:1048577<K):Tot (Q211.f K (s,u,())) λr=>(aB r.1.1/\(0<=u->cd r.1.1 u)/\r.1.1.length<=5)/\bc b (m+31) r.2.1:=by
 simp only[Q211.f,Q211.pre];refine Tot.bind (aA h hs 6 (by decide) (by omega)) λv ⟨⟨v0,v1⟩,s1⟩=>?_
 refine Tot.iter (step:=λrec a=>Q211.s0 K (s,u,()) rec a) (λa=>∃ q:Nat,0<=a.2.1/\aB a.1/\(0<=u->cd a.1 u)/\(a.1.length:Int)+a.2.1<=5/\bc b q a.2.2/\q+6*a.2.1.toNat<=m+31) (λa=>a.2.1.toNat) ?_ K _ (by show v.1.1.toNat<K;omega) ⟨m+1,v0,⟨by simp,List.Pairwise.nil⟩,λ_ f hf=>(nomatch hf),by show ((0:Nat):Int)+v.1.1<=5;omega,s1,by show m+1+6*v.1.1.toNat<=m+31;omega⟩;rintro rec ⟨t,n,s2⟩ ⟨q,n0,O,hS,hl,I,hq⟩ ih;simp only at n0 O hS hl I hq ih ⊢;simp only[Q211.s0];refine Tot.cnd (λhn=>?_) λ_=>Tot.ret ⟨⟨O,hS,by show t.length<=5;omega⟩,I.up (by omega)⟩
 have hn:n>0:=of_decide_eq_true hn;rw[aH (n:=n-1) (by omega) (by omega)];have go:∀ (z:Int) (M:Nat) (J:List Int×Int),0<=z->z<=1->(0<=u->z=u)->bc b M J->M<=q+1->Tot ((Q210.f K (J,z,())).bind λX=>(Q36.f K (t,X.1.1,())).bind λy4=>rec (y4.1.1,n-1,X.2.1.1,X.2.1.2)) λr=>(aB r.1.1/\(0<=u->cd r.1.1 u)/\r.1.1.length<=5)/\bc b (m+31) r.2.1:=λz M J z0 z1 hz a0 a1=>by
  refine Tot.bind (xA h a0 z z0 z1 (by omega)) λy ⟨⟨hf,Z⟩,Y⟩=>Tot.vl (vG K t y.1.1 (by omega) O.2 hK) (ih (_,_,y.2.1) ⟨M+5,by show 0<=n-1;omega,ki O hf,λR=>vT (hS R) (by rw[Z];exact hz R),?_,Y,by show M+5+6*(n-1).toNat<=m+31;omega⟩ (by show (n-1).toNat<n.toNat;omega))
  have:=xB t y.1.1;show ((bS t y.1.1).1.length:Int)+(n-1)<=5;omega
 refine Tot.cnd (λH=>?_) λH=>?_
 ·have H:u<0:=of_decide_eq_true H;exact Tot.bind (aA h I 2 (by decide) (by omega)) λv ⟨⟨a,b⟩,J⟩=>go v.1.1 (q+1) v.2.1 a (by omega) (λR=>by omega) J (BT _)
 ·have H:¬ u<0:=of_decide_eq_false H;exact go u q s2 (by omega) h1 (λ_=>rfl) I (by omega)
theorem pW (h:fH b)(Y:bc b m s)(hm:m<=95000)(R:1048577<K):Tot (Q213.f K (s,())) λr=>r.1.1.length<=6/\bc b (m+42) r.2.1:=by
 simp only[Q213.f];refine Tot.bind (nQ h Y (-1) (by decide) (by decide) (by omega) R) λt ⟨⟨Z,_,hl⟩,M⟩=>?_
 refine Tot.cnd (λI=>?_) λ_=>Tot.ret ⟨by show t.1.1.length<=6;omega,M.up (by omega)⟩
 have I:(t.1.1.length:Int)>0:=of_decide_eq_true I;refine Tot.bind (aA h M 12 (by decide) (by omega)) λv2 ⟨_,J⟩=>Tot.cnd (λ_=>?_) λ_=>Tot.ret ⟨by show t.1.1.length<=6;omega,J.up (by omega)⟩
 refine Tot.bind (aA h J (t.1.1.length:Int) (by omega) (by omega)) λv3 ⟨⟨u,H⟩,O⟩=>Tot.bind (aA h O 3 (by decide) (by omega)) λv4 ⟨_,z⟩=>?_
 refine Tot.cnd (λ_=>Tot.bind (mW h z (by omega)) λf X=>Tot.ix2 u H λ_ _ _=>Tot.ret ⟨by show (t.1.1.set _ _).length<=6;rw[BK];omega,X.up (by omega)⟩) λ_=>?_
 refine Tot.cnd (λ_=>Tot.ix2 u H λy _ _=>Tot.fit (Tot.ret ⟨by show (t.1.1++[y]).length<=6;simp;omega,z.up (by omega)⟩) (by omega) (by simp;omega)) λ_=>Tot.ix2 u H λy _ _=>Tot.ret ⟨by show (t.1.1.set _ _).length<=6;rw[BK];omega,z.up (by omega)⟩
theorem Ac (h:fH b)(hs:bc b m s)(u:Int)(R:-1<=u)(h1:u<=1)(hm:m<=95000)(Y:1048577<K):Tot (Q214.f K (s,u,())) λr=>r.1.1.length<=5/\bc b (m+36) r.2.1:=by
 simp only[Q214.f,Q214.pre];refine Tot.bind (nQ h hs u R h1 (by omega) Y) λt ⟨⟨hT,_,hl⟩,s1⟩=>?_
 refine Tot.iter (step:=λrec a=>Q214.s0 K (s,u,()) rec a) (λa=>a.2.1=t.1.1/\0<=a.2.2.1/\a.2.2.1<=t.1.1.length/\(a.1.length:Int)=a.2.2.1/\bc b (m+31+a.2.2.1.toNat) a.2.2.2) (λa=>t.1.1.length-a.2.2.1.toNat) ?_ K _ (by show t.1.1.length-BE 0<K;omega) ⟨rfl,by show (0:Int)<=0;omega,by show (0:Int)<=_;omega,rfl,s1⟩;rintro rec ⟨H,t',i,s2⟩ ⟨e,O,Z,J,z⟩ M;simp only at e O Z J z M ⊢;subst e;simp only[Q214.s0];refine Tot.cnd (λI=>?_) λ_=>Tot.ret ⟨by show H.length<=5;omega,z.up (by omega)⟩
 have I:i<(t.1.1.length:Int):=of_decide_eq_true I;rw[aH (n:=i+1) (by omega) (by omega)];refine Tot.ix2 O I λy _ _=>Tot.bind (aA h z 4 (by decide) (by omega)) λv ⟨_,X⟩=>Tot.fit (M (_,_,_,v.2.1) ⟨rfl,by show 0<=i+1;omega,by show i+1<=_;omega,?_,X.up (by show _<=m+31+(i+1).toNat;omega)⟩ (by show t.1.1.length-(i+1).toNat<t.1.1.length-i.toNat;omega)) (by omega) (by simp;omega)
 show ((H++[_]).length:Int)=i+1;simp;omega
theorem vU (h:fH b)(hs:bc b m s)(hm:m<=94000)(X:1048577<K):Tot (Q215.f K (s,())) λr=>r.1.1.length<=6/\bc b (m+50) r.2.1:=by
 simp only[Q215.f];refine Tot.bind (Ac h hs (-1) (by decide) (by decide) (by omega) X) λt ⟨hl,O⟩=>?_
 refine Tot.cnd (λJ=>?_) λ_=>Tot.ret ⟨by show t.1.1.length<=6;omega,O.up (by omega)⟩
 have J:(t.1.1.length:Int)>0:=of_decide_eq_true J;refine Tot.bind (aA h O 10 (by decide) (by omega)) λv2 ⟨_,M⟩=>Tot.cnd (λ_=>?_) λ_=>Tot.ret ⟨by show t.1.1.length<=6;omega,M.up (by omega)⟩
 refine Tot.bind (aA h M (t.1.1.length:Int) (by omega) (by omega)) λv3 ⟨⟨u,I⟩,R⟩=>Tot.bind (aA h R 3 (by decide) (by omega)) λv4 ⟨_,H⟩=>?_
 refine Tot.cnd (λ_=>Tot.bind (aA h H 2 (by decide) (by omega)) λv5 ⟨⟨Y,Z⟩,z⟩=>Tot.ix2 Y Z λ_ _ _=>Tot.ix2 u I λ_ _ _=>Tot.ret ⟨by show (t.1.1.set _ _).length<=6;rw[BK];omega,z.up (by omega)⟩) λ_=>?_
 refine Tot.cnd (λ_=>Tot.bind (mW h H (by omega)) λf z=>Tot.ix2 u I λ_ _ _=>Tot.ret ⟨by show (t.1.1.set _ _).length<=6;rw[BK];omega,z.up (by omega)⟩) λ_=>?_
 exact Tot.ix2 u I λy _ _=>Tot.fit (Tot.ret ⟨by show (t.1.1++[y]).length<=6;simp;omega,H.up (by omega)⟩) (by omega) (by simp;omega)
theorem rl (h:fH b)(Y:bc b m s)(hm:m<=95000):Tot (Q216.f K (s,())) λr=>bc b (m+6) r.2.1:=by
 simp only[Q216.f,Q151.f];refine Tot.bind (aA h Y 6 (by decide) (by omega)) λZ ⟨_,z⟩=>Tot.cnd (λ_=>Tot.ret (z.up (by omega))) λ_=>Tot.bind (aA h z 3 (by decide) (by omega)) λv3 ⟨⟨I,X⟩,H⟩=>Tot.ix2 I X λy u _=>?_
 have u:InP y 10 100000:=by
  simp only[CG,CE,or_false]at u;rcases u with rfl|rfl|rfl <;> constructor <;> omega
 rw[aH (n:=2*y) (by omega) (by omega),aH (n:=2*y+1) (by omega) (by omega),aH (n:=y+1) (by omega) (by omega)];exact Tot.bind (aA h H _ (by omega) (by omega)) λv6 ⟨_,M⟩=>Tot.bind (aA h M _ (by omega) (by omega)) λv7 ⟨_,R⟩=>Tot.bind (aA h R _ (by omega) (by omega)) λv8 ⟨_,O⟩=>Tot.bind (aA h O _ (by decide) (by omega)) λv9 ⟨_,J⟩=>Tot.ret J
theorem mh (h:fH b)(z:bc b m s)(I:m<=94000):Tot (Q217.f K (s,())) λr=>bc b (m+8) r.2.1:=by
 simp only[Q217.f];exact Tot.bind (rl h z (by omega)) λc H=>Tot.bind (aA h H 16 (by decide) (by omega)) λJ ⟨_,y⟩=>Tot.cnd (λ_=>Tot.bind (aA h y 3 (by decide) (by omega)) λv ⟨⟨a,b⟩,u⟩=>Tot.ix2 a b λ_ _ _=>Tot.ret u) λ_=>Tot.cnd (λ_=>Tot.bind (aA h y 2 (by decide) (by omega)) λv ⟨⟨a,b⟩,u⟩=>Tot.ix2 a b λ_ _ _=>Tot.ret u) λ_=>Tot.cnd (λ_=>Tot.bind (aA h y 2 (by decide) (by omega)) λv ⟨⟨a,b⟩,u⟩=>Tot.ix2 a b λ_ _ _=>Tot.ret u) λ_=>Tot.ret (y.up (by omega))
theorem xC (h:fH b)(z:bc b m s)(w:bR)(J:m<=95000):Tot (Q206.f K (s,w,())) λr=>bc b (m+2) r.2.1:=by
 simp only[Q206.f];refine Tot.cnd (λ_=>Tot.ret (z.up (by omega))) λy=>?_
 have y:¬ (w.2.1.length:Int)=0:=by simpa using y
 refine Tot.bind (aA h z 3 (by decide) (by omega)) λI ⟨_,H⟩=>Tot.cnd (λ_=>Tot.cnd (λ_=>Tot.bind (aA h H 4 (by decide) (by omega)) λv ⟨_,u⟩=>Tot.ret u) λ_=>?_) λ_=>?_ <;>
 exact Tot.bind (aA h H _ (by show (1:Int)<=(w.2.1.length:Int);omega) (by omega)) λv ⟨_,u⟩=>Tot.ret u
theorem Ad (h:fH b)(hs:bc b m s)(w:bR)(hm:m<=94000):Tot (Q207.f K (s,w,())) λr=>bc b (m+8) r.2.1:=by
 simp only[Q207.f];refine Tot.bind (aA h hs 8 (by decide) (by omega)) λv1 ⟨_,s1⟩=>Tot.bind (aA h s1 256 (by decide) (by omega)) λv2 ⟨_,s2⟩=>Tot.bind (aA h s2 16 (by decide) (by omega)) λv3 ⟨_,X⟩=>Tot.bind (aA h X 40 (by decide) (by omega)) λR ⟨_,y⟩=>?_
 have y:bc b (m+4) R.2.1:=y.up (by omega);generalize R.2.1=z at y ⊢;have u4:bc b (m+8) z:=y.up (by omega);have M:=xC (K:=K) h y w (by omega);have O:∀ n:Int,1<=n->Tot (Q150.f K (z,n,())) λr=>bc b (m+8) r.2.1:=λn J=>(aA h y n J (by omega)).mono λr I=>I.2.up (by omega)
 have Y:∀ (H:List Int×Int) (n:Int),bc b (m+4+2) H->1<=n->Tot (Q150.f K (H,n,())) λr=>bc b (m+8) r.2.1:=λH n Z J=>(aA h Z n J (by omega)).mono λr I=>I.2.up (by omega)
 repeat' first
  |exact Tot.ret u4
  |exact Tot.bind M λv u=>Tot.ret (bc.up u (by omega))
  |exact Tot.bind M λv u=>Tot.bind (Y _ _ u (by decide)) λv u=>Tot.ret u
  |exact Tot.bind (O _ (by decide)) λv u=>Tot.ret u
  |exact Tot.bind (O _ (by decide)) λv u=>Tot.cnd (λ_=>Tot.ret u) λ_=>Tot.ret u
  |refine Tot.cnd (λ_=>?_) λ_=>?_
theorem Ae (h:fH b)(hs:bc b m s)(y:Int)(h1:1<=y)(h2:y<=200)(hm:m<=90000)(X:1048577<K):Tot (Q208.f K (s,y,())) λr=>(WI r.1.2.1 2000/\r.1.1.length<=300)/\bc b (m+8*y.toNat+2) r.2.1:=by
 simp only[Q208.f,Q208.pre];have O:∀ (H:List ah) (n:Int) (z:List Int×Int) (w:bR) (q c:Nat),0<=n->n<y->H.length<=24->bc b q z->q<=m+2->WI w c->c<=200->Tot (Q208.l1 K (s,y,()) (H,n,z.1,z.2,w)) λr=>(WI r.1.2.1 2000/\r.1.1.length<=300)/\bc b (m+8*y.toNat+2) r.2.1:=λH n z w q c n0 n1 Y M hq I hc=>by
  refine Tot.iter (step:=λrec a=>Q208.s1 K (s,y,()) rec a) (λa=>∃ q c:Nat,0<=a.2.1/\a.2.1<y/\(a.1.length:Int)+a.2.1<=24+y/\bc b q (a.2.2.1,a.2.2.2.1)/\q+8*a.2.1.toNat<=m+8*y.toNat+2/\WI a.2.2.2.2 c/\c+4*a.2.1.toNat<=2000) (λa=>a.2.1.toNat) ?_ K _ (by show n.toNat<K;omega) ⟨q,c,n0,n1,by show (H.length:Int)+n<=_;omega,M,by show q+8*n.toNat<=_;omega,I,by show c+4*n.toNat<=2000;omega⟩;clear M hq I hc n0 n1 Y;rintro rec ⟨H,n,z1,z2,w⟩ ⟨q,c,n0,n1,Y,M,hq,I,hc⟩ R;simp only at n0 n1 Y M hq I hc R ⊢;simp only[Q208.s1];refine Tot.cnd (λhn=>?_) λ_=>Tot.vl (I.copy (by omega) K X) (Tot.ret ⟨⟨I.mono (by omega),by show H.length<=300;omega⟩,M.up (by omega)⟩)
  have hn:n>0:=of_decide_eq_true hn;rw[aH (n:=n-1) (by omega) (by omega)];refine Tot.bind (Ad h M w (by omega)) λe he=>Tot.fit (Tot.vl (I.copy (by omega) K X) (Tot.bind (do_t K w c I (by omega) e.1.1 X) ?_)) (by omega) (by simp;omega)
  rintro⟨⟨v',ok,⟨⟩⟩,⟨⟩⟩ hv;have Z:∀ u:bR,WI u (c+4)->Tot (rec (H++[e.1.1],n-1,e.2.1.1,e.2.1.2,u)) λr=>(WI r.1.2.1 2000/\r.1.1.length<=300)/\bc b (m+8*y.toNat+2) r.2.1:=λu hu=>R _ ⟨q+8,c+4,by show 0<=n-1;omega,by show n-1<y;omega,by show ((H++[e.1.1]).length:Int)+(n-1)<=_;simp;omega,he,by show q+8+8*(n-1).toNat<=_;omega,hu,by show c+4+4*(n-1).toNat<=2000;omega⟩ (by show (n-1).toNat<n.toNat;omega)
  exact Tot.cnd (λ_=>Z v' hv) λ_=>Z w (I.mono (by omega))
 refine Tot.bind (vS K X) λw0 a0=>Tot.bind (aA h hs 3 (by decide) (by omega)) λv2 ⟨_,s2⟩=>Tot.cnd (λ_=>?_) λ_=>Tot.bind (aA h s2 y h1 (by omega)) λv9 ⟨⟨a9,b9⟩,s9⟩=>O [] v9.1.1 v9.2.1 w0.1.1 (m+2) 8 a9 b9 (by simp) s9 (BT _) a0 (by omega)
 refine Tot.iter (step:=λrec a=>Q208.s0 K (s,y,()) (Q208.l1 K (s,y,())) rec a) (λa=>0<=a.2.1/\a.2.1<=8/\(a.1.length:Int)<=3*a.2.1/\bc b (m+1) (a.2.2.1,a.2.2.2.1)/\WI a.2.2.2.2 8) (λa=>8-a.2.1.toNat) ?_ K _ (by show 8-BE 0<K;omega) ⟨by show (0:Int)<=0;omega,by show (0:Int)<=8;omega,by show ((0:Nat):Int)<=3*0;omega,s2,a0⟩;rintro rec ⟨H,i,z1,z2,w⟩ ⟨i0,i1,Y,M,I⟩ R;simp only at i0 i1 Y M I R ⊢;simp only[Q208.s0];refine Tot.cnd (λhi=>?_) λ_=>?_
 ·have hi:i<=7:=of_decide_eq_true hi;rw[aH (n:=i+1) (by omega) (by omega)];have Z:∀ J:List ah,(J.length:Int)<=3*(i+1)->Tot (rec (J,i+1,z1,z2,w)) λr=>(WI r.1.2.1 2000/\r.1.1.length<=300)/\bc b (m+8*y.toNat+2) r.2.1:=λJ a1=>R _ ⟨by show 0<=i+1;omega,by show i+1<=8;omega,a1,M,I⟩ (by show 8-(i+1).toNat<8-i.toNat;omega)
  exact Tot.cnd (λ_=>Tot.fit (Tot.fit (Z _ (by simp;omega)) (by omega) (by simp;omega)) (by omega) (by simp;omega)) λ_=>Z H (by omega)
 ·refine Tot.bind (Ba K w 8 H I (by omega) (by omega) X) λv ⟨hv,ev⟩=>Tot.bind (aA h M y h1 (by omega)) λv4 ⟨⟨a4,b4⟩,s4⟩=>?_
  exact O v.2.1 v4.1.1 v4.2.1 v.1.1 (m+1+1) _ a4 b4 (by rw[ev];omega) s4 (by omega) hv (by omega)
theorem Af (h:fH b)(H:bc b m s)(y:m<=90000)(z:1048577<K):Tot (Q209.f K (s,())) λr=>WI r.1.1 2000/\bc b (m+802) r.2.1:=by
 simp only[Q209.f];exact Tot.bind (Ae h H 100 (by decide) (by decide) y z) λv u=>Tot.ret ⟨u.1.1,u.2⟩
structure NS (c:Nat) (n:aa):Prop where
 nb:NB n
 table:(aa.table n).length<=c
 cast:(aa.cast n).length<=c
 doubts:(aa.doubts n).length<=c
 places:(aa.places n).length<=c
 others:(aa.others n).length<=c
theorem ei.ns {i:Nat}{n:aa}(h:ei i n):NS 8 n:=by
 cases y:n.2.1 with
 |true =>
  have r:=h.up y;refine⟨h.nb,by have:=h.short;omega,by have:=clen r.x.say;omega,?_,?_,?_⟩
  ·exact BJ (iP r.x.say.asc r.x.say.inp) (by decide)
  ·exact BJ (iP r.x.places.2 λx u=>(r.x.places.1 x u).1) (by decide)
  ·exact BJ (iP r.x.others.2 λx u=>⟨(r.x.others.1 x u).1.1,CA (r.x.others.1 x u).1.2 (by decide)⟩) (by decide)
 |false =>
  have e:=h.down y;refine⟨h.nb,?_,?_,?_,?_,?_⟩ <;> rw[e] <;> exact BO _
theorem xD (h:fH b)(hs:bc b m s)(n:aa){c:Nat}(hn:NS c n)(h8:8<=c)(hc:c<=1000)(hm:m<=90000)(hK:1048577<K):Tot (Q218.f K (s,n,())) λr=>NS (c+1) r.1.1/\bc b (m+60) r.2.1:=by
 simp only[Q218.f,zcp4,zcp8];rw[mM K n hn.nb hK];simp only[BA];obtain⟨⟨n1,n2,n3,X,n5,O,n7,R⟩,l1,Y,l3,l4,Z⟩:=hn;refine Tot.bind (aA h hs 12 (by decide) (by omega)) λv2 ⟨_,I⟩=>?_
 have y:∀ (n':aa) (z:List Int×Int),n'.2.2.2.2.2.2.2.2=n.2.2.2.2.2.2.2.2->bc b (m+60) z->NS (c+1) n'/\bc b (m+60) z:=λn' z e hz=>by
  refine⟨⟨⟨?_,?_,?_,?_,?_,?_,?_,?_⟩,?_,?_,?_,?_,?_⟩,hz⟩ <;> simp only[aa.table,aa.cast,aa.doubts,aa.places,aa.others] <;> rw[e] <;> first|assumption|(refine BJ ?_ (B4 c);assumption)
 have u2:bc b (m+60) v2.2.1:=I.up (by omega);refine Tot.cnd (λ_=>Tot.bind (pW h I (by omega) hK) λt ⟨tl,J⟩=>Tot.ret ⟨⟨⟨by show t.1.1.length<=_;omega,n2,n3,X,n5,O,n7,R⟩,by show t.1.1.length<=_;omega,BB Y,BB l3,BB l4,BB Z⟩,J.up (by omega)⟩) λ_=>?_
 refine Tot.cnd (λ_=>Tot.bind (vU h I (by omega) hK) λt ⟨tl,J⟩=>Tot.ret ⟨⟨⟨n1,by show t.1.1.length<=_;omega,n3,X,n5,O,n7,R⟩,BB l1,by show t.1.1.length<=_;omega,BB l3,BB l4,BB Z⟩,J.up (by omega)⟩) λ_=>?_
 refine Tot.cnd (λ_=>Tot.ret (y _ _ rfl u2)) λ_=>?_
 refine Tot.cnd (λ_=>Tot.bind (aA h I 9 (by decide) (by omega)) λv5 ⟨_,s5⟩=>Tot.bind (aA h s5 3 (by decide) (by omega)) λv6 ⟨_,s6⟩=>Tot.bind (aA h s6 3 (by decide) (by omega)) λv7 ⟨_,s7⟩=>Tot.bind (aA h s7 2 (by decide) (by omega)) λv8 ⟨_,s8⟩=>Tot.ret ⟨⟨⟨n1,n2,n3,X,n5,O,n7,R⟩,BB l1,BB Y,BB l3,BB l4,BB Z⟩,s8.up (by omega)⟩) λ_=>?_
 refine Tot.cnd (λ_=>Tot.bind (aA h I 8 (by decide) (by omega)) λv9 ⟨_,M⟩=>Tot.bind (aA h M 8 (by decide) (by omega)) λa0 ⟨_,H⟩=>Tot.fit (Tot.ret ⟨⟨⟨n1,n2,?_,?_,n5,O,n7,R⟩,BB l1,BB Y,?_,BB l4,BB Z⟩,H.up (by omega)⟩) (by omega) ?_) λ_=>?_
 ·show (aa.doubts n++[_]).length<=_;simp;omega
 ·intro d u;rcases BM.1 u with u|u
  ·exact X d u
  ·rw[BG.1 u];show ([a0.1.1]:List Int).length<=_;simp
 ·show (aa.doubts n++[_]).length<=_;simp;omega
 ·show (aa.doubts n).length+_<=_;simp;omega
 refine Tot.cnd (λ_=>Tot.bind (mh h I (by omega)) λc J=>Tot.ret ⟨⟨⟨n1,n2,n3,X,n5,O,n7,R⟩,BB l1,BB Y,BB l3,BB l4,BB Z⟩,J.up (by omega)⟩) λ_=>?_
 refine Tot.cnd (λ_=>Tot.bind (aA h I 9 (by decide) (by omega)) λv9 ⟨_,M⟩=>Tot.bind (mh h M (by omega)) λc H=>Tot.bind (aA h H 3 (by decide) (by omega)) λa2 ⟨_,a1⟩=>Tot.fit (Tot.ret ⟨⟨⟨n1,n2,n3,X,?_,?_,n7,R⟩,BB l1,BB Y,BB l3,?_,BB Z⟩,a1.up (by omega)⟩) (by omega) ?_) λ_=>?_
 ·show (aa.places n++[_]).length<=_;simp;omega
 ·intro d u;rcases BM.1 u with u|u
  ·exact O d u
  ·rw[BG.1 u];show ([a2.1.1]:List Int).length<=_;simp
 ·show (aa.places n++[_]).length<=_;simp;omega
 ·show (aa.places n).length+_<=_;simp;omega
 refine Tot.cnd (λ_=>Tot.bind (aA h I 3 (by decide) (by omega)) λv9 ⟨_,M⟩=>Tot.bind (pW h M (by omega) hK) λt ⟨tl,H⟩=>Tot.fit (Tot.ret ⟨⟨⟨n1,n2,n3,X,n5,O,?_,?_⟩,BB l1,BB Y,BB l3,BB l4,?_⟩,H.up (by omega)⟩) (by omega) ?_) λ_=>?_
 ·show (aa.others n++[_]).length<=_;simp;omega
 ·intro d u;rcases BM.1 u with u|u
  ·exact R d u
  ·rw[BG.1 u];show t.1.1.length<=_;omega
 ·show (aa.others n++[_]).length<=_;simp;omega
 ·show (aa.others n).length+_<=_;simp;omega
 refine Tot.cnd (λ_=>Tot.ret (y _ _ rfl u2)) λ_=>Tot.cnd (λ_=>Tot.ret (y _ _ rfl u2)) λ_=>?_
 refine Tot.cnd (λ_=>Tot.bind (aA h I 3 (by decide) (by omega)) λv ⟨⟨a,b⟩,J⟩=>Tot.ix2 a b λ_ _ _=>Tot.ret (y _ _ rfl (J.up (by omega)))) λ_=>?_
 exact Tot.bind (aA h I 8 (by decide) (by omega)) λv9 ⟨_,M⟩=>Tot.bind (aA h M 3 (by decide) (by omega)) λv ⟨⟨a,b⟩,J⟩=>Tot.ix2 a b λ_ _ _=>Tot.ret (y _ _ rfl (J.up (by omega)))
end
section
variable {K:Nat} {b:List Int} {m:Nat} {s:List Int×Int}
end
theorem bc.zero (b:List Int):bc b 0 (b,0):=⟨0,BT _,rfl⟩
structure xE (code:List Int):Prop where
 byte:∀ y∈code,0<=y/\y<=255
 len:code.length<=9223372036854775807
theorem om (K:Nat)(xs:List Int)(z:xs.length<=1048576)(y:1048577<K):Q225.f K (xs,xs,())=rb true:=by
 have r:Q225.l0 K (xs,xs,()) 0=rb true:=by
  refine fm (step:=λrec a=>Q225.s0 K (xs,xs,()) rec a) xs.length (λi=>(i:Int)) (rb true) ?_ ?_ (by omega)
  ·intro rec i u;simp only[Q225.s0];rw[decide_eq_true (by omega:(i:Int)<(BD xs:Int)),ag u,au i (by omega)];simp only[cond_true,BA,bne_self_eq_false,cond_false]
  ·intro rec;simp only[Q225.s0,aS];rfl
 simp only[Q225.f,Q225.pre,bne_self_eq_false,cond_false];exact r
theorem tn (K:Nat)(xs:List aM)(z:xs.length<=1048576)(y:1048577<K):Q224.f K (xs,xs,())=rb true:=by
 have r:Q224.l0 K (xs,xs,()) 0=rb true:=by
  refine fm (step:=λrec a=>Q224.s0 K (xs,xs,()) rec a) xs.length (λi=>(i:Int)) (rb true) ?_ ?_ (by omega)
  ·intro rec i u;simp only[Q224.s0];rw[decide_eq_true (by omega:(i:Int)<(BD xs:Int)),ag u,au i (by omega)];simp only[cond_true,BA];rw[show Ty.eqv t3 xs[i] xs[i]=true by
    show (Ty.eqv t2 xs[i].1 xs[i].1&&decide (xs[i].2=xs[i].2))=true;rw[show Ty.eqv t2 xs[i].1 xs[i].1=decide (xs[i].1=xs[i].1) from gW _ _,decide_eq_true rfl,decide_eq_true rfl];rfl]
   rfl
  ·intro rec;simp only[Q224.s0,aS];rfl
 simp only[Q224.f,Q224.pre,bne_self_eq_false,cond_false];exact r
theorem uq (K:Nat)(n:aa)(r:NB n)(y:1048577<K):Q226.f K (n,n,())=rb true:=by
 have I:Q226.l2 K (n,n,()) 0=rb true:=by
  have z:=r.others;refine fm (step:=λrec a=>Q226.s2 K (n,n,()) rec a) (aa.others n).length (λi=>(i:Int)) (rb true) ?_ ?_ (by omega)
  ·intro rec i u;simp only[Q226.s2];rw[bo (by omega:(i:Int)<(BD (aa.others n):Int)),ag u,au i (by omega)];simp only[cond_true,BA,bne_self_eq_false,cond_false];refine (congrArg (λo=>BC o _) (kl K _ (r.facts _ (BI u)) y)).trans rfl
  ·intro rec;simp only[Q226.s2,aS];rfl
 have J:Q226.l1 K (n,n,()) 0=rb true:=by
  have z:=r.places;refine fm (step:=λrec a=>Q226.s1 K (n,n,()) (Q226.l2 K (n,n,())) rec a) (aa.places n).length (λi=>(i:Int)) (rb true) ?_ ?_ (by omega)
  ·intro rec i u;simp only[Q226.s1];rw[bo (by omega:(i:Int)<(BD (aa.places n):Int)),ag u,au i (by omega)];simp only[cond_true,BA,bne_self_eq_false,cond_false];rw[show Ty.eqv t9 (aa.places n)[i].2.1 (aa.places n)[i].2.1=decide ((aa.places n)[i].2.1=(aa.places n)[i].2.1) from pB _ _,decide_eq_true rfl];simp only[BH,cond_false];refine (congrArg (λo=>BC o _) (om K _ (r.trips _ (BI u)) y)).trans rfl
  ·intro rec;simp only[Q226.s1,aS];exact I
 have H:Q226.l0 K (n,n,()) 0=rb true:=by
  have z:=r.doubts;refine fm (step:=λrec a=>Q226.s0 K (n,n,()) (Q226.l1 K (n,n,())) rec a) (aa.doubts n).length (λi=>(i:Int)) (rb true) ?_ ?_ (by omega)
  ·intro rec i u;simp only[Q226.s0];rw[bo (by omega:(i:Int)<(BD (aa.doubts n):Int)),ag u,au i (by omega)];simp only[cond_true,BA,bne_self_eq_false,cond_false];refine (congrArg (λo=>BC o _) (om K _ (r.by_ _ (BI u)) y)).trans rfl
  ·intro rec;simp only[Q226.s0,aS];exact J
 simp only[Q226.f,Q226.pre,bne_self_eq_false,cond_false];refine (congrArg (λo=>BC o _) (kl K (aa.table n) r.table y)).trans ?_;simp only[rb,BA,BH,cond_false];refine (congrArg (λo=>BC o _) (tn K (aa.cast n) r.cast y)).trans ?_;simp only[rb,BA,BH,cond_false];rw[show Ty.eqv t2 n.2.2.2.2.2.2.2.2.2.2.1 n.2.2.2.2.2.2.2.2.2.2.1=decide (aa.probe n=aa.probe n) from gW _ _,show Ty.eqv t9 n.2.2.2.2.2.2.2.2.2.2.2.2.1 n.2.2.2.2.2.2.2.2.2.2.2.2.1=decide (aa.coord n=aa.coord n) from pB _ _,decide_eq_true rfl,decide_eq_true rfl];exact H
section
variable {K:Nat} {b:List Int} {m:Nat} {s:List Int×Int}
theorem yN {v:Int}(r:0<=v)(u:v<8):0<=wr .i64 (Bs v 4)/\wr .i64 (Bs v 4)<=1:=by
 have:am v=v / 4:=fa ⟨r,by omega⟩;have e:wr .i64 (Bs v 4)=v / 4:=this;rw[e];omega
theorem yO (h:fH b)(hs:bc b m s)(hm:m<=90000)(O:1048577<K):Tot (Q219.f K (s,())) λr=>(ak.table r.1.1).length<=5/\bc b (m+100) r.2.1:=by
 simp only[Q219.f];refine Tot.bind (aA h hs 8 (by decide) (by omega)) λY ⟨⟨Z,b1⟩,s1⟩=>Tot.bind (aA h s1 6 (by decide) (by omega)) λv2 ⟨_,s2⟩=>Tot.bind (aA h s2 4 (by decide) (by omega)) λv3 ⟨_,R⟩=>Tot.bind (aA h R 9 (by decide) (by omega)) λv4 ⟨_,s4⟩=>Tot.bind (aA h s4 3 (by decide) (by omega)) λv5 ⟨⟨a5,b5⟩,s5⟩=>Tot.ix2 a5 b5 λy _ _=>?_
 obtain⟨q0,X⟩:=yN Z b1;refine Tot.bind (aA h s5 4 (by decide) (by omega)) λv8 ⟨_,s8⟩=>Tot.bind (rl h s8 (by omega)) λc s9=>Tot.bind (nQ h s9 (wr .i64 (Bs Y.1.1 4)) (by omega) X (by omega) O) λt ⟨⟨_,_,t3⟩,z⟩=>?_
 refine Tot.cnd (λ_=>?_) λ_=>Tot.ret ⟨t3,z.up (by omega)⟩
 refine Tot.bind (aA h z 2 (by decide) (by omega)) λM ⟨⟨a0,a4⟩,H⟩=>Tot.bind (nQ h H M.1.1 (by omega) (by omega) (by omega) O) λt' ⟨⟨_,_,t4⟩,J⟩=>Tot.bind (aA h J 2 (by decide) (by omega)) λa2 ⟨_,u⟩=>Tot.cnd (λ_=>?_) λ_=>Tot.ret ⟨t4,u.up (by omega)⟩
 exact Tot.bind (aA h u 4 (by decide) (by omega)) λa3 ⟨_,I⟩=>Tot.ret ⟨t4,I.up (by omega)⟩
theorem xF (h:fH b)(I:bc b m s)(O:m<=89000)(H:1048577<K):Tot (Q220.f K (s,())) λr=>(ak.table r.1.1).length<=6/\bc b (m+120) r.2.1:=by
 simp only[Q220.f,zcp4];refine Tot.bind (yO h I (by omega) H) λw ⟨M,J⟩=>Tot.bind (aA h J 16 (by decide) (by omega)) λR ⟨_,z⟩=>?_
 have u:(ak.table w.1.1).length<=6:=by omega
 refine Tot.cnd (λ_=>Tot.bind (aA h z 2 (by decide) (by omega)) λv ⟨⟨a,c⟩,y⟩=>Tot.ix2 a c λ_ _ _=>Tot.ret ⟨u,y.up (by omega)⟩) λ_=>?_
 refine Tot.cnd (λ_=>Tot.bind (aA h z 4 (by decide) (by omega)) λv ⟨_,y⟩=>Tot.ret ⟨u,y.up (by omega)⟩) λ_=>?_
 refine Tot.cnd (λ_=>Tot.bind (mh h z (by omega)) λv y=>Tot.ret ⟨u,y.up (by omega)⟩) λ_=>?_
 refine Tot.cnd (λ_=>Tot.bind (mW h z (by omega)) λv y=>Tot.fit (Tot.ret ⟨?_,y.up (by omega)⟩) (by omega) (by show (ak.table w.1.1).length+_<=_;simp;omega)) λ_=>?_
 ·show (ak.table w.1.1++[_]).length<=6;simp;omega
 refine Tot.cnd (λ_=>Tot.bind (aA h z 2 (by decide) (by omega)) λv ⟨⟨a,c⟩,y⟩=>Tot.ix2 a c λ_ _ _=>Tot.ret ⟨u,y.up (by omega)⟩) λ_=>?_
 refine Tot.cnd (λ_=>Tot.bind (aA h z 2 (by decide) (by omega)) λv ⟨⟨a,c⟩,y⟩=>Tot.ix2 a c λ_ _ _=>Tot.ret ⟨u,y.up (by omega)⟩) λ_=>Tot.ret ⟨u,z.up (by omega)⟩
theorem to_t (h:fH b)(hs:bc b m s)(w:bR)(n:aa)(hr:fR w.2.1)(hm:m<=80000)(hK:1048577<K):Tot (Q221.f K (s,w,n,())) λr=>(ak.table r.1.1).length<=1048576:=by
 refine Tot.iter (step:=λrec a=>Q221.s0 K (s,w,n,()) rec a) (λa=>∃ i:Nat,i<=3/\a.1=(i:Int)/\bc b (m+i) a.2) (λa=>3-a.1.toNat) ?_ K _ (by show 3-BE 0<K;omega) ⟨0,by omega,rfl,hs⟩;rintro rec ⟨i',z⟩ ⟨i,hi,e,J⟩ ih;have e:i'=(i:Int):=e;subst e;have J:bc b (m+i) z:=J;have u:Tot ((Q220.f K (z,())).bind λH=>(Q150.f K (H.2.1,10,())).bind λY=>bif decide (Y.1.1>0) then some ((((H.1.1.1,H.1.1.2.1,H.1.1.2.2.1,n.1,H.1.1.2.2.2.2),()),Y.2.1,()):(ak×Unit)×(List Int×Int)×Unit) else some ((H.1.1,()),Y.2.1,())) λr=>(ak.table r.1.1).length<=1048576 :=
  Tot.bind (xF h J (by omega) hK) λv ⟨hv,I⟩=>Tot.bind (aA h I 10 (by decide) (by omega)) λ_ _=>Tot.cnd (λ_=>Tot.ret (show (ak.table v.1.1).length<=1048576 by omega)) λ_=>Tot.ret (show (ak.table v.1.1).length<=1048576 by omega)
 simp only[Q221.s0];refine Tot.cnd (λh3=>Tot.cnd (λZ=>?_) λ_=>u) λ_=>u
 have h3:(i:Int)<3:=of_decide_eq_true h3;have Z:(w.2.1.length:Int)>0:=of_decide_eq_true Z;rw[au i (by omega)];refine Tot.bind (aA h J (w.2.1.length:Int) (by omega) (by omega)) λv1 ⟨⟨a1,b1⟩,I⟩=>Tot.ix a1 b1 λy hy _=>?_
 have a0:=(hr.2 y hy).2;have next:∀ M,bc b (m+(i+1)) M->Tot (rec (((i+1:Nat):Int),M)) λr=>(ak.table r.1.1).length<=1048576:=λM X=>ih _ ⟨i+1,by omega,rfl,X⟩ (by show 3-BE ((i+1:Nat):Int)<3-BE (i:Int);omega)
 refine Tot.bind (mb K y.2.1 (by omega) hK) λv3 R=>Tot.cnd (λO=>?_) λ_=>next _ I
 have hW:=R O;rw[dk K,dk K];simp only[BA];exact Tot.cnd (λ_=>Tot.cnd (λ_=>Tot.ret (show (ak.table v3.1.1).length<=1048576 from bY hW.2.2.2.2.2.2.2.1)) λ_=>next _ I) λ_=>next _ I
end
theorem vV (K:Nat)(u:List Int)(M:xE u)(H:1048577<K):Tot (Q222.f K (u,())) λr=>NS 9 r.1.1/\(ak.table r.1.2.1).length<=1048576:=by
 obtain⟨bs,z,e⟩:=Bb (K:=K) u M.byte M.len;simp only[Q222.f];refine Tot.vl e (Tot.bind (Af z (bc.zero bs) (by omega) H) λw ⟨I,s1⟩=>Tot.bind (aA z s1 _ (by have:=I.len;show (1:Int)<=(w.1.1.1.length:Int);omega) (by omega)) λv3 ⟨⟨Y,b3⟩,X⟩=>Tot.ix Y b3 λy hy _=>?_);obtain⟨i,Z,rfl⟩:=BX hy;have R:=(I.node i Z).ns;refine Tot.bind (aA z X 24 (by decide) (by omega)) λv5 ⟨_,O⟩=>Tot.cnd (λ_=>?_) λ_=>?_
 ·exact Tot.bind (xD z O _ R (BT _) (by omega) (by omega) H) λv6 ⟨J,s6⟩=>Tot.bind (to_t z s6 w.1.1 v6.1.1 I.radio (by omega) H) λv7 h7=>Tot.ret ⟨J,h7⟩
 ·refine Tot.bind (to_t z O w.1.1 _ I.radio (by omega) H) λv8 h8=>Tot.ret ⟨?_,h8⟩
  obtain⟨h1,h2,h3,h4,h5,h6⟩:=R;exact⟨h1,BB h2,BB h3,BB h4,BB h5,BB h6⟩
theorem ur (K:Nat)(w:ak)(r:(ak.table w).length<=1048576)(u:1048577<K):Q227.f K (w,w,())=rb true:=by
 simp only[Q227.f,beq_self_eq_true,cond_true];rw[show Ty.eqv t9 w.2.2.2.2.2.2.1 w.2.2.2.2.2.2.1=decide (w.2.2.2.2.2.2.1=w.2.2.2.2.2.2.1) from pB _ _,decide_eq_true rfl];simp only[cond_true];exact (congrArg (λo=>BC o _) (kl K (ak.table w) r u)).trans rfl
theorem tp (K:Nat)(xs:List ak)(H:xs.length<=1048576)(u:∀ w∈xs,(ak.table w).length<=1048576)(z:1048577<K):Q228.f K (xs,xs,())=rb true:=by
 have y:Q228.l0 K (xs,xs,()) 0=rb true:=by
  refine fm (step:=λrec a=>Q228.s0 K (xs,xs,()) rec a) xs.length (λi=>(i:Int)) (rb true) ?_ ?_ (by omega)
  ·intro rec i r;simp only[Q228.s0];rw[bo (by omega:(i:Int)<(BD xs:Int)),ag r,au i (by omega)];simp only[cond_true,BA];exact (congrArg (λo=>BC o _) (ur K _ (u _ (BI r)) z)).trans rfl
  ·intro rec;simp only[Q228.s0,aS];rfl
 simp only[Q228.f,Q228.pre,bne_self_eq_false,cond_false];exact y
theorem Bc {v:Int}(h:InP v 0 7)(d:Int)(u:InP d 1 3):InP (wr .i64 (wr .i64 (wr .i64 (Bs v 4)*4)+BR (wr .i64 (v+d)) 4)) 0 7/\am (wr .i64 (wr .i64 (wr .i64 (Bs v 4)*4)+BR (wr .i64 (v+d)) 4))=am v/\wr .i64 (wr .i64 (wr .i64 (Bs v 4)*4)+BR (wr .i64 (v+d)) 4)≠v:=by
 have y:wr .i64 (Bs v 4)=v / 4:=fa h;obtain⟨r,z⟩:=h;obtain⟨H,I⟩:=u;rw[y,aH (n:=v / 4*4) (by omega) (by omega),aH (n:=v+d) (by omega) (by omega),Int.tmod_eq_emod_of_nonneg (by omega),aH (by omega) (by omega)];rw[fa (n:=v / 4*4+(v+d) % 4) ⟨by omega,by omega⟩,fa ⟨r,z⟩];exact⟨⟨by omega,by omega⟩,by omega,by omega⟩
theorem yP (K:Nat)(n:aa)(w:ak)(M:NB n)(O:(ak.table w).length<=1048576)(z:w.2.1≠2)(u:1048577<K):∃ (y:aa) (r:List ak) (b:Bool),NB y/\r.length<=1/\(∀ x∈r,(ak.table x).length<=1048576)/\Q63.f K (n,w,())=some ((y,r,()),())/\Q148.f K (n,w,())=some ((y,r,()),()) /\
  Q226.f K (y,y,())=rb true/\Q228.f K (r,r,())=rb true/\Q229.f K (n,w,())=rb b/\Q104.f K (n,w,())=rb b/\(b=true->fF n/\dK w/\gx n w/\y=(bK K n w).1/\r=(bK K n w).2):=by
 obtain⟨y,r,R,hl,J,e1,Z,h3,_,_⟩:=uo K n w M O z u;obtain⟨b,t1,t2,t3⟩:=pV K n w M O u;exact⟨y,r,b,R,hl,J,e1,Z,uq K y R u,tp K r (by omega) J u,t1,t2,λY=>by
  obtain⟨H,I,X⟩:=t3.1 Y;exact⟨H,I,X,h3 ⟨H,I,X⟩⟩⟩
end Go.Proofs.YtaelpfghkndliaaGreatEv
