/- What a node answers, by the specification. -/
import Derived.Test.YtadlacffdemoiaaGreatP2
set_option linter.unusedVariables false
set_option linter.unusedSimpArgs false
open Bool renaming not_true->BH,eq_iff_iff->BR,not_false->BY,true_and->B5,false_eq_true->CG,not_eq_true'->CH,and_eq_true->CL,not_eq_true->CM,or_false->CR
open Classical renaming not_not->CI
open Iff renaming rfl->CT
open Int renaming toNat->BE,toNat_natCast->BF,eq_ofNat_of_zero_le->BO,toNat_zero->BZ,tmod->B3,le_refl->B4,fdiv->B8,toNat_of_nonneg->CE,tmod_lt_of_pos->CF,le_trans->CJ,tmod_nonneg->CP,tdiv->CQ
open List renaming length->BD,mem_singleton->BG,getElem_mem->BI,length_set->BK,length_append->BL,mem_append->BM,getElem_of_mem->BN,nil_append->BQ,drop_zero->BS,mem_of_mem_take->BU,mem_map->BV,length_take->BW,mem_filter->BX,getElem?_eq_getElem->B6,take_length->B7,length_drop->B9,length_map->CA,length_nil->CB,length_filter_le->CC,take_add_one->CK,length_cons->CN,not_mem_nil->CO,mem_cons->CS
open Nat renaming le_succ_of_le->BB,le_trans->BJ,zero_le->BP,le_refl->BT,le_succ->CD
open Option renaming bind_some->BA,bind->BC
namespace Go.Proofs.YtadlacffdemoiaaGreatEv
open Go
theorem qw (K:Nat)(l:List Int)(t:Int)(u:l.length<=1048576):Q45.f K (l,t,())=some ((gX l t,()),()):=by
 simp only[Q45.f];rw[szb _ _ _ (by omega) (by show (BD ([]:List Int))+l.length<=_;simp;omega)];simp only[cond_true,BQ];rw[szb _ _ _ (by omega) (by show l.length+[t].length<=_;simp;omega)];simp only[cond_true];have r:(l++[t]).length=l.length+1:=by simp
 show (bif decide (((l++[t]).length:Int)>3) then (bif decide (0<=wr .i64 (((l++[t]).length:Int)-3))&&decide (wr .i64 (((l++[t]).length:Int)-3)<=((l++[t]).length:Int))&&decide (((l++[t]).length:Int)<=((l++[t]).length:Int))&&true then some ((((l++[t]).take (BE ((l++[t]).length:Int))).drop (BE (wr .i64 (((l++[t]).length:Int)-3))),()),()) else none) else some ((l++[t],()),()))=_;by_cases h:l.length+1>3
 ·rw[aJ (by omega) (by omega),decide_eq_true (by omega:((l++[t]).length:Int)>3),decide_eq_true (by omega:(0:Int)<=((l++[t]).length:Int)-3),decide_eq_true (by omega:((l++[t]).length:Int)-3<=((l++[t]).length:Int)),decide_eq_true (B4 _)];simp only[Bool.and_self,cond_true,gX];rw[show BE (((l++[t]).length:Int)-3)=(l++[t]).length-3 by omega,BF,B7]
 ·rw[decide_eq_false (by omega:¬ ((l++[t]).length:Int)>3)];simp only[cond_false,gX];rw[show (l++[t]).length-3=0 by omega,BS]
theorem plen {r:Int}{l:List dJ}(h:eq r l):l.length<=1048576:=BJ (iN h.2 λx u=>(h.1 x u).1) (by decide)
theorem ul {u:Int}{l:List dJ}(h:eq u l)(r:Int):(dG l r).length<=3:=by
 unfold dG;cases y:l.find? λp=>p.1==r with
 |none=>simp
 |some p =>
  have:=(h.1 p (List.mem_of_find?_eq_some y)).2.2.2.2.1.2;show p.2.2.length<=3;omega
theorem Ah (K:Nat)(l:List dJ)(r:Int)(c:dy)(t:Int)(me:Int)(h:eq me l)(hK:1048577<K):Q46.f K (l,r,c,t,())=some ((o6 l r c t,()),()):=by
 have hl:=plen h;have h3:=ul h r;refine rh (step:=λrec a=>Q46.s0 K (l,r,c,t,()) rec a) (λx:dJ=>x.1) (r,c,gX (dG l r) t) l h.2 (λu i=>(u,false,(i:Int),[])) (λu i=>(u,true,(i:Int),gX (dG l r) t)) (λo=>some ((o,()),())) ?_ ?_ ?_ ?_ (by omega)
 ·intro rec u i I M z;simp only[Q46.s0];rw[bh (by omega:(i:Int)<(BD l:Int)),ag I,ar i (by omega)];simp only[cond_true,BA,BY];have R:=szb u.length 1 64 (by omega) (by omega);have Z:=szb (u++[(r,c,gX (dG l r) t)]).length 1 64 (by omega) (by simp;omega);have X:l[i].1=r->dG l r=l[i].2.2:=λe=>by unfold dG;rw[oV h.2 I e];rfl
  have J:r<l[i].1->dG l r=[]:=λe=>by
   unfold dG;rw[nN (k:=λp:dJ=>p.1)]
   ·rfl
   intro y O;obtain⟨j,hj,rfl⟩:=BN O;by_cases a0:j<i
   ·have:=z l[j] (by rw[List.mem_take_iff_getElem];exact⟨j,by omega,rfl⟩);show l[j].1≠r;have:l[j].1<r:=this;omega
   ·have:l[i].1<=l[j].1:=by
     by_cases e:i=j
     ·subst e;exact B4 _
     ·exact Int.le_of_lt (cB.1 h.2 i j I hj (by omega))
    show l[j].1≠r;omega
  have a1:=(h.1 _ (BI I)).2.2.2.2.1.2;generalize l[i]=y at *;by_cases Y:y.1<r
  ·rw[if_pos Y,show decide (y.1>=r)=false from decide_eq_false (by omega),show (y.1 != r)=true by simp;omega,show (y.1==r)=false by simp;omega];exact (congrArg (λb=>bif b then _ else _) R).trans rfl
  ·rw[if_neg Y,show decide (y.1>=r)=true from decide_eq_true (by omega)];by_cases H:y.1=r
   ·rw[if_pos H,show (y.1 != r)=false by simpa using H,show (y.1==r)=true by simpa using H];simp only[cond_true,cond_false];rw[<- X H];refine (congrArg (λo=>BC o _) (qw K _ t (by omega))).trans ?_;exact (congrArg (λb=>bif b then _ else _) R).trans rfl
   ·rw[if_neg H,show (y.1 != r)=true by simpa using H,show (y.1==r)=false by simpa using H];simp only[cond_true,cond_false];have e:=J (by omega);rw[e]at Z ⊢;refine (congrArg (λo=>BC o _) (qw K [] t (by simp))).trans ?_;refine (congrArg (λb=>bif b then _ else _) R).trans ?_;exact (congrArg (λb=>bif b then _ else _) Z).trans rfl
 ·intro rec u i I M hc;simp only[Q46.s0];rw[bh (by omega:(i:Int)<(BD l:Int)),ag I,ar i (by omega)];have hc:r<l[i].1:=hc;simp only[cond_true,BA,BH,cond_false];rw[show (l[i].1 != r)=true by simp;omega,show (l[i].1==r)=false by simp;omega];exact (congrArg (λb=>bif b then _ else _) (szb u.length 1 64 (by omega) (by omega))).trans rfl
 ·intro rec u M z;simp only[Q46.s0,aP,cond_false,BY,cond_true];have e:dG l r=[]:=by
   unfold dG;rw[nN (k:=λp:dJ=>p.1) (λy O=>by have:y.1<r:=z y O;show y.1≠r;omega)];rfl
  rw[e];refine (congrArg (λo=>BC o _) (qw K [] t (by simp))).trans ?_;exact (congrArg (λb=>bif b then _ else _) (szb u.length 1 64 (by omega) (by omega))).trans rfl
 ·intro rec u M;simp only[Q46.s0,aP,cond_false,BH]
def th (n u r:Int):Int:=if n<u then u else if n>r then r else n
theorem zy (K:Nat)(n z y:Int):Q44.f K (n,z,y,())=some ((th n z y,()),()):=by
 simp only[Q44.f,th];by_cases u:n<z
 ·rw[decide_eq_true u,if_pos u];rfl
 ·rw[decide_eq_false u,if_neg u];by_cases r:n>y
  ·rw[decide_eq_true r,if_pos r];rfl
  ·rw[decide_eq_false r,if_neg r];rfl
theorem Ai {n u r:Int}(h:u<=r):InP (th n u r) u r:=by
 unfold th;split
 ·exact⟨B4 _,h⟩
 ·split
  ·exact⟨h,B4 _⟩
  ·exact⟨by omega,by omega⟩
def xx (n:aa):Int:=th ((cf n-(aa.probe n).2.1)*1000+500) 1 60000
noncomputable def qx (K:Nat)(w:aj)(c:dy)(p:dJ):dy:=bif p.1==w.2.2.1 then pR K c (aj.coord w) (se K p.2.2) w.2.2.2.2.1 else c
def kn (n:aa)(w:aj):List dJ:=o6 (aa.places n) w.2.2.1 (aj.coord w) (xx n)
def qy (n:aa)(w:aj):Bool:=!decide ((aa.probe n).1<0)&&(aa.probe n).1==w.2.2.1&&(aa.probe n).2.2.1==w.2.2.2.2.1&&w.2.2.2.2.2.1==w.2.2.1
noncomputable def fe (K:Nat)(n:aa)(w:aj):aa:=bif qy n w then pP n ((kn n w).foldl (qx K w) (aa.coord n)) (kn n w) else n
theorem uS {K:Nat}{w:aj}{c:dy}{p:dJ}(r:cH c)(u:1048577<K):cH (qx K w c p):=by
 unfold qx;cases p.1==w.2.2.1 with
 |false=>exact r
 |true=>exact (xu K c _ _ _ r u).2
theorem tj {n:aa}(h:UpX n)(H:¬ (aa.probe n).1<0):(aa.probe n).1≠n.1/\InP (aa.probe n).1 0 7/\ak (aa.probe n).1=ak n.1/\InP (aa.probe n).2.1 0 (cf n):=by
 have r:=h.probe;unfold c7 at r;rw[if_neg (by omega)]at r;obtain⟨z,⟨f,u,e⟩,y,_⟩:=r;exact⟨z,e ▸ (h.table.1 f u).1,e ▸ h.site f u,y⟩
theorem uT {n:aa}{w:aj}(h:UpX n)(I:cH (aj.coord w))(y:qy n w=true):eq n.1 (kn n w):=by
 simp only[qy,CL,CH,decide_eq_false_iff_not,beq_iff_eq]at y;obtain⟨⟨⟨J,H⟩,M⟩,O⟩:=y;obtain⟨z,u,r,_⟩:=tj h J;rw[H]at z u r;exact vQ h.places u r z I (Ai (by decide))
theorem ack_s (K:Nat)(n:aa)(w:aj)(h:UpN n)(hw:cH (aj.coord w))(I:1048577<K):Q57.f K (n,w,())=some ((fe K n w,()),()):=by
 simp only[Q57.f,Q57.pre,zc00556];have z:qy n w=(!decide ((aa.probe n).1<0)&&(aa.probe n).1==w.2.2.1&&(aa.probe n).2.2.1==w.2.2.2.2.1&&w.2.2.2.2.2.1==w.2.2.1):=rfl;by_cases r:(aa.probe n).1<0
 ·rw[show decide (n.2.2.2.2.2.2.2.2.2.2.1.1<0)=true from decide_eq_true r];rw[show fe K n w=n by unfold fe;rw[z,decide_eq_true r];rfl];rfl
 ·rw[show decide (n.2.2.2.2.2.2.2.2.2.2.1.1<0)=false from decide_eq_false r];cases u:(aa.probe n).1==w.2.2.1 with
  |false =>
   rw[show fe K n w=n by unfold fe;rw[z,decide_eq_false r,u];rfl];rw[show (n.2.2.2.2.2.2.2.2.2.2.1.1 != w.2.2.1)=true by unfold bne;rw[show (n.2.2.2.2.2.2.2.2.2.2.1.1==w.2.2.1)=false from u];rfl];rfl
  |true =>
   rw[show (n.2.2.2.2.2.2.2.2.2.2.1.1 != w.2.2.1)=false by unfold bne;rw[show (n.2.2.2.2.2.2.2.2.2.2.1.1==w.2.2.1)=true from u];rfl];cases H:(aa.probe n).2.2.1==w.2.2.2.2.1 with
   |false =>
    rw[show fe K n w=n by unfold fe;rw[z,decide_eq_false r,u,H];rfl];rw[show (n.2.2.2.2.2.2.2.2.2.2.1.2.2.1 != w.2.2.2.2.1)=true by unfold bne;rw[show (n.2.2.2.2.2.2.2.2.2.2.1.2.2.1==w.2.2.2.2.1)=false from H];rfl];rfl
   |true =>
    rw[show (n.2.2.2.2.2.2.2.2.2.2.1.2.2.1 != w.2.2.2.2.1)=false by unfold bne;rw[show (n.2.2.2.2.2.2.2.2.2.2.1.2.2.1==w.2.2.2.2.1)=true from H];rfl];cases J:w.2.2.2.2.2.1==w.2.2.1 with
    |false =>
     rw[show fe K n w=n by unfold fe;rw[z,decide_eq_false r,u,H,J];rfl];rw[show (w.2.2.2.2.2.1 != w.2.2.1)=true by unfold bne;rw[J];rfl];rfl
    |true =>
     have X:qy n w=true:=by rw[z,decide_eq_false r,u,H,J];rfl
     rw[show (w.2.2.2.2.2.1 != w.2.2.1)=false by unfold bne;rw[J];rfl];have Y:=(tj h.x r).2.2.2;have hn:=h.now1;have R:=uT h.x hw X;simp only[cond_false];rw[show wr .i64 (wr .i64 (wr .i64 (n.2.2.2.2.2.1-n.2.2.2.2.2.2.2.2.2.2.1.2.1)*1000)+500)=(cf n-(aa.probe n).2.1)*1000+500 by
      obtain⟨p1,p2⟩:=Y;show wr .i64 (wr .i64 (wr .i64 (cf n-(aa.probe n).2.1)*1000)+500)=_;rw[aJ (n:=cf n-_) (by omega) (by omega),aJ (n:=_*1000) (by omega) (by omega),aJ (by omega) (by omega)]]
     rw[zy];simp only[BA];refine (congrArg (λo=>BC o _) (Ah K (aa.places n) w.2.2.1 (aj.coord w) (xx n) n.1 h.x.places I)).trans ?_;simp only[BA];rw[show fe K n w=pP n ((kn n w).foldl (qx K w) (aa.coord n)) (kn n w) by unfold fe;rw[X];rfl];show Q57.l0 K (n,w,()) (0,(aa.coord n).1,(aa.coord n).2.1,(aa.coord n).2.2.1,(aa.coord n).2.2.2,kn n w)=_;have hl:=plen R;refine kD (step:=λrec a=>Q57.s0 K (n,w,()) rec a) (kn n w) (qx K w) cH (λc i=>((i:Int),c.1,c.2.1,c.2.2.1,c.2.2.2,kn n w)) (λc=>some ((pP n c (kn n w),()),())) (aa.coord n) h.x.coord ?_ ?_ (by omega)
     ·intro rec c i O M;refine⟨?_,uS M I⟩;simp only[Q57.s0,zc00556,zcp8];rw[bh (by omega:(i:Int)<(BD (kn n w):Int)),BF,ag O,ar i (by omega)];simp only[cond_true,BA];have Z:=(R.1 _ (BI O)).2.2.2.2.1.2;generalize (kn n w)[i]=y at *;unfold qx;cases y.1==w.2.2.1 with
      |false=>rfl
      |true =>
       simp only[cond_true];refine (congrArg (λo=>BC o _) (med_s K y.2.2 (by omega) I)).trans ?_;refine (congrArg (λo=>BC o _) (xu K c (aj.coord w) (se K y.2.2) w.2.2.2.2.1 M I).1).trans ?_;rfl
     ·intro rec c M;simp only[Q57.s0,zc00556,zcp8,aP,cond_false];rfl
theorem Bb {K:Nat}{n:aa}{w:aj}(h:UpN n)(z:cH (aj.coord w))(y:1048577<K):UpN (fe K n w)/\(fe K n w).1=n.1/\(fe K n w).2.2.1=n.2.2.1:=by
 unfold fe;cases u:qy n w with
 |false=>exact⟨h,rfl,rfl⟩
 |true=>exact⟨h.heard (l7 (Inv:=cH) h.x.coord λc p _ r=>uS r y) (uT h.x z u),rfl,rfl⟩
def fJ (n:aa)(w:aj):Prop:=n.2.1=true/\n.2.2.1=false/\w.2.2.2.1=n.1/\w.2.2.1≠n.1 /\
 (if w.1=2 then w.2.1=6/\ak w.2.2.1≠ak n.1/\(b8 (aj.table w) (ak n.1)\/b8 (aj.table w) (ak w.2.2.1)) else ak w.2.2.1=ak n.1/\(w.2.1≠6\/¬ b8 (aj.table w) (ak n.1)))
theorem uU (K:Nat)(n:aa)(w:aj)(I:(aj.table w).length<=1048576)(H:1048577<K):Ret (Q24.f K (n,w,())) (fJ n w):=by
 refine (Ret.cndN (P:=¬ n.2.1=true) (b:=!n.2.1) (by simp) λ_=>Ret.cndN (P:=n.2.2.1=true) (b:=n.2.2.1) CT λ_=>Ret.cndN (P:=w.2.2.2.1≠n.1) (b:=w.2.2.2.1 != n.1) (by simp) λ_=>Ret.cndN (P:=w.2.2.1=n.1) (b:=w.2.2.1==n.1) (by simp) λ_ =>
  (?_:Ret _ (if w.1=2 then w.2.1=6/\ak w.2.2.1≠ak n.1/\(b8 (aj.table w) (ak n.1)\/b8 (aj.table w) (ak w.2.2.1)) else ak w.2.2.1=ak n.1/\(w.2.1≠6\/¬ b8 (aj.table w) (ak n.1))))).iff ?_
 ·refine Ret.vl (dk K n.1) ?_;obtain⟨J,z,y⟩:=e8 K (aj.table w) (ak n.1) I H;obtain⟨M,R,O⟩:=e8 K (aj.table w) (ak w.2.2.1) I H;by_cases r:w.1=2
  ·rw[show (w.1==2)=true by simpa using r,if_pos r];refine Ret.cnd (P:=w.2.1=6) (b:=w.2.1==6) (by simp) λ_=>?_
   refine Ret.cnd (P:=ak w.2.2.1≠ak n.1) (b:=ak w.2.2.1 != ak n.1) (by simp) λ_=>Ret.vl z ?_
   cases J with
   |true=>exact Ret.yes (.inl (y.1 rfl))
   |false =>
    refine Ret.vl R ?_;exact Ret.of (b:=M) (O.trans ⟨.inr,λh=>h.resolve_left λh=>by have:=y.2 h;cases this⟩)
  ·rw[show (w.1==2)=false by simpa using r,if_neg r];refine Ret.cnd (P:=ak w.2.2.1=ak n.1) (b:=ak w.2.2.1==ak n.1) (by simp) λ_=>?_
   by_cases u:w.2.1=6
   ·show Ret (bif w.2.1 != 6 then _ else _) _;rw[show (w.2.1 != 6)=false by simpa using u];refine Ret.vl z (Ret.of (b:=!J) ?_);rw[CH,<- CM,y];exact⟨.inr,λh=>h.resolve_left λh=>h u⟩
   ·show Ret (bif w.2.1 != 6 then _ else _) _;rw[show (w.2.1 != 6)=true by simpa using u];exact Ret.yes (.inl u)
 ·unfold fJ;rw[CI,CM,CI]
def pT (u:Int)(n:aa)(to y r:Int)(t:List af):aj:=(1,u,n.1,to,y,r,aa.coord n,t)
theorem pU (K:Nat)(n:aa)(u to y r:Int)(t:List af)(z:t.length<=1048576):Q39.f K (n,u,to,y,r,t,())=some ((pT u n to y r t,()),()):=by
 simp only[Q39.f];rw[szb _ _ _ (by omega) (by show (BD ([]:List af))+t.length<=_;simp;omega)];rfl
def mg (t:List af)(s:Int):Bool:=t.all λf=>ak f.1==s
theorem kH {t:List af}{s:Int}:mg t s=true<->b8 t s:=by simp[mg,b8]
def ch (t:List af):af:=(t.head?).getD (0,0,0,false)
def bH (n:aa)(w:aj):List af:=eX (eE (aa.others n) (ak (ch (aj.table w)).1)) (aj.table w)
def vT (n:aa)(w:aj):aj:=(2,6,n.1,w.2.2.1,0,n.1,aa.coord n,bH n w)
def sumN (n:aa)(w:aj):aa:=mX n (bq (λx:bY=>x.1) (ak (ch (aj.table w)).1,bH n w) (aa.others n))
def eP (n:aa)(w:aj):aa×List aj:=bif mg (aj.table w) (ak n.1) then (eO n (aj.table w) n.1,[]) else
 (sumN n w,bif w.1==2&&decide (aj.table w≠bH n w) then [vT n w] else [])
theorem pV:∀ {fs t:List af} {g:af},g∈eX t fs->g∈t\/g∈fs
 |[],_,_,h=>.inl h
 |f::fs,t,g,h=>by
  rcases pV (fs:=fs) h with h|h
  ·have h:g∈(bO t f).1:=h;rcases gU t f with e|e
   ·rw[e]at h;exact .inl h
   ·rw[e]at h;rcases aV.1 h with rfl|⟨h,_⟩
    ·exact .inr (by simp)
    ·exact .inl h
  ·exact .inr (by simp[h])
theorem pW:∀ {fs t:List af} {g:af},g∈t->∃ z∈eX t fs,z.1=g.1
 |[],_,g,h=>⟨g,h,rfl⟩
 |f::fs,t,g,h=>by
  obtain⟨J,I,r⟩:=mQ (f:=f) h;obtain⟨u,y,H⟩:=pW (fs:=fs) I;exact⟨u,y,H.trans r⟩
theorem um {t:List af}(H:Asc (λg:af=>g.1) t)(f:af):∃ g∈(bO t f).1,g.1=f.1:=by
 by_cases h:∃ g∈t,g.1=f.1
 ·obtain⟨g,r,e⟩:=h;obtain⟨u,y,z⟩:=mQ (f:=f) r;exact⟨u,y,z.trans e⟩
 ·rw[gw λg r e=>h ⟨g,r,e⟩];exact⟨f,aV.2 (.inl rfl),rfl⟩
theorem kI {n:aa}{w:aj}(h:c8 n.1 (aa.others n))(I:az (aj.table w))(u:lY (aj.table w)):az (bH n w)/\bH n w≠[]/\b8 (bH n w) (ak (ch (aj.table w)).1):=by
 have z:=o7 h (ak (ch (aj.table w)).1);refine⟨qZ z I.1,?_,?_⟩
 ·unfold bH;cases y:aj.table w with
  |nil=>rw[y]at u;exact u.elim
  |cons f l =>
   obtain⟨g,H,_⟩:=um (f:=f) (t:=eE (aa.others n) (ak (ch (f::l)).1)) (by rw[y]at z;exact z.2);obtain⟨R,O,_⟩:=pW (fs:=l) H;exact List.ne_nil_of_mem O
 ·intro g r;rcases pV r with r|r
  ·rcases qU (l:=aa.others n) (s:=ak (ch (aj.table w)).1) with e|⟨x,J,M,e⟩
   ·rw[e]at r;cases r
   ·rw[e]at r;rw[<- M];exact (h.1 x J).2.2.2.2 g r
  ·cases y:aj.table w with
   |nil=>rw[y]at u;exact u.elim
   |cons f l =>
    rw[y]at u r;exact u g r
theorem uV {x:Int}(h:InP x 0 7):InP (ak x) 0 1:=by
 rw[jd h];obtain⟨u,r⟩:=h;constructor <;> omega
theorem tk {t:List af}(r:lY t)(u:az t):InP (ch t).1 0 7:=by
 cases t with
 |nil=>exact r.elim
 |cons f l=>exact (u.1 f (by simp)).1
theorem xy (K:Nat)(n:aa)(w:aj)(h:UpN n)(r:az (aj.table w))(z:lY (aj.table w))(u:1048577<K):Q40.f K (n,w,())=some (((eP n w).1,(eP n w).2,()),()):=by
 simp only[Q40.f];rw[dk K n.1];simp only[BA];obtain⟨H,O,J⟩:=e8 K (aj.table w) (ak n.1) (bT r) u;have I:mg (aj.table w) (ak n.1)=H:=by rw[BR,kH,J]
 unfold eP;rw[I];refine (congrArg (λo=>BC o _) O).trans ?_;simp only[rb,BA];cases H with
 |true =>
  simp only[cond_true];refine (congrArg (λo=>BC o _) (uM K n (aj.table w) n.1 h.learns r.1 (bT r) h.x.me u)).trans rfl
 |false =>
  simp only[cond_false];obtain⟨M,Y,X⟩:=kI (n:=n) h.x.others r z;have y:idx (aj.table w) 0=some (ch (aj.table w)):=by
   cases R:aj.table w with
   |nil=>rw[R]at z;exact z.elim
   |cons f l=>rfl
  refine (congrArg (λo=>BC o _) y).trans ?_;simp only[BA];rw[dk K];simp only[BA];refine (congrArg (λo=>BC o _) (xw K n (ak (ch (aj.table w)).1) (aj.table w) h.x.others r u)).trans ?_;simp only[BA];refine (congrArg (λo=>BC o _) (sum_s K n (ak (ch (aj.table w)).1) (bH n w) h.x.others u)).trans ?_;simp only[BA];cases w.1==2 with
  |false=>rfl
  |true =>
   simp only[cond_true,B5];refine (congrArg (λo=>BC o _) (yN K (aj.table w) (bH n w) (bT r) u)).trans ?_;simp only[rb,BA];cases decide (aj.table w≠bH n w) with
   |false=>rfl
   |true =>
    simp only[cond_true];refine (congrArg (λo=>BC o _) (pU K (sumN n w) 6 w.2.2.1 0 n.1 (bH n w) (bT M))).trans rfl
theorem vU {n:aa}{w:aj}(h:UpN n)(z:n.2.2.1=false)(y:az (aj.table w))(r:lY (aj.table w)):UpN (eP n w).1/\(eP n w).1.1=n.1/\(eP n w).1.2.2.1=false:=by
 unfold eP;cases u:mg (aj.table w) (ak n.1) with
 |true=>exact km h z y (kH.1 u) (eY.me h.x.me)
 |false =>
  obtain⟨I,J,M⟩:=kI (n:=n) h.x.others y r;refine⟨h.setOthers (vP h.x.others (uV (tk r y)) (λe=>?_) J I M),rfl,z⟩;have:b8 (aj.table w) (ak n.1):=by
   cases H:aj.table w with
   |nil=>rw[H]at r;exact r.elim
   |cons f l=>rw[H]at r e;rw[<- e];exact r
  rw[kH.2 this]at u;cases u
noncomputable def fb (K:Nat)(n:aa)(w:aj):aa×List aj :=
 bif w.2.1==1 then (bif ak w.2.2.2.2.2.1 != ak n.1 then (n,[]) else bif w.2.2.2.2.2.1==n.1 then (n,[]) else (iP n,[pT 2 (iP n) w.2.2.2.2.2.1 w.2.2.2.2.1 n.1 (gW n w.2.2.2.2.2.1)]))
 else bif w.2.1==3 then (bif ak w.2.2.2.2.2.1 != ak n.1 then (n,[]) else bif w.2.2.2.2.2.1==n.1 then (n,[]) else bif w.2.2.2.2.2.1==w.2.2.1 then (n,[]) else (iP n,[pT 1 (iP n) w.2.2.2.2.2.1 w.2.2.2.2.1 w.2.2.1 (gW n w.2.2.2.2.2.1)]))
 else bif w.2.1==4 then (n,[pT 5 n w.2.2.1 0 n.1 (aa.table n)]) else bif w.2.1==2 then (fe K n w,[]) else (n,[])
theorem yO (K:Nat)(n:aa)(w:aj)(h:UpN n)(z:cH (aj.coord w))(r:1048577<K):Q58.f K (n,w,())=some (((fb K n w).1,(fb K n w).2,()),()):=by
 simp only[Q58.f];rw[dk K n.1];simp only[BA];have u:=uQ K n w.2.2.2.2.2.1 h.x.say r;have y:=bT (nR h.x.say w.2.2.2.2.2.1);unfold fb;cases w.2.1==1 with
 |true =>
  simp only[cond_true];rw[dk K];simp only[BA];cases ak w.2.2.2.2.2.1 != ak n.1 with
  |true=>rfl
  |false =>
   simp only[cond_false];cases w.2.2.2.2.2.1==n.1 with
   |true=>rfl
   |false =>
    simp only[cond_false];refine (congrArg (λo=>BC o _) u).trans ?_;simp only[BA];refine (congrArg (λo=>BC o _) (pU K (iP n) 2 w.2.2.2.2.2.1 w.2.2.2.2.1 n.1 _ y)).trans rfl
 |false =>
  simp only[cond_false];cases w.2.1==3 with
  |true =>
   simp only[cond_true];rw[dk K];simp only[BA];cases ak w.2.2.2.2.2.1 != ak n.1 with
   |true=>rfl
   |false =>
    simp only[cond_false];cases w.2.2.2.2.2.1==n.1 with
    |true=>rfl
    |false =>
     simp only[cond_false];cases w.2.2.2.2.2.1==w.2.2.1 with
     |true=>rfl
     |false =>
      simp only[cond_false];refine (congrArg (λo=>BC o _) u).trans ?_;simp only[BA];refine (congrArg (λo=>BC o _) (pU K (iP n) 1 w.2.2.2.2.2.1 w.2.2.2.2.1 w.2.2.1 _ y)).trans rfl
  |false =>
   simp only[cond_false];cases w.2.1==4 with
   |true=>exact (congrArg (λo=>BC o _) (pU K n 5 w.2.2.1 0 n.1 (aa.table n) (bT h.x.table))).trans rfl
   |false =>
    simp only[cond_false];cases w.2.1==2 with
    |true=>exact (congrArg (λo=>BC o _) (ack_s K n w h z r)).trans rfl
    |false=>rfl
theorem xz {K:Nat}{n:aa}{w:aj}(h:UpN n)(u:cH (aj.coord w))(r:1048577<K):UpN (fb K n w).1/\(fb K n w).1.1=n.1/\(fb K n w).1.2.2.1=n.2.2.1:=by
 unfold fb;cases w.2.1==1 <;> cases w.2.1==3 <;> cases w.2.1==4 <;> cases w.2.1==2 <;> cases ak w.2.2.2.2.2.1 != ak n.1 <;> cases w.2.2.2.2.2.1==n.1 <;> cases w.2.2.2.2.2.1==w.2.2.1 <;> first|exact⟨h,rfl,rfl⟩|exact⟨h.way,rfl,rfl⟩|exact Bb h u r
open Classical in
noncomputable def bC (K:Nat)(n:aa)(w:aj):aa×List aj :=
 if dz w/\fJ n w then (if w.2.1=6 then eP n w else fb K (eO n (aj.table w) w.2.2.1) w) else (n,[])
theorem iT {n:aa}{w:aj}(H:dz w)(h:fJ n w)(z:w.2.1≠6):b8 (aj.table w) (ak n.1)/\eY n w.2.2.1:=by
 obtain⟨_,_,w3,_,_,_,_,_,u⟩:=H;rw[if_neg z]at u;obtain⟨_,_,_,_,r⟩:=h;by_cases y:w.1=2
 ·rw[if_pos y]at r;exact absurd r.1 z
 ·rw[if_neg y]at r;exact⟨r.1 ▸ u,w3,r.1⟩
theorem xA (K:Nat)(n:aa)(w:aj)(h:n.2.1=true->UpN n)(I:(aj.table w).length<=1048576)(z:1048577<K):Q59.f K (n,w,())=some (((bC K n w).1,(bC K n w).2,()),()):=by
 simp only[Q59.f];obtain⟨b1,e1,O⟩:=lZ K w I z;obtain⟨Z,Y,X⟩:=uU K n w I z;rw[e1];cases b1 with
 |false =>
  unfold bC;rw[if_neg λh=>by have:=O.2 h.1;cases this];rfl
 |true =>
  have y:=O.1 rfl;simp only[rb,BA,BH,cond_false];refine (congrArg (λo=>BC o _) Y).trans ?_;cases Z with
  |false =>
   unfold bC;rw[if_neg λh=>by have:=X.2 h.2;cases this];rfl
  |true =>
   have H:=X.1 rfl;have J:=h H.1;simp only[rb,BA,BH,cond_false];unfold bC;rw[if_pos ⟨y,H⟩];have r:=y.2.2.2.2.2.2.2.1;by_cases u:w.2.1=6
   ·rw[if_pos u,show (w.2.1==6)=true by simpa using u];have R:=y.2.2.2.2.2.2.2.2;rw[if_pos u]at R;exact (congrArg (λo=>BC o _) (xy K n w J r R z)).trans rfl
   ·rw[if_neg u,show (w.2.1==6)=false by simpa using u];obtain⟨hs,M⟩:=iT y H u;have hl:=(km J H.2.1 r hs M).1;refine (congrArg (λo=>BC o _) (uM K n (aj.table w) w.2.2.1 J.learns r.1 I M.1 z)).trans ?_;exact (congrArg (λo=>BC o _) (yO K _ w hl y.2.2.2.2.2.2.1 z)).trans rfl
theorem qz {K:Nat}{n:aa}{w:aj}(h:UpN n)(O:1048577<K):UpN (bC K n w).1/\(bC K n w).1.1=n.1/\(bC K n w).1.2.2.1=n.2.2.1:=by
 unfold bC;split
 ·rename_i R;obtain⟨y,u⟩:=R;have r:=y.2.2.2.2.2.2.2.1;split
  ·rename_i z;have J:=y.2.2.2.2.2.2.2.2;rw[if_pos z]at J;rw[u.2.1];exact vU h u.2.1 r J
  ·rename_i z;obtain⟨X,M⟩:=iT y u z;have H:=km h u.2.1 r X M;have I:=xz (w:=w) H.1 y.2.2.2.2.2.2.1 O;exact⟨I.1,I.2.1.trans H.2.1,I.2.2.trans (H.2.2.trans u.2.1.symm)⟩
 ·exact⟨h,rfl,rfl⟩
theorem mh {K:Nat}{n:aa}{w:aj}(h:UpN n)(hK:1048577<K):(bC K n w).2.length<=1/\∀ x∈(bC K n w).2,InP x.2.2.2.1 0 7/\(aj.table x).length<=1048576:=by
 unfold bC;split
 ·rename_i X;obtain⟨u,M⟩:=X;have y:=u.2.2.2.2.2.2.2.1;split
  ·rename_i H;have I:=u.2.2.2.2.2.2.2.2;rw[if_pos H]at I;obtain⟨Z,a2,a3⟩:=kI (n:=n) h.x.others y I;unfold eP;cases mg (aj.table w) (ak n.1) with
   |true=>exact⟨by simp,by simp⟩
   |false =>
    simp only[cond_false];cases w.1==2&&decide (aj.table w≠bH n w) with
    |false=>exact⟨by simp,by simp⟩
    |true=>exact⟨by simp,λx r=>by rw[BG.1 r];exact⟨u.2.2.1,bT Z⟩⟩
  ·rename_i H;obtain⟨Y,O⟩:=iT u M H;have J:=km h M.2.1 y Y O;have ht:=bT (nR J.1.x.say w.2.2.2.2.2.1);have z:=bT J.1.x.table;have w3:=u.2.2.1;have R:=u.2.2.2.2.2.1;generalize eO n (aj.table w) w.2.2.1=m at *;unfold fb;cases w.2.1==1 <;> cases w.2.1==3 <;> cases w.2.1==4 <;> cases w.2.1==2 <;> cases ak w.2.2.2.2.2.1 != ak m.1 <;> cases w.2.2.2.2.2.1==m.1 <;> cases w.2.2.2.2.2.1==w.2.2.1 <;>
    first|exact⟨BT _,λx r=>by rw[BG.1 r];exact⟨R,ht⟩⟩|exact⟨BT _,λx r=>by rw[BG.1 r];exact⟨w3,z⟩⟩|exact⟨BP _,λx r=>nomatch r⟩
 ·exact⟨by simp,by simp⟩
theorem vV (K:Nat)(n:aa)(w:aj)(Z:NB n)(u:(aj.table w).length<=1048576)(r:1048577<K):∃ b,Q229.f K (n,w,())=rb b/\Q169.f K (n,w,())=rb b:=by
 obtain⟨b1,h1,J⟩:=(oU K n Z r).same (sH K n Z r) CT;simp only[Q229.f,Q169.f];rw[h1,J];cases b1 with
 |false=>exact⟨false,rfl,rfl⟩
 |true =>
  simp only[BA,BH,cond_false];obtain⟨Y,h2,y⟩:=lZ K w u r;obtain⟨M,I,z⟩:=yq K w u r;have:Y=M:=by rw[BR,y,z]
  subst this;rw[h2,I];cases Y with
  |false=>exact⟨false,rfl,rfl⟩
  |true =>
   have X:=y.1 rfl;simp only[BA,BH,cond_false];obtain⟨b3,h3,R⟩:=(e8 K (aj.table w) (ak n.1) u r).same (ig K (aj.table w) (ak n.1) u r) CT;obtain⟨b4,h4,O⟩:=(e8 K (aj.table w) (ak w.2.2.1) u r).same (ig K (aj.table w) (ak w.2.2.1) u r) CT;obtain⟨b5,h5,H⟩:=pD K n w.2.2.1;have h6:b5=(ak w.2.2.1==ak n.1):=by
    rw[BR,H,beq_iff_eq];exact⟨λh=>h.2,λh=>⟨X.2.2.1,h⟩⟩
   have hp:InP w.1 1 2:=X.1;simp only[Q24.f,Q168.f];rw[h5,dk K n.1,dk K w.2.2.1,mL K w.2.2.1,nL K n,h6];simp only[BA];rw[h3,h4,O,R];simp only[BA,bne];generalize (ak w.2.2.1==ak n.1)=c1;generalize (w.2.2.2.1==n.1)=c2;generalize (w.2.2.1==n.1)=c3;generalize (w.2.1==6)=c4;generalize n.2.1=c5;generalize n.2.2.1=c6;rcases (by omega:w.1=1\/w.1=2) with h|h <;> rw[h] <;> cases c1 <;> cases c2 <;> cases c3 <;> cases c4 <;> cases c5 <;> cases c6 <;> cases b3 <;> cases b4 <;> exact⟨_,rfl,rfl⟩
structure kZ (n m:aa):Prop where
 ok:cq m
 me:m.1=n.1
 now_:m.2.2.2.2.2.1=n.2.2.2.2.2.1
 seq:m.2.2.2.2.2.2.1=n.2.2.2.2.2.2.1
 turn:m.2.2.2.2.2.2.2.1=n.2.2.2.2.2.2.2.1
 rest:m.2.2.2.2.2.2.2.2.2.2.2.2=n.2.2.2.2.2.2.2.2.2.2.2.2
 by_:∀ d∈aa.doubts m,d.2.2.2.length<=1048576
theorem kZ.say {n m:aa}(h:kZ n m){f:af}(b:Int)(H:bf f):kZ n (sayOf m f b):=by
 obtain⟨y,_,_,_,_,z,I,u,_,r⟩:=iO m f b;exact⟨ij h.ok H,y.trans h.me,z.trans h.now_,I.trans h.seq,u.trans h.turn,r.trans h.rest,yu h.by_⟩
theorem kZ.setP {n m:aa}(h:kZ n m)(p:af):kZ n (setP m p):=⟨h.ok.setP p,h.me,h.now_,h.seq,h.turn,h.rest,h.by_⟩
theorem kZ.nb {n m:aa}(h:kZ n m)(u:NB n):NB m:=by
 have y:aa.places m=aa.places n:=congrArg (λr=>r.2.1) h.rest;have z:aa.others m=aa.others n:=congrArg (λr=>r.2.2) h.rest;exact⟨h.ok.lt,h.ok.lc,h.ok.ld,h.by_,by rw[y];exact u.places,by rw[y];exact u.trips,by rw[z];exact u.others,by rw[z];exact u.facts⟩
theorem kZ.far {n m:aa}(h:kZ n m)(u:nS n):nS m:=by
 have y:aa.others m=aa.others n:=congrArg (λr=>r.2.2) h.rest;exact⟨by rw[y];exact u.short,by rw[y];exact u.table⟩
theorem un {n:aa}(h:∀ k,k<8->¬ hH n k):iQ n=none:=by
 unfold iQ;rw[List.find?_eq_none];intro x r;obtain⟨k,u,rfl⟩:=BV.1 r;have:=h k (by simpa using u);unfold hH at this;simpa using this
theorem uo {n:aa}{k:Nat}(y:k<8)(r:hH n k)(h:∀ j,j<k->¬ hH n j):iQ n=some (cJ n k):=by
 unfold iQ;rw[List.find?_map,List.find?_range_eq_some.2 ⟨?_,by simpa using y,λj u=>?_⟩]
 ·rfl
 ·unfold hH at r;simpa using r
 ·have:=h j u;unfold hH at this;simpa[Classical.or_iff_not_imp_left]using this
theorem uW (K:Nat)(n:aa)(h:cq n)(X:tc n)(J:1048577<K):Q97.f K (n,())=some (((dQ n).1,(dQ n).2,()),()):=by
 obtain⟨⟨Y,Z⟩,⟨t0,t1⟩⟩:=X;obtain⟨to,M,I⟩:=z9 K n h t0 t1 J;simp only[Q97.f,zcp4];rw[M];simp only[BA,dQ];by_cases r:jG n>=999999
 ·rw[decide_eq_true r,show decide (n.2.2.2.2.2.2.1>=999999)=true from decide_eq_true r];cases decide (to<0) <;> rfl
 ·rw[decide_eq_false r,show decide (n.2.2.2.2.2.2.1>=999999)=false from decide_eq_false r];simp only[cond_false];rcases I with ⟨rfl,u⟩|⟨k,R,y,H,rfl⟩
  ·rw[un u];rfl
  ·rw[uo R y H];have O:0<=cJ n k/\cJ n k<8:=⟨CP _ (by omega),CF _ (by omega)⟩;rw[decide_eq_false (by omega:¬ cJ n k<0)];simp only[cond_false];rw[uQ K n _ h J];simp only[BA];have z:wr .i64 (jG n+1)=jG n+1:=aJ (by omega) (by omega);rw[show wr .i64 ((iP n).2.2.2.2.2.2.1+1)=n.2.2.2.2.2.2.1+1 from z,aJ (n:=cJ n k+1) (by omega) (by omega)];simp only[Q39.f];rw[szb _ _ _ (by omega) (by have:=bT (nR h (cJ n k));simp;omega)];rfl
def hI (w:aj):Prop:=InP w.2.2.2.1 0 7/\(aj.table w).length<=1048576
theorem tm {n:aa}(H:az (aa.table n)):(dl n).2.length<=2/\∀ w∈(dl n).2,hI w:=by
 have r:([]:List aj).length<=2/\∀ w∈([]:List aj),hI w:=⟨by simp,by simp⟩;unfold dl;cases (aa.probe n).1==-1 with
 |true=>exact r
 |false =>
  cases !ez (aQ (aa.table n) (aa.probe n).1) with
  |true=>exact r
  |false =>
   cases decide (n.2.2.2.2.2.1-(aa.probe n).2.1>=4) with
   |true=>exact r
   |false =>
    cases decide (n.2.2.2.2.2.1-(aa.probe n).2.1>=2) with
    |false=>exact r
    |true =>
     cases !(aa.probe n).2.2.2 with
     |false=>exact r
     |true =>
      simp only[cond_true,cond_false];refine⟨by rw[CA];exact List.length_take_le _ _,λw y=>?_⟩;obtain⟨to,u,rfl⟩:=BV.1 y;obtain⟨f,z,rfl⟩:=BV.1 (BU u);exact⟨(H.1 f (BX.1 z).1).1,BP _⟩
theorem zz {n:aa}(h:cq n):(dQ n).2.length<=1/\∀ w∈(dQ n).2,hI w:=by
 have r:([]:List aj).length<=1/\∀ w∈([]:List aj),hI w:=⟨by simp,by simp⟩;unfold dQ;cases decide (jG n>=999999) with
 |true=>exact r
 |false =>
  simp only[cond_false];cases H:iQ n with
  |none=>exact r
  |some to =>
   refine⟨by simp,λw z=>?_⟩;rw[BG.1 z];obtain⟨u,y,I⟩:=ei h.table (gV (ra H).2);exact⟨y ▸ u.1,bT (nR h to)⟩
theorem Bc {n:aa}(H:c8 n.1 (aa.others n)){s d:Int}(I:InP s 0 1):InP (mb n s d) 0 7:=by
 unfold mb;cases r:decide (fE (eE (aa.others n) s)≠[])&&bA .i64 d 4==0 with
 |true =>
  rw[CL,decide_eq_true_eq]at r;have:=(im (d:=B8 d (2 ^ 3)) r.1).2.2;unfold fE at this;obtain⟨f,z,e⟩:=BV.1 (BU this);simp only[cond_true];show InP (gM (fE (eE (aa.others n) s)) (B8 d (2 ^ 3))) 0 7;unfold fE;rw[<- e];exact ((o7 H s).1 f (BX.1 z).1).1
 |false =>
  obtain⟨y,u⟩:=lB (a:=B8 d (2 ^ 3)) (m:=3) (by omega);have y:0<=bA .i64 (B8 d (2 ^ 3)) 3:=y;have u:bA .i64 (B8 d (2 ^ 3)) 3<=3:=u;obtain⟨J,M⟩:=I;simp only[cond_false];exact⟨by omega,by omega⟩
theorem uX {n:aa}(I:az (aa.table n))(J:c8 n.1 (aa.others n))(r:Int):(j8 n r).length<=2/\∀ w∈j8 n r,hI w:=by
 have u:([]:List aj).length<=2/\∀ w∈([]:List aj),hI w:=⟨by simp,by simp⟩;unfold j8;cases bA .i64 r 3==1 with
 |true =>
  simp only[cond_true,mc];cases lC n with
  |false=>exact u
  |true =>
   refine⟨?_,λw z=>?_⟩
   ·show ((([0,1]:List Int).filter (λs=>s != ak n.1)).map _).length<=2;rw[CA];exact CC _ _
   ·obtain⟨s,R,rfl⟩:=BV.1 z;refine⟨Bc J ?_,bT I⟩;have:=(BX.1 R).1;simp at this;rcases this with rfl|rfl <;> exact⟨by decide,by decide⟩
 |false =>
  simp only[cond_false];by_cases y:fp n=[]
  ·rw[decide_eq_true y,Bool.or_true];exact u
  ·rw[decide_eq_false y,CR];obtain⟨f,O,e⟩:=BV.1 (im (d:=B8 r (2 ^ 2)) y).2.2;have H:InP (gM (fp n) (B8 r (2 ^ 2))) 0 7:=by
    rw[<- e];exact (I.1 f (BX.1 O).1).1
   cases bA .i64 r 3==3 with
   |true=>exact u
   |false =>
    simp only[cond_false];cases bA .i64 r 3==0 with
    |true=>exact⟨by simp,λw z=>by rw[BG.1 z];exact⟨H,bT I⟩⟩
    |false =>
     simp only[cond_false,ta]
     match M:aa.others n with
     |[]=>exact u
     |x::_=>exact⟨by simp,λw z=>by rw[BG.1 z];exact⟨H,bT (J.1 x (by rw[M];simp)).2.2.2.1⟩⟩
theorem UpX.far {n:aa}(h:UpX n):nS n:=⟨by rcases sY h.me h.others with e|⟨x,e⟩ <;> rw[e] <;> simp,λx r=>⟨(h.others.1 x r).2.2.2.1,bT (h.others.1 x r).2.2.2.1⟩⟩
theorem ri {n:aa}(h:UpX n)(H:cf n<=1000000):((aa.probe n).1=-1\/0<=(aa.probe n).1)/\0<=(aa.probe n).2.1/\(aa.probe n).2.1<=1000000:=by
 have r:=h.probe;have u:cf n=n.2.2.2.2.2.1:=rfl;unfold c7 at r;split at r
 ·rename_i J;rw[r];exact⟨.inl rfl,by show (0:Int)<=0;omega,by show (0:Int)<=1000000;omega⟩
 ·obtain⟨_,⟨f,z,e⟩,⟨y,I⟩,_⟩:=r;have:=(h.table.1 f z).1.1;exact⟨.inr (e ▸ this),y,by omega⟩
theorem Bd {n:aa}(h:UpN n)(H:cf n<999999)(r:Int):(pN n r).length<=5/\∀ w∈pN n r,hI w:=by
 have I:=(mU h.x.later (show de (d5 n) from h.self)).1.table;obtain⟨y,M⟩:=tm I;obtain⟨R,_,_⟩:=pO h H;have z:=(qu h H).1;obtain⟨X,J⟩:=uX z.x.table z.x.others r;have O:(fq (ft n).1).2.length<=1/\∀ w∈(fq (ft n).1).2,hI w:=by
  unfold fq;cases (aa.probe (ft n).1).1==-1 with
  |true=>exact zz R.x.say
  |false=>exact⟨by simp,by simp⟩
 unfold pN;have y:(ft n).2.length<=2:=y;refine⟨by rw[BL,BL];omega,λw u=>?_⟩;rcases BM.1 u with u|u
 ·rcases BM.1 u with u|u
  ·exact M w u
  ·exact O.2 w u
 ·exact J w u
theorem Be (K:Nat)(n:aa)(H:Int)(h:UpN n)(hg:n.2.2.1=false)(hm:cf n<999999)(Y:1048577<K):Q104.f K (n,H,())=some ((kF n,pN n H,()),()):=by
 have a3:=h.x.now0;simp only[Q104.f,zcp4];refine (congrArg (λb=>bif !b then _ else _) h.up).trans ?_;refine (congrArg (λb=>bif b then _ else _) hg).trans ?_;refine (congrArg (λb=>bif b then _ else _) (decide_eq_false (show ¬ n.2.2.2.2.2.1>=999999 by have:cf n=n.2.2.2.2.2.1:=rfl;omega))).trans ?_;simp only[cond_false];rw[show wr .i64 (n.2.2.2.2.2.1+1)=n.2.2.2.2.2.1+1 from aJ (by have:cf n=n.2.2.2.2.2.1:=rfl;omega) (by have:cf n=n.2.2.2.2.2.1:=rfl;omega)];have hl:UpX (d5 n):=h.x.later;have a1:∀ d∈aa.doubts (d5 n),0<=d.2.2.1/\d.2.2.1<=(d5 n).2.2.2.2.2.1/\d.2.2.2.length<=1048576:=λd hd=>by
  obtain⟨_,⟨s0,s1⟩,_,h4⟩:=hl.doubts.1 d hd;exact⟨s0,s1,BJ (iN (k:=λx=>x) h4.2 λx hx=>(h4.1 x hx).1) (by decide)⟩
 have X:∀ d∈aa.doubts (d5 n),∃ f∈aa.table (d5 n),f.1=d.1:=λd hd=>by
  obtain⟨⟨f,hf,e,_⟩,_⟩:=hl.doubts.1 d hd;exact⟨f,hf,e⟩
 have Z:(d5 n).2.2.2.2.2.1<=1000000:=by show cf n+1<=1000000;omega
 refine (congrArg (λo=>BC o _) (AN K (d5 n) ⟨hl.say,X,rfl⟩ a1 Z Y)).trans ?_;simp only[BA];obtain⟨b1,b2,t,c,ds,eb⟩:=mU hl (show de (d5 n) from h.self);have z:tc (ft n).1:=(pO h hm).1.seq;have a0:cf (kk (d5 n))=cf n+1:=by rw[eb];rfl
 have hp:=ri b1 (by omega);obtain⟨a2,_⟩:=tm b1.table;have R:=(qu h hm).1;have r:=AW K (kF n) H R.x.far R.x.table (bT R.x.table) Y;have u:=(pO h hm).1;obtain⟨M,_⟩:=zz u.x.say;obtain⟨y,_⟩:=uX R.x.table R.x.others H;unfold kF fq ft at r R y;unfold ft at z u M;unfold pN kF fq ft;generalize kk (d5 n)=m at *;rcases hp.1 with I|I
 ·have e0:dl m=(m,[]):=by unfold dl;rw[show ((aa.probe m).1==-1)=true by simpa using I];rfl
  rw[e0]at r z u M y ⊢;refine (congrArg (λb=>bif b then _ else _) (decide_eq_false (show ¬ m.2.2.2.2.2.2.2.2.2.2.1.1>=0 by have:(aa.probe m).1=m.2.2.2.2.2.2.2.2.2.2.1.1:=rfl;omega))).trans ?_;refine (congrArg (λb=>bif b then _ else _) (decide_eq_true (show m.2.2.2.2.2.2.2.2.2.2.1.1<0 by have:(aa.probe m).1=m.2.2.2.2.2.2.2.2.2.2.1.1:=rfl;omega))).trans ?_;refine (congrArg (λo=>BC o _) (uW K m u.x.say z Y)).trans ?_;simp only[BA];rw[show ((aa.probe m).1==-1)=true by simpa using I]at r y ⊢;simp only[cond_true]at r y M ⊢;rw[szw _ _ _ (by omega) (by simp;omega)];simp only[cond_true];refine (congrArg (λo=>BC o _) r).trans ?_;simp only[BA];rw[szw _ _ _ (by omega) (by simp;omega)];rfl
 ·refine (congrArg (λb=>bif b then _ else _) (decide_eq_true (show m.2.2.2.2.2.2.2.2.2.2.1.1>=0 from I))).trans ?_;refine (congrArg (λo=>BC o _) (AO K m b1.say (by omega) hp.2.1 hp.2.2 b1.now0 (by have:cf m=m.2.2.2.2.2.1:=rfl;omega) Y)).trans ?_;simp only[BA];generalize dl m=fo at *;obtain⟨O,ws⟩:=fo;simp only at r z u M y a2 ⊢;have J:=(ri u.x (by have:=u.now1;omega)).1;rcases J with J|J
  ·refine (congrArg (λb=>bif b then _ else _) (decide_eq_true (show O.2.2.2.2.2.2.2.2.2.2.1.1<0 by have:(aa.probe O).1=O.2.2.2.2.2.2.2.2.2.2.1.1:=rfl;omega))).trans ?_;refine (congrArg (λo=>BC o _) (uW K O u.x.say z Y)).trans ?_;simp only[BA];rw[show ((aa.probe O).1==-1)=true by simpa using J]at r y ⊢;simp only[cond_true]at r y ⊢;rw[szw _ _ _ (by omega) (by omega)];simp only[cond_true];refine (congrArg (λo=>BC o _) r).trans ?_;simp only[BA];rw[szw _ _ _ (by omega) (by rw[BL];omega)];rfl
  ·refine (congrArg (λb=>bif b then _ else _) (decide_eq_false (show ¬ O.2.2.2.2.2.2.2.2.2.2.1.1<0 by have:(aa.probe O).1=O.2.2.2.2.2.2.2.2.2.2.1.1:=rfl;omega))).trans ?_;rw[show ((aa.probe O).1==-1)=false by simp;omega]at r y ⊢;simp only[cond_false]at r y ⊢;refine (congrArg (λo=>BC o _) r).trans ?_;simp only[BA,List.append_nil];rw[szw _ _ _ (by omega) (by omega)];rfl
theorem tn (K:Nat)(l:List af)(f:af)(M:l.length<=1048576)(J:1048577<K):Ret (Q81.f K (l,f,())) (f∈l):=by
 have:=co (step:=λrec a=>Q81.s0 K (l,f,()) rec a) l.length (λi=>(i:Int)) (λj=>∃ h:j<l.length,l[j]=f) (rb false) (λ_=>rb true) ?_ ?_ l.length K 0 (by omega) (by omega)
 ·rcases this with ⟨y,u⟩|⟨j,_,_,⟨H,I⟩,_,u⟩
  ·refine⟨false,u,?_⟩;refine⟨λh=>absurd h (by decide),λz=>?_⟩;obtain⟨i,r,e⟩:=BN z;exact absurd ⟨r,e⟩ (y i (BP _) r)
  ·exact⟨true,u,λ_=>I ▸ BI H,λ_=>rfl⟩
 ·intro rec i r;simp only[Q81.s0];rw[bh (by omega:(i:Int)<(BD l:Int)),ag r,ar i (by omega)];simp only[cond_true,BA];rw[fI];by_cases h:l[i]=f
  ·rw[decide_eq_true h];exact .inr ⟨⟨r,h⟩,rfl⟩
  ·rw[decide_eq_false h];exact .inl ⟨λ⟨_,u⟩=>h u,rfl⟩
 ·intro rec;simp only[Q81.s0,aP];rfl
theorem UpN.nb {n:aa}(h:UpN n):NB n where
 table:=bT h.x.table
 cast:=by have:=clen h.x.say;omega
 doubts:=h.x.say.ld
 by_:=λd y=>by have:=(h.learns.by_ d y).len;omega
 places:=plen h.x.places
 trips:=λp r=>by have:=(h.x.places.1 p r).2.2.2.2.1.2;omega
 others:=olen h.x.others
 facts:=λx u=>bT (h.x.others.1 x u).2.2.2.1
def jo (r:Int)(g:Bool):aa:=(r,false,false,g,0,0,0,0,[],[],(0,0,0,false),[],(0,0,0,0),[],[])
structure ee (i:Nat) (n:aa):Prop where
 me:n.1=(i:Int)
 lt:i<8
 up:n.2.1=true->UpN n
 down:n.2.1=false->n=jo n.1 n.2.2.2.1
theorem ee.nb {i:Nat}{n:aa}(h:ee i n):NB n:=by
 cases r:n.2.1 with
 |true=>exact (h.up r).nb
 |false =>
  rw[h.down r];exact⟨by simp[jo,aa.table],by simp[jo,aa.cast],by simp[jo,aa.doubts],by simp[jo,aa.doubts],by simp[jo,aa.places],by simp[jo,aa.places],by simp[jo,aa.others],by simp[jo,aa.others]⟩
theorem ee.short {i:Nat}{n:aa}(h:ee i n):(aa.table n).length<=4:=by
 cases r:n.2.1 with
 |true=>exact uj (h.up r).x.table (h.up r).x.site
 |false=>rw[h.down r];exact BP _
theorem ee.of {i:Nat}{n m:aa}(h:ee i n)(r:UpN m)(e:m.1=n.1):ee i m:=⟨e.trans h.me,h.lt,λ_=>r,λu=>by rw[r.up]at u;cases u⟩
def fQ (l:List lA):Prop:=l.length<=60/\∀ f∈l,InP f.1 0 7/\f.2.1.size<=2000
structure WI (w:bR) (c:Nat):Prop where
 len:w.1.length=8
 node:∀ (i:Nat) (h:i<w.1.length),ee i w.1[i]
 radio:fQ w.2.1
 sides:w.2.2.1.length=8
 born:w.2.2.2.length<=c
theorem WI.mono {w:bR}{c d:Nat}(h:WI w c)(r:c<=d):WI w d:=⟨h.len,h.node,h.radio,h.sides,BJ h.born r⟩
theorem WI.put {w:bR}{c:Nat}(h:WI w c){i:Nat}{n:aa}(r:ee i n){rd:List lA}(u:fQ rd){b:List af}{d:Nat}(y:b.length<=d):WI (w.1.set i n,rd,w.2.2.1,b) d:=by
 refine⟨by rw[BK];exact h.len,λj z=>?_,u,h.sides,y⟩;show ee j ((w.1.set i n)[j]'z);rw[List.getElem_set];split
 ·rename_i e;exact e ▸ r
 ·exact h.node j _
theorem xB (K:Nat)(w:bR)(Z:Int)(u:List aj)(hs:w.2.2.1.length=8)(y:InP Z 0 7)(X:∀ x∈u,hI x)(hr:fQ w.2.1)(hl:u.length<=1000)(hK:1048577<K) :
  Tot (Q78.f K (w,Z,u,())) λr=>∃ rd,fQ rd/\r.1.1=(w.1,rd,w.2.2):=by
 simp only[Q78.f,Q78.pre];obtain⟨f0,f1⟩:=y;refine Tot.iter (step:=λrec a=>Q78.s0 K (w,Z,u,()) rec a) (λa=>0<=a.1/\a.1<=u.length/\fQ a.2) (λa=>u.length-a.1.toNat) ?_ K _ (by show u.length-BE 0<K;omega) ⟨by show (0:Int)<=0;omega,by show (0:Int)<=_;omega,hr⟩;rintro rec ⟨i,rd⟩ ⟨I,h1,H⟩ ih;simp only at I h1 H ih ⊢;simp only[Q78.s0];refine Tot.cnd (λh=>?_) λ_=>Tot.ret ⟨rd,H,rfl⟩
 have h:=of_decide_eq_true h;rw[aJ (n:=i+1) (by omega) (by omega)];have O:∀ z,fQ z->Tot (rec (i+1,z)) λr=>∃ rd,fQ rd/\r.1.1=(w.1,rd,w.2.2):=λz M=>ih _ ⟨by show 0<=i+1;omega,by show i+1<=_;omega,M⟩ (by show u.length-BE (i+1)<u.length-BE i;omega)
 refine Tot.cnd (λh3=>?_) λ_=>O rd H
 have h3:=of_decide_eq_true h3;refine Tot.ix f0 (by omega) λ_ _ _=>Tot.ix I h λy2 R _=>?_
 obtain⟨⟨t0,t1⟩,_⟩:=X y2 R;refine Tot.ix t0 (by omega) λ_ _ _=>Tot.cnd (λ_=>Tot.fit (Tot.ix I h λy4 Y _=>Tot.ix I h λy5 J _=>Tot.bind (om K y5 (X y5 J).2 hK) λv hv=>Tot.fit (O _ ⟨?_,λf y=>?_⟩) (by omega) ?_) (by omega) ?_) λ_=>O rd H
 ·simp;omega
 ·rcases BM.1 y with y|y
  ·exact H.2 f (by simpa using y)
  ·rw[BG.1 y];exact⟨(X y4 Y).1,by show v.1.1.size<=2000;have:=hv.1;omega⟩
 ·simp;omega
 ·simp;omega
theorem Tot.ins {α:Type}{l:List α}{x:α}{a:Int}{c:Nat}{Q:(List α×Unit)×Unit->Prop}(u:0<=a)(H:a<=l.length)(z:l.length<=1048576)(y:c<=64)(k:∀ r:List α,r.length=l.length+1->Q ((r,()),())) :
  Tot (bif decide ((0:Int)<=0)&&decide (0<=a)&&decide (a<=(BD l:Int))&&true then (bif decide ((BD ([]:List α)+BD ((l.take (BE a)).drop (BE 0)))*c<=an) then (bif decide ((BD ([]++((l.take (BE a)).drop (BE 0)))+BD ([x]))*c<=an) then (bif decide (0<=a)&&decide (a<=(BD l:Int))&&decide ((BD l:Int)<=(BD l:Int))&&true then (bif decide ((BD (([]++((l.take (BE a)).drop (BE 0)))++([x]))+BD ((l.take (BE (BD l:Int))).drop (BE a)))*c<=an) then (some (((([]++((l.take (BE a)).drop (BE 0)))++([x]))++((l.take (BE (BD l:Int))).drop (BE a)),()),())) else none) else none) else none) else none) else none) Q:=by
 obtain⟨m,rfl⟩:=BO u;refine Tot.must (by simp;omega) (Tot.fit (Tot.fit (Tot.must (by simp;omega) (Tot.fit (Tot.ret (k _ ?_)) (by omega) ?_)) (by omega) ?_) (by omega) ?_) <;>
 simp only[BF,BZ,BS,BQ,BL,BW,B9,CN,CB] <;> omega
theorem yP (K:Nat)(f g:af):Tot (Q79.f K (f,g,())) λ_=>True:=by
 simp only[Q79.f];exact Tot.cnd (λ_=>Tot.ret trivial) λ_=>Tot.bind (sG K g f).tot λ_ _=>Tot.ret trivial
theorem xC (K:Nat)(l:List af)(f:af)(M:l.length<=1048576)(R:1048577<K):Tot (Q80.f K (l,f,())) λr=>r.1.1.length<=l.length+1:=by
 simp only[Q80.f,Q80.pre];refine Tot.iter (A:=Int) (step:=λrec a=>Q80.s0 K (l,f,()) rec a) (λa=>0<=a/\a<=l.length) (λa=>l.length-a.toNat) ?_ K _ (by show l.length-BE 0<K;omega) ⟨by show (0:Int)<=0;omega,by show (0:Int)<=_;omega⟩;rintro rec i ⟨H,z⟩ J;simp only[Q80.s0];have u:=λ (z:i<=l.length)=>Tot.ins (x:=f) (c:=32) (Q:=λr=>r.1.1.length<=l.length+1) H z M (by omega) λr O=>by show r.length<=_;omega
 have y:l.length<=l.length+1:=CD _;refine Tot.cnd (λh=>?_) λ_=>Tot.cnd (λh=>Tot.ix H (of_decide_eq_true h) λ_ _ _=>Tot.cnd (λ_=>Tot.ret y) λ_=>u z) λ_=>u z
 have h:i<(l.length:Int):=of_decide_eq_true h;rw[aJ (n:=i+1) (by omega) (by omega)];refine Tot.ix H h λI _ _=>Tot.bind (yP K I f) λ_ _=>Tot.cnd (λ_=>J (i+1) ⟨by show 0<=i+1;omega,by show i+1<=(l.length:Int);omega⟩ (by show l.length-BE (i+1)<l.length-BE i;omega)) λ_=>Tot.cnd (λ_=>Tot.ix H h λ_ _ _=>Tot.cnd (λ_=>Tot.ret y) λ_=>u z) λ_=>u z
theorem zA (K:Nat)(w:bR)(z y u:List af)(X:z.length<=1048576)(h2:y.length<=1048576)(h3:u.length<=100)(hb:w.2.2.2.length<=1000000)(M:1048577<K) :
  Tot (Q82.f K (w,z,y,u,())) λr=>∃ b,b.length<=w.2.2.2.length+u.length/\r.1.1=(w.1,w.2.1,w.2.2.1,b):=by
 simp only[Q82.f,Q82.pre];refine Tot.iter (step:=λrec a=>Q82.s0 K (w,z,y,u,()) rec a) (λa=>0<=a.1/\a.1<=u.length/\(a.2.length:Int)<=w.2.2.2.length+a.1) (λa=>u.length-a.1.toNat) ?_ K _ (by show u.length-BE 0<K;omega) ⟨by show (0:Int)<=0;omega,by show (0:Int)<=_;omega,by show (w.2.2.2.length:Int)<=w.2.2.2.length+0;omega⟩;rintro rec ⟨i,b⟩ ⟨H,i1,i2⟩ O;simp only at H i1 i2 O ⊢;simp only[Q82.s0];refine Tot.cnd (λh=>?_) λ_=>Tot.ret ⟨b,by omega,rfl⟩
 have h:=of_decide_eq_true h;rw[aJ (n:=i+1) (by omega) (by omega)];have J:∀ I:List af,I.length<=b.length+1->Tot (rec (i+1,I)) λr=>∃ b,b.length<=w.2.2.2.length+u.length/\r.1.1=(w.1,w.2.1,w.2.2.1,b):=λI a0=>O _ ⟨by show 0<=i+1;omega,by show i+1<=_;omega,by show (I.length:Int)<=_+(i+1);omega⟩ (by show u.length-BE (i+1)<u.length-BE i;omega)
 refine Tot.ix H h λy1 _ _=>Tot.bind (tn K z y1 X M).tot λ_ _=>Tot.cnd (λ_=>?_) λ_=>J b (CD _)
 refine Tot.ix H h λZ _ _=>Tot.bind (tn K y Z h2 M).tot λ_ _=>Tot.cnd (λ_=>?_) λ_=>J b (CD _)
 exact Tot.ix H h λY _ _=>Tot.bind (xC K b Y (by omega) M) λv R=>J v.1.1 R
structure zC (w:bR) (i:Nat) (n:aa) (ws:List aj) (heard:List af) (c:Nat):Prop where
 wi:WI w c
 lt:i<8
 n:ee i n
 sent:∀ x∈ws,hI x
 wl:ws.length<=1000
 hl:heard.length<=1048576
 c:c<=1000000
theorem set_t (K:Nat)(w:bR)(i:Nat)(n:aa)(H:List aj)(u:List af)(c:Nat)(h:zC w i n H u c)(I:1048577<K):Tot (Q83.f K ((w,i),n,H,u,())) λr=>WI r.1.1 (c+4):=by
 simp only[Q83.f];have y:i<w.1.length:=by rw[h.wi.len];exact h.lt
 have M:=h.c;have O:=h.wi.born;have J:=h.n.short;rw[h.n.me];refine Tot.vl (ag y) (Tot.vl (by rw[BF];exact ag y) (Tot.vl (ag y) (Tot.vl (by rw[BF];exact ag y) ?_)));refine Tot.must (by simp) ?_;rw[BF];refine Tot.bind (zA K (w.1.set i n,w.2) (aa.table w.1[i]) u (aa.table n) (h.wi.node i y).nb.table h.hl (by omega) (by show w.2.2.2.length<=_;omega) I) ?_;rintro⟨⟨v,⟨⟩⟩,⟨⟩⟩ ⟨b,z,rfl⟩;refine Tot.bind (xB K (w.1.set i n,w.2.1,w.2.2.1,b) (i:Int) H h.wi.sides ⟨by omega,by have:=h.lt;omega⟩ h.sent h.wi.radio h.wl I) ?_;rintro⟨⟨v,⟨⟩⟩,⟨⟩⟩ ⟨rd,hr,rfl⟩;have z:b.length<=w.2.2.2.length+(aa.table n).length:=z;exact Tot.ret (h.wi.put h.n hr (by omega))
theorem Bf (K:Nat)(w:bR)(i:Nat)(n:aa)(H:List aj)(u:List af)(c:Nat)(h:zC w i n H u c)(I:1048577<K):Tot (Q86.f K (w,n,H,u,())) λr=>WI r.1.1 (c+4):=by
 simp only[Q86.f];have y:i<w.1.length:=by rw[h.wi.len];exact h.lt
 have M:=h.c;have O:=h.wi.born;have J:=h.n.short;rw[h.n.me];refine Tot.vl (ag y) (Tot.vl (by rw[BF];exact ag y) (Tot.vl (ag y) (Tot.vl (by rw[BF];exact ag y) ?_)));rw[BF];refine Tot.bind (zA K (w.1.set i n,w.2) (aa.table w.1[i]) u (aa.table n) (h.wi.node i y).nb.table h.hl (by omega) (by show w.2.2.2.length<=_;omega) I) ?_;rintro⟨⟨v,⟨⟩⟩,⟨⟩⟩ ⟨b,z,rfl⟩;refine Tot.bind (xB K (w.1.set i n,w.2.1,w.2.2.1,b) (i:Int) H h.wi.sides ⟨by omega,by have:=h.lt;omega⟩ h.sent h.wi.radio h.wl I) ?_;rintro⟨⟨v,⟨⟩⟩,⟨⟩⟩ ⟨rd,hr,rfl⟩;have z:b.length<=w.2.2.2.length+(aa.table n).length:=z;exact Tot.ret (h.wi.put h.n hr (by omega))
theorem rj (K:Nat)(l:List lA)(at_:Int)(z:0<=at_)(I:at_<l.length)(y:fQ l):Tot (Q77.f K (l,at_,())) λr=>fQ r.1.1:=by
 have H:=y.1;obtain⟨m,rfl⟩:=BO z;simp only[Q77.f];rw[ar m (by omega)];refine Tot.must (by simp;omega) (Tot.fit (Tot.must (by simp;omega) (Tot.fit (Tot.ret ⟨?_,λf u=>y.2 f ?_⟩) (by omega) ?_)) (by omega) ?_)
 ·simp only[BF,BZ,BS,BQ,BL,BW,B9];omega
 ·simp only[BF,BZ,BS,BQ,B7]at u;rcases BM.1 u with u|u
  ·exact BU u
  ·exact List.mem_of_mem_drop u
 ·simp only[BF,BZ,BS,BQ,BL,BW,B9];omega
 ·simp only[BF,BZ,BS,BQ,BW,CB];omega
theorem rl (K:Nat)(w:bR)(c:Nat)(h:WI w c)(hc:c<=1000000)(to:Int)(t0:0<=to)(t1:to<=7)(x:aj)(X:dz x)(H:1048577<K){G:aa->aa->Option ((bR×Unit)×Unit)}
  (hG:∀ y:aa,G y y=(Q59.f K (y,x,())).bind λI=>(Q83.f K ((w,BE to),I.1.1,I.1.2.1,aj.table x,())).bind λO=>some ((O.1.1,()),())) :
  Tot ((idx w.1 to).bind λ_=>(idx w.1 (BE to:Nat)).bind λM=>(idx w.1 (BE to:Nat)).bind λR=>G M R) λr=>WI r.1.1 (c+4):=by
 obtain⟨i,rfl⟩:=BO t0;have J:i<w.1.length:=by rw[h.len];omega
 have z:=h.node i J;refine Tot.vl (ag J) (Tot.vl (by rw[BF];exact ag J) (Tot.vl (by rw[BF];exact ag J) ?_));rw[hG,xA K w.1[i] x z.up (bT X.2.2.2.2.2.2.2.1) H];simp only[BA,BF];refine Tot.bind (set_t K w i _ _ _ c ⟨h,z.lt,?_,?_,?_,bT X.2.2.2.2.2.2.2.1,hc⟩ H) λv Y=>Tot.ret Y
 ·cases u:w.1[i].2.1 with
  |true=>exact z.of (qz (z.up u) H).1 (qz (z.up u) H).2.1
  |false =>
   rw[show bC K w.1[i] x=(w.1[i],[]) by unfold bC;rw[if_neg λh=>by have:=h.2.1;rw[u]at this;cases this]];exact z
 ·cases u:w.1[i].2.1 with
  |true=>exact λy Z=>(mh (z.up u) H).2 y Z
  |false =>
   rw[show bC K w.1[i] x=(w.1[i],[]) by unfold bC;rw[if_neg λh=>by have:=h.2.1;rw[u]at this;cases this]];simp
 ·cases u:w.1[i].2.1 with
  |true=>have:=(mh (w:=x) (z.up u) H).1;omega
  |false =>
   rw[show bC K w.1[i] x=(w.1[i],[]) by unfold bC;rw[if_neg λh=>by have:=h.2.1;rw[u]at this;cases this]];simp
theorem Aj (K:Nat)(w:bR)(c:Nat)(h:WI w c)(hc:c<=1000000)(at_:Int)(keep:Bool)(h0:0<=at_)(h1:at_<w.2.1.length)(X:1048577<K):Tot (Q84.f K (w,at_,keep,())) λr=>WI r.1.1 (c+4):=by
 simp only[Q84.f,zcp8];refine Tot.ix2 h0 h1 λf hf _=>?_
 obtain⟨⟨t0,t1⟩,a0⟩:=h.radio.2 f hf;have hs:=h.sides;refine Tot.cnd (λ_=>Tot.bind (rj K w.2.1 at_ h0 h1 h.radio) ?_) λ_=>Tot.bind (mf K f.2.1 (by omega) X) ?_
 ·rintro⟨⟨rd,⟨⟩⟩,⟨⟩⟩ hr;have I:WI (w.1,rd,w.2.2) (c+4):=⟨h.len,h.node,hr,h.sides,BJ h.born (by omega)⟩;refine Tot.bind (mf K f.2.1 (by omega) X) ?_;rintro⟨⟨(x:aj),ok,⟨⟩⟩,⟨⟩⟩ H;refine Tot.cnd (λ_=>Tot.ret I) λZ=>?_
  have H:dz x:=H (by simpa using Z);obtain⟨M,Y⟩:=H.2.2.1;have J:x.2.2.1<(w.2.2.1.length:Int):=by rw[hs];omega
  refine Tot.ix2 M J λ_ _ _=>Tot.ix2 t0 (by omega) λ_ _ _=>Tot.cnd (λ_=>Tot.ret I) λ_=>Tot.cnd (λ_=>Tot.ret I) λ_=>?_
  exact rl K (w.1,rd,w.2.2) c ⟨h.len,h.node,hr,h.sides,h.born⟩ hc f.1 t0 t1 x H X (G:=λu R=>(Q59.f K ((u.1,(u.2.1,(u.2.2.1,(u.2.2.2.1,(u.2.2.2.2.1,(u.2.2.2.2.2.1,(u.2.2.2.2.2.2.1,(u.2.2.2.2.2.2.2.1,(u.2.2.2.2.2.2.2.2.1,(u.2.2.2.2.2.2.2.2.2.1,(u.2.2.2.2.2.2.2.2.2.2.1,(R.2.2.2.2.2.2.2.2.2.2.2.1,u.2.2.2.2.2.2.2.2.2.2.2.2)))))))))))),x,())).bind λz=>(Q83.f K (((w.1,rd,w.2.2),BE f.1),z.1.1,z.1.2.1,aj.table x,())).bind λO=>some ((O.1.1,()),())) λy=>rfl
 ·rintro⟨⟨(x:aj),ok,⟨⟩⟩,⟨⟩⟩ H;have I:WI w (c+4):=h.mono (by omega);refine Tot.cnd (λ_=>Tot.ret I) λZ=>?_
  have H:dz x:=H (by simpa using Z);obtain⟨M,Y⟩:=H.2.2.1;have J:x.2.2.1<(w.2.2.1.length:Int):=by rw[hs];omega
  refine Tot.ix2 M J λ_ _ _=>Tot.ix2 t0 (by omega) λ_ _ _=>Tot.cnd (λ_=>Tot.ret I) λ_=>Tot.cnd (λ_=>Tot.ret I) λ_=>?_
  exact rl K w c h hc f.1 t0 t1 x H X (G:=λu R=>(Q59.f K ((u.1,(u.2.1,(u.2.2.1,(u.2.2.2.1,(u.2.2.2.2.1,(u.2.2.2.2.2.1,(u.2.2.2.2.2.2.1,(u.2.2.2.2.2.2.2.1,(u.2.2.2.2.2.2.2.2.1,(u.2.2.2.2.2.2.2.2.2.1,(u.2.2.2.2.2.2.2.2.2.2.1,(R.2.2.2.2.2.2.2.2.2.2.2.1,u.2.2.2.2.2.2.2.2.2.2.2.2)))))))))))),x,())).bind λz=>(Q83.f K (((w.1,w.2),BE f.1),z.1.1,z.1.2.1,aj.table x,())).bind λO=>some ((O.1.1,()),())) λy=>rfl
theorem Ak (K:Nat)(w:bR)(c:Nat)(h:WI w c)(at_ u:Int)(M:0<=at_)(O:at_<w.2.1.length):Tot (Q85.f K (w,at_,u,())) λr=>WI r.1.1 c:=by
 simp only[Q85.f];refine Tot.ix2 M O λf Y _=>?_
 obtain⟨H,J⟩:=h.radio.2 f Y;refine Tot.cnd (λ_=>Tot.ret h) λ_=>Tot.cnd (λ_=>Tot.ret h) λZ=>?_
 have z:¬ (f.2.1.size:Int)=0:=by simpa using Z
 obtain⟨y,b1⟩:=lB (a:=u) (m:=4095) (by omega);have y:0<=bA .i64 u 4095:=y;have X:0<=B3 (bA .i64 u 4095) (f.2.1.size:Int):=CP _ y;have R:B3 (bA .i64 u 4095) (f.2.1.size:Int)<((eo f.2.1).length:Int):=by rw[rg];exact CF _ (by omega)
 refine Tot.not (decide_eq_false z) (Tot.ix2 X R λ_ _ _=>Tot.ix2 X R λ_ _ _=>Tot.ix2 M O λ_ _ _=>Tot.ret ⟨h.len,h.node,⟨?_,λg I=>?_⟩,h.sides,h.born⟩)
 ·show (w.2.1.set _ _).length<=60;rw[BK];exact h.radio.1
 ·rcases List.mem_or_eq_of_mem_set I with I|rfl
  ·exact h.radio.2 g I
  ·refine⟨H,?_⟩;show (gI _).size<=2000;rw[iR,BK,rg];exact J
def mi (i:Int)(g:Bool):aa:=(i,true,false,g,0,0,0,0,[(i,0,1,g)],[],(-1,0,0,false),[],(0,0,0,1500),[],[])
theorem Al {i:Int}{g:Bool}(h:InP i 0 7):UpN (mi i g):=by
 refine⟨⟨h,B4 _,⟨λf u=>?_,List.pairwise_singleton _ _⟩,λf u=>?_,⟨λx y=>(nomatch y),List.Pairwise.nil⟩,λx y=>(nomatch y),?_,⟨λd z=>(nomatch z),List.Pairwise.nil,rfl⟩,⟨?_,?_,?_,?_⟩,⟨λp r=>(nomatch r),List.Pairwise.nil⟩,⟨λp r=>(nomatch r),List.Pairwise.nil⟩⟩,?_,?_,⟨?_,?_⟩,?_,rfl⟩
 ·rw[BG.1 u];exact⟨h,⟨by show (0:Int)<=0;omega,by show (0:Int)<=999;omega⟩,by show (1:Int)<=1;omega,by show (1:Int)<=4;omega⟩
 ·rw[BG.1 u];rfl
 ·unfold c7;rw[if_pos (show (aa.probe (mi i g)).1=-1 from rfl)];rfl
 ·exact⟨by show (-100000:Int)<=0;omega,by show (0:Int)<=100000;omega⟩
 ·exact⟨by show (-100000:Int)<=0;omega,by show (0:Int)<=100000;omega⟩
 ·exact⟨by show (0:Int)<=0;omega,by show (0:Int)<=100000;omega⟩
 ·exact⟨by show (1:Int)<=1500;omega,by show (1500:Int)<=1500;omega⟩
 ·exact BG.2 rfl
 ·show (0:Int)<=999999;omega
 ·exact⟨by show (0:Int)<=0;omega,by show (0:Int)<=999999;omega⟩
 ·exact⟨by show (0:Int)<=0;omega,by show (0:Int)<=8;omega⟩
 ·exact⟨by show (0:Int)<=0;omega,by show (0:Int)<=999;omega⟩
theorem rm (K:Nat)(i:Int)(g:Bool)(h:InP i 0 7):Q15.f K (i,g,())=some ((mi i g,()),()):=by
 simp only[Q15.f];obtain⟨b,e,r⟩:=cG K i 0 7;rw[e,r.2 h];rfl
theorem ee.new (i:Nat)(g:Bool)(h:i<8):ee i (mi (i:Int) g):=⟨rfl,h,λ_=>Al ⟨by omega,by omega⟩,λr=>by cases r⟩
theorem Bg (K:Nat)(w:bR)(c:Nat)(h:WI w c)(M:c<=1000000)(u:Int)(y:InP u 0 7)(H:1048577<K):Tot (Q88.f K (w,u,())) λr=>WI r.1.1 (c+4):=by
 have J:=h.born;have I:u.toNat<8:=by obtain⟨a,b⟩:=y;omega
 have z:=h.len;simp only[Q88.f,Q16.f,BA];rw[rm K u _ y];simp only[BA];refine Tot.ix2 y.1 (by have:=y.2;omega) λ_ _ _=>?_
 refine Tot.vl (show idx (mi u (decide (B3 u 4<3))).2.2.2.2.2.2.2.2.1 0=some (u,0,1,decide (B3 u 4<3)) from rfl) (Tot.bind (xC K w.2.2.2 _ (by omega) H) λv O=>Tot.ret (h.put ?_ h.radio (by omega)));have:=ee.new u.toNat (decide (B3 u 4<3)) I
 rwa [CE y.1]at this
theorem Bh (K:Nat)(n:aa)(w:aj)(H:NB n)(y:(aj.table w).length<=1048576)(r:1048577<K):Ret (Q229.f K (n,w,())) (eV n/\dz w/\fJ n w):=by
 obtain⟨O,I,z⟩:=oU K n H r;obtain⟨J,Y,u⟩:=lZ K w y r;obtain⟨X,R,M⟩:=uU K n w y r;simp only[Q229.f];rw[I];cases O with
 |false=>exact⟨false,rfl,by simp only[CG,false_iff];exact λh=>by have:=z.2 h.1;cases this⟩
 |true =>
  simp only[rb,BA,BH,cond_false];rw[Y];cases J with
  |false=>exact⟨false,rfl,by simp only[CG,false_iff];exact λh=>by have:=u.2 h.2.1;cases this⟩
  |true =>
   simp only[rb,BA,BH,cond_false];rw[R];exact⟨X,rfl,M.trans ⟨λh=>⟨z.1 rfl,u.1 rfl,h⟩,λh=>h.2.2⟩⟩
theorem pX (K:Nat)(n:aa)(w:aj)(r:NB n)(z:(aj.table w).length<=1048576)(y:1048577<K):∃ b,Q229.f K (n,w,())=rb b/\Q169.f K (n,w,())=rb b/\(b=true<->eV n/\dz w/\fJ n w):=by
 obtain⟨b,u,M⟩:=vV K n w r z y;obtain⟨J,H,I⟩:=Bh K n w r z y;rw[u]at H;have:b=J:=by simpa[rb]using H
 subst this;exact⟨b,u,M,I⟩
theorem xD (K:Nat)(n:aa)(r:Int)(w:aj)(h:cq n)(u:1048577<K):Q206.f K (n,r,w,())=some ((pT r (iP n) w.2.2.2.2.2.1 w.2.2.2.2.1 n.1 (gW n w.2.2.2.2.2.1),()),(iP n,())):=by
 simp only[Q206.f,zcp4];refine (congrArg (λo=>BC o _) (vL K n w.2.2.2.2.2.1 h u)).trans ?_;simp only[BA,Q186.f];rfl
theorem yQ (K:Nat)(n:aa)(x:Int)(u:InP x 0 7):Q160.f K (n,x,())=rb (ak x==ak n.1&&x != n.1):=by
 obtain⟨b,e,h⟩:=pD K n x;simp only[Q160.f];rw[e];have r:b=(ak x==ak n.1):=by
  rw[BR,h,beq_iff_eq];exact⟨λh=>h.2,λh=>⟨u,h⟩⟩
 subst r;simp only[rb,BA];cases ak x==ak n.1 with
 |true=>rfl
 |false=>rfl
theorem yR (K:Nat)(xs r:List af)(R:xs.length<=1048576)(O:1048577<K):Q185.f K (xs,r,())=rb (decide (xs=r)):=by
 simp only[Q185.f,Q185.pre];by_cases z:xs.length=r.length
 case neg =>
  rw[show ((BD xs:Int) != (BD r:Int))=true by simp only[bne_iff_ne,ne_eq];omega,decide_eq_false (λe=>z (by rw[e]))];rfl
 rw[show ((BD xs:Int) != (BD r:Int))=false by rw[z];simp];simp only[cond_false];have:=co (step:=λrec a=>Q185.s0 K (xs,r,()) rec a) xs.length (λi=>(i:Int)) (λj=>∃ h:j<xs.length,xs[j]≠r[j]'(by omega)) (rb true) (λ_=>rb false) ?_ ?_ xs.length K 0 (by omega) (by omega)
 ·rcases this with ⟨I,H⟩|⟨j,_,I,⟨X,M⟩,_,H⟩
  ·rw[decide_eq_true (List.ext_getElem z λi h _=>Classical.byContradiction λu=>I i (BP _) h ⟨h,u⟩)];exact H
  ·rw[decide_eq_false (λe=>M (by subst e;rfl))];exact H
 ·intro rec i J;have y:i<r.length:=by omega
  simp only[Q185.s0];rw[bh (by omega:(i:Int)<(BD xs:Int)),ag J,ag y,ar i (by omega)];simp only[cond_true,BA];by_cases e:xs[i]=r[i]
  ·left;refine⟨λ⟨_,h⟩=>h e,?_⟩;rw[show Ty.eqv t2 xs[i] r[i]=decide (xs[i]=r[i]) from fI _ _,decide_eq_true e];rfl
  ·right;refine⟨⟨J,e⟩,?_⟩;rw[show Ty.eqv t2 xs[i] r[i]=decide (xs[i]=r[i]) from fI _ _,decide_eq_false e];rfl
 ·intro rec;simp only[Q185.s0,aP];rfl
theorem yS (K:Nat)(t:List bY)(v:Int)(ht:t.length<=1048576)(z:Asc (λx:bY=>x.1) t)(h7:∀ d∈t,InP d.1 0 7)(O:InP v 0 7)(hK:1048577<K) :
  ∃ m,m<=t.length/\(∀ i,(h:i<t.length)->i<m->t[i].1<v)/\(∀ i,(h:i<t.length)->m<=i->v<=t[i].1)/\Q183.f K (t,v,(λI=>(Q184.f K (I.1,I.2.1,())).map λy=>y.1.1),())=some ((((m:Nat):Int),decide (∃ h:m<t.length,t[m].1=v),()),()):=by
 let ks:Nat->Int:=λi=>if h:i<t.length then t[i].1 else 0
 have r:∀ i (h:i<t.length),ks i=t[i].1:=λi h=>by simp[ks,h]
 let H:Nat->Option ((Int×Bool×Unit)×Unit):=λm=>some ((((m:Nat):Int),decide (∃ h:m<t.length,t[m].1=v),()),())
 have X:∀ d∈t,((Q184.f K (d,v,())).map λy=>y.1.1)=some (d.1-v):=λd Y=>by
  obtain⟨a1,a2⟩:=h7 d Y;obtain⟨a3,a4⟩:=O;simp only[Q184.f];rw[aJ (by omega) (by omega)];rfl
 have:=pA (step:=λrec a=>Q183.s0 K (t,v,(λI=>(Q184.f K (I.1,I.2.1,())).map λy=>y.1.1),()) rec a) (ks:=ks) (n:=t.length) (t:=v) H ht
  (λi j J R=>by
   rw[r i (by omega),r j R];exact cB.1 z i j (by omega) R J) ?_ ?_ t.length K 0 t.length (by omega) (BP _) (BT _) (by omega) (λi u=>by omega) (λi u O=>by omega)
 ·obtain⟨m,Z,h2,h3,h4⟩:=this;exact⟨m,Z,λi h u=>by rw[<- r i h];exact h2 i u,λi h u=>by rw[<- r i h];exact h3 i u h,h4⟩
 ·intro rec a b a0 hb;have M:(a+b) / 2<t.length:=by omega
  simp only[Q183.s0];rw[decide_eq_true (by omega:(a:Int)<(b:Int)),nJ (by omega)];simp only[cond_true];rw[ag M];simp only[BA,X _ (BI M)];rw[r _ M,ar _ (by omega)];by_cases h:t[(a+b) / 2].1<v
  ·rw[if_pos h,decide_eq_true (by omega:t[(a+b) / 2].1-v<0)];rfl
  ·rw[if_neg h,decide_eq_false (by omega:¬ t[(a+b) / 2].1-v<0)];rfl
 ·intro rec a ha;simp only[Q183.s0];rw[decide_eq_false (by omega)];simp only[cond_false];by_cases h:a<t.length
  ·rw[decide_eq_true (by omega:(a:Int)<(BD t:Int)),ag h];simp only[cond_true,BA,X _ (BI h)];have:(t[a].1-v==0)=decide (∃ h:a<t.length,t[a].1=v):=by
    rw[BR];simp only[beq_iff_eq,decide_eq_true_eq];exact⟨λe=>⟨h,by omega⟩,λ⟨_,e⟩=>by omega⟩
   rw[this]
  ·rw[decide_eq_false (by omega:¬ (a:Int)<(BD t:Int))];simp only[cond_false,H];rw[decide_eq_false (λ⟨h',_⟩=>h h')]
theorem xE {R:Type}(K:Nat)(n m:aa)(w:aj)(M:InP w.1 1 2)(I:(bH n w).length<=1048576)(J:m.1=n.1)(X:aa.coord m=aa.coord n)(O:1048577<K)(G:List aj->Option R) :
  (bif w.1==1 then G [] else ((Q185.f K (bH n w,aj.table w,())).bind λy=>bif y.1.1 then G [] else ((Q186.f K (m,6,w.2.2.1,())).bind λr=>(Q1.f K (bH n w,())).bind λH =>
   G [(2,r.1.1.2.1,r.1.1.2.2.1,r.1.1.2.2.2.1,r.1.1.2.2.2.2.1,r.1.1.2.2.2.2.2.1,r.1.1.2.2.2.2.2.2.1,H.1.1)])))=G (bif w.1==2&&decide (aj.table w≠bH n w) then [vT n w] else []):=by
 by_cases u:w.1=1
 ·rw[u];rfl
 ·have z:w.1=2:=by obtain⟨a,b⟩:=M;omega
  rw[show (w.1==1)=false by simpa using u,show (w.1==2)=true by simpa using z,yR K _ _ I O];simp only[cond_false,rb,BA,B5];by_cases e:bH n w=aj.table w
  ·rw[decide_eq_true e,decide_eq_false (p:=aj.table w≠bH n w) (λh=>h e.symm)];rfl
  ·rw[decide_eq_false e,decide_eq_true (p:=aj.table w≠bH n w) (λh=>e h.symm)];simp only[cond_false,cond_true,Q186.f,BA,Q1.f];rw[dX (by show (bH n w).length*_<=_;omega)];simp only[BA];unfold vT;rw[J,show m.2.2.2.2.2.2.2.2.2.2.2.2.1=aa.coord n from X]
theorem sum_i (K:Nat)(n:aa)(w:aj)(hn:NB n)(h:UpN n)(hp:InP w.1 1 2)(M:az (aj.table w))(r:lY (aj.table w))(u:1048577<K):Q187.f K (n,w,())=some (((eP n w).2,()),((eP n w).1,())):=by
 have Y:idx (aj.table w) 0=some (ch (aj.table w)):=by
  cases ht:aj.table w with
  |nil=>rw[ht]at r;exact r.elim
  |cons f l=>rfl
 have R:=uV (tk r M);have a0:InP (ak (ch (aj.table w)).1) 0 7:=⟨R.1,CJ R.2 (by decide)⟩;have hb:mg (aj.table w) (ak n.1)=(ak (ch (aj.table w)).1==ak n.1):=by
  rw[BR,kH,beq_iff_eq];cases ht:aj.table w with
  |nil=>rw[ht]at r;exact r.elim
  |cons f l =>
   rw[ht]at r;exact⟨λh=>h f (by simp),λe g hg=>(r g hg).trans e⟩
 simp only[Q187.f,zcp4,zcp8];refine (congrArg (λo=>BC o _) Y).trans ?_;simp only[BA];rw[mL K (ch (aj.table w)).1,nL K n];simp only[BA];unfold eP;rw[hb];cases ak (ch (aj.table w)).1==ak n.1 with
 |true =>
  simp only[cond_true];refine (congrArg (λo=>BC o _) (uN K n (aj.table w) n.1 h.learns M.1 (bT M) h.x.me u)).trans rfl
 |false =>
  simp only[cond_false];obtain⟨a1,a2,a3⟩:=kI (n:=n) h.x.others M r;refine (congrArg (λo=>BC o _) (zQ K n (ak (ch (aj.table w)).1) hn u)).trans ?_;simp only[BA];refine (congrArg (λo=>BC o _) (AT K (eE (aa.others n) (ak (ch (aj.table w)).1)) (aj.table w) (o7 h.x.others _) M u)).trans ?_;simp only[BA];have y:=h.x.others;have Z:=olen y;obtain⟨m,hm,lo,hi,hs⟩:=yS K (aa.others n) (ak (ch (aj.table w)).1) Z y.2 (λx hx=>⟨(y.1 x hx).1.1,CJ (y.1 x hx).1.2 (by decide)⟩) a0 u;refine (congrArg (λo=>BC o _) hs).trans ?_;simp only[BA];by_cases hf:∃ h:m<(aa.others n).length,(aa.others n)[m].1=ak (ch (aj.table w)).1
  ·rw[decide_eq_true hf];obtain⟨I,e⟩:=hf;simp only[cond_true,BF];have O:idx (aa.others n) (m:Int)=some (aa.others n)[m]:=ag I;refine (congrArg (λo=>BC o _) O).trans ?_;simp only[BA];refine (congrArg (λo=>BC o _) O).trans ?_;simp only[BA];rw[e];have z:(aa.others n).set m (ak (ch (aj.table w)).1,bH n w)=bq (λx:bY=>x.1) (ak (ch (aj.table w)).1,bH n w) (aa.others n):=ii (k:=λx:bY=>x.1) (x:=(ak (ch (aj.table w)).1,bH n w)) y.2 I e;have:=xE K n (mX n ((aa.others n).set m (ak (ch (aj.table w)).1,bH n w))) w hp (bT a1) rfl rfl u (λws=>some ((ws,()),(mX n ((aa.others n).set m (ak (ch (aj.table w)).1,bH n w)),())));refine Eq.trans this ?_;rw[z];rfl
  ·rw[decide_eq_false hf];simp only[cond_false];have X:Q8.f K (aa.others n,(m:Int),[(ak (ch (aj.table w)).1,bH n w)],())=some (((aa.others n).take m++[(ak (ch (aj.table w)).1,bH n w)]++(aa.others n).drop m,()),()):=jv hm (by decide) Z;refine (congrArg (λo=>BC o _) X).trans ?_;simp only[BA];have H:(aa.others n).take m++[(ak (ch (aj.table w)).1,bH n w)]++(aa.others n).drop m=bq (λx:bY=>x.1) (ak (ch (aj.table w)).1,bH n w) (aa.others n):=gv (k:=λx:bY=>x.1) (x:=(ak (ch (aj.table w)).1,bH n w)) hm lo (λj hj J=>by
    rcases Int.lt_or_eq_of_le (hi j hj J) with h|h
    ·exact h
    ·exfalso;rcases Nat.lt_or_eq_of_le J with h4|rfl
     ·have:(aa.others n)[m].1<(aa.others n)[j].1:=cB.1 y.2 m j (by omega) hj h4;have h5:=hi m (by omega) (BT _);omega
     ·exact hf ⟨hj,h.symm⟩)
   have:=xE K n (mX n ((aa.others n).take m++[(ak (ch (aj.table w)).1,bH n w)]++(aa.others n).drop m)) w hp (bT a1) rfl rfl u (λws=>some ((ws,()),(mX n ((aa.others n).take m++[(ak (ch (aj.table w)).1,bH n w)]++(aa.others n).drop m),())));refine Eq.trans this ?_;rw[H];rfl
theorem Bi (K:Nat)(n:aa)(w:aj)(Y:NB n)(h:UpN n)(u:dz w)(M:fJ n w)(z:w.2.1≠2)(H:1048577<K):Q208.f K (n,w,())=some (((bC K n w).2,()),((bC K n w).1,())):=by
 have r:=u.2.2.2.2.2.2.2.1;unfold bC;rw[if_pos ⟨u,M⟩];simp only[Q208.f,zcp4];by_cases y:w.2.1=6
 ·rw[if_pos y,show (w.2.1==6)=true by simpa using y];have X:=u.2.2.2.2.2.2.2.2;rw[if_pos y]at X;simp only[cond_true];exact (congrArg (λo=>BC o _) (sum_i K n w Y h u.1 r X H)).trans rfl
 ·rw[if_neg y,show (w.2.1==6)=false by simpa using y];obtain⟨Z,O⟩:=iT u M y;have I:=(km h M.2.1 r Z O).1;simp only[cond_false];refine (congrArg (λo=>BC o _) (uN K n (aj.table w) w.2.2.1 h.learns r.1 (bT r) O.1 H)).trans ?_;simp only[BA];generalize eO n (aj.table w) w.2.2.1=m at I ⊢;have J:=u.2.2.2.2.2.1;have R:=yQ K m w.2.2.2.2.2.1 J;rw[show (w.2.1==2)=false by simpa using z];unfold fb;rw[show (w.2.1==2)=false by simpa using z];cases w.2.1==1 with
  |true =>
   simp only[cond_true];refine (congrArg (λo=>BC o _) R).trans ?_;simp only[rb,BA,bne];cases ak w.2.2.2.2.2.1==ak m.1 with
   |false=>rfl
   |true =>
    cases w.2.2.2.2.2.1==m.1 with
    |true=>rfl
    |false =>
     simp only[B5,BY,BH,cond_true,cond_false];exact (congrArg (λo=>BC o _) (xD K m 2 w I.x.say H)).trans rfl
  |false =>
   simp only[cond_false];cases w.2.1==3 with
   |true =>
    simp only[cond_true];refine (congrArg (λo=>BC o _) R).trans ?_;simp only[rb,BA,bne];cases ak w.2.2.2.2.2.1==ak m.1 with
    |false=>rfl
    |true =>
     cases w.2.2.2.2.2.1==m.1 with
     |true=>rfl
     |false =>
      simp only[B5,BY,BH,cond_true,cond_false];cases w.2.2.2.2.2.1==w.2.2.1 with
      |true=>rfl
      |false =>
       simp only[BY,cond_true,cond_false];exact (congrArg (λo=>BC o _) (xD K m 1 w I.x.say H)).trans rfl
   |false =>
    simp only[cond_false];cases w.2.1==4 with
    |true =>
     simp only[cond_true];exact (congrArg (λo=>BC o _) (zV K m 5 w.2.2.1 (bT I.x.table))).trans rfl
    |false=>rfl
theorem uq (K:Nat)(n:aa)(w:aj)(z:NB n)(hw:(aj.table w).length<=1048576)(M:w.2.1≠2)(r:1048577<K):∃ y:aa,∃ H:List aj,NB y/\H.length<=1/\(∀ x∈H,(aj.table x).length<=1048576)/\Q222.f K (n,w,())=some ((y,H,()),())/\Q213.f K (n,w,())=some ((y,H,()),()) /\
  ((eV n/\dz w/\fJ n w)->y=(bC K n w).1/\H=(bC K n w).2)/\(eV n->¬ (dz w/\fJ n w)->y=n/\H=[])/\(¬ eV n->H=[]):=by
 obtain⟨b,o1,o2,X⟩:=tZ K n z r;simp only[Q222.f,Q213.f,Q212.f];rw[o1,o2];cases b with
 |false=>exact⟨sM,[],uc,by simp,by simp,rfl,rfl,λh=>(by have:=X.2 h.1;cases this),λh=>(by have:=X.2 h;cases this),λ_=>rfl⟩
 |true =>
  have I:=X.1 rfl;have J:n.2.1=true->UpN n:=λJ=>UpN.of I J
  simp only[rb,BA,BH,cond_false];rw[mO K n z r,yt K n z r];simp only[BA];rw[xA K n w J hw r];simp only[BA,Q209.f];obtain⟨c,_,t2,t3⟩:=pX K n w z hw r;rw[t2];cases c with
  |false =>
   have u:¬ (dz w/\fJ n w):=λh=>by have:=t3.2 ⟨I,h⟩;cases this
   have he:bC K n w=(n,[]):=by unfold bC;rw[if_neg u]
   rw[he];simp only;rw[mO K n z r];exact⟨n,[],z,by simp,by simp,rfl,rfl,λh=>absurd h.2 u,λ_ _=>⟨rfl,rfl⟩,λh=>absurd I h⟩
  |true =>
   obtain⟨_,Z,R⟩:=t3.1 rfl;have O:=J R.1;have Y:=qz (w:=w) O r;have h2:=mh (w:=w) O r;simp only[rb,BA,BH,cond_false];rw[Bi K n w z O Z R M r];simp only[BA];rw[mO K _ Y.1.nb r];refine⟨(bC K n w).1,(bC K n w).2,Y.1.nb,h2.1,λx hx=>(h2.2 x hx).2,rfl,?_,λ_=>⟨rfl,rfl⟩,λ_ u=>absurd ⟨Z,R⟩ u,λh=>absurd I h⟩;simp only[Q211.f];simp
theorem Am {n:aa}(h:UpN n):(ly n).length<=8/\∀ x∈ly n,hI x:=by
 unfold ly;refine⟨?_,λx u=>?_⟩
 ·rw[CA];exact BJ (CC _ _) (iN h.x.table.2 λf r=>(h.x.table.1 f r).1)
 ·obtain⟨f,r,rfl⟩:=BV.1 u;exact⟨(h.x.table.1 f (BX.1 r).1).1,bT h.x.table⟩
theorem Bj (K:Nat)(w:bR)(c:Nat)(h:WI w c)(hc:c<=1000000)(e:af)(h0:InP e.2.1 0 7)(O:1048577<K):Tot (Q106.f K (w,e,())) λr=>WI r.1.1 (c+4):=by
 have a2:=h.len;have hs:=h.sides;obtain⟨a1,a0,u,keep⟩:=e;obtain⟨e0,e1⟩:=h0;simp only at e0 e1;obtain⟨i,rfl⟩:=BO e0;have X:i<w.1.length:=by omega
 have J:=h.node i X;have y:=h.mono (show c<=c+4 by omega);simp only[Q106.f];refine Tot.vl (ag X) (Tot.vl (by rw[BF];exact ag X) ?_);generalize w.1[i]=n at J ⊢;refine Tot.cnd (λ_=>?_) λ_=>Tot.cnd (λ_=>?_) λ_=>Tot.cnd (λ_=>?_) λ_=>?_
 ·
  rw[zy];simp only[BA];exact Tot.ix2 (by omega) (by omega) λ_ _ _=>Tot.ret ⟨y.len,y.node,y.radio,by show (w.2.2.1.set _ _).length=8;rw[BK];exact h.sides,y.born⟩
 ·
  simp only[Q87.f,BA];refine Tot.ix2 (by omega) (by omega) λ_ _ _=>Tot.ret (y.put (i:=i) (n:=jo n.1 n.2.2.2.1) ?_ y.radio y.born)
  exact⟨J.me,J.lt,λM=>(by cases M),λ_=>rfl⟩
 ·
  exact Tot.cnd (λ_=>Tot.ret y) λ_=>Tot.bind (Bg K w c h hc (i:Int) ⟨by omega,by omega⟩ O) λv z=>Tot.ret z
 ·refine Tot.cnd (λ_=>Tot.ret y) λM=>Tot.cnd (λ_=>Tot.ret y) λY=>?_
  have M:n.2.1=true:=by simpa using M
  have H:=J.up M;have set:=λ (m:aa) (Z:List aj) (I:UpN m) (em:m.1=n.1) (R:∀ x∈Z,hI x) (hl:Z.length<=1000)=>Bf K w i m Z [] c ⟨h,J.lt,J.of I em,R,hl,BP _,hc⟩ O
  refine Tot.cnd (λ_=>?_) λ_=>Tot.cnd (λ_=>?_) λ_=>Tot.cnd (λ_=>?_) λ_=>Tot.ret y
  ·refine Tot.cnd (λ_=>Tot.ret y) λI=>?_
   have I:cf n<999999:=by have I:¬ n.2.2.2.2.2.1>=999999:=of_decide_eq_false I;show n.2.2.2.2.2.1<999999;omega
   obtain⟨t1,t2,_⟩:=qu H I;obtain⟨w1,w2⟩:=Bd H I u;exact Tot.vl (Be K n u H Y I O) (Tot.bind (set _ _ t1 t2 w2 (BJ w1 (by omega))) λv z=>Tot.ret z)
  ·obtain⟨t1,t2⟩:=yJ H Y;obtain⟨w1,w2⟩:=Am t1;exact Tot.vl (zW K n H.nb H.ok M Y O) (Tot.bind (set _ _ t1 t2 w2 (BJ w1 (by omega))) λv z=>Tot.ret z)
  ·refine Tot.bind (cG K u 0 7).tot λv z=>Tot.cnd (λ_=>Tot.ret y) λh1=>Tot.cnd (λ_=>Tot.ret y) λ_=>?_
   have hd:InP u 0 7:=z.1 (by simpa using h1);rw[dk K,dk K];simp only[BA];refine Tot.cnd (λ_=>Tot.ret y) λ_=>?_
   refine Tot.vl (nP K n 4 u (bT H.x.table)) (Tot.bind (set n _ H rfl (λx hx=>?_) (by simp)) λv z=>Tot.ret z);rw[BG.1 hx];exact⟨hd,bT H.x.table⟩
theorem do_t (K:Nat)(w:bR)(c:Nat)(h:WI w c)(O:c<=1000000)(e:af)(M:1048577<K):Tot (Q108.f K (w,e,())) λr=>WI r.1.1 (c+4):=by
 have z:=h.mono (show c<=c+4 by omega);have hr:=h.radio.1;simp only[Q108.f];rw[aJ (n:=(BD w.2.1:Int)-1) (by omega) (by omega)];have u:Tot ((Q13.f K (e.2.1,0,(BD w.2.1:Int)-1,())).bind λZ=>bif !Z.1.1 then (some ((w,false,()),())) else (bif e.1==2 then ((Q84.f K (w,e.2.1,e.2.2.2,())).bind λY=>some ((Y.1.1,true,()),())) else (bif e.1==4 then ((Q85.f K (w,e.2.1,e.2.2.1,())).bind λR=>some ((R.1.1,R.1.2.1,()),())) else ((Q77.f K (w.2.1,e.2.1,())).bind λX=>some (((w.1,(X.1.1,w.2.2)),true,()),()))))) λr=>WI r.1.1 (c+4):=by
  refine Tot.bind (cG K _ _ _).tot λv y=>Tot.cnd (λ_=>Tot.ret z) λI=>?_
  obtain⟨J,H⟩:InP e.2.1 0 ((BD w.2.1:Int)-1):=y.1 (by simpa using I);have H:e.2.1<(w.2.1.length:Int):=by omega
  refine Tot.cnd (λ_=>Tot.bind (Aj K w c h O e.2.1 e.2.2.2 J H M) λv y=>Tot.ret y) λ_=>Tot.cnd (λ_=>Tot.bind (Ak K w c h e.2.1 e.2.2.1 J H) λv y=>Tot.ret (WI.mono y (by omega))) λ_=>?_
  exact Tot.bind (rj K w.2.1 e.2.1 J H h.radio) λv y=>Tot.ret ⟨z.len,z.node,y,z.sides,z.born⟩
 refine Tot.cnd (λ_=>u) λ_=>Tot.cnd (λ_=>u) λ_=>Tot.cnd (λ_=>u) λ_=>?_
 exact Tot.bind (cG K _ _ _).tot λv y=>Tot.cnd (λ_=>Tot.ret z) λI=>Tot.bind (Bj K w c h O e (y.1 (by simpa using I)) M) λv y=>Tot.ret y
theorem yT (K:Nat)(w:bR)(O:w.1.length<=1048576)(I:∀ n∈w.1,NB n)(X:w.2.1.length<=1048576)(R:w.2.2.1.length<=1048576)(Y:w.2.2.2.length<=1048576)(J:1048577<K):Q110.f K (w,())=some ((w,()),()):=by
 simp only[Q110.f,Q110.pre];rw[szb _ _ _ (by omega) (by show (BD ([]:List lA))+w.2.1.length<=_;simp;omega)];simp only[cond_true];rw[szb _ _ _ (by omega) (by show (BD ([]:List Int))+w.2.2.1.length<=_;simp;omega)];simp only[cond_true];rw[szb _ _ _ (by omega) (by show (BD ([]:List af))+w.2.2.2.length<=_;simp;omega)];simp only[cond_true];have:∀ (d i k:Nat),i+d=w.1.length->d<k->ae (λrec a=>Q110.s0 K (w,()) rec a) k ((i:Int),w.1.take i)=some ((w,()),()):=by
  intro d;induction d with
  |zero =>
   intro i k y M;obtain⟨k,rfl⟩:∃ u,k=u+1:=⟨k-1,by omega⟩;have:i=w.1.length:=by omega
   subst this;show Q110.s0 K (w,()) _ _=_;simp only[Q110.s0,aP,B7];rfl
  |succ d z =>
   intro i k y M;obtain⟨k,rfl⟩:∃ u,k=u+1:=⟨k-1,by omega⟩;have r:i<w.1.length:=by omega
   show Q110.s0 K (w,()) _ _=_;simp only[Q110.s0];rw[bh (by omega:(i:Int)<(BD w.1:Int)),ag r,ar i (by omega)];simp only[cond_true,BA];refine (congrArg (λo=>BC o _) (mO K w.1[i] (I _ (BI r)) J)).trans ?_;simp only[BA];have H:decide (((w.1.take i).length+[w.1[i]].length)*232<=an)=true:=decide_eq_true (by
    rw[BW];simp only[CN,CB,an];omega)
   refine (congrArg (λb=>bif b then _ else _) H).trans ?_;have e:w.1.take i++[w.1[i]]=w.1.take (i+1):=by rw[CK,B6 r];rfl
   rw[<- z (i+1) k (by omega) (by omega),<- e];rfl
 exact this w.1.length 0 K (by omega) (by omega)
theorem WI.copy {w:bR}{c:Nat}(h:WI w c)(J:c<=1000000)(K:Nat)(y:1048577<K):Q110.f K (w,())=some ((w,()),()):=by
 have M:=h.len;have I:=h.radio.1;have H:=h.sides;have z:=h.born;refine yT K w (by omega) (λn r=>?_) (by omega) (by omega) (by omega) y;obtain⟨i,u,rfl⟩:=BN r;exact (h.node i u).nb
theorem Bk (K:Nat)(w:bR)(c:Nat)(y:List af)(h:WI w c)(hl:y.length<=1000)(Z:c<=900000)(R:1048577<K):Tot (Q111.f K (w,y,())) λr=>WI r.1.1 (c+4*y.length)/\r.2.1=y:=by
 simp only[Q111.f,Q111.pre];refine Tot.iter (step:=λrec a=>Q111.s0 K (w,y,()) rec a) (λa=>0<=a.1/\a.1<=y.length/\WI a.2 (c+4*a.1.toNat)) (λa=>y.length-a.1.toNat) ?_ K _ (by show y.length-BE 0<K;omega) ⟨by show (0:Int)<=0;omega,by show (0:Int)<=_;omega,h⟩;rintro rec ⟨i,v⟩ ⟨J,X,H⟩ O;simp only at J X H O ⊢;simp only[Q111.s0];refine Tot.cnd (λz=>?_) λ_=>Tot.ret ⟨WI.mono H (by omega),rfl⟩
 have z:i<(y.length:Int):=of_decide_eq_true z;rw[aJ (n:=i+1) (by omega) (by omega)];refine Tot.vl (H.copy (by omega) K R) (Tot.ix2 J z λe _ _=>Tot.bind (do_t K v _ H (by omega) e R) ?_);rintro⟨⟨v',ok,⟨⟩⟩,⟨⟩⟩ I;have I:WI v' (c+4*i.toNat+4):=I;have M:∀ u:bR,WI u (c+4*i.toNat+4)->Tot (rec (i+1,u)) λr=>WI r.1.1 (c+4*y.length)/\r.2.1=y:=λu Y=>O (i+1,u) ⟨by show 0<=i+1;omega,by show i+1<=_;omega,Y.mono (by show _<=c+4*(i+1).toNat;omega)⟩ (by show y.length-BE (i+1)<y.length-BE i;omega)
 exact Tot.cnd (λ_=>M v' I) λ_=>M v (H.mono (by omega))
theorem vW (K:Nat)(hK:1048577<K):Tot (Q17.f K ()) λr=>WI r.1.1 8:=by
 simp only[Q17.f,Q17.pre];refine Tot.iter (step:=λrec a=>Q17.s0 K () rec a) (λa=>0<=a.1/\a.1<=8/\a.2.1.length=a.1.toNat/\(∀ (j:Nat) (y:j<a.2.1.length),ee j a.2.1[j])/\a.2.2.1.length=a.1.toNat/\a.2.2.2.length=a.1.toNat) (λa=>8-a.1.toNat) ?_ K _ (by show 8-BE 0<K;omega) ⟨by show (0:Int)<=0;omega,by show (0:Int)<=8;omega,rfl,λj y=>(by cases y),rfl,rfl⟩;rintro rec ⟨i,z,X,O⟩ ⟨H,Y,h2,J,h4,h5⟩ R;simp only at H Y h2 J h4 h5 R ⊢;simp only[Q17.s0];refine Tot.cnd (λu=>?_) λu=>?_
 ·have u:i<=7:=of_decide_eq_true u;rw[aJ (n:=i+1) (by omega) (by omega)];simp only[Q16.f,BA];refine Tot.vl (rm K i _ ⟨H,u⟩) (Tot.fit (Tot.fit (Tot.vl (show idx (mi i (decide (B3 i 4<3))).2.2.2.2.2.2.2.2.1 0=some (i,0,1,decide (B3 i 4<3)) from rfl) (Tot.fit (R _ ⟨by show 0<=i+1;omega,by show i+1<=8;omega,?_,λj y=>?_,?_,?_⟩ (by show 8-BE (i+1)<8-BE i;omega)) (by omega) ?_)) (by omega) ?_) (by omega) ?_)
  ·show (z++[mi i _]).length=(i+1).toNat;simp;omega
  ·show ee j ((z++[mi i (decide (B3 i 4<3))])[j]'y);rw[List.getElem_append];split
   ·exact J j _
   ·rename_i I;have y:j<(z++[mi i (decide (B3 i 4<3))]).length:=y;have M:j=i.toNat:=by simp at y;omega
    subst M;have:=ee.new i.toNat (decide (B3 i 4<3)) (by omega);rw[CE H]at this;simpa using this
  ·show (X++[0]).length=(i+1).toNat;simp;omega
  ·show (O++[_]).length=(i+1).toNat;simp;omega
  ·simp;omega
  ·simp;omega
  ·simp;omega
 ·have I:=of_decide_eq_false u;refine Tot.ret ⟨?_,J,⟨BP _,λf Z=>(nomatch Z)⟩,?_,?_⟩
  ·show z.length=8;omega
  ·show X.length=8;omega
  ·show O.length<=8;omega
abbrev LtP (v n:Int):Prop:=0<=v/\v<n
def a8 (b:List Int)(m:Nat)(s:List Int×Int):Prop:=∃ q:Nat,q<=m/\s=(b,(q:Int))
theorem a8.up {b:List Int}{m:Nat}{s:List Int×Int}(h:a8 b m s){m':Nat}(u:m<=m'):a8 b m' s:=by obtain⟨q,y,r⟩:=h;exact⟨q,by omega,r⟩
section
variable {K:Nat} {b:List Int} {m:Nat} {s:List Int×Int}
theorem aA (h:fF b)(z:a8 b m s)(n:Int)(u:1<=n)(J:m<=99000):Tot (Q12.f K (s,n,())) λr=>LtP r.1.1 n/\a8 b (m+1) r.2.1:=by
 obtain⟨q,I,rfl⟩:=z;obtain⟨v,e,H,y⟩:=z8 K b q n h (by omega) u;exact⟨_,e,⟨H,y⟩,q+1,by omega,rfl⟩
theorem Bl (r:List Int)(u:∀ y∈r,0<=y/\y<=255)(I:r.length<=9223372036854775807):∃ z:List Int,fF z/\Q11.f K (r,())=some (((z,(0:Int)),()),()):=by
 simp only[Q11.f];by_cases h:(r.length:Int)>2000
 ·rw[decide_eq_true h,decide_eq_true (by omega:(2000:Int)<=(r.length:Int))];exact⟨(r.take 2000).drop 0,⟨λy H=>u y (BU (by simpa using H)),by simp;omega⟩,rfl⟩
 ·rw[decide_eq_false h];exact⟨r,⟨u,by omega⟩,rfl⟩
theorem xF (h:fF b)(Y:a8 b m s)(u:Int)(h0:0<=u)(h1:u<=1)(hm:m<=98000):Tot (Q116.f K (s,u,())) λr=>(bf r.1.1/\ak r.1.1.1=u)/\a8 b (m+5) r.2.1:=by
 simp only[Q116.f];refine Tot.bind (aA h Y 4 (by decide) (by omega)) λH ⟨⟨a1,b1⟩,R⟩=>Tot.bind (aA h R 3 (by decide) (by omega)) λv2 ⟨⟨a2,b2⟩,X⟩=>Tot.bind (aA h X 12 (by decide) (by omega)) λv3 ⟨⟨a3,b3⟩,Z⟩=>Tot.bind (aA h Z 3 (by decide) (by omega)) λv4 ⟨⟨M,O⟩,s4⟩=>Tot.ix2 M O λy z _=>Tot.bind (aA h s4 4 (by decide) (by omega)) λI ⟨⟨a5,b5⟩,J⟩=>?_
 simp only[Q16.f,BA];have z:InP y 0 999:=by
  simp only[CS,CO,or_false]at z;rcases z with rfl|rfl|rfl <;> constructor <;> omega
 rw[aJ (n:=u*4) (by omega) (by omega),aJ (n:=u*4+H.1.1) (by omega) (by omega),aJ (n:=1+I.1.1) (by omega) (by omega)];refine Tot.ret ⟨⟨⟨⟨?_,?_⟩,z,?_,?_⟩,?_⟩,J⟩
 ·show (0:Int)<=u*4+H.1.1;omega
 ·show u*4+H.1.1<=7;omega
 ·show (1:Int)<=1+I.1.1;omega
 ·show (1:Int)+I.1.1<=4;omega
 ·show ak (u*4+H.1.1)=u;rw[jd ⟨by omega,by omega⟩];omega
theorem mY (h:fF b)(R:a8 b m s)(hm:m<=97000):Tot (Q118.f K (s,())) λr=>a8 b (m+8) r.2.1:=by
 simp only[Q118.f];refine Tot.bind (aA h R 2 (by decide) (by omega)) λI ⟨⟨Y,b1⟩,J⟩=>Tot.bind (xF h J I.1.1 Y (by omega) (by omega)) λf ⟨_,O⟩=>Tot.bind (aA h O 12 (by decide) (by omega)) λM ⟨_,H⟩=>?_
 have u:∀ {x y:Int} {G:(Int×Unit)×(List Int×Int)×Unit->Int->Option ((af×Unit)×(List Int×Int)×Unit)},(∀ v z,Tot (G v z) λr=>r.2.1=v.2.1)->Tot ((Q12.f K (M.2.1,2,())).bind λv=>(idx [x,y] v.1.1).bind λ_=>(idx [x,y] (BE v.1.1:Nat)).bind (G v)) λr=>a8 b (m+8) r.2.1:=λZ=>Tot.bind (aA h H 2 (by decide) (by omega)) λv ⟨⟨a,b⟩,X⟩=>Tot.ix2 a b λz _ _=>(Z v z).mono λr e=>by rw[e];exact X.up (by omega)
 refine Tot.cnd (λ_=>u λ_ _=>Tot.ret rfl) λ_=>Tot.cnd (λ_=>u λ_ _=>Tot.ret rfl) λ_=>Tot.cnd (λ_=>u λ_ _=>Tot.ret rfl) λ_=>Tot.cnd (λ_=>Tot.ret (H.up (by omega))) λ_=>Tot.ret (H.up (by omega))
theorem xG (t:List af)(f:af):(bO t f).1.length<=t.length+1:=by
 rcases gU t f with e|e
 ·rw[e];omega
 ·rw[e];exact yp
theorem vX {t:List af}{f:af}{z:Int}(h:b8 t z)(u:ak f.1=z):b8 (bO t f).1 z:=by
 rcases gU t f with e|e <;> rw[e]
 ·exact h
 ·intro g r;rcases aV.1 r with rfl|⟨r,_⟩
  ·exact u
  ·exact h g r
theorem nT (h:fF b)(hs:a8 b m s)(u:Int)(h0:-1<=u)(h1:u<=1)(hm:m<=96000)(hK:1048577<K):Tot (Q117.f K (s,u,())) λr=>(az r.1.1/\(0<=u->b8 r.1.1 u)/\r.1.1.length<=5)/\a8 b (m+31) r.2.1:=by
 simp only[Q117.f,Q117.pre];refine Tot.bind (aA h hs 6 (by decide) (by omega)) λv ⟨⟨v0,v1⟩,s1⟩=>?_
 refine Tot.iter (step:=λrec a=>Q117.s0 K (s,u,()) rec a) (λa=>∃ q:Nat,0<=a.2.1/\az a.1/\(0<=u->b8 a.1 u)/\(a.1.length:Int)+a.2.1<=5/\a8 b q a.2.2/\q+6*a.2.1.toNat<=m+31) (λa=>a.2.1.toNat) ?_ K _ (by show v.1.1.toNat<K;omega) ⟨m+1,v0,⟨by simp,List.Pairwise.nil⟩,λ_ f X=>(nomatch X),by show ((0:Nat):Int)+v.1.1<=5;omega,s1,by show m+1+6*v.1.1.toNat<=m+31;omega⟩;rintro rec ⟨t,n,s2⟩ ⟨q,n0,O,hS,hl,I,hq⟩ ih;simp only at n0 O hS hl I hq ih ⊢;simp only[Q117.s0];refine Tot.cnd (λhn=>?_) λ_=>Tot.ret ⟨⟨O,hS,by show t.length<=5;omega⟩,I.up (by omega)⟩
 have hn:n>0:=of_decide_eq_true hn;rw[aJ (n:=n-1) (by omega) (by omega)];have go:∀ (z:Int) (J:Nat) (M:List Int×Int),0<=z->z<=1->(0<=u->z=u)->a8 b J M->J<=q+1->Tot ((Q116.f K (M,z,())).bind λZ=>(Q34.f K (t,Z.1.1,())).bind λy4=>rec (y4.1.1,n-1,Z.2.1.1,Z.2.1.2)) λr=>(az r.1.1/\(0<=u->b8 r.1.1 u)/\r.1.1.length<=5)/\a8 b (m+31) r.2.1:=λz J M z0 z1 hz Y a2=>by
  refine Tot.bind (xF h Y z z0 z1 (by omega)) λy ⟨⟨X,a1⟩,a0⟩=>Tot.vl (vK K t y.1.1 (by omega) O.2 hK) (ih (_,_,y.2.1) ⟨J+5,by show 0<=n-1;omega,kh O X,λR=>vX (hS R) (by rw[a1];exact hz R),?_,a0,by show J+5+6*(n-1).toNat<=m+31;omega⟩ (by show (n-1).toNat<n.toNat;omega))
  have:=xG t y.1.1;show ((bO t y.1.1).1.length:Int)+(n-1)<=5;omega
 refine Tot.cnd (λH=>?_) λH=>?_
 ·have H:u<0:=of_decide_eq_true H;exact Tot.bind (aA h I 2 (by decide) (by omega)) λv ⟨⟨a,b⟩,M⟩=>go v.1.1 (q+1) v.2.1 a (by omega) (λR=>by omega) M (BT _)
 ·have H:¬ u<0:=of_decide_eq_false H;exact go u q s2 (by omega) h1 (λ_=>rfl) I (by omega)
theorem pY (h:fF b)(X:a8 b m s)(Z:m<=95000)(R:1048577<K):Tot (Q119.f K (s,())) λr=>r.1.1.length<=6/\a8 b (m+42) r.2.1:=by
 simp only[Q119.f];refine Tot.bind (nT h X (-1) (by decide) (by decide) (by omega) R) λt ⟨⟨hT,_,hl⟩,J⟩=>?_
 refine Tot.cnd (λI=>?_) λ_=>Tot.ret ⟨by show t.1.1.length<=6;omega,J.up (by omega)⟩
 have I:(t.1.1.length:Int)>0:=of_decide_eq_true I;refine Tot.bind (aA h J 12 (by decide) (by omega)) λv2 ⟨_,M⟩=>Tot.cnd (λ_=>?_) λ_=>Tot.ret ⟨by show t.1.1.length<=6;omega,M.up (by omega)⟩
 refine Tot.bind (aA h M (t.1.1.length:Int) (by omega) (by omega)) λv3 ⟨⟨u,z⟩,Y⟩=>Tot.bind (aA h Y 3 (by decide) (by omega)) λv4 ⟨_,H⟩=>?_
 refine Tot.cnd (λ_=>Tot.bind (mY h H (by omega)) λf O=>Tot.ix2 u z λ_ _ _=>Tot.ret ⟨by show (t.1.1.set _ _).length<=6;rw[BK];omega,O.up (by omega)⟩) λ_=>?_
 refine Tot.cnd (λ_=>Tot.ix2 u z λy _ _=>Tot.fit (Tot.ret ⟨by show (t.1.1++[y]).length<=6;simp;omega,H.up (by omega)⟩) (by omega) (by simp;omega)) λ_=>Tot.ix2 u z λy _ _=>Tot.ret ⟨by show (t.1.1.set _ _).length<=6;rw[BK];omega,H.up (by omega)⟩
theorem An (h:fF b)(hs:a8 b m s)(u:Int)(R:-1<=u)(X:u<=1)(hm:m<=95000)(Z:1048577<K):Tot (Q120.f K (s,u,())) λr=>r.1.1.length<=5/\a8 b (m+36) r.2.1:=by
 simp only[Q120.f,Q120.pre];refine Tot.bind (nT h hs u R X (by omega) Z) λt ⟨⟨hT,_,hl⟩,Y⟩=>?_
 refine Tot.iter (step:=λrec a=>Q120.s0 K (s,u,()) rec a) (λa=>a.2.1=t.1.1/\0<=a.2.2.1/\a.2.2.1<=t.1.1.length/\(a.1.length:Int)=a.2.2.1/\a8 b (m+31+a.2.2.1.toNat) a.2.2.2) (λa=>t.1.1.length-a.2.2.1.toNat) ?_ K _ (by show t.1.1.length-BE 0<K;omega) ⟨rfl,by show (0:Int)<=0;omega,by show (0:Int)<=_;omega,rfl,Y⟩;rintro rec ⟨H,t',i,s2⟩ ⟨e,O,i1,J,z⟩ M;simp only at e O i1 J z M ⊢;subst e;simp only[Q120.s0];refine Tot.cnd (λI=>?_) λ_=>Tot.ret ⟨by show H.length<=5;omega,z.up (by omega)⟩
 have I:i<(t.1.1.length:Int):=of_decide_eq_true I;rw[aJ (n:=i+1) (by omega) (by omega)];refine Tot.ix2 O I λy _ _=>Tot.bind (aA h z 4 (by decide) (by omega)) λv ⟨_,s3⟩=>Tot.fit (M (_,_,_,v.2.1) ⟨rfl,by show 0<=i+1;omega,by show i+1<=_;omega,?_,s3.up (by show _<=m+31+(i+1).toNat;omega)⟩ (by show t.1.1.length-(i+1).toNat<t.1.1.length-i.toNat;omega)) (by omega) (by simp;omega)
 show ((H++[_]).length:Int)=i+1;simp;omega
theorem vY (h:fF b)(Y:a8 b m s)(hm:m<=94000)(R:1048577<K):Tot (Q121.f K (s,())) λr=>r.1.1.length<=6/\a8 b (m+50) r.2.1:=by
 simp only[Q121.f];refine Tot.bind (An h Y (-1) (by decide) (by decide) (by omega) R) λt ⟨hl,M⟩=>?_
 refine Tot.cnd (λJ=>?_) λ_=>Tot.ret ⟨by show t.1.1.length<=6;omega,M.up (by omega)⟩
 have J:(t.1.1.length:Int)>0:=of_decide_eq_true J;refine Tot.bind (aA h M 10 (by decide) (by omega)) λv2 ⟨_,O⟩=>Tot.cnd (λ_=>?_) λ_=>Tot.ret ⟨by show t.1.1.length<=6;omega,O.up (by omega)⟩
 refine Tot.bind (aA h O (t.1.1.length:Int) (by omega) (by omega)) λv3 ⟨⟨z,H⟩,Z⟩=>Tot.bind (aA h Z 3 (by decide) (by omega)) λv4 ⟨_,I⟩=>?_
 refine Tot.cnd (λ_=>Tot.bind (aA h I 2 (by decide) (by omega)) λv5 ⟨⟨X,b5⟩,u⟩=>Tot.ix2 X b5 λ_ _ _=>Tot.ix2 z H λ_ _ _=>Tot.ret ⟨by show (t.1.1.set _ _).length<=6;rw[BK];omega,u.up (by omega)⟩) λ_=>?_
 refine Tot.cnd (λ_=>Tot.bind (mY h I (by omega)) λf u=>Tot.ix2 z H λ_ _ _=>Tot.ret ⟨by show (t.1.1.set _ _).length<=6;rw[BK];omega,u.up (by omega)⟩) λ_=>?_
 exact Tot.ix2 z H λy _ _=>Tot.fit (Tot.ret ⟨by show (t.1.1++[y]).length<=6;simp;omega,I.up (by omega)⟩) (by omega) (by simp;omega)
theorem rq (h:fF b)(M:a8 b m s)(Z:m<=95000):Tot (Q122.f K (s,())) λr=>a8 b (m+6) r.2.1:=by
 simp only[Q122.f,Q14.f];refine Tot.bind (aA h M 6 (by decide) (by omega)) λv1 ⟨_,z⟩=>Tot.cnd (λ_=>Tot.ret (z.up (by omega))) λ_=>Tot.bind (aA h z 3 (by decide) (by omega)) λv3 ⟨⟨I,J⟩,O⟩=>Tot.ix2 I J λy u _=>?_
 have u:InP y 10 100000:=by
  simp only[CS,CO,or_false]at u;rcases u with rfl|rfl|rfl <;> constructor <;> omega
 rw[aJ (n:=2*y) (by omega) (by omega),aJ (n:=2*y+1) (by omega) (by omega),aJ (n:=y+1) (by omega) (by omega)];exact Tot.bind (aA h O _ (by omega) (by omega)) λv6 ⟨_,Y⟩=>Tot.bind (aA h Y _ (by omega) (by omega)) λv7 ⟨_,R⟩=>Tot.bind (aA h R _ (by omega) (by omega)) λv8 ⟨_,H⟩=>Tot.bind (aA h H _ (by decide) (by omega)) λv9 ⟨_,X⟩=>Tot.ret X
theorem mj (h:fF b)(H:a8 b m s)(J:m<=94000):Tot (Q123.f K (s,())) λr=>a8 b (m+8) r.2.1:=by
 simp only[Q123.f];exact Tot.bind (rq h H (by omega)) λc z=>Tot.bind (aA h z 16 (by decide) (by omega)) λI ⟨_,y⟩=>Tot.cnd (λ_=>Tot.bind (aA h y 3 (by decide) (by omega)) λv ⟨⟨a,b⟩,u⟩=>Tot.ix2 a b λ_ _ _=>Tot.ret u) λ_=>Tot.cnd (λ_=>Tot.bind (aA h y 2 (by decide) (by omega)) λv ⟨⟨a,b⟩,u⟩=>Tot.ix2 a b λ_ _ _=>Tot.ret u) λ_=>Tot.cnd (λ_=>Tot.bind (aA h y 2 (by decide) (by omega)) λv ⟨⟨a,b⟩,u⟩=>Tot.ix2 a b λ_ _ _=>Tot.ret u) λ_=>Tot.ret (y.up (by omega))
theorem xH (h:fF b)(z:a8 b m s)(w:bR)(J:m<=95000):Tot (Q112.f K (s,w,())) λr=>a8 b (m+2) r.2.1:=by
 simp only[Q112.f];refine Tot.cnd (λ_=>Tot.ret (z.up (by omega))) λH=>?_
 have H:¬ (w.2.1.length:Int)=0:=by simpa using H
 refine Tot.bind (aA h z 3 (by decide) (by omega)) λI ⟨_,y⟩=>Tot.cnd (λ_=>Tot.cnd (λ_=>Tot.bind (aA h y 4 (by decide) (by omega)) λv ⟨_,u⟩=>Tot.ret u) λ_=>?_) λ_=>?_ <;>
 exact Tot.bind (aA h y _ (by show (1:Int)<=(w.2.1.length:Int);omega) (by omega)) λv ⟨_,u⟩=>Tot.ret u
theorem Ao (h:fF b)(hs:a8 b m s)(w:bR)(hm:m<=94000):Tot (Q113.f K (s,w,())) λr=>a8 b (m+8) r.2.1:=by
 simp only[Q113.f];refine Tot.bind (aA h hs 8 (by decide) (by omega)) λv1 ⟨_,s1⟩=>Tot.bind (aA h s1 256 (by decide) (by omega)) λv2 ⟨_,s2⟩=>Tot.bind (aA h s2 16 (by decide) (by omega)) λv3 ⟨_,s3⟩=>Tot.bind (aA h s3 40 (by decide) (by omega)) λO ⟨_,y⟩=>?_
 have y:a8 b (m+4) O.2.1:=y.up (by omega);generalize O.2.1=z at y ⊢;have Z:a8 b (m+8) z:=y.up (by omega);have R:=xH (K:=K) h y w (by omega);have M:∀ n:Int,1<=n->Tot (Q12.f K (z,n,())) λr=>a8 b (m+8) r.2.1:=λn H=>(aA h y n H (by omega)).mono λr J=>J.2.up (by omega)
 have X:∀ (I:List Int×Int) (n:Int),a8 b (m+4+2) I->1<=n->Tot (Q12.f K (I,n,())) λr=>a8 b (m+8) r.2.1:=λI n Y H=>(aA h Y n H (by omega)).mono λr J=>J.2.up (by omega)
 repeat' first
  |exact Tot.ret Z
  |exact Tot.bind R λv u=>Tot.ret (a8.up u (by omega))
  |exact Tot.bind R λv u=>Tot.bind (X _ _ u (by decide)) λv u=>Tot.ret u
  |exact Tot.bind (M _ (by decide)) λv u=>Tot.ret u
  |exact Tot.bind (M _ (by decide)) λv u=>Tot.cnd (λ_=>Tot.ret u) λ_=>Tot.ret u
  |refine Tot.cnd (λ_=>?_) λ_=>?_
theorem Ap (h:fF b)(hs:a8 b m s)(y:Int)(h1:1<=y)(h2:y<=200)(hm:m<=90000)(Z:1048577<K):Tot (Q114.f K (s,y,())) λr=>(WI r.1.2.1 2000/\r.1.1.length<=300)/\a8 b (m+8*y.toNat+2) r.2.1:=by
 simp only[Q114.f,Q114.pre];have O:∀ (H:List af) (n:Int) (z:List Int×Int) (w:bR) (q c:Nat),0<=n->n<y->H.length<=24->a8 b q z->q<=m+2->WI w c->c<=200->Tot (Q114.l1 K (s,y,()) (H,n,z.1,z.2,w)) λr=>(WI r.1.2.1 2000/\r.1.1.length<=300)/\a8 b (m+8*y.toNat+2) r.2.1:=λH n z w q c n0 n1 R M hq I hc=>by
  refine Tot.iter (step:=λrec a=>Q114.s1 K (s,y,()) rec a) (λa=>∃ q c:Nat,0<=a.2.1/\a.2.1<y/\(a.1.length:Int)+a.2.1<=24+y/\a8 b q (a.2.2.1,a.2.2.2.1)/\q+8*a.2.1.toNat<=m+8*y.toNat+2/\WI a.2.2.2.2 c/\c+4*a.2.1.toNat<=2000) (λa=>a.2.1.toNat) ?_ K _ (by show n.toNat<K;omega) ⟨q,c,n0,n1,by show (H.length:Int)+n<=_;omega,M,by show q+8*n.toNat<=_;omega,I,by show c+4*n.toNat<=2000;omega⟩;clear M hq I hc n0 n1 R;rintro rec ⟨H,n,z1,z2,w⟩ ⟨q,c,n0,n1,R,M,hq,I,hc⟩ Y;simp only at n0 n1 R M hq I hc Y ⊢;simp only[Q114.s1];refine Tot.cnd (λhn=>?_) λ_=>Tot.vl (I.copy (by omega) K Z) (Tot.ret ⟨⟨I.mono (by omega),by show H.length<=300;omega⟩,M.up (by omega)⟩)
  have hn:n>0:=of_decide_eq_true hn;rw[aJ (n:=n-1) (by omega) (by omega)];refine Tot.bind (Ao h M w (by omega)) λe he=>Tot.fit (Tot.vl (I.copy (by omega) K Z) (Tot.bind (do_t K w c I (by omega) e.1.1 Z) ?_)) (by omega) (by simp;omega)
  rintro⟨⟨v',ok,⟨⟩⟩,⟨⟩⟩ hv;have X:∀ u:bR,WI u (c+4)->Tot (rec (H++[e.1.1],n-1,e.2.1.1,e.2.1.2,u)) λr=>(WI r.1.2.1 2000/\r.1.1.length<=300)/\a8 b (m+8*y.toNat+2) r.2.1:=λu hu=>Y _ ⟨q+8,c+4,by show 0<=n-1;omega,by show n-1<y;omega,by show ((H++[e.1.1]).length:Int)+(n-1)<=_;simp;omega,he,by show q+8+8*(n-1).toNat<=_;omega,hu,by show c+4+4*(n-1).toNat<=2000;omega⟩ (by show (n-1).toNat<n.toNat;omega)
  exact Tot.cnd (λ_=>X v' hv) λ_=>X w (I.mono (by omega))
 refine Tot.bind (vW K Z) λw0 a0=>Tot.bind (aA h hs 3 (by decide) (by omega)) λv2 ⟨_,s2⟩=>Tot.cnd (λ_=>?_) λ_=>Tot.bind (aA h s2 y h1 (by omega)) λv9 ⟨⟨a9,b9⟩,s9⟩=>O [] v9.1.1 v9.2.1 w0.1.1 (m+2) 8 a9 b9 (by simp) s9 (BT _) a0 (by omega)
 refine Tot.iter (step:=λrec a=>Q114.s0 K (s,y,()) (Q114.l1 K (s,y,())) rec a) (λa=>0<=a.2.1/\a.2.1<=8/\(a.1.length:Int)<=3*a.2.1/\a8 b (m+1) (a.2.2.1,a.2.2.2.1)/\WI a.2.2.2.2 8) (λa=>8-a.2.1.toNat) ?_ K _ (by show 8-BE 0<K;omega) ⟨by show (0:Int)<=0;omega,by show (0:Int)<=8;omega,by show ((0:Nat):Int)<=3*0;omega,s2,a0⟩;rintro rec ⟨H,i,z1,z2,w⟩ ⟨i0,i1,R,M,I⟩ Y;simp only at i0 i1 R M I Y ⊢;simp only[Q114.s0];refine Tot.cnd (λhi=>?_) λ_=>?_
 ·have hi:i<=7:=of_decide_eq_true hi;rw[aJ (n:=i+1) (by omega) (by omega)];have X:∀ J:List af,(J.length:Int)<=3*(i+1)->Tot (rec (J,i+1,z1,z2,w)) λr=>(WI r.1.2.1 2000/\r.1.1.length<=300)/\a8 b (m+8*y.toNat+2) r.2.1:=λJ a1=>Y _ ⟨by show 0<=i+1;omega,by show i+1<=8;omega,a1,M,I⟩ (by show 8-(i+1).toNat<8-i.toNat;omega)
  exact Tot.cnd (λ_=>Tot.fit (Tot.fit (X _ (by simp;omega)) (by omega) (by simp;omega)) (by omega) (by simp;omega)) λ_=>X H (by omega)
 ·refine Tot.bind (Bk K w 8 H I (by omega) (by omega) Z) λv ⟨hv,ev⟩=>Tot.bind (aA h M y h1 (by omega)) λv4 ⟨⟨a4,b4⟩,s4⟩=>?_
  exact O v.2.1 v4.1.1 v4.2.1 v.1.1 (m+1+1) _ a4 b4 (by rw[ev];omega) s4 (by omega) hv (by omega)
theorem Aq (h:fF b)(z:a8 b m s)(H:m<=90000)(y:1048577<K):Tot (Q115.f K (s,())) λr=>WI r.1.1 2000/\a8 b (m+802) r.2.1:=by
 simp only[Q115.f];exact Tot.bind (Ap h z 100 (by decide) (by decide) H y) λv u=>Tot.ret ⟨u.1.1,u.2⟩
structure NS (c:Nat) (n:aa):Prop where
 nb:NB n
 table:(aa.table n).length<=c
 cast:(aa.cast n).length<=c
 doubts:(aa.doubts n).length<=c
 places:(aa.places n).length<=c
 others:(aa.others n).length<=c
theorem ee.ns {i:Nat}{n:aa}(h:ee i n):NS 8 n:=by
 cases y:n.2.1 with
 |true =>
  have r:=h.up y;refine⟨h.nb,by have:=h.short;omega,by have:=clen r.x.say;omega,?_,?_,?_⟩
  ·exact BJ (iN r.x.say.asc r.x.say.inp) (by decide)
  ·exact BJ (iN r.x.places.2 λx u=>(r.x.places.1 x u).1) (by decide)
  ·exact BJ (iN r.x.others.2 λx u=>⟨(r.x.others.1 x u).1.1,CJ (r.x.others.1 x u).1.2 (by decide)⟩) (by decide)
 |false =>
  have e:=h.down y;refine⟨h.nb,?_,?_,?_,?_,?_⟩ <;> rw[e] <;> exact BP _
theorem xI (h:fF b)(hs:a8 b m s)(n:aa){c:Nat}(hn:NS c n)(h8:8<=c)(hc:c<=1000)(hm:m<=90000)(hK:1048577<K):Tot (Q124.f K (s,n,())) λr=>NS (c+1) r.1.1/\a8 b (m+60) r.2.1:=by
 simp only[Q124.f,zcp4,zcp8];rw[mO K n hn.nb hK];simp only[BA];obtain⟨⟨Z,n2,n3,R,n5,O,n7,M⟩,l1,l2,l3,l4,Y⟩:=hn;refine Tot.bind (aA h hs 12 (by decide) (by omega)) λv2 ⟨_,I⟩=>?_
 have u:∀ (n':aa) (z:List Int×Int),n'.2.2.2.2.2.2.2.2=n.2.2.2.2.2.2.2.2->a8 b (m+60) z->NS (c+1) n'/\a8 b (m+60) z:=λn' z e hz=>by
  refine⟨⟨⟨?_,?_,?_,?_,?_,?_,?_,?_⟩,?_,?_,?_,?_,?_⟩,hz⟩ <;> simp only[aa.table,aa.cast,aa.doubts,aa.places,aa.others] <;> rw[e] <;> first|assumption|(refine BJ ?_ (CD c);assumption)
 have u2:a8 b (m+60) v2.2.1:=I.up (by omega);refine Tot.cnd (λ_=>Tot.bind (pY h I (by omega) hK) λt ⟨tl,J⟩=>Tot.ret ⟨⟨⟨by show t.1.1.length<=_;omega,n2,n3,R,n5,O,n7,M⟩,by show t.1.1.length<=_;omega,BB l2,BB l3,BB l4,BB Y⟩,J.up (by omega)⟩) λ_=>?_
 refine Tot.cnd (λ_=>Tot.bind (vY h I (by omega) hK) λt ⟨tl,J⟩=>Tot.ret ⟨⟨⟨Z,by show t.1.1.length<=_;omega,n3,R,n5,O,n7,M⟩,BB l1,by show t.1.1.length<=_;omega,BB l3,BB l4,BB Y⟩,J.up (by omega)⟩) λ_=>?_
 refine Tot.cnd (λ_=>Tot.ret (u _ _ rfl u2)) λ_=>?_
 refine Tot.cnd (λ_=>Tot.bind (aA h I 9 (by decide) (by omega)) λv5 ⟨_,s5⟩=>Tot.bind (aA h s5 3 (by decide) (by omega)) λv6 ⟨_,s6⟩=>Tot.bind (aA h s6 3 (by decide) (by omega)) λv7 ⟨_,s7⟩=>Tot.bind (aA h s7 2 (by decide) (by omega)) λv8 ⟨_,s8⟩=>Tot.ret ⟨⟨⟨Z,n2,n3,R,n5,O,n7,M⟩,BB l1,BB l2,BB l3,BB l4,BB Y⟩,s8.up (by omega)⟩) λ_=>?_
 refine Tot.cnd (λ_=>Tot.bind (aA h I 8 (by decide) (by omega)) λv9 ⟨_,X⟩=>Tot.bind (aA h X 8 (by decide) (by omega)) λa0 ⟨_,H⟩=>Tot.fit (Tot.ret ⟨⟨⟨Z,n2,?_,?_,n5,O,n7,M⟩,BB l1,BB l2,?_,BB l4,BB Y⟩,H.up (by omega)⟩) (by omega) ?_) λ_=>?_
 ·show (aa.doubts n++[_]).length<=_;simp;omega
 ·intro d y;rcases BM.1 y with y|y
  ·exact R d y
  ·rw[BG.1 y];show ([a0.1.1]:List Int).length<=_;simp
 ·show (aa.doubts n++[_]).length<=_;simp;omega
 ·show (aa.doubts n).length+_<=_;simp;omega
 refine Tot.cnd (λ_=>Tot.bind (mj h I (by omega)) λc J=>Tot.ret ⟨⟨⟨Z,n2,n3,R,n5,O,n7,M⟩,BB l1,BB l2,BB l3,BB l4,BB Y⟩,J.up (by omega)⟩) λ_=>?_
 refine Tot.cnd (λ_=>Tot.bind (aA h I 9 (by decide) (by omega)) λv9 ⟨_,X⟩=>Tot.bind (mj h X (by omega)) λc H=>Tot.bind (aA h H 3 (by decide) (by omega)) λa1 ⟨_,a2⟩=>Tot.fit (Tot.ret ⟨⟨⟨Z,n2,n3,R,?_,?_,n7,M⟩,BB l1,BB l2,BB l3,?_,BB Y⟩,a2.up (by omega)⟩) (by omega) ?_) λ_=>?_
 ·show (aa.places n++[_]).length<=_;simp;omega
 ·intro d y;rcases BM.1 y with y|y
  ·exact O d y
  ·rw[BG.1 y];show ([a1.1.1]:List Int).length<=_;simp
 ·show (aa.places n++[_]).length<=_;simp;omega
 ·show (aa.places n).length+_<=_;simp;omega
 refine Tot.cnd (λ_=>Tot.bind (aA h I 3 (by decide) (by omega)) λv9 ⟨_,X⟩=>Tot.bind (pY h X (by omega) hK) λt ⟨tl,H⟩=>Tot.fit (Tot.ret ⟨⟨⟨Z,n2,n3,R,n5,O,?_,?_⟩,BB l1,BB l2,BB l3,BB l4,?_⟩,H.up (by omega)⟩) (by omega) ?_) λ_=>?_
 ·show (aa.others n++[_]).length<=_;simp;omega
 ·intro d y;rcases BM.1 y with y|y
  ·exact M d y
  ·rw[BG.1 y];show t.1.1.length<=_;omega
 ·show (aa.others n++[_]).length<=_;simp;omega
 ·show (aa.others n).length+_<=_;simp;omega
 refine Tot.cnd (λ_=>Tot.ret (u _ _ rfl u2)) λ_=>Tot.cnd (λ_=>Tot.ret (u _ _ rfl u2)) λ_=>?_
 refine Tot.cnd (λ_=>Tot.bind (aA h I 3 (by decide) (by omega)) λv ⟨⟨a,b⟩,J⟩=>Tot.ix2 a b λ_ _ _=>Tot.ret (u _ _ rfl (J.up (by omega)))) λ_=>?_
 exact Tot.bind (aA h I 8 (by decide) (by omega)) λv9 ⟨_,X⟩=>Tot.bind (aA h X 3 (by decide) (by omega)) λv ⟨⟨a,b⟩,J⟩=>Tot.ix2 a b λ_ _ _=>Tot.ret (u _ _ rfl (J.up (by omega)))
end
section
variable {K:Nat} {b:List Int} {m:Nat} {s:List Int×Int}
end
theorem a8.zero (b:List Int):a8 b 0 (b,0):=⟨0,BT _,rfl⟩
structure xJ (code:List Int):Prop where
 byte:∀ y∈code,0<=y/\y<=255
 len:code.length<=9223372036854775807
theorem oo (K:Nat)(xs:List Int)(z:xs.length<=1048576)(y:1048577<K):Q225.f K (xs,xs,())=rb true:=by
 have u:Q225.l0 K (xs,xs,()) 0=rb true:=by
  refine er (step:=λrec a=>Q225.s0 K (xs,xs,()) rec a) xs.length (λi=>(i:Int)) (rb true) ?_ ?_ (by omega)
  ·intro rec i r;simp only[Q225.s0];rw[decide_eq_true (by omega:(i:Int)<(BD xs:Int)),ag r,ar i (by omega)];simp only[cond_true,BA,bne_self_eq_false,cond_false]
  ·intro rec;simp only[Q225.s0,aP];rfl
 simp only[Q225.f,Q225.pre,bne_self_eq_false,cond_false];exact u
theorem tp (K:Nat)(xs:List aF)(z:xs.length<=1048576)(y:1048577<K):Q224.f K (xs,xs,())=rb true:=by
 have u:Q224.l0 K (xs,xs,()) 0=rb true:=by
  refine er (step:=λrec a=>Q224.s0 K (xs,xs,()) rec a) xs.length (λi=>(i:Int)) (rb true) ?_ ?_ (by omega)
  ·intro rec i r;simp only[Q224.s0];rw[decide_eq_true (by omega:(i:Int)<(BD xs:Int)),ag r,ar i (by omega)];simp only[cond_true,BA];rw[show Ty.eqv t3 xs[i] xs[i]=true by
    show (Ty.eqv t2 xs[i].1 xs[i].1&&decide (xs[i].2=xs[i].2))=true;rw[show Ty.eqv t2 xs[i].1 xs[i].1=decide (xs[i].1=xs[i].1) from fI _ _,decide_eq_true rfl,decide_eq_true rfl];rfl]
   rfl
  ·intro rec;simp only[Q224.s0,aP];rfl
 simp only[Q224.f,Q224.pre,bne_self_eq_false,cond_false];exact u
theorem ur (K:Nat)(n:aa)(r:NB n)(y:1048577<K):Q226.f K (n,n,())=rb true:=by
 have J:Q226.l2 K (n,n,()) 0=rb true:=by
  have z:=r.others;refine er (step:=λrec a=>Q226.s2 K (n,n,()) rec a) (aa.others n).length (λi=>(i:Int)) (rb true) ?_ ?_ (by omega)
  ·intro rec i u;simp only[Q226.s2];rw[bh (by omega:(i:Int)<(BD (aa.others n):Int)),ag u,ar i (by omega)];simp only[cond_true,BA,bne_self_eq_false,cond_false];refine (congrArg (λo=>BC o _) (kl K _ (r.facts _ (BI u)) y)).trans rfl
  ·intro rec;simp only[Q226.s2,aP];rfl
 have I:Q226.l1 K (n,n,()) 0=rb true:=by
  have z:=r.places;refine er (step:=λrec a=>Q226.s1 K (n,n,()) (Q226.l2 K (n,n,())) rec a) (aa.places n).length (λi=>(i:Int)) (rb true) ?_ ?_ (by omega)
  ·intro rec i u;simp only[Q226.s1];rw[bh (by omega:(i:Int)<(BD (aa.places n):Int)),ag u,ar i (by omega)];simp only[cond_true,BA,bne_self_eq_false,cond_false];rw[show Ty.eqv t9 (aa.places n)[i].2.1 (aa.places n)[i].2.1=decide ((aa.places n)[i].2.1=(aa.places n)[i].2.1) from pC _ _,decide_eq_true rfl];simp only[BH,cond_false];refine (congrArg (λo=>BC o _) (oo K _ (r.trips _ (BI u)) y)).trans rfl
  ·intro rec;simp only[Q226.s1,aP];exact J
 have H:Q226.l0 K (n,n,()) 0=rb true:=by
  have z:=r.doubts;refine er (step:=λrec a=>Q226.s0 K (n,n,()) (Q226.l1 K (n,n,())) rec a) (aa.doubts n).length (λi=>(i:Int)) (rb true) ?_ ?_ (by omega)
  ·intro rec i u;simp only[Q226.s0];rw[bh (by omega:(i:Int)<(BD (aa.doubts n):Int)),ag u,ar i (by omega)];simp only[cond_true,BA,bne_self_eq_false,cond_false];refine (congrArg (λo=>BC o _) (oo K _ (r.by_ _ (BI u)) y)).trans rfl
  ·intro rec;simp only[Q226.s0,aP];exact I
 simp only[Q226.f,Q226.pre,bne_self_eq_false,cond_false];refine (congrArg (λo=>BC o _) (kl K (aa.table n) r.table y)).trans ?_;simp only[rb,BA,BH,cond_false];refine (congrArg (λo=>BC o _) (tp K (aa.cast n) r.cast y)).trans ?_;simp only[rb,BA,BH,cond_false];rw[show Ty.eqv t2 n.2.2.2.2.2.2.2.2.2.2.1 n.2.2.2.2.2.2.2.2.2.2.1=decide (aa.probe n=aa.probe n) from fI _ _,show Ty.eqv t9 n.2.2.2.2.2.2.2.2.2.2.2.2.1 n.2.2.2.2.2.2.2.2.2.2.2.2.1=decide (aa.coord n=aa.coord n) from pC _ _,decide_eq_true rfl,decide_eq_true rfl];exact H
theorem vZ (K:Nat){t:List af}{f:af}(r:az t)(u:f∈t)(y:1048577<K):Q139.f K (t,f.1,())=some ((f,true,()),()):=by
 rcases iz K t f.1 (bT r) y with ⟨h,_⟩|⟨_,⟨g,z,e,h⟩|⟨h,_⟩⟩
 ·exact absurd r h
 ·rw[h,gR r.2 z u e]
 ·exact absurd rfl (h f u)
theorem ut (K:Nat)(w:aj)(u:(aj.table w).length<=1048576)(r:1048577<K):Q227.f K (w,w,())=rb true:=by
 simp only[Q227.f,beq_self_eq_true,cond_true];rw[show Ty.eqv t9 w.2.2.2.2.2.2.1 w.2.2.2.2.2.2.1=decide (w.2.2.2.2.2.2.1=w.2.2.2.2.2.2.1) from pC _ _,decide_eq_true rfl];simp only[cond_true];exact (congrArg (λo=>BC o _) (kl K (aj.table w) u r)).trans rfl
theorem tq (K:Nat)(xs:List aj)(H:xs.length<=1048576)(y:∀ w∈xs,(aj.table w).length<=1048576)(u:1048577<K):Q228.f K (xs,xs,())=rb true:=by
 have z:Q228.l0 K (xs,xs,()) 0=rb true:=by
  refine er (step:=λrec a=>Q228.s0 K (xs,xs,()) rec a) xs.length (λi=>(i:Int)) (rb true) ?_ ?_ (by omega)
  ·intro rec i r;simp only[Q228.s0];rw[bh (by omega:(i:Int)<(BD xs:Int)),ag r,ar i (by omega)];simp only[cond_true,BA];exact (congrArg (λo=>BC o _) (ut K _ (y _ (BI r)) u)).trans rfl
  ·intro rec;simp only[Q228.s0,aP];rfl
 simp only[Q228.f,Q228.pre,bne_self_eq_false,cond_false];exact z
theorem uu {n:aa}(r:NS 9 n)(y:eV n):az (aa.table n):=by
 cases z:n.2.1 with
 |true=>exact (UpN.of y z).x.table
 |false =>
  have u:=y.2.2.2.2.2;rw[if_neg (by rw[z];decide)]at u;have H:=u.2.2.2.2.2.1;have O:=r.table;have R:=r.cast;have I:=r.doubts;have M:=r.places;have J:=r.others;rw[aJ (n:=(BD (aa.table n):Int)+(BD (aa.cast n):Int)) (by omega) (by omega),aJ (n:=(BD (aa.table n):Int)+(BD (aa.cast n):Int)+(BD (aa.doubts n):Int)) (by omega) (by omega),
   aJ (n:=(BD (aa.table n):Int)+(BD (aa.cast n):Int)+(BD (aa.doubts n):Int)+(BD (aa.places n):Int)) (by omega) (by omega),aJ (by omega) (by omega)]at H
  rw[List.eq_nil_of_length_eq_zero (show (aa.table n).length=0 by omega)];exact⟨by simp,by simp[Asc]⟩
theorem yU {n:aa}(y:Asc (λg:af=>g.1) (aa.table n)){f:af}{b:Int}(h:∀ g∈aa.table n,g.1=f.1->bB f g)(M:∀ x∈aa.cast n,x.1.1=f.1->bB f x.1):((f,4):aF)∈aa.cast (sayOf n f b):=by
 have J:bO (aa.table n) f=(bq (λg=>g.1) f (aa.table n),true):=by
  rcases kW y f with e|⟨e,_⟩
  ·by_cases u:∃ g∈aa.table n,g.1=f.1
   ·obtain⟨g,r,z⟩:=u;obtain⟨i,I,rfl⟩:=BN r;rw[jb y I z,if_pos (h _ r z)]
   ·exact gw λg r e=>u ⟨g,r,e⟩
  ·exact e
 unfold Go.Proofs.YtadlacffdemoiaaGreatEv.sayOf;rw[J];show ((f,4):aF)∈cC (aa.cast n) f;unfold cC;rw[if_neg (λ⟨x,u,e,H⟩=>H (M x u e))];exact aV.2 (.inl rfl)
section
variable {K:Nat} {b:List Int} {m:Nat} {s:List Int×Int}
theorem yV {v:Int}(r:0<=v)(u:v<8):0<=wr .i64 (CQ v 4)/\wr .i64 (CQ v 4)<=1:=by
 have:ak v=v / 4:=jd ⟨r,by omega⟩;have e:wr .i64 (CQ v 4)=v / 4:=this;rw[e];omega
theorem yW (h:fF b)(hs:a8 b m s)(hm:m<=90000)(O:1048577<K):Tot (Q125.f K (s,())) λr=>(aj.table r.1.1).length<=5/\a8 b (m+100) r.2.1:=by
 simp only[Q125.f];refine Tot.bind (aA h hs 8 (by decide) (by omega)) λv1 ⟨⟨a1,b1⟩,s1⟩=>Tot.bind (aA h s1 6 (by decide) (by omega)) λv2 ⟨_,s2⟩=>Tot.bind (aA h s2 4 (by decide) (by omega)) λv3 ⟨_,s3⟩=>Tot.bind (aA h s3 9 (by decide) (by omega)) λv4 ⟨_,s4⟩=>Tot.bind (aA h s4 3 (by decide) (by omega)) λv5 ⟨⟨a5,b5⟩,R⟩=>Tot.ix2 a5 b5 λy _ _=>?_
 obtain⟨q0,q1⟩:=yV a1 b1;refine Tot.bind (aA h R 4 (by decide) (by omega)) λv8 ⟨_,X⟩=>Tot.bind (rq h X (by omega)) λc s9=>Tot.bind (nT h s9 (wr .i64 (CQ v1.1.1 4)) (by omega) q1 (by omega) O) λt ⟨⟨_,_,t3⟩,u⟩=>?_
 refine Tot.cnd (λ_=>?_) λ_=>Tot.ret ⟨t3,u.up (by omega)⟩
 refine Tot.bind (aA h u 2 (by decide) (by omega)) λH ⟨⟨a2,a0⟩,J⟩=>Tot.bind (nT h J H.1.1 (by omega) (by omega) (by omega) O) λt' ⟨⟨_,_,t4⟩,M⟩=>Tot.bind (aA h M 2 (by decide) (by omega)) λY ⟨_,z⟩=>Tot.cnd (λ_=>?_) λ_=>Tot.ret ⟨t4,z.up (by omega)⟩
 exact Tot.bind (aA h z 4 (by decide) (by omega)) λZ ⟨_,I⟩=>Tot.ret ⟨t4,I.up (by omega)⟩
theorem xK (h:fF b)(J:a8 b m s)(R:m<=89000)(H:1048577<K):Tot (Q126.f K (s,())) λr=>(aj.table r.1.1).length<=6/\a8 b (m+120) r.2.1:=by
 simp only[Q126.f,zcp4];refine Tot.bind (yW h J (by omega) H) λw ⟨O,I⟩=>Tot.bind (aA h I 16 (by decide) (by omega)) λM ⟨_,z⟩=>?_
 have u:(aj.table w.1.1).length<=6:=by omega
 refine Tot.cnd (λ_=>Tot.bind (aA h z 2 (by decide) (by omega)) λv ⟨⟨a,c⟩,y⟩=>Tot.ix2 a c λ_ _ _=>Tot.ret ⟨u,y.up (by omega)⟩) λ_=>?_
 refine Tot.cnd (λ_=>Tot.bind (aA h z 4 (by decide) (by omega)) λv ⟨_,y⟩=>Tot.ret ⟨u,y.up (by omega)⟩) λ_=>?_
 refine Tot.cnd (λ_=>Tot.bind (mj h z (by omega)) λv y=>Tot.ret ⟨u,y.up (by omega)⟩) λ_=>?_
 refine Tot.cnd (λ_=>Tot.bind (mY h z (by omega)) λv y=>Tot.fit (Tot.ret ⟨?_,y.up (by omega)⟩) (by omega) (by show (aj.table w.1.1).length+_<=_;simp;omega)) λ_=>?_
 ·show (aj.table w.1.1++[_]).length<=6;simp;omega
 refine Tot.cnd (λ_=>Tot.bind (aA h z 2 (by decide) (by omega)) λv ⟨⟨a,c⟩,y⟩=>Tot.ix2 a c λ_ _ _=>Tot.ret ⟨u,y.up (by omega)⟩) λ_=>?_
 refine Tot.cnd (λ_=>Tot.bind (aA h z 2 (by decide) (by omega)) λv ⟨⟨a,c⟩,y⟩=>Tot.ix2 a c λ_ _ _=>Tot.ret ⟨u,y.up (by omega)⟩) λ_=>Tot.ret ⟨u,z.up (by omega)⟩
theorem to_t (h:fF b)(hs:a8 b m s)(w:bR)(n:aa)(hr:fQ w.2.1)(hm:m<=80000)(hK:1048577<K):Tot (Q127.f K (s,w,n,())) λr=>(aj.table r.1.1).length<=1048576:=by
 refine Tot.iter (step:=λrec a=>Q127.s0 K (s,w,n,()) rec a) (λa=>∃ i:Nat,i<=3/\a.1=(i:Int)/\a8 b (m+i) a.2) (λa=>3-a.1.toNat) ?_ K _ (by show 3-BE 0<K;omega) ⟨0,by omega,rfl,hs⟩;rintro rec ⟨i',z⟩ ⟨i,hi,e,J⟩ ih;have e:i'=(i:Int):=e;subst e;have J:a8 b (m+i) z:=J;have u:Tot ((Q126.f K (z,())).bind λH=>(Q12.f K (H.2.1,10,())).bind λR=>bif decide (R.1.1>0) then some ((((H.1.1.1,H.1.1.2.1,H.1.1.2.2.1,n.1,H.1.1.2.2.2.2),()),R.2.1,()):(aj×Unit)×(List Int×Int)×Unit) else some ((H.1.1,()),R.2.1,())) λr=>(aj.table r.1.1).length<=1048576 :=
  Tot.bind (xK h J (by omega) hK) λv ⟨hv,I⟩=>Tot.bind (aA h I 10 (by decide) (by omega)) λ_ _=>Tot.cnd (λ_=>Tot.ret (show (aj.table v.1.1).length<=1048576 by omega)) λ_=>Tot.ret (show (aj.table v.1.1).length<=1048576 by omega)
 simp only[Q127.s0];refine Tot.cnd (λh3=>Tot.cnd (λZ=>?_) λ_=>u) λ_=>u
 have h3:(i:Int)<3:=of_decide_eq_true h3;have Z:(w.2.1.length:Int)>0:=of_decide_eq_true Z;rw[ar i (by omega)];refine Tot.bind (aA h J (w.2.1.length:Int) (by omega) (by omega)) λv1 ⟨⟨a1,b1⟩,I⟩=>Tot.ix a1 b1 λy hy _=>?_
 have a0:=(hr.2 y hy).2;have next:∀ Y,a8 b (m+(i+1)) Y->Tot (rec (((i+1:Nat):Int),Y)) λr=>(aj.table r.1.1).length<=1048576:=λY O=>ih _ ⟨i+1,by omega,rfl,O⟩ (by show 3-BE ((i+1:Nat):Int)<3-BE (i:Int);omega)
 refine Tot.bind (mf K y.2.1 (by omega) hK) λv3 M=>Tot.cnd (λX=>?_) λ_=>next _ I
 have hW:=M X;rw[dk K,dk K];simp only[BA];exact Tot.cnd (λ_=>Tot.cnd (λ_=>Tot.ret (show (aj.table v3.1.1).length<=1048576 from bT hW.2.2.2.2.2.2.2.1)) λ_=>next _ I) λ_=>next _ I
end
theorem wa (K:Nat)(u:List Int)(R:xJ u)(H:1048577<K):Tot (Q128.f K (u,())) λr=>NS 9 r.1.1/\(aj.table r.1.2.1).length<=1048576:=by
 obtain⟨Z,z,e⟩:=Bl (K:=K) u R.byte R.len;simp only[Q128.f];refine Tot.vl e (Tot.bind (Aq z (a8.zero Z) (by omega) H) λw ⟨I,s1⟩=>Tot.bind (aA z s1 _ (by have:=I.len;show (1:Int)<=(w.1.1.1.length:Int);omega) (by omega)) λv3 ⟨⟨Y,b3⟩,s3⟩=>Tot.ix Y b3 λy hy _=>?_);obtain⟨i,hi,rfl⟩:=BN hy;have O:=(I.node i hi).ns;refine Tot.bind (aA z s3 24 (by decide) (by omega)) λv5 ⟨_,M⟩=>Tot.cnd (λ_=>?_) λ_=>?_
 ·exact Tot.bind (xI z M _ O (BT _) (by omega) (by omega) H) λv6 ⟨J,s6⟩=>Tot.bind (to_t z s6 w.1.1 v6.1.1 I.radio (by omega) H) λv7 h7=>Tot.ret ⟨J,h7⟩
 ·refine Tot.bind (to_t z M w.1.1 _ I.radio (by omega) H) λv8 X=>Tot.ret ⟨?_,X⟩
  obtain⟨h1,h2,h3,h4,h5,h6⟩:=O;exact⟨h1,BB h2,BB h3,BB h4,BB h5,BB h6⟩
theorem yX (K:Nat)(n:aa)(w:aj)(I:NB n)(O:(aj.table w).length<=1048576)(z:w.2.1≠2)(u:1048577<K):∃ (y:aa) (r:List aj) (b:Bool),NB y/\r.length<=1/\(∀ x∈r,(aj.table x).length<=1048576)/\Q222.f K (n,w,())=some ((y,r,()),())/\Q213.f K (n,w,())=some ((y,r,()),()) /\
  Q226.f K (y,y,())=rb true/\Q228.f K (r,r,())=rb true/\Q229.f K (n,w,())=rb b/\Q169.f K (n,w,())=rb b/\(b=true->eV n/\dz w/\fJ n w/\y=(bC K n w).1/\r=(bC K n w).2):=by
 obtain⟨y,r,H,hl,X,e1,Z,h3,_,_⟩:=uq K n w I O z u;obtain⟨b,t1,t2,t3⟩:=pX K n w I O u;exact⟨y,r,b,H,hl,X,e1,Z,ur K y H u,tq K r (by omega) X u,t1,t2,λY=>by
  obtain⟨R,M,J⟩:=t3.1 Y;exact⟨R,M,J,h3 ⟨R,M,J⟩⟩⟩
theorem yY {α:Type}(p:α->Bool){l:List α}{i:Nat}(r:i<l.length):(l.take (i+1)).any p=((l.take i).any p||p l[i]):=by
 rw[CK,B6 r,List.any_append,Option.toList_some,List.any_cons,List.any_nil,CR]
end Go.Proofs.YtadlacffdemoiaaGreatEv
