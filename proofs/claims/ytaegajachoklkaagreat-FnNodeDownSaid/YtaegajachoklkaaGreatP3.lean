/- A tick, by the specification: what it comes to, and what is sent. -/
import Derived.Test.YtaegajachoklkaaGreatP2
set_option linter.unusedVariables false
set_option linter.unusedSimpArgs false
open Bool renaming not_true->BQ,eq_iff_iff->Bi
open Int renaming toNat->AV,toNat_natCast->AW,eq_ofNat_of_zero_le->BD,toNat_zero->BK,tmod->BM,fdiv->BR,toNat_of_nonneg->BZ,tmod_lt_of_pos->Ba,tmod_nonneg->Bh,tdiv->Bk
open List renaming length_append->AX,length->AY,mem_singleton->AZ,length_set->BA,mem_append->BC,nil_append->BE,mem_of_mem_take->BF,mem_map->BH,length_take->BI,mem_filter->BJ,drop_zero->BL,length_nil->BO,getElem_of_mem->BP,take_length->BS,length_drop->BT,length_map->BU,append_nil->BV,length_filter_le->BW,flatMap_cons->Bb,append_assoc->Bc,filter_cons->Bd,getElem_mem->Be,length_cons->Bf,not_mem_nil->Bg,take_zero->Bj,mem_cons->Bl
open Nat renaming le_succ_of_le->AT,le_trans->BB,zero_le->BN,le_succ->BX,le_refl->BY
open Option renaming bind_some->AU,bind->BG
namespace Go.Proofs.YtaegajachoklkaaGreatEv
open Go
theorem tV {n:aa}(h:∀ k,k<8->¬ gM n k):iw n=none:=by
 unfold iw;rw[List.find?_eq_none];intro x r;obtain⟨k,u,rfl⟩:=BH.1 r;have:=h k (by simpa using u);unfold gM at this;simpa using this
theorem tW {n:aa}{k:Nat}(u:k<8)(r:gM n k)(h:∀ j,j<k->¬ gM n j):iw n=some (co n k):=by
 unfold iw;rw[List.find?_map,List.find?_range_eq_some.2 ⟨?_,by simpa using u,λj y=>?_⟩]
 ·rfl
 ·unfold gM at r;simpa using r
 ·have:=h j y;unfold gM at this;simpa[Classical.or_iff_not_imp_left]using this
theorem uw (K:Nat)(n:aa)(h:cH n)(R:sM n)(J:1048577<K):Q92.f K (n,())=some (((dC n).1,(dC n).2,()),()):=by
 obtain⟨⟨Y,Z⟩,⟨t0,t1⟩⟩:=R;obtain⟨to,M,y⟩:=zq K n h t0 t1 J;simp only[Q92.f,zcp4];rw[M];simp only[AU,dC];by_cases r:jp n>=999999
 ·rw[decide_eq_true r,show decide (n.2.2.2.2.2.2.1>=999999)=true from decide_eq_true r];cases decide (to<0) <;> rfl
 ·rw[decide_eq_false r,show decide (n.2.2.2.2.2.2.1>=999999)=false from decide_eq_false r];simp only[cond_false];rcases y with ⟨rfl,I⟩|⟨k,X,z,u,rfl⟩
  ·rw[tV I];rfl
  ·rw[tW X z u];have O:0<=co n k/\co n k<8:=⟨Bh _ (by omega),Ba _ (by omega)⟩;rw[decide_eq_false (by omega:¬ co n k<0)];simp only[cond_false];rw[uq K n _ h J];simp only[AU];have H:wr .i64 (jp n+1)=jp n+1:=aJ (by omega) (by omega);rw[show wr .i64 ((j0 n).2.2.2.2.2.2.1+1)=n.2.2.2.2.2.2.1+1 from H,aJ (n:=co n k+1) (by omega) (by omega)];simp only[Q41.f];rw[szb _ _ _ (by omega) (by have:=cE (ny h (co n k));simp;omega)];rfl
def gN (w:ap):Prop:=InP w.2.2.2.1 0 7/\(ap.table w).length<=1048576
theorem sX {n:aa}(H:aA (aa.table n)):(cZ n).2.length<=2/\∀ w∈(cZ n).2,gN w:=by
 have r:([]:List ap).length<=2/\∀ w∈([]:List ap),gN w:=⟨by simp,by simp⟩;unfold cZ;cases (aa.probe n).1==-1 with
 |true=>exact r
 |false =>
  cases !ee (aT (aa.table n) (aa.probe n).1) with
  |true=>exact r
  |false =>
   cases decide (n.2.2.2.2.2.1-(aa.probe n).2.1>=4) with
   |true=>exact r
   |false =>
    cases decide (n.2.2.2.2.2.1-(aa.probe n).2.1>=2) with
    |false=>exact r
    |true =>
     cases !(aa.probe n).2.2.2 with
     |false=>exact r
     |true =>
      simp only[cond_true,cond_false];refine⟨by rw[BU];exact List.length_take_le _ _,λw z=>?_⟩;obtain⟨to,u,rfl⟩:=BH.1 z;obtain⟨f,y,rfl⟩:=BH.1 (BF u);exact⟨(H.1 f (BJ.1 y).1).1,BN _⟩
theorem yQ {n:aa}(h:cH n):(dC n).2.length<=1/\∀ w∈(dC n).2,gN w:=by
 have r:([]:List ap).length<=1/\∀ w∈([]:List ap),gN w:=⟨by simp,by simp⟩;unfold dC;cases decide (jp n>=999999) with
 |true=>exact r
 |false =>
  simp only[cond_false];cases u:iw n with
  |none=>exact r
  |some to =>
   refine⟨by simp,λw y=>?_⟩;rw[AZ.1 y];obtain⟨H,z,I⟩:=eH h.table (gI (qM u).2);exact⟨z ▸ H.1,cE (ny h to)⟩
theorem Aw {n:aa}(I:cN n.1 (aa.others n)){s d:Int}(H:InP s 0 1):InP (lS n s d) 0 7:=by
 unfold lS;cases y:decide (fp (eP (aa.others n) s)≠[])&&bt .i64 d 4==0 with
 |true =>
  rw[Bool.and_eq_true,decide_eq_true_eq]at y;have:=(gZ (d:=BR d (2 ^ 3)) y.1).2.2;unfold fp at this;obtain⟨f,z,e⟩:=BH.1 (BF this);simp only[cond_true];show InP (gy (fp (eP (aa.others n) s)) (BR d (2 ^ 3))) 0 7;unfold fp;rw[<- e];exact ((sS I s).1 f (BJ.1 z).1).1
 |false =>
  obtain⟨r,u⟩:=lp (a:=BR d (2 ^ 3)) (m:=3) (by omega);have r:0<=bt .i64 (BR d (2 ^ 3)) 3:=r;have u:bt .i64 (BR d (2 ^ 3)) 3<=3:=u;obtain⟨M,J⟩:=H;simp only[cond_false];exact⟨by omega,by omega⟩
theorem ux {n:aa}(I:aA (aa.table n))(J:cN n.1 (aa.others n))(r:Int):(jL n r).length<=2/\∀ w∈jL n r,gN w:=by
 have u:([]:List ap).length<=2/\∀ w∈([]:List ap),gN w:=⟨by simp,by simp⟩;unfold jL;cases bt .i64 r 3==1 with
 |true =>
  simp only[cond_true,lT];cases lq n with
  |false=>exact u
  |true =>
   refine⟨?_,λw z=>?_⟩
   ·show ((([0,1]:List Int).filter (λs=>s != ao n.1)).map _).length<=2;rw[BU];exact BW _ _
   ·obtain⟨s,O,rfl⟩:=BH.1 z;refine⟨Aw J ?_,cE I⟩;have:=(BJ.1 O).1;simp at this;rcases this with rfl|rfl <;> exact⟨by decide,by decide⟩
 |false =>
  simp only[cond_false];by_cases y:e9 n=[]
  ·rw[decide_eq_true y,Bool.or_true];exact u
  ·rw[decide_eq_false y,Bool.or_false];obtain⟨f,M,e⟩:=BH.1 (gZ (d:=BR r (2 ^ 2)) y).2.2;have H:InP (gy (e9 n) (BR r (2 ^ 2))) 0 7:=by
    rw[<- e];exact (I.1 f (BJ.1 M).1).1
   cases bt .i64 r 3==3 with
   |true=>exact u
   |false =>
    simp only[cond_false];cases bt .i64 r 3==0 with
    |true=>exact⟨by simp,λw z=>by rw[AZ.1 z];exact⟨H,cE I⟩⟩
    |false =>
     simp only[cond_false,sL]
     match R:aa.others n with
     |[]=>exact u
     |x::_=>exact⟨by simp,λw z=>by rw[AZ.1 z];exact⟨H,cE (J.1 x (by rw[R];simp)).2.2.2.1⟩⟩
theorem UpX.far {n:aa}(h:UpX n):rP n:=⟨by rcases j8 h.me h.others with e|⟨x,e⟩ <;> rw[e] <;> simp,λx r=>⟨(h.others.1 x r).2.2.2.1,cE (h.others.1 x r).2.2.2.1⟩⟩
theorem qQ {n:aa}(h:UpX n)(I:b6 n<=1000000):((aa.probe n).1=-1\/0<=(aa.probe n).1)/\0<=(aa.probe n).2.1/\(aa.probe n).2.1<=1000000:=by
 have r:=h.probe;have y:b6 n=n.2.2.2.2.2.1:=rfl;unfold cM at r;split at r
 ·rename_i J;rw[r];exact⟨.inl rfl,by show (0:Int)<=0;omega,by show (0:Int)<=1000000;omega⟩
 ·obtain⟨_,⟨f,u,e⟩,⟨z,H⟩,_⟩:=r;have:=(h.table.1 f u).1.1;exact⟨.inr (e ▸ this),z,by omega⟩
theorem Ax {n:aa}(h:UpN n)(z:b6 n<999999)(r:Int):(po n r).length<=5/\∀ w∈po n r,gN w:=by
 have R:=(mF h.x.later (show cR (dM n) from h.self)).1.table;obtain⟨H,I⟩:=sX R;obtain⟨O,_,_⟩:=pq h z;have y:=(qd h z).1;obtain⟨X,M⟩:=ux y.x.table y.x.others r;have J:(fb (fe n).1).2.length<=1/\∀ w∈(fb (fe n).1).2,gN w:=by
  unfold fb;cases (aa.probe (fe n).1).1==-1 with
  |true=>exact yQ O.x.say
  |false=>exact⟨by simp,by simp⟩
 unfold po;have H:(fe n).2.length<=2:=H;refine⟨by rw[AX,AX];omega,λw u=>?_⟩;rcases BC.1 u with u|u
 ·rcases BC.1 u with u|u
  ·exact I w u
  ·exact J.2 w u
 ·exact M w u
theorem Ay (K:Nat)(n:aa)(H:Int)(h:UpN n)(hg:n.2.2.1=false)(hm:b6 n<999999)(X:1048577<K):Q99.f K (n,H,())=some ((kv n,po n H,()),()):=by
 have a3:=h.x.now0;simp only[Q99.f,zcp4];refine (congrArg (λb=>bif !b then _ else _) h.up).trans ?_;refine (congrArg (λb=>bif b then _ else _) hg).trans ?_;refine (congrArg (λb=>bif b then _ else _) (decide_eq_false (show ¬ n.2.2.2.2.2.1>=999999 by have:b6 n=n.2.2.2.2.2.1:=rfl;omega))).trans ?_;simp only[cond_false];rw[show wr .i64 (n.2.2.2.2.2.1+1)=n.2.2.2.2.2.1+1 from aJ (by have:b6 n=n.2.2.2.2.2.1:=rfl;omega) (by have:b6 n=n.2.2.2.2.2.1:=rfl;omega)];have hl:UpX (dM n):=h.x.later;have a2:∀ d∈aa.doubts (dM n),0<=d.2.2.1/\d.2.2.1<=(dM n).2.2.2.2.2.1/\d.2.2.2.length<=1048576:=λd hd=>by
  obtain⟨_,⟨s0,s1⟩,_,h4⟩:=hl.doubts.1 d hd;exact⟨s0,s1,BB (it (k:=λx=>x) h4.2 λx hx=>(h4.1 x hx).1) (by decide)⟩
 have Y:∀ d∈aa.doubts (dM n),∃ f∈aa.table (dM n),f.1=d.1:=λd hd=>by
  obtain⟨⟨f,hf,e,_⟩,_⟩:=hl.doubts.1 d hd;exact⟨f,hf,e⟩
 have Z:(dM n).2.2.2.2.2.1<=1000000:=by show b6 n+1<=1000000;omega
 refine (congrArg (λo=>BG o _) (Ag K (dM n) ⟨hl.say,Y,rfl⟩ a2 Z X)).trans ?_;simp only[AU];obtain⟨b1,b2,t,c,ds,eb⟩:=mF hl (show cR (dM n) from h.self);have z:sM (fe n).1:=(pq h hm).1.seq;have a0:b6 (jX (dM n))=b6 n+1:=by rw[eb];rfl
 have hp:=qQ b1 (by omega);obtain⟨a1,_⟩:=sX b1.table;have R:=(qd h hm).1;have r:=Ao K (kv n) H R.x.far R.x.table (cE R.x.table) X;have u:=(pq h hm).1;obtain⟨O,_⟩:=yQ u.x.say;obtain⟨y,_⟩:=ux R.x.table R.x.others H;unfold kv fb fe at r R y;unfold fe at z u O;unfold po kv fb fe;generalize jX (dM n)=m at *;rcases hp.1 with M|M
 ·have e0:cZ m=(m,[]):=by unfold cZ;rw[show ((aa.probe m).1==-1)=true by simpa using M];rfl
  rw[e0]at r z u O y ⊢;refine (congrArg (λb=>bif b then _ else _) (decide_eq_false (show ¬ m.2.2.2.2.2.2.2.2.2.2.1.1>=0 by have:(aa.probe m).1=m.2.2.2.2.2.2.2.2.2.2.1.1:=rfl;omega))).trans ?_;refine (congrArg (λb=>bif b then _ else _) (decide_eq_true (show m.2.2.2.2.2.2.2.2.2.2.1.1<0 by have:(aa.probe m).1=m.2.2.2.2.2.2.2.2.2.2.1.1:=rfl;omega))).trans ?_;refine (congrArg (λo=>BG o _) (uw K m u.x.say z X)).trans ?_;simp only[AU];rw[show ((aa.probe m).1==-1)=true by simpa using M]at r y ⊢;simp only[cond_true]at r y O ⊢;rw[szw _ _ _ (by omega) (by simp;omega)];simp only[cond_true];refine (congrArg (λo=>BG o _) r).trans ?_;simp only[AU];rw[szw _ _ _ (by omega) (by simp;omega)];rfl
 ·refine (congrArg (λb=>bif b then _ else _) (decide_eq_true (show m.2.2.2.2.2.2.2.2.2.2.1.1>=0 from M))).trans ?_;refine (congrArg (λo=>BG o _) (Ah K m b1.say (by omega) hp.2.1 hp.2.2 b1.now0 (by have:b6 m=m.2.2.2.2.2.1:=rfl;omega) X)).trans ?_;simp only[AU];generalize cZ m=fo at *;obtain⟨I,ws⟩:=fo;simp only at r z u O y a1 ⊢;have J:=(qQ u.x (by have:=u.now1;omega)).1;rcases J with J|J
  ·refine (congrArg (λb=>bif b then _ else _) (decide_eq_true (show I.2.2.2.2.2.2.2.2.2.2.1.1<0 by have:(aa.probe I).1=I.2.2.2.2.2.2.2.2.2.2.1.1:=rfl;omega))).trans ?_;refine (congrArg (λo=>BG o _) (uw K I u.x.say z X)).trans ?_;simp only[AU];rw[show ((aa.probe I).1==-1)=true by simpa using J]at r y ⊢;simp only[cond_true]at r y ⊢;rw[szw _ _ _ (by omega) (by omega)];simp only[cond_true];refine (congrArg (λo=>BG o _) r).trans ?_;simp only[AU];rw[szw _ _ _ (by omega) (by rw[AX];omega)];rfl
  ·refine (congrArg (λb=>bif b then _ else _) (decide_eq_false (show ¬ I.2.2.2.2.2.2.2.2.2.2.1.1<0 by have:(aa.probe I).1=I.2.2.2.2.2.2.2.2.2.2.1.1:=rfl;omega))).trans ?_;rw[show ((aa.probe I).1==-1)=false by simp;omega]at r y ⊢;simp only[cond_false]at r y ⊢;refine (congrArg (λo=>BG o _) r).trans ?_;simp only[AU,BV];rw[szw _ _ _ (by omega) (by omega)];rfl
def dy (l:List cj)(s:Int):List af:=(l.filter λx=>x.1==s).flatMap (·.2)
def dz (n:aa)(s:Int):List af:=(bif s==ao n.1 then aa.table n else [])++dy (aa.others n) s
theorem pE (l:List cj)(s:Int):(dy l s).length<=(l.flatMap (·.2)).length:=by
 unfold dy;induction l with
 |nil=>simp
 |cons x l r =>
  rw[Bd];split
  ·simp only[Bb,AX];omega
  ·simp only[Bb,AX];omega
theorem uy (K:Nat)(n:aa)(R:NB n)(hs:((aa.others n).flatMap (·.2)).length<=12)(s:Int)(u:Q186.A0->Option Q186.Res):∀ (d i k:Nat) (r:List af),i+d=(aa.others n).length->d<k->r.length<=1048576 ->
  ae (λrec a=>Q186.s1 K (n,()) u rec a) k (r++dy ((aa.others n).take i) s,s,(i:Int))=u (r++dy (aa.others n) s,wr .i64 (s+1)):=by
 have hl:=R.others;intro d;induction d with
 |zero =>
  intro i k r X Y J;obtain⟨k,rfl⟩:∃ I,k=I+1:=⟨k-1,by omega⟩;have:i=(aa.others n).length:=by omega
  subst this;show Q186.s1 K (n,()) _ _ _=_;simp only[Q186.s1,bf,cond_false,BS]
 |succ d M =>
  intro i k r X Y J;obtain⟨k,rfl⟩:∃ I,k=I+1:=⟨k-1,by omega⟩;have y:i<(aa.others n).length:=by omega
  show Q186.s1 K (n,()) _ _ _=_;simp only[Q186.s1];rw[bO (by omega:(i:Int)<(AY (aa.others n):Int)),ai y,au i (by omega)];simp only[cond_true,AU];have e:dy ((aa.others n).take (i+1)) s=dy ((aa.others n).take i) s++(bif (aa.others n)[i].1==s then (aa.others n)[i].2 else []):=by
   unfold dy;rw[List.take_succ_eq_append_getElem y,List.filter_append,List.flatMap_append];congr 1;rw[Bd];cases (aa.others n)[i].1==s <;> simp
  cases z:(aa.others n)[i].1==s with
  |true =>
   simp only[cond_true];have O:=pE ((aa.others n).take (i+1)) s;have Z:=sJ (aa.others n) (·.2) (i+1);rw[e,z]at O;simp only[cond_true,AX]at O;rw[pb (by simp only[AX];omega),Bc];have H:dy ((aa.others n).take (i+1)) s=dy ((aa.others n).take i) s++(aa.others n)[i].2:=by rw[e,z];rfl
   rw[<- H];exact M (i+1) k r (by omega) (by omega) J
  |false =>
   simp only[cond_false];have H:dy ((aa.others n).take (i+1)) s=dy ((aa.others n).take i) s:=by rw[e,z];simp
   rw[<- H];exact M (i+1) k r (by omega) (by omega) J
theorem Az (K:Nat)(n:aa)(y:NB n)(M:dB n)(hu:n.2.1=true)(O:1048577<K):Q186.f K (n,())=some ((dz n 0++dz n 1,()),()):=by
 obtain⟨b,Y,_,R⟩:=iY K n y O;have Z:=R.2 M;subst Z;simp only[Q186.f,Q186.pre];rw[Y];simp only[AU,BQ,cond_false,hu];have J:=(mE y M).1;unfold dj at J;rw[AX]at J;have hl:=y.others;have u:∀ (rec:Q186.A0->Option Q186.Res) (r:List af) (s:Int),r.length<=1000->s<=1->Q186.s0 K (n,()) (Q186.l1 K (n,()) rec) rec (r,s)=rec (r++dz n s,wr .i64 (s+1)):=by
  intro rec r s ha z;simp only[Q186.s0];rw[decide_eq_true z,cL K n.1];simp only[cond_true,AU];unfold dz;cases hc:s==ao n.1 with
  |true =>
   simp only[cond_true];rw[pb (by show (r.length+(aa.table n).length)*32<=_;omega)];have:=uy K n y (by omega) s rec (aa.others n).length 0 K (r++aa.table n) (by omega) (by omega) (by simp;omega);rw[Bj,show dy [] s=[] from rfl,BV,Bc]at this;exact this
  |false =>
   simp only[cond_false,BE];have:=uy K n y (by omega) s rec (aa.others n).length 0 K r (by omega) (by omega) (by omega);rw[Bj,show dy [] s=[] from rfl,BV]at this;exact this
 have I:(dz n 0).length<=12:=by
  have:=pE (aa.others n) 0;unfold dz;rw[AX];cases (0:Int)==ao n.1 <;> simp only[cond_true,cond_false,BO] <;> omega
 obtain⟨k,rfl⟩:∃ X,K=X+3:=⟨K-3,by omega⟩;show ae (λrec a=>Q186.s0 (k+3) (n,()) (Q186.l1 (k+3) (n,()) rec) rec a) (k+3) ([],0)=_;have H:∀ j (a:Q186.A0),ae (λrec a=>Q186.s0 (k+3) (n,()) (Q186.l1 (k+3) (n,()) rec) rec a) (j+1) a=Q186.s0 (k+3) (n,()) (Q186.l1 (k+3) (n,()) (ae (λrec a=>Q186.s0 (k+3) (n,()) (Q186.l1 (k+3) (n,()) rec) rec a) j)) (ae (λrec a=>Q186.s0 (k+3) (n,()) (Q186.l1 (k+3) (n,()) rec) rec a) j) a:=λ_ _=>rfl
 rw[H (k+2),u _ _ _ (by simp) (by omega),aJ (by omega) (by omega),H (k+1),u _ _ _ (by simp;omega) (by omega),aJ (by omega) (by omega),H k];simp only[Q186.s0];rfl
theorem oJ {t:List af}(h:Asc (λf:af=>f.1) t):t.Pairwise λa b=>ltF a b=true :=
 h.imp λ {a b} h=>by rw[nA,ku];exact .inl h
theorem tX {n:aa}(hn:NB n)(hP:dB n)(O:n.2.1=true):di ltF [] (dj n)=dz n 0++dz n 1:=by
 have hm:=hP.1;obtain⟨X,M,_,_,_,_,_,_,hO⟩:=hP.up O;have H:(di ltF [] (dj n)).Perm (dj n):=by simpa using iu ltF (dj n) []
 have y:iO ltF (di ltF [] (dj n)):=mD ltF wG wH _ _ List.Pairwise.nil;have z:ao n.1=0\/ao n.1=1:=by
  rw[fw hm];obtain⟨m1,m2⟩:=hm;omega
 have r:∀ (t u:List af) (s:Int),aA t->bS t s->aA u->bS u (s+1)->(t++u).Pairwise λa b=>ltF a b=true:=by
  intro t u s ht Z O Y;rw[List.pairwise_append];refine⟨oJ ht.2,oJ O.2,λa ha b hb=>?_⟩;rw[nA,ku];have h1:=Z a ha;have h2:=Y b hb;rw[fw (ht.1 a ha).1]at h1;rw[fw (O.1 b hb).1]at h2;exact .inl (by omega)
 rcases j8 hm hO with h|⟨x,h⟩
 ·rw[show dz n 0++dz n 1=aa.table n by
   unfold dz dy;rw[h];rcases z with e|e <;> rw[e] <;> simp]
  refine iZ ltF ?_ y (oJ X.2);unfold dj at H ⊢;rw[h]at H ⊢;simpa using H
 ·obtain⟨⟨x1,x2⟩,x3,_,x4,J⟩:=hO.1 x (by rw[h];simp);rcases z with e|e
  ·have I:x.1=1:=by omega
   have e2:dz n 0++dz n 1=aa.table n++x.2:=by
    unfold dz dy;rw[h,e];simp[I]
   rw[e2];refine iZ ltF ?_ y (r _ _ 0 X (by rw[e]at M;exact M) x4 (by rw[I]at J;exact J));unfold dj at H ⊢;rw[h]at H ⊢;simpa using H
  ·have I:x.1=0:=by omega
   have e2:dz n 0++dz n 1=x.2++aa.table n:=by
    unfold dz dy;rw[h,e];simp[I]
   rw[e2];refine iZ ltF ?_ y (r _ _ 0 x4 (by rw[I]at J;exact J) X (by rw[e]at M;exact M));unfold dj at H ⊢;rw[h]at H ⊢;have:(aa.table n++x.2).Perm (x.2++aa.table n):=List.perm_append_comm;have R:(di ltF [] (aa.table n++[x].flatMap (·.2))).Perm (aa.table n++x.2):=by simpa using H
   exact R.trans this
def f9 (n:aa):List af:=di ltF [] (dj n)
theorem vr {n:aa}(y:NB n)(u:dB n):(f9 n).length<=8:=by
 have r:(f9 n).Perm (dj n):=by unfold f9;simpa using iu ltF (dj n) []
 rw[r.length_eq];exact (mE y u).1
theorem yj (K:Nat)(n:aa)(r:NB n)(y:dB n)(u:1048577<K):Q175.f K (n,())=some ((f9 n,()),()) :=
 Al K n r (by have:=(mE r y).1;omega) u
theorem yk (K:Nat)(n:aa)(r:NB n)(y:dB n)(u:n.2.1=true)(z:1048577<K):Q186.f K (n,())=some ((f9 n,()),()):=by
 rw[Az K n r y u z,<- tX r y u];rfl
theorem sY (K:Nat)(l:List af)(f:af)(M:l.length<=1048576)(J:1048577<K):Ret (Q79.f K (l,f,())) (f∈l):=by
 have:=cG (step:=λrec a=>Q79.s0 K (l,f,()) rec a) l.length (λi=>(i:Int)) (λj=>∃ h:j<l.length,l[j]=f) (rb false) (λ_=>rb true) ?_ ?_ l.length K 0 (by omega) (by omega)
 ·rcases this with ⟨z,r⟩|⟨j,_,_,⟨y,H⟩,_,r⟩
  ·refine⟨false,r,?_⟩;refine⟨λh=>absurd h (by decide),λI=>?_⟩;obtain⟨i,u,e⟩:=BP I;exact absurd ⟨u,e⟩ (z i (BN _) u)
  ·exact⟨true,r,λ_=>H ▸ Be y,λ_=>rfl⟩
 ·intro rec i u;simp only[Q79.s0];rw[bO (by omega:(i:Int)<(AY l:Int)),ai u,au i (by omega)];simp only[cond_true,AU];rw[lj];by_cases h:l[i]=f
  ·rw[decide_eq_true h];exact .inr ⟨⟨u,h⟩,rfl⟩
  ·rw[decide_eq_false h];exact .inl ⟨λ⟨_,r⟩=>h r,rfl⟩
 ·intro rec;simp only[Q79.s0,bf];rfl
theorem UpN.nb {n:aa}(h:UpN n):NB n where
 table:=cE h.x.table
 cast:=by have:=clen h.x.say;omega
 doubts:=h.x.say.ld
 by_:=λd u=>by have:=(h.learns.by_ d u).len;omega
 places:=plen h.x.places
 trips:=λp y=>by have:=(h.x.places.1 p y).2.2.2.2.1.2;omega
 others:=olen h.x.others
 facts:=λx r=>cE (h.x.others.1 x r).2.2.2.1
def i9 (r:Int)(g:Bool):aa:=(r,false,false,g,0,0,0,0,[],[],(0,0,0,false),[],(0,0,0,0),[],[])
structure dS (i:Nat) (n:aa):Prop where
 me:n.1=(i:Int)
 lt:i<8
 up:n.2.1=true->UpN n
 down:n.2.1=false->n=i9 n.1 n.2.2.2.1
theorem dS.nb {i:Nat}{n:aa}(h:dS i n):NB n:=by
 cases r:n.2.1 with
 |true=>exact (h.up r).nb
 |false =>
  rw[h.down r];exact⟨by simp[i9,aa.table],by simp[i9,aa.cast],by simp[i9,aa.doubts],by simp[i9,aa.doubts],by simp[i9,aa.places],by simp[i9,aa.places],by simp[i9,aa.others],by simp[i9,aa.others]⟩
theorem dS.short {i:Nat}{n:aa}(h:dS i n):(aa.table n).length<=4:=by
 cases r:n.2.1 with
 |true=>exact kM (h.up r).x.table (h.up r).x.site
 |false=>rw[h.down r];exact BN _
theorem dS.of {i:Nat}{n m:aa}(h:dS i n)(r:UpN m)(e:m.1=n.1):dS i m:=⟨e.trans h.me,h.lt,λ_=>r,λu=>by rw[r.up]at u;cases u⟩
def fG (l:List ln):Prop:=l.length<=60/\∀ f∈l,InP f.1 0 7/\f.2.1.size<=2000
structure WI (w:bN) (c:Nat):Prop where
 len:w.1.length=8
 node:∀ (i:Nat) (h:i<w.1.length),dS i w.1[i]
 radio:fG w.2.1
 sides:w.2.2.1.length=8
 born:w.2.2.2.length<=c
theorem WI.mono {w:bN}{c d:Nat}(h:WI w c)(r:c<=d):WI w d:=⟨h.len,h.node,h.radio,h.sides,BB h.born r⟩
theorem WI.put {w:bN}{c:Nat}(h:WI w c){i:Nat}{n:aa}(r:dS i n){rd:List ln}(u:fG rd){b:List af}{d:Nat}(y:b.length<=d):WI (w.1.set i n,rd,w.2.2.1,b) d:=by
 refine⟨by rw[BA];exact h.len,λj z=>?_,u,h.sides,y⟩;show dS j ((w.1.set i n)[j]'z);rw[List.getElem_set];split
 ·rename_i e;exact e ▸ r
 ·exact h.node j _
theorem wY (K:Nat)(w:bN)(M:Int)(u:List ap)(hs:w.2.2.1.length=8)(z:InP M 0 7)(X:∀ x∈u,gN x)(hr:fG w.2.1)(hl:u.length<=1000)(hK:1048577<K) :
  Tot (Q76.f K (w,M,u,())) λr=>∃ rd,fG rd/\r.1.1=(w.1,rd,w.2.2):=by
 simp only[Q76.f,Q76.pre];obtain⟨f0,f1⟩:=z;refine Tot.iter (step:=λrec a=>Q76.s0 K (w,M,u,()) rec a) (λa=>0<=a.1/\a.1<=u.length/\fG a.2) (λa=>u.length-a.1.toNat) ?_ K _ (by show u.length-AV 0<K;omega) ⟨by show (0:Int)<=0;omega,by show (0:Int)<=_;omega,hr⟩;rintro rec ⟨i,rd⟩ ⟨I,h1,H⟩ ih;simp only at I h1 H ih ⊢;simp only[Q76.s0];refine Tot.cnd (λh=>?_) λ_=>Tot.ret ⟨rd,H,rfl⟩
 have h:=of_decide_eq_true h;rw[aJ (n:=i+1) (by omega) (by omega)];have R:∀ y,fG y->Tot (rec (i+1,y)) λr=>∃ rd,fG rd/\r.1.1=(w.1,rd,w.2.2):=λy Z=>ih _ ⟨by show 0<=i+1;omega,by show i+1<=_;omega,Z⟩ (by show u.length-AV (i+1)<u.length-AV i;omega)
 refine Tot.cnd (λh3=>?_) λ_=>R rd H
 have h3:=of_decide_eq_true h3;refine Tot.ix f0 (by omega) λ_ _ _=>Tot.ix I h λy2 J _=>?_
 obtain⟨⟨t0,t1⟩,_⟩:=X y2 J;refine Tot.ix t0 (by omega) λ_ _ _=>Tot.cnd (λ_=>Tot.fit (Tot.ix I h λy4 O _=>Tot.ix I h λy5 Y _=>Tot.bind (nR K y5 (X y5 Y).2 hK) λv hv=>Tot.fit (R _ ⟨?_,λf z=>?_⟩) (by omega) ?_) (by omega) ?_) λ_=>R rd H
 ·simp;omega
 ·rcases BC.1 z with z|z
  ·exact H.2 f (by simpa using z)
  ·rw[AZ.1 z];exact⟨(X y4 O).1,by show v.1.1.size<=2000;have:=hv.1;omega⟩
 ·simp;omega
 ·simp;omega
theorem Tot.ins {α:Type}{l:List α}{x:α}{a:Int}{c:Nat}{Q:(List α×Unit)×Unit->Prop}(u:0<=a)(z:a<=l.length)(y:l.length<=1048576)(H:c<=64)(k:∀ r:List α,r.length=l.length+1->Q ((r,()),())) :
  Tot (bif decide ((0:Int)<=0)&&decide (0<=a)&&decide (a<=(AY l:Int))&&true then (bif decide ((AY ([]:List α)+AY ((l.take (AV a)).drop (AV 0)))*c<=ak) then (bif decide ((AY ([]++((l.take (AV a)).drop (AV 0)))+AY ([x]))*c<=ak) then (bif decide (0<=a)&&decide (a<=(AY l:Int))&&decide ((AY l:Int)<=(AY l:Int))&&true then (bif decide ((AY (([]++((l.take (AV a)).drop (AV 0)))++([x]))+AY ((l.take (AV (AY l:Int))).drop (AV a)))*c<=ak) then (some (((([]++((l.take (AV a)).drop (AV 0)))++([x]))++((l.take (AV (AY l:Int))).drop (AV a)),()),())) else none) else none) else none) else none) else none) Q:=by
 obtain⟨m,rfl⟩:=BD u;refine Tot.must (by simp;omega) (Tot.fit (Tot.fit (Tot.must (by simp;omega) (Tot.fit (Tot.ret (k _ ?_)) (by omega) ?_)) (by omega) ?_) (by omega) ?_) <;>
 simp only[AW,BK,BL,BE,AX,BI,BT,Bf,BO] <;> omega
theorem yl (K:Nat)(f g:af):Tot (Q77.f K (f,g,())) λ_=>True:=by
 simp only[Q77.f];exact Tot.cnd (λ_=>Tot.ret trivial) λ_=>Tot.bind (sl K g f).tot λ_ _=>Tot.ret trivial
theorem wZ (K:Nat)(l:List af)(f:af)(M:l.length<=1048576)(O:1048577<K):Tot (Q78.f K (l,f,())) λr=>r.1.1.length<=l.length+1:=by
 simp only[Q78.f,Q78.pre];refine Tot.iter (A:=Int) (step:=λrec a=>Q78.s0 K (l,f,()) rec a) (λa=>0<=a/\a<=l.length) (λa=>l.length-a.toNat) ?_ K _ (by show l.length-AV 0<K;omega) ⟨by show (0:Int)<=0;omega,by show (0:Int)<=_;omega⟩;rintro rec i ⟨H,z⟩ J;simp only[Q78.s0];have u:=λ (z:i<=l.length)=>Tot.ins (x:=f) (c:=32) (Q:=λr=>r.1.1.length<=l.length+1) H z M (by omega) λr R=>by show r.length<=_;omega
 have y:l.length<=l.length+1:=BX _;refine Tot.cnd (λh=>?_) λ_=>Tot.cnd (λh=>Tot.ix H (of_decide_eq_true h) λ_ _ _=>Tot.cnd (λ_=>Tot.ret y) λ_=>u z) λ_=>u z
 have h:i<(l.length:Int):=of_decide_eq_true h;rw[aJ (n:=i+1) (by omega) (by omega)];refine Tot.ix H h λI _ _=>Tot.bind (yl K I f) λ_ _=>Tot.cnd (λ_=>J (i+1) ⟨by show 0<=i+1;omega,by show i+1<=(l.length:Int);omega⟩ (by show l.length-AV (i+1)<l.length-AV i;omega)) λ_=>Tot.cnd (λ_=>Tot.ix H h λ_ _ _=>Tot.cnd (λ_=>Tot.ret y) λ_=>u z) λ_=>u z
theorem yR (K:Nat)(w:bN)(z y u:List af)(h1:z.length<=1048576)(X:y.length<=1048576)(h3:u.length<=100)(hb:w.2.2.2.length<=1000000)(J:1048577<K) :
  Tot (Q80.f K (w,z,y,u,())) λr=>∃ b,b.length<=w.2.2.2.length+u.length/\r.1.1=(w.1,w.2.1,w.2.2.1,b):=by
 simp only[Q80.f,Q80.pre];refine Tot.iter (step:=λrec a=>Q80.s0 K (w,z,y,u,()) rec a) (λa=>0<=a.1/\a.1<=u.length/\(a.2.length:Int)<=w.2.2.2.length+a.1) (λa=>u.length-a.1.toNat) ?_ K _ (by show u.length-AV 0<K;omega) ⟨by show (0:Int)<=0;omega,by show (0:Int)<=_;omega,by show (w.2.2.2.length:Int)<=w.2.2.2.length+0;omega⟩;rintro rec ⟨i,b⟩ ⟨H,i1,i2⟩ O;simp only at H i1 i2 O ⊢;simp only[Q80.s0];refine Tot.cnd (λh=>?_) λ_=>Tot.ret ⟨b,by omega,rfl⟩
 have h:=of_decide_eq_true h;rw[aJ (n:=i+1) (by omega) (by omega)];have M:∀ I:List af,I.length<=b.length+1->Tot (rec (i+1,I)) λr=>∃ b,b.length<=w.2.2.2.length+u.length/\r.1.1=(w.1,w.2.1,w.2.2.1,b):=λI a0=>O _ ⟨by show 0<=i+1;omega,by show i+1<=_;omega,by show (I.length:Int)<=_+(i+1);omega⟩ (by show u.length-AV (i+1)<u.length-AV i;omega)
 refine Tot.ix H h λY _ _=>Tot.bind (sY K z Y h1 J).tot λ_ _=>Tot.cnd (λ_=>?_) λ_=>M b (BX _)
 refine Tot.ix H h λR _ _=>Tot.bind (sY K y R X J).tot λ_ _=>Tot.cnd (λ_=>?_) λ_=>M b (BX _)
 exact Tot.ix H h λZ _ _=>Tot.bind (wZ K b Z (by omega) J) λv hv=>M v.1.1 hv
structure yS (w:bN) (i:Nat) (n:aa) (ws:List ap) (heard:List af) (c:Nat):Prop where
 wi:WI w c
 lt:i<8
 n:dS i n
 sent:∀ x∈ws,gN x
 wl:ws.length<=1000
 hl:heard.length<=1048576
 c:c<=1000000
theorem set_t (K:Nat)(w:bN)(i:Nat)(n:aa)(H:List ap)(u:List af)(c:Nat)(h:yS w i n H u c)(I:1048577<K):Tot (Q81.f K ((w,i),n,H,u,())) λr=>WI r.1.1 (c+4):=by
 simp only[Q81.f];have y:i<w.1.length:=by rw[h.wi.len];exact h.lt
 have O:=h.c;have M:=h.wi.born;have J:=h.n.short;rw[h.n.me];refine Tot.vl (ai y) (Tot.vl (by rw[AW];exact ai y) (Tot.vl (ai y) (Tot.vl (by rw[AW];exact ai y) ?_)));refine Tot.must (by simp) ?_;rw[AW];refine Tot.bind (yR K (w.1.set i n,w.2) (aa.table w.1[i]) u (aa.table n) (h.wi.node i y).nb.table h.hl (by omega) (by show w.2.2.2.length<=_;omega) I) ?_;rintro⟨⟨v,⟨⟩⟩,⟨⟩⟩ ⟨b,z,rfl⟩;refine Tot.bind (wY K (w.1.set i n,w.2.1,w.2.2.1,b) (i:Int) H h.wi.sides ⟨by omega,by have:=h.lt;omega⟩ h.sent h.wi.radio h.wl I) ?_;rintro⟨⟨v,⟨⟩⟩,⟨⟩⟩ ⟨rd,hr,rfl⟩;have z:b.length<=w.2.2.2.length+(aa.table n).length:=z;exact Tot.ret (h.wi.put h.n hr (by omega))
theorem AA (K:Nat)(w:bN)(i:Nat)(n:aa)(H:List ap)(u:List af)(c:Nat)(h:yS w i n H u c)(I:1048577<K):Tot (Q100.f K (w,n,H,u,())) λr=>WI r.1.1 (c+4):=by
 simp only[Q100.f];have y:i<w.1.length:=by rw[h.wi.len];exact h.lt
 have O:=h.c;have M:=h.wi.born;have J:=h.n.short;rw[h.n.me];refine Tot.vl (ai y) (Tot.vl (by rw[AW];exact ai y) (Tot.vl (ai y) (Tot.vl (by rw[AW];exact ai y) ?_)));rw[AW];refine Tot.bind (yR K (w.1.set i n,w.2) (aa.table w.1[i]) u (aa.table n) (h.wi.node i y).nb.table h.hl (by omega) (by show w.2.2.2.length<=_;omega) I) ?_;rintro⟨⟨v,⟨⟩⟩,⟨⟩⟩ ⟨b,z,rfl⟩;refine Tot.bind (wY K (w.1.set i n,w.2.1,w.2.2.1,b) (i:Int) H h.wi.sides ⟨by omega,by have:=h.lt;omega⟩ h.sent h.wi.radio h.wl I) ?_;rintro⟨⟨v,⟨⟩⟩,⟨⟩⟩ ⟨rd,hr,rfl⟩;have z:b.length<=w.2.2.2.length+(aa.table n).length:=z;exact Tot.ret (h.wi.put h.n hr (by omega))
theorem qR (K:Nat)(l:List ln)(at_:Int)(z:0<=at_)(I:at_<l.length)(y:fG l):Tot (Q38.f K (l,at_,())) λr=>fG r.1.1:=by
 have H:=y.1;obtain⟨m,rfl⟩:=BD z;simp only[Q38.f];rw[au m (by omega)];refine Tot.must (by simp;omega) (Tot.fit (Tot.must (by simp;omega) (Tot.fit (Tot.ret ⟨?_,λf u=>y.2 f ?_⟩) (by omega) ?_)) (by omega) ?_)
 ·simp only[AW,BK,BL,BE,AX,BI,BT];omega
 ·simp only[AW,BK,BL,BE,BS]at u;rcases BC.1 u with u|u
  ·exact BF u
  ·exact List.mem_of_mem_drop u
 ·simp only[AW,BK,BL,BE,AX,BI,BT];omega
 ·simp only[AW,BK,BL,BE,BI,BO];omega
theorem qS (K:Nat)(w:bN)(c:Nat)(h:WI w c)(Y:c<=1000000)(to:Int)(t0:0<=to)(t1:to<=7)(x:ap)(X:fP x)(H:1048577<K){G:aa->aa->Option ((bN×Unit)×Unit)}
  (Z:∀ y:aa,G y y=(Q75.f K (y,x,())).bind λI=>(Q81.f K ((w,AV to),I.1.1,I.1.2.1,ap.table x,())).bind λO=>some ((O.1.1,()),())) :
  Tot ((idx w.1 to).bind λ_=>(idx w.1 (AV to:Nat)).bind λR=>(idx w.1 (AV to:Nat)).bind λM=>G R M) λr=>WI r.1.1 (c+4):=by
 obtain⟨i,rfl⟩:=BD t0;have J:i<w.1.length:=by rw[h.len];omega
 have z:=h.node i J;refine Tot.vl (ai J) (Tot.vl (by rw[AW];exact ai J) (Tot.vl (by rw[AW];exact ai J) ?_));rw[Z,Av K w.1[i] x z.up (cE X.2.2.2.2.2.2.2.1) H];simp only[AU,AW];refine Tot.bind (set_t K w i _ _ _ c ⟨h,z.lt,?_,?_,?_,cE X.2.2.2.2.2.2.2.1,Y⟩ H) λv hv=>Tot.ret hv
 ·cases u:w.1[i].2.1 with
  |true=>exact z.of (uv (z.up u) H).1 (uv (z.up u) H).2.1
  |false =>
   rw[show dl K w.1[i] x=(w.1[i],[]) by unfold dl;rw[if_neg λh=>by have:=h.2.1;rw[u]at this;cases this]];exact z
 ·cases u:w.1[i].2.1 with
  |true=>exact λy hy=>(pD (z.up u) H).2 y hy
  |false =>
   rw[show dl K w.1[i] x=(w.1[i],[]) by unfold dl;rw[if_neg λh=>by have:=h.2.1;rw[u]at this;cases this]];simp
 ·cases u:w.1[i].2.1 with
  |true=>have:=(pD (w:=x) (z.up u) H).1;omega
  |false =>
   rw[show dl K w.1[i] x=(w.1[i],[]) by unfold dl;rw[if_neg λh=>by have:=h.2.1;rw[u]at this;cases this]];simp
theorem zE (K:Nat)(w:bN)(c:Nat)(h:WI w c)(hc:c<=1000000)(at_:Int)(keep:Bool)(h0:0<=at_)(h1:at_<w.2.1.length)(X:1048577<K):Tot (Q82.f K (w,at_,keep,())) λr=>WI r.1.1 (c+4):=by
 simp only[Q82.f,zcp8];refine Tot.ix2 h0 h1 λf hf _=>?_
 obtain⟨⟨t0,t1⟩,a0⟩:=h.radio.2 f hf;have hs:=h.sides;refine Tot.cnd (λ_=>Tot.bind (qR K w.2.1 at_ h0 h1 h.radio) ?_) λ_=>Tot.bind (lW K f.2.1 (by omega) X) ?_
 ·rintro⟨⟨rd,⟨⟩⟩,⟨⟩⟩ hr;have M:WI (w.1,rd,w.2.2) (c+4):=⟨h.len,h.node,hr,h.sides,BB h.born (by omega)⟩;refine Tot.bind (lW K f.2.1 (by omega) X) ?_;rintro⟨⟨(x:ap),ok,⟨⟩⟩,⟨⟩⟩ H;refine Tot.cnd (λ_=>Tot.ret M) λY=>?_
  have H:fP x:=H (by simpa using Y);obtain⟨R,Z⟩:=H.2.2.1;have O:x.2.2.1<(w.2.2.1.length:Int):=by rw[hs];omega
  refine Tot.ix2 R O λ_ _ _=>Tot.ix2 t0 (by omega) λ_ _ _=>Tot.cnd (λ_=>Tot.ret M) λ_=>Tot.cnd (λ_=>Tot.ret M) λ_=>?_
  exact qS K (w.1,rd,w.2.2) c ⟨h.len,h.node,hr,h.sides,h.born⟩ hc f.1 t0 t1 x H X (G:=λu I=>(Q75.f K ((u.1,(u.2.1,(u.2.2.1,(u.2.2.2.1,(u.2.2.2.2.1,(u.2.2.2.2.2.1,(u.2.2.2.2.2.2.1,(u.2.2.2.2.2.2.2.1,(u.2.2.2.2.2.2.2.2.1,(u.2.2.2.2.2.2.2.2.2.1,(u.2.2.2.2.2.2.2.2.2.2.1,(I.2.2.2.2.2.2.2.2.2.2.2.1,u.2.2.2.2.2.2.2.2.2.2.2.2)))))))))))),x,())).bind λz=>(Q81.f K (((w.1,rd,w.2.2),AV f.1),z.1.1,z.1.2.1,ap.table x,())).bind λJ=>some ((J.1.1,()),())) λy=>rfl
 ·rintro⟨⟨(x:ap),ok,⟨⟩⟩,⟨⟩⟩ H;have M:WI w (c+4):=h.mono (by omega);refine Tot.cnd (λ_=>Tot.ret M) λY=>?_
  have H:fP x:=H (by simpa using Y);obtain⟨R,Z⟩:=H.2.2.1;have O:x.2.2.1<(w.2.2.1.length:Int):=by rw[hs];omega
  refine Tot.ix2 R O λ_ _ _=>Tot.ix2 t0 (by omega) λ_ _ _=>Tot.cnd (λ_=>Tot.ret M) λ_=>Tot.cnd (λ_=>Tot.ret M) λ_=>?_
  exact qS K w c h hc f.1 t0 t1 x H X (G:=λu I=>(Q75.f K ((u.1,(u.2.1,(u.2.2.1,(u.2.2.2.1,(u.2.2.2.2.1,(u.2.2.2.2.2.1,(u.2.2.2.2.2.2.1,(u.2.2.2.2.2.2.2.1,(u.2.2.2.2.2.2.2.2.1,(u.2.2.2.2.2.2.2.2.2.1,(u.2.2.2.2.2.2.2.2.2.2.1,(I.2.2.2.2.2.2.2.2.2.2.2.1,u.2.2.2.2.2.2.2.2.2.2.2.2)))))))))))),x,())).bind λz=>(Q81.f K (((w.1,w.2),AV f.1),z.1.1,z.1.2.1,ap.table x,())).bind λJ=>some ((J.1.1,()),())) λy=>rfl
theorem zF (K:Nat)(w:bN)(c:Nat)(h:WI w c)(at_ u:Int)(M:0<=at_)(R:at_<w.2.1.length):Tot (Q83.f K (w,at_,u,())) λr=>WI r.1.1 c:=by
 simp only[Q83.f];refine Tot.ix2 M R λf Z _=>?_
 obtain⟨y,z⟩:=h.radio.2 f Z;refine Tot.cnd (λ_=>Tot.ret h) λ_=>Tot.cnd (λ_=>Tot.ret h) λY=>?_
 have J:¬ (f.2.1.size:Int)=0:=by simpa using Y
 obtain⟨H,b1⟩:=lp (a:=u) (m:=4095) (by omega);have H:0<=bt .i64 u 4095:=H;have O:0<=BM (bt .i64 u 4095) (f.2.1.size:Int):=Bh _ H;have X:BM (bt .i64 u 4095) (f.2.1.size:Int)<((dY f.2.1).length:Int):=by rw[qO];exact Ba _ (by omega)
 refine Tot.not (decide_eq_false J) (Tot.ix2 O X λ_ _ _=>Tot.ix2 O X λ_ _ _=>Tot.ix2 M R λ_ _ _=>Tot.ret ⟨h.len,h.node,⟨?_,λg I=>?_⟩,h.sides,h.born⟩)
 ·show (w.2.1.set _ _).length<=60;rw[BA];exact h.radio.1
 ·rcases List.mem_or_eq_of_mem_set I with I|rfl
  ·exact h.radio.2 g I
  ·refine⟨y,?_⟩;show (gr _).size<=2000;rw[iy,BA,qO];exact z
def lY (i:Int)(g:Bool):aa:=(i,true,false,g,0,0,0,0,[(i,0,1,g)],[],(-1,0,0,false),[],(0,0,0,1500),[],[])
theorem zG {i:Int}{g:Bool}(h:InP i 0 7):UpN (lY i g):=by
 refine⟨⟨h,Int.le_refl _,⟨λf u=>?_,List.pairwise_singleton _ _⟩,λf u=>?_,⟨λx r=>(nomatch r),List.Pairwise.nil⟩,λx r=>(nomatch r),?_,⟨λd z=>(nomatch z),List.Pairwise.nil,rfl⟩,⟨?_,?_,?_,?_⟩,⟨λp y=>(nomatch y),List.Pairwise.nil⟩,⟨λp y=>(nomatch y),List.Pairwise.nil⟩⟩,?_,?_,⟨?_,?_⟩,?_,rfl⟩
 ·rw[AZ.1 u];exact⟨h,⟨by show (0:Int)<=0;omega,by show (0:Int)<=999;omega⟩,by show (1:Int)<=1;omega,by show (1:Int)<=4;omega⟩
 ·rw[AZ.1 u];rfl
 ·unfold cM;rw[if_pos (show (aa.probe (lY i g)).1=-1 from rfl)];rfl
 ·exact⟨by show (-100000:Int)<=0;omega,by show (0:Int)<=100000;omega⟩
 ·exact⟨by show (-100000:Int)<=0;omega,by show (0:Int)<=100000;omega⟩
 ·exact⟨by show (0:Int)<=0;omega,by show (0:Int)<=100000;omega⟩
 ·exact⟨by show (1:Int)<=1500;omega,by show (1500:Int)<=1500;omega⟩
 ·exact AZ.2 rfl
 ·show (0:Int)<=999999;omega
 ·exact⟨by show (0:Int)<=0;omega,by show (0:Int)<=999999;omega⟩
 ·exact⟨by show (0:Int)<=0;omega,by show (0:Int)<=8;omega⟩
 ·exact⟨by show (0:Int)<=0;omega,by show (0:Int)<=999;omega⟩
theorem qT (K:Nat)(i:Int)(g:Bool)(h:InP i 0 7):Q13.f K (i,g,())=some ((lY i g,()),()):=by
 simp only[Q13.f];obtain⟨b,e,r⟩:=cm K i 0 7;rw[e,r.2 h];rfl
theorem dS.new (i:Nat)(g:Bool)(h:i<8):dS i (lY (i:Int) g):=⟨rfl,h,λ_=>zG ⟨by omega,by omega⟩,λr=>by cases r⟩
theorem AB (K:Nat)(w:bN)(c:Nat)(h:WI w c)(O:c<=1000000)(u:Int)(y:InP u 0 7)(H:1048577<K):Tot (Q102.f K (w,u,())) λr=>WI r.1.1 (c+4):=by
 have M:=h.born;have I:u.toNat<8:=by obtain⟨a,b⟩:=y;omega
 have z:=h.len;simp only[Q102.f,Q14.f,AU];rw[qT K u _ y];simp only[AU];refine Tot.ix2 y.1 (by have:=y.2;omega) λ_ _ _=>?_
 refine Tot.vl (show idx (lY u (decide (BM u 4<3))).2.2.2.2.2.2.2.2.1 0=some (u,0,1,decide (BM u 4<3)) from rfl) (Tot.bind (wZ K w.2.2.2 _ (by omega) H) λv J=>Tot.ret (h.put ?_ h.radio (by omega)));have:=dS.new u.toNat (decide (BM u 4<3)) I
 rwa [BZ y.1]at this
theorem zH {n:aa}(h:UpN n):(ll n).length<=8/\∀ x∈ll n,gN x:=by
 unfold ll;refine⟨?_,λx u=>?_⟩
 ·rw[BU];exact BB (BW _ _) (it h.x.table.2 λf r=>(h.x.table.1 f r).1)
 ·obtain⟨f,r,rfl⟩:=BH.1 u;exact⟨(h.x.table.1 f (BJ.1 r).1).1,cE h.x.table⟩
theorem AC (K:Nat)(w:bN)(c:Nat)(h:WI w c)(hc:c<=1000000)(e:af)(h0:InP e.2.1 0 7)(O:1048577<K):Tot (Q104.f K (w,e,())) λr=>WI r.1.1 (c+4):=by
 have a1:=h.len;have hs:=h.sides;obtain⟨a2,a0,u,keep⟩:=e;obtain⟨e0,e1⟩:=h0;simp only at e0 e1;obtain⟨i,rfl⟩:=BD e0;have Z:i<w.1.length:=by omega
 have J:=h.node i Z;have y:=h.mono (show c<=c+4 by omega);simp only[Q104.f];refine Tot.vl (ai Z) (Tot.vl (by rw[AW];exact ai Z) ?_);generalize w.1[i]=n at J ⊢;refine Tot.cnd (λ_=>?_) λ_=>Tot.cnd (λ_=>?_) λ_=>Tot.cnd (λ_=>?_) λ_=>?_
 ·
  rw[yP];simp only[AU];exact Tot.ix2 (by omega) (by omega) λ_ _ _=>Tot.ret ⟨y.len,y.node,y.radio,by show (w.2.2.1.set _ _).length=8;rw[BA];exact h.sides,y.born⟩
 ·
  simp only[Q101.f,AU];refine Tot.ix2 (by omega) (by omega) λ_ _ _=>Tot.ret (y.put (i:=i) (n:=i9 n.1 n.2.2.2.1) ?_ y.radio y.born)
  exact⟨J.me,J.lt,λM=>(by cases M),λ_=>rfl⟩
 ·
  exact Tot.cnd (λ_=>Tot.ret y) λ_=>Tot.bind (AB K w c h hc (i:Int) ⟨by omega,by omega⟩ O) λv H=>Tot.ret H
 ·refine Tot.cnd (λ_=>Tot.ret y) λM=>Tot.cnd (λ_=>Tot.ret y) λX=>?_
  have M:n.2.1=true:=by simpa using M
  have z:=J.up M;have set:=λ (m:aa) (Y:List ap) (I:UpN m) (em:m.1=n.1) (R:∀ x∈Y,gN x) (hl:Y.length<=1000)=>AA K w i m Y [] c ⟨h,J.lt,J.of I em,R,hl,BN _,hc⟩ O
  refine Tot.cnd (λ_=>?_) λ_=>Tot.cnd (λ_=>?_) λ_=>Tot.cnd (λ_=>?_) λ_=>Tot.ret y
  ·refine Tot.cnd (λ_=>Tot.ret y) λI=>?_
   have I:b6 n<999999:=by have I:¬ n.2.2.2.2.2.1>=999999:=of_decide_eq_false I;show n.2.2.2.2.2.1<999999;omega
   obtain⟨t1,t2,_⟩:=qd z I;obtain⟨w1,w2⟩:=Ax z I u;exact Tot.vl (Ay K n u z X I O) (Tot.bind (set _ _ t1 t2 w2 (BB w1 (by omega))) λv H=>Tot.ret H)
  ·obtain⟨t1,t2⟩:=yc z X;obtain⟨w1,w2⟩:=zH t1;exact Tot.vl (zj K n z.nb z.ok M X O) (Tot.bind (set _ _ t1 t2 w2 (BB w1 (by omega))) λv H=>Tot.ret H)
  ·refine Tot.bind (cm K u 0 7).tot λv H=>Tot.cnd (λ_=>Tot.ret y) λh1=>Tot.cnd (λ_=>Tot.ret y) λ_=>?_
   have hd:InP u 0 7:=H.1 (by simpa using h1);rw[cL K,cL K];simp only[AU];refine Tot.cnd (λ_=>Tot.ret y) λ_=>?_
   refine Tot.vl (nv K n 4 u (cE z.x.table)) (Tot.bind (set n _ z rfl (λx hx=>?_) (by simp)) λv H=>Tot.ret H);rw[AZ.1 hx];exact⟨hd,cE z.x.table⟩
theorem do_t (K:Nat)(w:bN)(c:Nat)(h:WI w c)(R:c<=1000000)(e:af)(O:1048577<K):Tot (Q106.f K (w,e,())) λr=>WI r.1.1 (c+4):=by
 have z:=h.mono (show c<=c+4 by omega);have hr:=h.radio.1;simp only[Q106.f];rw[aJ (n:=(AY w.2.1:Int)-1) (by omega) (by omega)];have u:Tot ((Q11.f K (e.2.1,0,(AY w.2.1:Int)-1,())).bind λX=>bif !X.1.1 then (some ((w,false,()),())) else (bif e.1==2 then ((Q82.f K (w,e.2.1,e.2.2.2,())).bind λZ=>some ((Z.1.1,true,()),())) else (bif e.1==4 then ((Q83.f K (w,e.2.1,e.2.2.1,())).bind λM=>some ((M.1.1,M.1.2.1,()),())) else ((Q38.f K (w.2.1,e.2.1,())).bind λY=>some (((w.1,(Y.1.1,w.2.2)),true,()),()))))) λr=>WI r.1.1 (c+4):=by
  refine Tot.bind (cm K _ _ _).tot λv y=>Tot.cnd (λ_=>Tot.ret z) λI=>?_
  obtain⟨J,H⟩:InP e.2.1 0 ((AY w.2.1:Int)-1):=y.1 (by simpa using I);have H:e.2.1<(w.2.1.length:Int):=by omega
  refine Tot.cnd (λ_=>Tot.bind (zE K w c h R e.2.1 e.2.2.2 J H O) λv y=>Tot.ret y) λ_=>Tot.cnd (λ_=>Tot.bind (zF K w c h e.2.1 e.2.2.1 J H) λv y=>Tot.ret (WI.mono y (by omega))) λ_=>?_
  exact Tot.bind (qR K w.2.1 e.2.1 J H h.radio) λv y=>Tot.ret ⟨z.len,z.node,y,z.sides,z.born⟩
 refine Tot.cnd (λ_=>u) λ_=>Tot.cnd (λ_=>u) λ_=>Tot.cnd (λ_=>u) λ_=>?_
 exact Tot.bind (cm K _ _ _).tot λv y=>Tot.cnd (λ_=>Tot.ret z) λI=>Tot.bind (AC K w c h R e (y.1 (by simpa using I)) O) λv y=>Tot.ret y
theorem ym (K:Nat)(w:bN)(X:w.1.length<=1048576)(z:∀ n∈w.1,NB n)(O:w.2.1.length<=1048576)(R:w.2.2.1.length<=1048576)(Y:w.2.2.2.length<=1048576)(H:1048577<K):Q108.f K (w,())=some ((w,()),()):=by
 simp only[Q108.f,Q108.pre];rw[szb _ _ _ (by omega) (by show (AY ([]:List ln))+w.2.1.length<=_;simp;omega)];simp only[cond_true];rw[szb _ _ _ (by omega) (by show (AY ([]:List Int))+w.2.2.1.length<=_;simp;omega)];simp only[cond_true];rw[szb _ _ _ (by omega) (by show (AY ([]:List af))+w.2.2.2.length<=_;simp;omega)];simp only[cond_true];have:∀ (d i k:Nat),i+d=w.1.length->d<k->ae (λrec a=>Q108.s0 K (w,()) rec a) k ((i:Int),w.1.take i)=some ((w,()),()):=by
  intro d;induction d with
  |zero =>
   intro i k J M;obtain⟨k,rfl⟩:∃ u,k=u+1:=⟨k-1,by omega⟩;have:i=w.1.length:=by omega
   subst this;show Q108.s0 K (w,()) _ _=_;simp only[Q108.s0,bf,BS];rfl
  |succ d y =>
   intro i k J M;obtain⟨k,rfl⟩:∃ u,k=u+1:=⟨k-1,by omega⟩;have r:i<w.1.length:=by omega
   show Q108.s0 K (w,()) _ _=_;simp only[Q108.s0];rw[bO (by omega:(i:Int)<(AY w.1:Int)),ai r,au i (by omega)];simp only[cond_true,AU];refine (congrArg (λo=>BG o _) (wv K w.1[i] (z _ (Be r)) H)).trans ?_;simp only[AU];have I:decide (((w.1.take i).length+[w.1[i]].length)*232<=ak)=true:=decide_eq_true (by
    rw[BI];simp only[Bf,BO,ak];omega)
   refine (congrArg (λb=>bif b then _ else _) I).trans ?_;have e:w.1.take i++[w.1[i]]=w.1.take (i+1):=by rw[List.take_add_one,List.getElem?_eq_getElem r];rfl
   rw[<- y (i+1) k (by omega) (by omega),<- e];rfl
 exact this w.1.length 0 K (by omega) (by omega)
theorem WI.copy {w:bN}{c:Nat}(h:WI w c)(M:c<=1000000)(K:Nat)(u:1048577<K):Q108.f K (w,())=some ((w,()),()):=by
 have J:=h.len;have H:=h.radio.1;have z:=h.sides;have I:=h.born;refine ym K w (by omega) (λn r=>?_) (by omega) (by omega) (by omega) u;obtain⟨i,y,rfl⟩:=BP r;exact (h.node i y).nb
theorem AD (K:Nat)(w:bN)(c:Nat)(y:List af)(h:WI w c)(hl:y.length<=1000)(Z:c<=900000)(O:1048577<K):Tot (Q109.f K (w,y,())) λr=>WI r.1.1 (c+4*y.length)/\r.2.1=y:=by
 simp only[Q109.f,Q109.pre];refine Tot.iter (step:=λrec a=>Q109.s0 K (w,y,()) rec a) (λa=>0<=a.1/\a.1<=y.length/\WI a.2 (c+4*a.1.toNat)) (λa=>y.length-a.1.toNat) ?_ K _ (by show y.length-AV 0<K;omega) ⟨by show (0:Int)<=0;omega,by show (0:Int)<=_;omega,h⟩;rintro rec ⟨i,v⟩ ⟨J,X,H⟩ M;simp only at J X H M ⊢;simp only[Q109.s0];refine Tot.cnd (λz=>?_) λ_=>Tot.ret ⟨WI.mono H (by omega),rfl⟩
 have z:i<(y.length:Int):=of_decide_eq_true z;rw[aJ (n:=i+1) (by omega) (by omega)];refine Tot.vl (H.copy (by omega) K O) (Tot.ix2 J z λe _ _=>Tot.bind (do_t K v _ H (by omega) e O) ?_);rintro⟨⟨v',ok,⟨⟩⟩,⟨⟩⟩ I;have I:WI v' (c+4*i.toNat+4):=I;have R:∀ u:bN,WI u (c+4*i.toNat+4)->Tot (rec (i+1,u)) λr=>WI r.1.1 (c+4*y.length)/\r.2.1=y:=λu Y=>M (i+1,u) ⟨by show 0<=i+1;omega,by show i+1<=_;omega,Y.mono (by show _<=c+4*(i+1).toNat;omega)⟩ (by show y.length-AV (i+1)<y.length-AV i;omega)
 exact Tot.cnd (λ_=>R v' I) λ_=>R v (H.mono (by omega))
theorem vt (K:Nat)(hK:1048577<K):Tot (Q15.f K ()) λr=>WI r.1.1 8:=by
 simp only[Q15.f,Q15.pre];refine Tot.iter (step:=λrec a=>Q15.s0 K () rec a) (λa=>0<=a.1/\a.1<=8/\a.2.1.length=a.1.toNat/\(∀ (j:Nat) (y:j<a.2.1.length),dS j a.2.1[j])/\a.2.2.1.length=a.1.toNat/\a.2.2.2.length=a.1.toNat) (λa=>8-a.1.toNat) ?_ K _ (by show 8-AV 0<K;omega) ⟨by show (0:Int)<=0;omega,by show (0:Int)<=8;omega,rfl,λj y=>(by cases y),rfl,rfl⟩;rintro rec ⟨i,z,R,X⟩ ⟨H,h1,Y,I,h4,Z⟩ O;simp only at H h1 Y I h4 Z O ⊢;simp only[Q15.s0];refine Tot.cnd (λu=>?_) λu=>?_
 ·have u:i<=7:=of_decide_eq_true u;rw[aJ (n:=i+1) (by omega) (by omega)];simp only[Q14.f,AU];refine Tot.vl (qT K i _ ⟨H,u⟩) (Tot.fit (Tot.fit (Tot.vl (show idx (lY i (decide (BM i 4<3))).2.2.2.2.2.2.2.2.1 0=some (i,0,1,decide (BM i 4<3)) from rfl) (Tot.fit (O _ ⟨by show 0<=i+1;omega,by show i+1<=8;omega,?_,λj y=>?_,?_,?_⟩ (by show 8-AV (i+1)<8-AV i;omega)) (by omega) ?_)) (by omega) ?_) (by omega) ?_)
  ·show (z++[lY i _]).length=(i+1).toNat;simp;omega
  ·show dS j ((z++[lY i (decide (BM i 4<3))])[j]'y);rw[List.getElem_append];split
   ·exact I j _
   ·rename_i J;have y:j<(z++[lY i (decide (BM i 4<3))]).length:=y;have M:j=i.toNat:=by simp at y;omega
    subst M;have:=dS.new i.toNat (decide (BM i 4<3)) (by omega);rw[BZ H]at this;simpa using this
  ·show (R++[0]).length=(i+1).toNat;simp;omega
  ·show (X++[_]).length=(i+1).toNat;simp;omega
  ·simp;omega
  ·simp;omega
  ·simp;omega
 ·have J:=of_decide_eq_false u;refine Tot.ret ⟨?_,I,⟨BN _,λf hf=>(nomatch hf)⟩,?_,?_⟩
  ·show z.length=8;omega
  ·show R.length=8;omega
  ·show X.length<=8;omega
abbrev LtP (v n:Int):Prop:=0<=v/\v<n
def aZ (b:List Int)(m:Nat)(s:List Int×Int):Prop:=∃ q:Nat,q<=m/\s=(b,(q:Int))
theorem aZ.up {b:List Int}{m:Nat}{s:List Int×Int}(h:aZ b m s){m':Nat}(u:m<=m'):aZ b m' s:=by obtain⟨q,y,r⟩:=h;exact⟨q,by omega,r⟩
section
variable {K:Nat} {b:List Int} {m:Nat} {s:List Int×Int}
theorem az (h:fu b)(y:aZ b m s)(n:Int)(z:1<=n)(J:m<=99000):Tot (Q10.f K (s,n,())) λr=>LtP r.1.1 n/\aZ b (m+1) r.2.1:=by
 obtain⟨q,I,rfl⟩:=y;obtain⟨v,e,u,H⟩:=zp K b q n h (by omega) z;exact⟨_,e,⟨u,H⟩,q+1,by omega,rfl⟩
theorem AE (r:List Int)(z:∀ y∈r,0<=y/\y<=255)(I:r.length<=9223372036854775807):∃ u:List Int,fu u/\Q9.f K (r,())=some (((u,(0:Int)),()),()):=by
 simp only[Q9.f];by_cases h:(r.length:Int)>2000
 ·rw[decide_eq_true h,decide_eq_true (by omega:(2000:Int)<=(r.length:Int))];exact⟨(r.take 2000).drop 0,⟨λy H=>z y (BF (by simpa using H)),by simp;omega⟩,rfl⟩
 ·rw[decide_eq_false h];exact⟨r,⟨z,by omega⟩,rfl⟩
theorem w8 (h:fu b)(Z:aZ b m s)(u:Int)(h0:0<=u)(h1:u<=1)(hm:m<=98000):Tot (Q114.f K (s,u,())) λr=>(bC r.1.1/\ao r.1.1.1=u)/\aZ b (m+5) r.2.1:=by
 simp only[Q114.f];refine Tot.bind (az h Z 4 (by decide) (by omega)) λz ⟨⟨a1,b1⟩,R⟩=>Tot.bind (az h R 3 (by decide) (by omega)) λv2 ⟨⟨a2,b2⟩,M⟩=>Tot.bind (az h M 12 (by decide) (by omega)) λv3 ⟨⟨a3,b3⟩,Y⟩=>Tot.bind (az h Y 3 (by decide) (by omega)) λv4 ⟨⟨a4,J⟩,X⟩=>Tot.ix2 a4 J λy H _=>Tot.bind (az h X 4 (by decide) (by omega)) λI ⟨⟨a5,b5⟩,O⟩=>?_
 simp only[Q14.f,AU];have H:InP y 0 999:=by
  simp only[Bl,Bg,or_false]at H;rcases H with rfl|rfl|rfl <;> constructor <;> omega
 rw[aJ (n:=u*4) (by omega) (by omega),aJ (n:=u*4+z.1.1) (by omega) (by omega),aJ (n:=1+I.1.1) (by omega) (by omega)];refine Tot.ret ⟨⟨⟨⟨?_,?_⟩,H,?_,?_⟩,?_⟩,O⟩
 ·show (0:Int)<=u*4+z.1.1;omega
 ·show u*4+z.1.1<=7;omega
 ·show (1:Int)<=1+I.1.1;omega
 ·show (1:Int)+I.1.1<=4;omega
 ·show ao (u*4+z.1.1)=u;rw[fw ⟨by omega,by omega⟩];omega
theorem mJ (h:fu b)(Z:aZ b m s)(hm:m<=97000):Tot (Q116.f K (s,())) λr=>aZ b (m+8) r.2.1:=by
 simp only[Q116.f];refine Tot.bind (az h Z 2 (by decide) (by omega)) λX ⟨⟨I,b1⟩,R⟩=>Tot.bind (w8 h R X.1.1 I (by omega) (by omega)) λf ⟨_,J⟩=>Tot.bind (az h J 12 (by decide) (by omega)) λO ⟨_,H⟩=>?_
 have u:∀ {x y:Int} {G:(Int×Unit)×(List Int×Int)×Unit->Int->Option ((af×Unit)×(List Int×Int)×Unit)},(∀ v z,Tot (G v z) λr=>r.2.1=v.2.1)->Tot ((Q10.f K (O.2.1,2,())).bind λv=>(idx [x,y] v.1.1).bind λ_=>(idx [x,y] (AV v.1.1:Nat)).bind (G v)) λr=>aZ b (m+8) r.2.1:=λM=>Tot.bind (az h H 2 (by decide) (by omega)) λv ⟨⟨a,b⟩,Y⟩=>Tot.ix2 a b λz _ _=>(M v z).mono λr e=>by rw[e];exact Y.up (by omega)
 refine Tot.cnd (λ_=>u λ_ _=>Tot.ret rfl) λ_=>Tot.cnd (λ_=>u λ_ _=>Tot.ret rfl) λ_=>Tot.cnd (λ_=>u λ_ _=>Tot.ret rfl) λ_=>Tot.cnd (λ_=>Tot.ret (H.up (by omega))) λ_=>Tot.ret (H.up (by omega))
theorem xa (t:List af)(f:af):(bY t f).1.length<=t.length+1:=by
 rcases gH t f with e|e
 ·rw[e];omega
 ·rw[e];exact xS
theorem vu {t:List af}{f:af}{z:Int}(h:bS t z)(u:ao f.1=z):bS (bY t f).1 z:=by
 rcases gH t f with e|e <;> rw[e]
 ·exact h
 ·intro g r;rcases aW.1 r with rfl|⟨r,_⟩
  ·exact u
  ·exact h g r
theorem nC (h:fu b)(hs:aZ b m s)(u:Int)(h0:-1<=u)(h1:u<=1)(hm:m<=96000)(hK:1048577<K):Tot (Q115.f K (s,u,())) λr=>(aA r.1.1/\(0<=u->bS r.1.1 u)/\r.1.1.length<=5)/\aZ b (m+31) r.2.1:=by
 simp only[Q115.f,Q115.pre];refine Tot.bind (az h hs 6 (by decide) (by omega)) λv ⟨⟨v0,v1⟩,s1⟩=>?_
 refine Tot.iter (step:=λrec a=>Q115.s0 K (s,u,()) rec a) (λa=>∃ q:Nat,0<=a.2.1/\aA a.1/\(0<=u->bS a.1 u)/\(a.1.length:Int)+a.2.1<=5/\aZ b q a.2.2/\q+6*a.2.1.toNat<=m+31) (λa=>a.2.1.toNat) ?_ K _ (by show v.1.1.toNat<K;omega) ⟨m+1,v0,⟨by simp,List.Pairwise.nil⟩,λ_ f hf=>(nomatch hf),by show ((0:Nat):Int)+v.1.1<=5;omega,s1,by show m+1+6*v.1.1.toNat<=m+31;omega⟩;rintro rec ⟨t,n,s2⟩ ⟨q,n0,O,hS,hl,I,hq⟩ ih;simp only at n0 O hS hl I hq ih ⊢;simp only[Q115.s0];refine Tot.cnd (λhn=>?_) λ_=>Tot.ret ⟨⟨O,hS,by show t.length<=5;omega⟩,I.up (by omega)⟩
 have hn:n>0:=of_decide_eq_true hn;rw[aJ (n:=n-1) (by omega) (by omega)];have go:∀ (z:Int) (J:Nat) (M:List Int×Int),0<=z->z<=1->(0<=u->z=u)->aZ b J M->J<=q+1->Tot ((Q114.f K (M,z,())).bind λR=>(Q51.f K (t,R.1.1,())).bind λy4=>rec (y4.1.1,n-1,R.2.1.1,R.2.1.2)) λr=>(aA r.1.1/\(0<=u->bS r.1.1 u)/\r.1.1.length<=5)/\aZ b (m+31) r.2.1:=λz J M z0 z1 hz Y a0=>by
  refine Tot.bind (w8 h Y z z0 z1 (by omega)) λy ⟨⟨hf,Z⟩,X⟩=>Tot.vl (vg K t y.1.1 (by omega) O.2 hK) (ih (_,_,y.2.1) ⟨J+5,by show 0<=n-1;omega,jU O hf,λh9=>vu (hS h9) (by rw[Z];exact hz h9),?_,X,by show J+5+6*(n-1).toNat<=m+31;omega⟩ (by show (n-1).toNat<n.toNat;omega))
  have:=xa t y.1.1;show ((bY t y.1.1).1.length:Int)+(n-1)<=5;omega
 refine Tot.cnd (λH=>?_) λH=>?_
 ·have H:u<0:=of_decide_eq_true H;exact Tot.bind (az h I 2 (by decide) (by omega)) λv ⟨⟨a,b⟩,M⟩=>go v.1.1 (q+1) v.2.1 a (by omega) (λh9=>by omega) M (BY _)
 ·have H:¬ u<0:=of_decide_eq_false H;exact go u q s2 (by omega) h1 (λ_=>rfl) I (by omega)
theorem pF (h:fu b)(Y:aZ b m s)(hm:m<=95000)(O:1048577<K):Tot (Q117.f K (s,())) λr=>r.1.1.length<=6/\aZ b (m+42) r.2.1:=by
 simp only[Q117.f];refine Tot.bind (nC h Y (-1) (by decide) (by decide) (by omega) O) λt ⟨⟨hT,_,hl⟩,J⟩=>?_
 refine Tot.cnd (λM=>?_) λ_=>Tot.ret ⟨by show t.1.1.length<=6;omega,J.up (by omega)⟩
 have M:(t.1.1.length:Int)>0:=of_decide_eq_true M;refine Tot.bind (az h J 12 (by decide) (by omega)) λv2 ⟨_,I⟩=>Tot.cnd (λ_=>?_) λ_=>Tot.ret ⟨by show t.1.1.length<=6;omega,I.up (by omega)⟩
 refine Tot.bind (az h I (t.1.1.length:Int) (by omega) (by omega)) λv3 ⟨⟨z,u⟩,X⟩=>Tot.bind (az h X 3 (by decide) (by omega)) λZ ⟨_,H⟩=>?_
 refine Tot.cnd (λ_=>Tot.bind (mJ h H (by omega)) λf R=>Tot.ix2 z u λ_ _ _=>Tot.ret ⟨by show (t.1.1.set _ _).length<=6;rw[BA];omega,R.up (by omega)⟩) λ_=>?_
 refine Tot.cnd (λ_=>Tot.ix2 z u λy _ _=>Tot.fit (Tot.ret ⟨by show (t.1.1++[y]).length<=6;simp;omega,H.up (by omega)⟩) (by omega) (by simp;omega)) λ_=>Tot.ix2 z u λy _ _=>Tot.ret ⟨by show (t.1.1.set _ _).length<=6;rw[BA];omega,H.up (by omega)⟩
theorem zI (h:fu b)(hs:aZ b m s)(u:Int)(R:-1<=u)(Z:u<=1)(hm:m<=95000)(X:1048577<K):Tot (Q118.f K (s,u,())) λr=>r.1.1.length<=5/\aZ b (m+36) r.2.1:=by
 simp only[Q118.f,Q118.pre];refine Tot.bind (nC h hs u R Z (by omega) X) λt ⟨⟨hT,_,hl⟩,Y⟩=>?_
 refine Tot.iter (step:=λrec a=>Q118.s0 K (s,u,()) rec a) (λa=>a.2.1=t.1.1/\0<=a.2.2.1/\a.2.2.1<=t.1.1.length/\(a.1.length:Int)=a.2.2.1/\aZ b (m+31+a.2.2.1.toNat) a.2.2.2) (λa=>t.1.1.length-a.2.2.1.toNat) ?_ K _ (by show t.1.1.length-AV 0<K;omega) ⟨rfl,by show (0:Int)<=0;omega,by show (0:Int)<=_;omega,rfl,Y⟩;rintro rec ⟨H,t',i,s2⟩ ⟨e,O,i1,I,z⟩ M;simp only at e O i1 I z M ⊢;subst e;simp only[Q118.s0];refine Tot.cnd (λJ=>?_) λ_=>Tot.ret ⟨by show H.length<=5;omega,z.up (by omega)⟩
 have J:i<(t.1.1.length:Int):=of_decide_eq_true J;rw[aJ (n:=i+1) (by omega) (by omega)];refine Tot.ix2 O J λy _ _=>Tot.bind (az h z 4 (by decide) (by omega)) λv ⟨_,s3⟩=>Tot.fit (M (_,_,_,v.2.1) ⟨rfl,by show 0<=i+1;omega,by show i+1<=_;omega,?_,s3.up (by show _<=m+31+(i+1).toNat;omega)⟩ (by show t.1.1.length-(i+1).toNat<t.1.1.length-i.toNat;omega)) (by omega) (by simp;omega)
 show ((H++[_]).length:Int)=i+1;simp;omega
theorem vv (h:fu b)(Z:aZ b m s)(hm:m<=94000)(R:1048577<K):Tot (Q119.f K (s,())) λr=>r.1.1.length<=6/\aZ b (m+50) r.2.1:=by
 simp only[Q119.f];refine Tot.bind (zI h Z (-1) (by decide) (by decide) (by omega) R) λt ⟨hl,M⟩=>?_
 refine Tot.cnd (λO=>?_) λ_=>Tot.ret ⟨by show t.1.1.length<=6;omega,M.up (by omega)⟩
 have O:(t.1.1.length:Int)>0:=of_decide_eq_true O;refine Tot.bind (az h M 10 (by decide) (by omega)) λv2 ⟨_,J⟩=>Tot.cnd (λ_=>?_) λ_=>Tot.ret ⟨by show t.1.1.length<=6;omega,J.up (by omega)⟩
 refine Tot.bind (az h J (t.1.1.length:Int) (by omega) (by omega)) λv3 ⟨⟨H,z⟩,Y⟩=>Tot.bind (az h Y 3 (by decide) (by omega)) λv4 ⟨_,I⟩=>?_
 refine Tot.cnd (λ_=>Tot.bind (az h I 2 (by decide) (by omega)) λv5 ⟨⟨X,b5⟩,u⟩=>Tot.ix2 X b5 λ_ _ _=>Tot.ix2 H z λ_ _ _=>Tot.ret ⟨by show (t.1.1.set _ _).length<=6;rw[BA];omega,u.up (by omega)⟩) λ_=>?_
 refine Tot.cnd (λ_=>Tot.bind (mJ h I (by omega)) λf u=>Tot.ix2 H z λ_ _ _=>Tot.ret ⟨by show (t.1.1.set _ _).length<=6;rw[BA];omega,u.up (by omega)⟩) λ_=>?_
 exact Tot.ix2 H z λy _ _=>Tot.fit (Tot.ret ⟨by show (t.1.1++[y]).length<=6;simp;omega,I.up (by omega)⟩) (by omega) (by simp;omega)
theorem qU (h:fu b)(R:aZ b m s)(hm:m<=95000):Tot (Q120.f K (s,())) λr=>aZ b (m+6) r.2.1:=by
 simp only[Q120.f,Q12.f];refine Tot.bind (az h R 6 (by decide) (by omega)) λv1 ⟨_,z⟩=>Tot.cnd (λ_=>Tot.ret (z.up (by omega))) λ_=>Tot.bind (az h z 3 (by decide) (by omega)) λv3 ⟨⟨M,J⟩,O⟩=>Tot.ix2 M J λy u _=>?_
 have u:InP y 10 100000:=by
  simp only[Bl,Bg,or_false]at u;rcases u with rfl|rfl|rfl <;> constructor <;> omega
 rw[aJ (n:=2*y) (by omega) (by omega),aJ (n:=2*y+1) (by omega) (by omega),aJ (n:=y+1) (by omega) (by omega)];exact Tot.bind (az h O _ (by omega) (by omega)) λv6 ⟨_,H⟩=>Tot.bind (az h H _ (by omega) (by omega)) λv7 ⟨_,Y⟩=>Tot.bind (az h Y _ (by omega) (by omega)) λZ ⟨_,I⟩=>Tot.bind (az h I _ (by decide) (by omega)) λv9 ⟨_,X⟩=>Tot.ret X
theorem lZ (h:fu b)(z:aZ b m s)(J:m<=94000):Tot (Q121.f K (s,())) λr=>aZ b (m+8) r.2.1:=by
 simp only[Q121.f];exact Tot.bind (qU h z (by omega)) λc H=>Tot.bind (az h H 16 (by decide) (by omega)) λI ⟨_,y⟩=>Tot.cnd (λ_=>Tot.bind (az h y 3 (by decide) (by omega)) λv ⟨⟨a,b⟩,u⟩=>Tot.ix2 a b λ_ _ _=>Tot.ret u) λ_=>Tot.cnd (λ_=>Tot.bind (az h y 2 (by decide) (by omega)) λv ⟨⟨a,b⟩,u⟩=>Tot.ix2 a b λ_ _ _=>Tot.ret u) λ_=>Tot.cnd (λ_=>Tot.bind (az h y 2 (by decide) (by omega)) λv ⟨⟨a,b⟩,u⟩=>Tot.ix2 a b λ_ _ _=>Tot.ret u) λ_=>Tot.ret (y.up (by omega))
theorem xb (h:fu b)(y:aZ b m s)(w:bN)(I:m<=95000):Tot (Q110.f K (s,w,())) λr=>aZ b (m+2) r.2.1:=by
 simp only[Q110.f];refine Tot.cnd (λ_=>Tot.ret (y.up (by omega))) λH=>?_
 have H:¬ (w.2.1.length:Int)=0:=by simpa using H
 refine Tot.bind (az h y 3 (by decide) (by omega)) λJ ⟨_,z⟩=>Tot.cnd (λ_=>Tot.cnd (λ_=>Tot.bind (az h z 4 (by decide) (by omega)) λv ⟨_,u⟩=>Tot.ret u) λ_=>?_) λ_=>?_ <;>
 exact Tot.bind (az h z _ (by show (1:Int)<=(w.2.1.length:Int);omega) (by omega)) λv ⟨_,u⟩=>Tot.ret u
theorem zJ (h:fu b)(hs:aZ b m s)(w:bN)(hm:m<=94000):Tot (Q111.f K (s,w,())) λr=>aZ b (m+8) r.2.1:=by
 simp only[Q111.f];refine Tot.bind (az h hs 8 (by decide) (by omega)) λv1 ⟨_,Z⟩=>Tot.bind (az h Z 256 (by decide) (by omega)) λv2 ⟨_,X⟩=>Tot.bind (az h X 16 (by decide) (by omega)) λv3 ⟨_,s3⟩=>Tot.bind (az h s3 40 (by decide) (by omega)) λM ⟨_,y⟩=>?_
 have y:aZ b (m+4) M.2.1:=y.up (by omega);generalize M.2.1=z at y ⊢;have Y:aZ b (m+8) z:=y.up (by omega);have R:=xb (K:=K) h y w (by omega);have O:∀ n:Int,1<=n->Tot (Q10.f K (z,n,())) λr=>aZ b (m+8) r.2.1:=λn H=>(az h y n H (by omega)).mono λr J=>J.2.up (by omega)
 have pp:∀ (I:List Int×Int) (n:Int),aZ b (m+4+2) I->1<=n->Tot (Q10.f K (I,n,())) λr=>aZ b (m+8) r.2.1:=λI n h1 H=>(az h h1 n H (by omega)).mono λr J=>J.2.up (by omega)
 repeat' first
  |exact Tot.ret Y
  |exact Tot.bind R λv u=>Tot.ret (aZ.up u (by omega))
  |exact Tot.bind R λv u=>Tot.bind (pp _ _ u (by decide)) λv u=>Tot.ret u
  |exact Tot.bind (O _ (by decide)) λv u=>Tot.ret u
  |exact Tot.bind (O _ (by decide)) λv u=>Tot.cnd (λ_=>Tot.ret u) λ_=>Tot.ret u
  |refine Tot.cnd (λ_=>?_) λ_=>?_
theorem zK (h:fu b)(hs:aZ b m s)(y:Int)(h1:1<=y)(h2:y<=200)(hm:m<=90000)(X:1048577<K):Tot (Q112.f K (s,y,())) λr=>(WI r.1.2.1 2000/\r.1.1.length<=300)/\aZ b (m+8*y.toNat+2) r.2.1:=by
 simp only[Q112.f,Q112.pre];have O:∀ (H:List af) (n:Int) (z:List Int×Int) (w:bN) (q c:Nat),0<=n->n<y->H.length<=24->aZ b q z->q<=m+2->WI w c->c<=200->Tot (Q112.l1 K (s,y,()) (H,n,z.1,z.2,w)) λr=>(WI r.1.2.1 2000/\r.1.1.length<=300)/\aZ b (m+8*y.toNat+2) r.2.1:=λH n z w q c n0 n1 Y M hq I hc=>by
  refine Tot.iter (step:=λrec a=>Q112.s1 K (s,y,()) rec a) (λa=>∃ q c:Nat,0<=a.2.1/\a.2.1<y/\(a.1.length:Int)+a.2.1<=24+y/\aZ b q (a.2.2.1,a.2.2.2.1)/\q+8*a.2.1.toNat<=m+8*y.toNat+2/\WI a.2.2.2.2 c/\c+4*a.2.1.toNat<=2000) (λa=>a.2.1.toNat) ?_ K _ (by show n.toNat<K;omega) ⟨q,c,n0,n1,by show (H.length:Int)+n<=_;omega,M,by show q+8*n.toNat<=_;omega,I,by show c+4*n.toNat<=2000;omega⟩;clear M hq I hc n0 n1 Y;rintro rec ⟨H,n,z1,z2,w⟩ ⟨q,c,n0,n1,Y,M,hq,I,hc⟩ R;simp only at n0 n1 Y M hq I hc R ⊢;simp only[Q112.s1];refine Tot.cnd (λhn=>?_) λ_=>Tot.vl (I.copy (by omega) K X) (Tot.ret ⟨⟨I.mono (by omega),by show H.length<=300;omega⟩,M.up (by omega)⟩)
  have hn:n>0:=of_decide_eq_true hn;rw[aJ (n:=n-1) (by omega) (by omega)];refine Tot.bind (zJ h M w (by omega)) λe he=>Tot.fit (Tot.vl (I.copy (by omega) K X) (Tot.bind (do_t K w c I (by omega) e.1.1 X) ?_)) (by omega) (by simp;omega)
  rintro⟨⟨v',ok,⟨⟩⟩,⟨⟩⟩ hv;have go:∀ u:bN,WI u (c+4)->Tot (rec (H++[e.1.1],n-1,e.2.1.1,e.2.1.2,u)) λr=>(WI r.1.2.1 2000/\r.1.1.length<=300)/\aZ b (m+8*y.toNat+2) r.2.1:=λu hu=>R _ ⟨q+8,c+4,by show 0<=n-1;omega,by show n-1<y;omega,by show ((H++[e.1.1]).length:Int)+(n-1)<=_;simp;omega,he,by show q+8+8*(n-1).toNat<=_;omega,hu,by show c+4+4*(n-1).toNat<=2000;omega⟩ (by show (n-1).toNat<n.toNat;omega)
  exact Tot.cnd (λ_=>go v' hv) λ_=>go w (I.mono (by omega))
 refine Tot.bind (vt K X) λw0 Z=>Tot.bind (az h hs 3 (by decide) (by omega)) λv2 ⟨_,s2⟩=>Tot.cnd (λ_=>?_) λ_=>Tot.bind (az h s2 y h1 (by omega)) λv9 ⟨⟨a9,b9⟩,s9⟩=>O [] v9.1.1 v9.2.1 w0.1.1 (m+2) 8 a9 b9 (by simp) s9 (BY _) Z (by omega)
 refine Tot.iter (step:=λrec a=>Q112.s0 K (s,y,()) (Q112.l1 K (s,y,())) rec a) (λa=>0<=a.2.1/\a.2.1<=8/\(a.1.length:Int)<=3*a.2.1/\aZ b (m+1) (a.2.2.1,a.2.2.2.1)/\WI a.2.2.2.2 8) (λa=>8-a.2.1.toNat) ?_ K _ (by show 8-AV 0<K;omega) ⟨by show (0:Int)<=0;omega,by show (0:Int)<=8;omega,by show ((0:Nat):Int)<=3*0;omega,s2,Z⟩;rintro rec ⟨H,i,z1,z2,w⟩ ⟨i0,i1,Y,M,I⟩ R;simp only at i0 i1 Y M I R ⊢;simp only[Q112.s0];refine Tot.cnd (λhi=>?_) λ_=>?_
 ·have hi:i<=7:=of_decide_eq_true hi;rw[aJ (n:=i+1) (by omega) (by omega)];have go:∀ J:List af,(J.length:Int)<=3*(i+1)->Tot (rec (J,i+1,z1,z2,w)) λr=>(WI r.1.2.1 2000/\r.1.1.length<=300)/\aZ b (m+8*y.toNat+2) r.2.1:=λJ a0=>R _ ⟨by show 0<=i+1;omega,by show i+1<=8;omega,a0,M,I⟩ (by show 8-(i+1).toNat<8-i.toNat;omega)
  exact Tot.cnd (λ_=>Tot.fit (Tot.fit (go _ (by simp;omega)) (by omega) (by simp;omega)) (by omega) (by simp;omega)) λ_=>go H (by omega)
 ·refine Tot.bind (AD K w 8 H I (by omega) (by omega) X) λv ⟨hv,ev⟩=>Tot.bind (az h M y h1 (by omega)) λv4 ⟨⟨a4,b4⟩,s4⟩=>?_
  exact O v.2.1 v4.1.1 v4.2.1 v.1.1 (m+1+1) _ a4 b4 (by rw[ev];omega) s4 (by omega) hv (by omega)
theorem zL (h:fu b)(y:aZ b m s)(H:m<=90000)(z:1048577<K):Tot (Q113.f K (s,())) λr=>WI r.1.1 2000/\aZ b (m+802) r.2.1:=by
 simp only[Q113.f];exact Tot.bind (zK h y 100 (by decide) (by decide) H z) λv u=>Tot.ret ⟨u.1.1,u.2⟩
structure NS (c:Nat) (n:aa):Prop where
 nb:NB n
 table:(aa.table n).length<=c
 cast:(aa.cast n).length<=c
 doubts:(aa.doubts n).length<=c
 places:(aa.places n).length<=c
 others:(aa.others n).length<=c
theorem dS.ns {i:Nat}{n:aa}(h:dS i n):NS 8 n:=by
 cases y:n.2.1 with
 |true =>
  have r:=h.up y;refine⟨h.nb,by have:=h.short;omega,by have:=clen r.x.say;omega,?_,?_,?_⟩
  ·exact BB (it r.x.say.asc r.x.say.inp) (by decide)
  ·exact BB (it r.x.places.2 λx u=>(r.x.places.1 x u).1) (by decide)
  ·exact BB (it r.x.others.2 λx u=>⟨(r.x.others.1 x u).1.1,Int.le_trans (r.x.others.1 x u).1.2 (by decide)⟩) (by decide)
 |false =>
  have e:=h.down y;refine⟨h.nb,?_,?_,?_,?_,?_⟩ <;> rw[e] <;> exact BN _
theorem xc (h:fu b)(hs:aZ b m s)(n:aa){c:Nat}(hn:NS c n)(h8:8<=c)(hc:c<=1000)(hm:m<=90000)(hK:1048577<K):Tot (Q122.f K (s,n,())) λr=>NS (c+1) r.1.1/\aZ b (m+60) r.2.1:=by
 simp only[Q122.f,zcp4,zcp8];rw[wv K n hn.nb hK];simp only[AU];obtain⟨⟨n1,n2,n3,O,n5,M,Z,R⟩,l1,l2,l3,l4,Y⟩:=hn;refine Tot.bind (az h hs 12 (by decide) (by omega)) λv2 ⟨_,I⟩=>?_
 have u:∀ (n':aa) (z:List Int×Int),n'.2.2.2.2.2.2.2.2=n.2.2.2.2.2.2.2.2->aZ b (m+60) z->NS (c+1) n'/\aZ b (m+60) z:=λn' z e hz=>by
  refine⟨⟨⟨?_,?_,?_,?_,?_,?_,?_,?_⟩,?_,?_,?_,?_,?_⟩,hz⟩ <;> simp only[aa.table,aa.cast,aa.doubts,aa.places,aa.others] <;> rw[e] <;> first|assumption|(refine BB ?_ (BX c);assumption)
 have u2:aZ b (m+60) v2.2.1:=I.up (by omega);refine Tot.cnd (λ_=>Tot.bind (pF h I (by omega) hK) λt ⟨tl,J⟩=>Tot.ret ⟨⟨⟨by show t.1.1.length<=_;omega,n2,n3,O,n5,M,Z,R⟩,by show t.1.1.length<=_;omega,AT l2,AT l3,AT l4,AT Y⟩,J.up (by omega)⟩) λ_=>?_
 refine Tot.cnd (λ_=>Tot.bind (vv h I (by omega) hK) λt ⟨tl,J⟩=>Tot.ret ⟨⟨⟨n1,by show t.1.1.length<=_;omega,n3,O,n5,M,Z,R⟩,AT l1,by show t.1.1.length<=_;omega,AT l3,AT l4,AT Y⟩,J.up (by omega)⟩) λ_=>?_
 refine Tot.cnd (λ_=>Tot.ret (u _ _ rfl u2)) λ_=>?_
 refine Tot.cnd (λ_=>Tot.bind (az h I 9 (by decide) (by omega)) λv5 ⟨_,s5⟩=>Tot.bind (az h s5 3 (by decide) (by omega)) λv6 ⟨_,s6⟩=>Tot.bind (az h s6 3 (by decide) (by omega)) λv7 ⟨_,s7⟩=>Tot.bind (az h s7 2 (by decide) (by omega)) λv8 ⟨_,s8⟩=>Tot.ret ⟨⟨⟨n1,n2,n3,O,n5,M,Z,R⟩,AT l1,AT l2,AT l3,AT l4,AT Y⟩,s8.up (by omega)⟩) λ_=>?_
 refine Tot.cnd (λ_=>Tot.bind (az h I 8 (by decide) (by omega)) λv9 ⟨_,X⟩=>Tot.bind (az h X 8 (by decide) (by omega)) λa0 ⟨_,H⟩=>Tot.fit (Tot.ret ⟨⟨⟨n1,n2,?_,?_,n5,M,Z,R⟩,AT l1,AT l2,?_,AT l4,AT Y⟩,H.up (by omega)⟩) (by omega) ?_) λ_=>?_
 ·show (aa.doubts n++[_]).length<=_;simp;omega
 ·intro d y;rcases BC.1 y with y|y
  ·exact O d y
  ·rw[AZ.1 y];show ([a0.1.1]:List Int).length<=_;simp
 ·show (aa.doubts n++[_]).length<=_;simp;omega
 ·show (aa.doubts n).length+_<=_;simp;omega
 refine Tot.cnd (λ_=>Tot.bind (lZ h I (by omega)) λc J=>Tot.ret ⟨⟨⟨n1,n2,n3,O,n5,M,Z,R⟩,AT l1,AT l2,AT l3,AT l4,AT Y⟩,J.up (by omega)⟩) λ_=>?_
 refine Tot.cnd (λ_=>Tot.bind (az h I 9 (by decide) (by omega)) λv9 ⟨_,X⟩=>Tot.bind (lZ h X (by omega)) λc H=>Tot.bind (az h H 3 (by decide) (by omega)) λa1 ⟨_,a2⟩=>Tot.fit (Tot.ret ⟨⟨⟨n1,n2,n3,O,?_,?_,Z,R⟩,AT l1,AT l2,AT l3,?_,AT Y⟩,a2.up (by omega)⟩) (by omega) ?_) λ_=>?_
 ·show (aa.places n++[_]).length<=_;simp;omega
 ·intro d y;rcases BC.1 y with y|y
  ·exact M d y
  ·rw[AZ.1 y];show ([a1.1.1]:List Int).length<=_;simp
 ·show (aa.places n++[_]).length<=_;simp;omega
 ·show (aa.places n).length+_<=_;simp;omega
 refine Tot.cnd (λ_=>Tot.bind (az h I 3 (by decide) (by omega)) λv9 ⟨_,X⟩=>Tot.bind (pF h X (by omega) hK) λt ⟨tl,H⟩=>Tot.fit (Tot.ret ⟨⟨⟨n1,n2,n3,O,n5,M,?_,?_⟩,AT l1,AT l2,AT l3,AT l4,?_⟩,H.up (by omega)⟩) (by omega) ?_) λ_=>?_
 ·show (aa.others n++[_]).length<=_;simp;omega
 ·intro d y;rcases BC.1 y with y|y
  ·exact R d y
  ·rw[AZ.1 y];show t.1.1.length<=_;omega
 ·show (aa.others n++[_]).length<=_;simp;omega
 ·show (aa.others n).length+_<=_;simp;omega
 refine Tot.cnd (λ_=>Tot.ret (u _ _ rfl u2)) λ_=>Tot.cnd (λ_=>Tot.ret (u _ _ rfl u2)) λ_=>?_
 refine Tot.cnd (λ_=>Tot.bind (az h I 3 (by decide) (by omega)) λv ⟨⟨a,b⟩,J⟩=>Tot.ix2 a b λ_ _ _=>Tot.ret (u _ _ rfl (J.up (by omega)))) λ_=>?_
 exact Tot.bind (az h I 8 (by decide) (by omega)) λv9 ⟨_,X⟩=>Tot.bind (az h X 3 (by decide) (by omega)) λv ⟨⟨a,b⟩,J⟩=>Tot.ix2 a b λ_ _ _=>Tot.ret (u _ _ rfl (J.up (by omega)))
end
theorem qi (K:Nat)(n:aa)(u:NB n)(H:1048577<K):∃ r:List af,r.length<=1048576/\Q176.f K (n,())=some ((r,()),())/\((¬ (dB n/\n.2.1=true)/\r=[])\/(dB n/\n.2.1=true/\r=f9 n)):=by
 obtain⟨b,M,J,z⟩:=iY K n u H;simp only[Q176.f];rw[J];cases b with
 |false=>exact⟨[],by simp,rfl,.inl ⟨λh=>(by have:=z.2 h.1;cases this),rfl⟩⟩
 |true =>
  have y:=z.1 rfl;cases I:n.2.1 with
  |false=>exact⟨[],by simp,by simp only[AU,I];rfl,.inl ⟨λh=>(by cases h.2),rfl⟩⟩
  |true =>
   refine⟨f9 n,by have:=vr u y;omega,?_,.inr ⟨y,rfl,rfl⟩⟩;simp only[AU,I,BQ,cond_false];rw[yj K n u y H];rfl
theorem rE (K:Nat)(n:aa)(z:NB n)(H:1048577<K):∃ r:List af,r.length<=1048576/\Q186.f K (n,())=some ((r,()),())/\Q176.f K (n,())=some ((r,()),())/\((¬ (dB n/\n.2.1=true)/\r=[])\/(dB n/\n.2.1=true/\r=f9 n)):=by
 obtain⟨r,I,R,u⟩:=qi K n z H;refine⟨r,I,?_,R,u⟩;obtain⟨b,J,_,O⟩:=iY K n z H;rcases u with ⟨u,rfl⟩|⟨M,y,rfl⟩
 ·simp only[Q186.f,Q186.pre];rw[J];cases b with
  |false=>rfl
  |true =>
   cases y:n.2.1 with
   |false=>simp only[AU,y];rfl
   |true=>exact absurd ⟨O.1 rfl,y⟩ u
 ·exact yk K n z M y H
section
variable {K:Nat} {b:List Int} {m:Nat} {s:List Int×Int}
end
theorem aZ.zero (b:List Int):aZ b 0 (b,0):=⟨0,BY _,rfl⟩
structure xd (code:List Int):Prop where
 byte:∀ y∈code,0<=y/\y<=255
 len:code.length<=9223372036854775807
section
variable {K:Nat} {b:List Int} {m:Nat} {s:List Int×Int}
theorem yn {v:Int}(r:0<=v)(u:v<8):0<=wr .i64 (Bk v 4)/\wr .i64 (Bk v 4)<=1:=by
 have:ao v=v / 4:=fw ⟨r,by omega⟩;have e:wr .i64 (Bk v 4)=v / 4:=this;rw[e];omega
theorem yp (h:fu b)(hs:aZ b m s)(hm:m<=90000)(O:1048577<K):Tot (Q123.f K (s,())) λr=>(ap.table r.1.1).length<=5/\aZ b (m+100) r.2.1:=by
 simp only[Q123.f];refine Tot.bind (az h hs 8 (by decide) (by omega)) λv1 ⟨⟨X,b1⟩,s1⟩=>Tot.bind (az h s1 6 (by decide) (by omega)) λv2 ⟨_,s2⟩=>Tot.bind (az h s2 4 (by decide) (by omega)) λv3 ⟨_,s3⟩=>Tot.bind (az h s3 9 (by decide) (by omega)) λv4 ⟨_,s4⟩=>Tot.bind (az h s4 3 (by decide) (by omega)) λv5 ⟨⟨a5,b5⟩,s5⟩=>Tot.ix2 a5 b5 λy _ _=>?_
 obtain⟨q0,q1⟩:=yn X b1;refine Tot.bind (az h s5 4 (by decide) (by omega)) λv8 ⟨_,Z⟩=>Tot.bind (qU h Z (by omega)) λc s9=>Tot.bind (nC h s9 (wr .i64 (Bk v1.1.1 4)) (by omega) q1 (by omega) O) λt ⟨⟨_,_,t3⟩,z⟩=>?_
 refine Tot.cnd (λ_=>?_) λ_=>Tot.ret ⟨t3,z.up (by omega)⟩
 refine Tot.bind (az h z 2 (by decide) (by omega)) λJ ⟨⟨R,a2⟩,M⟩=>Tot.bind (nC h M J.1.1 (by omega) (by omega) (by omega) O) λt' ⟨⟨_,_,t4⟩,I⟩=>Tot.bind (az h I 2 (by decide) (by omega)) λa0 ⟨_,u⟩=>Tot.cnd (λ_=>?_) λ_=>Tot.ret ⟨t4,u.up (by omega)⟩
 exact Tot.bind (az h u 4 (by decide) (by omega)) λY ⟨_,H⟩=>Tot.ret ⟨t4,H.up (by omega)⟩
theorem xe (h:fu b)(H:aZ b m s)(R:m<=89000)(J:1048577<K):Tot (Q124.f K (s,())) λr=>(ap.table r.1.1).length<=6/\aZ b (m+120) r.2.1:=by
 simp only[Q124.f,zcp4];refine Tot.bind (yp h H (by omega) J) λw ⟨M,I⟩=>Tot.bind (az h I 16 (by decide) (by omega)) λO ⟨_,z⟩=>?_
 have u:(ap.table w.1.1).length<=6:=by omega
 refine Tot.cnd (λ_=>Tot.bind (az h z 2 (by decide) (by omega)) λv ⟨⟨a,c⟩,y⟩=>Tot.ix2 a c λ_ _ _=>Tot.ret ⟨u,y.up (by omega)⟩) λ_=>?_
 refine Tot.cnd (λ_=>Tot.bind (az h z 4 (by decide) (by omega)) λv ⟨_,y⟩=>Tot.ret ⟨u,y.up (by omega)⟩) λ_=>?_
 refine Tot.cnd (λ_=>Tot.bind (lZ h z (by omega)) λv y=>Tot.ret ⟨u,y.up (by omega)⟩) λ_=>?_
 refine Tot.cnd (λ_=>Tot.bind (mJ h z (by omega)) λv y=>Tot.fit (Tot.ret ⟨?_,y.up (by omega)⟩) (by omega) (by show (ap.table w.1.1).length+_<=_;simp;omega)) λ_=>?_
 ·show (ap.table w.1.1++[_]).length<=6;simp;omega
 refine Tot.cnd (λ_=>Tot.bind (az h z 2 (by decide) (by omega)) λv ⟨⟨a,c⟩,y⟩=>Tot.ix2 a c λ_ _ _=>Tot.ret ⟨u,y.up (by omega)⟩) λ_=>?_
 refine Tot.cnd (λ_=>Tot.bind (az h z 2 (by decide) (by omega)) λv ⟨⟨a,c⟩,y⟩=>Tot.ix2 a c λ_ _ _=>Tot.ret ⟨u,y.up (by omega)⟩) λ_=>Tot.ret ⟨u,z.up (by omega)⟩
theorem to_t (h:fu b)(hs:aZ b m s)(w:bN)(n:aa)(hr:fG w.2.1)(hm:m<=80000)(hK:1048577<K):Tot (Q125.f K (s,w,n,())) λr=>(ap.table r.1.1).length<=1048576:=by
 refine Tot.iter (step:=λrec a=>Q125.s0 K (s,w,n,()) rec a) (λa=>∃ i:Nat,i<=3/\a.1=(i:Int)/\aZ b (m+i) a.2) (λa=>3-a.1.toNat) ?_ K _ (by show 3-AV 0<K;omega) ⟨0,by omega,rfl,hs⟩;rintro rec ⟨i',z⟩ ⟨i,hi,e,J⟩ ih;have e:i'=(i:Int):=e;subst e;have J:aZ b (m+i) z:=J;have u:Tot ((Q124.f K (z,())).bind λH=>(Q10.f K (H.2.1,10,())).bind λM=>bif decide (M.1.1>0) then some ((((H.1.1.1,H.1.1.2.1,H.1.1.2.2.1,n.1,H.1.1.2.2.2.2),()),M.2.1,()):(ap×Unit)×(List Int×Int)×Unit) else some ((H.1.1,()),M.2.1,())) λr=>(ap.table r.1.1).length<=1048576 :=
  Tot.bind (xe h J (by omega) hK) λv ⟨hv,I⟩=>Tot.bind (az h I 10 (by decide) (by omega)) λ_ _=>Tot.cnd (λ_=>Tot.ret (show (ap.table v.1.1).length<=1048576 by omega)) λ_=>Tot.ret (show (ap.table v.1.1).length<=1048576 by omega)
 simp only[Q125.s0];refine Tot.cnd (λh3=>Tot.cnd (λZ=>?_) λ_=>u) λ_=>u
 have h3:(i:Int)<3:=of_decide_eq_true h3;have Z:(w.2.1.length:Int)>0:=of_decide_eq_true Z;rw[au i (by omega)];refine Tot.bind (az h J (w.2.1.length:Int) (by omega) (by omega)) λv1 ⟨⟨a1,b1⟩,I⟩=>Tot.ix a1 b1 λy hy _=>?_
 have a0:=(hr.2 y hy).2;have next:∀ O,aZ b (m+(i+1)) O->Tot (rec (((i+1:Nat):Int),O)) λr=>(ap.table r.1.1).length<=1048576:=λO R=>ih _ ⟨i+1,by omega,rfl,R⟩ (by show 3-AV ((i+1:Nat):Int)<3-AV (i:Int);omega)
 refine Tot.bind (lW K y.2.1 (by omega) hK) λv3 Y=>Tot.cnd (λX=>?_) λ_=>next _ I
 have hW:=Y X;rw[cL K,cL K];simp only[AU];exact Tot.cnd (λ_=>Tot.cnd (λ_=>Tot.ret (show (ap.table v3.1.1).length<=1048576 from cE hW.2.2.2.2.2.2.2.1)) λ_=>next _ I) λ_=>next _ I
end
theorem vw (K:Nat)(u:List Int)(O:xd u)(H:1048577<K):Tot (Q126.f K (u,())) λr=>NS 9 r.1.1/\(ap.table r.1.2.1).length<=1048576:=by
 obtain⟨bs,z,e⟩:=AE (K:=K) u O.byte O.len;simp only[Q126.f];refine Tot.vl e (Tot.bind (zL z (aZ.zero bs) (by omega) H) λw ⟨I,s1⟩=>Tot.bind (az z s1 _ (by have:=I.len;show (1:Int)<=(w.1.1.1.length:Int);omega) (by omega)) λv3 ⟨⟨a3,b3⟩,s3⟩=>Tot.ix a3 b3 λy hy _=>?_);obtain⟨i,hi,rfl⟩:=BP hy;have M:=(I.node i hi).ns;refine Tot.bind (az z s3 24 (by decide) (by omega)) λv5 ⟨_,R⟩=>Tot.cnd (λ_=>?_) λ_=>?_
 ·exact Tot.bind (xc z R _ M (BY _) (by omega) (by omega) H) λv6 ⟨J,Z⟩=>Tot.bind (to_t z Z w.1.1 v6.1.1 I.radio (by omega) H) λv7 h7=>Tot.ret ⟨J,h7⟩
 ·refine Tot.bind (to_t z R w.1.1 _ I.radio (by omega) H) λv8 h8=>Tot.ret ⟨?_,h8⟩
  obtain⟨h1,X,h3,h4,h5,Y⟩:=M;exact⟨h1,AT X,AT h3,AT h4,AT h5,AT Y⟩
theorem vz (K:Nat)(n:aa)(w:ap)(X:NB n)(u:(ap.table w).length<=1048576)(r:1048577<K):∃ b,Q190.f K (n,w,())=rb b/\Q189.f K (n,w,())=rb b:=by
 obtain⟨b1,h1,R⟩:=(sn K n X r).same (oA K n X r) Iff.rfl;simp only[Q190.f,Q189.f];rw[h1,R];cases b1 with
 |false=>exact⟨false,rfl,rfl⟩
 |true =>
  simp only[AU,BQ,cond_false];obtain⟨Y,h2,y⟩:=oF K w u r;obtain⟨z,I,J⟩:=sq K w u r;have:Y=z:=by rw[Bi,y,J]
  subst this;rw[h2,I];cases Y with
  |false=>exact⟨false,rfl,rfl⟩
  |true =>
   have Z:=y.1 rfl;simp only[AU,BQ,cond_false];obtain⟨b3,h3,M⟩:=(eM K (ap.table w) (ao n.1) u r).same (gV K (ap.table w) (ao n.1) u r) Iff.rfl;obtain⟨b4,h4,H⟩:=(eM K (ap.table w) (ao w.2.2.1) u r).same (gV K (ap.table w) (ao w.2.2.1) u r) Iff.rfl;obtain⟨b5,h5,O⟩:=sm K n w.2.2.1;have h6:b5=(ao w.2.2.1==ao n.1):=by
    rw[Bi,O,beq_iff_eq];exact⟨λh=>h.2,λh=>⟨Z.2.2.1,h⟩⟩
   have hp:InP w.1 1 2:=Z.1;simp only[Q40.f,Q188.f];rw[h5,cL K n.1,cL K w.2.2.1,pa K w.2.2.1,p7 K n,h6];simp only[AU];rw[h3,h4,H,M];simp only[AU,bne];generalize (ao w.2.2.1==ao n.1)=c1;generalize (w.2.2.2.1==n.1)=c2;generalize (w.2.2.1==n.1)=c3;generalize (w.2.1==6)=c4;generalize n.2.1=c5;generalize n.2.2.1=c6;rcases (by omega:w.1=1\/w.1=2) with h|h <;> rw[h] <;> cases c1 <;> cases c2 <;> cases c3 <;> cases c4 <;> cases c5 <;> cases c6 <;> cases b3 <;> cases b4 <;> exact⟨_,rfl,rfl⟩
theorem xf (n:aa):(f9 n).length=(aa.table n).length+((aa.others n).flatMap (·.2)).length:=by
 have r:(f9 n).Perm (dj n):=by unfold f9;simpa using iu ltF (dj n) []
 rw[r.length_eq];exact AX
end Go.Proofs.YtaegajachoklkaaGreatEv
