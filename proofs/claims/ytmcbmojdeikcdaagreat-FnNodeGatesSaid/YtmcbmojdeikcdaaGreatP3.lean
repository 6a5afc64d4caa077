/- A tick, by the specification: what it comes to, and what is sent. -/
import Derived.Test.YtmcbmojdeikcdaaGreatP2
namespace Go.Proofs.YtmcbmojdeikcdaaGreatEv
open Go
theorem su {n:aa}(h:∀ k,k<8->¬ ge n k):gM n=none:=by
 unfold gM;rw[List.find?_eq_none];intro x hx;obtain⟨k,hk,rfl⟩:=List.mem_map.1 hx;have:=h k (by simpa using hk);unfold ge at this;simpa using this
theorem sv {n:aa}{k:Nat}(hk:k<8)(hc:ge n k)(h:∀ j,j<k->¬ ge n j):gM n=some (cl n k):=by
 unfold gM;rw[List.find?_map,List.find?_range_eq_some.2 ⟨?_,by simpa using hk,λj hj=>?_⟩]
 ·rfl
 ·unfold ge at hc;simpa using hc
 ·have:=h j hj;unfold ge at this;simpa[Classical.or_iff_not_imp_left]using this
theorem ta (K:Nat)(n:aa)(h:cD n)(hq:ri n)(hK:1048577<K):Q135.f K (n,())=some (((du n).1,(du n).2,()),()):=by
 obtain⟨⟨q0,q1⟩,⟨t0,t1⟩⟩:=hq;obtain⟨to,es,hto⟩:=xW K n h t0 t1 hK;simp only[Q135.f];rw[es];simp only[Option.bind_some,du];by_cases hmax:iH n>=999999
 ·rw[decide_eq_true hmax,show decide (n.2.2.2.2.2.2.1>=999999)=true from decide_eq_true hmax];cases decide (to<0) <;> rfl
 ·rw[decide_eq_false hmax,show decide (n.2.2.2.2.2.2.1>=999999)=false from decide_eq_false hmax];simp only[cond_false];rcases hto with ⟨rfl,hno⟩|⟨k,hk,hkc,hkf,rfl⟩
  ·rw[su hno];rfl
  ·rw[sv hk hkc hkf];have hk0:0<=cl n k/\cl n k<8:=⟨Int.tmod_nonneg _ (by omega),Int.tmod_lt_of_pos _ (by omega)⟩;rw[decide_eq_false (by omega:¬ cl n k<0)];simp only[cond_false];rw[sU K n _ h hK];simp only[Option.bind_some];have hwr:wr .i64 (iH n+1)=iH n+1:=aK (by omega) (by omega);rw[show wr .i64 ((jl n).2.2.2.2.2.2.1+1)=n.2.2.2.2.2.2.1+1 from hwr,aK (n:=cl n k+1) (by omega) (by omega)];simp only[Q92.f];rw[szb _ _ _ (by omega) (by have:=cC (mt h (cl n k));simp;omega)];rfl
def gf (w:au):Prop:=InP w.2.2.2.1 0 7/\(au.table w).length<=1048576
theorem rx {n:aa}(hT:az (aa.table n)):(cR n).2.length<=2/\∀ w∈(cR n).2,gf w:=by
 have nope:([]:List au).length<=2/\∀ w∈([]:List au),gf w:=⟨by simp,by simp⟩;unfold cR;cases (aa.probe n).1==-1 with
 |true=>exact nope
 |false =>
  cases !dS (aW (aa.table n) (aa.probe n).1) with
  |true=>exact nope
  |false =>
   cases decide (n.2.2.2.2.2.1-(aa.probe n).2.1>=4) with
   |true=>exact nope
   |false =>
    cases decide (n.2.2.2.2.2.1-(aa.probe n).2.1>=2) with
    |false=>exact nope
    |true =>
     cases !(aa.probe n).2.2.2 with
     |false=>exact nope
     |true =>
      simp only[cond_true,cond_false];refine⟨by rw[List.length_map];exact List.length_take_le _ _,λw hw=>?_⟩;obtain⟨to,hto,rfl⟩:=List.mem_map.1 hw;obtain⟨f,hf,rfl⟩:=List.mem_map.1 (List.mem_of_mem_take hto);exact⟨(hT.1 f (List.mem_filter.1 hf).1).1,Nat.zero_le _⟩
theorem xv {n:aa}(h:cD n):(du n).2.length<=1/\∀ w∈(du n).2,gf w:=by
 have nope:([]:List au).length<=1/\∀ w∈([]:List au),gf w:=⟨by simp,by simp⟩;unfold du;cases decide (iH n>=999999) with
 |true=>exact nope
 |false =>
  simp only[cond_false];cases hx:gM n with
  |none=>exact nope
  |some to =>
   refine⟨by simp,λw hw=>?_⟩;rw[List.mem_singleton.1 hw];obtain⟨g1,g2,g3⟩:=ek h.table (fY (pO hx).2);exact⟨g2 ▸ g1.1,cC (mt h to)⟩
theorem zd {n:aa}(hO:cg n.1 (aa.others n)){s d:Int}(hs:InP s 0 1):InP (kQ n s d) 0 7:=by
 unfold kQ;cases hc:decide (c9 (cz (aa.others n) s)≠[])&&bb .i64 d 4==0 with
 |true =>
  rw[Bool.and_eq_true,decide_eq_true_eq]at hc;have:=(gm (d:=Int.fdiv d (2 ^ 3)) hc.1).2.2;unfold c9 at this;obtain⟨f,hf,e⟩:=List.mem_map.1 (List.mem_of_mem_take this);simp only[cond_true];show InP (fK (c9 (cz (aa.others n) s)) (Int.fdiv d (2 ^ 3))) 0 7;unfold c9;rw[<- e];exact ((nr hO s).1 f (List.mem_filter.1 hf).1).1
 |false =>
  obtain⟨b0,b1⟩:=ko (a:=Int.fdiv d (2 ^ 3)) (m:=3) (by omega);have b0:0<=bb .i64 (Int.fdiv d (2 ^ 3)) 3:=b0;have b1:bb .i64 (Int.fdiv d (2 ^ 3)) 3<=3:=b1;obtain⟨s0,s1⟩:=hs;simp only[cond_false];exact⟨by omega,by omega⟩
theorem tc {n:aa}(hT:az (aa.table n))(hO:cg n.1 (aa.others n))(draw:Int):(i8 n draw).length<=2/\∀ w∈i8 n draw,gf w:=by
 have nope:([]:List au).length<=2/\∀ w∈([]:List au),gf w:=⟨by simp,by simp⟩;unfold i8;cases bb .i64 draw 3==1 with
 |true =>
  simp only[cond_true,kR];cases kp n with
  |false=>exact nope
  |true =>
   refine⟨?_,λw hw=>?_⟩
   ·show ((([0,1]:List Int).filter (λs=>s != ap n.1)).map _).length<=2;rw[List.length_map];exact List.length_filter_le _ _
   ·obtain⟨s,hs,rfl⟩:=List.mem_map.1 hw;refine⟨zd hO ?_,cC hT⟩;have:=(List.mem_filter.1 hs).1;simp at this;rcases this with rfl|rfl <;> exact⟨by decide,by decide⟩
 |false =>
  simp only[cond_false];by_cases hth:eK n=[]
  ·rw[decide_eq_true hth,Bool.or_true];exact nope
  ·rw[decide_eq_false hth,Bool.or_false];obtain⟨f,hf,e⟩:=List.mem_map.1 (gm (d:=Int.fdiv draw (2 ^ 2)) hth).2.2;have hto:InP (fK (eK n) (Int.fdiv draw (2 ^ 2))) 0 7:=by
    rw[<- e];exact (hT.1 f (List.mem_filter.1 hf).1).1
   cases bb .i64 draw 3==3 with
   |true=>exact nope
   |false =>
    simp only[cond_false];cases bb .i64 draw 3==0 with
    |true=>exact⟨by simp,λw hw=>by rw[List.mem_singleton.1 hw];exact⟨hto,cC hT⟩⟩
    |false =>
     simp only[cond_false,rh]
     match ho:aa.others n with
     |[]=>exact nope
     |x::_=>exact⟨by simp,λw hw=>by rw[List.mem_singleton.1 hw];exact⟨hto,cC (hO.1 x (by rw[ho];simp)).2.2.2.1⟩⟩
theorem UpX.far {n:aa}(h:UpX n):qw n:=⟨by rcases gL h.me h.others with e|⟨x,e⟩ <;> rw[e] <;> simp,λx hx=>⟨(h.others.1 x hx).2.2.2.1,cC (h.others.1 x hx).2.2.2.1⟩⟩
theorem pS {n:aa}(h:UpX n)(hn:bY n<=1000000):((aa.probe n).1=-1\/0<=(aa.probe n).1)/\0<=(aa.probe n).2.1/\(aa.probe n).2.1<=1000000:=by
 have hPr:=h.probe;have hnn:bY n=n.2.2.2.2.2.1:=rfl;unfold cI at hPr;split at hPr
 ·rename_i h1;rw[hPr];exact⟨.inl rfl,by show (0:Int)<=0;omega,by show (0:Int)<=1000000;omega⟩
 ·obtain⟨_,⟨f,hf,e⟩,⟨s0,s1⟩,_⟩:=hPr;have:=(h.table.1 f hf).1.1;exact⟨.inr (e ▸ this),s0,by omega⟩
theorem ze {n:aa}(h:UpN n)(hm:bY n<999999)(draw:Int):(oe n draw).length<=5/\∀ w∈oe n draw,gf w:=by
 have hT:=(lD h.x.later (show cK (dB n) from h.self)).1.table;obtain⟨f1,f2⟩:=rx hT;obtain⟨h1,_,_⟩:=oh h hm;have h2:=(pd h hm).1;obtain⟨d1,d2⟩:=tc h2.x.table h2.x.others draw;have ha:(eM (eN n).1).2.length<=1/\∀ w∈(eM (eN n).1).2,gf w:=by
  unfold eM;cases (aa.probe (eN n).1).1==-1 with
  |true=>exact xv h1.x.say
  |false=>exact⟨by simp,by simp⟩
 unfold oe;have f1:(eN n).2.length<=2:=f1;refine⟨by rw[List.length_append,List.length_append];omega,λw hw=>?_⟩;rcases List.mem_append.1 hw with hw|hw
 ·rcases List.mem_append.1 hw with hw|hw
  ·exact f2 w hw
  ·exact ha.2 w hw
 ·exact d2 w hw
theorem zf (K:Nat)(n:aa)(draw:Int)(h:UpN n)(hg:n.2.2.1=false)(hm:bY n<999999)(hK:1048577<K):Q142.f K (n,draw,())=some ((jK n,oe n draw,()),()):=by
 have hn0:=h.x.now0;simp only[Q142.f];refine (congrArg (λb=>bif !b then _ else _) h.up).trans ?_;refine (congrArg (λb=>bif b then _ else _) hg).trans ?_;refine (congrArg (λb=>bif b then _ else _) (decide_eq_false (show ¬ n.2.2.2.2.2.1>=999999 by have:bY n=n.2.2.2.2.2.1:=rfl;omega))).trans ?_;simp only[cond_false];rw[show wr .i64 (n.2.2.2.2.2.1+1)=n.2.2.2.2.2.1+1 from aK (by have:bY n=n.2.2.2.2.2.1:=rfl;omega) (by have:bY n=n.2.2.2.2.2.1:=rfl;omega)];have hl:UpX (dB n):=h.x.later;have hdd:∀ d∈aa.doubts (dB n),0<=d.2.2.1/\d.2.2.1<=(dB n).2.2.2.2.2.1/\d.2.2.2.length<=1048576:=λd hd=>by
  obtain⟨_,⟨s0,s1⟩,_,h4⟩:=hl.doubts.1 d hd;exact⟨s0,s1,Nat.le_trans (gJ (k:=λx=>x) h4.2 λx hx=>(h4.1 x hx).1) (by decide)⟩
 have hkey:∀ d∈aa.doubts (dB n),∃ f∈aa.table (dB n),f.1=d.1:=λd hd=>by
  obtain⟨⟨f,hf,e,_⟩,_⟩:=hl.doubts.1 d hd;exact⟨f,hf,e⟩
 have hnow:(dB n).2.2.2.2.2.1<=1000000:=by show bY n+1<=1000000;omega
 refine (congrArg (λo=>Option.bind o _) (yO K (dB n) ⟨hl.say,hkey,rfl⟩ hdd hnow hK)).trans ?_;simp only[Option.bind_some];obtain⟨b1,b2,t,c,ds,eb⟩:=lD hl (show cK (dB n) from h.self);have hseq:ri (eN n).1:=(oh h hm).1.seq;have hmnow:bY (ji (dB n))=bY n+1:=by rw[eb];rfl
 have hp:=pS b1 (by omega);obtain⟨fw1,_⟩:=rx b1.table;have h2:=(pd h hm).1;have hmore:=yW K (jK n) draw h2.x.far h2.x.table (cC h2.x.table) hK;have hmid:=(oh h hm).1;obtain⟨aw1,_⟩:=xv hmid.x.say;obtain⟨dw1,_⟩:=tc h2.x.table h2.x.others draw;unfold jK eM eN at hmore h2 dw1;unfold eN at hseq hmid aw1;unfold oe jK eM eN;generalize ji (dB n)=m at *;rcases hp.1 with hp1|hp1
 ·have e0:cR m=(m,[]):=by unfold cR;rw[show ((aa.probe m).1==-1)=true by simpa using hp1];rfl
  rw[e0]at hmore hseq hmid aw1 dw1 ⊢;refine (congrArg (λb=>bif b then _ else _) (decide_eq_false (show ¬ m.2.2.2.2.2.2.2.2.2.2.1.1>=0 by have:(aa.probe m).1=m.2.2.2.2.2.2.2.2.2.2.1.1:=rfl;omega))).trans ?_;refine (congrArg (λb=>bif b then _ else _) (decide_eq_true (show m.2.2.2.2.2.2.2.2.2.2.1.1<0 by have:(aa.probe m).1=m.2.2.2.2.2.2.2.2.2.2.1.1:=rfl;omega))).trans ?_;refine (congrArg (λo=>Option.bind o _) (ta K m hmid.x.say hseq hK)).trans ?_;simp only[Option.bind_some];rw[show ((aa.probe m).1==-1)=true by simpa using hp1]at hmore dw1 ⊢;simp only[cond_true]at hmore dw1 aw1 ⊢;rw[szw _ _ _ (by omega) (by simp;omega)];simp only[cond_true];refine (congrArg (λo=>Option.bind o _) hmore).trans ?_;simp only[Option.bind_some];rw[szw _ _ _ (by omega) (by simp;omega)];rfl
 ·refine (congrArg (λb=>bif b then _ else _) (decide_eq_true (show m.2.2.2.2.2.2.2.2.2.2.1.1>=0 from hp1))).trans ?_;refine (congrArg (λo=>Option.bind o _) (yP K m b1.say (by omega) hp.2.1 hp.2.2 b1.now0 (by have:bY m=m.2.2.2.2.2.1:=rfl;omega) hK)).trans ?_;simp only[Option.bind_some];generalize cR m=fo at *;obtain⟨m2,ws⟩:=fo;simp only at hmore hseq hmid aw1 dw1 fw1 ⊢;have hp2:=(pS hmid.x (by have:=hmid.now1;omega)).1;rcases hp2 with hp2|hp2
  ·refine (congrArg (λb=>bif b then _ else _) (decide_eq_true (show m2.2.2.2.2.2.2.2.2.2.2.1.1<0 by have:(aa.probe m2).1=m2.2.2.2.2.2.2.2.2.2.2.1.1:=rfl;omega))).trans ?_;refine (congrArg (λo=>Option.bind o _) (ta K m2 hmid.x.say hseq hK)).trans ?_;simp only[Option.bind_some];rw[show ((aa.probe m2).1==-1)=true by simpa using hp2]at hmore dw1 ⊢;simp only[cond_true]at hmore dw1 ⊢;rw[szw _ _ _ (by omega) (by omega)];simp only[cond_true];refine (congrArg (λo=>Option.bind o _) hmore).trans ?_;simp only[Option.bind_some];rw[szw _ _ _ (by omega) (by rw[List.length_append];omega)];rfl
  ·refine (congrArg (λb=>bif b then _ else _) (decide_eq_false (show ¬ m2.2.2.2.2.2.2.2.2.2.2.1.1<0 by have:(aa.probe m2).1=m2.2.2.2.2.2.2.2.2.2.2.1.1:=rfl;omega))).trans ?_;rw[show ((aa.probe m2).1==-1)=false by simp;omega]at hmore dw1 ⊢;simp only[cond_false]at hmore dw1 ⊢;refine (congrArg (λo=>Option.bind o _) hmore).trans ?_;simp only[Option.bind_some,List.append_nil];rw[szw _ _ _ (by omega) (by omega)];rfl
end Go.Proofs.YtmcbmojdeikcdaaGreatEv
namespace Go.Proofs.YtmcbmojdeikcdaaGreatEv
open Go
def cU (l:List bU)(s:Int):List af:=(l.filter λx=>x.1==s).flatMap (·.2)
def bV (n:aa)(s:Int):List af:=(bif s==ap n.1 then aa.table n else [])++cU (aa.others n) s
theorem oz (l:List bU)(s:Int):(cU l s).length<=(l.flatMap (·.2)).length:=by
 unfold cU;induction l with
 |nil=>simp
 |cons x l ih =>
  rw[List.filter_cons];split
  ·simp only[List.flatMap_cons,List.length_append];omega
  ·simp only[List.flatMap_cons,List.length_append];omega
theorem td (K:Nat)(n:aa)(hn:NB n)(hs:((aa.others n).flatMap (·.2)).length<=12)(s:Int)(rec0:spec_NodeView.A_l0->Option spec_NodeView.Res):∀ (d i k:Nat) (acc:List af),i+d=(aa.others n).length->d<k->acc.length<=1048576 ->
  ae (λrec a=>spec_NodeView.l1.step K (n,()) rec0 rec a) k (acc++cU ((aa.others n).take i) s,s,(i:Int))=rec0 (acc++cU (aa.others n) s,wr .i64 (s+1)):=by
 have hl:=hn.others;intro d;induction d with
 |zero =>
  intro i k acc hi hk ha;obtain⟨k,rfl⟩:∃ k',k=k'+1:=⟨k-1,by omega⟩;have:i=(aa.others n).length:=by omega
  subst this;show spec_NodeView.l1.step K (n,()) _ _ _=_;simp only[spec_NodeView.l1.step,bd,cond_false,List.take_length]
 |succ d ih =>
  intro i k acc hi hk ha;obtain⟨k,rfl⟩:∃ k',k=k'+1:=⟨k-1,by omega⟩;have hlt:i<(aa.others n).length:=by omega
  show spec_NodeView.l1.step K (n,()) _ _ _=_;simp only[spec_NodeView.l1.step];rw[bE (by omega:(i:Int)<(List.length (aa.others n):Int)),ai hlt,av i (by omega)];simp only[cond_true,Option.bind_some];have e:cU ((aa.others n).take (i+1)) s=cU ((aa.others n).take i) s++(bif (aa.others n)[i].1==s then (aa.others n)[i].2 else []):=by
   unfold cU;rw[List.take_succ_eq_append_getElem hlt,List.filter_append,List.flatMap_append];congr 1;rw[List.filter_cons];cases (aa.others n)[i].1==s <;> simp
  cases hc:(aa.others n)[i].1==s with
  |true =>
   simp only[cond_true];have h1:=oz ((aa.others n).take (i+1)) s;have h2:=re (aa.others n) (·.2) (i+1);rw[e,hc]at h1;simp only[cond_true,List.length_append]at h1;rw[lv (by simp only[List.length_append];omega),List.append_assoc];have e':cU ((aa.others n).take (i+1)) s=cU ((aa.others n).take i) s++(aa.others n)[i].2:=by rw[e,hc];rfl
   rw[<- e'];exact ih (i+1) k acc (by omega) (by omega) ha
  |false =>
   simp only[cond_false];have e':cU ((aa.others n).take (i+1)) s=cU ((aa.others n).take i) s:=by rw[e,hc];simp
   rw[<- e'];exact ih (i+1) k acc (by omega) (by omega) ha
theorem zg (K:Nat)(n:aa)(hn:NB n)(hP:cL n)(hu:n.2.1=true)(hK:1048577<K):spec_NodeView.f K (n,())=some ((bV n 0++bV n 1,()),()):=by
 obtain⟨b,h1,_,h3⟩:=iq K n hn hK;have hb:=h3.2 hP;subst hb;simp only[spec_NodeView.f,spec_NodeView.pre];rw[h1];simp only[Option.bind_some,Bool.not_true,cond_false,hu];have hs:=(lC hn hP).1;unfold dt at hs;rw[List.length_append]at hs;have hl:=hn.others;have round:∀ (rec:spec_NodeView.A_l0->Option spec_NodeView.Res) (acc:List af) (s:Int),acc.length<=1000->s<=1->spec_NodeView.l0.step K (n,()) (spec_NodeView.l1 K (n,()) rec) rec (acc,s)=rec (acc++bV n s,wr .i64 (s+1)):=by
  intro rec acc s ha hs1;simp only[spec_NodeView.l0.step];rw[decide_eq_true hs1,dq K n.1];simp only[cond_true,Option.bind_some];unfold bV;cases hc:s==ap n.1 with
  |true =>
   simp only[cond_true];rw[lv (by show (acc.length+(aa.table n).length)*32<=_;omega)];have:=td K n hn (by omega) s rec (aa.others n).length 0 K (acc++aa.table n) (by omega) (by omega) (by simp;omega);rw[List.take_zero,show cU [] s=[] from rfl,List.append_nil,List.append_assoc]at this;exact this
  |false =>
   simp only[cond_false,List.nil_append];have:=td K n hn (by omega) s rec (aa.others n).length 0 K acc (by omega) (by omega) (by omega);rw[List.take_zero,show cU [] s=[] from rfl,List.append_nil]at this;exact this
 have hlen:(bV n 0).length<=12:=by
  have:=oz (aa.others n) 0;unfold bV;rw[List.length_append];cases (0:Int)==ap n.1 <;> simp only[cond_true,cond_false,List.length_nil] <;> omega
 obtain⟨k,rfl⟩:∃ k',K=k'+3:=⟨K-3,by omega⟩;show ae (λrec a=>spec_NodeView.l0.step (k+3) (n,()) (spec_NodeView.l1 (k+3) (n,()) rec) rec a) (k+3) ([],0)=_;have e0:∀ j (a:spec_NodeView.A_l0),ae (λrec a=>spec_NodeView.l0.step (k+3) (n,()) (spec_NodeView.l1 (k+3) (n,()) rec) rec a) (j+1) a=spec_NodeView.l0.step (k+3) (n,()) (spec_NodeView.l1 (k+3) (n,()) (ae (λrec a=>spec_NodeView.l0.step (k+3) (n,()) (spec_NodeView.l1 (k+3) (n,()) rec) rec a) j)) (ae (λrec a=>spec_NodeView.l0.step (k+3) (n,()) (spec_NodeView.l1 (k+3) (n,()) rec) rec a) j) a:=λ_ _=>rfl
 rw[e0 (k+2),round _ _ _ (by simp) (by omega),aK (by omega) (by omega),e0 (k+1),round _ _ _ (by simp;omega) (by omega),aK (by omega) (by omega),e0 k];simp only[spec_NodeView.l0.step];rfl
theorem nu {t:List af}(h:Asc (λf:af=>f.1) t):t.Pairwise λa b=>ltF a b=true :=
 h.imp λ {a b} h=>by rw[mv,jJ];exact .inl h
theorem mM {n:aa}(hn:NB n)(hP:cL n)(hu:n.2.1=true):da ltF [] (dt n)=bV n 0++bV n 1:=by
 have hm:=hP.1;obtain⟨hT,hS,_,_,_,_,_,_,hO⟩:=hP.up hu;have hp:(da ltF [] (dt n)).Perm (dt n):=by simpa using iR ltF (dt n) []
 have hsrt:hX ltF (da ltF [] (dt n)):=lB ltF uY uZ _ _ List.Pairwise.nil;have hsite:ap n.1=0\/ap n.1=1:=by
  rw[ew hm];obtain⟨m1,m2⟩:=hm;omega
 have across:∀ (t u:List af) (s:Int),az t->bK t s->az u->bK u (s+1)->(t++u).Pairwise λa b=>ltF a b=true:=by
  intro t u s ht hts hu hus;rw[List.pairwise_append];refine⟨nu ht.2,nu hu.2,λa ha b hb=>?_⟩;rw[mv,jJ];have h1:=hts a ha;have h2:=hus b hb;rw[ew (ht.1 a ha).1]at h1;rw[ew (hu.1 b hb).1]at h2;exact .inl (by omega)
 rcases gL hm hO with h|⟨x,h⟩
 ·rw[show bV n 0++bV n 1=aa.table n by
   unfold bV cU;rw[h];rcases hsite with e|e <;> rw[e] <;> simp]
  refine ir ltF ?_ hsrt (nu hT.2);unfold dt at hp ⊢;rw[h]at hp ⊢;simpa using hp
 ·obtain⟨⟨x1,x2⟩,x3,_,x4,x5⟩:=hO.1 x (by rw[h];simp);rcases hsite with e|e
  ·have ex:x.1=1:=by omega
   have e2:bV n 0++bV n 1=aa.table n++x.2:=by
    unfold bV cU;rw[h,e];simp[ex]
   rw[e2];refine ir ltF ?_ hsrt (across _ _ 0 hT (by rw[e]at hS;exact hS) x4 (by rw[ex]at x5;exact x5));unfold dt at hp ⊢;rw[h]at hp ⊢;simpa using hp
  ·have ex:x.1=0:=by omega
   have e2:bV n 0++bV n 1=x.2++aa.table n:=by
    unfold bV cU;rw[h,e];simp[ex]
   rw[e2];refine ir ltF ?_ hsrt (across _ _ 0 x4 (by rw[ex]at x5;exact x5) hT (by rw[e]at hS;exact hS));unfold dt at hp ⊢;rw[h]at hp ⊢;have:(aa.table n++x.2).Perm (x.2++aa.table n):=List.perm_append_comm;have hp2:(da ltF [] (aa.table n++[x].flatMap (·.2))).Perm (aa.table n++x.2):=by simpa using hp
   exact hp2.trans this
def fu (n:aa):List af:=da ltF [] (dt n)
theorem tZ {n:aa}(hn:NB n)(hP:cL n):(fu n).length<=8:=by
 have hp:(fu n).Perm (dt n):=by unfold fu;simpa using iR ltF (dt n) []
 rw[hp.length_eq];exact (lC hn hP).1
theorem wP (K:Nat)(n:aa)(hn:NB n)(hP:cL n)(hK:1048577<K):Q185.f K (n,())=some ((fu n,()),()) :=
 yT K n hn (by have:=(lC hn hP).1;omega) hK
theorem wQ (K:Nat)(n:aa)(hn:NB n)(hP:cL n)(hu:n.2.1=true)(hK:1048577<K):spec_NodeView.f K (n,())=some ((fu n,()),()):=by
 rw[zg K n hn hP hu hK,<- mM hn hP hu];rfl
end Go.Proofs.YtmcbmojdeikcdaaGreatEv
namespace Go.Proofs.YtmcbmojdeikcdaaGreatEv
open Go
theorem rz (K:Nat)(l:List af)(f:af)(hl:l.length<=1048576)(hK:1048577<K):Ret (Q78.f K (l,f,())) (f∈l):=by
 have:=cO (step:=λrec a=>Q78.l0.step K (l,f,()) rec a) l.length (λi=>(i:Int)) (λj=>∃ h:j<l.length,l[j]=f) (rb false) (λ_=>rb true) ?_ ?_ l.length K 0 (by omega) (by omega)
 ·rcases this with ⟨h1,h2⟩|⟨j,_,_,⟨h3,h4⟩,_,h2⟩
  ·refine⟨false,h2,?_⟩;refine⟨λh=>absurd h (by decide),λhf=>?_⟩;obtain⟨i,hi,e⟩:=List.getElem_of_mem hf;exact absurd ⟨hi,e⟩ (h1 i (Nat.zero_le _) hi)
  ·exact⟨true,h2,λ_=>h4 ▸ List.getElem_mem h3,λ_=>rfl⟩
 ·intro rec i hi;simp only[Q78.l0.step];rw[bE (by omega:(i:Int)<(List.length l:Int)),ai hi,av i (by omega)];simp only[cond_true,Option.bind_some];rw[lu];by_cases h:l[i]=f
  ·rw[decide_eq_true h];exact .inr ⟨⟨hi,h⟩,rfl⟩
  ·rw[decide_eq_false h];exact .inl ⟨λ⟨_,h2⟩=>h h2,rfl⟩
 ·intro rec;simp only[Q78.l0.step,bd];rfl
end Go.Proofs.YtmcbmojdeikcdaaGreatEv
namespace Go.Proofs.YtmcbmojdeikcdaaGreatEv
open Go
theorem UpN.nb {n:aa}(h:UpN n):NB n where
 table:=cC h.x.table
 cast:=by have:=clen h.x.say;omega
 doubts:=h.x.say.ld
 by_:=λd hd=>by have:=(h.learns.by_ d hd).len;omega
 places:=plen h.x.places
 trips:=λp hp=>by have:=(h.x.places.1 p hp).2.2.2.2.1.2;omega
 others:=olen h.x.others
 facts:=λx hx=>cC (h.x.others.1 x hx).2.2.2.1
def it (me:Int)(g:Bool):aa:=(me,false,false,g,0,0,0,0,[],[],(0,0,0,false),[],(0,0,0,0),[],[])
structure dv (i:Nat) (n:aa):Prop where
 me:n.1=(i:Int)
 lt:i<8
 up:n.2.1=true->UpN n
 down:n.2.1=false->n=it n.1 n.2.2.2.1
theorem dv.nb {i:Nat}{n:aa}(h:dv i n):NB n:=by
 cases hu:n.2.1 with
 |true=>exact (h.up hu).nb
 |false =>
  rw[h.down hu];exact⟨by simp[it,aa.table],by simp[it,aa.cast],by simp[it,aa.doubts],by simp[it,aa.doubts],by simp[it,aa.places],by simp[it,aa.places],by simp[it,aa.others],by simp[it,aa.others]⟩
theorem dv.short {i:Nat}{n:aa}(h:dv i n):(aa.table n).length<=4:=by
 cases hu:n.2.1 with
 |true=>exact jY (h.up hu).x.table (h.up hu).x.site
 |false=>rw[h.down hu];exact Nat.zero_le _
theorem dv.of {i:Nat}{n m:aa}(h:dv i n)(hm:UpN m)(e:m.1=n.1):dv i m:=⟨e.trans h.me,h.lt,λ_=>hm,λhu=>by rw[hm.up]at hu;cases hu⟩
def fN (l:List kn):Prop:=l.length<=60/\∀ f∈l,InP f.1 0 7/\f.2.1.size<=2000
structure WI (w:bO) (c:Nat):Prop where
 len:w.1.length=8
 node:∀ (i:Nat) (h:i<w.1.length),dv i w.1[i]
 radio:fN w.2.1
 sides:w.2.2.1.length=8
 born:w.2.2.2.length<=c
theorem WI.mono {w:bO}{c d:Nat}(h:WI w c)(hc:c<=d):WI w d:=⟨h.len,h.node,h.radio,h.sides,Nat.le_trans h.born hc⟩
theorem WI.put {w:bO}{c:Nat}(h:WI w c){i:Nat}{n:aa}(hn:dv i n){rd:List kn}(hr:fN rd){b:List af}{d:Nat}(hb:b.length<=d):WI (w.1.set i n,rd,w.2.2.1,b) d:=by
 refine⟨by rw[List.length_set];exact h.len,λj hj=>?_,hr,h.sides,hb⟩;show dv j ((w.1.set i n)[j]'hj);rw[List.getElem_set];split
 ·rename_i e;exact e ▸ hn
 ·exact h.node j _
theorem vm (K:Nat)(w:bO)(fr:Int)(ws:List au)(hs:w.2.2.1.length=8)(hf:InP fr 0 7)(hw:∀ x∈ws,gf x)(hr:fN w.2.1)(hl:ws.length<=1000)(hK:1048577<K) :
  Tot (Q77.f K (w,fr,ws,())) λr=>∃ rd,fN rd/\r.1.1=(w.1,rd,w.2.2):=by
 simp only[Q77.f,Q77.pre];obtain⟨f0,f1⟩:=hf;refine Tot.iter (step:=λrec a=>Q77.l0.step K (w,fr,ws,()) rec a) (λa=>0<=a.1/\a.1<=ws.length/\fN a.2) (λa=>ws.length-a.1.toNat) ?_ K _ (by show ws.length-Int.toNat 0<K;omega) ⟨by show (0:Int)<=0;omega,by show (0:Int)<=_;omega,hr⟩;rintro rec ⟨i,rd⟩ ⟨h0,h1,h2⟩ ih;simp only at h0 h1 h2 ih ⊢;simp only[Q77.l0.step];refine Tot.cnd (λh=>?_) λ_=>Tot.ret ⟨rd,h2,rfl⟩
 have h:=of_decide_eq_true h;rw[aK (n:=i+1) (by omega) (by omega)];have go:∀ rd',fN rd'->Tot (rec (i+1,rd')) λr=>∃ rd,fN rd/\r.1.1=(w.1,rd,w.2.2):=λrd' hr'=>ih _ ⟨by show 0<=i+1;omega,by show i+1<=_;omega,hr'⟩ (by show ws.length-Int.toNat (i+1)<ws.length-Int.toNat i;omega)
 refine Tot.cnd (λh3=>?_) λ_=>go rd h2
 have h3:=of_decide_eq_true h3;refine Tot.ix f0 (by omega) λ_ _ _=>Tot.ix h0 h λy2 hy2 _=>?_
 obtain⟨⟨t0,t1⟩,_⟩:=hw y2 hy2;refine Tot.ix t0 (by omega) λ_ _ _=>Tot.cnd (λ_=>Tot.fit (Tot.ix h0 h λy4 hy4 _=>Tot.ix h0 h λy5 hy5 _=>Tot.bind (mL K y5 (hw y5 hy5).2 hK) λv hv=>Tot.fit (go _ ⟨?_,λf hf=>?_⟩) (by omega) ?_) (by omega) ?_) λ_=>go rd h2
 ·simp;omega
 ·rcases List.mem_append.1 hf with hf|hf
  ·exact h2.2 f (by simpa using hf)
  ·rw[List.mem_singleton.1 hf];exact⟨(hw y4 hy4).1,by show v.1.1.size<=2000;have:=hv.1;omega⟩
 ·simp;omega
 ·simp;omega
theorem Tot.ins {α:Type}{l:List α}{x:α}{a:Int}{c:Nat}{Q:(List α×Unit)×Unit->Prop}(h0:0<=a)(h1:a<=l.length)(hl:l.length<=1048576)(hc:c<=64)(k:∀ r:List α,r.length=l.length+1->Q ((r,()),())) :
  Tot (bif decide ((0:Int)<=0)&&decide (0<=a)&&decide (a<=(List.length l:Int))&&true then (bif decide ((List.length ([]:List α)+List.length ((l.take (Int.toNat a)).drop (Int.toNat 0)))*c<=ah) then (bif decide ((List.length ([]++((l.take (Int.toNat a)).drop (Int.toNat 0)))+List.length ([x]))*c<=ah) then (bif decide (0<=a)&&decide (a<=(List.length l:Int))&&decide ((List.length l:Int)<=(List.length l:Int))&&true then (bif decide ((List.length (([]++((l.take (Int.toNat a)).drop (Int.toNat 0)))++([x]))+List.length ((l.take (Int.toNat (List.length l:Int))).drop (Int.toNat a)))*c<=ah) then (some (((([]++((l.take (Int.toNat a)).drop (Int.toNat 0)))++([x]))++((l.take (Int.toNat (List.length l:Int))).drop (Int.toNat a)),()),())) else none) else none) else none) else none) else none) Q:=by
 obtain⟨m,rfl⟩:=Int.eq_ofNat_of_zero_le h0;refine Tot.must (by simp;omega) (Tot.fit (Tot.fit (Tot.must (by simp;omega) (Tot.fit (Tot.ret (k _ ?_)) (by omega) ?_)) (by omega) ?_) (by omega) ?_) <;>;simp only[Int.toNat_natCast,Int.toNat_zero,List.drop_zero,List.nil_append,List.length_append,List.length_take,List.length_drop,List.length_cons,List.length_nil] <;> omega
theorem wR (K:Nat)(f g:af):Tot (Q79.f K (f,g,())) λ_=>True:=by
 simp only[Q79.f];exact Tot.cnd (λ_=>Tot.ret trivial) λ_=>Tot.bind (qN K g f).tot λ_ _=>Tot.ret trivial
theorem vn (K:Nat)(l:List af)(f:af)(hl:l.length<=1048576)(hK:1048577<K):Tot (Q80.f K (l,f,())) λr=>r.1.1.length<=l.length+1:=by
 simp only[Q80.f,Q80.pre];refine Tot.iter (A:=Int) (step:=λrec a=>Q80.l0.step K (l,f,()) rec a) (λa=>0<=a/\a<=l.length) (λa=>l.length-a.toNat) ?_ K _ (by show l.length-Int.toNat 0<K;omega) ⟨by show (0:Int)<=0;omega,by show (0:Int)<=_;omega⟩;rintro rec i ⟨h0,h1⟩ ih;simp only[Q80.l0.step];have hfit:=λ (h1:i<=l.length)=>Tot.ins (x:=f) (c:=32) (Q:=λr=>r.1.1.length<=l.length+1) h0 h1 hl (by omega) λr hr=>by show r.length<=_;omega
 have hsame:l.length<=l.length+1:=Nat.le_succ _;refine Tot.cnd (λh=>?_) λ_=>Tot.cnd (λh=>Tot.ix h0 (of_decide_eq_true h) λ_ _ _=>Tot.cnd (λ_=>Tot.ret hsame) λ_=>hfit h1) λ_=>hfit h1
 have h:i<(l.length:Int):=of_decide_eq_true h;rw[aK (n:=i+1) (by omega) (by omega)];refine Tot.ix h0 h λy1 _ _=>Tot.bind (wR K y1 f) λ_ _=>Tot.cnd (λ_=>ih (i+1) ⟨by show 0<=i+1;omega,by show i+1<=(l.length:Int);omega⟩ (by show l.length-Int.toNat (i+1)<l.length-Int.toNat i;omega)) λ_=>Tot.cnd (λ_=>Tot.ix h0 h λ_ _ _=>Tot.cnd (λ_=>Tot.ret hsame) λ_=>hfit h1) λ_=>hfit h1
theorem xw (K:Nat)(w:bO)(was heard now:List af)(h1:was.length<=1048576)(h2:heard.length<=1048576)(h3:now.length<=100)(hb:w.2.2.2.length<=1000000)(hK:1048577<K) :
  Tot (Q81.f K (w,was,heard,now,())) λr=>∃ b,b.length<=w.2.2.2.length+now.length/\r.1.1=(w.1,w.2.1,w.2.2.1,b):=by
 simp only[Q81.f,Q81.pre];refine Tot.iter (step:=λrec a=>Q81.l0.step K (w,was,heard,now,()) rec a) (λa=>0<=a.1/\a.1<=now.length/\(a.2.length:Int)<=w.2.2.2.length+a.1) (λa=>now.length-a.1.toNat) ?_ K _ (by show now.length-Int.toNat 0<K;omega) ⟨by show (0:Int)<=0;omega,by show (0:Int)<=_;omega,by show (w.2.2.2.length:Int)<=w.2.2.2.length+0;omega⟩;rintro rec ⟨i,b⟩ ⟨i0,i1,i2⟩ ih;simp only at i0 i1 i2 ih ⊢;simp only[Q81.l0.step];refine Tot.cnd (λh=>?_) λ_=>Tot.ret ⟨b,by omega,rfl⟩
 have h:=of_decide_eq_true h;rw[aK (n:=i+1) (by omega) (by omega)];have go:∀ b':List af,b'.length<=b.length+1->Tot (rec (i+1,b')) λr=>∃ b,b.length<=w.2.2.2.length+now.length/\r.1.1=(w.1,w.2.1,w.2.2.1,b):=λb' hb'=>ih _ ⟨by show 0<=i+1;omega,by show i+1<=_;omega,by show (b'.length:Int)<=_+(i+1);omega⟩ (by show now.length-Int.toNat (i+1)<now.length-Int.toNat i;omega)
 refine Tot.ix i0 h λy1 _ _=>Tot.bind (rz K was y1 h1 hK).tot λ_ _=>Tot.cnd (λ_=>?_) λ_=>go b (Nat.le_succ _)
 refine Tot.ix i0 h λy3 _ _=>Tot.bind (rz K heard y3 h2 hK).tot λ_ _=>Tot.cnd (λ_=>?_) λ_=>go b (Nat.le_succ _)
 exact Tot.ix i0 h λy5 _ _=>Tot.bind (vn K b y5 (by omega) hK) λv hv=>go v.1.1 hv
structure xx (w:bO) (i:Nat) (n:aa) (ws:List au) (heard:List af) (c:Nat):Prop where
 wi:WI w c
 lt:i<8
 n:dv i n
 sent:∀ x∈ws,gf x
 wl:ws.length<=1000
 hl:heard.length<=1048576
 c:c<=1000000
theorem set_t (K:Nat)(w:bO)(i:Nat)(n:aa)(ws:List au)(heard:List af)(c:Nat)(h:xx w i n ws heard c)(hK:1048577<K):Tot (Q82.f K ((w,i),n,ws,heard,())) λr=>WI r.1.1 (c+4):=by
 simp only[Q82.f];have hi:i<w.1.length:=by rw[h.wi.len];exact h.lt
 have hc:=h.c;have hb:=h.wi.born;have hsh:=h.n.short;rw[h.n.me];refine Tot.vl (ai hi) (Tot.vl (by rw[Int.toNat_natCast];exact ai hi) (Tot.vl (ai hi) (Tot.vl (by rw[Int.toNat_natCast];exact ai hi) ?_)));refine Tot.must (by simp) ?_;rw[Int.toNat_natCast];refine Tot.bind (xw K (w.1.set i n,w.2) (aa.table w.1[i]) heard (aa.table n) (h.wi.node i hi).nb.table h.hl (by omega) (by show w.2.2.2.length<=_;omega) hK) ?_;rintro⟨⟨v,⟨⟩⟩,⟨⟩⟩ ⟨b,hb1,rfl⟩;refine Tot.bind (vm K (w.1.set i n,w.2.1,w.2.2.1,b) (i:Int) ws h.wi.sides ⟨by omega,by have:=h.lt;omega⟩ h.sent h.wi.radio h.wl hK) ?_;rintro⟨⟨v,⟨⟩⟩,⟨⟩⟩ ⟨rd,hr,rfl⟩;have hb1:b.length<=w.2.2.2.length+(aa.table n).length:=hb1;exact Tot.ret (h.wi.put h.n hr (by omega))
theorem zh (K:Nat)(w:bO)(i:Nat)(n:aa)(ws:List au)(heard:List af)(c:Nat)(h:xx w i n ws heard c)(hK:1048577<K):Tot (Q143.f K (w,n,ws,heard,())) λr=>WI r.1.1 (c+4):=by
 simp only[Q143.f];have hi:i<w.1.length:=by rw[h.wi.len];exact h.lt
 have hc:=h.c;have hb:=h.wi.born;have hsh:=h.n.short;rw[h.n.me];refine Tot.vl (ai hi) (Tot.vl (by rw[Int.toNat_natCast];exact ai hi) (Tot.vl (ai hi) (Tot.vl (by rw[Int.toNat_natCast];exact ai hi) ?_)));rw[Int.toNat_natCast];refine Tot.bind (xw K (w.1.set i n,w.2) (aa.table w.1[i]) heard (aa.table n) (h.wi.node i hi).nb.table h.hl (by omega) (by show w.2.2.2.length<=_;omega) hK) ?_;rintro⟨⟨v,⟨⟩⟩,⟨⟩⟩ ⟨b,hb1,rfl⟩;refine Tot.bind (vm K (w.1.set i n,w.2.1,w.2.2.1,b) (i:Int) ws h.wi.sides ⟨by omega,by have:=h.lt;omega⟩ h.sent h.wi.radio h.wl hK) ?_;rintro⟨⟨v,⟨⟩⟩,⟨⟩⟩ ⟨rd,hr,rfl⟩;have hb1:b.length<=w.2.2.2.length+(aa.table n).length:=hb1;exact Tot.ret (h.wi.put h.n hr (by omega))
theorem pT (K:Nat)(l:List kn)(at_:Int)(h0:0<=at_)(h1:at_<l.length)(hr:fN l):Tot (Q83.f K (l,at_,())) λr=>fN r.1.1:=by
 have hl:=hr.1;obtain⟨m,rfl⟩:=Int.eq_ofNat_of_zero_le h0;simp only[Q83.f];rw[av m (by omega)];refine Tot.must (by simp;omega) (Tot.fit (Tot.must (by simp;omega) (Tot.fit (Tot.ret ⟨?_,λf hf=>hr.2 f ?_⟩) (by omega) ?_)) (by omega) ?_)
 ·simp only[Int.toNat_natCast,Int.toNat_zero,List.drop_zero,List.nil_append,List.length_append,List.length_take,List.length_drop];omega
 ·simp only[Int.toNat_natCast,Int.toNat_zero,List.drop_zero,List.nil_append,List.take_length]at hf;rcases List.mem_append.1 hf with hf|hf
  ·exact List.mem_of_mem_take hf
  ·exact List.mem_of_mem_drop hf
 ·simp only[Int.toNat_natCast,Int.toNat_zero,List.drop_zero,List.nil_append,List.length_append,List.length_take,List.length_drop];omega
 ·simp only[Int.toNat_natCast,Int.toNat_zero,List.drop_zero,List.nil_append,List.length_take,List.length_nil];omega
theorem pU (K:Nat)(w:bO)(c:Nat)(h:WI w c)(hc:c<=1000000)(to:Int)(t0:0<=to)(t1:to<=7)(x:au)(hx:gI x)(hK:1048577<K){G:aa->aa->Option ((bO×Unit)×Unit)}
  (hG:∀ y:aa,G y y=(Q124.f K (y,x,())).bind λy12=>(Q82.f K ((w,Int.toNat to),y12.1.1,y12.1.2.1,au.table x,())).bind λy13=>some ((y13.1.1,()),())) :
  Tot ((idx w.1 to).bind λ_=>(idx w.1 (Int.toNat to:Nat)).bind λy10=>(idx w.1 (Int.toNat to:Nat)).bind λy11=>G y10 y11) λr=>WI r.1.1 (c+4):=by
 obtain⟨i,rfl⟩:=Int.eq_ofNat_of_zero_le t0;have hi:i<w.1.length:=by rw[h.len];omega
 have hn:=h.node i hi;refine Tot.vl (ai hi) (Tot.vl (by rw[Int.toNat_natCast];exact ai hi) (Tot.vl (by rw[Int.toNat_natCast];exact ai hi) ?_));rw[hG,zc K w.1[i] x hn.up (cC hx.2.2.2.2.2.2.2.1) hK];simp only[Option.bind_some,Int.toNat_natCast];refine Tot.bind (set_t K w i _ _ _ c ⟨h,hn.lt,?_,?_,?_,cC hx.2.2.2.2.2.2.2.1,hc⟩ hK) λv hv=>Tot.ret hv
 ·cases hu:w.1[i].2.1 with
  |true=>exact hn.of (sZ (hn.up hu) hK).1 (sZ (hn.up hu) hK).2.1
  |false =>
   rw[show de K w.1[i] x=(w.1[i],[]) by unfold de;rw[if_neg λh=>by have:=h.2.1;rw[hu]at this;cases this]];exact hn
 ·cases hu:w.1[i].2.1 with
  |true=>exact λy hy=>(oy (hn.up hu) hK).2 y hy
  |false =>
   rw[show de K w.1[i] x=(w.1[i],[]) by unfold de;rw[if_neg λh=>by have:=h.2.1;rw[hu]at this;cases this]];simp
 ·cases hu:w.1[i].2.1 with
  |true=>have:=(oy (w:=x) (hn.up hu) hK).1;omega
  |false =>
   rw[show de K w.1[i] x=(w.1[i],[]) by unfold de;rw[if_neg λh=>by have:=h.2.1;rw[hu]at this;cases this]];simp
theorem yd (K:Nat)(w:bO)(c:Nat)(h:WI w c)(hc:c<=1000000)(at_:Int)(keep:Bool)(h0:0<=at_)(h1:at_<w.2.1.length)(hK:1048577<K):Tot (Q125.f K (w,at_,keep,())) λr=>WI r.1.1 (c+4):=by
 simp only[Q125.f];refine Tot.ix2 h0 h1 λf hf _=>?_
 obtain⟨⟨t0,t1⟩,hsz⟩:=h.radio.2 f hf;have hs:=h.sides;refine Tot.cnd (λ_=>Tot.bind (pT K w.2.1 at_ h0 h1 h.radio) ?_) λ_=>Tot.bind (ol K f.2.1 (by omega) hK) ?_
 ·rintro⟨⟨rd,⟨⟩⟩,⟨⟩⟩ hr;have hW:WI (w.1,rd,w.2.2) (c+4):=⟨h.len,h.node,hr,h.sides,Nat.le_trans h.born (by omega)⟩;refine Tot.bind (ol K f.2.1 (by omega) hK) ?_;rintro⟨⟨(x:au),ok,⟨⟩⟩,⟨⟩⟩ hx;refine Tot.cnd (λ_=>Tot.ret hW) λh2=>?_
  have hx:gI x:=hx (by simpa using h2);obtain⟨fr0,fr1⟩:=hx.2.2.1;have hfr:x.2.2.1<(w.2.2.1.length:Int):=by rw[hs];omega
  refine Tot.ix2 fr0 hfr λ_ _ _=>Tot.ix2 t0 (by omega) λ_ _ _=>Tot.cnd (λ_=>Tot.ret hW) λ_=>Tot.cnd (λ_=>Tot.ret hW) λ_=>?_
  exact pU K (w.1,rd,w.2.2) c ⟨h.len,h.node,hr,h.sides,h.born⟩ hc f.1 t0 t1 x hx hK (G:=λy10 y11=>(Q124.f K ((y10.1,(y10.2.1,(y10.2.2.1,(y10.2.2.2.1,(y10.2.2.2.2.1,(y10.2.2.2.2.2.1,(y10.2.2.2.2.2.2.1,(y10.2.2.2.2.2.2.2.1,(y10.2.2.2.2.2.2.2.2.1,(y10.2.2.2.2.2.2.2.2.2.1,(y10.2.2.2.2.2.2.2.2.2.2.1,(y11.2.2.2.2.2.2.2.2.2.2.2.1,y10.2.2.2.2.2.2.2.2.2.2.2.2)))))))))))),x,())).bind λy12=>(Q82.f K (((w.1,rd,w.2.2),Int.toNat f.1),y12.1.1,y12.1.2.1,au.table x,())).bind λy13=>some ((y13.1.1,()),())) λy=>rfl
 ·rintro⟨⟨(x:au),ok,⟨⟩⟩,⟨⟩⟩ hx;have hW:WI w (c+4):=h.mono (by omega);refine Tot.cnd (λ_=>Tot.ret hW) λh2=>?_
  have hx:gI x:=hx (by simpa using h2);obtain⟨fr0,fr1⟩:=hx.2.2.1;have hfr:x.2.2.1<(w.2.2.1.length:Int):=by rw[hs];omega
  refine Tot.ix2 fr0 hfr λ_ _ _=>Tot.ix2 t0 (by omega) λ_ _ _=>Tot.cnd (λ_=>Tot.ret hW) λ_=>Tot.cnd (λ_=>Tot.ret hW) λ_=>?_
  exact pU K w c h hc f.1 t0 t1 x hx hK (G:=λy10 y11=>(Q124.f K ((y10.1,(y10.2.1,(y10.2.2.1,(y10.2.2.2.1,(y10.2.2.2.2.1,(y10.2.2.2.2.2.1,(y10.2.2.2.2.2.2.1,(y10.2.2.2.2.2.2.2.1,(y10.2.2.2.2.2.2.2.2.1,(y10.2.2.2.2.2.2.2.2.2.1,(y10.2.2.2.2.2.2.2.2.2.2.1,(y11.2.2.2.2.2.2.2.2.2.2.2.1,y10.2.2.2.2.2.2.2.2.2.2.2.2)))))))))))),x,())).bind λy12=>(Q82.f K (((w.1,w.2),Int.toNat f.1),y12.1.1,y12.1.2.1,au.table x,())).bind λy13=>some ((y13.1.1,()),())) λy=>rfl
theorem ye (K:Nat)(w:bO)(c:Nat)(h:WI w c)(at_ draw:Int)(h0:0<=at_)(h1:at_<w.2.1.length):Tot (Q126.f K (w,at_,draw,())) λr=>WI r.1.1 c:=by
 simp only[Q126.f];refine Tot.ix2 h0 h1 λf hf _=>?_
 obtain⟨hto,hsz⟩:=h.radio.2 f hf;refine Tot.cnd (λ_=>Tot.ret h) λ_=>Tot.cnd (λ_=>Tot.ret h) λh2=>?_
 have hne:¬ (f.2.1.size:Int)=0:=by simpa using h2
 obtain⟨b0,b1⟩:=ko (a:=draw) (m:=4095) (by omega);have b0:0<=bb .i64 draw 4095:=b0;have m0:0<=Int.tmod (bb .i64 draw 4095) (f.2.1.size:Int):=Int.tmod_nonneg _ b0;have m1:Int.tmod (bb .i64 draw 4095) (f.2.1.size:Int)<((gx f.2.1).length:Int):=by rw[pQ];exact Int.tmod_lt_of_pos _ (by omega)
 refine Tot.not (decide_eq_false hne) (Tot.ix2 m0 m1 λ_ _ _=>Tot.ix2 m0 m1 λ_ _ _=>Tot.ix2 h0 h1 λ_ _ _=>Tot.ret ⟨h.len,h.node,⟨?_,λg hg=>?_⟩,h.sides,h.born⟩)
 ·show (w.2.1.set _ _).length<=60;rw[List.length_set];exact h.radio.1
 ·rcases List.mem_or_eq_of_mem_set hg with hg|rfl
  ·exact h.radio.2 g hg
  ·refine⟨hto,?_⟩;show (fI _).size<=2000;rw[gN,List.length_set,pQ];exact hsz
def kV (i:Int)(g:Bool):aa:=(i,true,false,g,0,0,0,0,[(i,0,1,g)],[],(-1,0,0,false),[],(0,0,0,1500),[],[])
theorem yf {i:Int}{g:Bool}(h:InP i 0 7):UpN (kV i g):=by
 refine⟨⟨h,Int.le_refl _,⟨λf hf=>?_,List.pairwise_singleton _ _⟩,λf hf=>?_,⟨λx hx=>(nomatch hx),List.Pairwise.nil⟩,λx hx=>(nomatch hx),?_,⟨λd hd=>(nomatch hd),List.Pairwise.nil,rfl⟩,⟨?_,?_,?_,?_⟩,⟨λp hp=>(nomatch hp),List.Pairwise.nil⟩,⟨λp hp=>(nomatch hp),List.Pairwise.nil⟩⟩,?_,?_,⟨?_,?_⟩,?_,rfl⟩
 ·rw[List.mem_singleton.1 hf];exact⟨h,⟨by show (0:Int)<=0;omega,by show (0:Int)<=999;omega⟩,by show (1:Int)<=1;omega,by show (1:Int)<=4;omega⟩
 ·rw[List.mem_singleton.1 hf];rfl
 ·unfold cI;rw[if_pos (show (aa.probe (kV i g)).1=-1 from rfl)];rfl
 ·exact⟨by show (-100000:Int)<=0;omega,by show (0:Int)<=100000;omega⟩
 ·exact⟨by show (-100000:Int)<=0;omega,by show (0:Int)<=100000;omega⟩
 ·exact⟨by show (0:Int)<=0;omega,by show (0:Int)<=100000;omega⟩
 ·exact⟨by show (1:Int)<=1500;omega,by show (1500:Int)<=1500;omega⟩
 ·exact List.mem_singleton.2 rfl
 ·show (0:Int)<=999999;omega
 ·exact⟨by show (0:Int)<=0;omega,by show (0:Int)<=999999;omega⟩
 ·exact⟨by show (0:Int)<=0;omega,by show (0:Int)<=8;omega⟩
 ·exact⟨by show (0:Int)<=0;omega,by show (0:Int)<=999;omega⟩
theorem pV (K:Nat)(i:Int)(g:Bool)(h:InP i 0 7):Q63.f K (i,g,())=some ((kV i g,()),()):=by
 simp only[Q63.f];obtain⟨b,e,hb⟩:=cj K i 0 7;rw[e,hb.2 h];rfl
theorem dv.new (i:Nat)(g:Bool)(h:i<8):dv i (kV (i:Int) g):=⟨rfl,h,λ_=>yf ⟨by omega,by omega⟩,λhu=>by cases hu⟩
theorem zi (K:Nat)(w:bO)(c:Nat)(h:WI w c)(hc:c<=1000000)(node:Int)(h0:InP node 0 7)(hK:1048577<K):Tot (Q145.f K (w,node,())) λr=>WI r.1.1 (c+4):=by
 have hb:=h.born;have hi:node.toNat<8:=by obtain⟨a,b⟩:=h0;omega
 have hlen:=h.len;simp only[Q145.f,Q64.f,Option.bind_some];rw[pV K node _ h0];simp only[Option.bind_some];refine Tot.ix2 h0.1 (by have:=h0.2;omega) λ_ _ _=>?_
 refine Tot.vl (show idx (kV node (decide (Int.tmod node 4<3))).2.2.2.2.2.2.2.2.1 0=some (node,0,1,decide (Int.tmod node 4<3)) from rfl) (Tot.bind (vn K w.2.2.2 _ (by omega) hK) λv hv=>Tot.ret (h.put ?_ h.radio (by omega)));have:=dv.new node.toNat (decide (Int.tmod node 4<3)) hi
 rwa [Int.toNat_of_nonneg h0.1]at this
end Go.Proofs.YtmcbmojdeikcdaaGreatEv
namespace Go.Proofs.YtmcbmojdeikcdaaGreatEv
open Go
theorem yg {n:aa}(h:UpN n):(kl n).length<=8/\∀ x∈kl n,gf x:=by
 unfold kl;refine⟨?_,λx hx=>?_⟩
 ·rw[List.length_map];exact Nat.le_trans (List.length_filter_le _ _) (gJ h.x.table.2 λf hf=>(h.x.table.1 f hf).1)
 ·obtain⟨f,hf,rfl⟩:=List.mem_map.1 hx;exact⟨(h.x.table.1 f (List.mem_filter.1 hf).1).1,cC h.x.table⟩
theorem zj (K:Nat)(w:bO)(c:Nat)(h:WI w c)(hc:c<=1000000)(e:af)(h0:InP e.2.1 0 7)(hK:1048577<K):Tot (Q147.f K (w,e,())) λr=>WI r.1.1 (c+4):=by
 have hlen:=h.len;have hs:=h.sides;obtain⟨kind,node,draw,keep⟩:=e;obtain⟨e0,e1⟩:=h0;simp only at e0 e1;obtain⟨i,rfl⟩:=Int.eq_ofNat_of_zero_le e0;have hi:i<w.1.length:=by omega
 have hn:=h.node i hi;have hw:=h.mono (show c<=c+4 by omega);simp only[Q147.f];refine Tot.vl (ai hi) (Tot.vl (by rw[Int.toNat_natCast];exact ai hi) ?_);generalize w.1[i]=n at hn ⊢;refine Tot.cnd (λ_=>?_) λ_=>Tot.cnd (λ_=>?_) λ_=>Tot.cnd (λ_=>?_) λ_=>?_
 ·
  rw[xu];simp only[Option.bind_some];exact Tot.ix2 (by omega) (by omega) λ_ _ _=>Tot.ret ⟨hw.len,hw.node,hw.radio,by show (w.2.2.1.set _ _).length=8;rw[List.length_set];exact h.sides,hw.born⟩
 ·
  simp only[Q144.f,Option.bind_some];refine Tot.ix2 (by omega) (by omega) λ_ _ _=>Tot.ret (hw.put (i:=i) (n:=it n.1 n.2.2.2.1) ?_ hw.radio hw.born)
  exact⟨hn.me,hn.lt,λhu=>(by cases hu),λ_=>rfl⟩
 ·
  exact Tot.cnd (λ_=>Tot.ret hw) λ_=>Tot.bind (zi K w c h hc (i:Int) ⟨by omega,by omega⟩ hK) λv hv=>Tot.ret hv
 ·refine Tot.cnd (λ_=>Tot.ret hw) λhu=>Tot.cnd (λ_=>Tot.ret hw) λhg=>?_
  have hu:n.2.1=true:=by simpa using hu
  have hU:=hn.up hu;have set:=λ (m:aa) (ws:List au) (hm:UpN m) (em:m.1=n.1) (hsw:∀ x∈ws,gf x) (hl:ws.length<=1000)=>zh K w i m ws [] c ⟨h,hn.lt,hn.of hm em,hsw,hl,Nat.zero_le _,hc⟩ hK
  refine Tot.cnd (λ_=>?_) λ_=>Tot.cnd (λ_=>?_) λ_=>Tot.cnd (λ_=>?_) λ_=>Tot.ret hw
  ·refine Tot.cnd (λ_=>Tot.ret hw) λhm=>?_
   have hm:bY n<999999:=by have hm:¬ n.2.2.2.2.2.1>=999999:=of_decide_eq_false hm;show n.2.2.2.2.2.1<999999;omega
   obtain⟨t1,t2,_⟩:=pd hU hm;obtain⟨w1,w2⟩:=ze hU hm draw;exact Tot.vl (zf K n draw hU hg hm hK) (Tot.bind (set _ _ t1 t2 w2 (Nat.le_trans w1 (by omega))) λv hv=>Tot.ret hv)
  ·obtain⟨t1,t2⟩:=wI hU hg;obtain⟨w1,w2⟩:=yg t1;exact Tot.vl (xP K n hU.nb hU.ok hu hg hK) (Tot.bind (set _ _ t1 t2 w2 (Nat.le_trans w1 (by omega))) λv hv=>Tot.ret hv)
  ·refine Tot.bind (cj K draw 0 7).tot λv hv=>Tot.cnd (λ_=>Tot.ret hw) λh1=>Tot.cnd (λ_=>Tot.ret hw) λ_=>?_
   have hd:InP draw 0 7:=hv.1 (by simpa using h1);rw[dq K,dq K];simp only[Option.bind_some];refine Tot.cnd (λ_=>Tot.ret hw) λ_=>?_
   refine Tot.vl (mr K n 4 draw (cC hU.x.table)) (Tot.bind (set n _ hU rfl (λx hx=>?_) (by simp)) λv hv=>Tot.ret hv);rw[List.mem_singleton.1 hx];exact⟨hd,cC hU.x.table⟩
theorem do_t (K:Nat)(w:bO)(c:Nat)(h:WI w c)(hc:c<=1000000)(e:af)(hK:1048577<K):Tot (Q149.f K (w,e,())) λr=>WI r.1.1 (c+4):=by
 have hw:=h.mono (show c<=c+4 by omega);have hr:=h.radio.1;simp only[Q149.f];rw[aK (n:=(List.length w.2.1:Int)-1) (by omega) (by omega)];have three:Tot ((Q43.f K (e.2.1,0,(List.length w.2.1:Int)-1,())).bind λy1=>bif !y1.1.1 then (some ((w,false,()),())) else (bif e.1==2 then ((Q125.f K (w,e.2.1,e.2.2.2,())).bind λy2=>some ((y2.1.1,true,()),())) else (bif e.1==4 then ((Q126.f K (w,e.2.1,e.2.2.1,())).bind λy3=>some ((y3.1.1,y3.1.2.1,()),())) else ((Q83.f K (w.2.1,e.2.1,())).bind λy4=>some (((w.1,(y4.1.1,w.2.2)),true,()),()))))) λr=>WI r.1.1 (c+4):=by
  refine Tot.bind (cj K _ _ _).tot λv hv=>Tot.cnd (λ_=>Tot.ret hw) λh1=>?_
  obtain⟨p0,p1⟩:InP e.2.1 0 ((List.length w.2.1:Int)-1):=hv.1 (by simpa using h1);have p1:e.2.1<(w.2.1.length:Int):=by omega
  refine Tot.cnd (λ_=>Tot.bind (yd K w c h hc e.2.1 e.2.2.2 p0 p1 hK) λv hv=>Tot.ret hv) λ_=>Tot.cnd (λ_=>Tot.bind (ye K w c h e.2.1 e.2.2.1 p0 p1) λv hv=>Tot.ret (WI.mono hv (by omega))) λ_=>?_
  exact Tot.bind (pT K w.2.1 e.2.1 p0 p1 h.radio) λv hv=>Tot.ret ⟨hw.len,hw.node,hv,hw.sides,hw.born⟩
 refine Tot.cnd (λ_=>three) λ_=>Tot.cnd (λ_=>three) λ_=>Tot.cnd (λ_=>three) λ_=>?_
 exact Tot.bind (cj K _ _ _).tot λv hv=>Tot.cnd (λ_=>Tot.ret hw) λh1=>Tot.bind (zj K w c h hc e (hv.1 (by simpa using h1)) hK) λv hv=>Tot.ret hv
theorem wS (K:Nat)(w:bO)(h1:w.1.length<=1048576)(hn:∀ n∈w.1,NB n)(h2:w.2.1.length<=1048576)(h3:w.2.2.1.length<=1048576)(h4:w.2.2.2.length<=1048576)(hK:1048577<K):Q61.f K (w,())=some ((w,()),()):=by
 simp only[Q61.f,Q61.pre];rw[szb _ _ _ (by omega) (by show (List.length ([]:List kn))+w.2.1.length<=_;simp;omega)];simp only[cond_true];rw[szb _ _ _ (by omega) (by show (List.length ([]:List Int))+w.2.2.1.length<=_;simp;omega)];simp only[cond_true];rw[szb _ _ _ (by omega) (by show (List.length ([]:List af))+w.2.2.2.length<=_;simp;omega)];simp only[cond_true];have:∀ (d i k:Nat),i+d=w.1.length->d<k->ae (λrec a=>Q61.l0.step K (w,()) rec a) k ((i:Int),w.1.take i)=some ((w,()),()):=by
  intro d;induction d with
  |zero =>
   intro i k hi hk;obtain⟨k,rfl⟩:∃ k',k=k'+1:=⟨k-1,by omega⟩;have:i=w.1.length:=by omega
   subst this;show Q61.l0.step K (w,()) _ _=_;simp only[Q61.l0.step,bd,List.take_length];rfl
  |succ d ih =>
   intro i k hi hk;obtain⟨k,rfl⟩:∃ k',k=k'+1:=⟨k-1,by omega⟩;have hlt:i<w.1.length:=by omega
   show Q61.l0.step K (w,()) _ _=_;simp only[Q61.l0.step];rw[bE (by omega:(i:Int)<(List.length w.1:Int)),ai hlt,av i (by omega)];simp only[cond_true,Option.bind_some];refine (congrArg (λo=>Option.bind o _) (uP K w.1[i] (hn _ (List.getElem_mem hlt)) hK)).trans ?_;simp only[Option.bind_some];have hz:decide (((w.1.take i).length+[w.1[i]].length)*232<=ah)=true:=decide_eq_true (by
    rw[List.length_take];simp only[List.length_cons,List.length_nil,ah];omega)
   refine (congrArg (λb=>bif b then _ else _) hz).trans ?_;have e:w.1.take i++[w.1[i]]=w.1.take (i+1):=by rw[List.take_add_one,List.getElem?_eq_getElem hlt];rfl
   rw[<- ih (i+1) k (by omega) (by omega),<- e];rfl
 exact this w.1.length 0 K (by omega) (by omega)
theorem WI.copy {w:bO}{c:Nat}(h:WI w c)(hc:c<=1000000)(K:Nat)(hK:1048577<K):Q61.f K (w,())=some ((w,()),()):=by
 have h1:=h.len;have h2:=h.radio.1;have h3:=h.sides;have h4:=h.born;refine wS K w (by omega) (λn hn=>?_) (by omega) (by omega) (by omega) hK;obtain⟨i,hi,rfl⟩:=List.getElem_of_mem hn;exact (h.node i hi).nb
theorem zk (K:Nat)(w:bO)(c:Nat)(evs:List af)(h:WI w c)(hl:evs.length<=1000)(hc:c<=900000)(hK:1048577<K):Tot (Q150.f K (w,evs,())) λr=>WI r.1.1 (c+4*evs.length)/\r.2.1=evs:=by
 simp only[Q150.f,Q150.pre];refine Tot.iter (step:=λrec a=>Q150.l0.step K (w,evs,()) rec a) (λa=>0<=a.1/\a.1<=evs.length/\WI a.2 (c+4*a.1.toNat)) (λa=>evs.length-a.1.toNat) ?_ K _ (by show evs.length-Int.toNat 0<K;omega) ⟨by show (0:Int)<=0;omega,by show (0:Int)<=_;omega,h⟩;rintro rec ⟨i,v⟩ ⟨h0,h1,h2⟩ ih;simp only at h0 h1 h2 ih ⊢;simp only[Q150.l0.step];refine Tot.cnd (λhlt=>?_) λ_=>Tot.ret ⟨WI.mono h2 (by omega),rfl⟩
 have hlt:i<(evs.length:Int):=of_decide_eq_true hlt;rw[aK (n:=i+1) (by omega) (by omega)];refine Tot.vl (h2.copy (by omega) K hK) (Tot.ix2 h0 hlt λe _ _=>Tot.bind (do_t K v _ h2 (by omega) e hK) ?_);rintro⟨⟨v',ok,⟨⟩⟩,⟨⟩⟩ hv;have hv:WI v' (c+4*i.toNat+4):=hv;have go:∀ u:bO,WI u (c+4*i.toNat+4)->Tot (rec (i+1,u)) λr=>WI r.1.1 (c+4*evs.length)/\r.2.1=evs:=λu hu=>ih (i+1,u) ⟨by show 0<=i+1;omega,by show i+1<=_;omega,hu.mono (by show _<=c+4*(i+1).toNat;omega)⟩ (by show evs.length-Int.toNat (i+1)<evs.length-Int.toNat i;omega)
 exact Tot.cnd (λ_=>go v' hv) λ_=>go v (h2.mono (by omega))
theorem ua (K:Nat)(hK:1048577<K):Tot (Q65.f K ()) λr=>WI r.1.1 8:=by
 simp only[Q65.f,Q65.pre];refine Tot.iter (step:=λrec a=>Q65.l0.step K () rec a) (λa=>0<=a.1/\a.1<=8/\a.2.1.length=a.1.toNat/\(∀ (j:Nat) (hj:j<a.2.1.length),dv j a.2.1[j])/\a.2.2.1.length=a.1.toNat/\a.2.2.2.length=a.1.toNat) (λa=>8-a.1.toNat) ?_ K _ (by show 8-Int.toNat 0<K;omega) ⟨by show (0:Int)<=0;omega,by show (0:Int)<=8;omega,rfl,λj hj=>(by cases hj),rfl,rfl⟩;rintro rec ⟨i,ns,ss,bs⟩ ⟨h0,h1,h2,h3,h4,h5⟩ ih;simp only at h0 h1 h2 h3 h4 h5 ih ⊢;simp only[Q65.l0.step];refine Tot.cnd (λhlt=>?_) λhlt=>?_
 ·have hlt:i<=7:=of_decide_eq_true hlt;rw[aK (n:=i+1) (by omega) (by omega)];simp only[Q64.f,Option.bind_some];refine Tot.vl (pV K i _ ⟨h0,hlt⟩) (Tot.fit (Tot.fit (Tot.vl (show idx (kV i (decide (Int.tmod i 4<3))).2.2.2.2.2.2.2.2.1 0=some (i,0,1,decide (Int.tmod i 4<3)) from rfl) (Tot.fit (ih _ ⟨by show 0<=i+1;omega,by show i+1<=8;omega,?_,λj hj=>?_,?_,?_⟩ (by show 8-Int.toNat (i+1)<8-Int.toNat i;omega)) (by omega) ?_)) (by omega) ?_) (by omega) ?_)
  ·show (ns++[kV i _]).length=(i+1).toNat;simp;omega
  ·show dv j ((ns++[kV i (decide (Int.tmod i 4<3))])[j]'hj);rw[List.getElem_append];split
   ·exact h3 j _
   ·rename_i hge;have hj:j<(ns++[kV i (decide (Int.tmod i 4<3))]).length:=hj;have hji:j=i.toNat:=by simp at hj;omega
    subst hji;have:=dv.new i.toNat (decide (Int.tmod i 4<3)) (by omega);rw[Int.toNat_of_nonneg h0]at this;simpa using this
  ·show (ss++[0]).length=(i+1).toNat;simp;omega
  ·show (bs++[_]).length=(i+1).toNat;simp;omega
  ·simp;omega
  ·simp;omega
  ·simp;omega
 ·have hge:=of_decide_eq_false hlt;refine Tot.ret ⟨?_,h3,⟨Nat.zero_le _,λf hf=>(nomatch hf)⟩,?_,?_⟩
  ·show ns.length=8;omega
  ·show ss.length=8;omega
  ·show bs.length<=8;omega
end Go.Proofs.YtmcbmojdeikcdaaGreatEv
namespace Go.Proofs.YtmcbmojdeikcdaaGreatEv
open Go
abbrev LtP (v n:Int):Prop:=0<=v/\v<n
def bf (b:List Int)(m:Nat)(s:List Int×Int):Prop:=∃ q:Nat,q<=m/\s=(b,(q:Int))
theorem bf.up {b:List Int}{m:Nat}{s:List Int×Int}(h:bf b m s){m':Nat}(hm:m<=m'):bf b m' s:=by obtain⟨q,h1,h2⟩:=h;exact⟨q,by omega,h2⟩
section
variable {K:Nat} {b:List Int} {m:Nat} {s:List Int×Int}
theorem aH (h:fe b)(hs:bf b m s)(n:Int)(hn:1<=n)(hm:m<=99000):Tot (Q59.f K (s,n,())) λr=>LtP r.1.1 n/\bf b (m+1) r.2.1:=by
 obtain⟨q,hq,rfl⟩:=hs;obtain⟨v,e,v0,v1⟩:=xV K b q n h (by omega) hn;exact⟨_,e,⟨v0,v1⟩,q+1,by omega,rfl⟩
theorem zl (code:List Int)(hb:∀ y∈code,0<=y/\y<=255)(hl:code.length<=9223372036854775807):∃ bs:List Int,fe bs/\Q58.f K (code,())=some (((bs,(0:Int)),()),()):=by
 simp only[Q58.f];by_cases h:(code.length:Int)>2000
 ·rw[decide_eq_true h,decide_eq_true (by omega:(2000:Int)<=(code.length:Int))];exact⟨(code.take 2000).drop 0,⟨λy hy=>hb y (List.mem_of_mem_take (by simpa using hy)),by simp;omega⟩,rfl⟩
 ·rw[decide_eq_false h];exact⟨code,⟨hb,by omega⟩,rfl⟩
theorem vo (h:fe b)(hs:bf b m s)(site:Int)(h0:0<=site)(h1:site<=1)(hm:m<=98000):Tot (Q156.f K (s,site,())) λr=>(bA r.1.1/\ap r.1.1.1=site)/\bf b (m+5) r.2.1:=by
 simp only[Q156.f];refine Tot.bind (aH h hs 4 (by decide) (by omega)) λv1 ⟨⟨a1,b1⟩,s1⟩=>Tot.bind (aH h s1 3 (by decide) (by omega)) λv2 ⟨⟨a2,b2⟩,s2⟩=>Tot.bind (aH h s2 12 (by decide) (by omega)) λv3 ⟨⟨a3,b3⟩,s3⟩=>Tot.bind (aH h s3 3 (by decide) (by omega)) λv4 ⟨⟨a4,b4⟩,s4⟩=>Tot.ix2 a4 b4 λy hy _=>Tot.bind (aH h s4 4 (by decide) (by omega)) λv5 ⟨⟨a5,b5⟩,s5⟩=>?_
 simp only[Q64.f,Option.bind_some];have hy:InP y 0 999:=by
  simp only[List.mem_cons,List.not_mem_nil,or_false]at hy;rcases hy with rfl|rfl|rfl <;> constructor <;> omega
 rw[aK (n:=site*4) (by omega) (by omega),aK (n:=site*4+v1.1.1) (by omega) (by omega),aK (n:=1+v5.1.1) (by omega) (by omega)];refine Tot.ret ⟨⟨⟨⟨?_,?_⟩,hy,?_,?_⟩,?_⟩,s5⟩
 ·show (0:Int)<=site*4+v1.1.1;omega
 ·show site*4+v1.1.1<=7;omega
 ·show (1:Int)<=1+v5.1.1;omega
 ·show (1:Int)+v5.1.1<=4;omega
 ·show ap (site*4+v1.1.1)=site;rw[ew ⟨by omega,by omega⟩];omega
theorem pW (h:fe b)(hs:bf b m s)(hm:m<=97000):Tot (Q157.f K (s,())) λr=>bf b (m+8) r.2.1:=by
 simp only[Q157.f];refine Tot.bind (aH h hs 2 (by decide) (by omega)) λv1 ⟨⟨a1,b1⟩,s1⟩=>Tot.bind (vo h s1 v1.1.1 a1 (by omega) (by omega)) λf ⟨_,s2⟩=>Tot.bind (aH h s2 12 (by decide) (by omega)) λv3 ⟨_,s3⟩=>?_
 have two:∀ {x y:Int} {G:(Int×Unit)×(List Int×Int)×Unit->Int->Option ((af×Unit)×(List Int×Int)×Unit)},(∀ v z,Tot (G v z) λr=>r.2.1=v.2.1)->Tot ((Q59.f K (v3.2.1,2,())).bind λv=>(idx [x,y] v.1.1).bind λ_=>(idx [x,y] (Int.toNat v.1.1:Nat)).bind (G v)) λr=>bf b (m+8) r.2.1:=λhG=>Tot.bind (aH h s3 2 (by decide) (by omega)) λv ⟨⟨a,b⟩,s4⟩=>Tot.ix2 a b λz _ _=>(hG v z).mono λr e=>by rw[e];exact s4.up (by omega)
 refine Tot.cnd (λ_=>two λ_ _=>Tot.ret rfl) λ_=>Tot.cnd (λ_=>two λ_ _=>Tot.ret rfl) λ_=>Tot.cnd (λ_=>two λ_ _=>Tot.ret rfl) λ_=>Tot.cnd (λ_=>Tot.ret (s3.up (by omega))) λ_=>Tot.ret (s3.up (by omega))
theorem vp (t:List af)(f:af):(bX t f).1.length<=t.length+1:=by
 rcases fX t f with e|e
 ·rw[e];omega
 ·rw[e];exact wv
theorem ub {t:List af}{f:af}{z:Int}(h:bK t z)(hf:ap f.1=z):bK (bX t f).1 z:=by
 rcases fX t f with e|e <;> rw[e]
 ·exact h
 ·intro g hg;rcases aZ.1 hg with rfl|⟨hg,_⟩
  ·exact hf
  ·exact h g hg
theorem te (h:fe b)(hs:bf b m s)(site:Int)(h0:-1<=site)(h1:site<=1)(hm:m<=96000)(hK:1048577<K):Tot (Q158.f K (s,site,())) λr=>(az r.1.1/\(0<=site->bK r.1.1 site)/\r.1.1.length<=5)/\bf b (m+31) r.2.1:=by
 simp only[Q158.f,Q158.pre];refine Tot.bind (aH h hs 6 (by decide) (by omega)) λv ⟨⟨v0,v1⟩,s1⟩=>?_
 refine Tot.iter (step:=λrec a=>Q158.l0.step K (s,site,()) rec a) (λa=>∃ q:Nat,0<=a.2.1/\az a.1/\(0<=site->bK a.1 site)/\(a.1.length:Int)+a.2.1<=5/\bf b q a.2.2/\q+6*a.2.1.toNat<=m+31) (λa=>a.2.1.toNat) ?_ K _ (by show v.1.1.toNat<K;omega) ⟨m+1,v0,⟨by simp,List.Pairwise.nil⟩,λ_ f hf=>(nomatch hf),by show ((0:Nat):Int)+v.1.1<=5;omega,s1,by show m+1+6*v.1.1.toNat<=m+31;omega⟩;rintro rec ⟨t,n,s2⟩ ⟨q,n0,hT,hS,hl,hs2,hq⟩ ih;simp only at n0 hT hS hl hs2 hq ih ⊢;simp only[Q158.l0.step];refine Tot.cnd (λhn=>?_) λ_=>Tot.ret ⟨⟨hT,hS,by show t.length<=5;omega⟩,hs2.up (by omega)⟩
 have hn:n>0:=of_decide_eq_true hn;rw[aK (n:=n-1) (by omega) (by omega)];have go:∀ (z:Int) (q':Nat) (s3:List Int×Int),0<=z->z<=1->(0<=site->z=site)->bf b q' s3->q'<=q+1->Tot ((Q156.f K (s3,z,())).bind λy3=>(Q100.f K (t,y3.1.1,())).bind λy4=>rec (y4.1.1,n-1,y3.2.1.1,y3.2.1.2)) λr=>(az r.1.1/\(0<=site->bK r.1.1 site)/\r.1.1.length<=5)/\bf b (m+31) r.2.1:=λz q' s3 z0 z1 hz hs3 hq'=>by
  refine Tot.bind (vo h hs3 z z0 z1 (by omega)) λy ⟨⟨hf,hfs⟩,hs4⟩=>Tot.vl (tP K t y.1.1 (by omega) hT.2 hK) (ih (_,_,y.2.1) ⟨q'+5,by show 0<=n-1;omega,jf hT hf,λh9=>ub (hS h9) (by rw[hfs];exact hz h9),?_,hs4,by show q'+5+6*(n-1).toNat<=m+31;omega⟩ (by show (n-1).toNat<n.toNat;omega))
  have:=vp t y.1.1;show ((bX t y.1.1).1.length:Int)+(n-1)<=5;omega
 refine Tot.cnd (λhneg=>?_) λhneg=>?_
 ·have hneg:site<0:=of_decide_eq_true hneg;exact Tot.bind (aH h hs2 2 (by decide) (by omega)) λv ⟨⟨a,b⟩,s3⟩=>go v.1.1 (q+1) v.2.1 a (by omega) (λh9=>by omega) s3 (Nat.le_refl _)
 ·have hneg:¬ site<0:=of_decide_eq_false hneg;exact go site q s2 (by omega) h1 (λ_=>rfl) hs2 (by omega)
theorem oA (h:fe b)(hs:bf b m s)(hm:m<=95000)(hK:1048577<K):Tot (Q159.f K (s,())) λr=>r.1.1.length<=6/\bf b (m+42) r.2.1:=by
 simp only[Q159.f];refine Tot.bind (te h hs (-1) (by decide) (by decide) (by omega) hK) λt ⟨⟨hT,_,hl⟩,s1⟩=>?_
 refine Tot.cnd (λh1=>?_) λ_=>Tot.ret ⟨by show t.1.1.length<=6;omega,s1.up (by omega)⟩
 have h1:(t.1.1.length:Int)>0:=of_decide_eq_true h1;refine Tot.bind (aH h s1 12 (by decide) (by omega)) λv2 ⟨_,s2⟩=>Tot.cnd (λ_=>?_) λ_=>Tot.ret ⟨by show t.1.1.length<=6;omega,s2.up (by omega)⟩
 refine Tot.bind (aH h s2 (t.1.1.length:Int) (by omega) (by omega)) λv3 ⟨⟨a3,b3⟩,s3⟩=>Tot.bind (aH h s3 3 (by decide) (by omega)) λv4 ⟨_,s4⟩=>?_
 refine Tot.cnd (λ_=>Tot.bind (pW h s4 (by omega)) λf s5=>Tot.ix2 a3 b3 λ_ _ _=>Tot.ret ⟨by show (t.1.1.set _ _).length<=6;rw[List.length_set];omega,s5.up (by omega)⟩) λ_=>?_
 refine Tot.cnd (λ_=>Tot.ix2 a3 b3 λy _ _=>Tot.fit (Tot.ret ⟨by show (t.1.1++[y]).length<=6;simp;omega,s4.up (by omega)⟩) (by omega) (by simp;omega)) λ_=>Tot.ix2 a3 b3 λy _ _=>Tot.ret ⟨by show (t.1.1.set _ _).length<=6;rw[List.length_set];omega,s4.up (by omega)⟩
theorem yh (h:fe b)(hs:bf b m s)(site:Int)(h0:-1<=site)(h1:site<=1)(hm:m<=95000)(hK:1048577<K):Tot (Q160.f K (s,site,())) λr=>r.1.1.length<=5/\bf b (m+36) r.2.1:=by
 simp only[Q160.f,Q160.pre];refine Tot.bind (te h hs site h0 h1 (by omega) hK) λt ⟨⟨hT,_,hl⟩,s1⟩=>?_
 refine Tot.iter (step:=λrec a=>Q160.l0.step K (s,site,()) rec a) (λa=>a.2.1=t.1.1/\0<=a.2.2.1/\a.2.2.1<=t.1.1.length/\(a.1.length:Int)=a.2.2.1/\bf b (m+31+a.2.2.1.toNat) a.2.2.2) (λa=>t.1.1.length-a.2.2.1.toNat) ?_ K _ (by show t.1.1.length-Int.toNat 0<K;omega) ⟨rfl,by show (0:Int)<=0;omega,by show (0:Int)<=_;omega,rfl,s1⟩;rintro rec ⟨acc,t',i,s2⟩ ⟨e,i0,i1,hla,hs2⟩ ih;simp only at e i0 i1 hla hs2 ih ⊢;subst e;simp only[Q160.l0.step];refine Tot.cnd (λhi=>?_) λ_=>Tot.ret ⟨by show acc.length<=5;omega,hs2.up (by omega)⟩
 have hi:i<(t.1.1.length:Int):=of_decide_eq_true hi;rw[aK (n:=i+1) (by omega) (by omega)];refine Tot.ix2 i0 hi λy _ _=>Tot.bind (aH h hs2 4 (by decide) (by omega)) λv ⟨_,s3⟩=>Tot.fit (ih (_,_,_,v.2.1) ⟨rfl,by show 0<=i+1;omega,by show i+1<=_;omega,?_,s3.up (by show _<=m+31+(i+1).toNat;omega)⟩ (by show t.1.1.length-(i+1).toNat<t.1.1.length-i.toNat;omega)) (by omega) (by simp;omega)
 show ((acc++[_]).length:Int)=i+1;simp;omega
theorem uc (h:fe b)(hs:bf b m s)(hm:m<=94000)(hK:1048577<K):Tot (Q161.f K (s,())) λr=>r.1.1.length<=6/\bf b (m+50) r.2.1:=by
 simp only[Q161.f];refine Tot.bind (yh h hs (-1) (by decide) (by decide) (by omega) hK) λt ⟨hl,s1⟩=>?_
 refine Tot.cnd (λh1=>?_) λ_=>Tot.ret ⟨by show t.1.1.length<=6;omega,s1.up (by omega)⟩
 have h1:(t.1.1.length:Int)>0:=of_decide_eq_true h1;refine Tot.bind (aH h s1 10 (by decide) (by omega)) λv2 ⟨_,s2⟩=>Tot.cnd (λ_=>?_) λ_=>Tot.ret ⟨by show t.1.1.length<=6;omega,s2.up (by omega)⟩
 refine Tot.bind (aH h s2 (t.1.1.length:Int) (by omega) (by omega)) λv3 ⟨⟨a3,b3⟩,s3⟩=>Tot.bind (aH h s3 3 (by decide) (by omega)) λv4 ⟨_,s4⟩=>?_
 refine Tot.cnd (λ_=>Tot.bind (aH h s4 2 (by decide) (by omega)) λv5 ⟨⟨a5,b5⟩,s5⟩=>Tot.ix2 a5 b5 λ_ _ _=>Tot.ix2 a3 b3 λ_ _ _=>Tot.ret ⟨by show (t.1.1.set _ _).length<=6;rw[List.length_set];omega,s5.up (by omega)⟩) λ_=>?_
 refine Tot.cnd (λ_=>Tot.bind (pW h s4 (by omega)) λf s5=>Tot.ix2 a3 b3 λ_ _ _=>Tot.ret ⟨by show (t.1.1.set _ _).length<=6;rw[List.length_set];omega,s5.up (by omega)⟩) λ_=>?_
 exact Tot.ix2 a3 b3 λy _ _=>Tot.fit (Tot.ret ⟨by show (t.1.1++[y]).length<=6;simp;omega,s4.up (by omega)⟩) (by omega) (by simp;omega)
theorem vq (h:fe b)(hs:bf b m s)(hm:m<=95000):Tot (Q162.f K (s,())) λr=>bf b (m+6) r.2.1:=by
 simp only[Q162.f,Q62.f];refine Tot.bind (aH h hs 6 (by decide) (by omega)) λv1 ⟨_,s1⟩=>Tot.cnd (λ_=>Tot.ret (s1.up (by omega))) λ_=>Tot.bind (aH h s1 3 (by decide) (by omega)) λv3 ⟨⟨a3,b3⟩,s3⟩=>Tot.ix2 a3 b3 λy hy _=>?_
 have hy:InP y 10 100000:=by
  simp only[List.mem_cons,List.not_mem_nil,or_false]at hy;rcases hy with rfl|rfl|rfl <;> constructor <;> omega
 rw[aK (n:=2*y) (by omega) (by omega),aK (n:=2*y+1) (by omega) (by omega),aK (n:=y+1) (by omega) (by omega)];exact Tot.bind (aH h s3 _ (by omega) (by omega)) λv6 ⟨_,s6⟩=>Tot.bind (aH h s6 _ (by omega) (by omega)) λv7 ⟨_,s7⟩=>Tot.bind (aH h s7 _ (by omega) (by omega)) λv8 ⟨_,s8⟩=>Tot.bind (aH h s8 _ (by decide) (by omega)) λv9 ⟨_,s9⟩=>Tot.ret s9
theorem oB (h:fe b)(hs:bf b m s)(hm:m<=94000):Tot (Q163.f K (s,())) λr=>bf b (m+8) r.2.1:=by
 simp only[Q163.f];exact Tot.bind (vq h hs (by omega)) λc s1=>Tot.bind (aH h s1 16 (by decide) (by omega)) λv2 ⟨_,s2⟩=>Tot.cnd (λ_=>Tot.bind (aH h s2 3 (by decide) (by omega)) λv ⟨⟨a,b⟩,s3⟩=>Tot.ix2 a b λ_ _ _=>Tot.ret s3) λ_=>Tot.cnd (λ_=>Tot.bind (aH h s2 2 (by decide) (by omega)) λv ⟨⟨a,b⟩,s3⟩=>Tot.ix2 a b λ_ _ _=>Tot.ret s3) λ_=>Tot.cnd (λ_=>Tot.bind (aH h s2 2 (by decide) (by omega)) λv ⟨⟨a,b⟩,s3⟩=>Tot.ix2 a b λ_ _ _=>Tot.ret s3) λ_=>Tot.ret (s2.up (by omega))
theorem vr (h:fe b)(hs:bf b m s)(w:bO)(hm:m<=95000):Tot (Q151.f K (s,w,())) λr=>bf b (m+2) r.2.1:=by
 simp only[Q151.f];refine Tot.cnd (λ_=>Tot.ret (hs.up (by omega))) λh1=>?_
 have h1:¬ (w.2.1.length:Int)=0:=by simpa using h1
 refine Tot.bind (aH h hs 3 (by decide) (by omega)) λv1 ⟨_,s1⟩=>Tot.cnd (λ_=>Tot.cnd (λ_=>Tot.bind (aH h s1 4 (by decide) (by omega)) λv ⟨_,s2⟩=>Tot.ret s2) λ_=>?_) λ_=>?_ <;>
 exact Tot.bind (aH h s1 _ (by show (1:Int)<=(w.2.1.length:Int);omega) (by omega)) λv ⟨_,s2⟩=>Tot.ret s2
theorem yi (h:fe b)(hs:bf b m s)(w:bO)(hm:m<=94000):Tot (Q152.f K (s,w,())) λr=>bf b (m+8) r.2.1:=by
 simp only[Q152.f];refine Tot.bind (aH h hs 8 (by decide) (by omega)) λv1 ⟨_,s1⟩=>Tot.bind (aH h s1 256 (by decide) (by omega)) λv2 ⟨_,s2⟩=>Tot.bind (aH h s2 16 (by decide) (by omega)) λv3 ⟨_,s3⟩=>Tot.bind (aH h s3 40 (by decide) (by omega)) λv4 ⟨_,s4⟩=>?_
 have s4:bf b (m+4) v4.2.1:=s4.up (by omega);generalize v4.2.1=z at s4 ⊢;have u4:bf b (m+8) z:=s4.up (by omega);have pl:=vr (K:=K) h s4 w (by omega);have pk:∀ n:Int,1<=n->Tot (Q59.f K (z,n,())) λr=>bf b (m+8) r.2.1:=λn hn=>(aH h s4 n hn (by omega)).mono λr hr=>hr.2.up (by omega)
 have pp:∀ (z':List Int×Int) (n:Int),bf b (m+4+2) z'->1<=n->Tot (Q59.f K (z',n,())) λr=>bf b (m+8) r.2.1:=λz' n h1 hn=>(aH h h1 n hn (by omega)).mono λr hr=>hr.2.up (by omega)
 repeat' first
  |exact Tot.ret u4
  |exact Tot.bind pl λv hv=>Tot.ret (bf.up hv (by omega))
  |exact Tot.bind pl λv hv=>Tot.bind (pp _ _ hv (by decide)) λv hv=>Tot.ret hv
  |exact Tot.bind (pk _ (by decide)) λv hv=>Tot.ret hv
  |exact Tot.bind (pk _ (by decide)) λv hv=>Tot.cnd (λ_=>Tot.ret hv) λ_=>Tot.ret hv
  |refine Tot.cnd (λ_=>?_) λ_=>?_
theorem yj (h:fe b)(hs:bf b m s)(most:Int)(h1:1<=most)(h2:most<=200)(hm:m<=90000)(hK:1048577<K):Tot (Q153.f K (s,most,())) λr=>(WI r.1.2.1 2000/\r.1.1.length<=300)/\bf b (m+8*most.toNat+2) r.2.1:=by
 simp only[Q153.f,Q153.pre];have loop:∀ (out:List af) (n:Int) (z:List Int×Int) (w:bO) (q c:Nat),0<=n->n<most->out.length<=24->bf b q z->q<=m+2->WI w c->c<=200->Tot (Q153.l1 K (s,most,()) (out,n,z.1,z.2,w)) λr=>(WI r.1.2.1 2000/\r.1.1.length<=300)/\bf b (m+8*most.toNat+2) r.2.1:=λout n z w q c n0 n1 ho hz hq hw hc=>by
  refine Tot.iter (step:=λrec a=>Q153.l1.step K (s,most,()) rec a) (λa=>∃ q c:Nat,0<=a.2.1/\a.2.1<most/\(a.1.length:Int)+a.2.1<=24+most/\bf b q (a.2.2.1,a.2.2.2.1)/\q+8*a.2.1.toNat<=m+8*most.toNat+2/\WI a.2.2.2.2 c/\c+4*a.2.1.toNat<=2000) (λa=>a.2.1.toNat) ?_ K _ (by show n.toNat<K;omega) ⟨q,c,n0,n1,by show (out.length:Int)+n<=_;omega,hz,by show q+8*n.toNat<=_;omega,hw,by show c+4*n.toNat<=2000;omega⟩;clear hz hq hw hc n0 n1 ho;rintro rec ⟨out,n,z1,z2,w⟩ ⟨q,c,n0,n1,ho,hz,hq,hw,hc⟩ ih;simp only at n0 n1 ho hz hq hw hc ih ⊢;simp only[Q153.l1.step];refine Tot.cnd (λhn=>?_) λ_=>Tot.vl (hw.copy (by omega) K hK) (Tot.ret ⟨⟨hw.mono (by omega),by show out.length<=300;omega⟩,hz.up (by omega)⟩)
  have hn:n>0:=of_decide_eq_true hn;rw[aK (n:=n-1) (by omega) (by omega)];refine Tot.bind (yi h hz w (by omega)) λe he=>Tot.fit (Tot.vl (hw.copy (by omega) K hK) (Tot.bind (do_t K w c hw (by omega) e.1.1 hK) ?_)) (by omega) (by simp;omega)
  rintro⟨⟨v',ok,⟨⟩⟩,⟨⟩⟩ hv;have go:∀ u:bO,WI u (c+4)->Tot (rec (out++[e.1.1],n-1,e.2.1.1,e.2.1.2,u)) λr=>(WI r.1.2.1 2000/\r.1.1.length<=300)/\bf b (m+8*most.toNat+2) r.2.1:=λu hu=>ih _ ⟨q+8,c+4,by show 0<=n-1;omega,by show n-1<most;omega,by show ((out++[e.1.1]).length:Int)+(n-1)<=_;simp;omega,he,by show q+8+8*(n-1).toNat<=_;omega,hu,by show c+4+4*(n-1).toNat<=2000;omega⟩ (by show (n-1).toNat<n.toNat;omega)
  exact Tot.cnd (λ_=>go v' hv) λ_=>go w (hw.mono (by omega))
 refine Tot.bind (ua K hK) λw0 hw0=>Tot.bind (aH h hs 3 (by decide) (by omega)) λv2 ⟨_,s2⟩=>Tot.cnd (λ_=>?_) λ_=>Tot.bind (aH h s2 most h1 (by omega)) λv9 ⟨⟨a9,b9⟩,s9⟩=>loop [] v9.1.1 v9.2.1 w0.1.1 (m+2) 8 a9 b9 (by simp) s9 (Nat.le_refl _) hw0 (by omega)
 refine Tot.iter (step:=λrec a=>Q153.l0.step K (s,most,()) (Q153.l1 K (s,most,())) rec a) (λa=>0<=a.2.1/\a.2.1<=8/\(a.1.length:Int)<=3*a.2.1/\bf b (m+1) (a.2.2.1,a.2.2.2.1)/\WI a.2.2.2.2 8) (λa=>8-a.2.1.toNat) ?_ K _ (by show 8-Int.toNat 0<K;omega) ⟨by show (0:Int)<=0;omega,by show (0:Int)<=8;omega,by show ((0:Nat):Int)<=3*0;omega,s2,hw0⟩;rintro rec ⟨out,i,z1,z2,w⟩ ⟨i0,i1,ho,hz,hw⟩ ih;simp only at i0 i1 ho hz hw ih ⊢;simp only[Q153.l0.step];refine Tot.cnd (λhi=>?_) λ_=>?_
 ·have hi:i<=7:=of_decide_eq_true hi;rw[aK (n:=i+1) (by omega) (by omega)];have go:∀ out':List af,(out'.length:Int)<=3*(i+1)->Tot (rec (out',i+1,z1,z2,w)) λr=>(WI r.1.2.1 2000/\r.1.1.length<=300)/\bf b (m+8*most.toNat+2) r.2.1:=λout' ho'=>ih _ ⟨by show 0<=i+1;omega,by show i+1<=8;omega,ho',hz,hw⟩ (by show 8-(i+1).toNat<8-i.toNat;omega)
  exact Tot.cnd (λ_=>Tot.fit (Tot.fit (go _ (by simp;omega)) (by omega) (by simp;omega)) (by omega) (by simp;omega)) λ_=>go out (by omega)
 ·refine Tot.bind (zk K w 8 out hw (by omega) (by omega) hK) λv ⟨hv,ev⟩=>Tot.bind (aH h hz most h1 (by omega)) λv4 ⟨⟨a4,b4⟩,s4⟩=>?_
  exact loop v.2.1 v4.1.1 v4.2.1 v.1.1 (m+1+1) _ a4 b4 (by rw[ev];omega) s4 (by omega) hv (by omega)
theorem yk (h:fe b)(hs:bf b m s)(hm:m<=90000)(hK:1048577<K):Tot (Q154.f K (s,())) λr=>WI r.1.1 2000/\bf b (m+802) r.2.1:=by
 simp only[Q154.f];exact Tot.bind (yj h hs 100 (by decide) (by decide) hm hK) λv hv=>Tot.ret ⟨hv.1.1,hv.2⟩
theorem wT (h:fe b)(hs:bf b m s)(hm:m<=90000)(hK:1048577<K):Tot (Q155.f K (s,())) λr=>(∃ i,dv i r.1.1)/\bf b (m+803) r.2.1:=by
 simp only[Q155.f];refine Tot.bind (yk h hs hm hK) λw ⟨hw,s1⟩=>Tot.bind (aH h s1 _ (by have:=hw.len;show (1:Int)<=(w.1.1.1.length:Int);omega) (by omega)) λv ⟨⟨a,b⟩,s2⟩=>Tot.ix a b λy hy _=>Tot.ret ⟨?_,s2⟩
 obtain⟨i,hi,rfl⟩:=List.getElem_of_mem hy;exact⟨i,hw.node i hi⟩
structure NS (c:Nat) (n:aa):Prop where
 nb:NB n
 table:(aa.table n).length<=c
 cast:(aa.cast n).length<=c
 doubts:(aa.doubts n).length<=c
 places:(aa.places n).length<=c
 others:(aa.others n).length<=c
theorem dv.ns {i:Nat}{n:aa}(h:dv i n):NS 8 n:=by
 cases hu:n.2.1 with
 |true =>
  have hU:=h.up hu;refine⟨h.nb,by have:=h.short;omega,by have:=clen hU.x.say;omega,?_,?_,?_⟩
  ·exact Nat.le_trans (gJ hU.x.say.asc hU.x.say.inp) (by decide)
  ·exact Nat.le_trans (gJ hU.x.places.2 λx hx=>(hU.x.places.1 x hx).1) (by decide)
  ·exact Nat.le_trans (gJ hU.x.others.2 λx hx=>⟨(hU.x.others.1 x hx).1.1,Int.le_trans (hU.x.others.1 x hx).1.2 (by decide)⟩) (by decide)
 |false =>
  have e:=h.down hu;refine⟨h.nb,?_,?_,?_,?_,?_⟩ <;> rw[e] <;> exact Nat.zero_le _
theorem vt (h:fe b)(hs:bf b m s)(n:aa){c:Nat}(hn:NS c n)(h8:8<=c)(hc:c<=1000)(hm:m<=90000)(hK:1048577<K):Tot (Q164.f K (s,n,())) λr=>NS (c+1) r.1.1/\bf b (m+60) r.2.1:=by
 simp only[Q164.f];rw[uP K n hn.nb hK];simp only[Option.bind_some];obtain⟨⟨n1,n2,n3,n4,n5,n6,n7,n8⟩,l1,l2,l3,l4,l5⟩:=hn;refine Tot.bind (aH h hs 12 (by decide) (by omega)) λv2 ⟨_,s2⟩=>?_
 have same:∀ (n':aa) (z:List Int×Int),n'.2.2.2.2.2.2.2.2=n.2.2.2.2.2.2.2.2->bf b (m+60) z->NS (c+1) n'/\bf b (m+60) z:=λn' z e hz=>by
  refine⟨⟨⟨?_,?_,?_,?_,?_,?_,?_,?_⟩,?_,?_,?_,?_,?_⟩,hz⟩ <;> simp only[aa.table,aa.cast,aa.doubts,aa.places,aa.others] <;> rw[e] <;> first|assumption|(refine Nat.le_trans ?_ (Nat.le_succ c);assumption)
 have u2:bf b (m+60) v2.2.1:=s2.up (by omega);refine Tot.cnd (λ_=>Tot.bind (oA h s2 (by omega) hK) λt ⟨tl,s3⟩=>Tot.ret ⟨⟨⟨by show t.1.1.length<=_;omega,n2,n3,n4,n5,n6,n7,n8⟩,by show t.1.1.length<=_;omega,Nat.le_succ_of_le l2,Nat.le_succ_of_le l3,Nat.le_succ_of_le l4,Nat.le_succ_of_le l5⟩,s3.up (by omega)⟩) λ_=>?_
 refine Tot.cnd (λ_=>Tot.bind (uc h s2 (by omega) hK) λt ⟨tl,s3⟩=>Tot.ret ⟨⟨⟨n1,by show t.1.1.length<=_;omega,n3,n4,n5,n6,n7,n8⟩,Nat.le_succ_of_le l1,by show t.1.1.length<=_;omega,Nat.le_succ_of_le l3,Nat.le_succ_of_le l4,Nat.le_succ_of_le l5⟩,s3.up (by omega)⟩) λ_=>?_
 refine Tot.cnd (λ_=>Tot.ret (same _ _ rfl u2)) λ_=>?_
 refine Tot.cnd (λ_=>Tot.bind (aH h s2 9 (by decide) (by omega)) λv5 ⟨_,s5⟩=>Tot.bind (aH h s5 3 (by decide) (by omega)) λv6 ⟨_,s6⟩=>Tot.bind (aH h s6 3 (by decide) (by omega)) λv7 ⟨_,s7⟩=>Tot.bind (aH h s7 2 (by decide) (by omega)) λv8 ⟨_,s8⟩=>Tot.ret ⟨⟨⟨n1,n2,n3,n4,n5,n6,n7,n8⟩,Nat.le_succ_of_le l1,Nat.le_succ_of_le l2,Nat.le_succ_of_le l3,Nat.le_succ_of_le l4,Nat.le_succ_of_le l5⟩,s8.up (by omega)⟩) λ_=>?_
 refine Tot.cnd (λ_=>Tot.bind (aH h s2 8 (by decide) (by omega)) λv9 ⟨_,s9⟩=>Tot.bind (aH h s9 8 (by decide) (by omega)) λv10 ⟨_,s10⟩=>Tot.fit (Tot.ret ⟨⟨⟨n1,n2,?_,?_,n5,n6,n7,n8⟩,Nat.le_succ_of_le l1,Nat.le_succ_of_le l2,?_,Nat.le_succ_of_le l4,Nat.le_succ_of_le l5⟩,s10.up (by omega)⟩) (by omega) ?_) λ_=>?_
 ·show (aa.doubts n++[_]).length<=_;simp;omega
 ·intro d hd;rcases List.mem_append.1 hd with hd|hd
  ·exact n4 d hd
  ·rw[List.mem_singleton.1 hd];show ([v10.1.1]:List Int).length<=_;simp
 ·show (aa.doubts n++[_]).length<=_;simp;omega
 ·show (aa.doubts n).length+_<=_;simp;omega
 refine Tot.cnd (λ_=>Tot.bind (oB h s2 (by omega)) λc s3=>Tot.ret ⟨⟨⟨n1,n2,n3,n4,n5,n6,n7,n8⟩,Nat.le_succ_of_le l1,Nat.le_succ_of_le l2,Nat.le_succ_of_le l3,Nat.le_succ_of_le l4,Nat.le_succ_of_le l5⟩,s3.up (by omega)⟩) λ_=>?_
 refine Tot.cnd (λ_=>Tot.bind (aH h s2 9 (by decide) (by omega)) λv9 ⟨_,s9⟩=>Tot.bind (oB h s9 (by omega)) λc s10=>Tot.bind (aH h s10 3 (by decide) (by omega)) λv11 ⟨_,s11⟩=>Tot.fit (Tot.ret ⟨⟨⟨n1,n2,n3,n4,?_,?_,n7,n8⟩,Nat.le_succ_of_le l1,Nat.le_succ_of_le l2,Nat.le_succ_of_le l3,?_,Nat.le_succ_of_le l5⟩,s11.up (by omega)⟩) (by omega) ?_) λ_=>?_
 ·show (aa.places n++[_]).length<=_;simp;omega
 ·intro d hd;rcases List.mem_append.1 hd with hd|hd
  ·exact n6 d hd
  ·rw[List.mem_singleton.1 hd];show ([v11.1.1]:List Int).length<=_;simp
 ·show (aa.places n++[_]).length<=_;simp;omega
 ·show (aa.places n).length+_<=_;simp;omega
 refine Tot.cnd (λ_=>Tot.bind (aH h s2 3 (by decide) (by omega)) λv9 ⟨_,s9⟩=>Tot.bind (oA h s9 (by omega) hK) λt ⟨tl,s10⟩=>Tot.fit (Tot.ret ⟨⟨⟨n1,n2,n3,n4,n5,n6,?_,?_⟩,Nat.le_succ_of_le l1,Nat.le_succ_of_le l2,Nat.le_succ_of_le l3,Nat.le_succ_of_le l4,?_⟩,s10.up (by omega)⟩) (by omega) ?_) λ_=>?_
 ·show (aa.others n++[_]).length<=_;simp;omega
 ·intro d hd;rcases List.mem_append.1 hd with hd|hd
  ·exact n8 d hd
  ·rw[List.mem_singleton.1 hd];show t.1.1.length<=_;omega
 ·show (aa.others n++[_]).length<=_;simp;omega
 ·show (aa.others n).length+_<=_;simp;omega
 refine Tot.cnd (λ_=>Tot.ret (same _ _ rfl u2)) λ_=>Tot.cnd (λ_=>Tot.ret (same _ _ rfl u2)) λ_=>?_
 refine Tot.cnd (λ_=>Tot.bind (aH h s2 3 (by decide) (by omega)) λv ⟨⟨a,b⟩,s3⟩=>Tot.ix2 a b λ_ _ _=>Tot.ret (same _ _ rfl (s3.up (by omega)))) λ_=>?_
 exact Tot.bind (aH h s2 8 (by decide) (by omega)) λv9 ⟨_,s9⟩=>Tot.bind (aH h s9 3 (by decide) (by omega)) λv ⟨⟨a,b⟩,s3⟩=>Tot.ix2 a b λ_ _ _=>Tot.ret (same _ _ rfl (s3.up (by omega)))
end
end Go.Proofs.YtmcbmojdeikcdaaGreatEv
namespace Go.Proofs.YtmcbmojdeikcdaaGreatEv
open Go
theorem qo (K:Nat)(n:aa)(hn:NB n)(hK:1048577<K):∃ r:List af,r.length<=1048576/\spec_NodeView.f K (n,())=some ((r,()),())/\Q186.f K (n,())=some ((r,()),())/\((¬ (cL n/\n.2.1=true)/\r=[])\/(cL n/\n.2.1=true/\r=fu n)):=by
 obtain⟨b,h1,h2,h3⟩:=iq K n hn hK;cases b with
 |false =>
  refine⟨[],by simp,?_,?_,.inl ⟨λh=>(by have:=h3.2 h.1;cases this),rfl⟩⟩
  ·simp only[spec_NodeView.f,spec_NodeView.pre];rw[h1];rfl
  ·simp only[Q186.f,Q186.pre];rw[h2];rfl
 |true =>
  have hP:=h3.1 rfl;cases hu:n.2.1 with
  |false =>
   refine⟨[],by simp,?_,?_,.inl ⟨λh=>(by cases h.2),rfl⟩⟩
   ·simp only[spec_NodeView.f,spec_NodeView.pre];rw[h1];simp only[Option.bind_some,hu];rfl
   ·simp only[Q186.f,Q186.pre];rw[h2];simp only[Option.bind_some,hu];rfl
  |true =>
   refine⟨fu n,by have:=tZ hn hP;omega,wQ K n hn hP hu hK,?_,.inr ⟨hP,rfl,rfl⟩⟩;simp only[Q186.f,Q186.pre];rw[h2];simp only[Option.bind_some,hu,Bool.not_true,cond_false];rw[wP K n hn hP hK];rfl
end Go.Proofs.YtmcbmojdeikcdaaGreatEv
namespace Go.Proofs.YtmcbmojdeikcdaaGreatEv
open Go
section
variable {K:Nat} {b:List Int} {m:Nat} {s:List Int×Int}
theorem vu (h:fe b)(hs:bf b m s)(hm:m<=89000)(hK:1048577<K):Tot (Q165.f K (s,())) λr=>NS 9 r.1.1/\bf b (m+864) r.2.1:=by
 simp only[Q165.f];refine Tot.bind (wT h hs (by omega) hK) λn ⟨⟨i,hn⟩,s1⟩=>Tot.bind (aH h s1 20 (by decide) (by omega)) λv ⟨_,s2⟩=>Tot.cnd (λ_=>Tot.bind (vt h s2 n.1.1 hn.ns (Nat.le_refl _) (by omega) (by omega) hK) λr hr=>Tot.ret hr) λ_=>Tot.ret ⟨?_,s2.up (by omega)⟩
 obtain⟨h1,h2,h3,h4,h5,h6⟩:=hn.ns;exact⟨h1,Nat.le_succ_of_le h2,Nat.le_succ_of_le h3,Nat.le_succ_of_le h4,Nat.le_succ_of_le h5,Nat.le_succ_of_le h6⟩
end
theorem bf.zero (b:List Int):bf b 0 (b,0):=⟨0,Nat.le_refl _,rfl⟩
structure vv (code:List Int):Prop where
 byte:∀ y∈code,0<=y/\y<=255
 len:code.length<=9223372036854775807
theorem sw (K:Nat)(code:List Int)(hc:vv code)(hK:1048577<K):Tot (Q166.f K (code,())) λr=>NS 9 r.1.1:=by
 obtain⟨bs,hR,e⟩:=zl (K:=K) code hc.byte hc.len;simp only[Q166.f];exact Tot.vl e (Tot.bind (vu hR (bf.zero bs) (by omega) hK) λn ⟨hn,s1⟩=>Tot.bind (aH hR s1 4 (by decide) (by omega)) λv _=>Tot.ret hn)
theorem sx (K:Nat)(xs:List Int)(hx:xs.length<=1048576)(hK:1048577<K):Q3.f K (xs,xs,())=rb true:=by
 have hl:Q3.l0 K (xs,xs,()) 0=rb true:=by
  refine mo (step:=λrec a=>Q3.l0.step K (xs,xs,()) rec a) xs.length (λi=>(i:Int)) (rb true) ?_ ?_ (by omega)
  ·intro rec i hi;simp only[Q3.l0.step];rw[decide_eq_true (by omega:(i:Int)<(List.length xs:Int)),ai hi,av i (by omega)];simp only[cond_true,Option.bind_some,bne_self_eq_false,cond_false]
  ·intro rec;simp only[Q3.l0.step,bd];rfl
 simp only[Q3.f,Q3.pre,bne_self_eq_false,cond_false];exact hl
theorem rA {me:Int}{l:List bU}(hm:InP me 0 7)(h:cg me l)(s:Int):cU l s=cz l s:=by
 unfold cU cz;rcases gL hm h with e|⟨x,e⟩ <;> rw[e]
 ·rfl
 ·rw[List.filter_cons,List.find?_cons];cases x.1==s <;> simp
theorem ud {me:Int}{l:List bU}(h:cg me l):cz l (ap me)=[]:=by
 rcases iA (l:=l) (s:=ap me) with e|⟨x,hx,e,_⟩
 ·exact e
 ·exact absurd e (h.1 x hx).2.1
theorem ue {me:Int}{l:List bU}(h:cg me l)(s:Int):bK (cz l s) s:=by
 rcases iA (l:=l) (s:=s) with e|⟨x,hx,e1,e⟩ <;> rw[e]
 ·intro f hf;cases hf
 ·rw[<- e1];exact (h.1 x hx).2.2.2.2
theorem tf {n:aa}(hP:cL n)(hu:n.2.1=true)(s:Int):bV n s=bif s==ap n.1 then aa.table n else cz (aa.others n) s:=by
 obtain⟨_,_,_,_,_,_,_,_,hO⟩:=hP.up hu;unfold bV;rw[rA hP.1 hO];cases hs:s==ap n.1 with
 |false=>rfl
 |true =>
  rw[show s=ap n.1 by simpa using hs,ud hO];simp
theorem my {n:aa}(hP:cL n)(hu:n.2.1=true)(s:Int):az (bV n s)/\bK (bV n s) s:=by
 obtain⟨hT,hS,_,_,_,_,_,_,hO⟩:=hP.up hu;rw[tf hP hu];cases hs:s==ap n.1 with
 |true=>rw[show s=ap n.1 by simpa using hs];exact⟨hT,hS⟩
 |false=>exact⟨nr hO s,ue hO s⟩
theorem tg {n:aa}(hn:NB n)(hP:cL n)(hu:n.2.1=true):fu n=bV n 0++bV n 1:=mM hn hP hu
theorem e9 {n:aa}(hn:NB n)(hP:cL n)(hu:n.2.1=true):az (fu n):=by
 rw[tg hn hP hu];obtain⟨a1,a2⟩:=my hP hu 0;obtain⟨b1,b2⟩:=my hP hu 1;refine⟨λf hf=>(List.mem_append.1 hf).elim (a1.1 f) (b1.1 f),?_⟩;unfold Asc;rw[List.pairwise_append];refine⟨a1.2,b1.2,λf hf g hg=>?_⟩;have h1:=a2 f hf;have h2:=b2 g hg;rw[ew (a1.1 f hf).1]at h1;rw[ew (b1.1 g hg).1]at h2;show f.1<g.1;omega
theorem wU {n:aa}(hP:cL n)(hu:n.2.1=true){s:Int}(h0:s≠0)(h1:s≠1):bV n s=[]:=by
 obtain⟨ht,hs⟩:=my hP hu s;cases hp:bV n s with
 |nil=>rfl
 |cons f l =>
  rw[hp]at ht hs;have:=hs f (by simp);have hf:=(ht.1 f (by simp)).1;obtain⟨f0,f1⟩:=sY hf;omega
theorem vw {n:aa}(hn:NB n)(hP:cL n)(hu:n.2.1=true){s:Int}{f:af}(hf:f∈bV n s):f∈fu n:=by
 rw[tg hn hP hu];by_cases h0:s=0
 ·subst h0;exact List.mem_append_left _ hf
 ·by_cases h1:s=1
  ·subst h1;exact List.mem_append_right _ hf
  ·rw[wU hP hu h0 h1]at hf;cases hf
theorem uf (K:Nat){t:List af}{f:af}(hT:az t)(hf:f∈t)(hK:1048577<K):Q14.f K (t,f.1,())=some ((f,true,()),()):=by
 rcases jA K t f.1 (cC hT) hK with ⟨h,_⟩|⟨_,⟨g,hg,e,h⟩|⟨h,_⟩⟩
 ·exact absurd hT h
 ·rw[h,fU hT.2 hg hf e]
 ·exact absurd rfl (h f hf)
end Go.Proofs.YtmcbmojdeikcdaaGreatEv
