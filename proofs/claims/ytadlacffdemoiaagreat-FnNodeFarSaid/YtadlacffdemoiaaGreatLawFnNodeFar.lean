/- FnNodeFar: the plain law. -/
import Derived.Test.YtadlacffdemoiaaGreatP3
set_option linter.unusedVariables false
set_option linter.unusedSimpArgs false
open Bool renaming not_true->BZ
open List renaming getElem_mem->BX,getElem_of_mem->BY
open Option renaming bind_some->BV,bind->BW
namespace Go.Proofs.YtadlacffdemoiaaGreatEv
open Go
def lK (s:Int)(l:List aY)(i:Nat):Bool:=(l.take i).any λy=>y.1==s
theorem uK {s:Int}{l:List aY}{i:Nat}(r:i<l.length):lK s l (i+1)=(lK s l i||l[i].1==s):=AJ (λy:aY=>y.1==s) r
theorem wB {s:Int}{l:List aY}{y:aY}(r:y∈l)(e:y.1=s):lK s l l.length=true:=by
 unfold lK;rw[List.take_length,List.any_eq_true];exact⟨y,r,by simpa using e⟩
theorem AN {α:Type}{k:α->Int}{x:α}{l:List α}:(a7 k x l).length<=l.length+1:=by
  unfold a7;have:(l.filter λy=>decide (k y<k x)).length+(l.filter λy=>decide (k x<k y)).length<=l.length:=by
    induction l with
    |nil=>exact Nat.le_refl _
    |cons a l z =>
      simp only[List.filter_cons];by_cases r:k a<k x
      · have:¬ k x<k a:=by omega
        simp[r,this];omega
      · by_cases u:k x<k a
        · simp[r,u];omega
        · simp[r,u];omega
  simp only[List.length_append,List.length_cons];omega
theorem mw {u:Int}{l:List aY}(h:cM u l){x:aY}(r:x∈l):dk l x.1=x.2:=by
 obtain⟨i,y,rfl⟩:=BY r;unfold dk;rw[md (k:=λx:aY=>x.1) h.2 y rfl];rfl
theorem wC {J:Int}{l:List aY}(h:cM J l){s:Int}{t:List af}(M:∀ f∈t,aV f){x:aY}(r:x∈l) :
  (∃ y∈a7 (λx:aY=>x.1) (s,putAll (dk l s) t) l,y.1=x.1)/\∀ y∈a7 (λx:aY=>x.1) (s,putAll (dk l s) t) l,y.1=x.1->gl x.2 y.2:=by
 constructor
 ·by_cases e:x.1=s
  ·exact⟨_,aO.2 (.inl rfl),e.symm⟩
  ·exact⟨x,aO.2 (.inr ⟨r,e⟩),rfl⟩
 ·intro y u e;rcases aO.1 u with rfl|⟨u,_⟩
  ·have e:s=x.1:=e;rw[e,mw h r];have O:aw x.2:=by rw[<- mw h r];exact jj h _
   exact gl.putAll O M
  ·have:y=x:=by
    obtain⟨i,I,rfl⟩:=BY u;obtain⟨j,H,rfl⟩:=BY r;rcases Nat.lt_trichotomy i j with z|rfl|z
    ·have:l[i].1<l[j].1:=ci.1 h.2 i j I H z;omega
    ·rfl
    ·have:l[j].1<l[i].1:=ci.1 h.2 j i H I z;omega
   rw[this];exact gl.refl _
set_option maxHeartbeats 1000000 in
theorem sg (K:Nat)(r:List Int)(hc:x7 r)(hK:1048577<K):Q231.f K (r,())=some ((true,()),()):=by
 simp only[Q231.f,Q231.pre,zc3ec45,zcf8680,zcp4,zcp8];by_cases h:(r.length:Int)>1048576
 ·rw[decide_eq_true h];rfl
 rw[decide_eq_false h];simp only[cond_false];obtain⟨⟨⟨n,w0,⟨⟩⟩,⟨⟩⟩,e0,hn,X⟩:=ww K r hc hK;have hn:NS 9 n:=hn;have X:(aj.table w0).length<=1048576:=X;rw[e0];simp only[BV];generalize Int.tmod (wr .i64 (w0.2.2.1+4)) 8=J;obtain⟨y,ws,b,hy,_,_,e1,e2,q1,q2,t1,_,h3⟩:=zt K n (2,6,J,w0.2.2.2) hn.nb X (show (6:Int)≠2 by decide) hK;rw[e2];simp only[BV];rw[e1];simp only[BV];rw[q1];simp only[rb,BV,BZ,cond_false,cond_true];rw[q2];simp only[rb,BV,BZ,cond_false];rw[t1];simp only[rb,BV];cases b with
 |false=>rfl
 |true =>
  simp only[BZ,cond_false];obtain⟨hP,hW,hT,O,R⟩:=h3 rfl;have hU:=UpN.of hP hT.1;have M:aw (aj.table w0):=hW.2.2.2.2.2.2.2.1;have Y:kI (aj.table w0):=by
   have:=hW.2.2.2.2.2.2.2.2;rw[if_pos (show (2,6,J,w0.2.2.2).2.1=(6:Int) from rfl)]at this;exact this
  have hs:bM K n (2,6,J,w0.2.2.2)=du n (2,6,J,w0.2.2.2):=by
   unfold bM;rw[if_pos ⟨hW,hT⟩,if_pos (show (2,6,J,w0.2.2.2).2.1=(6:Int) from rfl)]
  rw[hs]at O R;have a2:idx (aj.table w0) 0=some (bK (aj.table w0)):=by
   cases ht:aj.table w0 with
   |nil=>rw[ht]at Y;exact Y.elim
   |cons f l=>rfl
  refine (congrArg (λo=>BW o _) a2).trans ?_;simp only[BV];show (bif ak (bK (aj.table w0)).1==ak n.1 then _ else _)=_;have hb:ib (aj.table w0) (ak n.1)=(ak (bK (aj.table w0)).1==ak n.1):=by
   rw[Bool.eq_iff_iff,iN,beq_iff_eq];cases ht:aj.table w0 with
   |nil=>rw[ht]at Y;exact Y.elim
   |cons f l =>
    rw[ht]at Y;exact⟨λh=>h f (by simp),λe g hg=>(Y g hg).trans e⟩
  unfold du at O R;rw[show ib (aj.table (2,6,J,w0.2.2.2)) (ak n.1)=ib (aj.table w0) (ak n.1) from rfl,hb]at O R;cases u:ak (bK (aj.table w0)).1==ak n.1 with
  |true =>
   rw[u]at O R hb;simp only[cond_true]at O R ⊢;subst O R;have a4:=hU.x.table;have hS:=iN.1 hb;have ha:=oG (b:=n.1) (aj.table w0) n (aa.table n) hU hT.2.1 (λf hf=>⟨M.1 f hf,hS f hf⟩) (eJ.me hU.x.me) (el.refl a4);refine (congrArg (λo=>BW o _) (xE K (aa.table n) (aj.table w0) a4 M hK)).trans ?_;simp only[BV];have hl:(aa.table (eV n (aj.table w0) n.1)).length=(putAll (aa.table n) (aj.table w0)).length:=by
    have:=congrArg List.length ha.keys;simpa using this
   show (bif ((aa.table (eV n (aj.table w0) n.1)).length:Int)==((putAll (aa.table n) (aj.table w0)).length:Int) then _ else _)=_;rw[hl,beq_self_eq_true];rfl
  |false =>
   rw[u]at O R;simp only[cond_false]at O R ⊢;have hO:=hU.x.others;have a1:=λx hx=>wC hO (s:=ak (bK (aj.table w0)).1) M.1 (x:=x) hx
   subst O;generalize a0:a7 (λx:aY=>x.1) (ak (bK (aj.table w0)).1,putAll (dk (aa.others n) (ak (bK (aj.table w0)).1)) (aj.table w0)) (aa.others n)=H at a1;have b1:H.length<=(aa.others n).length+1:=by rw[<- a0];exact AN
   have hx:sumN n (2,6,J,w0.2.2.2)=k9 n H:=by rw[<- a0];rfl
   have a9:∀ y∈H,aw y.2:=λy ad=>by
    have h0:=(qf (w:=(2,6,J,w0.2.2.2)) hU hT.2.1 M Y).1.x.others;have e:(du n (2,6,J,w0.2.2.2)).1=k9 n H:=by
     unfold du;rw[show ib (aj.table (2,6,J,w0.2.2.2)) (ak n.1)=ib (aj.table w0) (ak n.1) from rfl,hb,u];exact hx
    rw[e]at h0;rw[<- mw (l:=H) h0 ad];exact jj h0 _
   have b0:=tz hO;refine (congrArg (λo=>BW o _) (oI K n hn.nb hK)).trans ?_;simp only[BV,rb,BZ,cond_false];rw[hx];refine dS (k:=K) (step:=λrec a=>Q231.s0 K (r,()) (Q231.l1 K (r,()) rec) rec a) (aa.others n).length (λi=>((i:Int),_)) (some ((true,()),())) ?_ ?_ (by omega)
   ·intro rec i hi;obtain⟨⟨z,hz,ez⟩,a6⟩:=a1 (aa.others n)[i] (BX hi);have a3:=wB hz ez;simp only[Q231.s0];refine (congrArg (λb=>bif b then _ else _) (bj (Int.ofNat_lt.2 hi))).trans ?_;simp only[cond_true];refine dS (k:=K) (step:=λI a=>Q231.s1 K (r,()) rec I a) H.length (λk=>((i:Int),lK (aa.others n)[i].1 H k,(k:Int),_)) _ ?_ ?_ (by omega)
    ·intro I k Z;simp only[Q231.s1];rw[ar k (by omega),uK Z];refine (congrArg (λb=>bif b then _ else _) (bj (Int.ofNat_lt.2 Z))).trans ?_;simp only[cond_true];cases lK (aa.others n)[i].1 H k with
     |true=>rfl
     |false =>
      simp only[cond_false,Bool.false_or];refine (congrArg (λo=>BW o _) (ag Z)).trans ?_;simp only[BV];refine (congrArg (λo=>BW o _) (ag hi)).trans ?_;simp only[BV];by_cases he:H[k].1=(aa.others n)[i].1
      ·rw[show (H[k].1==(aa.others n)[i].1)=true by simpa using he];simp only[cond_true];refine (congrArg (λo=>BW o _) (ag hi)).trans ?_;simp only[BV];refine (congrArg (λo=>BW o _) (ag Z)).trans ?_;simp only[BV];have a5:aw (aa.others n)[i].2:=by rw[<- mw hO (BX hi)];exact jj hO _
       exact (congrArg (λo=>BW o _) (AK K _ _ a5 (a9 _ (BX Z)) (a6 _ (BX Z) he) hK)).trans rfl
      ·rw[show (H[k].1==(aa.others n)[i].1)=false by simpa using he];rfl
    ·intro I;simp only[Q231.s1];refine (congrArg (λb=>bif b then _ else _) (aP _)).trans ?_;rw[a3,ar i (by omega)];rfl
   ·intro rec;simp only[Q231.s0];refine (congrArg (λb=>bif b then _ else _) (aP _)).trans ?_;show some ((decide ((H.length:Int)<=wr .i64 (((aa.others n).length:Int)+1)),()),())=_;rw[ar _ (by omega),decide_eq_true (by omega)]
end Go.Proofs.YtadlacffdemoiaaGreatEv
