/- The views: the program's and the specification's are one. -/
import Derived.Test.YtmcbmojdeikcdaaGreatP2
set_option linter.unusedVariables false
set_option linter.unusedSimpArgs false
open Bool renaming not_true->AR
open Int renaming toNat->AC,toNat_natCast->AE,eq_ofNat_of_zero_le->AJ,toNat_zero->AO,tmod->AQ,toNat_of_nonneg->Ad
open List renaming length->AD,length_append->AF,mem_singleton->AG,length_set->AH,nil_append->AK,mem_append->AL,getElem_mem->AM,length_take->AN,drop_zero->AP,length_nil->AT,getElem_of_mem->AU,filter_cons->AW,take_length->AX,length_drop->AY,pairwise_append->AZ,mem_of_mem_take->Ab,flatMap_cons->Ae,append_assoc->Af,length_cons->Ag,not_mem_nil->Ah,append_nil->Ai,take_zero->Aj,mem_cons->Ak
open Nat renaming le_succ_of_le->AA,le_trans->AI,zero_le->AV,le_succ->Aa,le_refl->Ac
open Option renaming bind_some->AB,bind->AS
namespace Go.Proofs.YtmcbmojdeikcdaaGreatEv
open Go
def c5 (l:List bZ)(s:Int):List af:=(l.filter λx=>x.1==s).flatMap (·.2)
def b8 (n:aa)(s:Int):List af:=(bif s==ap n.1 then aa.table n else [])++c5 (aa.others n) s
theorem oL (l:List bZ)(s:Int):(c5 l s).length<=(l.flatMap (·.2)).length:=by
 unfold c5;induction l with
 |nil=>simp
 |cons x l ih =>
  rw[AW];split
  ·simp only[Ae,AF];omega
  ·simp only[Ae,AF];omega
theorem tt (K:Nat)(n:aa)(hn:NB n)(hs:((aa.others n).flatMap (·.2)).length<=12)(s:Int)(rec0:Q181.A_l0->Option Q181.Res):∀ (d i k:Nat) (acc:List af),i+d=(aa.others n).length->d<k->acc.length<=1048576 ->
  ae (λrec a=>Q181.l1.step K (n,()) rec0 rec a) k (acc++c5 ((aa.others n).take i) s,s,(i:Int))=rec0 (acc++c5 (aa.others n) s,wr .i64 (s+1)):=by
 have hl:=hn.others;intro d;induction d with
 |zero =>
  intro i k acc hi hk ha;obtain⟨k,rfl⟩:∃ k',k=k'+1:=⟨k-1,by omega⟩;have:i=(aa.others n).length:=by omega
  subst this;show Q181.l1.step K (n,()) _ _ _=_;simp only[Q181.l1.step,bc,cond_false,AX]
 |succ d ih =>
  intro i k acc hi hk ha;obtain⟨k,rfl⟩:∃ k',k=k'+1:=⟨k-1,by omega⟩;have hlt:i<(aa.others n).length:=by omega
  show Q181.l1.step K (n,()) _ _ _=_;simp only[Q181.l1.step];rw[bK (by omega:(i:Int)<(AD (aa.others n):Int)),ai hlt,av i (by omega)];simp only[cond_true,AB];have e:c5 ((aa.others n).take (i+1)) s=c5 ((aa.others n).take i) s++(bif (aa.others n)[i].1==s then (aa.others n)[i].2 else []):=by
   unfold c5;rw[List.take_succ_eq_append_getElem hlt,List.filter_append,List.flatMap_append];congr 1;rw[AW];cases (aa.others n)[i].1==s <;> simp
  cases hc:(aa.others n)[i].1==s with
  |true =>
   simp only[cond_true];have h1:=oL ((aa.others n).take (i+1)) s;have h2:=nH (aa.others n) (·.2) (i+1);rw[e,hc]at h1;simp only[cond_true,AF]at h1;rw[oe (by simp only[AF];omega),Af];have e':c5 ((aa.others n).take (i+1)) s=c5 ((aa.others n).take i) s++(aa.others n)[i].2:=by rw[e,hc];rfl
   rw[<- e'];exact ih (i+1) k acc (by omega) (by omega) ha
  |false =>
   simp only[cond_false];have e':c5 ((aa.others n).take (i+1)) s=c5 ((aa.others n).take i) s:=by rw[e,hc];simp
   rw[<- e'];exact ih (i+1) k acc (by omega) (by omega) ha
theorem zx (K:Nat)(n:aa)(hn:NB n)(hP:cF n)(hu:n.2.1=true)(hK:1048577<K):Q181.f K (n,())=some ((b8 n 0++b8 n 1,()),()):=by
 obtain⟨b,h1,_,h3⟩:=iz K n hn hK;have hb:=h3.2 hP;subst hb;simp only[Q181.f,Q181.pre];rw[h1];simp only[AB,AR,cond_false,hu];have hs:=(jX hn hP).1;unfold cZ at hs;rw[AF]at hs;have hl:=hn.others;have round:∀ (rec:Q181.A_l0->Option Q181.Res) (acc:List af) (s:Int),acc.length<=1000->s<=1->Q181.l0.step K (n,()) (Q181.l1 K (n,()) rec) rec (acc,s)=rec (acc++b8 n s,wr .i64 (s+1)):=by
  intro rec acc s ha hs1;simp only[Q181.l0.step];rw[decide_eq_true hs1,dI K n.1];simp only[cond_true,AB];unfold b8;cases hc:s==ap n.1 with
  |true =>
   simp only[cond_true];rw[oe (by show (acc.length+(aa.table n).length)*32<=_;omega)];have:=tt K n hn (by omega) s rec (aa.others n).length 0 K (acc++aa.table n) (by omega) (by omega) (by simp;omega);rw[Aj,show c5 [] s=[] from rfl,Ai,Af]at this;exact this
  |false =>
   simp only[cond_false,AK];have:=tt K n hn (by omega) s rec (aa.others n).length 0 K acc (by omega) (by omega) (by omega);rw[Aj,show c5 [] s=[] from rfl,Ai]at this;exact this
 have hlen:(b8 n 0).length<=12:=by
  have:=oL (aa.others n) 0;unfold b8;rw[AF];cases (0:Int)==ap n.1 <;> simp only[cond_true,cond_false,AT] <;> omega
 obtain⟨k,rfl⟩:∃ k',K=k'+3:=⟨K-3,by omega⟩;show ae (λrec a=>Q181.l0.step (k+3) (n,()) (Q181.l1 (k+3) (n,()) rec) rec a) (k+3) ([],0)=_;have e0:∀ j (a:Q181.A_l0),ae (λrec a=>Q181.l0.step (k+3) (n,()) (Q181.l1 (k+3) (n,()) rec) rec a) (j+1) a=Q181.l0.step (k+3) (n,()) (Q181.l1 (k+3) (n,()) (ae (λrec a=>Q181.l0.step (k+3) (n,()) (Q181.l1 (k+3) (n,()) rec) rec a) j)) (ae (λrec a=>Q181.l0.step (k+3) (n,()) (Q181.l1 (k+3) (n,()) rec) rec a) j) a:=λ_ _=>rfl
 rw[e0 (k+2),round _ _ _ (by simp) (by omega),aK (by omega) (by omega),e0 (k+1),round _ _ _ (by simp;omega) (by omega),aK (by omega) (by omega),e0 k];simp only[Q181.l0.step];rfl
theorem nL {t:List af}(h:Asc (λf:af=>f.1) t):t.Pairwise λa b=>ltF a b=true :=
 h.imp λ {a b} h=>by rw[mH,jW];exact .inl h
theorem mY {n:aa}(hn:NB n)(hP:cF n)(hu:n.2.1=true):dg ltF [] (cZ n)=b8 n 0++b8 n 1:=by
 have hm:=hP.1;obtain⟨hT,hS,_,_,_,_,_,_,hO⟩:=hP.up hu;have hp:(dg ltF [] (cZ n)).Perm (cZ n):=by simpa using gU ltF (cZ n) []
 have hsrt:il ltF (dg ltF [] (cZ n)):=lQ ltF vv vw _ _ List.Pairwise.nil;have hsite:ap n.1=0\/ap n.1=1:=by
  rw[eC hm];obtain⟨m1,m2⟩:=hm;omega
 have across:∀ (t u:List af) (s:Int),aA t->bP t s->aA u->bP u (s+1)->(t++u).Pairwise λa b=>ltF a b=true:=by
  intro t u s ht hts hu hus;rw[AZ];refine⟨nL ht.2,nL hu.2,λa ha b hb=>?_⟩;rw[mH,jW];have h1:=hts a ha;have h2:=hus b hb;rw[eC (ht.1 a ha).1]at h1;rw[eC (hu.1 b hb).1]at h2;exact .inl (by omega)
 rcases gW hm hO with h|⟨x,h⟩
 ·rw[show b8 n 0++b8 n 1=aa.table n by
   unfold b8 c5;rw[h];rcases hsite with e|e <;> rw[e] <;> simp]
  refine iA ltF ?_ hsrt (nL hT.2);unfold cZ at hp ⊢;rw[h]at hp ⊢;simpa using hp
 ·obtain⟨⟨x1,x2⟩,x3,_,x4,x5⟩:=hO.1 x (by rw[h];simp);rcases hsite with e|e
  ·have ex:x.1=1:=by omega
   have e2:b8 n 0++b8 n 1=aa.table n++x.2:=by
    unfold b8 c5;rw[h,e];simp[ex]
   rw[e2];refine iA ltF ?_ hsrt (across _ _ 0 hT (by rw[e]at hS;exact hS) x4 (by rw[ex]at x5;exact x5));unfold cZ at hp ⊢;rw[h]at hp ⊢;simpa using hp
  ·have ex:x.1=0:=by omega
   have e2:b8 n 0++b8 n 1=x.2++aa.table n:=by
    unfold b8 c5;rw[h,e];simp[ex]
   rw[e2];refine iA ltF ?_ hsrt (across _ _ 0 x4 (by rw[ex]at x5;exact x5) hT (by rw[e]at hS;exact hS));unfold cZ at hp ⊢;rw[h]at hp ⊢;have:(aa.table n++x.2).Perm (x.2++aa.table n):=List.perm_append_comm;have hp2:(dg ltF [] (aa.table n++[x].flatMap (·.2))).Perm (aa.table n++x.2):=by simpa using hp
   exact hp2.trans this
def c6 (n:aa):List af:=dg ltF [] (cZ n)
theorem ut {n:aa}(hn:NB n)(hP:cF n):(c6 n).length<=8:=by
 have hp:(c6 n).Perm (cZ n):=by unfold c6;simpa using gU ltF (cZ n) []
 rw[hp.length_eq];exact (jX hn hP).1
theorem xk (K:Nat)(n:aa)(hn:NB n)(hP:cF n)(hK:1048577<K):Q66.f K (n,())=some ((c6 n,()),()) :=
 zj K n hn (by have:=(jX hn hP).1;omega) hK
theorem xm (K:Nat)(n:aa)(hn:NB n)(hP:cF n)(hu:n.2.1=true)(hK:1048577<K):Q181.f K (n,())=some ((c6 n,()),()):=by
 rw[zx K n hn hP hu hK,<- mY hn hP hu];rfl
theorem rQ (K:Nat)(l:List af)(f:af)(hl:l.length<=1048576)(hK:1048577<K):Ret (Q88.f K (l,f,())) (f∈l):=by
 have:=cU (step:=λrec a=>Q88.l0.step K (l,f,()) rec a) l.length (λi=>(i:Int)) (λj=>∃ h:j<l.length,l[j]=f) (rb false) (λ_=>rb true) ?_ ?_ l.length K 0 (by omega) (by omega)
 ·rcases this with ⟨h1,h2⟩|⟨j,_,_,⟨h3,h4⟩,_,h2⟩
  ·refine⟨false,h2,?_⟩;refine⟨λh=>absurd h (by decide),λhf=>?_⟩;obtain⟨i,hi,e⟩:=AU hf;exact absurd ⟨hi,e⟩ (h1 i (AV _) hi)
  ·exact⟨true,h2,λ_=>h4 ▸ AM h3,λ_=>rfl⟩
 ·intro rec i hi;simp only[Q88.l0.step];rw[bK (by omega:(i:Int)<(AD l:Int)),ai hi,av i (by omega)];simp only[cond_true,AB];rw[iH];by_cases h:l[i]=f
  ·rw[decide_eq_true h];exact .inr ⟨⟨hi,h⟩,rfl⟩
  ·rw[decide_eq_false h];exact .inl ⟨λ⟨_,h2⟩=>h h2,rfl⟩
 ·intro rec;simp only[Q88.l0.step,bc];rfl
theorem UpN.nb {n:aa}(h:UpN n):NB n where
 table:=cD h.x.table
 cast:=by have:=clen h.x.say;omega
 doubts:=h.x.say.ld
 by_:=λd hd=>by have:=(h.learns.by_ d hd).len;omega
 places:=plen h.x.places
 trips:=λp hp=>by have:=(h.x.places.1 p hp).2.2.2.2.1.2;omega
 others:=olen h.x.others
 facts:=λx hx=>cD (h.x.others.1 x hx).2.2.2.1
def gn (me:Int)(g:Bool):aa:=(me,false,false,g,0,0,0,0,[],[],(0,0,0,false),[],(0,0,0,0),[],[])
structure dz (i:Nat) (n:aa):Prop where
 me:n.1=(i:Int)
 lt:i<8
 up:n.2.1=true->UpN n
 down:n.2.1=false->n=gn n.1 n.2.2.2.1
theorem dz.nb {i:Nat}{n:aa}(h:dz i n):NB n:=by
 cases hu:n.2.1 with
 |true=>exact (h.up hu).nb
 |false =>
  rw[h.down hu];exact⟨by simp[gn,aa.table],by simp[gn,aa.cast],by simp[gn,aa.doubts],by simp[gn,aa.doubts],by simp[gn,aa.places],by simp[gn,aa.places],by simp[gn,aa.others],by simp[gn,aa.others]⟩
theorem dz.short {i:Nat}{n:aa}(h:dz i n):(aa.table n).length<=4:=by
 cases hu:n.2.1 with
 |true=>exact ke (h.up hu).x.table (h.up hu).x.site
 |false=>rw[h.down hu];exact AV _
theorem dz.of {i:Nat}{n m:aa}(h:dz i n)(hm:UpN m)(e:m.1=n.1):dz i m:=⟨e.trans h.me,h.lt,λ_=>hm,λhu=>by rw[hm.up]at hu;cases hu⟩
def fV (l:List kF):Prop:=l.length<=60/\∀ f∈l,InP f.1 0 7/\f.2.1.size<=2000
structure WI (w:bT) (c:Nat):Prop where
 len:w.1.length=8
 node:∀ (i:Nat) (h:i<w.1.length),dz i w.1[i]
 radio:fV w.2.1
 sides:w.2.2.1.length=8
 born:w.2.2.2.length<=c
theorem WI.mono {w:bT}{c d:Nat}(h:WI w c)(hc:c<=d):WI w d:=⟨h.len,h.node,h.radio,h.sides,AI h.born hc⟩
theorem WI.put {w:bT}{c:Nat}(h:WI w c){i:Nat}{n:aa}(hn:dz i n){rd:List kF}(hr:fV rd){b:List af}{d:Nat}(hb:b.length<=d):WI (w.1.set i n,rd,w.2.2.1,b) d:=by
 refine⟨by rw[AH];exact h.len,λj hj=>?_,hr,h.sides,hb⟩;show dz j ((w.1.set i n)[j]'hj);rw[List.getElem_set];split
 ·rename_i e;exact e ▸ hn
 ·exact h.node j _
theorem vP (K:Nat)(w:bT)(fr:Int)(ws:List au)(hs:w.2.2.1.length=8)(hf:InP fr 0 7)(hw:∀ x∈ws,gm x)(hr:fV w.2.1)(hl:ws.length<=1000)(hK:1048577<K) :
  Tot (Q87.f K (w,fr,ws,())) λr=>∃ rd,fV rd/\r.1.1=(w.1,rd,w.2.2):=by
 simp only[Q87.f,Q87.pre];obtain⟨f0,f1⟩:=hf;refine Tot.iter (step:=λrec a=>Q87.l0.step K (w,fr,ws,()) rec a) (λa=>0<=a.1/\a.1<=ws.length/\fV a.2) (λa=>ws.length-a.1.toNat) ?_ K _ (by show ws.length-AC 0<K;omega) ⟨by show (0:Int)<=0;omega,by show (0:Int)<=_;omega,hr⟩;rintro rec ⟨i,rd⟩ ⟨h0,h1,h2⟩ ih;simp only at h0 h1 h2 ih ⊢;simp only[Q87.l0.step];refine Tot.cnd (λh=>?_) λ_=>Tot.ret ⟨rd,h2,rfl⟩
 have h:=of_decide_eq_true h;rw[aK (n:=i+1) (by omega) (by omega)];have go:∀ rd',fV rd'->Tot (rec (i+1,rd')) λr=>∃ rd,fV rd/\r.1.1=(w.1,rd,w.2.2):=λrd' hr'=>ih _ ⟨by show 0<=i+1;omega,by show i+1<=_;omega,hr'⟩ (by show ws.length-AC (i+1)<ws.length-AC i;omega)
 refine Tot.cnd (λh3=>?_) λ_=>go rd h2
 have h3:=of_decide_eq_true h3;refine Tot.ix f0 (by omega) λ_ _ _=>Tot.ix h0 h λy2 hy2 _=>?_
 obtain⟨⟨t0,t1⟩,_⟩:=hw y2 hy2;refine Tot.ix t0 (by omega) λ_ _ _=>Tot.cnd (λ_=>Tot.fit (Tot.ix h0 h λy4 hy4 _=>Tot.ix h0 h λy5 hy5 _=>Tot.bind (mX K y5 (hw y5 hy5).2 hK) λv hv=>Tot.fit (go _ ⟨?_,λf hf=>?_⟩) (by omega) ?_) (by omega) ?_) λ_=>go rd h2
 ·simp;omega
 ·rcases AL.1 hf with hf|hf
  ·exact h2.2 f (by simpa using hf)
  ·rw[AG.1 hf];exact⟨(hw y4 hy4).1,by show v.1.1.size<=2000;have:=hv.1;omega⟩
 ·simp;omega
 ·simp;omega
theorem Tot.ins {α:Type}{l:List α}{x:α}{a:Int}{c:Nat}{Q:(List α×Unit)×Unit->Prop}(h0:0<=a)(h1:a<=l.length)(hl:l.length<=1048576)(hc:c<=64)(k:∀ r:List α,r.length=l.length+1->Q ((r,()),())) :
  Tot (bif decide ((0:Int)<=0)&&decide (0<=a)&&decide (a<=(AD l:Int))&&true then (bif decide ((AD ([]:List α)+AD ((l.take (AC a)).drop (AC 0)))*c<=ah) then (bif decide ((AD ([]++((l.take (AC a)).drop (AC 0)))+AD ([x]))*c<=ah) then (bif decide (0<=a)&&decide (a<=(AD l:Int))&&decide ((AD l:Int)<=(AD l:Int))&&true then (bif decide ((AD (([]++((l.take (AC a)).drop (AC 0)))++([x]))+AD ((l.take (AC (AD l:Int))).drop (AC a)))*c<=ah) then (some (((([]++((l.take (AC a)).drop (AC 0)))++([x]))++((l.take (AC (AD l:Int))).drop (AC a)),()),())) else none) else none) else none) else none) else none) Q:=by
 obtain⟨m,rfl⟩:=AJ h0;refine Tot.must (by simp;omega) (Tot.fit (Tot.fit (Tot.must (by simp;omega) (Tot.fit (Tot.ret (k _ ?_)) (by omega) ?_)) (by omega) ?_) (by omega) ?_) <;>
 simp only[AE,AO,AP,AK,AF,AN,AY,Ag,AT] <;> omega
theorem xn (K:Nat)(f g:af):Tot (Q89.f K (f,g,())) λ_=>True:=by
 simp only[Q89.f];exact Tot.cnd (λ_=>Tot.ret trivial) λ_=>Tot.bind (ri K g f).tot λ_ _=>Tot.ret trivial
theorem vQ (K:Nat)(l:List af)(f:af)(hl:l.length<=1048576)(hK:1048577<K):Tot (Q90.f K (l,f,())) λr=>r.1.1.length<=l.length+1:=by
 simp only[Q90.f,Q90.pre];refine Tot.iter (A:=Int) (step:=λrec a=>Q90.l0.step K (l,f,()) rec a) (λa=>0<=a/\a<=l.length) (λa=>l.length-a.toNat) ?_ K _ (by show l.length-AC 0<K;omega) ⟨by show (0:Int)<=0;omega,by show (0:Int)<=_;omega⟩;rintro rec i ⟨h0,h1⟩ ih;simp only[Q90.l0.step];have hfit:=λ (h1:i<=l.length)=>Tot.ins (x:=f) (c:=32) (Q:=λr=>r.1.1.length<=l.length+1) h0 h1 hl (by omega) λr hr=>by show r.length<=_;omega
 have hsame:l.length<=l.length+1:=Aa _;refine Tot.cnd (λh=>?_) λ_=>Tot.cnd (λh=>Tot.ix h0 (of_decide_eq_true h) λ_ _ _=>Tot.cnd (λ_=>Tot.ret hsame) λ_=>hfit h1) λ_=>hfit h1
 have h:i<(l.length:Int):=of_decide_eq_true h;rw[aK (n:=i+1) (by omega) (by omega)];refine Tot.ix h0 h λy1 _ _=>Tot.bind (xn K y1 f) λ_ _=>Tot.cnd (λ_=>ih (i+1) ⟨by show 0<=i+1;omega,by show i+1<=(l.length:Int);omega⟩ (by show l.length-AC (i+1)<l.length-AC i;omega)) λ_=>Tot.cnd (λ_=>Tot.ix h0 h λ_ _ _=>Tot.cnd (λ_=>Tot.ret hsame) λ_=>hfit h1) λ_=>hfit h1
theorem xS (K:Nat)(w:bT)(was heard now:List af)(h1:was.length<=1048576)(h2:heard.length<=1048576)(h3:now.length<=100)(hb:w.2.2.2.length<=1000000)(hK:1048577<K) :
  Tot (Q91.f K (w,was,heard,now,())) λr=>∃ b,b.length<=w.2.2.2.length+now.length/\r.1.1=(w.1,w.2.1,w.2.2.1,b):=by
 simp only[Q91.f,Q91.pre];refine Tot.iter (step:=λrec a=>Q91.l0.step K (w,was,heard,now,()) rec a) (λa=>0<=a.1/\a.1<=now.length/\(a.2.length:Int)<=w.2.2.2.length+a.1) (λa=>now.length-a.1.toNat) ?_ K _ (by show now.length-AC 0<K;omega) ⟨by show (0:Int)<=0;omega,by show (0:Int)<=_;omega,by show (w.2.2.2.length:Int)<=w.2.2.2.length+0;omega⟩;rintro rec ⟨i,b⟩ ⟨i0,i1,i2⟩ ih;simp only at i0 i1 i2 ih ⊢;simp only[Q91.l0.step];refine Tot.cnd (λh=>?_) λ_=>Tot.ret ⟨b,by omega,rfl⟩
 have h:=of_decide_eq_true h;rw[aK (n:=i+1) (by omega) (by omega)];have go:∀ b':List af,b'.length<=b.length+1->Tot (rec (i+1,b')) λr=>∃ b,b.length<=w.2.2.2.length+now.length/\r.1.1=(w.1,w.2.1,w.2.2.1,b):=λb' hb'=>ih _ ⟨by show 0<=i+1;omega,by show i+1<=_;omega,by show (b'.length:Int)<=_+(i+1);omega⟩ (by show now.length-AC (i+1)<now.length-AC i;omega)
 refine Tot.ix i0 h λy1 _ _=>Tot.bind (rQ K was y1 h1 hK).tot λ_ _=>Tot.cnd (λ_=>?_) λ_=>go b (Aa _)
 refine Tot.ix i0 h λy3 _ _=>Tot.bind (rQ K heard y3 h2 hK).tot λ_ _=>Tot.cnd (λ_=>?_) λ_=>go b (Aa _)
 exact Tot.ix i0 h λy5 _ _=>Tot.bind (vQ K b y5 (by omega) hK) λv hv=>go v.1.1 hv
structure xT (w:bT) (i:Nat) (n:aa) (ws:List au) (heard:List af) (c:Nat):Prop where
 wi:WI w c
 lt:i<8
 n:dz i n
 sent:∀ x∈ws,gm x
 wl:ws.length<=1000
 hl:heard.length<=1048576
 c:c<=1000000
theorem set_t (K:Nat)(w:bT)(i:Nat)(n:aa)(ws:List au)(heard:List af)(c:Nat)(h:xT w i n ws heard c)(hK:1048577<K):Tot (Q92.f K ((w,i),n,ws,heard,())) λr=>WI r.1.1 (c+4):=by
 simp only[Q92.f];have hi:i<w.1.length:=by rw[h.wi.len];exact h.lt
 have hc:=h.c;have hb:=h.wi.born;have hsh:=h.n.short;rw[h.n.me];refine Tot.vl (ai hi) (Tot.vl (by rw[AE];exact ai hi) (Tot.vl (ai hi) (Tot.vl (by rw[AE];exact ai hi) ?_)));refine Tot.must (by simp) ?_;rw[AE];refine Tot.bind (xS K (w.1.set i n,w.2) (aa.table w.1[i]) heard (aa.table n) (h.wi.node i hi).nb.table h.hl (by omega) (by show w.2.2.2.length<=_;omega) hK) ?_;rintro⟨⟨v,⟨⟩⟩,⟨⟩⟩ ⟨b,hb1,rfl⟩;refine Tot.bind (vP K (w.1.set i n,w.2.1,w.2.2.1,b) (i:Int) ws h.wi.sides ⟨by omega,by have:=h.lt;omega⟩ h.sent h.wi.radio h.wl hK) ?_;rintro⟨⟨v,⟨⟩⟩,⟨⟩⟩ ⟨rd,hr,rfl⟩;have hb1:b.length<=w.2.2.2.length+(aa.table n).length:=hb1;exact Tot.ret (h.wi.put h.n hr (by omega))
theorem zy (K:Nat)(w:bT)(i:Nat)(n:aa)(ws:List au)(heard:List af)(c:Nat)(h:xT w i n ws heard c)(hK:1048577<K):Tot (Q153.f K (w,n,ws,heard,())) λr=>WI r.1.1 (c+4):=by
 simp only[Q153.f];have hi:i<w.1.length:=by rw[h.wi.len];exact h.lt
 have hc:=h.c;have hb:=h.wi.born;have hsh:=h.n.short;rw[h.n.me];refine Tot.vl (ai hi) (Tot.vl (by rw[AE];exact ai hi) (Tot.vl (ai hi) (Tot.vl (by rw[AE];exact ai hi) ?_)));rw[AE];refine Tot.bind (xS K (w.1.set i n,w.2) (aa.table w.1[i]) heard (aa.table n) (h.wi.node i hi).nb.table h.hl (by omega) (by show w.2.2.2.length<=_;omega) hK) ?_;rintro⟨⟨v,⟨⟩⟩,⟨⟩⟩ ⟨b,hb1,rfl⟩;refine Tot.bind (vP K (w.1.set i n,w.2.1,w.2.2.1,b) (i:Int) ws h.wi.sides ⟨by omega,by have:=h.lt;omega⟩ h.sent h.wi.radio h.wl hK) ?_;rintro⟨⟨v,⟨⟩⟩,⟨⟩⟩ ⟨rd,hr,rfl⟩;have hb1:b.length<=w.2.2.2.length+(aa.table n).length:=hb1;exact Tot.ret (h.wi.put h.n hr (by omega))
theorem qb (K:Nat)(l:List kF)(at_:Int)(h0:0<=at_)(h1:at_<l.length)(hr:fV l):Tot (Q93.f K (l,at_,())) λr=>fV r.1.1:=by
 have hl:=hr.1;obtain⟨m,rfl⟩:=AJ h0;simp only[Q93.f];rw[av m (by omega)];refine Tot.must (by simp;omega) (Tot.fit (Tot.must (by simp;omega) (Tot.fit (Tot.ret ⟨?_,λf hf=>hr.2 f ?_⟩) (by omega) ?_)) (by omega) ?_)
 ·simp only[AE,AO,AP,AK,AF,AN,AY];omega
 ·simp only[AE,AO,AP,AK,AX]at hf;rcases AL.1 hf with hf|hf
  ·exact Ab hf
  ·exact List.mem_of_mem_drop hf
 ·simp only[AE,AO,AP,AK,AF,AN,AY];omega
 ·simp only[AE,AO,AP,AK,AN,AT];omega
theorem qc (K:Nat)(w:bT)(c:Nat)(h:WI w c)(hc:c<=1000000)(to:Int)(t0:0<=to)(t1:to<=7)(x:au)(hx:gS x)(hK:1048577<K){G:aa->aa->Option ((bT×Unit)×Unit)}
  (hG:∀ y:aa,G y y=(Q134.f K (y,x,())).bind λy12=>(Q92.f K ((w,AC to),y12.1.1,y12.1.2.1,au.table x,())).bind λy13=>some ((y13.1.1,()),())) :
  Tot ((idx w.1 to).bind λ_=>(idx w.1 (AC to:Nat)).bind λy10=>(idx w.1 (AC to:Nat)).bind λy11=>G y10 y11) λr=>WI r.1.1 (c+4):=by
 obtain⟨i,rfl⟩:=AJ t0;have hi:i<w.1.length:=by rw[h.len];omega
 have hn:=h.node i hi;refine Tot.vl (ai hi) (Tot.vl (by rw[AE];exact ai hi) (Tot.vl (by rw[AE];exact ai hi) ?_));rw[hG,zt K w.1[i] x hn.up (cD hx.2.2.2.2.2.2.2.1) hK];simp only[AB,AE];refine Tot.bind (set_t K w i _ _ _ c ⟨h,hn.lt,?_,?_,?_,cD hx.2.2.2.2.2.2.2.1,hc⟩ hK) λv hv=>Tot.ret hv
 ·cases hu:w.1[i].2.1 with
  |true=>exact hn.of (tp (hn.up hu) hK).1 (tp (hn.up hu) hK).2.1
  |false =>
   rw[show di K w.1[i] x=(w.1[i],[]) by unfold di;rw[if_neg λh=>by have:=h.2.1;rw[hu]at this;cases this]];exact hn
 ·cases hu:w.1[i].2.1 with
  |true=>exact λy hy=>(oK (hn.up hu) hK).2 y hy
  |false =>
   rw[show di K w.1[i] x=(w.1[i],[]) by unfold di;rw[if_neg λh=>by have:=h.2.1;rw[hu]at this;cases this]];simp
 ·cases hu:w.1[i].2.1 with
  |true=>have:=(oK (w:=x) (hn.up hu) hK).1;omega
  |false =>
   rw[show di K w.1[i] x=(w.1[i],[]) by unfold di;rw[if_neg λh=>by have:=h.2.1;rw[hu]at this;cases this]];simp
theorem yB (K:Nat)(w:bT)(c:Nat)(h:WI w c)(hc:c<=1000000)(at_:Int)(keep:Bool)(h0:0<=at_)(h1:at_<w.2.1.length)(hK:1048577<K):Tot (Q135.f K (w,at_,keep,())) λr=>WI r.1.1 (c+4):=by
 simp only[Q135.f];refine Tot.ix2 h0 h1 λf hf _=>?_
 obtain⟨⟨t0,t1⟩,hsz⟩:=h.radio.2 f hf;have hs:=h.sides;refine Tot.cnd (λ_=>Tot.bind (qb K w.2.1 at_ h0 h1 h.radio) ?_) λ_=>Tot.bind (oD K f.2.1 (by omega) hK) ?_
 ·rintro⟨⟨rd,⟨⟩⟩,⟨⟩⟩ hr;have hW:WI (w.1,rd,w.2.2) (c+4):=⟨h.len,h.node,hr,h.sides,AI h.born (by omega)⟩;refine Tot.bind (oD K f.2.1 (by omega) hK) ?_;rintro⟨⟨(x:au),ok,⟨⟩⟩,⟨⟩⟩ hx;refine Tot.cnd (λ_=>Tot.ret hW) λh2=>?_
  have hx:gS x:=hx (by simpa using h2);obtain⟨fr0,fr1⟩:=hx.2.2.1;have hfr:x.2.2.1<(w.2.2.1.length:Int):=by rw[hs];omega
  refine Tot.ix2 fr0 hfr λ_ _ _=>Tot.ix2 t0 (by omega) λ_ _ _=>Tot.cnd (λ_=>Tot.ret hW) λ_=>Tot.cnd (λ_=>Tot.ret hW) λ_=>?_
  exact qc K (w.1,rd,w.2.2) c ⟨h.len,h.node,hr,h.sides,h.born⟩ hc f.1 t0 t1 x hx hK (G:=λy10 y11=>(Q134.f K ((y10.1,(y10.2.1,(y10.2.2.1,(y10.2.2.2.1,(y10.2.2.2.2.1,(y10.2.2.2.2.2.1,(y10.2.2.2.2.2.2.1,(y10.2.2.2.2.2.2.2.1,(y10.2.2.2.2.2.2.2.2.1,(y10.2.2.2.2.2.2.2.2.2.1,(y10.2.2.2.2.2.2.2.2.2.2.1,(y11.2.2.2.2.2.2.2.2.2.2.2.1,y10.2.2.2.2.2.2.2.2.2.2.2.2)))))))))))),x,())).bind λy12=>(Q92.f K (((w.1,rd,w.2.2),AC f.1),y12.1.1,y12.1.2.1,au.table x,())).bind λy13=>some ((y13.1.1,()),())) λy=>rfl
 ·rintro⟨⟨(x:au),ok,⟨⟩⟩,⟨⟩⟩ hx;have hW:WI w (c+4):=h.mono (by omega);refine Tot.cnd (λ_=>Tot.ret hW) λh2=>?_
  have hx:gS x:=hx (by simpa using h2);obtain⟨fr0,fr1⟩:=hx.2.2.1;have hfr:x.2.2.1<(w.2.2.1.length:Int):=by rw[hs];omega
  refine Tot.ix2 fr0 hfr λ_ _ _=>Tot.ix2 t0 (by omega) λ_ _ _=>Tot.cnd (λ_=>Tot.ret hW) λ_=>Tot.cnd (λ_=>Tot.ret hW) λ_=>?_
  exact qc K w c h hc f.1 t0 t1 x hx hK (G:=λy10 y11=>(Q134.f K ((y10.1,(y10.2.1,(y10.2.2.1,(y10.2.2.2.1,(y10.2.2.2.2.1,(y10.2.2.2.2.2.1,(y10.2.2.2.2.2.2.1,(y10.2.2.2.2.2.2.2.1,(y10.2.2.2.2.2.2.2.2.1,(y10.2.2.2.2.2.2.2.2.2.1,(y10.2.2.2.2.2.2.2.2.2.2.1,(y11.2.2.2.2.2.2.2.2.2.2.2.1,y10.2.2.2.2.2.2.2.2.2.2.2.2)))))))))))),x,())).bind λy12=>(Q92.f K (((w.1,w.2),AC f.1),y12.1.1,y12.1.2.1,au.table x,())).bind λy13=>some ((y13.1.1,()),())) λy=>rfl
theorem yC (K:Nat)(w:bT)(c:Nat)(h:WI w c)(at_ draw:Int)(h0:0<=at_)(h1:at_<w.2.1.length):Tot (Q136.f K (w,at_,draw,())) λr=>WI r.1.1 c:=by
 simp only[Q136.f];refine Tot.ix2 h0 h1 λf hf _=>?_
 obtain⟨hto,hsz⟩:=h.radio.2 f hf;refine Tot.cnd (λ_=>Tot.ret h) λ_=>Tot.cnd (λ_=>Tot.ret h) λh2=>?_
 have hne:¬ (f.2.1.size:Int)=0:=by simpa using h2
 obtain⟨b0,b1⟩:=kG (a:=draw) (m:=4095) (by omega);have b0:0<=be .i64 draw 4095:=b0;have m0:0<=AQ (be .i64 draw 4095) (f.2.1.size:Int):=Int.tmod_nonneg _ b0;have m1:AQ (be .i64 draw 4095) (f.2.1.size:Int)<((dU f.2.1).length:Int):=by rw[p8];exact Int.tmod_lt_of_pos _ (by omega)
 refine Tot.not (decide_eq_false hne) (Tot.ix2 m0 m1 λ_ _ _=>Tot.ix2 m0 m1 λ_ _ _=>Tot.ix2 h0 h1 λ_ _ _=>Tot.ret ⟨h.len,h.node,⟨?_,λg hg=>?_⟩,h.sides,h.born⟩)
 ·show (w.2.1.set _ _).length<=60;rw[AH];exact h.radio.1
 ·rcases List.mem_or_eq_of_mem_set hg with hg|rfl
  ·exact h.radio.2 g hg
  ·refine⟨hto,?_⟩;show (fO _).size<=2000;rw[gY,AH,p8];exact hsz
def jB (i:Int)(g:Bool):aa:=(i,true,false,g,0,0,0,0,[(i,0,1,g)],[],(-1,0,0,false),[],(0,0,0,1500),[],[])
theorem pu {i:Int}{g:Bool}(h:InP i 0 7):UpN (jB i g):=by
 refine⟨⟨h,Int.le_refl _,⟨λf hf=>?_,List.pairwise_singleton _ _⟩,λf hf=>?_,⟨λx hx=>(nomatch hx),List.Pairwise.nil⟩,λx hx=>(nomatch hx),?_,⟨λd hd=>(nomatch hd),List.Pairwise.nil,rfl⟩,⟨?_,?_,?_,?_⟩,⟨λp hp=>(nomatch hp),List.Pairwise.nil⟩,⟨λp hp=>(nomatch hp),List.Pairwise.nil⟩⟩,?_,?_,⟨?_,?_⟩,?_,rfl⟩
 ·rw[AG.1 hf];exact⟨h,⟨by show (0:Int)<=0;omega,by show (0:Int)<=999;omega⟩,by show (1:Int)<=1;omega,by show (1:Int)<=4;omega⟩
 ·rw[AG.1 hf];rfl
 ·unfold cM;rw[if_pos (show (aa.probe (jB i g)).1=-1 from rfl)];rfl
 ·exact⟨by show (-100000:Int)<=0;omega,by show (0:Int)<=100000;omega⟩
 ·exact⟨by show (-100000:Int)<=0;omega,by show (0:Int)<=100000;omega⟩
 ·exact⟨by show (0:Int)<=0;omega,by show (0:Int)<=100000;omega⟩
 ·exact⟨by show (1:Int)<=1500;omega,by show (1500:Int)<=1500;omega⟩
 ·exact AG.2 rfl
 ·show (0:Int)<=999999;omega
 ·exact⟨by show (0:Int)<=0;omega,by show (0:Int)<=999999;omega⟩
 ·exact⟨by show (0:Int)<=0;omega,by show (0:Int)<=8;omega⟩
 ·exact⟨by show (0:Int)<=0;omega,by show (0:Int)<=999;omega⟩
theorem lV (K:Nat)(i:Int)(g:Bool)(h:InP i 0 7):Q73.f K (i,g,())=some ((jB i g,()),()):=by
 simp only[Q73.f];obtain⟨b,e,hb⟩:=ci K i 0 7;rw[e,hb.2 h];rfl
theorem dz.new (i:Nat)(g:Bool)(h:i<8):dz i (jB (i:Int) g):=⟨rfl,h,λ_=>pu ⟨by omega,by omega⟩,λhu=>by cases hu⟩
theorem zz (K:Nat)(w:bT)(c:Nat)(h:WI w c)(hc:c<=1000000)(node:Int)(h0:InP node 0 7)(hK:1048577<K):Tot (Q155.f K (w,node,())) λr=>WI r.1.1 (c+4):=by
 have hb:=h.born;have hi:node.toNat<8:=by obtain⟨a,b⟩:=h0;omega
 have hlen:=h.len;simp only[Q155.f,Q74.f,AB];rw[lV K node _ h0];simp only[AB];refine Tot.ix2 h0.1 (by have:=h0.2;omega) λ_ _ _=>?_
 refine Tot.vl (show idx (jB node (decide (AQ node 4<3))).2.2.2.2.2.2.2.2.1 0=some (node,0,1,decide (AQ node 4<3)) from rfl) (Tot.bind (vQ K w.2.2.2 _ (by omega) hK) λv hv=>Tot.ret (h.put ?_ h.radio (by omega)));have:=dz.new node.toNat (decide (AQ node 4<3)) hi
 rwa [Ad h0.1]at this
theorem yD {n:aa}(h:UpN n):(kD n).length<=8/\∀ x∈kD n,gm x:=by
 unfold kD;refine⟨?_,λx hx=>?_⟩
 ·rw[List.length_map];exact AI (List.length_filter_le _ _) (gT h.x.table.2 λf hf=>(h.x.table.1 f hf).1)
 ·obtain⟨f,hf,rfl⟩:=List.mem_map.1 hx;exact⟨(h.x.table.1 f (List.mem_filter.1 hf).1).1,cD h.x.table⟩
theorem zA (K:Nat)(w:bT)(c:Nat)(h:WI w c)(hc:c<=1000000)(e:af)(h0:InP e.2.1 0 7)(hK:1048577<K):Tot (Q157.f K (w,e,())) λr=>WI r.1.1 (c+4):=by
 have hlen:=h.len;have hs:=h.sides;obtain⟨kind,node,draw,keep⟩:=e;obtain⟨e0,e1⟩:=h0;simp only at e0 e1;obtain⟨i,rfl⟩:=AJ e0;have hi:i<w.1.length:=by omega
 have hn:=h.node i hi;have hw:=h.mono (show c<=c+4 by omega);simp only[Q157.f];refine Tot.vl (ai hi) (Tot.vl (by rw[AE];exact ai hi) ?_);generalize w.1[i]=n at hn ⊢;refine Tot.cnd (λ_=>?_) λ_=>Tot.cnd (λ_=>?_) λ_=>Tot.cnd (λ_=>?_) λ_=>?_
 ·
  rw[xQ];simp only[AB];exact Tot.ix2 (by omega) (by omega) λ_ _ _=>Tot.ret ⟨hw.len,hw.node,hw.radio,by show (w.2.2.1.set _ _).length=8;rw[AH];exact h.sides,hw.born⟩
 ·
  simp only[Q154.f,AB];refine Tot.ix2 (by omega) (by omega) λ_ _ _=>Tot.ret (hw.put (i:=i) (n:=gn n.1 n.2.2.2.1) ?_ hw.radio hw.born)
  exact⟨hn.me,hn.lt,λhu=>(by cases hu),λ_=>rfl⟩
 ·
  exact Tot.cnd (λ_=>Tot.ret hw) λ_=>Tot.bind (zz K w c h hc (i:Int) ⟨by omega,by omega⟩ hK) λv hv=>Tot.ret hv
 ·refine Tot.cnd (λ_=>Tot.ret hw) λhu=>Tot.cnd (λ_=>Tot.ret hw) λhg=>?_
  have hu:n.2.1=true:=by simpa using hu
  have hU:=hn.up hu;have set:=λ (m:aa) (ws:List au) (hm:UpN m) (em:m.1=n.1) (hsw:∀ x∈ws,gm x) (hl:ws.length<=1000)=>zy K w i m ws [] c ⟨h,hn.lt,hn.of hm em,hsw,hl,AV _,hc⟩ hK
  refine Tot.cnd (λ_=>?_) λ_=>Tot.cnd (λ_=>?_) λ_=>Tot.cnd (λ_=>?_) λ_=>Tot.ret hw
  ·refine Tot.cnd (λ_=>Tot.ret hw) λhm=>?_
   have hm:b7 n<999999:=by have hm:¬ n.2.2.2.2.2.1>=999999:=of_decide_eq_false hm;show n.2.2.2.2.2.1<999999;omega
   obtain⟨t1,t2,_⟩:=pm hU hm;obtain⟨w1,w2⟩:=zv hU hm draw;exact Tot.vl (zw K n draw hU hg hm hK) (Tot.bind (set _ _ t1 t2 w2 (AI w1 (by omega))) λv hv=>Tot.ret hv)
  ·obtain⟨t1,t2⟩:=xd hU hg;obtain⟨w1,w2⟩:=yD t1;exact Tot.vl (yf K n hU.nb hU.ok hu hg hK) (Tot.bind (set _ _ t1 t2 w2 (AI w1 (by omega))) λv hv=>Tot.ret hv)
  ·refine Tot.bind (ci K draw 0 7).tot λv hv=>Tot.cnd (λ_=>Tot.ret hw) λh1=>Tot.cnd (λ_=>Tot.ret hw) λ_=>?_
   have hd:InP draw 0 7:=hv.1 (by simpa using h1);rw[dI K,dI K];simp only[AB];refine Tot.cnd (λ_=>Tot.ret hw) λ_=>?_
   refine Tot.vl (mE K n 4 draw (cD hU.x.table)) (Tot.bind (set n _ hU rfl (λx hx=>?_) (by simp)) λv hv=>Tot.ret hv);rw[AG.1 hx];exact⟨hd,cD hU.x.table⟩
theorem do_t (K:Nat)(w:bT)(c:Nat)(h:WI w c)(hc:c<=1000000)(e:af)(hK:1048577<K):Tot (Q159.f K (w,e,())) λr=>WI r.1.1 (c+4):=by
 have hw:=h.mono (show c<=c+4 by omega);have hr:=h.radio.1;simp only[Q159.f];rw[aK (n:=(AD w.2.1:Int)-1) (by omega) (by omega)];have three:Tot ((Q41.f K (e.2.1,0,(AD w.2.1:Int)-1,())).bind λy1=>bif !y1.1.1 then (some ((w,false,()),())) else (bif e.1==2 then ((Q135.f K (w,e.2.1,e.2.2.2,())).bind λy2=>some ((y2.1.1,true,()),())) else (bif e.1==4 then ((Q136.f K (w,e.2.1,e.2.2.1,())).bind λy3=>some ((y3.1.1,y3.1.2.1,()),())) else ((Q93.f K (w.2.1,e.2.1,())).bind λy4=>some (((w.1,(y4.1.1,w.2.2)),true,()),()))))) λr=>WI r.1.1 (c+4):=by
  refine Tot.bind (ci K _ _ _).tot λv hv=>Tot.cnd (λ_=>Tot.ret hw) λh1=>?_
  obtain⟨p0,p1⟩:InP e.2.1 0 ((AD w.2.1:Int)-1):=hv.1 (by simpa using h1);have p1:e.2.1<(w.2.1.length:Int):=by omega
  refine Tot.cnd (λ_=>Tot.bind (yB K w c h hc e.2.1 e.2.2.2 p0 p1 hK) λv hv=>Tot.ret hv) λ_=>Tot.cnd (λ_=>Tot.bind (yC K w c h e.2.1 e.2.2.1 p0 p1) λv hv=>Tot.ret (WI.mono hv (by omega))) λ_=>?_
  exact Tot.bind (qb K w.2.1 e.2.1 p0 p1 h.radio) λv hv=>Tot.ret ⟨hw.len,hw.node,hv,hw.sides,hw.born⟩
 refine Tot.cnd (λ_=>three) λ_=>Tot.cnd (λ_=>three) λ_=>Tot.cnd (λ_=>three) λ_=>?_
 exact Tot.bind (ci K _ _ _).tot λv hv=>Tot.cnd (λ_=>Tot.ret hw) λh1=>Tot.bind (zA K w c h hc e (hv.1 (by simpa using h1)) hK) λv hv=>Tot.ret hv
theorem xo (K:Nat)(w:bT)(h1:w.1.length<=1048576)(hn:∀ n∈w.1,NB n)(h2:w.2.1.length<=1048576)(h3:w.2.2.1.length<=1048576)(h4:w.2.2.2.length<=1048576)(hK:1048577<K):Q71.f K (w,())=some ((w,()),()):=by
 simp only[Q71.f,Q71.pre];rw[szb _ _ _ (by omega) (by show (AD ([]:List kF))+w.2.1.length<=_;simp;omega)];simp only[cond_true];rw[szb _ _ _ (by omega) (by show (AD ([]:List Int))+w.2.2.1.length<=_;simp;omega)];simp only[cond_true];rw[szb _ _ _ (by omega) (by show (AD ([]:List af))+w.2.2.2.length<=_;simp;omega)];simp only[cond_true];have:∀ (d i k:Nat),i+d=w.1.length->d<k->ae (λrec a=>Q71.l0.step K (w,()) rec a) k ((i:Int),w.1.take i)=some ((w,()),()):=by
  intro d;induction d with
  |zero =>
   intro i k hi hk;obtain⟨k,rfl⟩:∃ k',k=k'+1:=⟨k-1,by omega⟩;have:i=w.1.length:=by omega
   subst this;show Q71.l0.step K (w,()) _ _=_;simp only[Q71.l0.step,bc,AX];rfl
  |succ d ih =>
   intro i k hi hk;obtain⟨k,rfl⟩:∃ k',k=k'+1:=⟨k-1,by omega⟩;have hlt:i<w.1.length:=by omega
   show Q71.l0.step K (w,()) _ _=_;simp only[Q71.l0.step];rw[bK (by omega:(i:Int)<(AD w.1:Int)),ai hlt,av i (by omega)];simp only[cond_true,AB];refine (congrArg (λo=>AS o _) (vk K w.1[i] (hn _ (AM hlt)) hK)).trans ?_;simp only[AB];have hz:decide (((w.1.take i).length+[w.1[i]].length)*232<=ah)=true:=decide_eq_true (by
    rw[AN];simp only[Ag,AT,ah];omega)
   refine (congrArg (λb=>bif b then _ else _) hz).trans ?_;have e:w.1.take i++[w.1[i]]=w.1.take (i+1):=by rw[List.take_add_one,List.getElem?_eq_getElem hlt];rfl
   rw[<- ih (i+1) k (by omega) (by omega),<- e];rfl
 exact this w.1.length 0 K (by omega) (by omega)
theorem WI.copy {w:bT}{c:Nat}(h:WI w c)(hc:c<=1000000)(K:Nat)(hK:1048577<K):Q71.f K (w,())=some ((w,()),()):=by
 have h1:=h.len;have h2:=h.radio.1;have h3:=h.sides;have h4:=h.born;refine xo K w (by omega) (λn hn=>?_) (by omega) (by omega) (by omega) hK;obtain⟨i,hi,rfl⟩:=AU hn;exact (h.node i hi).nb
theorem zC (K:Nat)(w:bT)(c:Nat)(evs:List af)(h:WI w c)(hl:evs.length<=1000)(hc:c<=900000)(hK:1048577<K):Tot (Q160.f K (w,evs,())) λr=>WI r.1.1 (c+4*evs.length)/\r.2.1=evs:=by
 simp only[Q160.f,Q160.pre];refine Tot.iter (step:=λrec a=>Q160.l0.step K (w,evs,()) rec a) (λa=>0<=a.1/\a.1<=evs.length/\WI a.2 (c+4*a.1.toNat)) (λa=>evs.length-a.1.toNat) ?_ K _ (by show evs.length-AC 0<K;omega) ⟨by show (0:Int)<=0;omega,by show (0:Int)<=_;omega,h⟩;rintro rec ⟨i,v⟩ ⟨h0,h1,h2⟩ ih;simp only at h0 h1 h2 ih ⊢;simp only[Q160.l0.step];refine Tot.cnd (λhlt=>?_) λ_=>Tot.ret ⟨WI.mono h2 (by omega),rfl⟩
 have hlt:i<(evs.length:Int):=of_decide_eq_true hlt;rw[aK (n:=i+1) (by omega) (by omega)];refine Tot.vl (h2.copy (by omega) K hK) (Tot.ix2 h0 hlt λe _ _=>Tot.bind (do_t K v _ h2 (by omega) e hK) ?_);rintro⟨⟨v',ok,⟨⟩⟩,⟨⟩⟩ hv;have hv:WI v' (c+4*i.toNat+4):=hv;have go:∀ u:bT,WI u (c+4*i.toNat+4)->Tot (rec (i+1,u)) λr=>WI r.1.1 (c+4*evs.length)/\r.2.1=evs:=λu hu=>ih (i+1,u) ⟨by show 0<=i+1;omega,by show i+1<=_;omega,hu.mono (by show _<=c+4*(i+1).toNat;omega)⟩ (by show evs.length-AC (i+1)<evs.length-AC i;omega)
 exact Tot.cnd (λ_=>go v' hv) λ_=>go v (h2.mono (by omega))
theorem uu (K:Nat)(hK:1048577<K):Tot (Q75.f K ()) λr=>WI r.1.1 8:=by
 simp only[Q75.f,Q75.pre];refine Tot.iter (step:=λrec a=>Q75.l0.step K () rec a) (λa=>0<=a.1/\a.1<=8/\a.2.1.length=a.1.toNat/\(∀ (j:Nat) (hj:j<a.2.1.length),dz j a.2.1[j])/\a.2.2.1.length=a.1.toNat/\a.2.2.2.length=a.1.toNat) (λa=>8-a.1.toNat) ?_ K _ (by show 8-AC 0<K;omega) ⟨by show (0:Int)<=0;omega,by show (0:Int)<=8;omega,rfl,λj hj=>(by cases hj),rfl,rfl⟩;rintro rec ⟨i,ns,ss,bs⟩ ⟨h0,h1,h2,h3,h4,h5⟩ ih;simp only at h0 h1 h2 h3 h4 h5 ih ⊢;simp only[Q75.l0.step];refine Tot.cnd (λhlt=>?_) λhlt=>?_
 ·have hlt:i<=7:=of_decide_eq_true hlt;rw[aK (n:=i+1) (by omega) (by omega)];simp only[Q74.f,AB];refine Tot.vl (lV K i _ ⟨h0,hlt⟩) (Tot.fit (Tot.fit (Tot.vl (show idx (jB i (decide (AQ i 4<3))).2.2.2.2.2.2.2.2.1 0=some (i,0,1,decide (AQ i 4<3)) from rfl) (Tot.fit (ih _ ⟨by show 0<=i+1;omega,by show i+1<=8;omega,?_,λj hj=>?_,?_,?_⟩ (by show 8-AC (i+1)<8-AC i;omega)) (by omega) ?_)) (by omega) ?_) (by omega) ?_)
  ·show (ns++[jB i _]).length=(i+1).toNat;simp;omega
  ·show dz j ((ns++[jB i (decide (AQ i 4<3))])[j]'hj);rw[List.getElem_append];split
   ·exact h3 j _
   ·rename_i hge;have hj:j<(ns++[jB i (decide (AQ i 4<3))]).length:=hj;have hji:j=i.toNat:=by simp at hj;omega
    subst hji;have:=dz.new i.toNat (decide (AQ i 4<3)) (by omega);rw[Ad h0]at this;simpa using this
  ·show (ss++[0]).length=(i+1).toNat;simp;omega
  ·show (bs++[_]).length=(i+1).toNat;simp;omega
  ·simp;omega
  ·simp;omega
  ·simp;omega
 ·have hge:=of_decide_eq_false hlt;refine Tot.ret ⟨?_,h3,⟨AV _,λf hf=>(nomatch hf)⟩,?_,?_⟩
  ·show ns.length=8;omega
  ·show ss.length=8;omega
  ·show bs.length<=8;omega
abbrev LtP (v n:Int):Prop:=0<=v/\v<n
def bg (b:List Int)(m:Nat)(s:List Int×Int):Prop:=∃ q:Nat,q<=m/\s=(b,(q:Int))
theorem bg.up {b:List Int}{m:Nat}{s:List Int×Int}(h:bg b m s){m':Nat}(hm:m<=m'):bg b m' s:=by obtain⟨q,h1,h2⟩:=h;exact⟨q,by omega,h2⟩
section
variable {K:Nat} {b:List Int} {m:Nat} {s:List Int×Int}
theorem aG (h:fj b)(hs:bg b m s)(n:Int)(hn:1<=n)(hm:m<=99000):Tot (Q69.f K (s,n,())) λr=>LtP r.1.1 n/\bg b (m+1) r.2.1:=by
 obtain⟨q,hq,rfl⟩:=hs;obtain⟨v,e,v0,v1⟩:=yl K b q n h (by omega) hn;exact⟨_,e,⟨v0,v1⟩,q+1,by omega,rfl⟩
theorem vR (code:List Int)(hb:∀ y∈code,0<=y/\y<=255)(hl:code.length<=9223372036854775807):∃ bs:List Int,fj bs/\Q68.f K (code,())=some (((bs,(0:Int)),()),()):=by
 simp only[Q68.f];by_cases h:(code.length:Int)>2000
 ·rw[decide_eq_true h,decide_eq_true (by omega:(2000:Int)<=(code.length:Int))];exact⟨(code.take 2000).drop 0,⟨λy hy=>hb y (Ab (by simpa using hy)),by simp;omega⟩,rfl⟩
 ·rw[decide_eq_false h];exact⟨code,⟨hb,by omega⟩,rfl⟩
theorem vS (h:fj b)(hs:bg b m s)(site:Int)(h0:0<=site)(h1:site<=1)(hm:m<=98000):Tot (Q166.f K (s,site,())) λr=>(bD r.1.1/\ap r.1.1.1=site)/\bg b (m+5) r.2.1:=by
 simp only[Q166.f];refine Tot.bind (aG h hs 4 (by decide) (by omega)) λv1 ⟨⟨a1,b1⟩,s1⟩=>Tot.bind (aG h s1 3 (by decide) (by omega)) λv2 ⟨⟨a2,b2⟩,s2⟩=>Tot.bind (aG h s2 12 (by decide) (by omega)) λv3 ⟨⟨a3,b3⟩,s3⟩=>Tot.bind (aG h s3 3 (by decide) (by omega)) λv4 ⟨⟨a4,b4⟩,s4⟩=>Tot.ix2 a4 b4 λy hy _=>Tot.bind (aG h s4 4 (by decide) (by omega)) λv5 ⟨⟨a5,b5⟩,s5⟩=>?_
 simp only[Q74.f,AB];have hy:InP y 0 999:=by
  simp only[Ak,Ah,or_false]at hy;rcases hy with rfl|rfl|rfl <;> constructor <;> omega
 rw[aK (n:=site*4) (by omega) (by omega),aK (n:=site*4+v1.1.1) (by omega) (by omega),aK (n:=1+v5.1.1) (by omega) (by omega)];refine Tot.ret ⟨⟨⟨⟨?_,?_⟩,hy,?_,?_⟩,?_⟩,s5⟩
 ·show (0:Int)<=site*4+v1.1.1;omega
 ·show site*4+v1.1.1<=7;omega
 ·show (1:Int)<=1+v5.1.1;omega
 ·show (1:Int)+v5.1.1<=4;omega
 ·show ap (site*4+v1.1.1)=site;rw[eC ⟨by omega,by omega⟩];omega
theorem qd (h:fj b)(hs:bg b m s)(hm:m<=97000):Tot (Q167.f K (s,())) λr=>bg b (m+8) r.2.1:=by
 simp only[Q167.f];refine Tot.bind (aG h hs 2 (by decide) (by omega)) λv1 ⟨⟨a1,b1⟩,s1⟩=>Tot.bind (vS h s1 v1.1.1 a1 (by omega) (by omega)) λf ⟨_,s2⟩=>Tot.bind (aG h s2 12 (by decide) (by omega)) λv3 ⟨_,s3⟩=>?_
 have two:∀ {x y:Int} {G:(Int×Unit)×(List Int×Int)×Unit->Int->Option ((af×Unit)×(List Int×Int)×Unit)},(∀ v z,Tot (G v z) λr=>r.2.1=v.2.1)->Tot ((Q69.f K (v3.2.1,2,())).bind λv=>(idx [x,y] v.1.1).bind λ_=>(idx [x,y] (AC v.1.1:Nat)).bind (G v)) λr=>bg b (m+8) r.2.1:=λhG=>Tot.bind (aG h s3 2 (by decide) (by omega)) λv ⟨⟨a,b⟩,s4⟩=>Tot.ix2 a b λz _ _=>(hG v z).mono λr e=>by rw[e];exact s4.up (by omega)
 refine Tot.cnd (λ_=>two λ_ _=>Tot.ret rfl) λ_=>Tot.cnd (λ_=>two λ_ _=>Tot.ret rfl) λ_=>Tot.cnd (λ_=>two λ_ _=>Tot.ret rfl) λ_=>Tot.cnd (λ_=>Tot.ret (s3.up (by omega))) λ_=>Tot.ret (s3.up (by omega))
theorem vT (t:List af)(f:af):(b6 t f).1.length<=t.length+1:=by
 rcases gh t f with e|e
 ·rw[e];omega
 ·rw[e];exact wR
theorem uv {t:List af}{f:af}{z:Int}(h:bP t z)(hf:ap f.1=z):bP (b6 t f).1 z:=by
 rcases gh t f with e|e <;> rw[e]
 ·exact h
 ·intro g hg;rcases aZ.1 hg with rfl|⟨hg,_⟩
  ·exact hf
  ·exact h g hg
theorem tu (h:fj b)(hs:bg b m s)(site:Int)(h0:-1<=site)(h1:site<=1)(hm:m<=96000)(hK:1048577<K):Tot (Q168.f K (s,site,())) λr=>(aA r.1.1/\(0<=site->bP r.1.1 site)/\r.1.1.length<=5)/\bg b (m+31) r.2.1:=by
 simp only[Q168.f,Q168.pre];refine Tot.bind (aG h hs 6 (by decide) (by omega)) λv ⟨⟨v0,v1⟩,s1⟩=>?_
 refine Tot.iter (step:=λrec a=>Q168.l0.step K (s,site,()) rec a) (λa=>∃ q:Nat,0<=a.2.1/\aA a.1/\(0<=site->bP a.1 site)/\(a.1.length:Int)+a.2.1<=5/\bg b q a.2.2/\q+6*a.2.1.toNat<=m+31) (λa=>a.2.1.toNat) ?_ K _ (by show v.1.1.toNat<K;omega) ⟨m+1,v0,⟨by simp,List.Pairwise.nil⟩,λ_ f hf=>(nomatch hf),by show ((0:Nat):Int)+v.1.1<=5;omega,s1,by show m+1+6*v.1.1.toNat<=m+31;omega⟩;rintro rec ⟨t,n,s2⟩ ⟨q,n0,hT,hS,hl,hs2,hq⟩ ih;simp only at n0 hT hS hl hs2 hq ih ⊢;simp only[Q168.l0.step];refine Tot.cnd (λhn=>?_) λ_=>Tot.ret ⟨⟨hT,hS,by show t.length<=5;omega⟩,hs2.up (by omega)⟩
 have hn:n>0:=of_decide_eq_true hn;rw[aK (n:=n-1) (by omega) (by omega)];have go:∀ (z:Int) (q':Nat) (s3:List Int×Int),0<=z->z<=1->(0<=site->z=site)->bg b q' s3->q'<=q+1->Tot ((Q166.f K (s3,z,())).bind λy3=>(Q110.f K (t,y3.1.1,())).bind λy4=>rec (y4.1.1,n-1,y3.2.1.1,y3.2.1.2)) λr=>(aA r.1.1/\(0<=site->bP r.1.1 site)/\r.1.1.length<=5)/\bg b (m+31) r.2.1:=λz q' s3 z0 z1 hz hs3 hq'=>by
  refine Tot.bind (vS h hs3 z z0 z1 (by omega)) λy ⟨⟨hf,hfs⟩,hs4⟩=>Tot.vl (uh K t y.1.1 (by omega) hT.2 hK) (ih (_,_,y.2.1) ⟨q'+5,by show 0<=n-1;omega,jr hT hf,λh9=>uv (hS h9) (by rw[hfs];exact hz h9),?_,hs4,by show q'+5+6*(n-1).toNat<=m+31;omega⟩ (by show (n-1).toNat<n.toNat;omega))
  have:=vT t y.1.1;show ((b6 t y.1.1).1.length:Int)+(n-1)<=5;omega
 refine Tot.cnd (λhneg=>?_) λhneg=>?_
 ·have hneg:site<0:=of_decide_eq_true hneg;exact Tot.bind (aG h hs2 2 (by decide) (by omega)) λv ⟨⟨a,b⟩,s3⟩=>go v.1.1 (q+1) v.2.1 a (by omega) (λh9=>by omega) s3 (Ac _)
 ·have hneg:¬ site<0:=of_decide_eq_false hneg;exact go site q s2 (by omega) h1 (λ_=>rfl) hs2 (by omega)
theorem oM (h:fj b)(hs:bg b m s)(hm:m<=95000)(hK:1048577<K):Tot (Q169.f K (s,())) λr=>r.1.1.length<=6/\bg b (m+42) r.2.1:=by
 simp only[Q169.f];refine Tot.bind (tu h hs (-1) (by decide) (by decide) (by omega) hK) λt ⟨⟨hT,_,hl⟩,s1⟩=>?_
 refine Tot.cnd (λh1=>?_) λ_=>Tot.ret ⟨by show t.1.1.length<=6;omega,s1.up (by omega)⟩
 have h1:(t.1.1.length:Int)>0:=of_decide_eq_true h1;refine Tot.bind (aG h s1 12 (by decide) (by omega)) λv2 ⟨_,s2⟩=>Tot.cnd (λ_=>?_) λ_=>Tot.ret ⟨by show t.1.1.length<=6;omega,s2.up (by omega)⟩
 refine Tot.bind (aG h s2 (t.1.1.length:Int) (by omega) (by omega)) λv3 ⟨⟨a3,b3⟩,s3⟩=>Tot.bind (aG h s3 3 (by decide) (by omega)) λv4 ⟨_,s4⟩=>?_
 refine Tot.cnd (λ_=>Tot.bind (qd h s4 (by omega)) λf s5=>Tot.ix2 a3 b3 λ_ _ _=>Tot.ret ⟨by show (t.1.1.set _ _).length<=6;rw[AH];omega,s5.up (by omega)⟩) λ_=>?_
 refine Tot.cnd (λ_=>Tot.ix2 a3 b3 λy _ _=>Tot.fit (Tot.ret ⟨by show (t.1.1++[y]).length<=6;simp;omega,s4.up (by omega)⟩) (by omega) (by simp;omega)) λ_=>Tot.ix2 a3 b3 λy _ _=>Tot.ret ⟨by show (t.1.1.set _ _).length<=6;rw[AH];omega,s4.up (by omega)⟩
theorem yE (h:fj b)(hs:bg b m s)(site:Int)(h0:-1<=site)(h1:site<=1)(hm:m<=95000)(hK:1048577<K):Tot (Q170.f K (s,site,())) λr=>r.1.1.length<=5/\bg b (m+36) r.2.1:=by
 simp only[Q170.f,Q170.pre];refine Tot.bind (tu h hs site h0 h1 (by omega) hK) λt ⟨⟨hT,_,hl⟩,s1⟩=>?_
 refine Tot.iter (step:=λrec a=>Q170.l0.step K (s,site,()) rec a) (λa=>a.2.1=t.1.1/\0<=a.2.2.1/\a.2.2.1<=t.1.1.length/\(a.1.length:Int)=a.2.2.1/\bg b (m+31+a.2.2.1.toNat) a.2.2.2) (λa=>t.1.1.length-a.2.2.1.toNat) ?_ K _ (by show t.1.1.length-AC 0<K;omega) ⟨rfl,by show (0:Int)<=0;omega,by show (0:Int)<=_;omega,rfl,s1⟩;rintro rec ⟨acc,t',i,s2⟩ ⟨e,i0,i1,hla,hs2⟩ ih;simp only at e i0 i1 hla hs2 ih ⊢;subst e;simp only[Q170.l0.step];refine Tot.cnd (λhi=>?_) λ_=>Tot.ret ⟨by show acc.length<=5;omega,hs2.up (by omega)⟩
 have hi:i<(t.1.1.length:Int):=of_decide_eq_true hi;rw[aK (n:=i+1) (by omega) (by omega)];refine Tot.ix2 i0 hi λy _ _=>Tot.bind (aG h hs2 4 (by decide) (by omega)) λv ⟨_,s3⟩=>Tot.fit (ih (_,_,_,v.2.1) ⟨rfl,by show 0<=i+1;omega,by show i+1<=_;omega,?_,s3.up (by show _<=m+31+(i+1).toNat;omega)⟩ (by show t.1.1.length-(i+1).toNat<t.1.1.length-i.toNat;omega)) (by omega) (by simp;omega)
 show ((acc++[_]).length:Int)=i+1;simp;omega
theorem uw (h:fj b)(hs:bg b m s)(hm:m<=94000)(hK:1048577<K):Tot (Q171.f K (s,())) λr=>r.1.1.length<=6/\bg b (m+50) r.2.1:=by
 simp only[Q171.f];refine Tot.bind (yE h hs (-1) (by decide) (by decide) (by omega) hK) λt ⟨hl,s1⟩=>?_
 refine Tot.cnd (λh1=>?_) λ_=>Tot.ret ⟨by show t.1.1.length<=6;omega,s1.up (by omega)⟩
 have h1:(t.1.1.length:Int)>0:=of_decide_eq_true h1;refine Tot.bind (aG h s1 10 (by decide) (by omega)) λv2 ⟨_,s2⟩=>Tot.cnd (λ_=>?_) λ_=>Tot.ret ⟨by show t.1.1.length<=6;omega,s2.up (by omega)⟩
 refine Tot.bind (aG h s2 (t.1.1.length:Int) (by omega) (by omega)) λv3 ⟨⟨a3,b3⟩,s3⟩=>Tot.bind (aG h s3 3 (by decide) (by omega)) λv4 ⟨_,s4⟩=>?_
 refine Tot.cnd (λ_=>Tot.bind (aG h s4 2 (by decide) (by omega)) λv5 ⟨⟨a5,b5⟩,s5⟩=>Tot.ix2 a5 b5 λ_ _ _=>Tot.ix2 a3 b3 λ_ _ _=>Tot.ret ⟨by show (t.1.1.set _ _).length<=6;rw[AH];omega,s5.up (by omega)⟩) λ_=>?_
 refine Tot.cnd (λ_=>Tot.bind (qd h s4 (by omega)) λf s5=>Tot.ix2 a3 b3 λ_ _ _=>Tot.ret ⟨by show (t.1.1.set _ _).length<=6;rw[AH];omega,s5.up (by omega)⟩) λ_=>?_
 exact Tot.ix2 a3 b3 λy _ _=>Tot.fit (Tot.ret ⟨by show (t.1.1++[y]).length<=6;simp;omega,s4.up (by omega)⟩) (by omega) (by simp;omega)
theorem vU (h:fj b)(hs:bg b m s)(hm:m<=95000):Tot (Q172.f K (s,())) λr=>bg b (m+6) r.2.1:=by
 simp only[Q172.f,Q72.f];refine Tot.bind (aG h hs 6 (by decide) (by omega)) λv1 ⟨_,s1⟩=>Tot.cnd (λ_=>Tot.ret (s1.up (by omega))) λ_=>Tot.bind (aG h s1 3 (by decide) (by omega)) λv3 ⟨⟨a3,b3⟩,s3⟩=>Tot.ix2 a3 b3 λy hy _=>?_
 have hy:InP y 10 100000:=by
  simp only[Ak,Ah,or_false]at hy;rcases hy with rfl|rfl|rfl <;> constructor <;> omega
 rw[aK (n:=2*y) (by omega) (by omega),aK (n:=2*y+1) (by omega) (by omega),aK (n:=y+1) (by omega) (by omega)];exact Tot.bind (aG h s3 _ (by omega) (by omega)) λv6 ⟨_,s6⟩=>Tot.bind (aG h s6 _ (by omega) (by omega)) λv7 ⟨_,s7⟩=>Tot.bind (aG h s7 _ (by omega) (by omega)) λv8 ⟨_,s8⟩=>Tot.bind (aG h s8 _ (by decide) (by omega)) λv9 ⟨_,s9⟩=>Tot.ret s9
theorem oN (h:fj b)(hs:bg b m s)(hm:m<=94000):Tot (Q173.f K (s,())) λr=>bg b (m+8) r.2.1:=by
 simp only[Q173.f];exact Tot.bind (vU h hs (by omega)) λc s1=>Tot.bind (aG h s1 16 (by decide) (by omega)) λv2 ⟨_,s2⟩=>Tot.cnd (λ_=>Tot.bind (aG h s2 3 (by decide) (by omega)) λv ⟨⟨a,b⟩,s3⟩=>Tot.ix2 a b λ_ _ _=>Tot.ret s3) λ_=>Tot.cnd (λ_=>Tot.bind (aG h s2 2 (by decide) (by omega)) λv ⟨⟨a,b⟩,s3⟩=>Tot.ix2 a b λ_ _ _=>Tot.ret s3) λ_=>Tot.cnd (λ_=>Tot.bind (aG h s2 2 (by decide) (by omega)) λv ⟨⟨a,b⟩,s3⟩=>Tot.ix2 a b λ_ _ _=>Tot.ret s3) λ_=>Tot.ret (s2.up (by omega))
theorem vV (h:fj b)(hs:bg b m s)(w:bT)(hm:m<=95000):Tot (Q161.f K (s,w,())) λr=>bg b (m+2) r.2.1:=by
 simp only[Q161.f];refine Tot.cnd (λ_=>Tot.ret (hs.up (by omega))) λh1=>?_
 have h1:¬ (w.2.1.length:Int)=0:=by simpa using h1
 refine Tot.bind (aG h hs 3 (by decide) (by omega)) λv1 ⟨_,s1⟩=>Tot.cnd (λ_=>Tot.cnd (λ_=>Tot.bind (aG h s1 4 (by decide) (by omega)) λv ⟨_,s2⟩=>Tot.ret s2) λ_=>?_) λ_=>?_ <;>
 exact Tot.bind (aG h s1 _ (by show (1:Int)<=(w.2.1.length:Int);omega) (by omega)) λv ⟨_,s2⟩=>Tot.ret s2
theorem yF (h:fj b)(hs:bg b m s)(w:bT)(hm:m<=94000):Tot (Q162.f K (s,w,())) λr=>bg b (m+8) r.2.1:=by
 simp only[Q162.f];refine Tot.bind (aG h hs 8 (by decide) (by omega)) λv1 ⟨_,s1⟩=>Tot.bind (aG h s1 256 (by decide) (by omega)) λv2 ⟨_,s2⟩=>Tot.bind (aG h s2 16 (by decide) (by omega)) λv3 ⟨_,s3⟩=>Tot.bind (aG h s3 40 (by decide) (by omega)) λv4 ⟨_,s4⟩=>?_
 have s4:bg b (m+4) v4.2.1:=s4.up (by omega);generalize v4.2.1=z at s4 ⊢;have u4:bg b (m+8) z:=s4.up (by omega);have pl:=vV (K:=K) h s4 w (by omega);have pk:∀ n:Int,1<=n->Tot (Q69.f K (z,n,())) λr=>bg b (m+8) r.2.1:=λn hn=>(aG h s4 n hn (by omega)).mono λr hr=>hr.2.up (by omega)
 have pp:∀ (z':List Int×Int) (n:Int),bg b (m+4+2) z'->1<=n->Tot (Q69.f K (z',n,())) λr=>bg b (m+8) r.2.1:=λz' n h1 hn=>(aG h h1 n hn (by omega)).mono λr hr=>hr.2.up (by omega)
 repeat' first
  |exact Tot.ret u4
  |exact Tot.bind pl λv hv=>Tot.ret (bg.up hv (by omega))
  |exact Tot.bind pl λv hv=>Tot.bind (pp _ _ hv (by decide)) λv hv=>Tot.ret hv
  |exact Tot.bind (pk _ (by decide)) λv hv=>Tot.ret hv
  |exact Tot.bind (pk _ (by decide)) λv hv=>Tot.cnd (λ_=>Tot.ret hv) λ_=>Tot.ret hv
  |refine Tot.cnd (λ_=>?_) λ_=>?_
theorem yG (h:fj b)(hs:bg b m s)(most:Int)(h1:1<=most)(h2:most<=200)(hm:m<=90000)(hK:1048577<K):Tot (Q163.f K (s,most,())) λr=>(WI r.1.2.1 2000/\r.1.1.length<=300)/\bg b (m+8*most.toNat+2) r.2.1:=by
 simp only[Q163.f,Q163.pre];have loop:∀ (out:List af) (n:Int) (z:List Int×Int) (w:bT) (q c:Nat),0<=n->n<most->out.length<=24->bg b q z->q<=m+2->WI w c->c<=200->Tot (Q163.l1 K (s,most,()) (out,n,z.1,z.2,w)) λr=>(WI r.1.2.1 2000/\r.1.1.length<=300)/\bg b (m+8*most.toNat+2) r.2.1:=λout n z w q c n0 n1 ho hz hq hw hc=>by
  refine Tot.iter (step:=λrec a=>Q163.l1.step K (s,most,()) rec a) (λa=>∃ q c:Nat,0<=a.2.1/\a.2.1<most/\(a.1.length:Int)+a.2.1<=24+most/\bg b q (a.2.2.1,a.2.2.2.1)/\q+8*a.2.1.toNat<=m+8*most.toNat+2/\WI a.2.2.2.2 c/\c+4*a.2.1.toNat<=2000) (λa=>a.2.1.toNat) ?_ K _ (by show n.toNat<K;omega) ⟨q,c,n0,n1,by show (out.length:Int)+n<=_;omega,hz,by show q+8*n.toNat<=_;omega,hw,by show c+4*n.toNat<=2000;omega⟩;clear hz hq hw hc n0 n1 ho;rintro rec ⟨out,n,z1,z2,w⟩ ⟨q,c,n0,n1,ho,hz,hq,hw,hc⟩ ih;simp only at n0 n1 ho hz hq hw hc ih ⊢;simp only[Q163.l1.step];refine Tot.cnd (λhn=>?_) λ_=>Tot.vl (hw.copy (by omega) K hK) (Tot.ret ⟨⟨hw.mono (by omega),by show out.length<=300;omega⟩,hz.up (by omega)⟩)
  have hn:n>0:=of_decide_eq_true hn;rw[aK (n:=n-1) (by omega) (by omega)];refine Tot.bind (yF h hz w (by omega)) λe he=>Tot.fit (Tot.vl (hw.copy (by omega) K hK) (Tot.bind (do_t K w c hw (by omega) e.1.1 hK) ?_)) (by omega) (by simp;omega)
  rintro⟨⟨v',ok,⟨⟩⟩,⟨⟩⟩ hv;have go:∀ u:bT,WI u (c+4)->Tot (rec (out++[e.1.1],n-1,e.2.1.1,e.2.1.2,u)) λr=>(WI r.1.2.1 2000/\r.1.1.length<=300)/\bg b (m+8*most.toNat+2) r.2.1:=λu hu=>ih _ ⟨q+8,c+4,by show 0<=n-1;omega,by show n-1<most;omega,by show ((out++[e.1.1]).length:Int)+(n-1)<=_;simp;omega,he,by show q+8+8*(n-1).toNat<=_;omega,hu,by show c+4+4*(n-1).toNat<=2000;omega⟩ (by show (n-1).toNat<n.toNat;omega)
  exact Tot.cnd (λ_=>go v' hv) λ_=>go w (hw.mono (by omega))
 refine Tot.bind (uu K hK) λw0 hw0=>Tot.bind (aG h hs 3 (by decide) (by omega)) λv2 ⟨_,s2⟩=>Tot.cnd (λ_=>?_) λ_=>Tot.bind (aG h s2 most h1 (by omega)) λv9 ⟨⟨a9,b9⟩,s9⟩=>loop [] v9.1.1 v9.2.1 w0.1.1 (m+2) 8 a9 b9 (by simp) s9 (Ac _) hw0 (by omega)
 refine Tot.iter (step:=λrec a=>Q163.l0.step K (s,most,()) (Q163.l1 K (s,most,())) rec a) (λa=>0<=a.2.1/\a.2.1<=8/\(a.1.length:Int)<=3*a.2.1/\bg b (m+1) (a.2.2.1,a.2.2.2.1)/\WI a.2.2.2.2 8) (λa=>8-a.2.1.toNat) ?_ K _ (by show 8-AC 0<K;omega) ⟨by show (0:Int)<=0;omega,by show (0:Int)<=8;omega,by show ((0:Nat):Int)<=3*0;omega,s2,hw0⟩;rintro rec ⟨out,i,z1,z2,w⟩ ⟨i0,i1,ho,hz,hw⟩ ih;simp only at i0 i1 ho hz hw ih ⊢;simp only[Q163.l0.step];refine Tot.cnd (λhi=>?_) λ_=>?_
 ·have hi:i<=7:=of_decide_eq_true hi;rw[aK (n:=i+1) (by omega) (by omega)];have go:∀ out':List af,(out'.length:Int)<=3*(i+1)->Tot (rec (out',i+1,z1,z2,w)) λr=>(WI r.1.2.1 2000/\r.1.1.length<=300)/\bg b (m+8*most.toNat+2) r.2.1:=λout' ho'=>ih _ ⟨by show 0<=i+1;omega,by show i+1<=8;omega,ho',hz,hw⟩ (by show 8-(i+1).toNat<8-i.toNat;omega)
  exact Tot.cnd (λ_=>Tot.fit (Tot.fit (go _ (by simp;omega)) (by omega) (by simp;omega)) (by omega) (by simp;omega)) λ_=>go out (by omega)
 ·refine Tot.bind (zC K w 8 out hw (by omega) (by omega) hK) λv ⟨hv,ev⟩=>Tot.bind (aG h hz most h1 (by omega)) λv4 ⟨⟨a4,b4⟩,s4⟩=>?_
  exact loop v.2.1 v4.1.1 v4.2.1 v.1.1 (m+1+1) _ a4 b4 (by rw[ev];omega) s4 (by omega) hv (by omega)
theorem yH (h:fj b)(hs:bg b m s)(hm:m<=90000)(hK:1048577<K):Tot (Q164.f K (s,())) λr=>WI r.1.1 2000/\bg b (m+802) r.2.1:=by
 simp only[Q164.f];exact Tot.bind (yG h hs 100 (by decide) (by decide) hm hK) λv hv=>Tot.ret ⟨hv.1.1,hv.2⟩
theorem xp (h:fj b)(hs:bg b m s)(hm:m<=90000)(hK:1048577<K):Tot (Q165.f K (s,())) λr=>(∃ i,dz i r.1.1)/\bg b (m+803) r.2.1:=by
 simp only[Q165.f];refine Tot.bind (yH h hs hm hK) λw ⟨hw,s1⟩=>Tot.bind (aG h s1 _ (by have:=hw.len;show (1:Int)<=(w.1.1.1.length:Int);omega) (by omega)) λv ⟨⟨a,b⟩,s2⟩=>Tot.ix a b λy hy _=>Tot.ret ⟨?_,s2⟩
 obtain⟨i,hi,rfl⟩:=AU hy;exact⟨i,hw.node i hi⟩
structure NS (c:Nat) (n:aa):Prop where
 nb:NB n
 table:(aa.table n).length<=c
 cast:(aa.cast n).length<=c
 doubts:(aa.doubts n).length<=c
 places:(aa.places n).length<=c
 others:(aa.others n).length<=c
theorem dz.ns {i:Nat}{n:aa}(h:dz i n):NS 8 n:=by
 cases hu:n.2.1 with
 |true =>
  have hU:=h.up hu;refine⟨h.nb,by have:=h.short;omega,by have:=clen hU.x.say;omega,?_,?_,?_⟩
  ·exact AI (gT hU.x.say.asc hU.x.say.inp) (by decide)
  ·exact AI (gT hU.x.places.2 λx hx=>(hU.x.places.1 x hx).1) (by decide)
  ·exact AI (gT hU.x.others.2 λx hx=>⟨(hU.x.others.1 x hx).1.1,Int.le_trans (hU.x.others.1 x hx).1.2 (by decide)⟩) (by decide)
 |false =>
  have e:=h.down hu;refine⟨h.nb,?_,?_,?_,?_,?_⟩ <;> rw[e] <;> exact AV _
theorem vW (h:fj b)(hs:bg b m s)(n:aa){c:Nat}(hn:NS c n)(h8:8<=c)(hc:c<=1000)(hm:m<=90000)(hK:1048577<K):Tot (Q174.f K (s,n,())) λr=>NS (c+1) r.1.1/\bg b (m+60) r.2.1:=by
 simp only[Q174.f];rw[vk K n hn.nb hK];simp only[AB];obtain⟨⟨n1,n2,n3,n4,n5,n6,n7,n8⟩,l1,l2,l3,l4,l5⟩:=hn;refine Tot.bind (aG h hs 12 (by decide) (by omega)) λv2 ⟨_,s2⟩=>?_
 have same:∀ (n':aa) (z:List Int×Int),n'.2.2.2.2.2.2.2.2=n.2.2.2.2.2.2.2.2->bg b (m+60) z->NS (c+1) n'/\bg b (m+60) z:=λn' z e hz=>by
  refine⟨⟨⟨?_,?_,?_,?_,?_,?_,?_,?_⟩,?_,?_,?_,?_,?_⟩,hz⟩ <;> simp only[aa.table,aa.cast,aa.doubts,aa.places,aa.others] <;> rw[e] <;> first|assumption|(refine AI ?_ (Aa c);assumption)
 have u2:bg b (m+60) v2.2.1:=s2.up (by omega);refine Tot.cnd (λ_=>Tot.bind (oM h s2 (by omega) hK) λt ⟨tl,s3⟩=>Tot.ret ⟨⟨⟨by show t.1.1.length<=_;omega,n2,n3,n4,n5,n6,n7,n8⟩,by show t.1.1.length<=_;omega,AA l2,AA l3,AA l4,AA l5⟩,s3.up (by omega)⟩) λ_=>?_
 refine Tot.cnd (λ_=>Tot.bind (uw h s2 (by omega) hK) λt ⟨tl,s3⟩=>Tot.ret ⟨⟨⟨n1,by show t.1.1.length<=_;omega,n3,n4,n5,n6,n7,n8⟩,AA l1,by show t.1.1.length<=_;omega,AA l3,AA l4,AA l5⟩,s3.up (by omega)⟩) λ_=>?_
 refine Tot.cnd (λ_=>Tot.ret (same _ _ rfl u2)) λ_=>?_
 refine Tot.cnd (λ_=>Tot.bind (aG h s2 9 (by decide) (by omega)) λv5 ⟨_,s5⟩=>Tot.bind (aG h s5 3 (by decide) (by omega)) λv6 ⟨_,s6⟩=>Tot.bind (aG h s6 3 (by decide) (by omega)) λv7 ⟨_,s7⟩=>Tot.bind (aG h s7 2 (by decide) (by omega)) λv8 ⟨_,s8⟩=>Tot.ret ⟨⟨⟨n1,n2,n3,n4,n5,n6,n7,n8⟩,AA l1,AA l2,AA l3,AA l4,AA l5⟩,s8.up (by omega)⟩) λ_=>?_
 refine Tot.cnd (λ_=>Tot.bind (aG h s2 8 (by decide) (by omega)) λv9 ⟨_,s9⟩=>Tot.bind (aG h s9 8 (by decide) (by omega)) λv10 ⟨_,s10⟩=>Tot.fit (Tot.ret ⟨⟨⟨n1,n2,?_,?_,n5,n6,n7,n8⟩,AA l1,AA l2,?_,AA l4,AA l5⟩,s10.up (by omega)⟩) (by omega) ?_) λ_=>?_
 ·show (aa.doubts n++[_]).length<=_;simp;omega
 ·intro d hd;rcases AL.1 hd with hd|hd
  ·exact n4 d hd
  ·rw[AG.1 hd];show ([v10.1.1]:List Int).length<=_;simp
 ·show (aa.doubts n++[_]).length<=_;simp;omega
 ·show (aa.doubts n).length+_<=_;simp;omega
 refine Tot.cnd (λ_=>Tot.bind (oN h s2 (by omega)) λc s3=>Tot.ret ⟨⟨⟨n1,n2,n3,n4,n5,n6,n7,n8⟩,AA l1,AA l2,AA l3,AA l4,AA l5⟩,s3.up (by omega)⟩) λ_=>?_
 refine Tot.cnd (λ_=>Tot.bind (aG h s2 9 (by decide) (by omega)) λv9 ⟨_,s9⟩=>Tot.bind (oN h s9 (by omega)) λc s10=>Tot.bind (aG h s10 3 (by decide) (by omega)) λv11 ⟨_,s11⟩=>Tot.fit (Tot.ret ⟨⟨⟨n1,n2,n3,n4,?_,?_,n7,n8⟩,AA l1,AA l2,AA l3,?_,AA l5⟩,s11.up (by omega)⟩) (by omega) ?_) λ_=>?_
 ·show (aa.places n++[_]).length<=_;simp;omega
 ·intro d hd;rcases AL.1 hd with hd|hd
  ·exact n6 d hd
  ·rw[AG.1 hd];show ([v11.1.1]:List Int).length<=_;simp
 ·show (aa.places n++[_]).length<=_;simp;omega
 ·show (aa.places n).length+_<=_;simp;omega
 refine Tot.cnd (λ_=>Tot.bind (aG h s2 3 (by decide) (by omega)) λv9 ⟨_,s9⟩=>Tot.bind (oM h s9 (by omega) hK) λt ⟨tl,s10⟩=>Tot.fit (Tot.ret ⟨⟨⟨n1,n2,n3,n4,n5,n6,?_,?_⟩,AA l1,AA l2,AA l3,AA l4,?_⟩,s10.up (by omega)⟩) (by omega) ?_) λ_=>?_
 ·show (aa.others n++[_]).length<=_;simp;omega
 ·intro d hd;rcases AL.1 hd with hd|hd
  ·exact n8 d hd
  ·rw[AG.1 hd];show t.1.1.length<=_;omega
 ·show (aa.others n++[_]).length<=_;simp;omega
 ·show (aa.others n).length+_<=_;simp;omega
 refine Tot.cnd (λ_=>Tot.ret (same _ _ rfl u2)) λ_=>Tot.cnd (λ_=>Tot.ret (same _ _ rfl u2)) λ_=>?_
 refine Tot.cnd (λ_=>Tot.bind (aG h s2 3 (by decide) (by omega)) λv ⟨⟨a,b⟩,s3⟩=>Tot.ix2 a b λ_ _ _=>Tot.ret (same _ _ rfl (s3.up (by omega)))) λ_=>?_
 exact Tot.bind (aG h s2 8 (by decide) (by omega)) λv9 ⟨_,s9⟩=>Tot.bind (aG h s9 3 (by decide) (by omega)) λv ⟨⟨a,b⟩,s3⟩=>Tot.ix2 a b λ_ _ _=>Tot.ret (same _ _ rfl (s3.up (by omega)))
end
theorem pv (K:Nat)(n:aa)(hn:NB n)(hK:1048577<K):∃ r:List af,r.length<=1048576/\Q67.f K (n,())=some ((r,()),())/\((¬ (cF n/\n.2.1=true)/\r=[])\/(cF n/\n.2.1=true/\r=c6 n)):=by
 obtain⟨b,h1,h2,h3⟩:=iz K n hn hK;simp only[Q67.f];rw[h2];cases b with
 |false=>exact⟨[],by simp,rfl,.inl ⟨λh=>(by have:=h3.2 h.1;cases this),rfl⟩⟩
 |true =>
  have hP:=h3.1 rfl;cases hu:n.2.1 with
  |false=>exact⟨[],by simp,by simp only[AB,hu];rfl,.inl ⟨λh=>(by cases h.2),rfl⟩⟩
  |true =>
   refine⟨c6 n,by have:=ut hn hP;omega,?_,.inr ⟨hP,rfl,rfl⟩⟩;simp only[AB,hu,AR,cond_false];rw[xk K n hn hP hK];rfl
theorem lC (K:Nat)(n:aa)(hn:NB n)(hK:1048577<K):∃ r:List af,r.length<=1048576/\Q181.f K (n,())=some ((r,()),())/\Q67.f K (n,())=some ((r,()),())/\((¬ (cF n/\n.2.1=true)/\r=[])\/(cF n/\n.2.1=true/\r=c6 n)):=by
 obtain⟨r,h0,h1,h2⟩:=pv K n hn hK;refine⟨r,h0,?_,h1,h2⟩;obtain⟨b,h3,_,h4⟩:=iz K n hn hK;rcases h2 with ⟨h2,rfl⟩|⟨hP,hu,rfl⟩
 ·simp only[Q181.f,Q181.pre];rw[h3];cases b with
  |false=>rfl
  |true =>
   cases hu:n.2.1 with
   |false=>simp only[AB,hu];rfl
   |true=>exact absurd ⟨h4.1 rfl,hu⟩ h2
 ·exact xm K n hn hP hu hK
section
variable {K:Nat} {b:List Int} {m:Nat} {s:List Int×Int}
theorem vX (h:fj b)(hs:bg b m s)(hm:m<=89000)(hK:1048577<K):Tot (Q175.f K (s,())) λr=>NS 9 r.1.1/\bg b (m+864) r.2.1:=by
 simp only[Q175.f];refine Tot.bind (xp h hs (by omega) hK) λn ⟨⟨i,hn⟩,s1⟩=>Tot.bind (aG h s1 20 (by decide) (by omega)) λv ⟨_,s2⟩=>Tot.cnd (λ_=>Tot.bind (vW h s2 n.1.1 hn.ns (Ac _) (by omega) (by omega) hK) λr hr=>Tot.ret hr) λ_=>Tot.ret ⟨?_,s2.up (by omega)⟩
 obtain⟨h1,h2,h3,h4,h5,h6⟩:=hn.ns;exact⟨h1,AA h2,AA h3,AA h4,AA h5,AA h6⟩
end
theorem bg.zero (b:List Int):bg b 0 (b,0):=⟨0,Ac _,rfl⟩
structure oO (code:List Int):Prop where
 byte:∀ y∈code,0<=y/\y<=255
 len:code.length<=9223372036854775807
theorem ux (K:Nat)(code:List Int)(hc:oO code)(hK:1048577<K):Tot (Q176.f K (code,())) λr=>NS 9 r.1.1:=by
 obtain⟨bs,hR,e⟩:=vR (K:=K) code hc.byte hc.len;simp only[Q176.f];exact Tot.vl e (Tot.bind (vX hR (bg.zero bs) (by omega) hK) λn ⟨hn,s1⟩=>Tot.ret hn)
theorem vY (K:Nat)(code:List Int)(hc:oO code):Tot (Q177.f K (code,())) λ_=>True:=by
 obtain⟨bs,hR,e⟩:=vR (K:=K) code hc.byte hc.len;simp only[Q177.f];exact Tot.vl e (Tot.bind (aG hR (bg.zero bs) 11 (by decide) (by omega)) λv ⟨_,s1⟩=>Tot.bind (aG hR s1 2 (by decide) (by omega)) λ_ _=>Tot.ret trivial)
theorem mZ (K:Nat)(xs:List Int)(hx:xs.length<=1048576)(hK:1048577<K):Q182.f K (xs,xs,())=rb true:=by
 have hl:Q182.l0 K (xs,xs,()) 0=rb true:=by
  refine fR (step:=λrec a=>Q182.l0.step K (xs,xs,()) rec a) xs.length (λi=>(i:Int)) (rb true) ?_ ?_ (by omega)
  ·intro rec i hi;simp only[Q182.l0.step];rw[decide_eq_true (by omega:(i:Int)<(AD xs:Int)),ai hi,av i (by omega)];simp only[cond_true,AB,bne_self_eq_false,cond_false]
  ·intro rec;simp only[Q182.l0.step,bc];rfl
 simp only[Q182.f,Q182.pre,bne_self_eq_false,cond_false];exact hl
theorem rR (K:Nat)(xs:List aV)(hx:xs.length<=1048576)(hK:1048577<K):Q183.f K (xs,xs,())=rb true:=by
 have hl:Q183.l0 K (xs,xs,()) 0=rb true:=by
  refine fR (step:=λrec a=>Q183.l0.step K (xs,xs,()) rec a) xs.length (λi=>(i:Int)) (rb true) ?_ ?_ (by omega)
  ·intro rec i hi;simp only[Q183.l0.step];rw[decide_eq_true (by omega:(i:Int)<(AD xs:Int)),ai hi,av i (by omega)];simp only[cond_true,AB];rw[show Ty.eqv t3 xs[i] xs[i]=true by
    show (Ty.eqv t2 xs[i].1 xs[i].1&&decide (xs[i].2=xs[i].2))=true;rw[show Ty.eqv t2 xs[i].1 xs[i].1=decide (xs[i].1=xs[i].1) from iH _ _,decide_eq_true rfl,decide_eq_true rfl];rfl]
   rfl
  ·intro rec;simp only[Q183.l0.step,bc];rfl
 simp only[Q183.f,Q183.pre,bne_self_eq_false,cond_false];exact hl
theorem sM (K:Nat)(n:aa)(hn:NB n)(hK:1048577<K):Q184.f K (n,n,())=rb true:=by
 have h2:Q184.l2 K (n,n,()) 0=rb true:=by
  have hl:=hn.others;refine fR (step:=λrec a=>Q184.l2.step K (n,n,()) rec a) (aa.others n).length (λi=>(i:Int)) (rb true) ?_ ?_ (by omega)
  ·intro rec i hi;simp only[Q184.l2.step];rw[bK (by omega:(i:Int)<(AD (aa.others n):Int)),ai hi,av i (by omega)];simp only[cond_true,AB,bne_self_eq_false,cond_false];refine (congrArg (λo=>AS o _) (jx K _ (hn.facts _ (AM hi)) hK)).trans rfl
  ·intro rec;simp only[Q184.l2.step,bc];rfl
 have h1:Q184.l1 K (n,n,()) 0=rb true:=by
  have hl:=hn.places;refine fR (step:=λrec a=>Q184.l1.step K (n,n,()) (Q184.l2 K (n,n,())) rec a) (aa.places n).length (λi=>(i:Int)) (rb true) ?_ ?_ (by omega)
  ·intro rec i hi;simp only[Q184.l1.step];rw[bK (by omega:(i:Int)<(AD (aa.places n):Int)),ai hi,av i (by omega)];simp only[cond_true,AB,bne_self_eq_false,cond_false];rw[show Ty.eqv t9 (aa.places n)[i].2.1 (aa.places n)[i].2.1=decide ((aa.places n)[i].2.1=(aa.places n)[i].2.1) from rj _ _,decide_eq_true rfl];simp only[AR,cond_false];refine (congrArg (λo=>AS o _) (mZ K _ (hn.trips _ (AM hi)) hK)).trans rfl
  ·intro rec;simp only[Q184.l1.step,bc];exact h2
 have h0:Q184.l0 K (n,n,()) 0=rb true:=by
  have hl:=hn.doubts;refine fR (step:=λrec a=>Q184.l0.step K (n,n,()) (Q184.l1 K (n,n,())) rec a) (aa.doubts n).length (λi=>(i:Int)) (rb true) ?_ ?_ (by omega)
  ·intro rec i hi;simp only[Q184.l0.step];rw[bK (by omega:(i:Int)<(AD (aa.doubts n):Int)),ai hi,av i (by omega)];simp only[cond_true,AB,bne_self_eq_false,cond_false];refine (congrArg (λo=>AS o _) (mZ K _ (hn.by_ _ (AM hi)) hK)).trans rfl
  ·intro rec;simp only[Q184.l0.step,bc];exact h1
 simp only[Q184.f,Q184.pre,bne_self_eq_false,cond_false];refine (congrArg (λo=>AS o _) (jx K (aa.table n) hn.table hK)).trans ?_;simp only[rb,AB,AR,cond_false];refine (congrArg (λo=>AS o _) (rR K (aa.cast n) hn.cast hK)).trans ?_;simp only[rb,AB,AR,cond_false];rw[show Ty.eqv t2 n.2.2.2.2.2.2.2.2.2.2.1 n.2.2.2.2.2.2.2.2.2.2.1=decide (aa.probe n=aa.probe n) from iH _ _,show Ty.eqv t9 n.2.2.2.2.2.2.2.2.2.2.2.2.1 n.2.2.2.2.2.2.2.2.2.2.2.2.1=decide (aa.coord n=aa.coord n) from rj _ _,decide_eq_true rfl,decide_eq_true rfl];exact h0
theorem rS {me:Int}{l:List bZ}(hm:InP me 0 7)(h:cl me l)(s:Int):c5 l s=dt l s:=by
 unfold c5 dt;rcases gW hm h with e|⟨x,e⟩ <;> rw[e]
 ·rfl
 ·rw[AW,List.find?_cons];cases x.1==s <;> simp
theorem uy {me:Int}{l:List bZ}(h:cl me l):dt l (ap me)=[]:=by
 rcases jO (l:=l) (s:=ap me) with e|⟨x,hx,e,_⟩
 ·exact e
 ·exact absurd e (h.1 x hx).2.1
theorem uz {me:Int}{l:List bZ}(h:cl me l)(s:Int):bP (dt l s) s:=by
 rcases jO (l:=l) (s:=s) with e|⟨x,hx,e1,e⟩ <;> rw[e]
 ·intro f hf;cases hf
 ·rw[<- e1];exact (h.1 x hx).2.2.2.2
theorem tv {n:aa}(hP:cF n)(hu:n.2.1=true)(s:Int):b8 n s=bif s==ap n.1 then aa.table n else dt (aa.others n) s:=by
 obtain⟨_,_,_,_,_,_,_,_,hO⟩:=hP.up hu;unfold b8;rw[rS hP.1 hO];cases hs:s==ap n.1 with
 |false=>rfl
 |true =>
  rw[show s=ap n.1 by simpa using hs,uy hO];simp
theorem pw {n:aa}(hP:cF n)(hu:n.2.1=true)(s:Int):aA (b8 n s)/\bP (b8 n s) s:=by
 obtain⟨hT,hS,_,_,_,_,_,_,hO⟩:=hP.up hu;rw[tv hP hu];cases hs:s==ap n.1 with
 |true=>rw[show s=ap n.1 by simpa using hs];exact⟨hT,hS⟩
 |false=>exact⟨nK hO s,uz hO s⟩
theorem tw {n:aa}(hn:NB n)(hP:cF n)(hu:n.2.1=true):c6 n=b8 n 0++b8 n 1:=mY hn hP hu
theorem xq {n:aa}(hn:NB n)(hP:cF n)(hu:n.2.1=true):aA (c6 n):=by
 rw[tw hn hP hu];obtain⟨a1,a2⟩:=pw hP hu 0;obtain⟨b1,b2⟩:=pw hP hu 1;refine⟨λf hf=>(AL.1 hf).elim (a1.1 f) (b1.1 f),?_⟩;unfold Asc;rw[AZ];refine⟨a1.2,b1.2,λf hf g hg=>?_⟩;have h1:=a2 f hf;have h2:=b2 g hg;rw[eC (a1.1 f hf).1]at h1;rw[eC (b1.1 g hg).1]at h2;show f.1<g.1;omega
theorem xt {n:aa}(hP:cF n)(hu:n.2.1=true){s:Int}(h0:s≠0)(h1:s≠1):b8 n s=[]:=by
 obtain⟨ht,hs⟩:=pw hP hu s;cases hp:b8 n s with
 |nil=>rfl
 |cons f l =>
  rw[hp]at ht hs;have:=hs f (by simp);have hf:=(ht.1 f (by simp)).1;obtain⟨f0,f1⟩:=tn hf;omega
theorem vZ {n:aa}(hn:NB n)(hP:cF n)(hu:n.2.1=true){s:Int}{f:af}(hf:f∈b8 n s):f∈c6 n:=by
 rw[tw hn hP hu];by_cases h0:s=0
 ·subst h0;exact List.mem_append_left _ hf
 ·by_cases h1:s=1
  ·subst h1;exact List.mem_append_right _ hf
  ·rw[xt hP hu h0 h1]at hf;cases hf
theorem uA (K:Nat){t:List af}{f:af}(hT:aA t)(hf:f∈t)(hK:1048577<K):Q12.f K (t,f.1,())=some ((f,true,()),()):=by
 rcases jN K t f.1 (cD hT) hK with ⟨h,_⟩|⟨_,⟨g,hg,e,h⟩|⟨h,_⟩⟩
 ·exact absurd hT h
 ·rw[h,f9 hT.2 hg hf e]
 ·exact absurd rfl (h f hf)
end Go.Proofs.YtmcbmojdeikcdaaGreatEv
