/- FnNodeTells: the plain law. -/
import Derived.Test.YtaegajachoklkabGreatP3
set_option linter.unusedVariables false
set_option linter.unusedSimpArgs false
open Bool renaming not_true->BH
open Int renaming fdiv->BK,tdiv->BM,toNat_natCast->BO
open List renaming take_succ_eq_append_getElem->BI,mem_singleton->BJ,mem_append->BL,filter_append->BN,take_length->BP,mem_map->BQ
open Option renaming bind_some->BG,bind->BR
namespace Go.Proofs.YtaegajachoklkabGreatEv
open Go
theorem uD (K:Nat)(y:List Int)(H:xW y)(O:1048577<K):Tot (Q127.f K (y,())) λr=>NS 9 r.1.1/\InP r.1.2.1 (-3) 4095:=by
 obtain⟨M,z,e⟩:=Bs (K:=K) y H.byte H.len;simp only[Q127.f];refine Tot.vl e (Tot.bind (xV z (bh.zero M) (by omega) O) λn ⟨J,I⟩=>Tot.bind (aH z I 4096 (by decide) (by omega)) λv ⟨⟨Y,a1⟩,R⟩=>Tot.bind (aH z R 4 (by decide) (by omega)) λu ⟨⟨X,Z⟩,_⟩=>Tot.ret ⟨J,?_⟩);show InP (wr .i64 (v.1.1-u.1.1)) (-3) 4095;rw[aD (by omega) (by omega)];exact⟨by omega,by omega⟩
theorem AC {v:Int}(h:InP v (-3) 4095):0<=BM v 4/\BM v 4<=1023:=by
 obtain⟨r,u⟩:=h;rcases Int.lt_or_le v 0 with h|h
 ·have:v=-1\/v=-2\/v=-3:=by omega
  rcases this with rfl|rfl|rfl <;> decide
 ·rw[Int.tdiv_eq_ediv_of_nonneg h];omega
theorem AD {k:Int}(r:0<=k)(y:k<=1023):aO .i64 (k*4+1) 3=1:=by
 obtain⟨m,rfl⟩:=Int.eq_ofNat_of_zero_le r;have e:(BitVec.ofInt 64 ((m:Int)*4+1) &&& BitVec.ofInt 64 3).toNat=1:=by
  rw[BitVec.toNat_and,BitVec.toNat_ofInt];have u:(BitVec.ofInt 64 3).toNat=2 ^ 2-1:=by decide
  rw[u,Nat.and_two_pow_sub_one_eq_mod];omega
 show IntKind.i64.wrap (((BitVec.ofInt 64 ((m:Int)*4+1) &&& BitVec.ofInt 64 3).toNat:Nat):Int)=1;rw[e];rfl
abbrev flN {R:Type}(n:aa)(r:R):=(n.1,n.2.1,n.2.2.1,n.2.2.2.1,n.2.2.2.2.1,n.2.2.2.2.2.1,n.2.2.2.2.2.2.1,n.2.2.2.2.2.2.2.1,n.2.2.2.2.2.2.2.2.1,n.2.2.2.2.2.2.2.2.2.1,n.2.2.2.2.2.2.2.2.2.2.1.1,n.2.2.2.2.2.2.2.2.2.2.1.2.1,n.2.2.2.2.2.2.2.2.2.2.1.2.2.1,n.2.2.2.2.2.2.2.2.2.2.1.2.2.2,n.2.2.2.2.2.2.2.2.2.2.2.1,n.2.2.2.2.2.2.2.2.2.2.2.2.1.1,n.2.2.2.2.2.2.2.2.2.2.2.2.1.2.1,n.2.2.2.2.2.2.2.2.2.2.2.2.1.2.2.1,n.2.2.2.2.2.2.2.2.2.2.2.2.1.2.2.2,n.2.2.2.2.2.2.2.2.2.2.2.2.2.1,n.2.2.2.2.2.2.2.2.2.2.2.2.2.2,r)
abbrev flE (n:aa):=(n.1,n.2.1,n.2.2.1,n.2.2.2.1,n.2.2.2.2.1,n.2.2.2.2.2.1,n.2.2.2.2.2.2.1,n.2.2.2.2.2.2.2.1,n.2.2.2.2.2.2.2.2.1,n.2.2.2.2.2.2.2.2.2.1,n.2.2.2.2.2.2.2.2.2.2.1.1,n.2.2.2.2.2.2.2.2.2.2.1.2.1,n.2.2.2.2.2.2.2.2.2.2.1.2.2.1,n.2.2.2.2.2.2.2.2.2.2.1.2.2.2,n.2.2.2.2.2.2.2.2.2.2.2.1,n.2.2.2.2.2.2.2.2.2.2.2.2.1.1,n.2.2.2.2.2.2.2.2.2.2.2.2.1.2.1,n.2.2.2.2.2.2.2.2.2.2.2.2.1.2.2.1,n.2.2.2.2.2.2.2.2.2.2.2.2.1.2.2.2,n.2.2.2.2.2.2.2.2.2.2.2.2.2.1,n.2.2.2.2.2.2.2.2.2.2.2.2.2.2)
def wh (n:aa):List ap:=(eQ n).2++(dM (eQ n).1).2
theorem rx (n:aa):∀ w∈wh n,w.1=1:=by
 have I:∀ m:aa,∀ w∈(bk m).2,w.1=1:=by
  intro m w r;unfold bk at r;cases h:(aa.probe m).1==-1 with
  |true=>rw[h]at r;cases r
  |false =>
   rw[h]at r;simp only[cond_false]at r;cases z:cL (aG (aa.table m) (aa.probe m).1) with
   |false=>rw[z]at r;cases r
   |true =>
    rw[z]at r;simp only[BH,cond_false]at r;cases u:decide (m.2.2.2.2.2.1-(aa.probe m).2.1>=4) with
    |true=>rw[u]at r;cases r
    |false =>
     rw[u]at r;simp only[cond_false]at r;cases y:decide (m.2.2.2.2.2.1-(aa.probe m).2.1>=2) with
     |false=>rw[y]at r;cases r
     |true =>
      rw[y]at r;cases H:(aa.probe m).2.2.2 with
      |true=>rw[H]at r;cases r
      |false =>
       rw[H]at r;obtain⟨to,_,rfl⟩:=BQ.1 r;rfl
 have z:∀ m:aa,∀ w∈(dM m).2,w.1=1:=by
  intro m w r;unfold dM at r;cases h:(aa.probe m).1==-1 with
  |false=>rw[h]at r;cases r
  |true =>
   rw[h]at r;simp only[cond_true,dI]at r;cases u:decide (jk m>=999999) with
   |true=>rw[u]at r;cases r
   |false =>
    rw[u]at r;simp only[cond_false]at r;cases y:gY m with
    |none=>rw[y]at r;cases r
    |some to =>
     rw[y]at r;rw[BJ.1 r];rfl
 intro w r;rcases BL.1 r with r|r
 ·exact I _ w r
 ·exact z _ w r
theorem zm {x:aa}(h:UpX x){s d:Int}(X:InP s 0 1):ao (f9 x s d)=s:=by
 unfold f9;have O:ao (s*4+aO .i64 (BK d (2 ^ 3)) 3)=s:=by
  obtain⟨H,I⟩:=kz (a:=BK d (2 ^ 3)) (m:=3) (by omega);have H:0<=aO .i64 (BK d (2 ^ 3)) 3:=H;have I:aO .i64 (BK d (2 ^ 3)) 3<=3:=I;obtain⟨Z,Y⟩:=X;rw[jj ⟨by omega,by omega⟩];omega
 cases J:decide (ct (cW (aa.others x) s)≠[])&&aO .i64 d 4==0 with
 |false=>exact O
 |true =>
  simp only[Bool.and_eq_true,decide_eq_true_eq]at J;simp only[cond_true];obtain⟨_,_,R⟩:=dV (d:=BK d (2 ^ 3)) J.1;obtain⟨f,u,e,_⟩:=x3 R;rw[<- e];unfold cW at u;cases r:(aa.others x).find? λz=>z.1==s with
  |none=>rw[r]at u;cases u
  |some z =>
   rw[r]at u;have M:=List.mem_of_find?_eq_some r;have y:z.1=s:=by simpa using List.find?_some r
   rw[<- y];exact (h.others.1 z M).2.2.2.2 f u
theorem x4 {x:aa}(h:UpX x)(d:Int):(∀ w∈eK x d,w.1=2/\ao w.2.2.2.1≠ao x.1/\ap.table w=aa.table x)/\((eK x d).length:Int)=if ew x=true then 1 else 0:=by
 unfold eK;cases J:ew x with
 |false=>exact⟨λw u=>(by cases u),rfl⟩
 |true =>
  simp only[cond_true,if_true];have z:=va h.me;refine⟨λw u=>?_,?_⟩
  ·obtain⟨s,H,rfl⟩:=BQ.1 u;obtain⟨r,y⟩:=List.mem_filter.1 H;have y:s≠ao x.1:=by simpa using y
   have r:InP s 0 1:=by
    rcases List.mem_cons.1 r with rfl|r
    ·exact⟨by omega,by omega⟩
    ·rw[BJ.1 r];exact⟨by omega,by omega⟩
   exact⟨rfl,by show ao (f9 x s d)≠_;rw[zm h r];exact y,rfl⟩
  ·rw[List.length_map];obtain⟨M,I⟩:=z;have:ao x.1=0\/ao x.1=1:=by omega
   rcases this with e|e <;> rw[e] <;> rfl
theorem uE (K:Nat)(n:aa)(u:NB n)(h:UpN n)(r:1048577<K):Q232.f K (n,ao n.1,())=some ((ct (aa.table n),()),()):=by
 obtain⟨b,z,H⟩:=sO K n u r;have y:=H.2 h.ok;subst y;simp only[Q232.f];rw[z];simp only[rb,BG,BH,cond_false,h.up];rw[nN K n];simp only[BG,beq_self_eq_true,cond_true];rw[show Q184.f K (n.2.2.2.2.2.2.2.2.1,2,())=_ from qx K (aa.table n) u.table r h.x.table];rfl
def m9 (l:List ap):Nat:=(l.filter λw=>w.1==2).length
theorem x5 {l:List ap}{i:Nat}(r:i<l.length):m9 (l.take (i+1))=m9 (l.take i)+(if (l[i].1==2)=true then 1 else 0):=by
 unfold m9;rw[BI r,BN,List.length_append];cases h:(l[i].1==2) <;> simp[List.filter,h]
theorem AE (l:List ap):m9 l<=l.length:=List.length_filter_le _ _
theorem p6 (K:Nat)(r:List Int)(hc:xW r)(O:1048577<K):Q233.f K (r,())=some ((true,()),()):=by
 simp only[Q233.f,Q233.pre,zc3ec45,zcf8680];by_cases h:(r.length:Int)>1048576
 ·rw[decide_eq_true h];rfl
 rw[decide_eq_false h];simp only[cond_false];obtain⟨⟨⟨n,M,⟨⟩⟩,⟨⟩⟩,e0,hn,hdr⟩:=uD K r hc O;have hn:NS 9 n:=hn;have hdr:InP M (-3) 4095:=hdr;rw[e0];simp only[BG];obtain⟨k,hk⟩:∃ k,k=BM M 4:=⟨_,rfl⟩;obtain⟨a3,a5⟩:0<=k/\k<=1023:=by rw[hk];exact AC hdr
 rw[<- hk];have H:wr .i64 (wr .i64 (wr .i64 k*4)+1)=k*4+1:=by
  rw[aD (n:=k) (by omega) (by omega),aD (n:=k*4) (by omega) (by omega),aD (by omega) (by omega)]
 rw[H,decide_eq_false (by omega:¬ k*4+1<0)];simp only[cond_false];obtain⟨y,z,hy,Z,ht,e1,e2,h3⟩:=uC K n (k*4+1) hn.nb O;obtain⟨b,o1,o3⟩:=sN K n hn.nb O;rw[e2];simp only[BG];rw[e1];simp only[BG];rw[uz K y hy O];simp only[rb,BG,BH,cond_false];rw[tA K z Z ht O];simp only[rb,BG,BH,cond_false];rw[o1];simp only[rb,BG];cases b with
 |false=>rfl
 |true =>
  simp only[BH,cond_false];have hP:=o3.1 rfl;rcases Bool.eq_false_or_eq_true n.2.1 with hu|hu
  case inr=>exact (congrArg (λb=>bif !b then _ else _) hu).trans rfl
  refine (congrArg (λb=>bif !b then _ else _) hu).trans ?_;simp only[BH,cond_false];rcases Bool.eq_false_or_eq_true n.2.2.1 with hg|hg
  ·exact (congrArg (λb=>bif b then _ else _) hg).trans rfl
  refine (congrArg (λb=>bif b then _ else _) hg).trans ?_;simp only[cond_false];by_cases h9:n.2.2.2.2.2.1>=999999
  ·rw[decide_eq_true h9];rfl
  rw[decide_eq_false h9];simp only[cond_false];have hU:=UpN.of hP hu;have hm:bR n<999999:=Int.not_le.1 h9;rcases h3 hP with ⟨_,rfl,rfl⟩|⟨h4,_⟩
  case inr=>exact absurd ⟨hu,hg,hm⟩ h4
  obtain⟨hX,J,_⟩:=lK hU hm;have Y:hY n (k*4+1)=wh n++eK (gb n) (BK (k*4+1) (2 ^ 2)):=by
   unfold hY ey wh;rw[AD a3 a5];rfl
  obtain⟨a1,a2⟩:=x4 hX.x (BK (k*4+1) (2 ^ 2));have I:∀ w∈hY n (k*4+1),w.1=2->ao w.2.2.2.1≠ao n.1/\ap.table w=aa.table (gb n):=λw H h2=>by
   rw[Y]at H;rcases BL.1 H with H|H
   ·have:=rx n w H;omega
   ·obtain⟨_,q1,q2⟩:=a1 w H;rw[J]at q1;exact⟨q1,q2⟩
  have u:(m9 (hY n (k*4+1)):Int)=if ew (gb n)=true then 1 else 0:=by
   rw[<- a2,Y];unfold m9;rw[BN,List.filter_eq_nil_iff.2 (λw H=>by rw[rx n w H];decide),List.nil_append,List.filter_eq_self.2 (λw H=>by rw[(a1 w H).1];rfl)]
  generalize hY n (k*4+1)=z at I u Z ⊢;generalize hx:gb n=x at hX J u I hy ⊢;refine er (k:=K) (step:=λrec a=>Q233.s0 K (r,()) (Q233.l1 K (r,())) rec a) z.length (λi=>(z,(m9 (z.take i):Int),(i:Int),flN n (flE x))) (rb true) ?_ ?_ (by omega)
  ·intro rec i hi;have R:idx z (i:Int)=some z[i]:=af hi;have a9:=AE (z.take i);have a6:(z.take i).length<=1048576:=by rw[List.length_take];omega
   simp only[Q233.s0,zc286a0,zcp4,zcp8];rw[bi (by omega:(i:Int)<(List.length z:Int)),BO,ar i (by omega)];simp only[R,BG,cond_true];rw[x5 hi];have X:=I z[i] (List.getElem_mem hi);generalize z[i]=w at X ⊢;by_cases hp:w.1=2
   ·rw[show (w.1==2)=true by simpa using hp];obtain⟨q1,q2⟩:=X hp;simp only[cond_true,if_true];rw[show (wr .i64 (BM w.2.2.2.1 4)==wr .i64 (BM n.1 4))=false by simpa[ao]using q1];simp only[cond_false];have hl:Q226.f K (w.2.2.2.2.2.2.2,aa.table x,())=rb true:=by
     rw[show w.2.2.2.2.2.2.2=aa.table x from q2];exact iU K (aa.table x) hy.table O
    refine (congrArg (λo=>BR o _) hl).trans ?_;rw[ar _ (by omega)];rfl
   ·rw[show (w.1==2)=false by simpa using hp];rfl
  ·intro rec;simp only[Q233.s0,zc286a0,zcp4,zcp8];rw[aR];simp only[cond_false,BP];have hG:Q232.f K (x,wr .i64 (BM n.1 4),())=some ((ct (aa.table x),()),()):=by
    have:=uE K x hX.nb hX O;rw[J]at this;exact this
   refine (congrArg (λo=>BR o _) hG).trans ?_;simp only[BG];have a4:=mN (aa.table x);have a0:ew x=decide (n.1∈ct (aa.table x)):=by unfold ew;rw[J]
   rw[a0]at u;generalize ct (aa.table x)=g at a4 u ⊢;refine er (k:=K) (step:=λrec a=>Q233.s1 K (r,()) rec a) g.length (λj=>((m9 z:Int),g,decide (n.1∈g.take j),(j:Int),flE n)) (rb true) ?_ ?_ (by omega)
   ·intro rec j hj;have R:idx g (j:Int)=some g[j]:=af hj;simp only[Q233.s1];rw[bi (by omega:(j:Int)<(List.length g:Int)),BO,ar j (by omega)];simp only[R,BG,cond_true];have hs:decide (n.1∈g.take (j+1))=(decide (n.1∈g.take j)||g[j]==n.1):=by
     rw[BI hj,Bool.eq_iff_iff];simp only[decide_eq_true_eq,BL,BJ,Bool.or_eq_true,beq_iff_eq];exact⟨λh=>h.imp id Eq.symm,λh=>h.imp id Eq.symm⟩
    rw[hs];cases decide (n.1∈g.take j) with
    |true=>rfl
    |false=>rfl
   ·intro rec;simp only[Q233.s1];rw[aR];simp only[cond_false,BP];rw[u];by_cases hq:n.1∈g
    ·rw[decide_eq_true hq];rfl
    ·rw[decide_eq_false hq];rfl
end Go.Proofs.YtaegajachoklkabGreatEv
