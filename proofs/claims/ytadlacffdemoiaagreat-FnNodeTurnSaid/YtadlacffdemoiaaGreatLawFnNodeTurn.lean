/- FnNodeTurn: the plain law. -/
import Derived.Test.YtadlacffdemoiaaGreatP3
set_option linter.unusedVariables false
set_option linter.unusedSimpArgs false
open Bool renaming not_true->BS
open Option renaming bind_some->BQ,bind->BR
namespace Go.Proofs.YtadlacffdemoiaaGreatEv
open Go
def bZ (me r:Int)(t:List af):ah:=(1,5,r,me,0,r,(0,0,0,1500),t)
theorem rK (K:Nat){n:aa}{r:Int}{t:List af}(u:cZ (bZ n.1 r t))(y:dR n (bZ n.1 r t)):(bI K n (bZ n.1 r t)).1=eV n t r:=by
 unfold bI;rw[if_pos ⟨u,y⟩,if_neg (show ¬ (bZ n.1 r t).2.1=6 from (by decide:¬ (5:Int)=6))];rfl
theorem rL (K:Nat){n:aa}{r:Int}{s t:List af}(hn:NB n)(R:fa n)(O:cZ (bZ n.1 r s))(z:cZ (bZ n.1 r t))(M:dR n (bZ n.1 r s))(X:dR n (bZ n.1 r t))(os:∀ f∈s,f.1≠n.1)(Y:∀ f∈t,f.1≠n.1)(I:1048577<K) :
  ∃ (x y:aa) (J us:List ah),Q213.f K (n,bZ n.1 r s,())=some ((x,J,()),())/\Q213.f K (x,bZ n.1 r t,())=some ((y,us,()),())/\aa.table y=cK (cK (aa.table n) s) t:=by
 have hU:=UpN.of R M.1;obtain⟨x,J,hx,_,_,_,e2,h3,_⟩:=k9 K n (bZ n.1 r s) hn (bR O.2.2.2.2.2.2.2.1) (show (5:Int)≠2 by decide) I;obtain⟨rfl,_⟩:=h3 ⟨R,O,M⟩;obtain⟨Z,H,u3⟩:=nZ (w:=bZ n.1 r s) hU I;have u:dR (bI K n (bZ n.1 r s)).1 (bZ n.1 r t):=by
  unfold dR at X ⊢;rw[H,u3];exact⟨Z.up,X.2⟩
 obtain⟨y,us,_,_,_,_,e4,h5,_⟩:=k9 K _ (bZ n.1 r t) hx (bR z.2.2.2.2.2.2.2.1) (show (5:Int)≠2 by decide) I;obtain⟨rfl,_⟩:=h5 ⟨Z.ok,z,u⟩;refine⟨_,_,J,us,e2,e4,?_⟩;have a1:=rK K O M;rw[a1]at H u ⊢;have l1:=kr (b:=r) s n os;rw[<- H]at z u Y ⊢;rw[rK K z u,(kr (b:=r) t _ Y).1,l1.1]
theorem zn (K:Nat)(me:Int):∃ r,Q232.f K (me,[],())=some ((bZ me r [],()),()):=by
 simp only[Q232.f,Q231.f,Q230.f,BQ];exact⟨_,rfl⟩
def oth (me:Int)(t:List af):List af:=t.filter λf=>f.1 != me
theorem x5 {me:Int}{t:List af}:∀ f∈oth me t,f.1≠me:=λf r=>by
 have:=(List.mem_filter.1 r).2;simpa using this
theorem vp {me:Int}{t:List af}(h:t.length<=1048576):(oth me t).length<=1048576:=Nat.le_trans (List.length_filter_le _ _) h
def sy (i:Int)(n:aa)(w u a b:ah):Q233.A0:=(i,n.1,n.2.1,n.2.2.1,n.2.2.2.1,n.2.2.2.2.1,n.2.2.2.2.2.1,n.2.2.2.2.2.2.1,n.2.2.2.2.2.2.2.1,aa.table n,aa.cast n,(aa.probe n).1,(aa.probe n).2.1,(aa.probe n).2.2.1,(aa.probe n).2.2.2,aa.doubts n,(aa.coord n).1,(aa.coord n).2.1,(aa.coord n).2.2.1,(aa.coord n).2.2.2,aa.places n,aa.others n,w.1,w.2.1,w.2.2.1,w.2.2.2.1,w.2.2.2.2.1,w.2.2.2.2.2.1,(ah.coord w).1,(ah.coord w).2.1,(ah.coord w).2.2.1,(ah.coord w).2.2.2,ah.table w,u.1,u.2.1,u.2.2.1,u.2.2.2.1,u.2.2.2.2.1,u.2.2.2.2.2.1,(ah.coord u).1,(ah.coord u).2.1,(ah.coord u).2.2.1,(ah.coord u).2.2.2,ah.table u,a.1,a.2.1,a.2.2.1,a.2.2.2.1,a.2.2.2.2.1,a.2.2.2.2.2.1,(ah.coord a).1,(ah.coord a).2.1,(ah.coord a).2.2.1,(ah.coord a).2.2.2,ah.table a,b.1,b.2.1,b.2.2.1,b.2.2.2.1,b.2.2.2.2.1,b.2.2.2.2.2.1,(ah.coord b).1,(ah.coord b).2.1,(ah.coord b).2.2.1,(ah.coord b).2.2.2,ah.table b)
def oa (i:Int)(n:aa)(u a b:ah):Q233.A1:=(i,n.1,n.2.1,n.2.2.1,n.2.2.2.1,n.2.2.2.2.1,n.2.2.2.2.2.1,n.2.2.2.2.2.2.1,n.2.2.2.2.2.2.2.1,aa.table n,aa.cast n,(aa.probe n).1,(aa.probe n).2.1,(aa.probe n).2.2.1,(aa.probe n).2.2.2,aa.doubts n,(aa.coord n).1,(aa.coord n).2.1,(aa.coord n).2.2.1,(aa.coord n).2.2.2,aa.places n,aa.others n,u.1,u.2.1,u.2.2.1,u.2.2.2.1,u.2.2.2.2.1,u.2.2.2.2.2.1,(ah.coord u).1,(ah.coord u).2.1,(ah.coord u).2.2.1,(ah.coord u).2.2.2,ah.table u,a.1,a.2.1,a.2.2.1,a.2.2.2.1,a.2.2.2.2.1,a.2.2.2.2.2.1,(ah.coord a).1,(ah.coord a).2.1,(ah.coord a).2.2.1,(ah.coord a).2.2.2,ah.table a,b.1,b.2.1,b.2.2.1,b.2.2.2.1,b.2.2.2.2.1,b.2.2.2.2.2.1,(ah.coord b).1,(ah.coord b).2.1,(ah.coord b).2.2.1,(ah.coord b).2.2.2,ah.table b)
theorem szf (a:Nat)(r:a<=1048576)(g:af):decide ((a+List.length [g])*32<=an)=true:=szb a _ 32 (by decide) (by show a+1<=_;omega)
set_option maxHeartbeats 4000000 in
theorem qP (K:Nat)(z r:List Int)(hc:tK z)(hm:tK r)(J:1048577<K):Q233.f K (z,r,())=some ((true,()),()):=by
 simp only[Q233.f,Q233.pre,zc472cb];by_cases h:(z.length:Int)>1048576
 ·rw[decide_eq_true h];rfl
 rw[decide_eq_false h];simp only[cond_false];by_cases h':(r.length:Int)>1048576
 ·rw[decide_eq_true h'];rfl
 rw[decide_eq_false h'];simp only[cond_false];obtain⟨⟨⟨n,w,⟨⟩⟩,⟨⟩⟩,e0,O,hw⟩:=qh K z hc J;have O:NS 9 n:=O;have hw:(ah.table w).length<=1048576:=hw;obtain⟨⟨⟨n',u,⟨⟩⟩,⟨⟩⟩,a0,a4,hu⟩:=qh K r hm J;have hu:(ah.table u).length<=1048576:=hu;clear a4;rw[e0,a0];simp only[BQ];obtain⟨I,eb⟩:=zn K n.1;rw[eb];simp only[BQ];show Q233.l0 K (z,r,()) (sy 0 n w u (bZ n.1 I []) (bZ n.1 I []))=_;refine (lD (k:=K) (step:=λrec a=>Q233.s0 K (z,r,()) (Q233.l1 K (z,r,())) rec a) (ah.table w) (λf=>f.1 != n.1) id (λH i=>sy (i:Int) n w u (bZ n.1 I H) (bZ n.1 I [])) (λH=>Q233.l1 K (z,r,()) (oa 0 n u (bZ n.1 I H) (bZ n.1 I []))) ?_ ?_ (by omega)).trans ?_
 ·intro rec H i M ha;simp only[Q233.s0,zcp4,zcp8,sy];rw[ar i (by omega)];refine (congrArg (λb=>bif b then _ else _) (bi (Int.ofNat_lt.2 M))).trans ?_;simp only[cond_true];refine (congrArg (λo=>BR o _) (ag M)).trans ?_;simp only[BQ];cases (ah.table w)[i].1 != n.1 with
  |false=>rfl
  |true =>
   simp only[cond_true];refine (congrArg (λo=>BR o _) (ag M)).trans ?_;simp only[BQ];exact (congrArg (λb=>bif b then _ else _) (szf H.length (by omega) (ah.table w)[i])).trans rfl
 ·intro rec H ha;simp only[Q233.s0,zcp4,zcp8,sy];refine (congrArg (λb=>bif b then _ else _) (aN _)).trans ?_;rfl
 refine (lD (k:=K) (step:=λrec a=>Q233.s1 K (z,r,()) rec a) (ah.table u) (λf=>f.1 != n.1) id (λH i=>oa (i:Int) n u (bZ n.1 I ((List.filter (λf=>f.1 != n.1) (ah.table w)).map id)) (bZ n.1 I H)) (λH=>Q233.s1 K (z,r,()) (λ_=>none) (oa ((ah.table u).length:Int) n u (bZ n.1 I ((List.filter (λf=>f.1 != n.1) (ah.table w)).map id)) (bZ n.1 I H))) ?_ ?_ (by omega)).trans ?_
 ·intro rec H i M ha;simp only[Q233.s1,zc40af6,zc56c8b,zc95073,zcc8018,zcp4,zcp8,oa];rw[ar i (by omega)];refine (congrArg (λb=>bif b then _ else _) (bi (Int.ofNat_lt.2 M))).trans ?_;simp only[cond_true];refine (congrArg (λo=>BR o _) (ag M)).trans ?_;simp only[BQ];cases (ah.table u)[i].1 != n.1 with
  |false=>rfl
  |true =>
   simp only[cond_true];refine (congrArg (λo=>BR o _) (ag M)).trans ?_;simp only[BQ];exact (congrArg (λb=>bif b then _ else _) (szf H.length (by omega) (ah.table u)[i])).trans rfl
 ·intro rec H ha;simp only[Q233.s1,zc40af6,zc56c8b,zc95073,zcc8018,zcp4,zcp8,oa];refine (congrArg (λb=>bif b then _ else _) (aN _)).trans ?_;refine Eq.trans ?_ (congrArg (λb=>bif b then _ else _) (aN (ah.table u).length)).symm;rfl
 simp only[Q233.s1,zc40af6,zc56c8b,zc95073,zcc8018,zcp4,zcp8,oa];rw[List.map_id,List.map_id];refine (congrArg (λb=>bif b then _ else _) (aN _)).trans ?_;simp only[cond_false];rw[show List.filter (λf=>f.1 != n.1) (ah.table w)=oth n.1 (ah.table w) from rfl,show List.filter (λf=>f.1 != n.1) (ah.table u)=oth n.1 (ah.table u) from rfl];have ls:=vp (me:=n.1) hw;have lt:=vp (me:=n.1) hu;have os:=x5 (me:=n.1) (t:=ah.table w);have ot:=x5 (me:=n.1) (t:=ah.table u);generalize oth n.1 (ah.table w)=s at *;generalize oth n.1 (ah.table u)=t at *;obtain⟨y,ws,b,hy,_,_,e1,e2,q1,q2,t1,_,h3⟩:=zm K n (bZ n.1 I s) O.nb ls (show (5:Int)≠2 by decide) J;obtain⟨b',t2,_,h4⟩:=qi K n (bZ n.1 I t) O.nb lt J;refine (congrArg (λo=>BR o _) e2).trans ?_;simp only[BQ];refine (congrArg (λo=>BR o _) e1).trans ?_;simp only[BQ];rw[q1];simp only[rb,BQ,BS,cond_false];rw[q2];simp only[rb,BQ,BS,cond_false];refine (congrArg (λo=>BR o _) t1).trans ?_;simp only[rb,BQ];cases b with
 |false=>rfl
 |true =>
  simp only[BS,cond_false];refine (congrArg (λo=>BR o _) t2).trans ?_;simp only[rb,BQ];cases b' with
  |false=>rfl
  |true =>
   simp only[BS,cond_false];obtain⟨hP,hs,hS,_,_⟩:=h3 rfl;obtain⟨_,ht,hT⟩:=h4.1 rfl;obtain⟨x1,y1,Z,a5,a1,a2,a3⟩:=rL K O.nb hP hs ht hS hT os ot J;obtain⟨x2,y2,a9,a6,b1,b2,b3⟩:=rL K O.nb hP ht hs hT hS ot os J;rw[e2]at a1;obtain⟨rfl,rfl⟩:y=x1/\ws=Z:=by
    simp only[Option.some.injEq,Prod.mk.injEq,and_true]at a1;exact a1
   refine (congrArg (λo=>BR o _) a2).trans ?_;simp only[BQ];refine (congrArg (λo=>BR o _) b1).trans ?_;simp only[BQ];refine (congrArg (λo=>BR o _) b2).trans ?_;simp only[BQ];have R:∀ f∈s,aX f:=hs.2.2.2.2.2.2.2.1.1;have X:∀ f∈t,aX f:=ht.2.2.2.2.2.2.2.1.1;have Y:=(UpN.of hP hS.1).x.table;have e:aa.table y1=aa.table y2:=by rw[a3,b3];exact uJ Y R X
   show (Q223.f K (aa.table y1,aa.table y2,())).bind _=_;rw[e,b3,iU K _ (bR (er (er Y X) R)) J];rfl
end Go.Proofs.YtadlacffdemoiaaGreatEv
