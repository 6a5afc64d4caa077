/- FnNodeSuspect: the plain law. -/
import Derived.Test.YtaegajachoklkaaGreatP3
set_option linter.unusedVariables false
set_option linter.unusedSimpArgs false
open Bool renaming not_true->BE
open Option renaming bind_some->BD,bind->BF
namespace Go.Proofs.YtaegajachoklkaaGreatEv
open Go
theorem tz {n:aa}(h:UpN n)(hm:bd n<999999):∀ f∈aa.table (f9 n),f.2.2.1=2->f∈aa.table n \/
  ∃ g∈aa.table n,g.1=f.1/\g.2.2.1=1/\g.2.1=f.2.1/\(aa.probe n).1=f.1/\4<=bd (f9 n)-(aa.probe n).2.1:=by
 intro f y M;have u:=h.x.later;have z:cL (cF n):=h.self;obtain⟨I,b2,_⟩:=kS u z;obtain⟨r,p2⟩:=x4 (cF n);have r:aa.probe (c9 (cF n))=aa.probe n:=r;obtain⟨J,X⟩:=wj (m:=c9 (cF n)) I.table;obtain⟨t1,t2⟩:=wh (fk n).1;have Y:bd (f9 n)=bd (c9 (cF n)):=t2.trans J;have y:f∈aa.table (a7 (c9 (cF n))).1:=by
  have:aa.table (f9 n)=aa.table (a7 (c9 (cF n))).1:=t1;rw[<- this];exact y
 rcases X f y with O|⟨g,Z,rfl,H,g2,R⟩
 ·exact .inl (tx u z f O (by rw[M];decide))
 ·right;refine⟨g,tx u z g Z (by rw[H];decide),rfl,H,rfl,?_,?_⟩
  ·rw[<- r];exact g2.symm
  ·rw[Y,<- r];exact R
theorem n9 (K:Nat)(r:List Int)(hc:xX r)(I:1048577<K):Q232.f K (r,())=some ((true,()),()):=by
 simp only[Q232.f,Q232.pre,zc3ec45];by_cases h:(r.length:Int)>1048576
 ·rw[decide_eq_true h];rfl
 rw[decide_eq_false h];simp only[cond_false];obtain⟨⟨⟨n,R,⟨⟩⟩,⟨⟩⟩,e0,M⟩:=we K r hc I;have M:NS 9 n:=M;rw[e0];simp only[BD];obtain⟨y,ws,hy,hw,ht,e1,e2,h3⟩:=uB K n R M.nb I;obtain⟨b,o1,_,o3⟩:=jx K n M.nb I;rw[e2];simp only[BD];rw[e1];simp only[BD];rw[uy K y hy I];simp only[rb,BD,BE,cond_false];rw[tw K ws hw ht I];simp only[rb,BD,BE,cond_false];rw[o1];simp only[rb,BD];cases b with
 |false=>rfl
 |true =>
  simp only[BE,cond_false];have hP:=o3.1 rfl;have u:=uC M hP;have a0:∀ f∈aa.table y,f.2.2.1=2->f∈aa.table n\/∃ g∈aa.table n,g.1=f.1/\g.2.2.1=1/\g.2.1=f.2.1/\(aa.probe n).1=f.1/\wr .i64 (bd y-(aa.probe n).2.1)=bd y-(aa.probe n).2.1/\4<=bd y-(aa.probe n).2.1:=by
   rcases h3 hP with ⟨⟨hu,_,Y⟩,rfl,_⟩|⟨_,rfl,_⟩
   ·intro f J H;have X:=UpN.of hP hu;rcases tz X Y f J H with h|⟨g,hg,g1,O,g3,g4,Z⟩
    ·exact .inl h
    ·obtain⟨hT,_,_⟩:=lM X Y;obtain⟨_,r1,r2⟩:=nd X.x (by have:=X.now1;omega);have r3:=hT.x.now0;have r4:=hT.now1;exact .inr ⟨g,hg,g1,O,g3,g4,aE (by omega) (by omega),Z⟩
   ·exact λf J _=>.inl J
  have a1:=hy.table;refine eV (step:=λrec a=>Q232.s0 K (r,()) rec a) (aa.table y).length (λi=>((i:Int),_)) (rb true) ?_ ?_ (by omega)
  ·intro rec i hi;have Y:=List.getElem_mem hi;simp only[Q232.s0];rw[bq (by omega:(i:Int)<(List.length (aa.table y):Int)),Int.toNat_natCast,ag hi,ar i (by omega)];simp only[cond_true,BD];by_cases H:(aa.table y)[i].2.2.1=2
   ·rcases a0 _ Y H with J|⟨g,hg,g1,O,g3,g4,Z,g6⟩
    ·refine (congrArg (λo=>BF o _) (pZ K u J I)).trans ?_;simp only[BD,H,bne_self_eq_false,cond_false,cond_true];rw[show Ty.eqv t2 (aa.table y)[i] (aa.table y)[i]=decide ((aa.table y)[i]=(aa.table y)[i]) from gW _ _,decide_eq_true rfl];rfl
    ·have hI:=pZ K u hg I;rw[g1]at hI;refine (congrArg (λo=>BF o _) hI).trans ?_;simp only[BD,H,bne_self_eq_false,cond_false,cond_true];rw[show Ty.eqv t2 g (aa.table y)[i]=decide (g=(aa.table y)[i]) from gW _ _,decide_eq_false (λe=>by rw[e,H]at O;revert O;decide)];simp only[cond_false,BE,O,g3,bne_self_eq_false];refine (congrArg (λz=>bif z != (aa.table y)[i].1 then _ else _) g4).trans ?_;rw[bne_self_eq_false,cond_false];refine (congrArg (λz=>bif decide (z<4) then _ else _) Z).trans ?_;exact congrArg (λb=>bif b then _ else _) (decide_eq_false (show ¬ bd y-(aa.probe n).2.1<4 by omega))
   ·rcases gr K (aa.table n) (aa.table y)[i].1 (cq u) I with ⟨h,_⟩|⟨_,⟨g,_,_,e⟩|⟨_,e⟩⟩
    ·exact absurd u h
    ·refine (congrArg (λo=>BF o _) e).trans ?_;rw[BD,show ((aa.table y)[i].2.2.1 != 2)=true by simpa using H];rfl
    ·refine (congrArg (λo=>BF o _) e).trans ?_;rw[BD,show ((aa.table y)[i].2.2.1 != 2)=true by simpa using H];rfl
  ·intro rec;simp only[Q232.s0,aQ];rfl
end Go.Proofs.YtaegajachoklkaaGreatEv
