/- FnNodeDown: the plain law. -/
import Derived.Test.YtaegajachoklkaaGreatP3
import Derived.Test.YtaegajachoklkaaGreatP2
set_option linter.unusedVariables false
set_option linter.unusedSimpArgs false
open Bool renaming not_true->AU,not_false->AW
open Option renaming bind_some->AT,bind->AV
namespace Go.Proofs.YtaegajachoklkaaGreatEv
open Go
theorem yq (K:Nat){n:aa}(H:NB n)(M:dB n)(y:n.2.1=false)(w:ap)(I:(ap.table w).length<=1048576)(d m:Int)(z:1048577<K) :
  Q196.f K (n,d,())=some ((n,[],()),())/\Q212.f K (n,())=some ((n,[],()),())/\Q216.f K (n,m,())=some ((n,[],()),())/\Q228.f K (n,8,())=some (([],()),())/\Q232.f K (n,0,())=some (([],()),())/\Q189.f K (n,w,())=rb false:=by
 obtain⟨b,u,J⟩:=oA K n H z;obtain rfl:b=true:=J.2 M;have r:=xT K n H z;refine⟨?_,?_,?_,?_,?_,?_⟩
 ·simp only[Q196.f,Q195.f];rw[u];simp only[rb,AT,AU,cond_false];rw[r];simp only[AT,Q192.f,Q191.f,Q188.f];rw[y];simp only[cond_false,AT,AW,cond_true,Q194.f];rfl
 ·simp only[Q212.f,Q211.f];rw[u];simp only[rb,AT,AU,cond_false];rw[r];simp only[AT,Q210.f,Q210.pre,zc8f7ea,Q188.f];rw[y];simp only[cond_false,AT,AW,cond_true,Q194.f];rfl
 ·simp only[Q216.f,Q215.f];rw[u];simp only[rb,AT,AU,cond_false];rw[r];simp only[AT,Q214.f,Q213.f,Q188.f];rw[y];simp only[cond_false,AT,AW,cond_true,Q194.f];rfl
 ·simp only[Q228.f,Q228.pre];rw[u];simp only[rb,AT,AU,cond_false];rw[y];rfl
 ·simp only[Q232.f];rw[u];simp only[rb,AT,AU,cond_false];rw[y];rfl
 ·simp only[Q189.f];rw[u];simp only[rb,AT,AU,cond_false];obtain⟨c,w1,_⟩:=sq K w I z;rw[w1];cases c with
  |false=>rfl
  |true =>
   simp only[rb,AT,AU,cond_false,Q188.f];rw[y];rfl
theorem qj (K:Nat)(u:List Int)(X:xd u)(M:1048577<K):Q233.f K (u,())=some ((true,()),()):=by
 simp only[Q233.f];by_cases h:(u.length:Int)>1048576
 ·rw[decide_eq_true h];rfl
 rw[decide_eq_false h];simp only[cond_false];obtain⟨⟨⟨n,w0,⟨⟩⟩,⟨⟩⟩,e0,J,y⟩:=vw K u X M;have J:NS 9 n:=J;have y:(ap.table w0).length<=1048576:=y;rw[e0];simp only[AT];obtain⟨r,hr,v1,v2,Y⟩:=rE K n J.nb M;obtain⟨b,o1,o2,o3⟩:=iY K n J.nb M;obtain⟨c,t1,t2⟩:=vz K n w0 J.nb y M;rw[v2];simp only[AT];rw[v1];simp only[AT];rw[sG K r hr M];simp only[rb,AT,AU,cond_false];rw[o2,o1];simp only[rb,AT,bne_self_eq_false,cond_false];rw[t2,t1];simp only[rb,AT,bne_self_eq_false,cond_false];cases b with
 |false =>
  have I:r=[]:=by
   rcases Y with ⟨_,e⟩|⟨R,_⟩
   ·exact e
   ·cases o3.2 R
  subst I;rfl
 |true =>
  have R:=o3.1 rfl;simp only[AU,cond_false];rcases Bool.eq_false_or_eq_true n.2.1 with z|z
  ·refine (congrArg (λb=>bif b then _ else _) z).trans ?_;simp only[cond_true];have O:(List.length r:Int)>0:=by
    rcases Y with ⟨a0,_⟩|⟨_,_,e⟩
    ·exact absurd ⟨R,z⟩ a0
    ·have h1:=xf n;have h2:=List.length_pos_of_mem (UpN.of R z).self;rw[e];omega
   rw[decide_eq_true O];rfl
  ·refine (congrArg (λb=>bif b then _ else _) z).trans ?_;simp only[cond_false];have I:r=[]:=by
    rcases Y with ⟨_,e⟩|⟨_,Z,_⟩
    ·exact e
    ·exact absurd (Z.symm.trans z) (by decide)
   subst I;have H:∃ m,Q217.f K (n.1,0,())=some ((m,()),()):=⟨_,rfl⟩;obtain⟨m,H⟩:=H;obtain⟨d1,d2,d3,d4,d5,d6⟩:=yq K J.nb R z w0 y (List.length u:Int) m M;refine (congrArg (λo=>AV o _) d1).trans ?_;simp only[AT];refine (congrArg (λo=>AV o _) d2).trans ?_;simp only[AT];refine (congrArg (λo=>AV o _) H).trans ?_;simp only[AT];refine (congrArg (λo=>AV o _) d3).trans ?_;simp only[AT];refine (congrArg (λo=>AV o _) d4).trans ?_;simp only[AT];refine (congrArg (λo=>AV o _) d5).trans ?_;have X:c=false:=by rw[t2]at d6;simpa[rb]using d6
   subst X;rfl
end Go.Proofs.YtaegajachoklkaaGreatEv
