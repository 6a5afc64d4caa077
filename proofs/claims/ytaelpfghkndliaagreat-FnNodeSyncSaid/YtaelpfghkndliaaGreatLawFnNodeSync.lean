/- FnNodeSync: the plain law. -/
import Derived.Test.YtaelpfghkndliaaGreatP3
set_option linter.unusedVariables false
set_option linter.unusedSimpArgs false
open Bool renaming not_true->BB
open Option renaming bind_some->BA
namespace Go.Proofs.YtaelpfghkndliaaGreatEv
open Go
theorem qz (K:Nat)(r:List Int)(hc:xD r)(I:1048577<K):Q230.f K (r,())=some ((true,()),()):=by
 simp only[Q230.f];by_cases h:(r.length:Int)>1048576
 ·rw[decide_eq_true h];rfl
 rw[decide_eq_false h];simp only[cond_false];obtain⟨⟨⟨n,w0,⟨⟩⟩,⟨⟩⟩,e0,J,u⟩:=vU K r hc I;have J:NS 9 n:=J;have u:(aj.table w0).length<=1048576:=u;rw[e0];simp only[BA];obtain⟨y,ws,b,R,_,_,M,X,q1,Z,t1,t2,O⟩:=yO K n (1,4,w0.2.2) J.nb u (show (4:Int)≠2 by decide) I;rw[X];simp only[BA];rw[M];simp only[BA];rw[q1];simp only[rb,BA,BB,cond_false];rw[Z];simp only[rb,BA,BB,cond_false];rw[t2,t1];simp only[rb,BA,bne_self_eq_false,cond_false,beq_self_eq_true,cond_true];cases b with
 |false=>rfl
 |true =>
  simp only[BB,cond_false];obtain⟨hP,hW,Y,rfl,rfl⟩:=O rfl;have hh:bG K n (1,4,w0.2.2)=(dQ n (aj.table w0) w0.2.2.1,[nO 5 (dQ n (aj.table w0) w0.2.2.1) w0.2.2.1 0 (dQ n (aj.table w0) w0.2.2.1).1 (aa.table (dQ n (aj.table w0) w0.2.2.1))]):=by
   unfold bG;rw[if_pos ⟨hW,Y⟩,if_neg (show ¬ (4:Int)=6 by decide)];rfl
  have H:=iO K (aa.table (bG K n (1,4,w0.2.2)).1) R.table I;rw[hh]at H ⊢;generalize dQ n (aj.table w0) w0.2.2.1=m at H ⊢;show (bif (5:Int)==5 then (bif w0.2.2.1==w0.2.2.1 then ((Q223.f K (aa.table m,aa.table m,())).bind λz=>some ((z.1.1,()),())) else some ((false,()),())) else some ((false,()),()))=some ((true,()),());simp only[beq_self_eq_true,cond_true];exact (congrArg (λo=>Option.bind o _) H).trans rfl
end Go.Proofs.YtaelpfghkndliaaGreatEv
