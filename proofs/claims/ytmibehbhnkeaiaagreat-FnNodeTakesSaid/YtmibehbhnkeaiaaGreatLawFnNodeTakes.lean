/- FnNodeTakes: the plain law. -/
import Derived.Test.YtmibehbhnkeaiaaGreatP3
set_option linter.unusedVariables false
set_option linter.unusedSimpArgs false
open Bool renaming not_true->FK
open Option renaming bind_some->FJ
namespace Go.Proofs.YtmibehbhnkeaiaaGreatEv
open Go
theorem qZ (K:Nat)(r:List Int)(hc:zk r)(H:1048577<K):Q241.f K (r,())=some ((true,()),()):=by
 simp only[Q241.f];by_cases h:(r.length:Int)>1048576
 ·rw[decide_eq_true h];rfl
 rw[decide_eq_false h];simp only[cond_false];obtain⟨⟨⟨n,w,⟨⟩⟩,⟨⟩⟩,O,u,I⟩:=xD K r hc H;have u:NS 9 n:=u;have I:(aj.table w).length<=1048576:=I;have z:Q240.f K (r,())=some ((n,w,()),()):=by
  simp only[Q240.f];rw[O];rfl
 rw[z];simp only[FJ];obtain⟨y,ws,b,hy,_,_,R,X,M,q2,t1,t2,h3,Y,Z⟩:=zl K n w u.nb I H;rw[t2];simp only[rb,FJ];rw[X];simp only[FJ];rw[R];simp only[FJ];rw[t1];simp only[rb,FJ,bne_self_eq_false,cond_false];rw[M];simp only[rb,FJ,FK,cond_false];rw[q2];simp only[rb,FJ,FK,cond_false];cases b with
 |true=>rfl
 |false =>
  simp only[cond_false];obtain⟨ok,o1,o2,J⟩:=pm K n u.nb H;rw[o1];simp only[rb,FJ];cases ok with
  |false =>
   obtain⟨_,rfl⟩:=Z λhP=>by have:=J.2 hP;cases this
   rfl
  |true =>
   obtain⟨rfl,rfl⟩:=Y rfl (J.1 rfl);simp only[FK,cond_false];rw[M];rfl
end Go.Proofs.YtmibehbhnkeaiaaGreatEv
