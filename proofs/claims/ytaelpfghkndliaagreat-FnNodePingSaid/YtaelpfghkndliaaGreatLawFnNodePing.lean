/- FnNodePing: the plain law. -/
import Derived.Test.YtaelpfghkndliaaGreatP3
set_option linter.unusedVariables false
set_option linter.unusedSimpArgs false
open Bool renaming not_true->BC
open Int renaming tdiv->BB,tmod->BD
open Option renaming bind_some->BA
namespace Go.Proofs.YtaelpfghkndliaaGreatEv
open Go
theorem Bb {v:Int}(h:InP v 0 7)(d:Int)(u:InP d 1 3):InP (wr .i64 (wr .i64 (wr .i64 (BB v 4)*4)+BD (wr .i64 (v+d)) 4)) 0 7/\am (wr .i64 (wr .i64 (wr .i64 (BB v 4)*4)+BD (wr .i64 (v+d)) 4))=am v/\wr .i64 (wr .i64 (wr .i64 (BB v 4)*4)+BD (wr .i64 (v+d)) 4)≠v:=by
 have r:wr .i64 (BB v 4)=v / 4:=fH h;obtain⟨z,y⟩:=h;obtain⟨I,H⟩:=u;rw[r,aK (n:=v / 4*4) (by omega) (by omega),aK (n:=v+d) (by omega) (by omega),Int.tmod_eq_emod_of_nonneg (by omega),aK (by omega) (by omega)];rw[fH (n:=v / 4*4+(v+d) % 4) ⟨by omega,by omega⟩,fH ⟨z,y⟩];exact⟨⟨by omega,by omega⟩,by omega,by omega⟩
theorem yP (K:Nat)(n:aa)(w:ak)(R:NB n)(I:(ak.table w).length<=1048576)(z:w.2.1≠2)(u:1048577<K):∃ (y:aa) (r:List ak) (b:Bool),NB y/\r.length<=1/\(∀ x∈r,(ak.table x).length<=1048576)/\Q63.f K (n,w,())=some ((y,r,()),())/\Q148.f K (n,w,())=some ((y,r,()),()) /\
  Q226.f K (y,y,())=rb true/\Q228.f K (r,r,())=rb true/\Q229.f K (n,w,())=rb b/\Q104.f K (n,w,())=rb b/\(b=true->fE n/\dK w/\gw n w/\y=(bK K n w).1/\r=(bK K n w).2):=by
 obtain⟨y,r,J,hl,M,Y,e2,Z,_,_⟩:=uo K n w R I z u;obtain⟨b,t1,t2,t3⟩:=pV K n w R I u;exact⟨y,r,b,J,hl,M,Y,e2,uq K y J u,tp K r (by omega) M u,t1,t2,λhb=>by
  obtain⟨H,X,O⟩:=t3.1 hb;exact⟨H,X,O,Z ⟨H,X,O⟩⟩⟩
theorem qA (K:Nat)(r:List Int)(R:xE r)(O:1048577<K):Q230.f K (r,())=some ((true,()),()):=by
 simp only[Q230.f];by_cases h:(r.length:Int)>1048576
 ·rw[decide_eq_true h];rfl
 rw[decide_eq_false h];simp only[cond_false];obtain⟨⟨⟨n,w0,⟨⟩⟩,⟨⟩⟩,e0,I,_⟩:=vV K r R O;have I:NS 9 n:=I;rw[e0];simp only[BA];generalize z:wr .i64 (wr .i64 (wr .i64 (BB n.1 4)*4)+BD (wr .i64 (n.1+2)) 4)=u;generalize a0:wr .i64 (wr .i64 (wr .i64 (BB n.1 4)*4)+BD (wr .i64 (n.1+1)) 4)=H;obtain⟨y,ws,b,_,_,_,Y,e2,q1,q2,t1,t2,Z⟩:=yP K n (1,1,H,n.1,w0.2.2.2.2.1,u,w0.2.2.2.2.2.2.1,[]) I.nb (Nat.zero_le _) (show (1:Int)≠2 by decide) O;rw[e2];simp only[BA];rw[Y];simp only[BA];rw[q1];simp only[rb,BA,BC,cond_false];rw[q2];simp only[rb,BA,BC,cond_false];rw[t2,t1];simp only[rb,BA,bne_self_eq_false,cond_false];cases b with
 |false=>rfl
 |true =>
  simp only[BC,cond_false];obtain⟨hP,hW,hT,_,rfl⟩:=Z rfl;obtain⟨_,M,J⟩:=Bb hP.1 2 ⟨by decide,by decide⟩;rw[z]at M J;have X:(bK K n (1,1,H,n.1,w0.2.2.2.2.1,u,w0.2.2.2.2.2.2.1,[])).2=[nP 2 (ir n) u w0.2.2.2.2.1 n.1 (gv n u)]:=by
   unfold bK;rw[if_pos ⟨hW,hT⟩,if_neg (show ¬ (1:Int)=6 by decide)];show (dZ K n (1,1,H,n.1,w0.2.2.2.2.1,u,w0.2.2.2.2.2.2.1,[])).2=_;unfold dZ;simp only[beq_self_eq_true,cond_true];rw[show (am u != am n.1)=false by simpa using M,show (u==n.1)=false by simpa using J];rfl
  rw[X];show (bif (2:Int)==2 then (bif u==u then (bif w0.2.2.2.2.1==w0.2.2.2.2.1 then some ((n.1==n.1,()),()) else some ((false,()),())) else some ((false,()),())) else some ((false,()),()))=some ((true,()),());simp only[beq_self_eq_true,cond_true]
end Go.Proofs.YtaelpfghkndliaaGreatEv
