/- FnNodeAsk: the plain law. -/
import Derived.Test.YtaelpfghkndliaaGreatP3
set_option linter.unusedVariables false
set_option linter.unusedSimpArgs false
open Bool renaming not_true->BC
open Int renaming tmod_eq_emod_of_nonneg->BB,tdiv->BD,tmod->BE
open Option renaming bind_some->BA
namespace Go.Proofs.YtaelpfghkndliaaGreatEv
open Go
theorem Ag {v:Int}(h:InP v 0 7):wr .i64 (wr .i64 (wr .i64 (BD v 4)*4)+BE (wr .i64 (v+2)) 4)≠wr .i64 (wr .i64 (wr .i64 (BD v 4)*4)+BE (wr .i64 (v+1)) 4):=by
 have r:wr .i64 (BD v 4)=v / 4:=fa h;obtain⟨u,y⟩:=h;rw[r,aH (n:=v / 4*4) (by omega) (by omega),aH (n:=v+2) (by omega) (by omega),aH (n:=v+1) (by omega) (by omega),BB (by omega),BB (by omega),aH (by omega) (by omega),aH (by omega) (by omega)];omega
theorem rS (K:Nat)(u:List Int)(Y:xE u)(M:1048577<K):Q230.f K (u,())=some ((true,()),()):=by
 simp only[Q230.f];by_cases h:(u.length:Int)>1048576
 ·rw[decide_eq_true h];rfl
 rw[decide_eq_false h];simp only[cond_false];obtain⟨⟨⟨n,w0,⟨⟩⟩,⟨⟩⟩,e0,I,_⟩:=vV K u Y M;have I:NS 9 n:=I;rw[e0];simp only[BA];generalize H:wr .i64 (wr .i64 (wr .i64 (BD n.1 4)*4)+BE (wr .i64 (n.1+2)) 4)=r;generalize J:wr .i64 (wr .i64 (wr .i64 (BD n.1 4)*4)+BE (wr .i64 (n.1+1)) 4)=z;obtain⟨y,ws,b,_,_,_,e1,e2,q1,q2,t1,t2,h3⟩:=yP K n (1,3,z,n.1,w0.2.2.2.2.1,r,w0.2.2.2.2.2.2.1,[]) I.nb (Nat.zero_le _) (show (3:Int)≠2 by decide) M;rw[e2];simp only[BA];rw[e1];simp only[BA];rw[q1];simp only[rb,BA,BC,cond_false];rw[q2];simp only[rb,BA,BC,cond_false];rw[t2,t1];simp only[rb,BA,bne_self_eq_false,cond_false];cases b with
 |false=>rfl
 |true =>
  simp only[BC,cond_false];obtain⟨R,hW,Z,_,rfl⟩:=h3 rfl;obtain⟨_,O,X⟩:=Bc R.1 2 ⟨by decide,by decide⟩;rw[H]at O X;have b4:r≠z:=by rw[<- H,<- J];exact Ag R.1
  have hh:(bK K n (1,3,z,n.1,w0.2.2.2.2.1,r,w0.2.2.2.2.2.2.1,[])).2=[mc 1 (gw n) r w0.2.2.2.2.1 z (fK n r)]:=by
   unfold bK;rw[if_pos ⟨hW,Z⟩,if_neg (show ¬ (3:Int)=6 by decide)];show (dZ K n (1,3,z,n.1,w0.2.2.2.2.1,r,w0.2.2.2.2.2.2.1,[])).2=_;unfold dZ;show (bif am r != am n.1 then (n,[]) else bif r==n.1 then (n,[]) else bif r==z then (n,[]) else (gw n,[mc 1 (gw n) r w0.2.2.2.2.1 z (fK n r)])).2=_;rw[show (am r != am n.1)=false by simpa using O,show (r==n.1)=false by simpa using X,show (r==z)=false by simpa using b4];rfl
  rw[hh];show (bif (1:Int)==1 then (bif r==r then (bif w0.2.2.2.2.1==w0.2.2.2.2.1 then some ((z==z,()),()) else some ((false,()),())) else some ((false,()),())) else some ((false,()),()))=some ((true,()),());simp only[beq_self_eq_true,cond_true]
end Go.Proofs.YtaelpfghkndliaaGreatEv
