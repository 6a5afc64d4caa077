/- FnNodeView: the plain law. -/
import Derived.Test.YtmcbmojdeikcdaaGreatP3
set_option linter.unusedVariables false
set_option linter.unusedSimpArgs false
open Bool renaming not_true->AE,eq_false_iff->AF
open List renaming length->AB,length_append->AC
open Nat renaming zero_le->AD
open Option renaming bind_some->AA
namespace Go.Proofs.YtmcbmojdeikcdaaGreatEv
open Go
def gp (i:Int)(g:Bool):aa:=if 0<=i/\i<=7 then jB i g else gn 0 false
theorem zD (K:Nat)(i:Int)(g:Bool):Q73.f K (i,g,())=some ((gp i g,()),()):=by
 unfold gp;by_cases h:0<=i/\i<=7
 ·rw[if_pos h];exact lV K i g h
 ·rw[if_neg h];simp only[Q73.f];obtain⟨b,e,hb⟩:=ci K i 0 7;rw[e,show b=false from AF.2 λhc=>h (hb.1 hc)];rfl
theorem zE (K:Nat)(i:Int)(g:Bool):Q179.f K (i,g,())=some ((gp i g,()),()):=by
 unfold gp;simp only[Q179.f];obtain⟨b,e,hb⟩:=k5 K i;rw[e];by_cases h:0<=i/\i<=7
 ·rw[if_pos h,hb.2 h];rfl
 ·rw[if_neg h,show b=false from AF.2 λhc=>h (hb.1 hc)];rfl
theorem xu (i:Int)(g:Bool):NB (gn i g):=⟨AD _,AD _,AD _,λd hd=>(nomatch hd),AD _,λd hd=>(nomatch hd),AD _,λd hd=>(nomatch hd)⟩
theorem rT (i:Int)(g:Bool):NB (gp i g):=by
 unfold gp;split
 ·rename_i h;exact (pu h).nb
 ·exact xu 0 false
theorem qe (n:aa):(c6 n).length=(aa.table n).length+((aa.others n).flatMap (·.2)).length:=by
 have hp:(c6 n).Perm (cZ n):=by unfold c6;simpa using gU ltF (cZ n) []
 rw[hp.length_eq];exact AC
theorem pz (K:Nat)(code more:List Int)(hc:oO code)(hm:oO more)(hK:1048577<K):Q185.f K (code,more,())=some ((true,()),()):=by
 simp only[Q185.f,Q185.pre];by_cases h:(code.length:Int)>1048576
 ·rw[decide_eq_true h];rfl
 by_cases h':(more.length:Int)>1048576
 ·rw[decide_eq_false h,decide_eq_true h'];rfl
 rw[decide_eq_false h,decide_eq_false h'];simp only[cond_false];obtain⟨⟨⟨n,⟨⟩⟩,⟨⟩⟩,e0,hn⟩:=ux K code hc hK;have hn:NS 9 n:=hn;obtain⟨⟨⟨me,g,⟨⟩⟩,⟨⟩⟩,e1,_⟩:=vY K more hm;obtain⟨v,hv,e2,e3,h4⟩:=lC K n hn.nb hK;obtain⟨b,o1,o2,o3⟩:=iz K n hn.nb hK;rw[e0];simp only[AA];rw[e3,e1];simp only[AA];rw[zE,e2];simp only[AA];rw[jx K v hv hK];simp only[rb,AA,AE,cond_false];rw[zD];simp only[AA];rw[sM K _ (rT me g) hK,o1,o2];simp only[rb,AA,AE,cond_false,bne_self_eq_false];have tail:(bif !b then some (((AB v:Int)==0,()),()) else bif !n.2.1 then some (((AB v:Int)==0,()),()) else Q185.l0 K (code,more,()) (v,(AB (aa.table n):Int),0,n.1,n.2.1,n.2.2.1,n.2.2.2.1,n.2.2.2.2.1,n.2.2.2.2.2.1,n.2.2.2.2.2.2.1,n.2.2.2.2.2.2.2.1,n.2.2.2.2.2.2.2.2.1,n.2.2.2.2.2.2.2.2.2.1,n.2.2.2.2.2.2.2.2.2.2.1.1,n.2.2.2.2.2.2.2.2.2.2.1.2.1,n.2.2.2.2.2.2.2.2.2.2.1.2.2.1,n.2.2.2.2.2.2.2.2.2.2.1.2.2.2,n.2.2.2.2.2.2.2.2.2.2.2.1,n.2.2.2.2.2.2.2.2.2.2.2.2.1.1,n.2.2.2.2.2.2.2.2.2.2.2.2.1.2.1,n.2.2.2.2.2.2.2.2.2.2.2.2.1.2.2.1,n.2.2.2.2.2.2.2.2.2.2.2.2.1.2.2.2,n.2.2.2.2.2.2.2.2.2.2.2.2.2.1,n.2.2.2.2.2.2.2.2.2.2.2.2.2.2))=some ((true,()),()):=by
  rcases h4 with ⟨hno,rfl⟩|⟨hP,hu,rfl⟩
  ·cases hb:b with
   |false=>rfl
   |true =>
    cases hu:n.2.1 with
    |false=>rfl
    |true=>exact absurd ⟨o3.1 hb,hu⟩ hno
  ·rw[o3.2 hP,hu];simp only[AE,cond_false];have hU:=UpN.of hP hu;have hl:=hn.nb.others;have hshort:=(jX hn.nb hP).1;unfold cZ at hshort;rw[AC]at hshort;refine Eq.trans ?_ (fR (step:=λrec a=>Q185.l0.step K (code,more,()) rec a) (aa.others n).length (λi=>(c6 n,(((aa.table n).length+(((aa.others n).take i).flatMap (·.2)).length:Nat):Int),(i:Int),n.1,true,n.2.2.1,n.2.2.2.1,n.2.2.2.2.1,n.2.2.2.2.2.1,n.2.2.2.2.2.2.1,n.2.2.2.2.2.2.2.1,n.2.2.2.2.2.2.2.2.1,n.2.2.2.2.2.2.2.2.2.1,n.2.2.2.2.2.2.2.2.2.2.1.1,n.2.2.2.2.2.2.2.2.2.2.1.2.1,n.2.2.2.2.2.2.2.2.2.2.1.2.2.1,n.2.2.2.2.2.2.2.2.2.2.1.2.2.2,n.2.2.2.2.2.2.2.2.2.2.2.1,n.2.2.2.2.2.2.2.2.2.2.2.2.1.1,n.2.2.2.2.2.2.2.2.2.2.2.2.1.2.1,n.2.2.2.2.2.2.2.2.2.2.2.2.1.2.2.1,n.2.2.2.2.2.2.2.2.2.2.2.2.1.2.2.2,n.2.2.2.2.2.2.2.2.2.2.2.2.2.1,n.2.2.2.2.2.2.2.2.2.2.2.2.2.2)) (rb true) ?_ ?_ (k:=K) (by omega))
   ·rw[List.take_zero];rfl
   ·intro rec i hi;have hfl:=nH (aa.others n) (·.2) (i+1);have hap:=nG (aa.others n) (·.2) i hi;have hle:=congrArg AB hap;rw[AC]at hle;simp only[Q185.l0.step];rw[bK (by omega:(i:Int)<(AB (aa.others n):Int)),ai hi,av i (by omega)];simp only[cond_true,AA];refine congrArg (λz=>rec (c6 n,z,_)) ((aK ?_ ?_).trans ?_)
    ·show (-9223372036854775808:Int)<=(((aa.table n).length+_:Nat):Int)+(((aa.others n)[i].2.length:Nat):Int);omega
    ·show (((aa.table n).length+_:Nat):Int)+(((aa.others n)[i].2.length:Nat):Int)<=9223372036854775807;omega
    ·show (((aa.table n).length+_:Nat):Int)+(((aa.others n)[i].2.length:Nat):Int)=_;omega
   ·intro rec;simp only[Q185.l0.step,bc,cond_false];have hT:=xq hn.nb hP hu;have hself:jY n∈c6 n:=vZ hn.nb hP hu (s:=ap n.1) (by rw[tv hP hu,beq_self_eq_true];exact hU.self);refine (congrArg (λo=>Option.bind o _) (uA K hT hself hK)).trans ?_;simp only[AA,cond_true];obtain⟨c,c1,c2⟩:=iG K (c6 n) (cD hT) hK;rw[c1,c2.2 hT];simp only[rb,AA,cond_true,List.take_length];rw[show ((AB (c6 n):Int)==(((aa.table n).length+((aa.others n).flatMap (·.2)).length:Nat):Int))=true by rw[qe];simp]
 cases hx:(gp me g).2.1 with
 |false =>
  simp only[cond_false];exact tail
 |true =>
  simp only[cond_true];have hin:0<=me/\me<=7:=by
   apply Classical.byContradiction;intro hno;unfold gp at hx;rw[if_neg hno]at hx;cases hx
  have hmade:gp me g=jB me g:=by unfold gp;rw[if_pos hin]
  obtain⟨x,_,_,ex,hx4⟩:=lC K (gp me g) (rT me g) hK;rw[ex];simp only[AA];have hlx:x.length=1:=by
   have hup:cF (gp me g):=by rw[hmade];exact (pu hin).ok
   rcases hx4 with ⟨h,_⟩|⟨_,_,h⟩
   ·exact absurd ⟨hup,hx⟩ h
   ·rw[h,qe,hmade];rfl
  rw[show ((AB x:Int) != 1)=false by rw[hlx];rfl];simp only[cond_false];exact tail
end Go.Proofs.YtmcbmojdeikcdaaGreatEv
