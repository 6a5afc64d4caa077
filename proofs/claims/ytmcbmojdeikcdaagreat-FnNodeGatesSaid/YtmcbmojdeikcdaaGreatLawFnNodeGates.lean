/- FnNodeGates: the plain law. -/
import Derived.Test.YtmcbmojdeikcdaaGreatP3
open Bool renaming not_true->AB
open Option renaming bind_some->AA
namespace Go.Proofs.YtmcbmojdeikcdaaGreatEv
open Go
theorem vT {t:List af}{i:Int}(h:i∈dc t):∃ f∈t,f.1=i/\f.2.2.1=1/\f.2.2.2=true:=by
 unfold dc at h;obtain⟨f,hf,e⟩:=List.mem_map.1 (List.mem_of_mem_take h);obtain⟨h1,h2⟩:=List.mem_filter.1 hf;simp only[fC,Bool.and_eq_true,beq_iff_eq]at h2;exact⟨f,h1,e,h2.2,h2.1⟩
theorem oK (K:Nat)(code:List Int)(hc:vR code)(hK:1048577<K):Q187.f K (code,())=some ((true,()),()):=by
 simp only[Q187.f,Q187.pre];by_cases h:(code.length:Int)>1048576
 ·rw[decide_eq_true h];rfl
 rw[decide_eq_false h];simp only[cond_false];obtain⟨⟨⟨n,v,⟨⟩⟩,⟨⟩⟩,e0,hn⟩:=sM K code hc hK;have hn:NS 9 n:=hn;rw[e0];simp only[AA];obtain⟨r,hr,e1,e2,h3⟩:=pf K n v hn.nb hK;obtain⟨b,o1,o2,_⟩:=j8 K n hn.nb hK;obtain⟨w,hw,e4,h4⟩:=pt K n hn.nb hK;rw[e2,e1];simp only[AA];rw[sN K r hr hK,o1,o2];simp only[rb,AA,AB,cond_false,bne_self_eq_false];have hlen:r.length<=2:=by
  rcases h3 with h3|⟨_,_,h3⟩ <;> rw[h3]
  ·simp
  ·exact jL _
 rw[decide_eq_false (by omega:¬ (r.length:Int)>2),e4];simp only[AA,cond_false];refine mz (step:=λrec a=>Q187.l0.step K (code,()) rec a) r.length (λi=>(v,r,w,(i:Int))) (rb true) ?_ ?_ (by omega)
 ·intro rec i hi;simp only[Q187.l0.step];rw[bN (by omega:(i:Int)<(List.length r:Int)),Int.toNat_natCast,ai hi,av i (by omega)];simp only[cond_true,AA];have hm:=List.getElem_mem hi;rcases h3 with h3|⟨hP,hu,h3⟩
  ·subst h3;cases hi
  ·have hw':w=gi n:=by
    rcases h4 with ⟨h4,_⟩|⟨_,_,h4⟩
    ·exact absurd ⟨hP,hu⟩ h4
    ·exact h4
   subst hw';rw[<- tu hP hu v]at h3;obtain⟨f,hf,f1,f2,f3⟩:=vT (t:=cG n v) (by rw[<- h3];exact hm);have hs:=(mH hP hu v).2 f hf;have hI:=uv K (xh hn.nb hP hu) (vS hn.nb hP hu hf) hK;rw[f1]at hI;refine (congrArg (λo=>Option.bind o _) hI).trans ?_;simp only[AA,AB,cond_false,f2,f3,bne_self_eq_false];rw[show wr .i64 (Int.tdiv f.1 4)=v from hs];simp only[bne_self_eq_false,cond_false]
 ·intro rec;simp only[Q187.l0.step,bh];rfl
end Go.Proofs.YtmcbmojdeikcdaaGreatEv
