/- FnWorldSafe: the plain law. -/
import Derived.Test.YtmcbmojdeikcdaaGreatP3
set_option linter.unusedVariables false
set_option linter.unusedSimpArgs false
open List renaming length->AB,getElem_mem->AC
open Option renaming bind_some->AA
namespace Go.Proofs.YtmcbmojdeikcdaaGreatEv
open Go
theorem rP (K:Nat)(w:ai)(hw:WB w)(hK:1048577<K):∃ b,Q188.f K (w,())=rb b/\Q175.f K (w,())=rb b:=(pN K w hw hK).same (pO K w hw hK) Iff.rfl
theorem oE (K:Nat)(code:List Int)(hc:vL code)(hK:1048577<K):Q192.f K (code,())=some ((true,()),()):=by
 simp only[Q192.f,Q192.pre];by_cases h:(code.length:Int)>1048576
 ·rw[decide_eq_true h];rfl
 rw[decide_eq_false h];simp only[cond_false];obtain⟨⟨⟨w,⟨⟩⟩,⟨⟩⟩,e0,hw⟩:=uq K code hc hK;have hw:WS w:=hw;obtain⟨safe,s1,s2⟩:=pf K w hw.wb hK;obtain⟨ok,o1,o2⟩:=rP K w hw.wb hK;rw[e0];simp only[AA];rw[s2,s1];simp only[rb,AA,bne_self_eq_false,cond_false];rw[o2,o1];simp only[rb,AA,bne_self_eq_false,cond_false];have hn:=hw.nodes;have hb:=hw.born;cases safe with
 |false =>
  obtain⟨k,rfl⟩:∃ k,K=k+1:=⟨K-1,by omega⟩;simp only[Q192.l0,ae,Q192.l0.step];cases decide ((0:Int)<(AB w.1:Int)) <;> rfl
 |true =>
  obtain⟨b,e1,e2⟩:=vD K w hw.wb hK;rw[s1]at e1;cases e1;obtain⟨_,_,hk⟩:=e2.1 rfl;have l2:∀ (r0:Q192.A_l0->Option Q192.Res) (r1:Q192.A_l1->Option Q192.Res) (i:Int) (v:List af) (k:Nat) (hkv:k<v.length),v.length<=1048576->v[k]∈w.2.2.2->Q192.l2 K (code,()) r0 r1 (true,i,v,(k:Int),false,0,w)=r1 (true,i,v,((k+1:Nat):Int),w):=λr0 r1 i v k hkv hv hm=>by
   refine Eq.trans ?_ (kt (step:=λrec a=>Q192.l2.step K (code,()) r0 r1 rec a) w.2.2.2.length (λj=>(true,i,v,(k:Int),(w.2.2.2.take j).any (λg=>decide (g=v[k])),(j:Int),w)) (r1 (true,i,v,((k+1:Nat):Int),w)) ?_ ?_ (k:=K) (by omega))
   ·rfl
   ·intro rec j hj;simp only[Q192.l2.step];rw[bC (by omega:(j:Int)<(AB w.2.2.2:Int)),Int.toNat_natCast,ah hj,aw j (by omega),ah hkv];simp only[cond_true,AA];have e:(w.2.2.2.take (j+1)).any (λg=>decide (g=v[k]))=((w.2.2.2.take j).any (λg=>decide (g=v[k]))||decide (w.2.2.2[j]=v[k])):=by
     rw[List.take_add_one,List.getElem?_eq_getElem hj,List.any_append];simp
    rw[e];cases (w.2.2.2.take j).any (λg=>decide (g=v[k])) with
    |true=>rfl
    |false =>
     simp only[cond_false,Bool.false_or];rw[show Ty.eqv t2 w.2.2.2[j] v[k]=decide (w.2.2.2[j]=v[k]) from jh _ _]
   ·intro rec;simp only[Q192.l2.step,aR,List.take_length,cond_false];rw[show w.2.2.2.any (λg=>decide (g=v[k]))=true from List.any_eq_true.2 ⟨_,hm,decide_eq_true rfl⟩,aw k (by omega)];rfl
  have l1:∀ (r0:Q192.A_l0->Option Q192.Res) (i:Nat) (v:List af),i<=8->v.length<=1048576->(∀ f∈v,f∈w.2.2.2)->Q192.l1 K (code,()) r0 (true,(i:Int),v,0,w)=r0 (true,((i+1:Nat):Int),w):=λr0 i v hi hv hf=>by
   refine kt (step:=λrec a=>Q192.l1.step K (code,()) (Q192.l2 K (code,()) r0 rec) r0 rec a) v.length (λk=>(true,(i:Int),v,(k:Int),w)) (r0 (true,((i+1:Nat):Int),w)) ?_ ?_ (by omega)
   ·intro rec k hk;simp only[Q192.l1.step];rw[bC (by omega:(k:Int)<(AB v:Int))];exact l2 r0 rec i v k hk hv (hf _ (AC hk))
   ·intro rec;simp only[Q192.l1.step,aR,cond_false];rw[aw i (by omega)]
  refine kt (step:=λrec a=>Q192.l0.step K (code,()) (Q192.l1 K (code,()) rec) rec a) w.1.length (λi=>(true,(i:Int),w)) (rb true) ?_ ?_ (by omega)
  ·intro rec i hi;simp only[Q192.l0.step];rw[bC (by omega:(i:Int)<(AB w.1:Int)),ah hi];simp only[cond_true,AA];obtain⟨v,hv,e3,h4⟩:=pg K w.1[i] (hw.node _ (AC hi)).nb hK;refine (congrArg (λo=>Option.bind o _) e3).trans ?_;simp only[AA];refine l1 rec i v (by omega) hv λf hf=>?_
   rcases h4 with ⟨_,h4⟩|⟨hP,hu,h4⟩
   ·rw[h4]at hf;cases hf
   ·rw[h4]at hf;have hp:(er w.1[i]).Perm (eq w.1[i]):=by unfold er;simpa using gQ ltF (eq w.1[i]) []
    exact oB.1 (hk i hi) f (hp.mem_iff.1 hf)
  ·intro rec;simp only[Q192.l0.step,aR];rfl
end Go.Proofs.YtmcbmojdeikcdaaGreatEv
