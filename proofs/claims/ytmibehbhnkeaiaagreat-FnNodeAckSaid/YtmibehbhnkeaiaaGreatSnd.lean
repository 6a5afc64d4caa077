/- The contracts are sound. Printed by run3.py. -/
import Derived.Test.YtmibehbhnkeaiaaGreatEqn0
import Derived.Test.YtmibehbhnkeaiaaGreatE6
import Derived.Test.YtmibehbhnkeaiaaGreatE3
import Derived.Test.YtmibehbhnkeaiaaGreatMan
import Derived.Test.YtmibehbhnkeaiaaGreatIns
import Derived.Test.YtmibehbhnkeaiaaGreatDel
import Derived.Test.YtmibehbhnkeaiaaGreatP0
import Derived.Test.YtmibehbhnkeaiaaGreatMed
set_option linter.unusedVariables false
set_option maxRecDepth 100000
set_option linter.unusedVariables false
set_option linter.unusedSimpArgs false
open Bool renaming not_eq_true'->FM,and_eq_true->FO
open List renaming length->FJ,getElem_mem->FK,getElem?_eq_some_iff->FL,getElem?_eq_getElem->FN,getElem_of_mem->FQ
open Nat renaming zero_le->FP
open Option renaming bind_some->FR
namespace Go.Proofs.YtmibehbhnkeaiaaGreatEv
open Go Go.Proofs
abbrev So (c:Ctr):Prop:=bI Tryz.prog c
theorem g0:∀ c∈([]:List Ctr),So c:=by simp
theorem gc {a:Ctr}{l:List Ctr}(h:So a)(hl:∀ c∈l,So c):∀ c∈a::l,So c:=by
 intro c hc;rcases List.mem_cons.1 hc with rfl|hc
 ·exact h
 ·exact hl c hc
def fB (fn:Func):Bool:=fn.body.isSome&&!(fn.name== "runtime.NumGoroutine")
theorem fS {T:TypeId->TI}(hT:TOk Tryz.prog T){Γ:List Ctr}(hΓ:∀ c∈Γ,So c){c:Ctr}{fn:Func}(hf:Tryz.prog.funcs[c.f]?=some fn)(hb:fB fn=true:=by kernel_rfl)(hden:∀ x,evF Γ T [] 0 fn c.ps c.rs c.fresh x=c.den x:=by intro _;kernel_rfl):So c:=by
 simp only[fB,FO,FM]at hb;exact qo hT hΓ (by kernel_rfl) hf hb.2 hb.1 hden
theorem fL {T:TypeId->TI}(hT:TOk Tryz.prog T){Γ:List Ctr}(hΓ:∀ c∈Γ,So c){c:Ctr}{fn:Func}(hf:Tryz.prog.funcs[c.f]?=some fn){K:Nat}{A:Type}(key:Nat)(live:List (Nat×List Coe))(p:List Nat)
  (step:ab c.ps->(A->Option (ai c.rs×ag c.ps))->A->Option (ai c.rs×ag c.ps)) (pre:(A->Option (ai c.rs×ag c.ps))->ab c.ps->Option (ai c.rs×ag c.ps)) (S:ab c.ps->A->St)
  (hb:fB fn=true:=by kernel_rfl)
  (h1:∀ x r a,evK Γ T [(key,live)] K (sub (cY fn) (p++[0])) (S x a) (iq live r (kAt (evK Γ T [(key,live)] K) (cY fn) p (du T c.ps c.rs c.fresh fn.results.toList)))=step x (λa=>r (S x a)) a:=by intro _ _ _;kernel_rfl)
  (h2:∀ x,evF Γ T [(key,live)] K fn c.ps c.rs c.fresh x=pre (λa=>aY live (evK Γ T [(key,live)] K (sub (cY fn) (p++[0]))) K (S x a) (kAt (evK Γ T [(key,live)] K) (cY fn) p (du T c.ps c.rs c.fresh fn.results.toList))) x:=by intro _;kernel_rfl)
  (h3:∀ x,pre (ae (step x) K) x=c.den x:=by exact λ_=>rfl):So c:=by
 simp only[fB,FO,FM]at hb;refine qo hT hΓ (by kernel_rfl) hf hb.2 hb.1 λx=>(h2 x).trans (Eq.trans ?_ (h3 x))
 exact congrArg (λN=>pre N x) (funext λa=>lK live _ _ (S x) (step x) (λr a=>h1 x r a) K a)
theorem fM {T:TypeId->TI}(hT:TOk Tryz.prog T){Γ:List Ctr}(hΓ:∀ c∈Γ,So c){c:Ctr}{fn:Func}(hf:Tryz.prog.funcs[c.f]?=some fn){K:Nat}{L:List (Nat×List (Nat×List Coe))}(h:∀ x,evF Γ T L K fn c.ps c.rs c.fresh x=c.den x)(hb:fB fn=true:=by kernel_rfl):So c:=by
 simp only[fB,FO,FM]at hb;exact qo hT hΓ (by kernel_rfl) hf hb.2 hb.1 h
theorem T_D_ok:TOk Tryz.prog T_D:=iJ (l:=Tl_D) (by kernel_rfl)
theorem T_ND_ok:TOk Tryz.prog T_ND:=iJ (l:=Tl_ND) (by kernel_rfl)
theorem T_NL_ok:TOk Tryz.prog T_NL:=iJ (l:=Tl_NL) (by kernel_rfl)
theorem T_NS_ok:TOk Tryz.prog T_NS:=iJ (l:=Tl_NS) (by kernel_rfl)
theorem T_NT_ok:TOk Tryz.prog T_NT:=iJ (l:=Tl_NT) (by kernel_rfl)
theorem T_S_ok:TOk Tryz.prog T_S:=iJ (l:=Tl_S) (by kernel_rfl)
theorem mixed:Tryz.prog.follows .mixedOrders=true:=by kernel_rfl
variable (K:Nat)
theorem Q12.o:bI Tryz.prog (Q12.c K):=by
 induction K with
 |zero=>exact⟨c7 Tryz.func280 (by kernel_rfl) rfl,λ_ _ _ _ _ _ _ _ _ h=>by cases h⟩
 |succ k ih=>exact fS T_NL_ok (gc ih g0) Tryz.func280 (by kernel_rfl) λx=>by kernel_rfl
theorem Q13.o:So (Q13.c K):=fS T_NL_ok (g0) Tryz.func80
theorem Q14.o:So (Q14.c K):=fS T_NL_ok (gc (Q13.o K) g0) Tryz.func79
theorem Q15.o:So (Q15.c K):=fS T_NL_ok (g0) Tryz.func81
theorem Q16.o:So (Q16.c K):=fS T_NL_ok (gc (Q14.o K) (gc (Q13.o K) g0)) Tryz.func119
theorem Q17.o:So (Q17.c K):=fL T_NL_ok (gc (Q16.o K) g0) Tryz.func61 3 [(0,[.ro true 46 t2]),(5,[.ro true 46 t2]),(6,[.keep]),(7,[.keep])] [1,0,1,0] (Q17.s0 K) (Q17.pre K) λx a=>av [(0,⟨0,.one,[.ro true 46 t2 x.1]⟩),(5,⟨0,.one,[.ro true 46 t2 x.1]⟩),(6,⟨0,.one,[.int .i64 (FJ x.1:Int)]⟩),(7,⟨0,.one,[.int .i64 a]⟩)]
theorem Q18.o:So (Q18.c K):=fL T_NL_ok (g0) Tryz.func122 4 [(0,[.ro true 46 t2]),(1,[.keep]),(2,[.keep]),(8,[.keep]),(9,[.keep]),(10,[.keep])] [1,1,1,0,0] (Q18.s0 K) (Q18.pre K) λx a=>av [(0,⟨0,.one,[.ro true 46 t2 x.1]⟩),(1,⟨0,.one,[.int .i64 x.2.1]⟩),(2,⟨0,.one,[.fn [t2,I6] I6 x.2.2.1]⟩),(8,⟨0,.one,[.int .i64 (FJ x.1:Int)]⟩),(9,⟨0,.one,[.int .i64 a.1]⟩),(10,⟨0,.one,[.int .i64 a.2]⟩)]
theorem Q19.o:So (Q19.c K):=fS T_NL_ok (g0) Tryz.func194
theorem Q20.o:So (Q20.c K):=fS T_NL_ok (gc (Q19.o K) g0) Tryz.func124
theorem Q21.o:So (Q21.c K):=fS T_NL_ok (gc (Q20.o K) g0) Tryz.func123
theorem Q22.o:So (Q22.c K):=fS T_NL_ok (gc (Q18.o K) (gc (Q21.o K) g0)) Tryz.func64
theorem Q23.o:So (Q23.c K):=fS T_NL_ok (gc (Q17.o K) (gc (Q22.o K) g0)) Tryz.func20
theorem Q24.o:So (Q24.c K):=fL T_NL_ok (g0) Tryz.func190 3 [(0,[.ro true 46 t2]),(1,[.keep]),(7,[.keep]),(8,[.keep])] [1,0,1,0] (Q24.s0 K) (Q24.pre K) λx a=>av [(0,⟨0,.one,[.ro true 46 t2 x.1]⟩),(1,⟨0,.one,[.fn [t2] .bool x.2.1]⟩),(7,⟨0,.one,[.int .i64 (FJ x.1:Int)]⟩),(8,⟨0,.one,[.int .i64 a]⟩)]
theorem Q25.o:So (Q25.c K):=fS T_NL_ok (gc (Q24.o K) g0) Tryz.func117
theorem Q26.o:So (Q26.c K):=fS T_NL_ok (g0) Tryz.func55
theorem Q27.o:So (Q27.c K):=fS T_NL_ok (gc (Q26.o K) g0) Tryz.func118
theorem Q28.o:So (Q28.c K):=fS T_NL_ok (gc (Q25.o K) (gc (Q27.o K) g0)) Tryz.func53
theorem Q29.o:So (Q29.c K):=fS T_NL_ok (gc (Q26.o K) g0) Tryz.func54
theorem Q30.o:So (Q30.c K):=fL T_NL_ok (g0) Tryz.func205 3 [(0,[.ro true 133 t3]),(1,[.keep]),(7,[.keep]),(8,[.keep])] [1,0,1,0] (Q30.s0 K) (Q30.pre K) λx a=>av [(0,⟨0,.one,[.ro true 133 t3 x.1]⟩),(1,⟨0,.one,[.fn [t3] .bool x.2.1]⟩),(7,⟨0,.one,[.int .i64 (FJ x.1:Int)]⟩),(8,⟨0,.one,[.int .i64 a]⟩)]
theorem Q31.o:So (Q31.c K):=fS T_NL_ok (gc (Q30.o K) g0) Tryz.func135
theorem Q32.o:So (Q32.c K):=fS T_NL_ok (gc (Q13.o K) g0) Tryz.func203
theorem Q33.o:So (Q33.c K):=fL T_NL_ok (g0) Tryz.func204 4 [(3,[.own false 46 t2]),(6,[.ro true 133 t3]),(7,[.keep]),(8,[.keep])] [1,1,0,1,0] (Q33.s0 K) (Q33.pre K) λx a=>av [(3,⟨0,.one,[.own false none 46 t2 a.1]⟩),(6,⟨0,.one,[.ro true 133 t3 x.1]⟩),(7,⟨0,.one,[.int .i64 (FJ x.1:Int)]⟩),(8,⟨0,.one,[.int .i64 a.2]⟩)]
theorem Q34.o:So (Q34.c K):=fS T_NL_ok (gc (Q17.o K) (gc (Q31.o K) (gc (Q32.o K) (gc (Q33.o K) g0)))) Tryz.func134
theorem Q35.o:So (Q35.c K):=fL T_NL_ok (g0) Tryz.func193 4 [(3,[.keep]),(6,[.ro true 3 I6]),(7,[.keep]),(8,[.keep])] [1,1,0,1,0] (Q35.s0 K) (Q35.pre K) λx a=>av [(3,⟨0,.one,[.int .i64 0]⟩),(6,⟨0,.one,[.ro true 3 I6 x.1]⟩),(7,⟨0,.one,[.int .i64 (FJ x.1:Int)]⟩),(8,⟨0,.one,[.int .i64 a]⟩)]
theorem Q36.o:So (Q36.c K):=fS T_NL_ok (gc (Q20.o K) (gc (Q35.o K) g0)) Tryz.func121
theorem Q37.o:So (Q37.c K):=fS T_NL_ok (gc (Q16.o K) (gc (Q36.o K) g0)) Tryz.func93
theorem Q38.o:So (Q38.c K):=fS T_NL_ok (gc (Q23.o K) (gc (Q37.o K) g0)) Tryz.func136
theorem Q39.o:So (Q39.c K):=fS T_NL_ok (gc (Q23.o K) (gc (Q28.o K) (gc (Q29.o K) (gc (Q34.o K) (gc (Q31.o K) (gc (Q38.o K) g0)))))) Tryz.func82
theorem Q40.o:So (Q40.c K):=fS T_NL_ok (gc (Q23.o K) (gc (Q13.o K) g0)) Tryz.func83
theorem Q41.o:So (Q41.c K):=fS T_NL_ok (gc (Q29.o K) (gc (Q26.o K) (gc (Q14.o K) g0))) Tryz.func52
theorem Q42.o:So (Q42.c K):=fM T_NL_ok (gc (Q41.o K) (gc (Q13.o K) g0)) Tryz.func84 (Q42.eqn K)
theorem Q43.o:So (Q43.c K):=fS T_NL_ok (gc (Q13.o K) g0) Tryz.func85
theorem Q44.o:So (Q44.c K):=fS T_NL_ok (gc (Q41.o K) g0) Tryz.func110
theorem Q45.o:So (Q45.c K):=fS T_NL_ok (gc (Q13.o K) g0) Tryz.func137
theorem Q46.o:So (Q46.c K):=fL T_NL_ok (g0) Tryz.func206 3 [(0,[.ro true 3 I6]),(1,[.keep]),(7,[.keep]),(8,[.keep])] [1,0,1,0] (Q46.s0 K) (Q46.pre K) λx a=>av [(0,⟨0,.one,[.ro true 3 I6 x.1]⟩),(1,⟨0,.one,[.fn [I6] .bool x.2.1]⟩),(7,⟨0,.one,[.int .i64 (FJ x.1:Int)]⟩),(8,⟨0,.one,[.int .i64 a]⟩)]
theorem Q47.o:So (Q47.c K):=fS T_NL_ok (gc (Q46.o K) g0) Tryz.func138
theorem Q48.o:So (Q48.c K):=fL T_NL_ok (gc (Q13.o K) (gc (Q43.o K) (gc (Q44.o K) (gc (Q45.o K) (gc (Q47.o K) g0))))) Tryz.func86 4 [(1,[.keep]),(3,[.keep]),(7,[.ro true 89 t11]),(8,[.keep]),(9,[.keep]),(100001,Kc0)] [1,1,0,1,0] (Q48.s0 K) (Q48.pre K) λx a=>av [(1,⟨0,.one,[.bp 100001 0]⟩),(3,⟨0,.one,[.clo 137 []]⟩),(7,⟨0,.one,[.ro true 89 t11 x.1.2.2.2.2.2.2.2.2.2.2.2.2.2.1]⟩),(8,⟨0,.one,[.int .i64 (FJ x.1.2.2.2.2.2.2.2.2.2.2.2.2.2.1:Int)]⟩),(9,⟨0,.one,[.int .i64 a]⟩),(100001,⟨0,.agg,(w0 x.1)⟩)]
theorem Q49.o:So (Q49.c K):=fL T_NL_ok (gc (Q28.o K) (gc (Q29.o K) (gc (Q26.o K) (gc (Q17.o K) (gc (Q13.o K) g0))))) Tryz.func87 3 [(1,[.keep]),(6,[.ro true 91 t12]),(7,[.keep]),(8,[.keep]),(100001,Kc0)] [1,0,1,0] (Q49.s0 K) (Q49.pre K) λx a=>av [(1,⟨0,.one,[.bp 100001 0]⟩),(6,⟨0,.one,[.ro true 91 t12 x.1.2.2.2.2.2.2.2.2.2.2.2.2.2.2]⟩),(7,⟨0,.one,[.int .i64 (FJ x.1.2.2.2.2.2.2.2.2.2.2.2.2.2.2:Int)]⟩),(8,⟨0,.one,[.int .i64 a]⟩),(100001,⟨0,.agg,(w0 x.1)⟩)]
theorem Q50.o:So (Q50.c K):=fS T_NL_ok (gc (Q14.o K) (gc (Q13.o K) (gc (Q15.o K) (gc (Q39.o K) (gc (Q40.o K) (gc (Q42.o K) (gc (Q43.o K) (gc (Q48.o K) (gc (Q49.o K) g0))))))))) Tryz.func26
theorem Q51.o:So (Q51.c K):=fS T_NL_ok (gc (Q28.o K) (gc (Q26.o K) (gc (Q17.o K) (gc (Q14.o K) (gc (Q13.o K) (gc (Q43.o K) g0)))))) Tryz.func50
theorem Q52.o:So (Q52.c K):=fS T_NL_ok (g0) Tryz.func51
theorem Q53.o:So (Q53.c K):=fS T_NL_ok (gc (Q50.o K) (gc (Q51.o K) (gc (Q52.o K) (gc (Q41.o K) (gc (Q28.o K) (gc (Q29.o K) (gc (Q26.o K) g0))))))) Tryz.func15
theorem Q54.o:So (Q54.c K):=fS T_NL_ok (gc (Q0.o K) (gc (Q22.o K) (gc (Q1.o K) (gc (Q36.o K) g0)))) Tryz.func63
theorem Q55.o:So (Q55.c K):=fS T_NL_ok (gc (Q22.o K) (gc (Q16.o K) (gc (Q36.o K) (gc (Q34.o K) (gc (Q2.o K) (gc (Q33.o K) (gc (Q3.o K) g0))))))) Tryz.func214
theorem Q56.o:So (Q56.c K):=fL T_NL_ok (g0) Tryz.func272 3 [(0,[.ro true 86 t6]),(1,[.keep]),(7,[.keep]),(8,[.keep])] [1,0,1,0] (Q56.s0 K) (Q56.pre K) λx a=>av [(0,⟨0,.one,[.ro true 86 t6 x.1]⟩),(1,⟨0,.one,[.fn [t6] .bool x.2.1]⟩),(7,⟨0,.one,[.int .i64 (FJ x.1:Int)]⟩),(8,⟨0,.one,[.int .i64 a]⟩)]
theorem Q57.o:So (Q57.c K):=fS T_NL_ok (g0) Tryz.func216
theorem Q58.o:So (Q58.c K):=fL T_NL_ok (g0) Tryz.func217 4 [(0,[.ro true 86 t6]),(1,[.keep]),(2,[.keep]),(8,[.keep]),(9,[.keep]),(10,[.keep])] [1,1,1,0,0] (Q58.s0 K) (Q58.pre K) λx a=>av [(0,⟨0,.one,[.ro true 86 t6 x.1]⟩),(1,⟨0,.one,[.int .i64 x.2.1]⟩),(2,⟨0,.one,[.fn [t6,I6] I6 x.2.2.1]⟩),(8,⟨0,.one,[.int .i64 (FJ x.1:Int)]⟩),(9,⟨0,.one,[.int .i64 a.1]⟩),(10,⟨0,.one,[.int .i64 a.2]⟩)]
theorem Q59.o:So (Q59.c K):=fS T_NL_ok (g0) Tryz.func218
theorem Q4.says (K:Nat)(hK:1048577<K)(xs:List (Ty.den t6))(φ:Tup [t6]->Option Bool)(ht:xs.length<=1048576)(hφ:∀ x∈xs,∃ b,φ (x,())=some b):pf xs φ (Q56.f K (xs,φ,())):=by
 have:=cG (step:=λrec a=>Q56.s0 K (xs,φ,()) rec a) xs.length (λi=>(i:Int)) (λj=>∃ h:j<xs.length,φ (xs[j],())=some true) (some ((-1,()),())) (λj=>some ((((j:Nat):Int),()),())) ?_ ?_ xs.length K 0 (by omega) (by omega)
 ·rcases this with ⟨h1,h2⟩|⟨j,_,h1,⟨h3,h4⟩,h5,h2⟩
  ·refine .inl ⟨λx hx=>?_,(),h2⟩;obtain⟨i,hi,rfl⟩:=FQ hx;obtain⟨b,hb⟩:=hφ _ (FK hi);cases b with
   |false=>exact hb
   |true=>exact absurd ⟨hi,hb⟩ (h1 i (FP _) hi)
  ·refine .inr ⟨j,xs[j],(),FN h3,h4,λm y hm hy=>?_,h2⟩;obtain⟨hml,rfl⟩:=FL.1 hy;obtain⟨b,hb⟩:=hφ _ (FK hml);cases b with
   |false=>exact hb
   |true=>exact absurd ⟨hml,hb⟩ (h5 m (FP _) hm)
 ·intro rec i hi;simp only[Q56.s0];rw[decide_eq_true (by omega:(i:Int)<(FJ xs:Int)),af hi,ar i (by omega)];simp only[cond_true,FR];obtain⟨b,hb⟩:=hφ _ (FK hi);rw[hb];cases b with
  |true=>exact .inr ⟨⟨hi,hb⟩,rfl⟩
  |false=>exact .inl ⟨λ⟨_,h⟩=>(by rw[hb]at h;cases h),rfl⟩
 ·intro rec;simp only[Q56.s0];rw[decide_eq_false (by omega:¬ ((xs.length:Int)<(FJ xs:Int)))];rfl
theorem Q4.o:bI Tryz.prog (Q4.c K):=oR (e:=t50) (e':=t6) (cv:=λx=>x) (λ_=>HEq.rfl) (by kernel_rfl) (c7 Tryz.func215 (by kernel_rfl) rfl) (by kernel_rfl) (by kernel_rfl) (Q56.o 1048578) (λxs φ h1 h2=>Q4.says 1048578 (by omega) xs φ h1 h2) Q4.walk
theorem Q60.o:So (Q60.c K):=fS T_NL_ok (gc (Q23.o K) (gc (Q54.o K) (gc (Q55.o K) (gc (Q4.o K) (gc (Q57.o K) (gc (Q58.o K) (gc (Q59.o K) (gc (Q5.o K) g0)))))))) Tryz.func145
theorem Q61.o:So (Q61.c K):=fS T_NL_ok (gc (Q19.o K) g0) Tryz.func240
theorem Q62.o:So (Q62.c K):=fS T_NL_ok (g0) Tryz.func241
theorem Q63.o:So (Q63.c K):=fL T_NL_ok (gc (Q61.o K) (gc (Q62.o K) g0)) Tryz.func175 4 [(0,[.ro true 3 I6]),(1,[.keep]),(6,[.keep]),(7,[.keep]),(8,[.keep])] [1,1,1,0,0] (Q63.s0 K) (Q63.pre K) λx a=>av [(0,⟨0,.one,[.ro true 3 I6 x.1]⟩),(1,⟨0,.one,[.int .i64 x.2.1]⟩),(6,⟨0,.one,[.int .i64 (FJ x.1:Int)]⟩),(7,⟨0,.one,[.int .i64 a.1]⟩),(8,⟨0,.one,[.int .i64 a.2]⟩)]
theorem Q64.o:So (Q64.c K):=fM T_NL_ok (gc (Q23.o K) (gc (Q37.o K) (gc (Q60.o K) (gc (Q63.o K) (gc (Q6.o K) g0))))) Tryz.func109 (Q64.eqn K)
theorem Q65.o:So (Q65.c K):=fS T_NL_ok (g0) Tryz.func174
theorem Q66.o:So (Q66.c K):=fS T_NL_ok (gc (Q0.o K) (gc (Q65.o K) g0)) Tryz.func112
theorem Q67.o:So (Q67.c K):=fL T_NL_ok (g0) Tryz.func178 4 [(0,[.ro true 89 t11]),(1,[.keep]),(2,[.keep]),(8,[.keep]),(9,[.keep]),(10,[.keep])] [1,1,1,0,0] (Q67.s0 K) (Q67.pre K) λx a=>av [(0,⟨0,.one,[.ro true 89 t11 x.1]⟩),(1,⟨0,.one,[.int .i64 x.2.1]⟩),(2,⟨0,.one,[.fn [t11,I6] I6 x.2.2.1]⟩),(8,⟨0,.one,[.int .i64 (FJ x.1:Int)]⟩),(9,⟨0,.one,[.int .i64 a.1]⟩),(10,⟨0,.one,[.int .i64 a.2]⟩)]
theorem Q68.o:So (Q68.c K):=fS T_NL_ok (g0) Tryz.func179
theorem Q69.o:So (Q69.c K):=fS T_NL_ok (g0) Tryz.func247
theorem Q70.o:So (Q70.c K):=fS T_NL_ok (gc (Q69.o K) g0) Tryz.func212
theorem Q71.o:So (Q71.c K):=fL T_NL_ok (g0) Tryz.func213 3 [(0,[.keep]),(3,[.keep]),(4,[.keep])] [1,1,0,0] (Q71.s0 K) (Q71.pre K) λx a=>av [(0,⟨0,.one,[.int .i64 x.1]⟩),(3,⟨0,.one,[.int .i64 a.1]⟩),(4,⟨0,.one,[.int .i64 a.2]⟩)]
theorem Q72.o:So (Q72.c K):=fS T_NL_ok (gc (Q70.o K) (gc (Q71.o K) g0)) Tryz.func144
theorem Q73.o:So (Q73.c K):=fS T_NL_ok (gc (Q43.o K) (gc (Q72.o K) g0)) Tryz.func92
theorem Q74.o:So (Q74.c K):=fS T_NL_ok (gc (Q13.o K) (gc (Q43.o K) (gc (Q73.o K) (gc (Q72.o K) (gc (Q69.o K) g0))))) Tryz.func181
theorem Q75.o:So (Q75.c K):=fS T_NL_ok (g0) Tryz.func266
theorem Q76.o:So (Q76.c K):=fS T_NL_ok (gc (Q75.o K) g0) Tryz.func196
theorem Q77.o:So (Q77.c K):=fM T_S_ok (gc (Q61.o K) g0) Tryz.func332 (Q77.eqn K)
theorem Q78.o:So (Q78.c K):=fS T_NL_ok (gc (Q61.o K) g0) Tryz.func346
theorem Q79.o:So (Q79.c K):=fS T_NL_ok (gc (Q78.o K) g0) Tryz.func344
theorem Q80.o:So (Q80.c K):=fS T_NL_ok (gc (Q79.o K) g0) Tryz.func343
theorem Q81.o:So (Q81.c K):=fS T_NL_ok (gc (Q80.o K) (gc (Q79.o K) g0)) Tryz.func335
theorem Q82.o:So (Q82.c K):=fL T_S_ok (gc (Q61.o K) (gc (Q77.o K) (gc (Q81.o K) g0))) Tryz.func319 3 [(0,[.own false 3 I6]),(1,[.keep]),(2,[.keep]),(3,[.keep]),(8,[.keep]),(9,[.keep])] [1,1,0] (Q82.s0 K) (Q82.pre K) λx a=>av [(0,⟨0,.one,[.own false none 3 I6 x.1]⟩),(1,⟨0,.one,[.int .i64 x.2.1]⟩),(2,⟨0,.one,[.int .i64 x.2.2.1]⟩),(3,⟨0,.one,[.int .i64 x.2.2.2.1]⟩),(8,⟨0,.one,[.bool true]⟩),(9,⟨0,.one,[.bool true]⟩)]
theorem Q83.o:So (Q83.c K):=fS T_S_ok (gc (Q76.o K) (gc (Q82.o K) g0)) Tryz.func287
theorem Q84.o:So (Q84.c K):=vu (c7 Tryz.func182 (by kernel_rfl) rfl) (den:=λxs=>(Q83.f K (xs,())).map λ (y:Q83.Res)=>y.2.1) (AU (Da (Q83.o K)))
theorem Q85.o:So (Q85.c K):=fS T_NL_ok (gc (Q7.o K) (gc (Q67.o K) (gc (Q68.o K) (gc (Q8.o K) (gc (Q74.o K) (gc (Q84.o K) g0)))))) Tryz.func113
theorem Q86.o:So (Q86.c K):=fS T_NL_ok (gc (Q64.o K) (gc (Q44.o K) (gc (Q66.o K) (gc (Q85.o K) g0)))) Tryz.func47
theorem Q87.o:So (Q87.c K):=fS T_NL_ok (gc (Q53.o K) (gc (Q86.o K) g0)) Tryz.func46
theorem Q88.o:So (Q88.c K):=fM T_NL_ok (gc (Q0.o K) (gc (Q7.o K) (gc (Q2.o K) g0))) Tryz.func106 (Q88.eqn K)
theorem Q89.o:So (Q89.c K):=fS T_D_ok (g0) Tryz.func107
theorem Q90.o:So (Q90.c K):=fS T_NL_ok (gc (Q50.o K) (gc (Q87.o K) (gc (Q88.o K) (gc (Q89.o K) g0)))) Tryz.func45
theorem Q91.o:So (Q91.c K):=fS T_NL_ok (gc (Q90.o K) g0) Tryz.func13
theorem Q92.o:So (Q92.c K):=fL T_NL_ok (g0) Tryz.func23 5 [(0,[.ro true 46 t2]),(1,[.ro true 46 t2]),(5,[.keep])] [1,1,0,1,0] (Q92.s0 K) (Q92.pre K) λx a=>av [(0,⟨0,.one,[.ro true 46 t2 x.1]⟩),(1,⟨0,.one,[.ro true 46 t2 x.2.1]⟩),(5,⟨0,.one,[.int .i64 a]⟩)]
theorem Q93.o:So (Q93.c K):=fL T_NL_ok (g0) Tryz.func56 5 [(0,[.ro true 133 t3]),(1,[.ro true 133 t3]),(5,[.keep])] [1,1,0,1,0] (Q93.s0 K) (Q93.pre K) λx a=>av [(0,⟨0,.one,[.ro true 133 t3 x.1]⟩),(1,⟨0,.one,[.ro true 133 t3 x.2.1]⟩),(5,⟨0,.one,[.int .i64 a]⟩)]
theorem Q94.o:So (Q94.c K):=fL T_NL_ok (g0) Tryz.func57 5 [(0,[.ro true 3 I6]),(1,[.ro true 3 I6]),(5,[.keep])] [1,1,0,1,0] (Q94.s0 K) (Q94.pre K) λx a=>av [(0,⟨0,.one,[.ro true 3 I6 x.1]⟩),(1,⟨0,.one,[.ro true 3 I6 x.2.1]⟩),(5,⟨0,.one,[.int .i64 a]⟩)]
theorem Q95.o:So (Q95.c K):=fM T_NL_ok (gc (Q92.o K) (gc (Q93.o K) (gc (Q94.o K) g0))) Tryz.func16 (Q95.eqn K)
theorem Q96.o:So (Q96.c K):=fS T_NL_ok (gc (Q92.o K) g0) Tryz.func58
theorem Q97.o:So (Q97.c K):=fL T_NL_ok (gc (Q96.o K) g0) Tryz.func17 5 [(0,[.ro true 35 t47]),(1,[.ro true 35 t47]),(5,[.keep])] [1,1,0,1,0] (Q97.s0 K) (Q97.pre K) λx a=>av [(0,⟨0,.one,[.ro true 35 t47 x.1]⟩),(1,⟨0,.one,[.ro true 35 t47 x.2.1]⟩),(5,⟨0,.one,[.int .i64 a]⟩)]
theorem Q98.o:So (Q98.c K):=fS T_S_ok (g0) Tryz.func65
theorem Q99.o:So (Q99.c K):=fS T_S_ok (gc (Q98.o K) g0) Tryz.func125
theorem Q100.o:So (Q100.c K):=fL T_S_ok (gc (Q99.o K) g0) Tryz.func66 3 [(0,[.ro true 46 t2]),(3,[.keep])] [1,0,1,0] (Q100.s0 K) (Q100.pre K) λx a=>av [(0,⟨0,.one,[.ro true 46 t2 x.1]⟩),(3,⟨0,.one,[.int .i64 a]⟩)]
theorem Q101.o:So (Q101.c K):=fL T_S_ok (g0) Tryz.func67 3 [(0,[.ro true 46 t2]),(1,[.keep]),(5,[.keep])] [1,0,1,0] (Q101.s0 K) (Q101.pre K) λx a=>av [(0,⟨0,.one,[.ro true 46 t2 x.1]⟩),(1,⟨0,.one,[.int .i64 x.2.1]⟩),(5,⟨0,.one,[.int .i64 a]⟩)]
theorem Q102.o:So (Q102.c K):=fS T_S_ok (g0) Tryz.func68
theorem Q103.o:So (Q103.c K):=fL T_S_ok (g0) Tryz.func99 3 [(0,[.ro true 46 t2]),(1,[.keep]),(5,[.keep])] [1,0,1,0] (Q103.s0 K) (Q103.pre K) λx a=>av [(0,⟨0,.one,[.ro true 46 t2 x.1]⟩),(1,⟨0,.one,[.int .i64 x.2.1]⟩),(5,⟨0,.one,[.int .i64 a]⟩)]
theorem Q104.o:So (Q104.c K):=fS T_S_ok (gc (Q103.o K) g0) Tryz.func69
theorem Q105.o:So (Q105.c K):=fL T_S_ok (gc (Q98.o K) (gc (Q99.o K) g0)) Tryz.func126 3 [(0,[.ro true 133 t3]),(3,[.keep])] [1,0,1,0] (Q105.s0 K) (Q105.pre K) λx a=>av [(0,⟨0,.one,[.ro true 133 t3 x.1]⟩),(3,⟨0,.one,[.int .i64 a]⟩)]
theorem Q106.o:So (Q106.c K):=fS T_S_ok (g0) Tryz.func127
theorem Q107.o:So (Q107.c K):=fL T_S_ok (gc (Q103.o K) (gc (Q105.o K) (gc (Q106.o K) g0))) Tryz.func70 5 [(1,[.keep]),(3,[.keep]),(100001,Kc0)] [1,1,0,1,0] (Q107.s0 K) (Q107.pre K) λx a=>av [(1,⟨0,.one,[.bp 100001 0]⟩),(3,⟨0,.one,[.int .i64 a]⟩),(100001,⟨0,.agg,(w0 x.1)⟩)]
theorem Q108.o:So (Q108.c K):=fS T_S_ok (gc (Q98.o K) (gc (Q103.o K) g0)) Tryz.func71
theorem Q109.o:So (Q109.c K):=fM T_S_ok (gc (Q98.o K) (gc (Q102.o K) (gc (Q103.o K) g0))) Tryz.func72 (Q109.eqn K)
theorem Q110.o:So (Q110.c K):=fS T_S_ok (gc (Q98.o K) g0) Tryz.func73
theorem Q111.o:So (Q111.c K):=fM T_S_ok (gc (Q98.o K) (gc (Q102.o K) (gc (Q110.o K) g0))) Tryz.func74 (Q111.eqn K)
theorem Q112.o:So (Q112.c K):=fL T_S_ok (gc (Q98.o K) (gc (Q100.o K) (gc (Q101.o K) (gc (Q102.o K) g0)))) Tryz.func75 3 [(1,[.keep]),(3,[.keep]),(100001,Kc0)] [1,0,1,0] (Q112.s0 K) (Q112.pre K) λx a=>av [(1,⟨0,.one,[.bp 100001 0]⟩),(3,⟨0,.one,[.int .i64 a]⟩),(100001,⟨0,.agg,(w0 x.1)⟩)]
theorem Q113.o:So (Q113.c K):=fS T_S_ok (gc (Q98.o K) (gc (Q100.o K) (gc (Q101.o K) (gc (Q102.o K) (gc (Q104.o K) (gc (Q107.o K) (gc (Q108.o K) (gc (Q109.o K) (gc (Q110.o K) (gc (Q111.o K) (gc (Q112.o K) g0))))))))))) Tryz.func22
theorem Q114.o:So (Q114.c K):=fS T_NL_ok (g0) Tryz.func198
theorem Q115.o:So (Q115.c K):=fL T_NL_ok (gc (Q23.o K) (gc (Q60.o K) (gc (Q10.o K) (gc (Q114.o K) g0)))) Tryz.func130 2 [(0,[.keep]),(10,[.own false 86 t62]),(11,[.keep]),(12,[.keep]),(100000,Kc3)] [1,0] (Q115.s0 K) (Q115.pre K) λx a=>av [(0,⟨0,.one,[.bp 100000 0]⟩),(10,⟨0,.one,[.own false none 86 t62 a.1]⟩),(11,⟨0,.one,[.int .i64 a.2.1]⟩),(12,⟨0,.one,[.int .i64 a.2.2.1]⟩),(100000,⟨0,.agg,(wa1 a.2.2.2)⟩)]
theorem Q116.o:So (Q116.c K):=fL T_NL_ok (g0) Tryz.func146 4 [(1,[.keep]),(5,[.own false 3 I6]),(8,[.ro true 46 t2]),(9,[.keep]),(10,[.keep])] [1,1,0,1,0] (Q116.s0 K) (Q116.pre K) λx a=>av [(1,⟨0,.one,[.fn [t2] .bool x.2.1]⟩),(5,⟨0,.one,[.own false none 3 I6 a.1]⟩),(8,⟨0,.one,[.ro true 46 t2 x.1]⟩),(9,⟨0,.one,[.int .i64 (FJ x.1:Int)]⟩),(10,⟨0,.one,[.int .i64 a.2]⟩)]
theorem Q117.o:So (Q117.c K):=fS T_NL_ok (gc (Q23.o K) g0) Tryz.func220
theorem Q118.o:So (Q118.c K):=fS T_NL_ok (gc (Q13.o K) (gc (Q117.o K) g0)) Tryz.func148
theorem Q119.o:So (Q119.c K):=fS T_NL_ok (g0) Tryz.func199
theorem Q120.o:So (Q120.c K):=fS T_NL_ok (gc (Q7.o K) (gc (Q69.o K) g0)) Tryz.func200
theorem Q121.o:So (Q121.c K):=fL T_NL_ok (gc (Q23.o K) (gc (Q60.o K) (gc (Q116.o K) (gc (Q118.o K) (gc (Q65.o K) (gc (Q119.o K) (gc (Q120.o K) g0))))))) Tryz.func131 17 [(0,[.keep]),(1,[.keep]),(3,[.keep]),(7,[.own false 35 t59]),(88,[.own false 3 I6]),(89,[.keep]),(90,[.keep]),(100000,Kc3),(100001,[.keep]),(100003,Kc1)] [1,1,1,0,0,1,1,1,1,1,1,1,0,1,1,1,0,1,0] (Q121.s0 K) (Q121.pre K) λx a=>av [(0,⟨0,.one,[.bp 100000 0]⟩),(1,⟨0,.one,[.bp 100001 0]⟩),(3,⟨0,.one,[.bp 100003 0]⟩),(7,⟨0,.one,[.own false none 35 t59 a.1]⟩),(88,⟨0,.one,[.own false none 3 I6 a.2.1]⟩),(89,⟨0,.one,[.int .i64 a.2.2.1]⟩),(90,⟨0,.one,[.int .i64 a.2.2.2]⟩),(100000,⟨0,.agg,[.int .i64 x.1.1,.bool x.1.2.1,.bool x.1.2.2.1,.bool x.1.2.2.2.1,.int .i64 x.1.2.2.2.2.1,.int .i64 x.1.2.2.2.2.2.1,.int .i64 x.1.2.2.2.2.2.2.1,.int .i64 x.1.2.2.2.2.2.2.2.1,.own false none 46 t2 x.1.2.2.2.2.2.2.2.2.1,.own false none 133 t3 x.1.2.2.2.2.2.2.2.2.2.1,.int .i64 x.1.2.2.2.2.2.2.2.2.2.2.1.1,.int .i64 x.1.2.2.2.2.2.2.2.2.2.2.1.2.1,.int .i64 x.1.2.2.2.2.2.2.2.2.2.2.1.2.2.1,.bool true,.own false none 86 t50 x.1.2.2.2.2.2.2.2.2.2.2.2.1,.int .i64 x.1.2.2.2.2.2.2.2.2.2.2.2.2.1.1,.int .i64 x.1.2.2.2.2.2.2.2.2.2.2.2.2.1.2.1,.int .i64 x.1.2.2.2.2.2.2.2.2.2.2.2.2.1.2.2.1,.int .i64 x.1.2.2.2.2.2.2.2.2.2.2.2.2.1.2.2.2,.own false none 89 t52 x.1.2.2.2.2.2.2.2.2.2.2.2.2.2.1,.own true none 91 t12 x.1.2.2.2.2.2.2.2.2.2.2.2.2.2.2]⟩),(100001,⟨0,.agg,[.bp 100000 0]⟩),(100003,⟨0,.agg,(w1 x.1.2.2.2.2.2.2.2.2.2.2.1)⟩)]
theorem Q122.o:So (Q122.c K):=fM T_S_ok (g0) Tryz.func330 (Q122.eqn K)
theorem Q123.o:So (Q123.c K):=fM T_S_ok (gc (Q122.o K) g0) Tryz.func318 (Q123.eqn K)
theorem Q124.o:So (Q124.c K):=fS T_S_ok (gc (Q123.o K) g0) Tryz.func285
theorem Q125.o:So (Q125.c K):=fS T_NL_ok (g0) Tryz.func286
theorem Q126.o:So (Q126.c K):=fS T_NL_ok (g0) Tryz.func289
theorem Q11.says (K:Nat)(hK:1048577<K)(xs:List (Ty.den t3))(φ:Tup [t3]->Option Bool)(ht:xs.length<=1048576)(hφ:∀ x∈xs,∃ b,φ (x,())=some b):pf xs φ (Q30.f K (xs,φ,())):=by
 have:=cG (step:=λrec a=>Q30.s0 K (xs,φ,()) rec a) xs.length (λi=>(i:Int)) (λj=>∃ h:j<xs.length,φ (xs[j],())=some true) (some ((-1,()),())) (λj=>some ((((j:Nat):Int),()),())) ?_ ?_ xs.length K 0 (by omega) (by omega)
 ·rcases this with ⟨h1,h2⟩|⟨j,_,h1,⟨h3,h4⟩,h5,h2⟩
  ·refine .inl ⟨λx hx=>?_,(),h2⟩;obtain⟨i,hi,rfl⟩:=FQ hx;obtain⟨b,hb⟩:=hφ _ (FK hi);cases b with
   |false=>exact hb
   |true=>exact absurd ⟨hi,hb⟩ (h1 i (FP _) hi)
  ·refine .inr ⟨j,xs[j],(),FN h3,h4,λm y hm hy=>?_,h2⟩;obtain⟨hml,rfl⟩:=FL.1 hy;obtain⟨b,hb⟩:=hφ _ (FK hml);cases b with
   |false=>exact hb
   |true=>exact absurd ⟨hml,hb⟩ (h5 m (FP _) hm)
 ·intro rec i hi;simp only[Q30.s0];rw[decide_eq_true (by omega:(i:Int)<(FJ xs:Int)),af hi,ar i (by omega)];simp only[cond_true,FR];obtain⟨b,hb⟩:=hφ _ (FK hi);rw[hb];cases b with
  |true=>exact .inr ⟨⟨hi,hb⟩,rfl⟩
  |false=>exact .inl ⟨λ⟨_,h⟩=>(by rw[hb]at h;cases h),rfl⟩
 ·intro rec;simp only[Q30.s0];rw[decide_eq_false (by omega:¬ ((xs.length:Int)<(FJ xs:Int)))];rfl
theorem Q11.o:bI Tryz.prog (Q11.c K):=oR (e:=t3) (e':=t3) (cv:=λx=>x) (λ_=>HEq.rfl) (by kernel_rfl) (c7 Tryz.func288 (by kernel_rfl) rfl) (by kernel_rfl) (by kernel_rfl) (Q30.o 1048578) (λxs φ h1 h2=>Q11.says 1048578 (by omega) xs φ h1 h2) Q11.walk
theorem Q127.o:So (Q127.c K):=fM T_NL_ok (gc (Q34.o K) (gc (Q2.o K) (gc (Q120.o K) (gc (Q124.o K) (gc (Q125.o K) (gc (Q83.o K) (gc (Q11.o K) (gc (Q126.o K) g0)))))))) Tryz.func244 (Q127.eqn K)
theorem Q128.o:So (Q128.c K):=fS T_NL_ok (gc (Q23.o K) (gc (Q54.o K) (gc (Q127.o K) g0))) Tryz.func177
theorem Q129.o:So (Q129.c K):=fL T_NL_ok (gc (Q118.o K) (gc (Q65.o K) (gc (Q128.o K) g0))) Tryz.func132 5 [(0,[.keep]),(20,[.keep]),(100000,Kc3)] [1,1,0,1,0] (Q129.s0 K) (Q129.pre K) λx a=>av [(0,⟨0,.one,[.bp 100000 0]⟩),(20,⟨0,.one,[.int .i64 a]⟩),(100000,⟨0,.agg,(w2 x.1)⟩)]
theorem Q130.o:So (Q130.c K):=fL T_NL_ok (g0) Tryz.func169 3 [(1,[.keep]),(10,[.ro true 91 t12]),(11,[.keep]),(12,[.keep])] [1,0,1,0] (Q130.s0 K) (Q130.pre K) λx a=>av [(1,⟨0,.one,[.int .i64 x.2.1]⟩),(10,⟨0,.one,[.ro true 91 t12 x.1.2.2.2.2.2.2.2.2.2.2.2.2.2.2]⟩),(11,⟨0,.one,[.int .i64 (FJ x.1.2.2.2.2.2.2.2.2.2.2.2.2.2.2:Int)]⟩),(12,⟨0,.one,[.int .i64 a]⟩)]
theorem Q131.o:So (Q131.c K):=fL T_NL_ok (g0) Tryz.func306 3 [(0,[.ro true 3 I6]),(1,[.keep]),(7,[.keep]),(8,[.keep])] [1,0,1,0] (Q131.s0 K) (Q131.pre K) λx a=>av [(0,⟨0,.one,[.ro true 3 I6 x.1]⟩),(1,⟨0,.one,[.int .i64 x.2.1]⟩),(7,⟨0,.one,[.int .i64 (FJ x.1:Int)]⟩),(8,⟨0,.one,[.int .i64 a]⟩)]
theorem Q132.o:So (Q132.c K):=fS T_NL_ok (gc (Q131.o K) g0) Tryz.func267
theorem Q133.o:So (Q133.c K):=fS T_NL_ok (g0) Tryz.func307
theorem Q134.o:So (Q134.c K):=fS T_NL_ok (gc (Q17.o K) (gc (Q116.o K) (gc (Q120.o K) (gc (Q133.o K) g0)))) Tryz.func268
theorem Q135.o:So (Q135.c K):=fL T_NL_ok (gc (Q29.o K) (gc (Q26.o K) (gc (Q66.o K) (gc (Q130.o K) (gc (Q132.o K) (gc (Q134.o K) g0)))))) Tryz.func201 6 [(0,[.rp true]),(1,[.keep]),(5,[.own false 35 t59]),(22,[.keep]),(23,[.keep])] [1,1,1,0,1,0] (Q135.s0 K) (Q135.pre K) λx a=>av [(0,⟨0,.one,[.rp true t26 x.1 0]⟩),(1,⟨0,.one,[.int .i64 x.2.1]⟩),(5,⟨0,.one,[.own false none 35 t59 a.1]⟩),(22,⟨0,.one,[.int .i64 a.2.1]⟩),(23,⟨0,.one,[.int .i64 a.2.2]⟩)]
theorem Q136.o:So (Q136.c K):=fS T_NL_ok (g0) Tryz.func202
theorem Q137.o:So (Q137.c K):=fS T_NL_ok (gc (Q0.o K) (gc (Q66.o K) (gc (Q116.o K) (gc (Q65.o K) (gc (Q135.o K) (gc (Q136.o K) g0)))))) Tryz.func133
theorem Q138.o:So (Q138.c K):=fS T_NL_ok (gc (Q52.o K) (gc (Q115.o K) (gc (Q121.o K) (gc (Q129.o K) (gc (Q137.o K) g0))))) Tryz.func78
theorem Q139.o:So (Q139.c K):=fS T_NL_ok (gc (Q138.o K) g0) Tryz.func77
theorem Q140.o:So (Q140.c K):=fS T_NL_ok (gc (Q50.o K) (gc (Q139.o K) (gc (Q88.o K) (gc (Q89.o K) g0)))) Tryz.func45
theorem Q141.o:So (Q141.c K):=fS T_NL_ok (gc (Q140.o K) g0) Tryz.func25
theorem Q142.o:So (Q142.c K):=fS T_S_ok (g0) Tryz.func40
theorem Q143.o:So (Q143.c K):=fS T_S_ok (g0) Tryz.func42
theorem Q144.o:So (Q144.c K):=fM T_ND_ok (g0) Tryz.func49 (Q144.eqn K)
theorem Q145.o:So (Q145.c K):=fL T_S_ok (gc (Q103.o K) (gc (Q106.o K) g0)) Tryz.func221 10 [(0,[.own false 46 t2]),(3,[.keep]),(8,[.keep]),(100003,Kc1)] [1,1,1,1,0,0] (Q145.s0 K) (Q145.pre K) λx a=>av [(0,⟨0,.one,[.own false none 46 t2 x.1]⟩),(3,⟨0,.one,[.bp 100003 0]⟩),(8,⟨0,.one,[.int .i64 a]⟩),(100003,⟨0,.agg,(w1 x.2.1)⟩)]
theorem Q146.o:So (Q146.c K):=fS T_S_ok (g0) Tryz.func225
theorem Q147.o:So (Q147.c K):=fS T_S_ok (gc (Q143.o K) (gc (Q146.o K) g0)) Tryz.func231
theorem Q148.o:So (Q148.c K):=fL T_S_ok (gc (Q143.o K) (gc (Q145.o K) (gc (Q147.o K) g0))) Tryz.func156 4 [(0,[.keep]),(1,[.keep]),(5,[.own false 46 t2]),(6,[.keep]),(100000,[.ro true 5 (.int .u8),.keep])] [1,1,0,1,0] (Q148.s0 K) (Q148.pre K) λx a=>av [(0,⟨0,.one,[.bp 100000 0]⟩),(1,⟨0,.one,[.int .i64 x.2.1]⟩),(5,⟨0,.one,[.own false none 46 t2 a.1]⟩),(6,⟨0,.one,[.int .i64 a.2.1]⟩),(100000,⟨0,.agg,[.ro true 5 (.int .u8) a.2.2.1,.int .i64 a.2.2.2]⟩)]
theorem Q149.o:So (Q149.c K):=fS T_S_ok (gc (Q143.o K) (gc (Q147.o K) g0)) Tryz.func157
theorem Q150.o:So (Q150.c K):=fS T_S_ok (gc (Q143.o K) (gc (Q148.o K) (gc (Q149.o K) g0))) Tryz.func101
theorem Q151.o:So (Q151.c K):=fL T_S_ok (gc (Q143.o K) (gc (Q148.o K) g0)) Tryz.func158 5 [(0,[.keep]),(5,[.own false 133 t3]),(6,[.own false 46 t2]),(7,[.keep]),(100000,[.ro true 5 (.int .u8),.keep])] [1,1,1,0,1,0] (Q151.s0 K) (Q151.pre K) λx a=>av [(0,⟨0,.one,[.bp 100000 0]⟩),(5,⟨0,.one,[.own false none 133 t3 a.1]⟩),(6,⟨0,.one,[.own false none 46 t2 a.2.1]⟩),(7,⟨0,.one,[.int .i64 a.2.2.1]⟩),(100000,⟨0,.agg,[.ro true 5 (.int .u8) a.2.2.2.1,.int .i64 a.2.2.2.2]⟩)]
theorem Q152.o:So (Q152.c K):=fS T_S_ok (gc (Q143.o K) (gc (Q149.o K) (gc (Q151.o K) g0))) Tryz.func102
theorem Q153.o:So (Q153.c K):=fS T_S_ok (g0) Tryz.func232
theorem Q154.o:So (Q154.c K):=fS T_S_ok (gc (Q143.o K) (gc (Q153.o K) g0)) Tryz.func159
theorem Q155.o:So (Q155.c K):=fS T_S_ok (gc (Q143.o K) (gc (Q154.o K) g0)) Tryz.func103
theorem Q156.o:So (Q156.c K):=fS T_S_ok (gc (Q143.o K) (gc (Q144.o K) (gc (Q150.o K) (gc (Q152.o K) (gc (Q155.o K) g0))))) Tryz.func43
theorem Q157.o:So (Q157.c K):=fS T_S_ok (gc (Q98.o K) (gc (Q153.o K) g0)) Tryz.func224
theorem Q158.o:So (Q158.c K):=fL T_S_ok (gc (Q157.o K) (gc (Q146.o K) g0)) Tryz.func151 4 [(0,[.keep]),(1,[.keep]),(2,[.keep]),(100000,Kc1),(100001,[.own false 33 t26,.keep,.own false 3 I6,.own false 46 t2])] [1,1,0,1,0] (Q158.s0 K) (Q158.pre K) λx a=>av [(0,⟨0,.one,[.bp 100000 0]⟩),(1,⟨0,.one,[.bp 100001 0]⟩),(2,⟨0,.one,[.int .i64 a.1]⟩),(100000,⟨0,.agg,[.nil,.nil,.nil,.nil]⟩),(100001,⟨0,.agg,[.own false none 33 t26 a.2.1,.nil,.own false none 3 I6 a.2.2.1,.own false none 46 t2 a.2.2.2]⟩)]
theorem Q159.o:So (Q159.c K):=fS T_S_ok (gc (Q98.o K) (gc (Q100.o K) (gc (Q101.o K) (gc (Q110.o K) g0)))) Tryz.func59
theorem Q160.o:So (Q160.c K):=fS T_S_ok (gc (Q101.o K) (gc (Q102.o K) g0)) Tryz.func60
theorem Q161.o:So (Q161.c K):=fS T_S_ok (g0) Tryz.func98
theorem Q162.o:So (Q162.c K):=fL T_S_ok (gc (Q103.o K) (gc (Q106.o K) g0)) Tryz.func221 10 [(0,[.ro true 46 t2]),(3,[.keep]),(8,[.keep]),(100003,Kc1)] [1,1,1,1,0,0] (Q162.s0 K) (Q162.pre K) λx a=>av [(0,⟨0,.one,[.ro true 46 t2 x.1]⟩),(3,⟨0,.one,[.bp 100003 0]⟩),(8,⟨0,.one,[.int .i64 a]⟩),(100003,⟨0,.agg,(w1 x.2.1)⟩)]
theorem Q163.o:So (Q163.c K):=fL T_S_ok (gc (Q106.o K) g0) Tryz.func222 5 [(0,[.ro true 133 t3]),(3,[.keep]),(5,[.own false 133 t3]),(6,[.keep]),(7,[.keep]),(100003,Kc1)] [1,1,1,0,1,0] (Q163.s0 K) (Q163.pre K) λx a=>av [(0,⟨0,.one,[.ro true 133 t3 x.1]⟩),(3,⟨0,.one,[.bp 100003 0]⟩),(5,⟨0,.one,[.own false none 133 t3 a.1]⟩),(6,⟨0,.one,[.bool a.2.1]⟩),(7,⟨0,.one,[.int .i64 a.2.2]⟩),(100003,⟨0,.agg,(w1 x.2.1)⟩)]
theorem Q164.o:So (Q164.c K):=fL T_S_ok (g0) Tryz.func223 5 [(2,[.keep]),(3,[.keep]),(4,[.keep]),(7,[.own true 86 t6]),(8,[.keep]),(9,[.keep]),(100003,Kc0),(100004,Kc1)] [1,1,1,0,1,0] (Q164.s0 K) (Q164.pre K) λx a=>av [(2,⟨0,.one,[.int .i64 x.2.2.1]⟩),(3,⟨0,.one,[.bp 100003 0]⟩),(4,⟨0,.one,[.bp 100004 0]⟩),(7,⟨0,.one,[.own true none 86 t6 a.1]⟩),(8,⟨0,.one,[.bool a.2.1]⟩),(9,⟨0,.one,[.int .i64 a.2.2]⟩),(100003,⟨0,.agg,(w0 x.1)⟩),(100004,⟨0,.agg,(w1 x.2.1)⟩)]
theorem Q165.o:So (Q165.c K):=fS T_NS_ok (gc (Q103.o K) (gc (Q162.o K) (gc (Q163.o K) (gc (Q164.o K) g0)))) Tryz.func149
theorem Q166.o:So (Q166.c K):=fS T_NS_ok (gc (Q103.o K) (gc (Q106.o K) (gc (Q165.o K) g0))) Tryz.func188
theorem Q167.o:So (Q167.c K):=fM T_NS_ok (g0) Tryz.func189 (Q167.eqn K)
theorem Q168.o:So (Q168.c K):=fL T_NS_ok (gc (Q165.o K) (gc (Q166.o K) (gc (Q167.o K) g0))) Tryz.func116 3 [(1,[.ro true 46 t2]),(2,[.keep]),(3,[.keep]),(6,[.keep]),(7,[.keep]),(100003,Kc4),(100006,Kc2)] [1,0,1,0] (Q168.s0 K) (Q168.pre K) λx a=>av [(1,⟨0,.one,[.ro true 46 t2 x.2.1]⟩),(2,⟨0,.one,[.int .i64 x.2.2.1]⟩),(3,⟨0,.one,[.bp 100003 0]⟩),(6,⟨0,.one,[.bp 100006 0]⟩),(7,⟨0,.one,[.int .i64 a.1]⟩),(100003,⟨0,.agg,[.int .i64 a.2.1,.bool a.2.2.1,.bool a.2.2.2.1,.bool a.2.2.2.2.1,.int .i64 a.2.2.2.2.2.1,.int .i64 a.2.2.2.2.2.2.1,.int .i64 a.2.2.2.2.2.2.2.1,.int .i64 a.2.2.2.2.2.2.2.2.1,.ro true 46 t2 a.2.2.2.2.2.2.2.2.2.1,.ro true 133 t3 a.2.2.2.2.2.2.2.2.2.2.1,.int .i64 a.2.2.2.2.2.2.2.2.2.2.2.1,.int .i64 a.2.2.2.2.2.2.2.2.2.2.2.2.1,.int .i64 a.2.2.2.2.2.2.2.2.2.2.2.2.2.1,.bool a.2.2.2.2.2.2.2.2.2.2.2.2.2.2.1,.own true none 86 t6 a.2.2.2.2.2.2.2.2.2.2.2.2.2.2.2.1,.int .i64 a.2.2.2.2.2.2.2.2.2.2.2.2.2.2.2.2.1,.int .i64 a.2.2.2.2.2.2.2.2.2.2.2.2.2.2.2.2.2.1,.int .i64 a.2.2.2.2.2.2.2.2.2.2.2.2.2.2.2.2.2.2.1,.int .i64 a.2.2.2.2.2.2.2.2.2.2.2.2.2.2.2.2.2.2.2.1,.ro true 89 t11 a.2.2.2.2.2.2.2.2.2.2.2.2.2.2.2.2.2.2.2.2.1,.ro true 91 t12 a.2.2.2.2.2.2.2.2.2.2.2.2.2.2.2.2.2.2.2.2.2]⟩),(100006,⟨0,.agg,[.int .i64 0,.bool false,.bool false,.bool false,.int .i64 0,.int .i64 0,.int .i64 0,.int .i64 0,.nil,.nil,.int .i64 0,.int .i64 0,.int .i64 0,.bool false,.nil,.int .i64 0,.int .i64 0,.int .i64 0,.int .i64 0,.nil,.nil]⟩)]
theorem Q169.o:So (Q169.c K):=fL T_S_ok (gc (Q100.o K) (gc (Q145.o K) g0)) Tryz.func250 6 [(1,[.ro true 46 t2]),(5,[.own false 46 t2]),(6,[.keep])] [1,1,1,0,1,0] (Q169.s0 K) (Q169.pre K) λx a=>av [(1,⟨0,.one,[.ro true 46 t2 x.2.1]⟩),(5,⟨0,.one,[.own false none 46 t2 a.1]⟩),(6,⟨0,.one,[.int .i64 a.2]⟩)]
theorem Q170.o:So (Q170.c K):=fL T_S_ok (gc (Q169.o K) g0) Tryz.func183 3 [(1,[.keep]),(2,[.ro true 46 t2]),(3,[.keep]),(7,[.keep]),(100003,Kc0)] [1,0,1,0] (Q170.s0 K) (Q170.pre K) λx a=>av [(1,⟨0,.one,[.int .i64 x.2.1]⟩),(2,⟨0,.one,[.ro true 46 t2 x.2.2.1]⟩),(3,⟨0,.one,[.bp 100003 0]⟩),(7,⟨0,.one,[.int .i64 a]⟩),(100003,⟨0,.agg,(w0 x.1)⟩)]
theorem Q171.o:So (Q171.c K):=fL T_NS_ok (g0) Tryz.func184 6 [(1,[.keep]),(3,[.keep]),(6,[.keep]),(7,[.keep]),(8,[.own true 91 t12]),(9,[.keep]),(10,[.keep]),(100003,Kc4),(100006,Kc2),(100007,[.keep,.ro true 46 t2])] [1,1,1,1,0,1,0] (Q171.s0 K) (Q171.pre K) λx a=>av [(1,⟨0,.one,[.int .i64 x.2.1]⟩),(3,⟨0,.one,[.bp 100003 0]⟩),(6,⟨0,.one,[.bp 100006 0]⟩),(7,⟨0,.one,[.bp 100007 0]⟩),(8,⟨0,.one,[.own true none 91 t12 a.1]⟩),(9,⟨0,.one,[.bool a.2.1]⟩),(10,⟨0,.one,[.int .i64 a.2.2]⟩),(100003,⟨0,.agg,(w3 x.1)⟩),(100006,⟨0,.agg,[.int .i64 0,.bool false,.bool false,.bool false,.int .i64 0,.int .i64 0,.int .i64 0,.int .i64 0,.nil,.nil,.int .i64 0,.int .i64 0,.int .i64 0,.bool false,.nil,.int .i64 0,.int .i64 0,.int .i64 0,.int .i64 0,.nil,.nil]⟩),(100007,⟨0,.agg,[.int .i64 x.2.1,.ro true 46 t2 x.2.2.1]⟩)]
theorem Q172.o:So (Q172.c K):=fL T_S_ok (g0) Tryz.func185 5 [(0,[.ro true 46 t2]),(1,[.ro true 46 t2]),(5,[.keep])] [1,1,0,1,0] (Q172.s0 K) (Q172.pre K) λx a=>av [(0,⟨0,.one,[.ro true 46 t2 x.1]⟩),(1,⟨0,.one,[.ro true 46 t2 x.2.1]⟩),(5,⟨0,.one,[.int .i64 a]⟩)]
theorem Q173.o:So (Q173.c K):=fS T_NS_ok (gc (Q101.o K) (gc (Q102.o K) (gc (Q161.o K) (gc (Q168.o K) (gc (Q170.o K) (gc (Q171.o K) (gc (Q172.o K) g0))))))) Tryz.func114
theorem Q174.o:So (Q174.c K):=fL T_S_ok (g0) Tryz.func293 4 [(0,[.ro true 133 t3]),(1,[.ro true 4 .bool]),(5,[.keep]),(6,[.keep])] [1,1,0,1,0] (Q174.s0 K) (Q174.pre K) λx a=>av [(0,⟨0,.one,[.ro true 133 t3 x.1]⟩),(1,⟨0,.one,[.ro true 4 .bool x.2.1]⟩),(5,⟨0,.one,[.int .i64 a.1]⟩),(6,⟨0,.one,[.int .i64 a.2]⟩)]
theorem Q175.o:So (Q175.c K):=fM T_S_ok (gc (Q174.o K) g0) Tryz.func251 (Q175.eqn K)
theorem Q176.o:So (Q176.c K):=fS T_NS_ok (gc (Q103.o K) (gc (Q145.o K) (gc (Q175.o K) g0))) Tryz.func186
theorem Q177.o:So (Q177.c K):=fS T_S_ok (g0) Tryz.func252
theorem Q178.o:So (Q178.c K):=fS T_S_ok (g0) Tryz.func294
theorem Q179.o:So (Q179.c K):=fL T_S_ok (gc (Q178.o K) g0) Tryz.func253 6 [(0,[.ro true 89 t11]),(1,[.keep]),(3,[.keep]),(9,[.own true 89 t11]),(10,[.keep]),(11,[.keep]),(12,[.keep]),(100010,Kc6)] [1,1,1,1,0,1,0] (Q179.s0 K) (Q179.pre K) λx a=>av [(0,⟨0,.one,[.ro true 89 t11 x.1]⟩),(1,⟨0,.one,[.int .i64 x.2.1]⟩),(3,⟨0,.one,[.int .i64 x.2.2.2.1]⟩),(9,⟨0,.one,[.own true none 89 t11 a.1]⟩),(10,⟨0,.one,[.bp 100010 0]⟩),(11,⟨0,.one,[.bool a.2.1]⟩),(12,⟨0,.one,[.int .i64 a.2.2.1]⟩),(100010,⟨0,.agg,[.int .i64 x.2.1,.int .i64 x.2.2.1.1,.int .i64 x.2.2.1.2.1,.int .i64 x.2.2.1.2.2.1,.int .i64 x.2.2.1.2.2.2,.ro true 3 I6 a.2.2.2]⟩)]
theorem Q180.o:So (Q180.c K):=fS T_S_ok (gc (Q177.o K) g0) Tryz.func322
theorem Q181.o:So (Q181.c K):=fL T_S_ok (g0) Tryz.func323 4 [(0,[.keep]),(3,[.keep]),(4,[.keep])] [1,1,1,0,0] (Q181.s0 K) (Q181.pre K) λx a=>av [(0,⟨0,.one,[.int .i64 x.1]⟩),(3,⟨0,.one,[.int .i64 a.1]⟩),(4,⟨0,.one,[.int .i64 a.2]⟩)]
theorem Q182.o:So (Q182.c K):=fS T_S_ok (gc (Q180.o K) (gc (Q181.o K) g0)) Tryz.func297
theorem Q183.o:So (Q183.c K):=fS T_S_ok (gc (Q110.o K) (gc (Q182.o K) g0)) Tryz.func295
theorem Q184.o:So (Q184.c K):=fS T_S_ok (g0) Tryz.func296
theorem Q185.o:So (Q185.c K):=fS T_S_ok (g0) Tryz.func298
theorem Q186.o:So (Q186.c K):=fS T_S_ok (g0) Tryz.func324
theorem Q187.o:So (Q187.c K):=fS T_S_ok (gc (Q177.o K) (gc (Q186.o K) g0)) Tryz.func299
theorem Q188.o:So (Q188.c K):=fS T_S_ok (gc (Q98.o K) (gc (Q110.o K) (gc (Q177.o K) (gc (Q183.o K) (gc (Q184.o K) (gc (Q182.o K) (gc (Q185.o K) (gc (Q187.o K) g0)))))))) Tryz.func254
theorem Q189.o:So (Q189.c K):=fM T_S_ok (g0) Tryz.func255 (Q189.eqn K)
theorem Q190.o:So (Q190.c K):=fL T_NS_ok (gc (Q177.o K) (gc (Q179.o K) (gc (Q188.o K) (gc (Q189.o K) g0)))) Tryz.func187 7 [(2,[.keep]),(3,[.keep]),(4,[.keep]),(6,[.keep]),(100002,[.keep,.keep,.keep,.keep,.keep,.keep,.keep,.keep,.ro true 46 t2,.ro true 133 t3,.keep,.keep,.keep,.keep,.own true 86 t6,.keep,.keep,.keep,.keep,.own true 89 t11,.ro true 91 t12]),(100003,[.keep,.keep,.keep,.keep,.keep,.keep,.keep,.keep,.keep,.keep,.ro true 46 t2]),(100004,Kc2)] [1,1,1,1,0,1,0] (Q190.s0 K) (Q190.pre K) λx a=>av [(2,⟨0,.one,[.bp 100002 0]⟩),(3,⟨0,.one,[.bp 100003 0]⟩),(4,⟨0,.one,[.bp 100004 0]⟩),(6,⟨0,.one,[.int .i64 a.1]⟩),(100002,⟨0,.agg,[.int .i64 x.1.1,.bool x.1.2.1,.bool x.1.2.2.1,.bool x.1.2.2.2.1,.int .i64 x.1.2.2.2.2.1,.int .i64 x.1.2.2.2.2.2.1,.int .i64 x.1.2.2.2.2.2.2.1,.int .i64 x.1.2.2.2.2.2.2.2.1,.ro true 46 t2 x.1.2.2.2.2.2.2.2.2.1,.ro true 133 t3 x.1.2.2.2.2.2.2.2.2.2.1,.int .i64 x.1.2.2.2.2.2.2.2.2.2.2.1.1,.int .i64 x.1.2.2.2.2.2.2.2.2.2.2.1.2.1,.int .i64 x.1.2.2.2.2.2.2.2.2.2.2.1.2.2.1,.bool x.1.2.2.2.2.2.2.2.2.2.2.1.2.2.2,.own true none 86 t6 x.1.2.2.2.2.2.2.2.2.2.2.2.1,.int .i64 a.2.1,.int .i64 a.2.2.1,.int .i64 a.2.2.2.1,.int .i64 a.2.2.2.2.1,.own true none 89 t11 a.2.2.2.2.2,.ro true 91 t12 x.1.2.2.2.2.2.2.2.2.2.2.2.2.2.2]⟩),(100003,⟨0,.agg,(w4 x.2.1)⟩),(100004,⟨0,.agg,[.int .i64 0,.bool false,.bool false,.bool false,.int .i64 0,.int .i64 0,.int .i64 0,.int .i64 0,.nil,.nil,.int .i64 0,.int .i64 0,.int .i64 0,.bool false,.nil,.int .i64 0,.int .i64 0,.int .i64 0,.int .i64 0,.nil,.nil]⟩)]
theorem Q191.o:So (Q191.c K):=fS T_NS_ok (gc (Q102.o K) (gc (Q161.o K) (gc (Q176.o K) (gc (Q190.o K) g0)))) Tryz.func115
theorem Q192.o:So (Q192.c K):=fS T_NS_ok (gc (Q159.o K) (gc (Q160.o K) (gc (Q173.o K) (gc (Q191.o K) (gc (Q168.o K) g0))))) Tryz.func48
theorem Q193.o:So (Q193.c K):=fL T_S_ok (g0) Tryz.func160 5 [(0,[.keep]),(1,[.keep]),(5,[.own false 9 .str]),(6,[.keep]),(7,[.keep])] [1,1,1,0,1,0] (Q193.s0 K) (Q193.pre K) λx a=>av [(0,⟨0,.one,[.str x.1]⟩),(1,⟨0,.one,[.int .u8 x.2.1]⟩),(5,⟨0,.one,[.own false none 9 .str a.1]⟩),(6,⟨0,.one,[.int .i64 a.2.1]⟩),(7,⟨0,.one,[.int .i64 a.2.2]⟩)]
theorem Q194.o:So (Q194.c K):=fS T_S_ok (g0) Tryz.func161
theorem Q195.o:So (Q195.c K):=fL T_S_ok (gc (Q98.o K) g0) Tryz.func162 6 [(0,[.keep]),(3,[.keep]),(4,[.keep])] [1,1,1,0,1,0] (Q195.s0 K) (Q195.pre K) λx a=>av [(0,⟨0,.one,[.str x.1]⟩),(3,⟨0,.one,[.int .i64 a.1]⟩),(4,⟨0,.one,[.int .i64 a.2]⟩)]
theorem Q196.o:So (Q196.c K):=fS T_S_ok (gc (Q195.o K) g0) Tryz.func163
theorem Q197.o:So (Q197.c K):=fS T_S_ok (g0) Tryz.func315
theorem Q198.o:So (Q198.c K):=fL T_S_ok (gc (Q99.o K) (gc (Q193.o K) (gc (Q195.o K) (gc (Q197.o K) g0)))) Tryz.func278 13 [(2,[.keep]),(4,[.keep]),(6,[.own false 9 .str]),(7,[.keep]),(100002,Kc1),(100004,Kc1)] [1,1,1,1,1,1,1,1,0,1,0] (Q198.s0 K) (Q198.pre K) λx a=>av [(2,⟨0,.one,[.bp 100002 0]⟩),(4,⟨0,.one,[.bp 100004 0]⟩),(6,⟨0,.one,[.own false none 9 .str a.1]⟩),(7,⟨0,.one,[.int .i64 a.2.1]⟩),(100002,⟨0,.agg,[.int .i64 0,.int .i64 0,.int .i64 0,.bool false]⟩),(100004,⟨0,.agg,(wa3 a.2.2)⟩)]
theorem Q199.o:So (Q199.c K):=fL T_S_ok (gc (Q193.o K) (gc (Q198.o K) g0)) Tryz.func233 7 [(4,[.own false 46 t2]),(5,[.own false 9 .str]),(6,[.keep])] [1,1,1,1,0,1,0] (Q199.s0 K) (Q199.pre K) λx a=>av [(4,⟨0,.one,[.own false none 46 t2 a.1]⟩),(5,⟨0,.one,[.own false none 9 .str a.2.1]⟩),(6,⟨0,.one,[.int .i64 a.2.2]⟩)]
theorem Q200.o:So (Q200.c K):=fL T_S_ok (gc (Q12.o K) (gc (Q197.o K) g0)) Tryz.func279 4 [(0,[.ro true 46 t2]),(3,[.keep]),(4,[.keep])] [1,1,0,1,0] (Q200.s0 K) (Q200.pre K) λx a=>av [(0,⟨0,.one,[.ro true 46 t2 x.1]⟩),(3,⟨0,.one,[.str a.1]⟩),(4,⟨0,.one,[.int .i64 a.2]⟩)]
theorem Q201.o:So (Q201.c K):=fS T_S_ok (gc (Q100.o K) (gc (Q200.o K) g0)) Tryz.func234
theorem Q202.o:So (Q202.c K):=fS T_S_ok (gc (Q199.o K) (gc (Q201.o K) g0)) Tryz.func164
theorem Q203.o:So (Q203.c K):=fS T_S_ok (gc (Q12.o K) g0) Tryz.func281
theorem Q204.o:So (Q204.c K):=fS T_S_ok (gc (Q194.o K) (gc (Q201.o K) (gc (Q12.o K) (gc (Q203.o K) g0)))) Tryz.func235
theorem Q205.o:So (Q205.c K):=fL T_S_ok (g0) Tryz.func236 4 [(0,[.keep]),(3,[.own false 5 (.int .u8)]),(4,[.keep])] [1,1,0,1,0] (Q205.s0 K) (Q205.pre K) λx a=>av [(0,⟨0,.one,[.int .i64 x.1]⟩),(3,⟨0,.one,[.own false none 5 (.int .u8) a.1]⟩),(4,⟨0,.one,[.int .i64 a.2]⟩)]
theorem Q206.o:So (Q206.c K):=fL T_S_ok (g0) Tryz.func282 4 [(3,[.keep]),(4,[.keep])] [1,1,0,1,0] (Q206.s0 K) (Q206.pre K) λx a=>av [(3,⟨0,.one,[.int .i64 a.1]⟩),(4,⟨0,.one,[.int .i64 a.2]⟩)]
theorem Q207.o:So (Q207.c K):=fL T_S_ok (gc (Q206.o K) g0) Tryz.func237 4 [(0,[.keep]),(3,[.keep]),(4,[.keep])] [1,1,0,1,0] (Q207.s0 K) (Q207.pre K) λx a=>av [(0,⟨0,.one,[.str x.1]⟩),(3,⟨0,.one,[.int .i64 a.1]⟩),(4,⟨0,.one,[.int .i64 a.2]⟩)]
theorem Q208.o:So (Q208.c K):=fS T_S_ok (gc (Q159.o K) (gc (Q204.o K) (gc (Q205.o K) (gc (Q207.o K) g0)))) Tryz.func165
theorem Q209.o:So (Q209.c K):=fL T_S_ok (gc (Q193.o K) (gc (Q194.o K) (gc (Q195.o K) (gc (Q196.o K) (gc (Q202.o K) (gc (Q208.o K) g0)))))) Tryz.func104 9 [(0,[.keep]),(2,[.keep]),(4,[.own false 9 .str]),(5,[.keep]),(6,[.keep]),(100002,Kc7),(100005,Kc7)] [1,1,1,1,1,0,1,0] (Q209.s0 K) (Q209.pre K) λx a=>av [(0,⟨0,.one,[.str x.1]⟩),(2,⟨0,.one,[.bp 100002 0]⟩),(4,⟨0,.one,[.own false none 9 .str a.1]⟩),(5,⟨0,.one,[.bp 100005 0]⟩),(6,⟨0,.one,[.int .i64 a.2.1]⟩),(100002,⟨0,.agg,[.int .i64 0,.int .i64 0,.int .i64 0,.int .i64 0,.int .i64 0,.int .i64 0,.int .i64 0,.int .i64 0,.int .i64 0,.int .i64 0,.nil]⟩),(100005,⟨0,.agg,[.int .i64 a.2.2.1,.int .i64 a.2.2.2,.int .i64 0,.int .i64 0,.int .i64 0,.int .i64 0,.int .i64 0,.int .i64 0,.int .i64 0,.int .i64 0,.nil]⟩)]
theorem Q210.o:So (Q210.c K):=fS T_S_ok (g0) Tryz.func229
theorem Q211.o:So (Q211.c K):=fL T_S_ok (gc (Q208.o K) g0) Tryz.func312 3 [(1,[.keep]),(2,[.ro true 35 t47]),(3,[.keep]),(6,[.keep]),(7,[.keep]),(100003,[.ro true 33 t26,.ro true 121 t40,.ro true 3 I6,.ro true 46 t2]),(100006,Kc1)] [1,0,1,0] (Q211.s0 K) (Q211.pre K) λx a=>av [(1,⟨0,.one,[.int .i64 x.2.1]⟩),(2,⟨0,.one,[.ro true 35 t47 x.2.2.1]⟩),(3,⟨0,.one,[.bp 100003 0]⟩),(6,⟨0,.one,[.bp 100006 0]⟩),(7,⟨0,.one,[.int .i64 a.1]⟩),(100003,⟨0,.agg,[.ro true 33 t26 x.1.1,.ro true 121 t40 a.2,.ro true 3 I6 x.1.2.2.1,.ro true 46 t2 x.1.2.2.2]⟩),(100006,⟨0,.agg,[.nil,.nil,.nil,.nil]⟩)]
theorem Q212.o:So (Q212.c K):=fS T_S_ok (gc (Q106.o K) g0) Tryz.func329
theorem Q213.o:So (Q213.c K):=fL T_S_ok (gc (Q212.o K) g0) Tryz.func314 3 [(0,[.ro true 46 t2]),(3,[.keep]),(5,[.keep]),(100003,Kc1)] [1,1,0,0] (Q213.s0 K) (Q213.pre K) λx a=>av [(0,⟨0,.one,[.ro true 46 t2 x.1]⟩),(3,⟨0,.one,[.bp 100003 0]⟩),(5,⟨0,.one,[.int .i64 a]⟩),(100003,⟨0,.agg,(w1 x.2.1)⟩)]
theorem Q214.o:So (Q214.c K):=fL T_S_ok (g0) Tryz.func328 3 [(0,[.ro true 46 t2]),(3,[.keep]),(5,[.keep]),(100003,Kc1)] [1,0,1,0] (Q214.s0 K) (Q214.pre K) λx a=>av [(0,⟨0,.one,[.ro true 46 t2 x.1]⟩),(3,⟨0,.one,[.bp 100003 0]⟩),(5,⟨0,.one,[.int .i64 a]⟩),(100003,⟨0,.agg,(w1 x.2.1)⟩)]
theorem Q215.o:So (Q215.c K):=fL T_S_ok (gc (Q213.o K) (gc (Q214.o K) g0)) Tryz.func313 3 [(1,[.ro true 46 t2]),(2,[.ro true 46 t2]),(3,[.ro true 46 t2]),(4,[.keep]),(8,[.keep]),(9,[.keep]),(100004,[.ro true 33 t26,.ro true 121 t40,.ro true 3 I6,.ro true 46 t2]),(100008,Kc1)] [1,0,1,0] (Q215.s0 K) (Q215.pre K) λx a=>av [(1,⟨0,.one,[.ro true 46 t2 x.2.1]⟩),(2,⟨0,.one,[.ro true 46 t2 x.2.2.1]⟩),(3,⟨0,.one,[.ro true 46 t2 x.2.2.2.1]⟩),(4,⟨0,.one,[.bp 100004 0]⟩),(8,⟨0,.one,[.bp 100008 0]⟩),(9,⟨0,.one,[.int .i64 a.1]⟩),(100004,⟨0,.agg,[.ro true 33 t26 x.1.1,.ro true 121 t40 x.1.2.1,.ro true 3 I6 x.1.2.2.1,.ro true 46 t2 a.2]⟩),(100008,⟨0,.agg,[.nil,.nil,.nil,.nil]⟩)]
theorem Q216.o:So (Q216.c K):=fS T_NS_ok (gc (Q211.o K) (gc (Q215.o K) g0)) Tryz.func275
theorem Q217.o:So (Q217.c K):=fS T_NS_ok (gc (Q192.o K) (gc (Q209.o K) (gc (Q210.o K) (gc (Q216.o K) g0)))) Tryz.func227
theorem Q218.o:So (Q218.c K):=fS T_NS_ok (g0) Tryz.func228
theorem Q219.o:So (Q219.c K):=fS T_S_ok (gc (Q103.o K) (gc (Q162.o K) (gc (Q163.o K) (gc (Q164.o K) g0)))) Tryz.func149
theorem Q220.o:So (Q220.c K):=fS T_S_ok (g0) Tryz.func207
theorem Q221.o:So (Q221.c K):=fL T_S_ok (gc (Q103.o K) (gc (Q219.o K) (gc (Q220.o K) g0))) Tryz.func140 4 [(1,[.keep]),(2,[.keep]),(3,[.ro true 86 t6]),(4,[.keep]),(100001,Kc0),(100002,Kc2)] [1,1,0,1,0] (Q221.s0 K) (Q221.pre K) λx a=>av [(1,⟨0,.one,[.bp 100001 0]⟩),(2,⟨0,.one,[.bp 100002 0]⟩),(3,⟨0,.one,[.ro true 86 t6 x.1.2.2.2.2.2.2.2.2.2.2.2.1]⟩),(4,⟨0,.one,[.int .i64 a.1]⟩),(100001,⟨0,.agg,[.int .i64 a.2.1,.bool a.2.2.1,.bool a.2.2.2.1,.bool a.2.2.2.2.1,.int .i64 a.2.2.2.2.2.1,.int .i64 a.2.2.2.2.2.2.1,.int .i64 a.2.2.2.2.2.2.2.1,.int .i64 a.2.2.2.2.2.2.2.2.1,.ro true 46 t2 a.2.2.2.2.2.2.2.2.2.1,.ro true 133 t3 a.2.2.2.2.2.2.2.2.2.2.1,.int .i64 a.2.2.2.2.2.2.2.2.2.2.2.1,.int .i64 a.2.2.2.2.2.2.2.2.2.2.2.2.1,.int .i64 a.2.2.2.2.2.2.2.2.2.2.2.2.2.1,.bool a.2.2.2.2.2.2.2.2.2.2.2.2.2.2.1,.ro true 86 t6 a.2.2.2.2.2.2.2.2.2.2.2.2.2.2.2.1,.int .i64 a.2.2.2.2.2.2.2.2.2.2.2.2.2.2.2.2.1,.int .i64 a.2.2.2.2.2.2.2.2.2.2.2.2.2.2.2.2.2.1,.int .i64 a.2.2.2.2.2.2.2.2.2.2.2.2.2.2.2.2.2.2.1,.int .i64 a.2.2.2.2.2.2.2.2.2.2.2.2.2.2.2.2.2.2.2.1,.ro true 89 t11 a.2.2.2.2.2.2.2.2.2.2.2.2.2.2.2.2.2.2.2.2.1,.ro true 91 t12 a.2.2.2.2.2.2.2.2.2.2.2.2.2.2.2.2.2.2.2.2.2]⟩),(100002,⟨0,.agg,[.int .i64 0,.bool false,.bool false,.bool false,.int .i64 0,.int .i64 0,.int .i64 0,.int .i64 0,.nil,.nil,.int .i64 0,.int .i64 0,.int .i64 0,.bool false,.nil,.int .i64 0,.int .i64 0,.int .i64 0,.int .i64 0,.nil,.nil]⟩)]
theorem Q222.o:So (Q222.c K):=fS T_S_ok (gc (Q103.o K) g0) Tryz.func150
theorem Q223.o:So (Q223.c K):=fL T_S_ok (g0) Tryz.func208 4 [(1,[.keep]),(3,[.own false 3 I6]),(4,[.keep]),(100001,Kc0)] [1,1,0,1,0] (Q223.s0 K) (Q223.pre K) λx a=>av [(1,⟨0,.one,[.bp 100001 0]⟩),(3,⟨0,.one,[.own false none 3 I6 a.1]⟩),(4,⟨0,.one,[.int .i64 a.2]⟩),(100001,⟨0,.agg,(w0 x.1)⟩)]
theorem Q224.o:So (Q224.c K):=fL T_S_ok (gc (Q161.o K) (gc (Q103.o K) (gc (Q219.o K) (gc (Q222.o K) (gc (Q223.o K) g0))))) Tryz.func141 17 [(1,[.keep]),(2,[.keep]),(4,[.own false 35 t47]),(5,[.keep]),(8,[.own false 3 I6]),(9,[.keep]),(100001,Kc0),(100002,Kc2),(100005,Kc1)] [1,1,1,1,0,0,1,1,1,1,1,0,1,1,1,0] (Q224.s0 K) (Q224.pre K) λx a=>av [(1,⟨0,.one,[.bp 100001 0]⟩),(2,⟨0,.one,[.bp 100002 0]⟩),(4,⟨0,.one,[.own false none 35 t47 a.1]⟩),(5,⟨0,.one,[.bp 100005 0]⟩),(8,⟨0,.one,[.own false none 3 I6 a.2.1]⟩),(9,⟨0,.one,[.int .i64 a.2.2]⟩),(100001,⟨0,.agg,[.int .i64 x.1.1,.bool x.1.2.1,.bool x.1.2.2.1,.bool x.1.2.2.2.1,.int .i64 x.1.2.2.2.2.1,.int .i64 x.1.2.2.2.2.2.1,.int .i64 x.1.2.2.2.2.2.2.1,.int .i64 x.1.2.2.2.2.2.2.2.1,.ro true 46 t2 x.1.2.2.2.2.2.2.2.2.1,.ro true 133 t3 x.1.2.2.2.2.2.2.2.2.2.1,.int .i64 x.1.2.2.2.2.2.2.2.2.2.2.1.1,.int .i64 x.1.2.2.2.2.2.2.2.2.2.2.1.2.1,.int .i64 x.1.2.2.2.2.2.2.2.2.2.2.1.2.2.1,.bool true,.ro true 86 t6 x.1.2.2.2.2.2.2.2.2.2.2.2.1,.int .i64 x.1.2.2.2.2.2.2.2.2.2.2.2.2.1.1,.int .i64 x.1.2.2.2.2.2.2.2.2.2.2.2.2.1.2.1,.int .i64 x.1.2.2.2.2.2.2.2.2.2.2.2.2.1.2.2.1,.int .i64 x.1.2.2.2.2.2.2.2.2.2.2.2.2.1.2.2.2,.ro true 89 t11 x.1.2.2.2.2.2.2.2.2.2.2.2.2.2.1,.ro true 91 t12 x.1.2.2.2.2.2.2.2.2.2.2.2.2.2.2]⟩),(100002,⟨0,.agg,[.int .i64 0,.bool false,.bool false,.bool false,.int .i64 0,.int .i64 0,.int .i64 0,.int .i64 0,.nil,.nil,.int .i64 0,.int .i64 0,.int .i64 0,.bool false,.nil,.int .i64 0,.int .i64 0,.int .i64 0,.int .i64 0,.nil,.nil]⟩),(100005,⟨0,.agg,(w1 x.1.2.2.2.2.2.2.2.2.2.2.1)⟩)]
theorem Q225.o:So (Q225.c K):=fS T_S_ok (gc (Q103.o K) (gc (Q145.o K) (gc (Q175.o K) g0))) Tryz.func186
theorem Q226.o:So (Q226.c K):=fL T_S_ok (gc (Q222.o K) g0) Tryz.func209 3 [(1,[.keep]),(3,[.keep]),(100001,Kc0)] [1,0,1,0] (Q226.s0 K) (Q226.pre K) λx a=>av [(1,⟨0,.one,[.bp 100001 0]⟩),(3,⟨0,.one,[.int .i64 a]⟩),(100001,⟨0,.agg,(w0 x.1)⟩)]
theorem Q227.o:So (Q227.c K):=fS T_S_ok (gc (Q161.o K) (gc (Q225.o K) (gc (Q226.o K) g0))) Tryz.func142
theorem Q228.o:So (Q228.c K):=fL T_S_ok (g0) Tryz.func210 4 [(1,[.keep]),(2,[.keep]),(5,[.own false 3 I6]),(6,[.keep]),(100002,Kc0)] [1,1,0,1,0] (Q228.s0 K) (Q228.pre K) λx a=>av [(1,⟨0,.one,[.int .i64 x.2.1]⟩),(2,⟨0,.one,[.bp 100002 0]⟩),(5,⟨0,.one,[.own false none 3 I6 a.1]⟩),(6,⟨0,.one,[.int .i64 a.2]⟩),(100002,⟨0,.agg,(w0 x.1)⟩)]
theorem Q229.o:So (Q229.c K):=fL T_S_ok (g0) Tryz.func308 4 [(0,[.ro true 46 t2]),(1,[.keep]),(5,[.own false 3 I6]),(6,[.keep])] [1,1,0,1,0] (Q229.s0 K) (Q229.pre K) λx a=>av [(0,⟨0,.one,[.ro true 46 t2 x.1]⟩),(1,⟨0,.one,[.int .i64 x.2.1]⟩),(5,⟨0,.one,[.own false none 3 I6 a.1]⟩),(6,⟨0,.one,[.int .i64 a.2]⟩)]
theorem Q230.o:So (Q230.c K):=fL T_S_ok (gc (Q229.o K) g0) Tryz.func269 4 [(1,[.keep]),(3,[.own false 3 I6]),(4,[.keep]),(100001,Kc0)] [1,1,0,1,0] (Q230.s0 K) (Q230.pre K) λx a=>av [(1,⟨0,.one,[.bp 100001 0]⟩),(3,⟨0,.one,[.own false none 3 I6 a.1]⟩),(4,⟨0,.one,[.int .i64 a.2]⟩),(100001,⟨0,.agg,(w0 x.1)⟩)]
theorem Q231.o:So (Q231.c K):=fL T_S_ok (gc (Q229.o K) g0) Tryz.func270 3 [(1,[.keep]),(2,[.keep]),(3,[.keep]),(7,[.keep]),(100003,Kc0)] [1,0,1,0] (Q231.s0 K) (Q231.pre K) λx a=>av [(1,⟨0,.one,[.int .i64 x.2.1]⟩),(2,⟨0,.one,[.int .i64 x.2.2.1]⟩),(3,⟨0,.one,[.bp 100003 0]⟩),(7,⟨0,.one,[.int .i64 a]⟩),(100003,⟨0,.agg,(w0 x.1)⟩)]
theorem Q232.o:So (Q232.c K):=fL T_S_ok (gc (Q102.o K) (gc (Q161.o K) (gc (Q230.o K) (gc (Q231.o K) g0)))) Tryz.func211 6 [(1,[.keep]),(2,[.keep]),(5,[.own false 35 t47]),(6,[.keep]),(100002,Kc0)] [1,1,1,0,1,0] (Q232.s0 K) (Q232.pre K) λx a=>av [(1,⟨0,.one,[.int .i64 x.2.1]⟩),(2,⟨0,.one,[.bp 100002 0]⟩),(5,⟨0,.one,[.own false none 35 t47 a.1]⟩),(6,⟨0,.one,[.int .i64 a.2]⟩),(100002,⟨0,.agg,(w0 x.1)⟩)]
theorem Q233.o:So (Q233.c K):=fS T_S_ok (gc (Q161.o K) (gc (Q228.o K) (gc (Q232.o K) g0))) Tryz.func143
theorem Q234.o:So (Q234.c K):=fS T_S_ok (gc (Q221.o K) (gc (Q224.o K) (gc (Q227.o K) (gc (Q233.o K) g0)))) Tryz.func89
theorem Q235.o:So (Q235.c K):=fL T_S_ok (gc (Q161.o K) (gc (Q219.o K) (gc (Q222.o K) g0))) Tryz.func95 8 [(1,[.keep]),(2,[.keep]),(4,[.own false 35 t47]),(5,[.keep]),(100001,Kc0),(100002,Kc2)] [1,1,1,1,1,0,1,0] (Q235.s0 K) (Q235.pre K) λx a=>av [(1,⟨0,.one,[.bp 100001 0]⟩),(2,⟨0,.one,[.bp 100002 0]⟩),(4,⟨0,.one,[.own false none 35 t47 a.1]⟩),(5,⟨0,.one,[.int .i64 a.2.1]⟩),(100001,⟨0,.agg,[.int .i64 a.2.2.1,.bool a.2.2.2.1,.bool true,.bool a.2.2.2.2.1,.int .i64 a.2.2.2.2.2.1,.int .i64 a.2.2.2.2.2.2.1,.int .i64 a.2.2.2.2.2.2.2.1,.int .i64 a.2.2.2.2.2.2.2.2.1,.ro true 46 t2 a.2.2.2.2.2.2.2.2.2.1,.ro true 133 t3 a.2.2.2.2.2.2.2.2.2.2.1,.int .i64 a.2.2.2.2.2.2.2.2.2.2.2.1,.int .i64 a.2.2.2.2.2.2.2.2.2.2.2.2.1,.int .i64 a.2.2.2.2.2.2.2.2.2.2.2.2.2.1,.bool a.2.2.2.2.2.2.2.2.2.2.2.2.2.2.1,.ro true 86 t6 a.2.2.2.2.2.2.2.2.2.2.2.2.2.2.2.1,.int .i64 a.2.2.2.2.2.2.2.2.2.2.2.2.2.2.2.2.1,.int .i64 a.2.2.2.2.2.2.2.2.2.2.2.2.2.2.2.2.2.1,.int .i64 a.2.2.2.2.2.2.2.2.2.2.2.2.2.2.2.2.2.2.1,.int .i64 a.2.2.2.2.2.2.2.2.2.2.2.2.2.2.2.2.2.2.2.1,.ro true 89 t11 a.2.2.2.2.2.2.2.2.2.2.2.2.2.2.2.2.2.2.2.2.1,.ro true 91 t12 a.2.2.2.2.2.2.2.2.2.2.2.2.2.2.2.2.2.2.2.2.2]⟩),(100002,⟨0,.agg,[.int .i64 0,.bool false,.bool false,.bool false,.int .i64 0,.int .i64 0,.int .i64 0,.int .i64 0,.nil,.nil,.int .i64 0,.int .i64 0,.int .i64 0,.bool false,.nil,.int .i64 0,.int .i64 0,.int .i64 0,.int .i64 0,.nil,.nil]⟩)]
theorem Q236.o:So (Q236.c K):=fS T_NT_ok (gc (Q211.o K) (gc (Q215.o K) g0)) Tryz.func275
theorem Q237.o:So (Q237.c K):=fS T_S_ok (g0) Tryz.func276
theorem Q238.o:So (Q238.c K):=fS T_NT_ok (gc (Q157.o K) (gc (Q146.o K) (gc (Q213.o K) g0))) Tryz.func277
theorem Q239.o:So (Q239.c K):=fS T_NT_ok (gc (Q98.o K) (gc (Q102.o K) (gc (Q234.o K) (gc (Q235.o K) (gc (Q161.o K) (gc (Q177.o K) (gc (Q236.o K) (gc (Q237.o K) (gc (Q238.o K) g0))))))))) Tryz.func230
theorem Q240.o:bI Tryz.prog (Q240.c K):=bI.thin (Q239.o K) (by decide) (λx=>x) (λ_=>HEq.rfl) (λ_=>rfl)
theorem Q241.o:So (Q241.c K):=fS T_NS_ok (gc (Q98.o K) (gc (Q217.o K) (gc (Q218.o K) (gc (Q210.o K) (gc (Q240.o K) g0))))) Tryz.func154
theorem Q242.o:So (Q242.c K):=fL T_NS_ok (gc (Q144.o K) g0) Tryz.func155 4 [(1,[.keep]),(2,[.keep]),(3,[.keep]),(4,[.keep]),(100001,[.ro true 33 t26,.ro true 121 t40,.ro true 3 I6,.ro true 46 t2]),(100002,Kc1),(100003,[.own false 33 t38,.own false 121 t40,.own false 3 I6,.own false 46 t2])] [1,1,0,1,0] (Q242.s0 K) (Q242.pre K) λx a=>av [(1,⟨0,.one,[.bp 100001 0]⟩),(2,⟨0,.one,[.bp 100002 0]⟩),(3,⟨0,.one,[.bp 100003 0]⟩),(4,⟨0,.one,[.int .i64 a.1]⟩),(100001,⟨0,.agg,(w5 x.1)⟩),(100002,⟨0,.agg,[.nil,.nil,.nil,.nil]⟩),(100003,⟨0,.agg,[.own false none 33 t38 a.2,.own false none 121 t40 ([]++x.1.2.1),.own false none 3 I6 ([]++x.1.2.2.1),.own false none 46 t2 ([]++x.1.2.2.2)]⟩)]
theorem Q243.o:So (Q243.c K):=fL T_S_ok (gc (Q241.o K) (gc (Q242.o K) g0)) Tryz.func152 3 [(1,[.own false 151 t2]),(2,[.keep]),(4,[.keep]),(5,[.keep]),(100002,[.ro true 33 t26,.ro true 121 t40,.ro true 3 I6,.ro true 46 t2]),(100004,Kc1)] [1,0,1,0] (Q243.s0 K) (Q243.pre K) λx a=>av [(1,⟨0,.one,[.own false none 151 t2 x.2.1]⟩),(2,⟨0,.one,[.bp 100002 0]⟩),(4,⟨0,.one,[.bp 100004 0]⟩),(5,⟨0,.one,[.int .i64 a.1]⟩),(100002,⟨0,.agg,[.ro true 33 t26 a.2.1,.ro true 121 t40 a.2.2.1,.ro true 3 I6 a.2.2.2.1,.ro true 46 t2 a.2.2.2.2]⟩),(100004,⟨0,.agg,[.nil,.nil,.nil,.nil]⟩)]
theorem Q244.o:So (Q244.c K):=fS T_S_ok (gc (Q143.o K) g0) Tryz.func226
theorem Q245.o:So (Q245.c K):=fS T_S_ok (gc (Q143.o K) (gc (Q244.o K) g0)) Tryz.func153
theorem Q246.o:So (Q246.c K):=fM T_S_ok (gc (Q143.o K) (gc (Q158.o K) (gc (Q243.o K) (gc (Q245.o K) (gc (Q241.o K) (gc (Q242.o K) g0)))))) Tryz.func100 (Q246.eqn K)
theorem Q247.o:So (Q247.c K):=fS T_S_ok (gc (Q246.o K) g0) Tryz.func41
theorem Q248.o:So (Q248.c K):=fS T_S_ok (gc (Q247.o K) (gc (Q143.o K) g0)) Tryz.func139
theorem Q249.o:So (Q249.c K):=fS T_S_ok (gc (Q143.o K) (gc (Q156.o K) (gc (Q248.o K) g0))) Tryz.func88
theorem Q250.o:So (Q250.c K):=fS T_S_ok (gc (Q142.o K) (gc (Q143.o K) (gc (Q249.o K) g0))) Tryz.func27
theorem Q251.o:So (Q251.c K):=fS T_S_ok (gc (Q113.o K) (gc (Q144.o K) (gc (Q234.o K) g0))) Tryz.func28
theorem Q252.o:So (Q252.c K):=fS T_NL_ok (g0) Tryz.func29
theorem Q253.o:So (Q253.c K):=fL T_NL_ok (g0) Tryz.func90 3 [(0,[.ro true 89 t11]),(1,[.keep]),(7,[.keep]),(8,[.keep])] [1,0,1,0] (Q253.s0 K) (Q253.pre K) λx a=>av [(0,⟨0,.one,[.ro true 89 t11 x.1]⟩),(1,⟨0,.one,[.fn [t11] .bool x.2.1]⟩),(7,⟨0,.one,[.int .i64 (FJ x.1:Int)]⟩),(8,⟨0,.one,[.int .i64 a]⟩)]
theorem Q254.o:So (Q254.c K):=fS T_NL_ok (g0) Tryz.func91
theorem Q255.o:So (Q255.c K):=fS T_NL_ok (gc (Q50.o K) (gc (Q253.o K) (gc (Q254.o K) (gc (Q73.o K) g0)))) Tryz.func30
theorem Q256.o:So (Q256.c K):=fS T_NL_ok (gc (Q91.o K) (gc (Q95.o K) (gc (Q97.o K) (gc (Q113.o K) (gc (Q141.o K) (gc (Q250.o K) (gc (Q251.o K) (gc (Q252.o K) (gc (Q255.o K) g0))))))))) Tryz.func7
end Go.Proofs.YtmibehbhnkeaiaaGreatEv
