/- The contracts are sound. Printed by run3.py. -/
import Derived.Test.YtmibehbhnkeaiaaGreatEqn0
import Derived.Test.YtmibehbhnkeaiaaGreatE6
import Derived.Test.YtmibehbhnkeaiaaGreatE3
import Derived.Test.YtmibehbhnkeaiaaGreatMan
import Derived.Test.YtmibehbhnkeaiaaGreatIns
import Derived.Test.YtmibehbhnkeaiaaGreatDel
import Derived.Test.YtmibehbhnkeaiaaGreatP0
set_option linter.unusedVariables false
set_option maxRecDepth 100000
set_option linter.unusedVariables false
set_option linter.unusedSimpArgs false
open Bool renaming not_eq_true'->FK,and_eq_true->FL
open List renaming length->FJ,getElem_mem->FM
namespace Go.Proofs.YtmibehbhnkeaiaaGreatEv
open Go Go.Proofs
abbrev So (c:Ctr):Prop:=bI Tryz.prog c
theorem g0:∀ c∈([]:List Ctr),So c:=by simp
theorem gc {a:Ctr}{l:List Ctr}(h:So a)(hl:∀ c∈l,So c):∀ c∈a::l,So c:=by
 intro c hc;rcases List.mem_cons.1 hc with rfl|hc
 ·exact h
 ·exact hl c hc
def fB (fn:Func):Bool:=fn.body.isSome&&!(fn.name== "runtime.NumGoroutine")
theorem fS {T:TypeId->TI}(hT:TOk Tryz.prog T){Γ:List Ctr}(hΓ:∀ c∈Γ,So c){c:Ctr}{fn:Func}(hf:Tryz.prog.funcs[c.f]?=some fn)(hb:fB fn=true:=by kernel_rfl)(hden:∀ x,evF Γ T [] 0 fn c.ps c.rs c.fresh x=c.den x:=by intro _;kernel_rfl):So c:=by
 simp only[fB,FL,FK]at hb;exact qo hT hΓ (by kernel_rfl) hf hb.2 hb.1 hden
theorem fL {T:TypeId->TI}(hT:TOk Tryz.prog T){Γ:List Ctr}(hΓ:∀ c∈Γ,So c){c:Ctr}{fn:Func}(hf:Tryz.prog.funcs[c.f]?=some fn){K:Nat}{A:Type}(key:Nat)(live:List (Nat×List Coe))(p:List Nat)
  (step:ab c.ps->(A->Option (ai c.rs×ag c.ps))->A->Option (ai c.rs×ag c.ps)) (pre:(A->Option (ai c.rs×ag c.ps))->ab c.ps->Option (ai c.rs×ag c.ps)) (S:ab c.ps->A->St)
  (hb:fB fn=true:=by kernel_rfl)
  (h1:∀ x r a,evK Γ T [(key,live)] K (sub (cY fn) (p++[0])) (S x a) (iq live r (kAt (evK Γ T [(key,live)] K) (cY fn) p (du T c.ps c.rs c.fresh fn.results.toList)))=step x (λa=>r (S x a)) a:=by intro _ _ _;kernel_rfl)
  (h2:∀ x,evF Γ T [(key,live)] K fn c.ps c.rs c.fresh x=pre (λa=>aY live (evK Γ T [(key,live)] K (sub (cY fn) (p++[0]))) K (S x a) (kAt (evK Γ T [(key,live)] K) (cY fn) p (du T c.ps c.rs c.fresh fn.results.toList))) x:=by intro _;kernel_rfl)
  (h3:∀ x,pre (ae (step x) K) x=c.den x:=by exact λ_=>rfl):So c:=by
 simp only[fB,FL,FK]at hb;refine qo hT hΓ (by kernel_rfl) hf hb.2 hb.1 λx=>(h2 x).trans (Eq.trans ?_ (h3 x))
 exact congrArg (λN=>pre N x) (funext λa=>lK live _ _ (S x) (step x) (λr a=>h1 x r a) K a)
theorem fM {T:TypeId->TI}(hT:TOk Tryz.prog T){Γ:List Ctr}(hΓ:∀ c∈Γ,So c){c:Ctr}{fn:Func}(hf:Tryz.prog.funcs[c.f]?=some fn){K:Nat}{L:List (Nat×List (Nat×List Coe))}(h:∀ x,evF Γ T L K fn c.ps c.rs c.fresh x=c.den x)(hb:fB fn=true:=by kernel_rfl):So c:=by
 simp only[fB,FL,FK]at hb;exact qo hT hΓ (by kernel_rfl) hf hb.2 hb.1 h
theorem T_D_ok:TOk Tryz.prog T_D:=iJ (l:=Tl_D) (by kernel_rfl)
theorem T_ND_ok:TOk Tryz.prog T_ND:=iJ (l:=Tl_ND) (by kernel_rfl)
theorem T_NL_ok:TOk Tryz.prog T_NL:=iJ (l:=Tl_NL) (by kernel_rfl)
theorem T_NS_ok:TOk Tryz.prog T_NS:=iJ (l:=Tl_NS) (by kernel_rfl)
theorem T_NT_ok:TOk Tryz.prog T_NT:=iJ (l:=Tl_NT) (by kernel_rfl)
theorem T_S_ok:TOk Tryz.prog T_S:=iJ (l:=Tl_S) (by kernel_rfl)
theorem T_WF_ok:TOk Tryz.prog T_WF:=iJ (l:=Tl_WF) (by kernel_rfl)
theorem mixed:Tryz.prog.follows .mixedOrders=true:=by kernel_rfl
variable (K:Nat)
theorem Q0.o:bI Tryz.prog (Q0.c K):=by
 induction K with
 |zero=>exact⟨c7 Tryz.func280 (by kernel_rfl) rfl,λ_ _ _ _ _ _ _ _ _ h=>by cases h⟩
 |succ k ih=>exact fS T_NS_ok (gc ih g0) Tryz.func280 (by kernel_rfl) λx=>by kernel_rfl
theorem Q8.o:So (Q8.c K):=fS T_S_ok (g0) Tryz.func40
theorem Q9.o:So (Q9.c K):=fS T_S_ok (g0) Tryz.func42
theorem Q10.o:So (Q10.c K):=fS T_S_ok (g0) Tryz.func65
theorem Q11.o:So (Q11.c K):=fS T_S_ok (g0) Tryz.func232
theorem Q12.o:So (Q12.c K):=fS T_S_ok (gc (Q10.o K) (gc (Q11.o K) g0)) Tryz.func224
theorem Q13.o:So (Q13.c K):=fS T_S_ok (g0) Tryz.func225
theorem Q14.o:So (Q14.c K):=fL T_S_ok (gc (Q12.o K) (gc (Q13.o K) g0)) Tryz.func151 4 [(0,[.keep]),(1,[.keep]),(2,[.keep]),(100000,Kc1),(100001,[.own false 33 t26,.keep,.own false 3 I6,.own false 46 t2])] [1,1,0,1,0] (Q14.s0 K) (Q14.pre K) λx a=>av [(0,⟨0,.one,[.bp 100000 0]⟩),(1,⟨0,.one,[.bp 100001 0]⟩),(2,⟨0,.one,[.int .i64 a.1]⟩),(100000,⟨0,.agg,[.nil,.nil,.nil,.nil]⟩),(100001,⟨0,.agg,[.own false none 33 t26 a.2.1,.nil,.own false none 3 I6 a.2.2.1,.own false none 46 t2 a.2.2.2]⟩)]
theorem Q15.o:So (Q15.c K):=fS T_S_ok (gc (Q10.o K) g0) Tryz.func125
theorem Q16.o:So (Q16.c K):=fL T_S_ok (gc (Q15.o K) g0) Tryz.func66 3 [(0,[.ro true 46 t2]),(3,[.keep])] [1,0,1,0] (Q16.s0 K) (Q16.pre K) λx a=>av [(0,⟨0,.one,[.ro true 46 t2 x.1]⟩),(3,⟨0,.one,[.int .i64 a]⟩)]
theorem Q17.o:So (Q17.c K):=fL T_S_ok (g0) Tryz.func67 3 [(0,[.ro true 46 t2]),(1,[.keep]),(5,[.keep])] [1,0,1,0] (Q17.s0 K) (Q17.pre K) λx a=>av [(0,⟨0,.one,[.ro true 46 t2 x.1]⟩),(1,⟨0,.one,[.int .i64 x.2.1]⟩),(5,⟨0,.one,[.int .i64 a]⟩)]
theorem Q18.o:So (Q18.c K):=fS T_S_ok (gc (Q10.o K) g0) Tryz.func73
theorem Q19.o:So (Q19.c K):=fS T_S_ok (gc (Q10.o K) (gc (Q16.o K) (gc (Q17.o K) (gc (Q18.o K) g0)))) Tryz.func59
theorem Q20.o:So (Q20.c K):=fS T_S_ok (g0) Tryz.func68
theorem Q21.o:So (Q21.c K):=fS T_S_ok (gc (Q17.o K) (gc (Q20.o K) g0)) Tryz.func60
theorem Q22.o:So (Q22.c K):=fS T_S_ok (g0) Tryz.func98
theorem Q23.o:So (Q23.c K):=fL T_S_ok (g0) Tryz.func99 3 [(0,[.ro true 46 t2]),(1,[.keep]),(5,[.keep])] [1,0,1,0] (Q23.s0 K) (Q23.pre K) λx a=>av [(0,⟨0,.one,[.ro true 46 t2 x.1]⟩),(1,⟨0,.one,[.int .i64 x.2.1]⟩),(5,⟨0,.one,[.int .i64 a]⟩)]
theorem Q24.o:So (Q24.c K):=fS T_S_ok (g0) Tryz.func127
theorem Q25.o:So (Q25.c K):=fL T_S_ok (gc (Q23.o K) (gc (Q24.o K) g0)) Tryz.func221 10 [(0,[.ro true 46 t2]),(3,[.keep]),(8,[.keep]),(100003,Kc1)] [1,1,1,1,0,0] (Q25.s0 K) (Q25.pre K) λx a=>av [(0,⟨0,.one,[.ro true 46 t2 x.1]⟩),(3,⟨0,.one,[.bp 100003 0]⟩),(8,⟨0,.one,[.int .i64 a]⟩),(100003,⟨0,.agg,(w0 x.2.1)⟩)]
theorem Q26.o:So (Q26.c K):=fL T_S_ok (gc (Q24.o K) g0) Tryz.func222 5 [(0,[.ro true 133 t3]),(3,[.keep]),(5,[.own false 133 t3]),(6,[.keep]),(7,[.keep]),(100003,Kc1)] [1,1,1,0,1,0] (Q26.s0 K) (Q26.pre K) λx a=>av [(0,⟨0,.one,[.ro true 133 t3 x.1]⟩),(3,⟨0,.one,[.bp 100003 0]⟩),(5,⟨0,.one,[.own false none 133 t3 a.1]⟩),(6,⟨0,.one,[.bool a.2.1]⟩),(7,⟨0,.one,[.int .i64 a.2.2]⟩),(100003,⟨0,.agg,(w0 x.2.1)⟩)]
theorem Q27.o:So (Q27.c K):=fL T_S_ok (g0) Tryz.func223 5 [(2,[.keep]),(3,[.keep]),(4,[.keep]),(7,[.own true 86 t6]),(8,[.keep]),(9,[.keep]),(100003,Kc0),(100004,Kc1)] [1,1,1,0,1,0] (Q27.s0 K) (Q27.pre K) λx a=>av [(2,⟨0,.one,[.int .i64 x.2.2.1]⟩),(3,⟨0,.one,[.bp 100003 0]⟩),(4,⟨0,.one,[.bp 100004 0]⟩),(7,⟨0,.one,[.own true none 86 t6 a.1]⟩),(8,⟨0,.one,[.bool a.2.1]⟩),(9,⟨0,.one,[.int .i64 a.2.2]⟩),(100003,⟨0,.agg,(w1 x.1)⟩),(100004,⟨0,.agg,(w0 x.2.1)⟩)]
theorem Q28.o:So (Q28.c K):=fS T_NS_ok (gc (Q23.o K) (gc (Q25.o K) (gc (Q26.o K) (gc (Q27.o K) g0)))) Tryz.func149
theorem Q29.o:So (Q29.c K):=fS T_NS_ok (gc (Q23.o K) (gc (Q24.o K) (gc (Q28.o K) g0))) Tryz.func188
theorem Q30.o:So (Q30.c K):=fM T_NS_ok (g0) Tryz.func189 (Q30.eqn K)
theorem Q31.o:So (Q31.c K):=fL T_NS_ok (gc (Q28.o K) (gc (Q29.o K) (gc (Q30.o K) g0))) Tryz.func116 3 [(1,[.ro true 46 t2]),(2,[.keep]),(3,[.keep]),(6,[.keep]),(7,[.keep]),(100003,Kc3),(100006,Kc2)] [1,0,1,0] (Q31.s0 K) (Q31.pre K) λx a=>av [(1,⟨0,.one,[.ro true 46 t2 x.2.1]⟩),(2,⟨0,.one,[.int .i64 x.2.2.1]⟩),(3,⟨0,.one,[.bp 100003 0]⟩),(6,⟨0,.one,[.bp 100006 0]⟩),(7,⟨0,.one,[.int .i64 a.1]⟩),(100003,⟨0,.agg,[.int .i64 a.2.1,.bool a.2.2.1,.bool a.2.2.2.1,.bool a.2.2.2.2.1,.int .i64 a.2.2.2.2.2.1,.int .i64 a.2.2.2.2.2.2.1,.int .i64 a.2.2.2.2.2.2.2.1,.int .i64 a.2.2.2.2.2.2.2.2.1,.ro true 46 t2 a.2.2.2.2.2.2.2.2.2.1,.ro true 133 t3 a.2.2.2.2.2.2.2.2.2.2.1,.int .i64 a.2.2.2.2.2.2.2.2.2.2.2.1,.int .i64 a.2.2.2.2.2.2.2.2.2.2.2.2.1,.int .i64 a.2.2.2.2.2.2.2.2.2.2.2.2.2.1,.bool a.2.2.2.2.2.2.2.2.2.2.2.2.2.2.1,.own true none 86 t6 a.2.2.2.2.2.2.2.2.2.2.2.2.2.2.2.1,.int .i64 a.2.2.2.2.2.2.2.2.2.2.2.2.2.2.2.2.1,.int .i64 a.2.2.2.2.2.2.2.2.2.2.2.2.2.2.2.2.2.1,.int .i64 a.2.2.2.2.2.2.2.2.2.2.2.2.2.2.2.2.2.2.1,.int .i64 a.2.2.2.2.2.2.2.2.2.2.2.2.2.2.2.2.2.2.2.1,.ro true 89 t11 a.2.2.2.2.2.2.2.2.2.2.2.2.2.2.2.2.2.2.2.2.1,.ro true 91 t12 a.2.2.2.2.2.2.2.2.2.2.2.2.2.2.2.2.2.2.2.2.2]⟩),(100006,⟨0,.agg,[.int .i64 0,.bool false,.bool false,.bool false,.int .i64 0,.int .i64 0,.int .i64 0,.int .i64 0,.nil,.nil,.int .i64 0,.int .i64 0,.int .i64 0,.bool false,.nil,.int .i64 0,.int .i64 0,.int .i64 0,.int .i64 0,.nil,.nil]⟩)]
theorem Q32.o:So (Q32.c K):=fL T_S_ok (gc (Q23.o K) (gc (Q24.o K) g0)) Tryz.func221 10 [(0,[.own false 46 t2]),(3,[.keep]),(8,[.keep]),(100003,Kc1)] [1,1,1,1,0,0] (Q32.s0 K) (Q32.pre K) λx a=>av [(0,⟨0,.one,[.own false none 46 t2 x.1]⟩),(3,⟨0,.one,[.bp 100003 0]⟩),(8,⟨0,.one,[.int .i64 a]⟩),(100003,⟨0,.agg,(w0 x.2.1)⟩)]
theorem Q33.o:So (Q33.c K):=fL T_S_ok (gc (Q16.o K) (gc (Q32.o K) g0)) Tryz.func250 6 [(1,[.ro true 46 t2]),(5,[.own false 46 t2]),(6,[.keep])] [1,1,1,0,1,0] (Q33.s0 K) (Q33.pre K) λx a=>av [(1,⟨0,.one,[.ro true 46 t2 x.2.1]⟩),(5,⟨0,.one,[.own false none 46 t2 a.1]⟩),(6,⟨0,.one,[.int .i64 a.2]⟩)]
theorem Q34.o:So (Q34.c K):=fL T_S_ok (gc (Q33.o K) g0) Tryz.func183 3 [(1,[.keep]),(2,[.ro true 46 t2]),(3,[.keep]),(7,[.keep]),(100003,Kc0)] [1,0,1,0] (Q34.s0 K) (Q34.pre K) λx a=>av [(1,⟨0,.one,[.int .i64 x.2.1]⟩),(2,⟨0,.one,[.ro true 46 t2 x.2.2.1]⟩),(3,⟨0,.one,[.bp 100003 0]⟩),(7,⟨0,.one,[.int .i64 a]⟩),(100003,⟨0,.agg,(w1 x.1)⟩)]
theorem Q35.o:So (Q35.c K):=fL T_NS_ok (g0) Tryz.func184 6 [(1,[.keep]),(3,[.keep]),(6,[.keep]),(7,[.keep]),(8,[.own true 91 t12]),(9,[.keep]),(10,[.keep]),(100003,Kc3),(100006,Kc2),(100007,[.keep,.ro true 46 t2])] [1,1,1,1,0,1,0] (Q35.s0 K) (Q35.pre K) λx a=>av [(1,⟨0,.one,[.int .i64 x.2.1]⟩),(3,⟨0,.one,[.bp 100003 0]⟩),(6,⟨0,.one,[.bp 100006 0]⟩),(7,⟨0,.one,[.bp 100007 0]⟩),(8,⟨0,.one,[.own true none 91 t12 a.1]⟩),(9,⟨0,.one,[.bool a.2.1]⟩),(10,⟨0,.one,[.int .i64 a.2.2]⟩),(100003,⟨0,.agg,(w2 x.1)⟩),(100006,⟨0,.agg,[.int .i64 0,.bool false,.bool false,.bool false,.int .i64 0,.int .i64 0,.int .i64 0,.int .i64 0,.nil,.nil,.int .i64 0,.int .i64 0,.int .i64 0,.bool false,.nil,.int .i64 0,.int .i64 0,.int .i64 0,.int .i64 0,.nil,.nil]⟩),(100007,⟨0,.agg,[.int .i64 x.2.1,.ro true 46 t2 x.2.2.1]⟩)]
theorem Q36.o:So (Q36.c K):=fL T_S_ok (g0) Tryz.func185 5 [(0,[.ro true 46 t2]),(1,[.ro true 46 t2]),(5,[.keep])] [1,1,0,1,0] (Q36.s0 K) (Q36.pre K) λx a=>av [(0,⟨0,.one,[.ro true 46 t2 x.1]⟩),(1,⟨0,.one,[.ro true 46 t2 x.2.1]⟩),(5,⟨0,.one,[.int .i64 a]⟩)]
theorem Q37.o:So (Q37.c K):=fS T_NS_ok (gc (Q17.o K) (gc (Q20.o K) (gc (Q22.o K) (gc (Q31.o K) (gc (Q34.o K) (gc (Q35.o K) (gc (Q36.o K) g0))))))) Tryz.func114
theorem Q38.o:So (Q38.c K):=fL T_S_ok (g0) Tryz.func293 4 [(0,[.ro true 133 t3]),(1,[.ro true 4 .bool]),(5,[.keep]),(6,[.keep])] [1,1,0,1,0] (Q38.s0 K) (Q38.pre K) λx a=>av [(0,⟨0,.one,[.ro true 133 t3 x.1]⟩),(1,⟨0,.one,[.ro true 4 .bool x.2.1]⟩),(5,⟨0,.one,[.int .i64 a.1]⟩),(6,⟨0,.one,[.int .i64 a.2]⟩)]
theorem Q39.o:So (Q39.c K):=fM T_S_ok (gc (Q38.o K) g0) Tryz.func251 (Q39.eqn K)
theorem Q40.o:So (Q40.c K):=fS T_NS_ok (gc (Q23.o K) (gc (Q32.o K) (gc (Q39.o K) g0))) Tryz.func186
theorem Q41.o:So (Q41.c K):=fS T_S_ok (g0) Tryz.func252
theorem Q42.o:So (Q42.c K):=fS T_S_ok (g0) Tryz.func294
theorem Q43.o:So (Q43.c K):=fL T_S_ok (gc (Q42.o K) g0) Tryz.func253 6 [(0,[.ro true 89 t11]),(1,[.keep]),(3,[.keep]),(9,[.own true 89 t11]),(10,[.keep]),(11,[.keep]),(12,[.keep]),(100010,Kc6)] [1,1,1,1,0,1,0] (Q43.s0 K) (Q43.pre K) λx a=>av [(0,⟨0,.one,[.ro true 89 t11 x.1]⟩),(1,⟨0,.one,[.int .i64 x.2.1]⟩),(3,⟨0,.one,[.int .i64 x.2.2.2.1]⟩),(9,⟨0,.one,[.own true none 89 t11 a.1]⟩),(10,⟨0,.one,[.bp 100010 0]⟩),(11,⟨0,.one,[.bool a.2.1]⟩),(12,⟨0,.one,[.int .i64 a.2.2.1]⟩),(100010,⟨0,.agg,[.int .i64 x.2.1,.int .i64 x.2.2.1.1,.int .i64 x.2.2.1.2.1,.int .i64 x.2.2.1.2.2.1,.int .i64 x.2.2.1.2.2.2,.ro true 3 I6 a.2.2.2]⟩)]
theorem Q44.o:So (Q44.c K):=fS T_S_ok (gc (Q41.o K) g0) Tryz.func322
theorem Q45.o:So (Q45.c K):=fL T_S_ok (g0) Tryz.func323 4 [(0,[.keep]),(3,[.keep]),(4,[.keep])] [1,1,1,0,0] (Q45.s0 K) (Q45.pre K) λx a=>av [(0,⟨0,.one,[.int .i64 x.1]⟩),(3,⟨0,.one,[.int .i64 a.1]⟩),(4,⟨0,.one,[.int .i64 a.2]⟩)]
theorem Q46.o:So (Q46.c K):=fS T_S_ok (gc (Q44.o K) (gc (Q45.o K) g0)) Tryz.func297
theorem Q47.o:So (Q47.c K):=fS T_S_ok (gc (Q18.o K) (gc (Q46.o K) g0)) Tryz.func295
theorem Q48.o:So (Q48.c K):=fS T_S_ok (g0) Tryz.func296
theorem Q49.o:So (Q49.c K):=fS T_S_ok (g0) Tryz.func298
theorem Q50.o:So (Q50.c K):=fS T_S_ok (g0) Tryz.func324
theorem Q51.o:So (Q51.c K):=fS T_S_ok (gc (Q41.o K) (gc (Q50.o K) g0)) Tryz.func299
theorem Q52.o:So (Q52.c K):=fS T_S_ok (gc (Q10.o K) (gc (Q18.o K) (gc (Q41.o K) (gc (Q47.o K) (gc (Q48.o K) (gc (Q46.o K) (gc (Q49.o K) (gc (Q51.o K) g0)))))))) Tryz.func254
theorem Q53.o:So (Q53.c K):=fM T_S_ok (g0) Tryz.func255 (Q53.eqn K)
theorem Q54.o:So (Q54.c K):=fL T_NS_ok (gc (Q41.o K) (gc (Q43.o K) (gc (Q52.o K) (gc (Q53.o K) g0)))) Tryz.func187 7 [(2,[.keep]),(3,[.keep]),(4,[.keep]),(6,[.keep]),(100002,[.keep,.keep,.keep,.keep,.keep,.keep,.keep,.keep,.ro true 46 t2,.ro true 133 t3,.keep,.keep,.keep,.keep,.own true 86 t6,.keep,.keep,.keep,.keep,.own true 89 t11,.ro true 91 t12]),(100003,[.keep,.keep,.keep,.keep,.keep,.keep,.keep,.keep,.keep,.keep,.ro true 46 t2]),(100004,Kc2)] [1,1,1,1,0,1,0] (Q54.s0 K) (Q54.pre K) λx a=>av [(2,⟨0,.one,[.bp 100002 0]⟩),(3,⟨0,.one,[.bp 100003 0]⟩),(4,⟨0,.one,[.bp 100004 0]⟩),(6,⟨0,.one,[.int .i64 a.1]⟩),(100002,⟨0,.agg,[.int .i64 x.1.1,.bool x.1.2.1,.bool x.1.2.2.1,.bool x.1.2.2.2.1,.int .i64 x.1.2.2.2.2.1,.int .i64 x.1.2.2.2.2.2.1,.int .i64 x.1.2.2.2.2.2.2.1,.int .i64 x.1.2.2.2.2.2.2.2.1,.ro true 46 t2 x.1.2.2.2.2.2.2.2.2.1,.ro true 133 t3 x.1.2.2.2.2.2.2.2.2.2.1,.int .i64 x.1.2.2.2.2.2.2.2.2.2.2.1.1,.int .i64 x.1.2.2.2.2.2.2.2.2.2.2.1.2.1,.int .i64 x.1.2.2.2.2.2.2.2.2.2.2.1.2.2.1,.bool x.1.2.2.2.2.2.2.2.2.2.2.1.2.2.2,.own true none 86 t6 x.1.2.2.2.2.2.2.2.2.2.2.2.1,.int .i64 a.2.1,.int .i64 a.2.2.1,.int .i64 a.2.2.2.1,.int .i64 a.2.2.2.2.1,.own true none 89 t11 a.2.2.2.2.2,.ro true 91 t12 x.1.2.2.2.2.2.2.2.2.2.2.2.2.2.2]⟩),(100003,⟨0,.agg,(w3 x.2.1)⟩),(100004,⟨0,.agg,[.int .i64 0,.bool false,.bool false,.bool false,.int .i64 0,.int .i64 0,.int .i64 0,.int .i64 0,.nil,.nil,.int .i64 0,.int .i64 0,.int .i64 0,.bool false,.nil,.int .i64 0,.int .i64 0,.int .i64 0,.int .i64 0,.nil,.nil]⟩)]
theorem Q55.o:So (Q55.c K):=fS T_NS_ok (gc (Q20.o K) (gc (Q22.o K) (gc (Q40.o K) (gc (Q54.o K) g0)))) Tryz.func115
theorem Q56.o:So (Q56.c K):=fS T_NS_ok (gc (Q19.o K) (gc (Q21.o K) (gc (Q37.o K) (gc (Q55.o K) (gc (Q31.o K) g0))))) Tryz.func48
theorem Q57.o:So (Q57.c K):=fL T_S_ok (g0) Tryz.func160 5 [(0,[.keep]),(1,[.keep]),(5,[.own false 9 .str]),(6,[.keep]),(7,[.keep])] [1,1,1,0,1,0] (Q57.s0 K) (Q57.pre K) λx a=>av [(0,⟨0,.one,[.str x.1]⟩),(1,⟨0,.one,[.int .u8 x.2.1]⟩),(5,⟨0,.one,[.own false none 9 .str a.1]⟩),(6,⟨0,.one,[.int .i64 a.2.1]⟩),(7,⟨0,.one,[.int .i64 a.2.2]⟩)]
theorem Q58.o:So (Q58.c K):=fS T_S_ok (g0) Tryz.func161
theorem Q59.o:So (Q59.c K):=fL T_S_ok (gc (Q10.o K) g0) Tryz.func162 6 [(0,[.keep]),(3,[.keep]),(4,[.keep])] [1,1,1,0,1,0] (Q59.s0 K) (Q59.pre K) λx a=>av [(0,⟨0,.one,[.str x.1]⟩),(3,⟨0,.one,[.int .i64 a.1]⟩),(4,⟨0,.one,[.int .i64 a.2]⟩)]
theorem Q60.o:So (Q60.c K):=fS T_S_ok (gc (Q59.o K) g0) Tryz.func163
theorem Q61.o:So (Q61.c K):=fS T_S_ok (g0) Tryz.func315
theorem Q62.o:So (Q62.c K):=fL T_S_ok (gc (Q15.o K) (gc (Q57.o K) (gc (Q59.o K) (gc (Q61.o K) g0)))) Tryz.func278 13 [(2,[.keep]),(4,[.keep]),(6,[.own false 9 .str]),(7,[.keep]),(100002,Kc1),(100004,Kc1)] [1,1,1,1,1,1,1,1,0,1,0] (Q62.s0 K) (Q62.pre K) λx a=>av [(2,⟨0,.one,[.bp 100002 0]⟩),(4,⟨0,.one,[.bp 100004 0]⟩),(6,⟨0,.one,[.own false none 9 .str a.1]⟩),(7,⟨0,.one,[.int .i64 a.2.1]⟩),(100002,⟨0,.agg,[.int .i64 0,.int .i64 0,.int .i64 0,.bool false]⟩),(100004,⟨0,.agg,[.int .i64 a.2.2.1,.int .i64 a.2.2.2.1,.int .i64 a.2.2.2.2.1,.bool a.2.2.2.2.2]⟩)]
theorem Q63.o:So (Q63.c K):=fL T_S_ok (gc (Q57.o K) (gc (Q62.o K) g0)) Tryz.func233 7 [(4,[.own false 46 t2]),(5,[.own false 9 .str]),(6,[.keep])] [1,1,1,1,0,1,0] (Q63.s0 K) (Q63.pre K) λx a=>av [(4,⟨0,.one,[.own false none 46 t2 a.1]⟩),(5,⟨0,.one,[.own false none 9 .str a.2.1]⟩),(6,⟨0,.one,[.int .i64 a.2.2]⟩)]
theorem Q64.o:So (Q64.c K):=fL T_S_ok (gc (Q0.o K) (gc (Q61.o K) g0)) Tryz.func279 4 [(0,[.ro true 46 t2]),(3,[.keep]),(4,[.keep])] [1,1,0,1,0] (Q64.s0 K) (Q64.pre K) λx a=>av [(0,⟨0,.one,[.ro true 46 t2 x.1]⟩),(3,⟨0,.one,[.str a.1]⟩),(4,⟨0,.one,[.int .i64 a.2]⟩)]
theorem Q65.o:So (Q65.c K):=fS T_S_ok (gc (Q16.o K) (gc (Q64.o K) g0)) Tryz.func234
theorem Q66.o:So (Q66.c K):=fS T_S_ok (gc (Q63.o K) (gc (Q65.o K) g0)) Tryz.func164
theorem Q67.o:So (Q67.c K):=fS T_S_ok (gc (Q0.o K) g0) Tryz.func281
theorem Q68.o:So (Q68.c K):=fS T_S_ok (gc (Q58.o K) (gc (Q65.o K) (gc (Q0.o K) (gc (Q67.o K) g0)))) Tryz.func235
theorem Q69.o:So (Q69.c K):=fL T_S_ok (g0) Tryz.func236 4 [(0,[.keep]),(3,[.own false 5 (.int .u8)]),(4,[.keep])] [1,1,0,1,0] (Q69.s0 K) (Q69.pre K) λx a=>av [(0,⟨0,.one,[.int .i64 x.1]⟩),(3,⟨0,.one,[.own false none 5 (.int .u8) a.1]⟩),(4,⟨0,.one,[.int .i64 a.2]⟩)]
theorem Q70.o:So (Q70.c K):=fL T_S_ok (g0) Tryz.func282 4 [(3,[.keep]),(4,[.keep])] [1,1,0,1,0] (Q70.s0 K) (Q70.pre K) λx a=>av [(3,⟨0,.one,[.int .i64 a.1]⟩),(4,⟨0,.one,[.int .i64 a.2]⟩)]
theorem Q71.o:So (Q71.c K):=fL T_S_ok (gc (Q70.o K) g0) Tryz.func237 4 [(0,[.keep]),(3,[.keep]),(4,[.keep])] [1,1,0,1,0] (Q71.s0 K) (Q71.pre K) λx a=>av [(0,⟨0,.one,[.str x.1]⟩),(3,⟨0,.one,[.int .i64 a.1]⟩),(4,⟨0,.one,[.int .i64 a.2]⟩)]
theorem Q72.o:So (Q72.c K):=fS T_S_ok (gc (Q19.o K) (gc (Q68.o K) (gc (Q69.o K) (gc (Q71.o K) g0)))) Tryz.func165
theorem Q73.o:So (Q73.c K):=fL T_S_ok (gc (Q57.o K) (gc (Q58.o K) (gc (Q59.o K) (gc (Q60.o K) (gc (Q66.o K) (gc (Q72.o K) g0)))))) Tryz.func104 9 [(0,[.keep]),(2,[.keep]),(4,[.own false 9 .str]),(5,[.keep]),(6,[.keep]),(100002,Kc4),(100005,Kc4)] [1,1,1,1,1,0,1,0] (Q73.s0 K) (Q73.pre K) λx a=>av [(0,⟨0,.one,[.str x.1]⟩),(2,⟨0,.one,[.bp 100002 0]⟩),(4,⟨0,.one,[.own false none 9 .str a.1]⟩),(5,⟨0,.one,[.bp 100005 0]⟩),(6,⟨0,.one,[.int .i64 a.2.1]⟩),(100002,⟨0,.agg,[.int .i64 0,.int .i64 0,.int .i64 0,.int .i64 0,.int .i64 0,.int .i64 0,.int .i64 0,.int .i64 0,.int .i64 0,.int .i64 0,.nil]⟩),(100005,⟨0,.agg,[.int .i64 a.2.2.1,.int .i64 a.2.2.2,.int .i64 0,.int .i64 0,.int .i64 0,.int .i64 0,.int .i64 0,.int .i64 0,.int .i64 0,.int .i64 0,.nil]⟩)]
theorem Q74.o:So (Q74.c K):=fS T_S_ok (g0) Tryz.func229
theorem Q75.o:So (Q75.c K):=fL T_S_ok (gc (Q72.o K) g0) Tryz.func312 3 [(1,[.keep]),(2,[.ro true 35 t47]),(3,[.keep]),(6,[.keep]),(7,[.keep]),(100003,[.ro true 33 t26,.ro true 121 t40,.ro true 3 I6,.ro true 46 t2]),(100006,Kc1)] [1,0,1,0] (Q75.s0 K) (Q75.pre K) λx a=>av [(1,⟨0,.one,[.int .i64 x.2.1]⟩),(2,⟨0,.one,[.ro true 35 t47 x.2.2.1]⟩),(3,⟨0,.one,[.bp 100003 0]⟩),(6,⟨0,.one,[.bp 100006 0]⟩),(7,⟨0,.one,[.int .i64 a.1]⟩),(100003,⟨0,.agg,[.ro true 33 t26 x.1.1,.ro true 121 t40 a.2,.ro true 3 I6 x.1.2.2.1,.ro true 46 t2 x.1.2.2.2]⟩),(100006,⟨0,.agg,[.nil,.nil,.nil,.nil]⟩)]
theorem Q76.o:So (Q76.c K):=fS T_S_ok (gc (Q24.o K) g0) Tryz.func329
theorem Q77.o:So (Q77.c K):=fL T_S_ok (gc (Q76.o K) g0) Tryz.func314 3 [(0,[.ro true 46 t2]),(3,[.keep]),(5,[.keep]),(100003,Kc1)] [1,1,0,0] (Q77.s0 K) (Q77.pre K) λx a=>av [(0,⟨0,.one,[.ro true 46 t2 x.1]⟩),(3,⟨0,.one,[.bp 100003 0]⟩),(5,⟨0,.one,[.int .i64 a]⟩),(100003,⟨0,.agg,(w0 x.2.1)⟩)]
theorem Q78.o:So (Q78.c K):=fL T_S_ok (g0) Tryz.func328 3 [(0,[.ro true 46 t2]),(3,[.keep]),(5,[.keep]),(100003,Kc1)] [1,0,1,0] (Q78.s0 K) (Q78.pre K) λx a=>av [(0,⟨0,.one,[.ro true 46 t2 x.1]⟩),(3,⟨0,.one,[.bp 100003 0]⟩),(5,⟨0,.one,[.int .i64 a]⟩),(100003,⟨0,.agg,(w0 x.2.1)⟩)]
theorem Q79.o:So (Q79.c K):=fL T_S_ok (gc (Q77.o K) (gc (Q78.o K) g0)) Tryz.func313 3 [(1,[.ro true 46 t2]),(2,[.ro true 46 t2]),(3,[.ro true 46 t2]),(4,[.keep]),(8,[.keep]),(9,[.keep]),(100004,[.ro true 33 t26,.ro true 121 t40,.ro true 3 I6,.ro true 46 t2]),(100008,Kc1)] [1,0,1,0] (Q79.s0 K) (Q79.pre K) λx a=>av [(1,⟨0,.one,[.ro true 46 t2 x.2.1]⟩),(2,⟨0,.one,[.ro true 46 t2 x.2.2.1]⟩),(3,⟨0,.one,[.ro true 46 t2 x.2.2.2.1]⟩),(4,⟨0,.one,[.bp 100004 0]⟩),(8,⟨0,.one,[.bp 100008 0]⟩),(9,⟨0,.one,[.int .i64 a.1]⟩),(100004,⟨0,.agg,[.ro true 33 t26 x.1.1,.ro true 121 t40 x.1.2.1,.ro true 3 I6 x.1.2.2.1,.ro true 46 t2 a.2]⟩),(100008,⟨0,.agg,[.nil,.nil,.nil,.nil]⟩)]
theorem Q80.o:So (Q80.c K):=fS T_NS_ok (gc (Q75.o K) (gc (Q79.o K) g0)) Tryz.func275
theorem Q81.o:So (Q81.c K):=fS T_NS_ok (gc (Q56.o K) (gc (Q73.o K) (gc (Q74.o K) (gc (Q80.o K) g0)))) Tryz.func227
theorem Q82.o:So (Q82.c K):=fS T_NS_ok (g0) Tryz.func228
theorem Q83.o:So (Q83.c K):=fS T_S_ok (gc (Q23.o K) (gc (Q25.o K) (gc (Q26.o K) (gc (Q27.o K) g0)))) Tryz.func149
theorem Q84.o:So (Q84.c K):=fS T_S_ok (g0) Tryz.func207
theorem Q85.o:So (Q85.c K):=fL T_S_ok (gc (Q23.o K) (gc (Q83.o K) (gc (Q84.o K) g0))) Tryz.func140 4 [(1,[.keep]),(2,[.keep]),(3,[.ro true 86 t6]),(4,[.keep]),(100001,Kc0),(100002,Kc2)] [1,1,0,1,0] (Q85.s0 K) (Q85.pre K) λx a=>av [(1,⟨0,.one,[.bp 100001 0]⟩),(2,⟨0,.one,[.bp 100002 0]⟩),(3,⟨0,.one,[.ro true 86 t6 x.1.2.2.2.2.2.2.2.2.2.2.2.1]⟩),(4,⟨0,.one,[.int .i64 a.1]⟩),(100001,⟨0,.agg,[.int .i64 a.2.1,.bool a.2.2.1,.bool a.2.2.2.1,.bool a.2.2.2.2.1,.int .i64 a.2.2.2.2.2.1,.int .i64 a.2.2.2.2.2.2.1,.int .i64 a.2.2.2.2.2.2.2.1,.int .i64 a.2.2.2.2.2.2.2.2.1,.ro true 46 t2 a.2.2.2.2.2.2.2.2.2.1,.ro true 133 t3 a.2.2.2.2.2.2.2.2.2.2.1,.int .i64 a.2.2.2.2.2.2.2.2.2.2.2.1,.int .i64 a.2.2.2.2.2.2.2.2.2.2.2.2.1,.int .i64 a.2.2.2.2.2.2.2.2.2.2.2.2.2.1,.bool a.2.2.2.2.2.2.2.2.2.2.2.2.2.2.1,.ro true 86 t6 a.2.2.2.2.2.2.2.2.2.2.2.2.2.2.2.1,.int .i64 a.2.2.2.2.2.2.2.2.2.2.2.2.2.2.2.2.1,.int .i64 a.2.2.2.2.2.2.2.2.2.2.2.2.2.2.2.2.2.1,.int .i64 a.2.2.2.2.2.2.2.2.2.2.2.2.2.2.2.2.2.2.1,.int .i64 a.2.2.2.2.2.2.2.2.2.2.2.2.2.2.2.2.2.2.2.1,.ro true 89 t11 a.2.2.2.2.2.2.2.2.2.2.2.2.2.2.2.2.2.2.2.2.1,.ro true 91 t12 a.2.2.2.2.2.2.2.2.2.2.2.2.2.2.2.2.2.2.2.2.2]⟩),(100002,⟨0,.agg,[.int .i64 0,.bool false,.bool false,.bool false,.int .i64 0,.int .i64 0,.int .i64 0,.int .i64 0,.nil,.nil,.int .i64 0,.int .i64 0,.int .i64 0,.bool false,.nil,.int .i64 0,.int .i64 0,.int .i64 0,.int .i64 0,.nil,.nil]⟩)]
theorem Q86.o:So (Q86.c K):=fS T_S_ok (gc (Q23.o K) g0) Tryz.func150
theorem Q87.o:So (Q87.c K):=fL T_S_ok (g0) Tryz.func208 4 [(1,[.keep]),(3,[.own false 3 I6]),(4,[.keep]),(100001,Kc0)] [1,1,0,1,0] (Q87.s0 K) (Q87.pre K) λx a=>av [(1,⟨0,.one,[.bp 100001 0]⟩),(3,⟨0,.one,[.own false none 3 I6 a.1]⟩),(4,⟨0,.one,[.int .i64 a.2]⟩),(100001,⟨0,.agg,(w1 x.1)⟩)]
theorem Q88.o:So (Q88.c K):=fL T_S_ok (gc (Q22.o K) (gc (Q23.o K) (gc (Q83.o K) (gc (Q86.o K) (gc (Q87.o K) g0))))) Tryz.func141 17 [(1,[.keep]),(2,[.keep]),(4,[.own false 35 t47]),(5,[.keep]),(8,[.own false 3 I6]),(9,[.keep]),(100001,Kc0),(100002,Kc2),(100005,Kc1)] [1,1,1,1,0,0,1,1,1,1,1,0,1,1,1,0] (Q88.s0 K) (Q88.pre K) λx a=>av [(1,⟨0,.one,[.bp 100001 0]⟩),(2,⟨0,.one,[.bp 100002 0]⟩),(4,⟨0,.one,[.own false none 35 t47 a.1]⟩),(5,⟨0,.one,[.bp 100005 0]⟩),(8,⟨0,.one,[.own false none 3 I6 a.2.1]⟩),(9,⟨0,.one,[.int .i64 a.2.2]⟩),(100001,⟨0,.agg,[.int .i64 x.1.1,.bool x.1.2.1,.bool x.1.2.2.1,.bool x.1.2.2.2.1,.int .i64 x.1.2.2.2.2.1,.int .i64 x.1.2.2.2.2.2.1,.int .i64 x.1.2.2.2.2.2.2.1,.int .i64 x.1.2.2.2.2.2.2.2.1,.ro true 46 t2 x.1.2.2.2.2.2.2.2.2.1,.ro true 133 t3 x.1.2.2.2.2.2.2.2.2.2.1,.int .i64 x.1.2.2.2.2.2.2.2.2.2.2.1.1,.int .i64 x.1.2.2.2.2.2.2.2.2.2.2.1.2.1,.int .i64 x.1.2.2.2.2.2.2.2.2.2.2.1.2.2.1,.bool true,.ro true 86 t6 x.1.2.2.2.2.2.2.2.2.2.2.2.1,.int .i64 x.1.2.2.2.2.2.2.2.2.2.2.2.2.1.1,.int .i64 x.1.2.2.2.2.2.2.2.2.2.2.2.2.1.2.1,.int .i64 x.1.2.2.2.2.2.2.2.2.2.2.2.2.1.2.2.1,.int .i64 x.1.2.2.2.2.2.2.2.2.2.2.2.2.1.2.2.2,.ro true 89 t11 x.1.2.2.2.2.2.2.2.2.2.2.2.2.2.1,.ro true 91 t12 x.1.2.2.2.2.2.2.2.2.2.2.2.2.2.2]⟩),(100002,⟨0,.agg,[.int .i64 0,.bool false,.bool false,.bool false,.int .i64 0,.int .i64 0,.int .i64 0,.int .i64 0,.nil,.nil,.int .i64 0,.int .i64 0,.int .i64 0,.bool false,.nil,.int .i64 0,.int .i64 0,.int .i64 0,.int .i64 0,.nil,.nil]⟩),(100005,⟨0,.agg,(w0 x.1.2.2.2.2.2.2.2.2.2.2.1)⟩)]
theorem Q89.o:So (Q89.c K):=fS T_S_ok (gc (Q23.o K) (gc (Q32.o K) (gc (Q39.o K) g0))) Tryz.func186
theorem Q90.o:So (Q90.c K):=fL T_S_ok (gc (Q86.o K) g0) Tryz.func209 3 [(1,[.keep]),(3,[.keep]),(100001,Kc0)] [1,0,1,0] (Q90.s0 K) (Q90.pre K) λx a=>av [(1,⟨0,.one,[.bp 100001 0]⟩),(3,⟨0,.one,[.int .i64 a]⟩),(100001,⟨0,.agg,(w1 x.1)⟩)]
theorem Q91.o:So (Q91.c K):=fS T_S_ok (gc (Q22.o K) (gc (Q89.o K) (gc (Q90.o K) g0))) Tryz.func142
theorem Q92.o:So (Q92.c K):=fL T_S_ok (g0) Tryz.func210 4 [(1,[.keep]),(2,[.keep]),(5,[.own false 3 I6]),(6,[.keep]),(100002,Kc0)] [1,1,0,1,0] (Q92.s0 K) (Q92.pre K) λx a=>av [(1,⟨0,.one,[.int .i64 x.2.1]⟩),(2,⟨0,.one,[.bp 100002 0]⟩),(5,⟨0,.one,[.own false none 3 I6 a.1]⟩),(6,⟨0,.one,[.int .i64 a.2]⟩),(100002,⟨0,.agg,(w1 x.1)⟩)]
theorem Q93.o:So (Q93.c K):=fL T_S_ok (g0) Tryz.func308 4 [(0,[.ro true 46 t2]),(1,[.keep]),(5,[.own false 3 I6]),(6,[.keep])] [1,1,0,1,0] (Q93.s0 K) (Q93.pre K) λx a=>av [(0,⟨0,.one,[.ro true 46 t2 x.1]⟩),(1,⟨0,.one,[.int .i64 x.2.1]⟩),(5,⟨0,.one,[.own false none 3 I6 a.1]⟩),(6,⟨0,.one,[.int .i64 a.2]⟩)]
theorem Q94.o:So (Q94.c K):=fL T_S_ok (gc (Q93.o K) g0) Tryz.func269 4 [(1,[.keep]),(3,[.own false 3 I6]),(4,[.keep]),(100001,Kc0)] [1,1,0,1,0] (Q94.s0 K) (Q94.pre K) λx a=>av [(1,⟨0,.one,[.bp 100001 0]⟩),(3,⟨0,.one,[.own false none 3 I6 a.1]⟩),(4,⟨0,.one,[.int .i64 a.2]⟩),(100001,⟨0,.agg,(w1 x.1)⟩)]
theorem Q95.o:So (Q95.c K):=fL T_S_ok (gc (Q93.o K) g0) Tryz.func270 3 [(1,[.keep]),(2,[.keep]),(3,[.keep]),(7,[.keep]),(100003,Kc0)] [1,0,1,0] (Q95.s0 K) (Q95.pre K) λx a=>av [(1,⟨0,.one,[.int .i64 x.2.1]⟩),(2,⟨0,.one,[.int .i64 x.2.2.1]⟩),(3,⟨0,.one,[.bp 100003 0]⟩),(7,⟨0,.one,[.int .i64 a]⟩),(100003,⟨0,.agg,(w1 x.1)⟩)]
theorem Q96.o:So (Q96.c K):=fL T_S_ok (gc (Q20.o K) (gc (Q22.o K) (gc (Q94.o K) (gc (Q95.o K) g0)))) Tryz.func211 6 [(1,[.keep]),(2,[.keep]),(5,[.own false 35 t47]),(6,[.keep]),(100002,Kc0)] [1,1,1,0,1,0] (Q96.s0 K) (Q96.pre K) λx a=>av [(1,⟨0,.one,[.int .i64 x.2.1]⟩),(2,⟨0,.one,[.bp 100002 0]⟩),(5,⟨0,.one,[.own false none 35 t47 a.1]⟩),(6,⟨0,.one,[.int .i64 a.2]⟩),(100002,⟨0,.agg,(w1 x.1)⟩)]
theorem Q97.o:So (Q97.c K):=fS T_S_ok (gc (Q22.o K) (gc (Q92.o K) (gc (Q96.o K) g0))) Tryz.func143
theorem Q98.o:So (Q98.c K):=fS T_S_ok (gc (Q85.o K) (gc (Q88.o K) (gc (Q91.o K) (gc (Q97.o K) g0)))) Tryz.func89
theorem Q99.o:So (Q99.c K):=fL T_S_ok (gc (Q22.o K) (gc (Q83.o K) (gc (Q86.o K) g0))) Tryz.func95 8 [(1,[.keep]),(2,[.keep]),(4,[.own false 35 t47]),(5,[.keep]),(100001,Kc0),(100002,Kc2)] [1,1,1,1,1,0,1,0] (Q99.s0 K) (Q99.pre K) λx a=>av [(1,⟨0,.one,[.bp 100001 0]⟩),(2,⟨0,.one,[.bp 100002 0]⟩),(4,⟨0,.one,[.own false none 35 t47 a.1]⟩),(5,⟨0,.one,[.int .i64 a.2.1]⟩),(100001,⟨0,.agg,[.int .i64 a.2.2.1,.bool a.2.2.2.1,.bool true,.bool a.2.2.2.2.1,.int .i64 a.2.2.2.2.2.1,.int .i64 a.2.2.2.2.2.2.1,.int .i64 a.2.2.2.2.2.2.2.1,.int .i64 a.2.2.2.2.2.2.2.2.1,.ro true 46 t2 a.2.2.2.2.2.2.2.2.2.1,.ro true 133 t3 a.2.2.2.2.2.2.2.2.2.2.1,.int .i64 a.2.2.2.2.2.2.2.2.2.2.2.1,.int .i64 a.2.2.2.2.2.2.2.2.2.2.2.2.1,.int .i64 a.2.2.2.2.2.2.2.2.2.2.2.2.2.1,.bool a.2.2.2.2.2.2.2.2.2.2.2.2.2.2.1,.ro true 86 t6 a.2.2.2.2.2.2.2.2.2.2.2.2.2.2.2.1,.int .i64 a.2.2.2.2.2.2.2.2.2.2.2.2.2.2.2.2.1,.int .i64 a.2.2.2.2.2.2.2.2.2.2.2.2.2.2.2.2.2.1,.int .i64 a.2.2.2.2.2.2.2.2.2.2.2.2.2.2.2.2.2.2.1,.int .i64 a.2.2.2.2.2.2.2.2.2.2.2.2.2.2.2.2.2.2.2.1,.ro true 89 t11 a.2.2.2.2.2.2.2.2.2.2.2.2.2.2.2.2.2.2.2.2.1,.ro true 91 t12 a.2.2.2.2.2.2.2.2.2.2.2.2.2.2.2.2.2.2.2.2.2]⟩),(100002,⟨0,.agg,[.int .i64 0,.bool false,.bool false,.bool false,.int .i64 0,.int .i64 0,.int .i64 0,.int .i64 0,.nil,.nil,.int .i64 0,.int .i64 0,.int .i64 0,.bool false,.nil,.int .i64 0,.int .i64 0,.int .i64 0,.int .i64 0,.nil,.nil]⟩)]
theorem Q100.o:So (Q100.c K):=fS T_NT_ok (gc (Q75.o K) (gc (Q79.o K) g0)) Tryz.func275
theorem Q101.o:So (Q101.c K):=fS T_S_ok (g0) Tryz.func276
theorem Q102.o:So (Q102.c K):=fS T_NT_ok (gc (Q12.o K) (gc (Q13.o K) (gc (Q77.o K) g0))) Tryz.func277
theorem Q103.o:So (Q103.c K):=fS T_NT_ok (gc (Q10.o K) (gc (Q20.o K) (gc (Q98.o K) (gc (Q99.o K) (gc (Q22.o K) (gc (Q41.o K) (gc (Q100.o K) (gc (Q101.o K) (gc (Q102.o K) g0))))))))) Tryz.func230
theorem Q104.o:bI Tryz.prog (Q104.c K):=bI.thin (Q103.o K) (by decide) (λx=>x) (λ_=>HEq.rfl) (λ_=>rfl)
theorem Q105.o:So (Q105.c K):=fS T_NS_ok (gc (Q10.o K) (gc (Q81.o K) (gc (Q82.o K) (gc (Q74.o K) (gc (Q104.o K) g0))))) Tryz.func154
theorem Q106.o:So (Q106.c K):=fM T_ND_ok (g0) Tryz.func49 (Q106.eqn K)
theorem Q107.o:So (Q107.c K):=fL T_NS_ok (gc (Q106.o K) g0) Tryz.func155 4 [(1,[.keep]),(2,[.keep]),(3,[.keep]),(4,[.keep]),(100001,[.ro true 33 t26,.ro true 121 t40,.ro true 3 I6,.ro true 46 t2]),(100002,Kc1),(100003,[.own false 33 t38,.own false 121 t40,.own false 3 I6,.own false 46 t2])] [1,1,0,1,0] (Q107.s0 K) (Q107.pre K) λx a=>av [(1,⟨0,.one,[.bp 100001 0]⟩),(2,⟨0,.one,[.bp 100002 0]⟩),(3,⟨0,.one,[.bp 100003 0]⟩),(4,⟨0,.one,[.int .i64 a.1]⟩),(100001,⟨0,.agg,(w4 x.1)⟩),(100002,⟨0,.agg,[.nil,.nil,.nil,.nil]⟩),(100003,⟨0,.agg,[.own false none 33 t38 a.2,.own false none 121 t40 ([]++x.1.2.1),.own false none 3 I6 ([]++x.1.2.2.1),.own false none 46 t2 ([]++x.1.2.2.2)]⟩)]
theorem Q108.o:So (Q108.c K):=fL T_S_ok (gc (Q105.o K) (gc (Q107.o K) g0)) Tryz.func152 3 [(1,[.own false 151 t2]),(2,[.keep]),(4,[.keep]),(5,[.keep]),(100002,[.ro true 33 t26,.ro true 121 t40,.ro true 3 I6,.ro true 46 t2]),(100004,Kc1)] [1,0,1,0] (Q108.s0 K) (Q108.pre K) λx a=>av [(1,⟨0,.one,[.own false none 151 t2 x.2.1]⟩),(2,⟨0,.one,[.bp 100002 0]⟩),(4,⟨0,.one,[.bp 100004 0]⟩),(5,⟨0,.one,[.int .i64 a.1]⟩),(100002,⟨0,.agg,[.ro true 33 t26 a.2.1,.ro true 121 t40 a.2.2.1,.ro true 3 I6 a.2.2.2.1,.ro true 46 t2 a.2.2.2.2]⟩),(100004,⟨0,.agg,[.nil,.nil,.nil,.nil]⟩)]
theorem Q109.o:So (Q109.c K):=fS T_S_ok (gc (Q9.o K) g0) Tryz.func226
theorem Q110.o:So (Q110.c K):=fS T_S_ok (gc (Q9.o K) (gc (Q109.o K) g0)) Tryz.func153
theorem Q111.o:So (Q111.c K):=fM T_S_ok (gc (Q9.o K) (gc (Q14.o K) (gc (Q108.o K) (gc (Q110.o K) (gc (Q105.o K) (gc (Q107.o K) g0)))))) Tryz.func100 (Q111.eqn K)
theorem Q112.o:So (Q112.c K):=fS T_S_ok (gc (Q111.o K) g0) Tryz.func41
theorem Q113.o:So (Q113.c K):=fS T_S_ok (gc (Q9.o K) (gc (Q13.o K) g0)) Tryz.func231
theorem Q114.o:So (Q114.c K):=fL T_S_ok (gc (Q9.o K) (gc (Q32.o K) (gc (Q113.o K) g0))) Tryz.func156 4 [(0,[.keep]),(1,[.keep]),(5,[.own false 46 t2]),(6,[.keep]),(100000,[.ro true 5 (.int .u8),.keep])] [1,1,0,1,0] (Q114.s0 K) (Q114.pre K) λx a=>av [(0,⟨0,.one,[.bp 100000 0]⟩),(1,⟨0,.one,[.int .i64 x.2.1]⟩),(5,⟨0,.one,[.own false none 46 t2 a.1]⟩),(6,⟨0,.one,[.int .i64 a.2.1]⟩),(100000,⟨0,.agg,[.ro true 5 (.int .u8) a.2.2.1,.int .i64 a.2.2.2]⟩)]
theorem Q115.o:So (Q115.c K):=fS T_S_ok (gc (Q9.o K) (gc (Q113.o K) g0)) Tryz.func157
theorem Q116.o:So (Q116.c K):=fS T_S_ok (gc (Q9.o K) (gc (Q114.o K) (gc (Q115.o K) g0))) Tryz.func101
theorem Q117.o:So (Q117.c K):=fL T_S_ok (gc (Q9.o K) (gc (Q114.o K) g0)) Tryz.func158 5 [(0,[.keep]),(5,[.own false 133 t3]),(6,[.own false 46 t2]),(7,[.keep]),(100000,[.ro true 5 (.int .u8),.keep])] [1,1,1,0,1,0] (Q117.s0 K) (Q117.pre K) λx a=>av [(0,⟨0,.one,[.bp 100000 0]⟩),(5,⟨0,.one,[.own false none 133 t3 a.1]⟩),(6,⟨0,.one,[.own false none 46 t2 a.2.1]⟩),(7,⟨0,.one,[.int .i64 a.2.2.1]⟩),(100000,⟨0,.agg,[.ro true 5 (.int .u8) a.2.2.2.1,.int .i64 a.2.2.2.2]⟩)]
theorem Q118.o:So (Q118.c K):=fS T_S_ok (gc (Q9.o K) (gc (Q115.o K) (gc (Q117.o K) g0))) Tryz.func102
theorem Q119.o:So (Q119.c K):=fS T_S_ok (gc (Q9.o K) (gc (Q11.o K) g0)) Tryz.func159
theorem Q120.o:So (Q120.c K):=fS T_S_ok (gc (Q9.o K) (gc (Q119.o K) g0)) Tryz.func103
theorem Q121.o:So (Q121.c K):=fS T_S_ok (gc (Q9.o K) (gc (Q106.o K) (gc (Q116.o K) (gc (Q118.o K) (gc (Q120.o K) g0))))) Tryz.func43
theorem Q122.o:So (Q122.c K):=fS T_WF_ok (gc (Q9.o K) (gc (Q114.o K) (gc (Q119.o K) g0))) Tryz.func166
theorem Q123.o:So (Q123.c K):=fS T_WF_ok (gc (Q9.o K) (gc (Q120.o K) (gc (Q115.o K) (gc (Q122.o K) g0)))) Tryz.func105
theorem Q124.o:So (Q124.c K):=fL T_S_ok (gc (Q9.o K) (gc (Q20.o K) (gc (Q73.o K) (gc (Q123.o K) g0)))) Tryz.func44 3 [(0,[.keep]),(4,[.keep]),(5,[.keep]),(6,[.keep]),(7,[.keep]),(100000,[.ro true 5 (.int .u8),.keep]),(100004,[.ro true 33 t26,.ro true 121 t40,.ro true 3 I6,.ro true 46 t2]),(100005,Kc0),(100006,Kc4)] [1,0,1,0] (Q124.s0 K) (Q124.pre K) λx a=>av [(0,⟨0,.one,[.bp 100000 0]⟩),(4,⟨0,.one,[.bp 100004 0]⟩),(5,⟨0,.one,[.bp 100005 0]⟩),(6,⟨0,.one,[.bp 100006 0]⟩),(7,⟨0,.one,[.int .i64 a.1]⟩),(100000,⟨0,.agg,[.ro true 5 (.int .u8) a.2.1,.int .i64 a.2.2]⟩),(100004,⟨0,.agg,(w4 x.2.1)⟩),(100005,⟨0,.agg,(w1 x.2.2.1)⟩),(100006,⟨0,.agg,[.int .i64 0,.int .i64 0,.int .i64 0,.int .i64 0,.int .i64 0,.int .i64 0,.int .i64 0,.int .i64 0,.int .i64 0,.int .i64 0,.nil]⟩)]
theorem Q125.o:So (Q125.c K):=fS T_S_ok (gc (Q8.o K) (gc (Q112.o K) (gc (Q9.o K) (gc (Q121.o K) (gc (Q124.o K) g0))))) Tryz.func12
theorem Q126.o:So (Q126.c K):=fS T_NL_ok (g0) Tryz.func80
theorem Q127.o:So (Q127.c K):=fS T_NL_ok (gc (Q126.o K) g0) Tryz.func79
theorem Q128.o:So (Q128.c K):=fS T_NL_ok (g0) Tryz.func81
theorem Q129.o:So (Q129.c K):=fS T_NL_ok (gc (Q127.o K) (gc (Q126.o K) g0)) Tryz.func119
theorem Q130.o:So (Q130.c K):=fL T_NL_ok (gc (Q129.o K) g0) Tryz.func61 3 [(0,[.ro true 46 t2]),(5,[.ro true 46 t2]),(6,[.keep]),(7,[.keep])] [1,0,1,0] (Q130.s0 K) (Q130.pre K) λx a=>av [(0,⟨0,.one,[.ro true 46 t2 x.1]⟩),(5,⟨0,.one,[.ro true 46 t2 x.1]⟩),(6,⟨0,.one,[.int .i64 (FJ x.1:Int)]⟩),(7,⟨0,.one,[.int .i64 a]⟩)]
theorem Q131.o:So (Q131.c K):=fL T_NL_ok (g0) Tryz.func122 4 [(0,[.ro true 46 t2]),(1,[.keep]),(2,[.keep]),(8,[.keep]),(9,[.keep]),(10,[.keep])] [1,1,1,0,0] (Q131.s0 K) (Q131.pre K) λx a=>av [(0,⟨0,.one,[.ro true 46 t2 x.1]⟩),(1,⟨0,.one,[.int .i64 x.2.1]⟩),(2,⟨0,.one,[.fn [t2,I6] I6 x.2.2.1]⟩),(8,⟨0,.one,[.int .i64 (FJ x.1:Int)]⟩),(9,⟨0,.one,[.int .i64 a.1]⟩),(10,⟨0,.one,[.int .i64 a.2]⟩)]
theorem Q132.o:So (Q132.c K):=fS T_NL_ok (g0) Tryz.func194
theorem Q133.o:So (Q133.c K):=fS T_NL_ok (gc (Q132.o K) g0) Tryz.func124
theorem Q134.o:So (Q134.c K):=fS T_NL_ok (gc (Q133.o K) g0) Tryz.func123
theorem Q135.o:So (Q135.c K):=fS T_NL_ok (gc (Q131.o K) (gc (Q134.o K) g0)) Tryz.func64
theorem Q136.o:So (Q136.c K):=fS T_NL_ok (gc (Q130.o K) (gc (Q135.o K) g0)) Tryz.func20
theorem Q137.o:So (Q137.c K):=fL T_NL_ok (g0) Tryz.func190 3 [(0,[.ro true 46 t2]),(1,[.keep]),(7,[.keep]),(8,[.keep])] [1,0,1,0] (Q137.s0 K) (Q137.pre K) λx a=>av [(0,⟨0,.one,[.ro true 46 t2 x.1]⟩),(1,⟨0,.one,[.fn [t2] .bool x.2.1]⟩),(7,⟨0,.one,[.int .i64 (FJ x.1:Int)]⟩),(8,⟨0,.one,[.int .i64 a]⟩)]
theorem Q138.o:So (Q138.c K):=fS T_NL_ok (gc (Q137.o K) g0) Tryz.func117
theorem Q139.o:So (Q139.c K):=fS T_NL_ok (g0) Tryz.func55
theorem Q140.o:So (Q140.c K):=fS T_NL_ok (gc (Q139.o K) g0) Tryz.func118
theorem Q141.o:So (Q141.c K):=fS T_NL_ok (gc (Q138.o K) (gc (Q140.o K) g0)) Tryz.func53
theorem Q142.o:So (Q142.c K):=fS T_NL_ok (gc (Q139.o K) g0) Tryz.func54
theorem Q143.o:So (Q143.c K):=fL T_NL_ok (g0) Tryz.func205 3 [(0,[.ro true 133 t3]),(1,[.keep]),(7,[.keep]),(8,[.keep])] [1,0,1,0] (Q143.s0 K) (Q143.pre K) λx a=>av [(0,⟨0,.one,[.ro true 133 t3 x.1]⟩),(1,⟨0,.one,[.fn [t3] .bool x.2.1]⟩),(7,⟨0,.one,[.int .i64 (FJ x.1:Int)]⟩),(8,⟨0,.one,[.int .i64 a]⟩)]
theorem Q144.o:So (Q144.c K):=fS T_NL_ok (gc (Q143.o K) g0) Tryz.func135
theorem Q145.o:So (Q145.c K):=fS T_NL_ok (gc (Q126.o K) g0) Tryz.func203
theorem Q146.o:So (Q146.c K):=fL T_NL_ok (g0) Tryz.func204 4 [(3,[.own false 46 t2]),(6,[.ro true 133 t3]),(7,[.keep]),(8,[.keep])] [1,1,0,1,0] (Q146.s0 K) (Q146.pre K) λx a=>av [(3,⟨0,.one,[.own false none 46 t2 a.1]⟩),(6,⟨0,.one,[.ro true 133 t3 x.1]⟩),(7,⟨0,.one,[.int .i64 (FJ x.1:Int)]⟩),(8,⟨0,.one,[.int .i64 a.2]⟩)]
theorem Q147.o:So (Q147.c K):=fS T_NL_ok (gc (Q130.o K) (gc (Q144.o K) (gc (Q145.o K) (gc (Q146.o K) g0)))) Tryz.func134
theorem Q148.o:So (Q148.c K):=fL T_NL_ok (g0) Tryz.func193 4 [(3,[.keep]),(6,[.ro true 3 I6]),(7,[.keep]),(8,[.keep])] [1,1,0,1,0] (Q148.s0 K) (Q148.pre K) λx a=>av [(3,⟨0,.one,[.int .i64 0]⟩),(6,⟨0,.one,[.ro true 3 I6 x.1]⟩),(7,⟨0,.one,[.int .i64 (FJ x.1:Int)]⟩),(8,⟨0,.one,[.int .i64 a]⟩)]
theorem Q149.o:So (Q149.c K):=fS T_NL_ok (gc (Q133.o K) (gc (Q148.o K) g0)) Tryz.func121
theorem Q150.o:So (Q150.c K):=fS T_NL_ok (gc (Q129.o K) (gc (Q149.o K) g0)) Tryz.func93
theorem Q151.o:So (Q151.c K):=fS T_NL_ok (gc (Q136.o K) (gc (Q150.o K) g0)) Tryz.func136
theorem Q152.o:So (Q152.c K):=fS T_NL_ok (gc (Q136.o K) (gc (Q141.o K) (gc (Q142.o K) (gc (Q147.o K) (gc (Q144.o K) (gc (Q151.o K) g0)))))) Tryz.func82
theorem Q153.o:So (Q153.c K):=fS T_NL_ok (gc (Q136.o K) (gc (Q126.o K) g0)) Tryz.func83
theorem Q154.o:So (Q154.c K):=fS T_NL_ok (gc (Q142.o K) (gc (Q139.o K) (gc (Q127.o K) g0))) Tryz.func52
theorem Q155.o:So (Q155.c K):=fM T_NL_ok (gc (Q154.o K) (gc (Q126.o K) g0)) Tryz.func84 (Q155.eqn K)
theorem Q156.o:So (Q156.c K):=fS T_NL_ok (gc (Q126.o K) g0) Tryz.func85
theorem Q157.o:So (Q157.c K):=fS T_NL_ok (gc (Q154.o K) g0) Tryz.func110
theorem Q158.o:So (Q158.c K):=fS T_NL_ok (gc (Q126.o K) g0) Tryz.func137
theorem Q159.o:So (Q159.c K):=fL T_NL_ok (g0) Tryz.func206 3 [(0,[.ro true 3 I6]),(1,[.keep]),(7,[.keep]),(8,[.keep])] [1,0,1,0] (Q159.s0 K) (Q159.pre K) λx a=>av [(0,⟨0,.one,[.ro true 3 I6 x.1]⟩),(1,⟨0,.one,[.fn [I6] .bool x.2.1]⟩),(7,⟨0,.one,[.int .i64 (FJ x.1:Int)]⟩),(8,⟨0,.one,[.int .i64 a]⟩)]
theorem Q160.o:So (Q160.c K):=fS T_NL_ok (gc (Q159.o K) g0) Tryz.func138
theorem Q161.o:So (Q161.c K):=fL T_NL_ok (gc (Q126.o K) (gc (Q156.o K) (gc (Q157.o K) (gc (Q158.o K) (gc (Q160.o K) g0))))) Tryz.func86 4 [(1,[.keep]),(3,[.keep]),(7,[.ro true 89 t11]),(8,[.keep]),(9,[.keep]),(100001,Kc0)] [1,1,0,1,0] (Q161.s0 K) (Q161.pre K) λx a=>av [(1,⟨0,.one,[.bp 100001 0]⟩),(3,⟨0,.one,[.clo 137 []]⟩),(7,⟨0,.one,[.ro true 89 t11 x.1.2.2.2.2.2.2.2.2.2.2.2.2.2.1]⟩),(8,⟨0,.one,[.int .i64 (FJ x.1.2.2.2.2.2.2.2.2.2.2.2.2.2.1:Int)]⟩),(9,⟨0,.one,[.int .i64 a]⟩),(100001,⟨0,.agg,(w1 x.1)⟩)]
theorem Q162.o:So (Q162.c K):=fL T_NL_ok (gc (Q141.o K) (gc (Q142.o K) (gc (Q139.o K) (gc (Q130.o K) (gc (Q126.o K) g0))))) Tryz.func87 3 [(1,[.keep]),(6,[.ro true 91 t12]),(7,[.keep]),(8,[.keep]),(100001,Kc0)] [1,0,1,0] (Q162.s0 K) (Q162.pre K) λx a=>av [(1,⟨0,.one,[.bp 100001 0]⟩),(6,⟨0,.one,[.ro true 91 t12 x.1.2.2.2.2.2.2.2.2.2.2.2.2.2.2]⟩),(7,⟨0,.one,[.int .i64 (FJ x.1.2.2.2.2.2.2.2.2.2.2.2.2.2.2:Int)]⟩),(8,⟨0,.one,[.int .i64 a]⟩),(100001,⟨0,.agg,(w1 x.1)⟩)]
theorem Q163.o:So (Q163.c K):=fS T_NL_ok (gc (Q127.o K) (gc (Q126.o K) (gc (Q128.o K) (gc (Q152.o K) (gc (Q153.o K) (gc (Q155.o K) (gc (Q156.o K) (gc (Q161.o K) (gc (Q162.o K) g0))))))))) Tryz.func26
theorem Q164.o:So (Q164.c K):=fS T_NL_ok (gc (Q141.o K) (gc (Q139.o K) (gc (Q130.o K) (gc (Q127.o K) (gc (Q126.o K) (gc (Q156.o K) g0)))))) Tryz.func50
theorem Q165.o:So (Q165.c K):=fS T_NL_ok (g0) Tryz.func51
theorem Q166.o:So (Q166.c K):=fS T_NL_ok (gc (Q163.o K) (gc (Q164.o K) (gc (Q165.o K) (gc (Q154.o K) (gc (Q141.o K) (gc (Q142.o K) (gc (Q139.o K) g0))))))) Tryz.func15
theorem Q167.o:So (Q167.c K):=fS T_NL_ok (gc (Q166.o K) g0) Tryz.func46
theorem Q168.o:So (Q168.c K):=fM T_NL_ok (gc (Q1.o K) (gc (Q2.o K) (gc (Q3.o K) g0))) Tryz.func106 (Q168.eqn K)
theorem Q169.o:So (Q169.c K):=fS T_D_ok (g0) Tryz.func107
theorem Q170.o:So (Q170.c K):=fS T_NL_ok (gc (Q163.o K) (gc (Q167.o K) (gc (Q168.o K) (gc (Q169.o K) g0)))) Tryz.func45
theorem Q171.o:So (Q171.c K):=fS T_NL_ok (gc (Q170.o K) g0) Tryz.func13
theorem Q172.o:So (Q172.c K):=fL T_NL_ok (g0) Tryz.func23 5 [(0,[.ro true 46 t2]),(1,[.ro true 46 t2]),(5,[.keep])] [1,1,0,1,0] (Q172.s0 K) (Q172.pre K) λx a=>av [(0,⟨0,.one,[.ro true 46 t2 x.1]⟩),(1,⟨0,.one,[.ro true 46 t2 x.2.1]⟩),(5,⟨0,.one,[.int .i64 a]⟩)]
theorem Q173.o:So (Q173.c K):=fL T_NL_ok (g0) Tryz.func56 5 [(0,[.ro true 133 t3]),(1,[.ro true 133 t3]),(5,[.keep])] [1,1,0,1,0] (Q173.s0 K) (Q173.pre K) λx a=>av [(0,⟨0,.one,[.ro true 133 t3 x.1]⟩),(1,⟨0,.one,[.ro true 133 t3 x.2.1]⟩),(5,⟨0,.one,[.int .i64 a]⟩)]
theorem Q174.o:So (Q174.c K):=fL T_NL_ok (g0) Tryz.func57 5 [(0,[.ro true 3 I6]),(1,[.ro true 3 I6]),(5,[.keep])] [1,1,0,1,0] (Q174.s0 K) (Q174.pre K) λx a=>av [(0,⟨0,.one,[.ro true 3 I6 x.1]⟩),(1,⟨0,.one,[.ro true 3 I6 x.2.1]⟩),(5,⟨0,.one,[.int .i64 a]⟩)]
theorem Q175.o:So (Q175.c K):=fM T_NL_ok (gc (Q172.o K) (gc (Q173.o K) (gc (Q174.o K) g0))) Tryz.func16 (Q175.eqn K)
theorem Q176.o:So (Q176.c K):=fS T_NL_ok (gc (Q172.o K) g0) Tryz.func58
theorem Q177.o:So (Q177.c K):=fL T_NL_ok (gc (Q176.o K) g0) Tryz.func17 5 [(0,[.ro true 35 t47]),(1,[.ro true 35 t47]),(5,[.keep])] [1,1,0,1,0] (Q177.s0 K) (Q177.pre K) λx a=>av [(0,⟨0,.one,[.ro true 35 t47 x.1]⟩),(1,⟨0,.one,[.ro true 35 t47 x.2.1]⟩),(5,⟨0,.one,[.int .i64 a]⟩)]
theorem Q178.o:So (Q178.c K):=fS T_S_ok (gc (Q23.o K) g0) Tryz.func69
theorem Q179.o:So (Q179.c K):=fL T_S_ok (gc (Q10.o K) (gc (Q15.o K) g0)) Tryz.func126 3 [(0,[.ro true 133 t3]),(3,[.keep])] [1,0,1,0] (Q179.s0 K) (Q179.pre K) λx a=>av [(0,⟨0,.one,[.ro true 133 t3 x.1]⟩),(3,⟨0,.one,[.int .i64 a]⟩)]
theorem Q180.o:So (Q180.c K):=fL T_S_ok (gc (Q23.o K) (gc (Q179.o K) (gc (Q24.o K) g0))) Tryz.func70 5 [(1,[.keep]),(3,[.keep]),(100001,Kc0)] [1,1,0,1,0] (Q180.s0 K) (Q180.pre K) λx a=>av [(1,⟨0,.one,[.bp 100001 0]⟩),(3,⟨0,.one,[.int .i64 a]⟩),(100001,⟨0,.agg,(w1 x.1)⟩)]
theorem Q181.o:So (Q181.c K):=fS T_S_ok (gc (Q10.o K) (gc (Q23.o K) g0)) Tryz.func71
theorem Q182.o:So (Q182.c K):=fM T_S_ok (gc (Q10.o K) (gc (Q20.o K) (gc (Q23.o K) g0))) Tryz.func72 (Q182.eqn K)
theorem Q183.o:So (Q183.c K):=fM T_S_ok (gc (Q10.o K) (gc (Q20.o K) (gc (Q18.o K) g0))) Tryz.func74 (Q183.eqn K)
theorem Q184.o:So (Q184.c K):=fL T_S_ok (gc (Q10.o K) (gc (Q16.o K) (gc (Q17.o K) (gc (Q20.o K) g0)))) Tryz.func75 3 [(1,[.keep]),(3,[.keep]),(100001,Kc0)] [1,0,1,0] (Q184.s0 K) (Q184.pre K) λx a=>av [(1,⟨0,.one,[.bp 100001 0]⟩),(3,⟨0,.one,[.int .i64 a]⟩),(100001,⟨0,.agg,(w1 x.1)⟩)]
theorem Q185.o:So (Q185.c K):=fS T_S_ok (gc (Q10.o K) (gc (Q16.o K) (gc (Q17.o K) (gc (Q20.o K) (gc (Q178.o K) (gc (Q180.o K) (gc (Q181.o K) (gc (Q182.o K) (gc (Q18.o K) (gc (Q183.o K) (gc (Q184.o K) g0))))))))))) Tryz.func22
theorem Q186.o:So (Q186.c K):=fS T_NL_ok (gc (Q165.o K) g0) Tryz.func78
theorem Q187.o:So (Q187.c K):=fS T_NL_ok (gc (Q186.o K) g0) Tryz.func77
theorem Q188.o:So (Q188.c K):=fS T_NL_ok (gc (Q163.o K) (gc (Q187.o K) (gc (Q168.o K) (gc (Q169.o K) g0)))) Tryz.func45
theorem Q189.o:So (Q189.c K):=fS T_NL_ok (gc (Q188.o K) g0) Tryz.func25
theorem Q190.o:So (Q190.c K):=fS T_S_ok (gc (Q112.o K) (gc (Q9.o K) g0)) Tryz.func139
theorem Q191.o:So (Q191.c K):=fS T_S_ok (gc (Q9.o K) (gc (Q121.o K) (gc (Q190.o K) g0))) Tryz.func88
theorem Q192.o:So (Q192.c K):=fS T_S_ok (gc (Q8.o K) (gc (Q191.o K) g0)) Tryz.func32
theorem Q193.o:So (Q193.c K):=fS T_NL_ok (g0) Tryz.func174
theorem Q194.o:So (Q194.c K):=fS T_NL_ok (gc (Q1.o K) (gc (Q193.o K) g0)) Tryz.func112
theorem Q195.o:So (Q195.c K):=fS T_NL_ok (gc (Q1.o K) (gc (Q135.o K) (gc (Q4.o K) (gc (Q149.o K) g0)))) Tryz.func63
theorem Q196.o:So (Q196.c K):=fS T_NL_ok (gc (Q135.o K) (gc (Q129.o K) (gc (Q149.o K) (gc (Q147.o K) (gc (Q3.o K) (gc (Q146.o K) (gc (Q5.o K) g0))))))) Tryz.func214
theorem Q197.o:So (Q197.c K):=fL T_NL_ok (g0) Tryz.func272 3 [(0,[.ro true 86 t6]),(1,[.keep]),(7,[.keep]),(8,[.keep])] [1,0,1,0] (Q197.s0 K) (Q197.pre K) λx a=>av [(0,⟨0,.one,[.ro true 86 t6 x.1]⟩),(1,⟨0,.one,[.fn [t6] .bool x.2.1]⟩),(7,⟨0,.one,[.int .i64 (FJ x.1:Int)]⟩),(8,⟨0,.one,[.int .i64 a]⟩)]
theorem Q198.o:So (Q198.c K):=fS T_NL_ok (g0) Tryz.func216
theorem Q199.o:So (Q199.c K):=fL T_NL_ok (g0) Tryz.func217 4 [(0,[.ro true 86 t6]),(1,[.keep]),(2,[.keep]),(8,[.keep]),(9,[.keep]),(10,[.keep])] [1,1,1,0,0] (Q199.s0 K) (Q199.pre K) λx a=>av [(0,⟨0,.one,[.ro true 86 t6 x.1]⟩),(1,⟨0,.one,[.int .i64 x.2.1]⟩),(2,⟨0,.one,[.fn [t6,I6] I6 x.2.2.1]⟩),(8,⟨0,.one,[.int .i64 (FJ x.1:Int)]⟩),(9,⟨0,.one,[.int .i64 a.1]⟩),(10,⟨0,.one,[.int .i64 a.2]⟩)]
theorem Q200.o:So (Q200.c K):=fS T_NL_ok (g0) Tryz.func218
theorem Q6.says (K:Nat)(hK:1048577<K)(xs:List (Ty.den t6))(φ:Tup [t6]->Option Bool)(ht:xs.length<=1048576)(hφ:∀ x∈xs,∃ b,φ (x,())=some b):pf xs φ (Q197.f K (xs,φ,())):=by
 have:=cG (step:=λrec a=>Q197.s0 K (xs,φ,()) rec a) xs.length (λi=>(i:Int)) (λj=>∃ h:j<xs.length,φ (xs[j],())=some true) (some ((-1,()),())) (λj=>some ((((j:Nat):Int),()),())) ?_ ?_ xs.length K 0 (by omega) (by omega)
 ·rcases this with ⟨h1,h2⟩|⟨j,_,h1,⟨h3,h4⟩,h5,h2⟩
  ·refine .inl ⟨λx hx=>?_,(),h2⟩;obtain⟨i,hi,rfl⟩:=List.getElem_of_mem hx;obtain⟨b,hb⟩:=hφ _ (FM hi);cases b with
   |false=>exact hb
   |true=>exact absurd ⟨hi,hb⟩ (h1 i (Nat.zero_le _) hi)
  ·refine .inr ⟨j,xs[j],(),List.getElem?_eq_getElem h3,h4,λm y hm hy=>?_,h2⟩;obtain⟨hml,rfl⟩:=List.getElem?_eq_some_iff.1 hy;obtain⟨b,hb⟩:=hφ _ (FM hml);cases b with
   |false=>exact hb
   |true=>exact absurd ⟨hml,hb⟩ (h5 m (Nat.zero_le _) hm)
 ·intro rec i hi;simp only[Q197.s0];rw[decide_eq_true (by omega:(i:Int)<(FJ xs:Int)),af hi,ar i (by omega)];simp only[cond_true,Option.bind_some];obtain⟨b,hb⟩:=hφ _ (FM hi);rw[hb];cases b with
  |true=>exact .inr ⟨⟨hi,hb⟩,rfl⟩
  |false=>exact .inl ⟨λ⟨_,h⟩=>(by rw[hb]at h;cases h),rfl⟩
 ·intro rec;simp only[Q197.s0];rw[decide_eq_false (by omega:¬ ((xs.length:Int)<(FJ xs:Int)))];rfl
theorem Q6.o:bI Tryz.prog (Q6.c K):=oR (e:=t50) (e':=t6) (cv:=λx=>x) (λ_=>HEq.rfl) (by kernel_rfl) (c7 Tryz.func215 (by kernel_rfl) rfl) (by kernel_rfl) (by kernel_rfl) (Q197.o 1048578) (λxs φ h1 h2=>Q6.says 1048578 (by omega) xs φ h1 h2) Q6.walk
theorem Q201.o:So (Q201.c K):=fS T_NL_ok (gc (Q136.o K) (gc (Q195.o K) (gc (Q196.o K) (gc (Q6.o K) (gc (Q198.o K) (gc (Q199.o K) (gc (Q200.o K) (gc (Q7.o K) g0)))))))) Tryz.func145
theorem Q202.o:So (Q202.c K):=fL T_NL_ok (g0) Tryz.func146 4 [(1,[.keep]),(5,[.own false 3 I6]),(8,[.ro true 46 t2]),(9,[.keep]),(10,[.keep])] [1,1,0,1,0] (Q202.s0 K) (Q202.pre K) λx a=>av [(1,⟨0,.one,[.fn [t2] .bool x.2.1]⟩),(5,⟨0,.one,[.own false none 3 I6 a.1]⟩),(8,⟨0,.one,[.ro true 46 t2 x.1]⟩),(9,⟨0,.one,[.int .i64 (FJ x.1:Int)]⟩),(10,⟨0,.one,[.int .i64 a.2]⟩)]
theorem Q203.o:So (Q203.c K):=fS T_NL_ok (gc (Q136.o K) g0) Tryz.func220
theorem Q204.o:So (Q204.c K):=fS T_NL_ok (gc (Q126.o K) (gc (Q203.o K) g0)) Tryz.func148
theorem Q205.o:So (Q205.c K):=fS T_NL_ok (gc (Q204.o K) g0) Tryz.func147
theorem Q206.o:So (Q206.c K):=fL T_NL_ok (gc (Q165.o K) (gc (Q194.o K) (gc (Q201.o K) (gc (Q202.o K) (gc (Q205.o K) g0))))) Tryz.func94 8 [(0,[.keep]),(1,[.keep]),(3,[.own false 35 t59]),(38,[.own false 3 I6]),(39,[.keep]),(40,[.keep]),(100000,[.keep,.keep,.keep,.keep,.keep,.keep,.keep,.keep,.own false 46 t2,.own false 133 t3,.keep,.keep,.keep,.keep,.own false 86 t50,.keep,.keep,.keep,.keep,.own false 89 t52,.own true 91 t12]),(100001,[.keep])] [1,1,1,1,1,0,1,0] (Q206.s0 K) (Q206.pre K) λx a=>av [(0,⟨0,.one,[.bp 100000 0]⟩),(1,⟨0,.one,[.bp 100001 0]⟩),(3,⟨0,.one,[.own false none 35 t59 a.1]⟩),(38,⟨0,.one,[.own false none 3 I6 a.2.1]⟩),(39,⟨0,.one,[.int .i64 a.2.2.1]⟩),(40,⟨0,.one,[.int .i64 a.2.2.2.1]⟩),(100000,⟨0,.agg,[.int .i64 a.2.2.2.2.1,.bool a.2.2.2.2.2.1,.bool true,.bool a.2.2.2.2.2.2.1,.int .i64 a.2.2.2.2.2.2.2.1,.int .i64 a.2.2.2.2.2.2.2.2.1,.int .i64 a.2.2.2.2.2.2.2.2.2.1,.int .i64 a.2.2.2.2.2.2.2.2.2.2.1,.own false none 46 t2 a.2.2.2.2.2.2.2.2.2.2.2.1,.own false none 133 t3 a.2.2.2.2.2.2.2.2.2.2.2.2.1,.int .i64 a.2.2.2.2.2.2.2.2.2.2.2.2.2.1,.int .i64 a.2.2.2.2.2.2.2.2.2.2.2.2.2.2.1,.int .i64 a.2.2.2.2.2.2.2.2.2.2.2.2.2.2.2.1,.bool a.2.2.2.2.2.2.2.2.2.2.2.2.2.2.2.2.1,.own false none 86 t50 a.2.2.2.2.2.2.2.2.2.2.2.2.2.2.2.2.2.1,.int .i64 a.2.2.2.2.2.2.2.2.2.2.2.2.2.2.2.2.2.2.1,.int .i64 a.2.2.2.2.2.2.2.2.2.2.2.2.2.2.2.2.2.2.2.1,.int .i64 a.2.2.2.2.2.2.2.2.2.2.2.2.2.2.2.2.2.2.2.2.1,.int .i64 a.2.2.2.2.2.2.2.2.2.2.2.2.2.2.2.2.2.2.2.2.2.1,.own false none 89 t52 a.2.2.2.2.2.2.2.2.2.2.2.2.2.2.2.2.2.2.2.2.2.2.1,.own true none 91 t12 a.2.2.2.2.2.2.2.2.2.2.2.2.2.2.2.2.2.2.2.2.2.2.2]⟩),(100001,⟨0,.agg,[.bp 100000 0]⟩)]
theorem Q207.o:So (Q207.c K):=fS T_NL_ok (gc (Q163.o K) (gc (Q206.o K) (gc (Q168.o K) (gc (Q169.o K) g0)))) Tryz.func45
theorem Q208.o:So (Q208.c K):=fS T_NL_ok (gc (Q207.o K) g0) Tryz.func33
theorem Q209.o:So (Q209.c K):=fS T_S_ok (gc (Q185.o K) (gc (Q106.o K) (gc (Q99.o K) g0))) Tryz.func34
theorem Q210.o:So (Q210.c K):=fL T_NL_ok (gc (Q125.o K) (gc (Q171.o K) (gc (Q175.o K) (gc (Q177.o K) (gc (Q136.o K) (gc (Q185.o K) (gc (Q189.o K) (gc (Q163.o K) (gc (Q192.o K) (gc (Q208.o K) (gc (Q209.o K) g0))))))))))) Tryz.func10 12 [(1,[.ro true 5 (.int .u8)]),(5,[.keep]),(6,[.keep]),(7,[.own false 35 t59]),(10,[.keep]),(100005,Kc0),(100006,[.keep,.keep,.keep,.keep,.keep,.keep,.keep,.keep,.own false 46 t2,.own false 133 t3,.keep,.keep,.keep,.keep,.own false 86 t50,.keep,.keep,.keep,.keep,.own false 89 t52,.own false 91 t12])] [1,1,1,1,1,1,1,0,1,0] (Q210.s0 K) (Q210.pre K) λx a=>av [(1,⟨0,.one,[.ro true 5 (.int .u8) x.2.1]⟩),(5,⟨0,.one,[.bp 100005 0]⟩),(6,⟨0,.one,[.bp 100006 0]⟩),(7,⟨0,.one,[.own false none 35 t59 a.1]⟩),(10,⟨0,.one,[.int .i64 a.2.1]⟩),(100005,⟨0,.agg,[.int .i64 a.2.2.1,.bool a.2.2.2.1,.bool a.2.2.2.2.1,.bool a.2.2.2.2.2.1,.int .i64 a.2.2.2.2.2.2.1,.int .i64 a.2.2.2.2.2.2.2.1,.int .i64 a.2.2.2.2.2.2.2.2.1,.int .i64 a.2.2.2.2.2.2.2.2.2.1,.ro true 46 t2 a.2.2.2.2.2.2.2.2.2.2.1,.ro true 133 t3 a.2.2.2.2.2.2.2.2.2.2.2.1,.int .i64 a.2.2.2.2.2.2.2.2.2.2.2.2.1,.int .i64 a.2.2.2.2.2.2.2.2.2.2.2.2.2.1,.int .i64 a.2.2.2.2.2.2.2.2.2.2.2.2.2.2.1,.bool a.2.2.2.2.2.2.2.2.2.2.2.2.2.2.2.1,.ro true 86 t6 a.2.2.2.2.2.2.2.2.2.2.2.2.2.2.2.2.1,.int .i64 a.2.2.2.2.2.2.2.2.2.2.2.2.2.2.2.2.2.1,.int .i64 a.2.2.2.2.2.2.2.2.2.2.2.2.2.2.2.2.2.2.1,.int .i64 a.2.2.2.2.2.2.2.2.2.2.2.2.2.2.2.2.2.2.2.1,.int .i64 a.2.2.2.2.2.2.2.2.2.2.2.2.2.2.2.2.2.2.2.2.1,.ro true 89 t11 a.2.2.2.2.2.2.2.2.2.2.2.2.2.2.2.2.2.2.2.2.2.1,.ro true 91 t12 a.2.2.2.2.2.2.2.2.2.2.2.2.2.2.2.2.2.2.2.2.2.2.1]⟩),(100006,⟨0,.agg,[.int .i64 a.2.2.2.2.2.2.2.2.2.2.2.2.2.2.2.2.2.2.2.2.2.2.2.1,.bool a.2.2.2.2.2.2.2.2.2.2.2.2.2.2.2.2.2.2.2.2.2.2.2.2.1,.bool a.2.2.2.2.2.2.2.2.2.2.2.2.2.2.2.2.2.2.2.2.2.2.2.2.2.1,.bool a.2.2.2.2.2.2.2.2.2.2.2.2.2.2.2.2.2.2.2.2.2.2.2.2.2.2.1,.int .i64 a.2.2.2.2.2.2.2.2.2.2.2.2.2.2.2.2.2.2.2.2.2.2.2.2.2.2.2.1,.int .i64 a.2.2.2.2.2.2.2.2.2.2.2.2.2.2.2.2.2.2.2.2.2.2.2.2.2.2.2.2.1,.int .i64 a.2.2.2.2.2.2.2.2.2.2.2.2.2.2.2.2.2.2.2.2.2.2.2.2.2.2.2.2.2.1,.int .i64 a.2.2.2.2.2.2.2.2.2.2.2.2.2.2.2.2.2.2.2.2.2.2.2.2.2.2.2.2.2.2.1,.own false none 46 t2 a.2.2.2.2.2.2.2.2.2.2.2.2.2.2.2.2.2.2.2.2.2.2.2.2.2.2.2.2.2.2.2.1,.own false none 133 t3 a.2.2.2.2.2.2.2.2.2.2.2.2.2.2.2.2.2.2.2.2.2.2.2.2.2.2.2.2.2.2.2.2.1,.int .i64 a.2.2.2.2.2.2.2.2.2.2.2.2.2.2.2.2.2.2.2.2.2.2.2.2.2.2.2.2.2.2.2.2.2.1,.int .i64 a.2.2.2.2.2.2.2.2.2.2.2.2.2.2.2.2.2.2.2.2.2.2.2.2.2.2.2.2.2.2.2.2.2.2.1,.int .i64 a.2.2.2.2.2.2.2.2.2.2.2.2.2.2.2.2.2.2.2.2.2.2.2.2.2.2.2.2.2.2.2.2.2.2.2.1,.bool a.2.2.2.2.2.2.2.2.2.2.2.2.2.2.2.2.2.2.2.2.2.2.2.2.2.2.2.2.2.2.2.2.2.2.2.2.1,.own false none 86 t50 a.2.2.2.2.2.2.2.2.2.2.2.2.2.2.2.2.2.2.2.2.2.2.2.2.2.2.2.2.2.2.2.2.2.2.2.2.2.1,.int .i64 a.2.2.2.2.2.2.2.2.2.2.2.2.2.2.2.2.2.2.2.2.2.2.2.2.2.2.2.2.2.2.2.2.2.2.2.2.2.2.1,.int .i64 a.2.2.2.2.2.2.2.2.2.2.2.2.2.2.2.2.2.2.2.2.2.2.2.2.2.2.2.2.2.2.2.2.2.2.2.2.2.2.2.1,.int .i64 a.2.2.2.2.2.2.2.2.2.2.2.2.2.2.2.2.2.2.2.2.2.2.2.2.2.2.2.2.2.2.2.2.2.2.2.2.2.2.2.2.1,.int .i64 a.2.2.2.2.2.2.2.2.2.2.2.2.2.2.2.2.2.2.2.2.2.2.2.2.2.2.2.2.2.2.2.2.2.2.2.2.2.2.2.2.2.1,.own false none 89 t52 a.2.2.2.2.2.2.2.2.2.2.2.2.2.2.2.2.2.2.2.2.2.2.2.2.2.2.2.2.2.2.2.2.2.2.2.2.2.2.2.2.2.2.1,.own false none 91 t12 a.2.2.2.2.2.2.2.2.2.2.2.2.2.2.2.2.2.2.2.2.2.2.2.2.2.2.2.2.2.2.2.2.2.2.2.2.2.2.2.2.2.2.2]⟩)]
end Go.Proofs.YtmibehbhnkeaiaaGreatEv
