/- The contracts are sound. Printed by run3.py. -/
import Derived.Test.YtadlacffdemoiaaGreatEqn0
import Derived.Test.YtadlacffdemoiaaGreatE6
import Derived.Test.YtadlacffdemoiaaGreatE3
import Derived.Test.YtadlacffdemoiaaGreatMan
import Derived.Test.YtadlacffdemoiaaGreatIns
import Derived.Test.YtadlacffdemoiaaGreatDel
import Derived.Test.YtadlacffdemoiaaGreatP0
set_option linter.unusedVariables false
set_option maxRecDepth 100000
set_option linter.unusedVariables false
set_option linter.unusedSimpArgs false
open Bool renaming not_eq_true'->BT,and_eq_true->BV
open List renaming length->BQ,getElem_mem->BR,getElem?_eq_some_iff->BS,getElem?_eq_getElem->BU,getElem_of_mem->BX
open Nat renaming zero_le->BW
open Option renaming bind_some->BY
namespace Go.Proofs.YtadlacffdemoiaaGreatEv
open Go Go.Proofs
abbrev So (c:Ctr):Prop:=bP Tryz.prog c
theorem g0:∀ c∈([]:List Ctr),So c:=by simp
theorem gc {a:Ctr}{l:List Ctr}(h:So a)(hl:∀ c∈l,So c):∀ c∈a::l,So c:=by
 intro c hc;rcases List.mem_cons.1 hc with rfl|hc
 ·exact h
 ·exact hl c hc
def fB (fn:Func):Bool:=fn.body.isSome&&!(fn.name== "runtime.NumGoroutine")
theorem fS {T:TypeId->TI}(hT:TOk Tryz.prog T){Γ:List Ctr}(hΓ:∀ c∈Γ,So c){c:Ctr}{fn:Func}(hf:Tryz.prog.funcs[c.f]?=some fn)(hb:fB fn=true:=by kernel_rfl)(hden:∀ x,evF Γ T [] 0 fn c.ps c.rs c.fresh x=c.den x:=by intro _;kernel_rfl):So c:=by
 simp only[fB,BV,BT]at hb;exact pD hT hΓ (by kernel_rfl) hf hb.2 hb.1 hden
theorem fL {T:TypeId->TI}(hT:TOk Tryz.prog T){Γ:List Ctr}(hΓ:∀ c∈Γ,So c){c:Ctr}{fn:Func}(hf:Tryz.prog.funcs[c.f]?=some fn){K:Nat}{A:Type}(key:Nat)(live:List (Nat×List Coe))(p:List Nat)
  (step:ab c.ps->(A->Option (aj c.rs×ai c.ps))->A->Option (aj c.rs×ai c.ps)) (pre:(A->Option (aj c.rs×ai c.ps))->ab c.ps->Option (aj c.rs×ai c.ps)) (S:ab c.ps->A->St)
  (hb:fB fn=true:=by kernel_rfl)
  (h1:∀ x r a,evK Γ T [(key,live)] K (sub (cG fn) (p++[0])) (S x a) (gO live r (kAt (evK Γ T [(key,live)] K) (cG fn) p (c9 T c.ps c.rs c.fresh fn.results.toList)))=step x (λa=>r (S x a)) a:=by intro _ _ _;kernel_rfl)
  (h2:∀ x,evF Γ T [(key,live)] K fn c.ps c.rs c.fresh x=pre (λa=>aT live (evK Γ T [(key,live)] K (sub (cG fn) (p++[0]))) K (S x a) (kAt (evK Γ T [(key,live)] K) (cG fn) p (c9 T c.ps c.rs c.fresh fn.results.toList))) x:=by intro _;kernel_rfl)
  (h3:∀ x,pre (ae (step x) K) x=c.den x:=by exact λ_=>rfl):So c:=by
 simp only[fB,BV,BT]at hb;refine pD hT hΓ (by kernel_rfl) hf hb.2 hb.1 λx=>(h2 x).trans (Eq.trans ?_ (h3 x))
 exact congrArg (λN=>pre N x) (funext λa=>kV live _ _ (S x) (step x) (λr a=>h1 x r a) K a)
theorem fM {T:TypeId->TI}(hT:TOk Tryz.prog T){Γ:List Ctr}(hΓ:∀ c∈Γ,So c){c:Ctr}{fn:Func}(hf:Tryz.prog.funcs[c.f]?=some fn){K:Nat}{L:List (Nat×List (Nat×List Coe))}(h:∀ x,evF Γ T L K fn c.ps c.rs c.fresh x=c.den x)(hb:fB fn=true:=by kernel_rfl):So c:=by
 simp only[fB,BV,BT]at hb;exact pD hT hΓ (by kernel_rfl) hf hb.2 hb.1 h
theorem T_D_ok:TOk Tryz.prog T_D:=ia (l:=Tl_D) (by kernel_rfl)
theorem T_ND_ok:TOk Tryz.prog T_ND:=ia (l:=Tl_ND) (by kernel_rfl)
theorem T_NL_ok:TOk Tryz.prog T_NL:=ia (l:=Tl_NL) (by kernel_rfl)
theorem T_NS_ok:TOk Tryz.prog T_NS:=ia (l:=Tl_NS) (by kernel_rfl)
theorem T_NT_ok:TOk Tryz.prog T_NT:=ia (l:=Tl_NT) (by kernel_rfl)
theorem T_S_ok:TOk Tryz.prog T_S:=ia (l:=Tl_S) (by kernel_rfl)
theorem T_WF_ok:TOk Tryz.prog T_WF:=ia (l:=Tl_WF) (by kernel_rfl)
theorem mixed:Tryz.prog.follows .mixedOrders=true:=by kernel_rfl
variable (K:Nat)
theorem Q0.o:bP Tryz.prog (Q0.c K):=by
 induction K with
 |zero=>exact⟨dr Tryz.func234 (by kernel_rfl) rfl,λ_ _ _ _ _ _ _ _ _ h=>by cases h⟩
 |succ k ih=>exact fS T_NL_ok (gc ih g0) Tryz.func234 (by kernel_rfl) λx=>by kernel_rfl
theorem Q11.o:So (Q11.c K):=fS T_S_ok (g0) Tryz.func28
theorem Q12.o:So (Q12.c K):=fS T_S_ok (g0) Tryz.func30
theorem Q13.o:So (Q13.c K):=fS T_S_ok (g0) Tryz.func51
theorem Q14.o:So (Q14.c K):=fS T_S_ok (g0) Tryz.func188
theorem Q15.o:So (Q15.c K):=fS T_S_ok (gc (Q13.o K) (gc (Q14.o K) g0)) Tryz.func179
theorem Q16.o:So (Q16.c K):=fS T_S_ok (g0) Tryz.func180
theorem Q17.o:So (Q17.c K):=fL T_S_ok (gc (Q15.o K) (gc (Q16.o K) g0)) Tryz.func120 4 [(0,[.keep]),(1,[.keep]),(2,[.keep]),(100000,Kc1),(100001,[.own false 33 t26,.keep,.own false 3 I6,.own false 40 t2])] [1,1,0,1,0] (Q17.s0 K) (Q17.pre K) λx a=>av [(0,⟨0,.one,[.bp 100000 0]⟩),(1,⟨0,.one,[.bp 100001 0]⟩),(2,⟨0,.one,[.int .i64 a.1]⟩),(100000,⟨0,.agg,[.nil,.nil,.nil,.nil]⟩),(100001,⟨0,.agg,[.own false none 33 t26 a.2.1,.nil,.own false none 3 I6 a.2.2.1,.own false none 40 t2 a.2.2.2]⟩)]
theorem Q18.o:So (Q18.c K):=fS T_S_ok (gc (Q13.o K) g0) Tryz.func106
theorem Q19.o:So (Q19.c K):=fL T_S_ok (gc (Q18.o K) g0) Tryz.func52 3 [(0,[.ro true 40 t2]),(3,[.keep])] [1,0,1,0] (Q19.s0 K) (Q19.pre K) λx a=>av [(0,⟨0,.one,[.ro true 40 t2 x.1]⟩),(3,⟨0,.one,[.int .i64 a]⟩)]
theorem Q20.o:So (Q20.c K):=fL T_S_ok (g0) Tryz.func53 3 [(0,[.ro true 40 t2]),(1,[.keep]),(5,[.keep])] [1,0,1,0] (Q20.s0 K) (Q20.pre K) λx a=>av [(0,⟨0,.one,[.ro true 40 t2 x.1]⟩),(1,⟨0,.one,[.int .i64 x.2.1]⟩),(5,⟨0,.one,[.int .i64 a]⟩)]
theorem Q21.o:So (Q21.c K):=fS T_S_ok (gc (Q13.o K) g0) Tryz.func59
theorem Q22.o:So (Q22.c K):=fS T_S_ok (gc (Q13.o K) (gc (Q19.o K) (gc (Q20.o K) (gc (Q21.o K) g0)))) Tryz.func64
theorem Q23.o:So (Q23.c K):=fS T_S_ok (g0) Tryz.func54
theorem Q24.o:So (Q24.c K):=fS T_S_ok (gc (Q20.o K) (gc (Q23.o K) g0)) Tryz.func65
theorem Q25.o:So (Q25.c K):=fL T_S_ok (g0) Tryz.func107 3 [(0,[.ro true 40 t2]),(1,[.keep]),(5,[.keep])] [1,0,1,0] (Q25.s0 K) (Q25.pre K) λx a=>av [(0,⟨0,.one,[.ro true 40 t2 x.1]⟩),(1,⟨0,.one,[.int .i64 x.2.1]⟩),(5,⟨0,.one,[.int .i64 a]⟩)]
theorem Q26.o:So (Q26.c K):=fS T_S_ok (g0) Tryz.func109
theorem Q27.o:So (Q27.c K):=fL T_S_ok (gc (Q25.o K) (gc (Q26.o K) g0)) Tryz.func186 10 [(0,[.ro true 40 t2]),(3,[.keep]),(8,[.keep]),(100003,Kc1)] [1,1,1,1,0,0] (Q27.s0 K) (Q27.pre K) λx a=>av [(0,⟨0,.one,[.ro true 40 t2 x.1]⟩),(3,⟨0,.one,[.bp 100003 0]⟩),(8,⟨0,.one,[.int .i64 a]⟩),(100003,⟨0,.agg,(w0 x.2.1)⟩)]
theorem Q28.o:So (Q28.c K):=fL T_S_ok (gc (Q26.o K) g0) Tryz.func221 5 [(0,[.ro true 50 t3]),(3,[.keep]),(5,[.own false 50 t3]),(6,[.keep]),(7,[.keep]),(100003,Kc1)] [1,1,1,0,1,0] (Q28.s0 K) (Q28.pre K) λx a=>av [(0,⟨0,.one,[.ro true 50 t3 x.1]⟩),(3,⟨0,.one,[.bp 100003 0]⟩),(5,⟨0,.one,[.own false none 50 t3 a.1]⟩),(6,⟨0,.one,[.bool a.2.1]⟩),(7,⟨0,.one,[.int .i64 a.2.2]⟩),(100003,⟨0,.agg,(w0 x.2.1)⟩)]
theorem Q29.o:So (Q29.c K):=fL T_S_ok (g0) Tryz.func222 5 [(2,[.keep]),(3,[.keep]),(4,[.keep]),(7,[.own true 83 t6]),(8,[.keep]),(9,[.keep]),(100003,Kc0),(100004,Kc1)] [1,1,1,0,1,0] (Q29.s0 K) (Q29.pre K) λx a=>av [(2,⟨0,.one,[.int .i64 x.2.2.1]⟩),(3,⟨0,.one,[.bp 100003 0]⟩),(4,⟨0,.one,[.bp 100004 0]⟩),(7,⟨0,.one,[.own true none 83 t6 a.1]⟩),(8,⟨0,.one,[.bool a.2.1]⟩),(9,⟨0,.one,[.int .i64 a.2.2]⟩),(100003,⟨0,.agg,(w1 x.1)⟩),(100004,⟨0,.agg,(w0 x.2.1)⟩)]
theorem Q30.o:So (Q30.c K):=fS T_NS_ok (gc (Q25.o K) (gc (Q27.o K) (gc (Q28.o K) (gc (Q29.o K) g0)))) Tryz.func163
theorem Q31.o:So (Q31.c K):=fS T_NS_ok (gc (Q25.o K) (gc (Q26.o K) (gc (Q30.o K) g0))) Tryz.func161
theorem Q32.o:So (Q32.c K):=fM T_NS_ok (g0) Tryz.func162 (Q32.eqn K)
theorem Q33.o:So (Q33.c K):=fL T_NS_ok (gc (Q31.o K) (gc (Q32.o K) (gc (Q30.o K) g0))) Tryz.func100 3 [(1,[.ro true 40 t2]),(2,[.keep]),(3,[.keep]),(6,[.keep]),(7,[.keep]),(100003,Kc3),(100006,Kc2)] [1,0,1,0] (Q33.s0 K) (Q33.pre K) λx a=>av [(1,⟨0,.one,[.ro true 40 t2 x.2.1]⟩),(2,⟨0,.one,[.int .i64 x.2.2.1]⟩),(3,⟨0,.one,[.bp 100003 0]⟩),(6,⟨0,.one,[.bp 100006 0]⟩),(7,⟨0,.one,[.int .i64 a.1]⟩),(100003,⟨0,.agg,[.int .i64 a.2.1,.bool a.2.2.1,.bool a.2.2.2.1,.bool a.2.2.2.2.1,.int .i64 a.2.2.2.2.2.1,.int .i64 a.2.2.2.2.2.2.1,.int .i64 a.2.2.2.2.2.2.2.1,.int .i64 a.2.2.2.2.2.2.2.2.1,.ro true 40 t2 a.2.2.2.2.2.2.2.2.2.1,.ro true 50 t3 a.2.2.2.2.2.2.2.2.2.2.1,.int .i64 a.2.2.2.2.2.2.2.2.2.2.2.1,.int .i64 a.2.2.2.2.2.2.2.2.2.2.2.2.1,.int .i64 a.2.2.2.2.2.2.2.2.2.2.2.2.2.1,.bool a.2.2.2.2.2.2.2.2.2.2.2.2.2.2.1,.own true none 83 t6 a.2.2.2.2.2.2.2.2.2.2.2.2.2.2.2.1,.int .i64 a.2.2.2.2.2.2.2.2.2.2.2.2.2.2.2.2.1,.int .i64 a.2.2.2.2.2.2.2.2.2.2.2.2.2.2.2.2.2.1,.int .i64 a.2.2.2.2.2.2.2.2.2.2.2.2.2.2.2.2.2.2.1,.int .i64 a.2.2.2.2.2.2.2.2.2.2.2.2.2.2.2.2.2.2.2.1,.ro true 86 t11 a.2.2.2.2.2.2.2.2.2.2.2.2.2.2.2.2.2.2.2.2.1,.ro true 55 t12 a.2.2.2.2.2.2.2.2.2.2.2.2.2.2.2.2.2.2.2.2.2]⟩),(100006,⟨0,.agg,[.int .i64 0,.bool false,.bool false,.bool false,.int .i64 0,.int .i64 0,.int .i64 0,.int .i64 0,.nil,.nil,.int .i64 0,.int .i64 0,.int .i64 0,.bool false,.nil,.int .i64 0,.int .i64 0,.int .i64 0,.int .i64 0,.nil,.nil]⟩)]
theorem Q34.o:So (Q34.c K):=fL T_S_ok (gc (Q25.o K) (gc (Q26.o K) g0)) Tryz.func186 10 [(0,[.own false 40 t2]),(3,[.keep]),(8,[.keep]),(100003,Kc1)] [1,1,1,1,0,0] (Q34.s0 K) (Q34.pre K) λx a=>av [(0,⟨0,.one,[.own false none 40 t2 x.1]⟩),(3,⟨0,.one,[.bp 100003 0]⟩),(8,⟨0,.one,[.int .i64 a]⟩),(100003,⟨0,.agg,(w0 x.2.1)⟩)]
theorem Q35.o:So (Q35.c K):=fL T_S_ok (gc (Q19.o K) (gc (Q34.o K) g0)) Tryz.func215 6 [(1,[.ro true 40 t2]),(5,[.own false 40 t2]),(6,[.keep])] [1,1,1,0,1,0] (Q35.s0 K) (Q35.pre K) λx a=>av [(1,⟨0,.one,[.ro true 40 t2 x.2.1]⟩),(5,⟨0,.one,[.own false none 40 t2 a.1]⟩),(6,⟨0,.one,[.int .i64 a.2]⟩)]
theorem Q36.o:So (Q36.c K):=fL T_S_ok (gc (Q35.o K) g0) Tryz.func155 3 [(1,[.keep]),(2,[.ro true 40 t2]),(3,[.keep]),(7,[.keep]),(100003,Kc0)] [1,0,1,0] (Q36.s0 K) (Q36.pre K) λx a=>av [(1,⟨0,.one,[.int .i64 x.2.1]⟩),(2,⟨0,.one,[.ro true 40 t2 x.2.2.1]⟩),(3,⟨0,.one,[.bp 100003 0]⟩),(7,⟨0,.one,[.int .i64 a]⟩),(100003,⟨0,.agg,(w1 x.1)⟩)]
theorem Q37.o:So (Q37.c K):=fL T_NS_ok (g0) Tryz.func156 6 [(1,[.keep]),(3,[.keep]),(6,[.keep]),(7,[.keep]),(8,[.own true 55 t12]),(9,[.keep]),(10,[.keep]),(100003,Kc3),(100006,Kc2),(100007,[.keep,.ro true 40 t2])] [1,1,1,1,0,1,0] (Q37.s0 K) (Q37.pre K) λx a=>av [(1,⟨0,.one,[.int .i64 x.2.1]⟩),(3,⟨0,.one,[.bp 100003 0]⟩),(6,⟨0,.one,[.bp 100006 0]⟩),(7,⟨0,.one,[.bp 100007 0]⟩),(8,⟨0,.one,[.own true none 55 t12 a.1]⟩),(9,⟨0,.one,[.bool a.2.1]⟩),(10,⟨0,.one,[.int .i64 a.2.2]⟩),(100003,⟨0,.agg,(w2 x.1)⟩),(100006,⟨0,.agg,[.int .i64 0,.bool false,.bool false,.bool false,.int .i64 0,.int .i64 0,.int .i64 0,.int .i64 0,.nil,.nil,.int .i64 0,.int .i64 0,.int .i64 0,.bool false,.nil,.int .i64 0,.int .i64 0,.int .i64 0,.int .i64 0,.nil,.nil]⟩),(100007,⟨0,.agg,[.int .i64 x.2.1,.ro true 40 t2 x.2.2.1]⟩)]
theorem Q38.o:So (Q38.c K):=fL T_S_ok (g0) Tryz.func157 5 [(0,[.ro true 40 t2]),(1,[.ro true 40 t2]),(5,[.keep])] [1,1,0,1,0] (Q38.s0 K) (Q38.pre K) λx a=>av [(0,⟨0,.one,[.ro true 40 t2 x.1]⟩),(1,⟨0,.one,[.ro true 40 t2 x.2.1]⟩),(5,⟨0,.one,[.int .i64 a]⟩)]
theorem Q39.o:So (Q39.c K):=fS T_S_ok (g0) Tryz.func158
theorem Q40.o:So (Q40.c K):=fS T_NS_ok (gc (Q20.o K) (gc (Q23.o K) (gc (Q33.o K) (gc (Q36.o K) (gc (Q37.o K) (gc (Q38.o K) (gc (Q39.o K) g0))))))) Tryz.func98
theorem Q41.o:So (Q41.c K):=fL T_S_ok (g0) Tryz.func252 4 [(0,[.ro true 50 t3]),(1,[.ro true 4 .bool]),(5,[.keep]),(6,[.keep])] [1,1,0,1,0] (Q41.s0 K) (Q41.pre K) λx a=>av [(0,⟨0,.one,[.ro true 50 t3 x.1]⟩),(1,⟨0,.one,[.ro true 4 .bool x.2.1]⟩),(5,⟨0,.one,[.int .i64 a.1]⟩),(6,⟨0,.one,[.int .i64 a.2]⟩)]
theorem Q42.o:So (Q42.c K):=fM T_S_ok (gc (Q41.o K) g0) Tryz.func216 (Q42.eqn K)
theorem Q43.o:So (Q43.c K):=fS T_NS_ok (gc (Q25.o K) (gc (Q34.o K) (gc (Q42.o K) g0))) Tryz.func159
theorem Q44.o:So (Q44.c K):=fS T_S_ok (g0) Tryz.func217
theorem Q45.o:So (Q45.c K):=fS T_S_ok (g0) Tryz.func253
theorem Q46.o:So (Q46.c K):=fL T_S_ok (gc (Q45.o K) g0) Tryz.func218 6 [(0,[.ro true 86 t11]),(1,[.keep]),(3,[.keep]),(9,[.own true 86 t11]),(10,[.keep]),(11,[.keep]),(12,[.keep]),(100010,Kc8)] [1,1,1,1,0,1,0] (Q46.s0 K) (Q46.pre K) λx a=>av [(0,⟨0,.one,[.ro true 86 t11 x.1]⟩),(1,⟨0,.one,[.int .i64 x.2.1]⟩),(3,⟨0,.one,[.int .i64 x.2.2.2.1]⟩),(9,⟨0,.one,[.own true none 86 t11 a.1]⟩),(10,⟨0,.one,[.bp 100010 0]⟩),(11,⟨0,.one,[.bool a.2.1]⟩),(12,⟨0,.one,[.int .i64 a.2.2.1]⟩),(100010,⟨0,.agg,[.int .i64 x.2.1,.int .i64 x.2.2.1.1,.int .i64 x.2.2.1.2.1,.int .i64 x.2.2.1.2.2.1,.int .i64 x.2.2.1.2.2.2,.ro true 3 I6 a.2.2.2]⟩)]
theorem Q47.o:So (Q47.c K):=fS T_S_ok (gc (Q44.o K) g0) Tryz.func281
theorem Q48.o:So (Q48.c K):=fL T_S_ok (g0) Tryz.func282 4 [(0,[.keep]),(3,[.keep]),(4,[.keep])] [1,1,1,0,0] (Q48.s0 K) (Q48.pre K) λx a=>av [(0,⟨0,.one,[.int .i64 x.1]⟩),(3,⟨0,.one,[.int .i64 a.1]⟩),(4,⟨0,.one,[.int .i64 a.2]⟩)]
theorem Q49.o:So (Q49.c K):=fS T_S_ok (gc (Q47.o K) (gc (Q48.o K) g0)) Tryz.func256
theorem Q50.o:So (Q50.c K):=fS T_S_ok (gc (Q21.o K) (gc (Q49.o K) g0)) Tryz.func254
theorem Q51.o:So (Q51.c K):=fS T_S_ok (g0) Tryz.func255
theorem Q52.o:So (Q52.c K):=fS T_S_ok (g0) Tryz.func257
theorem Q53.o:So (Q53.c K):=fS T_S_ok (g0) Tryz.func283
theorem Q54.o:So (Q54.c K):=fS T_S_ok (gc (Q44.o K) (gc (Q53.o K) g0)) Tryz.func258
theorem Q55.o:So (Q55.c K):=fS T_S_ok (gc (Q13.o K) (gc (Q21.o K) (gc (Q44.o K) (gc (Q50.o K) (gc (Q51.o K) (gc (Q49.o K) (gc (Q52.o K) (gc (Q54.o K) g0)))))))) Tryz.func219
theorem Q56.o:So (Q56.c K):=fM T_S_ok (g0) Tryz.func220 (Q56.eqn K)
theorem Q57.o:So (Q57.c K):=fL T_NS_ok (gc (Q44.o K) (gc (Q46.o K) (gc (Q55.o K) (gc (Q56.o K) g0)))) Tryz.func160 7 [(2,[.keep]),(3,[.keep]),(4,[.keep]),(6,[.keep]),(100002,[.keep,.keep,.keep,.keep,.keep,.keep,.keep,.keep,.ro true 40 t2,.ro true 50 t3,.keep,.keep,.keep,.keep,.own true 83 t6,.keep,.keep,.keep,.keep,.own true 86 t11,.ro true 55 t12]),(100003,Kc4),(100004,Kc2)] [1,1,1,1,0,1,0] (Q57.s0 K) (Q57.pre K) λx a=>av [(2,⟨0,.one,[.bp 100002 0]⟩),(3,⟨0,.one,[.bp 100003 0]⟩),(4,⟨0,.one,[.bp 100004 0]⟩),(6,⟨0,.one,[.int .i64 a.1]⟩),(100002,⟨0,.agg,[.int .i64 x.1.1,.bool x.1.2.1,.bool x.1.2.2.1,.bool x.1.2.2.2.1,.int .i64 x.1.2.2.2.2.1,.int .i64 x.1.2.2.2.2.2.1,.int .i64 x.1.2.2.2.2.2.2.1,.int .i64 x.1.2.2.2.2.2.2.2.1,.ro true 40 t2 x.1.2.2.2.2.2.2.2.2.1,.ro true 50 t3 x.1.2.2.2.2.2.2.2.2.2.1,.int .i64 x.1.2.2.2.2.2.2.2.2.2.2.1.1,.int .i64 x.1.2.2.2.2.2.2.2.2.2.2.1.2.1,.int .i64 x.1.2.2.2.2.2.2.2.2.2.2.1.2.2.1,.bool x.1.2.2.2.2.2.2.2.2.2.2.1.2.2.2,.own true none 83 t6 x.1.2.2.2.2.2.2.2.2.2.2.2.1,.int .i64 a.2.1,.int .i64 a.2.2.1,.int .i64 a.2.2.2.1,.int .i64 a.2.2.2.2.1,.own true none 86 t11 a.2.2.2.2.2,.ro true 55 t12 x.1.2.2.2.2.2.2.2.2.2.2.2.2.2.2]⟩),(100003,⟨0,.agg,(w3 x.2.1)⟩),(100004,⟨0,.agg,[.int .i64 0,.bool false,.bool false,.bool false,.int .i64 0,.int .i64 0,.int .i64 0,.int .i64 0,.nil,.nil,.int .i64 0,.int .i64 0,.int .i64 0,.bool false,.nil,.int .i64 0,.int .i64 0,.int .i64 0,.int .i64 0,.nil,.nil]⟩)]
theorem Q58.o:So (Q58.c K):=fS T_NS_ok (gc (Q23.o K) (gc (Q39.o K) (gc (Q43.o K) (gc (Q57.o K) g0)))) Tryz.func99
theorem Q59.o:So (Q59.c K):=fS T_NS_ok (gc (Q22.o K) (gc (Q24.o K) (gc (Q40.o K) (gc (Q58.o K) (gc (Q33.o K) g0))))) Tryz.func37
theorem Q60.o:So (Q60.c K):=fL T_S_ok (g0) Tryz.func129 5 [(0,[.keep]),(1,[.keep]),(5,[.own false 9 .str]),(6,[.keep]),(7,[.keep])] [1,1,1,0,1,0] (Q60.s0 K) (Q60.pre K) λx a=>av [(0,⟨0,.one,[.str x.1]⟩),(1,⟨0,.one,[.int .u8 x.2.1]⟩),(5,⟨0,.one,[.own false none 9 .str a.1]⟩),(6,⟨0,.one,[.int .i64 a.2.1]⟩),(7,⟨0,.one,[.int .i64 a.2.2]⟩)]
theorem Q61.o:So (Q61.c K):=fS T_S_ok (g0) Tryz.func130
theorem Q62.o:So (Q62.c K):=fL T_S_ok (gc (Q13.o K) g0) Tryz.func131 6 [(0,[.keep]),(3,[.keep]),(4,[.keep])] [1,1,1,0,1,0] (Q62.s0 K) (Q62.pre K) λx a=>av [(0,⟨0,.one,[.str x.1]⟩),(3,⟨0,.one,[.int .i64 a.1]⟩),(4,⟨0,.one,[.int .i64 a.2]⟩)]
theorem Q63.o:So (Q63.c K):=fS T_S_ok (gc (Q62.o K) g0) Tryz.func132
theorem Q64.o:So (Q64.c K):=fS T_S_ok (g0) Tryz.func270
theorem Q65.o:So (Q65.c K):=fL T_S_ok (gc (Q18.o K) (gc (Q60.o K) (gc (Q62.o K) (gc (Q64.o K) g0)))) Tryz.func232 13 [(2,[.keep]),(4,[.keep]),(6,[.own false 9 .str]),(7,[.keep]),(100002,Kc1),(100004,Kc1)] [1,1,1,1,1,1,1,1,0,1,0] (Q65.s0 K) (Q65.pre K) λx a=>av [(2,⟨0,.one,[.bp 100002 0]⟩),(4,⟨0,.one,[.bp 100004 0]⟩),(6,⟨0,.one,[.own false none 9 .str a.1]⟩),(7,⟨0,.one,[.int .i64 a.2.1]⟩),(100002,⟨0,.agg,[.int .i64 0,.int .i64 0,.int .i64 0,.bool false]⟩),(100004,⟨0,.agg,(wa2 a.2.2)⟩)]
theorem Q66.o:So (Q66.c K):=fL T_S_ok (gc (Q60.o K) (gc (Q65.o K) g0)) Tryz.func189 7 [(4,[.own false 40 t2]),(5,[.own false 9 .str]),(6,[.keep])] [1,1,1,1,0,1,0] (Q66.s0 K) (Q66.pre K) λx a=>av [(4,⟨0,.one,[.own false none 40 t2 a.1]⟩),(5,⟨0,.one,[.own false none 9 .str a.2.1]⟩),(6,⟨0,.one,[.int .i64 a.2.2]⟩)]
theorem Q67.o:So (Q67.c K):=fL T_S_ok (gc (Q0.o K) (gc (Q64.o K) g0)) Tryz.func233 4 [(0,[.ro true 40 t2]),(3,[.keep]),(4,[.keep])] [1,1,0,1,0] (Q67.s0 K) (Q67.pre K) λx a=>av [(0,⟨0,.one,[.ro true 40 t2 x.1]⟩),(3,⟨0,.one,[.str a.1]⟩),(4,⟨0,.one,[.int .i64 a.2]⟩)]
theorem Q68.o:So (Q68.c K):=fS T_S_ok (gc (Q19.o K) (gc (Q67.o K) g0)) Tryz.func190
theorem Q69.o:So (Q69.c K):=fS T_S_ok (gc (Q66.o K) (gc (Q68.o K) g0)) Tryz.func133
theorem Q70.o:So (Q70.c K):=fS T_S_ok (gc (Q0.o K) g0) Tryz.func235
theorem Q71.o:So (Q71.c K):=fS T_S_ok (gc (Q61.o K) (gc (Q68.o K) (gc (Q0.o K) (gc (Q70.o K) g0)))) Tryz.func191
theorem Q72.o:So (Q72.c K):=fL T_S_ok (g0) Tryz.func192 4 [(0,[.keep]),(3,[.own false 5 (.int .u8)]),(4,[.keep])] [1,1,0,1,0] (Q72.s0 K) (Q72.pre K) λx a=>av [(0,⟨0,.one,[.int .i64 x.1]⟩),(3,⟨0,.one,[.own false none 5 (.int .u8) a.1]⟩),(4,⟨0,.one,[.int .i64 a.2]⟩)]
theorem Q73.o:So (Q73.c K):=fL T_S_ok (g0) Tryz.func236 4 [(3,[.keep]),(4,[.keep])] [1,1,0,1,0] (Q73.s0 K) (Q73.pre K) λx a=>av [(3,⟨0,.one,[.int .i64 a.1]⟩),(4,⟨0,.one,[.int .i64 a.2]⟩)]
theorem Q74.o:So (Q74.c K):=fL T_S_ok (gc (Q73.o K) g0) Tryz.func193 4 [(0,[.keep]),(3,[.keep]),(4,[.keep])] [1,1,0,1,0] (Q74.s0 K) (Q74.pre K) λx a=>av [(0,⟨0,.one,[.str x.1]⟩),(3,⟨0,.one,[.int .i64 a.1]⟩),(4,⟨0,.one,[.int .i64 a.2]⟩)]
theorem Q75.o:So (Q75.c K):=fS T_S_ok (gc (Q22.o K) (gc (Q71.o K) (gc (Q72.o K) (gc (Q74.o K) g0)))) Tryz.func134
theorem Q76.o:So (Q76.c K):=fL T_S_ok (gc (Q60.o K) (gc (Q61.o K) (gc (Q62.o K) (gc (Q63.o K) (gc (Q69.o K) (gc (Q75.o K) g0)))))) Tryz.func82 9 [(0,[.keep]),(2,[.keep]),(4,[.own false 9 .str]),(5,[.keep]),(6,[.keep]),(100002,Kc7),(100005,Kc7)] [1,1,1,1,1,0,1,0] (Q76.s0 K) (Q76.pre K) λx a=>av [(0,⟨0,.one,[.str x.1]⟩),(2,⟨0,.one,[.bp 100002 0]⟩),(4,⟨0,.one,[.own false none 9 .str a.1]⟩),(5,⟨0,.one,[.bp 100005 0]⟩),(6,⟨0,.one,[.int .i64 a.2.1]⟩),(100002,⟨0,.agg,[.int .i64 0,.int .i64 0,.int .i64 0,.int .i64 0,.int .i64 0,.int .i64 0,.int .i64 0,.int .i64 0,.int .i64 0,.int .i64 0,.nil]⟩),(100005,⟨0,.agg,[.int .i64 a.2.2.1,.int .i64 a.2.2.2,.int .i64 0,.int .i64 0,.int .i64 0,.int .i64 0,.int .i64 0,.int .i64 0,.int .i64 0,.int .i64 0,.nil]⟩)]
theorem Q77.o:So (Q77.c K):=fS T_S_ok (g0) Tryz.func184
theorem Q78.o:So (Q78.c K):=fL T_S_ok (gc (Q75.o K) g0) Tryz.func262 3 [(1,[.keep]),(2,[.ro true 35 t47]),(3,[.keep]),(6,[.keep]),(7,[.keep]),(100003,[.ro true 33 t26,.ro true 117 t40,.ro true 3 I6,.ro true 40 t2]),(100006,Kc1)] [1,0,1,0] (Q78.s0 K) (Q78.pre K) λx a=>av [(1,⟨0,.one,[.int .i64 x.2.1]⟩),(2,⟨0,.one,[.ro true 35 t47 x.2.2.1]⟩),(3,⟨0,.one,[.bp 100003 0]⟩),(6,⟨0,.one,[.bp 100006 0]⟩),(7,⟨0,.one,[.int .i64 a.1]⟩),(100003,⟨0,.agg,[.ro true 33 t26 x.1.1,.ro true 117 t40 a.2,.ro true 3 I6 x.1.2.2.1,.ro true 40 t2 x.1.2.2.2]⟩),(100006,⟨0,.agg,[.nil,.nil,.nil,.nil]⟩)]
theorem Q79.o:So (Q79.c K):=fS T_S_ok (gc (Q26.o K) g0) Tryz.func285
theorem Q80.o:So (Q80.c K):=fL T_S_ok (gc (Q79.o K) g0) Tryz.func264 3 [(0,[.ro true 40 t2]),(3,[.keep]),(5,[.keep]),(100003,Kc1)] [1,1,0,0] (Q80.s0 K) (Q80.pre K) λx a=>av [(0,⟨0,.one,[.ro true 40 t2 x.1]⟩),(3,⟨0,.one,[.bp 100003 0]⟩),(5,⟨0,.one,[.int .i64 a]⟩),(100003,⟨0,.agg,(w0 x.2.1)⟩)]
theorem Q81.o:So (Q81.c K):=fL T_S_ok (g0) Tryz.func284 3 [(0,[.ro true 40 t2]),(3,[.keep]),(5,[.keep]),(100003,Kc1)] [1,0,1,0] (Q81.s0 K) (Q81.pre K) λx a=>av [(0,⟨0,.one,[.ro true 40 t2 x.1]⟩),(3,⟨0,.one,[.bp 100003 0]⟩),(5,⟨0,.one,[.int .i64 a]⟩),(100003,⟨0,.agg,(w0 x.2.1)⟩)]
theorem Q82.o:So (Q82.c K):=fL T_S_ok (gc (Q80.o K) (gc (Q81.o K) g0)) Tryz.func263 3 [(1,[.ro true 40 t2]),(2,[.ro true 40 t2]),(3,[.ro true 40 t2]),(4,[.keep]),(8,[.keep]),(9,[.keep]),(100004,[.ro true 33 t26,.ro true 117 t40,.ro true 3 I6,.ro true 40 t2]),(100008,Kc1)] [1,0,1,0] (Q82.s0 K) (Q82.pre K) λx a=>av [(1,⟨0,.one,[.ro true 40 t2 x.2.1]⟩),(2,⟨0,.one,[.ro true 40 t2 x.2.2.1]⟩),(3,⟨0,.one,[.ro true 40 t2 x.2.2.2.1]⟩),(4,⟨0,.one,[.bp 100004 0]⟩),(8,⟨0,.one,[.bp 100008 0]⟩),(9,⟨0,.one,[.int .i64 a.1]⟩),(100004,⟨0,.agg,[.ro true 33 t26 x.1.1,.ro true 117 t40 x.1.2.1,.ro true 3 I6 x.1.2.2.1,.ro true 40 t2 a.2]⟩),(100008,⟨0,.agg,[.nil,.nil,.nil,.nil]⟩)]
theorem Q83.o:So (Q83.c K):=fS T_NS_ok (gc (Q78.o K) (gc (Q82.o K) g0)) Tryz.func227
theorem Q84.o:So (Q84.c K):=fS T_NS_ok (gc (Q59.o K) (gc (Q76.o K) (gc (Q77.o K) (gc (Q83.o K) g0)))) Tryz.func182
theorem Q85.o:So (Q85.c K):=fS T_NS_ok (g0) Tryz.func183
theorem Q86.o:So (Q86.c K):=fS T_NT_ok (gc (Q78.o K) (gc (Q82.o K) g0)) Tryz.func227
theorem Q87.o:So (Q87.c K):=fS T_S_ok (g0) Tryz.func228
theorem Q88.o:So (Q88.c K):=fS T_NT_ok (gc (Q15.o K) (gc (Q16.o K) (gc (Q80.o K) g0))) Tryz.func229
theorem Q89.o:So (Q89.c K):=fS T_S_ok (g0) Tryz.func75
theorem Q90.o:So (Q90.c K):=fS T_S_ok (gc (Q25.o K) (gc (Q27.o K) (gc (Q28.o K) (gc (Q29.o K) g0)))) Tryz.func163
theorem Q91.o:So (Q91.c K):=fL T_S_ok (gc (Q89.o K) (gc (Q25.o K) (gc (Q90.o K) g0))) Tryz.func265 4 [(1,[.keep]),(2,[.keep]),(3,[.ro true 83 t6]),(4,[.keep]),(100001,Kc0),(100002,Kc2)] [1,1,0,1,0] (Q91.s0 K) (Q91.pre K) λx a=>av [(1,⟨0,.one,[.bp 100001 0]⟩),(2,⟨0,.one,[.bp 100002 0]⟩),(3,⟨0,.one,[.ro true 83 t6 x.1.2.2.2.2.2.2.2.2.2.2.2.1]⟩),(4,⟨0,.one,[.int .i64 a.1]⟩),(100001,⟨0,.agg,[.int .i64 a.2.1,.bool a.2.2.1,.bool a.2.2.2.1,.bool a.2.2.2.2.1,.int .i64 a.2.2.2.2.2.1,.int .i64 a.2.2.2.2.2.2.1,.int .i64 a.2.2.2.2.2.2.2.1,.int .i64 a.2.2.2.2.2.2.2.2.1,.ro true 40 t2 a.2.2.2.2.2.2.2.2.2.1,.ro true 50 t3 a.2.2.2.2.2.2.2.2.2.2.1,.int .i64 a.2.2.2.2.2.2.2.2.2.2.2.1,.int .i64 a.2.2.2.2.2.2.2.2.2.2.2.2.1,.int .i64 a.2.2.2.2.2.2.2.2.2.2.2.2.2.1,.bool a.2.2.2.2.2.2.2.2.2.2.2.2.2.2.1,.ro true 83 t6 a.2.2.2.2.2.2.2.2.2.2.2.2.2.2.2.1,.int .i64 a.2.2.2.2.2.2.2.2.2.2.2.2.2.2.2.2.1,.int .i64 a.2.2.2.2.2.2.2.2.2.2.2.2.2.2.2.2.2.1,.int .i64 a.2.2.2.2.2.2.2.2.2.2.2.2.2.2.2.2.2.2.1,.int .i64 a.2.2.2.2.2.2.2.2.2.2.2.2.2.2.2.2.2.2.2.1,.ro true 86 t11 a.2.2.2.2.2.2.2.2.2.2.2.2.2.2.2.2.2.2.2.2.1,.ro true 55 t12 a.2.2.2.2.2.2.2.2.2.2.2.2.2.2.2.2.2.2.2.2.2]⟩),(100002,⟨0,.agg,[.int .i64 0,.bool false,.bool false,.bool false,.int .i64 0,.int .i64 0,.int .i64 0,.int .i64 0,.nil,.nil,.int .i64 0,.int .i64 0,.int .i64 0,.bool false,.nil,.int .i64 0,.int .i64 0,.int .i64 0,.int .i64 0,.nil,.nil]⟩)]
theorem Q92.o:So (Q92.c K):=fS T_S_ok (gc (Q25.o K) g0) Tryz.func269
theorem Q93.o:So (Q93.c K):=fL T_S_ok (g0) Tryz.func286 4 [(1,[.keep]),(3,[.own false 3 I6]),(4,[.keep]),(100001,Kc0)] [1,1,0,1,0] (Q93.s0 K) (Q93.pre K) λx a=>av [(1,⟨0,.one,[.bp 100001 0]⟩),(3,⟨0,.one,[.own false none 3 I6 a.1]⟩),(4,⟨0,.one,[.int .i64 a.2]⟩),(100001,⟨0,.agg,(w1 x.1)⟩)]
theorem Q94.o:So (Q94.c K):=fL T_S_ok (gc (Q25.o K) (gc (Q39.o K) (gc (Q90.o K) (gc (Q92.o K) (gc (Q93.o K) g0))))) Tryz.func266 17 [(1,[.keep]),(2,[.keep]),(4,[.own false 35 t47]),(5,[.keep]),(8,[.own false 3 I6]),(9,[.keep]),(100001,Kc0),(100002,Kc2),(100005,Kc1)] [1,1,1,1,0,0,1,1,1,1,1,0,1,1,1,0] (Q94.s0 K) (Q94.pre K) λx a=>av [(1,⟨0,.one,[.bp 100001 0]⟩),(2,⟨0,.one,[.bp 100002 0]⟩),(4,⟨0,.one,[.own false none 35 t47 a.1]⟩),(5,⟨0,.one,[.bp 100005 0]⟩),(8,⟨0,.one,[.own false none 3 I6 a.2.1]⟩),(9,⟨0,.one,[.int .i64 a.2.2]⟩),(100001,⟨0,.agg,[.int .i64 x.1.1,.bool x.1.2.1,.bool x.1.2.2.1,.bool x.1.2.2.2.1,.int .i64 x.1.2.2.2.2.1,.int .i64 x.1.2.2.2.2.2.1,.int .i64 x.1.2.2.2.2.2.2.1,.int .i64 x.1.2.2.2.2.2.2.2.1,.ro true 40 t2 x.1.2.2.2.2.2.2.2.2.1,.ro true 50 t3 x.1.2.2.2.2.2.2.2.2.2.1,.int .i64 x.1.2.2.2.2.2.2.2.2.2.2.1.1,.int .i64 x.1.2.2.2.2.2.2.2.2.2.2.1.2.1,.int .i64 x.1.2.2.2.2.2.2.2.2.2.2.1.2.2.1,.bool true,.ro true 83 t6 x.1.2.2.2.2.2.2.2.2.2.2.2.1,.int .i64 x.1.2.2.2.2.2.2.2.2.2.2.2.2.1.1,.int .i64 x.1.2.2.2.2.2.2.2.2.2.2.2.2.1.2.1,.int .i64 x.1.2.2.2.2.2.2.2.2.2.2.2.2.1.2.2.1,.int .i64 x.1.2.2.2.2.2.2.2.2.2.2.2.2.1.2.2.2,.ro true 86 t11 x.1.2.2.2.2.2.2.2.2.2.2.2.2.2.1,.ro true 55 t12 x.1.2.2.2.2.2.2.2.2.2.2.2.2.2.2]⟩),(100002,⟨0,.agg,[.int .i64 0,.bool false,.bool false,.bool false,.int .i64 0,.int .i64 0,.int .i64 0,.int .i64 0,.nil,.nil,.int .i64 0,.int .i64 0,.int .i64 0,.bool false,.nil,.int .i64 0,.int .i64 0,.int .i64 0,.int .i64 0,.nil,.nil]⟩),(100005,⟨0,.agg,(w0 x.1.2.2.2.2.2.2.2.2.2.2.1)⟩)]
theorem Q95.o:So (Q95.c K):=fS T_S_ok (gc (Q25.o K) (gc (Q34.o K) (gc (Q42.o K) g0))) Tryz.func159
theorem Q96.o:So (Q96.c K):=fL T_S_ok (gc (Q92.o K) g0) Tryz.func287 3 [(1,[.keep]),(3,[.keep]),(100001,Kc0)] [1,0,1,0] (Q96.s0 K) (Q96.pre K) λx a=>av [(1,⟨0,.one,[.bp 100001 0]⟩),(3,⟨0,.one,[.int .i64 a]⟩),(100001,⟨0,.agg,(w1 x.1)⟩)]
theorem Q97.o:So (Q97.c K):=fS T_S_ok (gc (Q39.o K) (gc (Q95.o K) (gc (Q96.o K) g0))) Tryz.func267
theorem Q98.o:So (Q98.c K):=fL T_S_ok (g0) Tryz.func288 4 [(1,[.keep]),(2,[.keep]),(5,[.own false 3 I6]),(6,[.keep]),(100002,Kc0)] [1,1,0,1,0] (Q98.s0 K) (Q98.pre K) λx a=>av [(1,⟨0,.one,[.int .i64 x.2.1]⟩),(2,⟨0,.one,[.bp 100002 0]⟩),(5,⟨0,.one,[.own false none 3 I6 a.1]⟩),(6,⟨0,.one,[.int .i64 a.2]⟩),(100002,⟨0,.agg,(w1 x.1)⟩)]
theorem Q99.o:So (Q99.c K):=fL T_S_ok (g0) Tryz.func313 4 [(0,[.ro true 40 t2]),(1,[.keep]),(5,[.own false 3 I6]),(6,[.keep])] [1,1,0,1,0] (Q99.s0 K) (Q99.pre K) λx a=>av [(0,⟨0,.one,[.ro true 40 t2 x.1]⟩),(1,⟨0,.one,[.int .i64 x.2.1]⟩),(5,⟨0,.one,[.own false none 3 I6 a.1]⟩),(6,⟨0,.one,[.int .i64 a.2]⟩)]
theorem Q100.o:So (Q100.c K):=fL T_S_ok (gc (Q99.o K) g0) Tryz.func304 4 [(1,[.keep]),(3,[.own false 3 I6]),(4,[.keep]),(100001,Kc0)] [1,1,0,1,0] (Q100.s0 K) (Q100.pre K) λx a=>av [(1,⟨0,.one,[.bp 100001 0]⟩),(3,⟨0,.one,[.own false none 3 I6 a.1]⟩),(4,⟨0,.one,[.int .i64 a.2]⟩),(100001,⟨0,.agg,(w1 x.1)⟩)]
theorem Q101.o:So (Q101.c K):=fL T_S_ok (gc (Q99.o K) g0) Tryz.func305 3 [(1,[.keep]),(2,[.keep]),(3,[.keep]),(7,[.keep]),(100003,Kc0)] [1,0,1,0] (Q101.s0 K) (Q101.pre K) λx a=>av [(1,⟨0,.one,[.int .i64 x.2.1]⟩),(2,⟨0,.one,[.int .i64 x.2.2.1]⟩),(3,⟨0,.one,[.bp 100003 0]⟩),(7,⟨0,.one,[.int .i64 a]⟩),(100003,⟨0,.agg,(w1 x.1)⟩)]
theorem Q102.o:So (Q102.c K):=fL T_S_ok (gc (Q23.o K) (gc (Q39.o K) (gc (Q100.o K) (gc (Q101.o K) g0)))) Tryz.func289 6 [(1,[.keep]),(2,[.keep]),(5,[.own false 35 t47]),(6,[.keep]),(100002,Kc0)] [1,1,1,0,1,0] (Q102.s0 K) (Q102.pre K) λx a=>av [(1,⟨0,.one,[.int .i64 x.2.1]⟩),(2,⟨0,.one,[.bp 100002 0]⟩),(5,⟨0,.one,[.own false none 35 t47 a.1]⟩),(6,⟨0,.one,[.int .i64 a.2]⟩),(100002,⟨0,.agg,(w1 x.1)⟩)]
theorem Q103.o:So (Q103.c K):=fS T_S_ok (gc (Q39.o K) (gc (Q98.o K) (gc (Q102.o K) g0))) Tryz.func268
theorem Q104.o:So (Q104.c K):=fS T_S_ok (gc (Q91.o K) (gc (Q94.o K) (gc (Q97.o K) (gc (Q103.o K) g0)))) Tryz.func230
theorem Q105.o:So (Q105.c K):=fL T_S_ok (gc (Q39.o K) (gc (Q90.o K) (gc (Q92.o K) g0))) Tryz.func231 8 [(1,[.keep]),(2,[.keep]),(4,[.own false 35 t47]),(5,[.keep]),(100001,Kc0),(100002,Kc2)] [1,1,1,1,1,0,1,0] (Q105.s0 K) (Q105.pre K) λx a=>av [(1,⟨0,.one,[.bp 100001 0]⟩),(2,⟨0,.one,[.bp 100002 0]⟩),(4,⟨0,.one,[.own false none 35 t47 a.1]⟩),(5,⟨0,.one,[.int .i64 a.2.1]⟩),(100001,⟨0,.agg,[.int .i64 a.2.2.1,.bool a.2.2.2.1,.bool true,.bool a.2.2.2.2.1,.int .i64 a.2.2.2.2.2.1,.int .i64 a.2.2.2.2.2.2.1,.int .i64 a.2.2.2.2.2.2.2.1,.int .i64 a.2.2.2.2.2.2.2.2.1,.ro true 40 t2 a.2.2.2.2.2.2.2.2.2.1,.ro true 50 t3 a.2.2.2.2.2.2.2.2.2.2.1,.int .i64 a.2.2.2.2.2.2.2.2.2.2.2.1,.int .i64 a.2.2.2.2.2.2.2.2.2.2.2.2.1,.int .i64 a.2.2.2.2.2.2.2.2.2.2.2.2.2.1,.bool a.2.2.2.2.2.2.2.2.2.2.2.2.2.2.1,.ro true 83 t6 a.2.2.2.2.2.2.2.2.2.2.2.2.2.2.2.1,.int .i64 a.2.2.2.2.2.2.2.2.2.2.2.2.2.2.2.2.1,.int .i64 a.2.2.2.2.2.2.2.2.2.2.2.2.2.2.2.2.2.1,.int .i64 a.2.2.2.2.2.2.2.2.2.2.2.2.2.2.2.2.2.2.1,.int .i64 a.2.2.2.2.2.2.2.2.2.2.2.2.2.2.2.2.2.2.2.1,.ro true 86 t11 a.2.2.2.2.2.2.2.2.2.2.2.2.2.2.2.2.2.2.2.2.1,.ro true 55 t12 a.2.2.2.2.2.2.2.2.2.2.2.2.2.2.2.2.2.2.2.2.2]⟩),(100002,⟨0,.agg,[.int .i64 0,.bool false,.bool false,.bool false,.int .i64 0,.int .i64 0,.int .i64 0,.int .i64 0,.nil,.nil,.int .i64 0,.int .i64 0,.int .i64 0,.bool false,.nil,.int .i64 0,.int .i64 0,.int .i64 0,.int .i64 0,.nil,.nil]⟩)]
theorem Q106.o:So (Q106.c K):=fS T_NT_ok (gc (Q13.o K) (gc (Q23.o K) (gc (Q39.o K) (gc (Q44.o K) (gc (Q86.o K) (gc (Q87.o K) (gc (Q88.o K) (gc (Q104.o K) (gc (Q105.o K) g0))))))))) Tryz.func185
theorem Q107.o:bP Tryz.prog (Q107.c K):=bP.thin (Q106.o K) (by decide) (λx=>x) (λ_=>HEq.rfl) (λ_=>rfl)
theorem Q108.o:So (Q108.c K):=fS T_NS_ok (gc (Q13.o K) (gc (Q84.o K) (gc (Q85.o K) (gc (Q77.o K) (gc (Q107.o K) g0))))) Tryz.func123
theorem Q109.o:So (Q109.c K):=fM T_ND_ok (g0) Tryz.func38 (Q109.eqn K)
theorem Q110.o:So (Q110.c K):=fL T_NS_ok (gc (Q109.o K) g0) Tryz.func124 4 [(1,[.keep]),(2,[.keep]),(3,[.keep]),(4,[.keep]),(100001,[.ro true 33 t26,.ro true 117 t40,.ro true 3 I6,.ro true 40 t2]),(100002,Kc1),(100003,[.own false 33 t38,.own false 117 t40,.own false 3 I6,.own false 40 t2])] [1,1,0,1,0] (Q110.s0 K) (Q110.pre K) λx a=>av [(1,⟨0,.one,[.bp 100001 0]⟩),(2,⟨0,.one,[.bp 100002 0]⟩),(3,⟨0,.one,[.bp 100003 0]⟩),(4,⟨0,.one,[.int .i64 a.1]⟩),(100001,⟨0,.agg,(w4 x.1)⟩),(100002,⟨0,.agg,[.nil,.nil,.nil,.nil]⟩),(100003,⟨0,.agg,[.own false none 33 t38 a.2,.own false none 117 t40 ([]++x.1.2.1),.own false none 3 I6 ([]++x.1.2.2.1),.own false none 40 t2 ([]++x.1.2.2.2)]⟩)]
theorem Q111.o:So (Q111.c K):=fL T_S_ok (gc (Q108.o K) (gc (Q110.o K) g0)) Tryz.func121 3 [(1,[.own false 139 t2]),(2,[.keep]),(4,[.keep]),(5,[.keep]),(100002,[.ro true 33 t26,.ro true 117 t40,.ro true 3 I6,.ro true 40 t2]),(100004,Kc1)] [1,0,1,0] (Q111.s0 K) (Q111.pre K) λx a=>av [(1,⟨0,.one,[.own false none 139 t2 x.2.1]⟩),(2,⟨0,.one,[.bp 100002 0]⟩),(4,⟨0,.one,[.bp 100004 0]⟩),(5,⟨0,.one,[.int .i64 a.1]⟩),(100002,⟨0,.agg,[.ro true 33 t26 a.2.1,.ro true 117 t40 a.2.2.1,.ro true 3 I6 a.2.2.2.1,.ro true 40 t2 a.2.2.2.2]⟩),(100004,⟨0,.agg,[.nil,.nil,.nil,.nil]⟩)]
theorem Q112.o:So (Q112.c K):=fS T_S_ok (gc (Q12.o K) g0) Tryz.func181
theorem Q113.o:So (Q113.c K):=fS T_S_ok (gc (Q12.o K) (gc (Q112.o K) g0)) Tryz.func122
theorem Q114.o:So (Q114.c K):=fM T_S_ok (gc (Q12.o K) (gc (Q17.o K) (gc (Q111.o K) (gc (Q113.o K) (gc (Q108.o K) (gc (Q110.o K) g0)))))) Tryz.func78 (Q114.eqn K)
theorem Q115.o:So (Q115.c K):=fS T_S_ok (gc (Q114.o K) g0) Tryz.func29
theorem Q116.o:So (Q116.c K):=fS T_S_ok (gc (Q12.o K) (gc (Q16.o K) g0)) Tryz.func187
theorem Q117.o:So (Q117.c K):=fL T_S_ok (gc (Q12.o K) (gc (Q34.o K) (gc (Q116.o K) g0))) Tryz.func125 4 [(0,[.keep]),(1,[.keep]),(5,[.own false 40 t2]),(6,[.keep]),(100000,[.ro true 5 (.int .u8),.keep])] [1,1,0,1,0] (Q117.s0 K) (Q117.pre K) λx a=>av [(0,⟨0,.one,[.bp 100000 0]⟩),(1,⟨0,.one,[.int .i64 x.2.1]⟩),(5,⟨0,.one,[.own false none 40 t2 a.1]⟩),(6,⟨0,.one,[.int .i64 a.2.1]⟩),(100000,⟨0,.agg,[.ro true 5 (.int .u8) a.2.2.1,.int .i64 a.2.2.2]⟩)]
theorem Q118.o:So (Q118.c K):=fS T_S_ok (gc (Q12.o K) (gc (Q116.o K) g0)) Tryz.func126
theorem Q119.o:So (Q119.c K):=fS T_S_ok (gc (Q12.o K) (gc (Q117.o K) (gc (Q118.o K) g0))) Tryz.func79
theorem Q120.o:So (Q120.c K):=fL T_S_ok (gc (Q12.o K) (gc (Q117.o K) g0)) Tryz.func127 5 [(0,[.keep]),(5,[.own false 50 t3]),(6,[.own false 40 t2]),(7,[.keep]),(100000,[.ro true 5 (.int .u8),.keep])] [1,1,1,0,1,0] (Q120.s0 K) (Q120.pre K) λx a=>av [(0,⟨0,.one,[.bp 100000 0]⟩),(5,⟨0,.one,[.own false none 50 t3 a.1]⟩),(6,⟨0,.one,[.own false none 40 t2 a.2.1]⟩),(7,⟨0,.one,[.int .i64 a.2.2.1]⟩),(100000,⟨0,.agg,[.ro true 5 (.int .u8) a.2.2.2.1,.int .i64 a.2.2.2.2]⟩)]
theorem Q121.o:So (Q121.c K):=fS T_S_ok (gc (Q12.o K) (gc (Q118.o K) (gc (Q120.o K) g0))) Tryz.func80
theorem Q122.o:So (Q122.c K):=fS T_S_ok (gc (Q12.o K) (gc (Q14.o K) g0)) Tryz.func128
theorem Q123.o:So (Q123.c K):=fS T_S_ok (gc (Q12.o K) (gc (Q122.o K) g0)) Tryz.func81
theorem Q124.o:So (Q124.c K):=fS T_S_ok (gc (Q12.o K) (gc (Q109.o K) (gc (Q119.o K) (gc (Q121.o K) (gc (Q123.o K) g0))))) Tryz.func31
theorem Q125.o:So (Q125.c K):=fS T_WF_ok (gc (Q12.o K) (gc (Q117.o K) (gc (Q122.o K) g0))) Tryz.func135
theorem Q126.o:So (Q126.c K):=fS T_WF_ok (gc (Q12.o K) (gc (Q123.o K) (gc (Q118.o K) (gc (Q125.o K) g0)))) Tryz.func83
theorem Q127.o:So (Q127.c K):=fL T_S_ok (gc (Q12.o K) (gc (Q23.o K) (gc (Q76.o K) (gc (Q126.o K) g0)))) Tryz.func32 3 [(0,[.keep]),(4,[.keep]),(5,[.keep]),(6,[.keep]),(7,[.keep]),(100000,[.ro true 5 (.int .u8),.keep]),(100004,[.ro true 33 t26,.ro true 117 t40,.ro true 3 I6,.ro true 40 t2]),(100005,Kc0),(100006,Kc7)] [1,0,1,0] (Q127.s0 K) (Q127.pre K) λx a=>av [(0,⟨0,.one,[.bp 100000 0]⟩),(4,⟨0,.one,[.bp 100004 0]⟩),(5,⟨0,.one,[.bp 100005 0]⟩),(6,⟨0,.one,[.bp 100006 0]⟩),(7,⟨0,.one,[.int .i64 a.1]⟩),(100000,⟨0,.agg,[.ro true 5 (.int .u8) a.2.1,.int .i64 a.2.2]⟩),(100004,⟨0,.agg,(w4 x.2.1)⟩),(100005,⟨0,.agg,(w1 x.2.2.1)⟩),(100006,⟨0,.agg,[.int .i64 0,.int .i64 0,.int .i64 0,.int .i64 0,.int .i64 0,.int .i64 0,.int .i64 0,.int .i64 0,.int .i64 0,.int .i64 0,.nil]⟩)]
theorem Q128.o:So (Q128.c K):=fS T_S_ok (gc (Q11.o K) (gc (Q115.o K) (gc (Q12.o K) (gc (Q124.o K) (gc (Q127.o K) g0))))) Tryz.func9
theorem Q129.o:So (Q129.c K):=fS T_NL_ok (g0) Tryz.func43
theorem Q130.o:So (Q130.c K):=fS T_NL_ok (gc (Q129.o K) g0) Tryz.func42
theorem Q131.o:So (Q131.c K):=fS T_NL_ok (g0) Tryz.func44
theorem Q132.o:So (Q132.c K):=fS T_NL_ok (gc (Q130.o K) (gc (Q129.o K) g0)) Tryz.func110
theorem Q133.o:So (Q133.c K):=fL T_NL_ok (gc (Q132.o K) g0) Tryz.func62 3 [(0,[.ro true 40 t2]),(5,[.ro true 40 t2]),(6,[.keep]),(7,[.keep])] [1,0,1,0] (Q133.s0 K) (Q133.pre K) λx a=>av [(0,⟨0,.one,[.ro true 40 t2 x.1]⟩),(5,⟨0,.one,[.ro true 40 t2 x.1]⟩),(6,⟨0,.one,[.int .i64 (BQ x.1:Int)]⟩),(7,⟨0,.one,[.int .i64 a]⟩)]
theorem Q134.o:So (Q134.c K):=fL T_NL_ok (g0) Tryz.func111 4 [(0,[.ro true 40 t2]),(1,[.keep]),(2,[.keep]),(8,[.keep]),(9,[.keep]),(10,[.keep])] [1,1,1,0,0] (Q134.s0 K) (Q134.pre K) λx a=>av [(0,⟨0,.one,[.ro true 40 t2 x.1]⟩),(1,⟨0,.one,[.int .i64 x.2.1]⟩),(2,⟨0,.one,[.fn [t2,I6] I6 x.2.2.1]⟩),(8,⟨0,.one,[.int .i64 (BQ x.1:Int)]⟩),(9,⟨0,.one,[.int .i64 a.1]⟩),(10,⟨0,.one,[.int .i64 a.2]⟩)]
theorem Q135.o:So (Q135.c K):=fS T_NL_ok (g0) Tryz.func168
theorem Q136.o:So (Q136.c K):=fS T_NL_ok (gc (Q135.o K) g0) Tryz.func113
theorem Q137.o:So (Q137.c K):=fS T_NL_ok (gc (Q136.o K) g0) Tryz.func112
theorem Q138.o:So (Q138.c K):=fS T_NL_ok (gc (Q134.o K) (gc (Q137.o K) g0)) Tryz.func63
theorem Q139.o:So (Q139.c K):=fS T_NL_ok (gc (Q133.o K) (gc (Q138.o K) g0)) Tryz.func17
theorem Q140.o:So (Q140.c K):=fL T_NL_ok (g0) Tryz.func194 3 [(0,[.ro true 40 t2]),(1,[.keep]),(7,[.keep]),(8,[.keep])] [1,0,1,0] (Q140.s0 K) (Q140.pre K) λx a=>av [(0,⟨0,.one,[.ro true 40 t2 x.1]⟩),(1,⟨0,.one,[.fn [t2] .bool x.2.1]⟩),(7,⟨0,.one,[.int .i64 (BQ x.1:Int)]⟩),(8,⟨0,.one,[.int .i64 a]⟩)]
theorem Q141.o:So (Q141.c K):=fS T_NL_ok (gc (Q140.o K) g0) Tryz.func138
theorem Q142.o:So (Q142.c K):=fS T_NL_ok (g0) Tryz.func91
theorem Q143.o:So (Q143.c K):=fS T_NL_ok (gc (Q142.o K) g0) Tryz.func139
theorem Q144.o:So (Q144.c K):=fS T_NL_ok (gc (Q141.o K) (gc (Q143.o K) g0)) Tryz.func89
theorem Q145.o:So (Q145.c K):=fS T_NL_ok (gc (Q142.o K) g0) Tryz.func90
theorem Q146.o:So (Q146.c K):=fL T_NL_ok (g0) Tryz.func166 3 [(0,[.ro true 50 t3]),(1,[.keep]),(7,[.keep]),(8,[.keep])] [1,0,1,0] (Q146.s0 K) (Q146.pre K) λx a=>av [(0,⟨0,.one,[.ro true 50 t3 x.1]⟩),(1,⟨0,.one,[.fn [t3] .bool x.2.1]⟩),(7,⟨0,.one,[.int .i64 (BQ x.1:Int)]⟩),(8,⟨0,.one,[.int .i64 a]⟩)]
theorem Q147.o:So (Q147.c K):=fS T_NL_ok (gc (Q146.o K) g0) Tryz.func102
theorem Q148.o:So (Q148.c K):=fS T_NL_ok (gc (Q129.o K) g0) Tryz.func164
theorem Q149.o:So (Q149.c K):=fL T_NL_ok (g0) Tryz.func165 4 [(3,[.own false 40 t2]),(6,[.ro true 50 t3]),(7,[.keep]),(8,[.keep])] [1,1,0,1,0] (Q149.s0 K) (Q149.pre K) λx a=>av [(3,⟨0,.one,[.own false none 40 t2 a.1]⟩),(6,⟨0,.one,[.ro true 50 t3 x.1]⟩),(7,⟨0,.one,[.int .i64 (BQ x.1:Int)]⟩),(8,⟨0,.one,[.int .i64 a.2]⟩)]
theorem Q150.o:So (Q150.c K):=fS T_NL_ok (gc (Q133.o K) (gc (Q147.o K) (gc (Q148.o K) (gc (Q149.o K) g0)))) Tryz.func101
theorem Q151.o:So (Q151.c K):=fL T_NL_ok (g0) Tryz.func171 4 [(3,[.keep]),(6,[.ro true 3 I6]),(7,[.keep]),(8,[.keep])] [1,1,0,1,0] (Q151.s0 K) (Q151.pre K) λx a=>av [(3,⟨0,.one,[.int .i64 0]⟩),(6,⟨0,.one,[.ro true 3 I6 x.1]⟩),(7,⟨0,.one,[.int .i64 (BQ x.1:Int)]⟩),(8,⟨0,.one,[.int .i64 a]⟩)]
theorem Q152.o:So (Q152.c K):=fS T_NL_ok (gc (Q136.o K) (gc (Q151.o K) g0)) Tryz.func115
theorem Q153.o:So (Q153.c K):=fS T_NL_ok (gc (Q132.o K) (gc (Q152.o K) g0)) Tryz.func68
theorem Q154.o:So (Q154.c K):=fS T_NL_ok (gc (Q139.o K) (gc (Q153.o K) g0)) Tryz.func103
theorem Q155.o:So (Q155.c K):=fS T_NL_ok (gc (Q139.o K) (gc (Q144.o K) (gc (Q145.o K) (gc (Q150.o K) (gc (Q147.o K) (gc (Q154.o K) g0)))))) Tryz.func45
theorem Q156.o:So (Q156.c K):=fS T_NL_ok (gc (Q139.o K) (gc (Q129.o K) g0)) Tryz.func46
theorem Q157.o:So (Q157.c K):=fS T_NL_ok (gc (Q130.o K) (gc (Q145.o K) (gc (Q142.o K) g0))) Tryz.func88
theorem Q158.o:So (Q158.c K):=fM T_NL_ok (gc (Q129.o K) (gc (Q157.o K) g0)) Tryz.func47 (Q158.eqn K)
theorem Q159.o:So (Q159.c K):=fS T_NL_ok (gc (Q129.o K) g0) Tryz.func48
theorem Q160.o:So (Q160.c K):=fS T_NL_ok (gc (Q157.o K) g0) Tryz.func94
theorem Q161.o:So (Q161.c K):=fS T_NL_ok (gc (Q129.o K) g0) Tryz.func104
theorem Q162.o:So (Q162.c K):=fL T_NL_ok (g0) Tryz.func167 3 [(0,[.ro true 3 I6]),(1,[.keep]),(7,[.keep]),(8,[.keep])] [1,0,1,0] (Q162.s0 K) (Q162.pre K) λx a=>av [(0,⟨0,.one,[.ro true 3 I6 x.1]⟩),(1,⟨0,.one,[.fn [I6] .bool x.2.1]⟩),(7,⟨0,.one,[.int .i64 (BQ x.1:Int)]⟩),(8,⟨0,.one,[.int .i64 a]⟩)]
theorem Q163.o:So (Q163.c K):=fS T_NL_ok (gc (Q162.o K) g0) Tryz.func105
theorem Q164.o:So (Q164.c K):=fL T_NL_ok (gc (Q129.o K) (gc (Q159.o K) (gc (Q160.o K) (gc (Q161.o K) (gc (Q163.o K) g0))))) Tryz.func49 4 [(1,[.keep]),(3,[.keep]),(7,[.ro true 86 t11]),(8,[.keep]),(9,[.keep]),(100001,Kc0)] [1,1,0,1,0] (Q164.s0 K) (Q164.pre K) λx a=>av [(1,⟨0,.one,[.bp 100001 0]⟩),(3,⟨0,.one,[.clo 104 []]⟩),(7,⟨0,.one,[.ro true 86 t11 x.1.2.2.2.2.2.2.2.2.2.2.2.2.2.1]⟩),(8,⟨0,.one,[.int .i64 (BQ x.1.2.2.2.2.2.2.2.2.2.2.2.2.2.1:Int)]⟩),(9,⟨0,.one,[.int .i64 a]⟩),(100001,⟨0,.agg,(w1 x.1)⟩)]
theorem Q165.o:So (Q165.c K):=fL T_NL_ok (gc (Q129.o K) (gc (Q133.o K) (gc (Q144.o K) (gc (Q145.o K) (gc (Q142.o K) g0))))) Tryz.func50 3 [(1,[.keep]),(6,[.ro true 55 t12]),(7,[.keep]),(8,[.keep]),(100001,Kc0)] [1,0,1,0] (Q165.s0 K) (Q165.pre K) λx a=>av [(1,⟨0,.one,[.bp 100001 0]⟩),(6,⟨0,.one,[.ro true 55 t12 x.1.2.2.2.2.2.2.2.2.2.2.2.2.2.2]⟩),(7,⟨0,.one,[.int .i64 (BQ x.1.2.2.2.2.2.2.2.2.2.2.2.2.2.2:Int)]⟩),(8,⟨0,.one,[.int .i64 a]⟩),(100001,⟨0,.agg,(w1 x.1)⟩)]
theorem Q166.o:So (Q166.c K):=fS T_NL_ok (gc (Q130.o K) (gc (Q129.o K) (gc (Q131.o K) (gc (Q155.o K) (gc (Q156.o K) (gc (Q158.o K) (gc (Q159.o K) (gc (Q164.o K) (gc (Q165.o K) g0))))))))) Tryz.func15
theorem Q167.o:So (Q167.c K):=fS T_NL_ok (gc (Q130.o K) (gc (Q129.o K) (gc (Q159.o K) (gc (Q133.o K) (gc (Q144.o K) (gc (Q142.o K) g0)))))) Tryz.func86
theorem Q168.o:So (Q168.c K):=fS T_NL_ok (g0) Tryz.func87
theorem Q169.o:So (Q169.c K):=fS T_NL_ok (gc (Q166.o K) (gc (Q167.o K) (gc (Q168.o K) (gc (Q157.o K) (gc (Q144.o K) (gc (Q145.o K) (gc (Q142.o K) g0))))))) Tryz.func35
theorem Q170.o:So (Q170.c K):=fS T_NL_ok (gc (Q138.o K) (gc (Q1.o K) (gc (Q2.o K) (gc (Q152.o K) g0)))) Tryz.func67
theorem Q171.o:So (Q171.c K):=fL T_NL_ok (gc (Q133.o K) (gc (Q1.o K) (gc (Q170.o K) g0))) Tryz.func19 6 [(5,[.own false 40 t2]),(18,[.ro true 40 t2]),(19,[.keep]),(20,[.keep])] [1,1,1,0,1,0] (Q171.s0 K) (Q171.pre K) λx a=>av [(5,⟨0,.one,[.own false none 40 t2 a.1]⟩),(18,⟨0,.one,[.ro true 40 t2 x.2.1]⟩),(19,⟨0,.one,[.int .i64 (BQ x.2.1:Int)]⟩),(20,⟨0,.one,[.int .i64 a.2]⟩)]
theorem Q172.o:So (Q172.c K):=fS T_NL_ok (gc (Q138.o K) (gc (Q150.o K) (gc (Q132.o K) (gc (Q152.o K) (gc (Q3.o K) (gc (Q149.o K) (gc (Q4.o K) g0))))))) Tryz.func197
theorem Q173.o:So (Q173.c K):=fL T_NL_ok (g0) Tryz.func72 3 [(0,[.ro true 83 t6]),(1,[.keep]),(7,[.keep]),(8,[.keep])] [1,0,1,0] (Q173.s0 K) (Q173.pre K) λx a=>av [(0,⟨0,.one,[.ro true 83 t6 x.1]⟩),(1,⟨0,.one,[.fn [t6] .bool x.2.1]⟩),(7,⟨0,.one,[.int .i64 (BQ x.1:Int)]⟩),(8,⟨0,.one,[.int .i64 a]⟩)]
theorem Q174.o:So (Q174.c K):=fS T_NL_ok (g0) Tryz.func199
theorem Q175.o:So (Q175.c K):=fL T_NL_ok (g0) Tryz.func200 4 [(0,[.ro true 83 t6]),(1,[.keep]),(2,[.keep]),(8,[.keep]),(9,[.keep]),(10,[.keep])] [1,1,1,0,0] (Q175.s0 K) (Q175.pre K) λx a=>av [(0,⟨0,.one,[.ro true 83 t6 x.1]⟩),(1,⟨0,.one,[.int .i64 x.2.1]⟩),(2,⟨0,.one,[.fn [t6,I6] I6 x.2.2.1]⟩),(8,⟨0,.one,[.int .i64 (BQ x.1:Int)]⟩),(9,⟨0,.one,[.int .i64 a.1]⟩),(10,⟨0,.one,[.int .i64 a.2]⟩)]
theorem Q176.o:So (Q176.c K):=fS T_NL_ok (g0) Tryz.func201
theorem Q5.says (K:Nat)(hK:1048577<K)(xs:List (Ty.den t6))(φ:Tup [t6]->Option Bool)(ht:xs.length<=1048576)(hφ:∀ x∈xs,∃ b,φ (x,())=some b):oj xs φ (Q173.f K (xs,φ,())):=by
 have:=ct (step:=λrec a=>Q173.s0 K (xs,φ,()) rec a) xs.length (λi=>(i:Int)) (λj=>∃ h:j<xs.length,φ (xs[j],())=some true) (some ((-1,()),())) (λj=>some ((((j:Nat):Int),()),())) ?_ ?_ xs.length K 0 (by omega) (by omega)
 ·rcases this with ⟨h1,h2⟩|⟨j,_,h1,⟨h3,h4⟩,h5,h2⟩
  ·refine .inl ⟨λx hx=>?_,(),h2⟩;obtain⟨i,hi,rfl⟩:=BX hx;obtain⟨b,hb⟩:=hφ _ (BR hi);cases b with
   |false=>exact hb
   |true=>exact absurd ⟨hi,hb⟩ (h1 i (BW _) hi)
  ·refine .inr ⟨j,xs[j],(),BU h3,h4,λm y hm hy=>?_,h2⟩;obtain⟨hml,rfl⟩:=BS.1 hy;obtain⟨b,hb⟩:=hφ _ (BR hml);cases b with
   |false=>exact hb
   |true=>exact absurd ⟨hml,hb⟩ (h5 m (BW _) hm)
 ·intro rec i hi;simp only[Q173.s0];rw[decide_eq_true (by omega:(i:Int)<(BQ xs:Int)),ag hi,ar i (by omega)];simp only[cond_true,BY];obtain⟨b,hb⟩:=hφ _ (BR hi);rw[hb];cases b with
  |true=>exact .inr ⟨⟨hi,hb⟩,rfl⟩
  |false=>exact .inl ⟨λ⟨_,h⟩=>(by rw[hb]at h;cases h),rfl⟩
 ·intro rec;simp only[Q173.s0];rw[decide_eq_false (by omega:¬ ((xs.length:Int)<(BQ xs:Int)))];rfl
theorem Q5.o:bP Tryz.prog (Q5.c K):=nN (e:=t50) (e':=t6) (cv:=λx=>x) (λ_=>HEq.rfl) (by kernel_rfl) (dr Tryz.func198 (by kernel_rfl) rfl) (by kernel_rfl) (by kernel_rfl) (Q173.o 1048578) (λxs φ h1 h2=>Q5.says 1048578 (by omega) xs φ h1 h2) Q5.walk
theorem Q177.o:So (Q177.c K):=fS T_NL_ok (gc (Q139.o K) (gc (Q170.o K) (gc (Q172.o K) (gc (Q5.o K) (gc (Q174.o K) (gc (Q175.o K) (gc (Q176.o K) (gc (Q6.o K) g0)))))))) Tryz.func146
theorem Q178.o:So (Q178.c K):=fS T_NL_ok (gc (Q135.o K) g0) Tryz.func203
theorem Q179.o:So (Q179.c K):=fS T_NL_ok (g0) Tryz.func204
theorem Q180.o:So (Q180.c K):=fL T_NL_ok (gc (Q178.o K) (gc (Q179.o K) g0)) Tryz.func147 4 [(0,[.ro true 3 I6]),(1,[.keep]),(6,[.keep]),(7,[.keep]),(8,[.keep])] [1,1,1,0,0] (Q180.s0 K) (Q180.pre K) λx a=>av [(0,⟨0,.one,[.ro true 3 I6 x.1]⟩),(1,⟨0,.one,[.int .i64 x.2.1]⟩),(6,⟨0,.one,[.int .i64 (BQ x.1:Int)]⟩),(7,⟨0,.one,[.int .i64 a.1]⟩),(8,⟨0,.one,[.int .i64 a.2]⟩)]
theorem Q181.o:So (Q181.c K):=fM T_NL_ok (gc (Q139.o K) (gc (Q153.o K) (gc (Q177.o K) (gc (Q180.o K) (gc (Q7.o K) g0))))) Tryz.func93 (Q181.eqn K)
theorem Q182.o:So (Q182.c K):=fL T_NL_ok (g0) Tryz.func140 3 [(1,[.keep]),(10,[.ro true 55 t12]),(11,[.keep]),(12,[.keep])] [1,0,1,0] (Q182.s0 K) (Q182.pre K) λx a=>av [(1,⟨0,.one,[.int .i64 x.2.1]⟩),(10,⟨0,.one,[.ro true 55 t12 x.1.2.2.2.2.2.2.2.2.2.2.2.2.2.2]⟩),(11,⟨0,.one,[.int .i64 (BQ x.1.2.2.2.2.2.2.2.2.2.2.2.2.2.2:Int)]⟩),(12,⟨0,.one,[.int .i64 a]⟩)]
theorem Q183.o:So (Q183.c K):=fL T_NL_ok (g0) Tryz.func141 4 [(0,[.ro true 55 t12]),(1,[.keep]),(2,[.keep]),(8,[.keep]),(9,[.keep]),(10,[.keep])] [1,1,1,0,0] (Q183.s0 K) (Q183.pre K) λx a=>av [(0,⟨0,.one,[.ro true 55 t12 x.1]⟩),(1,⟨0,.one,[.int .i64 x.2.1]⟩),(2,⟨0,.one,[.fn [t12,I6] I6 x.2.2.1]⟩),(8,⟨0,.one,[.int .i64 (BQ x.1:Int)]⟩),(9,⟨0,.one,[.int .i64 a.1]⟩),(10,⟨0,.one,[.int .i64 a.2]⟩)]
theorem Q184.o:So (Q184.c K):=fS T_NL_ok (g0) Tryz.func142
theorem Q185.o:So (Q185.c K):=fL T_NL_ok (g0) Tryz.func144 5 [(0,[.ro true 40 t2]),(1,[.ro true 40 t2]),(12,[.keep]),(13,[.keep])] [1,1,0,1,0] (Q185.s0 K) (Q185.pre K) λx a=>av [(0,⟨0,.one,[.ro true 40 t2 x.1]⟩),(1,⟨0,.one,[.ro true 40 t2 x.2.1]⟩),(12,⟨0,.one,[.int .i64 (BQ x.1:Int)]⟩),(13,⟨0,.one,[.int .i64 a]⟩)]
theorem Q186.o:So (Q186.c K):=fS T_NL_ok (g0) Tryz.func145
theorem Q187.o:So (Q187.c K):=fS T_NL_ok (gc (Q171.o K) (gc (Q1.o K) (gc (Q145.o K) (gc (Q142.o K) (gc (Q181.o K) (gc (Q182.o K) (gc (Q183.o K) (gc (Q184.o K) (gc (Q8.o K) (gc (Q185.o K) (gc (Q186.o K) g0))))))))))) Tryz.func92
theorem Q188.o:So (Q188.c K):=fS T_NL_ok (g0) Tryz.func212
theorem Q189.o:So (Q189.c K):=fS T_NL_ok (gc (Q9.o K) (gc (Q188.o K) g0)) Tryz.func176
theorem Q190.o:So (Q190.c K):=fM T_S_ok (g0) Tryz.func292 (Q190.eqn K)
theorem Q191.o:So (Q191.c K):=fM T_S_ok (gc (Q190.o K) g0) Tryz.func276 (Q191.eqn K)
theorem Q192.o:So (Q192.c K):=fS T_S_ok (gc (Q191.o K) g0) Tryz.func242
theorem Q193.o:So (Q193.c K):=fS T_NL_ok (g0) Tryz.func243
theorem Q194.o:So (Q194.c K):=fM T_S_ok (gc (Q178.o K) g0) Tryz.func294 (Q194.eqn K)
theorem Q195.o:So (Q195.c K):=fS T_NL_ok (gc (Q178.o K) g0) Tryz.func315
theorem Q196.o:So (Q196.c K):=fS T_NL_ok (gc (Q195.o K) g0) Tryz.func312
theorem Q197.o:So (Q197.c K):=fS T_NL_ok (gc (Q196.o K) g0) Tryz.func311
theorem Q198.o:So (Q198.c K):=fS T_NL_ok (gc (Q197.o K) (gc (Q196.o K) g0)) Tryz.func297
theorem Q199.o:So (Q199.c K):=fL T_S_ok (gc (Q178.o K) (gc (Q194.o K) (gc (Q198.o K) g0))) Tryz.func277 3 [(0,[.own false 3 I6]),(1,[.keep]),(2,[.keep]),(3,[.keep]),(8,[.keep]),(9,[.keep])] [1,1,0] (Q199.s0 K) (Q199.pre K) λx a=>av [(0,⟨0,.one,[.own false none 3 I6 x.1]⟩),(1,⟨0,.one,[.int .i64 x.2.1]⟩),(2,⟨0,.one,[.int .i64 x.2.2.1]⟩),(3,⟨0,.one,[.int .i64 x.2.2.2.1]⟩),(8,⟨0,.one,[.bool true]⟩),(9,⟨0,.one,[.bool true]⟩)]
theorem Q200.o:So (Q200.c K):=fS T_NL_ok (g0) Tryz.func303
theorem Q201.o:So (Q201.c K):=fS T_NL_ok (gc (Q200.o K) g0) Tryz.func278
theorem Q202.o:So (Q202.c K):=fS T_S_ok (gc (Q199.o K) (gc (Q201.o K) g0)) Tryz.func244
theorem Q203.o:So (Q203.c K):=fS T_NL_ok (g0) Tryz.func246
theorem Q10.says (K:Nat)(hK:1048577<K)(xs:List (Ty.den t3))(φ:Tup [t3]->Option Bool)(ht:xs.length<=1048576)(hφ:∀ x∈xs,∃ b,φ (x,())=some b):oj xs φ (Q146.f K (xs,φ,())):=by
 have:=ct (step:=λrec a=>Q146.s0 K (xs,φ,()) rec a) xs.length (λi=>(i:Int)) (λj=>∃ h:j<xs.length,φ (xs[j],())=some true) (some ((-1,()),())) (λj=>some ((((j:Nat):Int),()),())) ?_ ?_ xs.length K 0 (by omega) (by omega)
 ·rcases this with ⟨h1,h2⟩|⟨j,_,h1,⟨h3,h4⟩,h5,h2⟩
  ·refine .inl ⟨λx hx=>?_,(),h2⟩;obtain⟨i,hi,rfl⟩:=BX hx;obtain⟨b,hb⟩:=hφ _ (BR hi);cases b with
   |false=>exact hb
   |true=>exact absurd ⟨hi,hb⟩ (h1 i (BW _) hi)
  ·refine .inr ⟨j,xs[j],(),BU h3,h4,λm y hm hy=>?_,h2⟩;obtain⟨hml,rfl⟩:=BS.1 hy;obtain⟨b,hb⟩:=hφ _ (BR hml);cases b with
   |false=>exact hb
   |true=>exact absurd ⟨hml,hb⟩ (h5 m (BW _) hm)
 ·intro rec i hi;simp only[Q146.s0];rw[decide_eq_true (by omega:(i:Int)<(BQ xs:Int)),ag hi,ar i (by omega)];simp only[cond_true,BY];obtain⟨b,hb⟩:=hφ _ (BR hi);rw[hb];cases b with
  |true=>exact .inr ⟨⟨hi,hb⟩,rfl⟩
  |false=>exact .inl ⟨λ⟨_,h⟩=>(by rw[hb]at h;cases h),rfl⟩
 ·intro rec;simp only[Q146.s0];rw[decide_eq_false (by omega:¬ ((xs.length:Int)<(BQ xs:Int)))];rfl
theorem Q10.o:bP Tryz.prog (Q10.c K):=nN (e:=t3) (e':=t3) (cv:=λx=>x) (λ_=>HEq.rfl) (by kernel_rfl) (dr Tryz.func245 (by kernel_rfl) rfl) (by kernel_rfl) (by kernel_rfl) (Q146.o 1048578) (λxs φ h1 h2=>Q10.says 1048578 (by omega) xs φ h1 h2) Q10.walk
theorem Q204.o:So (Q204.c K):=fM T_NL_ok (gc (Q150.o K) (gc (Q3.o K) (gc (Q189.o K) (gc (Q192.o K) (gc (Q193.o K) (gc (Q202.o K) (gc (Q10.o K) (gc (Q203.o K) g0)))))))) Tryz.func207 (Q204.eqn K)
theorem Q205.o:So (Q205.c K):=fS T_NL_ok (gc (Q139.o K) (gc (Q170.o K) (gc (Q204.o K) g0))) Tryz.func149
theorem Q206.o:So (Q206.c K):=fS T_NL_ok (gc (Q186.o K) (gc (Q205.o K) g0)) Tryz.func95
theorem Q207.o:So (Q207.c K):=fS T_NL_ok (gc (Q1.o K) (gc (Q186.o K) g0)) Tryz.func96
theorem Q208.o:So (Q208.c K):=fS T_NL_ok (gc (Q187.o K) (gc (Q181.o K) (gc (Q160.o K) (gc (Q206.o K) (gc (Q207.o K) g0))))) Tryz.func36
theorem Q209.o:So (Q209.c K):=fS T_NL_ok (gc (Q169.o K) (gc (Q208.o K) g0)) Tryz.func34
theorem Q210.o:So (Q210.c K):=fM T_NL_ok (gc (Q1.o K) (gc (Q9.o K) (gc (Q3.o K) g0))) Tryz.func84 (Q210.eqn K)
theorem Q211.o:So (Q211.c K):=fS T_D_ok (g0) Tryz.func85
theorem Q212.o:So (Q212.c K):=fS T_NL_ok (gc (Q166.o K) (gc (Q209.o K) (gc (Q210.o K) (gc (Q211.o K) g0)))) Tryz.func33
theorem Q213.o:So (Q213.c K):=fS T_NL_ok (gc (Q212.o K) g0) Tryz.func11
theorem Q214.o:So (Q214.c K):=fS T_S_ok (gc (Q25.o K) g0) Tryz.func55
theorem Q215.o:So (Q215.c K):=fL T_S_ok (gc (Q13.o K) (gc (Q18.o K) g0)) Tryz.func108 3 [(0,[.ro true 50 t3]),(3,[.keep])] [1,0,1,0] (Q215.s0 K) (Q215.pre K) λx a=>av [(0,⟨0,.one,[.ro true 50 t3 x.1]⟩),(3,⟨0,.one,[.int .i64 a]⟩)]
theorem Q216.o:So (Q216.c K):=fL T_S_ok (gc (Q25.o K) (gc (Q215.o K) (gc (Q26.o K) g0))) Tryz.func56 5 [(1,[.keep]),(3,[.keep]),(100001,Kc0)] [1,1,0,1,0] (Q216.s0 K) (Q216.pre K) λx a=>av [(1,⟨0,.one,[.bp 100001 0]⟩),(3,⟨0,.one,[.int .i64 a]⟩),(100001,⟨0,.agg,(w1 x.1)⟩)]
theorem Q217.o:So (Q217.c K):=fS T_S_ok (gc (Q13.o K) (gc (Q25.o K) g0)) Tryz.func57
theorem Q218.o:So (Q218.c K):=fM T_S_ok (gc (Q13.o K) (gc (Q23.o K) (gc (Q25.o K) g0))) Tryz.func58 (Q218.eqn K)
theorem Q219.o:So (Q219.c K):=fM T_S_ok (gc (Q13.o K) (gc (Q23.o K) (gc (Q21.o K) g0))) Tryz.func60 (Q219.eqn K)
theorem Q220.o:So (Q220.c K):=fL T_S_ok (gc (Q13.o K) (gc (Q19.o K) (gc (Q20.o K) (gc (Q23.o K) g0)))) Tryz.func61 3 [(1,[.keep]),(3,[.keep]),(100001,Kc0)] [1,0,1,0] (Q220.s0 K) (Q220.pre K) λx a=>av [(1,⟨0,.one,[.bp 100001 0]⟩),(3,⟨0,.one,[.int .i64 a]⟩),(100001,⟨0,.agg,(w1 x.1)⟩)]
theorem Q221.o:So (Q221.c K):=fS T_S_ok (gc (Q13.o K) (gc (Q19.o K) (gc (Q20.o K) (gc (Q23.o K) (gc (Q214.o K) (gc (Q216.o K) (gc (Q217.o K) (gc (Q218.o K) (gc (Q21.o K) (gc (Q219.o K) (gc (Q220.o K) g0))))))))))) Tryz.func16
theorem Q222.o:So (Q222.c K):=fS T_NS_ok (gc (Q221.o K) (gc (Q59.o K) (gc (Q109.o K) g0))) Tryz.func12
theorem Q223.o:So (Q223.c K):=fL T_NL_ok (g0) Tryz.func22 5 [(0,[.ro true 40 t2]),(1,[.ro true 40 t2]),(5,[.keep])] [1,1,0,1,0] (Q223.s0 K) (Q223.pre K) λx a=>av [(0,⟨0,.one,[.ro true 40 t2 x.1]⟩),(1,⟨0,.one,[.ro true 40 t2 x.2.1]⟩),(5,⟨0,.one,[.int .i64 a]⟩)]
theorem Q224.o:So (Q224.c K):=fL T_NL_ok (g0) Tryz.func39 5 [(0,[.ro true 50 t3]),(1,[.ro true 50 t3]),(5,[.keep])] [1,1,0,1,0] (Q224.s0 K) (Q224.pre K) λx a=>av [(0,⟨0,.one,[.ro true 50 t3 x.1]⟩),(1,⟨0,.one,[.ro true 50 t3 x.2.1]⟩),(5,⟨0,.one,[.int .i64 a]⟩)]
theorem Q225.o:So (Q225.c K):=fL T_NL_ok (g0) Tryz.func40 5 [(0,[.ro true 3 I6]),(1,[.ro true 3 I6]),(5,[.keep])] [1,1,0,1,0] (Q225.s0 K) (Q225.pre K) λx a=>av [(0,⟨0,.one,[.ro true 3 I6 x.1]⟩),(1,⟨0,.one,[.ro true 3 I6 x.2.1]⟩),(5,⟨0,.one,[.int .i64 a]⟩)]
theorem Q226.o:So (Q226.c K):=fM T_NL_ok (gc (Q223.o K) (gc (Q224.o K) (gc (Q225.o K) g0))) Tryz.func13 (Q226.eqn K)
theorem Q227.o:So (Q227.c K):=fS T_NL_ok (gc (Q223.o K) g0) Tryz.func41
theorem Q228.o:So (Q228.c K):=fL T_NL_ok (gc (Q227.o K) g0) Tryz.func14 5 [(0,[.ro true 35 t47]),(1,[.ro true 35 t47]),(5,[.keep])] [1,1,0,1,0] (Q228.s0 K) (Q228.pre K) λx a=>av [(0,⟨0,.one,[.ro true 35 t47 x.1]⟩),(1,⟨0,.one,[.ro true 35 t47 x.2.1]⟩),(5,⟨0,.one,[.int .i64 a]⟩)]
theorem Q229.o:So (Q229.c K):=fS T_S_ok (gc (Q221.o K) (gc (Q22.o K) (gc (Q24.o K) g0))) Tryz.func18
theorem Q230.o:So (Q230.c K):=fS T_NL_ok (g0) Tryz.func10
theorem Q231.o:So (Q231.c K):=fS T_NL_ok (g0) Tryz.func69
theorem Q232.o:So (Q232.c K):=fS T_NL_ok (gc (Q230.o K) (gc (Q231.o K) g0)) Tryz.func21
theorem Q233.o:So (Q233.c K):=fM T_NL_ok (gc (Q128.o K) (gc (Q213.o K) (gc (Q222.o K) (gc (Q226.o K) (gc (Q228.o K) (gc (Q229.o K) (gc (Q232.o K) (gc (Q223.o K) g0)))))))) Tryz.func6 (Q233.eqn K)
end Go.Proofs.YtadlacffdemoiaaGreatEv
