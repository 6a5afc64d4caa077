/- The kernel finds them so. Printed by run3.py. -/
import Derived.Test.YtmibehbhnkeaiaaGreatFns
set_option linter.unusedVariables false
set_option maxRecDepth 100000
set_option linter.unusedVariables false
set_option linter.unusedSimpArgs false

namespace Go.Proofs.YtmibehbhnkeaiaaGreatEv
open Go Go.Proofs
namespace Q42
theorem o2 (K:Nat)(x:ab ps)(q1:St->R):N2 K x q1=l2 K x (λa=>q1 (S1 x a)):=evl λq2 a=>by kernel_rfl
theorem o1 (K:Nat)(x:ab ps):N1 K x=l1 K x:=evl λq1 a=>by rw[<- o2 K x q1];kernel_rfl
theorem o0 (K:Nat)(x:ab ps):N0 K x=l0 K x:=evl λq0 a=>by rw[<- o1 K x];kernel_rfl
theorem eqn (K:Nat)(x:ab ps):evF (G K) T_NL L K Tryz.f84 ps rs true x=f K x:=by show _=pre K (l0 K x) x;rw[<- o0 K x];kernel_rfl
end Q42
namespace Q64
theorem o1 (K:Nat)(x:ab ps)(q0:St->R):N1 K x q0=l1 K x (λa=>q0 (S0 x a)):=evl λq1 a=>by kernel_rfl
theorem o0 (K:Nat)(x:ab ps):N0 K x=l0 K x:=evl λq0 a=>by rw[<- o1 K x q0];kernel_rfl
theorem eqn (K:Nat)(x:ab ps):evF (G K) T_NL L K Tryz.f109 ps rs false x=f K x:=by show _=pre K (l0 K x) x;rw[<- o0 K x];kernel_rfl
end Q64
namespace Q77
theorem o1 (K:Nat)(x:ab ps)(q0:St->R):N1 K x q0=l1 K x (λa=>q0 (S0 x a)):=evl λq1 a=>by kernel_rfl
theorem o0 (K:Nat)(x:ab ps):N0 K x=l0 K x:=evl λq0 a=>by rw[<- o1 K x q0];kernel_rfl
theorem eqn (K:Nat)(x:ab ps):evF (G K) T_S L K Tryz.f332 ps rs true x=f K x:=by show _=pre K (l0 K x) x;rw[<- o0 K x];kernel_rfl
end Q77
namespace Q88
theorem o2 (K:Nat)(x:ab ps):N2 K x=l2 K x:=evl λq2 a=>by kernel_rfl
theorem o1 (K:Nat)(x:ab ps):N1 K x=l1 K x:=evl λq1 a=>by rw[<- o2 K x];kernel_rfl
theorem o0 (K:Nat)(x:ab ps):N0 K x=l0 K x:=evl λq0 a=>by rw[<- o1 K x];kernel_rfl
theorem eqn (K:Nat)(x:ab ps):evF (G K) T_NL L K Tryz.f106 ps rs true x=f K x:=by show _=pre K (l0 K x) x;rw[<- o0 K x];kernel_rfl
end Q88
namespace Q95
theorem o2 (K:Nat)(x:ab ps):N2 K x=l2 K x:=evl λq2 a=>by kernel_rfl
theorem o1 (K:Nat)(x:ab ps):N1 K x=l1 K x:=evl λq1 a=>by rw[<- o2 K x];kernel_rfl
theorem o0 (K:Nat)(x:ab ps):N0 K x=l0 K x:=evl λq0 a=>by rw[<- o1 K x];kernel_rfl
theorem eqn (K:Nat)(x:ab ps):evF (G K) T_NL L K Tryz.f16 ps rs true x=f K x:=by show _=pre K (l0 K x) x;rw[<- o0 K x];kernel_rfl
end Q95
namespace Q109
theorem o1 (K:Nat)(x:ab ps)(q0:St->R):N1 K x q0=l1 K x (λa=>q0 (S0 x a)):=evl λq1 a=>by kernel_rfl
theorem o2 (K:Nat)(x:ab ps):N2 K x=l2 K x:=evl λq2 a=>by kernel_rfl
theorem o0 (K:Nat)(x:ab ps):N0 K x=l0 K x:=evl λq0 a=>by rw[<- o1 K x q0,<- o2 K x];kernel_rfl
theorem eqn (K:Nat)(x:ab ps):evF (G K) T_S L K Tryz.f72 ps rs true x=f K x:=by show _=pre K (l0 K x) x;rw[<- o0 K x];kernel_rfl
end Q109
namespace Q111
theorem o1 (K:Nat)(x:ab ps)(q0:St->R):N1 K x q0=l1 K x (λa=>q0 (S0 x a)):=evl λq1 a=>by kernel_rfl
theorem o0 (K:Nat)(x:ab ps):N0 K x=l0 K x:=evl λq0 a=>by rw[<- o1 K x q0];kernel_rfl
theorem eqn (K:Nat)(x:ab ps):evF (G K) T_S L K Tryz.f74 ps rs true x=f K x:=by show _=pre K (l0 K x) x;rw[<- o0 K x];kernel_rfl
end Q111
namespace Q122
theorem o1 (K:Nat)(x:ab ps)(q0:St->R):N1 K x q0=l1 K x (λa=>q0 (S0 x a)):=evl λq1 a=>by kernel_rfl
theorem o0 (K:Nat)(x:ab ps):N0 K x=l0 K x:=evl λq0 a=>by rw[<- o1 K x q0];kernel_rfl
theorem eqn (K:Nat)(x:ab ps):evF (G K) T_S L K Tryz.f330 ps rs true x=f K x:=by show _=pre K (l0 K x) x;rw[<- o0 K x];kernel_rfl
end Q122
namespace Q123
theorem o2 (K:Nat)(x:ab ps)(q1:St->R):N2 K x q1=l2 K x (λa=>q1 (S1 x a)):=evl λq2 a=>by kernel_rfl
theorem o1 (K:Nat)(x:ab ps):N1 K x=l1 K x:=evl λq1 a=>by rw[<- o2 K x q1];kernel_rfl
theorem o0 (K:Nat)(x:ab ps):N0 K x=l0 K x:=evl λq0 a=>by rw[<- o1 K x];kernel_rfl
theorem eqn (K:Nat)(x:ab ps):evF (G K) T_S L K Tryz.f318 ps rs true x=f K x:=by show _=pre K (l0 K x) x;rw[<- o0 K x];kernel_rfl
end Q123
namespace Q127
theorem o1 (K:Nat)(x:ab ps):N1 K x=l1 K x:=evl λq1 a=>by kernel_rfl
theorem o0 (K:Nat)(x:ab ps):N0 K x=l0 K x:=evl λq0 a=>by rw[<- o1 K x];kernel_rfl
theorem eqn (K:Nat)(x:ab ps):evF (G K) T_NL L K Tryz.f244 ps rs true x=f K x:=by show _=pre K (l0 K x) x;rw[<- o0 K x];kernel_rfl
end Q127
namespace Q144
theorem o2 (K:Nat)(x:ab ps):N2 K x=l2 K x:=evl λq2 a=>by kernel_rfl
theorem o1 (K:Nat)(x:ab ps):N1 K x=l1 K x:=evl λq1 a=>by rw[<- o2 K x];kernel_rfl
theorem o0 (K:Nat)(x:ab ps):N0 K x=l0 K x:=evl λq0 a=>by rw[<- o1 K x];kernel_rfl
theorem eqn (K:Nat)(x:ab ps):evF (G K) T_ND L K Tryz.f49 ps rs true x=f K x:=by show _=pre K (l0 K x) x;rw[<- o0 K x];kernel_rfl
end Q144
namespace Q167
theorem o1 (K:Nat)(x:ab ps)(q0:St->R):N1 K x q0=l1 K x (λa=>q0 (S0 x a)):=evl λq1 a=>by kernel_rfl
theorem o0 (K:Nat)(x:ab ps):N0 K x=l0 K x:=evl λq0 a=>by rw[<- o1 K x q0];kernel_rfl
theorem eqn (K:Nat)(x:ab ps):evF (G K) T_NS L K Tryz.f189 ps rs false x=f K x:=by show _=pre K (l0 K x) x;rw[<- o0 K x];kernel_rfl
end Q167
namespace Q175
theorem o1 (K:Nat)(x:ab ps):N1 K x=l1 K x:=evl λq1 a=>by kernel_rfl
theorem o0 (K:Nat)(x:ab ps):N0 K x=l0 K x:=evl λq0 a=>by rw[<- o1 K x];kernel_rfl
theorem eqn (K:Nat)(x:ab ps):evF (G K) T_S L K Tryz.f251 ps rs true x=f K x:=by show _=pre K (l0 K x) x;rw[<- o0 K x];kernel_rfl
end Q175
namespace Q189
theorem o1 (K:Nat)(x:ab ps)(q0:St->R):N1 K x q0=l1 K x (λa=>q0 (S0 x a)):=evl λq1 a=>by kernel_rfl
theorem o0 (K:Nat)(x:ab ps):N0 K x=l0 K x:=evl λq0 a=>by rw[<- o1 K x q0];kernel_rfl
theorem eqn (K:Nat)(x:ab ps):evF (G K) T_S L K Tryz.f255 ps rs true x=f K x:=by show _=pre K (l0 K x) x;rw[<- o0 K x];kernel_rfl
end Q189
namespace Q246
theorem o1 (K:Nat)(x:ab ps):N1 K x=l1 K x:=evl λq1 a=>by kernel_rfl
theorem o0 (K:Nat)(x:ab ps):N0 K x=l0 K x:=evl λq0 a=>by rw[<- o1 K x];kernel_rfl
theorem eqn (K:Nat)(x:ab ps):evF (G K) T_S L K Tryz.f100 ps rs false x=f K x:=by show _=pre K (l0 K x) (l1 K x) x;rw[<- o0 K x,<- o1 K x];kernel_rfl
end Q246
end Go.Proofs.YtmibehbhnkeaiaaGreatEv
