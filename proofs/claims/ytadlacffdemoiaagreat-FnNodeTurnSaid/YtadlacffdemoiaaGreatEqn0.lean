/- The kernel finds them so. Printed by run3.py. -/
import Derived.Test.YtadlacffdemoiaaGreatFns
set_option linter.unusedVariables false
set_option maxRecDepth 100000
set_option linter.unusedVariables false
set_option linter.unusedSimpArgs false

namespace Go.Proofs.YtadlacffdemoiaaGreatEv
open Go Go.Proofs
namespace Q32
theorem o1 (K:Nat)(x:ab ps)(q0:St->R):N1 K x q0=l1 K x (λa=>q0 (S0 x a)):=evl λq1 a=>by kernel_rfl
theorem o0 (K:Nat)(x:ab ps):N0 K x=l0 K x:=evl λq0 a=>by rw[<- o1 K x q0];kernel_rfl
theorem eqn (K:Nat)(x:ab ps):evF (G K) T_NS L K Tryz.f162 ps rs false x=f K x:=by show _=pre K (l0 K x) x;rw[<- o0 K x];kernel_rfl
end Q32
namespace Q42
theorem o1 (K:Nat)(x:ab ps):N1 K x=l1 K x:=evl λq1 a=>by kernel_rfl
theorem o0 (K:Nat)(x:ab ps):N0 K x=l0 K x:=evl λq0 a=>by rw[<- o1 K x];kernel_rfl
theorem eqn (K:Nat)(x:ab ps):evF (G K) T_S L K Tryz.f216 ps rs true x=f K x:=by show _=pre K (l0 K x) x;rw[<- o0 K x];kernel_rfl
end Q42
namespace Q56
theorem o1 (K:Nat)(x:ab ps)(q0:St->R):N1 K x q0=l1 K x (λa=>q0 (S0 x a)):=evl λq1 a=>by kernel_rfl
theorem o0 (K:Nat)(x:ab ps):N0 K x=l0 K x:=evl λq0 a=>by rw[<- o1 K x q0];kernel_rfl
theorem eqn (K:Nat)(x:ab ps):evF (G K) T_S L K Tryz.f220 ps rs true x=f K x:=by show _=pre K (l0 K x) x;rw[<- o0 K x];kernel_rfl
end Q56
namespace Q109
theorem o2 (K:Nat)(x:ab ps):N2 K x=l2 K x:=evl λq2 a=>by kernel_rfl
theorem o1 (K:Nat)(x:ab ps):N1 K x=l1 K x:=evl λq1 a=>by rw[<- o2 K x];kernel_rfl
theorem o0 (K:Nat)(x:ab ps):N0 K x=l0 K x:=evl λq0 a=>by rw[<- o1 K x];kernel_rfl
theorem eqn (K:Nat)(x:ab ps):evF (G K) T_ND L K Tryz.f38 ps rs true x=f K x:=by show _=pre K (l0 K x) x;rw[<- o0 K x];kernel_rfl
end Q109
namespace Q114
theorem o1 (K:Nat)(x:ab ps):N1 K x=l1 K x:=evl λq1 a=>by kernel_rfl
theorem o0 (K:Nat)(x:ab ps):N0 K x=l0 K x:=evl λq0 a=>by rw[<- o1 K x];kernel_rfl
theorem eqn (K:Nat)(x:ab ps):evF (G K) T_S L K Tryz.f78 ps rs false x=f K x:=by show _=pre K (l0 K x) (l1 K x) x;rw[<- o0 K x,<- o1 K x];kernel_rfl
end Q114
namespace Q158
theorem o2 (K:Nat)(x:ab ps)(q1:St->R):N2 K x q1=l2 K x (λa=>q1 (S1 x a)):=evl λq2 a=>by kernel_rfl
theorem o1 (K:Nat)(x:ab ps):N1 K x=l1 K x:=evl λq1 a=>by rw[<- o2 K x q1];kernel_rfl
theorem o0 (K:Nat)(x:ab ps):N0 K x=l0 K x:=evl λq0 a=>by rw[<- o1 K x];kernel_rfl
theorem eqn (K:Nat)(x:ab ps):evF (G K) T_NL L K Tryz.f47 ps rs true x=f K x:=by show _=pre K (l0 K x) x;rw[<- o0 K x];kernel_rfl
end Q158
namespace Q181
theorem o1 (K:Nat)(x:ab ps)(q0:St->R):N1 K x q0=l1 K x (λa=>q0 (S0 x a)):=evl λq1 a=>by kernel_rfl
theorem o0 (K:Nat)(x:ab ps):N0 K x=l0 K x:=evl λq0 a=>by rw[<- o1 K x q0];kernel_rfl
theorem eqn (K:Nat)(x:ab ps):evF (G K) T_NL L K Tryz.f93 ps rs false x=f K x:=by show _=pre K (l0 K x) x;rw[<- o0 K x];kernel_rfl
end Q181
namespace Q190
theorem o1 (K:Nat)(x:ab ps)(q0:St->R):N1 K x q0=l1 K x (λa=>q0 (S0 x a)):=evl λq1 a=>by kernel_rfl
theorem o0 (K:Nat)(x:ab ps):N0 K x=l0 K x:=evl λq0 a=>by rw[<- o1 K x q0];kernel_rfl
theorem eqn (K:Nat)(x:ab ps):evF (G K) T_S L K Tryz.f292 ps rs true x=f K x:=by show _=pre K (l0 K x) x;rw[<- o0 K x];kernel_rfl
end Q190
namespace Q191
theorem o2 (K:Nat)(x:ab ps)(q1:St->R):N2 K x q1=l2 K x (λa=>q1 (S1 x a)):=evl λq2 a=>by kernel_rfl
theorem o1 (K:Nat)(x:ab ps):N1 K x=l1 K x:=evl λq1 a=>by rw[<- o2 K x q1];kernel_rfl
theorem o0 (K:Nat)(x:ab ps):N0 K x=l0 K x:=evl λq0 a=>by rw[<- o1 K x];kernel_rfl
theorem eqn (K:Nat)(x:ab ps):evF (G K) T_S L K Tryz.f276 ps rs true x=f K x:=by show _=pre K (l0 K x) x;rw[<- o0 K x];kernel_rfl
end Q191
namespace Q194
theorem o1 (K:Nat)(x:ab ps)(q0:St->R):N1 K x q0=l1 K x (λa=>q0 (S0 x a)):=evl λq1 a=>by kernel_rfl
theorem o0 (K:Nat)(x:ab ps):N0 K x=l0 K x:=evl λq0 a=>by rw[<- o1 K x q0];kernel_rfl
theorem eqn (K:Nat)(x:ab ps):evF (G K) T_S L K Tryz.f294 ps rs true x=f K x:=by show _=pre K (l0 K x) x;rw[<- o0 K x];kernel_rfl
end Q194
namespace Q204
theorem o1 (K:Nat)(x:ab ps):N1 K x=l1 K x:=evl λq1 a=>by kernel_rfl
theorem o0 (K:Nat)(x:ab ps):N0 K x=l0 K x:=evl λq0 a=>by rw[<- o1 K x];kernel_rfl
theorem eqn (K:Nat)(x:ab ps):evF (G K) T_NL L K Tryz.f207 ps rs true x=f K x:=by show _=pre K (l0 K x) x;rw[<- o0 K x];kernel_rfl
end Q204
namespace Q210
theorem o2 (K:Nat)(x:ab ps):N2 K x=l2 K x:=evl λq2 a=>by kernel_rfl
theorem o1 (K:Nat)(x:ab ps):N1 K x=l1 K x:=evl λq1 a=>by rw[<- o2 K x];kernel_rfl
theorem o0 (K:Nat)(x:ab ps):N0 K x=l0 K x:=evl λq0 a=>by rw[<- o1 K x];kernel_rfl
theorem eqn (K:Nat)(x:ab ps):evF (G K) T_NL L K Tryz.f84 ps rs true x=f K x:=by show _=pre K (l0 K x) x;rw[<- o0 K x];kernel_rfl
end Q210
namespace Q218
theorem o1 (K:Nat)(x:ab ps)(q0:St->R):N1 K x q0=l1 K x (λa=>q0 (S0 x a)):=evl λq1 a=>by kernel_rfl
theorem o2 (K:Nat)(x:ab ps):N2 K x=l2 K x:=evl λq2 a=>by kernel_rfl
theorem o0 (K:Nat)(x:ab ps):N0 K x=l0 K x:=evl λq0 a=>by rw[<- o1 K x q0,<- o2 K x];kernel_rfl
theorem eqn (K:Nat)(x:ab ps):evF (G K) T_S L K Tryz.f58 ps rs true x=f K x:=by show _=pre K (l0 K x) x;rw[<- o0 K x];kernel_rfl
end Q218
namespace Q219
theorem o1 (K:Nat)(x:ab ps)(q0:St->R):N1 K x q0=l1 K x (λa=>q0 (S0 x a)):=evl λq1 a=>by kernel_rfl
theorem o0 (K:Nat)(x:ab ps):N0 K x=l0 K x:=evl λq0 a=>by rw[<- o1 K x q0];kernel_rfl
theorem eqn (K:Nat)(x:ab ps):evF (G K) T_S L K Tryz.f60 ps rs true x=f K x:=by show _=pre K (l0 K x) x;rw[<- o0 K x];kernel_rfl
end Q219
namespace Q226
theorem o2 (K:Nat)(x:ab ps):N2 K x=l2 K x:=evl λq2 a=>by kernel_rfl
theorem o1 (K:Nat)(x:ab ps):N1 K x=l1 K x:=evl λq1 a=>by rw[<- o2 K x];kernel_rfl
theorem o0 (K:Nat)(x:ab ps):N0 K x=l0 K x:=evl λq0 a=>by rw[<- o1 K x];kernel_rfl
theorem eqn (K:Nat)(x:ab ps):evF (G K) T_NL L K Tryz.f13 ps rs true x=f K x:=by show _=pre K (l0 K x) x;rw[<- o0 K x];kernel_rfl
end Q226
namespace Q233
theorem o1 (K:Nat)(x:ab ps):N1 K x=l1 K x:=evl λq1 a=>by kernel_rfl
theorem o0 (K:Nat)(x:ab ps):N0 K x=l0 K x:=evl λq0 a=>by rw[<- o1 K x];kernel_rfl
theorem eqn (K:Nat)(x:ab ps):evF (G K) T_NL L K Tryz.f6 ps rs true x=f K x:=by show _=pre K (l0 K x) x;rw[<- o0 K x];kernel_rfl
end Q233
end Go.Proofs.YtadlacffdemoiaaGreatEv
