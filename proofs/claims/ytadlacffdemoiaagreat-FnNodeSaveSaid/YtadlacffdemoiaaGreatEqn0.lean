/- The kernel finds them so. Printed by run3.py. -/
import Derived.Test.YtadlacffdemoiaaGreatFns
set_option linter.unusedVariables false
set_option maxRecDepth 100000
set_option linter.unusedVariables false
set_option linter.unusedSimpArgs false

namespace Go.Proofs.YtadlacffdemoiaaGreatEv
open Go Go.Proofs
namespace Q42
theorem o2 (K:Nat)(x:ab ps)(q1:St->R):N2 K x q1=l2 K x (λa=>q1 (S1 x a)):=evl λq2 a=>by kernel_rfl
theorem o1 (K:Nat)(x:ab ps):N1 K x=l1 K x:=evl λq1 a=>by rw[<- o2 K x q1];kernel_rfl
theorem o0 (K:Nat)(x:ab ps):N0 K x=l0 K x:=evl λq0 a=>by rw[<- o1 K x];kernel_rfl
theorem eqn (K:Nat)(x:ab ps):evF (G K) T_NL L K Tryz.f47 ps rs true x=f K x:=by show _=pre K (l0 K x) x;rw[<- o0 K x];kernel_rfl
end Q42
namespace Q65
theorem o1 (K:Nat)(x:ab ps)(q0:St->R):N1 K x q0=l1 K x (λa=>q0 (S0 x a)):=evl λq1 a=>by kernel_rfl
theorem o0 (K:Nat)(x:ab ps):N0 K x=l0 K x:=evl λq0 a=>by rw[<- o1 K x q0];kernel_rfl
theorem eqn (K:Nat)(x:ab ps):evF (G K) T_NL L K Tryz.f93 ps rs false x=f K x:=by show _=pre K (l0 K x) x;rw[<- o0 K x];kernel_rfl
end Q65
namespace Q74
theorem o1 (K:Nat)(x:ab ps)(q0:St->R):N1 K x q0=l1 K x (λa=>q0 (S0 x a)):=evl λq1 a=>by kernel_rfl
theorem o0 (K:Nat)(x:ab ps):N0 K x=l0 K x:=evl λq0 a=>by rw[<- o1 K x q0];kernel_rfl
theorem eqn (K:Nat)(x:ab ps):evF (G K) T_S L K Tryz.f292 ps rs true x=f K x:=by show _=pre K (l0 K x) x;rw[<- o0 K x];kernel_rfl
end Q74
namespace Q75
theorem o2 (K:Nat)(x:ab ps)(q1:St->R):N2 K x q1=l2 K x (λa=>q1 (S1 x a)):=evl λq2 a=>by kernel_rfl
theorem o1 (K:Nat)(x:ab ps):N1 K x=l1 K x:=evl λq1 a=>by rw[<- o2 K x q1];kernel_rfl
theorem o0 (K:Nat)(x:ab ps):N0 K x=l0 K x:=evl λq0 a=>by rw[<- o1 K x];kernel_rfl
theorem eqn (K:Nat)(x:ab ps):evF (G K) T_S L K Tryz.f276 ps rs true x=f K x:=by show _=pre K (l0 K x) x;rw[<- o0 K x];kernel_rfl
end Q75
namespace Q78
theorem o1 (K:Nat)(x:ab ps)(q0:St->R):N1 K x q0=l1 K x (λa=>q0 (S0 x a)):=evl λq1 a=>by kernel_rfl
theorem o0 (K:Nat)(x:ab ps):N0 K x=l0 K x:=evl λq0 a=>by rw[<- o1 K x q0];kernel_rfl
theorem eqn (K:Nat)(x:ab ps):evF (G K) T_S L K Tryz.f294 ps rs true x=f K x:=by show _=pre K (l0 K x) x;rw[<- o0 K x];kernel_rfl
end Q78
namespace Q88
theorem o1 (K:Nat)(x:ab ps):N1 K x=l1 K x:=evl λq1 a=>by kernel_rfl
theorem o0 (K:Nat)(x:ab ps):N0 K x=l0 K x:=evl λq0 a=>by rw[<- o1 K x];kernel_rfl
theorem eqn (K:Nat)(x:ab ps):evF (G K) T_NL L K Tryz.f207 ps rs true x=f K x:=by show _=pre K (l0 K x) x;rw[<- o0 K x];kernel_rfl
end Q88
namespace Q94
theorem o2 (K:Nat)(x:ab ps):N2 K x=l2 K x:=evl λq2 a=>by kernel_rfl
theorem o1 (K:Nat)(x:ab ps):N1 K x=l1 K x:=evl λq1 a=>by rw[<- o2 K x];kernel_rfl
theorem o0 (K:Nat)(x:ab ps):N0 K x=l0 K x:=evl λq0 a=>by rw[<- o1 K x];kernel_rfl
theorem eqn (K:Nat)(x:ab ps):evF (G K) T_NL L K Tryz.f84 ps rs true x=f K x:=by show _=pre K (l0 K x) x;rw[<- o0 K x];kernel_rfl
end Q94
namespace Q109
theorem o1 (K:Nat)(x:ab ps)(q0:St->R):N1 K x q0=l1 K x (λa=>q0 (S0 x a)):=evl λq1 a=>by kernel_rfl
theorem o2 (K:Nat)(x:ab ps):N2 K x=l2 K x:=evl λq2 a=>by kernel_rfl
theorem o0 (K:Nat)(x:ab ps):N0 K x=l0 K x:=evl λq0 a=>by rw[<- o1 K x q0,<- o2 K x];kernel_rfl
theorem eqn (K:Nat)(x:ab ps):evF (G K) T_S L K Tryz.f58 ps rs true x=f K x:=by show _=pre K (l0 K x) x;rw[<- o0 K x];kernel_rfl
end Q109
namespace Q111
theorem o1 (K:Nat)(x:ab ps)(q0:St->R):N1 K x q0=l1 K x (λa=>q0 (S0 x a)):=evl λq1 a=>by kernel_rfl
theorem o0 (K:Nat)(x:ab ps):N0 K x=l0 K x:=evl λq0 a=>by rw[<- o1 K x q0];kernel_rfl
theorem eqn (K:Nat)(x:ab ps):evF (G K) T_S L K Tryz.f60 ps rs true x=f K x:=by show _=pre K (l0 K x) x;rw[<- o0 K x];kernel_rfl
end Q111
namespace Q119
theorem o2 (K:Nat)(x:ab ps):N2 K x=l2 K x:=evl λq2 a=>by kernel_rfl
theorem o1 (K:Nat)(x:ab ps):N1 K x=l1 K x:=evl λq1 a=>by rw[<- o2 K x];kernel_rfl
theorem o0 (K:Nat)(x:ab ps):N0 K x=l0 K x:=evl λq0 a=>by rw[<- o1 K x];kernel_rfl
theorem eqn (K:Nat)(x:ab ps):evF (G K) T_ND L K Tryz.f38 ps rs true x=f K x:=by show _=pre K (l0 K x) x;rw[<- o0 K x];kernel_rfl
end Q119
namespace Q141
theorem o1 (K:Nat)(x:ab ps)(q0:St->R):N1 K x q0=l1 K x (λa=>q0 (S0 x a)):=evl λq1 a=>by kernel_rfl
theorem o0 (K:Nat)(x:ab ps):N0 K x=l0 K x:=evl λq0 a=>by rw[<- o1 K x q0];kernel_rfl
theorem eqn (K:Nat)(x:ab ps):evF (G K) T_NS L K Tryz.f162 ps rs false x=f K x:=by show _=pre K (l0 K x) x;rw[<- o0 K x];kernel_rfl
end Q141
namespace Q150
theorem o1 (K:Nat)(x:ab ps):N1 K x=l1 K x:=evl λq1 a=>by kernel_rfl
theorem o0 (K:Nat)(x:ab ps):N0 K x=l0 K x:=evl λq0 a=>by rw[<- o1 K x];kernel_rfl
theorem eqn (K:Nat)(x:ab ps):evF (G K) T_S L K Tryz.f216 ps rs true x=f K x:=by show _=pre K (l0 K x) x;rw[<- o0 K x];kernel_rfl
end Q150
namespace Q164
theorem o1 (K:Nat)(x:ab ps)(q0:St->R):N1 K x q0=l1 K x (λa=>q0 (S0 x a)):=evl λq1 a=>by kernel_rfl
theorem o0 (K:Nat)(x:ab ps):N0 K x=l0 K x:=evl λq0 a=>by rw[<- o1 K x q0];kernel_rfl
theorem eqn (K:Nat)(x:ab ps):evF (G K) T_S L K Tryz.f220 ps rs true x=f K x:=by show _=pre K (l0 K x) x;rw[<- o0 K x];kernel_rfl
end Q164
namespace Q221
theorem o1 (K:Nat)(x:ab ps):N1 K x=l1 K x:=evl λq1 a=>by kernel_rfl
theorem o0 (K:Nat)(x:ab ps):N0 K x=l0 K x:=evl λq0 a=>by rw[<- o1 K x];kernel_rfl
theorem eqn (K:Nat)(x:ab ps):evF (G K) T_S L K Tryz.f78 ps rs false x=f K x:=by show _=pre K (l0 K x) (l1 K x) x;rw[<- o0 K x,<- o1 K x];kernel_rfl
end Q221
namespace Q229
theorem o1 (K:Nat)(x:ab ps)(q0:St->R):N1 K x q0=l1 K x (λa=>q0 (S0 x a)):=evl λq1 a=>by kernel_rfl
theorem o0 (K:Nat)(x:ab ps):N0 K x=l0 K x:=evl λq0 a=>by rw[<- o1 K x q0];kernel_rfl
theorem eqn (K:Nat)(x:ab ps):evF (G K) T_S L K Tryz.f25 ps rs true x=f K x:=by show _=pre K (l0 K x) x;rw[<- o0 K x];kernel_rfl
end Q229
end Go.Proofs.YtadlacffdemoiaaGreatEv
