/- The kernel finds them so. Printed by run3.py. -/
import Derived.Test.YtaegajachoklkabGreatFns
set_option linter.unusedVariables false
set_option maxRecDepth 100000
set_option linter.unusedVariables false
set_option linter.unusedSimpArgs false

namespace Go.Proofs.YtaegajachoklkabGreatEv
open Go Go.Proofs
namespace Q51
theorem o1 (K:Nat)(x:ab ps)(q0:St->R):N1 K x q0=l1 K x (λa=>q0 (S0 x a)):=evl λq1 a=>by kernel_rfl
theorem o0 (K:Nat)(x:ab ps):N0 K x=l0 K x:=evl λq0 a=>by rw[<- o1 K x q0];kernel_rfl
theorem eqn (K:Nat)(x:ab ps):evF (G K) T_NS L K Tryz.f232 ps rs false x=f K x:=by show _=pre K (l0 K x) x;rw[<- o0 K x];kernel_rfl
end Q51
namespace Q60
theorem o1 (K:Nat)(x:ab ps):N1 K x=l1 K x:=evl λq1 a=>by kernel_rfl
theorem o0 (K:Nat)(x:ab ps):N0 K x=l0 K x:=evl λq0 a=>by rw[<- o1 K x];kernel_rfl
theorem eqn (K:Nat)(x:ab ps):evF (G K) T_S L K Tryz.f126 ps rs true x=f K x:=by show _=pre K (l0 K x) x;rw[<- o0 K x];kernel_rfl
end Q60
namespace Q74
theorem o1 (K:Nat)(x:ab ps)(q0:St->R):N1 K x q0=l1 K x (λa=>q0 (S0 x a)):=evl λq1 a=>by kernel_rfl
theorem o0 (K:Nat)(x:ab ps):N0 K x=l0 K x:=evl λq0 a=>by rw[<- o1 K x q0];kernel_rfl
theorem eqn (K:Nat)(x:ab ps):evF (G K) T_S L K Tryz.f245 ps rs true x=f K x:=by show _=pre K (l0 K x) x;rw[<- o0 K x];kernel_rfl
end Q74
namespace Q109
theorem o2 (K:Nat)(x:ab ps):N2 K x=l2 K x:=evl λq2 a=>by kernel_rfl
theorem o1 (K:Nat)(x:ab ps):N1 K x=l1 K x:=evl λq1 a=>by rw[<- o2 K x];kernel_rfl
theorem o0 (K:Nat)(x:ab ps):N0 K x=l0 K x:=evl λq0 a=>by rw[<- o1 K x];kernel_rfl
theorem eqn (K:Nat)(x:ab ps):evF (G K) T_ND L K Tryz.f19 ps rs true x=f K x:=by show _=pre K (l0 K x) x;rw[<- o0 K x];kernel_rfl
end Q109
namespace Q114
theorem o1 (K:Nat)(x:ab ps):N1 K x=l1 K x:=evl λq1 a=>by kernel_rfl
theorem o0 (K:Nat)(x:ab ps):N0 K x=l0 K x:=evl λq0 a=>by rw[<- o1 K x];kernel_rfl
theorem eqn (K:Nat)(x:ab ps):evF (G K) T_S L K Tryz.f107 ps rs false x=f K x:=by show _=pre K (l0 K x) (l1 K x) x;rw[<- o0 K x,<- o1 K x];kernel_rfl
end Q114
namespace Q163
theorem o1 (K:Nat)(x:ab ps)(q0:St->R):N1 K x q0=l1 K x (λa=>q0 (S0 x a)):=evl λq1 a=>by kernel_rfl
theorem o0 (K:Nat)(x:ab ps):N0 K x=l0 K x:=evl λq0 a=>by rw[<- o1 K x q0];kernel_rfl
theorem eqn (K:Nat)(x:ab ps):evF (G K) T_S L K Tryz.f187 ps rs true x=f K x:=by show _=pre K (l0 K x) x;rw[<- o0 K x];kernel_rfl
end Q163
namespace Q164
theorem o2 (K:Nat)(x:ab ps)(q1:St->R):N2 K x q1=l2 K x (λa=>q1 (S1 x a)):=evl λq2 a=>by kernel_rfl
theorem o1 (K:Nat)(x:ab ps):N1 K x=l1 K x:=evl λq1 a=>by rw[<- o2 K x q1];kernel_rfl
theorem o0 (K:Nat)(x:ab ps):N0 K x=l0 K x:=evl λq0 a=>by rw[<- o1 K x];kernel_rfl
theorem eqn (K:Nat)(x:ab ps):evF (G K) T_S L K Tryz.f174 ps rs true x=f K x:=by show _=pre K (l0 K x) x;rw[<- o0 K x];kernel_rfl
end Q164
namespace Q168
theorem o1 (K:Nat)(x:ab ps)(q0:St->R):N1 K x q0=l1 K x (λa=>q0 (S0 x a)):=evl λq1 a=>by kernel_rfl
theorem o0 (K:Nat)(x:ab ps):N0 K x=l0 K x:=evl λq0 a=>by rw[<- o1 K x q0];kernel_rfl
theorem eqn (K:Nat)(x:ab ps):evF (G K) T_S L K Tryz.f189 ps rs true x=f K x:=by show _=pre K (l0 K x) x;rw[<- o0 K x];kernel_rfl
end Q168
namespace Q178
theorem o1 (K:Nat)(x:ab ps):N1 K x=l1 K x:=evl λq1 a=>by kernel_rfl
theorem o0 (K:Nat)(x:ab ps):N0 K x=l0 K x:=evl λq0 a=>by rw[<- o1 K x];kernel_rfl
theorem eqn (K:Nat)(x:ab ps):evF (G K) T_D L K Tryz.f121 ps rs true x=f K x:=by show _=pre K (l0 K x) x;rw[<- o0 K x];kernel_rfl
end Q178
namespace Q204
theorem o2 (K:Nat)(x:ab ps)(q1:St->R):N2 K x q1=l2 K x (λa=>q1 (S1 x a)):=evl λq2 a=>by kernel_rfl
theorem o1 (K:Nat)(x:ab ps):N1 K x=l1 K x:=evl λq1 a=>by rw[<- o2 K x q1];kernel_rfl
theorem o0 (K:Nat)(x:ab ps):N0 K x=l0 K x:=evl λq0 a=>by rw[<- o1 K x];kernel_rfl
theorem eqn (K:Nat)(x:ab ps):evF (G K) T_D L K Tryz.f60 ps rs true x=f K x:=by show _=pre K (l0 K x) x;rw[<- o0 K x];kernel_rfl
end Q204
namespace Q213
theorem o2 (K:Nat)(x:ab ps):N2 K x=l2 K x:=evl λq2 a=>by kernel_rfl
theorem o1 (K:Nat)(x:ab ps):N1 K x=l1 K x:=evl λq1 a=>by rw[<- o2 K x];kernel_rfl
theorem o0 (K:Nat)(x:ab ps):N0 K x=l0 K x:=evl λq0 a=>by rw[<- o1 K x];kernel_rfl
theorem eqn (K:Nat)(x:ab ps):evF (G K) T_D L K Tryz.f40 ps rs true x=f K x:=by show _=pre K (l0 K x) x;rw[<- o0 K x];kernel_rfl
end Q213
namespace Q221
theorem o1 (K:Nat)(x:ab ps)(q0:St->R):N1 K x q0=l1 K x (λa=>q0 (S0 x a)):=evl λq1 a=>by kernel_rfl
theorem o2 (K:Nat)(x:ab ps):N2 K x=l2 K x:=evl λq2 a=>by kernel_rfl
theorem o0 (K:Nat)(x:ab ps):N0 K x=l0 K x:=evl λq0 a=>by rw[<- o1 K x q0,<- o2 K x];kernel_rfl
theorem eqn (K:Nat)(x:ab ps):evF (G K) T_S L K Tryz.f30 ps rs true x=f K x:=by show _=pre K (l0 K x) x;rw[<- o0 K x];kernel_rfl
end Q221
namespace Q222
theorem o1 (K:Nat)(x:ab ps)(q0:St->R):N1 K x q0=l1 K x (λa=>q0 (S0 x a)):=evl λq1 a=>by kernel_rfl
theorem o0 (K:Nat)(x:ab ps):N0 K x=l0 K x:=evl λq0 a=>by rw[<- o1 K x q0];kernel_rfl
theorem eqn (K:Nat)(x:ab ps):evF (G K) T_S L K Tryz.f32 ps rs true x=f K x:=by show _=pre K (l0 K x) x;rw[<- o0 K x];kernel_rfl
end Q222
namespace Q229
theorem o2 (K:Nat)(x:ab ps):N2 K x=l2 K x:=evl λq2 a=>by kernel_rfl
theorem o1 (K:Nat)(x:ab ps):N1 K x=l1 K x:=evl λq1 a=>by rw[<- o2 K x];kernel_rfl
theorem o0 (K:Nat)(x:ab ps):N0 K x=l0 K x:=evl λq0 a=>by rw[<- o1 K x];kernel_rfl
theorem eqn (K:Nat)(x:ab ps):evF (G K) T_D L K Tryz.f7 ps rs true x=f K x:=by show _=pre K (l0 K x) x;rw[<- o0 K x];kernel_rfl
end Q229
namespace Q233
theorem o1 (K:Nat)(x:ab ps):N1 K x=l1 K x:=evl λq1 a=>by kernel_rfl
theorem o0 (K:Nat)(x:ab ps):N0 K x=l0 K x:=evl λq0 a=>by rw[<- o1 K x];kernel_rfl
theorem eqn (K:Nat)(x:ab ps):evF (G K) T_D L K Tryz.f3 ps rs true x=f K x:=by show _=pre K (l0 K x) x;rw[<- o0 K x];kernel_rfl
end Q233
end Go.Proofs.YtaegajachoklkabGreatEv
