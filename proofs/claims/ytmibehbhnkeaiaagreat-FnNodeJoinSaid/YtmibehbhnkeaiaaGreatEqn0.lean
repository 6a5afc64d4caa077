import Derived.Test.YtmibehbhnkeaiaaGreatFns
set_option linter.unusedVariables false
set_option maxRecDepth 100000
set_option linter.unusedSimpArgs false
namespace Go.Proofs.YtmibehbhnkeaiaaGreatEv
open Go Go.Proofs
variable (K:Nat)
namespace Q41
theorem o2 (x:ab ps)(q1:St->R):N2 K x q1=l2 K x (λa=>q1 (S1 x a)):=evl λq2 a=>by kernel_rfl
theorem o1 (x:ab ps):N1 K x=l1 K x:=evl λq1 a=>by rw[<- o2 K x q1];kernel_rfl
theorem o0 (x:ab ps):N0 K x=l0 K x:=evl λq0 a=>by rw[<- o1 K x];kernel_rfl
theorem eqn (x:ab ps):evF (G K) T_NL L K Tryz.f84 ps rs true x=f K x:=by show _=pre K (l0 K x) x;rw[<- o0 K x];kernel_rfl
end Q41
namespace Q64
theorem o1 (x:ab ps)(q0:St->R):N1 K x q0=l1 K x (λa=>q0 (S0 x a)):=evl λq1 a=>by kernel_rfl
theorem o0 (x:ab ps):N0 K x=l0 K x:=evl λq0 a=>by rw[<- o1 K x q0];kernel_rfl
theorem eqn (x:ab ps):evF (G K) T_NL L K Tryz.f109 ps rs false x=f K x:=by show _=pre K (l0 K x) x;rw[<- o0 K x];kernel_rfl
end Q64
namespace Q73
theorem o1 (x:ab ps)(q0:St->R):N1 K x q0=l1 K x (λa=>q0 (S0 x a)):=evl λq1 a=>by kernel_rfl
theorem o0 (x:ab ps):N0 K x=l0 K x:=evl λq0 a=>by rw[<- o1 K x q0];kernel_rfl
theorem eqn (x:ab ps):evF (G K) T_S L K Tryz.f330 ps rs true x=f K x:=by show _=pre K (l0 K x) x;rw[<- o0 K x];kernel_rfl
end Q73
namespace Q74
theorem o2 (x:ab ps)(q1:St->R):N2 K x q1=l2 K x (λa=>q1 (S1 x a)):=evl λq2 a=>by kernel_rfl
theorem o1 (x:ab ps):N1 K x=l1 K x:=evl λq1 a=>by rw[<- o2 K x q1];kernel_rfl
theorem o0 (x:ab ps):N0 K x=l0 K x:=evl λq0 a=>by rw[<- o1 K x];kernel_rfl
theorem eqn (x:ab ps):evF (G K) T_S L K Tryz.f318 ps rs true x=f K x:=by show _=pre K (l0 K x) x;rw[<- o0 K x];kernel_rfl
end Q74
namespace Q79
theorem o1 (x:ab ps)(q0:St->R):N1 K x q0=l1 K x (λa=>q0 (S0 x a)):=evl λq1 a=>by kernel_rfl
theorem o0 (x:ab ps):N0 K x=l0 K x:=evl λq0 a=>by rw[<- o1 K x q0];kernel_rfl
theorem eqn (x:ab ps):evF (G K) T_S L K Tryz.f332 ps rs true x=f K x:=by show _=pre K (l0 K x) x;rw[<- o0 K x];kernel_rfl
end Q79
namespace Q87
theorem o1 (x:ab ps):N1 K x=l1 K x:=evl λq1 a=>by kernel_rfl
theorem o0 (x:ab ps):N0 K x=l0 K x:=evl λq0 a=>by rw[<- o1 K x];kernel_rfl
theorem eqn (x:ab ps):evF (G K) T_NL L K Tryz.f244 ps rs true x=f K x:=by show _=pre K (l0 K x) x;rw[<- o0 K x];kernel_rfl
end Q87
namespace Q102
theorem o2 (x:ab ps):N2 K x=l2 K x:=evl λq2 a=>by kernel_rfl
theorem o1 (x:ab ps):N1 K x=l1 K x:=evl λq1 a=>by rw[<- o2 K x];kernel_rfl
theorem o0 (x:ab ps):N0 K x=l0 K x:=evl λq0 a=>by rw[<- o1 K x];kernel_rfl
theorem eqn (x:ab ps):evF (G K) T_NL L K Tryz.f106 ps rs true x=f K x:=by show _=pre K (l0 K x) x;rw[<- o0 K x];kernel_rfl
end Q102
namespace Q109
theorem o2 (x:ab ps):N2 K x=l2 K x:=evl λq2 a=>by kernel_rfl
theorem o1 (x:ab ps):N1 K x=l1 K x:=evl λq1 a=>by rw[<- o2 K x];kernel_rfl
theorem o0 (x:ab ps):N0 K x=l0 K x:=evl λq0 a=>by rw[<- o1 K x];kernel_rfl
theorem eqn (x:ab ps):evF (G K) T_NL L K Tryz.f16 ps rs true x=f K x:=by show _=pre K (l0 K x) x;rw[<- o0 K x];kernel_rfl
end Q109
namespace Q123
theorem o1 (x:ab ps)(q0:St->R):N1 K x q0=l1 K x (λa=>q0 (S0 x a)):=evl λq1 a=>by kernel_rfl
theorem o2 (x:ab ps):N2 K x=l2 K x:=evl λq2 a=>by kernel_rfl
theorem o0 (x:ab ps):N0 K x=l0 K x:=evl λq0 a=>by rw[<- o1 K x q0,<- o2 K x];kernel_rfl
theorem eqn (x:ab ps):evF (G K) T_S L K Tryz.f72 ps rs true x=f K x:=by show _=pre K (l0 K x) x;rw[<- o0 K x];kernel_rfl
end Q123
namespace Q125
theorem o1 (x:ab ps)(q0:St->R):N1 K x q0=l1 K x (λa=>q0 (S0 x a)):=evl λq1 a=>by kernel_rfl
theorem o0 (x:ab ps):N0 K x=l0 K x:=evl λq0 a=>by rw[<- o1 K x q0];kernel_rfl
theorem eqn (x:ab ps):evF (G K) T_S L K Tryz.f74 ps rs true x=f K x:=by show _=pre K (l0 K x) x;rw[<- o0 K x];kernel_rfl
end Q125
namespace Q130
theorem o2 (x:ab ps):N2 K x=l2 K x:=evl λq2 a=>by kernel_rfl
theorem o1 (x:ab ps):N1 K x=l1 K x:=evl λq1 a=>by rw[<- o2 K x];kernel_rfl
theorem o0 (x:ab ps):N0 K x=l0 K x:=evl λq0 a=>by rw[<- o1 K x];kernel_rfl
theorem eqn (x:ab ps):evF (G K) T_ND L K Tryz.f49 ps rs true x=f K x:=by show _=pre K (l0 K x) x;rw[<- o0 K x];kernel_rfl
end Q130
namespace Q153
theorem o1 (x:ab ps)(q0:St->R):N1 K x q0=l1 K x (λa=>q0 (S0 x a)):=evl λq1 a=>by kernel_rfl
theorem o0 (x:ab ps):N0 K x=l0 K x:=evl λq0 a=>by rw[<- o1 K x q0];kernel_rfl
theorem eqn (x:ab ps):evF (G K) T_NS L K Tryz.f189 ps rs false x=f K x:=by show _=pre K (l0 K x) x;rw[<- o0 K x];kernel_rfl
end Q153
namespace Q161
theorem o1 (x:ab ps):N1 K x=l1 K x:=evl λq1 a=>by kernel_rfl
theorem o0 (x:ab ps):N0 K x=l0 K x:=evl λq0 a=>by rw[<- o1 K x];kernel_rfl
theorem eqn (x:ab ps):evF (G K) T_S L K Tryz.f251 ps rs true x=f K x:=by show _=pre K (l0 K x) x;rw[<- o0 K x];kernel_rfl
end Q161
namespace Q175
theorem o1 (x:ab ps)(q0:St->R):N1 K x q0=l1 K x (λa=>q0 (S0 x a)):=evl λq1 a=>by kernel_rfl
theorem o0 (x:ab ps):N0 K x=l0 K x:=evl λq0 a=>by rw[<- o1 K x q0];kernel_rfl
theorem eqn (x:ab ps):evF (G K) T_S L K Tryz.f255 ps rs true x=f K x:=by show _=pre K (l0 K x) x;rw[<- o0 K x];kernel_rfl
end Q175
namespace Q232
theorem o1 (x:ab ps):N1 K x=l1 K x:=evl λq1 a=>by kernel_rfl
theorem o0 (x:ab ps):N0 K x=l0 K x:=evl λq0 a=>by rw[<- o1 K x];kernel_rfl
theorem eqn (x:ab ps):evF (G K) T_S L K Tryz.f100 ps rs false x=f K x:=by show _=pre K (l0 K x) (l1 K x) x;rw[<- o0 K x,<- o1 K x];kernel_rfl
end Q232
end Go.Proofs.YtmibehbhnkeaiaaGreatEv
