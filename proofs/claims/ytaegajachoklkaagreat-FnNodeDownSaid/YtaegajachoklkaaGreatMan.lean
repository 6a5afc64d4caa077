/- The contracts by hand are sound. Printed by run3.py, but for those that lie in Man2. -/
import Derived.Test.YtaegajachoklkaaGreatFns
import Derived.Test.YtaegajachoklkaaGreatE6
import Derived.Test.YtaegajachoklkaaGreatEvR
set_option linter.unusedVariables false
set_option maxRecDepth 100000
set_option linter.unusedVariables false
set_option linter.unusedSimpArgs false

namespace Go.Proofs.YtaegajachoklkaaGreatEv
open Go Go.Proofs
namespace Q1
noncomputable def Tl:List (TypeId×TI):=[(23,.slice 55 t2 32)]
noncomputable def T (t:TypeId):TI:=fK Tl t
theorem T_ok:TOk Tryz.prog T:=gL (l:=Tl) (by kernel_rfl)
noncomputable def body:Code:=cD Tryz.f99
noncomputable def pre (K:Nat)(x:ab ps):Option St:=evK [] T [] K (sub body [0]) (av (cK 0 ps x)) (oj (λs _=>act [] T (jn (sub body [1,0,0]) 0) s (λU=>some (ac U s))) (λ_ _=>none))
noncomputable def S1 (K:Nat)(x:ab ps):St:=(pre K x).getD (λ_=>bL.none)
theorem pre_ok (K:Nat)(x:ab ps):pre K x=some (S1 K x):=by kernel_rfl
theorem leaf_ok (K:Nat)(x:ab ps):one (S1 K x) (.tmp 3)=.ro true 55 t2 x.1:=by kernel_rfl
theorem no_ok (K:Nat)(x:ab ps):evK [] T [] K (.seq (.cond (.tmp 4) (sub body [1,0,1,0]) (sub body [1,0,1,1])) (sub body [1,1])) (ac (bZ (S1 K x) [] 4 .one [.bool false]) (S1 K x)) (cS T ps rs true Tryz.f99.results.toList)=f K x:=by kernel_rfl
theorem yes_ok (K:Nat)(x:ab ps):evK [] T [] K (.seq (.cond (.tmp 4) (sub body [1,0,1,0]) (sub body [1,0,1,1])) (sub body [1,1])) (ac (bZ (S1 K x) [] 4 .one [.bool true]) (S1 K x)) (cS T ps rs true Tryz.f99.results.toList)=some (([],()),()):=by kernel_rfl
end Q1
theorem Q1.o (K:Nat):bT Tryz.prog (Q1.c K) :=
 kE Q1.T_ok (by kernel_rfl) (fn:=Tryz.f99) Tryz.func99 (by kernel_rfl) (R0:=sub Q1.body [0]) (A:=sub Q1.body [1,0,1,0]) (B:=sub Q1.body [1,0,1,1]) (C:=sub Q1.body [1,1]) (rid:=1) (o0:=jn (sub Q1.body [1,0,0]) 0) (o1:=jn (sub Q1.body [1,0,0]) 1) (d0:=3) (q:=4) (t:=23) (t':=23) (x0:=.tmp 0) (L:=[]) (K:=K) (E':=55)
  (by kernel_rfl) (by kernel_rfl) (by kernel_rfl) (by kernel_rfl) (by kernel_rfl) (by kernel_rfl) (by kernel_rfl) (by kernel_rfl) (S1:=Q1.S1 K) (Q1.pre_ok K) (Q1.leaf_ok K) (Q1.no_ok K) (λx y hx hy=>(Q1.yes_ok K x).trans (((jz _ _).symm.trans (congrArg (eD _ _) hx.symm)).trans hy))
namespace Q2
noncomputable def Tl:List (TypeId×TI):=[(47,.slice 3 I6 8)]
noncomputable def T (t:TypeId):TI:=fK Tl t
theorem T_ok:TOk Tryz.prog T:=gL (l:=Tl) (by kernel_rfl)
noncomputable def body:Code:=cD Tryz.f130
noncomputable def pre (K:Nat)(x:ab ps):Option St:=evK [] T [] K (sub body [0]) (av (cK 0 ps x)) (oj (λs _=>act [] T (jn (sub body [1,0,0]) 0) s (λU=>some (ac U s))) (λ_ _=>none))
noncomputable def S1 (K:Nat)(x:ab ps):St:=(pre K x).getD (λ_=>bL.none)
theorem pre_ok (K:Nat)(x:ab ps):pre K x=some (S1 K x):=by kernel_rfl
theorem leaf_ok (K:Nat)(x:ab ps):one (S1 K x) (.tmp 3)=.ro true 3 I6 x.1:=by kernel_rfl
theorem no_ok (K:Nat)(x:ab ps):evK [] T [] K (.seq (.cond (.tmp 4) (sub body [1,0,1,0]) (sub body [1,0,1,1])) (sub body [1,1])) (ac (bZ (S1 K x) [] 4 .one [.bool false]) (S1 K x)) (cS T ps rs true Tryz.f130.results.toList)=f K x:=by kernel_rfl
theorem yes_ok (K:Nat)(x:ab ps):evK [] T [] K (.seq (.cond (.tmp 4) (sub body [1,0,1,0]) (sub body [1,0,1,1])) (sub body [1,1])) (ac (bZ (S1 K x) [] 4 .one [.bool true]) (S1 K x)) (cS T ps rs true Tryz.f130.results.toList)=some (([],()),()):=by kernel_rfl
end Q2
theorem Q2.o (K:Nat):bT Tryz.prog (Q2.c K) :=
 kE Q2.T_ok (by kernel_rfl) (fn:=Tryz.f130) Tryz.func130 (by kernel_rfl) (R0:=sub Q2.body [0]) (A:=sub Q2.body [1,0,1,0]) (B:=sub Q2.body [1,0,1,1]) (C:=sub Q2.body [1,1]) (rid:=1) (o0:=jn (sub Q2.body [1,0,0]) 0) (o1:=jn (sub Q2.body [1,0,0]) 1) (d0:=3) (q:=4) (t:=47) (t':=47) (x0:=.tmp 0) (L:=[]) (K:=K) (E':=3)
  (by kernel_rfl) (by kernel_rfl) (by kernel_rfl) (by kernel_rfl) (by kernel_rfl) (by kernel_rfl) (by kernel_rfl) (by kernel_rfl) (S1:=Q2.S1 K) (Q2.pre_ok K) (Q2.leaf_ok K) (Q2.no_ok K) (λx y hx hy=>(Q2.yes_ok K x).trans (((jz _ _).symm.trans (congrArg (eD _ _) hx.symm)).trans hy))
namespace Q3
noncomputable def Tl:List (TypeId×TI):=[(24,.slice 126 t3 40)]
noncomputable def T (t:TypeId):TI:=fK Tl t
theorem T_ok:TOk Tryz.prog T:=gL (l:=Tl) (by kernel_rfl)
noncomputable def body:Code:=cD Tryz.f164
noncomputable def pre (K:Nat)(x:ab ps):Option St:=evK [] T [] K (sub body [0]) (av (cK 0 ps x)) (oj (λs _=>act [] T (jn (sub body [1,0,0]) 0) s (λU=>some (ac U s))) (λ_ _=>none))
noncomputable def S1 (K:Nat)(x:ab ps):St:=(pre K x).getD (λ_=>bL.none)
theorem pre_ok (K:Nat)(x:ab ps):pre K x=some (S1 K x):=by kernel_rfl
theorem leaf_ok (K:Nat)(x:ab ps):one (S1 K x) (.tmp 3)=.ro true 126 t3 x.1:=by kernel_rfl
theorem no_ok (K:Nat)(x:ab ps):evK [] T [] K (.seq (.cond (.tmp 4) (sub body [1,0,1,0]) (sub body [1,0,1,1])) (sub body [1,1])) (ac (bZ (S1 K x) [] 4 .one [.bool false]) (S1 K x)) (cS T ps rs true Tryz.f164.results.toList)=f K x:=by kernel_rfl
theorem yes_ok (K:Nat)(x:ab ps):evK [] T [] K (.seq (.cond (.tmp 4) (sub body [1,0,1,0]) (sub body [1,0,1,1])) (sub body [1,1])) (ac (bZ (S1 K x) [] 4 .one [.bool true]) (S1 K x)) (cS T ps rs true Tryz.f164.results.toList)=some (([],()),()):=by kernel_rfl
end Q3
theorem Q3.o (K:Nat):bT Tryz.prog (Q3.c K) :=
 kE Q3.T_ok (by kernel_rfl) (fn:=Tryz.f164) Tryz.func164 (by kernel_rfl) (R0:=sub Q3.body [0]) (A:=sub Q3.body [1,0,1,0]) (B:=sub Q3.body [1,0,1,1]) (C:=sub Q3.body [1,1]) (rid:=1) (o0:=jn (sub Q3.body [1,0,0]) 0) (o1:=jn (sub Q3.body [1,0,0]) 1) (d0:=3) (q:=4) (t:=24) (t':=24) (x0:=.tmp 0) (L:=[]) (K:=K) (E':=126)
  (by kernel_rfl) (by kernel_rfl) (by kernel_rfl) (by kernel_rfl) (by kernel_rfl) (by kernel_rfl) (by kernel_rfl) (by kernel_rfl) (S1:=Q3.S1 K) (Q3.pre_ok K) (Q3.leaf_ok K) (Q3.no_ok K) (λx y hx hy=>(Q3.yes_ok K x).trans (((jz _ _).symm.trans (congrArg (eD _ _) hx.symm)).trans hy))
namespace Q8
noncomputable def Tl:List (TypeId×TI):=[(30,.slice 90 t11 64)]
noncomputable def T (t:TypeId):TI:=fK Tl t
theorem T_ok:TOk Tryz.prog T:=gL (l:=Tl) (by kernel_rfl)
noncomputable def body:Code:=cD Tryz.f71
noncomputable def pre (K:Nat)(x:ab ps):Option St:=evK [] T [] K (sub body [0]) (av (cK 0 ps x)) (oj (λs _=>act [] T (jn (sub body [1,0,0]) 0) s (λU=>some (ac U s))) (λ_ _=>none))
noncomputable def S1 (K:Nat)(x:ab ps):St:=(pre K x).getD (λ_=>bL.none)
theorem pre_ok (K:Nat)(x:ab ps):pre K x=some (S1 K x):=by kernel_rfl
theorem leaf_ok (K:Nat)(x:ab ps):one (S1 K x) (.tmp 3)=.ro true 90 t11 x.1:=by kernel_rfl
theorem no_ok (K:Nat)(x:ab ps):evK [] T [] K (.seq (.cond (.tmp 4) (sub body [1,0,1,0]) (sub body [1,0,1,1])) (sub body [1,1])) (ac (bZ (S1 K x) [] 4 .one [.bool false]) (S1 K x)) (cS T ps rs false Tryz.f71.results.toList)=f K x:=by kernel_rfl
theorem yes_ok (K:Nat)(x:ab ps):evK [] T [] K (.seq (.cond (.tmp 4) (sub body [1,0,1,0]) (sub body [1,0,1,1])) (sub body [1,1])) (ac (bZ (S1 K x) [] 4 .one [.bool true]) (S1 K x)) (cS T ps rs false Tryz.f71.results.toList)=some (([],()),()):=by kernel_rfl
end Q8
theorem Q8.o (K:Nat):bT Tryz.prog (Q8.c K) :=
 kE Q8.T_ok (by kernel_rfl) (fn:=Tryz.f71) Tryz.func71 (by kernel_rfl) (R0:=sub Q8.body [0]) (A:=sub Q8.body [1,0,1,0]) (B:=sub Q8.body [1,0,1,1]) (C:=sub Q8.body [1,1]) (rid:=1) (o0:=jn (sub Q8.body [1,0,0]) 0) (o1:=jn (sub Q8.body [1,0,0]) 1) (d0:=3) (q:=4) (t:=30) (t':=30) (x0:=.tmp 0) (L:=[]) (K:=K) (E':=90)
  (by kernel_rfl) (by kernel_rfl) (by kernel_rfl) (by kernel_rfl) (by kernel_rfl) (by kernel_rfl) (by kernel_rfl) (by kernel_rfl) (S1:=Q8.S1 K) (Q8.pre_ok K) (Q8.leaf_ok K) (Q8.no_ok K) (λx y hx hy=>(Q8.yes_ok K x).trans (((jz _ _).symm.trans (congrArg (eD _ _) hx.symm)).trans hy))
end Go.Proofs.YtaegajachoklkaaGreatEv
