/- The contracts by hand are sound. Printed by run3.py, but for those that lie in Man2. -/
import Derived.Test.YtadlacffdemoiaaGreatFns
import Derived.Test.YtadlacffdemoiaaGreatE6
import Derived.Test.YtadlacffdemoiaaGreatEvR
set_option linter.unusedVariables false
set_option maxRecDepth 100000
set_option linter.unusedVariables false
set_option linter.unusedSimpArgs false

namespace Go.Proofs.YtadlacffdemoiaaGreatEv
open Go Go.Proofs
namespace Q0
noncomputable def Tl:List (TypeId×TI):=[(23,.slice 40 t2 32)]
noncomputable def T (t:TypeId):TI:=gD Tl t
theorem T_ok:TOk Tryz.prog T:=iZ (l:=Tl) (by kernel_rfl)
noncomputable def body:Code:=cQ Tryz.f66
noncomputable def pre (K:Nat)(x:ab ps):Option St:=evK [] T [] K (sub body [0]) (av (dm 0 ps x)) (qj (λs _=>act [] T (lP (sub body [1,0,0]) 0) s (λU=>some (ac U s))) (λ_ _=>none))
noncomputable def S1 (K:Nat)(x:ab ps):St:=(pre K x).getD (λ_=>bT.none)
theorem pre_ok (K:Nat)(x:ab ps):pre K x=some (S1 K x):=by kernel_rfl
theorem leaf_ok (K:Nat)(x:ab ps):one (S1 K x) (.tmp 3)=.ro true 40 t2 x.1:=by kernel_rfl
theorem no_ok (K:Nat)(x:ab ps):evK [] T [] K (.seq (.cond (.tmp 4) (sub body [1,0,1,0]) (sub body [1,0,1,1])) (sub body [1,1])) (ac (cm (S1 K x) [] 4 .one [.bool false]) (S1 K x)) (di T ps rs true Tryz.f66.results.toList)=f K x:=by kernel_rfl
theorem yes_ok (K:Nat)(x:ab ps):evK [] T [] K (.seq (.cond (.tmp 4) (sub body [1,0,1,0]) (sub body [1,0,1,1])) (sub body [1,1])) (ac (cm (S1 K x) [] 4 .one [.bool true]) (S1 K x)) (di T ps rs true Tryz.f66.results.toList)=some (([],()),()):=by kernel_rfl
end Q0
theorem Q0.o (K:Nat):bQ Tryz.prog (Q0.c K) :=
 nA Q0.T_ok (by kernel_rfl) (fn:=Tryz.f66) Tryz.func66 (by kernel_rfl) (R0:=sub Q0.body [0]) (A:=sub Q0.body [1,0,1,0]) (B:=sub Q0.body [1,0,1,1]) (C:=sub Q0.body [1,1]) (rid:=1) (o0:=lP (sub Q0.body [1,0,0]) 0) (o1:=lP (sub Q0.body [1,0,0]) 1) (d0:=3) (q:=4) (t:=23) (t':=23) (x0:=.tmp 0) (L:=[]) (K:=K) (E':=40)
  (by kernel_rfl) (by kernel_rfl) (by kernel_rfl) (by kernel_rfl) (by kernel_rfl) (by kernel_rfl) (by kernel_rfl) (by kernel_rfl) (S1:=Q0.S1 K) (Q0.pre_ok K) (Q0.leaf_ok K) (Q0.no_ok K) (λx y hx hy=>(Q0.yes_ok K x).trans (((lO _ _).symm.trans (congrArg (fJ _ _) hx.symm)).trans hy))
namespace Q2
noncomputable def Tl:List (TypeId×TI):=[(24,.slice 50 t3 40)]
noncomputable def T (t:TypeId):TI:=gD Tl t
theorem T_ok:TOk Tryz.prog T:=iZ (l:=Tl) (by kernel_rfl)
noncomputable def body:Code:=cQ Tryz.f137
noncomputable def pre (K:Nat)(x:ab ps):Option St:=evK [] T [] K (sub body [0]) (av (dm 0 ps x)) (qj (λs _=>act [] T (lP (sub body [1,0,0]) 0) s (λU=>some (ac U s))) (λ_ _=>none))
noncomputable def S1 (K:Nat)(x:ab ps):St:=(pre K x).getD (λ_=>bT.none)
theorem pre_ok (K:Nat)(x:ab ps):pre K x=some (S1 K x):=by kernel_rfl
theorem leaf_ok (K:Nat)(x:ab ps):one (S1 K x) (.tmp 3)=.ro true 50 t3 x.1:=by kernel_rfl
theorem no_ok (K:Nat)(x:ab ps):evK [] T [] K (.seq (.cond (.tmp 4) (sub body [1,0,1,0]) (sub body [1,0,1,1])) (sub body [1,1])) (ac (cm (S1 K x) [] 4 .one [.bool false]) (S1 K x)) (di T ps rs true Tryz.f137.results.toList)=f K x:=by kernel_rfl
theorem yes_ok (K:Nat)(x:ab ps):evK [] T [] K (.seq (.cond (.tmp 4) (sub body [1,0,1,0]) (sub body [1,0,1,1])) (sub body [1,1])) (ac (cm (S1 K x) [] 4 .one [.bool true]) (S1 K x)) (di T ps rs true Tryz.f137.results.toList)=some (([],()),()):=by kernel_rfl
end Q2
theorem Q2.o (K:Nat):bQ Tryz.prog (Q2.c K) :=
 nA Q2.T_ok (by kernel_rfl) (fn:=Tryz.f137) Tryz.func137 (by kernel_rfl) (R0:=sub Q2.body [0]) (A:=sub Q2.body [1,0,1,0]) (B:=sub Q2.body [1,0,1,1]) (C:=sub Q2.body [1,1]) (rid:=1) (o0:=lP (sub Q2.body [1,0,0]) 0) (o1:=lP (sub Q2.body [1,0,0]) 1) (d0:=3) (q:=4) (t:=24) (t':=24) (x0:=.tmp 0) (L:=[]) (K:=K) (E':=50)
  (by kernel_rfl) (by kernel_rfl) (by kernel_rfl) (by kernel_rfl) (by kernel_rfl) (by kernel_rfl) (by kernel_rfl) (by kernel_rfl) (S1:=Q2.S1 K) (Q2.pre_ok K) (Q2.leaf_ok K) (Q2.no_ok K) (λx y hx hy=>(Q2.yes_ok K x).trans (((lO _ _).symm.trans (congrArg (fJ _ _) hx.symm)).trans hy))
namespace Q8
noncomputable def Tl:List (TypeId×TI):=[(69,.slice 3 I6 8)]
noncomputable def T (t:TypeId):TI:=gD Tl t
theorem T_ok:TOk Tryz.prog T:=iZ (l:=Tl) (by kernel_rfl)
noncomputable def body:Code:=cQ Tryz.f136
noncomputable def pre (K:Nat)(x:ab ps):Option St:=evK [] T [] K (sub body [0]) (av (dm 0 ps x)) (qj (λs _=>act [] T (lP (sub body [1,0,0]) 0) s (λU=>some (ac U s))) (λ_ _=>none))
noncomputable def S1 (K:Nat)(x:ab ps):St:=(pre K x).getD (λ_=>bT.none)
theorem pre_ok (K:Nat)(x:ab ps):pre K x=some (S1 K x):=by kernel_rfl
theorem leaf_ok (K:Nat)(x:ab ps):one (S1 K x) (.tmp 3)=.ro true 3 I6 x.1:=by kernel_rfl
theorem no_ok (K:Nat)(x:ab ps):evK [] T [] K (.seq (.cond (.tmp 4) (sub body [1,0,1,0]) (sub body [1,0,1,1])) (sub body [1,1])) (ac (cm (S1 K x) [] 4 .one [.bool false]) (S1 K x)) (di T ps rs true Tryz.f136.results.toList)=f K x:=by kernel_rfl
theorem yes_ok (K:Nat)(x:ab ps):evK [] T [] K (.seq (.cond (.tmp 4) (sub body [1,0,1,0]) (sub body [1,0,1,1])) (sub body [1,1])) (ac (cm (S1 K x) [] 4 .one [.bool true]) (S1 K x)) (di T ps rs true Tryz.f136.results.toList)=some (([],()),()):=by kernel_rfl
end Q8
theorem Q8.o (K:Nat):bQ Tryz.prog (Q8.c K) :=
 nA Q8.T_ok (by kernel_rfl) (fn:=Tryz.f136) Tryz.func136 (by kernel_rfl) (R0:=sub Q8.body [0]) (A:=sub Q8.body [1,0,1,0]) (B:=sub Q8.body [1,0,1,1]) (C:=sub Q8.body [1,1]) (rid:=1) (o0:=lP (sub Q8.body [1,0,0]) 0) (o1:=lP (sub Q8.body [1,0,0]) 1) (d0:=3) (q:=4) (t:=69) (t':=69) (x0:=.tmp 0) (L:=[]) (K:=K) (E':=3)
  (by kernel_rfl) (by kernel_rfl) (by kernel_rfl) (by kernel_rfl) (by kernel_rfl) (by kernel_rfl) (by kernel_rfl) (by kernel_rfl) (S1:=Q8.S1 K) (Q8.pre_ok K) (Q8.leaf_ok K) (Q8.no_ok K) (λx y hx hy=>(Q8.yes_ok K x).trans (((lO _ _).symm.trans (congrArg (fJ _ _) hx.symm)).trans hy))
end Go.Proofs.YtadlacffdemoiaaGreatEv
