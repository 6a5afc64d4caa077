/- The contracts by hand are sound. Printed by run3.py, but for those that lie in Man2. -/
import Derived.Test.YtmcbmojdeikcdaaGreatFns
import Derived.Test.YtmcbmojdeikcdaaGreatE6
set_option linter.unusedVariables false
set_option maxRecDepth 100000
set_option linter.unusedVariables false
set_option linter.unusedSimpArgs false

namespace Go.Proofs.YtmcbmojdeikcdaaGreatEv
open Go Go.Proofs
namespace Q1
noncomputable def Tl:List (TypeId×TI):=[(30,.slice 45 t11 64)]
noncomputable def T (t:TypeId):TI:=gS Tl t
theorem T_ok:TOk Tryz.prog T:=jG (l:=Tl) (by kernel_rfl)
noncomputable def body:Code:=dh Tryz.f41
noncomputable def pre (K:Nat)(x:ab ps):Option St:=evK [] T [] K (sub body [0]) (az (di 0 ps x)) (qX (λs _=>act [] T (pc (sub body [1,0,0]) 0) s (λU=>some (ac U s))) (λ_ _=>none))
noncomputable def S1 (K:Nat)(x:ab ps):St:=(pre K x).getD (λ_=>bS.none)
theorem pre_ok (K:Nat)(x:ab ps):pre K x=some (S1 K x):=by kernel_rfl
theorem leaf_ok (K:Nat)(x:ab ps):one (S1 K x) (.tmp 3)=.ro true 45 t11 x.1:=by kernel_rfl
theorem no_ok (K:Nat)(x:ab ps):evK [] T [] K (.seq (.cond (.tmp 4) (sub body [1,0,1,0]) (sub body [1,0,1,1])) (sub body [1,1])) (ac (cj (S1 K x) [] 4 .one [.bool false]) (S1 K x)) (dy T ps rs false Tryz.f41.results.toList)=f K x:=by kernel_rfl
theorem yes_ok (K:Nat)(x:ab ps):evK [] T [] K (.seq (.cond (.tmp 4) (sub body [1,0,1,0]) (sub body [1,0,1,1])) (sub body [1,1])) (ac (cj (S1 K x) [] 4 .one [.bool true]) (S1 K x)) (dy T ps rs false Tryz.f41.results.toList)=some (([],()),()):=by kernel_rfl
end Q1
theorem Q1.sound (K:Nat):af Tryz.prog (Q1.c K) :=
 qy Q1.T_ok (by kernel_rfl) (fn:=Tryz.f41) Tryz.func41 (by kernel_rfl) (R0:=sub Q1.body [0]) (A:=sub Q1.body [1,0,1,0]) (B:=sub Q1.body [1,0,1,1]) (C:=sub Q1.body [1,1]) (rid:=1) (o0:=pc (sub Q1.body [1,0,0]) 0) (o1:=pc (sub Q1.body [1,0,0]) 1) (d0:=3) (q:=4) (t:=30) (t':=30) (x0:=.tmp 0) (L:=[]) (K:=K) (E':=45)
  (by kernel_rfl) (by kernel_rfl) (by kernel_rfl) (by kernel_rfl) (by kernel_rfl) (by kernel_rfl) (by kernel_rfl) (by kernel_rfl) (S1:=Q1.S1 K) (Q1.pre_ok K) (Q1.leaf_ok K) (Q1.no_ok K) (λx y hx hy=>(Q1.yes_ok K x).trans (((nZ _ _).symm.trans (congrArg (gU _ _) hx.symm)).trans hy))
namespace Q2
noncomputable def Tl:List (TypeId×TI):=[(36,.slice 3 (.int .i64) 8)]
noncomputable def T (t:TypeId):TI:=gS Tl t
theorem T_ok:TOk Tryz.prog T:=jG (l:=Tl) (by kernel_rfl)
noncomputable def body:Code:=dh Tryz.f103
noncomputable def pre (K:Nat)(x:ab ps):Option St:=evK [] T [] K (sub body [0]) (az (di 0 ps x)) (qX (λs _=>act [] T (pc (sub body [1,0,0]) 0) s (λU=>some (ac U s))) (λ_ _=>none))
noncomputable def S1 (K:Nat)(x:ab ps):St:=(pre K x).getD (λ_=>bS.none)
theorem pre_ok (K:Nat)(x:ab ps):pre K x=some (S1 K x):=by kernel_rfl
theorem leaf_ok (K:Nat)(x:ab ps):one (S1 K x) (.tmp 3)=.ro true 3 (.int .i64) x.1:=by kernel_rfl
theorem no_ok (K:Nat)(x:ab ps):evK [] T [] K (.seq (.cond (.tmp 4) (sub body [1,0,1,0]) (sub body [1,0,1,1])) (sub body [1,1])) (ac (cj (S1 K x) [] 4 .one [.bool false]) (S1 K x)) (dy T ps rs true Tryz.f103.results.toList)=f K x:=by kernel_rfl
theorem yes_ok (K:Nat)(x:ab ps):evK [] T [] K (.seq (.cond (.tmp 4) (sub body [1,0,1,0]) (sub body [1,0,1,1])) (sub body [1,1])) (ac (cj (S1 K x) [] 4 .one [.bool true]) (S1 K x)) (dy T ps rs true Tryz.f103.results.toList)=some (([],()),()):=by kernel_rfl
end Q2
theorem Q2.sound (K:Nat):af Tryz.prog (Q2.c K) :=
 qy Q2.T_ok (by kernel_rfl) (fn:=Tryz.f103) Tryz.func103 (by kernel_rfl) (R0:=sub Q2.body [0]) (A:=sub Q2.body [1,0,1,0]) (B:=sub Q2.body [1,0,1,1]) (C:=sub Q2.body [1,1]) (rid:=1) (o0:=pc (sub Q2.body [1,0,0]) 0) (o1:=pc (sub Q2.body [1,0,0]) 1) (d0:=3) (q:=4) (t:=36) (t':=36) (x0:=.tmp 0) (L:=[]) (K:=K) (E':=3)
  (by kernel_rfl) (by kernel_rfl) (by kernel_rfl) (by kernel_rfl) (by kernel_rfl) (by kernel_rfl) (by kernel_rfl) (by kernel_rfl) (S1:=Q2.S1 K) (Q2.pre_ok K) (Q2.leaf_ok K) (Q2.no_ok K) (λx y hx hy=>(Q2.yes_ok K x).trans (((nZ _ _).symm.trans (congrArg (gU _ _) hx.symm)).trans hy))
end Go.Proofs.YtmcbmojdeikcdaaGreatEv
