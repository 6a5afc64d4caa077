/- The contracts by hand are sound. Printed by run3.py, but for those that lie in Man2. -/
import Derived.Test.YtmcbmojdeikcdaaGreatFns
import Derived.Test.YtmcbmojdeikcdaaGreatE6
set_option linter.unusedVariables false
set_option maxRecDepth 100000
set_option linter.unusedVariables false
set_option linter.unusedSimpArgs false

namespace Go.Proofs.YtmcbmojdeikcdaaGreatEv
open Go Go.Proofs
namespace Q0
noncomputable def Tl:List (TypeId×TI):=[(23,.slice 41 t2 32)]
noncomputable def T (t:TypeId):TI:=gJ Tl t
theorem T_ok:TOk Tryz.prog T:=jy (l:=Tl) (by kernel_rfl)
noncomputable def body:Code:=cV Tryz.f122
noncomputable def pre (K:Nat)(x:ab ps):Option St:=evK [] T [] K (sub body [0]) (ay (dp 0 ps x)) (kSeq (λs _=>act [] T (opAt (sub body [1,0,0]) 0) s (λU=>some (ac U s))) (λ_ _=>none))
noncomputable def S1 (K:Nat)(x:ab ps):St:=(pre K x).getD (λ_=>bS.none)
theorem pre_ok (K:Nat)(x:ab ps):pre K x=some (S1 K x):=by kernel_rfl
theorem leaf_ok (K:Nat)(x:ab ps):one (S1 K x) (.tmp 3)=.ro true 41 t2 x.1:=by kernel_rfl
theorem no_ok (K:Nat)(x:ab ps):evK [] T [] K (.seq (.cond (.tmp 4) (sub body [1,0,1,0]) (sub body [1,0,1,1])) (sub body [1,1])) (ac (cl (S1 K x) [] 4 .one [.bool false]) (S1 K x)) (dx T ps rs true Tryz.f122.results.toList)=f K x:=by kernel_rfl
theorem yes_ok (K:Nat)(x:ab ps):evK [] T [] K (.seq (.cond (.tmp 4) (sub body [1,0,1,0]) (sub body [1,0,1,1])) (sub body [1,1])) (ac (cl (S1 K x) [] 4 .one [.bool true]) (S1 K x)) (dx T ps rs true Tryz.f122.results.toList)=some (([],()),()):=by kernel_rfl
end Q0
theorem Q0.sound (K:Nat):ag Tryz.prog (Q0.c K) :=
 we Q0.T_ok (by kernel_rfl) (fn:=Tryz.f122) Tryz.func122 (by kernel_rfl) (R0:=sub Q0.body [0]) (A:=sub Q0.body [1,0,1,0]) (B:=sub Q0.body [1,0,1,1]) (C:=sub Q0.body [1,1]) (rid:=1) (o0:=opAt (sub Q0.body [1,0,0]) 0) (o1:=opAt (sub Q0.body [1,0,0]) 1) (d0:=3) (q:=4) (t:=23) (t':=23) (x0:=.tmp 0) (L:=[]) (K:=K) (E':=41)
  (by kernel_rfl) (by kernel_rfl) (by kernel_rfl) (by kernel_rfl) (by kernel_rfl) (by kernel_rfl) (by kernel_rfl) (by kernel_rfl) (S1:=Q0.S1 K) (Q0.pre_ok K) (Q0.leaf_ok K) (Q0.no_ok K) (λx y hx hy=>(Q0.yes_ok K x).trans (((tL _ _).symm.trans (congrArg (jc _ _) hx.symm)).trans hy))
end Go.Proofs.YtmcbmojdeikcdaaGreatEv
