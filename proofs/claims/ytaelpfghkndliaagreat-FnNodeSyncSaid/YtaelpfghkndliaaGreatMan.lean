/- The contracts by hand are sound. Printed by run3.py, but for those that lie in Man2. -/
import Derived.Test.YtaelpfghkndliaaGreatFns
import Derived.Test.YtaelpfghkndliaaGreatE6
import Derived.Test.YtaelpfghkndliaaGreatEvR
set_option linter.unusedVariables false
set_option maxRecDepth 100000
set_option linter.unusedVariables false
set_option linter.unusedSimpArgs false

namespace Go.Proofs.YtaelpfghkndliaaGreatEv
open Go Go.Proofs
namespace Q0
noncomputable def Tl:List (TypeId×TI):=[(37,.slice 68 t2 32)]
noncomputable def T (t:TypeId):TI:=fW Tl t
theorem T_ok:TOk Tryz.prog T:=gY (l:=Tl) (by kernel_rfl)
noncomputable def body:Code:=cM Tryz.f85
noncomputable def pre (K:Nat)(x:ab ps):Option St:=evK [] T [] K (sub body [0]) (av (di 0 ps x)) (qj (λs _=>act [] T (lM (sub body [1,0,0]) 0) s (λU=>some (ac U s))) (λ_ _=>none))
noncomputable def S1 (K:Nat)(x:ab ps):St:=(pre K x).getD (λ_=>bS.none)
theorem pre_ok (K:Nat)(x:ab ps):pre K x=some (S1 K x):=by kernel_rfl
theorem leaf_ok (K:Nat)(x:ab ps):one (S1 K x) (.tmp 3)=.ro true 68 t2 x.1:=by kernel_rfl
theorem no_ok (K:Nat)(x:ab ps):evK [] T [] K (.seq (.cond (.tmp 4) (sub body [1,0,1,0]) (sub body [1,0,1,1])) (sub body [1,1])) (ac (ck (S1 K x) [] 4 .one [.bool false]) (S1 K x)) (db T ps rs true Tryz.f85.results.toList)=f K x:=by kernel_rfl
theorem yes_ok (K:Nat)(x:ab ps):evK [] T [] K (.seq (.cond (.tmp 4) (sub body [1,0,1,0]) (sub body [1,0,1,1])) (sub body [1,1])) (ac (ck (S1 K x) [] 4 .one [.bool true]) (S1 K x)) (db T ps rs true Tryz.f85.results.toList)=some (([],()),()):=by kernel_rfl
end Q0
theorem Q0.o (K:Nat):bO Tryz.prog (Q0.c K) :=
 nA Q0.T_ok (by kernel_rfl) (fn:=Tryz.f85) Tryz.func85 (by kernel_rfl) (R0:=sub Q0.body [0]) (A:=sub Q0.body [1,0,1,0]) (B:=sub Q0.body [1,0,1,1]) (C:=sub Q0.body [1,1]) (rid:=1) (o0:=lM (sub Q0.body [1,0,0]) 0) (o1:=lM (sub Q0.body [1,0,0]) 1) (d0:=3) (q:=4) (t:=37) (t':=37) (x0:=.tmp 0) (L:=[]) (K:=K) (E':=68)
  (by kernel_rfl) (by kernel_rfl) (by kernel_rfl) (by kernel_rfl) (by kernel_rfl) (by kernel_rfl) (by kernel_rfl) (by kernel_rfl) (S1:=Q0.S1 K) (Q0.pre_ok K) (Q0.leaf_ok K) (Q0.no_ok K) (λx y hx hy=>(Q0.yes_ok K x).trans (((lL _ _).symm.trans (congrArg (fI _ _) hx.symm)).trans hy))
namespace Q2
noncomputable def Tl:List (TypeId×TI):=[(38,.slice 143 t3 40)]
noncomputable def T (t:TypeId):TI:=fW Tl t
theorem T_ok:TOk Tryz.prog T:=gY (l:=Tl) (by kernel_rfl)
noncomputable def body:Code:=cM Tryz.f164
noncomputable def pre (K:Nat)(x:ab ps):Option St:=evK [] T [] K (sub body [0]) (av (di 0 ps x)) (qj (λs _=>act [] T (lM (sub body [1,0,0]) 0) s (λU=>some (ac U s))) (λ_ _=>none))
noncomputable def S1 (K:Nat)(x:ab ps):St:=(pre K x).getD (λ_=>bS.none)
theorem pre_ok (K:Nat)(x:ab ps):pre K x=some (S1 K x):=by kernel_rfl
theorem leaf_ok (K:Nat)(x:ab ps):one (S1 K x) (.tmp 3)=.ro true 143 t3 x.1:=by kernel_rfl
theorem no_ok (K:Nat)(x:ab ps):evK [] T [] K (.seq (.cond (.tmp 4) (sub body [1,0,1,0]) (sub body [1,0,1,1])) (sub body [1,1])) (ac (ck (S1 K x) [] 4 .one [.bool false]) (S1 K x)) (db T ps rs true Tryz.f164.results.toList)=f K x:=by kernel_rfl
theorem yes_ok (K:Nat)(x:ab ps):evK [] T [] K (.seq (.cond (.tmp 4) (sub body [1,0,1,0]) (sub body [1,0,1,1])) (sub body [1,1])) (ac (ck (S1 K x) [] 4 .one [.bool true]) (S1 K x)) (db T ps rs true Tryz.f164.results.toList)=some (([],()),()):=by kernel_rfl
end Q2
theorem Q2.o (K:Nat):bO Tryz.prog (Q2.c K) :=
 nA Q2.T_ok (by kernel_rfl) (fn:=Tryz.f164) Tryz.func164 (by kernel_rfl) (R0:=sub Q2.body [0]) (A:=sub Q2.body [1,0,1,0]) (B:=sub Q2.body [1,0,1,1]) (C:=sub Q2.body [1,1]) (rid:=1) (o0:=lM (sub Q2.body [1,0,0]) 0) (o1:=lM (sub Q2.body [1,0,0]) 1) (d0:=3) (q:=4) (t:=38) (t':=38) (x0:=.tmp 0) (L:=[]) (K:=K) (E':=143)
  (by kernel_rfl) (by kernel_rfl) (by kernel_rfl) (by kernel_rfl) (by kernel_rfl) (by kernel_rfl) (by kernel_rfl) (by kernel_rfl) (S1:=Q2.S1 K) (Q2.pre_ok K) (Q2.leaf_ok K) (Q2.no_ok K) (λx y hx hy=>(Q2.yes_ok K x).trans (((lL _ _).symm.trans (congrArg (fI _ _) hx.symm)).trans hy))
namespace Q8
noncomputable def Tl:List (TypeId×TI):=[(104,.slice 3 I6 8)]
noncomputable def T (t:TypeId):TI:=fW Tl t
theorem T_ok:TOk Tryz.prog T:=gY (l:=Tl) (by kernel_rfl)
noncomputable def body:Code:=cM Tryz.f163
noncomputable def pre (K:Nat)(x:ab ps):Option St:=evK [] T [] K (sub body [0]) (av (di 0 ps x)) (qj (λs _=>act [] T (lM (sub body [1,0,0]) 0) s (λU=>some (ac U s))) (λ_ _=>none))
noncomputable def S1 (K:Nat)(x:ab ps):St:=(pre K x).getD (λ_=>bS.none)
theorem pre_ok (K:Nat)(x:ab ps):pre K x=some (S1 K x):=by kernel_rfl
theorem leaf_ok (K:Nat)(x:ab ps):one (S1 K x) (.tmp 3)=.ro true 3 I6 x.1:=by kernel_rfl
theorem no_ok (K:Nat)(x:ab ps):evK [] T [] K (.seq (.cond (.tmp 4) (sub body [1,0,1,0]) (sub body [1,0,1,1])) (sub body [1,1])) (ac (ck (S1 K x) [] 4 .one [.bool false]) (S1 K x)) (db T ps rs true Tryz.f163.results.toList)=f K x:=by kernel_rfl
theorem yes_ok (K:Nat)(x:ab ps):evK [] T [] K (.seq (.cond (.tmp 4) (sub body [1,0,1,0]) (sub body [1,0,1,1])) (sub body [1,1])) (ac (ck (S1 K x) [] 4 .one [.bool true]) (S1 K x)) (db T ps rs true Tryz.f163.results.toList)=some (([],()),()):=by kernel_rfl
end Q8
theorem Q8.o (K:Nat):bO Tryz.prog (Q8.c K) :=
 nA Q8.T_ok (by kernel_rfl) (fn:=Tryz.f163) Tryz.func163 (by kernel_rfl) (R0:=sub Q8.body [0]) (A:=sub Q8.body [1,0,1,0]) (B:=sub Q8.body [1,0,1,1]) (C:=sub Q8.body [1,1]) (rid:=1) (o0:=lM (sub Q8.body [1,0,0]) 0) (o1:=lM (sub Q8.body [1,0,0]) 1) (d0:=3) (q:=4) (t:=104) (t':=104) (x0:=.tmp 0) (L:=[]) (K:=K) (E':=3)
  (by kernel_rfl) (by kernel_rfl) (by kernel_rfl) (by kernel_rfl) (by kernel_rfl) (by kernel_rfl) (by kernel_rfl) (by kernel_rfl) (S1:=Q8.S1 K) (Q8.pre_ok K) (Q8.leaf_ok K) (Q8.no_ok K) (λx y hx hy=>(Q8.yes_ok K x).trans (((lL _ _).symm.trans (congrArg (fI _ _) hx.symm)).trans hy))
end Go.Proofs.YtaelpfghkndliaaGreatEv
