/- The contracts by hand are sound. Printed by run3.py, but for those that lie in Man2. -/
import Derived.Test.YtmibehbhnkeaiaaGreatFns
import Derived.Test.YtmibehbhnkeaiaaGreatE6
import Derived.Test.YtmibehbhnkeaiaaGreatEvR
set_option linter.unusedVariables false
set_option maxRecDepth 100000
set_option linter.unusedVariables false
set_option linter.unusedSimpArgs false

namespace Go.Proofs.YtmibehbhnkeaiaaGreatEv
open Go Go.Proofs
namespace Q1
noncomputable def Tl:List (TypeId×TI):=[(23,.slice 46 t2 32)]
noncomputable def T (t:TypeId):TI:=gJ Tl t
theorem T_ok:TOk Tryz.prog T:=iJ (l:=Tl) (by kernel_rfl)
noncomputable def body:Code:=cY Tryz.f62
noncomputable def pre (K:Nat)(x:ab ps):Option St:=evK [] T [] K (sub body [0]) (av (dy 0 ps x)) (rB (λs _=>act [] T (mJ (sub body [1,0,0]) 0) s (λU=>some (ac U s))) (λ_ _=>none))
noncomputable def S1 (K:Nat)(x:ab ps):St:=(pre K x).getD (λ_=>b7.none)
theorem pre_ok (K:Nat)(x:ab ps):pre K x=some (S1 K x):=by kernel_rfl
theorem leaf_ok (K:Nat)(x:ab ps):one (S1 K x) (.tmp 3)=.ro true 46 t2 x.1:=by kernel_rfl
theorem no_ok (K:Nat)(x:ab ps):evK [] T [] K (.seq (.cond (.tmp 4) (sub body [1,0,1,0]) (sub body [1,0,1,1])) (sub body [1,1])) (ac (cB (S1 K x) [] 4 .one [.bool false]) (S1 K x)) (du T ps rs true Tryz.f62.results.toList)=f K x:=by kernel_rfl
theorem yes_ok (K:Nat)(x:ab ps):evK [] T [] K (.seq (.cond (.tmp 4) (sub body [1,0,1,0]) (sub body [1,0,1,1])) (sub body [1,1])) (ac (cB (S1 K x) [] 4 .one [.bool true]) (S1 K x)) (du T ps rs true Tryz.f62.results.toList)=some (([],()),()):=by kernel_rfl
end Q1
theorem Q1.o (K:Nat):bI Tryz.prog (Q1.c K) :=
 oQ Q1.T_ok (by kernel_rfl) (fn:=Tryz.f62) Tryz.func62 (by kernel_rfl) (R0:=sub Q1.body [0]) (A:=sub Q1.body [1,0,1,0]) (B:=sub Q1.body [1,0,1,1]) (C:=sub Q1.body [1,1]) (rid:=1) (o0:=mJ (sub Q1.body [1,0,0]) 0) (o1:=mJ (sub Q1.body [1,0,0]) 1) (d0:=3) (q:=4) (t:=23) (t':=23) (x0:=.tmp 0) (L:=[]) (K:=K) (E':=46)
  (by kernel_rfl) (by kernel_rfl) (by kernel_rfl) (by kernel_rfl) (by kernel_rfl) (by kernel_rfl) (by kernel_rfl) (by kernel_rfl) (S1:=Q1.S1 K) (Q1.pre_ok K) (Q1.leaf_ok K) (Q1.no_ok K) (λx y hx hy=>(Q1.yes_ok K x).trans (((mI _ _).symm.trans (congrArg (gx _ _) hx.symm)).trans hy))
namespace Q2
noncomputable def Tl:List (TypeId×TI):=[(67,.slice 3 I6 8)]
noncomputable def T (t:TypeId):TI:=gJ Tl t
theorem T_ok:TOk Tryz.prog T:=iJ (l:=Tl) (by kernel_rfl)
noncomputable def body:Code:=cY Tryz.f167
noncomputable def pre (K:Nat)(x:ab ps):Option St:=evK [] T [] K (sub body [0]) (av (dy 0 ps x)) (rB (λs _=>act [] T (mJ (sub body [1,0,0]) 0) s (λU=>some (ac U s))) (λ_ _=>none))
noncomputable def S1 (K:Nat)(x:ab ps):St:=(pre K x).getD (λ_=>b7.none)
theorem pre_ok (K:Nat)(x:ab ps):pre K x=some (S1 K x):=by kernel_rfl
theorem leaf_ok (K:Nat)(x:ab ps):one (S1 K x) (.tmp 3)=.ro true 3 I6 x.1:=by kernel_rfl
theorem no_ok (K:Nat)(x:ab ps):evK [] T [] K (.seq (.cond (.tmp 4) (sub body [1,0,1,0]) (sub body [1,0,1,1])) (sub body [1,1])) (ac (cB (S1 K x) [] 4 .one [.bool false]) (S1 K x)) (du T ps rs true Tryz.f167.results.toList)=f K x:=by kernel_rfl
theorem yes_ok (K:Nat)(x:ab ps):evK [] T [] K (.seq (.cond (.tmp 4) (sub body [1,0,1,0]) (sub body [1,0,1,1])) (sub body [1,1])) (ac (cB (S1 K x) [] 4 .one [.bool true]) (S1 K x)) (du T ps rs true Tryz.f167.results.toList)=some (([],()),()):=by kernel_rfl
end Q2
theorem Q2.o (K:Nat):bI Tryz.prog (Q2.c K) :=
 oQ Q2.T_ok (by kernel_rfl) (fn:=Tryz.f167) Tryz.func167 (by kernel_rfl) (R0:=sub Q2.body [0]) (A:=sub Q2.body [1,0,1,0]) (B:=sub Q2.body [1,0,1,1]) (C:=sub Q2.body [1,1]) (rid:=1) (o0:=mJ (sub Q2.body [1,0,0]) 0) (o1:=mJ (sub Q2.body [1,0,0]) 1) (d0:=3) (q:=4) (t:=67) (t':=67) (x0:=.tmp 0) (L:=[]) (K:=K) (E':=3)
  (by kernel_rfl) (by kernel_rfl) (by kernel_rfl) (by kernel_rfl) (by kernel_rfl) (by kernel_rfl) (by kernel_rfl) (by kernel_rfl) (S1:=Q2.S1 K) (Q2.pre_ok K) (Q2.leaf_ok K) (Q2.no_ok K) (λx y hx hy=>(Q2.yes_ok K x).trans (((mI _ _).symm.trans (congrArg (gx _ _) hx.symm)).trans hy))
namespace Q3
noncomputable def Tl:List (TypeId×TI):=[(24,.slice 133 t3 40)]
noncomputable def T (t:TypeId):TI:=gJ Tl t
theorem T_ok:TOk Tryz.prog T:=iJ (l:=Tl) (by kernel_rfl)
noncomputable def body:Code:=cY Tryz.f168
noncomputable def pre (K:Nat)(x:ab ps):Option St:=evK [] T [] K (sub body [0]) (av (dy 0 ps x)) (rB (λs _=>act [] T (mJ (sub body [1,0,0]) 0) s (λU=>some (ac U s))) (λ_ _=>none))
noncomputable def S1 (K:Nat)(x:ab ps):St:=(pre K x).getD (λ_=>b7.none)
theorem pre_ok (K:Nat)(x:ab ps):pre K x=some (S1 K x):=by kernel_rfl
theorem leaf_ok (K:Nat)(x:ab ps):one (S1 K x) (.tmp 3)=.ro true 133 t3 x.1:=by kernel_rfl
theorem no_ok (K:Nat)(x:ab ps):evK [] T [] K (.seq (.cond (.tmp 4) (sub body [1,0,1,0]) (sub body [1,0,1,1])) (sub body [1,1])) (ac (cB (S1 K x) [] 4 .one [.bool false]) (S1 K x)) (du T ps rs true Tryz.f168.results.toList)=f K x:=by kernel_rfl
theorem yes_ok (K:Nat)(x:ab ps):evK [] T [] K (.seq (.cond (.tmp 4) (sub body [1,0,1,0]) (sub body [1,0,1,1])) (sub body [1,1])) (ac (cB (S1 K x) [] 4 .one [.bool true]) (S1 K x)) (du T ps rs true Tryz.f168.results.toList)=some (([],()),()):=by kernel_rfl
end Q3
theorem Q3.o (K:Nat):bI Tryz.prog (Q3.c K) :=
 oQ Q3.T_ok (by kernel_rfl) (fn:=Tryz.f168) Tryz.func168 (by kernel_rfl) (R0:=sub Q3.body [0]) (A:=sub Q3.body [1,0,1,0]) (B:=sub Q3.body [1,0,1,1]) (C:=sub Q3.body [1,1]) (rid:=1) (o0:=mJ (sub Q3.body [1,0,0]) 0) (o1:=mJ (sub Q3.body [1,0,0]) 1) (d0:=3) (q:=4) (t:=24) (t':=24) (x0:=.tmp 0) (L:=[]) (K:=K) (E':=133)
  (by kernel_rfl) (by kernel_rfl) (by kernel_rfl) (by kernel_rfl) (by kernel_rfl) (by kernel_rfl) (by kernel_rfl) (by kernel_rfl) (S1:=Q3.S1 K) (Q3.pre_ok K) (Q3.leaf_ok K) (Q3.no_ok K) (λx y hx hy=>(Q3.yes_ok K x).trans (((mI _ _).symm.trans (congrArg (gx _ _) hx.symm)).trans hy))
end Go.Proofs.YtmibehbhnkeaiaaGreatEv
