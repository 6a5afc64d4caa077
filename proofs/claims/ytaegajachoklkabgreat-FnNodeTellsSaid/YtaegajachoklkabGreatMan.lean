/- The contracts by hand are sound. Printed by run3.py, but for those that lie in Man2. -/
import Derived.Test.YtaegajachoklkabGreatFns
import Derived.Test.YtaegajachoklkabGreatE6
import Derived.Test.YtaegajachoklkabGreatEvR
set_option linter.unusedVariables false
set_option maxRecDepth 100000
set_option linter.unusedVariables false
set_option linter.unusedSimpArgs false

namespace Go.Proofs.YtaegajachoklkabGreatEv
open Go Go.Proofs
namespace Q1
noncomputable def Tl:List (TypeId×TI):=[(27,.slice 59 t6 48)]
noncomputable def T (t:TypeId):TI:=gD Tl t
theorem T_ok:TOk Tryz.prog T:=jb (l:=Tl) (by kernel_rfl)
noncomputable def body:Code:=cA Tryz.f76
noncomputable def pre (K:Nat)(x:ab ps):Option St:=evK [] T [] K (sub body [0]) (av (c5 0 ps x)) (oL (λs _=>act [] T (jQ (sub body [1,0,0]) 0) s (λU=>some (ac U s))) (λ_ _=>none))
noncomputable def S1 (K:Nat)(x:ab ps):St:=(pre K x).getD (λ_=>bP.none)
theorem pre_ok (K:Nat)(x:ab ps):pre K x=some (S1 K x):=by kernel_rfl
theorem leaf_ok (K:Nat)(x:ab ps):one (S1 K x) (.tmp 3)=.ro true 59 t6 x.1:=by kernel_rfl
theorem no_ok (K:Nat)(x:ab ps):evK [] T [] K (.seq (.cond (.tmp 4) (sub body [1,0,1,0]) (sub body [1,0,1,1])) (sub body [1,1])) (ac (cf (S1 K x) [] 4 .one [.bool false]) (S1 K x)) (cS T ps rs false Tryz.f76.results.toList)=f K x:=by kernel_rfl
theorem yes_ok (K:Nat)(x:ab ps):evK [] T [] K (.seq (.cond (.tmp 4) (sub body [1,0,1,0]) (sub body [1,0,1,1])) (sub body [1,1])) (ac (cf (S1 K x) [] 4 .one [.bool true]) (S1 K x)) (cS T ps rs false Tryz.f76.results.toList)=some (([],()),()):=by kernel_rfl
end Q1
theorem Q1.o (K:Nat):bN Tryz.prog (Q1.c K) :=
 kY Q1.T_ok (by kernel_rfl) (fn:=Tryz.f76) Tryz.func76 (by kernel_rfl) (R0:=sub Q1.body [0]) (A:=sub Q1.body [1,0,1,0]) (B:=sub Q1.body [1,0,1,1]) (C:=sub Q1.body [1,1]) (rid:=1) (o0:=jQ (sub Q1.body [1,0,0]) 0) (o1:=jQ (sub Q1.body [1,0,0]) 1) (d0:=3) (q:=4) (t:=27) (t':=27) (x0:=.tmp 0) (L:=[]) (K:=K) (E':=59)
  (by kernel_rfl) (by kernel_rfl) (by kernel_rfl) (by kernel_rfl) (by kernel_rfl) (by kernel_rfl) (by kernel_rfl) (by kernel_rfl) (S1:=Q1.S1 K) (Q1.pre_ok K) (Q1.leaf_ok K) (Q1.no_ok K) (λx y hx hy=>(Q1.yes_ok K x).trans (((j8 _ _).symm.trans (congrArg (e8 _ _) hx.symm)).trans hy))
theorem Q2.o (K:Nat):bN Tryz.prog (Q2.c K):=uc (by kernel_rfl) (Q1.o K)
namespace Q3
noncomputable def Tl:List (TypeId×TI):=[(23,.slice 71 t2 32)]
noncomputable def T (t:TypeId):TI:=gD Tl t
theorem T_ok:TOk Tryz.prog T:=jb (l:=Tl) (by kernel_rfl)
noncomputable def body:Code:=cA Tryz.f74
noncomputable def pre (K:Nat)(x:ab ps):Option St:=evK [] T [] K (sub body [0]) (av (c5 0 ps x)) (oL (λs _=>act [] T (jQ (sub body [1,0,0]) 0) s (λU=>some (ac U s))) (λ_ _=>none))
noncomputable def S1 (K:Nat)(x:ab ps):St:=(pre K x).getD (λ_=>bP.none)
theorem pre_ok (K:Nat)(x:ab ps):pre K x=some (S1 K x):=by kernel_rfl
theorem leaf_ok (K:Nat)(x:ab ps):one (S1 K x) (.tmp 3)=.ro true 71 t2 x.1:=by kernel_rfl
theorem no_ok (K:Nat)(x:ab ps):evK [] T [] K (.seq (.cond (.tmp 4) (sub body [1,0,1,0]) (sub body [1,0,1,1])) (sub body [1,1])) (ac (cf (S1 K x) [] 4 .one [.bool false]) (S1 K x)) (cS T ps rs true Tryz.f74.results.toList)=f K x:=by kernel_rfl
theorem yes_ok (K:Nat)(x:ab ps):evK [] T [] K (.seq (.cond (.tmp 4) (sub body [1,0,1,0]) (sub body [1,0,1,1])) (sub body [1,1])) (ac (cf (S1 K x) [] 4 .one [.bool true]) (S1 K x)) (cS T ps rs true Tryz.f74.results.toList)=some (([],()),()):=by kernel_rfl
end Q3
theorem Q3.o (K:Nat):bN Tryz.prog (Q3.c K) :=
 kY Q3.T_ok (by kernel_rfl) (fn:=Tryz.f74) Tryz.func74 (by kernel_rfl) (R0:=sub Q3.body [0]) (A:=sub Q3.body [1,0,1,0]) (B:=sub Q3.body [1,0,1,1]) (C:=sub Q3.body [1,1]) (rid:=1) (o0:=jQ (sub Q3.body [1,0,0]) 0) (o1:=jQ (sub Q3.body [1,0,0]) 1) (d0:=3) (q:=4) (t:=23) (t':=23) (x0:=.tmp 0) (L:=[]) (K:=K) (E':=71)
  (by kernel_rfl) (by kernel_rfl) (by kernel_rfl) (by kernel_rfl) (by kernel_rfl) (by kernel_rfl) (by kernel_rfl) (by kernel_rfl) (S1:=Q3.S1 K) (Q3.pre_ok K) (Q3.leaf_ok K) (Q3.no_ok K) (λx y hx hy=>(Q3.yes_ok K x).trans (((j8 _ _).symm.trans (congrArg (e8 _ _) hx.symm)).trans hy))
namespace Q5
noncomputable def Tl:List (TypeId×TI):=[(24,.slice 85 t3 40)]
noncomputable def T (t:TypeId):TI:=gD Tl t
theorem T_ok:TOk Tryz.prog T:=jb (l:=Tl) (by kernel_rfl)
noncomputable def body:Code:=cA Tryz.f75
noncomputable def pre (K:Nat)(x:ab ps):Option St:=evK [] T [] K (sub body [0]) (av (c5 0 ps x)) (oL (λs _=>act [] T (jQ (sub body [1,0,0]) 0) s (λU=>some (ac U s))) (λ_ _=>none))
noncomputable def S1 (K:Nat)(x:ab ps):St:=(pre K x).getD (λ_=>bP.none)
theorem pre_ok (K:Nat)(x:ab ps):pre K x=some (S1 K x):=by kernel_rfl
theorem leaf_ok (K:Nat)(x:ab ps):one (S1 K x) (.tmp 3)=.ro true 85 t3 x.1:=by kernel_rfl
theorem no_ok (K:Nat)(x:ab ps):evK [] T [] K (.seq (.cond (.tmp 4) (sub body [1,0,1,0]) (sub body [1,0,1,1])) (sub body [1,1])) (ac (cf (S1 K x) [] 4 .one [.bool false]) (S1 K x)) (cS T ps rs true Tryz.f75.results.toList)=f K x:=by kernel_rfl
theorem yes_ok (K:Nat)(x:ab ps):evK [] T [] K (.seq (.cond (.tmp 4) (sub body [1,0,1,0]) (sub body [1,0,1,1])) (sub body [1,1])) (ac (cf (S1 K x) [] 4 .one [.bool true]) (S1 K x)) (cS T ps rs true Tryz.f75.results.toList)=some (([],()),()):=by kernel_rfl
end Q5
theorem Q5.o (K:Nat):bN Tryz.prog (Q5.c K) :=
 kY Q5.T_ok (by kernel_rfl) (fn:=Tryz.f75) Tryz.func75 (by kernel_rfl) (R0:=sub Q5.body [0]) (A:=sub Q5.body [1,0,1,0]) (B:=sub Q5.body [1,0,1,1]) (C:=sub Q5.body [1,1]) (rid:=1) (o0:=jQ (sub Q5.body [1,0,0]) 0) (o1:=jQ (sub Q5.body [1,0,0]) 1) (d0:=3) (q:=4) (t:=24) (t':=24) (x0:=.tmp 0) (L:=[]) (K:=K) (E':=85)
  (by kernel_rfl) (by kernel_rfl) (by kernel_rfl) (by kernel_rfl) (by kernel_rfl) (by kernel_rfl) (by kernel_rfl) (by kernel_rfl) (S1:=Q5.S1 K) (Q5.pre_ok K) (Q5.leaf_ok K) (Q5.no_ok K) (λx y hx hy=>(Q5.yes_ok K x).trans (((j8 _ _).symm.trans (congrArg (e8 _ _) hx.symm)).trans hy))
namespace Q9
noncomputable def Tl:List (TypeId×TI):=[(45,.slice 3 I6 8)]
noncomputable def T (t:TypeId):TI:=gD Tl t
theorem T_ok:TOk Tryz.prog T:=jb (l:=Tl) (by kernel_rfl)
noncomputable def body:Code:=cA Tryz.f73
noncomputable def pre (K:Nat)(x:ab ps):Option St:=evK [] T [] K (sub body [0]) (av (c5 0 ps x)) (oL (λs _=>act [] T (jQ (sub body [1,0,0]) 0) s (λU=>some (ac U s))) (λ_ _=>none))
noncomputable def S1 (K:Nat)(x:ab ps):St:=(pre K x).getD (λ_=>bP.none)
theorem pre_ok (K:Nat)(x:ab ps):pre K x=some (S1 K x):=by kernel_rfl
theorem leaf_ok (K:Nat)(x:ab ps):one (S1 K x) (.tmp 3)=.ro true 3 I6 x.1:=by kernel_rfl
theorem no_ok (K:Nat)(x:ab ps):evK [] T [] K (.seq (.cond (.tmp 4) (sub body [1,0,1,0]) (sub body [1,0,1,1])) (sub body [1,1])) (ac (cf (S1 K x) [] 4 .one [.bool false]) (S1 K x)) (cS T ps rs true Tryz.f73.results.toList)=f K x:=by kernel_rfl
theorem yes_ok (K:Nat)(x:ab ps):evK [] T [] K (.seq (.cond (.tmp 4) (sub body [1,0,1,0]) (sub body [1,0,1,1])) (sub body [1,1])) (ac (cf (S1 K x) [] 4 .one [.bool true]) (S1 K x)) (cS T ps rs true Tryz.f73.results.toList)=some (([],()),()):=by kernel_rfl
end Q9
theorem Q9.o (K:Nat):bN Tryz.prog (Q9.c K) :=
 kY Q9.T_ok (by kernel_rfl) (fn:=Tryz.f73) Tryz.func73 (by kernel_rfl) (R0:=sub Q9.body [0]) (A:=sub Q9.body [1,0,1,0]) (B:=sub Q9.body [1,0,1,1]) (C:=sub Q9.body [1,1]) (rid:=1) (o0:=jQ (sub Q9.body [1,0,0]) 0) (o1:=jQ (sub Q9.body [1,0,0]) 1) (d0:=3) (q:=4) (t:=45) (t':=45) (x0:=.tmp 0) (L:=[]) (K:=K) (E':=3)
  (by kernel_rfl) (by kernel_rfl) (by kernel_rfl) (by kernel_rfl) (by kernel_rfl) (by kernel_rfl) (by kernel_rfl) (by kernel_rfl) (S1:=Q9.S1 K) (Q9.pre_ok K) (Q9.leaf_ok K) (Q9.no_ok K) (λx y hx hy=>(Q9.yes_ok K x).trans (((j8 _ _).symm.trans (congrArg (e8 _ _) hx.symm)).trans hy))
end Go.Proofs.YtaegajachoklkabGreatEv
