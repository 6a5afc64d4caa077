/- The contracts by hand are sound. Printed by run3.py, but for those that lie in Man2. -/
import Derived.Test.YthgnfidnmnkeaaaGreatFns
import Derived.Test.YthgnfidnmnkeaaaGreatE7
import Derived.Test.YthgnfidnmnkeaaaGreatEvR
set_option linter.unusedVariables false
set_option maxRecDepth 100000
namespace Go.Proofs.YthgnfidnmnkeaaaGreatEv
open Go Go.Proofs
namespace Q0
noncomputable def Tl:List (TypeId×TI):=[(36,.slice 132 t2 32)]
noncomputable def T (t:TypeId):TI:=gH Tl t
theorem T_ok:TOk Tryz.prog T:=jy (l:=Tl) (by kernel_rfl)
noncomputable def body:Code:=c9 Tryz.f201
noncomputable def pre (K:Nat)(x:aa ps):Option St:=evK [] T [] K (sub body [0]) (aw (cF 0 ps x)) (mZ (fun s _=>act [] T (iE (sub body [1,0,0]) 0) s (fun U=>some (ab U s))) (fun _ _=>none))
noncomputable def S1 (K:Nat)(x:aa ps):St:=(pre K x).getD (fun _=>bE.none)
theorem pre_ok (K:Nat)(x:aa ps):pre K x=some (S1 K x):=by kernel_rfl
theorem leaf_ok (K:Nat)(x:aa ps):one (S1 K x) (.tmp 3)=.ro true 132 t2 x.1:=by kernel_rfl
theorem no_ok (K:Nat)(x:aa ps):evK [] T [] K (.seq (.cond (.tmp 4) (sub body [1,0,1,0]) (sub body [1,0,1,1])) (sub body [1,1])) (ab (bP (S1 K x) [] 4 .one [.bool false]) (S1 K x)) (db T ps rs true Tryz.f201.results.toList)=f K x:=by kernel_rfl
theorem yes_ok (K:Nat)(x:aa ps):evK [] T [] K (.seq (.cond (.tmp 4) (sub body [1,0,1,0]) (sub body [1,0,1,1])) (sub body [1,1])) (ab (bP (S1 K x) [] 4 .one [.bool true]) (S1 K x)) (db T ps rs true Tryz.f201.results.toList)=some (([],()),()):=by kernel_rfl
end Q0
theorem Q0.sound (K:Nat):af Tryz.prog (Q0.c K) :=
 jO Q0.T_ok (by kernel_rfl) (fn:=Tryz.f201) Tryz.func201 (by kernel_rfl) (R0:=sub Q0.body [0]) (A:=sub Q0.body [1,0,1,0]) (B:=sub Q0.body [1,0,1,1]) (C:=sub Q0.body [1,1]) (rid:=1) (o0:=iE (sub Q0.body [1,0,0]) 0) (o1:=iE (sub Q0.body [1,0,0]) 1) (d0:=3) (q:=4) (t:=36) (t':=36) (x0:=.tmp 0) (L:=[]) (K:=K) (E':=132)
  (by kernel_rfl) (by kernel_rfl) (by kernel_rfl) (by kernel_rfl) (by kernel_rfl) (by kernel_rfl) (by kernel_rfl) (by kernel_rfl) (S1:=Q0.S1 K) (Q0.pre_ok K) (Q0.leaf_ok K) (Q0.no_ok K) (fun x y hx hy=>(Q0.yes_ok K x).trans (((iP _ _).symm.trans (congrArg (el _ _) hx.symm)).trans hy))
namespace Q2
noncomputable def Tl:List (TypeId×TI):=[(37,.slice 173 t3 40)]
noncomputable def T (t:TypeId):TI:=gH Tl t
theorem T_ok:TOk Tryz.prog T:=jy (l:=Tl) (by kernel_rfl)
noncomputable def body:Code:=c9 Tryz.f244
noncomputable def pre (K:Nat)(x:aa ps):Option St:=evK [] T [] K (sub body [0]) (aw (cF 0 ps x)) (mZ (fun s _=>act [] T (iE (sub body [1,0,0]) 0) s (fun U=>some (ab U s))) (fun _ _=>none))
noncomputable def S1 (K:Nat)(x:aa ps):St:=(pre K x).getD (fun _=>bE.none)
theorem pre_ok (K:Nat)(x:aa ps):pre K x=some (S1 K x):=by kernel_rfl
theorem leaf_ok (K:Nat)(x:aa ps):one (S1 K x) (.tmp 3)=.ro true 173 t3 x.1:=by kernel_rfl
theorem no_ok (K:Nat)(x:aa ps):evK [] T [] K (.seq (.cond (.tmp 4) (sub body [1,0,1,0]) (sub body [1,0,1,1])) (sub body [1,1])) (ab (bP (S1 K x) [] 4 .one [.bool false]) (S1 K x)) (db T ps rs true Tryz.f244.results.toList)=f K x:=by kernel_rfl
theorem yes_ok (K:Nat)(x:aa ps):evK [] T [] K (.seq (.cond (.tmp 4) (sub body [1,0,1,0]) (sub body [1,0,1,1])) (sub body [1,1])) (ab (bP (S1 K x) [] 4 .one [.bool true]) (S1 K x)) (db T ps rs true Tryz.f244.results.toList)=some (([],()),()):=by kernel_rfl
end Q2
theorem Q2.sound (K:Nat):af Tryz.prog (Q2.c K) :=
 jO Q2.T_ok (by kernel_rfl) (fn:=Tryz.f244) Tryz.func244 (by kernel_rfl) (R0:=sub Q2.body [0]) (A:=sub Q2.body [1,0,1,0]) (B:=sub Q2.body [1,0,1,1]) (C:=sub Q2.body [1,1]) (rid:=1) (o0:=iE (sub Q2.body [1,0,0]) 0) (o1:=iE (sub Q2.body [1,0,0]) 1) (d0:=3) (q:=4) (t:=37) (t':=37) (x0:=.tmp 0) (L:=[]) (K:=K) (E':=173)
  (by kernel_rfl) (by kernel_rfl) (by kernel_rfl) (by kernel_rfl) (by kernel_rfl) (by kernel_rfl) (by kernel_rfl) (by kernel_rfl) (S1:=Q2.S1 K) (Q2.pre_ok K) (Q2.leaf_ok K) (Q2.no_ok K) (fun x y hx hy=>(Q2.yes_ok K x).trans (((iP _ _).symm.trans (congrArg (el _ _) hx.symm)).trans hy))
namespace Q6
noncomputable def Tl:List (TypeId×TI):=[(39,.slice 177 t15 48)]
noncomputable def T (t:TypeId):TI:=gH Tl t
theorem T_ok:TOk Tryz.prog T:=jy (l:=Tl) (by kernel_rfl)
noncomputable def body:Code:=c9 Tryz.f264
noncomputable def pre (K:Nat)(x:aa ps):Option St:=evK [] T [] K (sub body [0]) (aw (cF 0 ps x)) (mZ (fun s _=>act [] T (iE (sub body [1,0,0]) 0) s (fun U=>some (ab U s))) (fun _ _=>none))
noncomputable def S1 (K:Nat)(x:aa ps):St:=(pre K x).getD (fun _=>bE.none)
theorem pre_ok (K:Nat)(x:aa ps):pre K x=some (S1 K x):=by kernel_rfl
theorem leaf_ok (K:Nat)(x:aa ps):one (S1 K x) (.tmp 3)=.ro true 177 t15 x.1:=by kernel_rfl
theorem no_ok (K:Nat)(x:aa ps):evK [] T [] K (.seq (.cond (.tmp 4) (sub body [1,0,1,0]) (sub body [1,0,1,1])) (sub body [1,1])) (ab (bP (S1 K x) [] 4 .one [.bool false]) (S1 K x)) (db T ps rs false Tryz.f264.results.toList)=f K x:=by kernel_rfl
theorem yes_ok (K:Nat)(x:aa ps):evK [] T [] K (.seq (.cond (.tmp 4) (sub body [1,0,1,0]) (sub body [1,0,1,1])) (sub body [1,1])) (ab (bP (S1 K x) [] 4 .one [.bool true]) (S1 K x)) (db T ps rs false Tryz.f264.results.toList)=some (([],()),()):=by kernel_rfl
end Q6
theorem Q6.sound (K:Nat):af Tryz.prog (Q6.c K) :=
 jO Q6.T_ok (by kernel_rfl) (fn:=Tryz.f264) Tryz.func264 (by kernel_rfl) (R0:=sub Q6.body [0]) (A:=sub Q6.body [1,0,1,0]) (B:=sub Q6.body [1,0,1,1]) (C:=sub Q6.body [1,1]) (rid:=1) (o0:=iE (sub Q6.body [1,0,0]) 0) (o1:=iE (sub Q6.body [1,0,0]) 1) (d0:=3) (q:=4) (t:=39) (t':=39) (x0:=.tmp 0) (L:=[]) (K:=K) (E':=177)
  (by kernel_rfl) (by kernel_rfl) (by kernel_rfl) (by kernel_rfl) (by kernel_rfl) (by kernel_rfl) (by kernel_rfl) (by kernel_rfl) (S1:=Q6.S1 K) (Q6.pre_ok K) (Q6.leaf_ok K) (Q6.no_ok K) (fun x y hx hy=>(Q6.yes_ok K x).trans (((iP _ _).symm.trans (congrArg (el _ _) hx.symm)).trans hy))
theorem Q7.sound (K:Nat):af Tryz.prog (Q7.c K):=rM (by kernel_rfl) (Q6.sound K)
namespace Q8
noncomputable def Tl:List (TypeId×TI):=[(57,.slice 3 (.int .i64) 8)]
noncomputable def T (t:TypeId):TI:=gH Tl t
theorem T_ok:TOk Tryz.prog T:=jy (l:=Tl) (by kernel_rfl)
noncomputable def body:Code:=c9 Tryz.f195
noncomputable def pre (K:Nat)(x:aa ps):Option St:=evK [] T [] K (sub body [0]) (aw (cF 0 ps x)) (mZ (fun s _=>act [] T (iE (sub body [1,0,0]) 0) s (fun U=>some (ab U s))) (fun _ _=>none))
noncomputable def S1 (K:Nat)(x:aa ps):St:=(pre K x).getD (fun _=>bE.none)
theorem pre_ok (K:Nat)(x:aa ps):pre K x=some (S1 K x):=by kernel_rfl
theorem leaf_ok (K:Nat)(x:aa ps):one (S1 K x) (.tmp 3)=.ro true 3 (.int .i64) x.1:=by kernel_rfl
theorem no_ok (K:Nat)(x:aa ps):evK [] T [] K (.seq (.cond (.tmp 4) (sub body [1,0,1,0]) (sub body [1,0,1,1])) (sub body [1,1])) (ab (bP (S1 K x) [] 4 .one [.bool false]) (S1 K x)) (db T ps rs true Tryz.f195.results.toList)=f K x:=by kernel_rfl
theorem yes_ok (K:Nat)(x:aa ps):evK [] T [] K (.seq (.cond (.tmp 4) (sub body [1,0,1,0]) (sub body [1,0,1,1])) (sub body [1,1])) (ab (bP (S1 K x) [] 4 .one [.bool true]) (S1 K x)) (db T ps rs true Tryz.f195.results.toList)=some (([],()),()):=by kernel_rfl
end Q8
theorem Q8.sound (K:Nat):af Tryz.prog (Q8.c K) :=
 jO Q8.T_ok (by kernel_rfl) (fn:=Tryz.f195) Tryz.func195 (by kernel_rfl) (R0:=sub Q8.body [0]) (A:=sub Q8.body [1,0,1,0]) (B:=sub Q8.body [1,0,1,1]) (C:=sub Q8.body [1,1]) (rid:=1) (o0:=iE (sub Q8.body [1,0,0]) 0) (o1:=iE (sub Q8.body [1,0,0]) 1) (d0:=3) (q:=4) (t:=57) (t':=57) (x0:=.tmp 0) (L:=[]) (K:=K) (E':=3)
  (by kernel_rfl) (by kernel_rfl) (by kernel_rfl) (by kernel_rfl) (by kernel_rfl) (by kernel_rfl) (by kernel_rfl) (by kernel_rfl) (S1:=Q8.S1 K) (Q8.pre_ok K) (Q8.leaf_ok K) (Q8.no_ok K) (fun x y hx hy=>(Q8.yes_ok K x).trans (((iP _ _).symm.trans (congrArg (el _ _) hx.symm)).trans hy))
end Go.Proofs.YthgnfidnmnkeaaaGreatEv
