/- The contracts by hand are sound. Printed by run3.py, but for those that lie in Man2. -/
import Derived.Test.YtmibehbhnkeaiaaGreatFns
import Derived.Test.YtmibehbhnkeaiaaGreatE6
import Derived.Test.YtmibehbhnkeaiaaGreatEvR
set_option linter.unusedVariables false
set_option maxRecDepth 100000
set_option linter.unusedVariables false
set_option linter.unusedSimpArgs false

namespace Go.Proofs.YtmibehbhnkeaiaaGreatEv
open Go Go.Proofs
namespace Q0
noncomputable def Tl:List (TypeId×TI):=[(23,.slice 46 t2 32)]
noncomputable def T (t:TypeId):TI:=gJ Tl t
theorem T_ok:TOk Tryz.prog T:=iJ (l:=Tl) (by kernel_rfl)
noncomputable def body:Code:=cY Tryz.f62
noncomputable def pre (K:Nat)(x:ab ps):Option St:=evK [] T [] K (sub body [0]) (av (dy 0 ps x)) (rB (λs _=>act [] T (mJ (sub body [1,0,0]) 0) s (λU=>some (ac U s))) (λ_ _=>none))
noncomputable def S1 (K:Nat)(x:ab ps):St:=(pre K x).getD (λ_=>b7.none)
theorem pre_ok (K:Nat)(x:ab ps):pre K x=some (S1 K x):=by kernel_rfl
theorem leaf_ok (K:Nat)(x:ab ps):one (S1 K x) (.tmp 3)=.ro true 46 t2 x.1:=by kernel_rfl
theorem no_ok (K:Nat)(x:ab ps):evK [] T [] K (.seq (.cond (.tmp 4) (sub body [1,0,1,0]) (sub body [1,0,1,1])) (sub body [1,1])) (ac (cB (S1 K x) [] 4 .one [.bool false]) (S1 K x)) (du T ps rs true Tryz.f62.results.toList)=f K x:=by kernel_rfl
theorem yes_ok (K:Nat)(x:ab ps):evK [] T [] K (.seq (.cond (.tmp 4) (sub body [1,0,1,0]) (sub body [1,0,1,1])) (sub body [1,1])) (ac (cB (S1 K x) [] 4 .one [.bool true]) (S1 K x)) (du T ps rs true Tryz.f62.results.toList)=some (([],()),()):=by kernel_rfl
end Q0
theorem Q0.o (K:Nat):bI Tryz.prog (Q0.c K) :=
 oQ Q0.T_ok (by kernel_rfl) (fn:=Tryz.f62) Tryz.func62 (by kernel_rfl) (R0:=sub Q0.body [0]) (A:=sub Q0.body [1,0,1,0]) (B:=sub Q0.body [1,0,1,1]) (C:=sub Q0.body [1,1]) (rid:=1) (o0:=mJ (sub Q0.body [1,0,0]) 0) (o1:=mJ (sub Q0.body [1,0,0]) 1) (d0:=3) (q:=4) (t:=23) (t':=23) (x0:=.tmp 0) (L:=[]) (K:=K) (E':=46)
  (by kernel_rfl) (by kernel_rfl) (by kernel_rfl) (by kernel_rfl) (by kernel_rfl) (by kernel_rfl) (by kernel_rfl) (by kernel_rfl) (S1:=Q0.S1 K) (Q0.pre_ok K) (Q0.leaf_ok K) (Q0.no_ok K) (λx y hx hy=>(Q0.yes_ok K x).trans (((mI _ _).symm.trans (congrArg (gx _ _) hx.symm)).trans hy))
namespace Q2
noncomputable def Tl:List (TypeId×TI):=[(24,.slice 133 t3 40)]
noncomputable def T (t:TypeId):TI:=gJ Tl t
theorem T_ok:TOk Tryz.prog T:=iJ (l:=Tl) (by kernel_rfl)
noncomputable def body:Code:=cY Tryz.f168
noncomputable def pre (K:Nat)(x:ab ps):Option St:=evK [] T [] K (sub body [0]) (av (dy 0 ps x)) (rB (λs _=>act [] T (mJ (sub body [1,0,0]) 0) s (λU=>some (ac U s))) (λ_ _=>none))
noncomputable def S1 (K:Nat)(x:ab ps):St:=(pre K x).getD (λ_=>b7.none)
theorem pre_ok (K:Nat)(x:ab ps):pre K x=some (S1 K x):=by kernel_rfl
theorem leaf_ok (K:Nat)(x:ab ps):one (S1 K x) (.tmp 3)=.ro true 133 t3 x.1:=by kernel_rfl
theorem no_ok (K:Nat)(x:ab ps):evK [] T [] K (.seq (.cond (.tmp 4) (sub body [1,0,1,0]) (sub body [1,0,1,1])) (sub body [1,1])) (ac (cB (S1 K x) [] 4 .one [.bool false]) (S1 K x)) (du T ps rs true Tryz.f168.results.toList)=f K x:=by kernel_rfl
theorem yes_ok (K:Nat)(x:ab ps):evK [] T [] K (.seq (.cond (.tmp 4) (sub body [1,0,1,0]) (sub body [1,0,1,1])) (sub body [1,1])) (ac (cB (S1 K x) [] 4 .one [.bool true]) (S1 K x)) (du T ps rs true Tryz.f168.results.toList)=some (([],()),()):=by kernel_rfl
end Q2
theorem Q2.o (K:Nat):bI Tryz.prog (Q2.c K) :=
 oQ Q2.T_ok (by kernel_rfl) (fn:=Tryz.f168) Tryz.func168 (by kernel_rfl) (R0:=sub Q2.body [0]) (A:=sub Q2.body [1,0,1,0]) (B:=sub Q2.body [1,0,1,1]) (C:=sub Q2.body [1,1]) (rid:=1) (o0:=mJ (sub Q2.body [1,0,0]) 0) (o1:=mJ (sub Q2.body [1,0,0]) 1) (d0:=3) (q:=4) (t:=24) (t':=24) (x0:=.tmp 0) (L:=[]) (K:=K) (E':=133)
  (by kernel_rfl) (by kernel_rfl) (by kernel_rfl) (by kernel_rfl) (by kernel_rfl) (by kernel_rfl) (by kernel_rfl) (by kernel_rfl) (S1:=Q2.S1 K) (Q2.pre_ok K) (Q2.leaf_ok K) (Q2.no_ok K) (λx y hx hy=>(Q2.yes_ok K x).trans (((mI _ _).symm.trans (congrArg (gx _ _) hx.symm)).trans hy))
namespace Q7
noncomputable def Tl:List (TypeId×TI):=[(67,.slice 3 I6 8)]
noncomputable def T (t:TypeId):TI:=gJ Tl t
theorem T_ok:TOk Tryz.prog T:=iJ (l:=Tl) (by kernel_rfl)
noncomputable def body:Code:=cY Tryz.f167
noncomputable def pre (K:Nat)(x:ab ps):Option St:=evK [] T [] K (sub body [0]) (av (dy 0 ps x)) (rB (λs _=>act [] T (mJ (sub body [1,0,0]) 0) s (λU=>some (ac U s))) (λ_ _=>none))
noncomputable def S1 (K:Nat)(x:ab ps):St:=(pre K x).getD (λ_=>b7.none)
theorem pre_ok (K:Nat)(x:ab ps):pre K x=some (S1 K x):=by kernel_rfl
theorem leaf_ok (K:Nat)(x:ab ps):one (S1 K x) (.tmp 3)=.ro true 3 I6 x.1:=by kernel_rfl
theorem no_ok (K:Nat)(x:ab ps):evK [] T [] K (.seq (.cond (.tmp 4) (sub body [1,0,1,0]) (sub body [1,0,1,1])) (sub body [1,1])) (ac (cB (S1 K x) [] 4 .one [.bool false]) (S1 K x)) (du T ps rs true Tryz.f167.results.toList)=f K x:=by kernel_rfl
theorem yes_ok (K:Nat)(x:ab ps):evK [] T [] K (.seq (.cond (.tmp 4) (sub body [1,0,1,0]) (sub body [1,0,1,1])) (sub body [1,1])) (ac (cB (S1 K x) [] 4 .one [.bool true]) (S1 K x)) (du T ps rs true Tryz.f167.results.toList)=some (([],()),()):=by kernel_rfl
end Q7
theorem Q7.o (K:Nat):bI Tryz.prog (Q7.c K) :=
 oQ Q7.T_ok (by kernel_rfl) (fn:=Tryz.f167) Tryz.func167 (by kernel_rfl) (R0:=sub Q7.body [0]) (A:=sub Q7.body [1,0,1,0]) (B:=sub Q7.body [1,0,1,1]) (C:=sub Q7.body [1,1]) (rid:=1) (o0:=mJ (sub Q7.body [1,0,0]) 0) (o1:=mJ (sub Q7.body [1,0,0]) 1) (d0:=3) (q:=4) (t:=67) (t':=67) (x0:=.tmp 0) (L:=[]) (K:=K) (E':=3)
  (by kernel_rfl) (by kernel_rfl) (by kernel_rfl) (by kernel_rfl) (by kernel_rfl) (by kernel_rfl) (by kernel_rfl) (by kernel_rfl) (S1:=Q7.S1 K) (Q7.pre_ok K) (Q7.leaf_ok K) (Q7.no_ok K) (λx y hx hy=>(Q7.yes_ok K x).trans (((mI _ _).symm.trans (congrArg (gx _ _) hx.symm)).trans hy))
namespace Q9
noncomputable def Tl:List (TypeId×TI):=[(27,.slice 86 t6 48)]
noncomputable def T (t:TypeId):TI:=gJ Tl t
theorem T_ok:TOk Tryz.prog T:=iJ (l:=Tl) (by kernel_rfl)
noncomputable def body:Code:=cY Tryz.f197
noncomputable def pre (K:Nat)(x:ab ps):Option St:=evK [] T [] K (sub body [0]) (av (dy 0 ps x)) (rB (λs _=>act [] T (mJ (sub body [1,0,0]) 0) s (λU=>some (ac U s))) (λ_ _=>none))
noncomputable def S1 (K:Nat)(x:ab ps):St:=(pre K x).getD (λ_=>b7.none)
theorem pre_ok (K:Nat)(x:ab ps):pre K x=some (S1 K x):=by kernel_rfl
theorem leaf_ok (K:Nat)(x:ab ps):one (S1 K x) (.tmp 3)=.ro true 86 t6 x.1:=by kernel_rfl
theorem no_ok (K:Nat)(x:ab ps):evK [] T [] K (.seq (.cond (.tmp 4) (sub body [1,0,1,0]) (sub body [1,0,1,1])) (sub body [1,1])) (ac (cB (S1 K x) [] 4 .one [.bool false]) (S1 K x)) (du T ps rs false Tryz.f197.results.toList)=f K x:=by kernel_rfl
theorem yes_ok (K:Nat)(x:ab ps):evK [] T [] K (.seq (.cond (.tmp 4) (sub body [1,0,1,0]) (sub body [1,0,1,1])) (sub body [1,1])) (ac (cB (S1 K x) [] 4 .one [.bool true]) (S1 K x)) (du T ps rs false Tryz.f197.results.toList)=some (([],()),()):=by kernel_rfl
end Q9
theorem Q9.o (K:Nat):bI Tryz.prog (Q9.c K) :=
 oQ Q9.T_ok (by kernel_rfl) (fn:=Tryz.f197) Tryz.func197 (by kernel_rfl) (R0:=sub Q9.body [0]) (A:=sub Q9.body [1,0,1,0]) (B:=sub Q9.body [1,0,1,1]) (C:=sub Q9.body [1,1]) (rid:=1) (o0:=mJ (sub Q9.body [1,0,0]) 0) (o1:=mJ (sub Q9.body [1,0,0]) 1) (d0:=3) (q:=4) (t:=27) (t':=27) (x0:=.tmp 0) (L:=[]) (K:=K) (E':=86)
  (by kernel_rfl) (by kernel_rfl) (by kernel_rfl) (by kernel_rfl) (by kernel_rfl) (by kernel_rfl) (by kernel_rfl) (by kernel_rfl) (S1:=Q9.S1 K) (Q9.pre_ok K) (Q9.leaf_ok K) (Q9.no_ok K) (λx y hx hy=>(Q9.yes_ok K x).trans (((mI _ _).symm.trans (congrArg (gx _ _) hx.symm)).trans hy))
theorem Q10.o (K:Nat):bI Tryz.prog (Q10.c K):=C8 (by kernel_rfl) (Q9.o K)
end Go.Proofs.YtmibehbhnkeaiaaGreatEv
