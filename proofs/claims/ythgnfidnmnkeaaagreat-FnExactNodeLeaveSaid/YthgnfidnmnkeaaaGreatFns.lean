/- The functions, on plain values. Printed by run3.py. -/
import Derived.Test.YthgnfidnmnkeaaaGreatFns0
set_option linter.unusedVariables false
set_option maxRecDepth 100000
namespace Go.Proofs.YthgnfidnmnkeaaaGreatEv
open Go Go.Proofs
noncomputable section
namespace Q75
@[reducible] def ps:List PK:=[.rd t9]
@[reducible] def rs:List RK:=[.v .bool]
abbrev Res:=Ress rs×Outs ps
noncomputable def pre (K:Nat) (x:Args ps):Option Res:=(Q64.f K (x.1.1,(-100000),100000,())).bind fun y1=>bif y1.1.1 then ((Q64.f K (x.1.2.1,(-100000),100000,())).bind fun y2=>bif y2.1.1 then ((Q64.f K (x.1.2.2.1,0,100000,())).bind fun y3=>bif y3.1.1 then ((Q64.f K (x.1.2.2.2,1,1500,())).bind fun y4=>some ((y4.1.1,()),())) else (some ((false,()),()))) else (some ((false,()),()))) else (some ((false,()),()))
noncomputable def f (K:Nat) (x:Args ps):Option Res:=pre K x
noncomputable def c (K:Nat):Ctr:=⟨161,ps,rs,true,f K⟩
noncomputable def G (K:Nat):List Ctr:=[Q64.c K]
noncomputable def L:List (Nat×List (Nat×List Coe)):=[]
end Q75
namespace Q76
@[reducible] def ps:List PK:=[.rd t75]
@[reducible] def rs:List RK:=[.v .bool]
abbrev Res:=Ress rs×Outs ps
abbrev A_l1:=Int×Int×Int×Int×Int×Int×Int×List (Ty.den (.int .i64))
abbrev A_l0:=Int
noncomputable def l1.step (K:Nat) (x:Args ps) (rec_l0:A_l0→Option Res) (rec_l1:A_l1→Option Res) (a:A_l1):Option Res:=bif decide (a.2.1<(List.length a.2.2.2.2.2.2.2:Int)) then ((idx a.2.2.2.2.2.2.2 a.2.1).bind fun y8=>(Q64.f K (y8,1,60000,())).bind fun y9=>bif !y9.1.1 then (some ((false,()),())) else (rec_l1 (a.1,wr .i64 (a.2.1+1),a.2.2.1,a.2.2.2.1,a.2.2.2.2.1,a.2.2.2.2.2.1,a.2.2.2.2.2.2.1,a.2.2.2.2.2.2.2))) else (rec_l0 (wr .i64 (a.1+1)))
noncomputable def l1 (K:Nat) (x:Args ps) (rec_l0:A_l0→Option Res):A_l1→Option Res:=iterate (fun rec_l1 a=>l1.step K x rec_l0 rec_l1 a) K
noncomputable def l0.step (K:Nat) (x:Args ps) (N_l1:A_l1→Option Res) (rec_l0:A_l0→Option Res) (a:A_l0):Option Res:=bif decide (a<(List.length x.1.2.2.2.2.2.2.2.2.2.2.2.2.2.1:Int)) then ((idx x.1.2.2.2.2.2.2.2.2.2.2.2.2.2.1 a).bind fun y1=>(Q64.f K (y1.1,0,7,())).bind fun y2=>bif !y2.1.1 then (some ((false,()),())) else ((Q63.f K (y1.1,())).bind fun y3=>(Q63.f K (x.1.1,())).bind fun y4=>bif y3.1.1 != y4.1.1 then (some ((false,()),())) else (bif y1.1==x.1.1 then (some ((false,()),())) else (bif decide (a>0) then ((idx x.1.2.2.2.2.2.2.2.2.2.2.2.2.2.1 (wr .i64 (a-1))).bind fun y5=>bif decide (y5.1≥y1.1) then (some ((false,()),())) else ((Q75.f K (y1.2.1,())).bind fun y6=>bif !y6.1.1 then (some ((false,()),())) else ((Q64.f K ((List.length y1.2.2:Int),1,3,())).bind fun y7=>bif !y7.1.1 then (some ((false,()),())) else (N_l1 (a,0,y1.1,y1.2.1.1,y1.2.1.2.1,y1.2.1.2.2.1,y1.2.1.2.2.2,y1.2.2))))) else ((Q75.f K (y1.2.1,())).bind fun y10=>bif !y10.1.1 then (some ((false,()),())) else ((Q64.f K ((List.length y1.2.2:Int),1,3,())).bind fun y11=>bif !y11.1.1 then (some ((false,()),())) else (N_l1 (a,0,y1.1,y1.2.1.1,y1.2.1.2.1,y1.2.1.2.2.1,y1.2.1.2.2.2,y1.2.2)))))))) else (some ((true,()),()))
noncomputable def l0 (K:Nat) (x:Args ps):A_l0→Option Res:=iterate (fun rec_l0 a=>l0.step K x (l1 K x rec_l0) rec_l0 a) K
noncomputable def pre (K:Nat) (N_l0:A_l0→Option Res) (x:Args ps):Option Res:=N_l0 0
noncomputable def f (K:Nat) (x:Args ps):Option Res:=pre K (l0 K x) x
noncomputable def c (K:Nat):Ctr:=⟨162,ps,rs,true,f K⟩
noncomputable def G (K:Nat):List Ctr:=[Q63.c K,Q64.c K,Q75.c K]
noncomputable def live_l1:List (Nat×List Coe):=[(1,[.keep]),(3,[.keep]),(4,[.keep]),(5,[.keep]),(100001,[.keep,.keep,.keep,.keep,.keep,.keep,.keep,.keep,.ro true 132 t2,.ro true 173 t3,.keep,.keep,.keep,.keep,.ro true 177 t15,.keep,.keep,.keep,.keep,.ro true 94 t17,.ro true 119 t18]),(100004,[.keep,.keep,.keep,.keep,.keep,.ro true 3 (.int .i64)])]
noncomputable def live_l0:List (Nat×List Coe):=[(1,[.keep]),(3,[.keep]),(100001,[.keep,.keep,.keep,.keep,.keep,.keep,.keep,.keep,.ro true 132 t2,.ro true 173 t3,.keep,.keep,.keep,.keep,.ro true 177 t15,.keep,.keep,.keep,.keep,.ro true 94 t17,.ro true 119 t18])]
noncomputable def L:List (Nat×List (Nat×List Coe)):=[(9,live_l1),(3,live_l0)]
noncomputable def body:Code:=bodyOf Tryz.f162
noncomputable abbrev ev (K:Nat):Code→St→(Ex→St→Option Res)→Option Res:=evK (G K) T_S L K
noncomputable abbrev fin:Ex→St→Option Res:=finK T_S ps rs true Tryz.f162.results.toList
noncomputable def S_l0 (x:Args ps) (a:A_l0):St:=mkSt [(1,⟨0,.one,[.bp 100001 0]⟩),(3,⟨0,.one,[.int .i64 a]⟩),(100001,⟨0,.agg,[.int .i64 x.1.1,.bool x.1.2.1,.bool x.1.2.2.1,.bool x.1.2.2.2.1,.int .i64 x.1.2.2.2.2.1,.int .i64 x.1.2.2.2.2.2.1,.int .i64 x.1.2.2.2.2.2.2.1,.int .i64 x.1.2.2.2.2.2.2.2.1,.ro true 132 t2 x.1.2.2.2.2.2.2.2.2.1,.ro true 173 t3 x.1.2.2.2.2.2.2.2.2.2.1,.int .i64 x.1.2.2.2.2.2.2.2.2.2.2.1.1,.int .i64 x.1.2.2.2.2.2.2.2.2.2.2.1.2.1,.int .i64 x.1.2.2.2.2.2.2.2.2.2.2.1.2.2.1,.bool x.1.2.2.2.2.2.2.2.2.2.2.1.2.2.2,.ro true 177 t15 x.1.2.2.2.2.2.2.2.2.2.2.2.1,.int .i64 x.1.2.2.2.2.2.2.2.2.2.2.2.2.1.1,.int .i64 x.1.2.2.2.2.2.2.2.2.2.2.2.2.1.2.1,.int .i64 x.1.2.2.2.2.2.2.2.2.2.2.2.2.1.2.2.1,.int .i64 x.1.2.2.2.2.2.2.2.2.2.2.2.2.1.2.2.2,.ro true 94 t17 x.1.2.2.2.2.2.2.2.2.2.2.2.2.2.1,.ro true 119 t18 x.1.2.2.2.2.2.2.2.2.2.2.2.2.2.2]⟩)]
noncomputable def S_l1 (x:Args ps) (a:A_l1):St:=mkSt [(1,⟨0,.one,[.bp 100001 0]⟩),(3,⟨0,.one,[.int .i64 a.1]⟩),(4,⟨0,.one,[.bp 100004 0]⟩),(5,⟨0,.one,[.int .i64 a.2.1]⟩),(100001,⟨0,.agg,[.int .i64 x.1.1,.bool x.1.2.1,.bool x.1.2.2.1,.bool x.1.2.2.2.1,.int .i64 x.1.2.2.2.2.1,.int .i64 x.1.2.2.2.2.2.1,.int .i64 x.1.2.2.2.2.2.2.1,.int .i64 x.1.2.2.2.2.2.2.2.1,.ro true 132 t2 x.1.2.2.2.2.2.2.2.2.1,.ro true 173 t3 x.1.2.2.2.2.2.2.2.2.2.1,.int .i64 x.1.2.2.2.2.2.2.2.2.2.2.1.1,.int .i64 x.1.2.2.2.2.2.2.2.2.2.2.1.2.1,.int .i64 x.1.2.2.2.2.2.2.2.2.2.2.1.2.2.1,.bool x.1.2.2.2.2.2.2.2.2.2.2.1.2.2.2,.ro true 177 t15 x.1.2.2.2.2.2.2.2.2.2.2.2.1,.int .i64 x.1.2.2.2.2.2.2.2.2.2.2.2.2.1.1,.int .i64 x.1.2.2.2.2.2.2.2.2.2.2.2.2.1.2.1,.int .i64 x.1.2.2.2.2.2.2.2.2.2.2.2.2.1.2.2.1,.int .i64 x.1.2.2.2.2.2.2.2.2.2.2.2.2.1.2.2.2,.ro true 94 t17 x.1.2.2.2.2.2.2.2.2.2.2.2.2.2.1,.ro true 119 t18 x.1.2.2.2.2.2.2.2.2.2.2.2.2.2.2]⟩),(100004,⟨0,.agg,[.int .i64 a.2.2.1,.int .i64 a.2.2.2.1,.int .i64 a.2.2.2.2.1,.int .i64 a.2.2.2.2.2.1,.int .i64 a.2.2.2.2.2.2.1,.ro true 3 (.int .i64) a.2.2.2.2.2.2.2]⟩)]
noncomputable def k_l0 (K:Nat) (x:Args ps):Ex→St→Option Res:=kAt (ev K) body [1,0,1,0] fin
noncomputable def N_l0 (K:Nat) (x:Args ps):A_l0→Option Res:=fun a=>evLoop live_l0 (ev K (sub body [1,0,1,0,0])) K (S_l0 x a) (k_l0 K x)
noncomputable def k_l1 (K:Nat) (x:Args ps) (r_l0:St→Option Res):Ex→St→Option Res:=kAt (ev K) (sub body [1,0,1,0,0]) [1,0,0,1,1,1,0] (kLoop live_l0 r_l0 (k_l0 K x))
noncomputable def N_l1 (K:Nat) (x:Args ps) (r_l0:St→Option Res):A_l1→Option Res:=fun a=>evLoop live_l1 (ev K (sub body [1,0,1,0,0,1,0,0,1,1,1,0,0])) K (S_l1 x a) (k_l1 K x r_l0)
end Q76
namespace Q77
@[reducible] def ps:List PK:=[.rd t75]
@[reducible] def rs:List RK:=[.v .bool]
abbrev Res:=Ress rs×Outs ps
abbrev A_l0:=Int
noncomputable def l0.step (K:Nat) (x:Args ps) (rec_l0:A_l0→Option Res) (a:A_l0):Option Res:=bif decide (a<(List.length x.1.2.2.2.2.2.2.2.2.2.2.2.2.2.2:Int)) then ((idx x.1.2.2.2.2.2.2.2.2.2.2.2.2.2.2 a).bind fun y1=>(Q64.f K (y1.1,0,1,())).bind fun y2=>bif !y2.1.1 then (some ((false,()),())) else ((Q63.f K (x.1.1,())).bind fun y3=>bif y1.1==y3.1.1 then (some ((false,()),())) else (bif decide (a>0) then ((idx x.1.2.2.2.2.2.2.2.2.2.2.2.2.2.2 (wr .i64 (a-1))).bind fun y4=>bif decide (y4.1≥y1.1) then (some ((false,()),())) else (bif (List.length y1.2:Int)==0 then (some ((false,()),())) else ((Q66.f K (y1.2,())).bind fun y5=>bif !y5.1.1 then (some ((false,()),())) else ((Q67.f K (y1.2,y1.1,())).bind fun y6=>bif !y6.1.1 then (some ((false,()),())) else (rec_l0 (wr .i64 (a+1))))))) else (bif (List.length y1.2:Int)==0 then (some ((false,()),())) else ((Q66.f K (y1.2,())).bind fun y7=>bif !y7.1.1 then (some ((false,()),())) else ((Q67.f K (y1.2,y1.1,())).bind fun y8=>bif !y8.1.1 then (some ((false,()),())) else (rec_l0 (wr .i64 (a+1))))))))) else (some ((true,()),()))
noncomputable def l0 (K:Nat) (x:Args ps):A_l0→Option Res:=iterate (fun rec_l0 a=>l0.step K x rec_l0 a) K
noncomputable def pre (K:Nat) (N_l0:A_l0→Option Res) (x:Args ps):Option Res:=N_l0 0
noncomputable def f (K:Nat) (x:Args ps):Option Res:=pre K (l0 K x) x
noncomputable def c (K:Nat):Ctr:=⟨163,ps,rs,true,f K⟩
noncomputable def G (K:Nat):List Ctr:=[Q63.c K,Q64.c K,Q66.c K,Q67.c K]
noncomputable def live_l0:List (Nat×List Coe):=[(1,[.keep]),(3,[.keep]),(100001,[.keep,.keep,.keep,.keep,.keep,.keep,.keep,.keep,.ro true 132 t2,.ro true 173 t3,.keep,.keep,.keep,.keep,.ro true 177 t15,.keep,.keep,.keep,.keep,.ro true 94 t17,.ro true 119 t18])]
noncomputable def L:List (Nat×List (Nat×List Coe)):=[(3,live_l0)]
noncomputable def body:Code:=bodyOf Tryz.f163
noncomputable abbrev ev (K:Nat):Code→St→(Ex→St→Option Res)→Option Res:=evK (G K) T_S L K
noncomputable abbrev fin:Ex→St→Option Res:=finK T_S ps rs true Tryz.f163.results.toList
noncomputable def S_l0 (x:Args ps) (a:A_l0):St:=mkSt [(1,⟨0,.one,[.bp 100001 0]⟩),(3,⟨0,.one,[.int .i64 a]⟩),(100001,⟨0,.agg,[.int .i64 x.1.1,.bool x.1.2.1,.bool x.1.2.2.1,.bool x.1.2.2.2.1,.int .i64 x.1.2.2.2.2.1,.int .i64 x.1.2.2.2.2.2.1,.int .i64 x.1.2.2.2.2.2.2.1,.int .i64 x.1.2.2.2.2.2.2.2.1,.ro true 132 t2 x.1.2.2.2.2.2.2.2.2.1,.ro true 173 t3 x.1.2.2.2.2.2.2.2.2.2.1,.int .i64 x.1.2.2.2.2.2.2.2.2.2.2.1.1,.int .i64 x.1.2.2.2.2.2.2.2.2.2.2.1.2.1,.int .i64 x.1.2.2.2.2.2.2.2.2.2.2.1.2.2.1,.bool x.1.2.2.2.2.2.2.2.2.2.2.1.2.2.2,.ro true 177 t15 x.1.2.2.2.2.2.2.2.2.2.2.2.1,.int .i64 x.1.2.2.2.2.2.2.2.2.2.2.2.2.1.1,.int .i64 x.1.2.2.2.2.2.2.2.2.2.2.2.2.1.2.1,.int .i64 x.1.2.2.2.2.2.2.2.2.2.2.2.2.1.2.2.1,.int .i64 x.1.2.2.2.2.2.2.2.2.2.2.2.2.1.2.2.2,.ro true 94 t17 x.1.2.2.2.2.2.2.2.2.2.2.2.2.2.1,.ro true 119 t18 x.1.2.2.2.2.2.2.2.2.2.2.2.2.2.2]⟩)]
noncomputable def k_l0 (K:Nat) (x:Args ps):Ex→St→Option Res:=kAt (ev K) body [1,0,1,0] fin
noncomputable def N_l0 (K:Nat) (x:Args ps):A_l0→Option Res:=fun a=>evLoop live_l0 (ev K (sub body [1,0,1,0,0])) K (S_l0 x a) (k_l0 K x)
end Q77
namespace Q78
@[reducible] def ps:List PK:=[.rd t75]
@[reducible] def rs:List RK:=[.v .bool]
abbrev Res:=Ress rs×Outs ps
noncomputable def pre (K:Nat) (x:Args ps):Option Res:=(Q64.f K (x.1.1,0,7,())).bind fun y1=>bif !y1.1.1 then (some ((false,()),())) else ((Q64.f K (x.1.2.2.2.2.2.1,0,999999,())).bind fun y2=>bif !y2.1.1 then (some ((false,()),())) else ((Q64.f K (x.1.2.2.2.2.2.2.1,0,999999,())).bind fun y3=>bif !y3.1.1 then (some ((false,()),())) else ((Q64.f K (x.1.2.2.2.2.2.2.2.1,0,8,())).bind fun y4=>bif !y4.1.1 then (some ((false,()),())) else ((Q64.f K (x.1.2.2.2.2.1,0,999,())).bind fun y5=>bif !y5.1.1 then (some ((false,()),())) else (bif !x.1.2.1 then (bif !x.1.2.2.1 then (bif x.1.2.2.2.2.1==0 then (bif x.1.2.2.2.2.2.1==0 then (bif x.1.2.2.2.2.2.2.1==0 then (bif x.1.2.2.2.2.2.2.2.1==0 then (bif (wr .i64 ((wr .i64 ((wr .i64 ((wr .i64 ((List.length x.1.2.2.2.2.2.2.2.2.1:Int)+(List.length x.1.2.2.2.2.2.2.2.2.2.1:Int)))+(List.length x.1.2.2.2.2.2.2.2.2.2.2.2.1:Int)))+(List.length x.1.2.2.2.2.2.2.2.2.2.2.2.2.2.1:Int)))+(List.length x.1.2.2.2.2.2.2.2.2.2.2.2.2.2.2:Int)))==0 then (bif x.1.2.2.2.2.2.2.2.2.2.2.1.1==0 then (bif x.1.2.2.2.2.2.2.2.2.2.2.1.2.1==0 then (bif x.1.2.2.2.2.2.2.2.2.2.2.1.2.2.1==0 then (bif !x.1.2.2.2.2.2.2.2.2.2.2.1.2.2.2 then (bif x.1.2.2.2.2.2.2.2.2.2.2.2.2.1.1==0 then (bif x.1.2.2.2.2.2.2.2.2.2.2.2.2.1.2.1==0 then (bif x.1.2.2.2.2.2.2.2.2.2.2.2.2.1.2.2.1==0 then (some ((x.1.2.2.2.2.2.2.2.2.2.2.2.2.1.2.2.2==0,()),())) else (some ((false,()),()))) else (some ((false,()),()))) else (some ((false,()),()))) else (some ((false,()),()))) else (some ((false,()),()))) else (some ((false,()),()))) else (some ((false,()),()))) else (some ((false,()),()))) else (some ((false,()),()))) else (some ((false,()),()))) else (some ((false,()),()))) else (some ((false,()),()))) else (some ((false,()),()))) else ((Q66.f K (x.1.2.2.2.2.2.2.2.2.1,())).bind fun y6=>bif y6.1.1 then ((Q63.f K (x.1.1,())).bind fun y7=>(Q67.f K (x.1.2.2.2.2.2.2.2.2.1,y7.1.1,())).bind fun y8=>bif y8.1.1 then ((Q69.f K (x.1,())).bind fun y9=>bif y9.1.1 then ((Q72.f K (x.1,())).bind fun y10=>bif y10.1.1 then ((Q73.f K (x.1,())).bind fun y11=>bif y11.1.1 then ((Q74.f K (x.1,())).bind fun y12=>bif y12.1.1 then ((Q75.f K (x.1.2.2.2.2.2.2.2.2.2.2.2.2.1,())).bind fun y13=>bif y13.1.1 then ((Q76.f K (x.1,())).bind fun y14=>bif y14.1.1 then ((Q77.f K (x.1,())).bind fun y15=>some ((y15.1.1,()),())) else (some ((false,()),()))) else (some ((false,()),()))) else (some ((false,()),()))) else (some ((false,()),()))) else (some ((false,()),()))) else (some ((false,()),()))) else (some ((false,()),()))) else (some ((false,()),()))))))))
noncomputable def f (K:Nat) (x:Args ps):Option Res:=pre K x
noncomputable def c (K:Nat):Ctr:=⟨65,ps,rs,true,f K⟩
noncomputable def G (K:Nat):List Ctr:=[Q63.c K,Q64.c K,Q66.c K,Q67.c K,Q69.c K,Q72.c K,Q73.c K,Q74.c K,Q75.c K,Q76.c K,Q77.c K]
noncomputable def L:List (Nat×List (Nat×List Coe)):=[]
end Q78
namespace Q79
@[reducible] def ps:List PK:=[.rd t75]
@[reducible] def rs:List RK:=[.v t89]
abbrev Res:=Ress rs×Outs ps
abbrev A_l2:=Int×List (Ty.den t15)×List (Ty.den t17)×List (Ty.den t18)
abbrev A_l1:=Int×List (Ty.den t15)×List (Ty.den t17)
abbrev A_l0:=Int×List (Ty.den t15)
noncomputable def l2.step (K:Nat) (x:Args ps) (rec_l2:A_l2→Option Res) (a:A_l2):Option Res:=bif decide (a.1<(List.length x.1.2.2.2.2.2.2.2.2.2.2.2.2.2.2:Int)) then ((idx x.1.2.2.2.2.2.2.2.2.2.2.2.2.2.2 a.1).bind fun y3=>bif decide ((List.length ([]:List (Ty.den t2))+List.length y3.2)*32≤sizeK) then (bif decide ((List.length a.2.2.2+List.length ([(y3.1,[]++y3.2)]))*32≤sizeK) then (rec_l2 (wr .i64 (a.1+1),a.2.1,a.2.2.1,a.2.2.2++([(y3.1,[]++y3.2)]))) else none) else none) else (some (((x.1.1,(x.1.2.1,(x.1.2.2.1,(x.1.2.2.2.1,(x.1.2.2.2.2.1,(x.1.2.2.2.2.2.1,(x.1.2.2.2.2.2.2.1,(x.1.2.2.2.2.2.2.2.1,([]++x.1.2.2.2.2.2.2.2.2.1,([]++x.1.2.2.2.2.2.2.2.2.2.1,(x.1.2.2.2.2.2.2.2.2.2.2.1,(a.2.1,(x.1.2.2.2.2.2.2.2.2.2.2.2.2.1,a.2.2))))))))))))),()),()))
noncomputable def l2 (K:Nat) (x:Args ps):A_l2→Option Res:=iterate (fun rec_l2 a=>l2.step K x rec_l2 a) K
noncomputable def l1.step (K:Nat) (x:Args ps) (N_l2:A_l2→Option Res) (rec_l1:A_l1→Option Res) (a:A_l1):Option Res:=bif decide (a.1<(List.length x.1.2.2.2.2.2.2.2.2.2.2.2.2.2.1:Int)) then ((idx x.1.2.2.2.2.2.2.2.2.2.2.2.2.2.1 a.1).bind fun y2=>bif decide ((List.length ([]:List (Ty.den (.int .i64)))+List.length y2.2.2)*8≤sizeK) then (bif decide ((List.length a.2.2+List.length ([(y2.1,(y2.2.1,[]++y2.2.2))]))*64≤sizeK) then (rec_l1 (wr .i64 (a.1+1),a.2.1,a.2.2++([(y2.1,(y2.2.1,[]++y2.2.2))]))) else none) else none) else (N_l2 (0,a.2.1,a.2.2,[]))
noncomputable def l1 (K:Nat) (x:Args ps):A_l1→Option Res:=iterate (fun rec_l1 a=>l1.step K x (l2 K x) rec_l1 a) K
noncomputable def l0.step (K:Nat) (x:Args ps) (N_l1:A_l1→Option Res) (rec_l0:A_l0→Option Res) (a:A_l0):Option Res:=bif decide (a.1<(List.length x.1.2.2.2.2.2.2.2.2.2.2.2.1:Int)) then ((idx x.1.2.2.2.2.2.2.2.2.2.2.2.1 a.1).bind fun y1=>bif decide ((List.length ([]:List (Ty.den (.int .i64)))+List.length y1.2.2.2)*8≤sizeK) then (bif decide ((List.length a.2+List.length ([(y1.1,(y1.2.1,(y1.2.2.1,[]++y1.2.2.2)))]))*48≤sizeK) then (rec_l0 (wr .i64 (a.1+1),a.2++([(y1.1,(y1.2.1,(y1.2.2.1,[]++y1.2.2.2)))]))) else none) else none) else (N_l1 (0,a.2,[]))
noncomputable def l0 (K:Nat) (x:Args ps):A_l0→Option Res:=iterate (fun rec_l0 a=>l0.step K x (l1 K x) rec_l0 a) K
noncomputable def pre (K:Nat) (N_l0:A_l0→Option Res) (x:Args ps):Option Res:=bif decide ((List.length ([]:List (Ty.den t2))+List.length x.1.2.2.2.2.2.2.2.2.1)*32≤sizeK) then (bif decide ((List.length ([]:List (Ty.den t3))+List.length x.1.2.2.2.2.2.2.2.2.2.1)*40≤sizeK) then (N_l0 (0,[])) else none) else none
noncomputable def f (K:Nat) (x:Args ps):Option Res:=pre K (l0 K x) x
noncomputable def c (K:Nat):Ctr:=⟨126,ps,rs,true,f K⟩
noncomputable def G (K:Nat):List Ctr:=[]
noncomputable def live_l2:List (Nat×List Coe):=[(1,[.keep]),(2,[.keep]),(3,[.keep]),(8,[.keep]),(100001,[.keep,.keep,.keep,.keep,.keep,.keep,.keep,.keep,.ro true 132 t2,.ro true 173 t3,.keep,.keep,.keep,.keep,.ro true 177 t15,.keep,.keep,.keep,.keep,.ro true 94 t17,.ro true 119 t18]),(100002,[.keep,.keep,.keep,.keep,.keep,.keep,.keep,.keep,.keep,.keep,.keep,.keep,.keep,.keep,.keep,.keep,.keep,.keep,.keep,.keep,.keep]),(100003,[.keep,.keep,.keep,.keep,.keep,.keep,.keep,.keep,.own false 132 t2,.own false 173 t3,.keep,.keep,.keep,.keep,.own false 177 t15,.keep,.keep,.keep,.keep,.own false 94 t17,.own false 119 t18])]
noncomputable def live_l1:List (Nat×List Coe):=[(1,[.keep]),(2,[.keep]),(3,[.keep]),(6,[.keep]),(100001,[.keep,.keep,.keep,.keep,.keep,.keep,.keep,.keep,.ro true 132 t2,.ro true 173 t3,.keep,.keep,.keep,.keep,.ro true 177 t15,.keep,.keep,.keep,.keep,.ro true 94 t17,.ro true 119 t18]),(100002,[.keep,.keep,.keep,.keep,.keep,.keep,.keep,.keep,.keep,.keep,.keep,.keep,.keep,.keep,.keep,.keep,.keep,.keep,.keep,.keep,.keep]),(100003,[.keep,.keep,.keep,.keep,.keep,.keep,.keep,.keep,.own false 132 t2,.own false 173 t3,.keep,.keep,.keep,.keep,.own false 177 t15,.keep,.keep,.keep,.keep,.own false 94 t17,.ro true 119 t18])]
noncomputable def live_l0:List (Nat×List Coe):=[(1,[.keep]),(2,[.keep]),(3,[.keep]),(4,[.keep]),(100001,[.keep,.keep,.keep,.keep,.keep,.keep,.keep,.keep,.ro true 132 t2,.ro true 173 t3,.keep,.keep,.keep,.keep,.ro true 177 t15,.keep,.keep,.keep,.keep,.ro true 94 t17,.ro true 119 t18]),(100002,[.keep,.keep,.keep,.keep,.keep,.keep,.keep,.keep,.keep,.keep,.keep,.keep,.keep,.keep,.keep,.keep,.keep,.keep,.keep,.keep,.keep]),(100003,[.keep,.keep,.keep,.keep,.keep,.keep,.keep,.keep,.own false 132 t2,.own false 173 t3,.keep,.keep,.keep,.keep,.own false 177 t15,.keep,.keep,.keep,.keep,.ro true 94 t17,.ro true 119 t18])]
noncomputable def L:List (Nat×List (Nat×List Coe)):=[(21,live_l2),(14,live_l1),(7,live_l0)]
noncomputable def body:Code:=bodyOf Tryz.f126
noncomputable abbrev ev (K:Nat):Code→St→(Ex→St→Option Res)→Option Res:=evK (G K) T_ND L K
noncomputable abbrev fin:Ex→St→Option Res:=finK T_ND ps rs true Tryz.f126.results.toList
noncomputable def S_l0 (x:Args ps) (a:A_l0):St:=mkSt [(1,⟨0,.one,[.bp 100001 0]⟩),(2,⟨0,.one,[.bp 100002 0]⟩),(3,⟨0,.one,[.bp 100003 0]⟩),(4,⟨0,.one,[.int .i64 a.1]⟩),(100001,⟨0,.agg,[.int .i64 x.1.1,.bool x.1.2.1,.bool x.1.2.2.1,.bool x.1.2.2.2.1,.int .i64 x.1.2.2.2.2.1,.int .i64 x.1.2.2.2.2.2.1,.int .i64 x.1.2.2.2.2.2.2.1,.int .i64 x.1.2.2.2.2.2.2.2.1,.ro true 132 t2 x.1.2.2.2.2.2.2.2.2.1,.ro true 173 t3 x.1.2.2.2.2.2.2.2.2.2.1,.int .i64 x.1.2.2.2.2.2.2.2.2.2.2.1.1,.int .i64 x.1.2.2.2.2.2.2.2.2.2.2.1.2.1,.int .i64 x.1.2.2.2.2.2.2.2.2.2.2.1.2.2.1,.bool x.1.2.2.2.2.2.2.2.2.2.2.1.2.2.2,.ro true 177 t15 x.1.2.2.2.2.2.2.2.2.2.2.2.1,.int .i64 x.1.2.2.2.2.2.2.2.2.2.2.2.2.1.1,.int .i64 x.1.2.2.2.2.2.2.2.2.2.2.2.2.1.2.1,.int .i64 x.1.2.2.2.2.2.2.2.2.2.2.2.2.1.2.2.1,.int .i64 x.1.2.2.2.2.2.2.2.2.2.2.2.2.1.2.2.2,.ro true 94 t17 x.1.2.2.2.2.2.2.2.2.2.2.2.2.2.1,.ro true 119 t18 x.1.2.2.2.2.2.2.2.2.2.2.2.2.2.2]⟩),(100002,⟨0,.agg,[.int .i64 0,.bool false,.bool false,.bool false,.int .i64 0,.int .i64 0,.int .i64 0,.int .i64 0,.nil,.nil,.int .i64 0,.int .i64 0,.int .i64 0,.bool false,.nil,.int .i64 0,.int .i64 0,.int .i64 0,.int .i64 0,.nil,.nil]⟩),(100003,⟨0,.agg,[.int .i64 x.1.1,.bool x.1.2.1,.bool x.1.2.2.1,.bool x.1.2.2.2.1,.int .i64 x.1.2.2.2.2.1,.int .i64 x.1.2.2.2.2.2.1,.int .i64 x.1.2.2.2.2.2.2.1,.int .i64 x.1.2.2.2.2.2.2.2.1,.own false none 132 t2 ([]++x.1.2.2.2.2.2.2.2.2.1),.own false none 173 t3 ([]++x.1.2.2.2.2.2.2.2.2.2.1),.int .i64 x.1.2.2.2.2.2.2.2.2.2.2.1.1,.int .i64 x.1.2.2.2.2.2.2.2.2.2.2.1.2.1,.int .i64 x.1.2.2.2.2.2.2.2.2.2.2.1.2.2.1,.bool x.1.2.2.2.2.2.2.2.2.2.2.1.2.2.2,.own false none 177 t15 a.2,.int .i64 x.1.2.2.2.2.2.2.2.2.2.2.2.2.1.1,.int .i64 x.1.2.2.2.2.2.2.2.2.2.2.2.2.1.2.1,.int .i64 x.1.2.2.2.2.2.2.2.2.2.2.2.2.1.2.2.1,.int .i64 x.1.2.2.2.2.2.2.2.2.2.2.2.2.1.2.2.2,.ro true 94 t17 x.1.2.2.2.2.2.2.2.2.2.2.2.2.2.1,.ro true 119 t18 x.1.2.2.2.2.2.2.2.2.2.2.2.2.2.2]⟩)]
noncomputable def S_l1 (x:Args ps) (a:A_l1):St:=mkSt [(1,⟨0,.one,[.bp 100001 0]⟩),(2,⟨0,.one,[.bp 100002 0]⟩),(3,⟨0,.one,[.bp 100003 0]⟩),(6,⟨0,.one,[.int .i64 a.1]⟩),(100001,⟨0,.agg,[.int .i64 x.1.1,.bool x.1.2.1,.bool x.1.2.2.1,.bool x.1.2.2.2.1,.int .i64 x.1.2.2.2.2.1,.int .i64 x.1.2.2.2.2.2.1,.int .i64 x.1.2.2.2.2.2.2.1,.int .i64 x.1.2.2.2.2.2.2.2.1,.ro true 132 t2 x.1.2.2.2.2.2.2.2.2.1,.ro true 173 t3 x.1.2.2.2.2.2.2.2.2.2.1,.int .i64 x.1.2.2.2.2.2.2.2.2.2.2.1.1,.int .i64 x.1.2.2.2.2.2.2.2.2.2.2.1.2.1,.int .i64 x.1.2.2.2.2.2.2.2.2.2.2.1.2.2.1,.bool x.1.2.2.2.2.2.2.2.2.2.2.1.2.2.2,.ro true 177 t15 x.1.2.2.2.2.2.2.2.2.2.2.2.1,.int .i64 x.1.2.2.2.2.2.2.2.2.2.2.2.2.1.1,.int .i64 x.1.2.2.2.2.2.2.2.2.2.2.2.2.1.2.1,.int .i64 x.1.2.2.2.2.2.2.2.2.2.2.2.2.1.2.2.1,.int .i64 x.1.2.2.2.2.2.2.2.2.2.2.2.2.1.2.2.2,.ro true 94 t17 x.1.2.2.2.2.2.2.2.2.2.2.2.2.2.1,.ro true 119 t18 x.1.2.2.2.2.2.2.2.2.2.2.2.2.2.2]⟩),(100002,⟨0,.agg,[.int .i64 0,.bool false,.bool false,.bool false,.int .i64 0,.int .i64 0,.int .i64 0,.int .i64 0,.nil,.nil,.int .i64 0,.int .i64 0,.int .i64 0,.bool false,.nil,.int .i64 0,.int .i64 0,.int .i64 0,.int .i64 0,.nil,.nil]⟩),(100003,⟨0,.agg,[.int .i64 x.1.1,.bool x.1.2.1,.bool x.1.2.2.1,.bool x.1.2.2.2.1,.int .i64 x.1.2.2.2.2.1,.int .i64 x.1.2.2.2.2.2.1,.int .i64 x.1.2.2.2.2.2.2.1,.int .i64 x.1.2.2.2.2.2.2.2.1,.own false none 132 t2 ([]++x.1.2.2.2.2.2.2.2.2.1),.own false none 173 t3 ([]++x.1.2.2.2.2.2.2.2.2.2.1),.int .i64 x.1.2.2.2.2.2.2.2.2.2.2.1.1,.int .i64 x.1.2.2.2.2.2.2.2.2.2.2.1.2.1,.int .i64 x.1.2.2.2.2.2.2.2.2.2.2.1.2.2.1,.bool x.1.2.2.2.2.2.2.2.2.2.2.1.2.2.2,.own false none 177 t15 a.2.1,.int .i64 x.1.2.2.2.2.2.2.2.2.2.2.2.2.1.1,.int .i64 x.1.2.2.2.2.2.2.2.2.2.2.2.2.1.2.1,.int .i64 x.1.2.2.2.2.2.2.2.2.2.2.2.2.1.2.2.1,.int .i64 x.1.2.2.2.2.2.2.2.2.2.2.2.2.1.2.2.2,.own false none 94 t17 a.2.2,.ro true 119 t18 x.1.2.2.2.2.2.2.2.2.2.2.2.2.2.2]⟩)]
noncomputable def S_l2 (x:Args ps) (a:A_l2):St:=mkSt [(1,⟨0,.one,[.bp 100001 0]⟩),(2,⟨0,.one,[.bp 100002 0]⟩),(3,⟨0,.one,[.bp 100003 0]⟩),(8,⟨0,.one,[.int .i64 a.1]⟩),(100001,⟨0,.agg,[.int .i64 x.1.1,.bool x.1.2.1,.bool x.1.2.2.1,.bool x.1.2.2.2.1,.int .i64 x.1.2.2.2.2.1,.int .i64 x.1.2.2.2.2.2.1,.int .i64 x.1.2.2.2.2.2.2.1,.int .i64 x.1.2.2.2.2.2.2.2.1,.ro true 132 t2 x.1.2.2.2.2.2.2.2.2.1,.ro true 173 t3 x.1.2.2.2.2.2.2.2.2.2.1,.int .i64 x.1.2.2.2.2.2.2.2.2.2.2.1.1,.int .i64 x.1.2.2.2.2.2.2.2.2.2.2.1.2.1,.int .i64 x.1.2.2.2.2.2.2.2.2.2.2.1.2.2.1,.bool x.1.2.2.2.2.2.2.2.2.2.2.1.2.2.2,.ro true 177 t15 x.1.2.2.2.2.2.2.2.2.2.2.2.1,.int .i64 x.1.2.2.2.2.2.2.2.2.2.2.2.2.1.1,.int .i64 x.1.2.2.2.2.2.2.2.2.2.2.2.2.1.2.1,.int .i64 x.1.2.2.2.2.2.2.2.2.2.2.2.2.1.2.2.1,.int .i64 x.1.2.2.2.2.2.2.2.2.2.2.2.2.1.2.2.2,.ro true 94 t17 x.1.2.2.2.2.2.2.2.2.2.2.2.2.2.1,.ro true 119 t18 x.1.2.2.2.2.2.2.2.2.2.2.2.2.2.2]⟩),(100002,⟨0,.agg,[.int .i64 0,.bool false,.bool false,.bool false,.int .i64 0,.int .i64 0,.int .i64 0,.int .i64 0,.nil,.nil,.int .i64 0,.int .i64 0,.int .i64 0,.bool false,.nil,.int .i64 0,.int .i64 0,.int .i64 0,.int .i64 0,.nil,.nil]⟩),(100003,⟨0,.agg,[.int .i64 x.1.1,.bool x.1.2.1,.bool x.1.2.2.1,.bool x.1.2.2.2.1,.int .i64 x.1.2.2.2.2.1,.int .i64 x.1.2.2.2.2.2.1,.int .i64 x.1.2.2.2.2.2.2.1,.int .i64 x.1.2.2.2.2.2.2.2.1,.own false none 132 t2 ([]++x.1.2.2.2.2.2.2.2.2.1),.own false none 173 t3 ([]++x.1.2.2.2.2.2.2.2.2.2.1),.int .i64 x.1.2.2.2.2.2.2.2.2.2.2.1.1,.int .i64 x.1.2.2.2.2.2.2.2.2.2.2.1.2.1,.int .i64 x.1.2.2.2.2.2.2.2.2.2.2.1.2.2.1,.bool x.1.2.2.2.2.2.2.2.2.2.2.1.2.2.2,.own false none 177 t15 a.2.1,.int .i64 x.1.2.2.2.2.2.2.2.2.2.2.2.2.1.1,.int .i64 x.1.2.2.2.2.2.2.2.2.2.2.2.2.1.2.1,.int .i64 x.1.2.2.2.2.2.2.2.2.2.2.2.2.1.2.2.1,.int .i64 x.1.2.2.2.2.2.2.2.2.2.2.2.2.1.2.2.2,.own false none 94 t17 a.2.2.1,.own false none 119 t18 a.2.2.2]⟩)]
noncomputable def k_l0 (K:Nat) (x:Args ps):Ex→St→Option Res:=kAt (ev K) body [1,1,1,1,1,0,1,0] fin
noncomputable def N_l0 (K:Nat) (x:Args ps):A_l0→Option Res:=fun a=>evLoop live_l0 (ev K (sub body [1,1,1,1,1,0,1,0,0])) K (S_l0 x a) (k_l0 K x)
noncomputable def k_l1 (K:Nat) (x:Args ps):Ex→St→Option Res:=kAt (ev K) body [1,1,1,1,1,1,1,0,1,0] fin
noncomputable def N_l1 (K:Nat) (x:Args ps):A_l1→Option Res:=fun a=>evLoop live_l1 (ev K (sub body [1,1,1,1,1,1,1,0,1,0,0])) K (S_l1 x a) (k_l1 K x)
noncomputable def k_l2 (K:Nat) (x:Args ps):Ex→St→Option Res:=kAt (ev K) body [1,1,1,1,1,1,1,1,1,0,1,0] fin
noncomputable def N_l2 (K:Nat) (x:Args ps):A_l2→Option Res:=fun a=>evLoop live_l2 (ev K (sub body [1,1,1,1,1,1,1,1,1,0,1,0,0])) K (S_l2 x a) (k_l2 K x)
end Q79
namespace Q80
@[reducible] def ps:List PK:=[.rd t75,.rd (.int .i64),.rd (.int .i64),.rd (.int .i64),.rd (.int .i64),.rd (.list false 132 t2)]
@[reducible] def rs:List RK:=[.v t25]
abbrev Res:=Ress rs×Outs ps
noncomputable def pre (K:Nat) (x:Args ps):Option Res:=bif decide ((List.length ([]:List (Ty.den t2))+List.length x.2.2.2.2.2.1)*32≤sizeK) then (some (((1,(x.2.1,(x.1.1,(x.2.2.1,(x.2.2.2.1,(x.2.2.2.2.1,(x.1.2.2.2.2.2.2.2.2.2.2.2.2.1,[]++x.2.2.2.2.2.1))))))),()),())) else none
noncomputable def f (K:Nat) (x:Args ps):Option Res:=pre K x
noncomputable def c (K:Nat):Ctr:=⟨127,ps,rs,true,f K⟩
noncomputable def G (K:Nat):List Ctr:=[]
noncomputable def L:List (Nat×List (Nat×List Coe)):=[]
end Q80
namespace Q81
@[reducible] def ps:List PK:=[.rd (.list false 132 t2),.rd t2]
@[reducible] def rs:List RK:=[.v (.list false 132 t2),.v .bool]
abbrev Res:=Ress rs×Outs ps
abbrev A_l0:=Int
noncomputable def l0.step (K:Nat) (x:Args ps) (rec_l0:A_l0→Option Res) (a:A_l0):Option Res:=bif decide (a<(List.length x.1:Int)) then ((idx x.1 a).bind fun y6=>bif decide (y6.1<x.2.1.1) then (rec_l0 (wr .i64 (a+1))) else (bif decide (0≤0)&&decide (0≤a)&&decide (a≤(List.length x.1:Int))&&true then (bif decide ((List.length ([]:List (Ty.den t2))+List.length ((x.1.take (Int.toNat a)).drop (Int.toNat 0)))*32≤sizeK) then (bif decide ((List.length ([]++((x.1.take (Int.toNat a)).drop (Int.toNat 0)))+List.length ([x.2.1]))*32≤sizeK) then (bif decide (0≤a)&&decide (a≤(List.length x.1:Int))&&decide ((List.length x.1:Int)≤(List.length x.1:Int))&&true then (bif decide ((List.length (([]++((x.1.take (Int.toNat a)).drop (Int.toNat 0)))++([x.2.1]))+List.length ((x.1.take (Int.toNat (List.length x.1:Int))).drop (Int.toNat a)))*32≤sizeK) then (some (((([]++((x.1.take (Int.toNat a)).drop (Int.toNat 0)))++([x.2.1]))++((x.1.take (Int.toNat (List.length x.1:Int))).drop (Int.toNat a)),true,()),())) else none) else none) else none) else none) else none)) else (bif decide (0≤0)&&decide (0≤a)&&decide (a≤(List.length x.1:Int))&&true then (bif decide ((List.length ([]:List (Ty.den t2))+List.length ((x.1.take (Int.toNat a)).drop (Int.toNat 0)))*32≤sizeK) then (bif decide ((List.length ([]++((x.1.take (Int.toNat a)).drop (Int.toNat 0)))+List.length ([x.2.1]))*32≤sizeK) then (bif decide (0≤a)&&decide (a≤(List.length x.1:Int))&&decide ((List.length x.1:Int)≤(List.length x.1:Int))&&true then (bif decide ((List.length (([]++((x.1.take (Int.toNat a)).drop (Int.toNat 0)))++([x.2.1]))+List.length ((x.1.take (Int.toNat (List.length x.1:Int))).drop (Int.toNat a)))*32≤sizeK) then (some (((([]++((x.1.take (Int.toNat a)).drop (Int.toNat 0)))++([x.2.1]))++((x.1.take (Int.toNat (List.length x.1:Int))).drop (Int.toNat a)),true,()),())) else none) else none) else none) else none) else none)
noncomputable def l0 (K:Nat) (x:Args ps):A_l0→Option Res:=iterate (fun rec_l0 a=>l0.step K x rec_l0 a) K
noncomputable def pre (K:Nat) (N_l0:A_l0→Option Res) (x:Args ps):Option Res:=(Q68.f K (x.1,x.2.1.1,())).bind fun y1=>bif decide (y1.1.1≥0) then ((idx x.1 y1.1.1).bind fun y2=>(Q70.f K (x.2.1,y2,())).bind fun y3=>bif !y3.1.1 then (some ((x.1,false,()),())) else (bif decide ((List.length ([]:List (Ty.den t2))+List.length x.1)*32≤sizeK) then ((idx ([]++x.1) y1.1.1).bind fun _=>(idx ([]++x.1) (Int.toNat y1.1.1:Nat)).bind fun y5=>some ((([]++x.1).set (Int.toNat y1.1.1) x.2.1,true,()),())) else none)) else (N_l0 0)
noncomputable def f (K:Nat) (x:Args ps):Option Res:=pre K (l0 K x) x
noncomputable def c (K:Nat):Ctr:=⟨248,ps,rs,false,f K⟩
noncomputable def G (K:Nat):List Ctr:=[Q68.c K,Q70.c K]
noncomputable def live_l0:List (Nat×List Coe):=[(0,[.ro true 132 t2]),(3,[.keep]),(8,[.keep]),(100003,[.keep,.keep,.keep,.keep])]
noncomputable def L:List (Nat×List (Nat×List Coe)):=[(10,live_l0)]
noncomputable def body:Code:=bodyOf Tryz.f248
noncomputable abbrev ev (K:Nat):Code→St→(Ex→St→Option Res)→Option Res:=evK (G K) T_S L K
noncomputable abbrev fin:Ex→St→Option Res:=finK T_S ps rs false Tryz.f248.results.toList
noncomputable def S_l0 (x:Args ps) (a:A_l0):St:=mkSt [(0,⟨0,.one,[.ro true 132 t2 x.1]⟩),(3,⟨0,.one,[.bp 100003 0]⟩),(8,⟨0,.one,[.int .i64 a]⟩),(100003,⟨0,.agg,[.int .i64 x.2.1.1,.int .i64 x.2.1.2.1,.int .i64 x.2.1.2.2.1,.bool x.2.1.2.2.2]⟩)]
noncomputable def k_l0 (K:Nat) (x:Args ps):Ex→St→Option Res:=kAt (ev K) body [1,1,1,1,0,0] fin
noncomputable def N_l0 (K:Nat) (x:Args ps):A_l0→Option Res:=fun a=>evLoop live_l0 (ev K (sub body [1,1,1,1,0,0,0])) K (S_l0 x a) (k_l0 K x)
end Q81
namespace Q82
@[reducible] def ps:List PK:=[.rd (.list false 173 t3),.rd t2]
@[reducible] def rs:List RK:=[.v (.list false 173 t3)]
abbrev Res:=Ress rs×Outs ps
abbrev A_l0:=List (Ty.den t3)×Bool×Int
noncomputable def l0.step (K:Nat) (x:Args ps) (rec_l0:A_l0→Option Res) (a:A_l0):Option Res:=bif decide (a.2.2<(List.length x.1:Int)) then ((idx x.1 a.2.2).bind fun y1=>bif y1.1.1==x.2.1.1 then ((Q70.f K (x.2.1,y1.1,())).bind fun y2=>bif !y2.1.1 then (some ((x.1,()),())) else (bif !a.2.1 then (bif decide (y1.1.1≥x.2.1.1) then (bif decide ((List.length a.1+List.length ([(x.2.1,4)]))*40≤sizeK) then (bif y1.1.1 != x.2.1.1 then ((idx x.1 a.2.2).bind fun y3=>bif decide ((List.length (a.1++([(x.2.1,4)]))+List.length ([y3]))*40≤sizeK) then (rec_l0 ((a.1++([(x.2.1,4)]))++([y3]),true,wr .i64 (a.2.2+1))) else none) else (rec_l0 (a.1++([(x.2.1,4)]),true,wr .i64 (a.2.2+1)))) else none) else (bif y1.1.1 != x.2.1.1 then ((idx x.1 a.2.2).bind fun y4=>bif decide ((List.length a.1+List.length ([y4]))*40≤sizeK) then (rec_l0 (a.1++([y4]),a.2.1,wr .i64 (a.2.2+1))) else none) else (rec_l0 (a.1,a.2.1,wr .i64 (a.2.2+1))))) else (bif y1.1.1 != x.2.1.1 then ((idx x.1 a.2.2).bind fun y5=>bif decide ((List.length a.1+List.length ([y5]))*40≤sizeK) then (rec_l0 (a.1++([y5]),a.2.1,wr .i64 (a.2.2+1))) else none) else (rec_l0 (a.1,a.2.1,wr .i64 (a.2.2+1)))))) else (bif !a.2.1 then (bif decide (y1.1.1≥x.2.1.1) then (bif decide ((List.length a.1+List.length ([(x.2.1,4)]))*40≤sizeK) then (bif y1.1.1 != x.2.1.1 then ((idx x.1 a.2.2).bind fun y6=>bif decide ((List.length (a.1++([(x.2.1,4)]))+List.length ([y6]))*40≤sizeK) then (rec_l0 ((a.1++([(x.2.1,4)]))++([y6]),true,wr .i64 (a.2.2+1))) else none) else (rec_l0 (a.1++([(x.2.1,4)]),true,wr .i64 (a.2.2+1)))) else none) else (bif y1.1.1 != x.2.1.1 then ((idx x.1 a.2.2).bind fun y7=>bif decide ((List.length a.1+List.length ([y7]))*40≤sizeK) then (rec_l0 (a.1++([y7]),a.2.1,wr .i64 (a.2.2+1))) else none) else (rec_l0 (a.1,a.2.1,wr .i64 (a.2.2+1))))) else (bif y1.1.1 != x.2.1.1 then ((idx x.1 a.2.2).bind fun y8=>bif decide ((List.length a.1+List.length ([y8]))*40≤sizeK) then (rec_l0 (a.1++([y8]),a.2.1,wr .i64 (a.2.2+1))) else none) else (rec_l0 (a.1,a.2.1,wr .i64 (a.2.2+1)))))) else (bif !a.2.1 then (bif decide ((List.length a.1+List.length ([(x.2.1,4)]))*40≤sizeK) then (some ((a.1++([(x.2.1,4)]),()),())) else none) else (some ((a.1,()),())))
noncomputable def l0 (K:Nat) (x:Args ps):A_l0→Option Res:=iterate (fun rec_l0 a=>l0.step K x rec_l0 a) K
noncomputable def pre (K:Nat) (N_l0:A_l0→Option Res) (x:Args ps):Option Res:=N_l0 ([],false,0)
noncomputable def f (K:Nat) (x:Args ps):Option Res:=pre K (l0 K x) x
noncomputable def c (K:Nat):Ctr:=⟨249,ps,rs,false,f K⟩
noncomputable def G (K:Nat):List Ctr:=[Q70.c K]
noncomputable def live_l0:List (Nat×List Coe):=[(0,[.ro true 173 t3]),(3,[.keep]),(5,[.own false 173 t3]),(6,[.keep]),(7,[.keep]),(100003,[.keep,.keep,.keep,.keep])]
noncomputable def L:List (Nat×List (Nat×List Coe)):=[(5,live_l0)]
noncomputable def body:Code:=bodyOf Tryz.f249
noncomputable abbrev ev (K:Nat):Code→St→(Ex→St→Option Res)→Option Res:=evK (G K) T_S L K
noncomputable abbrev fin:Ex→St→Option Res:=finK T_S ps rs false Tryz.f249.results.toList
noncomputable def S_l0 (x:Args ps) (a:A_l0):St:=mkSt [(0,⟨0,.one,[.ro true 173 t3 x.1]⟩),(3,⟨0,.one,[.bp 100003 0]⟩),(5,⟨0,.one,[.own false none 173 t3 a.1]⟩),(6,⟨0,.one,[.bool a.2.1]⟩),(7,⟨0,.one,[.int .i64 a.2.2]⟩),(100003,⟨0,.agg,[.int .i64 x.2.1.1,.int .i64 x.2.1.2.1,.int .i64 x.2.1.2.2.1,.bool x.2.1.2.2.2]⟩)]
noncomputable def k_l0 (K:Nat) (x:Args ps):Ex→St→Option Res:=kAt (ev K) body [1,1,1,0,1,0] fin
noncomputable def N_l0 (K:Nat) (x:Args ps):A_l0→Option Res:=fun a=>evLoop live_l0 (ev K (sub body [1,1,1,0,1,0,0])) K (S_l0 x a) (k_l0 K x)
end Q82
namespace Q83
@[reducible] def ps:List PK:=[.rd t75,.rd t2,.rd (.int .i64)]
@[reducible] def rs:List RK:=[.v (.list true 177 t15)]
abbrev Res:=Ress rs×Outs ps
abbrev A_l0:=List (Ty.den t15)×Bool×Int
noncomputable def l0.step (K:Nat) (x:Args ps) (rec_l0:A_l0→Option Res) (a:A_l0):Option Res:=bif decide (a.2.2<(List.length x.1.2.2.2.2.2.2.2.2.2.2.2.1:Int)) then ((idx x.1.2.2.2.2.2.2.2.2.2.2.2.1 a.2.2).bind fun y1=>bif !a.2.1 then (bif decide (y1.1≥x.2.1.1) then (bif decide ((List.length a.1+List.length ([(x.2.1.1,(x.2.1.2.1,(x.1.2.2.2.2.2.1,[x.2.2.1])))]))*48≤sizeK) then (bif y1.1 != x.2.1.1 then (bif decide ((List.length (a.1++([(x.2.1.1,(x.2.1.2.1,(x.1.2.2.2.2.2.1,[x.2.2.1])))]))+List.length ([y1]))*48≤sizeK) then (rec_l0 ((a.1++([(x.2.1.1,(x.2.1.2.1,(x.1.2.2.2.2.2.1,[x.2.2.1])))]))++([y1]),true,wr .i64 (a.2.2+1))) else none) else (rec_l0 (a.1++([(x.2.1.1,(x.2.1.2.1,(x.1.2.2.2.2.2.1,[x.2.2.1])))]),true,wr .i64 (a.2.2+1)))) else none) else (bif y1.1 != x.2.1.1 then (bif decide ((List.length a.1+List.length ([y1]))*48≤sizeK) then (rec_l0 (a.1++([y1]),a.2.1,wr .i64 (a.2.2+1))) else none) else (rec_l0 (a.1,a.2.1,wr .i64 (a.2.2+1))))) else (bif y1.1 != x.2.1.1 then (bif decide ((List.length a.1+List.length ([y1]))*48≤sizeK) then (rec_l0 (a.1++([y1]),a.2.1,wr .i64 (a.2.2+1))) else none) else (rec_l0 (a.1,a.2.1,wr .i64 (a.2.2+1))))) else (bif !a.2.1 then (bif decide ((List.length a.1+List.length ([(x.2.1.1,(x.2.1.2.1,(x.1.2.2.2.2.2.1,[x.2.2.1])))]))*48≤sizeK) then (some ((a.1++([(x.2.1.1,(x.2.1.2.1,(x.1.2.2.2.2.2.1,[x.2.2.1])))]),()),())) else none) else (some ((a.1,()),())))
noncomputable def l0 (K:Nat) (x:Args ps):A_l0→Option Res:=iterate (fun rec_l0 a=>l0.step K x rec_l0 a) K
noncomputable def pre (K:Nat) (N_l0:A_l0→Option Res) (x:Args ps):Option Res:=N_l0 ([],x.2.1.2.2.1 != 2,0)
noncomputable def f (K:Nat) (x:Args ps):Option Res:=pre K (l0 K x) x
noncomputable def c (K:Nat):Ctr:=⟨250,ps,rs,false,f K⟩
noncomputable def G (K:Nat):List Ctr:=[]
noncomputable def live_l0:List (Nat×List Coe):=[(2,[.keep]),(3,[.keep]),(4,[.keep]),(7,[.own true 177 t15]),(8,[.keep]),(9,[.keep]),(100003,[.keep,.keep,.keep,.keep,.keep,.keep,.keep,.keep,.ro true 132 t2,.ro true 173 t3,.keep,.keep,.keep,.keep,.ro true 177 t15,.keep,.keep,.keep,.keep,.ro true 94 t17,.ro true 119 t18]),(100004,[.keep,.keep,.keep,.keep])]
noncomputable def L:List (Nat×List (Nat×List Coe)):=[(5,live_l0)]
noncomputable def body:Code:=bodyOf Tryz.f250
noncomputable abbrev ev (K:Nat):Code→St→(Ex→St→Option Res)→Option Res:=evK (G K) T_S L K
noncomputable abbrev fin:Ex→St→Option Res:=finK T_S ps rs false Tryz.f250.results.toList
noncomputable def S_l0 (x:Args ps) (a:A_l0):St:=mkSt [(2,⟨0,.one,[.int .i64 x.2.2.1]⟩),(3,⟨0,.one,[.bp 100003 0]⟩),(4,⟨0,.one,[.bp 100004 0]⟩),(7,⟨0,.one,[.own true none 177 t15 a.1]⟩),(8,⟨0,.one,[.bool a.2.1]⟩),(9,⟨0,.one,[.int .i64 a.2.2]⟩),(100003,⟨0,.agg,[.int .i64 x.1.1,.bool x.1.2.1,.bool x.1.2.2.1,.bool x.1.2.2.2.1,.int .i64 x.1.2.2.2.2.1,.int .i64 x.1.2.2.2.2.2.1,.int .i64 x.1.2.2.2.2.2.2.1,.int .i64 x.1.2.2.2.2.2.2.2.1,.ro true 132 t2 x.1.2.2.2.2.2.2.2.2.1,.ro true 173 t3 x.1.2.2.2.2.2.2.2.2.2.1,.int .i64 x.1.2.2.2.2.2.2.2.2.2.2.1.1,.int .i64 x.1.2.2.2.2.2.2.2.2.2.2.1.2.1,.int .i64 x.1.2.2.2.2.2.2.2.2.2.2.1.2.2.1,.bool x.1.2.2.2.2.2.2.2.2.2.2.1.2.2.2,.ro true 177 t15 x.1.2.2.2.2.2.2.2.2.2.2.2.1,.int .i64 x.1.2.2.2.2.2.2.2.2.2.2.2.2.1.1,.int .i64 x.1.2.2.2.2.2.2.2.2.2.2.2.2.1.2.1,.int .i64 x.1.2.2.2.2.2.2.2.2.2.2.2.2.1.2.2.1,.int .i64 x.1.2.2.2.2.2.2.2.2.2.2.2.2.1.2.2.2,.ro true 94 t17 x.1.2.2.2.2.2.2.2.2.2.2.2.2.2.1,.ro true 119 t18 x.1.2.2.2.2.2.2.2.2.2.2.2.2.2.2]⟩),(100004,⟨0,.agg,[.int .i64 x.2.1.1,.int .i64 x.2.1.2.1,.int .i64 x.2.1.2.2.1,.bool x.2.1.2.2.2]⟩)]
noncomputable def k_l0 (K:Nat) (x:Args ps):Ex→St→Option Res:=kAt (ev K) body [1,1,1,0,1,0] fin
noncomputable def N_l0 (K:Nat) (x:Args ps):A_l0→Option Res:=fun a=>evLoop live_l0 (ev K (sub body [1,1,1,0,1,0,0])) K (S_l0 x a) (k_l0 K x)
end Q83
namespace Q84
@[reducible] def ps:List PK:=[.rd t75,.rd t2,.rd (.int .i64)]
@[reducible] def rs:List RK:=[.v t75]
abbrev Res:=Ress rs×Outs ps
noncomputable def pre (K:Nat) (x:Args ps):Option Res:=(Q81.f K (x.1.2.2.2.2.2.2.2.2.1,x.2.1,())).bind fun y1=>bif !y1.1.2.1 then (some ((x.1,()),())) else ((Q68.f K (x.1.2.2.2.2.2.2.2.2.1,x.2.1.1,())).bind fun y2=>bif decide (y2.1.1≥0) then ((idx x.1.2.2.2.2.2.2.2.2.1 y2.1.1).bind fun y3=>bif y3.2.1==x.2.1.2.1 then ((idx x.1.2.2.2.2.2.2.2.2.1 y2.1.1).bind fun y4=>(Q82.f K (x.1.2.2.2.2.2.2.2.2.2.1,x.2.1,())).bind fun y5=>bif !(y4.2.2.1==x.2.1.2.2.1) then ((Q83.f K ((x.1.1,(x.1.2.1,(x.1.2.2.1,(x.1.2.2.2.1,(x.1.2.2.2.2.1,(x.1.2.2.2.2.2.1,(x.1.2.2.2.2.2.2.1,(x.1.2.2.2.2.2.2.2.1,(y1.1.1,(y5.1.1,x.1.2.2.2.2.2.2.2.2.2.2)))))))))),x.2.1,x.2.2.1,())).bind fun y6=>some (((x.1.1,(x.1.2.1,(x.1.2.2.1,(x.1.2.2.2.1,(x.1.2.2.2.2.1,(x.1.2.2.2.2.2.1,(x.1.2.2.2.2.2.2.1,(x.1.2.2.2.2.2.2.2.1,(y1.1.1,(y5.1.1,(x.1.2.2.2.2.2.2.2.2.2.2.1,(y6.1.1,x.1.2.2.2.2.2.2.2.2.2.2.2.2)))))))))))),()),())) else (some (((x.1.1,(x.1.2.1,(x.1.2.2.1,(x.1.2.2.2.1,(x.1.2.2.2.2.1,(x.1.2.2.2.2.2.1,(x.1.2.2.2.2.2.2.1,(x.1.2.2.2.2.2.2.2.1,(y1.1.1,(y5.1.1,x.1.2.2.2.2.2.2.2.2.2.2)))))))))),()),()))) else ((Q82.f K (x.1.2.2.2.2.2.2.2.2.2.1,x.2.1,())).bind fun y7=>(Q83.f K ((x.1.1,(x.1.2.1,(x.1.2.2.1,(x.1.2.2.2.1,(x.1.2.2.2.2.1,(x.1.2.2.2.2.2.1,(x.1.2.2.2.2.2.2.1,(x.1.2.2.2.2.2.2.2.1,(y1.1.1,(y7.1.1,x.1.2.2.2.2.2.2.2.2.2.2)))))))))),x.2.1,x.2.2.1,())).bind fun y8=>some (((x.1.1,(x.1.2.1,(x.1.2.2.1,(x.1.2.2.2.1,(x.1.2.2.2.2.1,(x.1.2.2.2.2.2.1,(x.1.2.2.2.2.2.2.1,(x.1.2.2.2.2.2.2.2.1,(y1.1.1,(y7.1.1,(x.1.2.2.2.2.2.2.2.2.2.2.1,(y8.1.1,x.1.2.2.2.2.2.2.2.2.2.2.2.2)))))))))))),()),()))) else ((Q82.f K (x.1.2.2.2.2.2.2.2.2.2.1,x.2.1,())).bind fun y9=>(Q83.f K ((x.1.1,(x.1.2.1,(x.1.2.2.1,(x.1.2.2.2.1,(x.1.2.2.2.2.1,(x.1.2.2.2.2.2.1,(x.1.2.2.2.2.2.2.1,(x.1.2.2.2.2.2.2.2.1,(y1.1.1,(y9.1.1,x.1.2.2.2.2.2.2.2.2.2.2)))))))))),x.2.1,x.2.2.1,())).bind fun y10=>some (((x.1.1,(x.1.2.1,(x.1.2.2.1,(x.1.2.2.2.1,(x.1.2.2.2.2.1,(x.1.2.2.2.2.2.1,(x.1.2.2.2.2.2.2.1,(x.1.2.2.2.2.2.2.2.1,(y1.1.1,(y9.1.1,(x.1.2.2.2.2.2.2.2.2.2.2.1,(y10.1.1,x.1.2.2.2.2.2.2.2.2.2.2.2.2)))))))))))),()),())))
noncomputable def f (K:Nat) (x:Args ps):Option Res:=pre K x
noncomputable def c (K:Nat):Ctr:=⟨210,ps,rs,false,f K⟩
noncomputable def G (K:Nat):List Ctr:=[Q68.c K,Q81.c K,Q82.c K,Q83.c K]
noncomputable def L:List (Nat×List (Nat×List Coe)):=[]
end Q84
namespace Q85
@[reducible] def ps:List PK:=[.rd (.list false 132 t2),.rd (.int .i64)]
@[reducible] def rs:List RK:=[.v .bool]
abbrev Res:=Ress rs×Outs ps
noncomputable def pre (K:Nat) (x:Args ps):Option Res:=(Q68.f K (x.1,x.2.1,())).bind fun y1=>bif decide (y1.1.1≥0) then ((idx x.1 y1.1.1).bind fun y2=>bif y2.2.2.1==1 then (some ((true,()),())) else ((idx x.1 y1.1.1).bind fun y3=>some ((y3.2.2.1==2,()),()))) else (some ((false,()),()))
noncomputable def f (K:Nat) (x:Args ps):Option Res:=pre K x
noncomputable def c (K:Nat):Ctr:=⟨211,ps,rs,true,f K⟩
noncomputable def G (K:Nat):List Ctr:=[Q68.c K]
noncomputable def L:List (Nat×List (Nat×List Coe)):=[]
end Q85
namespace Q86
@[reducible] def ps:List PK:=[.rd t75]
@[reducible] def rs:List RK:=[.v t75,.v (.list true 53 t25)]
abbrev Res:=Ress rs×Outs ps
abbrev A_l0:=List (Ty.den t25)×Int×Int×Bool×Bool×Int×Int×Int×Int×List (Ty.den t2)×List (Ty.den t3)×Int×Int×Int×Bool×List (Ty.den t15)×Int×Int×Int×Int×List (Ty.den t17)×List (Ty.den t18)
noncomputable def l0.step (K:Nat) (x:Args ps) (rec_l0:A_l0→Option Res) (a:A_l0):Option Res:=bif decide (a.2.1<(List.length a.2.2.2.2.2.2.2.2.2.1:Int)) then ((idx a.2.2.2.2.2.2.2.2.2.1 a.2.1).bind fun y2=>bif y2.1 != a.2.2.1 then ((idx a.2.2.2.2.2.2.2.2.2.1 a.2.1).bind fun y3=>(Q85.f K (a.2.2.2.2.2.2.2.2.2.1,y3.1,())).bind fun y4=>bif y4.1.1 then ((idx a.2.2.2.2.2.2.2.2.2.1 a.2.1).bind fun y5=>(Q80.f K ((a.2.2.1,(a.2.2.2.1,(true,(a.2.2.2.2.1,(a.2.2.2.2.2.1,(a.2.2.2.2.2.2.1,(a.2.2.2.2.2.2.2.1,(a.2.2.2.2.2.2.2.2.1,(a.2.2.2.2.2.2.2.2.2.1,(a.2.2.2.2.2.2.2.2.2.2.1,((a.2.2.2.2.2.2.2.2.2.2.2.1,(a.2.2.2.2.2.2.2.2.2.2.2.2.1,(a.2.2.2.2.2.2.2.2.2.2.2.2.2.1,a.2.2.2.2.2.2.2.2.2.2.2.2.2.2.1))),(a.2.2.2.2.2.2.2.2.2.2.2.2.2.2.2.1,((a.2.2.2.2.2.2.2.2.2.2.2.2.2.2.2.2.1,(a.2.2.2.2.2.2.2.2.2.2.2.2.2.2.2.2.2.1,(a.2.2.2.2.2.2.2.2.2.2.2.2.2.2.2.2.2.2.1,a.2.2.2.2.2.2.2.2.2.2.2.2.2.2.2.2.2.2.2.1))),a.2.2.2.2.2.2.2.2.2.2.2.2.2.2.2.2.2.2.2.2))))))))))))),5,y5.1,0,a.2.2.1,a.2.2.2.2.2.2.2.2.2.1,())).bind fun y6=>bif decide ((List.length a.1+List.length ([y6.1.1]))*104≤sizeK) then (rec_l0 (a.1++([y6.1.1]),wr .i64 (a.2.1+1),a.2.2.1,a.2.2.2.1,a.2.2.2.2.1,a.2.2.2.2.2.1,a.2.2.2.2.2.2.1,a.2.2.2.2.2.2.2.1,a.2.2.2.2.2.2.2.2.1,a.2.2.2.2.2.2.2.2.2.1,a.2.2.2.2.2.2.2.2.2.2.1,a.2.2.2.2.2.2.2.2.2.2.2.1,a.2.2.2.2.2.2.2.2.2.2.2.2.1,a.2.2.2.2.2.2.2.2.2.2.2.2.2.1,a.2.2.2.2.2.2.2.2.2.2.2.2.2.2.1,a.2.2.2.2.2.2.2.2.2.2.2.2.2.2.2.1,a.2.2.2.2.2.2.2.2.2.2.2.2.2.2.2.2.1,a.2.2.2.2.2.2.2.2.2.2.2.2.2.2.2.2.2.1,a.2.2.2.2.2.2.2.2.2.2.2.2.2.2.2.2.2.2.1,a.2.2.2.2.2.2.2.2.2.2.2.2.2.2.2.2.2.2.2.1,a.2.2.2.2.2.2.2.2.2.2.2.2.2.2.2.2.2.2.2.2.1,a.2.2.2.2.2.2.2.2.2.2.2.2.2.2.2.2.2.2.2.2.2)) else none) else (rec_l0 (a.1,wr .i64 (a.2.1+1),a.2.2.1,a.2.2.2.1,a.2.2.2.2.1,a.2.2.2.2.2.1,a.2.2.2.2.2.2.1,a.2.2.2.2.2.2.2.1,a.2.2.2.2.2.2.2.2.1,a.2.2.2.2.2.2.2.2.2.1,a.2.2.2.2.2.2.2.2.2.2.1,a.2.2.2.2.2.2.2.2.2.2.2.1,a.2.2.2.2.2.2.2.2.2.2.2.2.1,a.2.2.2.2.2.2.2.2.2.2.2.2.2.1,a.2.2.2.2.2.2.2.2.2.2.2.2.2.2.1,a.2.2.2.2.2.2.2.2.2.2.2.2.2.2.2.1,a.2.2.2.2.2.2.2.2.2.2.2.2.2.2.2.2.1,a.2.2.2.2.2.2.2.2.2.2.2.2.2.2.2.2.2.1,a.2.2.2.2.2.2.2.2.2.2.2.2.2.2.2.2.2.2.1,a.2.2.2.2.2.2.2.2.2.2.2.2.2.2.2.2.2.2.2.1,a.2.2.2.2.2.2.2.2.2.2.2.2.2.2.2.2.2.2.2.2.1,a.2.2.2.2.2.2.2.2.2.2.2.2.2.2.2.2.2.2.2.2.2))) else (rec_l0 (a.1,wr .i64 (a.2.1+1),a.2.2.1,a.2.2.2.1,a.2.2.2.2.1,a.2.2.2.2.2.1,a.2.2.2.2.2.2.1,a.2.2.2.2.2.2.2.1,a.2.2.2.2.2.2.2.2.1,a.2.2.2.2.2.2.2.2.2.1,a.2.2.2.2.2.2.2.2.2.2.1,a.2.2.2.2.2.2.2.2.2.2.2.1,a.2.2.2.2.2.2.2.2.2.2.2.2.1,a.2.2.2.2.2.2.2.2.2.2.2.2.2.1,a.2.2.2.2.2.2.2.2.2.2.2.2.2.2.1,a.2.2.2.2.2.2.2.2.2.2.2.2.2.2.2.1,a.2.2.2.2.2.2.2.2.2.2.2.2.2.2.2.2.1,a.2.2.2.2.2.2.2.2.2.2.2.2.2.2.2.2.2.1,a.2.2.2.2.2.2.2.2.2.2.2.2.2.2.2.2.2.2.1,a.2.2.2.2.2.2.2.2.2.2.2.2.2.2.2.2.2.2.2.1,a.2.2.2.2.2.2.2.2.2.2.2.2.2.2.2.2.2.2.2.2.1,a.2.2.2.2.2.2.2.2.2.2.2.2.2.2.2.2.2.2.2.2.2))) else (some (((a.2.2.1,(a.2.2.2.1,(true,(a.2.2.2.2.1,(a.2.2.2.2.2.1,(a.2.2.2.2.2.2.1,(a.2.2.2.2.2.2.2.1,(a.2.2.2.2.2.2.2.2.1,(a.2.2.2.2.2.2.2.2.2.1,(a.2.2.2.2.2.2.2.2.2.2.1,((a.2.2.2.2.2.2.2.2.2.2.2.1,(a.2.2.2.2.2.2.2.2.2.2.2.2.1,(a.2.2.2.2.2.2.2.2.2.2.2.2.2.1,a.2.2.2.2.2.2.2.2.2.2.2.2.2.2.1))),(a.2.2.2.2.2.2.2.2.2.2.2.2.2.2.2.1,((a.2.2.2.2.2.2.2.2.2.2.2.2.2.2.2.2.1,(a.2.2.2.2.2.2.2.2.2.2.2.2.2.2.2.2.2.1,(a.2.2.2.2.2.2.2.2.2.2.2.2.2.2.2.2.2.2.1,a.2.2.2.2.2.2.2.2.2.2.2.2.2.2.2.2.2.2.2.1))),a.2.2.2.2.2.2.2.2.2.2.2.2.2.2.2.2.2.2.2.2))))))))))))),a.1,()),()))
noncomputable def l0 (K:Nat) (x:Args ps):A_l0→Option Res:=iterate (fun rec_l0 a=>l0.step K x rec_l0 a) K
noncomputable def pre (K:Nat) (N_l0:A_l0→Option Res) (x:Args ps):Option Res:=bif !x.1.2.1 then (some ((x.1,[],()),())) else (bif x.1.2.2.1 then (some ((x.1,[],()),())) else ((Q84.f K (x.1,(x.1.1,(x.1.2.2.2.2.1,(4,x.1.2.2.2.1))),x.1.1,())).bind fun y1=>N_l0 ([],0,y1.1.1.1,y1.1.1.2.1,y1.1.1.2.2.2.1,y1.1.1.2.2.2.2.1,y1.1.1.2.2.2.2.2.1,y1.1.1.2.2.2.2.2.2.1,y1.1.1.2.2.2.2.2.2.2.1,y1.1.1.2.2.2.2.2.2.2.2.1,y1.1.1.2.2.2.2.2.2.2.2.2.1,y1.1.1.2.2.2.2.2.2.2.2.2.2.1.1,y1.1.1.2.2.2.2.2.2.2.2.2.2.1.2.1,y1.1.1.2.2.2.2.2.2.2.2.2.2.1.2.2.1,y1.1.1.2.2.2.2.2.2.2.2.2.2.1.2.2.2,y1.1.1.2.2.2.2.2.2.2.2.2.2.2.1,y1.1.1.2.2.2.2.2.2.2.2.2.2.2.2.1.1,y1.1.1.2.2.2.2.2.2.2.2.2.2.2.2.1.2.1,y1.1.1.2.2.2.2.2.2.2.2.2.2.2.2.1.2.2.1,y1.1.1.2.2.2.2.2.2.2.2.2.2.2.2.1.2.2.2,y1.1.1.2.2.2.2.2.2.2.2.2.2.2.2.2.1,y1.1.1.2.2.2.2.2.2.2.2.2.2.2.2.2.2)))
noncomputable def f (K:Nat) (x:Args ps):Option Res:=pre K (l0 K x) x
noncomputable def c (K:Nat):Ctr:=⟨144,ps,rs,false,f K⟩
noncomputable def G (K:Nat):List Ctr:=[Q80.c K,Q84.c K,Q85.c K]
noncomputable def live_l0:List (Nat×List Coe):=[(1,[.keep]),(2,[.keep]),(4,[.own false 53 t25]),(5,[.keep]),(100001,[.keep,.keep,.keep,.keep,.keep,.keep,.keep,.keep,.ro true 132 t2,.ro true 173 t3,.keep,.keep,.keep,.keep,.ro true 177 t15,.keep,.keep,.keep,.keep,.ro true 94 t17,.ro true 119 t18]),(100002,[.keep,.keep,.keep,.keep,.keep,.keep,.keep,.keep,.keep,.keep,.keep,.keep,.keep,.keep,.keep,.keep,.keep,.keep,.keep,.keep,.keep])]
noncomputable def L:List (Nat×List (Nat×List Coe)):=[(8,live_l0)]
noncomputable def body:Code:=bodyOf Tryz.f144
noncomputable abbrev ev (K:Nat):Code→St→(Ex→St→Option Res)→Option Res:=evK (G K) T_S L K
noncomputable abbrev fin:Ex→St→Option Res:=finK T_S ps rs false Tryz.f144.results.toList
noncomputable def S_l0 (x:Args ps) (a:A_l0):St:=mkSt [(1,⟨0,.one,[.bp 100001 0]⟩),(2,⟨0,.one,[.bp 100002 0]⟩),(4,⟨0,.one,[.own false none 53 t25 a.1]⟩),(5,⟨0,.one,[.int .i64 a.2.1]⟩),(100001,⟨0,.agg,[.int .i64 a.2.2.1,.bool a.2.2.2.1,.bool true,.bool a.2.2.2.2.1,.int .i64 a.2.2.2.2.2.1,.int .i64 a.2.2.2.2.2.2.1,.int .i64 a.2.2.2.2.2.2.2.1,.int .i64 a.2.2.2.2.2.2.2.2.1,.ro true 132 t2 a.2.2.2.2.2.2.2.2.2.1,.ro true 173 t3 a.2.2.2.2.2.2.2.2.2.2.1,.int .i64 a.2.2.2.2.2.2.2.2.2.2.2.1,.int .i64 a.2.2.2.2.2.2.2.2.2.2.2.2.1,.int .i64 a.2.2.2.2.2.2.2.2.2.2.2.2.2.1,.bool a.2.2.2.2.2.2.2.2.2.2.2.2.2.2.1,.ro true 177 t15 a.2.2.2.2.2.2.2.2.2.2.2.2.2.2.2.1,.int .i64 a.2.2.2.2.2.2.2.2.2.2.2.2.2.2.2.2.1,.int .i64 a.2.2.2.2.2.2.2.2.2.2.2.2.2.2.2.2.2.1,.int .i64 a.2.2.2.2.2.2.2.2.2.2.2.2.2.2.2.2.2.2.1,.int .i64 a.2.2.2.2.2.2.2.2.2.2.2.2.2.2.2.2.2.2.2.1,.ro true 94 t17 a.2.2.2.2.2.2.2.2.2.2.2.2.2.2.2.2.2.2.2.2.1,.ro true 119 t18 a.2.2.2.2.2.2.2.2.2.2.2.2.2.2.2.2.2.2.2.2.2]⟩),(100002,⟨0,.agg,[.int .i64 0,.bool false,.bool false,.bool false,.int .i64 0,.int .i64 0,.int .i64 0,.int .i64 0,.nil,.nil,.int .i64 0,.int .i64 0,.int .i64 0,.bool false,.nil,.int .i64 0,.int .i64 0,.int .i64 0,.int .i64 0,.nil,.nil]⟩)]
noncomputable def k_l0 (K:Nat) (x:Args ps):Ex→St→Option Res:=kAt (ev K) body [1,1,1,1,1,0,1,0] fin
noncomputable def N_l0 (K:Nat) (x:Args ps):A_l0→Option Res:=fun a=>evLoop live_l0 (ev K (sub body [1,1,1,1,1,0,1,0,0])) K (S_l0 x a) (k_l0 K x)
end Q86
namespace Q87
@[reducible] def ps:List PK:=[.rd t75]
@[reducible] def rs:List RK:=[.v t89,.v (.list true 53 t25)]
abbrev Res:=Ress rs×Outs ps
noncomputable def pre (K:Nat) (x:Args ps):Option Res:=(Q78.f K (x.1,())).bind fun y1=>bif !y1.1.1 then (some (((0,(false,(false,(false,(0,(0,(0,(0,([],([],((0,(0,(0,false))),([],((0,(0,(0,0))),([],[])))))))))))))),[],()),())) else ((Q79.f K (x.1,())).bind fun y2=>(Q86.f K (y2.1.1,())).bind fun y3=>(Q79.f K (y3.1.1,())).bind fun y4=>some ((y4.1.1,y3.1.2.1,()),()))
noncomputable def f (K:Nat) (x:Args ps):Option Res:=pre K x
noncomputable def c (K:Nat):Ctr:=⟨53,ps,rs,true,f K⟩
noncomputable def G (K:Nat):List Ctr:=[Q78.c K,Q79.c K,Q86.c K]
noncomputable def L:List (Nat×List (Nat×List Coe)):=[]
end Q87
namespace Q88
@[reducible] def ps:List PK:=[.rd (.int .i64),.rd (.int .i64),.rd (.int .i64)]
@[reducible] def rs:List RK:=[.v .bool]
abbrev Res:=Ress rs×Outs ps
noncomputable def pre (K:Nat) (x:Args ps):Option Res:=bif decide (x.1≥x.2.1) then (some ((decide (x.1≤x.2.2.1),()),())) else (some ((false,()),()))
noncomputable def f (K:Nat) (x:Args ps):Option Res:=pre K x
noncomputable def c (K:Nat):Ctr:=⟨111,ps,rs,true,f K⟩
noncomputable def G (K:Nat):List Ctr:=[]
noncomputable def L:List (Nat×List (Nat×List Coe)):=[]
end Q88
namespace Q89
@[reducible] def ps:List PK:=[.rd (.int .i64)]
@[reducible] def rs:List RK:=[.v .bool]
abbrev Res:=Ress rs×Outs ps
noncomputable def pre (K:Nat) (x:Args ps):Option Res:=(Q88.f K (x.1,0,7,())).bind fun y1=>some ((y1.1.1,()),())
noncomputable def f (K:Nat) (x:Args ps):Option Res:=pre K x
noncomputable def c (K:Nat):Ctr:=⟨116,ps,rs,true,f K⟩
noncomputable def G (K:Nat):List Ctr:=[Q88.c K]
noncomputable def L:List (Nat×List (Nat×List Coe)):=[]
end Q89
namespace Q90
@[reducible] def ps:List PK:=[.rd t75]
@[reducible] def rs:List RK:=[.v .bool]
abbrev Res:=Ress rs×Outs ps
noncomputable def pre (K:Nat) (x:Args ps):Option Res:=bif !x.1.2.2.1 then (bif x.1.2.2.2.2.1==0 then (bif x.1.2.2.2.2.2.1==0 then (bif x.1.2.2.2.2.2.2.1==0 then (bif x.1.2.2.2.2.2.2.2.1==0 then (bif (wr .i64 ((wr .i64 ((wr .i64 ((wr .i64 ((List.length x.1.2.2.2.2.2.2.2.2.1:Int)+(List.length x.1.2.2.2.2.2.2.2.2.2.1:Int)))+(List.length x.1.2.2.2.2.2.2.2.2.2.2.2.1:Int)))+(List.length x.1.2.2.2.2.2.2.2.2.2.2.2.2.2.1:Int)))+(List.length x.1.2.2.2.2.2.2.2.2.2.2.2.2.2.2:Int)))==0 then (bif Ty.eqv t2 x.1.2.2.2.2.2.2.2.2.2.2.1 (0,(0,(0,false))) then (some ((Ty.eqv t9 x.1.2.2.2.2.2.2.2.2.2.2.2.2.1 (0,(0,(0,0))),()),())) else (some ((false,()),()))) else (some ((false,()),()))) else (some ((false,()),()))) else (some ((false,()),()))) else (some ((false,()),()))) else (some ((false,()),()))) else (some ((false,()),()))
noncomputable def f (K:Nat) (x:Args ps):Option Res:=pre K x
noncomputable def c (K:Nat):Ctr:=⟨170,ps,rs,true,f K⟩
noncomputable def G (K:Nat):List Ctr:=[]
noncomputable def L:List (Nat×List (Nat×List Coe)):=[]
end Q90
namespace Q91
@[reducible] def ps:List PK:=[.rd (.list false 132 t2),.fn [t2] .bool]
@[reducible] def rs:List RK:=[.v (.int .i64)]
abbrev Res:=Ress rs×Outs ps
abbrev A_l0:=Int
noncomputable def l0.step (K:Nat) (x:Args ps) (rec_l0:A_l0→Option Res) (a:A_l0):Option Res:=bif decide (a<(List.length x.1:Int)) then ((idx x.1 a).bind fun y1=>(x.2.1 (y1,())).bind fun y2=>bif y2 then (some ((a,()),())) else (rec_l0 (wr .i64 (a+1)))) else (some (((-1),()),()))
noncomputable def l0 (K:Nat) (x:Args ps):A_l0→Option Res:=iterate (fun rec_l0 a=>l0.step K x rec_l0 a) K
noncomputable def pre (K:Nat) (N_l0:A_l0→Option Res) (x:Args ps):Option Res:=N_l0 0
noncomputable def f (K:Nat) (x:Args ps):Option Res:=pre K (l0 K x) x
noncomputable def c (K:Nat):Ctr:=⟨206,ps,rs,true,f K⟩
noncomputable def G (K:Nat):List Ctr:=[]
noncomputable def live_l0:List (Nat×List Coe):=[(0,[.ro true 132 t2]),(1,[.keep]),(7,[.keep]),(8,[.keep])]
noncomputable def L:List (Nat×List (Nat×List Coe)):=[(3,live_l0)]
noncomputable def body:Code:=bodyOf Tryz.f206
noncomputable abbrev ev (K:Nat):Code→St→(Ex→St→Option Res)→Option Res:=evK (G K) T_D L K
noncomputable abbrev fin:Ex→St→Option Res:=finK T_D ps rs true Tryz.f206.results.toList
noncomputable def S_l0 (x:Args ps) (a:A_l0):St:=mkSt [(0,⟨0,.one,[.ro true 132 t2 x.1]⟩),(1,⟨0,.one,[.fn [t2] .bool x.2.1]⟩),(7,⟨0,.one,[.int .i64 (List.length x.1:Int)]⟩),(8,⟨0,.one,[.int .i64 a]⟩)]
noncomputable def k_l0 (K:Nat) (x:Args ps):Ex→St→Option Res:=kAt (ev K) body [1,0,1,0] fin
noncomputable def N_l0 (K:Nat) (x:Args ps):A_l0→Option Res:=fun a=>evLoop live_l0 (ev K (sub body [1,0,1,0,0])) K (S_l0 x a) (k_l0 K x)
end Q91
namespace Q92
@[reducible] def ps:List PK:=[.rd (.list false 132 t2),.fn [t2] .bool]
@[reducible] def rs:List RK:=[.v .bool]
abbrev Res:=Ress rs×Outs ps
noncomputable def pre (K:Nat) (x:Args ps):Option Res:=(Q91.f K (x.1,x.2.1,())).bind fun y1=>some ((decide (y1.1.1≥0),()),())
noncomputable def f (K:Nat) (x:Args ps):Option Res:=pre K x
noncomputable def c (K:Nat):Ctr:=⟨141,ps,rs,true,f K⟩
noncomputable def G (K:Nat):List Ctr:=[Q91.c K]
noncomputable def L:List (Nat×List (Nat×List Coe)):=[]
end Q92
namespace Q93
@[reducible] def ps:List PK:=[.rd (.int .i64)]
@[reducible] def rs:List RK:=[.v (.int .i64)]
abbrev Res:=Ress rs×Outs ps
noncomputable def pre (K:Nat) (x:Args ps):Option Res:=some ((wr .i64 (Int.tdiv x.1 4),()),())
noncomputable def f (K:Nat) (x:Args ps):Option Res:=pre K x
noncomputable def c (K:Nat):Ctr:=⟨91,ps,rs,true,f K⟩
noncomputable def G (K:Nat):List Ctr:=[]
noncomputable def L:List (Nat×List (Nat×List Coe)):=[]
end Q93
namespace Q94
@[reducible] def ps:List PK:=[.rd t2,.rref (.int .i64)]
@[reducible] def rs:List RK:=[.v .bool]
abbrev Res:=Ress rs×Outs ps
noncomputable def pre (K:Nat) (x:Args ps):Option Res:=(Q93.f K (x.1.1,())).bind fun y1=>some ((y1.1.1 != x.2.1,()),())
noncomputable def f (K:Nat) (x:Args ps):Option Res:=pre K x
noncomputable def c (K:Nat):Ctr:=⟨183,ps,rs,true,f K⟩
noncomputable def G (K:Nat):List Ctr:=[Q93.c K]
noncomputable def L:List (Nat×List (Nat×List Coe)):=[]
end Q94
namespace Q95
@[reducible] def ps:List PK:=[.rd (.list false 132 t2),.rd (.int .i64)]
@[reducible] def rs:List RK:=[.v .bool]
abbrev Res:=Ress rs×Outs ps
noncomputable def pre (K:Nat) (x:Args ps):Option Res:=(Q92.f K (x.1,fun y1=>(Q94.f K (y1.1,x.2.1,())).map fun y=>y.1.1,())).bind fun y2=>some ((!y2.1.1,()),())
noncomputable def f (K:Nat) (x:Args ps):Option Res:=pre K x
noncomputable def c (K:Nat):Ctr:=⟨89,ps,rs,true,f K⟩
noncomputable def G (K:Nat):List Ctr:=[Q92.c K,Q94.c K]
noncomputable def L:List (Nat×List (Nat×List Coe)):=[]
end Q95
namespace Q96
@[reducible] def ps:List PK:=[.rd t75]
@[reducible] def rs:List RK:=[.v (.int .i64)]
abbrev Res:=Ress rs×Outs ps
noncomputable def pre (K:Nat) (x:Args ps):Option Res:=(Q93.f K (x.1.1,())).bind fun y1=>some ((y1.1.1,()),())
noncomputable def f (K:Nat) (x:Args ps):Option Res:=pre K x
noncomputable def c (K:Nat):Ctr:=⟨90,ps,rs,true,f K⟩
noncomputable def G (K:Nat):List Ctr:=[Q93.c K]
noncomputable def L:List (Nat×List (Nat×List Coe)):=[]
end Q96
namespace Q97
@[reducible] def ps:List PK:=[.rd t2]
@[reducible] def rs:List RK:=[.v .bool]
abbrev Res:=Ress rs×Outs ps
noncomputable def pre (K:Nat) (x:Args ps):Option Res:=(Q89.f K (x.1.1,())).bind fun y1=>bif y1.1.1 then ((Q88.f K (x.1.2.1,0,999,())).bind fun y2=>bif y2.1.1 then ((Q88.f K (x.1.2.2.1,1,4,())).bind fun y3=>some ((y3.1.1,()),())) else (some ((false,()),()))) else (some ((false,()),()))
noncomputable def f (K:Nat) (x:Args ps):Option Res:=pre K x
noncomputable def c (K:Nat):Ctr:=⟨112,ps,rs,true,f K⟩
noncomputable def G (K:Nat):List Ctr:=[Q88.c K,Q89.c K]
noncomputable def L:List (Nat×List (Nat×List Coe)):=[]
end Q97
namespace Q98
@[reducible] def ps:List PK:=[.rd (.list false 132 t2)]
@[reducible] def rs:List RK:=[.v .bool]
abbrev Res:=Ress rs×Outs ps
abbrev A_l0:=Int
noncomputable def l0.step (K:Nat) (x:Args ps) (rec_l0:A_l0→Option Res) (a:A_l0):Option Res:=bif decide (a<(List.length x.1:Int)) then ((idx x.1 a).bind fun y1=>(Q97.f K (y1,())).bind fun y2=>bif !y2.1.1 then (some ((false,()),())) else (bif decide (a>0) then ((idx x.1 (wr .i64 (a-1))).bind fun y3=>bif decide (y1.1≤y3.1) then (some ((false,()),())) else (rec_l0 (wr .i64 (a+1)))) else (rec_l0 (wr .i64 (a+1))))) else (some ((true,()),()))
noncomputable def l0 (K:Nat) (x:Args ps):A_l0→Option Res:=iterate (fun rec_l0 a=>l0.step K x rec_l0 a) K
noncomputable def pre (K:Nat) (N_l0:A_l0→Option Res) (x:Args ps):Option Res:=N_l0 0
noncomputable def f (K:Nat) (x:Args ps):Option Res:=pre K (l0 K x) x
noncomputable def c (K:Nat):Ctr:=⟨182,ps,rs,true,f K⟩
noncomputable def G (K:Nat):List Ctr:=[Q97.c K]
noncomputable def live_l0:List (Nat×List Coe):=[(0,[.ro true 132 t2]),(5,[.ro true 132 t2]),(6,[.keep]),(7,[.keep])]
noncomputable def L:List (Nat×List (Nat×List Coe)):=[(3,live_l0)]
noncomputable def body:Code:=bodyOf Tryz.f182
noncomputable abbrev ev (K:Nat):Code→St→(Ex→St→Option Res)→Option Res:=evK (G K) T_D L K
noncomputable abbrev fin:Ex→St→Option Res:=finK T_D ps rs true Tryz.f182.results.toList
noncomputable def S_l0 (x:Args ps) (a:A_l0):St:=mkSt [(0,⟨0,.one,[.ro true 132 t2 x.1]⟩),(5,⟨0,.one,[.ro true 132 t2 x.1]⟩),(6,⟨0,.one,[.int .i64 (List.length x.1:Int)]⟩),(7,⟨0,.one,[.int .i64 a]⟩)]
noncomputable def k_l0 (K:Nat) (x:Args ps):Ex→St→Option Res:=kAt (ev K) body [1,0,1,0] fin
noncomputable def N_l0 (K:Nat) (x:Args ps):A_l0→Option Res:=fun a=>evLoop live_l0 (ev K (sub body [1,0,1,0,0])) K (S_l0 x a) (k_l0 K x)
end Q98
namespace Q99
@[reducible] def ps:List PK:=[.rd (.list false 132 t2),.rd (.int .i64),.fn [t2,(.int .i64)] (.int .i64)]
@[reducible] def rs:List RK:=[.v (.int .i64),.v .bool]
abbrev Res:=Ress rs×Outs ps
abbrev A_l0:=Int×Int
noncomputable def l0.step (K:Nat) (x:Args ps) (rec_l0:A_l0→Option Res) (a:A_l0):Option Res:=bif decide (a.1<a.2) then ((idx x.1 (wr .i64 (Int.fdiv (wr .u64 (wr .i64 (a.1+a.2))) (2 ^ 1)))).bind fun y1=>(x.2.2.1 (y1,x.2.1,())).bind fun y2=>bif decide (y2<0) then (rec_l0 (wr .i64 ((wr .i64 (Int.fdiv (wr .u64 (wr .i64 (a.1+a.2))) (2 ^ 1)))+1),a.2)) else (rec_l0 (a.1,wr .i64 (Int.fdiv (wr .u64 (wr .i64 (a.1+a.2))) (2 ^ 1))))) else (bif decide (a.1<(List.length x.1:Int)) then ((idx x.1 a.1).bind fun y3=>(x.2.2.1 (y3,x.2.1,())).bind fun y4=>some ((a.1,y4==0,()),())) else (some ((a.1,false,()),())))
noncomputable def l0 (K:Nat) (x:Args ps):A_l0→Option Res:=iterate (fun rec_l0 a=>l0.step K x rec_l0 a) K
noncomputable def pre (K:Nat) (N_l0:A_l0→Option Res) (x:Args ps):Option Res:=N_l0 (0,(List.length x.1:Int))
noncomputable def f (K:Nat) (x:Args ps):Option Res:=pre K (l0 K x) x
noncomputable def c (K:Nat):Ctr:=⟨293,ps,rs,true,f K⟩
noncomputable def G (K:Nat):List Ctr:=[]
noncomputable def live_l0:List (Nat×List Coe):=[(0,[.ro true 132 t2]),(1,[.keep]),(2,[.keep]),(8,[.keep]),(9,[.keep]),(10,[.keep])]
noncomputable def L:List (Nat×List (Nat×List Coe)):=[(4,live_l0)]
noncomputable def body:Code:=bodyOf Tryz.f293
noncomputable abbrev ev (K:Nat):Code→St→(Ex→St→Option Res)→Option Res:=evK (G K) T_D L K
noncomputable abbrev fin:Ex→St→Option Res:=finK T_D ps rs true Tryz.f293.results.toList
noncomputable def S_l0 (x:Args ps) (a:A_l0):St:=mkSt [(0,⟨0,.one,[.ro true 132 t2 x.1]⟩),(1,⟨0,.one,[.int .i64 x.2.1]⟩),(2,⟨0,.one,[.fn [t2,(.int .i64)] (.int .i64) x.2.2.1]⟩),(8,⟨0,.one,[.int .i64 (List.length x.1:Int)]⟩),(9,⟨0,.one,[.int .i64 a.1]⟩),(10,⟨0,.one,[.int .i64 a.2]⟩)]
noncomputable def k_l0 (K:Nat) (x:Args ps):Ex→St→Option Res:=kAt (ev K) body [1,1,1,0,0] fin
noncomputable def N_l0 (K:Nat) (x:Args ps):A_l0→Option Res:=fun a=>evLoop live_l0 (ev K (sub body [1,1,1,0,0,0])) K (S_l0 x a) (k_l0 K x)
end Q99
namespace Q100
@[reducible] def ps:List PK:=[.rd (.int .i64)]
@[reducible] def rs:List RK:=[.v .bool]
abbrev Res:=Ress rs×Outs ps
noncomputable def pre (K:Nat) (x:Args ps):Option Res:=some ((x.1 != x.1,()),())
noncomputable def f (K:Nat) (x:Args ps):Option Res:=pre K x
noncomputable def c (K:Nat):Ctr:=⟨193,ps,rs,true,f K⟩
noncomputable def G (K:Nat):List Ctr:=[]
noncomputable def L:List (Nat×List (Nat×List Coe)):=[]
end Q100
namespace Q101
@[reducible] def ps:List PK:=[.rd (.int .i64),.rd (.int .i64)]
@[reducible] def rs:List RK:=[.v (.int .i64)]
abbrev Res:=Ress rs×Outs ps
noncomputable def pre (K:Nat) (x:Args ps):Option Res:=(Q100.f K (x.1,())).bind fun y1=>(Q100.f K (x.2.1,())).bind fun y2=>bif y1.1.1 then (bif y2.1.1 then (some ((0,()),())) else (some (((-1),()),()))) else (bif y2.1.1 then (some ((1,()),())) else (bif decide (x.1<x.2.1) then (some (((-1),()),())) else (bif decide (x.1>x.2.1) then (some ((1,()),())) else (some ((0,()),())))))
noncomputable def f (K:Nat) (x:Args ps):Option Res:=pre K x
noncomputable def c (K:Nat):Ctr:=⟨123,ps,rs,true,f K⟩
noncomputable def G (K:Nat):List Ctr:=[Q100.c K]
noncomputable def L:List (Nat×List (Nat×List Coe)):=[]
end Q101
namespace Q102
@[reducible] def ps:List PK:=[.rd t2,.rd (.int .i64)]
@[reducible] def rs:List RK:=[.v (.int .i64)]
abbrev Res:=Ress rs×Outs ps
noncomputable def pre (K:Nat) (x:Args ps):Option Res:=(Q101.f K (x.1.1,x.2.1,())).bind fun y1=>some ((y1.1.1,()),())
noncomputable def f (K:Nat) (x:Args ps):Option Res:=pre K x
noncomputable def c (K:Nat):Ctr:=⟨294,ps,rs,true,f K⟩
noncomputable def G (K:Nat):List Ctr:=[Q101.c K]
noncomputable def L:List (Nat×List (Nat×List Coe)):=[]
end Q102
namespace Q103
@[reducible] def ps:List PK:=[.rd (.list false 132 t2),.rd (.int .i64)]
@[reducible] def rs:List RK:=[.v (.int .i64),.v .bool]
abbrev Res:=Ress rs×Outs ps
noncomputable def pre (K:Nat) (x:Args ps):Option Res:=(Q99.f K (x.1,x.2.1,fun y1=>(Q102.f K (y1.1,y1.2.1,())).map fun y=>y.1.1,())).bind fun y2=>some ((y2.1.1,y2.1.2.1,()),())
noncomputable def f (K:Nat) (x:Args ps):Option Res:=pre K x
noncomputable def c (K:Nat):Ctr:=⟨243,ps,rs,true,f K⟩
noncomputable def G (K:Nat):List Ctr:=[Q99.c K,Q102.c K]
noncomputable def L:List (Nat×List (Nat×List Coe)):=[]
end Q103
namespace Q104
@[reducible] def ps:List PK:=[.rd (.list false 132 t2),.rd (.int .i64)]
@[reducible] def rs:List RK:=[.v t2,.v .bool]
abbrev Res:=Ress rs×Outs ps
noncomputable def pre (K:Nat) (x:Args ps):Option Res:=(Q98.f K (x.1,())).bind fun y1=>bif !y1.1.1 then (some (((0,(0,(0,false))),false,()),())) else ((Q103.f K (x.1,x.2.1,())).bind fun y2=>bif !y2.1.2.1 then (some (((0,(0,(0,false))),false,()),())) else ((idx x.1 y2.1.1).bind fun y3=>some ((y3,true,()),())))
noncomputable def f (K:Nat) (x:Args ps):Option Res:=pre K x
noncomputable def c (K:Nat):Ctr:=⟨194,ps,rs,true,f K⟩
noncomputable def G (K:Nat):List Ctr:=[Q98.c K,Q103.c K]
noncomputable def L:List (Nat×List (Nat×List Coe)):=[]
end Q104
namespace Q105
@[reducible] def ps:List PK:=[.rd (.list false 173 t3),.fn [t3] .bool]
@[reducible] def rs:List RK:=[.v (.int .i64)]
abbrev Res:=Ress rs×Outs ps
abbrev A_l0:=Int
noncomputable def l0.step (K:Nat) (x:Args ps) (rec_l0:A_l0→Option Res) (a:A_l0):Option Res:=bif decide (a<(List.length x.1:Int)) then ((idx x.1 a).bind fun y1=>(x.2.1 (y1,())).bind fun y2=>bif y2 then (some ((a,()),())) else (rec_l0 (wr .i64 (a+1)))) else (some (((-1),()),()))
noncomputable def l0 (K:Nat) (x:Args ps):A_l0→Option Res:=iterate (fun rec_l0 a=>l0.step K x rec_l0 a) K
noncomputable def pre (K:Nat) (N_l0:A_l0→Option Res) (x:Args ps):Option Res:=N_l0 0
noncomputable def f (K:Nat) (x:Args ps):Option Res:=pre K (l0 K x) x
noncomputable def c (K:Nat):Ctr:=⟨290,ps,rs,true,f K⟩
noncomputable def G (K:Nat):List Ctr:=[]
noncomputable def live_l0:List (Nat×List Coe):=[(0,[.ro true 173 t3]),(1,[.keep]),(7,[.keep]),(8,[.keep])]
noncomputable def L:List (Nat×List (Nat×List Coe)):=[(3,live_l0)]
noncomputable def body:Code:=bodyOf Tryz.f290
noncomputable abbrev ev (K:Nat):Code→St→(Ex→St→Option Res)→Option Res:=evK (G K) T_D L K
noncomputable abbrev fin:Ex→St→Option Res:=finK T_D ps rs true Tryz.f290.results.toList
noncomputable def S_l0 (x:Args ps) (a:A_l0):St:=mkSt [(0,⟨0,.one,[.ro true 173 t3 x.1]⟩),(1,⟨0,.one,[.fn [t3] .bool x.2.1]⟩),(7,⟨0,.one,[.int .i64 (List.length x.1:Int)]⟩),(8,⟨0,.one,[.int .i64 a]⟩)]
noncomputable def k_l0 (K:Nat) (x:Args ps):Ex→St→Option Res:=kAt (ev K) body [1,0,1,0] fin
noncomputable def N_l0 (K:Nat) (x:Args ps):A_l0→Option Res:=fun a=>evLoop live_l0 (ev K (sub body [1,0,1,0,0])) K (S_l0 x a) (k_l0 K x)
end Q105
namespace Q106
@[reducible] def ps:List PK:=[.rd (.list false 173 t3),.fn [t3] .bool]
@[reducible] def rs:List RK:=[.v .bool]
abbrev Res:=Ress rs×Outs ps
noncomputable def pre (K:Nat) (x:Args ps):Option Res:=(Q105.f K (x.1,x.2.1,())).bind fun y1=>some ((decide (y1.1.1≥0),()),())
noncomputable def f (K:Nat) (x:Args ps):Option Res:=pre K x
noncomputable def c (K:Nat):Ctr:=⟨234,ps,rs,true,f K⟩
noncomputable def G (K:Nat):List Ctr:=[Q105.c K]
noncomputable def L:List (Nat×List (Nat×List Coe)):=[]
end Q106
namespace Q107
@[reducible] def ps:List PK:=[.rd t3]
@[reducible] def rs:List RK:=[.v .bool]
abbrev Res:=Ress rs×Outs ps
noncomputable def pre (K:Nat) (x:Args ps):Option Res:=(Q88.f K (x.1.2,1,4,())).bind fun y1=>some ((!y1.1.1,()),())
noncomputable def f (K:Nat) (x:Args ps):Option Res:=pre K x
noncomputable def c (K:Nat):Ctr:=⟨288,ps,rs,true,f K⟩
noncomputable def G (K:Nat):List Ctr:=[Q88.c K]
noncomputable def L:List (Nat×List (Nat×List Coe)):=[]
end Q107
namespace Q108
@[reducible] def ps:List PK:=[.rd (.list false 173 t3)]
@[reducible] def rs:List RK:=[.v (.list true 132 t2)]
abbrev Res:=Ress rs×Outs ps
abbrev A_l0:=List (Ty.den t2)×Int
noncomputable def l0.step (K:Nat) (x:Args ps) (rec_l0:A_l0→Option Res) (a:A_l0):Option Res:=bif decide (a.2<(List.length x.1:Int)) then ((idx x.1 a.2).bind fun y1=>bif decide ((List.length a.1+List.length ([y1.1]))*32≤sizeK) then (rec_l0 (a.1++([y1.1]),wr .i64 (a.2+1))) else none) else (some ((a.1,()),()))
noncomputable def l0 (K:Nat) (x:Args ps):A_l0→Option Res:=iterate (fun rec_l0 a=>l0.step K x rec_l0 a) K
noncomputable def pre (K:Nat) (N_l0:A_l0→Option Res) (x:Args ps):Option Res:=N_l0 ([],0)
noncomputable def f (K:Nat) (x:Args ps):Option Res:=pre K (l0 K x) x
noncomputable def c (K:Nat):Ctr:=⟨289,ps,rs,true,f K⟩
noncomputable def G (K:Nat):List Ctr:=[]
noncomputable def live_l0:List (Nat×List Coe):=[(3,[.own false 132 t2]),(6,[.ro true 173 t3]),(7,[.keep]),(8,[.keep])]
noncomputable def L:List (Nat×List (Nat×List Coe)):=[(4,live_l0)]
noncomputable def body:Code:=bodyOf Tryz.f289
noncomputable abbrev ev (K:Nat):Code→St→(Ex→St→Option Res)→Option Res:=evK (G K) T_D L K
noncomputable abbrev fin:Ex→St→Option Res:=finK T_D ps rs true Tryz.f289.results.toList
noncomputable def S_l0 (x:Args ps) (a:A_l0):St:=mkSt [(3,⟨0,.one,[.own false none 132 t2 a.1]⟩),(6,⟨0,.one,[.ro true 173 t3 x.1]⟩),(7,⟨0,.one,[.int .i64 (List.length x.1:Int)]⟩),(8,⟨0,.one,[.int .i64 a.2]⟩)]
noncomputable def k_l0 (K:Nat) (x:Args ps):Ex→St→Option Res:=kAt (ev K) body [1,1,0,1,0] fin
noncomputable def N_l0 (K:Nat) (x:Args ps):A_l0→Option Res:=fun a=>evLoop live_l0 (ev K (sub body [1,1,0,1,0,0])) K (S_l0 x a) (k_l0 K x)
end Q108
namespace Q109
@[reducible] def ps:List PK:=[.rd (.list false 173 t3)]
@[reducible] def rs:List RK:=[.v .bool]
abbrev Res:=Ress rs×Outs ps
noncomputable def pre (K:Nat) (x:Args ps):Option Res:=(Q108.f K (x.1,())).bind fun y1=>(Q98.f K (y1.1.1,())).bind fun y2=>bif y2.1.1 then ((Q106.f K (x.1,fun y3=>(Q107.f K (y3.1,())).map fun y=>y.1.1,())).bind fun y4=>some ((!y4.1.1,()),())) else (some ((false,()),()))
noncomputable def f (K:Nat) (x:Args ps):Option Res:=pre K x
noncomputable def c (K:Nat):Ctr:=⟨233,ps,rs,true,f K⟩
noncomputable def G (K:Nat):List Ctr:=[Q98.c K,Q106.c K,Q107.c K,Q108.c K]
noncomputable def L:List (Nat×List (Nat×List Coe)):=[]
end Q109
namespace Q110
@[reducible] def ps:List PK:=[.rd (.list false 3 (.int .i64))]
@[reducible] def rs:List RK:=[.v (.int .i64)]
abbrev Res:=Ress rs×Outs ps
abbrev A_l0:=Int
noncomputable def l0.step (K:Nat) (x:Args ps) (rec_l0:A_l0→Option Res) (a:A_l0):Option Res:=bif decide (a<(List.length x.1:Int)) then ((idx x.1 a).bind fun y1=>bif y1 != 0 then (some ((y1,()),())) else (rec_l0 (wr .i64 (a+1)))) else (some ((0,()),()))
noncomputable def l0 (K:Nat) (x:Args ps):A_l0→Option Res:=iterate (fun rec_l0 a=>l0.step K x rec_l0 a) K
noncomputable def pre (K:Nat) (N_l0:A_l0→Option Res) (x:Args ps):Option Res:=N_l0 0
noncomputable def f (K:Nat) (x:Args ps):Option Res:=pre K (l0 K x) x
noncomputable def c (K:Nat):Ctr:=⟨189,ps,rs,true,f K⟩
noncomputable def G (K:Nat):List Ctr:=[]
noncomputable def live_l0:List (Nat×List Coe):=[(3,[.keep]),(6,[.ro true 3 (.int .i64)]),(7,[.keep]),(8,[.keep])]
noncomputable def L:List (Nat×List (Nat×List Coe)):=[(4,live_l0)]
noncomputable def body:Code:=bodyOf Tryz.f189
noncomputable abbrev ev (K:Nat):Code→St→(Ex→St→Option Res)→Option Res:=evK (G K) T_D L K
noncomputable abbrev fin:Ex→St→Option Res:=finK T_D ps rs true Tryz.f189.results.toList
noncomputable def S_l0 (x:Args ps) (a:A_l0):St:=mkSt [(3,⟨0,.one,[.int .i64 0]⟩),(6,⟨0,.one,[.ro true 3 (.int .i64) x.1]⟩),(7,⟨0,.one,[.int .i64 (List.length x.1:Int)]⟩),(8,⟨0,.one,[.int .i64 a]⟩)]
noncomputable def k_l0 (K:Nat) (x:Args ps):Ex→St→Option Res:=kAt (ev K) body [1,1,0,1,0] fin
noncomputable def N_l0 (K:Nat) (x:Args ps):A_l0→Option Res:=fun a=>evLoop live_l0 (ev K (sub body [1,1,0,1,0,0])) K (S_l0 x a) (k_l0 K x)
end Q110
namespace Q111
@[reducible] def ps:List PK:=[.rd t2,.rd t2]
@[reducible] def rs:List RK:=[.v (.int .i64)]
abbrev Res:=Ress rs×Outs ps
noncomputable def pre (K:Nat) (x:Args ps):Option Res:=bif x.1.2.2.2 then (bif !x.2.1.2.2.2 then ((Q101.f K (x.1.1,x.2.1.1,())).bind fun y1=>(Q101.f K (x.1.2.1,x.2.1.2.1,())).bind fun y2=>(Q101.f K (x.1.2.2.1,x.2.1.2.2.1,())).bind fun y3=>(Q110.f K ([y1.1.1,y2.1.1,y3.1.1,1],())).bind fun y4=>some ((y4.1.1,()),())) else (bif x.2.1.2.2.2 then (bif !x.1.2.2.2 then ((Q101.f K (x.1.1,x.2.1.1,())).bind fun y5=>(Q101.f K (x.1.2.1,x.2.1.2.1,())).bind fun y6=>(Q101.f K (x.1.2.2.1,x.2.1.2.2.1,())).bind fun y7=>(Q110.f K ([y5.1.1,y6.1.1,y7.1.1,(-1)],())).bind fun y8=>some ((y8.1.1,()),())) else ((Q101.f K (x.1.1,x.2.1.1,())).bind fun y9=>(Q101.f K (x.1.2.1,x.2.1.2.1,())).bind fun y10=>(Q101.f K (x.1.2.2.1,x.2.1.2.2.1,())).bind fun y11=>(Q110.f K ([y9.1.1,y10.1.1,y11.1.1,0],())).bind fun y12=>some ((y12.1.1,()),()))) else ((Q101.f K (x.1.1,x.2.1.1,())).bind fun y13=>(Q101.f K (x.1.2.1,x.2.1.2.1,())).bind fun y14=>(Q101.f K (x.1.2.2.1,x.2.1.2.2.1,())).bind fun y15=>(Q110.f K ([y13.1.1,y14.1.1,y15.1.1,0],())).bind fun y16=>some ((y16.1.1,()),())))) else (bif x.2.1.2.2.2 then (bif !x.1.2.2.2 then ((Q101.f K (x.1.1,x.2.1.1,())).bind fun y17=>(Q101.f K (x.1.2.1,x.2.1.2.1,())).bind fun y18=>(Q101.f K (x.1.2.2.1,x.2.1.2.2.1,())).bind fun y19=>(Q110.f K ([y17.1.1,y18.1.1,y19.1.1,(-1)],())).bind fun y20=>some ((y20.1.1,()),())) else ((Q101.f K (x.1.1,x.2.1.1,())).bind fun y21=>(Q101.f K (x.1.2.1,x.2.1.2.1,())).bind fun y22=>(Q101.f K (x.1.2.2.1,x.2.1.2.2.1,())).bind fun y23=>(Q110.f K ([y21.1.1,y22.1.1,y23.1.1,0],())).bind fun y24=>some ((y24.1.1,()),()))) else ((Q101.f K (x.1.1,x.2.1.1,())).bind fun y25=>(Q101.f K (x.1.2.1,x.2.1.2.1,())).bind fun y26=>(Q101.f K (x.1.2.2.1,x.2.1.2.2.1,())).bind fun y27=>(Q110.f K ([y25.1.1,y26.1.1,y27.1.1,0],())).bind fun y28=>some ((y28.1.1,()),())))
noncomputable def f (K:Nat) (x:Args ps):Option Res:=pre K x
noncomputable def c (K:Nat):Ctr:=⟨113,ps,rs,true,f K⟩
noncomputable def G (K:Nat):List Ctr:=[Q101.c K,Q110.c K]
noncomputable def L:List (Nat×List (Nat×List Coe)):=[]
end Q111
namespace Q112
@[reducible] def ps:List PK:=[.rd t2,.rd t2]
@[reducible] def rs:List RK:=[.v .bool]
abbrev Res:=Ress rs×Outs ps
noncomputable def pre (K:Nat) (x:Args ps):Option Res:=(Q97.f K (x.1,())).bind fun y1=>bif y1.1.1 then ((Q97.f K (x.2.1,())).bind fun y2=>bif y2.1.1 then (bif x.1.1==x.2.1.1 then ((Q111.f K (x.1,x.2.1,())).bind fun y3=>some ((decide (y3.1.1>0),()),())) else (some ((false,()),()))) else (some ((false,()),()))) else (some ((false,()),()))
noncomputable def f (K:Nat) (x:Args ps):Option Res:=pre K x
noncomputable def c (K:Nat):Ctr:=⟨236,ps,rs,true,f K⟩
noncomputable def G (K:Nat):List Ctr:=[Q97.c K,Q111.c K]
noncomputable def L:List (Nat×List (Nat×List Coe)):=[]
end Q112
namespace Q113
@[reducible] def ps:List PK:=[.rd t3,.rref t75]
@[reducible] def rs:List RK:=[.v .bool]
abbrev Res:=Ress rs×Outs ps
noncomputable def pre (K:Nat) (x:Args ps):Option Res:=(Q104.f K (x.2.1.2.2.2.2.2.2.2.2.1,x.1.1.1,())).bind fun y1=>bif !y1.1.2.1 then (some ((true,()),())) else ((Q112.f K (x.1.1,y1.1.1,())).bind fun y2=>some ((y2.1.1,()),()))
noncomputable def f (K:Nat) (x:Args ps):Option Res:=pre K x
noncomputable def c (K:Nat):Ctr:=⟨235,ps,rs,true,f K⟩
noncomputable def G (K:Nat):List Ctr:=[Q104.c K,Q112.c K]
noncomputable def L:List (Nat×List (Nat×List Coe)):=[]
end Q113
namespace Q114
@[reducible] def ps:List PK:=[.rd t75]
@[reducible] def rs:List RK:=[.v .bool]
abbrev Res:=Ress rs×Outs ps
noncomputable def pre (K:Nat) (x:Args ps):Option Res:=bif x.1.2.2.1 then ((Q104.f K (x.1.2.2.2.2.2.2.2.2.1,x.1.1,())).bind fun y1=>bif !y1.1.2.1 then (some ((false,()),())) else (bif !Ty.eqv t2 y1.1.1 (x.1.1,(x.1.2.2.2.2.1,(4,x.1.2.2.2.1))) then (some ((false,()),())) else ((Q96.f K (x.1,())).bind fun y2=>(Q95.f K (x.1.2.2.2.2.2.2.2.2.1,y2.1.1,())).bind fun y3=>bif !y3.1.1 then (some ((false,()),())) else ((Q109.f K (x.1.2.2.2.2.2.2.2.2.2.1,())).bind fun y4=>bif !y4.1.1 then (some ((false,()),())) else ((Q106.f K (x.1.2.2.2.2.2.2.2.2.2.1,fun y5=>(Q113.f K (y5.1,x.1,())).map fun y=>y.1.1,())).bind fun y6=>some ((!y6.1.1,()),())))))) else ((Q104.f K (x.1.2.2.2.2.2.2.2.2.1,x.1.1,())).bind fun y7=>bif !y7.1.2.1 then (some ((false,()),())) else (bif !Ty.eqv t2 y7.1.1 (x.1.1,(x.1.2.2.2.2.1,(1,x.1.2.2.2.1))) then (some ((false,()),())) else ((Q96.f K (x.1,())).bind fun y8=>(Q95.f K (x.1.2.2.2.2.2.2.2.2.1,y8.1.1,())).bind fun y9=>bif !y9.1.1 then (some ((false,()),())) else ((Q109.f K (x.1.2.2.2.2.2.2.2.2.2.1,())).bind fun y10=>bif !y10.1.1 then (some ((false,()),())) else ((Q106.f K (x.1.2.2.2.2.2.2.2.2.2.1,fun y11=>(Q113.f K (y11.1,x.1,())).map fun y=>y.1.1,())).bind fun y12=>some ((!y12.1.1,()),()))))))
noncomputable def f (K:Nat) (x:Args ps):Option Res:=pre K x
noncomputable def c (K:Nat):Ctr:=⟨171,ps,rs,true,f K⟩
noncomputable def G (K:Nat):List Ctr:=[Q95.c K,Q96.c K,Q104.c K,Q109.c K,Q106.c K,Q113.c K]
noncomputable def L:List (Nat×List (Nat×List Coe)):=[]
end Q114
namespace Q115
@[reducible] def ps:List PK:=[.rd t75]
@[reducible] def rs:List RK:=[.v .bool]
abbrev Res:=Ress rs×Outs ps
noncomputable def pre (K:Nat) (x:Args ps):Option Res:=bif x.1.2.2.2.2.2.2.2.2.2.2.1.1==(-1) then (some ((Ty.eqv t2 x.1.2.2.2.2.2.2.2.2.2.2.1 ((-1),(0,(0,false))),()),())) else ((Q104.f K (x.1.2.2.2.2.2.2.2.2.1,x.1.2.2.2.2.2.2.2.2.2.2.1.1,())).bind fun y1=>bif y1.1.2.1 then (bif x.1.2.2.2.2.2.2.2.2.2.2.1.1 != x.1.1 then ((Q88.f K (x.1.2.2.2.2.2.2.2.2.2.2.1.2.1,0,x.1.2.2.2.2.2.1,())).bind fun y2=>bif y2.1.1 then ((Q88.f K (x.1.2.2.2.2.2.2.2.2.2.2.1.2.2.1,1,x.1.2.2.2.2.2.2.1,())).bind fun y3=>some ((y3.1.1,()),())) else (some ((false,()),()))) else (some ((false,()),()))) else (some ((false,()),())))
noncomputable def f (K:Nat) (x:Args ps):Option Res:=pre K x
noncomputable def c (K:Nat):Ctr:=⟨172,ps,rs,true,f K⟩
noncomputable def G (K:Nat):List Ctr:=[Q88.c K,Q104.c K]
noncomputable def L:List (Nat×List (Nat×List Coe)):=[]
end Q115
namespace Q116
@[reducible] def ps:List PK:=[.rd t75,.rd (.int .i64)]
@[reducible] def rs:List RK:=[.v .bool]
abbrev Res:=Ress rs×Outs ps
noncomputable def pre (K:Nat) (x:Args ps):Option Res:=(Q89.f K (x.2.1,())).bind fun y1=>bif y1.1.1 then ((Q93.f K (x.2.1,())).bind fun y2=>(Q96.f K (x.1,())).bind fun y3=>some ((y2.1.1==y3.1.1,()),())) else (some ((false,()),()))
noncomputable def f (K:Nat) (x:Args ps):Option Res:=pre K x
noncomputable def c (K:Nat):Ctr:=⟨88,ps,rs,true,f K⟩
noncomputable def G (K:Nat):List Ctr:=[Q96.c K,Q93.c K,Q89.c K]
noncomputable def L:List (Nat×List (Nat×List Coe)):=[]
end Q116
namespace Q117
@[reducible] def ps:List PK:=[.rd t75]
@[reducible] def rs:List RK:=[.v .bool]
abbrev Res:=Ress rs×Outs ps
abbrev A_l2:=List (Ty.den t2)×Int×List (Ty.den (.int .i64))×Int×Int×Int×Int×Int×List (Ty.den (.int .i64))
abbrev A_l1:=List (Ty.den t2)×Int
abbrev A_l0:=List (Ty.den t2)×Int
noncomputable def l2.step (K:Nat) (x:Args ps) (rec_l1:A_l1→Option Res) (rec_l2:A_l2→Option Res) (a:A_l2):Option Res:=bif decide (a.2.2.2.2.1<a.2.2.2.1) then ((idx a.2.2.1 a.2.2.2.2.1).bind fun y8=>(Q116.f K (x.1,y8,())).bind fun y9=>bif !y9.1.1 then (some ((false,()),())) else (bif decide (a.2.2.2.2.1>0) then ((idx a.2.2.2.2.2.2.2.2 (wr .i64 (a.2.2.2.2.1-1))).bind fun y10=>bif decide (y8≤y10) then (some ((false,()),())) else (rec_l2 (a.1,a.2.1,a.2.2.1,a.2.2.2.1,wr .i64 (a.2.2.2.2.1+1),a.2.2.2.2.2.1,a.2.2.2.2.2.2.1,a.2.2.2.2.2.2.2.1,a.2.2.2.2.2.2.2.2))) else (rec_l2 (a.1,a.2.1,a.2.2.1,a.2.2.2.1,wr .i64 (a.2.2.2.2.1+1),a.2.2.2.2.2.1,a.2.2.2.2.2.2.1,a.2.2.2.2.2.2.2.1,a.2.2.2.2.2.2.2.2)))) else (rec_l1 (a.1,wr .i64 (a.2.1+1)))
noncomputable def l2 (K:Nat) (x:Args ps) (rec_l1:A_l1→Option Res):A_l2→Option Res:=iterate (fun rec_l2 a=>l2.step K x rec_l1 rec_l2 a) K
noncomputable def l1.step (K:Nat) (x:Args ps) (N_l2:A_l2→Option Res) (rec_l1:A_l1→Option Res) (a:A_l1):Option Res:=bif decide (a.2<(List.length x.1.2.2.2.2.2.2.2.2.2.2.2.1:Int)) then ((idx x.1.2.2.2.2.2.2.2.2.2.2.2.1 a.2).bind fun y2=>(idx a.1 a.2).bind fun _=>(idx a.1 (Int.toNat a.2:Nat)).bind fun y4=>bif y2.1 != y4.1 then (some ((false,()),())) else ((idx a.1 a.2).bind fun _=>(idx a.1 (Int.toNat a.2:Nat)).bind fun y6=>bif y2.2.1 != y6.2.1 then (some ((false,()),())) else ((Q88.f K (y2.2.2.1,0,x.1.2.2.2.2.2.1,())).bind fun y7=>bif !y7.1.1 then (some ((false,()),())) else (bif (List.length y2.2.2.2:Int)==0 then (some ((false,()),())) else (N_l2 (a.1,a.2,y2.2.2.2,(List.length y2.2.2.2:Int),0,y2.1,y2.2.1,y2.2.2.1,y2.2.2.2)))))) else (some ((true,()),()))
noncomputable def l1 (K:Nat) (x:Args ps):A_l1→Option Res:=iterate (fun rec_l1 a=>l1.step K x (l2 K x rec_l1) rec_l1 a) K
noncomputable def l0.step (K:Nat) (x:Args ps) (N_l1:A_l1→Option Res) (rec_l0:A_l0→Option Res) (a:A_l0):Option Res:=bif decide (a.2<(List.length x.1.2.2.2.2.2.2.2.2.1:Int)) then ((idx x.1.2.2.2.2.2.2.2.2.1 a.2).bind fun y1=>bif y1.2.2.1==2 then (bif decide ((List.length a.1+List.length ([y1]))*32≤sizeK) then (rec_l0 (a.1++([y1]),wr .i64 (a.2+1))) else none) else (rec_l0 (a.1,wr .i64 (a.2+1)))) else (bif (List.length x.1.2.2.2.2.2.2.2.2.2.2.2.1:Int) != (List.length a.1:Int) then (some ((false,()),())) else (N_l1 (a.1,0)))
noncomputable def l0 (K:Nat) (x:Args ps):A_l0→Option Res:=iterate (fun rec_l0 a=>l0.step K x (l1 K x) rec_l0 a) K
noncomputable def pre (K:Nat) (N_l0:A_l0→Option Res) (x:Args ps):Option Res:=N_l0 ([],0)
noncomputable def f (K:Nat) (x:Args ps):Option Res:=pre K (l0 K x) x
noncomputable def c (K:Nat):Ctr:=⟨173,ps,rs,true,f K⟩
noncomputable def G (K:Nat):List Ctr:=[Q116.c K,Q88.c K]
noncomputable def live_l2:List (Nat×List Coe):=[(1,[.keep]),(3,[.own false 132 t2]),(7,[.keep]),(32,[.ro true 177 t15]),(33,[.keep]),(34,[.keep]),(72,[.ro true 3 (.int .i64)]),(73,[.keep]),(74,[.keep]),(100001,[.keep,.keep,.keep,.keep,.keep,.keep,.keep,.keep,.ro true 132 t2,.ro true 173 t3,.keep,.keep,.keep,.keep,.ro true 177 t15,.keep,.keep,.keep,.keep,.ro true 94 t17,.ro true 119 t18]),(100007,[.keep,.keep,.keep,.ro true 3 (.int .i64)])]
noncomputable def live_l1:List (Nat×List Coe):=[(1,[.keep]),(3,[.own false 132 t2]),(32,[.ro true 177 t15]),(33,[.keep]),(34,[.keep]),(100001,[.keep,.keep,.keep,.keep,.keep,.keep,.keep,.keep,.ro true 132 t2,.ro true 173 t3,.keep,.keep,.keep,.keep,.ro true 177 t15,.keep,.keep,.keep,.keep,.ro true 94 t17,.ro true 119 t18])]
noncomputable def live_l0:List (Nat×List Coe):=[(1,[.keep]),(3,[.own false 132 t2]),(11,[.ro true 132 t2]),(12,[.keep]),(13,[.keep]),(100001,[.keep,.keep,.keep,.keep,.keep,.keep,.keep,.keep,.ro true 132 t2,.ro true 173 t3,.keep,.keep,.keep,.keep,.ro true 177 t15,.keep,.keep,.keep,.keep,.ro true 94 t17,.ro true 119 t18])]
noncomputable def L:List (Nat×List (Nat×List Coe)):=[(17,live_l2),(12,live_l1),(4,live_l0)]
noncomputable def body:Code:=bodyOf Tryz.f173
noncomputable abbrev ev (K:Nat):Code→St→(Ex→St→Option Res)→Option Res:=evK (G K) T_D L K
noncomputable abbrev fin:Ex→St→Option Res:=finK T_D ps rs true Tryz.f173.results.toList
noncomputable def S_l0 (x:Args ps) (a:A_l0):St:=mkSt [(1,⟨0,.one,[.bp 100001 0]⟩),(3,⟨0,.one,[.own false none 132 t2 a.1]⟩),(11,⟨0,.one,[.ro true 132 t2 x.1.2.2.2.2.2.2.2.2.1]⟩),(12,⟨0,.one,[.int .i64 (List.length x.1.2.2.2.2.2.2.2.2.1:Int)]⟩),(13,⟨0,.one,[.int .i64 a.2]⟩),(100001,⟨0,.agg,[.int .i64 x.1.1,.bool x.1.2.1,.bool x.1.2.2.1,.bool x.1.2.2.2.1,.int .i64 x.1.2.2.2.2.1,.int .i64 x.1.2.2.2.2.2.1,.int .i64 x.1.2.2.2.2.2.2.1,.int .i64 x.1.2.2.2.2.2.2.2.1,.ro true 132 t2 x.1.2.2.2.2.2.2.2.2.1,.ro true 173 t3 x.1.2.2.2.2.2.2.2.2.2.1,.int .i64 x.1.2.2.2.2.2.2.2.2.2.2.1.1,.int .i64 x.1.2.2.2.2.2.2.2.2.2.2.1.2.1,.int .i64 x.1.2.2.2.2.2.2.2.2.2.2.1.2.2.1,.bool x.1.2.2.2.2.2.2.2.2.2.2.1.2.2.2,.ro true 177 t15 x.1.2.2.2.2.2.2.2.2.2.2.2.1,.int .i64 x.1.2.2.2.2.2.2.2.2.2.2.2.2.1.1,.int .i64 x.1.2.2.2.2.2.2.2.2.2.2.2.2.1.2.1,.int .i64 x.1.2.2.2.2.2.2.2.2.2.2.2.2.1.2.2.1,.int .i64 x.1.2.2.2.2.2.2.2.2.2.2.2.2.1.2.2.2,.ro true 94 t17 x.1.2.2.2.2.2.2.2.2.2.2.2.2.2.1,.ro true 119 t18 x.1.2.2.2.2.2.2.2.2.2.2.2.2.2.2]⟩)]
noncomputable def S_l1 (x:Args ps) (a:A_l1):St:=mkSt [(1,⟨0,.one,[.bp 100001 0]⟩),(3,⟨0,.one,[.own false none 132 t2 a.1]⟩),(32,⟨0,.one,[.ro true 177 t15 x.1.2.2.2.2.2.2.2.2.2.2.2.1]⟩),(33,⟨0,.one,[.int .i64 (List.length x.1.2.2.2.2.2.2.2.2.2.2.2.1:Int)]⟩),(34,⟨0,.one,[.int .i64 a.2]⟩),(100001,⟨0,.agg,[.int .i64 x.1.1,.bool x.1.2.1,.bool x.1.2.2.1,.bool x.1.2.2.2.1,.int .i64 x.1.2.2.2.2.1,.int .i64 x.1.2.2.2.2.2.1,.int .i64 x.1.2.2.2.2.2.2.1,.int .i64 x.1.2.2.2.2.2.2.2.1,.ro true 132 t2 x.1.2.2.2.2.2.2.2.2.1,.ro true 173 t3 x.1.2.2.2.2.2.2.2.2.2.1,.int .i64 x.1.2.2.2.2.2.2.2.2.2.2.1.1,.int .i64 x.1.2.2.2.2.2.2.2.2.2.2.1.2.1,.int .i64 x.1.2.2.2.2.2.2.2.2.2.2.1.2.2.1,.bool x.1.2.2.2.2.2.2.2.2.2.2.1.2.2.2,.ro true 177 t15 x.1.2.2.2.2.2.2.2.2.2.2.2.1,.int .i64 x.1.2.2.2.2.2.2.2.2.2.2.2.2.1.1,.int .i64 x.1.2.2.2.2.2.2.2.2.2.2.2.2.1.2.1,.int .i64 x.1.2.2.2.2.2.2.2.2.2.2.2.2.1.2.2.1,.int .i64 x.1.2.2.2.2.2.2.2.2.2.2.2.2.1.2.2.2,.ro true 94 t17 x.1.2.2.2.2.2.2.2.2.2.2.2.2.2.1,.ro true 119 t18 x.1.2.2.2.2.2.2.2.2.2.2.2.2.2.2]⟩)]
noncomputable def S_l2 (x:Args ps) (a:A_l2):St:=mkSt [(1,⟨0,.one,[.bp 100001 0]⟩),(3,⟨0,.one,[.own false none 132 t2 a.1]⟩),(7,⟨0,.one,[.bp 100007 0]⟩),(32,⟨0,.one,[.ro true 177 t15 x.1.2.2.2.2.2.2.2.2.2.2.2.1]⟩),(33,⟨0,.one,[.int .i64 (List.length x.1.2.2.2.2.2.2.2.2.2.2.2.1:Int)]⟩),(34,⟨0,.one,[.int .i64 a.2.1]⟩),(72,⟨0,.one,[.ro true 3 (.int .i64) a.2.2.1]⟩),(73,⟨0,.one,[.int .i64 a.2.2.2.1]⟩),(74,⟨0,.one,[.int .i64 a.2.2.2.2.1]⟩),(100001,⟨0,.agg,[.int .i64 x.1.1,.bool x.1.2.1,.bool x.1.2.2.1,.bool x.1.2.2.2.1,.int .i64 x.1.2.2.2.2.1,.int .i64 x.1.2.2.2.2.2.1,.int .i64 x.1.2.2.2.2.2.2.1,.int .i64 x.1.2.2.2.2.2.2.2.1,.ro true 132 t2 x.1.2.2.2.2.2.2.2.2.1,.ro true 173 t3 x.1.2.2.2.2.2.2.2.2.2.1,.int .i64 x.1.2.2.2.2.2.2.2.2.2.2.1.1,.int .i64 x.1.2.2.2.2.2.2.2.2.2.2.1.2.1,.int .i64 x.1.2.2.2.2.2.2.2.2.2.2.1.2.2.1,.bool x.1.2.2.2.2.2.2.2.2.2.2.1.2.2.2,.ro true 177 t15 x.1.2.2.2.2.2.2.2.2.2.2.2.1,.int .i64 x.1.2.2.2.2.2.2.2.2.2.2.2.2.1.1,.int .i64 x.1.2.2.2.2.2.2.2.2.2.2.2.2.1.2.1,.int .i64 x.1.2.2.2.2.2.2.2.2.2.2.2.2.1.2.2.1,.int .i64 x.1.2.2.2.2.2.2.2.2.2.2.2.2.1.2.2.2,.ro true 94 t17 x.1.2.2.2.2.2.2.2.2.2.2.2.2.2.1,.ro true 119 t18 x.1.2.2.2.2.2.2.2.2.2.2.2.2.2.2]⟩),(100007,⟨0,.agg,[.int .i64 a.2.2.2.2.2.1,.int .i64 a.2.2.2.2.2.2.1,.int .i64 a.2.2.2.2.2.2.2.1,.ro true 3 (.int .i64) a.2.2.2.2.2.2.2.2]⟩)]
noncomputable def k_l0 (K:Nat) (x:Args ps):Ex→St→Option Res:=kAt (ev K) body [1,1,0,1,0] fin
noncomputable def N_l0 (K:Nat) (x:Args ps):A_l0→Option Res:=fun a=>evLoop live_l0 (ev K (sub body [1,1,0,1,0,0])) K (S_l0 x a) (k_l0 K x)
noncomputable def k_l1 (K:Nat) (x:Args ps):Ex→St→Option Res:=kAt (ev K) body [1,1,1,1,0,1,0] fin
noncomputable def N_l1 (K:Nat) (x:Args ps):A_l1→Option Res:=fun a=>evLoop live_l1 (ev K (sub body [1,1,1,1,0,1,0,0])) K (S_l1 x a) (k_l1 K x)
noncomputable def k_l2 (K:Nat) (x:Args ps) (r_l1:St→Option Res):Ex→St→Option Res:=kAt (ev K) (sub body [1,1,1,1,0,1,0,0]) [1,1,0,0,1,1,1,0] (kLoop live_l1 r_l1 (k_l1 K x))
noncomputable def N_l2 (K:Nat) (x:Args ps) (r_l1:St→Option Res):A_l2→Option Res:=fun a=>evLoop live_l2 (ev K (sub body [1,1,1,1,0,1,0,0,1,1,0,0,1,1,1,0,0])) K (S_l2 x a) (k_l2 K x r_l1)
end Q117
namespace Q118
@[reducible] def ps:List PK:=[.rd t9]
@[reducible] def rs:List RK:=[.v .bool]
abbrev Res:=Ress rs×Outs ps
noncomputable def pre (K:Nat) (x:Args ps):Option Res:=(Q88.f K (x.1.1,(-100000),100000,())).bind fun y1=>bif y1.1.1 then ((Q88.f K (x.1.2.1,(-100000),100000,())).bind fun y2=>bif y2.1.1 then ((Q88.f K (x.1.2.2.1,0,100000,())).bind fun y3=>bif y3.1.1 then ((Q88.f K (x.1.2.2.2,1,1500,())).bind fun y4=>some ((y4.1.1,()),())) else (some ((false,()),()))) else (some ((false,()),()))) else (some ((false,()),()))
noncomputable def f (K:Nat) (x:Args ps):Option Res:=pre K x
noncomputable def c (K:Nat):Ctr:=⟨174,ps,rs,true,f K⟩
noncomputable def G (K:Nat):List Ctr:=[Q88.c K]
noncomputable def L:List (Nat×List (Nat×List Coe)):=[]
end Q118
namespace Q119
@[reducible] def ps:List PK:=[.rd t75,.rd (.int .i64)]
@[reducible] def rs:List RK:=[.v .bool]
abbrev Res:=Ress rs×Outs ps
noncomputable def pre (K:Nat) (x:Args ps):Option Res:=(Q116.f K (x.1,x.2.1,())).bind fun y1=>bif y1.1.1 then (some ((x.2.1 != x.1.1,()),())) else (some ((false,()),()))
noncomputable def f (K:Nat) (x:Args ps):Option Res:=pre K x
noncomputable def c (K:Nat):Ctr:=⟨199,ps,rs,true,f K⟩
noncomputable def G (K:Nat):List Ctr:=[Q116.c K]
noncomputable def L:List (Nat×List (Nat×List Coe)):=[]
end Q119
namespace Q120
@[reducible] def ps:List PK:=[.rd (.int .i64)]
@[reducible] def rs:List RK:=[.v .bool]
abbrev Res:=Ress rs×Outs ps
noncomputable def pre (K:Nat) (x:Args ps):Option Res:=(Q88.f K (x.1,1,60000,())).bind fun y1=>some ((!y1.1.1,()),())
noncomputable def f (K:Nat) (x:Args ps):Option Res:=pre K x
noncomputable def c (K:Nat):Ctr:=⟨237,ps,rs,true,f K⟩
noncomputable def G (K:Nat):List Ctr:=[Q88.c K]
noncomputable def L:List (Nat×List (Nat×List Coe)):=[]
end Q120
namespace Q121
@[reducible] def ps:List PK:=[.rd (.list false 3 (.int .i64)),.fn [(.int .i64)] .bool]
@[reducible] def rs:List RK:=[.v (.int .i64)]
abbrev Res:=Ress rs×Outs ps
abbrev A_l0:=Int
noncomputable def l0.step (K:Nat) (x:Args ps) (rec_l0:A_l0→Option Res) (a:A_l0):Option Res:=bif decide (a<(List.length x.1:Int)) then ((idx x.1 a).bind fun y1=>(x.2.1 (y1,())).bind fun y2=>bif y2 then (some ((a,()),())) else (rec_l0 (wr .i64 (a+1)))) else (some (((-1),()),()))
noncomputable def l0 (K:Nat) (x:Args ps):A_l0→Option Res:=iterate (fun rec_l0 a=>l0.step K x rec_l0 a) K
noncomputable def pre (K:Nat) (N_l0:A_l0→Option Res) (x:Args ps):Option Res:=N_l0 0
noncomputable def f (K:Nat) (x:Args ps):Option Res:=pre K (l0 K x) x
noncomputable def c (K:Nat):Ctr:=⟨291,ps,rs,true,f K⟩
noncomputable def G (K:Nat):List Ctr:=[]
noncomputable def live_l0:List (Nat×List Coe):=[(0,[.ro true 3 (.int .i64)]),(1,[.keep]),(7,[.keep]),(8,[.keep])]
noncomputable def L:List (Nat×List (Nat×List Coe)):=[(3,live_l0)]
noncomputable def body:Code:=bodyOf Tryz.f291
noncomputable abbrev ev (K:Nat):Code→St→(Ex→St→Option Res)→Option Res:=evK (G K) T_D L K
noncomputable abbrev fin:Ex→St→Option Res:=finK T_D ps rs true Tryz.f291.results.toList
noncomputable def S_l0 (x:Args ps) (a:A_l0):St:=mkSt [(0,⟨0,.one,[.ro true 3 (.int .i64) x.1]⟩),(1,⟨0,.one,[.fn [(.int .i64)] .bool x.2.1]⟩),(7,⟨0,.one,[.int .i64 (List.length x.1:Int)]⟩),(8,⟨0,.one,[.int .i64 a]⟩)]
noncomputable def k_l0 (K:Nat) (x:Args ps):Ex→St→Option Res:=kAt (ev K) body [1,0,1,0] fin
noncomputable def N_l0 (K:Nat) (x:Args ps):A_l0→Option Res:=fun a=>evLoop live_l0 (ev K (sub body [1,0,1,0,0])) K (S_l0 x a) (k_l0 K x)
end Q121
namespace Q122
@[reducible] def ps:List PK:=[.rd (.list false 3 (.int .i64)),.fn [(.int .i64)] .bool]
@[reducible] def rs:List RK:=[.v .bool]
abbrev Res:=Ress rs×Outs ps
noncomputable def pre (K:Nat) (x:Args ps):Option Res:=(Q121.f K (x.1,x.2.1,())).bind fun y1=>some ((decide (y1.1.1≥0),()),())
noncomputable def f (K:Nat) (x:Args ps):Option Res:=pre K x
noncomputable def c (K:Nat):Ctr:=⟨238,ps,rs,true,f K⟩
noncomputable def G (K:Nat):List Ctr:=[Q121.c K]
noncomputable def L:List (Nat×List (Nat×List Coe)):=[]
end Q122
namespace Q123
@[reducible] def ps:List PK:=[.rd t75]
@[reducible] def rs:List RK:=[.v .bool]
abbrev Res:=Ress rs×Outs ps
abbrev A_l0:=Int
noncomputable def l0.step (K:Nat) (x:Args ps) (rec_l0:A_l0→Option Res) (a:A_l0):Option Res:=bif decide (a<(List.length x.1.2.2.2.2.2.2.2.2.2.2.2.2.2.1:Int)) then ((idx x.1.2.2.2.2.2.2.2.2.2.2.2.2.2.1 a).bind fun y1=>(Q119.f K (x.1,y1.1,())).bind fun y2=>bif !y2.1.1 then (some ((false,()),())) else (bif decide (a>0) then ((idx x.1.2.2.2.2.2.2.2.2.2.2.2.2.2.1 (wr .i64 (a-1))).bind fun y3=>bif decide (y1.1≤y3.1) then (some ((false,()),())) else ((Q118.f K (y1.2.1,())).bind fun y4=>bif !y4.1.1 then (some ((false,()),())) else ((Q88.f K ((List.length y1.2.2:Int),1,3,())).bind fun y5=>bif !y5.1.1 then (some ((false,()),())) else ((Q122.f K (y1.2.2,fun y6=>(Q120.f K (y6.1,())).map fun y=>y.1.1,())).bind fun y7=>bif y7.1.1 then (some ((false,()),())) else (rec_l0 (wr .i64 (a+1))))))) else ((Q118.f K (y1.2.1,())).bind fun y8=>bif !y8.1.1 then (some ((false,()),())) else ((Q88.f K ((List.length y1.2.2:Int),1,3,())).bind fun y9=>bif !y9.1.1 then (some ((false,()),())) else ((Q122.f K (y1.2.2,fun y10=>(Q120.f K (y10.1,())).map fun y=>y.1.1,())).bind fun y11=>bif y11.1.1 then (some ((false,()),())) else (rec_l0 (wr .i64 (a+1)))))))) else (some ((true,()),()))
noncomputable def l0 (K:Nat) (x:Args ps):A_l0→Option Res:=iterate (fun rec_l0 a=>l0.step K x rec_l0 a) K
noncomputable def pre (K:Nat) (N_l0:A_l0→Option Res) (x:Args ps):Option Res:=N_l0 0
noncomputable def f (K:Nat) (x:Args ps):Option Res:=pre K (l0 K x) x
noncomputable def c (K:Nat):Ctr:=⟨175,ps,rs,true,f K⟩
noncomputable def G (K:Nat):List Ctr:=[Q88.c K,Q118.c K,Q119.c K,Q120.c K,Q122.c K]
noncomputable def live_l0:List (Nat×List Coe):=[(1,[.keep]),(3,[.keep]),(7,[.ro true 94 t17]),(8,[.keep]),(9,[.keep]),(100001,[.keep,.keep,.keep,.keep,.keep,.keep,.keep,.keep,.ro true 132 t2,.ro true 173 t3,.keep,.keep,.keep,.keep,.ro true 177 t15,.keep,.keep,.keep,.keep,.ro true 94 t17,.ro true 119 t18])]
noncomputable def L:List (Nat×List (Nat×List Coe)):=[(4,live_l0)]
noncomputable def body:Code:=bodyOf Tryz.f175
noncomputable abbrev ev (K:Nat):Code→St→(Ex→St→Option Res)→Option Res:=evK (G K) T_D L K
noncomputable abbrev fin:Ex→St→Option Res:=finK T_D ps rs true Tryz.f175.results.toList
noncomputable def S_l0 (x:Args ps) (a:A_l0):St:=mkSt [(1,⟨0,.one,[.bp 100001 0]⟩),(3,⟨0,.one,[.clo 237 []]⟩),(7,⟨0,.one,[.ro true 94 t17 x.1.2.2.2.2.2.2.2.2.2.2.2.2.2.1]⟩),(8,⟨0,.one,[.int .i64 (List.length x.1.2.2.2.2.2.2.2.2.2.2.2.2.2.1:Int)]⟩),(9,⟨0,.one,[.int .i64 a]⟩),(100001,⟨0,.agg,[.int .i64 x.1.1,.bool x.1.2.1,.bool x.1.2.2.1,.bool x.1.2.2.2.1,.int .i64 x.1.2.2.2.2.1,.int .i64 x.1.2.2.2.2.2.1,.int .i64 x.1.2.2.2.2.2.2.1,.int .i64 x.1.2.2.2.2.2.2.2.1,.ro true 132 t2 x.1.2.2.2.2.2.2.2.2.1,.ro true 173 t3 x.1.2.2.2.2.2.2.2.2.2.1,.int .i64 x.1.2.2.2.2.2.2.2.2.2.2.1.1,.int .i64 x.1.2.2.2.2.2.2.2.2.2.2.1.2.1,.int .i64 x.1.2.2.2.2.2.2.2.2.2.2.1.2.2.1,.bool x.1.2.2.2.2.2.2.2.2.2.2.1.2.2.2,.ro true 177 t15 x.1.2.2.2.2.2.2.2.2.2.2.2.1,.int .i64 x.1.2.2.2.2.2.2.2.2.2.2.2.2.1.1,.int .i64 x.1.2.2.2.2.2.2.2.2.2.2.2.2.1.2.1,.int .i64 x.1.2.2.2.2.2.2.2.2.2.2.2.2.1.2.2.1,.int .i64 x.1.2.2.2.2.2.2.2.2.2.2.2.2.1.2.2.2,.ro true 94 t17 x.1.2.2.2.2.2.2.2.2.2.2.2.2.2.1,.ro true 119 t18 x.1.2.2.2.2.2.2.2.2.2.2.2.2.2.2]⟩)]
noncomputable def k_l0 (K:Nat) (x:Args ps):Ex→St→Option Res:=kAt (ev K) body [1,1,0,1,0] fin
noncomputable def N_l0 (K:Nat) (x:Args ps):A_l0→Option Res:=fun a=>evLoop live_l0 (ev K (sub body [1,1,0,1,0,0])) K (S_l0 x a) (k_l0 K x)
end Q123
namespace Q124
@[reducible] def ps:List PK:=[.rd t75]
@[reducible] def rs:List RK:=[.v .bool]
abbrev Res:=Ress rs×Outs ps
abbrev A_l0:=Int
noncomputable def l0.step (K:Nat) (x:Args ps) (rec_l0:A_l0→Option Res) (a:A_l0):Option Res:=bif decide (a<(List.length x.1.2.2.2.2.2.2.2.2.2.2.2.2.2.2:Int)) then ((idx x.1.2.2.2.2.2.2.2.2.2.2.2.2.2.2 a).bind fun y1=>(Q93.f K (7,())).bind fun y2=>(Q88.f K (y1.1,0,y2.1.1,())).bind fun y3=>bif !y3.1.1 then (some ((false,()),())) else ((Q96.f K (x.1,())).bind fun y4=>bif y1.1==y4.1.1 then (some ((false,()),())) else (bif decide (a>0) then ((idx x.1.2.2.2.2.2.2.2.2.2.2.2.2.2.2 (wr .i64 (a-1))).bind fun y5=>bif decide (y1.1≤y5.1) then (some ((false,()),())) else (bif (List.length y1.2:Int)==0 then (some ((false,()),())) else ((Q98.f K (y1.2,())).bind fun y6=>bif !y6.1.1 then (some ((false,()),())) else ((Q95.f K (y1.2,y1.1,())).bind fun y7=>bif !y7.1.1 then (some ((false,()),())) else (rec_l0 (wr .i64 (a+1))))))) else (bif (List.length y1.2:Int)==0 then (some ((false,()),())) else ((Q98.f K (y1.2,())).bind fun y8=>bif !y8.1.1 then (some ((false,()),())) else ((Q95.f K (y1.2,y1.1,())).bind fun y9=>bif !y9.1.1 then (some ((false,()),())) else (rec_l0 (wr .i64 (a+1))))))))) else (some ((true,()),()))
noncomputable def l0 (K:Nat) (x:Args ps):A_l0→Option Res:=iterate (fun rec_l0 a=>l0.step K x rec_l0 a) K
noncomputable def pre (K:Nat) (N_l0:A_l0→Option Res) (x:Args ps):Option Res:=N_l0 0
noncomputable def f (K:Nat) (x:Args ps):Option Res:=pre K (l0 K x) x
noncomputable def c (K:Nat):Ctr:=⟨176,ps,rs,true,f K⟩
noncomputable def G (K:Nat):List Ctr:=[Q95.c K,Q96.c K,Q93.c K,Q88.c K,Q98.c K]
noncomputable def live_l0:List (Nat×List Coe):=[(1,[.keep]),(6,[.ro true 119 t18]),(7,[.keep]),(8,[.keep]),(100001,[.keep,.keep,.keep,.keep,.keep,.keep,.keep,.keep,.ro true 132 t2,.ro true 173 t3,.keep,.keep,.keep,.keep,.ro true 177 t15,.keep,.keep,.keep,.keep,.ro true 94 t17,.ro true 119 t18])]
noncomputable def L:List (Nat×List (Nat×List Coe)):=[(3,live_l0)]
noncomputable def body:Code:=bodyOf Tryz.f176
noncomputable abbrev ev (K:Nat):Code→St→(Ex→St→Option Res)→Option Res:=evK (G K) T_D L K
noncomputable abbrev fin:Ex→St→Option Res:=finK T_D ps rs true Tryz.f176.results.toList
noncomputable def S_l0 (x:Args ps) (a:A_l0):St:=mkSt [(1,⟨0,.one,[.bp 100001 0]⟩),(6,⟨0,.one,[.ro true 119 t18 x.1.2.2.2.2.2.2.2.2.2.2.2.2.2.2]⟩),(7,⟨0,.one,[.int .i64 (List.length x.1.2.2.2.2.2.2.2.2.2.2.2.2.2.2:Int)]⟩),(8,⟨0,.one,[.int .i64 a]⟩),(100001,⟨0,.agg,[.int .i64 x.1.1,.bool x.1.2.1,.bool x.1.2.2.1,.bool x.1.2.2.2.1,.int .i64 x.1.2.2.2.2.1,.int .i64 x.1.2.2.2.2.2.1,.int .i64 x.1.2.2.2.2.2.2.1,.int .i64 x.1.2.2.2.2.2.2.2.1,.ro true 132 t2 x.1.2.2.2.2.2.2.2.2.1,.ro true 173 t3 x.1.2.2.2.2.2.2.2.2.2.1,.int .i64 x.1.2.2.2.2.2.2.2.2.2.2.1.1,.int .i64 x.1.2.2.2.2.2.2.2.2.2.2.1.2.1,.int .i64 x.1.2.2.2.2.2.2.2.2.2.2.1.2.2.1,.bool x.1.2.2.2.2.2.2.2.2.2.2.1.2.2.2,.ro true 177 t15 x.1.2.2.2.2.2.2.2.2.2.2.2.1,.int .i64 x.1.2.2.2.2.2.2.2.2.2.2.2.2.1.1,.int .i64 x.1.2.2.2.2.2.2.2.2.2.2.2.2.1.2.1,.int .i64 x.1.2.2.2.2.2.2.2.2.2.2.2.2.1.2.2.1,.int .i64 x.1.2.2.2.2.2.2.2.2.2.2.2.2.1.2.2.2,.ro true 94 t17 x.1.2.2.2.2.2.2.2.2.2.2.2.2.2.1,.ro true 119 t18 x.1.2.2.2.2.2.2.2.2.2.2.2.2.2.2]⟩)]
noncomputable def k_l0 (K:Nat) (x:Args ps):Ex→St→Option Res:=kAt (ev K) body [1,0,1,0] fin
noncomputable def N_l0 (K:Nat) (x:Args ps):A_l0→Option Res:=fun a=>evLoop live_l0 (ev K (sub body [1,0,1,0,0])) K (S_l0 x a) (k_l0 K x)
end Q124
namespace Q125
@[reducible] def ps:List PK:=[.rd t75]
@[reducible] def rs:List RK:=[.v .bool]
abbrev Res:=Ress rs×Outs ps
noncomputable def pre (K:Nat) (x:Args ps):Option Res:=(Q89.f K (x.1.1,())).bind fun y1=>bif !y1.1.1 then (some ((false,()),())) else ((Q88.f K (x.1.2.2.2.2.2.1,0,999999,())).bind fun y2=>bif !y2.1.1 then (some ((false,()),())) else ((Q88.f K (x.1.2.2.2.2.2.2.1,0,999999,())).bind fun y3=>bif !y3.1.1 then (some ((false,()),())) else ((Q88.f K (x.1.2.2.2.2.2.2.2.1,0,8,())).bind fun y4=>bif !y4.1.1 then (some ((false,()),())) else ((Q88.f K (x.1.2.2.2.2.1,0,999,())).bind fun y5=>bif !y5.1.1 then (some ((false,()),())) else (bif !x.1.2.1 then ((Q90.f K (x.1,())).bind fun y6=>some ((y6.1.1,()),())) else ((Q114.f K (x.1,())).bind fun y7=>bif y7.1.1 then ((Q115.f K (x.1,())).bind fun y8=>bif y8.1.1 then ((Q117.f K (x.1,())).bind fun y9=>bif y9.1.1 then ((Q118.f K (x.1.2.2.2.2.2.2.2.2.2.2.2.2.1,())).bind fun y10=>bif y10.1.1 then ((Q123.f K (x.1,())).bind fun y11=>bif y11.1.1 then ((Q124.f K (x.1,())).bind fun y12=>some ((y12.1.1,()),())) else (some ((false,()),()))) else (some ((false,()),()))) else (some ((false,()),()))) else (some ((false,()),()))) else (some ((false,()),()))))))))
noncomputable def f (K:Nat) (x:Args ps):Option Res:=pre K x
noncomputable def c (K:Nat):Ctr:=⟨76,ps,rs,true,f K⟩
noncomputable def G (K:Nat):List Ctr:=[Q88.c K,Q89.c K,Q90.c K,Q114.c K,Q115.c K,Q117.c K,Q118.c K,Q123.c K,Q124.c K]
noncomputable def L:List (Nat×List (Nat×List Coe)):=[]
end Q125
namespace Q126
@[reducible] def ps:List PK:=[.rd t75]
@[reducible] def rs:List RK:=[.v .bool]
abbrev Res:=Ress rs×Outs ps
noncomputable def pre (K:Nat) (x:Args ps):Option Res:=bif x.1.2.1 then (some ((!x.1.2.2.1,()),())) else (some ((false,()),()))
noncomputable def f (K:Nat) (x:Args ps):Option Res:=pre K x
noncomputable def c (K:Nat):Ctr:=⟨87,ps,rs,true,f K⟩
noncomputable def G (K:Nat):List Ctr:=[]
noncomputable def L:List (Nat×List (Nat×List Coe)):=[]
end Q126
namespace Q127
@[reducible] def ps:List PK:=[.rd (.list false 132 t2),.fn [t2] .bool]
@[reducible] def rs:List RK:=[.v (.list true 3 (.int .i64))]
abbrev Res:=Ress rs×Outs ps
abbrev A_l0:=List (Ty.den (.int .i64))×Int
noncomputable def l0.step (K:Nat) (x:Args ps) (rec_l0:A_l0→Option Res) (a:A_l0):Option Res:=bif decide (a.2<(List.length x.1:Int)) then ((idx x.1 a.2).bind fun y1=>(x.2.1 (y1,())).bind fun y2=>bif y2 then (bif decide ((List.length a.1+List.length ([y1.1]))*8≤sizeK) then (rec_l0 (a.1++([y1.1]),wr .i64 (a.2+1))) else none) else (rec_l0 (a.1,wr .i64 (a.2+1)))) else (some ((a.1,()),()))
noncomputable def l0 (K:Nat) (x:Args ps):A_l0→Option Res:=iterate (fun rec_l0 a=>l0.step K x rec_l0 a) K
noncomputable def pre (K:Nat) (N_l0:A_l0→Option Res) (x:Args ps):Option Res:=N_l0 ([],0)
noncomputable def f (K:Nat) (x:Args ps):Option Res:=pre K (l0 K x) x
noncomputable def c (K:Nat):Ctr:=⟨184,ps,rs,true,f K⟩
noncomputable def G (K:Nat):List Ctr:=[]
noncomputable def live_l0:List (Nat×List Coe):=[(1,[.keep]),(5,[.own false 3 (.int .i64)]),(8,[.ro true 132 t2]),(9,[.keep]),(10,[.keep])]
noncomputable def L:List (Nat×List (Nat×List Coe)):=[(4,live_l0)]
noncomputable def body:Code:=bodyOf Tryz.f184
noncomputable abbrev ev (K:Nat):Code→St→(Ex→St→Option Res)→Option Res:=evK (G K) T_D L K
noncomputable abbrev fin:Ex→St→Option Res:=finK T_D ps rs true Tryz.f184.results.toList
noncomputable def S_l0 (x:Args ps) (a:A_l0):St:=mkSt [(1,⟨0,.one,[.fn [t2] .bool x.2.1]⟩),(5,⟨0,.one,[.own false none 3 (.int .i64) a.1]⟩),(8,⟨0,.one,[.ro true 132 t2 x.1]⟩),(9,⟨0,.one,[.int .i64 (List.length x.1:Int)]⟩),(10,⟨0,.one,[.int .i64 a.2]⟩)]
noncomputable def k_l0 (K:Nat) (x:Args ps):Ex→St→Option Res:=kAt (ev K) body [1,1,0,1,0] fin
noncomputable def N_l0 (K:Nat) (x:Args ps):A_l0→Option Res:=fun a=>evLoop live_l0 (ev K (sub body [1,1,0,1,0,0])) K (S_l0 x a) (k_l0 K x)
end Q127
namespace Q128
@[reducible] def ps:List PK:=[.rref t75,.rd (.int .i64),.rd (.int .i64)]
@[reducible] def rs:List RK:=[.v t32]
abbrev Res:=Ress rs×Outs ps
noncomputable def pre (K:Nat) (x:Args ps):Option Res:=some (((1,(x.2.1,(x.1.1,(x.2.2.1,(0,(x.1.1,(x.1.2.2.2.2.2.2.2.2.2.2.2.2.1,[]))))))),()),())
noncomputable def f (K:Nat) (x:Args ps):Option Res:=pre K x
noncomputable def c (K:Nat):Ctr:=⟨245,ps,rs,true,f K⟩
noncomputable def G (K:Nat):List Ctr:=[]
noncomputable def L:List (Nat×List (Nat×List Coe)):=[]
end Q128
namespace Q129
@[reducible] def ps:List PK:=[.rref t75,.rd (.int .i64),.rd (.int .i64)]
@[reducible] def rs:List RK:=[.v t32]
abbrev Res:=Ress rs×Outs ps
noncomputable def pre (K:Nat) (x:Args ps):Option Res:=(Q128.f K (x.1,x.2.1,x.2.2.1,())).bind fun y1=>(Q0.f K (x.1.2.2.2.2.2.2.2.2.1,())).bind fun y2=>some (((y1.1.1.1,(y1.1.1.2.1,(y1.1.1.2.2.1,(y1.1.1.2.2.2.1,(y1.1.1.2.2.2.2.1,(y1.1.1.2.2.2.2.2.1,(y1.1.1.2.2.2.2.2.2.1,y2.1.1))))))),()),())
noncomputable def f (K:Nat) (x:Args ps):Option Res:=pre K x
noncomputable def c (K:Nat):Ctr:=⟨200,ps,rs,true,f K⟩
noncomputable def G (K:Nat):List Ctr:=[Q0.c K,Q128.c K]
noncomputable def L:List (Nat×List (Nat×List Coe)):=[]
end Q129
namespace Q130
@[reducible] def ps:List PK:=[.rd (.list false 132 t2),.rd t2]
@[reducible] def rs:List RK:=[.v (.list true 132 t2),.v .bool]
abbrev Res:=Ress rs×Outs ps
noncomputable def pre (K:Nat) (x:Args ps):Option Res:=(Q0.f K (x.1,())).bind fun y1=>(Q103.f K (y1.1.1,x.2.1.1,())).bind fun y2=>bif !y2.1.2.1 then ((Q1.f K (y1.1.1,y2.1.1,[x.2.1],())).bind fun y3=>some ((y3.1.1,true,()),())) else ((idx y1.1.1 y2.1.1).bind fun _=>(idx y1.1.1 (Int.toNat y2.1.1:Nat)).bind fun y5=>(Q111.f K (x.2.1,y5,())).bind fun y6=>bif decide (y6.1.1>0) then ((idx y1.1.1 y2.1.1).bind fun _=>(idx y1.1.1 (Int.toNat y2.1.1:Nat)).bind fun y8=>some ((y1.1.1.set (Int.toNat y2.1.1) x.2.1,true,()),())) else (some ((y1.1.1,false,()),())))
noncomputable def f (K:Nat) (x:Args ps):Option Res:=pre K x
noncomputable def c (K:Nat):Ctr:=⟨251,ps,rs,true,f K⟩
noncomputable def G (K:Nat):List Ctr:=[Q111.c K,Q0.c K,Q103.c K,Q1.c K]
noncomputable def L:List (Nat×List (Nat×List Coe)):=[]
end Q130
namespace Q131
@[reducible] def ps:List PK:=[.rd (.list false 173 t3),.rd t2]
@[reducible] def rs:List RK:=[.v (.list true 173 t3)]
abbrev Res:=Ress rs×Outs ps
noncomputable def pre (K:Nat) (x:Args ps):Option Res:=(Q109.f K (x.1,())).bind fun y1=>bif !y1.1.1 then (some (([],()),())) else ((Q97.f K (x.2.1,())).bind fun y2=>bif !y2.1.1 then (some (([],()),())) else ((Q2.f K (x.1,())).bind fun y3=>(Q108.f K (y3.1.1,())).bind fun y4=>(Q103.f K (y4.1.1,x.2.1.1,())).bind fun y5=>bif !y5.1.2.1 then ((Q3.f K (y3.1.1,y5.1.1,[(x.2.1,4)],())).bind fun y6=>some ((y6.1.1,()),())) else ((idx y3.1.1 y5.1.1).bind fun _=>(idx y3.1.1 (Int.toNat y5.1.1:Nat)).bind fun y8=>(Q111.f K (x.2.1,y8.1,())).bind fun y9=>bif decide (y9.1.1>0) then ((idx y3.1.1 y5.1.1).bind fun _=>(idx y3.1.1 (Int.toNat y5.1.1:Nat)).bind fun y11=>some ((y3.1.1.set (Int.toNat y5.1.1) (x.2.1,4),()),())) else (some ((y3.1.1,()),())))))
noncomputable def f (K:Nat) (x:Args ps):Option Res:=pre K x
noncomputable def c (K:Nat):Ctr:=⟨252,ps,rs,true,f K⟩
noncomputable def G (K:Nat):List Ctr:=[Q97.c K,Q111.c K,Q109.c K,Q103.c K,Q2.c K,Q108.c K,Q3.c K]
noncomputable def L:List (Nat×List (Nat×List Coe)):=[]
end Q131
namespace Q132
@[reducible] def ps:List PK:=[.rd (.list false 177 t15),.fn [t15] .bool]
@[reducible] def rs:List RK:=[.v (.int .i64)]
abbrev Res:=Ress rs×Outs ps
abbrev A_l0:=Int
noncomputable def l0.step (K:Nat) (x:Args ps) (rec_l0:A_l0→Option Res) (a:A_l0):Option Res:=bif decide (a<(List.length x.1:Int)) then ((idx x.1 a).bind fun y1=>(x.2.1 (y1,())).bind fun y2=>bif y2 then (some ((a,()),())) else (rec_l0 (wr .i64 (a+1)))) else (some (((-1),()),()))
noncomputable def l0 (K:Nat) (x:Args ps):A_l0→Option Res:=iterate (fun rec_l0 a=>l0.step K x rec_l0 a) K
noncomputable def pre (K:Nat) (N_l0:A_l0→Option Res) (x:Args ps):Option Res:=N_l0 0
noncomputable def f (K:Nat) (x:Args ps):Option Res:=pre K (l0 K x) x
noncomputable def c (K:Nat):Ctr:=⟨307,ps,rs,true,f K⟩
noncomputable def G (K:Nat):List Ctr:=[]
noncomputable def live_l0:List (Nat×List Coe):=[(0,[.ro true 177 t15]),(1,[.keep]),(7,[.keep]),(8,[.keep])]
noncomputable def L:List (Nat×List (Nat×List Coe)):=[(3,live_l0)]
noncomputable def body:Code:=bodyOf Tryz.f307
noncomputable abbrev ev (K:Nat):Code→St→(Ex→St→Option Res)→Option Res:=evK (G K) T_D L K
noncomputable abbrev fin:Ex→St→Option Res:=finK T_D ps rs true Tryz.f307.results.toList
noncomputable def S_l0 (x:Args ps) (a:A_l0):St:=mkSt [(0,⟨0,.one,[.ro true 177 t15 x.1]⟩),(1,⟨0,.one,[.fn [t15] .bool x.2.1]⟩),(7,⟨0,.one,[.int .i64 (List.length x.1:Int)]⟩),(8,⟨0,.one,[.int .i64 a]⟩)]
noncomputable def k_l0 (K:Nat) (x:Args ps):Ex→St→Option Res:=kAt (ev K) body [1,0,1,0] fin
noncomputable def N_l0 (K:Nat) (x:Args ps):A_l0→Option Res:=fun a=>evLoop live_l0 (ev K (sub body [1,0,1,0,0])) K (S_l0 x a) (k_l0 K x)
end Q132
namespace Q133
@[reducible] def ps:List PK:=[.rd t15,.rref t2]
@[reducible] def rs:List RK:=[.v .bool]
abbrev Res:=Ress rs×Outs ps
noncomputable def pre (K:Nat) (x:Args ps):Option Res:=some ((x.1.1==x.2.1.1,()),())
noncomputable def f (K:Nat) (x:Args ps):Option Res:=pre K x
noncomputable def c (K:Nat):Ctr:=⟨254,ps,rs,true,f K⟩
noncomputable def G (K:Nat):List Ctr:=[]
noncomputable def L:List (Nat×List (Nat×List Coe)):=[]
end Q133
namespace Q134
@[reducible] def ps:List PK:=[.rd (.list false 177 t15),.rd (.int .i64),.fn [t15,(.int .i64)] (.int .i64)]
@[reducible] def rs:List RK:=[.v (.int .i64),.v .bool]
abbrev Res:=Ress rs×Outs ps
abbrev A_l0:=Int×Int
noncomputable def l0.step (K:Nat) (x:Args ps) (rec_l0:A_l0→Option Res) (a:A_l0):Option Res:=bif decide (a.1<a.2) then ((idx x.1 (wr .i64 (Int.fdiv (wr .u64 (wr .i64 (a.1+a.2))) (2 ^ 1)))).bind fun y1=>(x.2.2.1 (y1,x.2.1,())).bind fun y2=>bif decide (y2<0) then (rec_l0 (wr .i64 ((wr .i64 (Int.fdiv (wr .u64 (wr .i64 (a.1+a.2))) (2 ^ 1)))+1),a.2)) else (rec_l0 (a.1,wr .i64 (Int.fdiv (wr .u64 (wr .i64 (a.1+a.2))) (2 ^ 1))))) else (bif decide (a.1<(List.length x.1:Int)) then ((idx x.1 a.1).bind fun y3=>(x.2.2.1 (y3,x.2.1,())).bind fun y4=>some ((a.1,y4==0,()),())) else (some ((a.1,false,()),())))
noncomputable def l0 (K:Nat) (x:Args ps):A_l0→Option Res:=iterate (fun rec_l0 a=>l0.step K x rec_l0 a) K
noncomputable def pre (K:Nat) (N_l0:A_l0→Option Res) (x:Args ps):Option Res:=N_l0 (0,(List.length x.1:Int))
noncomputable def f (K:Nat) (x:Args ps):Option Res:=pre K (l0 K x) x
noncomputable def c (K:Nat):Ctr:=⟨255,ps,rs,true,f K⟩
noncomputable def G (K:Nat):List Ctr:=[]
noncomputable def live_l0:List (Nat×List Coe):=[(0,[.ro true 177 t15]),(1,[.keep]),(2,[.keep]),(8,[.keep]),(9,[.keep]),(10,[.keep])]
noncomputable def L:List (Nat×List (Nat×List Coe)):=[(4,live_l0)]
noncomputable def body:Code:=bodyOf Tryz.f255
noncomputable abbrev ev (K:Nat):Code→St→(Ex→St→Option Res)→Option Res:=evK (G K) T_D L K
noncomputable abbrev fin:Ex→St→Option Res:=finK T_D ps rs true Tryz.f255.results.toList
noncomputable def S_l0 (x:Args ps) (a:A_l0):St:=mkSt [(0,⟨0,.one,[.ro true 177 t15 x.1]⟩),(1,⟨0,.one,[.int .i64 x.2.1]⟩),(2,⟨0,.one,[.fn [t15,(.int .i64)] (.int .i64) x.2.2.1]⟩),(8,⟨0,.one,[.int .i64 (List.length x.1:Int)]⟩),(9,⟨0,.one,[.int .i64 a.1]⟩),(10,⟨0,.one,[.int .i64 a.2]⟩)]
noncomputable def k_l0 (K:Nat) (x:Args ps):Ex→St→Option Res:=kAt (ev K) body [1,1,1,0,0] fin
noncomputable def N_l0 (K:Nat) (x:Args ps):A_l0→Option Res:=fun a=>evLoop live_l0 (ev K (sub body [1,1,1,0,0,0])) K (S_l0 x a) (k_l0 K x)
end Q134
namespace Q135
@[reducible] def ps:List PK:=[.rd t15,.rd (.int .i64)]
@[reducible] def rs:List RK:=[.v (.int .i64)]
abbrev Res:=Ress rs×Outs ps
noncomputable def pre (K:Nat) (x:Args ps):Option Res:=some ((wr .i64 (x.1.1-x.2.1),()),())
noncomputable def f (K:Nat) (x:Args ps):Option Res:=pre K x
noncomputable def c (K:Nat):Ctr:=⟨256,ps,rs,true,f K⟩
noncomputable def G (K:Nat):List Ctr:=[]
noncomputable def L:List (Nat×List (Nat×List Coe)):=[]
end Q135
namespace Q136
@[reducible] def ps:List PK:=[.iop t61,.rd t2,.rd (.int .i64)]
@[reducible] def rs:List RK:=[]
abbrev Res:=Ress rs×Outs ps
noncomputable def pre (K:Nat) (x:Args ps):Option Res:=(Q104.f K (x.1.2.2.2.2.2.2.2.2.1,x.2.1.1,())).bind fun y1=>(Q130.f K (x.1.2.2.2.2.2.2.2.2.1,x.2.1,())).bind fun y2=>bif !y2.1.2.1 then (some ((),(x.1,()))) else ((Q131.f K (x.1.2.2.2.2.2.2.2.2.2.1,x.2.1,())).bind fun y3=>bif y1.1.1.2.2.1==x.2.1.2.2.1 then (bif y1.1.1.2.1==x.2.1.2.1 then (some ((),((x.1.1,(x.1.2.1,(x.1.2.2.1,(x.1.2.2.2.1,(x.1.2.2.2.2.1,(x.1.2.2.2.2.2.1,(x.1.2.2.2.2.2.2.1,(x.1.2.2.2.2.2.2.2.1,(y2.1.1,(y3.1.1,x.1.2.2.2.2.2.2.2.2.2.2)))))))))),()))) else ((Q4.f K (x.1.2.2.2.2.2.2.2.2.2.2.2.1,fun y4=>(Q133.f K (y4.1,x.2.1,())).map fun y=>y.1.1,())).bind fun y5=>bif x.2.1.2.2.1==2 then ((Q134.f K (y5.1.1,x.2.1.1,fun y6=>(Q135.f K (y6.1,y6.2.1,())).map fun y=>y.1.1,())).bind fun y7=>(Q5.f K (y5.1.1,y7.1.1,[(x.2.1.1,(x.2.1.2.1,(x.1.2.2.2.2.2.1,[x.2.2.1])))],())).bind fun y8=>some ((),((x.1.1,(x.1.2.1,(x.1.2.2.1,(x.1.2.2.2.1,(x.1.2.2.2.2.1,(x.1.2.2.2.2.2.1,(x.1.2.2.2.2.2.2.1,(x.1.2.2.2.2.2.2.2.1,(y2.1.1,(y3.1.1,(x.1.2.2.2.2.2.2.2.2.2.2.1,(y8.1.1,x.1.2.2.2.2.2.2.2.2.2.2.2.2)))))))))))),()))) else (some ((),((x.1.1,(x.1.2.1,(x.1.2.2.1,(x.1.2.2.2.1,(x.1.2.2.2.2.1,(x.1.2.2.2.2.2.1,(x.1.2.2.2.2.2.2.1,(x.1.2.2.2.2.2.2.2.1,(y2.1.1,(y3.1.1,(x.1.2.2.2.2.2.2.2.2.2.2.1,(y5.1.1,x.1.2.2.2.2.2.2.2.2.2.2.2.2)))))))))))),()))))) else ((Q4.f K (x.1.2.2.2.2.2.2.2.2.2.2.2.1,fun y9=>(Q133.f K (y9.1,x.2.1,())).map fun y=>y.1.1,())).bind fun y10=>bif x.2.1.2.2.1==2 then ((Q134.f K (y10.1.1,x.2.1.1,fun y11=>(Q135.f K (y11.1,y11.2.1,())).map fun y=>y.1.1,())).bind fun y12=>(Q5.f K (y10.1.1,y12.1.1,[(x.2.1.1,(x.2.1.2.1,(x.1.2.2.2.2.2.1,[x.2.2.1])))],())).bind fun y13=>some ((),((x.1.1,(x.1.2.1,(x.1.2.2.1,(x.1.2.2.2.1,(x.1.2.2.2.2.1,(x.1.2.2.2.2.2.1,(x.1.2.2.2.2.2.2.1,(x.1.2.2.2.2.2.2.2.1,(y2.1.1,(y3.1.1,(x.1.2.2.2.2.2.2.2.2.2.2.1,(y13.1.1,x.1.2.2.2.2.2.2.2.2.2.2.2.2)))))))))))),()))) else (some ((),((x.1.1,(x.1.2.1,(x.1.2.2.1,(x.1.2.2.2.1,(x.1.2.2.2.2.1,(x.1.2.2.2.2.2.1,(x.1.2.2.2.2.2.2.1,(x.1.2.2.2.2.2.2.2.1,(y2.1.1,(y3.1.1,(x.1.2.2.2.2.2.2.2.2.2.2.1,(y10.1.1,x.1.2.2.2.2.2.2.2.2.2.2.2.2)))))))))))),())))))
noncomputable def f (K:Nat) (x:Args ps):Option Res:=pre K x
noncomputable def c (K:Nat):Ctr:=⟨212,ps,rs,true,f K⟩
noncomputable def G (K:Nat):List Ctr:=[Q104.c K,Q130.c K,Q131.c K,Q4.c K,Q133.c K,Q134.c K,Q135.c K,Q5.c K]
noncomputable def L:List (Nat×List (Nat×List Coe)):=[]
end Q136
namespace Q137
@[reducible] def ps:List PK:=[.rref t75,.rd (.int .i64)]
@[reducible] def rs:List RK:=[.v (.int .i64)]
abbrev Res:=Ress rs×Outs ps
noncomputable def pre (K:Nat) (x:Args ps):Option Res:=(Q104.f K (x.1.2.2.2.2.2.2.2.2.1,x.2.1,())).bind fun y1=>some ((y1.1.1.2.2.1,()),())
noncomputable def f (K:Nat) (x:Args ps):Option Res:=pre K x
noncomputable def c (K:Nat):Ctr:=⟨124,ps,rs,true,f K⟩
noncomputable def G (K:Nat):List Ctr:=[Q104.c K]
noncomputable def L:List (Nat×List (Nat×List Coe)):=[]
end Q137
namespace Q138
@[reducible] def ps:List PK:=[.rref t75,.rd (.int .i64)]
@[reducible] def rs:List RK:=[.v .bool]
abbrev Res:=Ress rs×Outs ps
noncomputable def pre (K:Nat) (x:Args ps):Option Res:=(Q137.f K (x.1,x.2.1,())).bind fun y1=>(Q88.f K (y1.1.1,1,2,())).bind fun y2=>some ((y2.1.1,()),())
noncomputable def f (K:Nat) (x:Args ps):Option Res:=pre K x
noncomputable def c (K:Nat):Ctr:=⟨214,ps,rs,true,f K⟩
noncomputable def G (K:Nat):List Ctr:=[Q88.c K,Q137.c K]
noncomputable def L:List (Nat×List (Nat×List Coe)):=[]
end Q138
namespace Q139
@[reducible] def ps:List PK:=[.rd t2,.rref2 t75]
@[reducible] def rs:List RK:=[.v .bool]
abbrev Res:=Ress rs×Outs ps
noncomputable def pre (K:Nat) (x:Args ps):Option Res:=bif x.1.1 != x.2.1.1 then ((Q138.f K (x.2.1,x.1.1,())).bind fun y1=>some ((y1.1.1,()),())) else (some ((false,()),()))
noncomputable def f (K:Nat) (x:Args ps):Option Res:=pre K x
noncomputable def c (K:Nat):Ctr:=⟨213,ps,rs,true,f K⟩
noncomputable def G (K:Nat):List Ctr:=[Q138.c K]
noncomputable def L:List (Nat×List (Nat×List Coe)):=[]
end Q139
namespace Q140
@[reducible] def ps:List PK:=[.iop t61]
@[reducible] def rs:List RK:=[.v (.list true 53 t32)]
abbrev Res:=Ress rs×Outs ps
abbrev A_l0:=List (Ty.den t32)×List (Ty.den (.int .i64))×Int×Int×Int×Bool×Bool×Int×Int×Int×Int×List (Ty.den t2)×List (Ty.den t3)×Int×Int×Int×Bool×List (Ty.den t6)×Int×Int×Int×Int×List (Ty.den t11)×List (Ty.den t12)
noncomputable def l0.step (K:Nat) (x:Args ps) (rec_l0:A_l0→Option Res) (a:A_l0):Option Res:=bif decide (a.2.2.2.1<a.2.2.1) then ((idx a.2.1 a.2.2.2.1).bind fun _=>(idx a.2.1 (Int.toNat a.2.2.2.1:Nat)).bind fun y6=>(Q129.f K ((a.2.2.2.2.1,(a.2.2.2.2.2.1,(true,(a.2.2.2.2.2.2.1,(a.2.2.2.2.2.2.2.1,(a.2.2.2.2.2.2.2.2.1,(a.2.2.2.2.2.2.2.2.2.1,(a.2.2.2.2.2.2.2.2.2.2.1,(a.2.2.2.2.2.2.2.2.2.2.2.1,(a.2.2.2.2.2.2.2.2.2.2.2.2.1,((a.2.2.2.2.2.2.2.2.2.2.2.2.2.1,(a.2.2.2.2.2.2.2.2.2.2.2.2.2.2.1,(a.2.2.2.2.2.2.2.2.2.2.2.2.2.2.2.1,a.2.2.2.2.2.2.2.2.2.2.2.2.2.2.2.2.1))),(a.2.2.2.2.2.2.2.2.2.2.2.2.2.2.2.2.2.1,((a.2.2.2.2.2.2.2.2.2.2.2.2.2.2.2.2.2.2.1,(a.2.2.2.2.2.2.2.2.2.2.2.2.2.2.2.2.2.2.2.1,(a.2.2.2.2.2.2.2.2.2.2.2.2.2.2.2.2.2.2.2.2.1,a.2.2.2.2.2.2.2.2.2.2.2.2.2.2.2.2.2.2.2.2.2.1))),a.2.2.2.2.2.2.2.2.2.2.2.2.2.2.2.2.2.2.2.2.2.2))))))))))))),5,y6,())).bind fun y7=>bif decide ((List.length a.1+List.length ([y7.1.1]))*104≤sizeK) then (rec_l0 (a.1++([y7.1.1]),a.2.1,a.2.2.1,wr .i64 (a.2.2.2.1+1),a.2.2.2.2.1,a.2.2.2.2.2.1,a.2.2.2.2.2.2.1,a.2.2.2.2.2.2.2.1,a.2.2.2.2.2.2.2.2.1,a.2.2.2.2.2.2.2.2.2.1,a.2.2.2.2.2.2.2.2.2.2.1,a.2.2.2.2.2.2.2.2.2.2.2.1,a.2.2.2.2.2.2.2.2.2.2.2.2.1,a.2.2.2.2.2.2.2.2.2.2.2.2.2.1,a.2.2.2.2.2.2.2.2.2.2.2.2.2.2.1,a.2.2.2.2.2.2.2.2.2.2.2.2.2.2.2.1,a.2.2.2.2.2.2.2.2.2.2.2.2.2.2.2.2.1,a.2.2.2.2.2.2.2.2.2.2.2.2.2.2.2.2.2.1,a.2.2.2.2.2.2.2.2.2.2.2.2.2.2.2.2.2.2.1,a.2.2.2.2.2.2.2.2.2.2.2.2.2.2.2.2.2.2.2.1,a.2.2.2.2.2.2.2.2.2.2.2.2.2.2.2.2.2.2.2.2.1,a.2.2.2.2.2.2.2.2.2.2.2.2.2.2.2.2.2.2.2.2.2.1,a.2.2.2.2.2.2.2.2.2.2.2.2.2.2.2.2.2.2.2.2.2.2.1,a.2.2.2.2.2.2.2.2.2.2.2.2.2.2.2.2.2.2.2.2.2.2.2)) else none) else (some ((a.1,()),((a.2.2.2.2.1,(a.2.2.2.2.2.1,(true,(a.2.2.2.2.2.2.1,(a.2.2.2.2.2.2.2.1,(a.2.2.2.2.2.2.2.2.1,(a.2.2.2.2.2.2.2.2.2.1,(a.2.2.2.2.2.2.2.2.2.2.1,(a.2.2.2.2.2.2.2.2.2.2.2.1,(a.2.2.2.2.2.2.2.2.2.2.2.2.1,((a.2.2.2.2.2.2.2.2.2.2.2.2.2.1,(a.2.2.2.2.2.2.2.2.2.2.2.2.2.2.1,(a.2.2.2.2.2.2.2.2.2.2.2.2.2.2.2.1,a.2.2.2.2.2.2.2.2.2.2.2.2.2.2.2.2.1))),(a.2.2.2.2.2.2.2.2.2.2.2.2.2.2.2.2.2.1,((a.2.2.2.2.2.2.2.2.2.2.2.2.2.2.2.2.2.2.1,(a.2.2.2.2.2.2.2.2.2.2.2.2.2.2.2.2.2.2.2.1,(a.2.2.2.2.2.2.2.2.2.2.2.2.2.2.2.2.2.2.2.2.1,a.2.2.2.2.2.2.2.2.2.2.2.2.2.2.2.2.2.2.2.2.2.1))),a.2.2.2.2.2.2.2.2.2.2.2.2.2.2.2.2.2.2.2.2.2.2))))))))))))),())))
noncomputable def l0 (K:Nat) (x:Args ps):A_l0→Option Res:=iterate (fun rec_l0 a=>l0.step K x rec_l0 a) K
noncomputable def pre (K:Nat) (N_l0:A_l0→Option Res) (x:Args ps):Option Res:=(Q126.f K (x.1,())).bind fun y1=>bif !y1.1.1 then (some (([],()),(x.1,()))) else ((Q136.f K (x.1,(x.1.1,(x.1.2.2.2.2.1,(4,x.1.2.2.2.1))),x.1.1,())).bind fun y2=>(Q127.f K (y2.2.1.2.2.2.2.2.2.2.2.1,fun y3=>(Q139.f K (y3.1,(y2.2.1.1,(y2.2.1.2.1,(true,y2.2.1.2.2.2))),())).map fun y=>y.1.1,())).bind fun y4=>N_l0 ([],y4.1.1,(List.length y4.1.1:Int),0,y2.2.1.1,y2.2.1.2.1,y2.2.1.2.2.2.1,y2.2.1.2.2.2.2.1,y2.2.1.2.2.2.2.2.1,y2.2.1.2.2.2.2.2.2.1,y2.2.1.2.2.2.2.2.2.2.1,y2.2.1.2.2.2.2.2.2.2.2.1,y2.2.1.2.2.2.2.2.2.2.2.2.1,y2.2.1.2.2.2.2.2.2.2.2.2.2.1.1,y2.2.1.2.2.2.2.2.2.2.2.2.2.1.2.1,y2.2.1.2.2.2.2.2.2.2.2.2.2.1.2.2.1,y2.2.1.2.2.2.2.2.2.2.2.2.2.1.2.2.2,y2.2.1.2.2.2.2.2.2.2.2.2.2.2.1,y2.2.1.2.2.2.2.2.2.2.2.2.2.2.2.1.1,y2.2.1.2.2.2.2.2.2.2.2.2.2.2.2.1.2.1,y2.2.1.2.2.2.2.2.2.2.2.2.2.2.2.1.2.2.1,y2.2.1.2.2.2.2.2.2.2.2.2.2.2.2.1.2.2.2,y2.2.1.2.2.2.2.2.2.2.2.2.2.2.2.2.1,y2.2.1.2.2.2.2.2.2.2.2.2.2.2.2.2.2))
noncomputable def f (K:Nat) (x:Args ps):Option Res:=pre K (l0 K x) x
noncomputable def c (K:Nat):Ctr:=⟨145,ps,rs,true,f K⟩
noncomputable def G (K:Nat):List Ctr:=[Q126.c K,Q127.c K,Q129.c K,Q136.c K,Q139.c K]
noncomputable def live_l0:List (Nat×List Coe):=[(0,[.keep]),(1,[.keep]),(3,[.own false 53 t32]),(38,[.own false 3 (.int .i64)]),(39,[.keep]),(40,[.keep]),(100000,[.keep,.keep,.keep,.keep,.keep,.keep,.keep,.keep,.own false 132 t2,.own false 173 t3,.keep,.keep,.keep,.keep,.own false 177 t6,.keep,.keep,.keep,.keep,.own false 94 t11,.own false 119 t12]),(100001,[.keep])]
noncomputable def L:List (Nat×List (Nat×List Coe)):=[(8,live_l0)]
noncomputable def body:Code:=bodyOf Tryz.f145
noncomputable abbrev ev (K:Nat):Code→St→(Ex→St→Option Res)→Option Res:=evK (G K) T_D L K
noncomputable abbrev fin:Ex→St→Option Res:=finK T_D ps rs true Tryz.f145.results.toList
noncomputable def S_l0 (x:Args ps) (a:A_l0):St:=mkSt [(0,⟨0,.one,[.bp 100000 0]⟩),(1,⟨0,.one,[.bp 100001 0]⟩),(3,⟨0,.one,[.own false none 53 t32 a.1]⟩),(38,⟨0,.one,[.own false none 3 (.int .i64) a.2.1]⟩),(39,⟨0,.one,[.int .i64 a.2.2.1]⟩),(40,⟨0,.one,[.int .i64 a.2.2.2.1]⟩),(100000,⟨0,.agg,[.int .i64 a.2.2.2.2.1,.bool a.2.2.2.2.2.1,.bool true,.bool a.2.2.2.2.2.2.1,.int .i64 a.2.2.2.2.2.2.2.1,.int .i64 a.2.2.2.2.2.2.2.2.1,.int .i64 a.2.2.2.2.2.2.2.2.2.1,.int .i64 a.2.2.2.2.2.2.2.2.2.2.1,.own false none 132 t2 a.2.2.2.2.2.2.2.2.2.2.2.1,.own false none 173 t3 a.2.2.2.2.2.2.2.2.2.2.2.2.1,.int .i64 a.2.2.2.2.2.2.2.2.2.2.2.2.2.1,.int .i64 a.2.2.2.2.2.2.2.2.2.2.2.2.2.2.1,.int .i64 a.2.2.2.2.2.2.2.2.2.2.2.2.2.2.2.1,.bool a.2.2.2.2.2.2.2.2.2.2.2.2.2.2.2.2.1,.own false none 177 t6 a.2.2.2.2.2.2.2.2.2.2.2.2.2.2.2.2.2.1,.int .i64 a.2.2.2.2.2.2.2.2.2.2.2.2.2.2.2.2.2.2.1,.int .i64 a.2.2.2.2.2.2.2.2.2.2.2.2.2.2.2.2.2.2.2.1,.int .i64 a.2.2.2.2.2.2.2.2.2.2.2.2.2.2.2.2.2.2.2.2.1,.int .i64 a.2.2.2.2.2.2.2.2.2.2.2.2.2.2.2.2.2.2.2.2.2.1,.own false none 94 t11 a.2.2.2.2.2.2.2.2.2.2.2.2.2.2.2.2.2.2.2.2.2.2.1,.own false none 119 t12 a.2.2.2.2.2.2.2.2.2.2.2.2.2.2.2.2.2.2.2.2.2.2.2]⟩),(100001,⟨0,.agg,[.bp 100000 0]⟩)]
noncomputable def k_l0 (K:Nat) (x:Args ps):Ex→St→Option Res:=kAt (ev K) body [1,1,1,1,1,0,1,0] fin
noncomputable def N_l0 (K:Nat) (x:Args ps):A_l0→Option Res:=fun a=>evLoop live_l0 (ev K (sub body [1,1,1,1,1,0,1,0,0])) K (S_l0 x a) (k_l0 K x)
end Q140
namespace Q141
@[reducible] def ps:List PK:=[.rd t75]
@[reducible] def rs:List RK:=[.v t61]
abbrev Res:=Ress rs×Outs ps
abbrev A_l2:=List (Ty.den t6)×List (Ty.den t11)×List (Ty.den t12)×Int
abbrev A_l1:=List (Ty.den t6)×List (Ty.den t11)×Int
abbrev A_l0:=List (Ty.den t6)×Int
noncomputable def l2.step (K:Nat) (x:Args ps) (rec_l2:A_l2→Option Res) (a:A_l2):Option Res:=bif decide (a.2.2.2<(List.length x.1.2.2.2.2.2.2.2.2.2.2.2.2.2.2:Int)) then ((idx x.1.2.2.2.2.2.2.2.2.2.2.2.2.2.2 a.2.2.2).bind fun y5=>(Q0.f K (y5.2,())).bind fun y6=>bif decide ((List.length a.2.2.1+List.length ([(y5.1,y6.1.1)]))*32≤sizeK) then (rec_l2 (a.1,a.2.1,a.2.2.1++([(y5.1,y6.1.1)]),wr .i64 (a.2.2.2+1))) else none) else ((Q0.f K (x.1.2.2.2.2.2.2.2.2.1,())).bind fun y7=>(Q2.f K (x.1.2.2.2.2.2.2.2.2.2.1,())).bind fun y8=>some (((x.1.1,(x.1.2.1,(x.1.2.2.1,(x.1.2.2.2.1,(x.1.2.2.2.2.1,(x.1.2.2.2.2.2.1,(x.1.2.2.2.2.2.2.1,(x.1.2.2.2.2.2.2.2.1,(y7.1.1,(y8.1.1,(x.1.2.2.2.2.2.2.2.2.2.2.1,(a.1,(x.1.2.2.2.2.2.2.2.2.2.2.2.2.1,(a.2.1,a.2.2.1)))))))))))))),()),()))
noncomputable def l2 (K:Nat) (x:Args ps):A_l2→Option Res:=iterate (fun rec_l2 a=>l2.step K x rec_l2 a) K
noncomputable def l1.step (K:Nat) (x:Args ps) (N_l2:A_l2→Option Res) (rec_l1:A_l1→Option Res) (a:A_l1):Option Res:=bif decide (a.2.2<(List.length x.1.2.2.2.2.2.2.2.2.2.2.2.2.2.1:Int)) then ((idx x.1.2.2.2.2.2.2.2.2.2.2.2.2.2.1 a.2.2).bind fun y3=>(Q6.f K (y3.2.2,())).bind fun y4=>bif decide ((List.length a.2.1+List.length ([(y3.1,(y3.2.1,y4.1.1))]))*64≤sizeK) then (rec_l1 (a.1,a.2.1++([(y3.1,(y3.2.1,y4.1.1))]),wr .i64 (a.2.2+1))) else none) else (N_l2 (a.1,a.2.1,[],0))
noncomputable def l1 (K:Nat) (x:Args ps):A_l1→Option Res:=iterate (fun rec_l1 a=>l1.step K x (l2 K x) rec_l1 a) K
noncomputable def l0.step (K:Nat) (x:Args ps) (N_l1:A_l1→Option Res) (rec_l0:A_l0→Option Res) (a:A_l0):Option Res:=bif decide (a.2<(List.length x.1.2.2.2.2.2.2.2.2.2.2.2.1:Int)) then ((idx x.1.2.2.2.2.2.2.2.2.2.2.2.1 a.2).bind fun y1=>(Q6.f K (y1.2.2.2,())).bind fun y2=>bif decide ((List.length a.1+List.length ([(y1.1,(y1.2.1,(y1.2.2.1,y2.1.1)))]))*48≤sizeK) then (rec_l0 (a.1++([(y1.1,(y1.2.1,(y1.2.2.1,y2.1.1)))]),wr .i64 (a.2+1))) else none) else (N_l1 (a.1,[],0))
noncomputable def l0 (K:Nat) (x:Args ps):A_l0→Option Res:=iterate (fun rec_l0 a=>l0.step K x (l1 K x) rec_l0 a) K
noncomputable def pre (K:Nat) (N_l0:A_l0→Option Res) (x:Args ps):Option Res:=N_l0 ([],0)
noncomputable def f (K:Nat) (x:Args ps):Option Res:=pre K (l0 K x) x
noncomputable def c (K:Nat):Ctr:=⟨197,ps,rs,true,f K⟩
noncomputable def G (K:Nat):List Ctr:=[Q6.c K,Q0.c K,Q2.c K]
noncomputable def live_l2:List (Nat×List Coe):=[(1,[.keep]),(2,[.keep]),(3,[.own false 177 t6]),(6,[.own false 94 t11]),(9,[.own false 119 t12]),(45,[.ro true 119 t18]),(46,[.keep]),(47,[.keep]),(100001,[.keep,.keep,.keep,.keep,.keep,.keep,.keep,.keep,.ro true 132 t2,.ro true 173 t3,.keep,.keep,.keep,.keep,.ro true 177 t15,.keep,.keep,.keep,.keep,.ro true 94 t17,.ro true 119 t18]),(100002,[.keep,.keep,.keep,.keep,.keep,.keep,.keep,.keep,.keep,.keep,.keep,.keep,.keep,.keep,.keep,.keep,.keep,.keep,.keep,.keep,.keep])]
noncomputable def live_l1:List (Nat×List Coe):=[(1,[.keep]),(2,[.keep]),(3,[.own false 177 t6]),(6,[.own false 94 t11]),(29,[.ro true 94 t17]),(30,[.keep]),(31,[.keep]),(100001,[.keep,.keep,.keep,.keep,.keep,.keep,.keep,.keep,.ro true 132 t2,.ro true 173 t3,.keep,.keep,.keep,.keep,.ro true 177 t15,.keep,.keep,.keep,.keep,.ro true 94 t17,.ro true 119 t18]),(100002,[.keep,.keep,.keep,.keep,.keep,.keep,.keep,.keep,.keep,.keep,.keep,.keep,.keep,.keep,.keep,.keep,.keep,.keep,.keep,.keep,.keep])]
noncomputable def live_l0:List (Nat×List Coe):=[(1,[.keep]),(2,[.keep]),(3,[.own false 177 t6]),(13,[.ro true 177 t15]),(14,[.keep]),(15,[.keep]),(100001,[.keep,.keep,.keep,.keep,.keep,.keep,.keep,.keep,.ro true 132 t2,.ro true 173 t3,.keep,.keep,.keep,.keep,.ro true 177 t15,.keep,.keep,.keep,.keep,.ro true 94 t17,.ro true 119 t18]),(100002,[.keep,.keep,.keep,.keep,.keep,.keep,.keep,.keep,.keep,.keep,.keep,.keep,.keep,.keep,.keep,.keep,.keep,.keep,.keep,.keep,.keep])]
noncomputable def L:List (Nat×List (Nat×List Coe)):=[(18,live_l2),(11,live_l1),(4,live_l0)]
noncomputable def body:Code:=bodyOf Tryz.f197
noncomputable abbrev ev (K:Nat):Code→St→(Ex→St→Option Res)→Option Res:=evK (G K) T_D L K
noncomputable abbrev fin:Ex→St→Option Res:=finK T_D ps rs true Tryz.f197.results.toList
noncomputable def S_l0 (x:Args ps) (a:A_l0):St:=mkSt [(1,⟨0,.one,[.bp 100001 0]⟩),(2,⟨0,.one,[.bp 100002 0]⟩),(3,⟨0,.one,[.own false none 177 t6 a.1]⟩),(13,⟨0,.one,[.ro true 177 t15 x.1.2.2.2.2.2.2.2.2.2.2.2.1]⟩),(14,⟨0,.one,[.int .i64 (List.length x.1.2.2.2.2.2.2.2.2.2.2.2.1:Int)]⟩),(15,⟨0,.one,[.int .i64 a.2]⟩),(100001,⟨0,.agg,[.int .i64 x.1.1,.bool x.1.2.1,.bool x.1.2.2.1,.bool x.1.2.2.2.1,.int .i64 x.1.2.2.2.2.1,.int .i64 x.1.2.2.2.2.2.1,.int .i64 x.1.2.2.2.2.2.2.1,.int .i64 x.1.2.2.2.2.2.2.2.1,.ro true 132 t2 x.1.2.2.2.2.2.2.2.2.1,.ro true 173 t3 x.1.2.2.2.2.2.2.2.2.2.1,.int .i64 x.1.2.2.2.2.2.2.2.2.2.2.1.1,.int .i64 x.1.2.2.2.2.2.2.2.2.2.2.1.2.1,.int .i64 x.1.2.2.2.2.2.2.2.2.2.2.1.2.2.1,.bool x.1.2.2.2.2.2.2.2.2.2.2.1.2.2.2,.ro true 177 t15 x.1.2.2.2.2.2.2.2.2.2.2.2.1,.int .i64 x.1.2.2.2.2.2.2.2.2.2.2.2.2.1.1,.int .i64 x.1.2.2.2.2.2.2.2.2.2.2.2.2.1.2.1,.int .i64 x.1.2.2.2.2.2.2.2.2.2.2.2.2.1.2.2.1,.int .i64 x.1.2.2.2.2.2.2.2.2.2.2.2.2.1.2.2.2,.ro true 94 t17 x.1.2.2.2.2.2.2.2.2.2.2.2.2.2.1,.ro true 119 t18 x.1.2.2.2.2.2.2.2.2.2.2.2.2.2.2]⟩),(100002,⟨0,.agg,[.int .i64 0,.bool false,.bool false,.bool false,.int .i64 0,.int .i64 0,.int .i64 0,.int .i64 0,.nil,.nil,.int .i64 0,.int .i64 0,.int .i64 0,.bool false,.nil,.int .i64 0,.int .i64 0,.int .i64 0,.int .i64 0,.nil,.nil]⟩)]
noncomputable def S_l1 (x:Args ps) (a:A_l1):St:=mkSt [(1,⟨0,.one,[.bp 100001 0]⟩),(2,⟨0,.one,[.bp 100002 0]⟩),(3,⟨0,.one,[.own false none 177 t6 a.1]⟩),(6,⟨0,.one,[.own false none 94 t11 a.2.1]⟩),(29,⟨0,.one,[.ro true 94 t17 x.1.2.2.2.2.2.2.2.2.2.2.2.2.2.1]⟩),(30,⟨0,.one,[.int .i64 (List.length x.1.2.2.2.2.2.2.2.2.2.2.2.2.2.1:Int)]⟩),(31,⟨0,.one,[.int .i64 a.2.2]⟩),(100001,⟨0,.agg,[.int .i64 x.1.1,.bool x.1.2.1,.bool x.1.2.2.1,.bool x.1.2.2.2.1,.int .i64 x.1.2.2.2.2.1,.int .i64 x.1.2.2.2.2.2.1,.int .i64 x.1.2.2.2.2.2.2.1,.int .i64 x.1.2.2.2.2.2.2.2.1,.ro true 132 t2 x.1.2.2.2.2.2.2.2.2.1,.ro true 173 t3 x.1.2.2.2.2.2.2.2.2.2.1,.int .i64 x.1.2.2.2.2.2.2.2.2.2.2.1.1,.int .i64 x.1.2.2.2.2.2.2.2.2.2.2.1.2.1,.int .i64 x.1.2.2.2.2.2.2.2.2.2.2.1.2.2.1,.bool x.1.2.2.2.2.2.2.2.2.2.2.1.2.2.2,.ro true 177 t15 x.1.2.2.2.2.2.2.2.2.2.2.2.1,.int .i64 x.1.2.2.2.2.2.2.2.2.2.2.2.2.1.1,.int .i64 x.1.2.2.2.2.2.2.2.2.2.2.2.2.1.2.1,.int .i64 x.1.2.2.2.2.2.2.2.2.2.2.2.2.1.2.2.1,.int .i64 x.1.2.2.2.2.2.2.2.2.2.2.2.2.1.2.2.2,.ro true 94 t17 x.1.2.2.2.2.2.2.2.2.2.2.2.2.2.1,.ro true 119 t18 x.1.2.2.2.2.2.2.2.2.2.2.2.2.2.2]⟩),(100002,⟨0,.agg,[.int .i64 0,.bool false,.bool false,.bool false,.int .i64 0,.int .i64 0,.int .i64 0,.int .i64 0,.nil,.nil,.int .i64 0,.int .i64 0,.int .i64 0,.bool false,.nil,.int .i64 0,.int .i64 0,.int .i64 0,.int .i64 0,.nil,.nil]⟩)]
noncomputable def S_l2 (x:Args ps) (a:A_l2):St:=mkSt [(1,⟨0,.one,[.bp 100001 0]⟩),(2,⟨0,.one,[.bp 100002 0]⟩),(3,⟨0,.one,[.own false none 177 t6 a.1]⟩),(6,⟨0,.one,[.own false none 94 t11 a.2.1]⟩),(9,⟨0,.one,[.own false none 119 t12 a.2.2.1]⟩),(45,⟨0,.one,[.ro true 119 t18 x.1.2.2.2.2.2.2.2.2.2.2.2.2.2.2]⟩),(46,⟨0,.one,[.int .i64 (List.length x.1.2.2.2.2.2.2.2.2.2.2.2.2.2.2:Int)]⟩),(47,⟨0,.one,[.int .i64 a.2.2.2]⟩),(100001,⟨0,.agg,[.int .i64 x.1.1,.bool x.1.2.1,.bool x.1.2.2.1,.bool x.1.2.2.2.1,.int .i64 x.1.2.2.2.2.1,.int .i64 x.1.2.2.2.2.2.1,.int .i64 x.1.2.2.2.2.2.2.1,.int .i64 x.1.2.2.2.2.2.2.2.1,.ro true 132 t2 x.1.2.2.2.2.2.2.2.2.1,.ro true 173 t3 x.1.2.2.2.2.2.2.2.2.2.1,.int .i64 x.1.2.2.2.2.2.2.2.2.2.2.1.1,.int .i64 x.1.2.2.2.2.2.2.2.2.2.2.1.2.1,.int .i64 x.1.2.2.2.2.2.2.2.2.2.2.1.2.2.1,.bool x.1.2.2.2.2.2.2.2.2.2.2.1.2.2.2,.ro true 177 t15 x.1.2.2.2.2.2.2.2.2.2.2.2.1,.int .i64 x.1.2.2.2.2.2.2.2.2.2.2.2.2.1.1,.int .i64 x.1.2.2.2.2.2.2.2.2.2.2.2.2.1.2.1,.int .i64 x.1.2.2.2.2.2.2.2.2.2.2.2.2.1.2.2.1,.int .i64 x.1.2.2.2.2.2.2.2.2.2.2.2.2.1.2.2.2,.ro true 94 t17 x.1.2.2.2.2.2.2.2.2.2.2.2.2.2.1,.ro true 119 t18 x.1.2.2.2.2.2.2.2.2.2.2.2.2.2.2]⟩),(100002,⟨0,.agg,[.int .i64 0,.bool false,.bool false,.bool false,.int .i64 0,.int .i64 0,.int .i64 0,.int .i64 0,.nil,.nil,.int .i64 0,.int .i64 0,.int .i64 0,.bool false,.nil,.int .i64 0,.int .i64 0,.int .i64 0,.int .i64 0,.nil,.nil]⟩)]
noncomputable def k_l0 (K:Nat) (x:Args ps):Ex→St→Option Res:=kAt (ev K) body [1,1,0,1,0] fin
noncomputable def N_l0 (K:Nat) (x:Args ps):A_l0→Option Res:=fun a=>evLoop live_l0 (ev K (sub body [1,1,0,1,0,0])) K (S_l0 x a) (k_l0 K x)
noncomputable def k_l1 (K:Nat) (x:Args ps):Ex→St→Option Res:=kAt (ev K) body [1,1,1,1,0,1,0] fin
noncomputable def N_l1 (K:Nat) (x:Args ps):A_l1→Option Res:=fun a=>evLoop live_l1 (ev K (sub body [1,1,1,1,0,1,0,0])) K (S_l1 x a) (k_l1 K x)
noncomputable def k_l2 (K:Nat) (x:Args ps):Ex→St→Option Res:=kAt (ev K) body [1,1,1,1,1,1,0,1,0] fin
noncomputable def N_l2 (K:Nat) (x:Args ps):A_l2→Option Res:=fun a=>evLoop live_l2 (ev K (sub body [1,1,1,1,1,1,0,1,0,0])) K (S_l2 x a) (k_l2 K x)
end Q141
namespace Q142
@[reducible] def ps:List PK:=[.own (.list true 53 t32)]
@[reducible] def rs:List RK:=[.v (.list true 53 t32)]
abbrev Res:=Ress rs×Outs ps
noncomputable def pre (K:Nat) (x:Args ps):Option Res:=bif true&&decide ((List.length x.1:Int)=(List.length x.1:Int))&&decide ((List.length x.1:Int)=(List.length x.1:Int))&&true then (some ((x.1,()),())) else none
noncomputable def f (K:Nat) (x:Args ps):Option Res:=pre K x
noncomputable def c (K:Nat):Ctr:=⟨198,ps,rs,true,f K⟩
noncomputable def G (K:Nat):List Ctr:=[]
noncomputable def L:List (Nat×List (Nat×List Coe)):=[]
end Q142
namespace Q143
@[reducible] def ps:List PK:=[.rd t75,.clo 145 []]
@[reducible] def rs:List RK:=[.v t61,.v (.list true 53 t32)]
abbrev Res:=Ress rs×Outs ps
noncomputable def pre (K:Nat) (x:Args ps):Option Res:=(Q125.f K (x.1,())).bind fun y1=>bif !y1.1.1 then (some (((0,(false,(false,(false,(0,(0,(0,(0,([],([],((0,(0,(0,false))),([],((0,(0,(0,0))),([],[])))))))))))))),[],()),())) else ((Q141.f K (x.1,())).bind fun y2=>(Q140.f K (y2.1.1,())).bind fun y3=>(Q142.f K (y3.1.1,())).bind fun y4=>some ((y3.2.1,y4.1.1,()),()))
noncomputable def f (K:Nat) (x:Args ps):Option Res:=pre K x
noncomputable def c (K:Nat):Ctr:=⟨128,ps,rs,true,f K⟩
noncomputable def G (K:Nat):List Ctr:=[Q125.c K,Q140.c K,Q141.c K,Q142.c K]
noncomputable def L:List (Nat×List (Nat×List Coe)):=[]
end Q143
namespace Q144
@[reducible] def ps:List PK:=[.rd t75]
@[reducible] def rs:List RK:=[.v t61,.v (.list true 53 t32)]
abbrev Res:=Ress rs×Outs ps
noncomputable def pre (K:Nat) (x:Args ps):Option Res:=(Q143.f K (x.1,(),())).bind fun y1=>some ((y1.1.1,y1.1.2.1,()),())
noncomputable def f (K:Nat) (x:Args ps):Option Res:=pre K x
noncomputable def c (K:Nat):Ctr:=⟨54,ps,rs,true,f K⟩
noncomputable def G (K:Nat):List Ctr:=[Q143.c K]
noncomputable def L:List (Nat×List (Nat×List Coe)):=[]
end Q144
namespace Q145
@[reducible] def ps:List PK:=[.rd t47]
@[reducible] def rs:List RK:=[.v .bool]
abbrev Res:=Ress rs×Outs ps
noncomputable def pre (K:Nat) (x:Args ps):Option Res:=(Q16.f K (x.1,1048576,())).bind fun y1=>bif decide (y1.1.1<0) then (some ((true,()),())) else ((Q30.f K (x.1,())).bind fun y2=>(Q87.f K (y2.1.1,())).bind fun y3=>(Q30.f K (x.1,())).bind fun y4=>(Q144.f K (y4.1.1,())).bind fun y5=>(Q44.f K (y5.1.1,y3.1.1,())).bind fun y6=>bif !y6.1.1 then (some ((false,()),())) else ((Q53.f K (y5.1.2.1,y3.1.2.1,())).bind fun y7=>bif !y7.1.1 then (some ((false,()),())) else ((Q30.f K (x.1,())).bind fun y8=>(Q44.f K (y4.1.1,y8.1.1,())).bind fun y9=>bif !y9.1.1 then (some ((false,()),())) else ((Q51.f K (y4.1.1,1,())).bind fun y10=>bif decide (y10.1.1<0) then (some ((false,()),())) else ((Q44.f K (y5.1.1,y3.1.1,())).bind fun y11=>bif !y11.1.1 then (some ((false,()),())) else ((Q53.f K (y5.1.2.1,y3.1.2.1,())).bind fun y12=>bif !y12.1.1 then (some ((false,()),())) else ((Q51.f K (y5.1.1,1,())).bind fun y13=>(Q54.f K (y5.1.2.1,y13.1.1,())).bind fun y14=>(Q61.f K ((y5.1.1.1,(y5.1.1.2.1,(y5.1.1.2.2.1,(y5.1.1.2.2.2.1,(y5.1.1.2.2.2.2.1,(y5.1.1.2.2.2.2.2.1,(y5.1.1.2.2.2.2.2.2.1,(y5.1.1.2.2.2.2.2.2.2.1,(y13.2.1.2.2.2.2.2.2.2.2.1,(y13.2.1.2.2.2.2.2.2.2.2.2.1,(y5.1.1.2.2.2.2.2.2.2.2.2.2.1,(y13.2.1.2.2.2.2.2.2.2.2.2.2.2.1,(y5.1.1.2.2.2.2.2.2.2.2.2.2.2.2.1,y13.2.1.2.2.2.2.2.2.2.2.2.2.2.2.2))))))))))))),1,())).bind fun y15=>bif decide (y15.1.1<0) then (some ((false,()),())) else ((Q62.f K (y14.2.1,y15.1.1,())).bind fun y16=>bif decide (y16.1.1<0) then (some ((false,()),())) else (bif y16.1.1 != y14.1.1 then (some ((false,()),())) else ((Q30.f K (x.1,())).bind fun y17=>(Q144.f K (y17.1.1,())).bind fun y18=>(Q44.f K (y18.1.1,y3.1.1,())).bind fun y19=>bif !y19.1.1 then (some ((false,()),())) else ((Q53.f K (y18.1.2.1,y3.1.2.1,())).bind fun y20=>bif !y20.1.1 then (some ((false,()),())) else ((Q61.f K ((y5.1.1.1,(y5.1.1.2.1,(y5.1.1.2.2.1,(y5.1.1.2.2.2.1,(y5.1.1.2.2.2.2.1,(y5.1.1.2.2.2.2.2.1,(y5.1.1.2.2.2.2.2.2.1,(y5.1.1.2.2.2.2.2.2.2.1,(y13.2.1.2.2.2.2.2.2.2.2.1,(y13.2.1.2.2.2.2.2.2.2.2.2.1,(y5.1.1.2.2.2.2.2.2.2.2.2.2.1,(y13.2.1.2.2.2.2.2.2.2.2.2.2.2.1,(y5.1.1.2.2.2.2.2.2.2.2.2.2.2.2.1,y13.2.1.2.2.2.2.2.2.2.2.2.2.2.2.2))))))))))))),1,())).bind fun y21=>bif decide (y21.1.1<0) then (some ((false,()),())) else ((Q62.f K (y14.2.1,y21.1.1,())).bind fun y22=>bif decide (y22.1.1<0) then (some ((false,()),())) else (bif y22.1.1 != y14.1.1 then (some ((false,()),())) else (some ((true,()),()))))))))))))))))
noncomputable def f (K:Nat) (x:Args ps):Option Res:=pre K x
noncomputable def c (K:Nat):Ctr:=⟨12,ps,rs,true,f K⟩
noncomputable def G (K:Nat):List Ctr:=[Q16.c K,Q30.c K,Q44.c K,Q51.c K,Q53.c K,Q54.c K,Q61.c K,Q62.c K,Q87.c K,Q144.c K]
noncomputable def L:List (Nat×List (Nat×List Coe)):=[]
end Q145
end
end Go.Proofs.YthgnfidnmnkeaaaGreatEv
