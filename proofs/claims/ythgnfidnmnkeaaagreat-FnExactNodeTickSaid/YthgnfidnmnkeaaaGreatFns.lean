/- The functions, on plain values. Printed by run3.py. -/
import Derived.Test.YthgnfidnmnkeaaaGreatFns0
set_option linter.unusedVariables false
set_option maxRecDepth 100000
namespace Go.Proofs.YthgnfidnmnkeaaaGreatEv
open Go Go.Proofs
noncomputable section
namespace Q88
@[reducible] def ps:List PK:=[.rd t78]
@[reducible] def rs:List RK:=[.v t78]
abbrev Res:=ai rs×ah ps
abbrev A_l0:=Int×Int×Bool×Bool×Bool×Int×Int×Int×Int×List (Ty.den t2)×List (Ty.den t3)×Int×Int×Int×Bool×List (Ty.den t15)×Int×Int×Int×Int×List (Ty.den t17)×List (Ty.den t18)
noncomputable def l0.step (K:Nat)(x:aa ps)(rec_l0:A_l0→Option Res)(a:A_l0):Option Res:=bif decide (a.1<(List.length x.1.2.2.2.2.2.2.2.2.2.2.2.1:Int)) then ((idx x.1.2.2.2.2.2.2.2.2.2.2.2.1 a.1).bind fun y1=>(Q87.f K (a.2.2.2.2.2.2.1,y1,())).bind fun y2=>bif y2.1.1 then ((idx x.1.2.2.2.2.2.2.2.2.2.2.2.1 a.1).bind fun y3=>(Q71.f K (a.2.2.2.2.2.2.2.2.2.1,y3.1,())).bind fun y4=>(idx a.2.2.2.2.2.2.2.2.2.1 y4.1.1).bind fun y5=>(Q86.f K ((a.2.1,(a.2.2.1,(a.2.2.2.1,(a.2.2.2.2.1,(a.2.2.2.2.2.1,(a.2.2.2.2.2.2.1,(a.2.2.2.2.2.2.2.1,(a.2.2.2.2.2.2.2.2.1,(a.2.2.2.2.2.2.2.2.2.1,(a.2.2.2.2.2.2.2.2.2.2.1,((a.2.2.2.2.2.2.2.2.2.2.2.1,(a.2.2.2.2.2.2.2.2.2.2.2.2.1,(a.2.2.2.2.2.2.2.2.2.2.2.2.2.1,a.2.2.2.2.2.2.2.2.2.2.2.2.2.2.1))),(a.2.2.2.2.2.2.2.2.2.2.2.2.2.2.2.1,((a.2.2.2.2.2.2.2.2.2.2.2.2.2.2.2.2.1,(a.2.2.2.2.2.2.2.2.2.2.2.2.2.2.2.2.2.1,(a.2.2.2.2.2.2.2.2.2.2.2.2.2.2.2.2.2.2.1,a.2.2.2.2.2.2.2.2.2.2.2.2.2.2.2.2.2.2.2.1))),a.2.2.2.2.2.2.2.2.2.2.2.2.2.2.2.2.2.2.2.2))))))))))))),(y5.1,(y5.2.1,(3,y5.2.2.2))),a.2.1,())).bind fun y6=>rec_l0 (wr .i64 (a.1+1),y6.1.1.1,y6.1.1.2.1,y6.1.1.2.2.1,y6.1.1.2.2.2.1,y6.1.1.2.2.2.2.1,y6.1.1.2.2.2.2.2.1,y6.1.1.2.2.2.2.2.2.1,y6.1.1.2.2.2.2.2.2.2.1,y6.1.1.2.2.2.2.2.2.2.2.1,y6.1.1.2.2.2.2.2.2.2.2.2.1,y6.1.1.2.2.2.2.2.2.2.2.2.2.1.1,y6.1.1.2.2.2.2.2.2.2.2.2.2.1.2.1,y6.1.1.2.2.2.2.2.2.2.2.2.2.1.2.2.1,y6.1.1.2.2.2.2.2.2.2.2.2.2.1.2.2.2,y6.1.1.2.2.2.2.2.2.2.2.2.2.2.1,y6.1.1.2.2.2.2.2.2.2.2.2.2.2.2.1.1,y6.1.1.2.2.2.2.2.2.2.2.2.2.2.2.1.2.1,y6.1.1.2.2.2.2.2.2.2.2.2.2.2.2.1.2.2.1,y6.1.1.2.2.2.2.2.2.2.2.2.2.2.2.1.2.2.2,y6.1.1.2.2.2.2.2.2.2.2.2.2.2.2.2.1,y6.1.1.2.2.2.2.2.2.2.2.2.2.2.2.2.2)) else (rec_l0 (wr .i64 (a.1+1),a.2.1,a.2.2.1,a.2.2.2.1,a.2.2.2.2.1,a.2.2.2.2.2.1,a.2.2.2.2.2.2.1,a.2.2.2.2.2.2.2.1,a.2.2.2.2.2.2.2.2.1,a.2.2.2.2.2.2.2.2.2.1,a.2.2.2.2.2.2.2.2.2.2.1,a.2.2.2.2.2.2.2.2.2.2.2.1,a.2.2.2.2.2.2.2.2.2.2.2.2.1,a.2.2.2.2.2.2.2.2.2.2.2.2.2.1,a.2.2.2.2.2.2.2.2.2.2.2.2.2.2.1,a.2.2.2.2.2.2.2.2.2.2.2.2.2.2.2.1,a.2.2.2.2.2.2.2.2.2.2.2.2.2.2.2.2.1,a.2.2.2.2.2.2.2.2.2.2.2.2.2.2.2.2.2.1,a.2.2.2.2.2.2.2.2.2.2.2.2.2.2.2.2.2.2.1,a.2.2.2.2.2.2.2.2.2.2.2.2.2.2.2.2.2.2.2.1,a.2.2.2.2.2.2.2.2.2.2.2.2.2.2.2.2.2.2.2.2.1,a.2.2.2.2.2.2.2.2.2.2.2.2.2.2.2.2.2.2.2.2.2))) else (some (((a.2.1,(a.2.2.1,(a.2.2.2.1,(a.2.2.2.2.1,(a.2.2.2.2.2.1,(a.2.2.2.2.2.2.1,(a.2.2.2.2.2.2.2.1,(a.2.2.2.2.2.2.2.2.1,(a.2.2.2.2.2.2.2.2.2.1,(a.2.2.2.2.2.2.2.2.2.2.1,((a.2.2.2.2.2.2.2.2.2.2.2.1,(a.2.2.2.2.2.2.2.2.2.2.2.2.1,(a.2.2.2.2.2.2.2.2.2.2.2.2.2.1,a.2.2.2.2.2.2.2.2.2.2.2.2.2.2.1))),(a.2.2.2.2.2.2.2.2.2.2.2.2.2.2.2.1,((a.2.2.2.2.2.2.2.2.2.2.2.2.2.2.2.2.1,(a.2.2.2.2.2.2.2.2.2.2.2.2.2.2.2.2.2.1,(a.2.2.2.2.2.2.2.2.2.2.2.2.2.2.2.2.2.2.1,a.2.2.2.2.2.2.2.2.2.2.2.2.2.2.2.2.2.2.2.1))),a.2.2.2.2.2.2.2.2.2.2.2.2.2.2.2.2.2.2.2.2))))))))))))),()),()))
noncomputable def l0 (K:Nat)(x:aa ps):A_l0→Option Res:=ac (fun rec_l0 a=>l0.step K x rec_l0 a) K
noncomputable def pre (K:Nat)(N_l0:A_l0→Option Res)(x:aa ps):Option Res:=N_l0 (0,x.1.1,x.1.2.1,x.1.2.2.1,x.1.2.2.2.1,x.1.2.2.2.2.1,x.1.2.2.2.2.2.1,x.1.2.2.2.2.2.2.1,x.1.2.2.2.2.2.2.2.1,x.1.2.2.2.2.2.2.2.2.1,x.1.2.2.2.2.2.2.2.2.2.1,x.1.2.2.2.2.2.2.2.2.2.2.1.1,x.1.2.2.2.2.2.2.2.2.2.2.1.2.1,x.1.2.2.2.2.2.2.2.2.2.2.1.2.2.1,x.1.2.2.2.2.2.2.2.2.2.2.1.2.2.2,x.1.2.2.2.2.2.2.2.2.2.2.2.1,x.1.2.2.2.2.2.2.2.2.2.2.2.2.1.1,x.1.2.2.2.2.2.2.2.2.2.2.2.2.1.2.1,x.1.2.2.2.2.2.2.2.2.2.2.2.2.1.2.2.1,x.1.2.2.2.2.2.2.2.2.2.2.2.2.1.2.2.2,x.1.2.2.2.2.2.2.2.2.2.2.2.2.2.1,x.1.2.2.2.2.2.2.2.2.2.2.2.2.2.2)
noncomputable def f (K:Nat)(x:aa ps):Option Res:=pre K (l0 K x) x
noncomputable def c (K:Nat):Ctr:=⟨215,ps,rs,false,f K⟩
end Q88
namespace Q89
@[reducible] def ps:List PK:=[.rd t78,.rd (.int .i64),.rd (.int .i64),.rd (.int .i64),.rd (.int .i64),.rd (.list false 132 t2)]
@[reducible] def rs:List RK:=[.v t25]
abbrev Res:=ai rs×ah ps
noncomputable def f (K:Nat)(x:aa ps):Option Res:=bif decide ((List.length ([]:List (Ty.den t2))+List.length x.2.2.2.2.2.1)*32≤an) then (some (((1,(x.2.1,(x.1.1,(x.2.2.1,(x.2.2.2.1,(x.2.2.2.2.1,(x.1.2.2.2.2.2.2.2.2.2.2.2.2.1,[]++x.2.2.2.2.2.1))))))),()),())) else none
noncomputable def c (K:Nat):Ctr:=⟨127,ps,rs,true,f K⟩
end Q89
namespace Q90
@[reducible] def ps:List PK:=[.rd (.list false 132 t2),.rd (.int .i64)]
@[reducible] def rs:List RK:=[.v .bool]
abbrev Res:=ai rs×ah ps
noncomputable def f (K:Nat)(x:aa ps):Option Res:=(Q71.f K (x.1,x.2.1,())).bind fun y1=>bif decide (y1.1.1≥0) then ((idx x.1 y1.1.1).bind fun y2=>bif y2.2.2.1==1 then (some ((true,()),())) else ((idx x.1 y1.1.1).bind fun y3=>some ((y3.2.2.1==2,()),()))) else (some ((false,()),()))
noncomputable def c (K:Nat):Ctr:=⟨211,ps,rs,true,f K⟩
end Q90
namespace Q91
@[reducible] def ps:List PK:=[.rd t78]
@[reducible] def rs:List RK:=[.v (.list true 3 (.int .i64))]
abbrev Res:=ai rs×ah ps
abbrev A_l0:=List (Ty.den (.int .i64))×Int
noncomputable def l0.step (K:Nat)(x:aa ps)(rec_l0:A_l0→Option Res)(a:A_l0):Option Res:=bif decide (a.2<(List.length x.1.2.2.2.2.2.2.2.2.1:Int)) then (bif decide ((List.length a.1:Int)<2) then ((idx x.1.2.2.2.2.2.2.2.2.1 a.2).bind fun y1=>bif y1.1 != x.1.1 then (bif y1.1 != x.1.2.2.2.2.2.2.2.2.2.2.1.1 then (bif y1.2.2.1==1 then (bif decide ((List.length a.1+List.length ([y1.1]))*8≤an) then (rec_l0 (a.1++([y1.1]),wr .i64 (a.2+1))) else none) else (rec_l0 (a.1,wr .i64 (a.2+1)))) else (rec_l0 (a.1,wr .i64 (a.2+1)))) else (rec_l0 (a.1,wr .i64 (a.2+1)))) else (some ((a.1,()),()))) else (some ((a.1,()),()))
noncomputable def l0 (K:Nat)(x:aa ps):A_l0→Option Res:=ac (fun rec_l0 a=>l0.step K x rec_l0 a) K
noncomputable def pre (K:Nat)(N_l0:A_l0→Option Res)(x:aa ps):Option Res:=N_l0 ([],0)
noncomputable def f (K:Nat)(x:aa ps):Option Res:=pre K (l0 K x) x
noncomputable def c (K:Nat):Ctr:=⟨259,ps,rs,true,f K⟩
end Q91
namespace Q92
@[reducible] def ps:List PK:=[.rd t78]
@[reducible] def rs:List RK:=[.v t78,.v (.list true 53 t25)]
abbrev Res:=ai rs×ah ps
abbrev A_l0:=List (Ty.den t25)×List (Ty.den (.int .i64))×Int
noncomputable def l0.step (K:Nat)(x:aa ps)(rec_l0:A_l0→Option Res)(a:A_l0):Option Res:=bif decide (a.2.2<(List.length a.2.1:Int)) then ((idx a.2.1 a.2.2).bind fun _=>(idx a.2.1 (Int.toNat a.2.2:Nat)).bind fun y7=>(Q89.f K ((x.1.1,(x.1.2.1,(x.1.2.2.1,(x.1.2.2.2.1,(x.1.2.2.2.2.1,(x.1.2.2.2.2.2.1,(x.1.2.2.2.2.2.2.1,(x.1.2.2.2.2.2.2.2.1,(x.1.2.2.2.2.2.2.2.2.1,(x.1.2.2.2.2.2.2.2.2.2.1,((x.1.2.2.2.2.2.2.2.2.2.2.1.1,(x.1.2.2.2.2.2.2.2.2.2.2.1.2.1,(x.1.2.2.2.2.2.2.2.2.2.2.1.2.2.1,true))),x.1.2.2.2.2.2.2.2.2.2.2.2))))))))))),3,y7,x.1.2.2.2.2.2.2.2.2.2.2.1.2.2.1,x.1.2.2.2.2.2.2.2.2.2.2.1.1,[],())).bind fun y8=>bif decide ((List.length a.1+List.length ([y8.1.1]))*104≤an) then (rec_l0 (a.1++([y8.1.1]),a.2.1,wr .i64 (a.2.2+1))) else none) else (some (((x.1.1,(x.1.2.1,(x.1.2.2.1,(x.1.2.2.2.1,(x.1.2.2.2.2.1,(x.1.2.2.2.2.2.1,(x.1.2.2.2.2.2.2.1,(x.1.2.2.2.2.2.2.2.1,(x.1.2.2.2.2.2.2.2.2.1,(x.1.2.2.2.2.2.2.2.2.2.1,((x.1.2.2.2.2.2.2.2.2.2.2.1.1,(x.1.2.2.2.2.2.2.2.2.2.2.1.2.1,(x.1.2.2.2.2.2.2.2.2.2.2.1.2.2.1,true))),x.1.2.2.2.2.2.2.2.2.2.2.2))))))))))),a.1,()),()))
noncomputable def l0 (K:Nat)(x:aa ps):A_l0→Option Res:=ac (fun rec_l0 a=>l0.step K x rec_l0 a) K
noncomputable def pre (K:Nat)(N_l0:A_l0→Option Res)(x:aa ps):Option Res:=(Q90.f K (x.1.2.2.2.2.2.2.2.2.1,x.1.2.2.2.2.2.2.2.2.2.2.1.1,())).bind fun y1=>bif !y1.1.1 then (some (((x.1.1,(x.1.2.1,(x.1.2.2.1,(x.1.2.2.2.1,(x.1.2.2.2.2.1,(x.1.2.2.2.2.2.1,(x.1.2.2.2.2.2.2.1,(x.1.2.2.2.2.2.2.2.1,(x.1.2.2.2.2.2.2.2.2.1,(x.1.2.2.2.2.2.2.2.2.2.1,(((-1),(0,(0,false))),x.1.2.2.2.2.2.2.2.2.2.2.2))))))))))),[],()),())) else (bif decide ((wr .i64 (x.1.2.2.2.2.2.1-x.1.2.2.2.2.2.2.2.2.2.2.1.2.1))≥4) then ((Q71.f K (x.1.2.2.2.2.2.2.2.2.1,x.1.2.2.2.2.2.2.2.2.2.2.1.1,())).bind fun y2=>(idx x.1.2.2.2.2.2.2.2.2.1 y2.1.1).bind fun y3=>bif y3.2.2.1==1 then ((Q86.f K ((x.1.1,(x.1.2.1,(x.1.2.2.1,(x.1.2.2.2.1,(x.1.2.2.2.2.1,(x.1.2.2.2.2.2.1,(x.1.2.2.2.2.2.2.1,(x.1.2.2.2.2.2.2.2.1,(x.1.2.2.2.2.2.2.2.2.1,(x.1.2.2.2.2.2.2.2.2.2.1,(((-1),(0,(0,false))),x.1.2.2.2.2.2.2.2.2.2.2.2))))))))))),(y3.1,(y3.2.1,(2,y3.2.2.2))),x.1.1,())).bind fun y4=>some ((y4.1.1,[],()),())) else (some (((x.1.1,(x.1.2.1,(x.1.2.2.1,(x.1.2.2.2.1,(x.1.2.2.2.2.1,(x.1.2.2.2.2.2.1,(x.1.2.2.2.2.2.2.1,(x.1.2.2.2.2.2.2.2.1,(x.1.2.2.2.2.2.2.2.2.1,(x.1.2.2.2.2.2.2.2.2.2.1,(((-1),(0,(0,false))),x.1.2.2.2.2.2.2.2.2.2.2.2))))))))))),[],()),()))) else (bif decide ((wr .i64 (x.1.2.2.2.2.2.1-x.1.2.2.2.2.2.2.2.2.2.2.1.2.1))≥2) then (bif !x.1.2.2.2.2.2.2.2.2.2.2.1.2.2.2 then ((Q91.f K ((x.1.1,(x.1.2.1,(x.1.2.2.1,(x.1.2.2.2.1,(x.1.2.2.2.2.1,(x.1.2.2.2.2.2.1,(x.1.2.2.2.2.2.2.1,(x.1.2.2.2.2.2.2.2.1,(x.1.2.2.2.2.2.2.2.2.1,(x.1.2.2.2.2.2.2.2.2.2.1,((x.1.2.2.2.2.2.2.2.2.2.2.1.1,(x.1.2.2.2.2.2.2.2.2.2.2.1.2.1,(x.1.2.2.2.2.2.2.2.2.2.2.1.2.2.1,true))),x.1.2.2.2.2.2.2.2.2.2.2.2))))))))))),())).bind fun y5=>N_l0 ([],y5.1.1,0)) else (some ((x.1,[],()),()))) else (some ((x.1,[],()),()))))
noncomputable def f (K:Nat)(x:aa ps):Option Res:=pre K (l0 K x) x
noncomputable def c (K:Nat):Ctr:=⟨216,ps,rs,false,f K⟩
end Q92
namespace Q93
@[reducible] def ps:List PK:=[.rd t78]
@[reducible] def rs:List RK:=[.v (.int .i64)]
abbrev Res:=ai rs×ah ps
abbrev A_l0:=Int
noncomputable def l0.step (K:Nat)(x:aa ps)(rec_l0:A_l0→Option Res)(a:A_l0):Option Res:=bif decide (a≤7) then (bif (Int.tmod (wr .i64 (x.1.2.2.2.2.2.2.2.1+a)) 8) != x.1.1 then ((Q90.f K (x.1.2.2.2.2.2.2.2.2.1,Int.tmod (wr .i64 (x.1.2.2.2.2.2.2.2.1+a)) 8,())).bind fun y1=>bif y1.1.1 then (some ((Int.tmod (wr .i64 (x.1.2.2.2.2.2.2.2.1+a)) 8,()),())) else (rec_l0 (wr .i64 (a+1)))) else (rec_l0 (wr .i64 (a+1)))) else (some (((-1),()),()))
noncomputable def l0 (K:Nat)(x:aa ps):A_l0→Option Res:=ac (fun rec_l0 a=>l0.step K x rec_l0 a) K
noncomputable def pre (K:Nat)(N_l0:A_l0→Option Res)(x:aa ps):Option Res:=N_l0 0
noncomputable def f (K:Nat)(x:aa ps):Option Res:=pre K (l0 K x) x
noncomputable def c (K:Nat):Ctr:=⟨260,ps,rs,true,f K⟩
end Q93
namespace Q94
@[reducible] def ps:List PK:=[.own (.list true 132 t2),.rd t2]
@[reducible] def rs:List RK:=[.v (.list true 132 t2),.v .bool]
abbrev Res:=ai rs×ah ps
abbrev A_l0:=Int
noncomputable def l0.step (K:Nat)(x:aa ps)(rec_l0:A_l0→Option Res)(a:A_l0):Option Res:=bif decide (a<(List.length x.1:Int)) then ((idx x.1 a).bind fun _=>(idx x.1 (Int.toNat a:Nat)).bind fun y8=>bif decide (y8.1<x.2.1.1) then (rec_l0 (wr .i64 (a+1))) else (bif decide (0≤0)&&decide (0≤a)&&decide (a≤(List.length x.1:Int))&&true then (bif decide ((List.length ([]:List (Ty.den t2))+List.length ((x.1.take (Int.toNat a)).drop (Int.toNat 0)))*32≤an) then (bif decide ((List.length ([]++((x.1.take (Int.toNat a)).drop (Int.toNat 0)))+List.length ([x.2.1]))*32≤an) then (bif decide (0≤a)&&decide (a≤(List.length x.1:Int))&&decide ((List.length x.1:Int)≤(List.length x.1:Int))&&true then (bif decide ((List.length (([]++((x.1.take (Int.toNat a)).drop (Int.toNat 0)))++([x.2.1]))+List.length ((x.1.take (Int.toNat (List.length x.1:Int))).drop (Int.toNat a)))*32≤an) then (some (((([]++((x.1.take (Int.toNat a)).drop (Int.toNat 0)))++([x.2.1]))++((x.1.take (Int.toNat (List.length x.1:Int))).drop (Int.toNat a)),true,()),())) else none) else none) else none) else none) else none)) else (bif decide (0≤0)&&decide (0≤a)&&decide (a≤(List.length x.1:Int))&&true then (bif decide ((List.length ([]:List (Ty.den t2))+List.length ((x.1.take (Int.toNat a)).drop (Int.toNat 0)))*32≤an) then (bif decide ((List.length ([]++((x.1.take (Int.toNat a)).drop (Int.toNat 0)))+List.length ([x.2.1]))*32≤an) then (bif decide (0≤a)&&decide (a≤(List.length x.1:Int))&&decide ((List.length x.1:Int)≤(List.length x.1:Int))&&true then (bif decide ((List.length (([]++((x.1.take (Int.toNat a)).drop (Int.toNat 0)))++([x.2.1]))+List.length ((x.1.take (Int.toNat (List.length x.1:Int))).drop (Int.toNat a)))*32≤an) then (some (((([]++((x.1.take (Int.toNat a)).drop (Int.toNat 0)))++([x.2.1]))++((x.1.take (Int.toNat (List.length x.1:Int))).drop (Int.toNat a)),true,()),())) else none) else none) else none) else none) else none)
noncomputable def l0 (K:Nat)(x:aa ps):A_l0→Option Res:=ac (fun rec_l0 a=>l0.step K x rec_l0 a) K
noncomputable def pre (K:Nat)(N_l0:A_l0→Option Res)(x:aa ps):Option Res:=(Q71.f K (x.1,x.2.1.1,())).bind fun y1=>bif decide (y1.1.1≥0) then ((idx x.1 y1.1.1).bind fun _=>(idx x.1 (Int.toNat y1.1.1:Nat)).bind fun y3=>(Q73.f K (x.2.1,y3,())).bind fun y4=>bif !y4.1.1 then (some ((x.1,false,()),())) else (bif decide ((List.length ([]:List (Ty.den t2))+List.length x.1)*32≤an) then ((idx ([]++x.1) y1.1.1).bind fun _=>(idx ([]++x.1) (Int.toNat y1.1.1:Nat)).bind fun y6=>some ((([]++x.1).set (Int.toNat y1.1.1) x.2.1,true,()),())) else none)) else (N_l0 0)
noncomputable def f (K:Nat)(x:aa ps):Option Res:=pre K (l0 K x) x
noncomputable def c (K:Nat):Ctr:=⟨248,ps,rs,true,f K⟩
end Q94
namespace Q95
@[reducible] def ps:List PK:=[.rd (.list false 173 t3),.rd (.list false 4 .bool)]
@[reducible] def rs:List RK:=[.v (.int .i64)]
abbrev Res:=ai rs×ah ps
abbrev A_l0:=Int×Int
noncomputable def l0.step (K:Nat)(x:aa ps)(rec_l0:A_l0→Option Res)(a:A_l0):Option Res:=bif decide (a.2<(List.length x.1:Int)) then ((idx x.2.1 a.2).bind fun y1=>bif !y1 then (bif decide (a.1<0) then (rec_l0 (a.2,wr .i64 (a.2+1))) else ((idx x.1 a.2).bind fun y2=>(idx x.1 a.1).bind fun y3=>bif decide (y2.2>y3.2) then (rec_l0 (a.2,wr .i64 (a.2+1))) else (rec_l0 (a.1,wr .i64 (a.2+1))))) else (rec_l0 (a.1,wr .i64 (a.2+1)))) else (some ((a.1,()),()))
noncomputable def l0 (K:Nat)(x:aa ps):A_l0→Option Res:=ac (fun rec_l0 a=>l0.step K x rec_l0 a) K
noncomputable def pre (K:Nat)(N_l0:A_l0→Option Res)(x:aa ps):Option Res:=N_l0 ((-1),0)
noncomputable def f (K:Nat)(x:aa ps):Option Res:=pre K (l0 K x) x
noncomputable def c (K:Nat):Ctr:=⟨340,ps,rs,true,f K⟩
end Q95
namespace Q96
@[reducible] def ps:List PK:=[.rd (.list false 173 t3),.rd (.int .i64)]
@[reducible] def rs:List RK:=[.v (.list true 132 t2),.v (.list true 173 t3)]
abbrev Res:=ai rs×ah ps
abbrev A_l1:=List (Ty.den .bool)×List (Ty.den t2)×List (Ty.den t3)×Int
abbrev A_l0:=List (Ty.den .bool)×Int
noncomputable def l1.step (K:Nat)(x:aa ps)(rec_l1:A_l1→Option Res)(a:A_l1):Option Res:=bif decide (a.2.2.2<(List.length x.1:Int)) then ((idx x.1 a.2.2.2).bind fun y2=>(idx a.1 a.2.2.2).bind fun _=>(idx a.1 (Int.toNat a.2.2.2:Nat)).bind fun y4=>bif y4 then (bif decide ((List.length a.2.1+List.length ([y2.1]))*32≤an) then (bif decide ((wr .i64 (y2.2-1))>0) then (bif decide ((List.length a.2.2.1+List.length ([(y2.1,wr .i64 (y2.2-1))]))*40≤an) then (rec_l1 (a.1,a.2.1++([y2.1]),a.2.2.1++([(y2.1,wr .i64 (y2.2-1))]),wr .i64 (a.2.2.2+1))) else none) else (rec_l1 (a.1,a.2.1++([y2.1]),a.2.2.1,wr .i64 (a.2.2.2+1)))) else none) else (bif decide (y2.2>0) then (bif decide ((List.length a.2.2.1+List.length ([y2]))*40≤an) then (rec_l1 (a.1,a.2.1,a.2.2.1++([y2]),wr .i64 (a.2.2.2+1))) else none) else (rec_l1 (a.1,a.2.1,a.2.2.1,wr .i64 (a.2.2.2+1))))) else (some ((a.2.1,a.2.2.1,()),()))
noncomputable def l1 (K:Nat)(x:aa ps):A_l1→Option Res:=ac (fun rec_l1 a=>l1.step K x rec_l1 a) K
noncomputable def l0.step (K:Nat)(x:aa ps)(N_l1:A_l1→Option Res)(rec_l0:A_l0→Option Res)(a:A_l0):Option Res:=bif decide (a.2<x.2.1) then ((Q95.f K (x.1,a.1,())).bind fun y1=>bif decide (y1.1.1<0) then (N_l1 (a.1,[],[],0)) else ((idx a.1 y1.1.1).bind fun _=>(idx a.1 (Int.toNat y1.1.1:Nat)).bind fun y6=>rec_l0 (a.1.set (Int.toNat y1.1.1) true,wr .i64 (a.2+1)))) else (N_l1 (a.1,[],[],0))
noncomputable def l0 (K:Nat)(x:aa ps):A_l0→Option Res:=ac (fun rec_l0 a=>l0.step K x (l1 K x) rec_l0 a) K
noncomputable def pre (K:Nat)(N_l0:A_l0→Option Res)(x:aa ps):Option Res:=bif decide (0≤(List.length x.1:Int))&&decide ((List.length x.1:Int)=(List.length x.1:Int))&&decide ((List.length x.1:Int)*(1:Nat)≤an) then (N_l0 (List.replicate (Int.toNat (List.length x.1:Int)) (false:Ty.den .bool),0)) else none
noncomputable def f (K:Nat)(x:aa ps):Option Res:=pre K (l0 K x) x
noncomputable def c (K:Nat):Ctr:=⟨310,ps,rs,true,f K⟩
noncomputable def G (K:Nat):List Ctr:=[Q95.c K]
noncomputable def live_l1:List (Nat×List Coe):=[(0,[.ro true 173 t3]),(6,[.own false 4 .bool]),(9,[.own false 132 t2]),(10,[.own false 173 t3]),(11,[.keep])]
noncomputable def live_l0:List (Nat×List Coe):=[(0,[.ro true 173 t3]),(1,[.keep]),(6,[.own false 4 .bool]),(7,[.keep])]
noncomputable def L:List (Nat×List (Nat×List Coe)):=[(12,live_l1),(4,live_l0)]
noncomputable def body:Code:=c9 Tryz.f310
noncomputable abbrev ev (K:Nat):Code→St→(Ex→St→Option Res)→Option Res:=evK (G K) T_S L K
noncomputable abbrev fin:Ex→St→Option Res:=db T_S ps rs true Tryz.f310.results.toList
noncomputable def S_l0 (x:aa ps)(a:A_l0):St:=aw [(0,⟨0,.one,[.ro true 173 t3 x.1]⟩),(1,⟨0,.one,[.int .i64 x.2.1]⟩),(6,⟨0,.one,[.own false none 4 .bool a.1]⟩),(7,⟨0,.one,[.int .i64 a.2]⟩)]
noncomputable def S_l1 (x:aa ps)(a:A_l1):St:=aw [(0,⟨0,.one,[.ro true 173 t3 x.1]⟩),(6,⟨0,.one,[.own false none 4 .bool a.1]⟩),(9,⟨0,.one,[.own false none 132 t2 a.2.1]⟩),(10,⟨0,.one,[.own false none 173 t3 a.2.2.1]⟩),(11,⟨0,.one,[.int .i64 a.2.2.2]⟩)]
noncomputable def k_l0 (K:Nat)(x:aa ps):Ex→St→Option Res:=kAt (ev K) body [1,1,0,1,0] fin
noncomputable def N_l0 (K:Nat)(x:aa ps):A_l0→Option Res:=fun a=>bu live_l0 (ev K (sub body [1,1,0,1,0,0])) K (S_l0 x a) (k_l0 K x)
noncomputable def k_l1 (K:Nat)(x:aa ps):Ex→St→Option Res:=kAt (ev K) body [1,1,1,1,1,0,1,0] fin
noncomputable def N_l1 (K:Nat)(x:aa ps):A_l1→Option Res:=fun a=>bu live_l1 (ev K (sub body [1,1,1,1,1,0,1,0,0])) K (S_l1 x a) (k_l1 K x)
end Q96
namespace Q97
@[reducible] def ps:List PK:=[.rd t78,.rd (.int .i64)]
@[reducible] def rs:List RK:=[.v (.list true 132 t2),.v t78]
abbrev Res:=ai rs×ah ps
noncomputable def f (K:Nat)(x:aa ps):Option Res:=(Q96.f K (x.1.2.2.2.2.2.2.2.2.2.1,3,())).bind fun y1=>(Q71.f K (x.1.2.2.2.2.2.2.2.2.1,x.2.1,())).bind fun y2=>bif decide (y2.1.1≥0) then ((idx x.1.2.2.2.2.2.2.2.2.1 y2.1.1).bind fun y3=>bif y3.2.2.1==2 then ((idx x.1.2.2.2.2.2.2.2.2.1 y2.1.1).bind fun y4=>(Q94.f K (y1.1.1,y4,())).bind fun y5=>some ((y5.1.1,(x.1.1,(x.1.2.1,(x.1.2.2.1,(x.1.2.2.2.1,(x.1.2.2.2.2.1,(x.1.2.2.2.2.2.1,(x.1.2.2.2.2.2.2.1,(x.1.2.2.2.2.2.2.2.1,(x.1.2.2.2.2.2.2.2.2.1,(y1.1.2.1,x.1.2.2.2.2.2.2.2.2.2.2)))))))))),()),())) else (some ((y1.1.1,(x.1.1,(x.1.2.1,(x.1.2.2.1,(x.1.2.2.2.1,(x.1.2.2.2.2.1,(x.1.2.2.2.2.2.1,(x.1.2.2.2.2.2.2.1,(x.1.2.2.2.2.2.2.2.1,(x.1.2.2.2.2.2.2.2.2.1,(y1.1.2.1,x.1.2.2.2.2.2.2.2.2.2.2)))))))))),()),()))) else (some ((y1.1.1,(x.1.1,(x.1.2.1,(x.1.2.2.1,(x.1.2.2.2.1,(x.1.2.2.2.2.1,(x.1.2.2.2.2.2.1,(x.1.2.2.2.2.2.2.1,(x.1.2.2.2.2.2.2.2.1,(x.1.2.2.2.2.2.2.2.2.1,(y1.1.2.1,x.1.2.2.2.2.2.2.2.2.2.2)))))))))),()),()))
noncomputable def c (K:Nat):Ctr:=⟨261,ps,rs,false,f K⟩
end Q97
namespace Q98
@[reducible] def ps:List PK:=[.rd t78]
@[reducible] def rs:List RK:=[.v t78,.v (.list true 53 t25)]
abbrev Res:=ai rs×ah ps
noncomputable def f (K:Nat)(x:aa ps):Option Res:=(Q93.f K (x.1,())).bind fun y1=>bif decide (y1.1.1<0) then (some ((x.1,[],()),())) else (bif decide (x.1.2.2.2.2.2.2.1≥999999) then (some ((x.1,[],()),())) else ((Q97.f K (x.1,y1.1.1,())).bind fun y2=>(Q89.f K ((y2.1.2.1.1,(y2.1.2.1.2.1,(y2.1.2.1.2.2.1,(y2.1.2.1.2.2.2.1,(y2.1.2.1.2.2.2.2.1,(y2.1.2.1.2.2.2.2.2.1,(wr .i64 (y2.1.2.1.2.2.2.2.2.2.1+1),(wr .i64 (y1.1.1+1),(y2.1.2.1.2.2.2.2.2.2.2.2.1,(y2.1.2.1.2.2.2.2.2.2.2.2.2.1,((y1.1.1,(y2.1.2.1.2.2.2.2.2.1,(wr .i64 (y2.1.2.1.2.2.2.2.2.2.1+1),false))),y2.1.2.1.2.2.2.2.2.2.2.2.2.2.2))))))))))),1,y1.1.1,wr .i64 (y2.1.2.1.2.2.2.2.2.2.1+1),y2.1.2.1.1,y2.1.1,())).bind fun y3=>some (((y2.1.2.1.1,(y2.1.2.1.2.1,(y2.1.2.1.2.2.1,(y2.1.2.1.2.2.2.1,(y2.1.2.1.2.2.2.2.1,(y2.1.2.1.2.2.2.2.2.1,(wr .i64 (y2.1.2.1.2.2.2.2.2.2.1+1),(wr .i64 (y1.1.1+1),(y2.1.2.1.2.2.2.2.2.2.2.2.1,(y2.1.2.1.2.2.2.2.2.2.2.2.2.1,((y1.1.1,(y2.1.2.1.2.2.2.2.2.1,(wr .i64 (y2.1.2.1.2.2.2.2.2.2.1+1),false))),y2.1.2.1.2.2.2.2.2.2.2.2.2.2.2))))))))))),[y3.1.1],()),())))
noncomputable def c (K:Nat):Ctr:=⟨217,ps,rs,false,f K⟩
end Q98
namespace Q99
@[reducible] def ps:List PK:=[.rd t78,.rd (.int .i64)]
@[reducible] def rs:List RK:=[.v (.int .i64)]
abbrev Res:=ai rs×ah ps
abbrev A_l0:=List (Ty.den (.int .i64))×Int
noncomputable def l0.step (K:Nat)(x:aa ps)(rec_l0:A_l0→Option Res)(a:A_l0):Option Res:=bif decide (a.2<(List.length x.1.2.2.2.2.2.2.2.2.1:Int)) then ((idx x.1.2.2.2.2.2.2.2.2.1 a.2).bind fun y1=>bif y1.1 != x.1.1 then ((idx x.1.2.2.2.2.2.2.2.2.1 a.2).bind fun y2=>bif y2.2.2.1 != 4 then ((idx x.1.2.2.2.2.2.2.2.2.1 a.2).bind fun y3=>bif decide ((List.length a.1+List.length ([y3.1]))*8≤an) then (rec_l0 (a.1++([y3.1]),wr .i64 (a.2+1))) else none) else (rec_l0 (a.1,wr .i64 (a.2+1)))) else (rec_l0 (a.1,wr .i64 (a.2+1)))) else (bif (List.length a.1:Int)==0 then (some (((-1),()),())) else (bif decide ((List.length a.1:Int)=0) then none else ((idx a.1 (Int.tmod (aV .i64 x.2.1 255) (List.length a.1:Int))).bind fun _=>(idx a.1 (Int.toNat (Int.tmod (aV .i64 x.2.1 255) (List.length a.1:Int)):Nat)).bind fun y5=>some ((y5,()),()))))
noncomputable def l0 (K:Nat)(x:aa ps):A_l0→Option Res:=ac (fun rec_l0 a=>l0.step K x rec_l0 a) K
noncomputable def pre (K:Nat)(N_l0:A_l0→Option Res)(x:aa ps):Option Res:=N_l0 ([],0)
noncomputable def f (K:Nat)(x:aa ps):Option Res:=pre K (l0 K x) x
noncomputable def c (K:Nat):Ctr:=⟨262,ps,rs,true,f K⟩
end Q99
namespace Q100
@[reducible] def ps:List PK:=[.rd (.list false 132 t2),.rd (.int .i64)]
@[reducible] def rs:List RK:=[.v (.list true 3 (.int .i64))]
abbrev Res:=ai rs×ah ps
abbrev A_l0:=List (Ty.den (.int .i64))×Int
noncomputable def l0.step (K:Nat)(x:aa ps)(rec_l0:A_l0→Option Res)(a:A_l0):Option Res:=bif decide (a.2<(List.length x.1:Int)) then (bif decide ((List.length a.1:Int)<x.2.1) then ((idx x.1 a.2).bind fun y1=>bif y1.2.2.2 then ((idx x.1 a.2).bind fun y2=>bif y2.2.2.1==1 then ((idx x.1 a.2).bind fun y3=>bif decide ((List.length a.1+List.length ([y3.1]))*8≤an) then (rec_l0 (a.1++([y3.1]),wr .i64 (a.2+1))) else none) else (rec_l0 (a.1,wr .i64 (a.2+1)))) else (rec_l0 (a.1,wr .i64 (a.2+1)))) else (some ((a.1,()),()))) else (some ((a.1,()),()))
noncomputable def l0 (K:Nat)(x:aa ps):A_l0→Option Res:=ac (fun rec_l0 a=>l0.step K x rec_l0 a) K
noncomputable def pre (K:Nat)(N_l0:A_l0→Option Res)(x:aa ps):Option Res:=N_l0 ([],0)
noncomputable def f (K:Nat)(x:aa ps):Option Res:=pre K (l0 K x) x
noncomputable def c (K:Nat):Ctr:=⟨93,ps,rs,true,f K⟩
end Q100
namespace Q101
@[reducible] def ps:List PK:=[.rd t78]
@[reducible] def rs:List RK:=[.v .bool]
abbrev Res:=ai rs×ah ps
abbrev A_l0:=List (Ty.den (.int .i64))×Int
noncomputable def l0.step (K:Nat)(x:aa ps)(rec_l0:A_l0→Option Res)(a:A_l0):Option Res:=bif decide (a.2<(List.length a.1:Int)) then ((idx a.1 a.2).bind fun _=>(idx a.1 (Int.toNat a.2:Nat)).bind fun y3=>bif y3==x.1.1 then (some ((true,()),())) else (rec_l0 (a.1,wr .i64 (a.2+1)))) else (some ((false,()),()))
noncomputable def l0 (K:Nat)(x:aa ps):A_l0→Option Res:=ac (fun rec_l0 a=>l0.step K x rec_l0 a) K
noncomputable def pre (K:Nat)(N_l0:A_l0→Option Res)(x:aa ps):Option Res:=(Q100.f K (x.1.2.2.2.2.2.2.2.2.1,2,())).bind fun y1=>N_l0 (y1.1.1,0)
noncomputable def f (K:Nat)(x:aa ps):Option Res:=pre K (l0 K x) x
noncomputable def c (K:Nat):Ctr:=⟨311,ps,rs,true,f K⟩
end Q101
namespace Q102
@[reducible] def ps:List PK:=[.rd t78,.rd (.int .i64),.rd (.int .i64)]
@[reducible] def rs:List RK:=[.v (.int .i64)]
abbrev Res:=ai rs×ah ps
abbrev A_l0:=Int
noncomputable def l0.step (K:Nat)(x:aa ps)(rec_l0:A_l0→Option Res)(a:A_l0):Option Res:=bif decide (a<(List.length x.1.2.2.2.2.2.2.2.2.2.2.2.2.2.2:Int)) then ((idx x.1.2.2.2.2.2.2.2.2.2.2.2.2.2.2 a).bind fun y1=>bif y1.1==x.2.1 then ((idx x.1.2.2.2.2.2.2.2.2.2.2.2.2.2.2 a).bind fun y2=>(Q100.f K (y2.2,2,())).bind fun y3=>bif decide ((List.length y3.1.1:Int)>0) then (bif (aV .i64 x.2.2.1 4)==0 then (bif decide ((List.length y3.1.1:Int)=0) then none else ((idx y3.1.1 (Int.tmod (aV .i64 (Int.fdiv x.2.2.1 (2 ^ 3)) 255) (List.length y3.1.1:Int))).bind fun _=>(idx y3.1.1 (Int.toNat (Int.tmod (aV .i64 (Int.fdiv x.2.2.1 (2 ^ 3)) 255) (List.length y3.1.1:Int)):Nat)).bind fun y5=>some ((y5,()),()))) else (rec_l0 (wr .i64 (a+1)))) else (rec_l0 (wr .i64 (a+1)))) else (rec_l0 (wr .i64 (a+1)))) else (some ((wr .i64 ((wr .i64 (x.2.1*4))+(aV .i64 (Int.fdiv x.2.2.1 (2 ^ 3)) 3)),()),()))
noncomputable def l0 (K:Nat)(x:aa ps):A_l0→Option Res:=ac (fun rec_l0 a=>l0.step K x rec_l0 a) K
noncomputable def pre (K:Nat)(N_l0:A_l0→Option Res)(x:aa ps):Option Res:=N_l0 0
noncomputable def f (K:Nat)(x:aa ps):Option Res:=pre K (l0 K x) x
noncomputable def c (K:Nat):Ctr:=⟨312,ps,rs,true,f K⟩
end Q102
namespace Q103
@[reducible] def ps:List PK:=[.rd t78,.rd (.int .i64)]
@[reducible] def rs:List RK:=[.v (.list true 53 t25)]
abbrev Res:=ai rs×ah ps
abbrev A_l0:=List (Ty.den t25)×Int
noncomputable def l0.step (K:Nat)(x:aa ps)(rec_l0:A_l0→Option Res)(a:A_l0):Option Res:=bif decide (a.2≤1) then ((Q66.f K (x.1.1,())).bind fun y2=>bif a.2 != y2.1.1 then ((Q102.f K (x.1,a.2,x.2.1,())).bind fun y3=>(Q89.f K (x.1,6,y3.1.1,0,x.1.1,x.1.2.2.2.2.2.2.2.2.1,())).bind fun y4=>bif decide ((List.length a.1+List.length ([(2,y4.1.1.2)]))*104≤an) then (rec_l0 (a.1++([(2,y4.1.1.2)]),wr .i64 (a.2+1))) else none) else (rec_l0 (a.1,wr .i64 (a.2+1)))) else (some ((a.1,()),()))
noncomputable def l0 (K:Nat)(x:aa ps):A_l0→Option Res:=ac (fun rec_l0 a=>l0.step K x rec_l0 a) K
noncomputable def pre (K:Nat)(N_l0:A_l0→Option Res)(x:aa ps):Option Res:=(Q101.f K (x.1,())).bind fun y1=>bif !y1.1.1 then (some (([],()),())) else (N_l0 ([],0))
noncomputable def f (K:Nat)(x:aa ps):Option Res:=pre K (l0 K x) x
noncomputable def c (K:Nat):Ctr:=⟨263,ps,rs,true,f K⟩
end Q103
namespace Q104
@[reducible] def ps:List PK:=[.rd t78,.rd (.int .i64)]
@[reducible] def rs:List RK:=[.v (.list true 53 t25)]
abbrev Res:=ai rs×ah ps
noncomputable def f (K:Nat)(x:aa ps):Option Res:=(Q99.f K (x.1,Int.fdiv x.2.1 (2 ^ 2),())).bind fun y1=>bif (aV .i64 x.2.1 3)==0 then (bif decide (y1.1.1≥0) then ((Q89.f K (x.1,4,y1.1.1,0,x.1.1,x.1.2.2.2.2.2.2.2.2.1,())).bind fun y2=>some (([y2.1.1],()),())) else (bif (aV .i64 x.2.1 3)==1 then ((Q103.f K (x.1,Int.fdiv x.2.1 (2 ^ 2),())).bind fun y3=>some ((y3.1.1,()),())) else (bif (aV .i64 x.2.1 3)==2 then (bif decide (y1.1.1≥0) then (bif decide ((List.length x.1.2.2.2.2.2.2.2.2.2.2.2.2.2.2:Int)>0) then (bif decide ((List.length x.1.2.2.2.2.2.2.2.2.2.2.2.2.2.2:Int)=0) then none else ((idx x.1.2.2.2.2.2.2.2.2.2.2.2.2.2.2 (Int.tmod (aV .i64 (Int.fdiv x.2.1 (2 ^ 10)) 255) (List.length x.1.2.2.2.2.2.2.2.2.2.2.2.2.2.2:Int))).bind fun y4=>(Q89.f K (x.1,6,y1.1.1,0,x.1.1,y4.2,())).bind fun y5=>some (([y5.1.1],()),()))) else (some (([],()),()))) else (some (([],()),()))) else (some (([],()),()))))) else (bif (aV .i64 x.2.1 3)==1 then ((Q103.f K (x.1,Int.fdiv x.2.1 (2 ^ 2),())).bind fun y6=>some ((y6.1.1,()),())) else (bif (aV .i64 x.2.1 3)==2 then (bif decide (y1.1.1≥0) then (bif decide ((List.length x.1.2.2.2.2.2.2.2.2.2.2.2.2.2.2:Int)>0) then (bif decide ((List.length x.1.2.2.2.2.2.2.2.2.2.2.2.2.2.2:Int)=0) then none else ((idx x.1.2.2.2.2.2.2.2.2.2.2.2.2.2.2 (Int.tmod (aV .i64 (Int.fdiv x.2.1 (2 ^ 10)) 255) (List.length x.1.2.2.2.2.2.2.2.2.2.2.2.2.2.2:Int))).bind fun y7=>(Q89.f K (x.1,6,y1.1.1,0,x.1.1,y7.2,())).bind fun y8=>some (([y8.1.1],()),()))) else (some (([],()),()))) else (some (([],()),()))) else (some (([],()),()))))
noncomputable def c (K:Nat):Ctr:=⟨218,ps,rs,true,f K⟩
end Q104
namespace Q105
@[reducible] def ps:List PK:=[.rd t78,.rd (.int .i64)]
@[reducible] def rs:List RK:=[.v t78,.v (.list true 53 t25)]
abbrev Res:=ai rs×ah ps
noncomputable def f (K:Nat)(x:aa ps):Option Res:=bif !x.1.2.1 then (some ((x.1,[],()),())) else (bif x.1.2.2.1 then (some ((x.1,[],()),())) else (bif decide (x.1.2.2.2.2.2.1≥999999) then (some ((x.1,[],()),())) else ((Q88.f K ((x.1.1,(x.1.2.1,(x.1.2.2.1,(x.1.2.2.2.1,(x.1.2.2.2.2.1,(wr .i64 (x.1.2.2.2.2.2.1+1),x.1.2.2.2.2.2.2)))))),())).bind fun y1=>bif decide (y1.1.1.2.2.2.2.2.2.2.2.2.2.1.1≥0) then ((Q92.f K (y1.1.1,())).bind fun y2=>bif decide (y2.1.1.2.2.2.2.2.2.2.2.2.2.1.1<0) then ((Q98.f K (y2.1.1,())).bind fun y3=>bif decide ((List.length y2.1.2.1+List.length y3.1.2.1)*104≤an) then ((Q104.f K (y3.1.1,x.2.1,())).bind fun y4=>bif decide ((List.length (y2.1.2.1++y3.1.2.1)+List.length y4.1.1)*104≤an) then (some ((y3.1.1,(y2.1.2.1++y3.1.2.1)++y4.1.1,()),())) else none) else none) else ((Q104.f K (y2.1.1,x.2.1,())).bind fun y5=>bif decide ((List.length y2.1.2.1+List.length y5.1.1)*104≤an) then (some ((y2.1.1,y2.1.2.1++y5.1.1,()),())) else none)) else (bif decide (y1.1.1.2.2.2.2.2.2.2.2.2.2.1.1<0) then ((Q98.f K (y1.1.1,())).bind fun y6=>bif decide ((List.length ([]:List (Ty.den t25))+List.length y6.1.2.1)*104≤an) then ((Q104.f K (y6.1.1,x.2.1,())).bind fun y7=>bif decide ((List.length ([]++y6.1.2.1)+List.length y7.1.1)*104≤an) then (some ((y6.1.1,([]++y6.1.2.1)++y7.1.1,()),())) else none) else none) else ((Q104.f K (y1.1.1,x.2.1,())).bind fun y8=>bif decide ((List.length ([]:List (Ty.den t25))+List.length y8.1.1)*104≤an) then (some ((y1.1.1,[]++y8.1.1,()),())) else none)))))
noncomputable def c (K:Nat):Ctr:=⟨146,ps,rs,false,f K⟩
end Q105
namespace Q106
@[reducible] def ps:List PK:=[.rd t78,.rd (.int .i64)]
@[reducible] def rs:List RK:=[.v t92,.v (.list true 53 t25)]
abbrev Res:=ai rs×ah ps
noncomputable def f (K:Nat)(x:aa ps):Option Res:=(Q81.f K (x.1,())).bind fun y1=>bif !y1.1.1 then (some (((0,(false,(false,(false,(0,(0,(0,(0,([],([],((0,(0,(0,false))),([],((0,(0,(0,0))),([],[])))))))))))))),[],()),())) else ((Q82.f K (x.1,())).bind fun y2=>(Q105.f K (y2.1.1,x.2.1,())).bind fun y3=>(Q82.f K (y3.1.1,())).bind fun y4=>some ((y4.1.1,y3.1.2.1,()),()))
noncomputable def c (K:Nat):Ctr:=⟨55,ps,rs,true,f K⟩
end Q106
namespace Q107
@[reducible] def ps:List PK:=[.rd (.int .i64),.rd (.int .i64),.rd (.int .i64)]
@[reducible] def rs:List RK:=[.v .bool]
abbrev Res:=ai rs×ah ps
noncomputable def f (K:Nat)(x:aa ps):Option Res:=bif decide (x.1≥x.2.1) then (some ((decide (x.1≤x.2.2.1),()),())) else (some ((false,()),()))
noncomputable def c (K:Nat):Ctr:=⟨111,ps,rs,true,f K⟩
end Q107
namespace Q108
@[reducible] def ps:List PK:=[.rd (.int .i64)]
@[reducible] def rs:List RK:=[.v .bool]
abbrev Res:=ai rs×ah ps
noncomputable def f (K:Nat)(x:aa ps):Option Res:=(Q107.f K (x.1,0,7,())).bind fun y1=>some ((y1.1.1,()),())
noncomputable def c (K:Nat):Ctr:=⟨116,ps,rs,true,f K⟩
end Q108
namespace Q109
@[reducible] def ps:List PK:=[.rd t78]
@[reducible] def rs:List RK:=[.v .bool]
abbrev Res:=ai rs×ah ps
noncomputable def f (K:Nat)(x:aa ps):Option Res:=bif !x.1.2.2.1 then (bif x.1.2.2.2.2.1==0 then (bif x.1.2.2.2.2.2.1==0 then (bif x.1.2.2.2.2.2.2.1==0 then (bif x.1.2.2.2.2.2.2.2.1==0 then (bif (wr .i64 ((wr .i64 ((wr .i64 ((wr .i64 ((List.length x.1.2.2.2.2.2.2.2.2.1:Int)+(List.length x.1.2.2.2.2.2.2.2.2.2.1:Int)))+(List.length x.1.2.2.2.2.2.2.2.2.2.2.2.1:Int)))+(List.length x.1.2.2.2.2.2.2.2.2.2.2.2.2.2.1:Int)))+(List.length x.1.2.2.2.2.2.2.2.2.2.2.2.2.2.2:Int)))==0 then (bif Ty.eqv t2 x.1.2.2.2.2.2.2.2.2.2.2.1 (0,(0,(0,false))) then (some ((Ty.eqv t9 x.1.2.2.2.2.2.2.2.2.2.2.2.2.1 (0,(0,(0,0))),()),())) else (some ((false,()),()))) else (some ((false,()),()))) else (some ((false,()),()))) else (some ((false,()),()))) else (some ((false,()),()))) else (some ((false,()),()))) else (some ((false,()),()))
noncomputable def c (K:Nat):Ctr:=⟨170,ps,rs,true,f K⟩
end Q109
namespace Q110
@[reducible] def ps:List PK:=[.rd (.list false 132 t2),.fn [t2] .bool]
@[reducible] def rs:List RK:=[.v (.int .i64)]
abbrev Res:=ai rs×ah ps
abbrev A_l0:=Int
noncomputable def l0.step (K:Nat)(x:aa ps)(rec_l0:A_l0→Option Res)(a:A_l0):Option Res:=bif decide (a<(List.length x.1:Int)) then ((idx x.1 a).bind fun y1=>(x.2.1 (y1,())).bind fun y2=>bif y2 then (some ((a,()),())) else (rec_l0 (wr .i64 (a+1)))) else (some (((-1),()),()))
noncomputable def l0 (K:Nat)(x:aa ps):A_l0→Option Res:=ac (fun rec_l0 a=>l0.step K x rec_l0 a) K
noncomputable def pre (K:Nat)(N_l0:A_l0→Option Res)(x:aa ps):Option Res:=N_l0 0
noncomputable def f (K:Nat)(x:aa ps):Option Res:=pre K (l0 K x) x
noncomputable def c (K:Nat):Ctr:=⟨206,ps,rs,true,f K⟩
end Q110
namespace Q111
@[reducible] def ps:List PK:=[.rd (.list false 132 t2),.fn [t2] .bool]
@[reducible] def rs:List RK:=[.v .bool]
abbrev Res:=ai rs×ah ps
noncomputable def f (K:Nat)(x:aa ps):Option Res:=(Q110.f K (x.1,x.2.1,())).bind fun y1=>some ((decide (y1.1.1≥0),()),())
noncomputable def c (K:Nat):Ctr:=⟨141,ps,rs,true,f K⟩
end Q111
namespace Q112
@[reducible] def ps:List PK:=[.rd (.int .i64)]
@[reducible] def rs:List RK:=[.v (.int .i64)]
abbrev Res:=ai rs×ah ps
noncomputable def f (K:Nat)(x:aa ps):Option Res:=some ((wr .i64 (Int.tdiv x.1 4),()),())
noncomputable def c (K:Nat):Ctr:=⟨91,ps,rs,true,f K⟩
end Q112
namespace Q113
@[reducible] def ps:List PK:=[.rd t2,.rref (.int .i64)]
@[reducible] def rs:List RK:=[.v .bool]
abbrev Res:=ai rs×ah ps
noncomputable def f (K:Nat)(x:aa ps):Option Res:=(Q112.f K (x.1.1,())).bind fun y1=>some ((y1.1.1 != x.2.1,()),())
noncomputable def c (K:Nat):Ctr:=⟨183,ps,rs,true,f K⟩
end Q113
namespace Q114
@[reducible] def ps:List PK:=[.rd (.list false 132 t2),.rd (.int .i64)]
@[reducible] def rs:List RK:=[.v .bool]
abbrev Res:=ai rs×ah ps
noncomputable def f (K:Nat)(x:aa ps):Option Res:=(Q111.f K (x.1,fun y1=>(Q113.f K (y1.1,x.2.1,())).map fun y=>y.1.1,())).bind fun y2=>some ((!y2.1.1,()),())
noncomputable def c (K:Nat):Ctr:=⟨89,ps,rs,true,f K⟩
end Q114
namespace Q115
@[reducible] def ps:List PK:=[.rd t78]
@[reducible] def rs:List RK:=[.v (.int .i64)]
abbrev Res:=ai rs×ah ps
noncomputable def f (K:Nat)(x:aa ps):Option Res:=(Q112.f K (x.1.1,())).bind fun y1=>some ((y1.1.1,()),())
noncomputable def c (K:Nat):Ctr:=⟨90,ps,rs,true,f K⟩
end Q115
namespace Q116
@[reducible] def ps:List PK:=[.rd t2]
@[reducible] def rs:List RK:=[.v .bool]
abbrev Res:=ai rs×ah ps
noncomputable def f (K:Nat)(x:aa ps):Option Res:=(Q108.f K (x.1.1,())).bind fun y1=>bif y1.1.1 then ((Q107.f K (x.1.2.1,0,999,())).bind fun y2=>bif y2.1.1 then ((Q107.f K (x.1.2.2.1,1,4,())).bind fun y3=>some ((y3.1.1,()),())) else (some ((false,()),()))) else (some ((false,()),()))
noncomputable def c (K:Nat):Ctr:=⟨112,ps,rs,true,f K⟩
end Q116
namespace Q117
@[reducible] def ps:List PK:=[.rd (.list false 132 t2)]
@[reducible] def rs:List RK:=[.v .bool]
abbrev Res:=ai rs×ah ps
abbrev A_l0:=Int
noncomputable def l0.step (K:Nat)(x:aa ps)(rec_l0:A_l0→Option Res)(a:A_l0):Option Res:=bif decide (a<(List.length x.1:Int)) then ((idx x.1 a).bind fun y1=>(Q116.f K (y1,())).bind fun y2=>bif !y2.1.1 then (some ((false,()),())) else (bif decide (a>0) then ((idx x.1 (wr .i64 (a-1))).bind fun y3=>bif decide (y1.1≤y3.1) then (some ((false,()),())) else (rec_l0 (wr .i64 (a+1)))) else (rec_l0 (wr .i64 (a+1))))) else (some ((true,()),()))
noncomputable def l0 (K:Nat)(x:aa ps):A_l0→Option Res:=ac (fun rec_l0 a=>l0.step K x rec_l0 a) K
noncomputable def pre (K:Nat)(N_l0:A_l0→Option Res)(x:aa ps):Option Res:=N_l0 0
noncomputable def f (K:Nat)(x:aa ps):Option Res:=pre K (l0 K x) x
noncomputable def c (K:Nat):Ctr:=⟨182,ps,rs,true,f K⟩
end Q117
namespace Q118
@[reducible] def ps:List PK:=[.rd (.list false 132 t2),.rd (.int .i64),.fn [t2,(.int .i64)] (.int .i64)]
@[reducible] def rs:List RK:=[.v (.int .i64),.v .bool]
abbrev Res:=ai rs×ah ps
abbrev A_l0:=Int×Int
noncomputable def l0.step (K:Nat)(x:aa ps)(rec_l0:A_l0→Option Res)(a:A_l0):Option Res:=bif decide (a.1<a.2) then ((idx x.1 (wr .i64 (Int.fdiv (wr .u64 (wr .i64 (a.1+a.2))) (2 ^ 1)))).bind fun y1=>(x.2.2.1 (y1,x.2.1,())).bind fun y2=>bif decide (y2<0) then (rec_l0 (wr .i64 ((wr .i64 (Int.fdiv (wr .u64 (wr .i64 (a.1+a.2))) (2 ^ 1)))+1),a.2)) else (rec_l0 (a.1,wr .i64 (Int.fdiv (wr .u64 (wr .i64 (a.1+a.2))) (2 ^ 1))))) else (bif decide (a.1<(List.length x.1:Int)) then ((idx x.1 a.1).bind fun y3=>(x.2.2.1 (y3,x.2.1,())).bind fun y4=>some ((a.1,y4==0,()),())) else (some ((a.1,false,()),())))
noncomputable def l0 (K:Nat)(x:aa ps):A_l0→Option Res:=ac (fun rec_l0 a=>l0.step K x rec_l0 a) K
noncomputable def pre (K:Nat)(N_l0:A_l0→Option Res)(x:aa ps):Option Res:=N_l0 (0,(List.length x.1:Int))
noncomputable def f (K:Nat)(x:aa ps):Option Res:=pre K (l0 K x) x
noncomputable def c (K:Nat):Ctr:=⟨293,ps,rs,true,f K⟩
end Q118
namespace Q119
@[reducible] def ps:List PK:=[.rd (.int .i64)]
@[reducible] def rs:List RK:=[.v .bool]
abbrev Res:=ai rs×ah ps
noncomputable def f (K:Nat)(x:aa ps):Option Res:=some ((x.1 != x.1,()),())
noncomputable def c (K:Nat):Ctr:=⟨193,ps,rs,true,f K⟩
end Q119
namespace Q120
@[reducible] def ps:List PK:=[.rd (.int .i64),.rd (.int .i64)]
@[reducible] def rs:List RK:=[.v (.int .i64)]
abbrev Res:=ai rs×ah ps
noncomputable def f (K:Nat)(x:aa ps):Option Res:=(Q119.f K (x.1,())).bind fun y1=>(Q119.f K (x.2.1,())).bind fun y2=>bif y1.1.1 then (bif y2.1.1 then (some ((0,()),())) else (some (((-1),()),()))) else (bif y2.1.1 then (some ((1,()),())) else (bif decide (x.1<x.2.1) then (some (((-1),()),())) else (bif decide (x.1>x.2.1) then (some ((1,()),())) else (some ((0,()),())))))
noncomputable def c (K:Nat):Ctr:=⟨123,ps,rs,true,f K⟩
end Q120
namespace Q121
@[reducible] def ps:List PK:=[.rd t2,.rd (.int .i64)]
@[reducible] def rs:List RK:=[.v (.int .i64)]
abbrev Res:=ai rs×ah ps
noncomputable def f (K:Nat)(x:aa ps):Option Res:=(Q120.f K (x.1.1,x.2.1,())).bind fun y1=>some ((y1.1.1,()),())
noncomputable def c (K:Nat):Ctr:=⟨294,ps,rs,true,f K⟩
end Q121
namespace Q122
@[reducible] def ps:List PK:=[.rd (.list false 132 t2),.rd (.int .i64)]
@[reducible] def rs:List RK:=[.v (.int .i64),.v .bool]
abbrev Res:=ai rs×ah ps
noncomputable def f (K:Nat)(x:aa ps):Option Res:=(Q118.f K (x.1,x.2.1,fun y1=>(Q121.f K (y1.1,y1.2.1,())).map fun y=>y.1.1,())).bind fun y2=>some ((y2.1.1,y2.1.2.1,()),())
noncomputable def c (K:Nat):Ctr:=⟨243,ps,rs,true,f K⟩
end Q122
namespace Q123
@[reducible] def ps:List PK:=[.rd (.list false 132 t2),.rd (.int .i64)]
@[reducible] def rs:List RK:=[.v t2,.v .bool]
abbrev Res:=ai rs×ah ps
noncomputable def f (K:Nat)(x:aa ps):Option Res:=(Q117.f K (x.1,())).bind fun y1=>bif !y1.1.1 then (some (((0,(0,(0,false))),false,()),())) else ((Q122.f K (x.1,x.2.1,())).bind fun y2=>bif !y2.1.2.1 then (some (((0,(0,(0,false))),false,()),())) else ((idx x.1 y2.1.1).bind fun y3=>some ((y3,true,()),())))
noncomputable def c (K:Nat):Ctr:=⟨194,ps,rs,true,f K⟩
end Q123
namespace Q124
@[reducible] def ps:List PK:=[.rd (.list false 173 t3),.fn [t3] .bool]
@[reducible] def rs:List RK:=[.v (.int .i64)]
abbrev Res:=ai rs×ah ps
abbrev A_l0:=Int
noncomputable def l0.step (K:Nat)(x:aa ps)(rec_l0:A_l0→Option Res)(a:A_l0):Option Res:=bif decide (a<(List.length x.1:Int)) then ((idx x.1 a).bind fun y1=>(x.2.1 (y1,())).bind fun y2=>bif y2 then (some ((a,()),())) else (rec_l0 (wr .i64 (a+1)))) else (some (((-1),()),()))
noncomputable def l0 (K:Nat)(x:aa ps):A_l0→Option Res:=ac (fun rec_l0 a=>l0.step K x rec_l0 a) K
noncomputable def pre (K:Nat)(N_l0:A_l0→Option Res)(x:aa ps):Option Res:=N_l0 0
noncomputable def f (K:Nat)(x:aa ps):Option Res:=pre K (l0 K x) x
noncomputable def c (K:Nat):Ctr:=⟨290,ps,rs,true,f K⟩
end Q124
namespace Q125
@[reducible] def ps:List PK:=[.rd (.list false 173 t3),.fn [t3] .bool]
@[reducible] def rs:List RK:=[.v .bool]
abbrev Res:=ai rs×ah ps
noncomputable def f (K:Nat)(x:aa ps):Option Res:=(Q124.f K (x.1,x.2.1,())).bind fun y1=>some ((decide (y1.1.1≥0),()),())
noncomputable def c (K:Nat):Ctr:=⟨234,ps,rs,true,f K⟩
end Q125
namespace Q126
@[reducible] def ps:List PK:=[.rd t3]
@[reducible] def rs:List RK:=[.v .bool]
abbrev Res:=ai rs×ah ps
noncomputable def f (K:Nat)(x:aa ps):Option Res:=(Q107.f K (x.1.2,1,4,())).bind fun y1=>some ((!y1.1.1,()),())
noncomputable def c (K:Nat):Ctr:=⟨288,ps,rs,true,f K⟩
end Q126
namespace Q127
@[reducible] def ps:List PK:=[.rd (.list false 173 t3)]
@[reducible] def rs:List RK:=[.v (.list true 132 t2)]
abbrev Res:=ai rs×ah ps
abbrev A_l0:=List (Ty.den t2)×Int
noncomputable def l0.step (K:Nat)(x:aa ps)(rec_l0:A_l0→Option Res)(a:A_l0):Option Res:=bif decide (a.2<(List.length x.1:Int)) then ((idx x.1 a.2).bind fun y1=>bif decide ((List.length a.1+List.length ([y1.1]))*32≤an) then (rec_l0 (a.1++([y1.1]),wr .i64 (a.2+1))) else none) else (some ((a.1,()),()))
noncomputable def l0 (K:Nat)(x:aa ps):A_l0→Option Res:=ac (fun rec_l0 a=>l0.step K x rec_l0 a) K
noncomputable def pre (K:Nat)(N_l0:A_l0→Option Res)(x:aa ps):Option Res:=N_l0 ([],0)
noncomputable def f (K:Nat)(x:aa ps):Option Res:=pre K (l0 K x) x
noncomputable def c (K:Nat):Ctr:=⟨289,ps,rs,true,f K⟩
end Q127
namespace Q128
@[reducible] def ps:List PK:=[.rd (.list false 173 t3)]
@[reducible] def rs:List RK:=[.v .bool]
abbrev Res:=ai rs×ah ps
noncomputable def f (K:Nat)(x:aa ps):Option Res:=(Q127.f K (x.1,())).bind fun y1=>(Q117.f K (y1.1.1,())).bind fun y2=>bif y2.1.1 then ((Q125.f K (x.1,fun y3=>(Q126.f K (y3.1,())).map fun y=>y.1.1,())).bind fun y4=>some ((!y4.1.1,()),())) else (some ((false,()),()))
noncomputable def c (K:Nat):Ctr:=⟨233,ps,rs,true,f K⟩
end Q128
namespace Q129
@[reducible] def ps:List PK:=[.rd (.list false 3 (.int .i64))]
@[reducible] def rs:List RK:=[.v (.int .i64)]
abbrev Res:=ai rs×ah ps
abbrev A_l0:=Int
noncomputable def l0.step (K:Nat)(x:aa ps)(rec_l0:A_l0→Option Res)(a:A_l0):Option Res:=bif decide (a<(List.length x.1:Int)) then ((idx x.1 a).bind fun y1=>bif y1 != 0 then (some ((y1,()),())) else (rec_l0 (wr .i64 (a+1)))) else (some ((0,()),()))
noncomputable def l0 (K:Nat)(x:aa ps):A_l0→Option Res:=ac (fun rec_l0 a=>l0.step K x rec_l0 a) K
noncomputable def pre (K:Nat)(N_l0:A_l0→Option Res)(x:aa ps):Option Res:=N_l0 0
noncomputable def f (K:Nat)(x:aa ps):Option Res:=pre K (l0 K x) x
noncomputable def c (K:Nat):Ctr:=⟨189,ps,rs,true,f K⟩
end Q129
namespace Q130
@[reducible] def ps:List PK:=[.rd t2,.rd t2]
@[reducible] def rs:List RK:=[.v (.int .i64)]
abbrev Res:=ai rs×ah ps
noncomputable def f (K:Nat)(x:aa ps):Option Res:=bif x.1.2.2.2 then (bif !x.2.1.2.2.2 then ((Q120.f K (x.1.1,x.2.1.1,())).bind fun y1=>(Q120.f K (x.1.2.1,x.2.1.2.1,())).bind fun y2=>(Q120.f K (x.1.2.2.1,x.2.1.2.2.1,())).bind fun y3=>(Q129.f K ([y1.1.1,y2.1.1,y3.1.1,1],())).bind fun y4=>some ((y4.1.1,()),())) else (bif x.2.1.2.2.2 then (bif !x.1.2.2.2 then ((Q120.f K (x.1.1,x.2.1.1,())).bind fun y5=>(Q120.f K (x.1.2.1,x.2.1.2.1,())).bind fun y6=>(Q120.f K (x.1.2.2.1,x.2.1.2.2.1,())).bind fun y7=>(Q129.f K ([y5.1.1,y6.1.1,y7.1.1,(-1)],())).bind fun y8=>some ((y8.1.1,()),())) else ((Q120.f K (x.1.1,x.2.1.1,())).bind fun y9=>(Q120.f K (x.1.2.1,x.2.1.2.1,())).bind fun y10=>(Q120.f K (x.1.2.2.1,x.2.1.2.2.1,())).bind fun y11=>(Q129.f K ([y9.1.1,y10.1.1,y11.1.1,0],())).bind fun y12=>some ((y12.1.1,()),()))) else ((Q120.f K (x.1.1,x.2.1.1,())).bind fun y13=>(Q120.f K (x.1.2.1,x.2.1.2.1,())).bind fun y14=>(Q120.f K (x.1.2.2.1,x.2.1.2.2.1,())).bind fun y15=>(Q129.f K ([y13.1.1,y14.1.1,y15.1.1,0],())).bind fun y16=>some ((y16.1.1,()),())))) else (bif x.2.1.2.2.2 then (bif !x.1.2.2.2 then ((Q120.f K (x.1.1,x.2.1.1,())).bind fun y17=>(Q120.f K (x.1.2.1,x.2.1.2.1,())).bind fun y18=>(Q120.f K (x.1.2.2.1,x.2.1.2.2.1,())).bind fun y19=>(Q129.f K ([y17.1.1,y18.1.1,y19.1.1,(-1)],())).bind fun y20=>some ((y20.1.1,()),())) else ((Q120.f K (x.1.1,x.2.1.1,())).bind fun y21=>(Q120.f K (x.1.2.1,x.2.1.2.1,())).bind fun y22=>(Q120.f K (x.1.2.2.1,x.2.1.2.2.1,())).bind fun y23=>(Q129.f K ([y21.1.1,y22.1.1,y23.1.1,0],())).bind fun y24=>some ((y24.1.1,()),()))) else ((Q120.f K (x.1.1,x.2.1.1,())).bind fun y25=>(Q120.f K (x.1.2.1,x.2.1.2.1,())).bind fun y26=>(Q120.f K (x.1.2.2.1,x.2.1.2.2.1,())).bind fun y27=>(Q129.f K ([y25.1.1,y26.1.1,y27.1.1,0],())).bind fun y28=>some ((y28.1.1,()),())))
noncomputable def c (K:Nat):Ctr:=⟨113,ps,rs,true,f K⟩
end Q130
namespace Q131
@[reducible] def ps:List PK:=[.rd t2,.rd t2]
@[reducible] def rs:List RK:=[.v .bool]
abbrev Res:=ai rs×ah ps
noncomputable def f (K:Nat)(x:aa ps):Option Res:=(Q116.f K (x.1,())).bind fun y1=>bif y1.1.1 then ((Q116.f K (x.2.1,())).bind fun y2=>bif y2.1.1 then (bif x.1.1==x.2.1.1 then ((Q130.f K (x.1,x.2.1,())).bind fun y3=>some ((decide (y3.1.1>0),()),())) else (some ((false,()),()))) else (some ((false,()),()))) else (some ((false,()),()))
noncomputable def c (K:Nat):Ctr:=⟨236,ps,rs,true,f K⟩
end Q131
namespace Q132
@[reducible] def ps:List PK:=[.rd t3,.rref t78]
@[reducible] def rs:List RK:=[.v .bool]
abbrev Res:=ai rs×ah ps
noncomputable def f (K:Nat)(x:aa ps):Option Res:=(Q123.f K (x.2.1.2.2.2.2.2.2.2.2.1,x.1.1.1,())).bind fun y1=>bif !y1.1.2.1 then (some ((true,()),())) else ((Q131.f K (x.1.1,y1.1.1,())).bind fun y2=>some ((y2.1.1,()),()))
noncomputable def c (K:Nat):Ctr:=⟨235,ps,rs,true,f K⟩
end Q132
namespace Q133
@[reducible] def ps:List PK:=[.rd t78]
@[reducible] def rs:List RK:=[.v .bool]
abbrev Res:=ai rs×ah ps
noncomputable def f (K:Nat)(x:aa ps):Option Res:=bif x.1.2.2.1 then ((Q123.f K (x.1.2.2.2.2.2.2.2.2.1,x.1.1,())).bind fun y1=>bif !y1.1.2.1 then (some ((false,()),())) else (bif !Ty.eqv t2 y1.1.1 (x.1.1,(x.1.2.2.2.2.1,(4,x.1.2.2.2.1))) then (some ((false,()),())) else ((Q115.f K (x.1,())).bind fun y2=>(Q114.f K (x.1.2.2.2.2.2.2.2.2.1,y2.1.1,())).bind fun y3=>bif !y3.1.1 then (some ((false,()),())) else ((Q128.f K (x.1.2.2.2.2.2.2.2.2.2.1,())).bind fun y4=>bif !y4.1.1 then (some ((false,()),())) else ((Q125.f K (x.1.2.2.2.2.2.2.2.2.2.1,fun y5=>(Q132.f K (y5.1,x.1,())).map fun y=>y.1.1,())).bind fun y6=>some ((!y6.1.1,()),())))))) else ((Q123.f K (x.1.2.2.2.2.2.2.2.2.1,x.1.1,())).bind fun y7=>bif !y7.1.2.1 then (some ((false,()),())) else (bif !Ty.eqv t2 y7.1.1 (x.1.1,(x.1.2.2.2.2.1,(1,x.1.2.2.2.1))) then (some ((false,()),())) else ((Q115.f K (x.1,())).bind fun y8=>(Q114.f K (x.1.2.2.2.2.2.2.2.2.1,y8.1.1,())).bind fun y9=>bif !y9.1.1 then (some ((false,()),())) else ((Q128.f K (x.1.2.2.2.2.2.2.2.2.2.1,())).bind fun y10=>bif !y10.1.1 then (some ((false,()),())) else ((Q125.f K (x.1.2.2.2.2.2.2.2.2.2.1,fun y11=>(Q132.f K (y11.1,x.1,())).map fun y=>y.1.1,())).bind fun y12=>some ((!y12.1.1,()),()))))))
noncomputable def c (K:Nat):Ctr:=⟨171,ps,rs,true,f K⟩
end Q133
namespace Q134
@[reducible] def ps:List PK:=[.rd t78]
@[reducible] def rs:List RK:=[.v .bool]
abbrev Res:=ai rs×ah ps
noncomputable def f (K:Nat)(x:aa ps):Option Res:=bif x.1.2.2.2.2.2.2.2.2.2.2.1.1==(-1) then (some ((Ty.eqv t2 x.1.2.2.2.2.2.2.2.2.2.2.1 ((-1),(0,(0,false))),()),())) else ((Q123.f K (x.1.2.2.2.2.2.2.2.2.1,x.1.2.2.2.2.2.2.2.2.2.2.1.1,())).bind fun y1=>bif y1.1.2.1 then (bif x.1.2.2.2.2.2.2.2.2.2.2.1.1 != x.1.1 then ((Q107.f K (x.1.2.2.2.2.2.2.2.2.2.2.1.2.1,0,x.1.2.2.2.2.2.1,())).bind fun y2=>bif y2.1.1 then ((Q107.f K (x.1.2.2.2.2.2.2.2.2.2.2.1.2.2.1,1,x.1.2.2.2.2.2.2.1,())).bind fun y3=>some ((y3.1.1,()),())) else (some ((false,()),()))) else (some ((false,()),()))) else (some ((false,()),())))
noncomputable def c (K:Nat):Ctr:=⟨172,ps,rs,true,f K⟩
end Q134
namespace Q135
@[reducible] def ps:List PK:=[.rd t78,.rd (.int .i64)]
@[reducible] def rs:List RK:=[.v .bool]
abbrev Res:=ai rs×ah ps
noncomputable def f (K:Nat)(x:aa ps):Option Res:=(Q108.f K (x.2.1,())).bind fun y1=>bif y1.1.1 then ((Q112.f K (x.2.1,())).bind fun y2=>(Q115.f K (x.1,())).bind fun y3=>some ((y2.1.1==y3.1.1,()),())) else (some ((false,()),()))
noncomputable def c (K:Nat):Ctr:=⟨88,ps,rs,true,f K⟩
end Q135
namespace Q136
@[reducible] def ps:List PK:=[.rd t78]
@[reducible] def rs:List RK:=[.v .bool]
abbrev Res:=ai rs×ah ps
abbrev A_l2:=List (Ty.den t2)×Int×List (Ty.den (.int .i64))×Int×Int×Int×Int×Int×List (Ty.den (.int .i64))
abbrev A_l1:=List (Ty.den t2)×Int
abbrev A_l0:=List (Ty.den t2)×Int
noncomputable def l2.step (K:Nat)(x:aa ps)(rec_l1:A_l1→Option Res)(rec_l2:A_l2→Option Res)(a:A_l2):Option Res:=bif decide (a.2.2.2.2.1<a.2.2.2.1) then ((idx a.2.2.1 a.2.2.2.2.1).bind fun y8=>(Q135.f K (x.1,y8,())).bind fun y9=>bif !y9.1.1 then (some ((false,()),())) else (bif decide (a.2.2.2.2.1>0) then ((idx a.2.2.2.2.2.2.2.2 (wr .i64 (a.2.2.2.2.1-1))).bind fun y10=>bif decide (y8≤y10) then (some ((false,()),())) else (rec_l2 (a.1,a.2.1,a.2.2.1,a.2.2.2.1,wr .i64 (a.2.2.2.2.1+1),a.2.2.2.2.2.1,a.2.2.2.2.2.2.1,a.2.2.2.2.2.2.2.1,a.2.2.2.2.2.2.2.2))) else (rec_l2 (a.1,a.2.1,a.2.2.1,a.2.2.2.1,wr .i64 (a.2.2.2.2.1+1),a.2.2.2.2.2.1,a.2.2.2.2.2.2.1,a.2.2.2.2.2.2.2.1,a.2.2.2.2.2.2.2.2)))) else (rec_l1 (a.1,wr .i64 (a.2.1+1)))
noncomputable def l2 (K:Nat)(x:aa ps)(rec_l1:A_l1→Option Res):A_l2→Option Res:=ac (fun rec_l2 a=>l2.step K x rec_l1 rec_l2 a) K
noncomputable def l1.step (K:Nat)(x:aa ps)(N_l2:A_l2→Option Res)(rec_l1:A_l1→Option Res)(a:A_l1):Option Res:=bif decide (a.2<(List.length x.1.2.2.2.2.2.2.2.2.2.2.2.1:Int)) then ((idx x.1.2.2.2.2.2.2.2.2.2.2.2.1 a.2).bind fun y2=>(idx a.1 a.2).bind fun _=>(idx a.1 (Int.toNat a.2:Nat)).bind fun y4=>bif y2.1 != y4.1 then (some ((false,()),())) else ((idx a.1 a.2).bind fun _=>(idx a.1 (Int.toNat a.2:Nat)).bind fun y6=>bif y2.2.1 != y6.2.1 then (some ((false,()),())) else ((Q107.f K (y2.2.2.1,0,x.1.2.2.2.2.2.1,())).bind fun y7=>bif !y7.1.1 then (some ((false,()),())) else (bif (List.length y2.2.2.2:Int)==0 then (some ((false,()),())) else (N_l2 (a.1,a.2,y2.2.2.2,(List.length y2.2.2.2:Int),0,y2.1,y2.2.1,y2.2.2.1,y2.2.2.2)))))) else (some ((true,()),()))
noncomputable def l1 (K:Nat)(x:aa ps):A_l1→Option Res:=ac (fun rec_l1 a=>l1.step K x (l2 K x rec_l1) rec_l1 a) K
noncomputable def l0.step (K:Nat)(x:aa ps)(N_l1:A_l1→Option Res)(rec_l0:A_l0→Option Res)(a:A_l0):Option Res:=bif decide (a.2<(List.length x.1.2.2.2.2.2.2.2.2.1:Int)) then ((idx x.1.2.2.2.2.2.2.2.2.1 a.2).bind fun y1=>bif y1.2.2.1==2 then (bif decide ((List.length a.1+List.length ([y1]))*32≤an) then (rec_l0 (a.1++([y1]),wr .i64 (a.2+1))) else none) else (rec_l0 (a.1,wr .i64 (a.2+1)))) else (bif (List.length x.1.2.2.2.2.2.2.2.2.2.2.2.1:Int) != (List.length a.1:Int) then (some ((false,()),())) else (N_l1 (a.1,0)))
noncomputable def l0 (K:Nat)(x:aa ps):A_l0→Option Res:=ac (fun rec_l0 a=>l0.step K x (l1 K x) rec_l0 a) K
noncomputable def pre (K:Nat)(N_l0:A_l0→Option Res)(x:aa ps):Option Res:=N_l0 ([],0)
noncomputable def f (K:Nat)(x:aa ps):Option Res:=pre K (l0 K x) x
noncomputable def c (K:Nat):Ctr:=⟨173,ps,rs,true,f K⟩
noncomputable def G (K:Nat):List Ctr:=[Q135.c K,Q107.c K]
noncomputable def live_l2:List (Nat×List Coe):=[(1,[.keep]),(3,[.own false 132 t2]),(7,[.keep]),(32,[.ro true 177 t15]),(33,[.keep]),(34,[.keep]),(72,[.ro true 3 (.int .i64)]),(73,[.keep]),(74,[.keep]),(100001,[.keep,.keep,.keep,.keep,.keep,.keep,.keep,.keep,.ro true 132 t2,.ro true 173 t3,.keep,.keep,.keep,.keep,.ro true 177 t15,.keep,.keep,.keep,.keep,.ro true 94 t17,.ro true 119 t18]),(100007,[.keep,.keep,.keep,.ro true 3 (.int .i64)])]
noncomputable def live_l1:List (Nat×List Coe):=[(1,[.keep]),(3,[.own false 132 t2]),(32,[.ro true 177 t15]),(33,[.keep]),(34,[.keep]),(100001,[.keep,.keep,.keep,.keep,.keep,.keep,.keep,.keep,.ro true 132 t2,.ro true 173 t3,.keep,.keep,.keep,.keep,.ro true 177 t15,.keep,.keep,.keep,.keep,.ro true 94 t17,.ro true 119 t18])]
noncomputable def live_l0:List (Nat×List Coe):=[(1,[.keep]),(3,[.own false 132 t2]),(11,[.ro true 132 t2]),(12,[.keep]),(13,[.keep]),(100001,[.keep,.keep,.keep,.keep,.keep,.keep,.keep,.keep,.ro true 132 t2,.ro true 173 t3,.keep,.keep,.keep,.keep,.ro true 177 t15,.keep,.keep,.keep,.keep,.ro true 94 t17,.ro true 119 t18])]
noncomputable def L:List (Nat×List (Nat×List Coe)):=[(17,live_l2),(12,live_l1),(4,live_l0)]
noncomputable def body:Code:=c9 Tryz.f173
noncomputable abbrev ev (K:Nat):Code→St→(Ex→St→Option Res)→Option Res:=evK (G K) T_D L K
noncomputable abbrev fin:Ex→St→Option Res:=db T_D ps rs true Tryz.f173.results.toList
noncomputable def S_l0 (x:aa ps)(a:A_l0):St:=aw [(1,⟨0,.one,[.bp 100001 0]⟩),(3,⟨0,.one,[.own false none 132 t2 a.1]⟩),(11,⟨0,.one,[.ro true 132 t2 x.1.2.2.2.2.2.2.2.2.1]⟩),(12,⟨0,.one,[.int .i64 (List.length x.1.2.2.2.2.2.2.2.2.1:Int)]⟩),(13,⟨0,.one,[.int .i64 a.2]⟩),(100001,⟨0,.agg,[.int .i64 x.1.1,.bool x.1.2.1,.bool x.1.2.2.1,.bool x.1.2.2.2.1,.int .i64 x.1.2.2.2.2.1,.int .i64 x.1.2.2.2.2.2.1,.int .i64 x.1.2.2.2.2.2.2.1,.int .i64 x.1.2.2.2.2.2.2.2.1,.ro true 132 t2 x.1.2.2.2.2.2.2.2.2.1,.ro true 173 t3 x.1.2.2.2.2.2.2.2.2.2.1,.int .i64 x.1.2.2.2.2.2.2.2.2.2.2.1.1,.int .i64 x.1.2.2.2.2.2.2.2.2.2.2.1.2.1,.int .i64 x.1.2.2.2.2.2.2.2.2.2.2.1.2.2.1,.bool x.1.2.2.2.2.2.2.2.2.2.2.1.2.2.2,.ro true 177 t15 x.1.2.2.2.2.2.2.2.2.2.2.2.1,.int .i64 x.1.2.2.2.2.2.2.2.2.2.2.2.2.1.1,.int .i64 x.1.2.2.2.2.2.2.2.2.2.2.2.2.1.2.1,.int .i64 x.1.2.2.2.2.2.2.2.2.2.2.2.2.1.2.2.1,.int .i64 x.1.2.2.2.2.2.2.2.2.2.2.2.2.1.2.2.2,.ro true 94 t17 x.1.2.2.2.2.2.2.2.2.2.2.2.2.2.1,.ro true 119 t18 x.1.2.2.2.2.2.2.2.2.2.2.2.2.2.2]⟩)]
noncomputable def S_l1 (x:aa ps)(a:A_l1):St:=aw [(1,⟨0,.one,[.bp 100001 0]⟩),(3,⟨0,.one,[.own false none 132 t2 a.1]⟩),(32,⟨0,.one,[.ro true 177 t15 x.1.2.2.2.2.2.2.2.2.2.2.2.1]⟩),(33,⟨0,.one,[.int .i64 (List.length x.1.2.2.2.2.2.2.2.2.2.2.2.1:Int)]⟩),(34,⟨0,.one,[.int .i64 a.2]⟩),(100001,⟨0,.agg,[.int .i64 x.1.1,.bool x.1.2.1,.bool x.1.2.2.1,.bool x.1.2.2.2.1,.int .i64 x.1.2.2.2.2.1,.int .i64 x.1.2.2.2.2.2.1,.int .i64 x.1.2.2.2.2.2.2.1,.int .i64 x.1.2.2.2.2.2.2.2.1,.ro true 132 t2 x.1.2.2.2.2.2.2.2.2.1,.ro true 173 t3 x.1.2.2.2.2.2.2.2.2.2.1,.int .i64 x.1.2.2.2.2.2.2.2.2.2.2.1.1,.int .i64 x.1.2.2.2.2.2.2.2.2.2.2.1.2.1,.int .i64 x.1.2.2.2.2.2.2.2.2.2.2.1.2.2.1,.bool x.1.2.2.2.2.2.2.2.2.2.2.1.2.2.2,.ro true 177 t15 x.1.2.2.2.2.2.2.2.2.2.2.2.1,.int .i64 x.1.2.2.2.2.2.2.2.2.2.2.2.2.1.1,.int .i64 x.1.2.2.2.2.2.2.2.2.2.2.2.2.1.2.1,.int .i64 x.1.2.2.2.2.2.2.2.2.2.2.2.2.1.2.2.1,.int .i64 x.1.2.2.2.2.2.2.2.2.2.2.2.2.1.2.2.2,.ro true 94 t17 x.1.2.2.2.2.2.2.2.2.2.2.2.2.2.1,.ro true 119 t18 x.1.2.2.2.2.2.2.2.2.2.2.2.2.2.2]⟩)]
noncomputable def S_l2 (x:aa ps)(a:A_l2):St:=aw [(1,⟨0,.one,[.bp 100001 0]⟩),(3,⟨0,.one,[.own false none 132 t2 a.1]⟩),(7,⟨0,.one,[.bp 100007 0]⟩),(32,⟨0,.one,[.ro true 177 t15 x.1.2.2.2.2.2.2.2.2.2.2.2.1]⟩),(33,⟨0,.one,[.int .i64 (List.length x.1.2.2.2.2.2.2.2.2.2.2.2.1:Int)]⟩),(34,⟨0,.one,[.int .i64 a.2.1]⟩),(72,⟨0,.one,[.ro true 3 (.int .i64) a.2.2.1]⟩),(73,⟨0,.one,[.int .i64 a.2.2.2.1]⟩),(74,⟨0,.one,[.int .i64 a.2.2.2.2.1]⟩),(100001,⟨0,.agg,[.int .i64 x.1.1,.bool x.1.2.1,.bool x.1.2.2.1,.bool x.1.2.2.2.1,.int .i64 x.1.2.2.2.2.1,.int .i64 x.1.2.2.2.2.2.1,.int .i64 x.1.2.2.2.2.2.2.1,.int .i64 x.1.2.2.2.2.2.2.2.1,.ro true 132 t2 x.1.2.2.2.2.2.2.2.2.1,.ro true 173 t3 x.1.2.2.2.2.2.2.2.2.2.1,.int .i64 x.1.2.2.2.2.2.2.2.2.2.2.1.1,.int .i64 x.1.2.2.2.2.2.2.2.2.2.2.1.2.1,.int .i64 x.1.2.2.2.2.2.2.2.2.2.2.1.2.2.1,.bool x.1.2.2.2.2.2.2.2.2.2.2.1.2.2.2,.ro true 177 t15 x.1.2.2.2.2.2.2.2.2.2.2.2.1,.int .i64 x.1.2.2.2.2.2.2.2.2.2.2.2.2.1.1,.int .i64 x.1.2.2.2.2.2.2.2.2.2.2.2.2.1.2.1,.int .i64 x.1.2.2.2.2.2.2.2.2.2.2.2.2.1.2.2.1,.int .i64 x.1.2.2.2.2.2.2.2.2.2.2.2.2.1.2.2.2,.ro true 94 t17 x.1.2.2.2.2.2.2.2.2.2.2.2.2.2.1,.ro true 119 t18 x.1.2.2.2.2.2.2.2.2.2.2.2.2.2.2]⟩),(100007,⟨0,.agg,[.int .i64 a.2.2.2.2.2.1,.int .i64 a.2.2.2.2.2.2.1,.int .i64 a.2.2.2.2.2.2.2.1,.ro true 3 (.int .i64) a.2.2.2.2.2.2.2.2]⟩)]
noncomputable def k_l0 (K:Nat)(x:aa ps):Ex→St→Option Res:=kAt (ev K) body [1,1,0,1,0] fin
noncomputable def N_l0 (K:Nat)(x:aa ps):A_l0→Option Res:=fun a=>bu live_l0 (ev K (sub body [1,1,0,1,0,0])) K (S_l0 x a) (k_l0 K x)
noncomputable def k_l1 (K:Nat)(x:aa ps):Ex→St→Option Res:=kAt (ev K) body [1,1,1,1,0,1,0] fin
noncomputable def N_l1 (K:Nat)(x:aa ps):A_l1→Option Res:=fun a=>bu live_l1 (ev K (sub body [1,1,1,1,0,1,0,0])) K (S_l1 x a) (k_l1 K x)
noncomputable def k_l2 (K:Nat)(x:aa ps)(r_l1:St→Option Res):Ex→St→Option Res:=kAt (ev K) (sub body [1,1,1,1,0,1,0,0]) [1,1,0,0,1,1,1,0] (bL live_l1 r_l1 (k_l1 K x))
noncomputable def N_l2 (K:Nat)(x:aa ps)(r_l1:St→Option Res):A_l2→Option Res:=fun a=>bu live_l2 (ev K (sub body [1,1,1,1,0,1,0,0,1,1,0,0,1,1,1,0,0])) K (S_l2 x a) (k_l2 K x r_l1)
end Q136
namespace Q137
@[reducible] def ps:List PK:=[.rd t9]
@[reducible] def rs:List RK:=[.v .bool]
abbrev Res:=ai rs×ah ps
noncomputable def f (K:Nat)(x:aa ps):Option Res:=(Q107.f K (x.1.1,(-100000),100000,())).bind fun y1=>bif y1.1.1 then ((Q107.f K (x.1.2.1,(-100000),100000,())).bind fun y2=>bif y2.1.1 then ((Q107.f K (x.1.2.2.1,0,100000,())).bind fun y3=>bif y3.1.1 then ((Q107.f K (x.1.2.2.2,1,1500,())).bind fun y4=>some ((y4.1.1,()),())) else (some ((false,()),()))) else (some ((false,()),()))) else (some ((false,()),()))
noncomputable def c (K:Nat):Ctr:=⟨174,ps,rs,true,f K⟩
end Q137
namespace Q138
@[reducible] def ps:List PK:=[.rd t78,.rd (.int .i64)]
@[reducible] def rs:List RK:=[.v .bool]
abbrev Res:=ai rs×ah ps
noncomputable def f (K:Nat)(x:aa ps):Option Res:=(Q135.f K (x.1,x.2.1,())).bind fun y1=>bif y1.1.1 then (some ((x.2.1 != x.1.1,()),())) else (some ((false,()),()))
noncomputable def c (K:Nat):Ctr:=⟨199,ps,rs,true,f K⟩
end Q138
namespace Q139
@[reducible] def ps:List PK:=[.rd (.int .i64)]
@[reducible] def rs:List RK:=[.v .bool]
abbrev Res:=ai rs×ah ps
noncomputable def f (K:Nat)(x:aa ps):Option Res:=(Q107.f K (x.1,1,60000,())).bind fun y1=>some ((!y1.1.1,()),())
noncomputable def c (K:Nat):Ctr:=⟨237,ps,rs,true,f K⟩
end Q139
namespace Q140
@[reducible] def ps:List PK:=[.rd (.list false 3 (.int .i64)),.fn [(.int .i64)] .bool]
@[reducible] def rs:List RK:=[.v (.int .i64)]
abbrev Res:=ai rs×ah ps
abbrev A_l0:=Int
noncomputable def l0.step (K:Nat)(x:aa ps)(rec_l0:A_l0→Option Res)(a:A_l0):Option Res:=bif decide (a<(List.length x.1:Int)) then ((idx x.1 a).bind fun y1=>(x.2.1 (y1,())).bind fun y2=>bif y2 then (some ((a,()),())) else (rec_l0 (wr .i64 (a+1)))) else (some (((-1),()),()))
noncomputable def l0 (K:Nat)(x:aa ps):A_l0→Option Res:=ac (fun rec_l0 a=>l0.step K x rec_l0 a) K
noncomputable def pre (K:Nat)(N_l0:A_l0→Option Res)(x:aa ps):Option Res:=N_l0 0
noncomputable def f (K:Nat)(x:aa ps):Option Res:=pre K (l0 K x) x
noncomputable def c (K:Nat):Ctr:=⟨291,ps,rs,true,f K⟩
end Q140
namespace Q141
@[reducible] def ps:List PK:=[.rd (.list false 3 (.int .i64)),.fn [(.int .i64)] .bool]
@[reducible] def rs:List RK:=[.v .bool]
abbrev Res:=ai rs×ah ps
noncomputable def f (K:Nat)(x:aa ps):Option Res:=(Q140.f K (x.1,x.2.1,())).bind fun y1=>some ((decide (y1.1.1≥0),()),())
noncomputable def c (K:Nat):Ctr:=⟨238,ps,rs,true,f K⟩
end Q141
namespace Q142
@[reducible] def ps:List PK:=[.rd t78]
@[reducible] def rs:List RK:=[.v .bool]
abbrev Res:=ai rs×ah ps
abbrev A_l0:=Int
noncomputable def l0.step (K:Nat)(x:aa ps)(rec_l0:A_l0→Option Res)(a:A_l0):Option Res:=bif decide (a<(List.length x.1.2.2.2.2.2.2.2.2.2.2.2.2.2.1:Int)) then ((idx x.1.2.2.2.2.2.2.2.2.2.2.2.2.2.1 a).bind fun y1=>(Q138.f K (x.1,y1.1,())).bind fun y2=>bif !y2.1.1 then (some ((false,()),())) else (bif decide (a>0) then ((idx x.1.2.2.2.2.2.2.2.2.2.2.2.2.2.1 (wr .i64 (a-1))).bind fun y3=>bif decide (y1.1≤y3.1) then (some ((false,()),())) else ((Q137.f K (y1.2.1,())).bind fun y4=>bif !y4.1.1 then (some ((false,()),())) else ((Q107.f K ((List.length y1.2.2:Int),1,3,())).bind fun y5=>bif !y5.1.1 then (some ((false,()),())) else ((Q141.f K (y1.2.2,fun y6=>(Q139.f K (y6.1,())).map fun y=>y.1.1,())).bind fun y7=>bif y7.1.1 then (some ((false,()),())) else (rec_l0 (wr .i64 (a+1))))))) else ((Q137.f K (y1.2.1,())).bind fun y8=>bif !y8.1.1 then (some ((false,()),())) else ((Q107.f K ((List.length y1.2.2:Int),1,3,())).bind fun y9=>bif !y9.1.1 then (some ((false,()),())) else ((Q141.f K (y1.2.2,fun y10=>(Q139.f K (y10.1,())).map fun y=>y.1.1,())).bind fun y11=>bif y11.1.1 then (some ((false,()),())) else (rec_l0 (wr .i64 (a+1)))))))) else (some ((true,()),()))
noncomputable def l0 (K:Nat)(x:aa ps):A_l0→Option Res:=ac (fun rec_l0 a=>l0.step K x rec_l0 a) K
noncomputable def pre (K:Nat)(N_l0:A_l0→Option Res)(x:aa ps):Option Res:=N_l0 0
noncomputable def f (K:Nat)(x:aa ps):Option Res:=pre K (l0 K x) x
noncomputable def c (K:Nat):Ctr:=⟨175,ps,rs,true,f K⟩
end Q142
namespace Q143
@[reducible] def ps:List PK:=[.rd t78]
@[reducible] def rs:List RK:=[.v .bool]
abbrev Res:=ai rs×ah ps
abbrev A_l0:=Int
noncomputable def l0.step (K:Nat)(x:aa ps)(rec_l0:A_l0→Option Res)(a:A_l0):Option Res:=bif decide (a<(List.length x.1.2.2.2.2.2.2.2.2.2.2.2.2.2.2:Int)) then ((idx x.1.2.2.2.2.2.2.2.2.2.2.2.2.2.2 a).bind fun y1=>(Q112.f K (7,())).bind fun y2=>(Q107.f K (y1.1,0,y2.1.1,())).bind fun y3=>bif !y3.1.1 then (some ((false,()),())) else ((Q115.f K (x.1,())).bind fun y4=>bif y1.1==y4.1.1 then (some ((false,()),())) else (bif decide (a>0) then ((idx x.1.2.2.2.2.2.2.2.2.2.2.2.2.2.2 (wr .i64 (a-1))).bind fun y5=>bif decide (y1.1≤y5.1) then (some ((false,()),())) else (bif (List.length y1.2:Int)==0 then (some ((false,()),())) else ((Q117.f K (y1.2,())).bind fun y6=>bif !y6.1.1 then (some ((false,()),())) else ((Q114.f K (y1.2,y1.1,())).bind fun y7=>bif !y7.1.1 then (some ((false,()),())) else (rec_l0 (wr .i64 (a+1))))))) else (bif (List.length y1.2:Int)==0 then (some ((false,()),())) else ((Q117.f K (y1.2,())).bind fun y8=>bif !y8.1.1 then (some ((false,()),())) else ((Q114.f K (y1.2,y1.1,())).bind fun y9=>bif !y9.1.1 then (some ((false,()),())) else (rec_l0 (wr .i64 (a+1))))))))) else (some ((true,()),()))
noncomputable def l0 (K:Nat)(x:aa ps):A_l0→Option Res:=ac (fun rec_l0 a=>l0.step K x rec_l0 a) K
noncomputable def pre (K:Nat)(N_l0:A_l0→Option Res)(x:aa ps):Option Res:=N_l0 0
noncomputable def f (K:Nat)(x:aa ps):Option Res:=pre K (l0 K x) x
noncomputable def c (K:Nat):Ctr:=⟨176,ps,rs,true,f K⟩
end Q143
namespace Q144
@[reducible] def ps:List PK:=[.rd t78]
@[reducible] def rs:List RK:=[.v .bool]
abbrev Res:=ai rs×ah ps
noncomputable def f (K:Nat)(x:aa ps):Option Res:=(Q108.f K (x.1.1,())).bind fun y1=>bif !y1.1.1 then (some ((false,()),())) else ((Q107.f K (x.1.2.2.2.2.2.1,0,999999,())).bind fun y2=>bif !y2.1.1 then (some ((false,()),())) else ((Q107.f K (x.1.2.2.2.2.2.2.1,0,999999,())).bind fun y3=>bif !y3.1.1 then (some ((false,()),())) else ((Q107.f K (x.1.2.2.2.2.2.2.2.1,0,8,())).bind fun y4=>bif !y4.1.1 then (some ((false,()),())) else ((Q107.f K (x.1.2.2.2.2.1,0,999,())).bind fun y5=>bif !y5.1.1 then (some ((false,()),())) else (bif !x.1.2.1 then ((Q109.f K (x.1,())).bind fun y6=>some ((y6.1.1,()),())) else ((Q133.f K (x.1,())).bind fun y7=>bif y7.1.1 then ((Q134.f K (x.1,())).bind fun y8=>bif y8.1.1 then ((Q136.f K (x.1,())).bind fun y9=>bif y9.1.1 then ((Q137.f K (x.1.2.2.2.2.2.2.2.2.2.2.2.2.1,())).bind fun y10=>bif y10.1.1 then ((Q142.f K (x.1,())).bind fun y11=>bif y11.1.1 then ((Q143.f K (x.1,())).bind fun y12=>some ((y12.1.1,()),())) else (some ((false,()),()))) else (some ((false,()),()))) else (some ((false,()),()))) else (some ((false,()),()))) else (some ((false,()),()))))))))
noncomputable def c (K:Nat):Ctr:=⟨76,ps,rs,true,f K⟩
end Q144
namespace Q145
@[reducible] def ps:List PK:=[.rd t78]
@[reducible] def rs:List RK:=[.v .bool]
abbrev Res:=ai rs×ah ps
noncomputable def f (K:Nat)(x:aa ps):Option Res:=bif x.1.2.1 then (some ((!x.1.2.2.1,()),())) else (some ((false,()),()))
noncomputable def c (K:Nat):Ctr:=⟨87,ps,rs,true,f K⟩
end Q145
namespace Q146
@[reducible] def ps:List PK:=[.rd (.list false 132 t2),.rd t2]
@[reducible] def rs:List RK:=[.v (.list true 132 t2),.v .bool]
abbrev Res:=ai rs×ah ps
noncomputable def f (K:Nat)(x:aa ps):Option Res:=(Q0.f K (x.1,())).bind fun y1=>(Q122.f K (y1.1.1,x.2.1.1,())).bind fun y2=>bif !y2.1.2.1 then ((Q1.f K (y1.1.1,y2.1.1,[x.2.1],())).bind fun y3=>some ((y3.1.1,true,()),())) else ((idx y1.1.1 y2.1.1).bind fun _=>(idx y1.1.1 (Int.toNat y2.1.1:Nat)).bind fun y5=>(Q130.f K (x.2.1,y5,())).bind fun y6=>bif decide (y6.1.1>0) then ((idx y1.1.1 y2.1.1).bind fun _=>(idx y1.1.1 (Int.toNat y2.1.1:Nat)).bind fun y8=>some ((y1.1.1.set (Int.toNat y2.1.1) x.2.1,true,()),())) else (some ((y1.1.1,false,()),())))
noncomputable def c (K:Nat):Ctr:=⟨251,ps,rs,true,f K⟩
end Q146
namespace Q147
@[reducible] def ps:List PK:=[.rd (.list false 173 t3),.rd t2]
@[reducible] def rs:List RK:=[.v (.list true 173 t3)]
abbrev Res:=ai rs×ah ps
noncomputable def f (K:Nat)(x:aa ps):Option Res:=(Q128.f K (x.1,())).bind fun y1=>bif !y1.1.1 then (some (([],()),())) else ((Q116.f K (x.2.1,())).bind fun y2=>bif !y2.1.1 then (some (([],()),())) else ((Q2.f K (x.1,())).bind fun y3=>(Q127.f K (y3.1.1,())).bind fun y4=>(Q122.f K (y4.1.1,x.2.1.1,())).bind fun y5=>bif !y5.1.2.1 then ((Q3.f K (y3.1.1,y5.1.1,[(x.2.1,4)],())).bind fun y6=>some ((y6.1.1,()),())) else ((idx y3.1.1 y5.1.1).bind fun _=>(idx y3.1.1 (Int.toNat y5.1.1:Nat)).bind fun y8=>(Q130.f K (x.2.1,y8.1,())).bind fun y9=>bif decide (y9.1.1>0) then ((idx y3.1.1 y5.1.1).bind fun _=>(idx y3.1.1 (Int.toNat y5.1.1:Nat)).bind fun y11=>some ((y3.1.1.set (Int.toNat y5.1.1) (x.2.1,4),()),())) else (some ((y3.1.1,()),())))))
noncomputable def c (K:Nat):Ctr:=⟨252,ps,rs,true,f K⟩
end Q147
namespace Q148
@[reducible] def ps:List PK:=[.rd (.list false 177 t15),.fn [t15] .bool]
@[reducible] def rs:List RK:=[.v (.int .i64)]
abbrev Res:=ai rs×ah ps
abbrev A_l0:=Int
noncomputable def l0.step (K:Nat)(x:aa ps)(rec_l0:A_l0→Option Res)(a:A_l0):Option Res:=bif decide (a<(List.length x.1:Int)) then ((idx x.1 a).bind fun y1=>(x.2.1 (y1,())).bind fun y2=>bif y2 then (some ((a,()),())) else (rec_l0 (wr .i64 (a+1)))) else (some (((-1),()),()))
noncomputable def l0 (K:Nat)(x:aa ps):A_l0→Option Res:=ac (fun rec_l0 a=>l0.step K x rec_l0 a) K
noncomputable def pre (K:Nat)(N_l0:A_l0→Option Res)(x:aa ps):Option Res:=N_l0 0
noncomputable def f (K:Nat)(x:aa ps):Option Res:=pre K (l0 K x) x
noncomputable def c (K:Nat):Ctr:=⟨307,ps,rs,true,f K⟩
end Q148
namespace Q149
@[reducible] def ps:List PK:=[.rd t15,.rref t2]
@[reducible] def rs:List RK:=[.v .bool]
abbrev Res:=ai rs×ah ps
noncomputable def f (K:Nat)(x:aa ps):Option Res:=some ((x.1.1==x.2.1.1,()),())
noncomputable def c (K:Nat):Ctr:=⟨254,ps,rs,true,f K⟩
end Q149
namespace Q150
@[reducible] def ps:List PK:=[.rd (.list false 177 t15),.rd (.int .i64),.fn [t15,(.int .i64)] (.int .i64)]
@[reducible] def rs:List RK:=[.v (.int .i64),.v .bool]
abbrev Res:=ai rs×ah ps
abbrev A_l0:=Int×Int
noncomputable def l0.step (K:Nat)(x:aa ps)(rec_l0:A_l0→Option Res)(a:A_l0):Option Res:=bif decide (a.1<a.2) then ((idx x.1 (wr .i64 (Int.fdiv (wr .u64 (wr .i64 (a.1+a.2))) (2 ^ 1)))).bind fun y1=>(x.2.2.1 (y1,x.2.1,())).bind fun y2=>bif decide (y2<0) then (rec_l0 (wr .i64 ((wr .i64 (Int.fdiv (wr .u64 (wr .i64 (a.1+a.2))) (2 ^ 1)))+1),a.2)) else (rec_l0 (a.1,wr .i64 (Int.fdiv (wr .u64 (wr .i64 (a.1+a.2))) (2 ^ 1))))) else (bif decide (a.1<(List.length x.1:Int)) then ((idx x.1 a.1).bind fun y3=>(x.2.2.1 (y3,x.2.1,())).bind fun y4=>some ((a.1,y4==0,()),())) else (some ((a.1,false,()),())))
noncomputable def l0 (K:Nat)(x:aa ps):A_l0→Option Res:=ac (fun rec_l0 a=>l0.step K x rec_l0 a) K
noncomputable def pre (K:Nat)(N_l0:A_l0→Option Res)(x:aa ps):Option Res:=N_l0 (0,(List.length x.1:Int))
noncomputable def f (K:Nat)(x:aa ps):Option Res:=pre K (l0 K x) x
noncomputable def c (K:Nat):Ctr:=⟨255,ps,rs,true,f K⟩
end Q150
namespace Q151
@[reducible] def ps:List PK:=[.rd t15,.rd (.int .i64)]
@[reducible] def rs:List RK:=[.v (.int .i64)]
abbrev Res:=ai rs×ah ps
noncomputable def f (K:Nat)(x:aa ps):Option Res:=some ((wr .i64 (x.1.1-x.2.1),()),())
noncomputable def c (K:Nat):Ctr:=⟨256,ps,rs,true,f K⟩
end Q151
namespace Q152
@[reducible] def ps:List PK:=[.iop t64,.rd t2,.rd (.int .i64)]
@[reducible] def rs:List RK:=[]
abbrev Res:=ai rs×ah ps
noncomputable def f (K:Nat)(x:aa ps):Option Res:=(Q123.f K (x.1.2.2.2.2.2.2.2.2.1,x.2.1.1,())).bind fun y1=>(Q146.f K (x.1.2.2.2.2.2.2.2.2.1,x.2.1,())).bind fun y2=>bif !y2.1.2.1 then (some ((),(x.1,()))) else ((Q147.f K (x.1.2.2.2.2.2.2.2.2.2.1,x.2.1,())).bind fun y3=>bif y1.1.1.2.2.1==x.2.1.2.2.1 then (bif y1.1.1.2.1==x.2.1.2.1 then (some ((),((x.1.1,(x.1.2.1,(x.1.2.2.1,(x.1.2.2.2.1,(x.1.2.2.2.2.1,(x.1.2.2.2.2.2.1,(x.1.2.2.2.2.2.2.1,(x.1.2.2.2.2.2.2.2.1,(y2.1.1,(y3.1.1,x.1.2.2.2.2.2.2.2.2.2.2)))))))))),()))) else ((Q4.f K (x.1.2.2.2.2.2.2.2.2.2.2.2.1,fun y4=>(Q149.f K (y4.1,x.2.1,())).map fun y=>y.1.1,())).bind fun y5=>bif x.2.1.2.2.1==2 then ((Q150.f K (y5.1.1,x.2.1.1,fun y6=>(Q151.f K (y6.1,y6.2.1,())).map fun y=>y.1.1,())).bind fun y7=>(Q5.f K (y5.1.1,y7.1.1,[(x.2.1.1,(x.2.1.2.1,(x.1.2.2.2.2.2.1,[x.2.2.1])))],())).bind fun y8=>some ((),((x.1.1,(x.1.2.1,(x.1.2.2.1,(x.1.2.2.2.1,(x.1.2.2.2.2.1,(x.1.2.2.2.2.2.1,(x.1.2.2.2.2.2.2.1,(x.1.2.2.2.2.2.2.2.1,(y2.1.1,(y3.1.1,(x.1.2.2.2.2.2.2.2.2.2.2.1,(y8.1.1,x.1.2.2.2.2.2.2.2.2.2.2.2.2)))))))))))),()))) else (some ((),((x.1.1,(x.1.2.1,(x.1.2.2.1,(x.1.2.2.2.1,(x.1.2.2.2.2.1,(x.1.2.2.2.2.2.1,(x.1.2.2.2.2.2.2.1,(x.1.2.2.2.2.2.2.2.1,(y2.1.1,(y3.1.1,(x.1.2.2.2.2.2.2.2.2.2.2.1,(y5.1.1,x.1.2.2.2.2.2.2.2.2.2.2.2.2)))))))))))),()))))) else ((Q4.f K (x.1.2.2.2.2.2.2.2.2.2.2.2.1,fun y9=>(Q149.f K (y9.1,x.2.1,())).map fun y=>y.1.1,())).bind fun y10=>bif x.2.1.2.2.1==2 then ((Q150.f K (y10.1.1,x.2.1.1,fun y11=>(Q151.f K (y11.1,y11.2.1,())).map fun y=>y.1.1,())).bind fun y12=>(Q5.f K (y10.1.1,y12.1.1,[(x.2.1.1,(x.2.1.2.1,(x.1.2.2.2.2.2.1,[x.2.2.1])))],())).bind fun y13=>some ((),((x.1.1,(x.1.2.1,(x.1.2.2.1,(x.1.2.2.2.1,(x.1.2.2.2.2.1,(x.1.2.2.2.2.2.1,(x.1.2.2.2.2.2.2.1,(x.1.2.2.2.2.2.2.2.1,(y2.1.1,(y3.1.1,(x.1.2.2.2.2.2.2.2.2.2.2.1,(y13.1.1,x.1.2.2.2.2.2.2.2.2.2.2.2.2)))))))))))),()))) else (some ((),((x.1.1,(x.1.2.1,(x.1.2.2.1,(x.1.2.2.2.1,(x.1.2.2.2.2.1,(x.1.2.2.2.2.2.1,(x.1.2.2.2.2.2.2.1,(x.1.2.2.2.2.2.2.2.1,(y2.1.1,(y3.1.1,(x.1.2.2.2.2.2.2.2.2.2.2.1,(y10.1.1,x.1.2.2.2.2.2.2.2.2.2.2.2.2)))))))))))),())))))
noncomputable def c (K:Nat):Ctr:=⟨212,ps,rs,true,f K⟩
end Q152
namespace Q153
@[reducible] def ps:List PK:=[.rd t35]
@[reducible] def rs:List RK:=[.v (.int .i64)]
abbrev Res:=ai rs×ah ps
noncomputable def f (K:Nat)(x:aa ps):Option Res:=some ((bif decide ((wr .i64 ((wr .i64 (6-((x.1.2.2.2:Nat):Int)))+1))<3) then 3 else wr .i64 ((wr .i64 (6-((x.1.2.2.2:Nat):Int)))+1),()),())
noncomputable def c (K:Nat):Ctr:=⟨265,ps,rs,true,f K⟩
end Q153
namespace Q154
@[reducible] def ps:List PK:=[.iop t64]
@[reducible] def rs:List RK:=[]
abbrev Res:=ai rs×ah ps
abbrev A_l0:=List (Ty.den t35)×Int×Int×Int×Bool×Bool×Bool×Int×Int×Int×Int×List (Ty.den t2)×List (Ty.den t3)×Int×Int×Int×Bool×List (Ty.den t6)×Int×Int×Int×Int×List (Ty.den t11)×List (Ty.den t12)
noncomputable def l0.step (K:Nat)(x:aa ps)(rec_l0:A_l0→Option Res)(a:A_l0):Option Res:=bif decide (a.2.2.1<a.2.1) then ((idx a.1 a.2.2.1).bind fun _=>(idx a.1 (Int.toNat a.2.2.1:Nat)).bind fun y3=>(Q153.f K (y3,())).bind fun y4=>bif decide ((wr .i64 (a.2.2.2.2.2.2.2.2.1-y3.2.2.1))<y4.1.1) then (rec_l0 (a.1,a.2.1,wr .i64 (a.2.2.1+1),a.2.2.2.1,a.2.2.2.2.1,a.2.2.2.2.2.1,a.2.2.2.2.2.2.1,a.2.2.2.2.2.2.2.1,a.2.2.2.2.2.2.2.2.1,a.2.2.2.2.2.2.2.2.2.1,a.2.2.2.2.2.2.2.2.2.2.1,a.2.2.2.2.2.2.2.2.2.2.2.1,a.2.2.2.2.2.2.2.2.2.2.2.2.1,a.2.2.2.2.2.2.2.2.2.2.2.2.2.1,a.2.2.2.2.2.2.2.2.2.2.2.2.2.2.1,a.2.2.2.2.2.2.2.2.2.2.2.2.2.2.2.1,a.2.2.2.2.2.2.2.2.2.2.2.2.2.2.2.2.1,a.2.2.2.2.2.2.2.2.2.2.2.2.2.2.2.2.2.1,a.2.2.2.2.2.2.2.2.2.2.2.2.2.2.2.2.2.2.1,a.2.2.2.2.2.2.2.2.2.2.2.2.2.2.2.2.2.2.2.1,a.2.2.2.2.2.2.2.2.2.2.2.2.2.2.2.2.2.2.2.2.1,a.2.2.2.2.2.2.2.2.2.2.2.2.2.2.2.2.2.2.2.2.2.1,a.2.2.2.2.2.2.2.2.2.2.2.2.2.2.2.2.2.2.2.2.2.2.1,a.2.2.2.2.2.2.2.2.2.2.2.2.2.2.2.2.2.2.2.2.2.2.2)) else ((Q123.f K (a.2.2.2.2.2.2.2.2.2.2.2.1,y3.1,())).bind fun y5=>(Q152.f K ((a.2.2.2.1,(a.2.2.2.2.1,(a.2.2.2.2.2.1,(a.2.2.2.2.2.2.1,(a.2.2.2.2.2.2.2.1,(a.2.2.2.2.2.2.2.2.1,(a.2.2.2.2.2.2.2.2.2.1,(a.2.2.2.2.2.2.2.2.2.2.1,(a.2.2.2.2.2.2.2.2.2.2.2.1,(a.2.2.2.2.2.2.2.2.2.2.2.2.1,((a.2.2.2.2.2.2.2.2.2.2.2.2.2.1,(a.2.2.2.2.2.2.2.2.2.2.2.2.2.2.1,(a.2.2.2.2.2.2.2.2.2.2.2.2.2.2.2.1,a.2.2.2.2.2.2.2.2.2.2.2.2.2.2.2.2.1))),(a.2.2.2.2.2.2.2.2.2.2.2.2.2.2.2.2.2.1,((a.2.2.2.2.2.2.2.2.2.2.2.2.2.2.2.2.2.2.1,(a.2.2.2.2.2.2.2.2.2.2.2.2.2.2.2.2.2.2.2.1,(a.2.2.2.2.2.2.2.2.2.2.2.2.2.2.2.2.2.2.2.2.1,a.2.2.2.2.2.2.2.2.2.2.2.2.2.2.2.2.2.2.2.2.2.1))),a.2.2.2.2.2.2.2.2.2.2.2.2.2.2.2.2.2.2.2.2.2.2))))))))))))),(y5.1.1.1,(y5.1.1.2.1,(3,y5.1.1.2.2.2))),a.2.2.2.1,())).bind fun y6=>rec_l0 (a.1,a.2.1,wr .i64 (a.2.2.1+1),y6.2.1.1,y6.2.1.2.1,y6.2.1.2.2.1,y6.2.1.2.2.2.1,y6.2.1.2.2.2.2.1,y6.2.1.2.2.2.2.2.1,y6.2.1.2.2.2.2.2.2.1,y6.2.1.2.2.2.2.2.2.2.1,y6.2.1.2.2.2.2.2.2.2.2.1,y6.2.1.2.2.2.2.2.2.2.2.2.1,y6.2.1.2.2.2.2.2.2.2.2.2.2.1.1,y6.2.1.2.2.2.2.2.2.2.2.2.2.1.2.1,y6.2.1.2.2.2.2.2.2.2.2.2.2.1.2.2.1,y6.2.1.2.2.2.2.2.2.2.2.2.2.1.2.2.2,y6.2.1.2.2.2.2.2.2.2.2.2.2.2.1,y6.2.1.2.2.2.2.2.2.2.2.2.2.2.2.1.1,y6.2.1.2.2.2.2.2.2.2.2.2.2.2.2.1.2.1,y6.2.1.2.2.2.2.2.2.2.2.2.2.2.2.1.2.2.1,y6.2.1.2.2.2.2.2.2.2.2.2.2.2.2.1.2.2.2,y6.2.1.2.2.2.2.2.2.2.2.2.2.2.2.2.1,y6.2.1.2.2.2.2.2.2.2.2.2.2.2.2.2.2))) else (some ((),((a.2.2.2.1,(a.2.2.2.2.1,(a.2.2.2.2.2.1,(a.2.2.2.2.2.2.1,(a.2.2.2.2.2.2.2.1,(a.2.2.2.2.2.2.2.2.1,(a.2.2.2.2.2.2.2.2.2.1,(a.2.2.2.2.2.2.2.2.2.2.1,(a.2.2.2.2.2.2.2.2.2.2.2.1,(a.2.2.2.2.2.2.2.2.2.2.2.2.1,((a.2.2.2.2.2.2.2.2.2.2.2.2.2.1,(a.2.2.2.2.2.2.2.2.2.2.2.2.2.2.1,(a.2.2.2.2.2.2.2.2.2.2.2.2.2.2.2.1,a.2.2.2.2.2.2.2.2.2.2.2.2.2.2.2.2.1))),(a.2.2.2.2.2.2.2.2.2.2.2.2.2.2.2.2.2.1,((a.2.2.2.2.2.2.2.2.2.2.2.2.2.2.2.2.2.2.1,(a.2.2.2.2.2.2.2.2.2.2.2.2.2.2.2.2.2.2.2.1,(a.2.2.2.2.2.2.2.2.2.2.2.2.2.2.2.2.2.2.2.2.1,a.2.2.2.2.2.2.2.2.2.2.2.2.2.2.2.2.2.2.2.2.2.1))),a.2.2.2.2.2.2.2.2.2.2.2.2.2.2.2.2.2.2.2.2.2.2))))))))))))),())))
noncomputable def l0 (K:Nat)(x:aa ps):A_l0→Option Res:=ac (fun rec_l0 a=>l0.step K x rec_l0 a) K
noncomputable def pre (K:Nat)(N_l0:A_l0→Option Res)(x:aa ps):Option Res:=(Q7.f K (x.1.2.2.2.2.2.2.2.2.2.2.2.1,())).bind fun y1=>N_l0 (y1.1.1,(List.length y1.1.1:Int),0,x.1.1,x.1.2.1,x.1.2.2.1,x.1.2.2.2.1,x.1.2.2.2.2.1,x.1.2.2.2.2.2.1,x.1.2.2.2.2.2.2.1,x.1.2.2.2.2.2.2.2.1,x.1.2.2.2.2.2.2.2.2.1,x.1.2.2.2.2.2.2.2.2.2.1,x.1.2.2.2.2.2.2.2.2.2.2.1.1,x.1.2.2.2.2.2.2.2.2.2.2.1.2.1,x.1.2.2.2.2.2.2.2.2.2.2.1.2.2.1,x.1.2.2.2.2.2.2.2.2.2.2.1.2.2.2,x.1.2.2.2.2.2.2.2.2.2.2.2.1,x.1.2.2.2.2.2.2.2.2.2.2.2.2.1.1,x.1.2.2.2.2.2.2.2.2.2.2.2.2.1.2.1,x.1.2.2.2.2.2.2.2.2.2.2.2.2.1.2.2.1,x.1.2.2.2.2.2.2.2.2.2.2.2.2.1.2.2.2,x.1.2.2.2.2.2.2.2.2.2.2.2.2.2.1,x.1.2.2.2.2.2.2.2.2.2.2.2.2.2.2)
noncomputable def f (K:Nat)(x:aa ps):Option Res:=pre K (l0 K x) x
noncomputable def c (K:Nat):Ctr:=⟨219,ps,rs,true,f K⟩
end Q154
namespace Q155
@[reducible] def ps:List PK:=[.rd (.int .i64),.rd (.int .i64),.rd (.int .i64)]
@[reducible] def rs:List RK:=[.v (.int .i64)]
abbrev Res:=ai rs×ah ps
noncomputable def f (K:Nat)(x:aa ps):Option Res:=some ((bif decide (x.2.1<(bif decide (x.2.2.1<x.1) then x.2.2.1 else x.1)) then bif decide (x.2.2.1<x.1) then x.2.2.1 else x.1 else x.2.1,()),())
noncomputable def c (K:Nat):Ctr:=⟨196,ps,rs,true,f K⟩
end Q155
namespace Q156
@[reducible] def ps:List PK:=[.rd (.list false 3 (.int .i64)),.rd (.int .i64)]
@[reducible] def rs:List RK:=[.v (.list true 3 (.int .i64))]
abbrev Res:=ai rs×ah ps
noncomputable def f (K:Nat)(x:aa ps):Option Res:=(Q155.f K (x.2.1,0,(List.length x.1:Int),())).bind fun y1=>bif decide (0≤0)&&decide (0≤y1.1.1)&&decide (y1.1.1≤(List.length x.1:Int))&&true then ((Q8.f K ((x.1.take (Int.toNat y1.1.1)).drop (Int.toNat 0),())).bind fun y2=>some ((y2.1.1,()),())) else none
noncomputable def c (K:Nat):Ctr:=⟨125,ps,rs,true,f K⟩
end Q156
namespace Q157
@[reducible] def ps:List PK:=[.rd (.list false 132 t2),.fn [t2] .bool]
@[reducible] def rs:List RK:=[.v (.list true 3 (.int .i64))]
abbrev Res:=ai rs×ah ps
abbrev A_l0:=List (Ty.den (.int .i64))×Int
noncomputable def l0.step (K:Nat)(x:aa ps)(rec_l0:A_l0→Option Res)(a:A_l0):Option Res:=bif decide (a.2<(List.length x.1:Int)) then ((idx x.1 a.2).bind fun y1=>(x.2.1 (y1,())).bind fun y2=>bif y2 then (bif decide ((List.length a.1+List.length ([y1.1]))*8≤an) then (rec_l0 (a.1++([y1.1]),wr .i64 (a.2+1))) else none) else (rec_l0 (a.1,wr .i64 (a.2+1)))) else (some ((a.1,()),()))
noncomputable def l0 (K:Nat)(x:aa ps):A_l0→Option Res:=ac (fun rec_l0 a=>l0.step K x rec_l0 a) K
noncomputable def pre (K:Nat)(N_l0:A_l0→Option Res)(x:aa ps):Option Res:=N_l0 ([],0)
noncomputable def f (K:Nat)(x:aa ps):Option Res:=pre K (l0 K x) x
noncomputable def c (K:Nat):Ctr:=⟨184,ps,rs,true,f K⟩
end Q157
namespace Q158
@[reducible] def ps:List PK:=[.rref t78,.rd (.int .i64)]
@[reducible] def rs:List RK:=[.v (.int .i64)]
abbrev Res:=ai rs×ah ps
noncomputable def f (K:Nat)(x:aa ps):Option Res:=(Q123.f K (x.1.2.2.2.2.2.2.2.2.1,x.2.1,())).bind fun y1=>some ((y1.1.1.2.2.1,()),())
noncomputable def c (K:Nat):Ctr:=⟨124,ps,rs,true,f K⟩
end Q158
namespace Q159
@[reducible] def ps:List PK:=[.rref t78,.rd (.int .i64)]
@[reducible] def rs:List RK:=[.v .bool]
abbrev Res:=ai rs×ah ps
noncomputable def f (K:Nat)(x:aa ps):Option Res:=(Q158.f K (x.1,x.2.1,())).bind fun y1=>(Q107.f K (y1.1.1,1,2,())).bind fun y2=>some ((y2.1.1,()),())
noncomputable def c (K:Nat):Ctr:=⟨214,ps,rs,true,f K⟩
end Q159
namespace Q160
@[reducible] def ps:List PK:=[.rref t78,.rd (.int .i64),.rd (.int .i64)]
@[reducible] def rs:List RK:=[.v t32]
abbrev Res:=ai rs×ah ps
noncomputable def f (K:Nat)(x:aa ps):Option Res:=some (((1,(x.2.1,(x.1.1,(x.2.2.1,(0,(x.1.1,(x.1.2.2.2.2.2.2.2.2.2.2.2.2.1,[]))))))),()),())
noncomputable def c (K:Nat):Ctr:=⟨245,ps,rs,true,f K⟩
end Q160
namespace Q161
@[reducible] def ps:List PK:=[.rd t2,.rref2 t78,.rref t2]
@[reducible] def rs:List RK:=[.v .bool]
abbrev Res:=ai rs×ah ps
noncomputable def f (K:Nat)(x:aa ps):Option Res:=bif x.1.2.2.1==1 then (bif x.1.1 != x.2.1.1 then (some ((x.1.1 != x.2.2.1.1,()),())) else (some ((false,()),()))) else (some ((false,()),()))
noncomputable def c (K:Nat):Ctr:=⟨266,ps,rs,true,f K⟩
end Q161
namespace Q162
@[reducible] def ps:List PK:=[.iop t64]
@[reducible] def rs:List RK:=[.v (.list true 53 t32)]
abbrev Res:=ai rs×ah ps
abbrev A_l0:=List (Ty.den t32)×List (Ty.den (.int .i64))×Int×Int
noncomputable def l0.step (K:Nat)(x:aa ps)(rec_l0:A_l0→Option Res)(a:A_l0):Option Res:=bif decide (a.2.2.2<a.2.2.1) then ((idx a.2.1 a.2.2.2).bind fun _=>(idx a.2.1 (Int.toNat a.2.2.2:Nat)).bind fun y8=>(Q160.f K ((x.1.1,(x.1.2.1,(x.1.2.2.1,(x.1.2.2.2.1,(x.1.2.2.2.2.1,(x.1.2.2.2.2.2.1,(x.1.2.2.2.2.2.2.1,(x.1.2.2.2.2.2.2.2.1,(x.1.2.2.2.2.2.2.2.2.1,(x.1.2.2.2.2.2.2.2.2.2.1,((x.1.2.2.2.2.2.2.2.2.2.2.1.1,(x.1.2.2.2.2.2.2.2.2.2.2.1.2.1,(x.1.2.2.2.2.2.2.2.2.2.2.1.2.2.1,true))),x.1.2.2.2.2.2.2.2.2.2.2.2))))))))))),3,y8,())).bind fun y9=>bif decide ((List.length a.1+List.length ([(y9.1.1.1,(y9.1.1.2.1,(y9.1.1.2.2.1,(y9.1.1.2.2.2.1,(x.1.2.2.2.2.2.2.2.2.2.2.1.2.2.1,(x.1.2.2.2.2.2.2.2.2.2.2.1.1,y9.1.1.2.2.2.2.2.2))))))]))*104≤an) then (rec_l0 (a.1++([(y9.1.1.1,(y9.1.1.2.1,(y9.1.1.2.2.1,(y9.1.1.2.2.2.1,(x.1.2.2.2.2.2.2.2.2.2.2.1.2.2.1,(x.1.2.2.2.2.2.2.2.2.2.2.1.1,y9.1.1.2.2.2.2.2.2))))))]),a.2.1,a.2.2.1,wr .i64 (a.2.2.2+1))) else none) else (some ((a.1,()),((x.1.1,(x.1.2.1,(x.1.2.2.1,(x.1.2.2.2.1,(x.1.2.2.2.2.1,(x.1.2.2.2.2.2.1,(x.1.2.2.2.2.2.2.1,(x.1.2.2.2.2.2.2.2.1,(x.1.2.2.2.2.2.2.2.2.1,(x.1.2.2.2.2.2.2.2.2.2.1,((x.1.2.2.2.2.2.2.2.2.2.2.1.1,(x.1.2.2.2.2.2.2.2.2.2.2.1.2.1,(x.1.2.2.2.2.2.2.2.2.2.2.1.2.2.1,true))),x.1.2.2.2.2.2.2.2.2.2.2.2))))))))))),())))
noncomputable def l0 (K:Nat)(x:aa ps):A_l0→Option Res:=ac (fun rec_l0 a=>l0.step K x rec_l0 a) K
noncomputable def pre (K:Nat)(N_l0:A_l0→Option Res)(x:aa ps):Option Res:=(Q123.f K (x.1.2.2.2.2.2.2.2.2.1,x.1.2.2.2.2.2.2.2.2.2.2.1.1,())).bind fun y1=>bif x.1.2.2.2.2.2.2.2.2.2.2.1.1==(-1) then (some (([],()),(x.1,()))) else ((Q159.f K (x.1,x.1.2.2.2.2.2.2.2.2.2.2.1.1,())).bind fun y2=>bif !y2.1.1 then (some (([],()),((x.1.1,(x.1.2.1,(x.1.2.2.1,(x.1.2.2.2.1,(x.1.2.2.2.2.1,(x.1.2.2.2.2.2.1,(x.1.2.2.2.2.2.2.1,(x.1.2.2.2.2.2.2.2.1,(x.1.2.2.2.2.2.2.2.2.1,(x.1.2.2.2.2.2.2.2.2.2.1,(((-1),(0,(0,false))),x.1.2.2.2.2.2.2.2.2.2.2.2))))))))))),()))) else (bif decide ((wr .i64 (x.1.2.2.2.2.2.1-x.1.2.2.2.2.2.2.2.2.2.2.1.2.1))≥4) then (bif y1.1.1.2.2.1==1 then ((Q152.f K ((x.1.1,(x.1.2.1,(x.1.2.2.1,(x.1.2.2.2.1,(x.1.2.2.2.2.1,(x.1.2.2.2.2.2.1,(x.1.2.2.2.2.2.2.1,(x.1.2.2.2.2.2.2.2.1,(x.1.2.2.2.2.2.2.2.2.1,(x.1.2.2.2.2.2.2.2.2.2.1,(((-1),(0,(0,false))),x.1.2.2.2.2.2.2.2.2.2.2.2))))))))))),(y1.1.1.1,(y1.1.1.2.1,(2,y1.1.1.2.2.2))),x.1.1,())).bind fun y3=>some (([],()),(y3.2.1,()))) else (some (([],()),((x.1.1,(x.1.2.1,(x.1.2.2.1,(x.1.2.2.2.1,(x.1.2.2.2.2.1,(x.1.2.2.2.2.2.1,(x.1.2.2.2.2.2.2.1,(x.1.2.2.2.2.2.2.2.1,(x.1.2.2.2.2.2.2.2.2.1,(x.1.2.2.2.2.2.2.2.2.2.1,(((-1),(0,(0,false))),x.1.2.2.2.2.2.2.2.2.2.2.2))))))))))),())))) else (bif decide ((wr .i64 (x.1.2.2.2.2.2.1-x.1.2.2.2.2.2.2.2.2.2.2.1.2.1))≥2) then (bif !x.1.2.2.2.2.2.2.2.2.2.2.1.2.2.2 then ((Q157.f K (x.1.2.2.2.2.2.2.2.2.1,fun y4=>(Q161.f K (y4.1,(x.1.1,(x.1.2.1,(x.1.2.2.1,(x.1.2.2.2.1,(x.1.2.2.2.2.1,(x.1.2.2.2.2.2.1,(x.1.2.2.2.2.2.2.1,(x.1.2.2.2.2.2.2.2.1,(x.1.2.2.2.2.2.2.2.2.1,(x.1.2.2.2.2.2.2.2.2.2.1,((x.1.2.2.2.2.2.2.2.2.2.2.1.1,(x.1.2.2.2.2.2.2.2.2.2.2.1.2.1,(x.1.2.2.2.2.2.2.2.2.2.2.1.2.2.1,true))),x.1.2.2.2.2.2.2.2.2.2.2.2))))))))))),x.1.2.2.2.2.2.2.2.2.2.2.1,())).map fun y=>y.1.1,())).bind fun y5=>(Q156.f K (y5.1.1,2,())).bind fun y6=>N_l0 ([],y6.1.1,(List.length y6.1.1:Int),0)) else (some (([],()),(x.1,())))) else (some (([],()),(x.1,()))))))
noncomputable def f (K:Nat)(x:aa ps):Option Res:=pre K (l0 K x) x
noncomputable def c (K:Nat):Ctr:=⟨220,ps,rs,true,f K⟩
end Q162
namespace Q163
@[reducible] def ps:List PK:=[.io (.list true 3 (.int .i64)),.rd (.int .i64),.rd (.int .i64),.fn [(.int .i64),(.int .i64)] (.int .i64)]
@[reducible] def rs:List RK:=[]
abbrev Res:=ai rs×ah ps
abbrev A_l1:=List (Ty.den (.int .i64))×Int×Int
abbrev A_l0:=List (Ty.den (.int .i64))×Int
noncomputable def l1.step (K:Nat)(x:aa ps)(rec_l0:A_l0→Option Res)(rec_l1:A_l1→Option Res)(a:A_l1):Option Res:=bif decide (a.2.2>x.2.1) then ((idx a.1 a.2.2).bind fun _=>(idx a.1 (Int.toNat a.2.2:Nat)).bind fun y2=>(idx a.1 (wr .i64 (a.2.2-1))).bind fun _=>(idx a.1 (Int.toNat (wr .i64 (a.2.2-1)):Nat)).bind fun y4=>(x.2.2.2.1 (y2,y4,())).bind fun y5=>bif decide (y5<0) then ((idx a.1 (wr .i64 (a.2.2-1))).bind fun _=>(idx a.1 (Int.toNat (wr .i64 (a.2.2-1)):Nat)).bind fun y7=>(idx a.1 a.2.2).bind fun _=>(idx a.1 (Int.toNat a.2.2:Nat)).bind fun y9=>(idx a.1 a.2.2).bind fun _=>(idx a.1 (Int.toNat a.2.2:Nat)).bind fun y11=>(idx (a.1.set (Int.toNat a.2.2) y7) (wr .i64 (a.2.2-1))).bind fun _=>(idx (a.1.set (Int.toNat a.2.2) y7) (Int.toNat (wr .i64 (a.2.2-1)):Nat)).bind fun y13=>rec_l1 ((a.1.set (Int.toNat a.2.2) y7).set (Int.toNat (wr .i64 (a.2.2-1))) y9,a.2.1,wr .i64 (a.2.2-1))) else (rec_l0 (a.1,wr .i64 (a.2.1+1)))) else (rec_l0 (a.1,wr .i64 (a.2.1+1)))
noncomputable def l1 (K:Nat)(x:aa ps)(rec_l0:A_l0→Option Res):A_l1→Option Res:=ac (fun rec_l1 a=>l1.step K x rec_l0 rec_l1 a) K
noncomputable def l0.step (K:Nat)(x:aa ps)(N_l1:A_l1→Option Res)(rec_l0:A_l0→Option Res)(a:A_l0):Option Res:=bif decide (a.2<x.2.2.1) then (N_l1 (a.1,a.2,a.2)) else (some ((),(a.1,())))
noncomputable def l0 (K:Nat)(x:aa ps):A_l0→Option Res:=ac (fun rec_l0 a=>l0.step K x (l1 K x rec_l0) rec_l0 a) K
noncomputable def pre (K:Nat)(N_l0:A_l0→Option Res)(x:aa ps):Option Res:=N_l0 (x.1,wr .i64 (x.2.1+1))
noncomputable def f (K:Nat)(x:aa ps):Option Res:=pre K (l0 K x) x
noncomputable def c (K:Nat):Ctr:=⟨369,ps,rs,true,f K⟩
noncomputable def G (K:Nat):List Ctr:=[]
noncomputable def live_l1:List (Nat×List Coe):=[(0,[.own false 3 (.int .i64)]),(1,[.keep]),(2,[.keep]),(3,[.keep]),(8,[.keep]),(9,[.keep])]
noncomputable def live_l0:List (Nat×List Coe):=[(0,[.own false 3 (.int .i64)]),(1,[.keep]),(2,[.keep]),(3,[.keep]),(8,[.keep])]
noncomputable def L:List (Nat×List (Nat×List Coe)):=[(5,live_l1),(2,live_l0)]
noncomputable def body:Code:=c9 Tryz.f369
noncomputable abbrev ev (K:Nat):Code→St→(Ex→St→Option Res)→Option Res:=evK (G K) T_S L K
noncomputable abbrev fin:Ex→St→Option Res:=db T_S ps rs true Tryz.f369.results.toList
noncomputable def S_l0 (x:aa ps)(a:A_l0):St:=aw [(0,⟨0,.one,[.own false none 3 (.int .i64) a.1]⟩),(1,⟨0,.one,[.int .i64 x.2.1]⟩),(2,⟨0,.one,[.int .i64 x.2.2.1]⟩),(3,⟨0,.one,[.fn [(.int .i64),(.int .i64)] (.int .i64) x.2.2.2.1]⟩),(8,⟨0,.one,[.int .i64 a.2]⟩)]
noncomputable def S_l1 (x:aa ps)(a:A_l1):St:=aw [(0,⟨0,.one,[.own false none 3 (.int .i64) a.1]⟩),(1,⟨0,.one,[.int .i64 x.2.1]⟩),(2,⟨0,.one,[.int .i64 x.2.2.1]⟩),(3,⟨0,.one,[.fn [(.int .i64),(.int .i64)] (.int .i64) x.2.2.2.1]⟩),(8,⟨0,.one,[.int .i64 a.2.1]⟩),(9,⟨0,.one,[.int .i64 a.2.2]⟩)]
noncomputable def k_l0 (K:Nat)(x:aa ps):Ex→St→Option Res:=kAt (ev K) body [1,0] fin
noncomputable def N_l0 (K:Nat)(x:aa ps):A_l0→Option Res:=fun a=>bu live_l0 (ev K (sub body [1,0,0])) K (S_l0 x a) (k_l0 K x)
noncomputable def k_l1 (K:Nat)(x:aa ps)(r_l0:St→Option Res):Ex→St→Option Res:=kAt (ev K) (sub body [1,0,0]) [1,0,0,1,0] (bL live_l0 r_l0 (k_l0 K x))
noncomputable def N_l1 (K:Nat)(x:aa ps)(r_l0:St→Option Res):A_l1→Option Res:=fun a=>bu live_l1 (ev K (sub body [1,0,0,1,0,0,1,0,0])) K (S_l1 x a) (k_l1 K x r_l0)
end Q163
namespace Q164
@[reducible] def ps:List PK:=[.io (.list true 3 (.int .i64)),.rd (.int .i64),.fn [(.int .i64),(.int .i64)] (.int .i64)]
@[reducible] def rs:List RK:=[]
abbrev Res:=ai rs×ah ps
abbrev A_l2:=List (Ty.den (.int .i64))×Int×Int
abbrev A_l1:=List (Ty.den (.int .i64))×Int
abbrev A_l0:=List (Ty.den (.int .i64))×Int×Int
noncomputable def l2.step (K:Nat)(x:aa ps)(rec_l1:A_l1→Option Res)(rec_l2:A_l2→Option Res)(a:A_l2):Option Res:=bif decide (a.2.2≤x.2.1) then none else (bif decide ((wr .i64 (0+a.2.1))<x.2.1) then none else (rec_l1 (a.1,wr .i64 (a.2.1*2))))
noncomputable def l2 (K:Nat)(x:aa ps)(rec_l1:A_l1→Option Res):A_l2→Option Res:=ac (fun rec_l2 a=>l2.step K x rec_l1 rec_l2 a) K
noncomputable def l1.step (K:Nat)(x:aa ps)(N_l2:A_l2→Option Res)(rec_l1:A_l1→Option Res)(a:A_l1):Option Res:=bif decide (a.2<x.2.1) then (N_l2 (a.1,a.2,wr .i64 (2*a.2))) else (some ((),(a.1,())))
noncomputable def l1 (K:Nat)(x:aa ps):A_l1→Option Res:=ac (fun rec_l1 a=>l1.step K x (l2 K x rec_l1) rec_l1 a) K
noncomputable def l0.step (K:Nat)(x:aa ps)(N_l1:A_l1→Option Res)(rec_l0:A_l0→Option Res)(a:A_l0):Option Res:=bif decide (a.2.2≤x.2.1) then ((Q163.f K (a.1,a.2.1,a.2.2,x.2.2.1,())).bind fun y1=>rec_l0 (y1.2.1,a.2.2,wr .i64 (a.2.2+20))) else ((Q163.f K (a.1,a.2.1,x.2.1,x.2.2.1,())).bind fun y2=>N_l1 (y2.2.1,20))
noncomputable def l0 (K:Nat)(x:aa ps):A_l0→Option Res:=ac (fun rec_l0 a=>l0.step K x (l1 K x) rec_l0 a) K
noncomputable def pre (K:Nat)(N_l0:A_l0→Option Res)(x:aa ps):Option Res:=N_l0 (x.1,0,20)
noncomputable def f (K:Nat)(x:aa ps):Option Res:=pre K (l0 K x) x
noncomputable def c (K:Nat):Ctr:=⟨360,ps,rs,true,f K⟩
noncomputable def G (K:Nat):List Ctr:=[Q163.c K]
noncomputable def live_l2:List (Nat×List Coe):=[(0,[.own false 3 (.int .i64)]),(1,[.keep]),(2,[.keep]),(6,[.keep]),(7,[.keep]),(8,[.keep])]
noncomputable def live_l1:List (Nat×List Coe):=[(0,[.own false 3 (.int .i64)]),(1,[.keep]),(2,[.keep]),(6,[.keep])]
noncomputable def live_l0:List (Nat×List Coe):=[(0,[.own false 3 (.int .i64)]),(1,[.keep]),(2,[.keep]),(6,[.keep]),(7,[.keep]),(8,[.keep])]
noncomputable def L:List (Nat×List (Nat×List Coe)):=[(10,live_l2),(8,live_l1),(3,live_l0)]
noncomputable def body:Code:=c9 Tryz.f360
noncomputable abbrev ev (K:Nat):Code→St→(Ex→St→Option Res)→Option Res:=evK (G K) T_S L K
noncomputable abbrev fin:Ex→St→Option Res:=db T_S ps rs true Tryz.f360.results.toList
noncomputable def S_l0 (x:aa ps)(a:A_l0):St:=aw [(0,⟨0,.one,[.own false none 3 (.int .i64) a.1]⟩),(1,⟨0,.one,[.int .i64 x.2.1]⟩),(2,⟨0,.one,[.fn [(.int .i64),(.int .i64)] (.int .i64) x.2.2.1]⟩),(6,⟨0,.one,[.int .i64 20]⟩),(7,⟨0,.one,[.int .i64 a.2.1]⟩),(8,⟨0,.one,[.int .i64 a.2.2]⟩)]
noncomputable def S_l1 (x:aa ps)(a:A_l1):St:=aw [(0,⟨0,.one,[.own false none 3 (.int .i64) a.1]⟩),(1,⟨0,.one,[.int .i64 x.2.1]⟩),(2,⟨0,.one,[.fn [(.int .i64),(.int .i64)] (.int .i64) x.2.2.1]⟩),(6,⟨0,.one,[.int .i64 a.2]⟩)]
noncomputable def S_l2 (x:aa ps)(a:A_l2):St:=aw [(0,⟨0,.one,[.own false none 3 (.int .i64) a.1]⟩),(1,⟨0,.one,[.int .i64 x.2.1]⟩),(2,⟨0,.one,[.fn [(.int .i64),(.int .i64)] (.int .i64) x.2.2.1]⟩),(6,⟨0,.one,[.int .i64 a.2.1]⟩),(7,⟨0,.one,[.int .i64 0]⟩),(8,⟨0,.one,[.int .i64 a.2.2]⟩)]
noncomputable def k_l0 (K:Nat)(x:aa ps):Ex→St→Option Res:=kAt (ev K) body [1,1,0,0] fin
noncomputable def N_l0 (K:Nat)(x:aa ps):A_l0→Option Res:=fun a=>bu live_l0 (ev K (sub body [1,1,0,0,0])) K (S_l0 x a) (k_l0 K x)
noncomputable def k_l1 (K:Nat)(x:aa ps):Ex→St→Option Res:=kAt (ev K) body [1,1,1,1,0] fin
noncomputable def N_l1 (K:Nat)(x:aa ps):A_l1→Option Res:=fun a=>bu live_l1 (ev K (sub body [1,1,1,1,0,0])) K (S_l1 x a) (k_l1 K x)
noncomputable def k_l2 (K:Nat)(x:aa ps)(r_l1:St→Option Res):Ex→St→Option Res:=kAt (ev K) (sub body [1,1,1,1,0,0]) [1,0,1,0,0] (bL live_l1 r_l1 (k_l1 K x))
noncomputable def N_l2 (K:Nat)(x:aa ps)(r_l1:St→Option Res):A_l2→Option Res:=fun a=>bu live_l2 (ev K (sub body [1,1,1,1,0,0,1,0,1,0,0,0])) K (S_l2 x a) (k_l2 K x r_l1)
end Q164
namespace Q165
@[reducible] def ps:List PK:=[.io (.list true 3 (.int .i64)),.fn [(.int .i64),(.int .i64)] (.int .i64)]
@[reducible] def rs:List RK:=[]
abbrev Res:=ai rs×ah ps
noncomputable def f (K:Nat)(x:aa ps):Option Res:=(Q164.f K (x.1,(List.length x.1:Int),x.2.1,())).bind fun y1=>some ((),(y1.2.1,()))
noncomputable def c (K:Nat):Ctr:=⟨341,ps,rs,true,f K⟩
end Q165
namespace Q166
@[reducible] def ps:List PK:=[.rd (.int .i64),.rd (.int .i64),.rref (.list false 173 t3)]
@[reducible] def rs:List RK:=[.v (.int .i64)]
abbrev Res:=ai rs×ah ps
noncomputable def f (K:Nat)(x:aa ps):Option Res:=(idx x.2.2.1 x.2.1).bind fun y1=>(idx x.2.2.1 x.1).bind fun y2=>some ((wr .i64 (y1.2-y2.2),()),())
noncomputable def c (K:Nat):Ctr:=⟨342,ps,rs,true,f K⟩
end Q166
namespace Q167
@[reducible] def ps:List PK:=[.rd (.int .u64)]
@[reducible] def rs:List RK:=[.v (.int .i64)]
abbrev Res:=ai rs×ah ps
noncomputable def f (K:Nat)(x:aa ps):Option Res:=bif decide (x.1≥4294967296) then (bif decide ((Int.fdiv x.1 (2 ^ 32))≥65536) then (bif decide ((Int.fdiv (Int.fdiv x.1 (2 ^ 32)) (2 ^ 16))≥256) then ((idx (ByteArray.mk #[0,1,2,2,3,3,3,3,4,4,4,4,4,4,4,4,5,5,5,5,5,5,5,5,5,5,5,5,5,5,5,5,6,6,6,6,6,6,6,6,6,6,6,6,6,6,6,6,6,6,6,6,6,6,6,6,6,6,6,6,6,6,6,6,7,7,7,7,7,7,7,7,7,7,7,7,7,7,7,7,7,7,7,7,7,7,7,7,7,7,7,7,7,7,7,7,7,7,7,7,7,7,7,7,7,7,7,7,7,7,7,7,7,7,7,7,7,7,7,7,7,7,7,7,7,7,7,7,8,8,8,8,8,8,8,8,8,8,8,8,8,8,8,8,8,8,8,8,8,8,8,8,8,8,8,8,8,8,8,8,8,8,8,8,8,8,8,8,8,8,8,8,8,8,8,8,8,8,8,8,8,8,8,8,8,8,8,8,8,8,8,8,8,8,8,8,8,8,8,8,8,8,8,8,8,8,8,8,8,8,8,8,8,8,8,8,8,8,8,8,8,8,8,8,8,8,8,8,8,8,8,8,8,8,8,8,8,8,8,8,8,8,8,8,8,8,8,8,8,8,8,8,8,8,8,8]).data.toList (wr .u8 (Int.fdiv (Int.fdiv (Int.fdiv x.1 (2 ^ 32)) (2 ^ 16)) (2 ^ 8)))).bind fun y1=>some ((wr .i64 ((wr .i64 ((wr .i64 (32+16))+8))+(wr .i64 (y1.toNat:Int))),()),())) else ((idx (ByteArray.mk #[0,1,2,2,3,3,3,3,4,4,4,4,4,4,4,4,5,5,5,5,5,5,5,5,5,5,5,5,5,5,5,5,6,6,6,6,6,6,6,6,6,6,6,6,6,6,6,6,6,6,6,6,6,6,6,6,6,6,6,6,6,6,6,6,7,7,7,7,7,7,7,7,7,7,7,7,7,7,7,7,7,7,7,7,7,7,7,7,7,7,7,7,7,7,7,7,7,7,7,7,7,7,7,7,7,7,7,7,7,7,7,7,7,7,7,7,7,7,7,7,7,7,7,7,7,7,7,7,8,8,8,8,8,8,8,8,8,8,8,8,8,8,8,8,8,8,8,8,8,8,8,8,8,8,8,8,8,8,8,8,8,8,8,8,8,8,8,8,8,8,8,8,8,8,8,8,8,8,8,8,8,8,8,8,8,8,8,8,8,8,8,8,8,8,8,8,8,8,8,8,8,8,8,8,8,8,8,8,8,8,8,8,8,8,8,8,8,8,8,8,8,8,8,8,8,8,8,8,8,8,8,8,8,8,8,8,8,8,8,8,8,8,8,8,8,8,8,8,8,8,8,8,8,8,8,8]).data.toList (wr .u8 (Int.fdiv (Int.fdiv x.1 (2 ^ 32)) (2 ^ 16)))).bind fun y2=>some ((wr .i64 ((wr .i64 (32+16))+(wr .i64 (y2.toNat:Int))),()),()))) else (bif decide ((Int.fdiv x.1 (2 ^ 32))≥256) then ((idx (ByteArray.mk #[0,1,2,2,3,3,3,3,4,4,4,4,4,4,4,4,5,5,5,5,5,5,5,5,5,5,5,5,5,5,5,5,6,6,6,6,6,6,6,6,6,6,6,6,6,6,6,6,6,6,6,6,6,6,6,6,6,6,6,6,6,6,6,6,7,7,7,7,7,7,7,7,7,7,7,7,7,7,7,7,7,7,7,7,7,7,7,7,7,7,7,7,7,7,7,7,7,7,7,7,7,7,7,7,7,7,7,7,7,7,7,7,7,7,7,7,7,7,7,7,7,7,7,7,7,7,7,7,8,8,8,8,8,8,8,8,8,8,8,8,8,8,8,8,8,8,8,8,8,8,8,8,8,8,8,8,8,8,8,8,8,8,8,8,8,8,8,8,8,8,8,8,8,8,8,8,8,8,8,8,8,8,8,8,8,8,8,8,8,8,8,8,8,8,8,8,8,8,8,8,8,8,8,8,8,8,8,8,8,8,8,8,8,8,8,8,8,8,8,8,8,8,8,8,8,8,8,8,8,8,8,8,8,8,8,8,8,8,8,8,8,8,8,8,8,8,8,8,8,8,8,8,8,8,8,8]).data.toList (wr .u8 (Int.fdiv (Int.fdiv x.1 (2 ^ 32)) (2 ^ 8)))).bind fun y3=>some ((wr .i64 ((wr .i64 (32+8))+(wr .i64 (y3.toNat:Int))),()),())) else ((idx (ByteArray.mk #[0,1,2,2,3,3,3,3,4,4,4,4,4,4,4,4,5,5,5,5,5,5,5,5,5,5,5,5,5,5,5,5,6,6,6,6,6,6,6,6,6,6,6,6,6,6,6,6,6,6,6,6,6,6,6,6,6,6,6,6,6,6,6,6,7,7,7,7,7,7,7,7,7,7,7,7,7,7,7,7,7,7,7,7,7,7,7,7,7,7,7,7,7,7,7,7,7,7,7,7,7,7,7,7,7,7,7,7,7,7,7,7,7,7,7,7,7,7,7,7,7,7,7,7,7,7,7,7,8,8,8,8,8,8,8,8,8,8,8,8,8,8,8,8,8,8,8,8,8,8,8,8,8,8,8,8,8,8,8,8,8,8,8,8,8,8,8,8,8,8,8,8,8,8,8,8,8,8,8,8,8,8,8,8,8,8,8,8,8,8,8,8,8,8,8,8,8,8,8,8,8,8,8,8,8,8,8,8,8,8,8,8,8,8,8,8,8,8,8,8,8,8,8,8,8,8,8,8,8,8,8,8,8,8,8,8,8,8,8,8,8,8,8,8,8,8,8,8,8,8,8,8,8,8,8,8]).data.toList (wr .u8 (Int.fdiv x.1 (2 ^ 32)))).bind fun y4=>some ((wr .i64 (32+(wr .i64 (y4.toNat:Int))),()),())))) else (bif decide (x.1≥65536) then (bif decide ((Int.fdiv x.1 (2 ^ 16))≥256) then ((idx (ByteArray.mk #[0,1,2,2,3,3,3,3,4,4,4,4,4,4,4,4,5,5,5,5,5,5,5,5,5,5,5,5,5,5,5,5,6,6,6,6,6,6,6,6,6,6,6,6,6,6,6,6,6,6,6,6,6,6,6,6,6,6,6,6,6,6,6,6,7,7,7,7,7,7,7,7,7,7,7,7,7,7,7,7,7,7,7,7,7,7,7,7,7,7,7,7,7,7,7,7,7,7,7,7,7,7,7,7,7,7,7,7,7,7,7,7,7,7,7,7,7,7,7,7,7,7,7,7,7,7,7,7,8,8,8,8,8,8,8,8,8,8,8,8,8,8,8,8,8,8,8,8,8,8,8,8,8,8,8,8,8,8,8,8,8,8,8,8,8,8,8,8,8,8,8,8,8,8,8,8,8,8,8,8,8,8,8,8,8,8,8,8,8,8,8,8,8,8,8,8,8,8,8,8,8,8,8,8,8,8,8,8,8,8,8,8,8,8,8,8,8,8,8,8,8,8,8,8,8,8,8,8,8,8,8,8,8,8,8,8,8,8,8,8,8,8,8,8,8,8,8,8,8,8,8,8,8,8,8,8]).data.toList (wr .u8 (Int.fdiv (Int.fdiv x.1 (2 ^ 16)) (2 ^ 8)))).bind fun y5=>some ((wr .i64 ((wr .i64 ((wr .i64 (0+16))+8))+(wr .i64 (y5.toNat:Int))),()),())) else ((idx (ByteArray.mk #[0,1,2,2,3,3,3,3,4,4,4,4,4,4,4,4,5,5,5,5,5,5,5,5,5,5,5,5,5,5,5,5,6,6,6,6,6,6,6,6,6,6,6,6,6,6,6,6,6,6,6,6,6,6,6,6,6,6,6,6,6,6,6,6,7,7,7,7,7,7,7,7,7,7,7,7,7,7,7,7,7,7,7,7,7,7,7,7,7,7,7,7,7,7,7,7,7,7,7,7,7,7,7,7,7,7,7,7,7,7,7,7,7,7,7,7,7,7,7,7,7,7,7,7,7,7,7,7,8,8,8,8,8,8,8,8,8,8,8,8,8,8,8,8,8,8,8,8,8,8,8,8,8,8,8,8,8,8,8,8,8,8,8,8,8,8,8,8,8,8,8,8,8,8,8,8,8,8,8,8,8,8,8,8,8,8,8,8,8,8,8,8,8,8,8,8,8,8,8,8,8,8,8,8,8,8,8,8,8,8,8,8,8,8,8,8,8,8,8,8,8,8,8,8,8,8,8,8,8,8,8,8,8,8,8,8,8,8,8,8,8,8,8,8,8,8,8,8,8,8,8,8,8,8,8,8]).data.toList (wr .u8 (Int.fdiv x.1 (2 ^ 16)))).bind fun y6=>some ((wr .i64 ((wr .i64 (0+16))+(wr .i64 (y6.toNat:Int))),()),()))) else (bif decide (x.1≥256) then ((idx (ByteArray.mk #[0,1,2,2,3,3,3,3,4,4,4,4,4,4,4,4,5,5,5,5,5,5,5,5,5,5,5,5,5,5,5,5,6,6,6,6,6,6,6,6,6,6,6,6,6,6,6,6,6,6,6,6,6,6,6,6,6,6,6,6,6,6,6,6,7,7,7,7,7,7,7,7,7,7,7,7,7,7,7,7,7,7,7,7,7,7,7,7,7,7,7,7,7,7,7,7,7,7,7,7,7,7,7,7,7,7,7,7,7,7,7,7,7,7,7,7,7,7,7,7,7,7,7,7,7,7,7,7,8,8,8,8,8,8,8,8,8,8,8,8,8,8,8,8,8,8,8,8,8,8,8,8,8,8,8,8,8,8,8,8,8,8,8,8,8,8,8,8,8,8,8,8,8,8,8,8,8,8,8,8,8,8,8,8,8,8,8,8,8,8,8,8,8,8,8,8,8,8,8,8,8,8,8,8,8,8,8,8,8,8,8,8,8,8,8,8,8,8,8,8,8,8,8,8,8,8,8,8,8,8,8,8,8,8,8,8,8,8,8,8,8,8,8,8,8,8,8,8,8,8,8,8,8,8,8,8]).data.toList (wr .u8 (Int.fdiv x.1 (2 ^ 8)))).bind fun y7=>some ((wr .i64 ((wr .i64 (0+8))+(wr .i64 (y7.toNat:Int))),()),())) else ((idx (ByteArray.mk #[0,1,2,2,3,3,3,3,4,4,4,4,4,4,4,4,5,5,5,5,5,5,5,5,5,5,5,5,5,5,5,5,6,6,6,6,6,6,6,6,6,6,6,6,6,6,6,6,6,6,6,6,6,6,6,6,6,6,6,6,6,6,6,6,7,7,7,7,7,7,7,7,7,7,7,7,7,7,7,7,7,7,7,7,7,7,7,7,7,7,7,7,7,7,7,7,7,7,7,7,7,7,7,7,7,7,7,7,7,7,7,7,7,7,7,7,7,7,7,7,7,7,7,7,7,7,7,7,8,8,8,8,8,8,8,8,8,8,8,8,8,8,8,8,8,8,8,8,8,8,8,8,8,8,8,8,8,8,8,8,8,8,8,8,8,8,8,8,8,8,8,8,8,8,8,8,8,8,8,8,8,8,8,8,8,8,8,8,8,8,8,8,8,8,8,8,8,8,8,8,8,8,8,8,8,8,8,8,8,8,8,8,8,8,8,8,8,8,8,8,8,8,8,8,8,8,8,8,8,8,8,8,8,8,8,8,8,8,8,8,8,8,8,8,8,8,8,8,8,8,8,8,8,8,8,8]).data.toList (wr .u8 x.1)).bind fun y8=>some ((wr .i64 (0+(wr .i64 (y8.toNat:Int))),()),()))))
noncomputable def c (K:Nat):Ctr:=⟨304,ps,rs,true,f K⟩
end Q167
namespace Q168
@[reducible] def ps:List PK:=[.rd (.int .u64)]
@[reducible] def rs:List RK:=[.v (.int .i64)]
abbrev Res:=ai rs×ah ps
noncomputable def f (K:Nat)(x:aa ps):Option Res:=(Q167.f K (x.1,())).bind fun y1=>some ((y1.1.1,()),())
noncomputable def c (K:Nat):Ctr:=⟨247,ps,rs,true,f K⟩
end Q168
namespace Q169
@[reducible] def ps:List PK:=[.rd (.int .i64),.rd (.int .i64)]
@[reducible] def rs:List RK:=[.v .bool]
abbrev Res:=ai rs×ah ps
noncomputable def f (K:Nat)(x:aa ps):Option Res:=(Q119.f K (x.1,())).bind fun y1=>bif y1.1.1 then ((Q119.f K (x.2.1,())).bind fun y2=>bif !y2.1.1 then (some ((true,()),())) else (some ((decide (x.1<x.2.1),()),()))) else (some ((decide (x.1<x.2.1),()),()))
noncomputable def c (K:Nat):Ctr:=⟨321,ps,rs,true,f K⟩
end Q169
namespace Q170
@[reducible] def ps:List PK:=[.io (.list true 3 (.int .i64)),.rd (.int .i64),.rd (.int .i64)]
@[reducible] def rs:List RK:=[]
abbrev Res:=ai rs×ah ps
abbrev A_l1:=List (Ty.den (.int .i64))×Int×Int
abbrev A_l0:=List (Ty.den (.int .i64))×Int
noncomputable def l1.step (K:Nat)(x:aa ps)(rec_l0:A_l0→Option Res)(rec_l1:A_l1→Option Res)(a:A_l1):Option Res:=bif decide (a.2.2>x.2.1) then ((idx a.1 a.2.2).bind fun _=>(idx a.1 (Int.toNat a.2.2:Nat)).bind fun y2=>(idx a.1 (wr .i64 (a.2.2-1))).bind fun _=>(idx a.1 (Int.toNat (wr .i64 (a.2.2-1)):Nat)).bind fun y4=>(Q169.f K (y2,y4,())).bind fun y5=>bif y5.1.1 then ((idx a.1 (wr .i64 (a.2.2-1))).bind fun _=>(idx a.1 (Int.toNat (wr .i64 (a.2.2-1)):Nat)).bind fun y7=>(idx a.1 a.2.2).bind fun _=>(idx a.1 (Int.toNat a.2.2:Nat)).bind fun y9=>(idx a.1 a.2.2).bind fun _=>(idx a.1 (Int.toNat a.2.2:Nat)).bind fun y11=>(idx (a.1.set (Int.toNat a.2.2) y7) (wr .i64 (a.2.2-1))).bind fun _=>(idx (a.1.set (Int.toNat a.2.2) y7) (Int.toNat (wr .i64 (a.2.2-1)):Nat)).bind fun y13=>rec_l1 ((a.1.set (Int.toNat a.2.2) y7).set (Int.toNat (wr .i64 (a.2.2-1))) y9,a.2.1,wr .i64 (a.2.2-1))) else (rec_l0 (a.1,wr .i64 (a.2.1+1)))) else (rec_l0 (a.1,wr .i64 (a.2.1+1)))
noncomputable def l1 (K:Nat)(x:aa ps)(rec_l0:A_l0→Option Res):A_l1→Option Res:=ac (fun rec_l1 a=>l1.step K x rec_l0 rec_l1 a) K
noncomputable def l0.step (K:Nat)(x:aa ps)(N_l1:A_l1→Option Res)(rec_l0:A_l0→Option Res)(a:A_l0):Option Res:=bif decide (a.2<x.2.2.1) then (N_l1 (a.1,a.2,a.2)) else (some ((),(a.1,())))
noncomputable def l0 (K:Nat)(x:aa ps):A_l0→Option Res:=ac (fun rec_l0 a=>l0.step K x (l1 K x rec_l0) rec_l0 a) K
noncomputable def pre (K:Nat)(N_l0:A_l0→Option Res)(x:aa ps):Option Res:=N_l0 (x.1,wr .i64 (x.2.1+1))
noncomputable def f (K:Nat)(x:aa ps):Option Res:=pre K (l0 K x) x
noncomputable def c (K:Nat):Ctr:=⟨371,ps,rs,true,f K⟩
noncomputable def G (K:Nat):List Ctr:=[Q169.c K]
noncomputable def live_l1:List (Nat×List Coe):=[(0,[.own false 3 (.int .i64)]),(1,[.keep]),(2,[.keep]),(6,[.keep]),(7,[.keep])]
noncomputable def live_l0:List (Nat×List Coe):=[(0,[.own false 3 (.int .i64)]),(1,[.keep]),(2,[.keep]),(6,[.keep])]
noncomputable def L:List (Nat×List (Nat×List Coe)):=[(5,live_l1),(2,live_l0)]
noncomputable def body:Code:=c9 Tryz.f371
noncomputable abbrev ev (K:Nat):Code→St→(Ex→St→Option Res)→Option Res:=evK (G K) T_S L K
noncomputable abbrev fin:Ex→St→Option Res:=db T_S ps rs true Tryz.f371.results.toList
noncomputable def S_l0 (x:aa ps)(a:A_l0):St:=aw [(0,⟨0,.one,[.own false none 3 (.int .i64) a.1]⟩),(1,⟨0,.one,[.int .i64 x.2.1]⟩),(2,⟨0,.one,[.int .i64 x.2.2.1]⟩),(6,⟨0,.one,[.int .i64 a.2]⟩)]
noncomputable def S_l1 (x:aa ps)(a:A_l1):St:=aw [(0,⟨0,.one,[.own false none 3 (.int .i64) a.1]⟩),(1,⟨0,.one,[.int .i64 x.2.1]⟩),(2,⟨0,.one,[.int .i64 x.2.2.1]⟩),(6,⟨0,.one,[.int .i64 a.2.1]⟩),(7,⟨0,.one,[.int .i64 a.2.2]⟩)]
noncomputable def k_l0 (K:Nat)(x:aa ps):Ex→St→Option Res:=kAt (ev K) body [1,0] fin
noncomputable def N_l0 (K:Nat)(x:aa ps):A_l0→Option Res:=fun a=>bu live_l0 (ev K (sub body [1,0,0])) K (S_l0 x a) (k_l0 K x)
noncomputable def k_l1 (K:Nat)(x:aa ps)(r_l0:St→Option Res):Ex→St→Option Res:=kAt (ev K) (sub body [1,0,0]) [1,0,0,1,0] (bL live_l0 r_l0 (k_l0 K x))
noncomputable def N_l1 (K:Nat)(x:aa ps)(r_l0:St→Option Res):A_l1→Option Res:=fun a=>bu live_l1 (ev K (sub body [1,0,0,1,0,0,1,0,0])) K (S_l1 x a) (k_l1 K x r_l0)
end Q170
namespace Q171
@[reducible] def ps:List PK:=[.rd (.list false 3 (.int .i64)),.rd (.int .i64),.rd (.int .i64),.iop (.int .i64)]
@[reducible] def rs:List RK:=[.v (.int .i64),.v (.int .i64)]
abbrev Res:=ai rs×ah ps
noncomputable def f (K:Nat)(x:aa ps):Option Res:=(idx x.1 x.2.2.1).bind fun y1=>(idx x.1 x.2.1).bind fun y2=>(Q169.f K (y1,y2,())).bind fun y3=>bif y3.1.1 then (some ((x.2.2.1,x.2.1,()),(wr .i64 (x.2.2.2.1+1),()))) else (some ((x.2.1,x.2.2.1,()),(x.2.2.2.1,())))
noncomputable def c (K:Nat):Ctr:=⟨384,ps,rs,true,f K⟩
end Q171
namespace Q172
@[reducible] def ps:List PK:=[.rd (.list false 3 (.int .i64)),.rd (.int .i64),.rd (.int .i64),.rd (.int .i64),.iop (.int .i64)]
@[reducible] def rs:List RK:=[.v (.int .i64)]
abbrev Res:=ai rs×ah ps
noncomputable def f (K:Nat)(x:aa ps):Option Res:=(Q171.f K (x.1,x.2.1,x.2.2.1,x.2.2.2.2.1,())).bind fun y1=>(Q171.f K (x.1,y1.1.2.1,x.2.2.2.1,y1.2.1,())).bind fun y2=>(Q171.f K (x.1,y1.1.1,y2.1.1,y2.2.1,())).bind fun y3=>some ((y3.1.2.1,()),(y3.2.1,()))
noncomputable def c (K:Nat):Ctr:=⟨382,ps,rs,true,f K⟩
end Q172
namespace Q173
@[reducible] def ps:List PK:=[.rd (.list false 3 (.int .i64)),.rd (.int .i64),.iop (.int .i64)]
@[reducible] def rs:List RK:=[.v (.int .i64)]
abbrev Res:=ai rs×ah ps
noncomputable def f (K:Nat)(x:aa ps):Option Res:=(Q172.f K (x.1,wr .i64 (x.2.1-1),x.2.1,wr .i64 (x.2.1+1),x.2.2.1,())).bind fun y1=>some ((y1.1.1,()),(y1.2.1,()))
noncomputable def c (K:Nat):Ctr:=⟨381,ps,rs,true,f K⟩
end Q173
namespace Q174
@[reducible] def ps:List PK:=[.rd (.list false 3 (.int .i64)),.rd (.int .i64),.rd (.int .i64)]
@[reducible] def rs:List RK:=[.v (.int .i64),.v (.int .i64)]
abbrev Res:=ai rs×ah ps
noncomputable def f (K:Nat)(x:aa ps):Option Res:=bif decide ((wr .i64 (x.2.2.1-x.2.1))≥8) then (bif decide ((wr .i64 (x.2.2.1-x.2.1))≥50) then ((Q173.f K (x.1,wr .i64 (x.2.1+(wr .i64 ((wr .i64 (Int.tdiv (wr .i64 (x.2.2.1-x.2.1)) 4))*1))),0,())).bind fun y1=>(Q173.f K (x.1,wr .i64 (x.2.1+(wr .i64 ((wr .i64 (Int.tdiv (wr .i64 (x.2.2.1-x.2.1)) 4))*2))),y1.2.1,())).bind fun y2=>(Q173.f K (x.1,wr .i64 (x.2.1+(wr .i64 ((wr .i64 (Int.tdiv (wr .i64 (x.2.2.1-x.2.1)) 4))*3))),y2.2.1,())).bind fun y3=>(Q172.f K (x.1,y1.1.1,y2.1.1,y3.1.1,y3.2.1,())).bind fun y4=>bif y4.2.1==0 then (some ((y4.1.1,1,()),())) else (bif y4.2.1==12 then (some ((y4.1.1,2,()),())) else (some ((y4.1.1,0,()),())))) else ((Q172.f K (x.1,wr .i64 (x.2.1+(wr .i64 ((wr .i64 (Int.tdiv (wr .i64 (x.2.2.1-x.2.1)) 4))*1))),wr .i64 (x.2.1+(wr .i64 ((wr .i64 (Int.tdiv (wr .i64 (x.2.2.1-x.2.1)) 4))*2))),wr .i64 (x.2.1+(wr .i64 ((wr .i64 (Int.tdiv (wr .i64 (x.2.2.1-x.2.1)) 4))*3))),0,())).bind fun y5=>bif y5.2.1==0 then (some ((y5.1.1,1,()),())) else (bif y5.2.1==12 then (some ((y5.1.1,2,()),())) else (some ((y5.1.1,0,()),()))))) else (some ((wr .i64 (x.2.1+(wr .i64 ((wr .i64 (Int.tdiv (wr .i64 (x.2.2.1-x.2.1)) 4))*2))),1,()),()))
noncomputable def c (K:Nat):Ctr:=⟨374,ps,rs,true,f K⟩
end Q174
namespace Q175
@[reducible] def ps:List PK:=[.io (.list true 3 (.int .i64)),.rd (.int .i64),.rd (.int .i64),.rd (.int .i64)]
@[reducible] def rs:List RK:=[]
abbrev Res:=ai rs×ah ps
abbrev A_l0:=Unit
noncomputable def l0.step (K:Nat)(x:aa ps)(rec_l0:A_l0→Option Res)(a:A_l0):Option Res:=bif decide ((wr .i64 (x.2.2.1-x.2.1))≤12) then ((Q170.f K (x.1,x.2.1,x.2.2.1,())).bind fun y1=>some ((),(y1.2.1,()))) else (bif x.2.2.2.1==0 then none else ((Q174.f K (x.1,x.2.1,x.2.2.1,())).bind fun y2=>bif y2.1.2.1==2 then none else (bif y2.1.2.1==1 then none else (bif decide (x.2.1>0) then ((idx x.1 (wr .i64 (x.2.1-1))).bind fun _=>(idx x.1 (Int.toNat (wr .i64 (x.2.1-1)):Nat)).bind fun y4=>(idx x.1 y2.1.1).bind fun _=>(idx x.1 (Int.toNat y2.1.1:Nat)).bind fun y6=>(Q169.f K (y4,y6,())).bind fun y7=>bif !y7.1.1 then none else none) else none))))
noncomputable def l0 (K:Nat)(x:aa ps):A_l0→Option Res:=ac (fun rec_l0 a=>l0.step K x rec_l0 a) K
noncomputable def pre (K:Nat)(N_l0:A_l0→Option Res)(x:aa ps):Option Res:=N_l0 ()
noncomputable def f (K:Nat)(x:aa ps):Option Res:=pre K (l0 K x) x
noncomputable def c (K:Nat):Ctr:=⟨361,ps,rs,true,f K⟩
end Q175
namespace Q176
@[reducible] def ps:List PK:=[.io (.list true 3 (.int .i64))]
@[reducible] def rs:List RK:=[]
abbrev Res:=ai rs×ah ps
noncomputable def f (K:Nat)(x:aa ps):Option Res:=(Q168.f K (wr .u64 (List.length x.1:Int),())).bind fun y1=>(Q175.f K (x.1,0,(List.length x.1:Int),y1.1.1,())).bind fun y2=>some ((),(y2.2.1,()))
noncomputable def c (K:Nat):Ctr:=⟨343,ps,rs,true,f K⟩
end Q176
namespace Q177
@[reducible] def ps:List PK:=[.rd t3]
@[reducible] def rs:List RK:=[.v .bool]
abbrev Res:=ai rs×ah ps
noncomputable def f (K:Nat)(x:aa ps):Option Res:=some ((x.1.2==0,()),())
noncomputable def c (K:Nat):Ctr:=⟨345,ps,rs,true,f K⟩
end Q177
namespace Q178
@[reducible] def ps:List PK:=[.rd (.list false 173 t3),.rd (.int .i64)]
@[reducible] def rs:List RK:=[.v (.list true 132 t2),.v (.list true 173 t3)]
abbrev Res:=ai rs×ah ps
abbrev A_l1:=List (Ty.den t3)×List (Ty.den (.int .i64))×List (Ty.den t2)×Int×Int
abbrev A_l0:=List (Ty.den (.int .i64))×Int
noncomputable def l1.step (K:Nat)(x:aa ps)(rec_l1:A_l1→Option Res)(a:A_l1):Option Res:=bif decide (a.2.2.2.2<a.2.2.2.1) then ((idx a.2.1 a.2.2.2.2).bind fun _=>(idx a.2.1 (Int.toNat a.2.2.2.2:Nat)).bind fun y10=>(idx a.1 y10).bind fun _=>(idx a.1 (Int.toNat y10:Nat)).bind fun y12=>bif decide ((List.length a.2.2.1+List.length ([y12.1]))*32≤an) then ((idx a.1 y10).bind fun _=>(idx a.1 (Int.toNat y10:Nat)).bind fun y14=>(idx a.1 y10).bind fun _=>(idx a.1 (Int.toNat y10:Nat)).bind fun y16=>rec_l1 (a.1.set (Int.toNat y10) (y16.1,wr .i64 (y14.2-1)),a.2.1,a.2.2.1++([y12.1]),a.2.2.2.1,wr .i64 (a.2.2.2.2+1))) else none) else ((Q9.f K (a.1,fun y17=>(Q177.f K (y17.1,())).map fun y=>y.1.1,())).bind fun y18=>some ((a.2.2.1,y18.1.1,()),()))
noncomputable def l1 (K:Nat)(x:aa ps):A_l1→Option Res:=ac (fun rec_l1 a=>l1.step K x rec_l1 a) K
noncomputable def l0.step (K:Nat)(x:aa ps)(N_l1:A_l1→Option Res)(rec_l0:A_l0→Option Res)(a:A_l0):Option Res:=bif decide (a.2<(List.length (List.replicate (Int.toNat (List.length x.1:Int)) (0:Ty.den (.int .i64))):Int)) then ((idx a.1 a.2).bind fun _=>(idx a.1 (Int.toNat a.2:Nat)).bind fun y3=>rec_l0 (a.1.set (Int.toNat a.2) a.2,wr .i64 (a.2+1))) else ((Q165.f K (a.1,fun y4=>(Q166.f K (y4.1,y4.2.1,x.1,())).map fun y=>y.1.1,())).bind fun y5=>(Q2.f K (x.1,())).bind fun y6=>(Q156.f K (y5.2.1,x.2.1,())).bind fun y7=>(Q176.f K (y7.1.1,())).bind fun y8=>N_l1 (y6.1.1,y8.2.1,[],(List.length y8.2.1:Int),0))
noncomputable def l0 (K:Nat)(x:aa ps):A_l0→Option Res:=ac (fun rec_l0 a=>l0.step K x (l1 K x) rec_l0 a) K
noncomputable def pre (K:Nat)(N_l0:A_l0→Option Res)(x:aa ps):Option Res:=(Q128.f K (x.1,())).bind fun y1=>bif !y1.1.1 then (some (([],[],()),())) else (bif decide (0≤(List.length x.1:Int))&&decide ((List.length x.1:Int)=(List.length x.1:Int))&&decide ((List.length x.1:Int)*(8:Nat)≤an) then (N_l0 (List.replicate (Int.toNat (List.length x.1:Int)) (0:Ty.den (.int .i64)),0)) else none)
noncomputable def f (K:Nat)(x:aa ps):Option Res:=pre K (l0 K x) x
noncomputable def c (K:Nat):Ctr:=⟨313,ps,rs,true,f K⟩
noncomputable def G (K:Nat):List Ctr:=[Q156.c K,Q128.c K,Q2.c K,Q165.c K,Q166.c K,Q176.c K,Q9.c K,Q177.c K]
noncomputable def live_l1:List (Nat×List Coe):=[(8,[.own false 173 t3]),(9,[.own false 3 (.int .i64)]),(10,[.own false 132 t2]),(39,[.keep]),(40,[.keep]),(41,[.keep])]
noncomputable def live_l0:List (Nat×List Coe):=[(1,[.keep]),(2,[.keep]),(6,[.own false 3 (.int .i64)]),(20,[.keep]),(21,[.keep]),(100002,[.ro true 173 t3])]
noncomputable def L:List (Nat×List (Nat×List Coe)):=[(16,live_l1),(6,live_l0)]
noncomputable def body:Code:=c9 Tryz.f313
noncomputable abbrev ev (K:Nat):Code→St→(Ex→St→Option Res)→Option Res:=evK (G K) T_D L K
noncomputable abbrev fin:Ex→St→Option Res:=db T_D ps rs true Tryz.f313.results.toList
noncomputable def S_l0 (x:aa ps)(a:A_l0):St:=aw [(1,⟨0,.one,[.int .i64 x.2.1]⟩),(2,⟨0,.one,[.bp 100002 0]⟩),(6,⟨0,.one,[.own false none 3 (.int .i64) a.1]⟩),(20,⟨0,.one,[.int .i64 (List.length (List.replicate (Int.toNat (List.length x.1:Int)) (0:Ty.den (.int .i64))):Int)]⟩),(21,⟨0,.one,[.int .i64 a.2]⟩),(100002,⟨0,.agg,[.ro true 173 t3 x.1]⟩)]
noncomputable def S_l1 (x:aa ps)(a:A_l1):St:=aw [(8,⟨0,.one,[.own false none 173 t3 a.1]⟩),(9,⟨0,.one,[.own false none 3 (.int .i64) a.2.1]⟩),(10,⟨0,.one,[.own false none 132 t2 a.2.2.1]⟩),(39,⟨0,.one,[.al 9 0 0]⟩),(40,⟨0,.one,[.int .i64 a.2.2.2.1]⟩),(41,⟨0,.one,[.int .i64 a.2.2.2.2]⟩)]
noncomputable def k_l0 (K:Nat)(x:aa ps):Ex→St→Option Res:=kAt (ev K) body [1,1,1,0,1,0] fin
noncomputable def N_l0 (K:Nat)(x:aa ps):A_l0→Option Res:=fun a=>bu live_l0 (ev K (sub body [1,1,1,0,1,0,0])) K (S_l0 x a) (k_l0 K x)
noncomputable def k_l1 (K:Nat)(x:aa ps):Ex→St→Option Res:=kAt (ev K) body [1,1,1,1,1,1,1,1,1,0,1,0] fin
noncomputable def N_l1 (K:Nat)(x:aa ps):A_l1→Option Res:=fun a=>bu live_l1 (ev K (sub body [1,1,1,1,1,1,1,1,1,0,1,0,0])) K (S_l1 x a) (k_l1 K x)
end Q178
namespace Q179
@[reducible] def ps:List PK:=[.iop t64,.rd (.int .i64)]
@[reducible] def rs:List RK:=[.v (.list true 132 t2)]
abbrev Res:=ai rs×ah ps
noncomputable def f (K:Nat)(x:aa ps):Option Res:=(Q178.f K (x.1.2.2.2.2.2.2.2.2.2.1,3,())).bind fun y1=>(Q123.f K (x.1.2.2.2.2.2.2.2.2.1,x.2.1,())).bind fun y2=>bif y2.1.1.2.2.1==2 then ((Q146.f K (y1.1.1,y2.1.1,())).bind fun y3=>some ((y3.1.1,()),((x.1.1,(x.1.2.1,(x.1.2.2.1,(x.1.2.2.2.1,(x.1.2.2.2.2.1,(x.1.2.2.2.2.2.1,(x.1.2.2.2.2.2.2.1,(x.1.2.2.2.2.2.2.2.1,(x.1.2.2.2.2.2.2.2.2.1,(y1.1.2.1,x.1.2.2.2.2.2.2.2.2.2.2)))))))))),()))) else (some ((y1.1.1,()),((x.1.1,(x.1.2.1,(x.1.2.2.1,(x.1.2.2.2.1,(x.1.2.2.2.2.1,(x.1.2.2.2.2.2.1,(x.1.2.2.2.2.2.2.1,(x.1.2.2.2.2.2.2.2.1,(x.1.2.2.2.2.2.2.2.2.1,(y1.1.2.1,x.1.2.2.2.2.2.2.2.2.2.2)))))))))),())))
noncomputable def c (K:Nat):Ctr:=⟨267,ps,rs,true,f K⟩
end Q179
namespace Q180
@[reducible] def ps:List PK:=[.iop t64]
@[reducible] def rs:List RK:=[.v (.list true 53 t32)]
abbrev Res:=ai rs×ah ps
abbrev A_l0:=Int
noncomputable def l0.step (K:Nat)(x:aa ps)(rec_l0:A_l0→Option Res)(a:A_l0):Option Res:=bif decide (a<8) then (bif (Int.tmod (wr .i64 (x.1.2.2.2.2.2.2.2.1+a)) 8)==x.1.1 then (rec_l0 (wr .i64 (a+1))) else ((Q159.f K (x.1,Int.tmod (wr .i64 (x.1.2.2.2.2.2.2.2.1+a)) 8,())).bind fun y1=>bif !y1.1.1 then (rec_l0 (wr .i64 (a+1))) else ((Q179.f K (x.1,Int.tmod (wr .i64 (x.1.2.2.2.2.2.2.2.1+a)) 8,())).bind fun y2=>(Q160.f K ((y2.2.1.1,(y2.2.1.2.1,(y2.2.1.2.2.1,(y2.2.1.2.2.2.1,(y2.2.1.2.2.2.2.1,(y2.2.1.2.2.2.2.2.1,(wr .i64 (y2.2.1.2.2.2.2.2.2.1+1),(wr .i64 ((Int.tmod (wr .i64 (x.1.2.2.2.2.2.2.2.1+a)) 8)+1),(y2.2.1.2.2.2.2.2.2.2.2.1,(y2.2.1.2.2.2.2.2.2.2.2.2.1,((Int.tmod (wr .i64 (x.1.2.2.2.2.2.2.2.1+a)) 8,(y2.2.1.2.2.2.2.2.1,(wr .i64 (y2.2.1.2.2.2.2.2.2.1+1),false))),y2.2.1.2.2.2.2.2.2.2.2.2.2.2))))))))))),1,Int.tmod (wr .i64 (x.1.2.2.2.2.2.2.2.1+a)) 8,())).bind fun y3=>some (([(y3.1.1.1,(y3.1.1.2.1,(y3.1.1.2.2.1,(y3.1.1.2.2.2.1,(wr .i64 (y2.2.1.2.2.2.2.2.2.1+1),(y3.1.1.2.2.2.2.2.1,(y3.1.1.2.2.2.2.2.2.1,y2.1.1)))))))],()),((y2.2.1.1,(y2.2.1.2.1,(y2.2.1.2.2.1,(y2.2.1.2.2.2.1,(y2.2.1.2.2.2.2.1,(y2.2.1.2.2.2.2.2.1,(wr .i64 (y2.2.1.2.2.2.2.2.2.1+1),(wr .i64 ((Int.tmod (wr .i64 (x.1.2.2.2.2.2.2.2.1+a)) 8)+1),(y2.2.1.2.2.2.2.2.2.2.2.1,(y2.2.1.2.2.2.2.2.2.2.2.2.1,((Int.tmod (wr .i64 (x.1.2.2.2.2.2.2.2.1+a)) 8,(y2.2.1.2.2.2.2.2.1,(wr .i64 (y2.2.1.2.2.2.2.2.2.1+1),false))),y2.2.1.2.2.2.2.2.2.2.2.2.2.2))))))))))),()))))) else (some (([],()),(x.1,())))
noncomputable def l0 (K:Nat)(x:aa ps):A_l0→Option Res:=ac (fun rec_l0 a=>l0.step K x rec_l0 a) K
noncomputable def pre (K:Nat)(N_l0:A_l0→Option Res)(x:aa ps):Option Res:=bif x.1.2.2.2.2.2.2.2.2.2.2.1.1 != (-1) then (some (([],()),(x.1,()))) else (bif decide (x.1.2.2.2.2.2.2.1≥999999) then (some (([],()),(x.1,()))) else (N_l0 0))
noncomputable def f (K:Nat)(x:aa ps):Option Res:=pre K (l0 K x) x
noncomputable def c (K:Nat):Ctr:=⟨221,ps,rs,true,f K⟩
end Q180
namespace Q181
@[reducible] def ps:List PK:=[.rref t78,.rd (.int .i64),.rd (.int .i64)]
@[reducible] def rs:List RK:=[.v t32]
abbrev Res:=ai rs×ah ps
noncomputable def f (K:Nat)(x:aa ps):Option Res:=(Q160.f K (x.1,x.2.1,x.2.2.1,())).bind fun y1=>(Q0.f K (x.1.2.2.2.2.2.2.2.2.1,())).bind fun y2=>some (((y1.1.1.1,(y1.1.1.2.1,(y1.1.1.2.2.1,(y1.1.1.2.2.2.1,(y1.1.1.2.2.2.2.1,(y1.1.1.2.2.2.2.2.1,(y1.1.1.2.2.2.2.2.2.1,y2.1.1))))))),()),())
noncomputable def c (K:Nat):Ctr:=⟨200,ps,rs,true,f K⟩
end Q181
namespace Q182
@[reducible] def ps:List PK:=[.rd t2]
@[reducible] def rs:List RK:=[.v .bool]
abbrev Res:=ai rs×ah ps
noncomputable def f (K:Nat)(x:aa ps):Option Res:=bif x.1.2.2.2 then (some ((x.1.2.2.1==1,()),())) else (some ((false,()),()))
noncomputable def c (K:Nat):Ctr:=⟨185,ps,rs,true,f K⟩
end Q182
namespace Q183
@[reducible] def ps:List PK:=[.rd (.list false 132 t2),.rd (.int .i64)]
@[reducible] def rs:List RK:=[.v (.list true 3 (.int .i64))]
abbrev Res:=ai rs×ah ps
noncomputable def f (K:Nat)(x:aa ps):Option Res:=(Q117.f K (x.1,())).bind fun y1=>bif !y1.1.1 then (some (([],()),())) else ((Q157.f K (x.1,fun y2=>(Q182.f K (y2.1,())).map fun y=>y.1.1,())).bind fun y3=>(Q156.f K (y3.1.1,x.2.1,())).bind fun y4=>some ((y4.1.1,()),()))
noncomputable def c (K:Nat):Ctr:=⟨94,ps,rs,true,f K⟩
end Q183
namespace Q184
@[reducible] def ps:List PK:=[.rref t78,.rd (.int .i64)]
@[reducible] def rs:List RK:=[.bv (.list false 132 t2)]
abbrev Res:=ai rs×ah ps
abbrev A_l0:=Int
noncomputable def l0.step (K:Nat)(x:aa ps)(rec_l0:A_l0→Option Res)(a:A_l0):Option Res:=bif decide (a<(List.length x.1.2.2.2.2.2.2.2.2.2.2.2.2.2.2:Int)) then ((idx x.1.2.2.2.2.2.2.2.2.2.2.2.2.2.2 a).bind fun y1=>bif y1.1==x.2.1 then (some ((y1.2,()),())) else (rec_l0 (wr .i64 (a+1)))) else (some (([],()),()))
noncomputable def l0 (K:Nat)(x:aa ps):A_l0→Option Res:=ac (fun rec_l0 a=>l0.step K x rec_l0 a) K
noncomputable def pre (K:Nat)(N_l0:A_l0→Option Res)(x:aa ps):Option Res:=N_l0 0
noncomputable def f (K:Nat)(x:aa ps):Option Res:=pre K (l0 K x) x
noncomputable def c (K:Nat):Ctr:=⟨95,ps,rs,true,f K⟩
end Q184
namespace Q185
@[reducible] def ps:List PK:=[.rd (.list false 3 (.int .i64)),.rd (.int .i64)]
@[reducible] def rs:List RK:=[.v (.int .i64)]
abbrev Res:=ai rs×ah ps
abbrev A_l0:=Int
noncomputable def l0.step (K:Nat)(x:aa ps)(rec_l0:A_l0→Option Res)(a:A_l0):Option Res:=bif decide (a<(List.length x.1:Int)) then ((idx x.1 a).bind fun y1=>bif x.2.1==y1 then (some ((a,()),())) else (rec_l0 (wr .i64 (a+1)))) else (some (((-1),()),()))
noncomputable def l0 (K:Nat)(x:aa ps):A_l0→Option Res:=ac (fun rec_l0 a=>l0.step K x rec_l0 a) K
noncomputable def pre (K:Nat)(N_l0:A_l0→Option Res)(x:aa ps):Option Res:=N_l0 0
noncomputable def f (K:Nat)(x:aa ps):Option Res:=pre K (l0 K x) x
noncomputable def c (K:Nat):Ctr:=⟨346,ps,rs,true,f K⟩
end Q185
namespace Q186
@[reducible] def ps:List PK:=[.rd (.list false 3 (.int .i64)),.rd (.int .i64)]
@[reducible] def rs:List RK:=[.v .bool]
abbrev Res:=ai rs×ah ps
noncomputable def f (K:Nat)(x:aa ps):Option Res:=(Q185.f K (x.1,x.2.1,())).bind fun y1=>some ((decide (y1.1.1≥0),()),())
noncomputable def c (K:Nat):Ctr:=⟨314,ps,rs,true,f K⟩
end Q186
namespace Q187
@[reducible] def ps:List PK:=[.rref t78,.rd (.int .i64)]
@[reducible] def rs:List RK:=[.v (.list true 53 t32)]
abbrev Res:=ai rs×ah ps
abbrev A_l0:=List (Ty.den t32)×Int×Int
noncomputable def l0.step (K:Nat)(x:aa ps)(rec_l0:A_l0→Option Res)(a:A_l0):Option Res:=bif decide (a.2.2<a.2.1) then ((Q115.f K (x.1,())).bind fun y4=>bif a.2.2==y4.1.1 then (rec_l0 (a.1,a.2.1,wr .i64 (a.2.2+1))) else ((Q184.f K (x.1,a.2.2,())).bind fun y5=>(Q183.f K (y5.1.1,2,())).bind fun y6=>bif decide ((List.length y6.1.1:Int)>0) then (bif (aV .i64 x.2.1 4)==0 then (bif decide ((List.length y6.1.1:Int)=0) then none else ((idx y6.1.1 (Int.tmod (aV .i64 (Int.fdiv x.2.1 (2 ^ 3)) 255) (List.length y6.1.1:Int))).bind fun _=>(idx y6.1.1 (Int.toNat (Int.tmod (aV .i64 (Int.fdiv x.2.1 (2 ^ 3)) 255) (List.length y6.1.1:Int)):Nat)).bind fun y8=>(Q181.f K (x.1,6,y8,())).bind fun y9=>bif decide ((List.length a.1+List.length ([(2,y9.1.1.2)]))*104≤an) then (rec_l0 (a.1++([(2,y9.1.1.2)]),a.2.1,wr .i64 (a.2.2+1))) else none)) else ((Q181.f K (x.1,6,wr .i64 ((wr .i64 (a.2.2*4))+(aV .i64 (Int.fdiv x.2.1 (2 ^ 3)) 3)),())).bind fun y10=>bif decide ((List.length a.1+List.length ([(2,y10.1.1.2)]))*104≤an) then (rec_l0 (a.1++([(2,y10.1.1.2)]),a.2.1,wr .i64 (a.2.2+1))) else none)) else ((Q181.f K (x.1,6,wr .i64 ((wr .i64 (a.2.2*4))+(aV .i64 (Int.fdiv x.2.1 (2 ^ 3)) 3)),())).bind fun y11=>bif decide ((List.length a.1+List.length ([(2,y11.1.1.2)]))*104≤an) then (rec_l0 (a.1++([(2,y11.1.1.2)]),a.2.1,wr .i64 (a.2.2+1))) else none))) else (some ((a.1,()),()))
noncomputable def l0 (K:Nat)(x:aa ps):A_l0→Option Res:=ac (fun rec_l0 a=>l0.step K x rec_l0 a) K
noncomputable def pre (K:Nat)(N_l0:A_l0→Option Res)(x:aa ps):Option Res:=(Q183.f K (x.1.2.2.2.2.2.2.2.2.1,2,())).bind fun y1=>(Q186.f K (y1.1.1,x.1.1,())).bind fun y2=>bif !y2.1.1 then (some (([],()),())) else ((Q112.f K (7,())).bind fun y3=>N_l0 ([],wr .i64 (y3.1.1+1),0))
noncomputable def f (K:Nat)(x:aa ps):Option Res:=pre K (l0 K x) x
noncomputable def c (K:Nat):Ctr:=⟨268,ps,rs,true,f K⟩
end Q187
namespace Q188
@[reducible] def ps:List PK:=[.rd t2,.rref2 t78]
@[reducible] def rs:List RK:=[.v .bool]
abbrev Res:=ai rs×ah ps
noncomputable def f (K:Nat)(x:aa ps):Option Res:=bif x.1.2.2.1 != 4 then (some ((x.1.1 != x.2.1.1,()),())) else (some ((false,()),()))
noncomputable def c (K:Nat):Ctr:=⟨269,ps,rs,true,f K⟩
end Q188
namespace Q189
@[reducible] def ps:List PK:=[.rref t78,.rd (.int .i64)]
@[reducible] def rs:List RK:=[.v (.list true 53 t32)]
abbrev Res:=ai rs×ah ps
noncomputable def f (K:Nat)(x:aa ps):Option Res:=bif (aV .i64 x.2.1 3)==1 then ((Q187.f K (x.1,Int.fdiv x.2.1 (2 ^ 2),())).bind fun y1=>some ((y1.1.1,()),())) else ((Q157.f K (x.1.2.2.2.2.2.2.2.2.1,fun y2=>(Q188.f K (y2.1,x.1,())).map fun y=>y.1.1,())).bind fun y3=>bif (aV .i64 x.2.1 3)==3 then (some (([],()),())) else (bif (List.length y3.1.1:Int)==0 then (some (([],()),())) else (bif decide ((List.length y3.1.1:Int)=0) then none else ((idx y3.1.1 (Int.tmod (aV .i64 (Int.fdiv x.2.1 (2 ^ 2)) 255) (List.length y3.1.1:Int))).bind fun _=>(idx y3.1.1 (Int.toNat (Int.tmod (aV .i64 (Int.fdiv x.2.1 (2 ^ 2)) 255) (List.length y3.1.1:Int)):Nat)).bind fun y5=>bif (aV .i64 x.2.1 3)==0 then ((Q181.f K (x.1,4,y5,())).bind fun y6=>some (([y6.1.1],()),())) else (bif (List.length x.1.2.2.2.2.2.2.2.2.2.2.2.2.2.2:Int)==0 then (some (([],()),())) else ((Q160.f K (x.1,6,y5,())).bind fun y7=>bif decide ((List.length x.1.2.2.2.2.2.2.2.2.2.2.2.2.2.2:Int)=0) then none else ((idx x.1.2.2.2.2.2.2.2.2.2.2.2.2.2.2 (Int.tmod (aV .i64 (Int.fdiv (Int.fdiv x.2.1 (2 ^ 2)) (2 ^ 10)) 255) (List.length x.1.2.2.2.2.2.2.2.2.2.2.2.2.2.2:Int))).bind fun y8=>(Q0.f K (y8.2,())).bind fun y9=>some (([(y7.1.1.1,(y7.1.1.2.1,(y7.1.1.2.2.1,(y7.1.1.2.2.2.1,(y7.1.1.2.2.2.2.1,(y7.1.1.2.2.2.2.2.1,(y7.1.1.2.2.2.2.2.2.1,y9.1.1)))))))],()),()))))))))
noncomputable def c (K:Nat):Ctr:=⟨222,ps,rs,true,f K⟩
end Q189
namespace Q190
@[reducible] def ps:List PK:=[.iop t64,.rd (.int .i64)]
@[reducible] def rs:List RK:=[.v (.list true 53 t32)]
abbrev Res:=ai rs×ah ps
noncomputable def f (K:Nat)(x:aa ps):Option Res:=(Q145.f K (x.1,())).bind fun y1=>bif !y1.1.1 then (some (([],()),(x.1,()))) else (bif decide (x.1.2.2.2.2.2.1≥999999) then (some (([],()),(x.1,()))) else ((Q154.f K ((x.1.1,(x.1.2.1,(x.1.2.2.1,(x.1.2.2.2.1,(x.1.2.2.2.2.1,(wr .i64 (x.1.2.2.2.2.2.1+1),x.1.2.2.2.2.2.2)))))),())).bind fun y2=>(Q162.f K (y2.2.1,())).bind fun y3=>(Q180.f K (y3.2.1,())).bind fun y4=>bif decide ((List.length y3.1.1+List.length y4.1.1)*104≤an) then ((Q189.f K (y4.2.1,x.2.1,())).bind fun y5=>bif decide ((List.length (y3.1.1++y4.1.1)+List.length y5.1.1)*104≤an) then (some (((y3.1.1++y4.1.1)++y5.1.1,()),(y4.2.1,()))) else none) else none))
noncomputable def c (K:Nat):Ctr:=⟨148,ps,rs,true,f K⟩
end Q190
namespace Q191
@[reducible] def ps:List PK:=[.iop t64,.rref (.int .i64)]
@[reducible] def rs:List RK:=[.v (.list true 53 t32)]
abbrev Res:=ai rs×ah ps
noncomputable def f (K:Nat)(x:aa ps):Option Res:=(Q190.f K (x.1,x.2.1,())).bind fun y1=>some ((y1.1.1,()),(y1.2.1,()))
noncomputable def c (K:Nat):Ctr:=⟨147,ps,rs,true,f K⟩
end Q191
namespace Q192
@[reducible] def ps:List PK:=[.rd t78]
@[reducible] def rs:List RK:=[.v t64]
abbrev Res:=ai rs×ah ps
abbrev A_l2:=List (Ty.den t6)×List (Ty.den t11)×List (Ty.den t12)×Int
abbrev A_l1:=List (Ty.den t6)×List (Ty.den t11)×Int
abbrev A_l0:=List (Ty.den t6)×Int
noncomputable def l2.step (K:Nat)(x:aa ps)(rec_l2:A_l2→Option Res)(a:A_l2):Option Res:=bif decide (a.2.2.2<(List.length x.1.2.2.2.2.2.2.2.2.2.2.2.2.2.2:Int)) then ((idx x.1.2.2.2.2.2.2.2.2.2.2.2.2.2.2 a.2.2.2).bind fun y5=>(Q0.f K (y5.2,())).bind fun y6=>bif decide ((List.length a.2.2.1+List.length ([(y5.1,y6.1.1)]))*32≤an) then (rec_l2 (a.1,a.2.1,a.2.2.1++([(y5.1,y6.1.1)]),wr .i64 (a.2.2.2+1))) else none) else ((Q0.f K (x.1.2.2.2.2.2.2.2.2.1,())).bind fun y7=>(Q2.f K (x.1.2.2.2.2.2.2.2.2.2.1,())).bind fun y8=>some (((x.1.1,(x.1.2.1,(x.1.2.2.1,(x.1.2.2.2.1,(x.1.2.2.2.2.1,(x.1.2.2.2.2.2.1,(x.1.2.2.2.2.2.2.1,(x.1.2.2.2.2.2.2.2.1,(y7.1.1,(y8.1.1,(x.1.2.2.2.2.2.2.2.2.2.2.1,(a.1,(x.1.2.2.2.2.2.2.2.2.2.2.2.2.1,(a.2.1,a.2.2.1)))))))))))))),()),()))
noncomputable def l2 (K:Nat)(x:aa ps):A_l2→Option Res:=ac (fun rec_l2 a=>l2.step K x rec_l2 a) K
noncomputable def l1.step (K:Nat)(x:aa ps)(N_l2:A_l2→Option Res)(rec_l1:A_l1→Option Res)(a:A_l1):Option Res:=bif decide (a.2.2<(List.length x.1.2.2.2.2.2.2.2.2.2.2.2.2.2.1:Int)) then ((idx x.1.2.2.2.2.2.2.2.2.2.2.2.2.2.1 a.2.2).bind fun y3=>(Q8.f K (y3.2.2,())).bind fun y4=>bif decide ((List.length a.2.1+List.length ([(y3.1,(y3.2.1,y4.1.1))]))*64≤an) then (rec_l1 (a.1,a.2.1++([(y3.1,(y3.2.1,y4.1.1))]),wr .i64 (a.2.2+1))) else none) else (N_l2 (a.1,a.2.1,[],0))
noncomputable def l1 (K:Nat)(x:aa ps):A_l1→Option Res:=ac (fun rec_l1 a=>l1.step K x (l2 K x) rec_l1 a) K
noncomputable def l0.step (K:Nat)(x:aa ps)(N_l1:A_l1→Option Res)(rec_l0:A_l0→Option Res)(a:A_l0):Option Res:=bif decide (a.2<(List.length x.1.2.2.2.2.2.2.2.2.2.2.2.1:Int)) then ((idx x.1.2.2.2.2.2.2.2.2.2.2.2.1 a.2).bind fun y1=>(Q8.f K (y1.2.2.2,())).bind fun y2=>bif decide ((List.length a.1+List.length ([(y1.1,(y1.2.1,(y1.2.2.1,y2.1.1)))]))*48≤an) then (rec_l0 (a.1++([(y1.1,(y1.2.1,(y1.2.2.1,y2.1.1)))]),wr .i64 (a.2+1))) else none) else (N_l1 (a.1,[],0))
noncomputable def l0 (K:Nat)(x:aa ps):A_l0→Option Res:=ac (fun rec_l0 a=>l0.step K x (l1 K x) rec_l0 a) K
noncomputable def pre (K:Nat)(N_l0:A_l0→Option Res)(x:aa ps):Option Res:=N_l0 ([],0)
noncomputable def f (K:Nat)(x:aa ps):Option Res:=pre K (l0 K x) x
noncomputable def c (K:Nat):Ctr:=⟨197,ps,rs,true,f K⟩
noncomputable def G (K:Nat):List Ctr:=[Q8.c K,Q0.c K,Q2.c K]
noncomputable def live_l2:List (Nat×List Coe):=[(1,[.keep]),(2,[.keep]),(3,[.own false 177 t6]),(6,[.own false 94 t11]),(9,[.own false 119 t12]),(45,[.ro true 119 t18]),(46,[.keep]),(47,[.keep]),(100001,[.keep,.keep,.keep,.keep,.keep,.keep,.keep,.keep,.ro true 132 t2,.ro true 173 t3,.keep,.keep,.keep,.keep,.ro true 177 t15,.keep,.keep,.keep,.keep,.ro true 94 t17,.ro true 119 t18]),(100002,[.keep,.keep,.keep,.keep,.keep,.keep,.keep,.keep,.keep,.keep,.keep,.keep,.keep,.keep,.keep,.keep,.keep,.keep,.keep,.keep,.keep])]
noncomputable def live_l1:List (Nat×List Coe):=[(1,[.keep]),(2,[.keep]),(3,[.own false 177 t6]),(6,[.own false 94 t11]),(29,[.ro true 94 t17]),(30,[.keep]),(31,[.keep]),(100001,[.keep,.keep,.keep,.keep,.keep,.keep,.keep,.keep,.ro true 132 t2,.ro true 173 t3,.keep,.keep,.keep,.keep,.ro true 177 t15,.keep,.keep,.keep,.keep,.ro true 94 t17,.ro true 119 t18]),(100002,[.keep,.keep,.keep,.keep,.keep,.keep,.keep,.keep,.keep,.keep,.keep,.keep,.keep,.keep,.keep,.keep,.keep,.keep,.keep,.keep,.keep])]
noncomputable def live_l0:List (Nat×List Coe):=[(1,[.keep]),(2,[.keep]),(3,[.own false 177 t6]),(13,[.ro true 177 t15]),(14,[.keep]),(15,[.keep]),(100001,[.keep,.keep,.keep,.keep,.keep,.keep,.keep,.keep,.ro true 132 t2,.ro true 173 t3,.keep,.keep,.keep,.keep,.ro true 177 t15,.keep,.keep,.keep,.keep,.ro true 94 t17,.ro true 119 t18]),(100002,[.keep,.keep,.keep,.keep,.keep,.keep,.keep,.keep,.keep,.keep,.keep,.keep,.keep,.keep,.keep,.keep,.keep,.keep,.keep,.keep,.keep])]
noncomputable def L:List (Nat×List (Nat×List Coe)):=[(18,live_l2),(11,live_l1),(4,live_l0)]
noncomputable def body:Code:=c9 Tryz.f197
noncomputable abbrev ev (K:Nat):Code→St→(Ex→St→Option Res)→Option Res:=evK (G K) T_D L K
noncomputable abbrev fin:Ex→St→Option Res:=db T_D ps rs true Tryz.f197.results.toList
noncomputable def S_l0 (x:aa ps)(a:A_l0):St:=aw [(1,⟨0,.one,[.bp 100001 0]⟩),(2,⟨0,.one,[.bp 100002 0]⟩),(3,⟨0,.one,[.own false none 177 t6 a.1]⟩),(13,⟨0,.one,[.ro true 177 t15 x.1.2.2.2.2.2.2.2.2.2.2.2.1]⟩),(14,⟨0,.one,[.int .i64 (List.length x.1.2.2.2.2.2.2.2.2.2.2.2.1:Int)]⟩),(15,⟨0,.one,[.int .i64 a.2]⟩),(100001,⟨0,.agg,[.int .i64 x.1.1,.bool x.1.2.1,.bool x.1.2.2.1,.bool x.1.2.2.2.1,.int .i64 x.1.2.2.2.2.1,.int .i64 x.1.2.2.2.2.2.1,.int .i64 x.1.2.2.2.2.2.2.1,.int .i64 x.1.2.2.2.2.2.2.2.1,.ro true 132 t2 x.1.2.2.2.2.2.2.2.2.1,.ro true 173 t3 x.1.2.2.2.2.2.2.2.2.2.1,.int .i64 x.1.2.2.2.2.2.2.2.2.2.2.1.1,.int .i64 x.1.2.2.2.2.2.2.2.2.2.2.1.2.1,.int .i64 x.1.2.2.2.2.2.2.2.2.2.2.1.2.2.1,.bool x.1.2.2.2.2.2.2.2.2.2.2.1.2.2.2,.ro true 177 t15 x.1.2.2.2.2.2.2.2.2.2.2.2.1,.int .i64 x.1.2.2.2.2.2.2.2.2.2.2.2.2.1.1,.int .i64 x.1.2.2.2.2.2.2.2.2.2.2.2.2.1.2.1,.int .i64 x.1.2.2.2.2.2.2.2.2.2.2.2.2.1.2.2.1,.int .i64 x.1.2.2.2.2.2.2.2.2.2.2.2.2.1.2.2.2,.ro true 94 t17 x.1.2.2.2.2.2.2.2.2.2.2.2.2.2.1,.ro true 119 t18 x.1.2.2.2.2.2.2.2.2.2.2.2.2.2.2]⟩),(100002,⟨0,.agg,[.int .i64 0,.bool false,.bool false,.bool false,.int .i64 0,.int .i64 0,.int .i64 0,.int .i64 0,.nil,.nil,.int .i64 0,.int .i64 0,.int .i64 0,.bool false,.nil,.int .i64 0,.int .i64 0,.int .i64 0,.int .i64 0,.nil,.nil]⟩)]
noncomputable def S_l1 (x:aa ps)(a:A_l1):St:=aw [(1,⟨0,.one,[.bp 100001 0]⟩),(2,⟨0,.one,[.bp 100002 0]⟩),(3,⟨0,.one,[.own false none 177 t6 a.1]⟩),(6,⟨0,.one,[.own false none 94 t11 a.2.1]⟩),(29,⟨0,.one,[.ro true 94 t17 x.1.2.2.2.2.2.2.2.2.2.2.2.2.2.1]⟩),(30,⟨0,.one,[.int .i64 (List.length x.1.2.2.2.2.2.2.2.2.2.2.2.2.2.1:Int)]⟩),(31,⟨0,.one,[.int .i64 a.2.2]⟩),(100001,⟨0,.agg,[.int .i64 x.1.1,.bool x.1.2.1,.bool x.1.2.2.1,.bool x.1.2.2.2.1,.int .i64 x.1.2.2.2.2.1,.int .i64 x.1.2.2.2.2.2.1,.int .i64 x.1.2.2.2.2.2.2.1,.int .i64 x.1.2.2.2.2.2.2.2.1,.ro true 132 t2 x.1.2.2.2.2.2.2.2.2.1,.ro true 173 t3 x.1.2.2.2.2.2.2.2.2.2.1,.int .i64 x.1.2.2.2.2.2.2.2.2.2.2.1.1,.int .i64 x.1.2.2.2.2.2.2.2.2.2.2.1.2.1,.int .i64 x.1.2.2.2.2.2.2.2.2.2.2.1.2.2.1,.bool x.1.2.2.2.2.2.2.2.2.2.2.1.2.2.2,.ro true 177 t15 x.1.2.2.2.2.2.2.2.2.2.2.2.1,.int .i64 x.1.2.2.2.2.2.2.2.2.2.2.2.2.1.1,.int .i64 x.1.2.2.2.2.2.2.2.2.2.2.2.2.1.2.1,.int .i64 x.1.2.2.2.2.2.2.2.2.2.2.2.2.1.2.2.1,.int .i64 x.1.2.2.2.2.2.2.2.2.2.2.2.2.1.2.2.2,.ro true 94 t17 x.1.2.2.2.2.2.2.2.2.2.2.2.2.2.1,.ro true 119 t18 x.1.2.2.2.2.2.2.2.2.2.2.2.2.2.2]⟩),(100002,⟨0,.agg,[.int .i64 0,.bool false,.bool false,.bool false,.int .i64 0,.int .i64 0,.int .i64 0,.int .i64 0,.nil,.nil,.int .i64 0,.int .i64 0,.int .i64 0,.bool false,.nil,.int .i64 0,.int .i64 0,.int .i64 0,.int .i64 0,.nil,.nil]⟩)]
noncomputable def S_l2 (x:aa ps)(a:A_l2):St:=aw [(1,⟨0,.one,[.bp 100001 0]⟩),(2,⟨0,.one,[.bp 100002 0]⟩),(3,⟨0,.one,[.own false none 177 t6 a.1]⟩),(6,⟨0,.one,[.own false none 94 t11 a.2.1]⟩),(9,⟨0,.one,[.own false none 119 t12 a.2.2.1]⟩),(45,⟨0,.one,[.ro true 119 t18 x.1.2.2.2.2.2.2.2.2.2.2.2.2.2.2]⟩),(46,⟨0,.one,[.int .i64 (List.length x.1.2.2.2.2.2.2.2.2.2.2.2.2.2.2:Int)]⟩),(47,⟨0,.one,[.int .i64 a.2.2.2]⟩),(100001,⟨0,.agg,[.int .i64 x.1.1,.bool x.1.2.1,.bool x.1.2.2.1,.bool x.1.2.2.2.1,.int .i64 x.1.2.2.2.2.1,.int .i64 x.1.2.2.2.2.2.1,.int .i64 x.1.2.2.2.2.2.2.1,.int .i64 x.1.2.2.2.2.2.2.2.1,.ro true 132 t2 x.1.2.2.2.2.2.2.2.2.1,.ro true 173 t3 x.1.2.2.2.2.2.2.2.2.2.1,.int .i64 x.1.2.2.2.2.2.2.2.2.2.2.1.1,.int .i64 x.1.2.2.2.2.2.2.2.2.2.2.1.2.1,.int .i64 x.1.2.2.2.2.2.2.2.2.2.2.1.2.2.1,.bool x.1.2.2.2.2.2.2.2.2.2.2.1.2.2.2,.ro true 177 t15 x.1.2.2.2.2.2.2.2.2.2.2.2.1,.int .i64 x.1.2.2.2.2.2.2.2.2.2.2.2.2.1.1,.int .i64 x.1.2.2.2.2.2.2.2.2.2.2.2.2.1.2.1,.int .i64 x.1.2.2.2.2.2.2.2.2.2.2.2.2.1.2.2.1,.int .i64 x.1.2.2.2.2.2.2.2.2.2.2.2.2.1.2.2.2,.ro true 94 t17 x.1.2.2.2.2.2.2.2.2.2.2.2.2.2.1,.ro true 119 t18 x.1.2.2.2.2.2.2.2.2.2.2.2.2.2.2]⟩),(100002,⟨0,.agg,[.int .i64 0,.bool false,.bool false,.bool false,.int .i64 0,.int .i64 0,.int .i64 0,.int .i64 0,.nil,.nil,.int .i64 0,.int .i64 0,.int .i64 0,.bool false,.nil,.int .i64 0,.int .i64 0,.int .i64 0,.int .i64 0,.nil,.nil]⟩)]
noncomputable def k_l0 (K:Nat)(x:aa ps):Ex→St→Option Res:=kAt (ev K) body [1,1,0,1,0] fin
noncomputable def N_l0 (K:Nat)(x:aa ps):A_l0→Option Res:=fun a=>bu live_l0 (ev K (sub body [1,1,0,1,0,0])) K (S_l0 x a) (k_l0 K x)
noncomputable def k_l1 (K:Nat)(x:aa ps):Ex→St→Option Res:=kAt (ev K) body [1,1,1,1,0,1,0] fin
noncomputable def N_l1 (K:Nat)(x:aa ps):A_l1→Option Res:=fun a=>bu live_l1 (ev K (sub body [1,1,1,1,0,1,0,0])) K (S_l1 x a) (k_l1 K x)
noncomputable def k_l2 (K:Nat)(x:aa ps):Ex→St→Option Res:=kAt (ev K) body [1,1,1,1,1,1,0,1,0] fin
noncomputable def N_l2 (K:Nat)(x:aa ps):A_l2→Option Res:=fun a=>bu live_l2 (ev K (sub body [1,1,1,1,1,1,0,1,0,0])) K (S_l2 x a) (k_l2 K x)
end Q192
namespace Q193
@[reducible] def ps:List PK:=[.own (.list true 53 t32)]
@[reducible] def rs:List RK:=[.v (.list true 53 t32)]
abbrev Res:=ai rs×ah ps
noncomputable def f (K:Nat)(x:aa ps):Option Res:=bif true&&decide ((List.length x.1:Int)=(List.length x.1:Int))&&decide ((List.length x.1:Int)=(List.length x.1:Int))&&true then (some ((x.1,()),())) else none
noncomputable def c (K:Nat):Ctr:=⟨198,ps,rs,true,f K⟩
end Q193
namespace Q194
@[reducible] def ps:List PK:=[.rd t78,.clo 147 [(false,(.int .i64))]]
@[reducible] def rs:List RK:=[.v t64,.v (.list true 53 t32)]
abbrev Res:=ai rs×ah ps
noncomputable def f (K:Nat)(x:aa ps):Option Res:=(Q144.f K (x.1,())).bind fun y1=>bif !y1.1.1 then (some (((0,(false,(false,(false,(0,(0,(0,(0,([],([],((0,(0,(0,false))),([],((0,(0,(0,0))),([],[])))))))))))))),[],()),())) else ((Q192.f K (x.1,())).bind fun y2=>(Q191.f K (y2.1.1,x.2.1.1,())).bind fun y3=>(Q193.f K (y3.1.1,())).bind fun y4=>some ((y3.2.1,y4.1.1,()),()))
noncomputable def c (K:Nat):Ctr:=⟨128,ps,rs,true,f K⟩
end Q194
namespace Q195
@[reducible] def ps:List PK:=[.rd t78,.rd (.int .i64)]
@[reducible] def rs:List RK:=[.v t64,.v (.list true 53 t32)]
abbrev Res:=ai rs×ah ps
noncomputable def f (K:Nat)(x:aa ps):Option Res:=(Q194.f K (x.1,(x.2.1,()),())).bind fun y1=>some ((y1.1.1,y1.1.2.1,()),())
noncomputable def c (K:Nat):Ctr:=⟨56,ps,rs,true,f K⟩
end Q195
namespace Q196
@[reducible] def ps:List PK:=[.rd t50,.rd (.int .i64)]
@[reducible] def rs:List RK:=[.v .bool]
abbrev Res:=ai rs×ah ps
noncomputable def f (K:Nat)(x:aa ps):Option Res:=(Q19.f K (x.1,1048576,())).bind fun y1=>bif decide (y1.1.1<0) then (some ((true,()),())) else ((Q33.f K (x.1,())).bind fun y2=>(Q106.f K (y2.1.1,x.2.1,())).bind fun y3=>(Q33.f K (x.1,())).bind fun y4=>(Q195.f K (y4.1.1,x.2.1,())).bind fun y5=>(Q47.f K (y5.1.1,y3.1.1,())).bind fun y6=>bif !y6.1.1 then (some ((false,()),())) else ((Q56.f K (y5.1.2.1,y3.1.2.1,())).bind fun y7=>bif !y7.1.1 then (some ((false,()),())) else ((Q33.f K (x.1,())).bind fun y8=>(Q47.f K (y4.1.1,y8.1.1,())).bind fun y9=>bif !y9.1.1 then (some ((false,()),())) else ((Q54.f K (y4.1.1,1,())).bind fun y10=>bif decide (y10.1.1<0) then (some ((false,()),())) else ((Q47.f K (y5.1.1,y3.1.1,())).bind fun y11=>bif !y11.1.1 then (some ((false,()),())) else ((Q56.f K (y5.1.2.1,y3.1.2.1,())).bind fun y12=>bif !y12.1.1 then (some ((false,()),())) else ((Q54.f K (y5.1.1,1,())).bind fun y13=>(Q57.f K (y5.1.2.1,y13.1.1,())).bind fun y14=>(Q64.f K ((y5.1.1.1,(y5.1.1.2.1,(y5.1.1.2.2.1,(y5.1.1.2.2.2.1,(y5.1.1.2.2.2.2.1,(y5.1.1.2.2.2.2.2.1,(y5.1.1.2.2.2.2.2.2.1,(y5.1.1.2.2.2.2.2.2.2.1,(y13.2.1.2.2.2.2.2.2.2.2.1,(y13.2.1.2.2.2.2.2.2.2.2.2.1,(y5.1.1.2.2.2.2.2.2.2.2.2.2.1,(y13.2.1.2.2.2.2.2.2.2.2.2.2.2.1,(y5.1.1.2.2.2.2.2.2.2.2.2.2.2.2.1,y13.2.1.2.2.2.2.2.2.2.2.2.2.2.2.2))))))))))))),1,())).bind fun y15=>bif decide (y15.1.1<0) then (some ((false,()),())) else ((Q65.f K (y14.2.1,y15.1.1,())).bind fun y16=>bif decide (y16.1.1<0) then (some ((false,()),())) else (bif y16.1.1 != y14.1.1 then (some ((false,()),())) else ((Q33.f K (x.1,())).bind fun y17=>(Q195.f K (y17.1.1,x.2.1,())).bind fun y18=>(Q47.f K (y18.1.1,y3.1.1,())).bind fun y19=>bif !y19.1.1 then (some ((false,()),())) else ((Q56.f K (y18.1.2.1,y3.1.2.1,())).bind fun y20=>bif !y20.1.1 then (some ((false,()),())) else ((Q64.f K ((y5.1.1.1,(y5.1.1.2.1,(y5.1.1.2.2.1,(y5.1.1.2.2.2.1,(y5.1.1.2.2.2.2.1,(y5.1.1.2.2.2.2.2.1,(y5.1.1.2.2.2.2.2.2.1,(y5.1.1.2.2.2.2.2.2.2.1,(y13.2.1.2.2.2.2.2.2.2.2.1,(y13.2.1.2.2.2.2.2.2.2.2.2.1,(y5.1.1.2.2.2.2.2.2.2.2.2.2.1,(y13.2.1.2.2.2.2.2.2.2.2.2.2.2.1,(y5.1.1.2.2.2.2.2.2.2.2.2.2.2.2.1,y13.2.1.2.2.2.2.2.2.2.2.2.2.2.2.2))))))))))))),1,())).bind fun y21=>bif decide (y21.1.1<0) then (some ((false,()),())) else ((Q65.f K (y14.2.1,y21.1.1,())).bind fun y22=>bif decide (y22.1.1<0) then (some ((false,()),())) else (bif y22.1.1 != y14.1.1 then (some ((false,()),())) else (some ((true,()),()))))))))))))))))
noncomputable def c (K:Nat):Ctr:=⟨13,ps,rs,true,f K⟩
end Q196
end
end Go.Proofs.YthgnfidnmnkeaaaGreatEv
