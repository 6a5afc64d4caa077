import Derived.Test.YtmibehbhnkeaiaaGreatFns0
set_option linter.unusedVariables false
set_option maxRecDepth 100000
set_option linter.unusedSimpArgs false
open Int renaming toNat->FK,tdiv->FL,fdiv->FM
open List renaming length->FJ,replicate->FN
namespace Go.Proofs.YtmibehbhnkeaiaaGreatEv
open Go Go.Proofs
noncomputable section
variable (K:Nat)
namespace Q119
abbrev ps:Pz:=[.iop t53]
abbrev rs:Rq:=[.v t2]
abbrev R:=Rr rs ps
def f (x:ab ps):R:=(Q13.f K (x.1,2,())).bind λy1=>(Q117.f K (y1.2.1,y1.1.1,())).bind λy2=>let b1:=y2.1.1.2;(Q13.f K (y2.2.1,12,())).bind λy3=>bif y3.1.1==0 then ((Q13.f K (y3.2.1,2,())).bind λy4=>(idx ([(-1),8]:List (Int)) y4.1.1).bind λ_=>(idx ([(-1),8]:List (Int)) (FK y4.1.1:Nat)).bind λy6=>some (((y6,b1),()),y4.2.1,())) else (bif y3.1.1==1 then ((Q13.f K (y3.2.1,2,())).bind λy7=>let j1:=([(-1),1000]:List (Int));(idx j1 y7.1.1).bind λ_=>(idx j1 (FK y7.1.1:Nat)).bind λy9=>some (((y2.1.1.1,y9,b1.2),()),y7.2.1,())) else (bif y3.1.1==2 then ((Q13.f K (y3.2.1,2,())).bind λy10=>(idx ([0,5]:List (Int)) y10.1.1).bind λ_=>(idx ([0,5]:List (Int)) (FK y10.1.1:Nat)).bind λy12=>some (((y2.1.1.1,b1.1,y12,b1.2.2),()),y10.2.1,())) else (bif y3.1.1==3 then (some (((y2.1.1.1,b1.1,b1.2.1,!b1.2.2),()),y3.2.1,())) else (some ((y2.1.1,()),y3.2.1,())))))
def c:=Z0 157 (f K)
end Q119
namespace Q120
abbrev ps:Pz:=[.iop t53]
abbrev rs:Rq:=[.v (.list true 46 t2)]
abbrev R:=Rr rs ps
def f (x:ab ps):R:=(Q118.f K (x.1,(-1),())).bind λy1=>bif decide ((FJ y1.1.1:Int)>0) then ((Q13.f K (y1.2.1,12,())).bind λy2=>bif y2.1.1==0 then ((Q13.f K (y2.2.1,(FJ y1.1.1:Int),())).bind λy3=>(Q13.f K (y3.2.1,3,())).bind λy4=>let j1:=(FK y3.1.1:Nat);bif y4.1.1==0 then ((Q119.f K (y4.2.1,())).bind λy5=>(idx y1.1.1 y3.1.1).bind λ_=>(idx y1.1.1 j1).bind λy7=>some ((y1.1.1.set (FK y3.1.1) y5.1.1,()),y5.2.1,())) else (bif y4.1.1==1 then ((idx y1.1.1 y3.1.1).bind λ_=>(idx y1.1.1 j1).bind λy9=>bif decide ((FJ y1.1.1+FJ ([y9]))*32<=am) then (some ((y1.1.1++([y9]),()),y4.2.1,())) else none) else ((idx y1.1.1 y3.1.1).bind λ_=>(idx y1.1.1 j1).bind λy11=>some ((y1.1.1.set (FK y3.1.1) (y11.1,y11.2.1,0,y11.2.2.2),()),y4.2.1,())))) else (some ((y1.1.1,()),y2.2.1,()))) else (some ((y1.1.1,()),y1.2.1,()))
def c:=Z0 101 (f K)
end Q120
namespace Q121
abbrev ps:Pz:=[.iop t53,.rd I6]
abbrev rs:Rq:=[.v (.list true 133 t3)]
abbrev R:=Rr rs ps
abbrev A0:=List (Ty.den t3)×List (Ty.den t2)×Int×List (Ty.den (.int .u8))×Int
def s0 (x:ab ps)(r0:A0->R)(a:A0):R:=bif decide (a.2.2.1<(FJ a.2.1:Int)) then ((idx a.2.1 a.2.2.1).bind λ_=>(idx a.2.1 (FK a.2.2.1:Nat)).bind λy3=>(Q13.f K (a.2.2.2,4,())).bind λy4=>let j1:=[(y3,wr .i64 (1+y4.1.1))];bif decide ((FJ a.1+FJ j1)*40<=am) then (r0 (a.1++j1,a.2.1,wr .i64 (a.2.2.1+1),y4.2.1)) else none) else (some ((a.1,()),a.2.2.2,()))
def l0 (x:ab ps):A0->R:=ae (s0 K x) K
def pre (N0:A0->R)(x:ab ps):R:=(Q118.f K (x.1,x.2.1,())).bind λy1=>N0 ([],y1.1.1,0,y1.2.1)
def f (x:ab ps):R:=pre K (l0 K x) x
def c:=Z0 158 (f K)
end Q121
namespace Q122
abbrev ps:Pz:=[.iop t53]
abbrev rs:Rq:=[.v (.list true 133 t3)]
abbrev R:=Rr rs ps
def f (x:ab ps):R:=(Q121.f K (x.1,(-1),())).bind λy1=>bif decide ((FJ y1.1.1:Int)>0) then ((Q13.f K (y1.2.1,10,())).bind λy2=>bif y2.1.1==0 then ((Q13.f K (y2.2.1,(FJ y1.1.1:Int),())).bind λy3=>(Q13.f K (y3.2.1,3,())).bind λy4=>let j1:=(FK y3.1.1:Nat);bif y4.1.1==0 then ((Q13.f K (y4.2.1,2,())).bind λy5=>(idx ([0,5]:List (Int)) y5.1.1).bind λ_=>(idx ([0,5]:List (Int)) (FK y5.1.1:Nat)).bind λy7=>(idx y1.1.1 y3.1.1).bind λ_=>(idx y1.1.1 j1).bind λy9=>some ((y1.1.1.set (FK y3.1.1) (y9.1,y7),()),y5.2.1,())) else (bif y4.1.1==1 then ((Q119.f K (y4.2.1,())).bind λy10=>(idx y1.1.1 y3.1.1).bind λ_=>(idx y1.1.1 j1).bind λy12=>some ((y1.1.1.set (FK y3.1.1) (y10.1.1,y12.2),()),y10.2.1,())) else ((idx y1.1.1 y3.1.1).bind λ_=>(idx y1.1.1 j1).bind λy14=>bif decide ((FJ y1.1.1+FJ ([y14]))*40<=am) then (some ((y1.1.1++([y14]),()),y4.2.1,())) else none))) else (some ((y1.1.1,()),y2.2.1,()))) else (some ((y1.1.1,()),y1.2.1,()))
def c:=Z0 102 (f K)
end Q122
namespace Q123
abbrev ps:Pz:=[.iop t53]
abbrev rs:Rq:=[.v t9]
abbrev R:=Rr rs ps
def f (x:ab ps):R:=(Q13.f K (x.1,6,())).bind λy1=>bif y1.1.1==0 then ((Q15.f K ()).bind λy2=>some ((y2.1.1,()),y1.2.1,())) else ((Q13.f K (y1.2.1,3,())).bind λy3=>let j1:=([10,1000,100000]:List (Int));(idx j1 y3.1.1).bind λ_=>(idx j1 (FK y3.1.1:Nat)).bind λy5=>(Q13.f K (y3.2.1,wr .i64 ((wr .i64 (2*y5))+1),())).bind λy6=>(Q13.f K (y6.2.1,wr .i64 ((wr .i64 (2*y5))+1),())).bind λy7=>(Q13.f K (y7.2.1,wr .i64 (y5+1),())).bind λy8=>(Q13.f K (y8.2.1,1500,())).bind λy9=>some (((wr .i64 (y6.1.1-y5),wr .i64 (y7.1.1-y5),y8.1.1,wr .i64 (1+y9.1.1)),()),y9.2.1,()))
def c:=Z0 159 (f K)
end Q123
namespace Q124
abbrev ps:Pz:=[.iop t53]
abbrev rs:Rq:=[.v t9]
abbrev R:=Rr rs ps
def f (x:ab ps):R:=(Q123.f K (x.1,())).bind λy1=>(Q13.f K (y1.2.1,16,())).bind λy2=>bif y2.1.1==0 then ((Q13.f K (y2.2.1,3,())).bind λy3=>let j1:=([100000,100001,(-100001)]:List (Int));(idx j1 y3.1.1).bind λ_=>(idx j1 (FK y3.1.1:Nat)).bind λy5=>some (((y5,y1.1.1.2),()),y3.2.1,())) else (bif y2.1.1==1 then ((Q13.f K (y2.2.1,2,())).bind λy6=>let j2:=([(-1),100001]:List (Int));(idx j2 y6.1.1).bind λ_=>(idx j2 (FK y6.1.1:Nat)).bind λy8=>some (((y1.1.1.1,y1.1.1.2.1,y8,y1.1.1.2.2.2),()),y6.2.1,())) else (bif y2.1.1==2 then ((Q13.f K (y2.2.1,2,())).bind λy9=>(idx ([0,1501]:List (Int)) y9.1.1).bind λ_=>(idx ([0,1501]:List (Int)) (FK y9.1.1:Nat)).bind λy11=>some (((y1.1.1.1,y1.1.1.2.1,y1.1.1.2.2.1,y11),()),y9.2.1,())) else (some ((y1.1.1,()),y2.2.1,()))))
def c:=Z0 103 (f K)
end Q124
namespace Q125
abbrev ps:Pz:=[.iop t53,.rd t26]
abbrev rs:Rq:=[.v t26]
abbrev R:=Rr rs ps
def f (x:ab ps):R:=(Q110.f K (x.2.1,())).bind λy1=>let b3:=y1.1.1.2;let b1:=b3.2.2.2.2.2.2.2;let b2:=b1.2.2.2;(Q13.f K (x.1,12,())).bind λy2=>bif y2.1.1==0 then ((Q120.f K (y2.2.1,())).bind λy3=>some (((zcp8 y1.1.1 (y3.1.1,b1.2)),()),y3.2.1,())) else (bif y2.1.1==1 then ((Q122.f K (y2.2.1,())).bind λy4=>some (((zcp8 y1.1.1 (b1.1,y4.1.1,b1.2.2)),()),y4.2.1,())) else (bif y2.1.1==2 then (some (((zcp4 y1.1.1 (wr .i64 (b3.2.2.2.1+1),b3.2.2.2.2)),()),y2.2.1,())) else (bif y2.1.1==3 then ((Q13.f K (y2.2.1,9,())).bind λy5=>(Q13.f K (y5.2.1,3,())).bind λy6=>(Q13.f K (y6.2.1,3,())).bind λy7=>(Q13.f K (y7.2.1,2,())).bind λy8=>some (((zcp8 y1.1.1 (b1.1,b1.2.1,(wr .i64 (y5.1.1-1),y6.1.1,y7.1.1,y8.1.1==0),b2)),()),y8.2.1,())) else (bif y2.1.1==4 then ((Q13.f K (y2.2.1,8,())).bind λy9=>(Q13.f K (y9.2.1,8,())).bind λy10=>let j3:=[(y9.1.1,0,0,[y10.1.1])];bif decide ((FJ b2.1+FJ j3)*48<=am) then (some (((zcp8 y1.1.1 (b1.1,b1.2.1,b1.2.2.1,b2.1++j3,b2.2)),()),y10.2.1,())) else none) else (bif y2.1.1==5 then ((Q124.f K (y2.2.1,())).bind λy11=>some (((zcp8 y1.1.1 (zcp4 b1 (y11.1.1,b2.2.2))),()),y11.2.1,())) else (bif y2.1.1==6 then ((Q13.f K (y2.2.1,9,())).bind λy12=>(Q124.f K (y12.2.1,())).bind λy13=>(Q13.f K (y13.2.1,3,())).bind λy14=>let j2:=[(y12.1.1,y13.1.1,[y14.1.1])];bif decide ((FJ b2.2.2.1+FJ j2)*64<=am) then (some (((zcp8 y1.1.1 (zcp4 b1 (b2.2.1,b2.2.2.1++j2,b2.2.2.2))),()),y14.2.1,())) else none) else (bif y2.1.1==7 then ((Q13.f K (y2.2.1,3,())).bind λy15=>(Q120.f K (y15.2.1,())).bind λy16=>bif decide ((FJ b2.2.2.2+FJ ([(y15.1.1,y16.1.1)]))*32<=am) then (some (((zcp8 y1.1.1 (zcp4 b1 (b2.2.1,b2.2.2.1,b2.2.2.2++([(y15.1.1,y16.1.1)])))),()),y16.2.1,())) else none) else (bif y2.1.1==8 then (some (((y1.1.1.1,!b3.1,b3.2),()),y2.2.1,())) else (bif y2.1.1==9 then (some (((y1.1.1.1,b3.1,!b3.2.1,b3.2.2),()),y2.2.1,())) else (bif y2.1.1==10 then ((Q13.f K (y2.2.1,3,())).bind λy17=>let j1:=([(-1),999999,1000000]:List (Int));(idx j1 y17.1.1).bind λ_=>(idx j1 (FK y17.1.1:Nat)).bind λy19=>some (((zcp4 y1.1.1 (b3.2.2.2.1,y19,b3.2.2.2.2.2)),()),y17.2.1,())) else ((Q13.f K (y2.2.1,8,())).bind λy20=>(Q13.f K (y20.2.1,3,())).bind λy21=>(idx ([(-1),8,y20.1.1]) y21.1.1).bind λ_=>(idx ([(-1),8,y20.1.1]) (FK y21.1.1:Nat)).bind λy23=>some (((y23,b3),()),y21.2.1,()))))))))))))
def c:=Z0 43 (f K)
end Q125
namespace Q126
abbrev ps:Pz:=[.iop t53]
abbrev rs:Rq:=[.v t63]
abbrev R:=Rr rs ps
def f (x:ab ps):R:=(Q13.f K (x.1,8,())).bind λy1=>(Q13.f K (y1.2.1,6,())).bind λy2=>(Q13.f K (y2.2.1,4,())).bind λy3=>(Q13.f K (y3.2.1,9,())).bind λy4=>(Q13.f K (y4.2.1,3,())).bind λy5=>(idx ([y4.1.1,999999,0]) y5.1.1).bind λ_=>(idx ([y4.1.1,999999,0]) (FK y5.1.1:Nat)).bind λy7=>(Q13.f K (y5.2.1,4,())).bind λy8=>(Q123.f K (y8.2.1,())).bind λy9=>(Q118.f K (y9.2.1,wr .i64 (FL y1.1.1 4),())).bind λy10=>let j2:=wr .i64 (FL y1.1.1 4);let j1:=wr .i64 (j2*4);bif (wr .i64 (1+y2.1.1))==6 then ((Q13.f K (y10.2.1,2,())).bind λy11=>(Q118.f K (y11.2.1,y11.1.1,())).bind λy12=>(Q13.f K (y12.2.1,2,())).bind λy13=>bif y13.1.1==0 then ((Q13.f K (y13.2.1,4,())).bind λy14=>some (((2,wr .i64 (1+y2.1.1),y1.1.1,wr .i64 ((wr .i64 ((wr .i64 (1-j2))*4))+y14.1.1),y7,wr .i64 (j1+y8.1.1),y9.1.1,y12.1.1),()),y14.2.1,())) else (some (((1,wr .i64 (1+y2.1.1),y1.1.1,wr .i64 (j1+y3.1.1),y7,wr .i64 (j1+y8.1.1),y9.1.1,y12.1.1),()),y13.2.1,()))) else (some (((1,wr .i64 (1+y2.1.1),y1.1.1,wr .i64 (j1+y3.1.1),y7,wr .i64 (j1+y8.1.1),y9.1.1,y10.1.1),()),y10.2.1,()))
def c:=Z0 166 (f K)
end Q126
namespace Q127
abbrev ps:Pz:=[.iop t53]
abbrev rs:Rq:=[.v t63]
abbrev R:=Rr rs ps
def f (x:ab ps):R:=(Q126.f K (x.1,())).bind λy1=>let b1:=y1.1.1.2.2.2.2;(Q13.f K (y1.2.1,16,())).bind λy2=>bif y2.1.1==0 then ((Q13.f K (y2.2.1,2,())).bind λy3=>(idx ([0,7]:List (Int)) y3.1.1).bind λ_=>(idx ([0,7]:List (Int)) (FK y3.1.1:Nat)).bind λy5=>some (((y1.1.1.1,y5,y1.1.1.2.2),()),y3.2.1,())) else (bif y2.1.1==1 then ((Q13.f K (y2.2.1,4,())).bind λy6=>some (((y6.1.1,y1.1.1.2),()),y6.2.1,())) else (bif y2.1.1==2 then ((Q124.f K (y2.2.1,())).bind λy7=>some (((zcp4 y1.1.1 (b1.1,b1.2.1,y7.1.1,b1.2.2.2)),()),y7.2.1,())) else (bif y2.1.1==3 then ((Q119.f K (y2.2.1,())).bind λy8=>bif decide ((FJ b1.2.2.2+FJ ([y8.1.1]))*32<=am) then (some (((zcp4 y1.1.1 (b1.1,b1.2.1,b1.2.2.1,b1.2.2.2++([y8.1.1]))),()),y8.2.1,())) else none) else (bif y2.1.1==4 then ((Q13.f K (y2.2.1,2,())).bind λy9=>(idx ([(-1),8]:List (Int)) y9.1.1).bind λ_=>(idx ([(-1),8]:List (Int)) (FK y9.1.1:Nat)).bind λy11=>some (((y1.1.1.1,y1.1.1.2.1,y11,y1.1.1.2.2.2),()),y9.2.1,())) else (bif y2.1.1==5 then ((Q13.f K (y2.2.1,2,())).bind λy12=>let j1:=([(-1),1000000]:List (Int));(idx j1 y12.1.1).bind λ_=>(idx j1 (FK y12.1.1:Nat)).bind λy14=>some (((zcp4 y1.1.1 (y14,b1.2)),()),y12.2.1,())) else (some ((y1.1.1,()),y2.2.1,())))))))
def c:=Z0 105 (f K)
end Q127
namespace Q128
abbrev ps:Pz:=[.iop t53,.rd t56,.rd t26]
abbrev rs:Rq:=[.v t47]
abbrev R:=Rr rs ps
abbrev A0:=Int×List (Ty.den (.int .u8))×Int
def s0 (x:ab ps)(r0:A0->R)(a:A0):R:=let j1:R:=(Q127.f K (a.2,())).bind λy6=>(Q13.f K (y6.2.1,10,())).bind λy7=>bif decide (y7.1.1>0) then (some (((y6.1.1.1,y6.1.1.2.1,y6.1.1.2.2.1,x.2.2.1.1,y6.1.1.2.2.2.2),()),y7.2.1,())) else (some ((y6.1.1,()),y7.2.1,()));bif decide (a.1<3) then (let j3:=(FJ x.2.1.2.1:Int);bif decide (j3>0) then ((Q13.f K (a.2,j3,())).bind λy1=>(idx x.2.1.2.1 y1.1.1).bind λy2=>(Q77.f K (y2.2.1,())).bind λy3=>let j2:R:=r0 (wr .i64 (a.1+1),y1.2.1);bif y3.1.2.1 then ((Q24.f K (y3.1.1.2.2.2.1,())).bind λy4=>(Q24.f K (x.2.2.1.1,())).bind λy5=>bif y4.1.1==y5.1.1 then (bif y3.1.1.2.2.1 != x.2.2.1.1 then (some (((y3.1.1.1,y3.1.1.2.1,y3.1.1.2.2.1,x.2.2.1.1,y3.1.1.2.2.2.2),()),y1.2.1,())) else j2) else j2) else j2) else j1) else j1
def l0 (x:ab ps):A0->R:=ae (s0 K x) K
def pre (K:Nat)(N0:A0->R)(x:ab ps):R:=N0 (0,x.1)
def f (x:ab ps):R:=pre K (l0 K x) x
def c:=Z0 44 (f K)
end Q128
namespace Q129
abbrev ps:Pz:=[.rd (.list false 5 (.int .u8))]
abbrev rs:Rq:=[.v t26,.v t47]
abbrev R:=Rr rs ps
def f (x:ab ps):R:=(Q12.f K (x.1,())).bind λy1=>(Q116.f K (y1.1.1,())).bind λy2=>(Q13.f K (y2.2.1,(FJ y2.1.1.1:Int),())).bind λy3=>(idx y2.1.1.1 y3.1.1).bind λy4=>(Q13.f K (y3.2.1,24,())).bind λy5=>bif y5.1.1==0 then ((Q125.f K (y5.2.1,y4,())).bind λy6=>(Q128.f K (y6.2.1,y2.1.1,y6.1.1,())).bind λy7=>some ((y6.1.1,y7.1.1,()),())) else ((Q128.f K (y5.2.1,y2.1.1,y4,())).bind λy8=>some ((y4,y8.1.1,()),()))
def c:=Z0 12 (f K)
end Q129
namespace Q130
abbrev ps:Pz:=[.rd I6,.rd I6,.rd I6]
abbrev rs:Rq:=[.v .bool]
abbrev R:=Rr rs ps
def f (K:Nat)(x:ab ps):R:=bif decide (x.1>=x.2.1) then (some ((decide (x.1<=x.2.2.1),()),())) else (some ((false,()),()))
def c:=Z1 80 (f K)
end Q130
namespace Q131
abbrev ps:Pz:=[.rd I6]
abbrev rs:Rq:=[.v .bool]
abbrev R:=Rr rs ps
def f (x:ab ps):R:=(Q130.f K (x.1,0,7,())).bind λy1=>some ((y1.1.1,()),())
def c:=Z1 79 (f K)
end Q131
namespace Q132
abbrev ps:Pz:=[.rd t26]
abbrev rs:Rq:=[.v .bool]
abbrev R:=Rr rs ps
def f (K:Nat)(x:ab ps):R:=let b2:=x.1.2.2.2.2;let b1:=b2.2.2.2;let j1:R:=some ((false,()),());bif !x.1.2.2.1 then (bif b2.1==0 then (bif b2.2.1==0 then (bif b2.2.2.1==0 then (bif b1.1==0 then (bif (wr .i64 ((wr .i64 ((wr .i64 ((wr .i64 ((FJ b1.2.1:Int)+(FJ b1.2.2.1:Int)))+(FJ b1.2.2.2.2.1:Int)))+(FJ b1.2.2.2.2.2.2.1:Int)))+(FJ b1.2.2.2.2.2.2.2:Int)))==0 then (bif Ty.eqv t2 b1.2.2.2.1 (0,0,0,false) then (some ((Ty.eqv t9 b1.2.2.2.2.2.1 (0,0,0,0),()),())) else j1) else j1) else j1) else j1) else j1) else j1) else j1
def c:=Z1 81 (f K)
end Q132
namespace Q133
abbrev ps:Pz:=[.rd t2]
abbrev rs:Rq:=[.v .bool]
abbrev R:=Rr rs ps
def f (x:ab ps):R:=(Q131.f K (x.1.1,())).bind λy1=>bif y1.1.1 then ((Q130.f K (x.1.2.1,0,999,())).bind λy2=>bif y2.1.1 then ((Q130.f K (x.1.2.2.1,1,4,())).bind λy3=>some ((y3.1.1,()),())) else (some ((false,()),()))) else (some ((false,()),()))
def c:=Z1 119 (f K)
end Q133
namespace Q134
abbrev ps:Pz:=[.rd (.list false 46 t2)]
abbrev rs:Rq:=[.v .bool]
abbrev R:=Rr rs ps
abbrev A0:=Int
def s0 (x:ab ps)(r0:A0->R)(a:A0):R:=bif decide (a<(FJ x.1:Int)) then ((idx x.1 a).bind λy1=>(Q133.f K (y1,())).bind λy2=>bif !y2.1.1 then (some ((false,()),())) else (bif decide (a>0) then ((idx x.1 (wr .i64 (a-1))).bind λy3=>bif decide (y1.1<=y3.1) then (some ((false,()),())) else (r0 (wr .i64 (a+1)))) else (r0 (wr .i64 (a+1))))) else (some ((true,()),()))
def l0 (x:ab ps):A0->R:=ae (s0 K x) K
def pre (K:Nat)(N0:A0->R)(x:ab ps):R:=N0 0
def f (x:ab ps):R:=pre K (l0 K x) x
def c:=Z1 61 (f K)
end Q134
namespace Q135
abbrev ps:Pz:=[.rd (.list false 46 t2),.rd I6,.fn [t2,I6] I6]
abbrev rs:Rq:=[.v I6,.v .bool]
abbrev R:=Rr rs ps
abbrev A0:=Int×Int
def s0 (K:Nat)(x:ab ps)(r0:A0->R)(a:A0):R:=bif decide (a.1<a.2) then (let j1:=FM (wr .u64 (wr .i64 (a.1+a.2))) (2 ^ 1);(idx x.1 (wr .i64 j1)).bind λy1=>(x.2.2.1 (y1,x.2.1,())).bind λy2=>bif decide (y2<0) then (r0 (wr .i64 ((wr .i64 j1)+1),a.2)) else (r0 (a.1,wr .i64 j1))) else (bif decide (a.1<(FJ x.1:Int)) then ((idx x.1 a.1).bind λy3=>(x.2.2.1 (y3,x.2.1,())).bind λy4=>some ((a.1,y4==0,()),())) else (some ((a.1,false,()),())))
def l0 (x:ab ps):A0->R:=ae (s0 K x) K
def pre (K:Nat)(N0:A0->R)(x:ab ps):R:=N0 (0,(FJ x.1:Int))
def f (x:ab ps):R:=pre K (l0 K x) x
def c:=Z1 122 (f K)
end Q135
namespace Q136
abbrev ps:Pz:=[.rd I6]
abbrev rs:Rq:=[.v .bool]
abbrev R:=Rr rs ps
def f (K:Nat)(x:ab ps):R:=some ((x.1 != x.1,()),())
def c:=Z1 194 (f K)
end Q136
namespace Q137
abbrev ps:Pz:=[.rd I6,.rd I6]
abbrev rs:Rq:=[.v I6]
abbrev R:=Rr rs ps
def f (x:ab ps):R:=(Q136.f K (x.1,())).bind λy1=>(Q136.f K (x.2.1,())).bind λy2=>bif y1.1.1 then (bif y2.1.1 then (some ((0,()),())) else (some (((-1),()),()))) else (bif y2.1.1 then (some ((1,()),())) else (bif decide (x.1<x.2.1) then (some (((-1),()),())) else (bif decide (x.1>x.2.1) then (some ((1,()),())) else (some ((0,()),())))))
def c:=Z1 124 (f K)
end Q137
namespace Q138
abbrev ps:Pz:=[.rd t2,.rd I6]
abbrev rs:Rq:=[.v I6]
abbrev R:=Rr rs ps
def f (x:ab ps):R:=(Q137.f K (x.1.1,x.2.1,())).bind λy1=>some ((y1.1.1,()),())
def c:=Z1 123 (f K)
end Q138
namespace Q139
abbrev ps:Pz:=[.rd (.list false 46 t2),.rd I6]
abbrev rs:Rq:=[.v I6,.v .bool]
abbrev R:=Rr rs ps
def f (x:ab ps):R:=(Q135.f K (x.1,x.2.1,λy1=>(Q138.f K (y1.1,y1.2.1,())).map λy=>y.1.1,())).bind λy2=>some ((y2.1.1,y2.1.2.1,()),())
def c:=Z1 64 (f K)
end Q139
namespace Q140
abbrev ps:Pz:=[.rd (.list false 46 t2),.rd I6]
abbrev rs:Rq:=[.v t2,.v .bool]
abbrev R:=Rr rs ps
def f (x:ab ps):R:=(Q134.f K (x.1,())).bind λy1=>let j1:=(((0,0,0,false),false,()),());bif !y1.1.1 then (some j1) else ((Q139.f K (x.1,x.2.1,())).bind λy2=>bif !y2.1.2.1 then (some j1) else ((idx x.1 y2.1.1).bind λy3=>some ((y3,true,()),())))
def c:=Z1 20 (f K)
end Q140
namespace Q141
abbrev ps:Pz:=[.rd (.list false 46 t2),.fn [t2] .bool]
abbrev rs:Rq:=[.v I6]
abbrev R:=Rr rs ps
abbrev A0:=Int
def s0 (K:Nat)(x:ab ps)(r0:A0->R)(a:A0):R:=bif decide (a<(FJ x.1:Int)) then ((idx x.1 a).bind λy1=>(x.2.1 (y1,())).bind λy2=>bif y2 then (some ((a,()),())) else (r0 (wr .i64 (a+1)))) else (some (((-1),()),()))
def l0 (x:ab ps):A0->R:=ae (s0 K x) K
def pre (K:Nat)(N0:A0->R)(x:ab ps):R:=N0 0
def f (x:ab ps):R:=pre K (l0 K x) x
def c:=Z1 190 (f K)
end Q141
namespace Q142
abbrev ps:Pz:=[.rd (.list false 46 t2),.fn [t2] .bool]
abbrev rs:Rq:=[.v .bool]
abbrev R:=Rr rs ps
def f (x:ab ps):R:=(Q141.f K (x.1,x.2.1,())).bind λy1=>some ((decide (y1.1.1>=0),()),())
def c:=Z1 117 (f K)
end Q142
namespace Q143
abbrev ps:Pz:=[.rd I6]
abbrev rs:Rq:=[.v I6]
abbrev R:=Rr rs ps
def f (K:Nat)(x:ab ps):R:=some ((wr .i64 (FL x.1 4),()),())
def c:=Z1 55 (f K)
end Q143
namespace Q144
abbrev ps:Pz:=[.rd t2,.rref I6]
abbrev rs:Rq:=[.v .bool]
abbrev R:=Rr rs ps
def f (x:ab ps):R:=(Q143.f K (x.1.1,())).bind λy1=>some ((y1.1.1 != x.2.1,()),())
def c:=Z1 118 (f K)
end Q144
namespace Q145
abbrev ps:Pz:=[.rd (.list false 46 t2),.rd I6]
abbrev rs:Rq:=[.v .bool]
abbrev R:=Rr rs ps
def f (x:ab ps):R:=(Q142.f K (x.1,λy1=>(Q144.f K (y1.1,x.2.1,())).map λy=>y.1.1,())).bind λy2=>some ((!y2.1.1,()),())
def c:=Z1 53 (f K)
end Q145
namespace Q146
abbrev ps:Pz:=[.rd t26]
abbrev rs:Rq:=[.v I6]
abbrev R:=Rr rs ps
def f (x:ab ps):R:=(Q143.f K (x.1.1,())).bind λy1=>some ((y1.1.1,()),())
def c:=Z1 54 (f K)
end Q146
namespace Q147
abbrev ps:Pz:=[.rd (.list false 133 t3),.fn [t3] .bool]
abbrev rs:Rq:=[.v I6]
abbrev R:=Rr rs ps
abbrev A0:=Int
def s0 (K:Nat)(x:ab ps)(r0:A0->R)(a:A0):R:=bif decide (a<(FJ x.1:Int)) then ((idx x.1 a).bind λy1=>(x.2.1 (y1,())).bind λy2=>bif y2 then (some ((a,()),())) else (r0 (wr .i64 (a+1)))) else (some (((-1),()),()))
def l0 (x:ab ps):A0->R:=ae (s0 K x) K
def pre (K:Nat)(N0:A0->R)(x:ab ps):R:=N0 0
def f (x:ab ps):R:=pre K (l0 K x) x
def c:=Z1 205 (f K)
end Q147
namespace Q148
abbrev ps:Pz:=[.rd (.list false 133 t3),.fn [t3] .bool]
abbrev rs:Rq:=[.v .bool]
abbrev R:=Rr rs ps
def f (x:ab ps):R:=(Q147.f K (x.1,x.2.1,())).bind λy1=>some ((decide (y1.1.1>=0),()),())
def c:=Z1 135 (f K)
end Q148
namespace Q149
abbrev ps:Pz:=[.rd t3]
abbrev rs:Rq:=[.v .bool]
abbrev R:=Rr rs ps
def f (x:ab ps):R:=(Q130.f K (x.1.2,1,4,())).bind λy1=>some ((!y1.1.1,()),())
def c:=Z1 203 (f K)
end Q149
namespace Q150
abbrev ps:Pz:=[.rd (.list false 133 t3)]
abbrev rs:Rq:=[.v (.list true 46 t2)]
abbrev R:=Rr rs ps
abbrev A0:=List (Ty.den t2)×Int
def s0 (K:Nat)(x:ab ps)(r0:A0->R)(a:A0):R:=bif decide (a.2<(FJ x.1:Int)) then ((idx x.1 a.2).bind λy1=>bif decide ((FJ a.1+FJ ([y1.1]))*32<=am) then (r0 (a.1++([y1.1]),wr .i64 (a.2+1))) else none) else (some ((a.1,()),()))
def l0 (x:ab ps):A0->R:=ae (s0 K x) K
def pre (K:Nat)(N0:A0->R)(x:ab ps):R:=N0 ([],0)
def f (x:ab ps):R:=pre K (l0 K x) x
def c:=Z1 204 (f K)
end Q150
namespace Q151
abbrev ps:Pz:=[.rd (.list false 133 t3)]
abbrev rs:Rq:=[.v .bool]
abbrev R:=Rr rs ps
def f (x:ab ps):R:=(Q150.f K (x.1,())).bind λy1=>(Q134.f K (y1.1.1,())).bind λy2=>bif y2.1.1 then ((Q148.f K (x.1,λy3=>(Q149.f K (y3.1,())).map λy=>y.1.1,())).bind λy4=>some ((!y4.1.1,()),())) else (some ((false,()),()))
def c:=Z1 134 (f K)
end Q151
namespace Q152
abbrev ps:Pz:=[.rd (.list false 3 I6)]
abbrev rs:Rq:=[.v I6]
abbrev R:=Rr rs ps
abbrev A0:=Int
def s0 (K:Nat)(x:ab ps)(r0:A0->R)(a:A0):R:=bif decide (a<(FJ x.1:Int)) then ((idx x.1 a).bind λy1=>bif y1 != 0 then (some ((y1,()),())) else (r0 (wr .i64 (a+1)))) else (some ((0,()),()))
def l0 (x:ab ps):A0->R:=ae (s0 K x) K
def pre (K:Nat)(N0:A0->R)(x:ab ps):R:=N0 0
def f (x:ab ps):R:=pre K (l0 K x) x
def c:=Z1 193 (f K)
end Q152
namespace Q153
abbrev ps:Pz:=[.rd t2,.rd t2]
abbrev rs:Rq:=[.v I6]
abbrev R:=Rr rs ps
def f (x:ab ps):R:=let j3:=(x.1.2.2.1,x.2.1.2.2.1,());let j4:=(x.1.2.1,x.2.1.2.1,());let j2:R:=(Q137.f K (x.1.1,x.2.1.1,())).bind λy9=>(Q137.f K j4).bind λy10=>(Q137.f K j3).bind λy11=>(Q152.f K ([y9.1.1,y10.1.1,y11.1.1,0],())).bind λy12=>some ((y12.1.1,()),());let j1:R:=bif x.2.1.2.2.2 then (bif !x.1.2.2.2 then ((Q137.f K (x.1.1,x.2.1.1,())).bind λy5=>(Q137.f K j4).bind λy6=>(Q137.f K j3).bind λy7=>(Q152.f K ([y5.1.1,y6.1.1,y7.1.1,(-1)],())).bind λy8=>some ((y8.1.1,()),())) else j2) else j2;bif x.1.2.2.2 then (bif !x.2.1.2.2.2 then ((Q137.f K (x.1.1,x.2.1.1,())).bind λy1=>(Q137.f K j4).bind λy2=>(Q137.f K j3).bind λy3=>(Q152.f K ([y1.1.1,y2.1.1,y3.1.1,1],())).bind λy4=>some ((y4.1.1,()),())) else j1) else j1
def c:=Z1 121 (f K)
end Q153
namespace Q154
abbrev ps:Pz:=[.rd t2,.rd t2]
abbrev rs:Rq:=[.v .bool]
abbrev R:=Rr rs ps
def f (x:ab ps):R:=(Q133.f K (x.1,())).bind λy1=>let j1:R:=some ((false,()),());bif y1.1.1 then ((Q133.f K (x.2.1,())).bind λy2=>bif y2.1.1 then (bif x.1.1==x.2.1.1 then ((Q153.f K (x.1,x.2.1,())).bind λy3=>some ((decide (y3.1.1>0),()),())) else j1) else j1) else j1
def c:=Z1 93 (f K)
end Q154
namespace Q155
abbrev ps:Pz:=[.rd t3,.rref t26]
abbrev rs:Rq:=[.v .bool]
abbrev R:=Rr rs ps
def f (x:ab ps):R:=(Q140.f K (x.2.1.2.2.2.2.2.2.2.2.1,x.1.1.1,())).bind λy1=>bif !y1.1.2.1 then (some ((true,()),())) else ((Q154.f K (x.1.1,y1.1.1,())).bind λy2=>some ((y2.1.1,()),()))
def c:=Z1 136 (f K)
end Q155
namespace Q156
abbrev ps:Pz:=[.rd t26]
abbrev rs:Rq:=[.v .bool]
abbrev R:=Rr rs ps
def f (x:ab ps):R:=let b2:=x.1.2.2.2;let b1:=b2.2.2.2.2.2;let j2:R:=some ((false,()),());let j1:R:=(Q146.f K (x.1,())).bind λy2=>(Q145.f K (b1.1,y2.1.1,())).bind λy3=>bif !y3.1.1 then j2 else ((Q151.f K (b1.2.1,())).bind λy4=>bif !y4.1.1 then j2 else ((Q148.f K (b1.2.1,λy5=>(Q155.f K (y5.1,x.1,())).map λy=>y.1.1,())).bind λy6=>some ((!y6.1.1,()),())));let j3:=(b1.1,x.1.1,());bif x.1.2.2.1 then ((Q140.f K j3).bind λy1=>bif !y1.1.2.1 then j2 else (bif !Ty.eqv t2 y1.1.1 (x.1.1,b2.2.1,4,b2.1) then j2 else j1)) else ((Q140.f K j3).bind λy7=>bif !y7.1.2.1 then j2 else (bif !Ty.eqv t2 y7.1.1 (x.1.1,b2.2.1,1,b2.1) then j2 else j1))
def c:=Z1 82 (f K)
end Q156
namespace Q157
abbrev ps:Pz:=[.rd t26]
abbrev rs:Rq:=[.v .bool]
abbrev R:=Rr rs ps
def f (x:ab ps):R:=let b2:=x.1.2.2.2.2.2;let b1:=b2.2.2.2.2.2.1;bif b1.1==(-1) then (some ((Ty.eqv t2 b1 ((-1),0,0,false),()),())) else ((Q140.f K (b2.2.2.2.1,b1.1,())).bind λy1=>let j1:R:=some ((false,()),());bif y1.1.2.1 then (bif b1.1 != x.1.1 then ((Q130.f K (b1.2.1,0,b2.1,())).bind λy2=>bif y2.1.1 then ((Q130.f K (b1.2.2.1,1,b2.2.1,())).bind λy3=>some ((y3.1.1,()),())) else j1) else j1) else j1)
def c:=Z1 83 (f K)
end Q157
namespace Q158
abbrev ps:Pz:=[.rd t26,.rd I6]
abbrev rs:Rq:=[.v .bool]
abbrev R:=Rr rs ps
def f (x:ab ps):R:=(Q131.f K (x.2.1,())).bind λy1=>bif y1.1.1 then ((Q143.f K (x.2.1,())).bind λy2=>(Q146.f K (x.1,())).bind λy3=>some ((y2.1.1==y3.1.1,()),())) else (some ((false,()),()))
def c:=Z1 52 (f K)
end Q158
namespace Q159
abbrev ps:Pz:=[.rd t26]
abbrev rs:Rq:=[.v .bool]
abbrev R:=Rr rs ps
abbrev A2:=List (Ty.den t2)×Int×List (Ty.den I6)×Int×Int×Int×Int×Int×List (Ty.den I6)
abbrev A1:=List (Ty.den t2)×Int
abbrev A0:=List (Ty.den t2)×Int
def s2 (x:ab ps)(r1:A1->R)(r2:A2->R)(a:A2):R:=let b1:=a.2.2.2.2;bif decide (b1.1<a.2.2.2.1) then ((idx a.2.2.1 b1.1).bind λy8=>(Q158.f K (x.1,y8,())).bind λy9=>bif !y9.1.1 then (some ((false,()),())) else (let j1:=(zcp4 a (wr .i64 (b1.1+1),b1.2));bif decide (b1.1>0) then ((idx b1.2.2.2.2 (wr .i64 (b1.1-1))).bind λy10=>bif decide (y8<=y10) then (some ((false,()),())) else (r2 j1)) else (r2 j1))) else (r1 (a.1,wr .i64 (a.2.1+1)))
def l2 (x:ab ps)(r1:A1->R):A2->R:=ae (s2 K x r1) K
def s1 (x:ab ps)(N2:A2->R)(r1:A1->R)(a:A1):R:=bif decide (a.2<(FJ x.1.2.2.2.2.2.2.2.2.2.2.2.1:Int)) then ((idx x.1.2.2.2.2.2.2.2.2.2.2.2.1 a.2).bind λy2=>(idx a.1 a.2).bind λ_=>(idx a.1 (FK a.2:Nat)).bind λy4=>let j1:R:=some ((false,()),());bif y2.1 != y4.1 then j1 else ((idx a.1 a.2).bind λ_=>(idx a.1 (FK a.2:Nat)).bind λy6=>bif y2.2.1 != y6.2.1 then j1 else ((Q130.f K (y2.2.2.1,0,x.1.2.2.2.2.2.1,())).bind λy7=>bif !y7.1.1 then j1 else (let j2:=(FJ y2.2.2.2:Int);bif j2==0 then j1 else (N2 (a.1,a.2,y2.2.2.2,j2,0,y2)))))) else (some ((true,()),()))
def l1 (x:ab ps):A1->R:=ae (λr1 a=>s1 K x (l2 K x r1) r1 a) K
def s0 (K:Nat)(x:ab ps)(N1:A1->R)(r0:A0->R)(a:A0):R:=let b1:=x.1.2.2.2.2.2.2.2.2;bif decide (a.2<(FJ b1.1:Int)) then ((idx b1.1 a.2).bind λy1=>bif y1.2.2.1==2 then (bif decide ((FJ a.1+FJ ([y1]))*32<=am) then (r0 (a.1++([y1]),wr .i64 (a.2+1))) else none) else (r0 (a.1,wr .i64 (a.2+1)))) else (bif (FJ b1.2.2.2.1:Int) != (FJ a.1:Int) then (some ((false,()),())) else (N1 (a.1,0)))
def l0 (x:ab ps):A0->R:=ae (s0 K x (l1 K x)) K
def pre (K:Nat)(N0:A0->R)(x:ab ps):R:=N0 ([],0)
def f (x:ab ps):R:=pre K (l0 K x) x
def c:=Z1 84 (f K)
def G:List Ctr:=[Q158.c K,Q130.c K]
def v2:List (Nat×List Coe):=[(1,[.keep]),(3,[.own false 46 t2]),(7,[.keep]),(32,[.ro true 86 t6]),(33,[.keep]),(34,[.keep]),(72,[.ro true 3 I6]),(73,[.keep]),(74,[.keep]),(100001,Kc0),(100007,Kc4)]
def v1:List (Nat×List Coe):=[(1,[.keep]),(3,[.own false 46 t2]),(32,[.ro true 86 t6]),(33,[.keep]),(34,[.keep]),(100001,Kc0)]
def v0:List (Nat×List Coe):=[(1,[.keep]),(3,[.own false 46 t2]),(11,[.ro true 46 t2]),(12,[.keep]),(13,[.keep]),(100001,Kc0)]
def L:List (Nat×List (Nat×List Coe)):=[(17,v2),(12,v1),(4,v0)]
def body:Code:=cY Tryz.f84
abbrev ev:Code->St->(Ex->St->R)->R:=evK (G K) T_NL L K
abbrev fin:Ex->St->R:=du T_NL ps rs true Tryz.f84.results.toList
def S0 (x:ab ps)(a:A0):St:=av [(1,⟨0,.one,[.bp 100001 0]⟩),(3,⟨0,.one,[.own false none 46 t2 a.1]⟩),(11,⟨0,.one,[.ro true 46 t2 x.1.2.2.2.2.2.2.2.2.1]⟩),(12,⟨0,.one,[.int .i64 (FJ x.1.2.2.2.2.2.2.2.2.1:Int)]⟩),(13,⟨0,.one,[.int .i64 a.2]⟩),(100001,⟨0,.agg,(w1 x.1)⟩)]
def S1 (x:ab ps)(a:A1):St:=av [(1,⟨0,.one,[.bp 100001 0]⟩),(3,⟨0,.one,[.own false none 46 t2 a.1]⟩),(32,⟨0,.one,[.ro true 86 t6 x.1.2.2.2.2.2.2.2.2.2.2.2.1]⟩),(33,⟨0,.one,[.int .i64 (FJ x.1.2.2.2.2.2.2.2.2.2.2.2.1:Int)]⟩),(34,⟨0,.one,[.int .i64 a.2]⟩),(100001,⟨0,.agg,(w1 x.1)⟩)]
def S2 (x:ab ps)(a:A2):St:=av [(1,⟨0,.one,[.bp 100001 0]⟩),(3,⟨0,.one,[.own false none 46 t2 a.1]⟩),(7,⟨0,.one,[.bp 100007 0]⟩),(32,⟨0,.one,[.ro true 86 t6 x.1.2.2.2.2.2.2.2.2.2.2.2.1]⟩),(33,⟨0,.one,[.int .i64 (FJ x.1.2.2.2.2.2.2.2.2.2.2.2.1:Int)]⟩),(34,⟨0,.one,[.int .i64 a.2.1]⟩),(72,⟨0,.one,[.ro true 3 I6 a.2.2.1]⟩),(73,⟨0,.one,[.int .i64 a.2.2.2.1]⟩),(74,⟨0,.one,[.int .i64 a.2.2.2.2.1]⟩),(100001,⟨0,.agg,(w1 x.1)⟩),(100007,⟨0,.agg,(wa0 a.2.2.2.2.2)⟩)]
def k0 (x:ab ps):Ex->St->R:=kAt (ev K) body [1,1,0,1,0] fin
def N0 (x:ab ps):A0->R:=λa=>aY v0 (ev K (sub body [1,1,0,1,0,0])) K (S0 x a) (k0 K x)
def k1 (x:ab ps):Ex->St->R:=kAt (ev K) body [1,1,1,1,0,1,0] fin
def N1 (x:ab ps):A1->R:=λa=>aY v1 (ev K (sub body [1,1,1,1,0,1,0,0])) K (S1 x a) (k1 K x)
def k2 (x:ab ps)(q1:St->R):Ex->St->R:=kAt (ev K) (sub body [1,1,1,1,0,1,0,0]) [1,1,0,0,1,1,1,0] (iq v1 q1 (k1 K x))
def N2 (x:ab ps)(q1:St->R):A2->R:=λa=>aY v2 (ev K (sub body [1,1,1,1,0,1,0,0,1,1,0,0,1,1,1,0,0])) K (S2 x a) (k2 K x q1)
end Q159
namespace Q160
abbrev ps:Pz:=[.rd t9]
abbrev rs:Rq:=[.v .bool]
abbrev R:=Rr rs ps
def f (x:ab ps):R:=(Q130.f K (x.1.1,(-100000),100000,())).bind λy1=>let j1:R:=some ((false,()),());bif y1.1.1 then ((Q130.f K (x.1.2.1,(-100000),100000,())).bind λy2=>bif y2.1.1 then ((Q130.f K (x.1.2.2.1,0,100000,())).bind λy3=>bif y3.1.1 then ((Q130.f K (x.1.2.2.2,1,1500,())).bind λy4=>some ((y4.1.1,()),())) else j1) else j1) else j1
def c:=Z1 85 (f K)
end Q160
namespace Q161
abbrev ps:Pz:=[.rd t26,.rd I6]
abbrev rs:Rq:=[.v .bool]
abbrev R:=Rr rs ps
def f (x:ab ps):R:=(Q158.f K (x.1,x.2.1,())).bind λy1=>bif y1.1.1 then (some ((x.2.1 != x.1.1,()),())) else (some ((false,()),()))
def c:=Z1 110 (f K)
end Q161
namespace Q162
abbrev ps:Pz:=[.rd I6]
abbrev rs:Rq:=[.v .bool]
abbrev R:=Rr rs ps
def f (x:ab ps):R:=(Q130.f K (x.1,1,60000,())).bind λy1=>some ((!y1.1.1,()),())
def c:=Z1 137 (f K)
end Q162
namespace Q163
abbrev ps:Pz:=[.rd (.list false 3 I6),.fn [I6] .bool]
abbrev rs:Rq:=[.v I6]
abbrev R:=Rr rs ps
abbrev A0:=Int
def s0 (K:Nat)(x:ab ps)(r0:A0->R)(a:A0):R:=bif decide (a<(FJ x.1:Int)) then ((idx x.1 a).bind λy1=>(x.2.1 (y1,())).bind λy2=>bif y2 then (some ((a,()),())) else (r0 (wr .i64 (a+1)))) else (some (((-1),()),()))
def l0 (x:ab ps):A0->R:=ae (s0 K x) K
def pre (K:Nat)(N0:A0->R)(x:ab ps):R:=N0 0
def f (x:ab ps):R:=pre K (l0 K x) x
def c:=Z1 206 (f K)
end Q163
namespace Q164
abbrev ps:Pz:=[.rd (.list false 3 I6),.fn [I6] .bool]
abbrev rs:Rq:=[.v .bool]
abbrev R:=Rr rs ps
def f (x:ab ps):R:=(Q163.f K (x.1,x.2.1,())).bind λy1=>some ((decide (y1.1.1>=0),()),())
def c:=Z1 138 (f K)
end Q164
namespace Q165
abbrev ps:Pz:=[.rd t26]
abbrev rs:Rq:=[.v .bool]
abbrev R:=Rr rs ps
abbrev A0:=Int
def s0 (x:ab ps)(r0:A0->R)(a:A0):R:=let b1:=x.1.2.2.2.2.2.2.2.2.2.2.2.2.2.1;bif decide (a<(FJ b1:Int)) then ((idx b1 a).bind λy1=>(Q161.f K (x.1,y1.1,())).bind λy2=>let j2:R:=some ((false,()),());bif !y2.1.1 then j2 else (let j1:R:=(Q160.f K (y1.2.1,())).bind λy4=>bif !y4.1.1 then j2 else ((Q130.f K ((FJ y1.2.2:Int),1,3,())).bind λy5=>bif !y5.1.1 then j2 else ((Q164.f K (y1.2.2,λy6=>(Q162.f K (y6.1,())).map λy=>y.1.1,())).bind λy7=>bif y7.1.1 then j2 else (r0 (wr .i64 (a+1)))));bif decide (a>0) then ((idx b1 (wr .i64 (a-1))).bind λy3=>bif decide (y1.1<=y3.1) then j2 else j1) else j1)) else (some ((true,()),()))
def l0 (x:ab ps):A0->R:=ae (s0 K x) K
def pre (K:Nat)(N0:A0->R)(x:ab ps):R:=N0 0
def f (x:ab ps):R:=pre K (l0 K x) x
def c:=Z1 86 (f K)
end Q165
namespace Q166
abbrev ps:Pz:=[.rd t26]
abbrev rs:Rq:=[.v .bool]
abbrev R:=Rr rs ps
abbrev A0:=Int
def s0 (x:ab ps)(r0:A0->R)(a:A0):R:=let b1:=x.1.2.2.2.2.2.2.2.2.2.2.2.2.2.2;bif decide (a<(FJ b1:Int)) then ((idx b1 a).bind λy1=>(Q143.f K (7,())).bind λy2=>(Q130.f K (y1.1,0,y2.1.1,())).bind λy3=>let j2:R:=some ((false,()),());bif !y3.1.1 then j2 else ((Q146.f K (x.1,())).bind λy4=>bif y1.1==y4.1.1 then j2 else (let j1:R:=bif (FJ y1.2:Int)==0 then j2 else ((Q134.f K (y1.2,())).bind λy6=>bif !y6.1.1 then j2 else ((Q145.f K (y1.2,y1.1,())).bind λy7=>bif !y7.1.1 then j2 else (r0 (wr .i64 (a+1)))));bif decide (a>0) then ((idx b1 (wr .i64 (a-1))).bind λy5=>bif decide (y1.1<=y5.1) then j2 else j1) else j1))) else (some ((true,()),()))
def l0 (x:ab ps):A0->R:=ae (s0 K x) K
def pre (K:Nat)(N0:A0->R)(x:ab ps):R:=N0 0
def f (x:ab ps):R:=pre K (l0 K x) x
def c:=Z1 87 (f K)
end Q166
namespace Q167
abbrev ps:Pz:=[.rd t26]
abbrev rs:Rq:=[.v .bool]
abbrev R:=Rr rs ps
def f (x:ab ps):R:=let b1:=x.1.2.2.2.2;(Q131.f K (x.1.1,())).bind λy1=>let j1:R:=some ((false,()),());bif !y1.1.1 then j1 else ((Q130.f K (b1.2.1,0,999999,())).bind λy2=>bif !y2.1.1 then j1 else ((Q130.f K (b1.2.2.1,0,999999,())).bind λy3=>bif !y3.1.1 then j1 else ((Q130.f K (b1.2.2.2.1,0,8,())).bind λy4=>bif !y4.1.1 then j1 else ((Q130.f K (b1.1,0,999,())).bind λy5=>bif !y5.1.1 then j1 else (bif !x.1.2.1 then ((Q132.f K (x.1,())).bind λy6=>some ((y6.1.1,()),())) else ((Q156.f K (x.1,())).bind λy7=>bif y7.1.1 then ((Q157.f K (x.1,())).bind λy8=>bif y8.1.1 then ((Q159.f K (x.1,())).bind λy9=>bif y9.1.1 then ((Q160.f K (b1.2.2.2.2.2.2.2.2.1,())).bind λy10=>bif y10.1.1 then ((Q165.f K (x.1,())).bind λy11=>bif y11.1.1 then ((Q166.f K (x.1,())).bind λy12=>some ((y12.1.1,()),())) else j1) else j1) else j1) else j1) else j1))))))
def c:=Z1 26 (f K)
end Q167
namespace Q168
abbrev ps:Pz:=[.rd t47]
abbrev rs:Rq:=[.v .bool]
abbrev R:=Rr rs ps
def f (x:ab ps):R:=let b1:=x.1.2.2.2.2.2;(Q130.f K (x.1.1,1,2,())).bind λy1=>let j1:R:=some ((false,()),());bif !y1.1.1 then j1 else ((Q130.f K (x.1.2.1,1,6,())).bind λy2=>bif !y2.1.1 then j1 else ((Q131.f K (x.1.2.2.1,())).bind λy3=>bif !y3.1.1 then j1 else ((Q131.f K (x.1.2.2.2.1,())).bind λy4=>bif !y4.1.1 then j1 else ((Q131.f K (b1.1,())).bind λy5=>bif !y5.1.1 then j1 else ((Q130.f K (x.1.2.2.2.2.1,0,999999,())).bind λy6=>bif !y6.1.1 then j1 else ((Q160.f K (b1.2.1,())).bind λy7=>bif !y7.1.1 then j1 else ((Q134.f K (b1.2.2,())).bind λy8=>bif !y8.1.1 then j1 else (bif x.1.2.1==6 then (bif decide ((FJ b1.2.2:Int)>0) then ((idx b1.2.2 0).bind λy9=>(Q143.f K (y9.1,())).bind λy10=>(Q145.f K (b1.2.2,y10.1.1,())).bind λy11=>some ((y11.1.1,()),())) else j1) else ((Q143.f K (x.1.2.2.1,())).bind λy12=>(Q145.f K (b1.2.2,y12.1.1,())).bind λy13=>some ((y13.1.1,()),()))))))))))
def c:=Z1 50 (f K)
end Q168
namespace Q169
abbrev ps:Pz:=[.rd t26]
abbrev rs:Rq:=[.v .bool]
abbrev R:=Rr rs ps
def f (K:Nat)(x:ab ps):R:=bif x.1.2.1 then (some ((!x.1.2.2.1,()),())) else (some ((false,()),()))
def c:=Z1 51 (f K)
end Q169
namespace Q170
abbrev ps:Pz:=[.rd t26,.rd t47]
abbrev rs:Rq:=[.v .bool]
abbrev R:=Rr rs ps
def f (x:ab ps):R:=let b1:=x.2.1.2.2;(Q167.f K (x.1,())).bind λy1=>let j1:R:=some ((false,()),());bif !y1.1.1 then j1 else ((Q168.f K (x.2.1,())).bind λy2=>bif !y2.1.1 then j1 else ((Q169.f K (x.1,())).bind λy3=>bif !y3.1.1 then j1 else (bif b1.2.1 != x.1.1 then j1 else (bif b1.1==x.1.1 then j1 else (bif x.2.1.1==1 then ((Q158.f K (x.1,b1.1,())).bind λy4=>bif y4.1.1 then (bif x.2.1.2.1 != 6 then (some ((true,()),())) else ((Q146.f K (x.1,())).bind λy5=>(Q145.f K (b1.2.2.2.2.2,y5.1.1,())).bind λy6=>some ((!y6.1.1,()),()))) else j1) else (bif x.2.1.2.1==6 then ((Q158.f K (x.1,b1.1,())).bind λy7=>bif !y7.1.1 then ((Q143.f K (b1.1,())).bind λy8=>(Q145.f K (b1.2.2.2.2.2,y8.1.1,())).bind λy9=>bif y9.1.1 then (some ((true,()),())) else ((Q146.f K (x.1,())).bind λy10=>(Q145.f K (b1.2.2.2.2.2,y10.1.1,())).bind λy11=>some ((y11.1.1,()),()))) else j1) else j1))))))
def c:=Z1 15 (f K)
end Q170
namespace Q171
abbrev ps:Pz:=[.rd (.list false 46 t2),.rd t2]
abbrev rs:Rq:=[.v (.list true 46 t2),.v .bool]
abbrev R:=Rr rs ps
def f (x:ab ps):R:=(Q1.f K (x.1,())).bind λy1=>(Q139.f K (y1.1.1,x.2.1.1,())).bind λy2=>bif !y2.1.2.1 then ((Q2.f K (y1.1.1,y2.1.1,[x.2.1],())).bind λy3=>some ((y3.1.1,true,()),())) else ((idx y1.1.1 y2.1.1).bind λ_=>(idx y1.1.1 (FK y2.1.1:Nat)).bind λy5=>(Q153.f K (x.2.1,y5,())).bind λy6=>bif decide (y6.1.1>0) then ((idx y1.1.1 y2.1.1).bind λ_=>(idx y1.1.1 (FK y2.1.1:Nat)).bind λy8=>some ((y1.1.1.set (FK y2.1.1) x.2.1,true,()),())) else (some ((y1.1.1,false,()),())))
def c:=Z1 63 (f K)
end Q171
namespace Q172
abbrev ps:Pz:=[.rd (.list false 46 t2),.rd (.list false 46 t2)]
abbrev rs:Rq:=[.v (.list true 46 t2)]
abbrev R:=Rr rs ps
abbrev A0:=List (Ty.den t2)×Int
def s0 (x:ab ps)(r0:A0->R)(a:A0):R:=bif decide (a.2<(FJ x.2.1:Int)) then ((idx x.2.1 a.2).bind λy4=>(Q171.f K (a.1,y4,())).bind λy5=>r0 (y5.1.1,wr .i64 (a.2+1))) else (some ((a.1,()),()))
def l0 (x:ab ps):A0->R:=ae (s0 K x) K
def pre (N0:A0->R)(x:ab ps):R:=(Q134.f K (x.1,())).bind λy1=>bif !y1.1.1 then (some (([],()),())) else ((Q134.f K (x.2.1,())).bind λy2=>bif !y2.1.1 then (some (([],()),())) else ((Q1.f K (x.1,())).bind λy3=>N0 (y3.1.1,0)))
def f (x:ab ps):R:=pre K (l0 K x) x
def c:=Z1 19 (f K)
end Q172
namespace Q173
abbrev ps:Pz:=[.rd (.list false 133 t3),.rd t2]
abbrev rs:Rq:=[.v (.list true 133 t3)]
abbrev R:=Rr rs ps
def f (x:ab ps):R:=(Q151.f K (x.1,())).bind λy1=>bif !y1.1.1 then (some (([],()),())) else ((Q133.f K (x.2.1,())).bind λy2=>bif !y2.1.1 then (some (([],()),())) else ((Q3.f K (x.1,())).bind λy3=>(Q150.f K (y3.1.1,())).bind λy4=>(Q139.f K (y4.1.1,x.2.1.1,())).bind λy5=>bif !y5.1.2.1 then ((Q4.f K (y3.1.1,y5.1.1,[(x.2.1,4)],())).bind λy6=>some ((y6.1.1,()),())) else ((idx y3.1.1 y5.1.1).bind λ_=>(idx y3.1.1 (FK y5.1.1:Nat)).bind λy8=>(Q153.f K (x.2.1,y8.1,())).bind λy9=>bif decide (y9.1.1>0) then ((idx y3.1.1 y5.1.1).bind λ_=>(idx y3.1.1 (FK y5.1.1:Nat)).bind λy11=>some ((y3.1.1.set (FK y5.1.1) (x.2.1,4),()),())) else (some ((y3.1.1,()),())))))
def c:=Z1 214 (f K)
end Q173
namespace Q174
abbrev ps:Pz:=[.rd (.list false 86 t6),.fn [t6] .bool]
abbrev rs:Rq:=[.v I6]
abbrev R:=Rr rs ps
abbrev A0:=Int
def s0 (K:Nat)(x:ab ps)(r0:A0->R)(a:A0):R:=bif decide (a<(FJ x.1:Int)) then ((idx x.1 a).bind λy1=>(x.2.1 (y1,())).bind λy2=>bif y2 then (some ((a,()),())) else (r0 (wr .i64 (a+1)))) else (some (((-1),()),()))
def l0 (x:ab ps):A0->R:=ae (s0 K x) K
def pre (K:Nat)(N0:A0->R)(x:ab ps):R:=N0 0
def f (x:ab ps):R:=pre K (l0 K x) x
def c:=Z1 272 (f K)
end Q174
namespace Q175
abbrev ps:Pz:=[.rd t6,.rref t2]
abbrev rs:Rq:=[.v .bool]
abbrev R:=Rr rs ps
def f (K:Nat)(x:ab ps):R:=some ((x.1.1==x.2.1.1,()),())
def c:=Z1 216 (f K)
end Q175
namespace Q176
abbrev ps:Pz:=[.rd (.list false 86 t6),.rd I6,.fn [t6,I6] I6]
abbrev rs:Rq:=[.v I6,.v .bool]
abbrev R:=Rr rs ps
abbrev A0:=Int×Int
def s0 (K:Nat)(x:ab ps)(r0:A0->R)(a:A0):R:=bif decide (a.1<a.2) then (let j1:=FM (wr .u64 (wr .i64 (a.1+a.2))) (2 ^ 1);(idx x.1 (wr .i64 j1)).bind λy1=>(x.2.2.1 (y1,x.2.1,())).bind λy2=>bif decide (y2<0) then (r0 (wr .i64 ((wr .i64 j1)+1),a.2)) else (r0 (a.1,wr .i64 j1))) else (bif decide (a.1<(FJ x.1:Int)) then ((idx x.1 a.1).bind λy3=>(x.2.2.1 (y3,x.2.1,())).bind λy4=>some ((a.1,y4==0,()),())) else (some ((a.1,false,()),())))
def l0 (x:ab ps):A0->R:=ae (s0 K x) K
def pre (K:Nat)(N0:A0->R)(x:ab ps):R:=N0 (0,(FJ x.1:Int))
def f (x:ab ps):R:=pre K (l0 K x) x
def c:=Z1 217 (f K)
end Q176
namespace Q177
abbrev ps:Pz:=[.rd t6,.rd I6]
abbrev rs:Rq:=[.v I6]
abbrev R:=Rr rs ps
def f (K:Nat)(x:ab ps):R:=some ((wr .i64 (x.1.1-x.2.1),()),())
def c:=Z1 218 (f K)
end Q177
namespace Q178
abbrev ps:Pz:=[.iop t95,.rd t2,.rd I6]
abbrev rs:Rq:=[]
abbrev R:=Rr rs ps
def f (x:ab ps):R:=let b1:=x.1.2.2.2.2.2.2.2.2;(Q140.f K (b1.1,x.2.1.1,())).bind λy1=>(Q171.f K (b1.1,x.2.1,())).bind λy2=>bif !y2.1.2.1 then (some ((),x.1,())) else ((Q173.f K (b1.2.1,x.2.1,())).bind λy3=>let j1:R:=(Q5.f K (b1.2.2.2.1,λy4=>(Q175.f K (y4.1,x.2.1,())).map λy=>y.1.1,())).bind λy5=>bif x.2.1.2.2.1==2 then ((Q176.f K (y5.1.1,x.2.1.1,λy6=>(Q177.f K (y6.1,y6.2.1,())).map λy=>y.1.1,())).bind λy7=>(Q6.f K (y5.1.1,y7.1.1,[(x.2.1.1,x.2.1.2.1,x.1.2.2.2.2.2.1,[x.2.2.1])],())).bind λy8=>some ((),(zcp8 x.1 (y2.1.1,y3.1.1,b1.2.2.1,y8.1.1,b1.2.2.2.2)),())) else (some ((),(zcp8 x.1 (y2.1.1,y3.1.1,b1.2.2.1,y5.1.1,b1.2.2.2.2)),()));bif y1.1.1.2.2.1==x.2.1.2.2.1 then (bif y1.1.1.2.1==x.2.1.2.1 then (some ((),(zcp8 x.1 (y2.1.1,y3.1.1,b1.2.2)),())) else j1) else j1)
def c:=Z0 145 (f K)
end Q178
namespace Q179
abbrev ps:Pz:=[.rd I6,.rd I6]
abbrev rs:Rq:=[.v .bool]
abbrev R:=Rr rs ps
def f (x:ab ps):R:=(Q136.f K (x.1,())).bind λy1=>let j1:=((decide (x.1<x.2.1),()),());bif y1.1.1 then ((Q136.f K (x.2.1,())).bind λy2=>bif !y2.1.1 then (some ((true,()),())) else (some j1)) else (some j1)
def c:=Z1 240 (f K)
end Q179
namespace Q180
abbrev ps:Pz:=[.rd I6]
abbrev rs:Rq:=[.v .bool]
abbrev R:=Rr rs ps
def f (K:Nat)(x:ab ps):R:=some ((x.1 != x.1,()),())
def c:=Z1 241 (f K)
end Q180
namespace Q181
abbrev ps:Pz:=[.rd (.list false 3 I6),.rd I6]
abbrev rs:Rq:=[.v I6,.v .bool]
abbrev R:=Rr rs ps
abbrev A0:=Int×Int
def s0 (x:ab ps)(r0:A0->R)(a:A0):R:=bif decide (a.1<a.2) then (let j1:=FM (wr .u64 (wr .i64 (a.1+a.2))) (2 ^ 1);(idx x.1 (wr .i64 j1)).bind λy1=>(Q179.f K (y1,x.2.1,())).bind λy2=>bif y2.1.1 then (r0 (wr .i64 ((wr .i64 j1)+1),a.2)) else (r0 (a.1,wr .i64 j1))) else (bif decide (a.1<(FJ x.1:Int)) then ((idx x.1 a.1).bind λy3=>bif y3==x.2.1 then (some ((a.1,true,()),())) else ((idx x.1 a.1).bind λy4=>(Q180.f K (y4,())).bind λy5=>bif y5.1.1 then ((Q180.f K (x.2.1,())).bind λy6=>some ((a.1,y6.1.1,()),())) else (some ((a.1,false,()),())))) else (some ((a.1,false,()),())))
def l0 (x:ab ps):A0->R:=ae (s0 K x) K
def pre (K:Nat)(N0:A0->R)(x:ab ps):R:=N0 (0,(FJ x.1:Int))
def f (x:ab ps):R:=pre K (l0 K x) x
def c:=Z1 175 (f K)
end Q181
namespace Q182
abbrev ps:Pz:=[.iop t95,.rd (.list false 46 t2),.rd I6]
abbrev rs:Rq:=[]
abbrev Res:=ai rs×ag ps
abbrev R:=Option Res
abbrev A1:=Int×Int×Int×Int×Bool×Bool×Bool×Int×Int×Int×Int×List (Ty.den t2)×List (Ty.den t3)×Int×Int×Int×Bool×List (Ty.den t50)×Int×Int×Int×Int×List (Ty.den t52)×List (Ty.den t12)×Int×Int×Int×Bool
abbrev A0:=Int×Int×Bool×Bool×Bool×Int×Int×Int×Int×List (Ty.den t2)×List (Ty.den t3)×Int×Int×Int×Bool×List (Ty.den t50)×Int×Int×Int×Int×List (Ty.den t52)×List (Ty.den t12)
def s1 (x:ab ps)(r0:A0->R)(r1:A1->R)(a:A1):R:=let b5:=a.2.2.1;let b3:=a.2.2.2.2.2.2.2.2.2.2.2;let b1:=b3.2.2.2.2;let b4:=b1.2.2.1;let b2:=b1.2.2.2.2.2.2.2.2;bif decide (b5<a.2.1) then ((idx b4 b5).bind λ_=>let j1:R:=r1 (a.1,a.2.1,wr .i64 (b5+1),a.2.2.2);bif b2.2.2.2.1 != 2 then j1 else (let j2:=(FK b5:Nat);(idx b4 j2).bind λy7=>bif y7.1 != b2.2.1 then j1 else ((idx b4 j2).bind λy8=>bif y8.2.1 != b2.2.2.1 then j1 else ((idx b4 j2).bind λy9=>(Q181.f K (y9.2.2.2,x.2.2.1,())).bind λy10=>bif !y10.1.2.1 then ((idx b4 j2).bind λy11=>(idx b4 j2).bind λy12=>(Q7.f K (y12.2.2.2,y10.1.1,[x.2.2.1],())).bind λy13=>(idx b4 j2).bind λy14=>bif Nat.beq (FK b5) (FK b5) then (r1 (a.1,a.2.1,wr .i64 (b5+1),(zcp8 a.2.2.2 (zcp4 b3 (b1.1,b1.2.1,b4.set (FK b5) (y14.1,y14.2.1,y14.2.2.1,y13.1.1),b1.2.2.2))))) else none) else j1)))) else (r0 (wr .i64 (a.1+1),(zcp8 a.2.2.2 (zcp8 b3 (zcp4 b1.2.2.2.2 b2.1)))))
def l1 (x:ab ps)(r0:A0->R):A1->R:=ae (s1 K x r0) K
def s0 (x:ab ps)(N1:A1->R)(r0:A0->R)(a:A0):R:=let b5:=a.2.2.2.2.2.2;let b2:=b5.2.2.2;let b3:=b2.2.2.2.2.2;bif decide (a.1<(FJ x.2.1:Int)) then ((idx x.2.1 a.1).bind λy1=>bif y1.1==a.2.1 then ((Q140.f K (b2.1,a.2.1,())).bind λy2=>(Q154.f K (y1,y2.1.1,())).bind λy3=>bif y3.1.1 then (bif decide (y1.2.1<999) then ((Q178.f K ((zcp4 a.2 (wr .i64 (y1.2.1+1),b5.1,b5.2.1,b5.2.2.1,b2.1,b2.2.1,(b2.2.2.1,b2.2.2.2.1,b2.2.2.2.2.1,b3.1),b3.2.1,(b3.2.2.1,b3.2.2.2.1,b3.2.2.2.2.1,b3.2.2.2.2.2.1),b3.2.2.2.2.2.2)),(a.2.1,wr .i64 (y1.2.1+1),1,a.2.2.2.2.1),a.2.1,())).bind λy4=>r0 (wr .i64 (a.1+1),(zc3ec45 y4.2.1))) else (r0 (wr .i64 (a.1+1),a.2))) else (r0 (wr .i64 (a.1+1),a.2))) else ((Q178.f K (zc286a0 a.2 (y1,x.2.2.1,()))).bind λy5=>let b4:=y5.2.1.2.2.2;let b1:=b4.2.2.2.2.2.2;let b6:=b1.2.2.2;N1 (a.1,(FJ b1.2.2.1:Int),0,y5.2.1.1,y5.2.1.2.1,y5.2.1.2.2.1,b4.1,b4.2.1,b4.2.2.1,b4.2.2.2.1,b4.2.2.2.2.1,b4.2.2.2.2.2.1,b1.1,b1.2.1.1,b1.2.1.2.1,b1.2.1.2.2.1,b1.2.1.2.2.2,b1.2.2.1,b6.1.1,b6.1.2.1,b6.1.2.2.1,b6.1.2.2.2,b6.2.1,b6.2.2,y1))) else (some ((),(zc286a0 a.2 ())))
def l0 (x:ab ps):A0->R:=ae (λr0 a=>s0 K x (l1 K x r0) r0 a) K
def pre (K:Nat)(N0:A0->R)(x:ab ps):R:=N0 (0,(zc3ec45 x.1))
def f (x:ab ps):R:=pre K (l0 K x) x
def c:=Z0 109 (f K)
def G:List Ctr:=[Q140.c K,Q154.c K,Q178.c K,Q181.c K,Q7.c K]
def v1:List (Nat×List Coe):=[(0,[.keep]),(2,[.keep]),(7,[.keep]),(14,[.ro true 46 t2]),(15,[.keep]),(16,[.keep]),(80,[.keep]),(81,[.keep]),(100000,Kc7),(100007,Kc1)]
def v0:List (Nat×List Coe):=[(0,[.keep]),(2,[.keep]),(14,[.ro true 46 t2]),(15,[.keep]),(16,[.keep]),(100000,Kc7)]
def L:List (Nat×List (Nat×List Coe)):=[(11,v1),(2,v0)]
def body:Code:=cY Tryz.f109
abbrev ev:Code->St->(Ex->St->R)->R:=evK (G K) T_NL L K
abbrev fin:Ex->St->R:=du T_NL ps rs false Tryz.f109.results.toList
def S0 (x:ab ps)(a:A0):St:=av [(0,⟨0,.one,[.bp 100000 0]⟩),(2,⟨0,.one,[.int .i64 x.2.2.1]⟩),(14,⟨0,.one,[.ro true 46 t2 x.2.1]⟩),(15,⟨0,.one,[.int .i64 (FJ x.2.1:Int)]⟩),(16,⟨0,.one,[.int .i64 a.1]⟩),(100000,⟨0,.agg,[.int .i64 a.2.1,.bool a.2.2.1,.bool a.2.2.2.1,.bool a.2.2.2.2.1,.int .i64 a.2.2.2.2.2.1,.int .i64 a.2.2.2.2.2.2.1,.int .i64 a.2.2.2.2.2.2.2.1,.int .i64 a.2.2.2.2.2.2.2.2.1,.own false none 46 t2 a.2.2.2.2.2.2.2.2.2.1,.own false none 133 t3 a.2.2.2.2.2.2.2.2.2.2.1,.int .i64 a.2.2.2.2.2.2.2.2.2.2.2.1,.int .i64 a.2.2.2.2.2.2.2.2.2.2.2.2.1,.int .i64 a.2.2.2.2.2.2.2.2.2.2.2.2.2.1,.bool a.2.2.2.2.2.2.2.2.2.2.2.2.2.2.1,.own false none 86 t50 a.2.2.2.2.2.2.2.2.2.2.2.2.2.2.2.1,.int .i64 a.2.2.2.2.2.2.2.2.2.2.2.2.2.2.2.2.1,.int .i64 a.2.2.2.2.2.2.2.2.2.2.2.2.2.2.2.2.2.1,.int .i64 a.2.2.2.2.2.2.2.2.2.2.2.2.2.2.2.2.2.2.1,.int .i64 a.2.2.2.2.2.2.2.2.2.2.2.2.2.2.2.2.2.2.2.1,.own false none 89 t52 a.2.2.2.2.2.2.2.2.2.2.2.2.2.2.2.2.2.2.2.2.1,.own true none 91 t12 a.2.2.2.2.2.2.2.2.2.2.2.2.2.2.2.2.2.2.2.2.2]⟩)]
def S1 (x:ab ps)(a:A1):St:=av [(0,⟨0,.one,[.bp 100000 0]⟩),(2,⟨0,.one,[.int .i64 x.2.2.1]⟩),(7,⟨0,.one,[.bp 100007 0]⟩),(14,⟨0,.one,[.ro true 46 t2 x.2.1]⟩),(15,⟨0,.one,[.int .i64 (FJ x.2.1:Int)]⟩),(16,⟨0,.one,[.int .i64 a.1]⟩),(80,⟨0,.one,[.int .i64 a.2.1]⟩),(81,⟨0,.one,[.int .i64 a.2.2.1]⟩),(100000,⟨0,.agg,[.int .i64 a.2.2.2.1,.bool a.2.2.2.2.1,.bool a.2.2.2.2.2.1,.bool a.2.2.2.2.2.2.1,.int .i64 a.2.2.2.2.2.2.2.1,.int .i64 a.2.2.2.2.2.2.2.2.1,.int .i64 a.2.2.2.2.2.2.2.2.2.1,.int .i64 a.2.2.2.2.2.2.2.2.2.2.1,.own false none 46 t2 a.2.2.2.2.2.2.2.2.2.2.2.1,.own false none 133 t3 a.2.2.2.2.2.2.2.2.2.2.2.2.1,.int .i64 a.2.2.2.2.2.2.2.2.2.2.2.2.2.1,.int .i64 a.2.2.2.2.2.2.2.2.2.2.2.2.2.2.1,.int .i64 a.2.2.2.2.2.2.2.2.2.2.2.2.2.2.2.1,.bool a.2.2.2.2.2.2.2.2.2.2.2.2.2.2.2.2.1,.own false none 86 t50 a.2.2.2.2.2.2.2.2.2.2.2.2.2.2.2.2.2.1,.int .i64 a.2.2.2.2.2.2.2.2.2.2.2.2.2.2.2.2.2.2.1,.int .i64 a.2.2.2.2.2.2.2.2.2.2.2.2.2.2.2.2.2.2.2.1,.int .i64 a.2.2.2.2.2.2.2.2.2.2.2.2.2.2.2.2.2.2.2.2.1,.int .i64 a.2.2.2.2.2.2.2.2.2.2.2.2.2.2.2.2.2.2.2.2.2.1,.own false none 89 t52 a.2.2.2.2.2.2.2.2.2.2.2.2.2.2.2.2.2.2.2.2.2.2.1,.own true none 91 t12 a.2.2.2.2.2.2.2.2.2.2.2.2.2.2.2.2.2.2.2.2.2.2.2.1]⟩),(100007,⟨0,.agg,(wa2 a.2.2.2.2.2.2.2.2.2.2.2.2.2.2.2.2.2.2.2.2.2.2.2.2)⟩)]
def k0 (x:ab ps):Ex->St->R:=kAt (ev K) body [1,0] fin
def N0 (x:ab ps):A0->R:=λa=>aY v0 (ev K (sub body [1,0,0])) K (S0 x a) (k0 K x)
def k1 (x:ab ps)(q0:St->R):Ex->St->R:=kAt (ev K) (sub body [1,0,0]) [1,1,0,0,1,1,1,1,0] (iq v0 q0 (k0 K x))
def N1 (x:ab ps)(q0:St->R):A1->R:=λa=>aY v1 (ev K (sub body [1,0,0,1,1,0,0,1,1,1,1,0,0])) K (S1 x a) (k1 K x q0)
end Q182
namespace Q183
abbrev ps:Pz:=[.rref t26,.rd I6]
abbrev rs:Rq:=[.bv (.list false 46 t2)]
abbrev R:=Rr rs ps
abbrev A0:=Int
def s0 (K:Nat)(x:ab ps)(r0:A0->R)(a:A0):R:=let b1:=x.1.2.2.2.2.2.2.2.2.2.2.2.2.2.2;bif decide (a<(FJ b1:Int)) then ((idx b1 a).bind λy1=>bif y1.1==x.2.1 then (some ((y1.2,()),())) else (r0 (wr .i64 (a+1)))) else (some (([],()),()))
def l0 (x:ab ps):A0->R:=ae (s0 K x) K
def pre (K:Nat)(N0:A0->R)(x:ab ps):R:=N0 0
def f (x:ab ps):R:=pre K (l0 K x) x
def c:=Z1 169 (f K)
end Q183
namespace Q184
abbrev ps:Pz:=[.rd (.list false 91 t12),.rd I6,.fn [t12,I6] I6]
abbrev rs:Rq:=[.v I6,.v .bool]
abbrev R:=Rr rs ps
abbrev A0:=Int×Int
def s0 (K:Nat)(x:ab ps)(r0:A0->R)(a:A0):R:=bif decide (a.1<a.2) then (let j1:=FM (wr .u64 (wr .i64 (a.1+a.2))) (2 ^ 1);(idx x.1 (wr .i64 j1)).bind λy1=>(x.2.2.1 (y1,x.2.1,())).bind λy2=>bif decide (y2<0) then (r0 (wr .i64 ((wr .i64 j1)+1),a.2)) else (r0 (a.1,wr .i64 j1))) else (bif decide (a.1<(FJ x.1:Int)) then ((idx x.1 a.1).bind λy3=>(x.2.2.1 (y3,x.2.1,())).bind λy4=>some ((a.1,y4==0,()),())) else (some ((a.1,false,()),())))
def l0 (x:ab ps):A0->R:=ae (s0 K x) K
def pre (K:Nat)(N0:A0->R)(x:ab ps):R:=N0 (0,(FJ x.1:Int))
def f (x:ab ps):R:=pre K (l0 K x) x
def c:=Z1 170 (f K)
end Q184
namespace Q185
abbrev ps:Pz:=[.rd t12,.rd I6]
abbrev rs:Rq:=[.v I6]
abbrev R:=Rr rs ps
def f (K:Nat)(x:ab ps):R:=some ((wr .i64 (x.1.1-x.2.1),()),())
def c:=Z1 171 (f K)
end Q185
namespace Q186
abbrev ps:Pz:=[.rd (.list false 46 t2),.rd (.list false 46 t2)]
abbrev rs:Rq:=[.v .bool]
abbrev R:=Rr rs ps
abbrev A0:=Int
def s0 (K:Nat)(x:ab ps)(r0:A0->R)(a:A0):R:=bif decide (a<(FJ x.1:Int)) then ((idx x.1 a).bind λy1=>(idx x.2.1 a).bind λy2=>bif !Ty.eqv t2 y1 y2 then (some ((false,()),())) else (r0 (wr .i64 (a+1)))) else (some ((true,()),()))
def l0 (x:ab ps):A0->R:=ae (s0 K x) K
def pre (K:Nat)(N0:A0->R)(x:ab ps):R:=bif (FJ x.1:Int) != (FJ x.2.1:Int) then (some ((false,()),())) else (N0 0)
def f (x:ab ps):R:=pre K (l0 K x) x
def c:=Z1 173 (f K)
end Q186
namespace Q187
abbrev ps:Pz:=[.rref t26,.rd I6,.rd I6]
abbrev rs:Rq:=[.v t63]
abbrev R:=Rr rs ps
def f (K:Nat)(x:ab ps):R:=some (((1,x.2.1,x.1.1,x.2.2.1,0,x.1.1,x.1.2.2.2.2.2.2.2.2.2.2.2.2.1,[]),()),())
def c:=Z1 174 (f K)
end Q187
namespace Q188
abbrev ps:Pz:=[.iop t95,.rd t47]
abbrev rs:Rq:=[.v (.list true 35 t63)]
abbrev R:=Rr rs ps
def f (x:ab ps):R:=let b3:=x.1.2.2.2.2.2.2.2.2;let b2:=x.2.1.2.2.2.2.2.2.2;let b1:=b3.2.2.2.2;(idx b2 0).bind λy1=>(Q143.f K (y1.1,())).bind λy2=>(Q146.f K (x.1,())).bind λy3=>bif y2.1.1==y3.1.1 then ((Q182.f K (x.1,b2,x.1.1,())).bind λy4=>some (([],()),y4.2.1,())) else ((Q183.f K (x.1,y2.1.1,())).bind λy5=>(Q172.f K (y5.1.1,b2,())).bind λy6=>(Q184.f K (b1.2.2,y2.1.1,λy7=>(Q185.f K (y7.1,y7.2.1,())).map λy=>y.1.1,())).bind λy8=>let j3:=(y6.1.1,b2,());bif y8.1.2.1 then ((idx b1.2.2 y8.1.1).bind λ_=>(idx b1.2.2 (FK y8.1.1:Nat)).bind λy10=>let j1:=(zcp8 x.1 (zcp4 b3 (b1.1,b1.2.1,b1.2.2.set (FK y8.1.1) (y10.1,y6.1.1))));bif x.2.1.1==1 then (some (([],()),j1,())) else ((Q186.f K j3).bind λy11=>bif y11.1.1 then (some (([],()),j1,())) else ((Q187.f K (j1,6,x.2.1.2.2.1,())).bind λy12=>(Q1.f K (y6.1.1,())).bind λy13=>some (([(2,(zcp4 y12.1.1.2 (y12.1.1.2.2.2.2.2.1,y12.1.1.2.2.2.2.2.2.1,y13.1.1)))],()),j1,())))) else ((Q8.f K (b1.2.2,y8.1.1,[(y2.1.1,y6.1.1)],())).bind λy14=>let j2:=(zcp8 x.1 (zcp4 b3 (b1.1,b1.2.1,y14.1.1)));bif x.2.1.1==1 then (some (([],()),j2,())) else ((Q186.f K j3).bind λy15=>bif y15.1.1 then (some (([],()),j2,())) else ((Q187.f K (j2,6,x.2.1.2.2.1,())).bind λy16=>(Q1.f K (y6.1.1,())).bind λy17=>some (([(2,(zcp4 y16.1.1.2 (y16.1.1.2.2.2.2.2.1,y16.1.1.2.2.2.2.2.2.1,y17.1.1)))],()),j2,())))))
def c:=Z0 108 (f K)
end Q188
namespace Q189
abbrev ps:Pz:=[.rd I6,.rd I6,.rd I6]
abbrev rs:Rq:=[.v I6]
abbrev R:=Rr rs ps
def f (K:Nat)(x:ab ps):R:=some ((bif decide (x.2.1<(bif decide (x.2.2.1<x.1) then x.2.2.1 else x.1)) then bif decide (x.2.2.1<x.1) then x.2.2.1 else x.1 else x.2.1,()),())
def c:=Z1 247 (f K)
end Q189
namespace Q190
abbrev ps:Pz:=[.rd (.list false 3 I6),.rd I6]
abbrev rs:Rq:=[.v (.list true 3 I6)]
abbrev R:=Rr rs ps
def f (x:ab ps):R:=(Q189.f K (x.2.1,0,(FJ x.1:Int),())).bind λy1=>bif decide (0<=0)&&decide (0<=y1.1.1)&&decide (y1.1.1<=(FJ x.1:Int))&&true then ((Q9.f K ((x.1.take (FK y1.1.1)).drop (FK 0),())).bind λy2=>some ((y2.1.1,()),())) else none
def c:=Z1 200 (f K)
end Q190
namespace Q191
abbrev ps:Pz:=[.io (.list true 3 I6),.rd I6,.rd I6,.fn [I6,I6] I6]
abbrev rs:Rq:=[]
abbrev R:=Rr rs ps
abbrev A1:=List (Ty.den I6)×Int×Int
abbrev A0:=List (Ty.den I6)×Int
def s1 (K:Nat)(x:ab ps)(r0:A0->R)(r1:A1->R)(a:A1):R:=bif decide (a.2.2>x.2.1) then ((idx a.1 a.2.2).bind λ_=>(idx a.1 (FK a.2.2:Nat)).bind λy2=>(idx a.1 (wr .i64 (a.2.2-1))).bind λ_=>let j1:=(FK (wr .i64 (a.2.2-1)):Nat);(idx a.1 j1).bind λy4=>(x.2.2.2.1 (y2,y4,())).bind λy5=>bif decide (y5<0) then ((idx a.1 (wr .i64 (a.2.2-1))).bind λ_=>(idx a.1 j1).bind λy7=>(idx a.1 a.2.2).bind λ_=>(idx a.1 (FK a.2.2:Nat)).bind λy9=>(idx a.1 a.2.2).bind λ_=>(idx a.1 (FK a.2.2:Nat)).bind λy11=>let j2:=a.1.set (FK a.2.2) y7;(idx j2 (wr .i64 (a.2.2-1))).bind λ_=>(idx j2 j1).bind λy13=>r1 (j2.set (FK (wr .i64 (a.2.2-1))) y9,a.2.1,wr .i64 (a.2.2-1))) else (r0 (a.1,wr .i64 (a.2.1+1)))) else (r0 (a.1,wr .i64 (a.2.1+1)))
def l1 (x:ab ps)(r0:A0->R):A1->R:=ae (s1 K x r0) K
def s0 (K:Nat)(x:ab ps)(N1:A1->R)(r0:A0->R)(a:A0):R:=bif decide (a.2<x.2.2.1) then (N1 (a.1,a.2,a.2)) else (some ((),a.1,()))
def l0 (x:ab ps):A0->R:=ae (λr0 a=>s0 K x (l1 K x r0) r0 a) K
def pre (K:Nat)(N0:A0->R)(x:ab ps):R:=N0 (x.1,wr .i64 (x.2.1+1))
def f (x:ab ps):R:=pre K (l0 K x) x
def c:=Z1 330 (f K)
def G (K:Nat):List Ctr:=[]
def v1:List (Nat×List Coe):=[(0,[.own false 3 I6]),(1,[.keep]),(2,[.keep]),(3,[.keep]),(8,[.keep]),(9,[.keep])]
def v0:List (Nat×List Coe):=[(0,[.own false 3 I6]),(1,[.keep]),(2,[.keep]),(3,[.keep]),(8,[.keep])]
def L:List (Nat×List (Nat×List Coe)):=[(5,v1),(2,v0)]
def body:Code:=cY Tryz.f330
abbrev ev:Code->St->(Ex->St->R)->R:=evK (G K) T_S L K
abbrev fin:Ex->St->R:=du T_S ps rs true Tryz.f330.results.toList
def S0 (x:ab ps)(a:A0):St:=av [(0,⟨0,.one,[.own false none 3 I6 a.1]⟩),(1,⟨0,.one,[.int .i64 x.2.1]⟩),(2,⟨0,.one,[.int .i64 x.2.2.1]⟩),(3,⟨0,.one,[.fn [I6,I6] I6 x.2.2.2.1]⟩),(8,⟨0,.one,[.int .i64 a.2]⟩)]
def S1 (x:ab ps)(a:A1):St:=av [(0,⟨0,.one,[.own false none 3 I6 a.1]⟩),(1,⟨0,.one,[.int .i64 x.2.1]⟩),(2,⟨0,.one,[.int .i64 x.2.2.1]⟩),(3,⟨0,.one,[.fn [I6,I6] I6 x.2.2.2.1]⟩),(8,⟨0,.one,[.int .i64 a.2.1]⟩),(9,⟨0,.one,[.int .i64 a.2.2]⟩)]
def k0 (x:ab ps):Ex->St->R:=kAt (ev K) body [1,0] fin
def N0 (x:ab ps):A0->R:=λa=>aY v0 (ev K (sub body [1,0,0])) K (S0 x a) (k0 K x)
def k1 (x:ab ps)(q0:St->R):Ex->St->R:=kAt (ev K) (sub body [1,0,0]) [1,0,0,1,0] (iq v0 q0 (k0 K x))
def N1 (x:ab ps)(q0:St->R):A1->R:=λa=>aY v1 (ev K (sub body [1,0,0,1,0,0,1,0,0])) K (S1 x a) (k1 K x q0)
end Q191
namespace Q192
abbrev ps:Pz:=[.io (.list true 3 I6),.rd I6,.fn [I6,I6] I6]
abbrev rs:Rq:=[]
abbrev Res:=ai rs×ag ps
abbrev R:=Option Res
abbrev A2:=List (Ty.den I6)×Int×Int
abbrev A1:=List (Ty.den I6)×Int
abbrev A0:=List (Ty.den I6)×Int×Int
def s2 (K:Nat)(x:ab ps)(r1:A1->R)(r2:A2->R)(a:A2):R:=bif decide (a.2.2<=x.2.1) then none else (bif decide ((wr .i64 (0+a.2.1))<x.2.1) then none else (r1 (a.1,wr .i64 (a.2.1*2))))
def l2 (x:ab ps)(r1:A1->R):A2->R:=ae (s2 K x r1) K
def s1 (K:Nat)(x:ab ps)(N2:A2->R)(r1:A1->R)(a:A1):R:=bif decide (a.2<x.2.1) then (N2 (a.1,a.2,wr .i64 (2*a.2))) else (some ((),a.1,()))
def l1 (x:ab ps):A1->R:=ae (λr1 a=>s1 K x (l2 K x r1) r1 a) K
def s0 (x:ab ps)(N1:A1->R)(r0:A0->R)(a:A0):R:=bif decide (a.2.2<=x.2.1) then ((Q191.f K (a.1,a.2.1,a.2.2,x.2.2.1,())).bind λy1=>r0 (y1.2.1,a.2.2,wr .i64 (a.2.2+20))) else ((Q191.f K (a.1,a.2.1,x.2.1,x.2.2.1,())).bind λy2=>N1 (y2.2.1,20))
def l0 (x:ab ps):A0->R:=ae (s0 K x (l1 K x)) K
def pre (K:Nat)(N0:A0->R)(x:ab ps):R:=N0 (x.1,0,20)
def f (x:ab ps):R:=pre K (l0 K x) x
def c:=Z1 318 (f K)
def G:List Ctr:=[Q191.c K]
def v2:List (Nat×List Coe):=[(0,[.own false 3 I6]),(1,[.keep]),(2,[.keep]),(6,[.keep]),(7,[.keep]),(8,[.keep])]
def v1:List (Nat×List Coe):=[(0,[.own false 3 I6]),(1,[.keep]),(2,[.keep]),(6,[.keep])]
def v0:List (Nat×List Coe):=[(0,[.own false 3 I6]),(1,[.keep]),(2,[.keep]),(6,[.keep]),(7,[.keep]),(8,[.keep])]
def L:List (Nat×List (Nat×List Coe)):=[(10,v2),(8,v1),(3,v0)]
def body:Code:=cY Tryz.f318
abbrev ev:Code->St->(Ex->St->R)->R:=evK (G K) T_S L K
abbrev fin:Ex->St->R:=du T_S ps rs true Tryz.f318.results.toList
def S0 (x:ab ps)(a:A0):St:=av [(0,⟨0,.one,[.own false none 3 I6 a.1]⟩),(1,⟨0,.one,[.int .i64 x.2.1]⟩),(2,⟨0,.one,[.fn [I6,I6] I6 x.2.2.1]⟩),(6,⟨0,.one,[.int .i64 20]⟩),(7,⟨0,.one,[.int .i64 a.2.1]⟩),(8,⟨0,.one,[.int .i64 a.2.2]⟩)]
def S1 (x:ab ps)(a:A1):St:=av [(0,⟨0,.one,[.own false none 3 I6 a.1]⟩),(1,⟨0,.one,[.int .i64 x.2.1]⟩),(2,⟨0,.one,[.fn [I6,I6] I6 x.2.2.1]⟩),(6,⟨0,.one,[.int .i64 a.2]⟩)]
def S2 (x:ab ps)(a:A2):St:=av [(0,⟨0,.one,[.own false none 3 I6 a.1]⟩),(1,⟨0,.one,[.int .i64 x.2.1]⟩),(2,⟨0,.one,[.fn [I6,I6] I6 x.2.2.1]⟩),(6,⟨0,.one,[.int .i64 a.2.1]⟩),(7,⟨0,.one,[.int .i64 0]⟩),(8,⟨0,.one,[.int .i64 a.2.2]⟩)]
def k0 (x:ab ps):Ex->St->R:=kAt (ev K) body [1,1,0,0] fin
def N0 (x:ab ps):A0->R:=λa=>aY v0 (ev K (sub body [1,1,0,0,0])) K (S0 x a) (k0 K x)
def k1 (x:ab ps):Ex->St->R:=kAt (ev K) body [1,1,1,1,0] fin
def N1 (x:ab ps):A1->R:=λa=>aY v1 (ev K (sub body [1,1,1,1,0,0])) K (S1 x a) (k1 K x)
def k2 (x:ab ps)(q1:St->R):Ex->St->R:=kAt (ev K) (sub body [1,1,1,1,0,0]) [1,0,1,0,0] (iq v1 q1 (k1 K x))
def N2 (x:ab ps)(q1:St->R):A2->R:=λa=>aY v2 (ev K (sub body [1,1,1,1,0,0,1,0,1,0,0,0])) K (S2 x a) (k2 K x q1)
end Q192
namespace Q193
abbrev ps:Pz:=[.io (.list true 3 I6),.fn [I6,I6] I6]
abbrev rs:Rq:=[]
abbrev R:=Rr rs ps
def f (x:ab ps):R:=(Q192.f K (x.1,(FJ x.1:Int),x.2.1,())).bind λy1=>some ((),y1.2.1,())
def c:=Z1 285 (f K)
end Q193
namespace Q194
abbrev ps:Pz:=[.rd I6,.rd I6,.rref (.list false 133 t3)]
abbrev rs:Rq:=[.v I6]
abbrev R:=Rr rs ps
def f (K:Nat)(x:ab ps):R:=(idx x.2.2.1 x.2.1).bind λy1=>(idx x.2.2.1 x.1).bind λy2=>some ((wr .i64 (y1.2-y2.2),()),())
def c:=Z1 286 (f K)
end Q194
namespace Q195
abbrev ps:Pz:=[.rd (.int .u64)]
abbrev rs:Rq:=[.v I6]
abbrev R:=Rr rs ps
def f (K:Nat)(x:ab ps):R:=let j1:=ByteArray.mk #[0,1,2,2,3,3,3,3,4,4,4,4,4,4,4,4,5,5,5,5,5,5,5,5,5,5,5,5,5,5,5,5,6,6,6,6,6,6,6,6,6,6,6,6,6,6,6,6,6,6,6,6,6,6,6,6,6,6,6,6,6,6,6,6,7,7,7,7,7,7,7,7,7,7,7,7,7,7,7,7,7,7,7,7,7,7,7,7,7,7,7,7,7,7,7,7,7,7,7,7,7,7,7,7,7,7,7,7,7,7,7,7,7,7,7,7,7,7,7,7,7,7,7,7,7,7,7,7,8,8,8,8,8,8,8,8,8,8,8,8,8,8,8,8,8,8,8,8,8,8,8,8,8,8,8,8,8,8,8,8,8,8,8,8,8,8,8,8,8,8,8,8,8,8,8,8,8,8,8,8,8,8,8,8,8,8,8,8,8,8,8,8,8,8,8,8,8,8,8,8,8,8,8,8,8,8,8,8,8,8,8,8,8,8,8,8,8,8,8,8,8,8,8,8,8,8,8,8,8,8,8,8,8,8,8,8,8,8,8,8,8,8,8,8,8,8,8,8,8,8,8,8,8,8,8,8];bif decide (x.1>=4294967296) then (bif decide ((FM x.1 (2 ^ 32))>=65536) then (let j2:=FM (FM x.1 (2 ^ 32)) (2 ^ 16);bif decide (j2>=256) then ((idx j1.data.toList (wr .u8 (FM j2 (2 ^ 8)))).bind λy1=>some ((wr .i64 ((wr .i64 ((wr .i64 (32+16))+8))+(wr .i64 (y1.toNat:Int))),()),())) else ((idx j1.data.toList (wr .u8 j2)).bind λy2=>some ((wr .i64 ((wr .i64 (32+16))+(wr .i64 (y2.toNat:Int))),()),()))) else (bif decide ((FM x.1 (2 ^ 32))>=256) then ((idx j1.data.toList (wr .u8 (FM (FM x.1 (2 ^ 32)) (2 ^ 8)))).bind λy3=>some ((wr .i64 ((wr .i64 (32+8))+(wr .i64 (y3.toNat:Int))),()),())) else ((idx j1.data.toList (wr .u8 (FM x.1 (2 ^ 32)))).bind λy4=>some ((wr .i64 (32+(wr .i64 (y4.toNat:Int))),()),())))) else (bif decide (x.1>=65536) then (bif decide ((FM x.1 (2 ^ 16))>=256) then ((idx j1.data.toList (wr .u8 (FM (FM x.1 (2 ^ 16)) (2 ^ 8)))).bind λy5=>some ((wr .i64 ((wr .i64 ((wr .i64 (0+16))+8))+(wr .i64 (y5.toNat:Int))),()),())) else ((idx j1.data.toList (wr .u8 (FM x.1 (2 ^ 16)))).bind λy6=>some ((wr .i64 ((wr .i64 (0+16))+(wr .i64 (y6.toNat:Int))),()),()))) else (bif decide (x.1>=256) then ((idx j1.data.toList (wr .u8 (FM x.1 (2 ^ 8)))).bind λy7=>some ((wr .i64 ((wr .i64 (0+8))+(wr .i64 (y7.toNat:Int))),()),())) else ((idx j1.data.toList (wr .u8 x.1)).bind λy8=>some ((wr .i64 (0+(wr .i64 (y8.toNat:Int))),()),()))))
def c:=Z1 266 (f K)
end Q195
namespace Q196
abbrev ps:Pz:=[.rd (.int .u64)]
abbrev rs:Rq:=[.v I6]
abbrev R:=Rr rs ps
def f (x:ab ps):R:=(Q195.f K (x.1,())).bind λy1=>some ((y1.1.1,()),())
def c:=Z1 196 (f K)
end Q196
namespace Q197
abbrev ps:Pz:=[.io (.list true 3 I6),.rd I6,.rd I6]
abbrev rs:Rq:=[]
abbrev R:=Rr rs ps
abbrev A1:=List (Ty.den I6)×Int×Int
abbrev A0:=List (Ty.den I6)×Int
def s1 (x:ab ps)(r0:A0->R)(r1:A1->R)(a:A1):R:=bif decide (a.2.2>x.2.1) then ((idx a.1 a.2.2).bind λ_=>(idx a.1 (FK a.2.2:Nat)).bind λy2=>(idx a.1 (wr .i64 (a.2.2-1))).bind λ_=>let j1:=(FK (wr .i64 (a.2.2-1)):Nat);(idx a.1 j1).bind λy4=>(Q179.f K (y2,y4,())).bind λy5=>bif y5.1.1 then ((idx a.1 (wr .i64 (a.2.2-1))).bind λ_=>(idx a.1 j1).bind λy7=>(idx a.1 a.2.2).bind λ_=>(idx a.1 (FK a.2.2:Nat)).bind λy9=>(idx a.1 a.2.2).bind λ_=>(idx a.1 (FK a.2.2:Nat)).bind λy11=>let j2:=a.1.set (FK a.2.2) y7;(idx j2 (wr .i64 (a.2.2-1))).bind λ_=>(idx j2 j1).bind λy13=>r1 (j2.set (FK (wr .i64 (a.2.2-1))) y9,a.2.1,wr .i64 (a.2.2-1))) else (r0 (a.1,wr .i64 (a.2.1+1)))) else (r0 (a.1,wr .i64 (a.2.1+1)))
def l1 (x:ab ps)(r0:A0->R):A1->R:=ae (s1 K x r0) K
def s0 (K:Nat)(x:ab ps)(N1:A1->R)(r0:A0->R)(a:A0):R:=bif decide (a.2<x.2.2.1) then (N1 (a.1,a.2,a.2)) else (some ((),a.1,()))
def l0 (x:ab ps):A0->R:=ae (λr0 a=>s0 K x (l1 K x r0) r0 a) K
def pre (K:Nat)(N0:A0->R)(x:ab ps):R:=N0 (x.1,wr .i64 (x.2.1+1))
def f (x:ab ps):R:=pre K (l0 K x) x
def c:=Z1 332 (f K)
def G:List Ctr:=[Q179.c K]
def v1:List (Nat×List Coe):=[(0,[.own false 3 I6]),(1,[.keep]),(2,[.keep]),(6,[.keep]),(7,[.keep])]
def v0:List (Nat×List Coe):=[(0,[.own false 3 I6]),(1,[.keep]),(2,[.keep]),(6,[.keep])]
def L:List (Nat×List (Nat×List Coe)):=[(5,v1),(2,v0)]
def body:Code:=cY Tryz.f332
abbrev ev:Code->St->(Ex->St->R)->R:=evK (G K) T_S L K
abbrev fin:Ex->St->R:=du T_S ps rs true Tryz.f332.results.toList
def S0 (x:ab ps)(a:A0):St:=av [(0,⟨0,.one,[.own false none 3 I6 a.1]⟩),(1,⟨0,.one,[.int .i64 x.2.1]⟩),(2,⟨0,.one,[.int .i64 x.2.2.1]⟩),(6,⟨0,.one,[.int .i64 a.2]⟩)]
def S1 (x:ab ps)(a:A1):St:=av [(0,⟨0,.one,[.own false none 3 I6 a.1]⟩),(1,⟨0,.one,[.int .i64 x.2.1]⟩),(2,⟨0,.one,[.int .i64 x.2.2.1]⟩),(6,⟨0,.one,[.int .i64 a.2.1]⟩),(7,⟨0,.one,[.int .i64 a.2.2]⟩)]
def k0 (x:ab ps):Ex->St->R:=kAt (ev K) body [1,0] fin
def N0 (x:ab ps):A0->R:=λa=>aY v0 (ev K (sub body [1,0,0])) K (S0 x a) (k0 K x)
def k1 (x:ab ps)(q0:St->R):Ex->St->R:=kAt (ev K) (sub body [1,0,0]) [1,0,0,1,0] (iq v0 q0 (k0 K x))
def N1 (x:ab ps)(q0:St->R):A1->R:=λa=>aY v1 (ev K (sub body [1,0,0,1,0,0,1,0,0])) K (S1 x a) (k1 K x q0)
end Q197
namespace Q198
abbrev ps:Pz:=[.rd (.list false 3 I6),.rd I6,.rd I6,.iop I6]
abbrev rs:Rq:=[.v I6,.v I6]
abbrev R:=Rr rs ps
def f (x:ab ps):R:=(idx x.1 x.2.2.1).bind λy1=>(idx x.1 x.2.1).bind λy2=>(Q179.f K (y1,y2,())).bind λy3=>bif y3.1.1 then (some ((x.2.2.1,x.2.1,()),wr .i64 (x.2.2.2.1+1),())) else (some ((x.2.1,x.2.2.1,()),x.2.2.2.1,()))
def c:=Z1 346 (f K)
end Q198
namespace Q199
abbrev ps:Pz:=[.rd (.list false 3 I6),.rd I6,.rd I6,.rd I6,.iop I6]
abbrev rs:Rq:=[.v I6]
abbrev R:=Rr rs ps
def f (x:ab ps):R:=(Q198.f K (x.1,x.2.1,x.2.2.1,x.2.2.2.2.1,())).bind λy1=>(Q198.f K (x.1,y1.1.2.1,x.2.2.2.1,y1.2.1,())).bind λy2=>(Q198.f K (x.1,y1.1.1,y2.1.1,y2.2.1,())).bind λy3=>some ((y3.1.2.1,()),y3.2.1,())
def c:=Z1 344 (f K)
end Q199
namespace Q200
abbrev ps:Pz:=[.rd (.list false 3 I6),.rd I6,.iop I6]
abbrev rs:Rq:=[.v I6]
abbrev R:=Rr rs ps
def f (x:ab ps):R:=(Q199.f K (x.1,wr .i64 (x.2.1-1),x.2.1,wr .i64 (x.2.1+1),x.2.2.1,())).bind λy1=>some ((y1.1.1,()),y1.2.1,())
def c:=Z1 343 (f K)
end Q200
namespace Q201
abbrev ps:Pz:=[.rd (.list false 3 I6),.rd I6,.rd I6]
abbrev rs:Rq:=[.v I6,.v I6]
abbrev R:=Rr rs ps
def f (x:ab ps):R:=let j3:=wr .i64 (x.2.2.1-x.2.1);let j1:=wr .i64 (FL j3 4);let j2:=x.2.1+(wr .i64 (j1*2));bif decide (j3>=8) then (let j4:=x.2.1+(wr .i64 (j1*1));let j5:=x.2.1+(wr .i64 (j1*3));bif decide (j3>=50) then ((Q200.f K (x.1,wr .i64 j4,0,())).bind λy1=>(Q200.f K (x.1,wr .i64 j2,y1.2.1,())).bind λy2=>(Q200.f K (x.1,wr .i64 j5,y2.2.1,())).bind λy3=>(Q199.f K (x.1,y1.1.1,y2.1.1,y3.1.1,y3.2.1,())).bind λy4=>bif y4.2.1==0 then (some ((y4.1.1,1,()),())) else (bif y4.2.1==12 then (some ((y4.1.1,2,()),())) else (some ((y4.1.1,0,()),())))) else ((Q199.f K (x.1,wr .i64 j4,wr .i64 j2,wr .i64 j5,0,())).bind λy5=>bif y5.2.1==0 then (some ((y5.1.1,1,()),())) else (bif y5.2.1==12 then (some ((y5.1.1,2,()),())) else (some ((y5.1.1,0,()),()))))) else (some ((wr .i64 j2,1,()),()))
def c:=Z1 335 (f K)
end Q201
namespace Q202
abbrev ps:Pz:=[.io (.list true 3 I6),.rd I6,.rd I6,.rd I6]
abbrev rs:Rq:=[]
abbrev Res:=ai rs×ag ps
abbrev R:=Option Res
abbrev A0:=Unit
def s0 (x:ab ps)(r0:A0->R)(a:A0):R:=bif decide ((wr .i64 (x.2.2.1-x.2.1))<=12) then ((Q197.f K (x.1,x.2.1,x.2.2.1,())).bind λy1=>some ((),y1.2.1,())) else (bif x.2.2.2.1==0 then none else ((Q201.f K (x.1,x.2.1,x.2.2.1,())).bind λy2=>bif y2.1.2.1==2 then none else (bif y2.1.2.1==1 then none else (bif decide (x.2.1>0) then ((idx x.1 (wr .i64 (x.2.1-1))).bind λ_=>(idx x.1 (FK (wr .i64 (x.2.1-1)):Nat)).bind λy4=>(idx x.1 y2.1.1).bind λ_=>(idx x.1 (FK y2.1.1:Nat)).bind λy6=>(Q179.f K (y4,y6,())).bind λy7=>bif !y7.1.1 then none else none) else none))))
def l0 (x:ab ps):A0->R:=ae (s0 K x) K
def pre (K:Nat)(N0:A0->R)(x:ab ps):R:=N0 ()
def f (x:ab ps):R:=pre K (l0 K x) x
def c:=Z1 319 (f K)
end Q202
namespace Q203
abbrev ps:Pz:=[.io (.list true 3 I6)]
abbrev rs:Rq:=[]
abbrev Res:=ai rs×ag ps
abbrev R:=Option Res
def f (x:ab ps):R:=(Q196.f K (wr .u64 (FJ x.1:Int),())).bind λy1=>(Q202.f K (x.1,0,(FJ x.1:Int),y1.1.1,())).bind λy2=>some ((),y2.2.1,())
def c:=Z1 287 (f K)
end Q203
namespace Q204
abbrev ps:Pz:=[.rd t3]
abbrev rs:Rq:=[.v .bool]
abbrev R:=Rr rs ps
def f (K:Nat)(x:ab ps):R:=some ((x.1.2==0,()),())
def c:=Z1 289 (f K)
end Q204
namespace Q205
abbrev ps:Pz:=[.rd (.list false 133 t3),.rd I6]
abbrev rs:Rq:=[.v (.list true 46 t2),.v (.list true 133 t3)]
abbrev R:=Rr rs ps
abbrev A1:=List (Ty.den t3)×List (Ty.den I6)×List (Ty.den t2)×Int×Int
abbrev A0:=List (Ty.den I6)×Int
def s1 (x:ab ps)(r1:A1->R)(a:A1):R:=bif decide (a.2.2.2.2<a.2.2.2.1) then ((idx a.2.1 a.2.2.2.2).bind λ_=>(idx a.2.1 (FK a.2.2.2.2:Nat)).bind λy10=>(idx a.1 y10).bind λ_=>(idx a.1 (FK y10:Nat)).bind λy12=>bif decide ((FJ a.2.2.1+FJ ([y12.1]))*32<=am) then ((idx a.1 y10).bind λ_=>(idx a.1 (FK y10:Nat)).bind λy14=>(idx a.1 y10).bind λ_=>(idx a.1 (FK y10:Nat)).bind λy16=>r1 (a.1.set (FK y10) (y16.1,wr .i64 (y14.2-1)),a.2.1,a.2.2.1++([y12.1]),a.2.2.2.1,wr .i64 (a.2.2.2.2+1))) else none) else ((Q10.f K (a.1,λy17=>(Q204.f K (y17.1,())).map λy=>y.1.1,())).bind λy18=>some ((a.2.2.1,y18.1.1,()),()))
def l1 (x:ab ps):A1->R:=ae (s1 K x) K
def s0 (x:ab ps)(N1:A1->R)(r0:A0->R)(a:A0):R:=bif decide (a.2<(FJ (FN (FK (FJ x.1:Int)) (0:Ty.den I6)):Int)) then ((idx a.1 a.2).bind λ_=>(idx a.1 (FK a.2:Nat)).bind λy3=>r0 (a.1.set (FK a.2) a.2,wr .i64 (a.2+1))) else ((Q193.f K (a.1,λy4=>(Q194.f K (y4.1,y4.2.1,x.1,())).map λy=>y.1.1,())).bind λy5=>(Q3.f K (x.1,())).bind λy6=>(Q190.f K (y5.2.1,x.2.1,())).bind λy7=>(Q203.f K (y7.1.1,())).bind λy8=>N1 (y6.1.1,y8.2.1,[],(FJ y8.2.1:Int),0))
def l0 (x:ab ps):A0->R:=ae (s0 K x (l1 K x)) K
def pre (N0:A0->R)(x:ab ps):R:=(Q151.f K (x.1,())).bind λy1=>bif !y1.1.1 then (some (([],[],()),())) else (bif decide (0<=(FJ x.1:Int))&&decide ((FJ x.1:Int)=(FJ x.1:Int))&&decide ((FJ x.1:Int)*(8:Nat)<=am) then (N0 (FN (FK (FJ x.1:Int)) (0:Ty.den I6),0)) else none)
def f (x:ab ps):R:=pre K (l0 K x) x
def c:=Z1 244 (f K)
def G:List Ctr:=[Q151.c K,Q3.c K,Q190.c K,Q193.c K,Q194.c K,Q203.c K,Q10.c K,Q204.c K]
def v1:List (Nat×List Coe):=[(8,[.own false 133 t3]),(9,[.own false 3 I6]),(10,[.own false 46 t2]),(39,[.keep]),(40,[.keep]),(41,[.keep])]
def v0:List (Nat×List Coe):=[(1,[.keep]),(2,[.keep]),(6,[.own false 3 I6]),(20,[.keep]),(21,[.keep]),(100002,[.ro true 133 t3])]
def L:List (Nat×List (Nat×List Coe)):=[(16,v1),(6,v0)]
def body:Code:=cY Tryz.f244
abbrev ev:Code->St->(Ex->St->R)->R:=evK (G K) T_NL L K
abbrev fin:Ex->St->R:=du T_NL ps rs true Tryz.f244.results.toList
def S0 (x:ab ps)(a:A0):St:=av [(1,⟨0,.one,[.int .i64 x.2.1]⟩),(2,⟨0,.one,[.bp 100002 0]⟩),(6,⟨0,.one,[.own false none 3 I6 a.1]⟩),(20,⟨0,.one,[.int .i64 (FJ (FN (FK (FJ x.1:Int)) (0:Ty.den I6)):Int)]⟩),(21,⟨0,.one,[.int .i64 a.2]⟩),(100002,⟨0,.agg,[.ro true 133 t3 x.1]⟩)]
def S1 (x:ab ps)(a:A1):St:=av [(8,⟨0,.one,[.own false none 133 t3 a.1]⟩),(9,⟨0,.one,[.own false none 3 I6 a.2.1]⟩),(10,⟨0,.one,[.own false none 46 t2 a.2.2.1]⟩),(39,⟨0,.one,[.al 9 0 0]⟩),(40,⟨0,.one,[.int .i64 a.2.2.2.1]⟩),(41,⟨0,.one,[.int .i64 a.2.2.2.2]⟩)]
def k0 (x:ab ps):Ex->St->R:=kAt (ev K) body [1,1,1,0,1,0] fin
def N0 (x:ab ps):A0->R:=λa=>aY v0 (ev K (sub body [1,1,1,0,1,0,0])) K (S0 x a) (k0 K x)
def k1 (x:ab ps):Ex->St->R:=kAt (ev K) body [1,1,1,1,1,1,1,1,1,0,1,0] fin
def N1 (x:ab ps):A1->R:=λa=>aY v1 (ev K (sub body [1,1,1,1,1,1,1,1,1,0,1,0,0])) K (S1 x a) (k1 K x)
end Q205
namespace Q206
abbrev ps:Pz:=[.iop t95,.rd I6]
abbrev rs:Rq:=[.v (.list true 46 t2)]
abbrev R:=Rr rs ps
def f (x:ab ps):R:=let b1:=x.1.2.2.2.2.2.2.2.2;(Q205.f K (b1.2.1,3,())).bind λy1=>(Q140.f K (b1.1,x.2.1,())).bind λy2=>let j1:=(zcp8 x.1 (b1.1,y1.1.2.1,b1.2.2));bif y2.1.1.2.2.1==2 then ((Q171.f K (y1.1.1,y2.1.1,())).bind λy3=>some ((y3.1.1,()),j1,())) else (some ((y1.1.1,()),j1,()))
def c:=Z0 177 (f K)
end Q206
namespace Q207
abbrev ps:Pz:=[.iop t95,.rd I6,.rd t47]
abbrev rs:Rq:=[.v t63]
abbrev R:=Rr rs ps
def f (x:ab ps):R:=let b1:=x.2.2.1.2.2.2.2;(Q206.f K (x.1,b1.2.1,())).bind λy1=>(Q187.f K (y1.2.1,x.2.1,b1.2.1,())).bind λy2=>some (((zcp4 y2.1.1 (b1.1,y2.1.1.2.2.2.2.2.1,y2.1.1.2.2.2.2.2.2.1,y1.1.1)),()),y1.2.1,())
def c:=Z0 111 (f K)
end Q207
namespace Q208
abbrev ps:Pz:=[.rref t26,.rd I6,.rd I6]
abbrev rs:Rq:=[.v t63]
abbrev R:=Rr rs ps
def f (x:ab ps):R:=(Q187.f K (x.1,x.2.1,x.2.2.1,())).bind λy1=>(Q1.f K (x.1.2.2.2.2.2.2.2.2.1,())).bind λy2=>some (((zcp4 y1.1.1 (y1.1.1.2.2.2.2.1,y1.1.1.2.2.2.2.2.1,y1.1.1.2.2.2.2.2.2.1,y2.1.1)),()),())
def c:=Z1 112 (f K)
end Q208
namespace Q209
abbrev ps:Pz:=[.rd (.list false 89 t11),.rd I6,.fn [t11,I6] I6]
abbrev rs:Rq:=[.v I6,.v .bool]
abbrev R:=Rr rs ps
abbrev A0:=Int×Int
def s0 (K:Nat)(x:ab ps)(r0:A0->R)(a:A0):R:=bif decide (a.1<a.2) then (let j1:=FM (wr .u64 (wr .i64 (a.1+a.2))) (2 ^ 1);(idx x.1 (wr .i64 j1)).bind λy1=>(x.2.2.1 (y1,x.2.1,())).bind λy2=>bif decide (y2<0) then (r0 (wr .i64 ((wr .i64 j1)+1),a.2)) else (r0 (a.1,wr .i64 j1))) else (bif decide (a.1<(FJ x.1:Int)) then ((idx x.1 a.1).bind λy3=>(x.2.2.1 (y3,x.2.1,())).bind λy4=>some ((a.1,y4==0,()),())) else (some ((a.1,false,()),())))
def l0 (x:ab ps):A0->R:=ae (s0 K x) K
def pre (K:Nat)(N0:A0->R)(x:ab ps):R:=N0 (0,(FJ x.1:Int))
def f (x:ab ps):R:=pre K (l0 K x) x
def c:=Z1 178 (f K)
end Q209
namespace Q210
abbrev ps:Pz:=[.rd t11,.rd I6]
abbrev rs:Rq:=[.v I6]
abbrev R:=Rr rs ps
def f (K:Nat)(x:ab ps):R:=some ((wr .i64 (x.1.1-x.2.1),()),())
def c:=Z1 179 (f K)
end Q210
namespace Q211
abbrev ps:Pz:=[.rd I6]
abbrev rs:Rq:=[.v I6]
abbrev R:=Rr rs ps
def f (x:ab ps):R:=(Q189.f K (x.1,(-1000000000),1000000000,())).bind λy1=>some ((y1.1.1,()),())
def c:=Z1 212 (f K)
end Q211
namespace Q212
abbrev ps:Pz:=[.rd I6]
abbrev rs:Rq:=[.v I6]
abbrev R:=Rr rs ps
abbrev A0:=Int×Int
def s0 (K:Nat)(x:ab ps)(r0:A0->R)(a:A0):R:=bif decide ((wr .i64 (a.2-a.1))>1) then (let j1:=FL (wr .i64 (a.1+a.2)) 2;bif decide ((wr .i64 ((wr .i64 j1)*(wr .i64 j1)))<=x.1) then (r0 (wr .i64 j1,a.2)) else (r0 (a.1,wr .i64 j1))) else (some ((a.1,()),()))
def l0 (x:ab ps):A0->R:=ae (s0 K x) K
def pre (K:Nat)(N0:A0->R)(x:ab ps):R:=N0 (0,2147483648)
def f (x:ab ps):R:=pre K (l0 K x) x
def c:=Z1 213 (f K)
end Q212
namespace Q213
abbrev ps:Pz:=[.rd I6,.rd I6]
abbrev rs:Rq:=[.v I6]
abbrev R:=Rr rs ps
def f (x:ab ps):R:=(Q211.f K (x.1,())).bind λy1=>(Q211.f K (x.2.1,())).bind λy2=>(Q212.f K (wr .i64 ((wr .i64 (y1.1.1*y1.1.1))+(wr .i64 (y2.1.1*y2.1.1))),())).bind λy3=>(Q211.f K (y3.1.1,())).bind λy4=>some ((y4.1.1,()),())
def c:=Z1 144 (f K)
end Q213
namespace Q214
abbrev ps:Pz:=[.rd t9,.rd t9]
abbrev rs:Rq:=[.v I6]
abbrev R:=Rr rs ps
def f (x:ab ps):R:=(Q160.f K (x.1,())).bind λy1=>bif !y1.1.1 then (some ((0,()),())) else ((Q160.f K (x.2.1,())).bind λy2=>bif !y2.1.1 then (some ((0,()),())) else ((Q213.f K (wr .i64 (x.1.1-x.2.1.1),wr .i64 (x.1.2.1-x.2.1.2.1),())).bind λy3=>some ((wr .i64 ((wr .i64 (y3.1.1+x.1.2.2.1))+x.2.1.2.2.1),()),())))
def c:=Z1 92 (f K)
end Q214
namespace Q215
abbrev ps:Pz:=[.rd t9,.rd t9,.rd I6,.rd I6]
abbrev rs:Rq:=[.v t9]
abbrev R:=Rr rs ps
def f (x:ab ps):R:=let b2:=x.1.2.2;let b1:=x.2.2.1;(Q160.f K (x.1,())).bind λy1=>bif !y1.1.1 then (some (((0,0,0,0),()),())) else ((Q160.f K (x.2.1,())).bind λy2=>bif !y2.1.1 then (some ((x.1,()),())) else ((Q130.f K (b1,1,60000,())).bind λy3=>bif !y3.1.1 then (some ((x.1,()),())) else ((Q214.f K (x.1,x.2.1,())).bind λy4=>let j4:=b2.2+x.2.1.2.2.2;bif decide (wr .i64 j4=0) then none else ((Q213.f K (wr .i64 (x.1.1-x.2.1.1),wr .i64 (x.1.2.1-x.2.1.2.1),())).bind λy5=>let j5:=wr .i64 (b1-y4.1.1);let j1:=FL (wr .i64 (FL (wr .i64 (j5*b2.2)) (wr .i64 j4))) 4;let j2:=(wr .i64 (b2.2+(wr .i64 (FL (wr .i64 (FL (wr .i64 ((wr .i64 ((let j3:=FL (wr .i64 ((bif decide (j5<(wr .i64 (0-j5))) then wr .i64 (0-j5) else wr .i64 (b1-y4.1.1))*1000)) b1;bif decide (1500<(wr .i64 j3)) then 1500 else wr .i64 j3)-b2.2))*b2.2)) (wr .i64 j4))) 4))),1,1500,());let j7:=wr .i64 (x.1.2.1-x.2.1.2.1);let j8:=wr .i64 (x.1.1-x.2.1.1);bif decide (y5.1.1>0) then (bif decide (b1=0) then none else (bif decide (y5.1.1=0) then none else ((Q189.f K (wr .i64 (x.1.1+(wr .i64 (FL (wr .i64 ((bif decide ((wr .i64 j1)<(wr .i64 (0-y5.1.1))) then wr .i64 (0-y5.1.1) else wr .i64 j1)*j8)) y5.1.1))),(-100000),100000,())).bind λy6=>bif decide (y5.1.1=0) then none else ((Q189.f K (wr .i64 (x.1.2.1+(wr .i64 (FL (wr .i64 ((bif decide ((wr .i64 j1)<(wr .i64 (0-y5.1.1))) then wr .i64 (0-y5.1.1) else wr .i64 j1)*j7)) y5.1.1))),(-100000),100000,())).bind λy7=>(Q189.f K (wr .i64 (b2.1+(wr .i64 (FL (bif decide ((wr .i64 j1)<(wr .i64 (0-y5.1.1))) then wr .i64 (0-y5.1.1) else wr .i64 j1) 4))),0,100000,())).bind λy8=>bif decide (wr .i64 j4=0) then none else ((Q189.f K j2).bind λy9=>some (((y6.1.1,y7.1.1,y8.1.1,y9.1.1),()),())))))) else (let j6:=(wr .i64 (b2.1+(wr .i64 (FL (wr .i64 j1) 4))),0,100000,());bif decide ((wr .i64 j1)>=0) then ((idx [(1,0),(0,1),((-1),0),(0,(-1))] (bz .i64 x.2.2.2.1 3)).bind λy10=>bif decide (b1=0) then none else ((Q189.f K (wr .i64 (x.1.1+(wr .i64 (FL (wr .i64 ((wr .i64 j1)*y10.1)) 1))),(-100000),100000,())).bind λy11=>(Q189.f K (wr .i64 (x.1.2.1+(wr .i64 (FL (wr .i64 ((wr .i64 j1)*y10.2)) 1))),(-100000),100000,())).bind λy12=>(Q189.f K j6).bind λy13=>bif decide (wr .i64 j4=0) then none else ((Q189.f K j2).bind λy14=>some (((y11.1.1,y12.1.1,y13.1.1,y14.1.1),()),())))) else (bif decide (b1=0) then none else ((Q189.f K (wr .i64 (x.1.1+(wr .i64 (FL (wr .i64 ((wr .i64 j1)*j8)) 1))),(-100000),100000,())).bind λy15=>(Q189.f K (wr .i64 (x.1.2.1+(wr .i64 (FL (wr .i64 ((wr .i64 j1)*j7)) 1))),(-100000),100000,())).bind λy16=>(Q189.f K j6).bind λy17=>bif decide (wr .i64 j4=0) then none else ((Q189.f K j2).bind λy18=>some (((y15.1.1,y16.1.1,y17.1.1,y18.1.1),()),())))))))))
def c:=Z1 181 (f K)
end Q215
namespace Q216
abbrev ps:Pz:=[.rd (.list false 3 I6)]
abbrev rs:Rq:=[.v I6]
abbrev R:=Rr rs ps
def f (x:ab ps):R:=bif decide (FJ x.1<=3) then ((Q203.f K (x.1,())).map λy=>y.2.1).bind λys=>some ((ys.getD ((ys.length-1) / 2) 0,()),()) else none
def c:=Z1 182 (f K)
end Q216
namespace Q217
abbrev ps:Pz:=[.iop t95,.rd t47]
abbrev rs:Rq:=[]
abbrev R:=Rr rs ps
def f (x:ab ps):R:=let b3:=x.2.1.2.2.2.2;let b1:=x.1.2.2.2.2.2.2.2.2;let b2:=b1.2.2.2.2;(Q209.f K (b2.2.1,x.2.1.2.2.1,λy1=>(Q210.f K (y1.1,y1.2.1,())).map λy=>y.1.1,())).bind λy2=>let j7:=(wr .i64 ((wr .i64 (x.1.2.2.2.2.2.1-b1.2.2.1.2.1))*1000))+500;let j1:=[bif decide (60000<(wr .i64 j7)) then 60000 else wr .i64 j7];let j4:=(FK y2.1.1:Nat);bif !y2.1.2.1 then ((Q11.f K (b2.2.1,y2.1.1,[(x.2.1.2.2.1,(0,0,0,0),[])],())).bind λy3=>(idx y3.1.1 y2.1.1).bind λ_=>(idx y3.1.1 j4).bind λy5=>(idx y3.1.1 j4).bind λy6=>bif decide ((FJ y6.2.2+FJ j1)*8<=am) then (let j3:=(FJ (y6.2.2++j1):Int);bif decide (0<=(bif decide ((wr .i64 (j3-3))<0) then 0 else wr .i64 (j3-3)))&&decide ((bif decide ((wr .i64 (j3-3))<0) then 0 else wr .i64 (j3-3))<=j3)&&decide (j3<=j3)&&true then ((Q9.f K (((y6.2.2++j1).take (FK j3)).drop (FK (bif decide ((wr .i64 (j3-3))<0) then 0 else wr .i64 (j3-3))),())).bind λy7=>(idx y3.1.1 j4).bind λy8=>let j6:=(y3.1.1.set (FK y2.1.1) (y8.1,b3.2.2.1,y8.2.2));(idx j6 j4).bind λy9=>bif Nat.beq (FK y2.1.1) (FK y2.1.1) then ((idx (j6.set (FK y2.1.1) (y9.1,y9.2.1,y7.1.1)) j4).bind λy10=>(Q216.f K (y10.2.2,())).bind λy11=>(Q215.f K (b2.1,b3.2.2.1,y11.1.1,b3.1,())).bind λy12=>some ((),(zcp8 x.1 (b1.1,b1.2.1,((-1),0,0,false),b1.2.2.2.1,y12.1.1,j6.set (FK y2.1.1) (y9.1,y9.2.1,y7.1.1),b2.2.2)),())) else none) else none) else none) else ((idx b2.2.1 y2.1.1).bind λ_=>(idx b2.2.1 j4).bind λy14=>(idx b2.2.1 j4).bind λy15=>bif decide ((FJ y15.2.2+FJ j1)*8<=am) then (let j2:=(FJ (y15.2.2++j1):Int);bif decide (0<=(bif decide ((wr .i64 (j2-3))<0) then 0 else wr .i64 (j2-3)))&&decide ((bif decide ((wr .i64 (j2-3))<0) then 0 else wr .i64 (j2-3))<=j2)&&decide (j2<=j2)&&true then ((Q9.f K (((y15.2.2++j1).take (FK j2)).drop (FK (bif decide ((wr .i64 (j2-3))<0) then 0 else wr .i64 (j2-3))),())).bind λy16=>(idx b2.2.1 j4).bind λy17=>let j5:=(b2.2.1.set (FK y2.1.1) (y17.1,b3.2.2.1,y17.2.2));(idx j5 j4).bind λy18=>bif Nat.beq (FK y2.1.1) (FK y2.1.1) then ((idx (j5.set (FK y2.1.1) (y18.1,y18.2.1,y16.1.1)) j4).bind λy19=>(Q216.f K (y19.2.2,())).bind λy20=>(Q215.f K (b2.1,b3.2.2.1,y20.1.1,b3.1,())).bind λy21=>some ((),(zcp8 x.1 (b1.1,b1.2.1,((-1),0,0,false),b1.2.2.2.1,y21.1.1,j5.set (FK y2.1.1) (y18.1,y18.2.1,y16.1.1),b2.2.2)),())) else none) else none) else none)
def c:=Z0 113 (f K)
end Q217
namespace Q218
abbrev ps:Pz:=[.iop t95,.rd t47]
abbrev rs:Rq:=[.v (.list true 35 t63)]
abbrev R:=Rr rs ps
def f (x:ab ps):R:=let b1:=x.2.1.2;bif b1.1==6 then ((Q188.f K (x.1,x.2.1,())).bind λy1=>some ((y1.1.1,()),y1.2.1,())) else ((Q182.f K (x.1,b1.2.2.2.2.2.2,b1.2.1,())).bind λy2=>let b2:=y2.2.1.2.2.2.2.2.2.2.2.2.2.1;let j1:R:=some (([],()),y2.2.1,());let j2:=(y2.2.1,b1.2.2.2.2.1,());bif b1.1==1 then ((Q161.f K j2).bind λy3=>bif y3.1.1 then ((Q207.f K (y2.2.1,2,x.2.1,())).bind λy4=>some (([y4.1.1],()),y4.2.1,())) else j1) else (bif b1.1==3 then ((Q161.f K j2).bind λy5=>bif y5.1.1 then (bif b1.2.2.2.2.1 != b1.2.1 then ((Q207.f K (y2.2.1,1,x.2.1,())).bind λy6=>some (([(zcp4 y6.1.1 (y6.1.1.2.2.2.2.1,b1.2.1,y6.1.1.2.2.2.2.2.2))],()),y6.2.1,())) else j1) else j1) else (bif b1.1==4 then ((Q208.f K (y2.2.1,5,b1.2.1,())).bind λy7=>some (([y7.1.1],()),y2.2.1,())) else (bif b1.1==2 then (bif b2.1==b1.2.1 then (bif b2.2.2.1==b1.2.2.2.1 then (bif b1.2.2.2.2.1==b1.2.1 then ((Q217.f K (y2.2.1,x.2.1,())).bind λy8=>some (([],()),y8.2.1,())) else j1) else j1) else j1) else j1))))
def c:=Z0 47 (f K)
end Q218
namespace Q219
abbrev ps:Pz:=[.iop t95,.rref t26,.rref t47]
abbrev rs:Rq:=[.v (.list true 35 t63)]
abbrev R:=Rr rs ps
def f (x:ab ps):R:=(Q170.f K (x.2.1,x.2.2.1,())).bind λy1=>bif !y1.1.1 then (some (([],()),x.1,())) else ((Q218.f K (x.1,x.2.2.1,())).bind λy2=>some ((y2.1.1,()),y2.2.1,()))
def c:=Z0 46 (f K)
end Q219
namespace Q220
abbrev ps:Pz:=[.rd t26]
abbrev rs:Rq:=[.v t95]
abbrev R:=Rr rs ps
abbrev A2:=List (Ty.den t50)×List (Ty.den t52)×List (Ty.den t12)×Int
abbrev A1:=List (Ty.den t50)×List (Ty.den t52)×Int
abbrev A0:=List (Ty.den t50)×Int
def s2 (x:ab ps)(r2:A2->R)(a:A2):R:=let b1:=x.1.2.2.2.2.2.2.2.2;bif decide (a.2.2.2<(FJ b1.2.2.2.2.2.2:Int)) then ((idx b1.2.2.2.2.2.2 a.2.2.2).bind λy5=>(Q1.f K (y5.2,())).bind λy6=>bif decide ((FJ a.2.2.1+FJ ([(y5.1,y6.1.1)]))*32<=am) then (r2 (a.1,a.2.1,a.2.2.1++([(y5.1,y6.1.1)]),wr .i64 (a.2.2.2+1))) else none) else ((Q1.f K (b1.1,())).bind λy7=>(Q3.f K (b1.2.1,())).bind λy8=>some (((zcp8 x.1 (y7.1.1,y8.1.1,b1.2.2.1,a.1,b1.2.2.2.2.1,a.2.1,a.2.2.1)),()),()))
def l2 (x:ab ps):A2->R:=ae (s2 K x) K
def s1 (x:ab ps)(N2:A2->R)(r1:A1->R)(a:A1):R:=let b1:=x.1.2.2.2.2.2.2.2.2.2.2.2.2.2.1;bif decide (a.2.2<(FJ b1:Int)) then ((idx b1 a.2.2).bind λy3=>(Q9.f K (y3.2.2,())).bind λy4=>bif decide ((FJ a.2.1+FJ ([(y3.1,y3.2.1,y4.1.1)]))*64<=am) then (r1 (a.1,a.2.1++([(y3.1,y3.2.1,y4.1.1)]),wr .i64 (a.2.2+1))) else none) else (N2 (a.1,a.2.1,[],0))
def l1 (x:ab ps):A1->R:=ae (s1 K x (l2 K x)) K
def s0 (x:ab ps)(N1:A1->R)(r0:A0->R)(a:A0):R:=bif decide (a.2<(FJ x.1.2.2.2.2.2.2.2.2.2.2.2.1:Int)) then ((idx x.1.2.2.2.2.2.2.2.2.2.2.2.1 a.2).bind λy1=>(Q9.f K (y1.2.2.2,())).bind λy2=>let j1:=[(y1.1,y1.2.1,y1.2.2.1,y2.1.1)];bif decide ((FJ a.1+FJ j1)*48<=am) then (r0 (a.1++j1,wr .i64 (a.2+1))) else none) else (N1 (a.1,[],0))
def l0 (x:ab ps):A0->R:=ae (s0 K x (l1 K x)) K
def pre (K:Nat)(N0:A0->R)(x:ab ps):R:=N0 ([],0)
def f (x:ab ps):R:=pre K (l0 K x) x
def c:=Z1 106 (f K)
def G:List Ctr:=[Q1.c K,Q9.c K,Q3.c K]
def v2:List (Nat×List Coe):=[(1,[.keep]),(2,[.keep]),(3,[.own false 86 t50]),(6,[.own false 89 t52]),(9,[.own false 91 t12]),(45,[.ro true 91 t12]),(46,[.keep]),(47,[.keep]),(100001,Kc0),(100002,Kc2)]
def v1:List (Nat×List Coe):=[(1,[.keep]),(2,[.keep]),(3,[.own false 86 t50]),(6,[.own false 89 t52]),(29,[.ro true 89 t11]),(30,[.keep]),(31,[.keep]),(100001,Kc0),(100002,Kc2)]
def v0:List (Nat×List Coe):=[(1,[.keep]),(2,[.keep]),(3,[.own false 86 t50]),(13,[.ro true 86 t6]),(14,[.keep]),(15,[.keep]),(100001,Kc0),(100002,Kc2)]
def L:List (Nat×List (Nat×List Coe)):=[(18,v2),(11,v1),(4,v0)]
def body:Code:=cY Tryz.f106
abbrev ev:Code->St->(Ex->St->R)->R:=evK (G K) T_NL L K
abbrev fin:Ex->St->R:=du T_NL ps rs true Tryz.f106.results.toList
def S0 (x:ab ps)(a:A0):St:=av [(1,⟨0,.one,[.bp 100001 0]⟩),(2,⟨0,.one,[.bp 100002 0]⟩),(3,⟨0,.one,[.own false none 86 t50 a.1]⟩),(13,⟨0,.one,[.ro true 86 t6 x.1.2.2.2.2.2.2.2.2.2.2.2.1]⟩),(14,⟨0,.one,[.int .i64 (FJ x.1.2.2.2.2.2.2.2.2.2.2.2.1:Int)]⟩),(15,⟨0,.one,[.int .i64 a.2]⟩),(100001,⟨0,.agg,(w1 x.1)⟩),(100002,⟨0,.agg,[.int .i64 0,.bool false,.bool false,.bool false,.int .i64 0,.int .i64 0,.int .i64 0,.int .i64 0,.nil,.nil,.int .i64 0,.int .i64 0,.int .i64 0,.bool false,.nil,.int .i64 0,.int .i64 0,.int .i64 0,.int .i64 0,.nil,.nil]⟩)]
def S1 (x:ab ps)(a:A1):St:=av [(1,⟨0,.one,[.bp 100001 0]⟩),(2,⟨0,.one,[.bp 100002 0]⟩),(3,⟨0,.one,[.own false none 86 t50 a.1]⟩),(6,⟨0,.one,[.own false none 89 t52 a.2.1]⟩),(29,⟨0,.one,[.ro true 89 t11 x.1.2.2.2.2.2.2.2.2.2.2.2.2.2.1]⟩),(30,⟨0,.one,[.int .i64 (FJ x.1.2.2.2.2.2.2.2.2.2.2.2.2.2.1:Int)]⟩),(31,⟨0,.one,[.int .i64 a.2.2]⟩),(100001,⟨0,.agg,(w1 x.1)⟩),(100002,⟨0,.agg,[.int .i64 0,.bool false,.bool false,.bool false,.int .i64 0,.int .i64 0,.int .i64 0,.int .i64 0,.nil,.nil,.int .i64 0,.int .i64 0,.int .i64 0,.bool false,.nil,.int .i64 0,.int .i64 0,.int .i64 0,.int .i64 0,.nil,.nil]⟩)]
def S2 (x:ab ps)(a:A2):St:=av [(1,⟨0,.one,[.bp 100001 0]⟩),(2,⟨0,.one,[.bp 100002 0]⟩),(3,⟨0,.one,[.own false none 86 t50 a.1]⟩),(6,⟨0,.one,[.own false none 89 t52 a.2.1]⟩),(9,⟨0,.one,[.own false none 91 t12 a.2.2.1]⟩),(45,⟨0,.one,[.ro true 91 t12 x.1.2.2.2.2.2.2.2.2.2.2.2.2.2.2]⟩),(46,⟨0,.one,[.int .i64 (FJ x.1.2.2.2.2.2.2.2.2.2.2.2.2.2.2:Int)]⟩),(47,⟨0,.one,[.int .i64 a.2.2.2]⟩),(100001,⟨0,.agg,(w1 x.1)⟩),(100002,⟨0,.agg,[.int .i64 0,.bool false,.bool false,.bool false,.int .i64 0,.int .i64 0,.int .i64 0,.int .i64 0,.nil,.nil,.int .i64 0,.int .i64 0,.int .i64 0,.bool false,.nil,.int .i64 0,.int .i64 0,.int .i64 0,.int .i64 0,.nil,.nil]⟩)]
def k0 (x:ab ps):Ex->St->R:=kAt (ev K) body [1,1,0,1,0] fin
def N0 (x:ab ps):A0->R:=λa=>aY v0 (ev K (sub body [1,1,0,1,0,0])) K (S0 x a) (k0 K x)
def k1 (x:ab ps):Ex->St->R:=kAt (ev K) body [1,1,1,1,0,1,0] fin
def N1 (x:ab ps):A1->R:=λa=>aY v1 (ev K (sub body [1,1,1,1,0,1,0,0])) K (S1 x a) (k1 K x)
def k2 (x:ab ps):Ex->St->R:=kAt (ev K) body [1,1,1,1,1,1,0,1,0] fin
def N2 (x:ab ps):A2->R:=λa=>aY v2 (ev K (sub body [1,1,1,1,1,1,0,1,0,0])) K (S2 x a) (k2 K x)
end Q220
namespace Q221
abbrev ps:Pz:=[.own (.list true 35 t63)]
abbrev rs:Rq:=[.v (.list true 35 t63)]
abbrev R:=Rr rs ps
def f (K:Nat)(x:ab ps):R:=bif true&&decide ((FJ x.1:Int)=(FJ x.1:Int))&&decide ((FJ x.1:Int)=(FJ x.1:Int))&&true then (some ((x.1,()),())) else none
def c:=Z1 107 (f K)
end Q221
namespace Q222
abbrev ps:Pz:=[.rd t26,.clo 46 [(false,t26),(false,t47)]]
abbrev rs:Rq:=[.v t95,.v (.list true 35 t63)]
abbrev R:=Rr rs ps
def f (x:ab ps):R:=(Q167.f K (x.1,())).bind λy1=>bif !y1.1.1 then (some (((0,false,false,false,0,0,0,0,[],[],(0,0,0,false),[],(0,0,0,0),[],[]),[],()),())) else ((Q220.f K (x.1,())).bind λy2=>(Q219.f K (y2.1.1,x.2.1.1,x.2.1.2.1,())).bind λy3=>(Q221.f K (y3.1.1,())).bind λy4=>some ((y3.2.1,y4.1.1,()),()))
def c:=Z0 45 (f K)
end Q222
namespace Q223
abbrev ps:Pz:=[.rd t26,.rd t47]
abbrev rs:Rq:=[.v t95,.v (.list true 35 t63)]
abbrev R:=Rr rs ps
def f (x:ab ps):R:=(Q222.f K (x.1,(x.1,x.2.1,()),())).bind λy1=>some ((y1.1.1,y1.1.2.1,()),())
def c:=Z0 13 (f K)
end Q223
namespace Q224
abbrev ps:Pz:=[.rd t26]
abbrev rs:Rq:=[.v .bool]
abbrev R:=Rr rs ps
def f (x:ab ps):R:=let b1:=x.1.2.2.2;(Q27.f K (b1.2.2.2.2.2.1,x.1.1,())).bind λy1=>let j1:R:=some ((false,()),());bif decide (y1.1.1<0) then j1 else ((idx b1.2.2.2.2.2.1 y1.1.1).bind λy2=>let j2:=((y2.2.2.2==b1.1,()),());bif x.1.2.2.1 then (bif y2.2.1==b1.2.1 then (bif y2.2.2.1==4 then (some j2) else j1) else j1) else (bif y2.2.1==b1.2.1 then (bif y2.2.2.1==1 then (some j2) else j1) else j1))
def c:=Z1 69 (f K)
end Q224
namespace Q225
abbrev ps:Pz:=[.rd (.list false 133 t3)]
abbrev rs:Rq:=[.v .bool]
abbrev R:=Rr rs ps
abbrev A0:=Int
def s0 (x:ab ps)(r0:A0->R)(a:A0):R:=bif decide (a<(FJ x.1:Int)) then ((idx x.1 a).bind λy1=>(Q19.f K (y1.1,())).bind λy2=>let j1:R:=some ((false,()),());bif !y2.1.1 then j1 else ((idx x.1 a).bind λy3=>(Q14.f K (y3.2,1,4,())).bind λy4=>bif !y4.1.1 then j1 else (bif decide (a>0) then ((idx x.1 (wr .i64 (a-1))).bind λy5=>(idx x.1 a).bind λy6=>bif decide (y5.1.1>=y6.1.1) then j1 else (r0 (wr .i64 (a+1)))) else (r0 (wr .i64 (a+1)))))) else (some ((true,()),()))
def l0 (x:ab ps):A0->R:=ae (s0 K x) K
def pre (K:Nat)(N0:A0->R)(x:ab ps):R:=N0 0
def f (x:ab ps):R:=pre K (l0 K x) x
def c:=Z1 126 (f K)
end Q225
namespace Q226
abbrev ps:Pz:=[.rd t26]
abbrev rs:Rq:=[.v .bool]
abbrev R:=Rr rs ps
abbrev A0:=Int
def s0 (x:ab ps)(r0:A0->R)(a:A0):R:=let b1:=x.1.2.2.2.2.2.2.2.2;bif decide (a<(FJ b1.2.1:Int)) then ((idx b1.2.1 a).bind λy2=>(Q27.f K (b1.1,y2.1.1,())).bind λy3=>bif decide (y3.1.1<0) then (some ((false,()),())) else ((idx b1.2.1 a).bind λy4=>(idx b1.1 y3.1.1).bind λy5=>(Q28.f K (y4.1,y5,())).bind λy6=>bif y6.1.1 then (some ((false,()),())) else (r0 (wr .i64 (a+1))))) else (some ((true,()),()))
def l0 (x:ab ps):A0->R:=ae (s0 K x) K
def pre (N0:A0->R)(x:ab ps):R:=(Q225.f K (x.1.2.2.2.2.2.2.2.2.2.1,())).bind λy1=>bif !y1.1.1 then (some ((false,()),())) else (N0 0)
def f (x:ab ps):R:=pre K (l0 K x) x
def c:=Z1 70 (f K)
end Q226
namespace Q227
abbrev ps:Pz:=[.rd t26]
abbrev rs:Rq:=[.v .bool]
abbrev R:=Rr rs ps
def f (x:ab ps):R:=let b2:=x.1.2.2.2.2.2;let b1:=b2.2.2.2.2.2.1;let j1:R:=some ((false,()),());bif b1.1==(-1) then (bif b1.2.1==0 then (bif b1.2.2.1==0 then (some ((!b1.2.2.2,()),())) else j1) else j1) else (bif b1.1 != x.1.1 then ((Q27.f K (b2.2.2.2.1,b1.1,())).bind λy1=>bif decide (y1.1.1>=0) then ((Q14.f K (b1.2.1,0,b2.1,())).bind λy2=>bif y2.1.1 then ((Q14.f K (b1.2.2.1,1,b2.2.1,())).bind λy3=>some ((y3.1.1,()),())) else j1) else j1) else j1)
def c:=Z1 71 (f K)
end Q227
namespace Q228
abbrev ps:Pz:=[.rd t26]
abbrev rs:Rq:=[.v .bool]
abbrev R:=Rr rs ps
abbrev A1:=Int×Int×Int×Int×Int×List (Ty.den I6)
abbrev A2:=Int×Int
abbrev A0:=Int
def s1 (x:ab ps)(r0:A0->R)(r1:A1->R)(a:A1):R:=let b1:=a.2.2.2.2.2;bif decide (a.2.1<(FJ b1:Int)) then ((idx b1 a.2.1).bind λy7=>(Q14.f K (y7,0,7,())).bind λy8=>let j1:R:=some ((false,()),());bif !y8.1.1 then j1 else ((idx b1 a.2.1).bind λy9=>(Q24.f K (y9,())).bind λy10=>(Q24.f K (x.1.1,())).bind λy11=>bif y10.1.1 != y11.1.1 then j1 else (let j2:=(a.1,wr .i64 (a.2.1+1),a.2.2);bif decide (a.2.1>0) then ((idx b1 (wr .i64 (a.2.1-1))).bind λy12=>(idx b1 a.2.1).bind λy13=>bif decide (y12>=y13) then j1 else (r1 j2)) else (r1 j2)))) else (r0 (wr .i64 (a.1+1)))
def l1 (x:ab ps)(r0:A0->R):A1->R:=ae (s1 K x r0) K
def s2 (K:Nat)(x:ab ps)(r2:A2->R)(a:A2):R:=let b1:=x.1.2.2.2.2.2.2.2.2;bif decide (a.2<(FJ b1.1:Int)) then ((idx b1.1 a.2).bind λy17=>bif y17.2.2.1==2 then (r2 (wr .i64 (a.1+1),wr .i64 (a.2+1))) else (r2 (a.1,wr .i64 (a.2+1)))) else (some ((a.1==(FJ b1.2.2.2.1:Int),()),()))
def l2 (x:ab ps):A2->R:=ae (s2 K x) K
def s0 (x:ab ps)(N1:A1->R)(N2:A2->R)(r0:A0->R)(a:A0):R:=let b1:=x.1.2.2.2.2.2.2.2.2;bif decide (a<(FJ b1.2.2.2.1:Int)) then ((idx b1.2.2.2.1 a).bind λy1=>(Q27.f K (b1.1,y1.1,())).bind λy2=>let j2:R:=some ((false,()),());let j1:R:=bif decide (y2.1.1<0) then j2 else ((idx b1.1 y2.1.1).bind λy4=>bif y4.2.2.1 != 2 then j2 else ((idx b1.1 y2.1.1).bind λy5=>bif y5.2.1 != y1.2.1 then j2 else ((Q14.f K (y1.2.2.1,0,x.1.2.2.2.2.2.1,())).bind λy6=>bif !y6.1.1 then j2 else (bif (FJ y1.2.2.2:Int)==0 then j2 else (N1 (a,0,y1))))));bif decide (a>0) then ((idx b1.2.2.2.1 (wr .i64 (a-1))).bind λy3=>bif decide (y3.1>=y1.1) then j2 else j1) else j1) else (N2 (0,0))
def l0 (x:ab ps):A0->R:=ae (λr0 a=>s0 K x (l1 K x r0) (l2 K x) r0 a) K
def pre (K:Nat)(N0:A0->R)(x:ab ps):R:=N0 0
def f (x:ab ps):R:=pre K (l0 K x) x
def c:=Z1 72 (f K)
def G:List Ctr:=[Q14.c K,Q24.c K,Q27.c K]
def v1:List (Nat×List Coe):=[(1,[.keep]),(3,[.keep]),(4,[.keep]),(6,[.keep]),(100001,Kc0),(100004,Kc4)]
def v2:List (Nat×List Coe):=[(1,[.keep]),(7,[.keep]),(8,[.keep]),(100001,Kc0)]
def v0:List (Nat×List Coe):=[(1,[.keep]),(3,[.keep]),(100001,Kc0)]
def L:List (Nat×List (Nat×List Coe)):=[(10,v1),(16,v2),(3,v0)]
def body:Code:=cY Tryz.f72
abbrev ev:Code->St->(Ex->St->R)->R:=evK (G K) T_S L K
abbrev fin:Ex->St->R:=du T_S ps rs true Tryz.f72.results.toList
def S0 (x:ab ps)(a:A0):St:=av [(1,⟨0,.one,[.bp 100001 0]⟩),(3,⟨0,.one,[.int .i64 a]⟩),(100001,⟨0,.agg,(w1 x.1)⟩)]
def S2 (x:ab ps)(a:A2):St:=av [(1,⟨0,.one,[.bp 100001 0]⟩),(7,⟨0,.one,[.int .i64 a.1]⟩),(8,⟨0,.one,[.int .i64 a.2]⟩),(100001,⟨0,.agg,(w1 x.1)⟩)]
def S1 (x:ab ps)(a:A1):St:=av [(1,⟨0,.one,[.bp 100001 0]⟩),(3,⟨0,.one,[.int .i64 a.1]⟩),(4,⟨0,.one,[.bp 100004 0]⟩),(6,⟨0,.one,[.int .i64 a.2.1]⟩),(100001,⟨0,.agg,(w1 x.1)⟩),(100004,⟨0,.agg,(wa0 a.2.2)⟩)]
def k0 (x:ab ps):Ex->St->R:=kAt (ev K) body [1,0,1,0] fin
def N0 (x:ab ps):A0->R:=λa=>aY v0 (ev K (sub body [1,0,1,0,0])) K (S0 x a) (k0 K x)
def k2 (x:ab ps):Ex->St->R:=kAt (ev K) body [1,1,1,0,1,0] fin
def N2 (x:ab ps):A2->R:=λa=>aY v2 (ev K (sub body [1,1,1,0,1,0,0])) K (S2 x a) (k2 K x)
def k1 (x:ab ps)(q0:St->R):Ex->St->R:=kAt (ev K) (sub body [1,0,1,0,0]) [1,0,0,1,1,1,1,0] (iq v0 q0 (k0 K x))
def N1 (x:ab ps)(q0:St->R):A1->R:=λa=>aY v1 (ev K (sub body [1,0,1,0,0,1,0,0,1,1,1,1,0,0])) K (S1 x a) (k1 K x q0)
end Q228
namespace Q229
abbrev ps:Pz:=[.rd t26]
abbrev rs:Rq:=[.v .bool]
abbrev R:=Rr rs ps
abbrev A1:=Int×Int×Int×Int×Int×Int×Int×List (Ty.den I6)
abbrev A0:=Int
def s1 (x:ab ps)(r0:A0->R)(r1:A1->R)(a:A1):R:=bif decide (a.2.1<(FJ a.2.2.2.2.2.2.2:Int)) then ((idx a.2.2.2.2.2.2.2 a.2.1).bind λy8=>(Q14.f K (y8,1,60000,())).bind λy9=>bif !y9.1.1 then (some ((false,()),())) else (r1 (a.1,wr .i64 (a.2.1+1),a.2.2))) else (r0 (wr .i64 (a.1+1)))
def l1 (x:ab ps)(r0:A0->R):A1->R:=ae (s1 K x r0) K
def s0 (x:ab ps)(N1:A1->R)(r0:A0->R)(a:A0):R:=let b1:=x.1.2.2.2.2.2.2.2.2.2.2.2.2.2.1;bif decide (a<(FJ b1:Int)) then ((idx b1 a).bind λy1=>(Q14.f K (y1.1,0,7,())).bind λy2=>let j2:R:=some ((false,()),());bif !y2.1.1 then j2 else ((Q24.f K (y1.1,())).bind λy3=>(Q24.f K (x.1.1,())).bind λy4=>bif y3.1.1 != y4.1.1 then j2 else (bif y1.1==x.1.1 then j2 else (let j1:R:=(Q22.f K (y1.2.1,())).bind λy6=>bif !y6.1.1 then j2 else ((Q14.f K ((FJ y1.2.2:Int),1,3,())).bind λy7=>bif !y7.1.1 then j2 else (N1 (a,0,y1.1,y1.2.1.1,y1.2.1.2.1,y1.2.1.2.2.1,y1.2.1.2.2.2,y1.2.2)));bif decide (a>0) then ((idx b1 (wr .i64 (a-1))).bind λy5=>bif decide (y5.1>=y1.1) then j2 else j1) else j1)))) else (some ((true,()),()))
def l0 (x:ab ps):A0->R:=ae (λr0 a=>s0 K x (l1 K x r0) r0 a) K
def pre (K:Nat)(N0:A0->R)(x:ab ps):R:=N0 0
def f (x:ab ps):R:=pre K (l0 K x) x
def c:=Z1 74 (f K)
def G:List Ctr:=[Q14.c K,Q24.c K,Q22.c K]
def v1:List (Nat×List Coe):=[(1,[.keep]),(3,[.keep]),(4,[.keep]),(5,[.keep]),(100001,Kc0),(100004,Kc6)]
def v0:List (Nat×List Coe):=[(1,[.keep]),(3,[.keep]),(100001,Kc0)]
def L:List (Nat×List (Nat×List Coe)):=[(9,v1),(3,v0)]
def body:Code:=cY Tryz.f74
abbrev ev:Code->St->(Ex->St->R)->R:=evK (G K) T_S L K
abbrev fin:Ex->St->R:=du T_S ps rs true Tryz.f74.results.toList
def S0 (x:ab ps)(a:A0):St:=av [(1,⟨0,.one,[.bp 100001 0]⟩),(3,⟨0,.one,[.int .i64 a]⟩),(100001,⟨0,.agg,(w1 x.1)⟩)]
def S1 (x:ab ps)(a:A1):St:=av [(1,⟨0,.one,[.bp 100001 0]⟩),(3,⟨0,.one,[.int .i64 a.1]⟩),(4,⟨0,.one,[.bp 100004 0]⟩),(5,⟨0,.one,[.int .i64 a.2.1]⟩),(100001,⟨0,.agg,(w1 x.1)⟩),(100004,⟨0,.agg,[.int .i64 a.2.2.1,.int .i64 a.2.2.2.1,.int .i64 a.2.2.2.2.1,.int .i64 a.2.2.2.2.2.1,.int .i64 a.2.2.2.2.2.2.1,.ro true 3 I6 a.2.2.2.2.2.2.2]⟩)]
def k0 (x:ab ps):Ex->St->R:=kAt (ev K) body [1,0,1,0] fin
def N0 (x:ab ps):A0->R:=λa=>aY v0 (ev K (sub body [1,0,1,0,0])) K (S0 x a) (k0 K x)
def k1 (x:ab ps)(q0:St->R):Ex->St->R:=kAt (ev K) (sub body [1,0,1,0,0]) [1,0,0,1,1,1,0] (iq v0 q0 (k0 K x))
def N1 (x:ab ps)(q0:St->R):A1->R:=λa=>aY v1 (ev K (sub body [1,0,1,0,0,1,0,0,1,1,1,0,0])) K (S1 x a) (k1 K x q0)
end Q229
namespace Q230
abbrev ps:Pz:=[.rd t26]
abbrev rs:Rq:=[.v .bool]
abbrev R:=Rr rs ps
abbrev A0:=Int
def s0 (x:ab ps)(r0:A0->R)(a:A0):R:=let b1:=x.1.2.2.2.2.2.2.2.2.2.2.2.2.2.2;bif decide (a<(FJ b1:Int)) then ((idx b1 a).bind λy1=>(Q14.f K (y1.1,0,1,())).bind λy2=>let j2:R:=some ((false,()),());bif !y2.1.1 then j2 else ((Q24.f K (x.1.1,())).bind λy3=>bif y1.1==y3.1.1 then j2 else (let j1:R:=bif (FJ y1.2:Int)==0 then j2 else ((Q20.f K (y1.2,())).bind λy5=>bif !y5.1.1 then j2 else ((Q21.f K (y1.2,y1.1,())).bind λy6=>bif !y6.1.1 then j2 else (r0 (wr .i64 (a+1)))));bif decide (a>0) then ((idx b1 (wr .i64 (a-1))).bind λy4=>bif decide (y4.1>=y1.1) then j2 else j1) else j1))) else (some ((true,()),()))
def l0 (x:ab ps):A0->R:=ae (s0 K x) K
def pre (K:Nat)(N0:A0->R)(x:ab ps):R:=N0 0
def f (x:ab ps):R:=pre K (l0 K x) x
def c:=Z1 75 (f K)
end Q230
namespace Q231
abbrev ps:Pz:=[.rd t26]
abbrev rs:Rq:=[.v .bool]
abbrev R:=Rr rs ps
def f (x:ab ps):R:=let b3:=x.1.2.2.2.2;let b1:=b3.2.2.2;let b2:=b1.2.2.2;(Q14.f K (x.1.1,0,7,())).bind λy1=>let j1:R:=some ((false,()),());bif !y1.1.1 then j1 else ((Q14.f K (b3.2.1,0,999999,())).bind λy2=>bif !y2.1.1 then j1 else ((Q14.f K (b3.2.2.1,0,999999,())).bind λy3=>bif !y3.1.1 then j1 else ((Q14.f K (b1.1,0,8,())).bind λy4=>bif !y4.1.1 then j1 else ((Q14.f K (b3.1,0,999,())).bind λy5=>bif !y5.1.1 then j1 else (bif !x.1.2.1 then (bif !x.1.2.2.1 then (bif b3.1==0 then (bif b3.2.1==0 then (bif b3.2.2.1==0 then (bif b1.1==0 then (bif (wr .i64 ((wr .i64 ((wr .i64 ((wr .i64 ((FJ b1.2.1:Int)+(FJ b1.2.2.1:Int)))+(FJ b2.2.1:Int)))+(FJ b2.2.2.2.1:Int)))+(FJ b2.2.2.2.2:Int)))==0 then (bif b2.1.1==0 then (bif b2.1.2.1==0 then (bif b2.1.2.2.1==0 then (bif !b2.1.2.2.2 then (bif b2.2.2.1.1==0 then (bif b2.2.2.1.2.1==0 then (bif b2.2.2.1.2.2.1==0 then (some ((b2.2.2.1.2.2.2==0,()),())) else j1) else j1) else j1) else j1) else j1) else j1) else j1) else j1) else j1) else j1) else j1) else j1) else j1) else ((Q20.f K (b1.2.1,())).bind λy6=>bif y6.1.1 then ((Q24.f K (x.1.1,())).bind λy7=>(Q21.f K (b1.2.1,y7.1.1,())).bind λy8=>bif y8.1.1 then ((Q224.f K (x.1,())).bind λy9=>bif y9.1.1 then ((Q226.f K (x.1,())).bind λy10=>bif y10.1.1 then ((Q227.f K (x.1,())).bind λy11=>bif y11.1.1 then ((Q228.f K (x.1,())).bind λy12=>bif y12.1.1 then ((Q22.f K (b2.2.2.1,())).bind λy13=>bif y13.1.1 then ((Q229.f K (x.1,())).bind λy14=>bif y14.1.1 then ((Q230.f K (x.1,())).bind λy15=>some ((y15.1.1,()),())) else j1) else j1) else j1) else j1) else j1) else j1) else j1) else j1))))))
def c:=Z1 22 (f K)
end Q231
namespace Q232
abbrev ps:Pz:=[.rd t26,.rd t47]
abbrev rs:Rq:=[.v t38,.v (.list true 35 t47)]
abbrev R:=Rr rs ps
def f (x:ab ps):R:=(Q231.f K (x.1,())).bind λy1=>bif !y1.1.1 then (some (((0,false,false,false,0,0,0,0,[],[],(0,0,0,false),[],(0,0,0,0),[],[]),[],()),())) else ((Q110.f K (x.1,())).bind λy2=>(Q60.f K (y2.1.1,x.2.1,())).bind λy3=>(Q110.f K (y3.1.1,())).bind λy4=>some ((y4.1.1,y3.1.2.1,()),()))
def c:=Z0 14 (f K)
end Q232
namespace Q233
abbrev ps:Pz:=[.rd (.list false 46 t2),.rd (.list false 46 t2)]
abbrev rs:Rq:=[.v .bool]
abbrev R:=Rr rs ps
abbrev A0:=Int
def s0 (K:Nat)(x:ab ps)(r0:A0->R)(a:A0):R:=bif decide (a<(FJ x.1:Int)) then ((idx x.1 a).bind λy1=>(idx x.2.1 a).bind λy2=>bif !Ty.eqv t2 y1 y2 then (some ((false,()),())) else (r0 (wr .i64 (a+1)))) else (some ((true,()),()))
def l0 (x:ab ps):A0->R:=ae (s0 K x) K
def pre (K:Nat)(N0:A0->R)(x:ab ps):R:=bif (FJ x.1:Int) != (FJ x.2.1:Int) then (some ((false,()),())) else (N0 0)
def f (x:ab ps):R:=pre K (l0 K x) x
def c:=Z1 23 (f K)
end Q233
namespace Q234
abbrev ps:Pz:=[.rd (.list false 133 t3),.rd (.list false 133 t3)]
abbrev rs:Rq:=[.v .bool]
abbrev R:=Rr rs ps
abbrev A0:=Int
def s0 (K:Nat)(x:ab ps)(r0:A0->R)(a:A0):R:=bif decide (a<(FJ x.1:Int)) then ((idx x.1 a).bind λy1=>(idx x.2.1 a).bind λy2=>bif !Ty.eqv t3 y1 y2 then (some ((false,()),())) else (r0 (wr .i64 (a+1)))) else (some ((true,()),()))
def l0 (x:ab ps):A0->R:=ae (s0 K x) K
def pre (K:Nat)(N0:A0->R)(x:ab ps):R:=bif (FJ x.1:Int) != (FJ x.2.1:Int) then (some ((false,()),())) else (N0 0)
def f (x:ab ps):R:=pre K (l0 K x) x
def c:=Z1 56 (f K)
end Q234
namespace Q235
abbrev ps:Pz:=[.rd (.list false 3 I6),.rd (.list false 3 I6)]
abbrev rs:Rq:=[.v .bool]
abbrev R:=Rr rs ps
abbrev A0:=Int
def s0 (K:Nat)(x:ab ps)(r0:A0->R)(a:A0):R:=bif decide (a<(FJ x.1:Int)) then ((idx x.1 a).bind λy1=>(idx x.2.1 a).bind λy2=>bif y1 != y2 then (some ((false,()),())) else (r0 (wr .i64 (a+1)))) else (some ((true,()),()))
def l0 (x:ab ps):A0->R:=ae (s0 K x) K
def pre (K:Nat)(N0:A0->R)(x:ab ps):R:=bif (FJ x.1:Int) != (FJ x.2.1:Int) then (some ((false,()),())) else (N0 0)
def f (x:ab ps):R:=pre K (l0 K x) x
def c:=Z1 57 (f K)
end Q235
namespace Q236
abbrev ps:Pz:=[.rd t26,.rd t26]
abbrev rs:Rq:=[.v .bool]
abbrev R:=Rr rs ps
abbrev A2:=Int
abbrev A1:=Int
abbrev A0:=Int
def s2 (x:ab ps)(r2:A2->R)(a:A2):R:=let b2:=x.2.1.2.2.2.2.2.2.2.2.2.2.2.2.2.2;let b1:=x.1.2.2.2.2.2.2.2.2.2.2.2.2.2.2;bif decide (a<(FJ b1:Int)) then ((idx b1 a).bind λy13=>(idx b2 a).bind λy14=>bif y13.1 != y14.1 then (some ((false,()),())) else ((idx b1 a).bind λy15=>(idx b2 a).bind λy16=>(Q233.f K (y15.2,y16.2,())).bind λy17=>bif !y17.1.1 then (some ((false,()),())) else (r2 (wr .i64 (a+1))))) else (some ((true,()),()))
def l2 (x:ab ps):A2->R:=ae (s2 K x) K
def s1 (x:ab ps)(N2:A2->R)(r1:A1->R)(a:A1):R:=let b2:=x.2.1.2.2.2.2.2.2.2.2.2.2.2.2.2.1;let b1:=x.1.2.2.2.2.2.2.2.2.2.2.2.2.2.1;bif decide (a<(FJ b1:Int)) then ((idx b1 a).bind λy6=>(idx b2 a).bind λy7=>let j1:R:=some ((false,()),());bif y6.1 != y7.1 then j1 else ((idx b1 a).bind λy8=>(idx b2 a).bind λy9=>bif !Ty.eqv t9 y8.2.1 y9.2.1 then j1 else ((idx b1 a).bind λy10=>(idx b2 a).bind λy11=>(Q235.f K (y10.2.2,y11.2.2,())).bind λy12=>bif !y12.1.1 then j1 else (r1 (wr .i64 (a+1)))))) else (N2 0)
def l1 (x:ab ps):A1->R:=ae (s1 K x (l2 K x)) K
def s0 (x:ab ps)(N1:A1->R)(r0:A0->R)(a:A0):R:=bif decide (a<(FJ x.1.2.2.2.2.2.2.2.2.2.2.2.1:Int)) then ((idx x.1.2.2.2.2.2.2.2.2.2.2.2.1 a).bind λy3=>(idx x.2.1.2.2.2.2.2.2.2.2.2.2.2.1 a).bind λy4=>let j1:R:=some ((false,()),());bif y3.1 != y4.1 then j1 else (bif y3.2.1 != y4.2.1 then j1 else (bif y3.2.2.1 != y4.2.2.1 then j1 else ((Q235.f K (y3.2.2.2,y4.2.2.2,())).bind λy5=>bif !y5.1.1 then j1 else (r0 (wr .i64 (a+1))))))) else (N1 0)
def l0 (x:ab ps):A0->R:=ae (s0 K x (l1 K x)) K
def pre (N0:A0->R)(x:ab ps):R:=let b5:=x.2.1.2.2;let b4:=x.1.2.2.2;let b2:=b4.2.2.2.2;let b1:=b5.2.2.2.2;let b3:=b1.2.2.2.2;let j1:R:=some ((false,()),());bif x.1.1 != x.2.1.1 then j1 else (bif x.1.2.1 != x.2.1.2.1 then j1 else (bif x.1.2.2.1 != b5.1 then j1 else (bif b4.1 != b5.2.1 then j1 else (bif b4.2.1 != b5.2.2.1 then j1 else (bif b4.2.2.1 != b5.2.2.2.1 then j1 else (bif b4.2.2.2.1 != b1.1 then j1 else (bif b2.1 != b1.2.1 then j1 else ((Q233.f K (b2.2.1,b1.2.2.1,())).bind λy1=>bif !y1.1.1 then j1 else ((Q234.f K (b2.2.2.1,b1.2.2.2.1,())).bind λy2=>bif !y2.1.1 then j1 else (bif !Ty.eqv t2 b2.2.2.2.1 b3.1 then j1 else (bif !Ty.eqv t9 b2.2.2.2.2.2.1 b3.2.2.1 then j1 else (bif (FJ b2.2.2.2.2.1:Int) != (FJ b3.2.1:Int) then j1 else (bif (FJ b2.2.2.2.2.2.2.1:Int) != (FJ b3.2.2.2.1:Int) then j1 else (bif (FJ b2.2.2.2.2.2.2.2:Int) != (FJ b3.2.2.2.2:Int) then j1 else (N0 0)))))))))))))))
def f (x:ab ps):R:=pre K (l0 K x) x
def c:=Z1 16 (f K)
def G:List Ctr:=[Q233.c K,Q234.c K,Q235.c K]
def v2:List (Nat×List Coe):=[(2,[.keep]),(3,[.keep]),(9,[.keep]),(100002,Kc0),(100003,Kc0)]
def v1:List (Nat×List Coe):=[(2,[.keep]),(3,[.keep]),(8,[.keep]),(100002,Kc0),(100003,Kc0)]
def v0:List (Nat×List Coe):=[(2,[.keep]),(3,[.keep]),(5,[.keep]),(100002,Kc0),(100003,Kc0)]
def L:List (Nat×List (Nat×List Coe)):=[(17,v2),(12,v1),(5,v0)]
def body:Code:=cY Tryz.f16
abbrev ev:Code->St->(Ex->St->R)->R:=evK (G K) T_NL L K
abbrev fin:Ex->St->R:=du T_NL ps rs true Tryz.f16.results.toList
def S0 (x:ab ps)(a:A0):St:=av [(2,⟨0,.one,[.bp 100002 0]⟩),(3,⟨0,.one,[.bp 100003 0]⟩),(5,⟨0,.one,[.int .i64 a]⟩),(100002,⟨0,.agg,(w1 x.1)⟩),(100003,⟨0,.agg,(w1 x.2.1)⟩)]
def S1 (x:ab ps)(a:A1):St:=av [(2,⟨0,.one,[.bp 100002 0]⟩),(3,⟨0,.one,[.bp 100003 0]⟩),(8,⟨0,.one,[.int .i64 a]⟩),(100002,⟨0,.agg,(w1 x.1)⟩),(100003,⟨0,.agg,(w1 x.2.1)⟩)]
def S2 (x:ab ps)(a:A2):St:=av [(2,⟨0,.one,[.bp 100002 0]⟩),(3,⟨0,.one,[.bp 100003 0]⟩),(9,⟨0,.one,[.int .i64 a]⟩),(100002,⟨0,.agg,(w1 x.1)⟩),(100003,⟨0,.agg,(w1 x.2.1)⟩)]
def k0 (x:ab ps):Ex->St->R:=kAt (ev K) body [1,1,0,1,0] fin
def N0 (x:ab ps):A0->R:=λa=>aY v0 (ev K (sub body [1,1,0,1,0,0])) K (S0 x a) (k0 K x)
def k1 (x:ab ps):Ex->St->R:=kAt (ev K) body [1,1,1,0,1,0] fin
def N1 (x:ab ps):A1->R:=λa=>aY v1 (ev K (sub body [1,1,1,0,1,0,0])) K (S1 x a) (k1 K x)
def k2 (x:ab ps):Ex->St->R:=kAt (ev K) body [1,1,1,1,0,1,0] fin
def N2 (x:ab ps):A2->R:=λa=>aY v2 (ev K (sub body [1,1,1,1,0,1,0,0])) K (S2 x a) (k2 K x)
end Q236
namespace Q237
abbrev ps:Pz:=[.rd t47,.rd t47]
abbrev rs:Rq:=[.v .bool]
abbrev R:=Rr rs ps
def f (x:ab ps):R:=let b2:=x.1.2.2.2;let b1:=x.2.1.2.2.2;let j1:R:=some ((false,()),());bif x.1.1==x.2.1.1 then (bif x.1.2.1==x.2.1.2.1 then (bif x.1.2.2.1==x.2.1.2.2.1 then (bif b2.1==b1.1 then (bif b2.2.1==b1.2.1 then (bif b2.2.2.1==b1.2.2.1 then (bif Ty.eqv t9 b2.2.2.2.1 b1.2.2.2.1 then ((Q233.f K (b2.2.2.2.2,b1.2.2.2.2,())).bind λy1=>some ((y1.1.1,()),())) else j1) else j1) else j1) else j1) else j1) else j1) else j1
def c:=Z1 58 (f K)
end Q237
namespace Q238
abbrev ps:Pz:=[.rd (.list false 35 t47),.rd (.list false 35 t47)]
abbrev rs:Rq:=[.v .bool]
abbrev R:=Rr rs ps
abbrev A0:=Int
def s0 (x:ab ps)(r0:A0->R)(a:A0):R:=bif decide (a<(FJ x.1:Int)) then ((idx x.1 a).bind λy1=>(idx x.2.1 a).bind λy2=>(Q237.f K (y1,y2,())).bind λy3=>bif !y3.1.1 then (some ((false,()),())) else (r0 (wr .i64 (a+1)))) else (some ((true,()),()))
def l0 (x:ab ps):A0->R:=ae (s0 K x) K
def pre (K:Nat)(N0:A0->R)(x:ab ps):R:=bif (FJ x.1:Int) != (FJ x.2.1:Int) then (some ((false,()),())) else (N0 0)
def f (x:ab ps):R:=pre K (l0 K x) x
def c:=Z1 17 (f K)
end Q238
namespace Q239
abbrev ps:Pz:=[.rd t26,.rd t47]
abbrev rs:Rq:=[.v .bool]
abbrev R:=Rr rs ps
def f (x:ab ps):R:=(Q231.f K (x.1,())).bind λy1=>bif !y1.1.1 then (some ((false,()),())) else ((Q23.f K (x.2.1,())).bind λy2=>bif !y2.1.1 then (some ((false,()),())) else ((Q25.f K (x.1,x.2.1,())).bind λy3=>some ((y3.1.1,()),())))
def c:=Z1 18 (f K)
end Q239
namespace Q240
abbrev ps:Pz:=[.io (.list true 46 t2),.rd I6,.rd I6,.fn [t2,t2] I6]
abbrev rs:Rq:=[]
abbrev R:=Rr rs ps
abbrev A1:=List (Ty.den t2)×Int×Int
abbrev A0:=List (Ty.den t2)×Int
def s1 (K:Nat)(x:ab ps)(r0:A0->R)(r1:A1->R)(a:A1):R:=bif decide (a.2.2>x.2.1) then ((idx a.1 a.2.2).bind λ_=>(idx a.1 (FK a.2.2:Nat)).bind λy2=>(idx a.1 (wr .i64 (a.2.2-1))).bind λ_=>let j1:=(FK (wr .i64 (a.2.2-1)):Nat);(idx a.1 j1).bind λy4=>(x.2.2.2.1 (y2,y4,())).bind λy5=>bif decide (y5<0) then ((idx a.1 (wr .i64 (a.2.2-1))).bind λ_=>(idx a.1 j1).bind λy7=>(idx a.1 a.2.2).bind λ_=>(idx a.1 (FK a.2.2:Nat)).bind λy9=>(idx a.1 a.2.2).bind λ_=>(idx a.1 (FK a.2.2:Nat)).bind λy11=>let j2:=a.1.set (FK a.2.2) y7;(idx j2 (wr .i64 (a.2.2-1))).bind λ_=>(idx j2 j1).bind λy13=>r1 (j2.set (FK (wr .i64 (a.2.2-1))) y9,a.2.1,wr .i64 (a.2.2-1))) else (r0 (a.1,wr .i64 (a.2.1+1)))) else (r0 (a.1,wr .i64 (a.2.1+1)))
def l1 (x:ab ps)(r0:A0->R):A1->R:=ae (s1 K x r0) K
def s0 (K:Nat)(x:ab ps)(N1:A1->R)(r0:A0->R)(a:A0):R:=bif decide (a.2<x.2.2.1) then (N1 (a.1,a.2,a.2)) else (some ((),a.1,()))
def l0 (x:ab ps):A0->R:=ae (λr0 a=>s0 K x (l1 K x r0) r0 a) K
def pre (K:Nat)(N0:A0->R)(x:ab ps):R:=N0 (x.1,wr .i64 (x.2.1+1))
def f (x:ab ps):R:=pre K (l0 K x) x
def c:=Z1 257 (f K)
def G (K:Nat):List Ctr:=[]
def v1:List (Nat×List Coe):=[(0,[.own false 46 t2]),(1,[.keep]),(2,[.keep]),(3,[.keep]),(8,[.keep]),(9,[.keep])]
def v0:List (Nat×List Coe):=[(0,[.own false 46 t2]),(1,[.keep]),(2,[.keep]),(3,[.keep]),(8,[.keep])]
def L:List (Nat×List (Nat×List Coe)):=[(5,v1),(2,v0)]
def body:Code:=cY Tryz.f257
abbrev ev:Code->St->(Ex->St->R)->R:=evK (G K) T_S L K
abbrev fin:Ex->St->R:=du T_S ps rs true Tryz.f257.results.toList
def S0 (x:ab ps)(a:A0):St:=av [(0,⟨0,.one,[.own false none 46 t2 a.1]⟩),(1,⟨0,.one,[.int .i64 x.2.1]⟩),(2,⟨0,.one,[.int .i64 x.2.2.1]⟩),(3,⟨0,.one,[.fn [t2,t2] I6 x.2.2.2.1]⟩),(8,⟨0,.one,[.int .i64 a.2]⟩)]
def S1 (x:ab ps)(a:A1):St:=av [(0,⟨0,.one,[.own false none 46 t2 a.1]⟩),(1,⟨0,.one,[.int .i64 x.2.1]⟩),(2,⟨0,.one,[.int .i64 x.2.2.1]⟩),(3,⟨0,.one,[.fn [t2,t2] I6 x.2.2.2.1]⟩),(8,⟨0,.one,[.int .i64 a.2.1]⟩),(9,⟨0,.one,[.int .i64 a.2.2]⟩)]
def k0 (x:ab ps):Ex->St->R:=kAt (ev K) body [1,0] fin
def N0 (x:ab ps):A0->R:=λa=>aY v0 (ev K (sub body [1,0,0])) K (S0 x a) (k0 K x)
def k1 (x:ab ps)(q0:St->R):Ex->St->R:=kAt (ev K) (sub body [1,0,0]) [1,0,0,1,0] (iq v0 q0 (k0 K x))
def N1 (x:ab ps)(q0:St->R):A1->R:=λa=>aY v1 (ev K (sub body [1,0,0,1,0,0,1,0,0])) K (S1 x a) (k1 K x q0)
end Q240
namespace Q241
abbrev ps:Pz:=[.rd (.list false 46 t2),.rd I6,.rd I6,.iop I6,.fn [t2,t2] I6]
abbrev rs:Rq:=[.v I6,.v I6]
abbrev R:=Rr rs ps
def f (K:Nat)(x:ab ps):R:=(idx x.1 x.2.2.1).bind λy1=>(idx x.1 x.2.1).bind λy2=>(x.2.2.2.2.1 (y1,y2,())).bind λy3=>bif decide (y3<0) then (some ((x.2.2.1,x.2.1,()),wr .i64 (x.2.2.2.1+1),())) else (some ((x.2.1,x.2.2.1,()),x.2.2.2.1,()))
def c:=Z1 325 (f K)
end Q241
namespace Q242
abbrev ps:Pz:=[.rd (.list false 46 t2),.rd I6,.rd I6,.rd I6,.iop I6,.fn [t2,t2] I6]
abbrev rs:Rq:=[.v I6]
abbrev R:=Rr rs ps
def f (x:ab ps):R:=(Q241.f K (x.1,x.2.1,x.2.2.1,x.2.2.2.2.1,x.2.2.2.2.2.1,())).bind λy1=>(Q241.f K (x.1,y1.1.2.1,x.2.2.2.1,y1.2.1,x.2.2.2.2.2.1,())).bind λy2=>(Q241.f K (x.1,y1.1.1,y2.1.1,y2.2.1,x.2.2.2.2.2.1,())).bind λy3=>some ((y3.1.2.1,()),y3.2.1,())
def c:=Z1 305 (f K)
end Q242
namespace Q243
abbrev ps:Pz:=[.rd (.list false 46 t2),.rd I6,.iop I6,.fn [t2,t2] I6]
abbrev rs:Rq:=[.v I6]
abbrev R:=Rr rs ps
def f (x:ab ps):R:=(Q242.f K (x.1,wr .i64 (x.2.1-1),x.2.1,wr .i64 (x.2.1+1),x.2.2.1,x.2.2.2.1,())).bind λy1=>some ((y1.1.1,()),y1.2.1,())
def c:=Z1 304 (f K)
end Q243
namespace Q244
abbrev ps:Pz:=[.rd (.list false 46 t2),.rd I6,.rd I6,.fn [t2,t2] I6]
abbrev rs:Rq:=[.v I6,.v I6]
abbrev R:=Rr rs ps
def f (x:ab ps):R:=let b1:=x.2.2.2.1;let j3:=wr .i64 (x.2.2.1-x.2.1);let j1:=wr .i64 (FL j3 4);let j2:=x.2.1+(wr .i64 (j1*2));bif decide (j3>=8) then (let j4:=x.2.1+(wr .i64 (j1*1));let j5:=x.2.1+(wr .i64 (j1*3));bif decide (j3>=50) then ((Q243.f K (x.1,wr .i64 j4,0,b1,())).bind λy1=>(Q243.f K (x.1,wr .i64 j2,y1.2.1,b1,())).bind λy2=>(Q243.f K (x.1,wr .i64 j5,y2.2.1,b1,())).bind λy3=>(Q242.f K (x.1,y1.1.1,y2.1.1,y3.1.1,y3.2.1,b1,())).bind λy4=>bif y4.2.1==0 then (some ((y4.1.1,1,()),())) else (bif y4.2.1==12 then (some ((y4.1.1,2,()),())) else (some ((y4.1.1,0,()),())))) else ((Q242.f K (x.1,wr .i64 j4,wr .i64 j2,wr .i64 j5,0,b1,())).bind λy5=>bif y5.2.1==0 then (some ((y5.1.1,1,()),())) else (bif y5.2.1==12 then (some ((y5.1.1,2,()),())) else (some ((y5.1.1,0,()),()))))) else (some ((wr .i64 j2,1,()),()))
def c:=Z1 260 (f K)
end Q244
namespace Q245
abbrev ps:Pz:=[.io (.list true 46 t2),.rd I6,.rd I6,.rd I6,.fn [t2,t2] I6]
abbrev rs:Rq:=[]
abbrev Res:=ai rs×ag ps
abbrev R:=Option Res
abbrev A0:=Unit
def s0 (x:ab ps)(r0:A0->R)(a:A0):R:=let j1:=(x.1,x.2.1,x.2.2.1,x.2.2.2.2.1,());bif decide ((wr .i64 (x.2.2.1-x.2.1))<=12) then ((Q240.f K j1).bind λy1=>some ((),y1.2.1,())) else (bif x.2.2.2.1==0 then none else ((Q244.f K j1).bind λy2=>bif y2.1.2.1==2 then none else (bif y2.1.2.1==1 then none else (bif decide (x.2.1>0) then ((idx x.1 (wr .i64 (x.2.1-1))).bind λ_=>(idx x.1 (FK (wr .i64 (x.2.1-1)):Nat)).bind λy4=>(idx x.1 y2.1.1).bind λ_=>(idx x.1 (FK y2.1.1:Nat)).bind λy6=>(x.2.2.2.2.1 (y4,y6,())).bind λy7=>bif !(decide (y7<0)) then none else none) else none))))
def l0 (x:ab ps):A0->R:=ae (s0 K x) K
def pre (K:Nat)(N0:A0->R)(x:ab ps):R:=N0 ()
def f (x:ab ps):R:=pre K (l0 K x) x
def c:=Z1 195 (f K)
end Q245
namespace Q246
abbrev ps:Pz:=[.io (.list true 46 t2),.fn [t2,t2] I6]
abbrev rs:Rq:=[]
abbrev R:=Rr rs ps
def f (x:ab ps):R:=(Q196.f K (wr .u64 (FJ x.1:Int),())).bind λy1=>(Q245.f K (x.1,0,(FJ x.1:Int),y1.1.1,x.2.1,())).bind λy2=>some ((),y2.2.1,())
def c:=Z1 128 (f K)
end Q246
namespace Q247
abbrev ps:Pz:=[.own (.list true 46 t2)]
abbrev rs:Rq:=[.v (.list true 46 t2)]
abbrev R:=Rr rs ps
def f (K:Nat)(x:ab ps):R:=bif true&&decide ((FJ x.1:Int)=(FJ x.1:Int))&&decide ((FJ x.1:Int)=(FJ x.1:Int))&&true then (some ((x.1,()),())) else none
def c:=Z1 129 (f K)
end Q247
namespace Q248
abbrev ps:Pz:=[.rd t26]
abbrev rs:Rq:=[.v (.list true 46 t2)]
abbrev R:=Rr rs ps
abbrev A0:=List (Ty.den t2)×Int
def s0 (x:ab ps)(r0:A0->R)(a:A0):R:=let b1:=x.1.2.2.2.2.2.2.2.2.2.2.2.2.2.2;bif decide (a.2<(FJ b1:Int)) then ((idx b1 a.2).bind λy2=>bif decide ((FJ a.1+FJ y2.2)*32<=am) then (r0 (a.1++y2.2,wr .i64 (a.2+1))) else none) else ((Q246.f K (a.1,λy3=>(Q153.f K (y3.1,y3.2.1,())).map λy=>y.1.1,())).bind λy4=>(Q247.f K (y4.2.1,())).bind λy5=>some ((y5.1.1,()),()))
def l0 (x:ab ps):A0->R:=ae (s0 K x) K
def pre (N0:A0->R)(x:ab ps):R:=(Q1.f K (x.1.2.2.2.2.2.2.2.2.1,())).bind λy1=>N0 (y1.1.1,0)
def f (x:ab ps):R:=pre K (l0 K x) x
def c:=Z1 76 (f K)
end Q248
namespace Q249
abbrev ps:Pz:=[.rd t26]
abbrev rs:Rq:=[.v (.list true 46 t2)]
abbrev R:=Rr rs ps
def f (x:ab ps):R:=(Q167.f K (x.1,())).bind λy1=>bif !y1.1.1 then (some (([],()),())) else (bif !x.1.2.1 then (some (([],()),())) else ((Q248.f K (x.1,())).bind λy2=>some ((y2.1.1,()),())))
def c:=Z1 24 (f K)
end Q249
namespace Q250
abbrev ps:Pz:=[.rd (.list false 5 (.int .u8))]
abbrev rs:Rq:=[.v .bool]
abbrev R:=Rr rs ps
def f (x:ab ps):R:=bif decide ((FJ x.1:Int)>1048576) then (some ((true,()),())) else ((Q129.f K (x.1,())).bind λy1=>(Q223.f K (y1.1.1,y1.1.2.1,())).bind λy2=>(Q232.f K (y1.1.1,y1.1.2.1,())).bind λy3=>(Q236.f K (y2.1.1,y3.1.1,())).bind λy4=>let j1:R:=(Q236.f K (y2.1.1,y3.1.1,())).bind λy5=>some ((y5.1.1,()),());bif !y4.1.1 then j1 else ((Q238.f K (y2.1.2.1,y3.1.2.1,())).bind λy6=>bif !y6.1.1 then j1 else ((Q239.f K (y1.1.1,y1.1.2.1,())).bind λy8=>bif !y8.1.1 then j1 else ((Q223.f K (y2.1.1,y1.1.2.1,())).bind λy10=>(Q249.f K (y2.1.1,())).bind λy11=>(Q249.f K (y10.1.1,())).bind λy12=>(Q233.f K (y11.1.1,y12.1.1,())).bind λy13=>bif y13.1.1 then (bif y2.1.1.2.2.2.2.1==y10.1.1.2.2.2.2.1 then (some (((FJ y2.1.1.2.2.2.2.2.2.2.2.2.2.2.1:Int)==(FJ y10.1.1.2.2.2.2.2.2.2.2.2.2.2.1:Int),()),())) else (some ((false,()),()))) else (some ((false,()),()))))))
def c:=Z1 5 (f K)
end Q250
end
end Go.Proofs.YtmibehbhnkeaiaaGreatEv
