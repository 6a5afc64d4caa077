/- The functions, on plain values. Printed by run3.py. -/
import Derived.Test.YtadlacffdemoiaaGreatFns0
set_option linter.unusedVariables false
set_option maxRecDepth 100000
set_option linter.unusedVariables false
set_option linter.unusedSimpArgs false
open Int renaming toNat->BB,tdiv->BC,tmod->BD,fdiv->BE
open List renaming length->BA
namespace Go.Proofs.YtadlacffdemoiaaGreatEv
open Go Go.Proofs
noncomputable section
variable (K:Nat)
namespace Q116
abbrev ps:List PK:=[.own (.list true 40 t2),.rd t2]
abbrev rs:List RK:=[.v (.list true 40 t2),.v .bool]
abbrev R:=Option (ai rs×ah ps)
abbrev A0:=Int
def s0 (K:Nat)(x:ab ps)(r0:A0->R)(a:A0):R:=let j1:R:=bif decide (0<=0)&&decide (0<=a)&&decide (a<=(BA x.1:Int))&&true then (let j2:=(x.1.take (BB a)).drop (BB 0);bif decide ((BA ([]:List (Ty.den t2))+BA j2)*32<=am) then (bif decide ((BA ([]++j2)+BA ([x.2.1]))*32<=am) then (bif decide (0<=a)&&decide (a<=(BA x.1:Int))&&decide ((BA x.1:Int)<=(BA x.1:Int))&&true then (let j3:=((x.1.take (BB (BA x.1:Int))).drop (BB a));bif decide ((BA (([]++j2)++([x.2.1]))+BA j3)*32<=am) then (some (((([]++j2)++([x.2.1]))++j3,true,()),())) else none) else none) else none) else none) else none;bif decide (a<(BA x.1:Int)) then ((idx x.1 a).bind λ_=>(idx x.1 (BB a:Nat)).bind λy8=>bif decide (y8.1<x.2.1.1) then (r0 (wr .i64 (a+1))) else j1) else j1
def l0 (x:ab ps):A0->R:=ae (s0 K x) K
def pre (N0:A0->R)(x:ab ps):R:=(Q102.f K (x.1,x.2.1.1,())).bind λy1=>bif decide (y1.1.1>=0) then ((idx x.1 y1.1.1).bind λ_=>(idx x.1 (BB y1.1.1:Nat)).bind λy3=>(Q105.f K (x.2.1,y3,())).bind λy4=>bif !y4.1.1 then (some ((x.1,false,()),())) else (bif decide ((BA ([]:List (Ty.den t2))+BA x.1)*32<=am) then ((idx ([]++x.1) y1.1.1).bind λ_=>(idx ([]++x.1) (BB y1.1.1:Nat)).bind λy6=>some ((([]++x.1).set (BB y1.1.1) x.2.1,true,()),())) else none)) else (N0 0)
def f (x:ab ps):R:=pre K (l0 K x) x
def c:Ctr:=⟨186,ps,rs,true,f K⟩
end Q116
namespace Q117
abbrev ps:List PK:=[.rd I6]
abbrev rs:List RK:=[.v .bool]
abbrev R:=Option (ai rs×ah ps)
def f (K:Nat)(x:ab ps):R:=some ((decide ((BD x.1 4)<3),()),())
def c:Ctr:=⟨180,ps,rs,true,f K⟩
end Q117
namespace Q118
abbrev ps:List PK:=[.iop t74,.rd I6]
abbrev rs:List RK:=[.v t2]
abbrev R:=Option (ai rs×ah ps)
def f (x:ab ps):R:=(Q114.f K (x.1,4,())).bind λy1=>(Q114.f K (y1.2.1,3,())).bind λy2=>(Q114.f K (y2.2.1,12,())).bind λy3=>(Q114.f K (y3.2.1,3,())).bind λy4=>(idx ([y2.1.1,y3.1.1,999]) y4.1.1).bind λ_=>(idx ([y2.1.1,y3.1.1,999]) (BB y4.1.1:Nat)).bind λy6=>(Q114.f K (y4.2.1,4,())).bind λy7=>let j1:=(wr .i64 (x.2.1*4))+y1.1.1;(Q117.f K (wr .i64 j1,())).bind λy8=>some (((wr .i64 j1,y6,wr .i64 (1+y7.1.1),y8.1.1),()),y7.2.1,())
def c:Ctr:=⟨187,ps,rs,false,f K⟩
end Q118
namespace Q119
abbrev ps:List PK:=[.iop t74,.rd I6]
abbrev rs:List RK:=[.v (.list true 40 t2)]
abbrev R:=Option (ai rs×ah ps)
abbrev A0:=List (Ty.den t2)×Int×List (Ty.den (.int .u8))×Int
def s0 (x:ab ps)(r0:A0->R)(a:A0):R:=bif decide (a.2.1>0) then (bif decide (x.2.1<0) then ((Q114.f K (a.2.2,2,())).bind λy2=>(Q118.f K (y2.2.1,y2.1.1,())).bind λy3=>(Q116.f K (a.1,y3.1.1,())).bind λy4=>r0 (y4.1.1,wr .i64 (a.2.1-1),y3.2.1)) else ((Q118.f K (a.2.2,x.2.1,())).bind λy5=>(Q116.f K (a.1,y5.1.1,())).bind λy6=>r0 (y6.1.1,wr .i64 (a.2.1-1),y5.2.1))) else (some ((a.1,()),a.2.2,()))
def l0 (x:ab ps):A0->R:=ae (s0 K x) K
def pre (N0:A0->R)(x:ab ps):R:=(Q114.f K (x.1,6,())).bind λy1=>N0 ([],y1.1.1,y1.2.1)
def f (x:ab ps):R:=pre K (l0 K x) x
def c:Ctr:=⟨125,ps,rs,false,f K⟩
end Q119
namespace Q120
abbrev ps:List PK:=[.iop t74]
abbrev rs:List RK:=[.v t2]
abbrev R:=Option (ai rs×ah ps)
def f (x:ab ps):R:=(Q114.f K (x.1,2,())).bind λy1=>(Q118.f K (y1.2.1,y1.1.1,())).bind λy2=>let b1:=y2.1.1.2;(Q114.f K (y2.2.1,12,())).bind λy3=>bif y3.1.1==0 then ((Q114.f K (y3.2.1,2,())).bind λy4=>(idx ([(-1),8]:List (Int)) y4.1.1).bind λ_=>(idx ([(-1),8]:List (Int)) (BB y4.1.1:Nat)).bind λy6=>some (((y6,b1),()),y4.2.1,())) else (bif y3.1.1==1 then ((Q114.f K (y3.2.1,2,())).bind λy7=>let j1:=([(-1),1000]:List (Int));(idx j1 y7.1.1).bind λ_=>(idx j1 (BB y7.1.1:Nat)).bind λy9=>some (((y2.1.1.1,y9,b1.2),()),y7.2.1,())) else (bif y3.1.1==2 then ((Q114.f K (y3.2.1,2,())).bind λy10=>(idx ([0,5]:List (Int)) y10.1.1).bind λ_=>(idx ([0,5]:List (Int)) (BB y10.1.1:Nat)).bind λy12=>some (((y2.1.1.1,b1.1,y12,b1.2.2),()),y10.2.1,())) else (bif y3.1.1==3 then (some (((y2.1.1.1,b1.1,b1.2.1,!b1.2.2),()),y3.2.1,())) else (some ((y2.1.1,()),y3.2.1,())))))
def c:Ctr:=⟨126,ps,rs,false,f K⟩
end Q120
namespace Q121
abbrev ps:List PK:=[.iop t74]
abbrev rs:List RK:=[.v (.list true 40 t2)]
abbrev R:=Option (ai rs×ah ps)
def f (x:ab ps):R:=(Q119.f K (x.1,(-1),())).bind λy1=>bif decide ((BA y1.1.1:Int)>0) then ((Q114.f K (y1.2.1,12,())).bind λy2=>bif y2.1.1==0 then ((Q114.f K (y2.2.1,(BA y1.1.1:Int),())).bind λy3=>(Q114.f K (y3.2.1,3,())).bind λy4=>let j1:=(BB y3.1.1:Nat);bif y4.1.1==0 then ((Q120.f K (y4.2.1,())).bind λy5=>(idx y1.1.1 y3.1.1).bind λ_=>(idx y1.1.1 j1).bind λy7=>some ((y1.1.1.set (BB y3.1.1) y5.1.1,()),y5.2.1,())) else (bif y4.1.1==1 then ((idx y1.1.1 y3.1.1).bind λ_=>(idx y1.1.1 j1).bind λy9=>bif decide ((BA y1.1.1+BA ([y9]))*32<=am) then (some ((y1.1.1++([y9]),()),y4.2.1,())) else none) else ((idx y1.1.1 y3.1.1).bind λ_=>(idx y1.1.1 j1).bind λy11=>some ((y1.1.1.set (BB y3.1.1) (y11.1,y11.2.1,0,y11.2.2.2),()),y4.2.1,())))) else (some ((y1.1.1,()),y2.2.1,()))) else (some ((y1.1.1,()),y1.2.1,()))
def c:Ctr:=⟨79,ps,rs,false,f K⟩
end Q121
namespace Q122
abbrev ps:List PK:=[.iop t74,.rd I6]
abbrev rs:List RK:=[.v (.list true 50 t3)]
abbrev R:=Option (ai rs×ah ps)
abbrev A0:=List (Ty.den t3)×List (Ty.den t2)×Int×List (Ty.den (.int .u8))×Int
def s0 (x:ab ps)(r0:A0->R)(a:A0):R:=bif decide (a.2.2.1<(BA a.2.1:Int)) then ((idx a.2.1 a.2.2.1).bind λ_=>(idx a.2.1 (BB a.2.2.1:Nat)).bind λy3=>(Q114.f K (a.2.2.2,4,())).bind λy4=>let j1:=[(y3,wr .i64 (1+y4.1.1))];bif decide ((BA a.1+BA j1)*40<=am) then (r0 (a.1++j1,a.2.1,wr .i64 (a.2.2.1+1),y4.2.1)) else none) else (some ((a.1,()),a.2.2.2,()))
def l0 (x:ab ps):A0->R:=ae (s0 K x) K
def pre (N0:A0->R)(x:ab ps):R:=(Q119.f K (x.1,x.2.1,())).bind λy1=>N0 ([],y1.1.1,0,y1.2.1)
def f (x:ab ps):R:=pre K (l0 K x) x
def c:Ctr:=⟨127,ps,rs,false,f K⟩
end Q122
namespace Q123
abbrev ps:List PK:=[.iop t74]
abbrev rs:List RK:=[.v (.list true 50 t3)]
abbrev R:=Option (ai rs×ah ps)
def f (x:ab ps):R:=(Q122.f K (x.1,(-1),())).bind λy1=>bif decide ((BA y1.1.1:Int)>0) then ((Q114.f K (y1.2.1,10,())).bind λy2=>bif y2.1.1==0 then ((Q114.f K (y2.2.1,(BA y1.1.1:Int),())).bind λy3=>(Q114.f K (y3.2.1,3,())).bind λy4=>let j1:=(BB y3.1.1:Nat);bif y4.1.1==0 then ((Q114.f K (y4.2.1,2,())).bind λy5=>(idx ([0,5]:List (Int)) y5.1.1).bind λ_=>(idx ([0,5]:List (Int)) (BB y5.1.1:Nat)).bind λy7=>(idx y1.1.1 y3.1.1).bind λ_=>(idx y1.1.1 j1).bind λy9=>some ((y1.1.1.set (BB y3.1.1) (y9.1,y7),()),y5.2.1,())) else (bif y4.1.1==1 then ((Q120.f K (y4.2.1,())).bind λy10=>(idx y1.1.1 y3.1.1).bind λ_=>(idx y1.1.1 j1).bind λy12=>some ((y1.1.1.set (BB y3.1.1) (y10.1.1,y12.2),()),y10.2.1,())) else ((idx y1.1.1 y3.1.1).bind λ_=>(idx y1.1.1 j1).bind λy14=>bif decide ((BA y1.1.1+BA ([y14]))*40<=am) then (some ((y1.1.1++([y14]),()),y4.2.1,())) else none))) else (some ((y1.1.1,()),y2.2.1,()))) else (some ((y1.1.1,()),y1.2.1,()))
def c:Ctr:=⟨80,ps,rs,false,f K⟩
end Q123
namespace Q124
abbrev ps:List PK:=[]
abbrev rs:List RK:=[.v t9]
abbrev R:=Option (ai rs×ah ps)
def f (K:Nat)(x:ab ps):R:=some (((0,0,0,1500),()),())
def c:Ctr:=⟨188,ps,rs,true,f K⟩
end Q124
namespace Q125
abbrev ps:List PK:=[.iop t74]
abbrev rs:List RK:=[.v t9]
abbrev R:=Option (ai rs×ah ps)
def f (x:ab ps):R:=(Q114.f K (x.1,6,())).bind λy1=>bif y1.1.1==0 then ((Q124.f K ()).bind λy2=>some ((y2.1.1,()),y1.2.1,())) else ((Q114.f K (y1.2.1,3,())).bind λy3=>let j1:=([10,1000,100000]:List (Int));(idx j1 y3.1.1).bind λ_=>(idx j1 (BB y3.1.1:Nat)).bind λy5=>(Q114.f K (y3.2.1,wr .i64 ((wr .i64 (2*y5))+1),())).bind λy6=>(Q114.f K (y6.2.1,wr .i64 ((wr .i64 (2*y5))+1),())).bind λy7=>(Q114.f K (y7.2.1,wr .i64 (y5+1),())).bind λy8=>(Q114.f K (y8.2.1,1500,())).bind λy9=>some (((wr .i64 (y6.1.1-y5),wr .i64 (y7.1.1-y5),y8.1.1,wr .i64 (1+y9.1.1)),()),y9.2.1,()))
def c:Ctr:=⟨128,ps,rs,false,f K⟩
end Q125
namespace Q126
abbrev ps:List PK:=[.iop t74]
abbrev rs:List RK:=[.v t9]
abbrev R:=Option (ai rs×ah ps)
def f (x:ab ps):R:=(Q125.f K (x.1,())).bind λy1=>(Q114.f K (y1.2.1,16,())).bind λy2=>bif y2.1.1==0 then ((Q114.f K (y2.2.1,3,())).bind λy3=>let j1:=([100000,100001,(-100001)]:List (Int));(idx j1 y3.1.1).bind λ_=>(idx j1 (BB y3.1.1:Nat)).bind λy5=>some (((y5,y1.1.1.2),()),y3.2.1,())) else (bif y2.1.1==1 then ((Q114.f K (y2.2.1,2,())).bind λy6=>let j2:=([(-1),100001]:List (Int));(idx j2 y6.1.1).bind λ_=>(idx j2 (BB y6.1.1:Nat)).bind λy8=>some (((y1.1.1.1,y1.1.1.2.1,y8,y1.1.1.2.2.2),()),y6.2.1,())) else (bif y2.1.1==2 then ((Q114.f K (y2.2.1,2,())).bind λy9=>(idx ([0,1501]:List (Int)) y9.1.1).bind λ_=>(idx ([0,1501]:List (Int)) (BB y9.1.1:Nat)).bind λy11=>some (((y1.1.1.1,y1.1.1.2.1,y1.1.1.2.2.1,y11),()),y9.2.1,())) else (some ((y1.1.1,()),y2.2.1,()))))
def c:Ctr:=⟨81,ps,rs,false,f K⟩
end Q126
namespace Q127
abbrev ps:List PK:=[.iop t74,.rd t26]
abbrev rs:List RK:=[.v t26]
abbrev R:=Option (ai rs×ah ps)
def f (x:ab ps):R:=(Q115.f K (x.2.1,())).bind λy1=>let b3:=y1.1.1.2;let b1:=b3.2.2.2.2.2.2.2;let b2:=b1.2.2.2;(Q114.f K (x.1,12,())).bind λy2=>bif y2.1.1==0 then ((Q121.f K (y2.2.1,())).bind λy3=>some (((zcp8 y1.1.1 (y3.1.1,b1.2)),()),y3.2.1,())) else (bif y2.1.1==1 then ((Q123.f K (y2.2.1,())).bind λy4=>some (((zcp8 y1.1.1 (b1.1,y4.1.1,b1.2.2)),()),y4.2.1,())) else (bif y2.1.1==2 then (some (((zcp4 y1.1.1 (wr .i64 (b3.2.2.2.1+1),b3.2.2.2.2)),()),y2.2.1,())) else (bif y2.1.1==3 then ((Q114.f K (y2.2.1,9,())).bind λy5=>(Q114.f K (y5.2.1,3,())).bind λy6=>(Q114.f K (y6.2.1,3,())).bind λy7=>(Q114.f K (y7.2.1,2,())).bind λy8=>some (((zcp8 y1.1.1 (b1.1,b1.2.1,(wr .i64 (y5.1.1-1),y6.1.1,y7.1.1,y8.1.1==0),b2)),()),y8.2.1,())) else (bif y2.1.1==4 then ((Q114.f K (y2.2.1,8,())).bind λy9=>(Q114.f K (y9.2.1,8,())).bind λy10=>let j3:=[(y9.1.1,0,0,[y10.1.1])];bif decide ((BA b2.1+BA j3)*48<=am) then (some (((zcp8 y1.1.1 (b1.1,b1.2.1,b1.2.2.1,b2.1++j3,b2.2)),()),y10.2.1,())) else none) else (bif y2.1.1==5 then ((Q126.f K (y2.2.1,())).bind λy11=>some (((zcp8 y1.1.1 (zcp4 b1 (y11.1.1,b2.2.2))),()),y11.2.1,())) else (bif y2.1.1==6 then ((Q114.f K (y2.2.1,9,())).bind λy12=>(Q126.f K (y12.2.1,())).bind λy13=>(Q114.f K (y13.2.1,3,())).bind λy14=>let j2:=[(y12.1.1,y13.1.1,[y14.1.1])];bif decide ((BA b2.2.2.1+BA j2)*64<=am) then (some (((zcp8 y1.1.1 (zcp4 b1 (b2.2.1,b2.2.2.1++j2,b2.2.2.2))),()),y14.2.1,())) else none) else (bif y2.1.1==7 then ((Q114.f K (y2.2.1,3,())).bind λy15=>(Q121.f K (y15.2.1,())).bind λy16=>bif decide ((BA b2.2.2.2+BA ([(y15.1.1,y16.1.1)]))*32<=am) then (some (((zcp8 y1.1.1 (zcp4 b1 (b2.2.1,b2.2.2.1,b2.2.2.2++([(y15.1.1,y16.1.1)])))),()),y16.2.1,())) else none) else (bif y2.1.1==8 then (some (((y1.1.1.1,!b3.1,b3.2),()),y2.2.1,())) else (bif y2.1.1==9 then (some (((y1.1.1.1,b3.1,!b3.2.1,b3.2.2),()),y2.2.1,())) else (bif y2.1.1==10 then ((Q114.f K (y2.2.1,3,())).bind λy17=>let j1:=([(-1),999999,1000000]:List (Int));(idx j1 y17.1.1).bind λ_=>(idx j1 (BB y17.1.1:Nat)).bind λy19=>some (((zcp4 y1.1.1 (b3.2.2.2.1,y19,b3.2.2.2.2.2)),()),y17.2.1,())) else ((Q114.f K (y2.2.1,8,())).bind λy20=>(Q114.f K (y20.2.1,3,())).bind λy21=>(idx ([(-1),8,y20.1.1]) y21.1.1).bind λ_=>(idx ([(-1),8,y20.1.1]) (BB y21.1.1:Nat)).bind λy23=>some (((y23,b3),()),y21.2.1,()))))))))))))
def c:Ctr:=⟨31,ps,rs,false,f K⟩
end Q127
namespace Q128
abbrev ps:List PK:=[.rd I6,.rd .bool]
abbrev rs:List RK:=[.v t26]
abbrev R:=Option (ai rs×ah ps)
def f (x:ab ps):R:=(Q97.f K (x.1,0,7,())).bind λy1=>bif !y1.1.1 then (some (((0,false,false,false,0,0,0,0,[],[],(0,0,0,false),[],(0,0,0,0),[],[]),()),())) else ((Q124.f K ()).bind λy2=>some (((x.1,true,false,x.2.1,0,0,0,0,[(x.1,0,1,x.2.1)],[],((-1),0,0,false),[],y2.1.1,[],[]),()),()))
def c:Ctr:=⟨179,ps,rs,true,f K⟩
end Q128
namespace Q129
abbrev ps:List PK:=[]
abbrev rs:List RK:=[.v t91]
abbrev R:=Option (ai rs×ah ps)
abbrev A0:=Int×List (Ty.den t26)×List (Ty.den I6)×List (Ty.den t2)
def s0 (x:ab ps)(r0:A0->R)(a:A0):R:=bif decide (a.1<=7) then ((Q117.f K (a.1,())).bind λy1=>(Q128.f K (a.1,y1.1.1,())).bind λy2=>bif decide ((BA a.2.1+BA ([y2.1.1]))*232<=am) then (bif decide ((BA a.2.2.1+BA ([0]))*8<=am) then ((idx y2.1.1.2.2.2.2.2.2.2.2.1 0).bind λy3=>bif decide ((BA a.2.2.2+BA ([y3]))*32<=am) then (r0 (wr .i64 (a.1+1),a.2.1++([y2.1.1]),a.2.2.1++([0]),a.2.2.2++([y3]))) else none) else none) else none) else (some (((a.2.1,[],a.2.2),()),()))
def l0 (x:ab ps):A0->R:=ae (s0 K x) K
def pre (K:Nat)(N0:A0->R)(x:ab ps):R:=N0 (0,[],[],[])
def f (x:ab ps):R:=pre K (l0 K x) x
def c:Ctr:=⟨120,ps,rs,true,f K⟩
end Q129
namespace Q130
abbrev ps:List PK:=[.rd t47]
abbrev rs:List RK:=[.v .bool]
abbrev R:=Option (ai rs×ah ps)
def f (x:ab ps):R:=let b1:=x.1.2.2.2.2.2;(Q97.f K (x.1.1,1,2,())).bind λy1=>let j1:R:=some ((false,()),());bif !y1.1.1 then j1 else ((Q97.f K (x.1.2.1,1,6,())).bind λy2=>bif !y2.1.1 then j1 else ((Q97.f K (x.1.2.2.1,0,7,())).bind λy3=>bif !y3.1.1 then j1 else ((Q97.f K (x.1.2.2.2.1,0,7,())).bind λy4=>bif !y4.1.1 then j1 else ((Q97.f K (x.1.2.2.2.2.1,0,999999,())).bind λy5=>bif !y5.1.1 then j1 else ((Q97.f K (b1.1,0,7,())).bind λy6=>bif !y6.1.1 then j1 else ((Q109.f K (b1.2.1,())).bind λy7=>bif !y7.1.1 then j1 else ((Q99.f K (b1.2.2,())).bind λy8=>bif !y8.1.1 then j1 else (bif x.1.2.1==6 then (bif decide ((BA b1.2.2:Int)>0) then ((idx b1.2.2 0).bind λy9=>(Q100.f K (b1.2.2,wr .i64 (BC y9.1 4),())).bind λy10=>some ((y10.1.1,()),())) else j1) else ((Q100.f K (b1.2.2,wr .i64 (BC x.1.2.2.1 4),())).bind λy11=>some ((y11.1.1,()),()))))))))))
def c:Ctr:=⟨64,ps,rs,true,f K⟩
end Q130
namespace Q131
abbrev ps:List PK:=[.rd t26,.rd t47]
abbrev rs:List RK:=[.v .bool]
abbrev R:=Option (ai rs×ah ps)
def f (x:ab ps):R:=let b1:=x.2.1.2.2;let j1:R:=some ((false,()),());bif !x.1.2.1 then j1 else (bif x.1.2.2.1 then j1 else (bif b1.2.1 != x.1.1 then j1 else (bif b1.1==x.1.1 then j1 else ((Q101.f K (x.1.1,())).bind λy1=>let j2:=(b1.2.2.2.2.2,y1.1.1,());bif x.2.1.1==2 then (bif x.2.1.2.1==6 then ((Q101.f K (b1.1,())).bind λy2=>bif y2.1.1 != y1.1.1 then ((Q100.f K j2).bind λy3=>bif y3.1.1 then (some ((true,()),())) else ((Q101.f K (b1.1,())).bind λy4=>(Q100.f K (b1.2.2.2.2.2,y4.1.1,())).bind λy5=>some ((y5.1.1,()),()))) else j1) else j1) else ((Q101.f K (b1.1,())).bind λy6=>bif y6.1.1==y1.1.1 then (bif x.2.1.2.1 != 6 then (some ((true,()),())) else ((Q100.f K j2).bind λy7=>some ((!y7.1.1,()),()))) else j1)))))
def c:Ctr:=⟨65,ps,rs,true,f K⟩
end Q131
namespace Q132
abbrev ps:List PK:=[.rd (.list false 40 t2),.rd t2]
abbrev rs:List RK:=[.v (.list false 40 t2),.v .bool]
abbrev R:=Option (ai rs×ah ps)
abbrev A0:=Int
def s0 (K:Nat)(x:ab ps)(r0:A0->R)(a:A0):R:=let j1:R:=bif decide (0<=0)&&decide (0<=a)&&decide (a<=(BA x.1:Int))&&true then (let j2:=(x.1.take (BB a)).drop (BB 0);bif decide ((BA ([]:List (Ty.den t2))+BA j2)*32<=am) then (bif decide ((BA ([]++j2)+BA ([x.2.1]))*32<=am) then (bif decide (0<=a)&&decide (a<=(BA x.1:Int))&&decide ((BA x.1:Int)<=(BA x.1:Int))&&true then (let j3:=((x.1.take (BB (BA x.1:Int))).drop (BB a));bif decide ((BA (([]++j2)++([x.2.1]))+BA j3)*32<=am) then (some (((([]++j2)++([x.2.1]))++j3,true,()),())) else none) else none) else none) else none) else none;bif decide (a<(BA x.1:Int)) then ((idx x.1 a).bind λy6=>bif decide (y6.1<x.2.1.1) then (r0 (wr .i64 (a+1))) else j1) else j1
def l0 (x:ab ps):A0->R:=ae (s0 K x) K
def pre (N0:A0->R)(x:ab ps):R:=(Q102.f K (x.1,x.2.1.1,())).bind λy1=>bif decide (y1.1.1>=0) then ((idx x.1 y1.1.1).bind λy2=>(Q105.f K (x.2.1,y2,())).bind λy3=>bif !y3.1.1 then (some ((x.1,false,()),())) else (bif decide ((BA ([]:List (Ty.den t2))+BA x.1)*32<=am) then ((idx ([]++x.1) y1.1.1).bind λ_=>(idx ([]++x.1) (BB y1.1.1:Nat)).bind λy5=>some ((([]++x.1).set (BB y1.1.1) x.2.1,true,()),())) else none)) else (N0 0)
def f (x:ab ps):R:=pre K (l0 K x) x
def c:Ctr:=⟨186,ps,rs,false,f K⟩
end Q132
namespace Q133
abbrev ps:List PK:=[.rd (.list false 50 t3),.rd t2]
abbrev rs:List RK:=[.v (.list false 50 t3)]
abbrev R:=Option (ai rs×ah ps)
abbrev A0:=List (Ty.den t3)×Bool×Int
def s0 (x:ab ps)(r0:A0->R)(a:A0):R:=let j3:=BA a.1+BA ([(x.2.1,4)]);bif decide (a.2.2<(BA x.1:Int)) then ((idx x.1 a.2.2).bind λy1=>let j2:R:=bif y1.1.1 != x.2.1.1 then ((idx x.1 a.2.2).bind λy4=>bif decide ((BA a.1+BA ([y4]))*40<=am) then (r0 (a.1++([y4]),a.2.1,wr .i64 (a.2.2+1))) else none) else (r0 (a.1,a.2.1,wr .i64 (a.2.2+1)));let j1:R:=bif !a.2.1 then (bif decide (y1.1.1>=x.2.1.1) then (bif decide (j3*40<=am) then (bif y1.1.1 != x.2.1.1 then ((idx x.1 a.2.2).bind λy3=>bif decide ((BA (a.1++([(x.2.1,4)]))+BA ([y3]))*40<=am) then (r0 ((a.1++([(x.2.1,4)]))++([y3]),true,wr .i64 (a.2.2+1))) else none) else (r0 (a.1++([(x.2.1,4)]),true,wr .i64 (a.2.2+1)))) else none) else j2) else j2;bif y1.1.1==x.2.1.1 then ((Q105.f K (x.2.1,y1.1,())).bind λy2=>bif !y2.1.1 then (some ((x.1,()),())) else j1) else j1) else (bif !a.2.1 then (bif decide (j3*40<=am) then (some ((a.1++([(x.2.1,4)]),()),())) else none) else (some ((a.1,()),())))
def l0 (x:ab ps):A0->R:=ae (s0 K x) K
def pre (K:Nat)(N0:A0->R)(x:ab ps):R:=N0 ([],false,0)
def f (x:ab ps):R:=pre K (l0 K x) x
def c:Ctr:=⟨221,ps,rs,false,f K⟩
end Q133
namespace Q134
abbrev ps:List PK:=[.rd t26,.rd t2,.rd I6]
abbrev rs:List RK:=[.v (.list true 83 t6)]
abbrev R:=Option (ai rs×ah ps)
abbrev A0:=List (Ty.den t6)×Bool×Int
def s0 (K:Nat)(x:ab ps)(r0:A0->R)(a:A0):R:=let j1:=[(x.2.1.1,x.2.1.2.1,x.1.2.2.2.2.2.1,[x.2.2.1])];let j3:=BA a.1+BA j1;bif decide (a.2.2<(BA x.1.2.2.2.2.2.2.2.2.2.2.2.1:Int)) then ((idx x.1.2.2.2.2.2.2.2.2.2.2.2.1 a.2.2).bind λy1=>let j2:R:=bif y1.1 != x.2.1.1 then (bif decide ((BA a.1+BA ([y1]))*48<=am) then (r0 (a.1++([y1]),a.2.1,wr .i64 (a.2.2+1))) else none) else (r0 (a.1,a.2.1,wr .i64 (a.2.2+1)));bif !a.2.1 then (bif decide (y1.1>=x.2.1.1) then (bif decide (j3*48<=am) then (bif y1.1 != x.2.1.1 then (bif decide ((BA (a.1++j1)+BA ([y1]))*48<=am) then (r0 ((a.1++j1)++([y1]),true,wr .i64 (a.2.2+1))) else none) else (r0 (a.1++j1,true,wr .i64 (a.2.2+1)))) else none) else j2) else j2) else (bif !a.2.1 then (bif decide (j3*48<=am) then (some ((a.1++j1,()),())) else none) else (some ((a.1,()),())))
def l0 (x:ab ps):A0->R:=ae (s0 K x) K
def pre (K:Nat)(N0:A0->R)(x:ab ps):R:=N0 ([],x.2.1.2.2.1 != 2,0)
def f (x:ab ps):R:=pre K (l0 K x) x
def c:Ctr:=⟨222,ps,rs,false,f K⟩
end Q134
namespace Q135
abbrev ps:List PK:=[.own t38,.rd t2,.rd I6]
abbrev rs:List RK:=[.v t38]
abbrev R:=Option (ai rs×ah ps)
def f (x:ab ps):R:=let b1:=x.1.2.2.2.2.2.2.2.2;(Q132.f K (b1.1,x.2.1,())).bind λy1=>bif !y1.1.2.1 then (some ((x.1,()),())) else ((Q102.f K (b1.1,x.2.1.1,())).bind λy2=>let j3:=(b1.2.1,x.2.1,());let j1:R:=(Q133.f K j3).bind λy7=>(Q134.f K ((zcp8 x.1 (y1.1.1,y7.1.1,b1.2.2)),x.2.1,x.2.2.1,())).bind λy8=>some (((zcp8 x.1 (y1.1.1,y7.1.1,b1.2.2.1,y8.1.1,b1.2.2.2.2)),()),());bif decide (y2.1.1>=0) then ((idx b1.1 y2.1.1).bind λy3=>bif y3.2.1==x.2.1.2.1 then ((idx b1.1 y2.1.1).bind λy4=>(Q133.f K j3).bind λy5=>let j2:=(zcp8 x.1 (y1.1.1,y5.1.1,b1.2.2));bif !(y4.2.2.1==x.2.1.2.2.1) then ((Q134.f K (j2,x.2.1,x.2.2.1,())).bind λy6=>some (((zcp8 x.1 (y1.1.1,y5.1.1,b1.2.2.1,y6.1.1,b1.2.2.2.2)),()),())) else (some ((j2,()),()))) else j1) else j1)
def c:Ctr:=⟨163,ps,rs,false,f K⟩
end Q135
namespace Q136
abbrev ps:List PK:=[.own t38,.rd t2]
abbrev rs:List RK:=[.v t38]
abbrev R:=Option (ai rs×ah ps)
def f (x:ab ps):R:=(Q102.f K (x.1.2.2.2.2.2.2.2.2.1,x.1.1,())).bind λy1=>(idx x.1.2.2.2.2.2.2.2.2.1 y1.1.1).bind λy2=>(Q105.f K (x.2.1,y2,())).bind λy3=>bif !y3.1.1 then (some ((x.1,()),())) else (bif decide (x.2.1.2.1>=999) then (some ((x.1,()),())) else ((Q135.f K ((zcp4 x.1 (wr .i64 (x.2.1.2.1+1),x.1.2.2.2.2.2)),(x.1.1,wr .i64 (x.2.1.2.1+1),1,x.1.2.2.2.1),x.1.1,())).bind λy4=>some ((y4.1.1,()),())))
def c:Ctr:=⟨161,ps,rs,false,f K⟩
end Q136
namespace Q137
abbrev ps:List PK:=[.own t38,.rd t2,.rd I6]
abbrev rs:List RK:=[.v t38]
abbrev R:=Option (ai rs×ah ps)
abbrev A1:=Int×Int×List (Ty.den t6)×Int×Int×Int×List (Ty.den I6)
abbrev A0:=Int×List (Ty.den t6)
def s1 (K:Nat)(x:ab ps)(r0:A0->R)(r1:A1->R)(a:A1):R:=let b1:=a.2.2.2.2.2;let j2:=(BA b1.2:Int);let j1:R:=bif decide (0<=0)&&decide (0<=a.2.1)&&decide (a.2.1<=j2)&&true then (let j3:=(b1.2.take (BB a.2.1)).drop (BB 0);bif decide ((BA ([]:List (Ty.den I6))+BA j3)*8<=am) then (bif decide ((BA ([]++j3)+BA ([x.2.2.1]))*8<=am) then (bif decide (0<=a.2.1)&&decide (a.2.1<=j2)&&decide (j2<=j2)&&true then (let j5:=(b1.2.take (BB j2)).drop (BB a.2.1);bif decide ((BA (([]++j3)++([x.2.2.1]))+BA j5)*8<=am) then ((idx a.2.2.1 a.1).bind λ_=>(idx a.2.2.1 (BB a.1:Nat)).bind λy5=>r0 (wr .i64 (a.1+1),a.2.2.1.set (BB a.1) (a.2.2.2.1,a.2.2.2.2.1,b1.1,(([]++j3)++([x.2.2.1]))++j5))) else none) else none) else none) else none) else none;let j4:R:=bif a.2.1==j2 then j1 else ((idx b1.2 a.2.1).bind λy6=>bif y6 != x.2.2.1 then j1 else (r0 (wr .i64 (a.1+1),a.2.2.1)));bif decide (a.2.1<j2) then ((idx b1.2 a.2.1).bind λy3=>bif decide (y3<x.2.2.1) then (r1 (a.1,wr .i64 (a.2.1+1),a.2.2)) else j4) else j4
def l1 (x:ab ps)(r0:A0->R):A1->R:=ae (s1 K x r0) K
def s0 (K:Nat)(x:ab ps)(N1:A1->R)(r0:A0->R)(a:A0):R:=let b1:=x.1.2.2.2.2.2.2.2.2;bif decide (a.1<(BA a.2:Int)) then ((idx a.2 a.1).bind λ_=>(idx a.2 (BB a.1:Nat)).bind λy2=>let j1:R:=r0 (wr .i64 (a.1+1),a.2);bif y2.1 != x.2.1.1 then j1 else (bif y2.2.1 != x.2.1.2.1 then j1 else (bif x.2.1.2.2.1 != 2 then j1 else (N1 (a.1,0,a.2,y2))))) else (some (((zcp8 x.1 (b1.1,b1.2.1,b1.2.2.1,a.2,b1.2.2.2.2)),()),()))
def l0 (x:ab ps):A0->R:=ae (λr0 a=>s0 K x (l1 K x r0) r0 a) K
def pre (K:Nat)(N0:A0->R)(x:ab ps):R:=N0 (0,x.1.2.2.2.2.2.2.2.2.2.2.2.1)
def f (x:ab ps):R:=pre K (l0 K x) x
def c:Ctr:=⟨162,ps,rs,false,f K⟩
def G (K:Nat):List Ctr:=[]
def v1:List (Nat×List Coe):=[(2,[.keep]),(3,[.keep]),(4,[.keep]),(6,[.keep]),(7,[.keep]),(8,[.keep]),(9,[.keep]),(100003,Kc4),(100004,Kc1),(100006,Kc2),(100008,Kc3)]
def v0:List (Nat×List Coe):=[(2,[.keep]),(3,[.keep]),(4,[.keep]),(6,[.keep]),(7,[.keep]),(100003,Kc4),(100004,Kc1),(100006,Kc2)]
def L:List (Nat×List (Nat×List Coe)):=[(8,v1),(3,v0)]
def body:Code:=cQ Tryz.f162
abbrev ev:Code->St->(Ex->St->R)->R:=evK (G K) T_NS L K
abbrev fin:Ex->St->R:=di T_NS ps rs false Tryz.f162.results.toList
def S0 (x:ab ps)(a:A0):St:=av [(2,⟨0,.one,[.int .i64 x.2.2.1]⟩),(3,⟨0,.one,[.bp 100003 0]⟩),(4,⟨0,.one,[.bp 100004 0]⟩),(6,⟨0,.one,[.bp 100006 0]⟩),(7,⟨0,.one,[.int .i64 a.1]⟩),(100003,⟨0,.agg,[.int .i64 x.1.1,.bool x.1.2.1,.bool x.1.2.2.1,.bool x.1.2.2.2.1,.int .i64 x.1.2.2.2.2.1,.int .i64 x.1.2.2.2.2.2.1,.int .i64 x.1.2.2.2.2.2.2.1,.int .i64 x.1.2.2.2.2.2.2.2.1,.ro true 40 t2 x.1.2.2.2.2.2.2.2.2.1,.ro true 50 t3 x.1.2.2.2.2.2.2.2.2.2.1,.int .i64 x.1.2.2.2.2.2.2.2.2.2.2.1.1,.int .i64 x.1.2.2.2.2.2.2.2.2.2.2.1.2.1,.int .i64 x.1.2.2.2.2.2.2.2.2.2.2.1.2.2.1,.bool x.1.2.2.2.2.2.2.2.2.2.2.1.2.2.2,.own true none 83 t6 a.2,.int .i64 x.1.2.2.2.2.2.2.2.2.2.2.2.2.1.1,.int .i64 x.1.2.2.2.2.2.2.2.2.2.2.2.2.1.2.1,.int .i64 x.1.2.2.2.2.2.2.2.2.2.2.2.2.1.2.2.1,.int .i64 x.1.2.2.2.2.2.2.2.2.2.2.2.2.1.2.2.2,.ro true 86 t11 x.1.2.2.2.2.2.2.2.2.2.2.2.2.2.1,.ro true 55 t12 x.1.2.2.2.2.2.2.2.2.2.2.2.2.2.2]⟩),(100004,⟨0,.agg,(w1 x.2.1)⟩),(100006,⟨0,.agg,[.int .i64 0,.bool false,.bool false,.bool false,.int .i64 0,.int .i64 0,.int .i64 0,.int .i64 0,.nil,.nil,.int .i64 0,.int .i64 0,.int .i64 0,.bool false,.nil,.int .i64 0,.int .i64 0,.int .i64 0,.int .i64 0,.nil,.nil]⟩)]
def S1 (x:ab ps)(a:A1):St:=av [(2,⟨0,.one,[.int .i64 x.2.2.1]⟩),(3,⟨0,.one,[.bp 100003 0]⟩),(4,⟨0,.one,[.bp 100004 0]⟩),(6,⟨0,.one,[.bp 100006 0]⟩),(7,⟨0,.one,[.int .i64 a.1]⟩),(8,⟨0,.one,[.bp 100008 0]⟩),(9,⟨0,.one,[.int .i64 a.2.1]⟩),(100003,⟨0,.agg,[.int .i64 x.1.1,.bool x.1.2.1,.bool x.1.2.2.1,.bool x.1.2.2.2.1,.int .i64 x.1.2.2.2.2.1,.int .i64 x.1.2.2.2.2.2.1,.int .i64 x.1.2.2.2.2.2.2.1,.int .i64 x.1.2.2.2.2.2.2.2.1,.ro true 40 t2 x.1.2.2.2.2.2.2.2.2.1,.ro true 50 t3 x.1.2.2.2.2.2.2.2.2.2.1,.int .i64 x.1.2.2.2.2.2.2.2.2.2.2.1.1,.int .i64 x.1.2.2.2.2.2.2.2.2.2.2.1.2.1,.int .i64 x.1.2.2.2.2.2.2.2.2.2.2.1.2.2.1,.bool x.1.2.2.2.2.2.2.2.2.2.2.1.2.2.2,.own true none 83 t6 a.2.2.1,.int .i64 x.1.2.2.2.2.2.2.2.2.2.2.2.2.1.1,.int .i64 x.1.2.2.2.2.2.2.2.2.2.2.2.2.1.2.1,.int .i64 x.1.2.2.2.2.2.2.2.2.2.2.2.2.1.2.2.1,.int .i64 x.1.2.2.2.2.2.2.2.2.2.2.2.2.1.2.2.2,.ro true 86 t11 x.1.2.2.2.2.2.2.2.2.2.2.2.2.2.1,.ro true 55 t12 x.1.2.2.2.2.2.2.2.2.2.2.2.2.2.2]⟩),(100004,⟨0,.agg,(w1 x.2.1)⟩),(100006,⟨0,.agg,[.int .i64 0,.bool false,.bool false,.bool false,.int .i64 0,.int .i64 0,.int .i64 0,.int .i64 0,.nil,.nil,.int .i64 0,.int .i64 0,.int .i64 0,.bool false,.nil,.int .i64 0,.int .i64 0,.int .i64 0,.int .i64 0,.nil,.nil]⟩),(100008,⟨0,.agg,(wa0 a.2.2.2)⟩)]
def k0 (x:ab ps):Ex->St->R:=kAt (ev K) body [1,0,1,0] fin
def N0 (x:ab ps):A0->R:=λa=>aV v0 (ev K (sub body [1,0,1,0,0])) K (S0 x a) (k0 K x)
def k1 (x:ab ps)(q0:St->R):Ex->St->R:=kAt (ev K) (sub body [1,0,1,0,0]) [1,0,0,1,1,1,0,0] (fX v0 q0 (k0 K x))
def N1 (x:ab ps)(q0:St->R):A1->R:=λa=>aV v1 (ev K (sub body [1,0,1,0,0,1,0,0,1,1,1,0,0,0])) K (S1 x a) (k1 K x q0)
end Q137
namespace Q138
abbrev ps:List PK:=[.own t38,.rd (.list false 40 t2),.rd I6]
abbrev rs:List RK:=[.v t38]
abbrev R:=Option (ai rs×ah ps)
abbrev A0:=Int×Int×Bool×Bool×Bool×Int×Int×Int×Int×List (Ty.den t2)×List (Ty.den t3)×Int×Int×Int×Bool×List (Ty.den t6)×Int×Int×Int×Int×List (Ty.den t11)×List (Ty.den t12)
def s0 (x:ab ps)(r0:A0->R)(a:A0):R:=bif decide (a.1<(BA x.2.1:Int)) then ((idx x.2.1 a.1).bind λy1=>bif y1.1==a.2.1 then ((Q136.f K (zc286a0 a.2 (y1,()))).bind λy2=>r0 (wr .i64 (a.1+1),(zc3ec45 y2.1.1))) else ((Q135.f K (zc286a0 a.2 (y1,x.2.2.1,()))).bind λy3=>(Q137.f K (y3.1.1,y1,x.2.2.1,())).bind λy4=>r0 (wr .i64 (a.1+1),(zc3ec45 y4.1.1)))) else (some ((zc286a0 a.2 ()),()))
def l0 (x:ab ps):A0->R:=ae (s0 K x) K
def pre (K:Nat)(N0:A0->R)(x:ab ps):R:=N0 (0,(zc3ec45 x.1))
def f (x:ab ps):R:=pre K (l0 K x) x
def c:Ctr:=⟨100,ps,rs,false,f K⟩
end Q138
namespace Q139
abbrev ps:List PK:=[.rd (.list false 40 t2),.rd (.list false 40 t2)]
abbrev rs:List RK:=[.v (.list true 40 t2)]
abbrev R:=Option (ai rs×ah ps)
abbrev A0:=List (Ty.den t2)×Int
def s0 (x:ab ps)(r0:A0->R)(a:A0):R:=bif decide (a.2<(BA x.2.1:Int)) then ((idx x.2.1 a.2).bind λy3=>(Q116.f K (a.1,y3,())).bind λy4=>r0 (y4.1.1,wr .i64 (a.2+1))) else (some ((a.1,()),()))
def l0 (x:ab ps):A0->R:=ae (s0 K x) K
def pre (N0:A0->R)(x:ab ps):R:=(Q99.f K (x.1,())).bind λy1=>bif !y1.1.1 then (some (([],()),())) else ((Q99.f K (x.2.1,())).bind λy2=>bif !y2.1.1 then (some (([],()),())) else (bif decide ((BA ([]:List (Ty.den t2))+BA x.1)*32<=am) then (N0 ([]++x.1,0)) else none))
def f (x:ab ps):R:=pre K (l0 K x) x
def c:Ctr:=⟨215,ps,rs,true,f K⟩
end Q139
namespace Q140
abbrev ps:List PK:=[.rd t26,.rd I6,.rd (.list false 40 t2)]
abbrev rs:List RK:=[.v (.list true 40 t2)]
abbrev R:=Option (ai rs×ah ps)
abbrev A0:=Int
def s0 (x:ab ps)(r0:A0->R)(a:A0):R:=let b1:=x.1.2.2.2.2.2.2.2.2.2.2.2.2.2.2;bif decide (a<(BA b1:Int)) then ((idx b1 a).bind λy1=>bif y1.1==x.2.1 then ((idx b1 a).bind λy2=>(Q139.f K (y2.2,x.2.2.1,())).bind λy3=>some ((y3.1.1,()),())) else (r0 (wr .i64 (a+1)))) else (bif decide ((BA ([]:List (Ty.den t2))+BA x.2.2.1)*32<=am) then (some (([]++x.2.2.1,()),())) else none)
def l0 (x:ab ps):A0->R:=ae (s0 K x) K
def pre (K:Nat)(N0:A0->R)(x:ab ps):R:=N0 0
def f (x:ab ps):R:=pre K (l0 K x) x
def c:Ctr:=⟨155,ps,rs,true,f K⟩
end Q140
namespace Q141
abbrev ps:List PK:=[.own t38,.rd I6,.rd (.list false 40 t2)]
abbrev rs:List RK:=[.v t38]
abbrev R:=Option (ai rs×ah ps)
abbrev A0:=List (Ty.den t12)×Bool×Int
def s0 (K:Nat)(x:ab ps)(r0:A0->R)(a:A0):R:=let b2:=x.1.2.2.2.2.2.2.2.2;let b1:=b2.2.2.2.2;let j2:=BA a.1+BA ([(x.2.1,x.2.2.1)]);bif decide (a.2.2<(BA b1.2.2:Int)) then ((idx b1.2.2 a.2.2).bind λy1=>let j1:R:=bif y1.1 != x.2.1 then (bif decide ((BA a.1+BA ([y1]))*32<=am) then (r0 (a.1++([y1]),a.2.1,wr .i64 (a.2.2+1))) else none) else (r0 (a.1,a.2.1,wr .i64 (a.2.2+1)));bif !a.2.1 then (bif decide (y1.1>=x.2.1) then (bif decide (j2*32<=am) then (bif y1.1 != x.2.1 then (let j3:=a.1++([(x.2.1,x.2.2.1)]);bif decide ((BA j3+BA ([y1]))*32<=am) then (r0 (j3++([y1]),true,wr .i64 (a.2.2+1))) else none) else (r0 (a.1++([(x.2.1,x.2.2.1)]),true,wr .i64 (a.2.2+1)))) else none) else j1) else j1) else (bif !a.2.1 then (bif decide (j2*32<=am) then (some (((zcp8 x.1 (zcp4 b2 (b1.1,b1.2.1,a.1++([(x.2.1,x.2.2.1)])))),()),())) else none) else (some (((zcp8 x.1 (zcp4 b2 (b1.1,b1.2.1,a.1))),()),())))
def l0 (x:ab ps):A0->R:=ae (s0 K x) K
def pre (K:Nat)(N0:A0->R)(x:ab ps):R:=N0 ([],false,0)
def f (x:ab ps):R:=pre K (l0 K x) x
def c:Ctr:=⟨156,ps,rs,false,f K⟩
end Q141
namespace Q142
abbrev ps:List PK:=[.rd (.list false 40 t2),.rd (.list false 40 t2)]
abbrev rs:List RK:=[.v .bool]
abbrev R:=Option (ai rs×ah ps)
abbrev A0:=Int
def s0 (K:Nat)(x:ab ps)(r0:A0->R)(a:A0):R:=bif decide (a<(BA x.1:Int)) then ((idx x.1 a).bind λy1=>(idx x.2.1 a).bind λy2=>bif !Ty.eqv t2 y1 y2 then (some ((true,()),())) else (r0 (wr .i64 (a+1)))) else (some ((false,()),()))
def l0 (x:ab ps):A0->R:=ae (s0 K x) K
def pre (K:Nat)(N0:A0->R)(x:ab ps):R:=bif (BA x.1:Int) != (BA x.2.1:Int) then (some ((true,()),())) else (N0 0)
def f (x:ab ps):R:=pre K (l0 K x) x
def c:Ctr:=⟨157,ps,rs,true,f K⟩
end Q142
namespace Q143
abbrev ps:List PK:=[.rd t26,.rd I6,.rd I6,.rd I6,.rd I6,.rd (.list false 40 t2)]
abbrev rs:List RK:=[.v t47]
abbrev R:=Option (ai rs×ah ps)
def f (K:Nat)(x:ab ps):R:=bif decide ((BA ([]:List (Ty.den t2))+BA x.2.2.2.2.2.1)*32<=am) then (some (((1,x.2.1,x.1.1,x.2.2.1,x.2.2.2.1,x.2.2.2.2.1,x.1.2.2.2.2.2.2.2.2.2.2.2.2.1,[]++x.2.2.2.2.2.1),()),())) else none
def c:Ctr:=⟨158,ps,rs,true,f K⟩
end Q143
namespace Q144
abbrev ps:List PK:=[.own t38,.rd t47]
abbrev rs:List RK:=[.v t38,.v (.list true 35 t47)]
abbrev R:=Option (ai rs×ah ps)
def f (x:ab ps):R:=let b1:=x.2.1.2.2.2.2.2.2.2;(Q101.f K (x.1.1,())).bind λy1=>(Q100.f K (b1,y1.1.1,())).bind λy2=>bif y2.1.1 then ((Q138.f K (x.1,b1,x.1.1,())).bind λy3=>some ((y3.1.1,[],()),())) else ((idx b1 0).bind λy4=>(Q101.f K (y4.1,())).bind λy5=>(Q140.f K (x.1,y5.1.1,b1,())).bind λy6=>(Q141.f K (x.1,y5.1.1,y6.1.1,())).bind λy7=>bif x.2.1.1==2 then ((Q142.f K (b1,y6.1.1,())).bind λy8=>bif y8.1.1 then ((Q143.f K (y7.1.1,6,x.2.1.2.2.1,0,x.1.1,y6.1.1,())).bind λy9=>some ((y7.1.1,[(2,y9.1.1.2)],()),())) else (some ((y7.1.1,[],()),()))) else (some ((y7.1.1,[],()),())))
def c:Ctr:=⟨98,ps,rs,false,f K⟩
end Q144
namespace Q145
abbrev ps:List PK:=[.rd (.list false 50 t3),.rd (.list false 4 .bool)]
abbrev rs:List RK:=[.v I6]
abbrev R:=Option (ai rs×ah ps)
abbrev A0:=Int×Int
def s0 (K:Nat)(x:ab ps)(r0:A0->R)(a:A0):R:=bif decide (a.2<(BA x.1:Int)) then ((idx x.2.1 a.2).bind λy1=>bif !y1 then (bif decide (a.1<0) then (r0 (a.2,wr .i64 (a.2+1))) else ((idx x.1 a.2).bind λy2=>(idx x.1 a.1).bind λy3=>bif decide (y2.2>y3.2) then (r0 (a.2,wr .i64 (a.2+1))) else (r0 (a.1,wr .i64 (a.2+1))))) else (r0 (a.1,wr .i64 (a.2+1)))) else (some ((a.1,()),()))
def l0 (x:ab ps):A0->R:=ae (s0 K x) K
def pre (K:Nat)(N0:A0->R)(x:ab ps):R:=N0 ((-1),0)
def f (x:ab ps):R:=pre K (l0 K x) x
def c:Ctr:=⟨252,ps,rs,true,f K⟩
end Q145
namespace Q146
abbrev ps:List PK:=[.rd (.list false 50 t3),.rd I6]
abbrev rs:List RK:=[.v (.list true 40 t2),.v (.list true 50 t3)]
abbrev R:=Option (ai rs×ah ps)
abbrev A1:=List (Ty.den .bool)×List (Ty.den t2)×List (Ty.den t3)×Int
abbrev A0:=List (Ty.den .bool)×Int
def s1 (K:Nat)(x:ab ps)(r1:A1->R)(a:A1):R:=let b2:=a.2.2.1;let b1:=a.2.2.2;bif decide (b1<(BA x.1:Int)) then ((idx x.1 b1).bind λy2=>(idx a.1 b1).bind λ_=>(idx a.1 (BB b1:Nat)).bind λy4=>bif y4 then (bif decide ((BA a.2.1+BA ([y2.1]))*32<=am) then (bif decide ((wr .i64 (y2.2-1))>0) then (let j1:=[(y2.1,wr .i64 (y2.2-1))];bif decide ((BA b2+BA j1)*40<=am) then (r1 (a.1,a.2.1++([y2.1]),b2++j1,wr .i64 (b1+1))) else none) else (r1 (a.1,a.2.1++([y2.1]),b2,wr .i64 (b1+1)))) else none) else (bif decide (y2.2>0) then (bif decide ((BA b2+BA ([y2]))*40<=am) then (r1 (a.1,a.2.1,b2++([y2]),wr .i64 (b1+1))) else none) else (r1 (a.1,a.2.1,b2,wr .i64 (b1+1))))) else (some ((a.2.1,b2,()),()))
def l1 (x:ab ps):A1->R:=ae (s1 K x) K
def s0 (x:ab ps)(N1:A1->R)(r0:A0->R)(a:A0):R:=bif decide (a.2<x.2.1) then ((Q145.f K (x.1,a.1,())).bind λy1=>bif decide (y1.1.1<0) then (N1 (a.1,[],[],0)) else ((idx a.1 y1.1.1).bind λ_=>(idx a.1 (BB y1.1.1:Nat)).bind λy6=>r0 (a.1.set (BB y1.1.1) true,wr .i64 (a.2+1)))) else (N1 (a.1,[],[],0))
def l0 (x:ab ps):A0->R:=ae (s0 K x (l1 K x)) K
def pre (K:Nat)(N0:A0->R)(x:ab ps):R:=bif decide (0<=(BA x.1:Int))&&decide ((BA x.1:Int)=(BA x.1:Int))&&decide ((BA x.1:Int)*(1:Nat)<=am) then (N0 (List.replicate (BB (BA x.1:Int)) (false:Ty.den .bool),0)) else none
def f (x:ab ps):R:=pre K (l0 K x) x
def c:Ctr:=⟨216,ps,rs,true,f K⟩
def G:List Ctr:=[Q145.c K]
def v1:List (Nat×List Coe):=[(0,[.ro true 50 t3]),(6,[.own false 4 .bool]),(9,[.own false 40 t2]),(10,[.own false 50 t3]),(11,[.keep])]
def v0:List (Nat×List Coe):=[(0,[.ro true 50 t3]),(1,[.keep]),(6,[.own false 4 .bool]),(7,[.keep])]
def L:List (Nat×List (Nat×List Coe)):=[(12,v1),(4,v0)]
def body:Code:=cQ Tryz.f216
abbrev ev:Code->St->(Ex->St->R)->R:=evK (G K) T_S L K
abbrev fin:Ex->St->R:=di T_S ps rs true Tryz.f216.results.toList
def S0 (x:ab ps)(a:A0):St:=av [(0,⟨0,.one,[.ro true 50 t3 x.1]⟩),(1,⟨0,.one,[.int .i64 x.2.1]⟩),(6,⟨0,.one,[.own false none 4 .bool a.1]⟩),(7,⟨0,.one,[.int .i64 a.2]⟩)]
def S1 (x:ab ps)(a:A1):St:=av [(0,⟨0,.one,[.ro true 50 t3 x.1]⟩),(6,⟨0,.one,[.own false none 4 .bool a.1]⟩),(9,⟨0,.one,[.own false none 40 t2 a.2.1]⟩),(10,⟨0,.one,[.own false none 50 t3 a.2.2.1]⟩),(11,⟨0,.one,[.int .i64 a.2.2.2]⟩)]
def k0 (x:ab ps):Ex->St->R:=kAt (ev K) body [1,1,0,1,0] fin
def N0 (x:ab ps):A0->R:=λa=>aV v0 (ev K (sub body [1,1,0,1,0,0])) K (S0 x a) (k0 K x)
def k1 (x:ab ps):Ex->St->R:=kAt (ev K) body [1,1,1,1,1,0,1,0] fin
def N1 (x:ab ps):A1->R:=λa=>aV v1 (ev K (sub body [1,1,1,1,1,0,1,0,0])) K (S1 x a) (k1 K x)
end Q146
namespace Q147
abbrev ps:List PK:=[.own t38,.rd I6]
abbrev rs:List RK:=[.v (.list true 40 t2),.v t38]
abbrev R:=Option (ai rs×ah ps)
def f (x:ab ps):R:=let b1:=x.1.2.2.2.2.2.2.2.2;(Q146.f K (b1.2.1,3,())).bind λy1=>(Q102.f K (b1.1,x.2.1,())).bind λy2=>let j1:=(zcp8 x.1 (b1.1,y1.1.2.1,b1.2.2));bif decide (y2.1.1>=0) then ((idx b1.1 y2.1.1).bind λy3=>bif y3.2.2.1==2 then ((idx b1.1 y2.1.1).bind λy4=>(Q116.f K (y1.1.1,y4,())).bind λy5=>some ((y5.1.1,j1,()),())) else (some ((y1.1.1,j1,()),()))) else (some ((y1.1.1,j1,()),()))
def c:Ctr:=⟨159,ps,rs,false,f K⟩
end Q147
namespace Q148
abbrev ps:List PK:=[.rd I6,.rd I6,.rd I6]
abbrev rs:List RK:=[.v I6]
abbrev R:=Option (ai rs×ah ps)
def f (K:Nat)(x:ab ps):R:=bif decide (x.1<x.2.1) then (some ((x.2.1,()),())) else (bif decide (x.1>x.2.2.1) then (some ((x.2.2.1,()),())) else (some ((x.1,()),())))
def c:Ctr:=⟨217,ps,rs,true,f K⟩
end Q148
namespace Q149
abbrev ps:List PK:=[.rd (.list false 3 I6),.rd I6]
abbrev rs:List RK:=[.v (.list false 3 I6)]
abbrev R:=Option (ai rs×ah ps)
def f (K:Nat)(x:ab ps):R:=bif decide ((BA ([]:List (Ty.den I6))+BA x.1)*8<=am) then (bif decide ((BA ([]++x.1)+BA ([x.2.1]))*8<=am) then (bif decide ((BA (([]++x.1)++([x.2.1])):Int)>3) then (bif decide (0<=(wr .i64 ((BA (([]++x.1)++([x.2.1])):Int)-3)))&&decide ((wr .i64 ((BA (([]++x.1)++([x.2.1])):Int)-3))<=(BA (([]++x.1)++([x.2.1])):Int))&&decide ((BA (([]++x.1)++([x.2.1])):Int)<=(BA (([]++x.1)++([x.2.1])):Int))&&true then (some ((((([]++x.1)++([x.2.1])).take (BB (BA (([]++x.1)++([x.2.1])):Int))).drop (BB (wr .i64 ((BA (([]++x.1)++([x.2.1])):Int)-3))),()),())) else none) else (some ((([]++x.1)++([x.2.1]),()),()))) else none) else none
def c:Ctr:=⟨253,ps,rs,true,f K⟩
end Q149
namespace Q150
abbrev ps:List PK:=[.rd (.list false 86 t11),.rd I6,.rd t9,.rd I6]
abbrev rs:List RK:=[.v (.list true 86 t11)]
abbrev R:=Option (ai rs×ah ps)
abbrev A0:=List (Ty.den t11)×Bool×Int×List (Ty.den I6)
def s0 (x:ab ps)(r0:A0->R)(a:A0):R:=let b1:=a.2.2.1;bif decide (b1<(BA x.1:Int)) then ((idx x.1 b1).bind λy1=>let j5:=BA a.1+BA ([y1]);bif y1.1==x.2.1 then (let j2:R:=bif y1.1 != x.2.1 then (bif decide (j5*64<=am) then (r0 (a.1++([y1]),a.2.1,wr .i64 (b1+1),y1.2.2)) else none) else (r0 (a.1,a.2.1,wr .i64 (b1+1),y1.2.2));bif !a.2.1 then (bif decide (y1.1>=x.2.1) then ((Q149.f K (y1.2.2,x.2.2.2.1,())).bind λy2=>let j3:=[(x.2.1,x.2.2.1,y2.1.1)];bif decide ((BA a.1+BA j3)*64<=am) then (bif y1.1 != x.2.1 then (bif decide ((BA (a.1++j3)+BA ([y1]))*64<=am) then (r0 ((a.1++j3)++([y1]),true,wr .i64 (b1+1),y2.1.1)) else none) else (r0 (a.1++j3,true,wr .i64 (b1+1),y2.1.1))) else none) else j2) else j2) else (let j1:R:=bif y1.1 != x.2.1 then (bif decide (j5*64<=am) then (r0 (a.1++([y1]),a.2.1,wr .i64 (b1+1),a.2.2.2)) else none) else (r0 (a.1,a.2.1,wr .i64 (b1+1),a.2.2.2));bif !a.2.1 then (bif decide (y1.1>=x.2.1) then ((Q149.f K (a.2.2.2,x.2.2.2.1,())).bind λy3=>let j4:=[(x.2.1,x.2.2.1,y3.1.1)];bif decide ((BA a.1+BA j4)*64<=am) then (bif y1.1 != x.2.1 then (bif decide ((BA (a.1++j4)+BA ([y1]))*64<=am) then (r0 ((a.1++j4)++([y1]),true,wr .i64 (b1+1),y3.1.1)) else none) else (r0 (a.1++j4,true,wr .i64 (b1+1),y3.1.1))) else none) else j1) else j1)) else (bif !a.2.1 then ((Q149.f K (a.2.2.2,x.2.2.2.1,())).bind λy4=>let j6:=[(x.2.1,x.2.2.1,y4.1.1)];bif decide ((BA a.1+BA j6)*64<=am) then (some ((a.1++j6,()),())) else none) else (some ((a.1,()),())))
def l0 (x:ab ps):A0->R:=ae (s0 K x) K
def pre (K:Nat)(N0:A0->R)(x:ab ps):R:=N0 ([],false,0,[])
def f (x:ab ps):R:=pre K (l0 K x) x
def c:Ctr:=⟨218,ps,rs,false,f K⟩
end Q150
namespace Q151
abbrev ps:List PK:=[.rd I6]
abbrev rs:List RK:=[.v I6]
abbrev R:=Option (ai rs×ah ps)
def f (x:ab ps):R:=(Q148.f K (x.1,(-1000000000),1000000000,())).bind λy1=>some ((y1.1.1,()),())
def c:Ctr:=⟨281,ps,rs,true,f K⟩
end Q151
namespace Q152
abbrev ps:List PK:=[.rd I6]
abbrev rs:List RK:=[.v I6]
abbrev R:=Option (ai rs×ah ps)
abbrev A0:=Int×Int
def s0 (K:Nat)(x:ab ps)(r0:A0->R)(a:A0):R:=bif decide (a.1<a.2) then (let j1:=BC (wr .i64 ((wr .i64 (a.1+a.2))+1)) 2;bif decide (wr .i64 j1=0) then none else (bif decide ((wr .i64 j1)<=(wr .i64 (BC x.1 (wr .i64 j1)))) then (r0 (wr .i64 j1,a.2)) else (r0 (a.1,wr .i64 ((wr .i64 j1)-1))))) else (some ((a.1,()),()))
def l0 (x:ab ps):A0->R:=ae (s0 K x) K
def pre (K:Nat)(N0:A0->R)(x:ab ps):R:=N0 (0,1500000000)
def f (x:ab ps):R:=pre K (l0 K x) x
def c:Ctr:=⟨282,ps,rs,true,f K⟩
end Q152
namespace Q153
abbrev ps:List PK:=[.rd I6,.rd I6]
abbrev rs:List RK:=[.v I6]
abbrev R:=Option (ai rs×ah ps)
def f (x:ab ps):R:=(Q151.f K (x.1,())).bind λy1=>(Q151.f K (x.2.1,())).bind λy2=>(Q152.f K (wr .i64 ((wr .i64 (y1.1.1*y1.1.1))+(wr .i64 (y2.1.1*y2.1.1))),())).bind λy3=>(Q151.f K (y3.1.1,())).bind λy4=>some ((y4.1.1,()),())
def c:Ctr:=⟨256,ps,rs,true,f K⟩
end Q153
namespace Q154
abbrev ps:List PK:=[.rd t9,.rd t9]
abbrev rs:List RK:=[.v I6]
abbrev R:=Option (ai rs×ah ps)
def f (x:ab ps):R:=(Q109.f K (x.1,())).bind λy1=>bif !y1.1.1 then (some ((0,()),())) else ((Q109.f K (x.2.1,())).bind λy2=>bif !y2.1.1 then (some ((0,()),())) else ((Q153.f K (wr .i64 (x.1.1-x.2.1.1),wr .i64 (x.1.2.1-x.2.1.2.1),())).bind λy3=>some ((wr .i64 ((wr .i64 (y3.1.1+x.1.2.2.1))+x.2.1.2.2.1),()),())))
def c:Ctr:=⟨254,ps,rs,true,f K⟩
end Q154
namespace Q155
abbrev ps:List PK:=[.rd t9,.rd t9,.rd I6]
abbrev rs:List RK:=[.v I6]
abbrev R:=Option (ai rs×ah ps)
def f (K:Nat)(x:ab ps):R:=bif decide (wr .i64 (x.1.2.2.2+x.2.1.2.2.2)=0) then none else (some ((wr .i64 (BC (wr .i64 (BC (wr .i64 (x.2.2.1*x.1.2.2.2)) (wr .i64 (x.1.2.2.2+x.2.1.2.2.2)))) 4),()),()))
def c:Ctr:=⟨255,ps,rs,true,f K⟩
end Q155
namespace Q156
abbrev ps:List PK:=[.rd I6]
abbrev rs:List RK:=[.v I6,.v I6]
abbrev R:=Option (ai rs×ah ps)
def f (K:Nat)(x:ab ps):R:=bif (bC .i64 x.1 3)==0 then (some ((1,0,()),())) else (bif (bC .i64 x.1 3)==1 then (some ((0,1,()),())) else (bif (bC .i64 x.1 3)==2 then (some (((-1),0,()),())) else (some ((0,(-1),()),()))))
def c:Ctr:=⟨257,ps,rs,true,f K⟩
end Q156
namespace Q157
abbrev ps:List PK:=[.rd I6]
abbrev rs:List RK:=[.v I6]
abbrev R:=Option (ai rs×ah ps)
def f (K:Nat)(x:ab ps):R:=bif decide (x.1<0) then (some ((wr .i64 (0-x.1),()),())) else (some ((x.1,()),()))
def c:Ctr:=⟨283,ps,rs,true,f K⟩
end Q157
namespace Q158
abbrev ps:List PK:=[.rd t9,.rd t9,.rd I6,.rd I6]
abbrev rs:List RK:=[.v I6]
abbrev R:=Option (ai rs×ah ps)
def f (x:ab ps):R:=let b1:=x.1.2.2.2;(Q157.f K (x.2.2.1,())).bind λy1=>bif decide (x.2.2.2.1=0) then none else ((Q148.f K (wr .i64 (BC (wr .i64 (y1.1.1*1000)) x.2.2.2.1),0,1500,())).bind λy2=>bif decide (wr .i64 (b1+x.2.1.2.2.2)=0) then none else ((Q148.f K (wr .i64 (b1+(wr .i64 (BC (wr .i64 (BC (wr .i64 ((wr .i64 (y2.1.1-b1))*b1)) (wr .i64 (b1+x.2.1.2.2.2)))) 4))),1,1500,())).bind λy3=>some ((y3.1.1,()),())))
def c:Ctr:=⟨258,ps,rs,true,f K⟩
end Q158
namespace Q159
abbrev ps:List PK:=[.rd t9,.rd t9,.rd I6,.rd I6]
abbrev rs:List RK:=[.v t9]
abbrev R:=Option (ai rs×ah ps)
def f (x:ab ps):R:=(Q109.f K (x.1,())).bind λy1=>bif !y1.1.1 then (some (((0,0,0,0),()),())) else ((Q109.f K (x.2.1,())).bind λy2=>bif !y2.1.1 then (some ((x.1,()),())) else ((Q97.f K (x.2.2.1,1,60000,())).bind λy3=>bif !y3.1.1 then (some ((x.1,()),())) else ((Q154.f K (x.1,x.2.1,())).bind λy4=>(Q155.f K (x.1,x.2.1,wr .i64 (x.2.2.1-y4.1.1),())).bind λy5=>(Q153.f K (wr .i64 (x.1.1-x.2.1.1),wr .i64 (x.1.2.1-x.2.1.2.1),())).bind λy6=>let j1:=(x.1,x.2.1,wr .i64 (x.2.2.1-y4.1.1),x.2.2.1,());let j2:=(wr .i64 (x.1.2.2.1+(wr .i64 (BC y5.1.1 4))),0,100000,());bif y6.1.1==0 then ((Q156.f K (x.2.2.2.1,())).bind λy7=>bif decide (y5.1.1<0) then (let j3:=wr .i64 (BC (wr .i64 (y5.1.1*0)) 1);(Q148.f K (wr .i64 (x.1.1+j3),(-100000),100000,())).bind λy8=>(Q148.f K (wr .i64 (x.1.2.1+j3),(-100000),100000,())).bind λy9=>(Q148.f K j2).bind λy10=>(Q158.f K j1).bind λy11=>some (((y8.1.1,y9.1.1,y10.1.1,y11.1.1),()),())) else ((Q148.f K (wr .i64 (x.1.1+(wr .i64 (BC (wr .i64 (y5.1.1*y7.1.1)) 1))),(-100000),100000,())).bind λy12=>(Q148.f K (wr .i64 (x.1.2.1+(wr .i64 (BC (wr .i64 (y5.1.1*y7.1.2.1)) 1))),(-100000),100000,())).bind λy13=>(Q148.f K j2).bind λy14=>(Q158.f K j1).bind λy15=>some (((y12.1.1,y13.1.1,y14.1.1,y15.1.1),()),()))) else (let j4:=wr .i64 (x.1.2.1-x.2.1.2.1);let j5:=wr .i64 (x.1.1-x.2.1.1);bif decide (y5.1.1<(wr .i64 (0-y6.1.1))) then (bif decide (y6.1.1=0) then none else ((Q148.f K (wr .i64 (x.1.1+(wr .i64 (BC (wr .i64 ((wr .i64 (0-y6.1.1))*j5)) y6.1.1))),(-100000),100000,())).bind λy16=>bif decide (y6.1.1=0) then none else ((Q148.f K (wr .i64 (x.1.2.1+(wr .i64 (BC (wr .i64 ((wr .i64 (0-y6.1.1))*j4)) y6.1.1))),(-100000),100000,())).bind λy17=>(Q148.f K (wr .i64 (x.1.2.2.1+(wr .i64 (BC (wr .i64 (0-y6.1.1)) 4))),0,100000,())).bind λy18=>(Q158.f K j1).bind λy19=>some (((y16.1.1,y17.1.1,y18.1.1,y19.1.1),()),())))) else (bif decide (y6.1.1=0) then none else ((Q148.f K (wr .i64 (x.1.1+(wr .i64 (BC (wr .i64 (y5.1.1*j5)) y6.1.1))),(-100000),100000,())).bind λy20=>bif decide (y6.1.1=0) then none else ((Q148.f K (wr .i64 (x.1.2.1+(wr .i64 (BC (wr .i64 (y5.1.1*j4)) y6.1.1))),(-100000),100000,())).bind λy21=>(Q148.f K j2).bind λy22=>(Q158.f K j1).bind λy23=>some (((y20.1.1,y21.1.1,y22.1.1,y23.1.1),()),()))))))))
def c:Ctr:=⟨219,ps,rs,true,f K⟩
end Q159
namespace Q160
abbrev ps:List PK:=[.rd (.list false 3 I6)]
abbrev rs:List RK:=[.v I6]
abbrev R:=Option (ai rs×ah ps)
abbrev A1:=List (Ty.den I6)×List (Ty.den I6)×Int×Int
abbrev A0:=List (Ty.den I6)×List (Ty.den I6)×Int
def s1 (K:Nat)(x:ab ps)(r0:A0->R)(r1:A1->R)(a:A1):R:=let b1:=a.2.2.2;let j3:=(BA a.2.1:Int);let j1:R:=bif decide (0<=0)&&decide (0<=b1)&&decide (b1<=j3)&&true then (let j2:=(a.2.1.take (BB b1)).drop (BB 0);bif decide ((BA ([]:List (Ty.den I6))+BA j2)*8<=am) then ((idx a.1 a.2.2.1).bind λy3=>bif decide ((BA ([]++j2)+BA ([y3]))*8<=am) then (bif decide (0<=b1)&&decide (b1<=j3)&&decide (j3<=j3)&&true then (let j4:=(a.2.1.take (BB j3)).drop (BB b1);bif decide ((BA (([]++j2)++([y3]))+BA j4)*8<=am) then (r0 (a.1,(([]++j2)++([y3]))++j4,wr .i64 (a.2.2.1+1))) else none) else none) else none) else none) else none;bif decide (b1<j3) then ((idx a.2.1 b1).bind λy1=>(idx a.1 a.2.2.1).bind λy2=>bif decide (y1<=y2) then (r1 (a.1,a.2.1,a.2.2.1,wr .i64 (b1+1))) else j1) else j1
def l1 (x:ab ps)(r0:A0->R):A1->R:=ae (s1 K x r0) K
def s0 (K:Nat)(x:ab ps)(N1:A1->R)(r0:A0->R)(a:A0):R:=bif decide (a.2.2<(BA a.1:Int)) then (N1 (a.1,a.2.1,a.2.2,0)) else (bif (BA a.2.1:Int)==0 then (some ((0,()),())) else ((idx a.2.1 (wr .i64 (BC (wr .i64 ((BA a.2.1:Int)-1)) 2))).bind λy5=>some ((y5,()),())))
def l0 (x:ab ps):A0->R:=ae (λr0 a=>s0 K x (l1 K x r0) r0 a) K
def pre (K:Nat)(N0:A0->R)(x:ab ps):R:=bif decide ((BA x.1:Int)>3) then (let j1:=(wr .i64 ((BA x.1:Int)-3));bif decide (0<=j1)&&decide (j1<=(BA x.1:Int))&&decide ((BA x.1:Int)<=(BA x.1:Int))&&true then (N0 ((x.1.take (BB (BA x.1:Int))).drop (BB j1),[],0)) else none) else (N0 (x.1,[],0))
def f (x:ab ps):R:=pre K (l0 K x) x
def c:Ctr:=⟨220,ps,rs,true,f K⟩
def G (K:Nat):List Ctr:=[]
def v1:List (Nat×List Coe):=[(3,[.ro true 3 I6]),(4,[.ro false 3 I6]),(5,[.keep]),(6,[.keep])]
def v0:List (Nat×List Coe):=[(3,[.ro true 3 I6]),(4,[.ro false 3 I6]),(5,[.keep])]
def L:List (Nat×List (Nat×List Coe)):=[(10,v1),(7,v0)]
def body:Code:=cQ Tryz.f220
abbrev ev:Code->St->(Ex->St->R)->R:=evK (G K) T_S L K
abbrev fin:Ex->St->R:=di T_S ps rs true Tryz.f220.results.toList
def S0 (x:ab ps)(a:A0):St:=av [(3,⟨0,.one,[.ro true 3 I6 a.1]⟩),(4,⟨0,.one,[.ro false 3 I6 a.2.1]⟩),(5,⟨0,.one,[.int .i64 a.2.2]⟩)]
def S1 (x:ab ps)(a:A1):St:=av [(3,⟨0,.one,[.ro true 3 I6 a.1]⟩),(4,⟨0,.one,[.ro false 3 I6 a.2.1]⟩),(5,⟨0,.one,[.int .i64 a.2.2.1]⟩),(6,⟨0,.one,[.int .i64 a.2.2.2]⟩)]
def k0 (x:ab ps):Ex->St->R:=kAt (ev K) body [1,1,1,1,0,1,0] fin
def N0 (x:ab ps):A0->R:=λa=>aV v0 (ev K (sub body [1,1,1,1,0,1,0,0])) K (S0 x a) (k0 K x)
def k1 (x:ab ps)(q0:St->R):Ex->St->R:=kAt (ev K) (sub body [1,1,1,1,0,1,0,0]) [1,0,0,1,0,0] (fX v0 q0 (k0 K x))
def N1 (x:ab ps)(q0:St->R):A1->R:=λa=>aV v1 (ev K (sub body [1,1,1,1,0,1,0,0,1,0,0,1,0,0,0])) K (S1 x a) (k1 K x q0)
end Q160
namespace Q161
abbrev ps:List PK:=[.own t38,.rd t47]
abbrev rs:List RK:=[.v t38]
abbrev R:=Option (ai rs×ah ps)
abbrev A0:=Int×Int×Int×Int×Int×List (Ty.den t11)
def s0 (x:ab ps)(r0:A0->R)(a:A0):R:=let b2:=x.1.2.2.2.2.2.2.2.2;let b1:=a.2.2.2.2.2;let j1:=(a.2.1,a.2.2.1,a.2.2.2.1,a.2.2.2.2.1);bif decide (a.1<(BA b1:Int)) then ((idx b1 a.1).bind λ_=>(idx b1 (BB a.1:Nat)).bind λy4=>bif y4.1==x.2.1.2.2.1 then ((idx b1 a.1).bind λ_=>(idx b1 (BB a.1:Nat)).bind λy6=>(Q160.f K (y6.2.2,())).bind λy7=>(Q159.f K (j1,x.2.1.2.2.2.2.2.2.1,y7.1.1,x.2.1.2.2.2.2.1,())).bind λy8=>r0 (wr .i64 (a.1+1),(zc00556 y8.1.1 b1))) else (r0 (wr .i64 (a.1+1),a.2))) else (some (((zcp8 x.1 (b2.1,b2.2.1,((-1),0,0,false),b2.2.2.2.1,j1,b1,b2.2.2.2.2.2.2)),()),()))
def l0 (x:ab ps):A0->R:=ae (s0 K x) K
def pre (N0:A0->R)(x:ab ps):R:=let b2:=x.2.1.2.2;let b1:=x.1.2.2.2.2.2.2.2.2.2.2;bif decide (b1.1.1<0) then (some ((x.1,()),())) else (bif b1.1.1 != b2.1 then (some ((x.1,()),())) else (bif b1.1.2.2.1 != b2.2.2.1 then (some ((x.1,()),())) else (bif b2.2.2.2.1 != b2.1 then (some ((x.1,()),())) else ((Q148.f K (wr .i64 ((wr .i64 ((wr .i64 (x.1.2.2.2.2.2.1-b1.1.2.1))*1000))+500),1,60000,())).bind λy1=>(Q150.f K (b1.2.2.2.1,b2.1,b2.2.2.2.2.1,y1.1.1,())).bind λy2=>N0 (0,(zc00556 b1.2.2.1 y2.1.1))))))
def f (x:ab ps):R:=pre K (l0 K x) x
def c:Ctr:=⟨160,ps,rs,false,f K⟩
end Q161
namespace Q162
abbrev ps:List PK:=[.own t38,.rd t47]
abbrev rs:List RK:=[.v t38,.v (.list true 35 t47)]
abbrev R:=Option (ai rs×ah ps)
def f (x:ab ps):R:=let b2:=x.2.1.2;let b1:=b2.2.2.2.2.1;(Q101.f K (x.1.1,())).bind λy1=>let j1:R:=some ((x.1,[],()),());let j2:=(x.1,b1,());bif b2.1==1 then ((Q101.f K (b1,())).bind λy2=>bif y2.1.1 != y1.1.1 then j1 else (bif b1==x.1.1 then j1 else ((Q147.f K j2).bind λy3=>(Q143.f K (y3.1.2.1,2,b1,b2.2.2.2.1,x.1.1,y3.1.1,())).bind λy4=>some ((y3.1.2.1,[y4.1.1],()),())))) else (bif b2.1==3 then ((Q101.f K (b1,())).bind λy5=>bif y5.1.1 != y1.1.1 then j1 else (bif b1==x.1.1 then j1 else (bif b1==b2.2.1 then j1 else ((Q147.f K j2).bind λy6=>(Q143.f K (y6.1.2.1,1,b1,b2.2.2.2.1,b2.2.1,y6.1.1,())).bind λy7=>some ((y6.1.2.1,[y7.1.1],()),()))))) else (bif b2.1==4 then ((Q143.f K (x.1,5,b2.2.1,0,x.1.1,x.1.2.2.2.2.2.2.2.2.1,())).bind λy8=>some ((x.1,[y8.1.1],()),())) else (bif b2.1==2 then ((Q161.f K (x.1,x.2.1,())).bind λy9=>some ((y9.1.1,[],()),())) else j1)))
def c:Ctr:=⟨99,ps,rs,false,f K⟩
end Q162
namespace Q163
abbrev ps:List PK:=[.own t38,.rd t47]
abbrev rs:List RK:=[.v t38,.v (.list true 35 t47)]
abbrev R:=Option (ai rs×ah ps)
def f (x:ab ps):R:=(Q130.f K (x.2.1,())).bind λy1=>bif !y1.1.1 then (some ((x.1,[],()),())) else ((Q131.f K (x.1,x.2.1,())).bind λy2=>bif !y2.1.1 then (some ((x.1,[],()),())) else (bif x.2.1.2.1==6 then ((Q144.f K (x.1,x.2.1,())).bind λy3=>some ((y3.1.1,y3.1.2.1,()),())) else ((Q138.f K (x.1,x.2.1.2.2.2.2.2.2.2,x.2.1.2.2.1,())).bind λy4=>(Q162.f K (y4.1.1,x.2.1,())).bind λy5=>some ((y5.1.1,y5.1.2.1,()),()))))
def c:Ctr:=⟨37,ps,rs,false,f K⟩
end Q163
namespace Q164
abbrev ps:List PK:=[.rd .str,.rd (.int .u8)]
abbrev rs:List RK:=[.v (.list true 9 .str)]
abbrev R:=Option (ai rs×ah ps)
abbrev A0:=List (Ty.den .str)×Int×Int
def s0 (K:Nat)(x:ab ps)(r0:A0->R)(a:A0):R:=bif decide (a.2.2<(x.1.size:Int)) then ((idx x.1.data.toList a.2.2).bind λy1=>bif (y1.toNat:Int)==x.2.1 then (bif decide (0<=a.2.1)&&decide (a.2.1<=a.2.2)&&decide (a.2.2<=(x.1.size:Int)) then (let j2:=[x.1.extract (BB a.2.1) (BB a.2.2)];bif decide ((BA a.1+BA j2)*16<=am) then (r0 (a.1++j2,wr .i64 (a.2.2+1),wr .i64 (a.2.2+1))) else none) else none) else (r0 (a.1,a.2.1,wr .i64 (a.2.2+1)))) else (bif decide (0<=a.2.1)&&decide (a.2.1<=(x.1.size:Int))&&decide ((x.1.size:Int)<=(x.1.size:Int)) then (let j1:=([x.1.extract (BB a.2.1) (BB (x.1.size:Int))]);bif decide ((BA a.1+BA j1)*16<=am) then (some ((a.1++j1,()),())) else none) else none)
def l0 (x:ab ps):A0->R:=ae (s0 K x) K
def pre (K:Nat)(N0:A0->R)(x:ab ps):R:=N0 ([],0,0)
def f (x:ab ps):R:=pre K (l0 K x) x
def c:Ctr:=⟨129,ps,rs,true,f K⟩
end Q164
namespace Q165
abbrev ps:List PK:=[.rd I6]
abbrev rs:List RK:=[.v .str]
abbrev R:=Option (ai rs×ah ps)
def f (K:Nat)(x:ab ps):R:=let j1:=ByteArray.mk #[112,105,110,103];let j2:=ByteArray.mk #[115,121,110,99];let j3:=ByteArray.mk #[98,97,99,107];let j4:=ByteArray.mk #[115,117,109];let j5:=ByteArray.mk #[97,115,107];let j6:=ByteArray.mk #[97,99,107];(idx ([(ByteArray.mk #[]),j1,j6,j5,j2,j3,j4]) x.1).bind λ_=>(idx ([(ByteArray.mk #[]),j1,j6,j5,j2,j3,j4]) (BB x.1:Nat)).bind λy2=>some ((y2,()),())
def c:Ctr:=⟨130,ps,rs,true,f K⟩
end Q165
namespace Q166
abbrev ps:List PK:=[.rd .str]
abbrev rs:List RK:=[.v I6]
abbrev R:=Option (ai rs×ah ps)
abbrev A0:=Int×Int
def s0 (K:Nat)(x:ab ps)(r0:A0->R)(a:A0):R:=bif decide (a.2<(x.1.size:Int)) then ((idx x.1.data.toList a.2).bind λy3=>bif decide ((y3.toNat:Int)<48) then (some (((-1),()),())) else ((idx x.1.data.toList a.2).bind λy4=>bif decide ((y4.toNat:Int)>57) then (some (((-1),()),())) else ((idx x.1.data.toList a.2).bind λy5=>r0 (wr .i64 ((wr .i64 (a.1*10))+(wr .i64 (wr .u8 ((y5.toNat:Int)-48)))),wr .i64 (a.2+1))))) else (some ((a.1,()),()))
def l0 (x:ab ps):A0->R:=ae (s0 K x) K
def pre (N0:A0->R)(x:ab ps):R:=(Q97.f K ((x.1.size:Int),1,6,())).bind λy1=>bif !y1.1.1 then (some (((-1),()),())) else (bif decide ((x.1.size:Int)>1) then ((idx x.1.data.toList 0).bind λy2=>bif (y2.toNat:Int)==48 then (some (((-1),()),())) else (N0 (0,0))) else (N0 (0,0)))
def f (x:ab ps):R:=pre K (l0 K x) x
def c:Ctr:=⟨131,ps,rs,true,f K⟩
end Q166
namespace Q167
abbrev ps:List PK:=[.rd .str]
abbrev rs:List RK:=[.v I6,.v .bool]
abbrev R:=Option (ai rs×ah ps)
def f (x:ab ps):R:=let j2:R:=some (((-1),false,()),());bif decide ((x.1.size:Int)<2) then j2 else ((idx x.1.data.toList 0).bind λy1=>let j1:R:=bif decide (0<=1)&&decide (1<=(x.1.size:Int))&&decide ((x.1.size:Int)<=(x.1.size:Int)) then ((Q166.f K (x.1.extract (BB 1) (BB (x.1.size:Int)),())).bind λy3=>bif decide (y3.1.1<0) then j2 else (bif x.1.toList==(ByteArray.mk #[45,48]).toList then j2 else ((idx x.1.data.toList 0).bind λy4=>bif (y4.toNat:Int)==45 then (some ((wr .i64 (0-y3.1.1),true,()),())) else (some ((y3.1.1,true,()),()))))) else none;bif (y1.toNat:Int) != 43 then ((idx x.1.data.toList 0).bind λy2=>bif (y2.toNat:Int) != 45 then j2 else j1) else j1)
def c:Ctr:=⟨132,ps,rs,true,f K⟩
end Q167
namespace Q168
abbrev ps:List PK:=[.rd I6]
abbrev rs:List RK:=[.v .str]
abbrev R:=Option (ai rs×ah ps)
def f (K:Nat)(x:ab ps):R:=let j1:=ByteArray.mk #[115,117,115,112,101,99,116];let j2:=ByteArray.mk #[97,108,105,118,101];let j3:=ByteArray.mk #[108,101,102,116];let j4:=ByteArray.mk #[100,101,97,100];(idx ([(ByteArray.mk #[]),j2,j1,j4,j3]) x.1).bind λ_=>(idx ([(ByteArray.mk #[]),j2,j1,j4,j3]) (BB x.1:Nat)).bind λy2=>some ((y2,()),())
def c:Ctr:=⟨270,ps,rs,true,f K⟩
end Q168
namespace Q169
abbrev ps:List PK:=[.rd .str]
abbrev rs:List RK:=[.v t2,.v .bool]
abbrev R:=Option (ai rs×ah ps)
abbrev A0:=List (Ty.den .str)×Int×Int×Int×Int×Bool
def s0 (x:ab ps)(r0:A0->R)(a:A0):R:=bif decide (a.2.1<=4) then ((Q168.f K (a.2.1,())).bind λy9=>(idx a.1 2).bind λ_=>(idx a.1 (BB 2:Nat)).bind λy11=>bif y9.1.1.toList==y11.toList then (r0 (a.1,wr .i64 (a.2.1+1),a.2.2.1,a.2.2.2.1,a.2.1,a.2.2.2.2.2)) else (r0 (a.1,wr .i64 (a.2.1+1),a.2.2))) else ((Q98.f K (a.2.2,())).bind λy12=>some ((a.2.2,y12.1.1,()),()))
def l0 (x:ab ps):A0->R:=ae (s0 K x) K
def pre (N0:A0->R)(x:ab ps):R:=let j1:R:=(Q164.f K (x.1,58,())).bind λy13=>bif (BA y13.1.1:Int) != 3 then (some (((0,0,0,false),false,()),())) else ((idx y13.1.1 0).bind λ_=>(idx y13.1.1 (BB 0:Nat)).bind λy15=>(Q166.f K (y15,())).bind λy16=>(idx y13.1.1 1).bind λ_=>(idx y13.1.1 (BB 1:Nat)).bind λy18=>(Q166.f K (y18,())).bind λy19=>N0 (y13.1.1,1,y16.1.1,y19.1.1,0,false));bif decide ((x.1.size:Int)>0) then (let j2:=(wr .i64 ((x.1.size:Int)-1));(idx x.1.data.toList j2).bind λy1=>bif (y1.toNat:Int)==42 then (bif decide (0<=0)&&decide (0<=j2)&&decide (j2<=(x.1.size:Int)) then ((Q164.f K (x.1.extract (BB 0) (BB j2),58,())).bind λy2=>bif (BA y2.1.1:Int) != 3 then (some (((0,0,0,true),false,()),())) else ((idx y2.1.1 0).bind λ_=>(idx y2.1.1 (BB 0:Nat)).bind λy4=>(Q166.f K (y4,())).bind λy5=>(idx y2.1.1 1).bind λ_=>(idx y2.1.1 (BB 1:Nat)).bind λy7=>(Q166.f K (y7,())).bind λy8=>N0 (y2.1.1,1,y5.1.1,y8.1.1,0,true))) else none) else j1) else j1
def f (x:ab ps):R:=pre K (l0 K x) x
def c:Ctr:=⟨232,ps,rs,true,f K⟩
end Q169
namespace Q170
abbrev ps:List PK:=[.rd .str]
abbrev rs:List RK:=[.v (.list true 40 t2),.v .bool]
abbrev R:=Option (ai rs×ah ps)
abbrev A0:=List (Ty.den t2)×List (Ty.den .str)×Int
def s0 (x:ab ps)(r0:A0->R)(a:A0):R:=bif decide (a.2.2<(BA a.2.1:Int)) then ((idx a.2.1 a.2.2).bind λ_=>(idx a.2.1 (BB a.2.2:Nat)).bind λy3=>(Q169.f K (y3,())).bind λy4=>bif !y4.1.2.1 then (some (([],false,()),())) else (bif decide ((BA a.1+BA ([y4.1.1]))*32<=am) then (r0 (a.1++([y4.1.1]),a.2.1,wr .i64 (a.2.2+1))) else none)) else (some ((a.1,true,()),()))
def l0 (x:ab ps):A0->R:=ae (s0 K x) K
def pre (N0:A0->R)(x:ab ps):R:=bif x.1.toList==(ByteArray.mk #[45]).toList then (some (([],true,()),())) else ((Q164.f K (x.1,44,())).bind λy1=>N0 ([],y1.1.1,0))
def f (x:ab ps):R:=pre K (l0 K x) x
def c:Ctr:=⟨189,ps,rs,true,f K⟩
end Q170
namespace Q171
abbrev ps:List PK:=[.rd (.list false 40 t2)]
abbrev rs:List RK:=[.v .str]
abbrev R:=Option (ai rs×ah ps)
abbrev A0:=ByteArray×Int
def s0 (x:ab ps)(r0:A0->R)(a:A0):R:=bif decide (a.2<(BA x.1:Int)) then (bif decide (a.2>0) then (aT a.1 (ByteArray.mk #[44]) λy1=>(idx x.1 a.2).bind λy2=>(Q10.f K (y2.1,())).bind λy3=>aT y1 y3.1.1 λy4=>aT y4 (ByteArray.mk #[58]) λy5=>(idx x.1 a.2).bind λy6=>(Q10.f K (y6.2.1,())).bind λy7=>aT y5 y7.1.1 λy8=>aT y8 (ByteArray.mk #[58]) λy9=>(idx x.1 a.2).bind λy10=>(Q168.f K (y10.2.2.1,())).bind λy11=>aT y9 y11.1.1 λy12=>(idx x.1 a.2).bind λy13=>bif y13.2.2.2 then (aT y12 (ByteArray.mk #[42]) λy14=>r0 (y14,wr .i64 (a.2+1))) else (r0 (y12,wr .i64 (a.2+1)))) else ((idx x.1 a.2).bind λy15=>(Q10.f K (y15.1,())).bind λy16=>aT a.1 y16.1.1 λy17=>aT y17 (ByteArray.mk #[58]) λy18=>(idx x.1 a.2).bind λy19=>(Q10.f K (y19.2.1,())).bind λy20=>aT y18 y20.1.1 λy21=>aT y21 (ByteArray.mk #[58]) λy22=>(idx x.1 a.2).bind λy23=>(Q168.f K (y23.2.2.1,())).bind λy24=>aT y22 y24.1.1 λy25=>(idx x.1 a.2).bind λy26=>bif y26.2.2.2 then (aT y25 (ByteArray.mk #[42]) λy27=>r0 (y27,wr .i64 (a.2+1))) else (r0 (y25,wr .i64 (a.2+1))))) else (some ((a.1,()),()))
def l0 (x:ab ps):A0->R:=ae (s0 K x) K
def pre (K:Nat)(N0:A0->R)(x:ab ps):R:=N0 ((ByteArray.mk #[]),0)
def f (x:ab ps):R:=pre K (l0 K x) x
def c:Ctr:=⟨233,ps,rs,true,f K⟩
end Q171
namespace Q172
abbrev ps:List PK:=[.rd (.list false 40 t2)]
abbrev rs:List RK:=[.v .str]
abbrev R:=Option (ai rs×ah ps)
def f (x:ab ps):R:=(Q99.f K (x.1,())).bind λy1=>bif !y1.1.1 then (some (((ByteArray.mk #[]),()),())) else (bif (BA x.1:Int)==0 then (some (((ByteArray.mk #[45]),()),())) else ((Q171.f K (x.1,())).bind λy2=>some ((y2.1.1,()),())))
def c:Ctr:=⟨190,ps,rs,true,f K⟩
end Q172
namespace Q173
abbrev ps:List PK:=[.rd .str]
abbrev rs:List RK:=[.v (.list true 40 t2),.v .bool]
abbrev R:=Option (ai rs×ah ps)
def f (x:ab ps):R:=(Q170.f K (x.1,())).bind λy1=>bif !y1.1.2.1 then (some (([],false,()),())) else ((Q172.f K (y1.1.1,())).bind λy2=>bif y2.1.1.toList != x.1.toList then (some (([],false,()),())) else (some ((y1.1.1,true,()),())))
def c:Ctr:=⟨133,ps,rs,true,f K⟩
end Q173
namespace Q174
abbrev ps:List PK:=[.rd I6]
abbrev rs:List RK:=[.v .str]
abbrev R:=Option (ai rs×ah ps)
def f (x:ab ps):R:=bif decide (x.1<0) then ((Q10.f K (wr .i64 (0-x.1),())).bind λy1=>aT (ByteArray.mk #[45]) y1.1.1 λy2=>some ((y2,()),())) else ((Q10.f K (x.1,())).bind λy3=>aT (ByteArray.mk #[43]) y3.1.1 λy4=>some ((y4,()),()))
def c:Ctr:=⟨235,ps,rs,true,f K⟩
end Q174
namespace Q175
abbrev ps:List PK:=[.rd t47]
abbrev rs:List RK:=[.v .str]
abbrev R:=Option (ai rs×ah ps)
def f (x:ab ps):R:=let b1:=x.1.2.2.2.2;let j1:=(b1.2.2.1.2.2.1,());let j2:=(b1.2.2.1.2.2.2,());let j3:=(b1.2.2.1.2.1,());bif x.1.1==2 then (aT (ByteArray.mk #[119,97,110]) (ByteArray.mk #[32]) λy1=>(Q165.f K (x.1.2.1,())).bind λy2=>aT y1 y2.1.1 λy3=>aT y3 (ByteArray.mk #[32]) λy4=>(Q10.f K (x.1.2.2.1,())).bind λy5=>aT y4 y5.1.1 λy6=>aT y6 (ByteArray.mk #[32]) λy7=>(Q10.f K (x.1.2.2.2.1,())).bind λy8=>aT y7 y8.1.1 λy9=>aT y9 (ByteArray.mk #[32]) λy10=>(Q10.f K (b1.1,())).bind λy11=>aT y10 y11.1.1 λy12=>aT y12 (ByteArray.mk #[32]) λy13=>(Q10.f K (b1.2.1,())).bind λy14=>aT y13 y14.1.1 λy15=>aT y15 (ByteArray.mk #[32]) λy16=>(Q174.f K (b1.2.2.1.1,())).bind λy17=>aT y16 y17.1.1 λy18=>aT y18 (ByteArray.mk #[32]) λy19=>(Q174.f K j3).bind λy20=>aT y19 y20.1.1 λy21=>aT y21 (ByteArray.mk #[32]) λy22=>(Q10.f K j1).bind λy23=>aT y22 y23.1.1 λy24=>aT y24 (ByteArray.mk #[32]) λy25=>(Q10.f K j2).bind λy26=>aT y25 y26.1.1 λy27=>aT y27 (ByteArray.mk #[32]) λy28=>(Q172.f K (b1.2.2.2,())).bind λy29=>aT y28 y29.1.1 λy30=>some ((y30,()),())) else (aT (ByteArray.mk #[108,97,110]) (ByteArray.mk #[32]) λy31=>(Q165.f K (x.1.2.1,())).bind λy32=>aT y31 y32.1.1 λy33=>aT y33 (ByteArray.mk #[32]) λy34=>(Q10.f K (x.1.2.2.1,())).bind λy35=>aT y34 y35.1.1 λy36=>aT y36 (ByteArray.mk #[32]) λy37=>(Q10.f K (x.1.2.2.2.1,())).bind λy38=>aT y37 y38.1.1 λy39=>aT y39 (ByteArray.mk #[32]) λy40=>(Q10.f K (b1.1,())).bind λy41=>aT y40 y41.1.1 λy42=>aT y42 (ByteArray.mk #[32]) λy43=>(Q10.f K (b1.2.1,())).bind λy44=>aT y43 y44.1.1 λy45=>aT y45 (ByteArray.mk #[32]) λy46=>(Q174.f K (b1.2.2.1.1,())).bind λy47=>aT y46 y47.1.1 λy48=>aT y48 (ByteArray.mk #[32]) λy49=>(Q174.f K j3).bind λy50=>aT y49 y50.1.1 λy51=>aT y51 (ByteArray.mk #[32]) λy52=>(Q10.f K j1).bind λy53=>aT y52 y53.1.1 λy54=>aT y54 (ByteArray.mk #[32]) λy55=>(Q10.f K j2).bind λy56=>aT y55 y56.1.1 λy57=>aT y57 (ByteArray.mk #[32]) λy58=>(Q172.f K (b1.2.2.2,())).bind λy59=>aT y58 y59.1.1 λy60=>some ((y60,()),()))
def c:Ctr:=⟨191,ps,rs,true,f K⟩
end Q175
namespace Q176
abbrev ps:List PK:=[.rd I6]
abbrev rs:List RK:=[.v .str]
abbrev R:=Option (ai rs×ah ps)
abbrev A0:=List (Ty.den (.int .u8))×Int
def s0 (K:Nat)(x:ab ps)(r0:A0->R)(a:A0):R:=bif decide (a.2>=0) then (bif decide ((wr .i64 (4*a.2))<0) then none else ((idx (ByteArray.mk #[48,49,50,51,52,53,54,55,56,57,97,98,99,100,101,102]).data.toList (bC .i64 (BE x.1 (2 ^ (min (BB (wr .i64 (4*a.2))) 64))) 15)).bind λy1=>bif decide ((BA a.1+BA ([(y1.toNat:Int)]))*1<=am) then (r0 (a.1++([(y1.toNat:Int)]),wr .i64 (a.2-1))) else none)) else (some ((gH a.1,()),()))
def l0 (x:ab ps):A0->R:=ae (s0 K x) K
def pre (K:Nat)(N0:A0->R)(x:ab ps):R:=N0 ([],7)
def f (x:ab ps):R:=pre K (l0 K x) x
def c:Ctr:=⟨192,ps,rs,true,f K⟩
end Q176
namespace Q177
abbrev ps:List PK:=[.rd I6]
abbrev rs:List RK:=[.v I6]
abbrev R:=Option (ai rs×ah ps)
abbrev A0:=Int×Int
def s0 (K:Nat)(x:ab ps)(r0:A0->R)(a:A0):R:=bif decide (a.2<8) then (bif (bC .i64 a.1 1)==1 then (r0 (qk .i64 (BE a.1 (2 ^ 1)) 3988292384,wr .i64 (a.2+1))) else (r0 (BE a.1 (2 ^ 1),wr .i64 (a.2+1)))) else (some ((a.1,()),()))
def l0 (x:ab ps):A0->R:=ae (s0 K x) K
def pre (K:Nat)(N0:A0->R)(x:ab ps):R:=N0 (x.1,0)
def f (x:ab ps):R:=pre K (l0 K x) x
def c:Ctr:=⟨236,ps,rs,true,f K⟩
end Q177
namespace Q178
abbrev ps:List PK:=[.rd .str]
abbrev rs:List RK:=[.v I6]
abbrev R:=Option (ai rs×ah ps)
abbrev A0:=Int×Int
def s0 (x:ab ps)(r0:A0->R)(a:A0):R:=bif decide (a.2<(x.1.size:Int)) then ((idx x.1.data.toList a.2).bind λy1=>(Q177.f K (qk .i64 a.1 (wr .i64 (y1.toNat:Int)),())).bind λy2=>r0 (y2.1.1,wr .i64 (a.2+1))) else (some ((qk .i64 a.1 4294967295,()),()))
def l0 (x:ab ps):A0->R:=ae (s0 K x) K
def pre (K:Nat)(N0:A0->R)(x:ab ps):R:=N0 (4294967295,0)
def f (x:ab ps):R:=pre K (l0 K x) x
def c:Ctr:=⟨193,ps,rs,true,f K⟩
end Q178
namespace Q179
abbrev ps:List PK:=[.rd t47]
abbrev rs:List RK:=[.v .str]
abbrev R:=Option (ai rs×ah ps)
def f (x:ab ps):R:=(Q130.f K (x.1,())).bind λy1=>bif !y1.1.1 then (some (((ByteArray.mk #[]),()),())) else ((Q175.f K (x.1,())).bind λy2=>aT y2.1.1 (ByteArray.mk #[32]) λy3=>(Q178.f K (y2.1.1,())).bind λy4=>(Q176.f K (y4.1.1,())).bind λy5=>aT y3 y5.1.1 λy6=>some ((y6,()),()))
def c:Ctr:=⟨134,ps,rs,true,f K⟩
end Q179
namespace Q180
abbrev ps:List PK:=[.rd .str]
abbrev rs:List RK:=[.v t73,.v .bool]
abbrev R:=Option (ai rs×ah ps)
abbrev A0:=List (Ty.den .str)×Int×Int×Int
def s0 (x:ab ps)(r0:A0->R)(a:A0):R:=bif decide (a.2.1<=6) then ((Q165.f K (a.2.1,())).bind λy4=>(idx a.1 1).bind λ_=>(idx a.1 (BB 1:Nat)).bind λy6=>bif y4.1.1.toList==y6.toList then (r0 (a.1,wr .i64 (a.2.1+1),a.2.2.1,a.2.1)) else (r0 (a.1,wr .i64 (a.2.1+1),a.2.2))) else ((idx a.1 2).bind λ_=>(idx a.1 (BB 2:Nat)).bind λy8=>(Q166.f K (y8,())).bind λy9=>(idx a.1 3).bind λ_=>(idx a.1 (BB 3:Nat)).bind λy11=>(Q166.f K (y11,())).bind λy12=>(idx a.1 4).bind λ_=>(idx a.1 (BB 4:Nat)).bind λy14=>(Q166.f K (y14,())).bind λy15=>(idx a.1 5).bind λ_=>(idx a.1 (BB 5:Nat)).bind λy17=>(Q166.f K (y17,())).bind λy18=>(idx a.1 6).bind λ_=>(idx a.1 (BB 6:Nat)).bind λy20=>(Q167.f K (y20,())).bind λy21=>(idx a.1 7).bind λ_=>(idx a.1 (BB 7:Nat)).bind λy23=>(Q167.f K (y23,())).bind λy24=>(idx a.1 10).bind λ_=>(idx a.1 (BB 10:Nat)).bind λy26=>(Q173.f K (y26,())).bind λy27=>(idx a.1 8).bind λ_=>(idx a.1 (BB 8:Nat)).bind λy29=>(Q166.f K (y29,())).bind λy30=>(idx a.1 9).bind λ_=>(idx a.1 (BB 9:Nat)).bind λy32=>(Q166.f K (y32,())).bind λy33=>let j1:R:=some (((0,0,0,0,0,0,(0,0,0,0),[]),false,()),());bif !y21.1.2.1 then j1 else (bif !y24.1.2.1 then j1 else (bif !y27.1.2.1 then j1 else (let j2:=(a.2.2.1,a.2.2.2,y9.1.1,y12.1.1,y15.1.1,y18.1.1,(y21.1.1,y24.1.1,y30.1.1,y33.1.1),y27.1.1);(Q179.f K (j2,())).bind λy34=>bif y34.1.1.toList != x.1.toList then j1 else (some ((j2,true,()),()))))))
def l0 (x:ab ps):A0->R:=ae (s0 K x) K
def pre (N0:A0->R)(x:ab ps):R:=(Q164.f K (x.1,32,())).bind λy1=>let j1:R:=some (((0,0,0,0,0,0,(0,0,0,0),[]),false,()),());bif decide ((x.1.size:Int)>300) then j1 else (bif (BA y1.1.1:Int) != 12 then j1 else ((idx y1.1.1 0).bind λ_=>(idx y1.1.1 (BB 0:Nat)).bind λy3=>bif y3.toList==(ByteArray.mk #[119,97,110]).toList then (N0 (y1.1.1,1,2,0)) else (N0 (y1.1.1,1,1,0))))
def f (x:ab ps):R:=pre K (l0 K x) x
def c:Ctr:=⟨82,ps,rs,true,f K⟩
end Q180
namespace Q181
abbrev ps:List PK:=[.rd (.list false 117 t40),.rd I6]
abbrev rs:List RK:=[.v (.list true 117 t40)]
abbrev R:=Option (ai rs×ah ps)
def f (K:Nat)(x:ab ps):R:=bif decide (0<=0)&&decide (0<=x.2.1)&&decide (x.2.1<=(BA x.1:Int))&&true then (let j1:=(x.1.take (BB x.2.1)).drop (BB 0);bif decide ((BA ([]:List (Ty.den t40))+BA j1)*32<=am) then (bif decide (0<=(wr .i64 (x.2.1+1)))&&decide ((wr .i64 (x.2.1+1))<=(BA x.1:Int))&&decide ((BA x.1:Int)<=(BA x.1:Int))&&true then (let j2:=((x.1.take (BB (BA x.1:Int))).drop (BB (wr .i64 (x.2.1+1))));bif decide ((BA ([]++j1)+BA j2)*32<=am) then (some ((([]++j1)++j2,()),())) else none) else none) else none) else none
def c:Ctr:=⟨184,ps,rs,true,f K⟩
end Q181
namespace Q182
abbrev ps:List PK:=[.rd t91,.rd I6,.rd (.list false 35 t47)]
abbrev rs:List RK:=[.v t91]
abbrev R:=Option (ai rs×ah ps)
abbrev A0:=Int×List (Ty.den t40)
def s0 (x:ab ps)(r0:A0->R)(a:A0):R:=bif decide (a.1<(BA x.2.2.1:Int)) then (bif decide ((BA a.2:Int)<60) then ((idx x.1.2.2.1 x.2.1).bind λy1=>(idx x.2.2.1 a.1).bind λy2=>(idx x.1.2.2.1 y2.2.2.2.1).bind λy3=>bif y1==y3 then (bif decide ((BA ([]:List (Ty.den t40))+BA a.2)*32<=am) then ((idx x.2.2.1 a.1).bind λy4=>(idx x.2.2.1 a.1).bind λy5=>(Q179.f K (y5,())).bind λy6=>let j1:=[(y4.2.2.2.1,y6.1.1,false)];bif decide ((BA ([]++a.2)+BA j1)*32<=am) then (r0 (wr .i64 (a.1+1),([]++a.2)++j1)) else none) else none) else (r0 (wr .i64 (a.1+1),a.2))) else (r0 (wr .i64 (a.1+1),a.2))) else (some (((x.1.1,a.2,x.1.2.2),()),()))
def l0 (x:ab ps):A0->R:=ae (s0 K x) K
def pre (K:Nat)(N0:A0->R)(x:ab ps):R:=N0 (0,x.1.2.1)
def f (x:ab ps):R:=pre K (l0 K x) x
def c:Ctr:=⟨262,ps,rs,false,f K⟩
end Q182
namespace Q183
abbrev ps:List PK:=[.rd t2,.rd t2]
abbrev rs:List RK:=[.v .bool]
abbrev R:=Option (ai rs×ah ps)
def f (x:ab ps):R:=bif x.1.1 != x.2.1.1 then (some ((decide (x.1.1<x.2.1.1),()),())) else ((Q105.f K (x.2.1,x.1,())).bind λy1=>some ((y1.1.1,()),()))
def c:Ctr:=⟨285,ps,rs,true,f K⟩
end Q183
namespace Q184
abbrev ps:List PK:=[.rd (.list false 40 t2),.rd t2]
abbrev rs:List RK:=[.v (.list false 40 t2)]
abbrev R:=Option (ai rs×ah ps)
abbrev A0:=Int
def s0 (x:ab ps)(r0:A0->R)(a:A0):R:=let j1:R:=bif decide (0<=0)&&decide (0<=a)&&decide (a<=(BA x.1:Int))&&true then (let j3:=(x.1.take (BB a)).drop (BB 0);bif decide ((BA ([]:List (Ty.den t2))+BA j3)*32<=am) then (bif decide ((BA ([]++j3)+BA ([x.2.1]))*32<=am) then (bif decide (0<=a)&&decide (a<=(BA x.1:Int))&&decide ((BA x.1:Int)<=(BA x.1:Int))&&true then (let j4:=((x.1.take (BB (BA x.1:Int))).drop (BB a));bif decide ((BA (([]++j3)++([x.2.1]))+BA j4)*32<=am) then (some (((([]++j3)++([x.2.1]))++j4,()),())) else none) else none) else none) else none) else none;let j2:R:=bif decide (a<(BA x.1:Int)) then ((idx x.1 a).bind λy3=>bif Ty.eqv t2 y3 x.2.1 then (some ((x.1,()),())) else j1) else j1;bif decide (a<(BA x.1:Int)) then ((idx x.1 a).bind λy1=>(Q183.f K (y1,x.2.1,())).bind λy2=>bif y2.1.1 then (r0 (wr .i64 (a+1))) else j2) else j2
def l0 (x:ab ps):A0->R:=ae (s0 K x) K
def pre (K:Nat)(N0:A0->R)(x:ab ps):R:=N0 0
def f (x:ab ps):R:=pre K (l0 K x) x
def c:Ctr:=⟨264,ps,rs,false,f K⟩
end Q184
namespace Q185
abbrev ps:List PK:=[.rd (.list false 40 t2),.rd t2]
abbrev rs:List RK:=[.v .bool]
abbrev R:=Option (ai rs×ah ps)
abbrev A0:=Int
def s0 (K:Nat)(x:ab ps)(r0:A0->R)(a:A0):R:=bif decide (a<(BA x.1:Int)) then ((idx x.1 a).bind λy1=>bif Ty.eqv t2 y1 x.2.1 then (some ((true,()),())) else (r0 (wr .i64 (a+1)))) else (some ((false,()),()))
def l0 (x:ab ps):A0->R:=ae (s0 K x) K
def pre (K:Nat)(N0:A0->R)(x:ab ps):R:=N0 0
def f (x:ab ps):R:=pre K (l0 K x) x
def c:Ctr:=⟨284,ps,rs,true,f K⟩
end Q185
namespace Q186
abbrev ps:List PK:=[.rd t91,.rd (.list false 40 t2),.rd (.list false 40 t2),.rd (.list false 40 t2)]
abbrev rs:List RK:=[.v t91]
abbrev R:=Option (ai rs×ah ps)
abbrev A0:=Int×List (Ty.den t2)
def s0 (x:ab ps)(r0:A0->R)(a:A0):R:=bif decide (a.1<(BA x.2.2.2.1:Int)) then ((idx x.2.2.2.1 a.1).bind λy1=>(Q185.f K (x.2.1,y1,())).bind λy2=>bif !y2.1.1 then ((idx x.2.2.2.1 a.1).bind λy3=>(Q185.f K (x.2.2.1,y3,())).bind λy4=>bif !y4.1.1 then ((idx x.2.2.2.1 a.1).bind λy5=>(Q184.f K (a.2,y5,())).bind λy6=>r0 (wr .i64 (a.1+1),y6.1.1)) else (r0 (wr .i64 (a.1+1),a.2))) else (r0 (wr .i64 (a.1+1),a.2))) else (some (((x.1.1,x.1.2.1,x.1.2.2.1,a.2),()),()))
def l0 (x:ab ps):A0->R:=ae (s0 K x) K
def pre (K:Nat)(N0:A0->R)(x:ab ps):R:=N0 (0,x.1.2.2.2)
def f (x:ab ps):R:=pre K (l0 K x) x
def c:Ctr:=⟨263,ps,rs,false,f K⟩
end Q186
namespace Q187
abbrev ps:List PK:=[.hol t94 0 14,.own t38,.rd (.list false 35 t47),.rd (.list false 40 t2)]
abbrev rs:List RK:=[.v t91]
abbrev R:=Option (ai rs×ah ps)
def f (x:ab ps):R:=let b1:=x.2.1.1;(idx x.1.1.1 b1).bind λ_=>(idx x.1.1.1 (BB b1:Nat)).bind λy2=>(idx x.1.1.1 b1).bind λ_=>(idx x.1.1.1 (BB b1:Nat)).bind λy4=>bif Nat.beq (BB b1) x.1.2 then ((Q186.f K ((x.1.1.1.set (BB b1) x.2.1,x.1.1.2),y2.2.2.2.2.2.2.2.2.1,x.2.2.2.1,x.2.1.2.2.2.2.2.2.2.2.1,())).bind λy5=>(Q182.f K (y5.1.1,b1,x.2.2.1,())).bind λy6=>some ((y6.1.1,()),())) else none
def c:Ctr:=⟨227,ps,rs,false,f K⟩
end Q187
namespace Q188
abbrev ps:List PK:=[.own t94,.rd I6,.rd .bool]
abbrev rs:List RK:=[.v t91]
abbrev R:=Option (ai rs×ah ps)
def f (x:ab ps):R:=let b3:=x.1.2.2.1;(idx x.1.2.1 x.2.1).bind λ_=>(idx x.1.2.1 (BB x.2.1:Nat)).bind λy2=>bif !x.2.2.1 then ((Q181.f K (x.1.2.1,x.2.1,())).bind λy3=>(Q180.f K (y2.2.1,())).bind λy4=>let j1:R:=some (((x.1.1,y3.1.1,x.1.2.2),()),());bif !y4.1.2.1 then j1 else ((idx b3 y4.1.1.2.2.1).bind λ_=>(idx b3 (BB y4.1.1.2.2.1:Nat)).bind λy6=>(idx b3 y2.1).bind λ_=>(idx b3 (BB y2.1:Nat)).bind λy8=>bif y6 != y8 then j1 else (bif y4.1.1.2.2.2.1 != y2.1 then j1 else ((idx x.1.1 y2.1).bind λ_=>(idx x.1.1 (BB y2.1:Nat)).bind λy10=>let b1:=y10.2.2.2.2.2.2.2.2;(idx x.1.1 (BB y2.1:Nat)).bind λy11=>(Q163.f K ((zcp8 y10 (b1.1,b1.2.1,b1.2.2.1,y11.2.2.2.2.2.2.2.2.2.2.2.1,b1.2.2.2.2)),y4.1.1,())).bind λy12=>(Q187.f K (((x.1.1,y3.1.1,x.1.2.2),BB y2.1),y12.1.1,y12.1.2.1,y4.1.1.2.2.2.2.2.2.2,())).bind λy13=>some ((y13.1.1,()),()))))) else ((Q180.f K (y2.2.1,())).bind λy14=>let b4:=y14.1.1.2.2;bif !y14.1.2.1 then (some ((x.1,()),())) else ((idx b3 b4.1).bind λ_=>(idx b3 (BB b4.1:Nat)).bind λy16=>(idx b3 y2.1).bind λ_=>(idx b3 (BB y2.1:Nat)).bind λy18=>bif y16 != y18 then (some ((x.1,()),())) else (bif b4.2.1 != y2.1 then (some ((x.1,()),())) else ((idx x.1.1 y2.1).bind λ_=>(idx x.1.1 (BB y2.1:Nat)).bind λy20=>let b2:=y20.2.2.2.2.2.2.2.2;(idx x.1.1 (BB y2.1:Nat)).bind λy21=>(Q163.f K ((zcp8 y20 (b2.1,b2.2.1,b2.2.2.1,y21.2.2.2.2.2.2.2.2.2.2.2.1,b2.2.2.2.2)),y14.1.1,())).bind λy22=>(Q187.f K ((x.1,BB y2.1),y22.1.1,y22.1.2.1,b4.2.2.2.2.2,())).bind λy23=>some ((y23.1.1,()),())))))
def c:Ctr:=⟨182,ps,rs,false,f K⟩
end Q188
namespace Q189
abbrev ps:List PK:=[.own t94,.rd I6,.rd I6]
abbrev rs:List RK:=[.v t91,.v .bool]
abbrev R:=Option (ai rs×ah ps)
def f (K:Nat)(x:ab ps):R:=(idx x.1.2.1 x.2.1).bind λ_=>(idx x.1.2.1 (BB x.2.1:Nat)).bind λy2=>bif y2.2.2 then (some ((x.1,false,()),())) else (bif (y2.2.1.size:Int)==0 then (some ((x.1,false,()),())) else (bif decide ((y2.2.1.size:Int)=0) then none else (let j1:=(BD (bC .i64 x.2.2.1 4095) (y2.2.1.size:Int));(idx (eq y2.2.1) j1).bind λ_=>(idx (eq y2.2.1) (BB j1:Nat)).bind λy4=>(idx (eq y2.2.1) j1).bind λ_=>(idx (eq y2.2.1) (BB j1:Nat)).bind λy6=>(idx x.1.2.1 x.2.1).bind λ_=>(idx x.1.2.1 (BB x.2.1:Nat)).bind λy8=>some (((x.1.1,x.1.2.1.set (BB x.2.1) (y2.1,gH ((eq y2.2.1).set (BB j1) (qk .u8 y4 (wr .u8 (wr .i64 (1+(bC .i64 (BE x.2.2.1 (2 ^ 12)) 127)))))),true),x.1.2.2),true,()),()))))
def c:Ctr:=⟨183,ps,rs,false,f K⟩
end Q189
namespace Q190
abbrev ps:List PK:=[.own t95,.rd t26,.rd (.list false 35 t47),.rd (.list false 40 t2)]
abbrev rs:List RK:=[.v t91]
abbrev R:=Option (ai rs×ah ps)
def f (x:ab ps):R:=(idx x.1.1 x.2.1.1).bind λ_=>(idx x.1.1 (BB x.2.1.1:Nat)).bind λy2=>(idx x.1.1 x.2.1.1).bind λ_=>(idx x.1.1 (BB x.2.1.1:Nat)).bind λy4=>(Q186.f K ((x.1.1.set (BB x.2.1.1) x.2.1,x.1.2),y2.2.2.2.2.2.2.2.2.1,x.2.2.2.1,x.2.1.2.2.2.2.2.2.2.2.1,())).bind λy5=>(Q182.f K (y5.1.1,x.2.1.1,x.2.2.1,())).bind λy6=>some ((y6.1.1,()),())
def c:Ctr:=⟨227,ps,rs,false,f K⟩
end Q190
namespace Q191
abbrev ps:List PK:=[.rd I6,.rd .bool]
abbrev rs:List RK:=[.v t26]
abbrev R:=Option (ai rs×ah ps)
def f (K:Nat)(x:ab ps):R:=some (((x.1,false,false,x.2.1,0,0,0,0,[],[],(0,0,0,false),[],(0,0,0,0),[],[]),()),())
def c:Ctr:=⟨228,ps,rs,true,f K⟩
end Q191
namespace Q192
abbrev ps:List PK:=[.own t95,.rd I6]
abbrev rs:List RK:=[.v t91]
abbrev R:=Option (ai rs×ah ps)
def f (x:ab ps):R:=(Q117.f K (x.2.1,())).bind λy1=>(Q128.f K (x.2.1,y1.1.1,())).bind λy2=>(idx x.1.1 x.2.1).bind λ_=>(idx x.1.1 (BB x.2.1:Nat)).bind λy4=>(idx y2.1.1.2.2.2.2.2.2.2.2.1 0).bind λy5=>(Q184.f K (x.1.2.2.2,y5,())).bind λy6=>some (((x.1.1.set (BB x.2.1) y2.1.1,x.1.2.1,x.1.2.2.1,y6.1.1),()),())
def c:Ctr:=⟨229,ps,rs,false,f K⟩
end Q192
namespace Q193
abbrev ps:List PK:=[.rd I6,.rd t6]
abbrev rs:List RK:=[.v .bool]
abbrev R:=Option (ai rs×ah ps)
def f (K:Nat)(x:ab ps):R:=let j1:=(wr .i64 ((wr .i64 (6-(BA x.2.1.2.2.2:Int)))+1));let j2:=wr .i64 (x.1-x.2.1.2.2.1);bif decide (j1<3) then (some ((decide (j2>=3),()),())) else (some ((decide (j2>=j1),()),()))
def c:Ctr:=⟨75,ps,rs,true,f K⟩
end Q193
namespace Q194
abbrev ps:List PK:=[.rd t26,.rd t2,.rd I6]
abbrev rs:List RK:=[.v t26]
abbrev R:=Option (ai rs×ah ps)
def f (x:ab ps):R:=let b1:=x.1.2.2.2.2.2.2.2.2;(Q132.f K (b1.1,x.2.1,())).bind λy1=>bif !y1.1.2.1 then (some ((x.1,()),())) else ((Q102.f K (b1.1,x.2.1.1,())).bind λy2=>let j3:=(b1.2.1,x.2.1,());let j1:R:=(Q133.f K j3).bind λy7=>(Q134.f K ((zcp8 x.1 (y1.1.1,y7.1.1,b1.2.2)),x.2.1,x.2.2.1,())).bind λy8=>some (((zcp8 x.1 (y1.1.1,y7.1.1,b1.2.2.1,y8.1.1,b1.2.2.2.2)),()),());bif decide (y2.1.1>=0) then ((idx b1.1 y2.1.1).bind λy3=>bif y3.2.1==x.2.1.2.1 then ((idx b1.1 y2.1.1).bind λy4=>(Q133.f K j3).bind λy5=>let j2:=(zcp8 x.1 (y1.1.1,y5.1.1,b1.2.2));bif !(y4.2.2.1==x.2.1.2.2.1) then ((Q134.f K (j2,x.2.1,x.2.2.1,())).bind λy6=>some (((zcp8 x.1 (y1.1.1,y5.1.1,b1.2.2.1,y6.1.1,b1.2.2.2.2)),()),())) else (some ((j2,()),()))) else j1) else j1)
def c:Ctr:=⟨163,ps,rs,false,f K⟩
end Q194
namespace Q195
abbrev ps:List PK:=[.rd t26]
abbrev rs:List RK:=[.v t26]
abbrev R:=Option (ai rs×ah ps)
abbrev A0:=Int×Int×Bool×Bool×Bool×Int×Int×Int×Int×List (Ty.den t2)×List (Ty.den t3)×Int×Int×Int×Bool×List (Ty.den t6)×Int×Int×Int×Int×List (Ty.den t11)×List (Ty.den t12)
def s0 (x:ab ps)(r0:A0->R)(a:A0):R:=let b1:=x.1.2.2.2.2.2.2.2.2.2.2.2.1;bif decide (a.1<(BA b1:Int)) then ((idx b1 a.1).bind λy1=>(Q193.f K (a.2.2.2.2.2.2.1,y1,())).bind λy2=>bif y2.1.1 then ((idx b1 a.1).bind λy3=>(Q102.f K (a.2.2.2.2.2.2.2.2.2.1,y3.1,())).bind λy4=>(idx a.2.2.2.2.2.2.2.2.2.1 y4.1.1).bind λy5=>(Q194.f K (zc286a0 a.2 ((y5.1,y5.2.1,3,y5.2.2.2),a.2.1,()))).bind λy6=>r0 (wr .i64 (a.1+1),(zc3ec45 y6.1.1))) else (r0 (wr .i64 (a.1+1),a.2))) else (some ((zc286a0 a.2 ()),()))
def l0 (x:ab ps):A0->R:=ae (s0 K x) K
def pre (K:Nat)(N0:A0->R)(x:ab ps):R:=N0 (0,(zc3ec45 x.1))
def f (x:ab ps):R:=pre K (l0 K x) x
def c:Ctr:=⟨265,ps,rs,false,f K⟩
end Q195
namespace Q196
abbrev ps:List PK:=[.rd (.list false 40 t2),.rd I6]
abbrev rs:List RK:=[.v .bool]
abbrev R:=Option (ai rs×ah ps)
def f (x:ab ps):R:=(Q102.f K (x.1,x.2.1,())).bind λy1=>bif decide (y1.1.1>=0) then ((idx x.1 y1.1.1).bind λy2=>bif y2.2.2.1==1 then (some ((true,()),())) else ((idx x.1 y1.1.1).bind λy3=>some ((y3.2.2.1==2,()),()))) else (some ((false,()),()))
def c:Ctr:=⟨269,ps,rs,true,f K⟩
end Q196
namespace Q197
abbrev ps:List PK:=[.rd t26]
abbrev rs:List RK:=[.v (.list true 3 I6)]
abbrev R:=Option (ai rs×ah ps)
abbrev A0:=List (Ty.den I6)×Int
def s0 (K:Nat)(x:ab ps)(r0:A0->R)(a:A0):R:=let b1:=x.1.2.2.2.2.2.2.2.2;bif decide (a.2<(BA b1.1:Int)) then (bif decide ((BA a.1:Int)<2) then ((idx b1.1 a.2).bind λy1=>let j1:R:=r0 (a.1,wr .i64 (a.2+1));bif y1.1 != x.1.1 then (bif y1.1 != b1.2.2.1.1 then (bif y1.2.2.1==1 then (bif decide ((BA a.1+BA ([y1.1]))*8<=am) then (r0 (a.1++([y1.1]),wr .i64 (a.2+1))) else none) else j1) else j1) else j1) else (some ((a.1,()),()))) else (some ((a.1,()),()))
def l0 (x:ab ps):A0->R:=ae (s0 K x) K
def pre (K:Nat)(N0:A0->R)(x:ab ps):R:=N0 ([],0)
def f (x:ab ps):R:=pre K (l0 K x) x
def c:Ctr:=⟨286,ps,rs,true,f K⟩
end Q197
namespace Q198
abbrev ps:List PK:=[.rd t26]
abbrev rs:List RK:=[.v t26,.v (.list true 35 t47)]
abbrev R:=Option (ai rs×ah ps)
abbrev A0:=List (Ty.den t47)×List (Ty.den I6)×Int
def s0 (x:ab ps)(r0:A0->R)(a:A0):R:=let b1:=x.1.2.2.2.2.2.2.2.2;let j1:=(zcp8 x.1 (b1.1,b1.2.1,(b1.2.2.1.1,b1.2.2.1.2.1,b1.2.2.1.2.2.1,true),b1.2.2.2));bif decide (a.2.2<(BA a.2.1:Int)) then ((idx a.2.1 a.2.2).bind λ_=>(idx a.2.1 (BB a.2.2:Nat)).bind λy7=>(Q143.f K (j1,3,y7,b1.2.2.1.2.2.1,b1.2.2.1.1,[],())).bind λy8=>bif decide ((BA a.1+BA ([y8.1.1]))*104<=am) then (r0 (a.1++([y8.1.1]),a.2.1,wr .i64 (a.2.2+1))) else none) else (some ((j1,a.1,()),()))
def l0 (x:ab ps):A0->R:=ae (s0 K x) K
def pre (N0:A0->R)(x:ab ps):R:=let b1:=x.1.2.2.2.2.2.2.2.2;let b2:=b1.2.2.1;let j3:=(b1.1,b2.1,());(Q196.f K j3).bind λy1=>let j1:=(zcp8 x.1 (b1.1,b1.2.1,((-1),0,0,false),b1.2.2.2));bif !y1.1.1 then (some ((j1,[],()),())) else (let j2:=wr .i64 (x.1.2.2.2.2.2.1-b2.2.1);bif decide (j2>=4) then ((Q102.f K j3).bind λy2=>(idx b1.1 y2.1.1).bind λy3=>bif y3.2.2.1==1 then ((Q194.f K (j1,(y3.1,y3.2.1,2,y3.2.2.2),x.1.1,())).bind λy4=>some ((y4.1.1,[],()),())) else (some ((j1,[],()),()))) else (bif decide (j2>=2) then (bif !b2.2.2.2 then ((Q197.f K ((zcp8 x.1 (b1.1,b1.2.1,(b2.1,b2.2.1,b2.2.2.1,true),b1.2.2.2)),())).bind λy5=>N0 ([],y5.1.1,0)) else (some ((x.1,[],()),()))) else (some ((x.1,[],()),()))))
def f (x:ab ps):R:=pre K (l0 K x) x
def c:Ctr:=⟨266,ps,rs,false,f K⟩
end Q198
namespace Q199
abbrev ps:List PK:=[.rd t26,.rd I6]
abbrev rs:List RK:=[.v (.list true 40 t2),.v t26]
abbrev R:=Option (ai rs×ah ps)
def f (x:ab ps):R:=let b1:=x.1.2.2.2.2.2.2.2.2;(Q146.f K (b1.2.1,3,())).bind λy1=>(Q102.f K (b1.1,x.2.1,())).bind λy2=>let j1:=(zcp8 x.1 (b1.1,y1.1.2.1,b1.2.2));bif decide (y2.1.1>=0) then ((idx b1.1 y2.1.1).bind λy3=>bif y3.2.2.1==2 then ((idx b1.1 y2.1.1).bind λy4=>(Q116.f K (y1.1.1,y4,())).bind λy5=>some ((y5.1.1,j1,()),())) else (some ((y1.1.1,j1,()),()))) else (some ((y1.1.1,j1,()),()))
def c:Ctr:=⟨159,ps,rs,false,f K⟩
end Q199
namespace Q200
abbrev ps:List PK:=[.rd t26]
abbrev rs:List RK:=[.v I6]
abbrev R:=Option (ai rs×ah ps)
abbrev A0:=Int
def s0 (x:ab ps)(r0:A0->R)(a:A0):R:=bif decide (a<=7) then (let j1:=wr .i64 (x.1.2.2.2.2.2.2.2.1+a);bif (BD j1 8) != x.1.1 then ((Q196.f K (x.1.2.2.2.2.2.2.2.2.1,BD j1 8,())).bind λy1=>bif y1.1.1 then (some ((BD j1 8,()),())) else (r0 (wr .i64 (a+1)))) else (r0 (wr .i64 (a+1)))) else (some (((-1),()),()))
def l0 (x:ab ps):A0->R:=ae (s0 K x) K
def pre (K:Nat)(N0:A0->R)(x:ab ps):R:=N0 0
def f (x:ab ps):R:=pre K (l0 K x) x
def c:Ctr:=⟨287,ps,rs,true,f K⟩
end Q200
namespace Q201
abbrev ps:List PK:=[.rd t26]
abbrev rs:List RK:=[.v t26,.v (.list true 35 t47)]
abbrev R:=Option (ai rs×ah ps)
def f (x:ab ps):R:=(Q200.f K (x.1,())).bind λy1=>bif decide (y1.1.1<0) then (some ((x.1,[],()),())) else (bif decide (x.1.2.2.2.2.2.2.1>=999999) then (some ((x.1,[],()),())) else ((Q199.f K (x.1,y1.1.1,())).bind λy2=>let b1:=y2.1.2.1.2.2.2.2;let j2:=b1.2.2.1+1;let j1:=(zcp4 y2.1.2.1 (b1.1,b1.2.1,wr .i64 j2,wr .i64 (y1.1.1+1),b1.2.2.2.2.1,b1.2.2.2.2.2.1,(y1.1.1,b1.2.1,wr .i64 j2,false),b1.2.2.2.2.2.2.2));(Q143.f K (j1,1,y1.1.1,wr .i64 j2,y2.1.2.1.1,y2.1.1,())).bind λy3=>some ((j1,[y3.1.1],()),())))
def c:Ctr:=⟨267,ps,rs,false,f K⟩
end Q201
namespace Q202
abbrev ps:List PK:=[.rd t26,.rd I6]
abbrev rs:List RK:=[.v I6]
abbrev R:=Option (ai rs×ah ps)
abbrev A0:=List (Ty.den I6)×Int
def s0 (K:Nat)(x:ab ps)(r0:A0->R)(a:A0):R:=let b1:=x.1.2.2.2.2.2.2.2.2.1;bif decide (a.2<(BA b1:Int)) then ((idx b1 a.2).bind λy1=>bif y1.1 != x.1.1 then ((idx b1 a.2).bind λy2=>bif y2.2.2.1 != 4 then ((idx b1 a.2).bind λy3=>bif decide ((BA a.1+BA ([y3.1]))*8<=am) then (r0 (a.1++([y3.1]),wr .i64 (a.2+1))) else none) else (r0 (a.1,wr .i64 (a.2+1)))) else (r0 (a.1,wr .i64 (a.2+1)))) else (bif (BA a.1:Int)==0 then (some (((-1),()),())) else (bif decide ((BA a.1:Int)=0) then none else (let j1:=(BD (bC .i64 x.2.1 255) (BA a.1:Int));(idx a.1 j1).bind λ_=>(idx a.1 (BB j1:Nat)).bind λy5=>some ((y5,()),()))))
def l0 (x:ab ps):A0->R:=ae (s0 K x) K
def pre (K:Nat)(N0:A0->R)(x:ab ps):R:=N0 ([],0)
def f (x:ab ps):R:=pre K (l0 K x) x
def c:Ctr:=⟨288,ps,rs,true,f K⟩
end Q202
namespace Q203
abbrev ps:List PK:=[.rd (.list false 40 t2),.rd I6]
abbrev rs:List RK:=[.v (.list true 3 I6)]
abbrev R:=Option (ai rs×ah ps)
abbrev A0:=List (Ty.den I6)×Int
def s0 (K:Nat)(x:ab ps)(r0:A0->R)(a:A0):R:=bif decide (a.2<(BA x.1:Int)) then (bif decide ((BA a.1:Int)<x.2.1) then ((idx x.1 a.2).bind λy1=>bif y1.2.2.2 then ((idx x.1 a.2).bind λy2=>bif y2.2.2.1==1 then ((idx x.1 a.2).bind λy3=>bif decide ((BA a.1+BA ([y3.1]))*8<=am) then (r0 (a.1++([y3.1]),wr .i64 (a.2+1))) else none) else (r0 (a.1,wr .i64 (a.2+1)))) else (r0 (a.1,wr .i64 (a.2+1)))) else (some ((a.1,()),()))) else (some ((a.1,()),()))
def l0 (x:ab ps):A0->R:=ae (s0 K x) K
def pre (K:Nat)(N0:A0->R)(x:ab ps):R:=N0 ([],0)
def f (x:ab ps):R:=pre K (l0 K x) x
def c:Ctr:=⟨313,ps,rs,true,f K⟩
end Q203
namespace Q204
abbrev ps:List PK:=[.rd t26]
abbrev rs:List RK:=[.v .bool]
abbrev R:=Option (ai rs×ah ps)
abbrev A0:=List (Ty.den I6)×Int
def s0 (K:Nat)(x:ab ps)(r0:A0->R)(a:A0):R:=bif decide (a.2<(BA a.1:Int)) then ((idx a.1 a.2).bind λ_=>(idx a.1 (BB a.2:Nat)).bind λy3=>bif y3==x.1.1 then (some ((true,()),())) else (r0 (a.1,wr .i64 (a.2+1)))) else (some ((false,()),()))
def l0 (x:ab ps):A0->R:=ae (s0 K x) K
def pre (N0:A0->R)(x:ab ps):R:=(Q203.f K (x.1.2.2.2.2.2.2.2.2.1,2,())).bind λy1=>N0 (y1.1.1,0)
def f (x:ab ps):R:=pre K (l0 K x) x
def c:Ctr:=⟨304,ps,rs,true,f K⟩
end Q204
namespace Q205
abbrev ps:List PK:=[.rd t26,.rd I6,.rd I6]
abbrev rs:List RK:=[.v I6]
abbrev R:=Option (ai rs×ah ps)
abbrev A0:=Int
def s0 (x:ab ps)(r0:A0->R)(a:A0):R:=let b1:=x.1.2.2.2.2.2.2.2.2.2.2.2.2.2.2;bif decide (a<(BA b1:Int)) then ((idx b1 a).bind λy1=>let j3:R:=r0 (wr .i64 (a+1));bif y1.1==x.2.1 then ((idx b1 a).bind λy2=>(Q203.f K (y2.2,2,())).bind λy3=>let j2:=(BA y3.1.1:Int);bif decide (j2>0) then (bif (bC .i64 x.2.2.1 4)==0 then (bif decide (j2=0) then none else (let j1:=(BD (bC .i64 (BE x.2.2.1 (2 ^ 3)) 255) j2);(idx y3.1.1 j1).bind λ_=>(idx y3.1.1 (BB j1:Nat)).bind λy5=>some ((y5,()),()))) else j3) else j3) else j3) else (some ((wr .i64 ((wr .i64 (x.2.1*4))+(bC .i64 (BE x.2.2.1 (2 ^ 3)) 3)),()),()))
def l0 (x:ab ps):A0->R:=ae (s0 K x) K
def pre (K:Nat)(N0:A0->R)(x:ab ps):R:=N0 0
def f (x:ab ps):R:=pre K (l0 K x) x
def c:Ctr:=⟨305,ps,rs,true,f K⟩
end Q205
namespace Q206
abbrev ps:List PK:=[.rd t26,.rd I6]
abbrev rs:List RK:=[.v (.list true 35 t47)]
abbrev R:=Option (ai rs×ah ps)
abbrev A0:=List (Ty.den t47)×Int
def s0 (x:ab ps)(r0:A0->R)(a:A0):R:=bif decide (a.2<=1) then ((Q101.f K (x.1.1,())).bind λy2=>bif a.2 != y2.1.1 then ((Q205.f K (x.1,a.2,x.2.1,())).bind λy3=>(Q143.f K (x.1,6,y3.1.1,0,x.1.1,x.1.2.2.2.2.2.2.2.2.1,())).bind λy4=>bif decide ((BA a.1+BA ([(2,y4.1.1.2)]))*104<=am) then (r0 (a.1++([(2,y4.1.1.2)]),wr .i64 (a.2+1))) else none) else (r0 (a.1,wr .i64 (a.2+1)))) else (some ((a.1,()),()))
def l0 (x:ab ps):A0->R:=ae (s0 K x) K
def pre (N0:A0->R)(x:ab ps):R:=(Q204.f K (x.1,())).bind λy1=>bif !y1.1.1 then (some (([],()),())) else (N0 ([],0))
def f (x:ab ps):R:=pre K (l0 K x) x
def c:Ctr:=⟨289,ps,rs,true,f K⟩
end Q206
namespace Q207
abbrev ps:List PK:=[.rd t26,.rd I6]
abbrev rs:List RK:=[.v (.list true 35 t47)]
abbrev R:=Option (ai rs×ah ps)
def f (x:ab ps):R:=let b1:=x.1.2.2.2.2.2.2.2.2;let j3:=(x.1,BE x.2.1 (2 ^ 2),());(Q202.f K j3).bind λy1=>let j1:R:=bif (bC .i64 x.2.1 3)==1 then ((Q206.f K j3).bind λy3=>some ((y3.1.1,()),())) else (bif (bC .i64 x.2.1 3)==2 then (bif decide (y1.1.1>=0) then (let j2:=(BA b1.2.2.2.2.2.2:Int);bif decide (j2>0) then (bif decide (j2=0) then none else ((idx b1.2.2.2.2.2.2 (BD (bC .i64 (BE x.2.1 (2 ^ 10)) 255) j2)).bind λy4=>(Q143.f K (x.1,6,y1.1.1,0,x.1.1,y4.2,())).bind λy5=>some (([y5.1.1],()),()))) else (some (([],()),()))) else (some (([],()),()))) else (some (([],()),())));bif (bC .i64 x.2.1 3)==0 then (bif decide (y1.1.1>=0) then ((Q143.f K (x.1,4,y1.1.1,0,x.1.1,b1.1,())).bind λy2=>some (([y2.1.1],()),())) else j1) else j1
def c:Ctr:=⟨268,ps,rs,true,f K⟩
end Q207
namespace Q208
abbrev ps:List PK:=[.rd t26,.rd I6]
abbrev rs:List RK:=[.v t26,.v (.list true 35 t47)]
abbrev R:=Option (ai rs×ah ps)
def f (x:ab ps):R:=let b2:=x.1.2.2.2.2;let j1:R:=some ((x.1,[],()),());bif !x.1.2.1 then j1 else (bif x.1.2.2.1 then j1 else (bif decide (b2.2.1>=999999) then j1 else ((Q195.f K ((zcp4 x.1 (b2.1,wr .i64 (b2.2.1+1),b2.2.2)),())).bind λy1=>let b1:=y1.1.1.2.2.2.2.2.2.2.2.2.2.1.1;bif decide (b1>=0) then ((Q198.f K (y1.1.1,())).bind λy2=>bif decide (y2.1.1.2.2.2.2.2.2.2.2.2.2.1.1<0) then ((Q201.f K (y2.1.1,())).bind λy3=>bif decide ((BA y2.1.2.1+BA y3.1.2.1)*104<=am) then ((Q207.f K (y3.1.1,x.2.1,())).bind λy4=>bif decide ((BA (y2.1.2.1++y3.1.2.1)+BA y4.1.1)*104<=am) then (some ((y3.1.1,(y2.1.2.1++y3.1.2.1)++y4.1.1,()),())) else none) else none) else ((Q207.f K (y2.1.1,x.2.1,())).bind λy5=>bif decide ((BA y2.1.2.1+BA y5.1.1)*104<=am) then (some ((y2.1.1,y2.1.2.1++y5.1.1,()),())) else none)) else (bif decide (b1<0) then ((Q201.f K (y1.1.1,())).bind λy6=>bif decide ((BA ([]:List (Ty.den t47))+BA y6.1.2.1)*104<=am) then ((Q207.f K (y6.1.1,x.2.1,())).bind λy7=>bif decide ((BA ([]++y6.1.2.1)+BA y7.1.1)*104<=am) then (some ((y6.1.1,([]++y6.1.2.1)++y7.1.1,()),())) else none) else none) else ((Q207.f K (y1.1.1,x.2.1,())).bind λy8=>bif decide ((BA ([]:List (Ty.den t47))+BA y8.1.1)*104<=am) then (some ((y1.1.1,[]++y8.1.1,()),())) else none)))))
def c:Ctr:=⟨230,ps,rs,false,f K⟩
end Q208
namespace Q209
abbrev ps:List PK:=[.rd t26]
abbrev rs:List RK:=[.v t26,.v (.list true 35 t47)]
abbrev R:=Option (ai rs×ah ps)
abbrev A0:=List (Ty.den t47)×Int×Int×Bool×Bool×Int×Int×Int×Int×List (Ty.den t2)×List (Ty.den t3)×Int×Int×Int×Bool×List (Ty.den t6)×Int×Int×Int×Int×List (Ty.den t11)×List (Ty.den t12)
def s0 (x:ab ps)(r0:A0->R)(a:A0):R:=let b1:=a.2.2.2.2.2.2.2.2.2.1;let j1:=(a.2.2.1,a.2.2.2.1,true,(zceae5f a.2.2.2.2));bif decide (a.2.1<(BA b1:Int)) then ((idx b1 a.2.1).bind λy2=>let j2:=(a.1,wr .i64 (a.2.1+1),a.2.2);bif y2.1 != a.2.2.1 then ((idx b1 a.2.1).bind λy3=>(Q196.f K (b1,y3.1,())).bind λy4=>bif y4.1.1 then ((idx b1 a.2.1).bind λy5=>(Q143.f K (j1,5,y5.1,0,a.2.2.1,b1,())).bind λy6=>bif decide ((BA a.1+BA ([y6.1.1]))*104<=am) then (r0 (a.1++([y6.1.1]),wr .i64 (a.2.1+1),a.2.2)) else none) else (r0 j2)) else (r0 j2)) else (some ((j1,a.1,()),()))
def l0 (x:ab ps):A0->R:=ae (s0 K x) K
def pre (N0:A0->R)(x:ab ps):R:=bif !x.1.2.1 then (some ((x.1,[],()),())) else (bif x.1.2.2.1 then (some ((x.1,[],()),())) else ((Q194.f K (x.1,(x.1.1,x.1.2.2.2.2.1,4,x.1.2.2.2.1),x.1.1,())).bind λy1=>let b2:=y1.1.1.2.2.2;let b1:=b2.2.2.2.2.2;let b3:=b1.2.2.2.2;N0 ([],0,y1.1.1.1,y1.1.1.2.1,b2.1,b2.2.1,b2.2.2.1,b2.2.2.2.1,b2.2.2.2.2.1,b1.1,b1.2.1,b1.2.2.1.1,b1.2.2.1.2.1,b1.2.2.1.2.2.1,b1.2.2.1.2.2.2,b1.2.2.2.1,b3.1.1,b3.1.2.1,b3.1.2.2.1,b3.1.2.2.2,b3.2)))
def f (x:ab ps):R:=pre K (l0 K x) x
def c:Ctr:=⟨231,ps,rs,false,f K⟩
end Q209
namespace Q210
abbrev ps:List PK:=[.own t95,.rd t2]
abbrev rs:List RK:=[.v t91,.v .bool]
abbrev R:=Option (ai rs×ah ps)
def f (x:ab ps):R:=let b1:=x.2.1.2;(idx x.1.1 b1.1).bind λ_=>let j2:=(BB b1.1:Nat);(idx x.1.1 j2).bind λy2=>bif x.2.1.1==5 then ((Q148.f K (b1.2.1,0,2,())).bind λy3=>(idx x.1.2.2.1 b1.1).bind λ_=>(idx x.1.2.2.1 j2).bind λy5=>some (((x.1.1,x.1.2.1,x.1.2.2.1.set (BB b1.1) y3.1.1,x.1.2.2.2),true,()),())) else (bif x.2.1.1==6 then ((Q191.f K (y2.1,y2.2.2.2.1,())).bind λy6=>(idx x.1.1 b1.1).bind λ_=>(idx x.1.1 j2).bind λy8=>some (((x.1.1.set (BB b1.1) y6.1.1,x.1.2),y2.2.1,()),())) else (let j1:R:=some ((x.1,false,()),());bif x.2.1.1==7 then (bif y2.2.1 then j1 else ((Q192.f K (x.1,b1.1,())).bind λy9=>some ((y9.1.1,true,()),()))) else (bif !y2.2.1 then j1 else (bif y2.2.2.1 then j1 else (bif x.2.1.1==1 then (bif decide (y2.2.2.2.2.2.1>=999999) then j1 else ((Q208.f K (y2,b1.2.1,())).bind λy10=>(Q190.f K (x.1,y10.1.1,y10.1.2.1,[],())).bind λy11=>some ((y11.1.1,true,()),()))) else (bif x.2.1.1==8 then ((Q209.f K (y2,())).bind λy12=>(Q190.f K (x.1,y12.1.1,y12.1.2.1,[],())).bind λy13=>some ((y13.1.1,true,()),())) else (bif x.2.1.1==9 then ((Q97.f K (b1.2.1,0,7,())).bind λy14=>bif !y14.1.1 then j1 else (bif b1.2.1==y2.1 then j1 else ((Q101.f K (b1.2.1,())).bind λy15=>(Q101.f K (y2.1,())).bind λy16=>bif y15.1.1 != y16.1.1 then j1 else ((Q143.f K (y2,4,b1.2.1,0,y2.1,y2.2.2.2.2.2.2.2.2.1,())).bind λy17=>(Q190.f K (x.1,y2,[y17.1.1],[],())).bind λy18=>some ((y18.1.1,true,()),()))))) else j1)))))))
def c:Ctr:=⟨185,ps,rs,false,f K⟩
end Q210
namespace Q211
abbrev ps:List PK:=[.own t94,.rd t2]
def c:Ctr:=⟨185,ps,Q210.rs,false,Q210.f K⟩
end Q211
namespace Q212
abbrev ps:List PK:=[.own t94,.rd t2]
abbrev rs:List RK:=[.v t91,.v .bool]
abbrev R:=Option (ai rs×ah ps)
def f (x:ab ps):R:=let b1:=x.2.1.2;let j1:R:=(Q97.f K (b1.1,0,wr .i64 ((BA x.1.2.1:Int)-1),())).bind λy1=>bif !y1.1.1 then (some ((x.1,false,()),())) else (bif x.2.1.1==2 then ((Q188.f K (x.1,b1.1,b1.2.2,())).bind λy2=>some ((y2.1.1,true,()),())) else (bif x.2.1.1==4 then ((Q189.f K (x.1,b1.1,b1.2.1,())).bind λy3=>some ((y3.1.1,y3.1.2.1,()),())) else ((Q181.f K (x.1.2.1,b1.1,())).bind λy4=>some (((x.1.1,y4.1.1,x.1.2.2),true,()),()))));bif x.2.1.1==2 then j1 else (bif x.2.1.1==3 then j1 else (bif x.2.1.1==4 then j1 else ((Q97.f K (b1.1,0,7,())).bind λy13=>bif !y13.1.1 then (some ((x.1,false,()),())) else ((Q210.f K (x.1,x.2.1,())).bind λy14=>some ((y14.1.1,y14.1.2.1,()),())))))
def c:Ctr:=⟨123,ps,rs,false,f K⟩
end Q212
namespace Q213
abbrev ps:List PK:=[.rd t91]
abbrev rs:List RK:=[.v t94]
abbrev R:=Option (ai rs×ah ps)
abbrev A0:=Int×List (Ty.den t38)
def s0 (x:ab ps)(r0:A0->R)(a:A0):R:=bif decide (a.1<(BA x.1.1:Int)) then ((idx x.1.1 a.1).bind λy1=>(Q115.f K (y1,())).bind λy2=>bif decide ((BA a.2+BA ([y2.1.1]))*232<=am) then (r0 (wr .i64 (a.1+1),a.2++([y2.1.1]))) else none) else (some (((a.2,[]++x.1.2.1,[]++x.1.2.2.1,[]++x.1.2.2.2),()),()))
def l0 (x:ab ps):A0->R:=ae (s0 K x) K
def pre (K:Nat)(N0:A0->R)(x:ab ps):R:=bif decide ((BA ([]:List (Ty.den t40))+BA x.1.2.1)*32<=am) then (bif decide ((BA ([]:List (Ty.den I6))+BA x.1.2.2.1)*8<=am) then (bif decide ((BA ([]:List (Ty.den t2))+BA x.1.2.2.2)*32<=am) then (N0 (0,[])) else none) else none) else none
def f (x:ab ps):R:=pre K (l0 K x) x
def c:Ctr:=⟨124,ps,rs,true,f K⟩
end Q213
namespace Q214
abbrev ps:List PK:=[.rd t91,.io (.list true 139 t2)]
abbrev rs:List RK:=[.v t91]
abbrev R:=Option (ai rs×ah ps)
abbrev A0:=Int×List (Ty.den t26)×List (Ty.den t40)×List (Ty.den I6)×List (Ty.den t2)
def s0 (x:ab ps)(r0:A0->R)(a:A0):R:=bif decide (a.1<(BA x.2.1:Int)) then ((Q213.f K (a.2,())).bind λy1=>(idx x.2.1 a.1).bind λ_=>(idx x.2.1 (BB a.1:Nat)).bind λy3=>(Q212.f K (y1.1.1,y3,())).bind λy4=>bif y4.1.2.1 then (r0 (wr .i64 (a.1+1),y4.1.1)) else (r0 (wr .i64 (a.1+1),a.2))) else (some ((a.2,()),x.2.1,()))
def l0 (x:ab ps):A0->R:=ae (s0 K x) K
def pre (K:Nat)(N0:A0->R)(x:ab ps):R:=N0 (0,x.1)
def f (x:ab ps):R:=pre K (l0 K x) x
def c:Ctr:=⟨121,ps,rs,false,f K⟩
end Q214
namespace Q215
abbrev ps:List PK:=[.iop t74,.rd t91]
abbrev rs:List RK:=[.v I6]
abbrev R:=Option (ai rs×ah ps)
def f (x:ab ps):R:=let j2:=(BA x.2.1.2.1:Int);bif j2==0 then (some ((0,()),x.1,())) else ((Q114.f K (x.1,3,())).bind λy1=>let j1:R:=(Q114.f K (y1.2.1,j2,())).bind λy3=>some ((y3.1.1,()),y3.2.1,());bif decide (y1.1.1>0) then (bif decide (j2>4) then ((Q114.f K (y1.2.1,4,())).bind λy2=>some ((y2.1.1,()),y2.2.1,())) else j1) else j1)
def c:Ctr:=⟨181,ps,rs,false,f K⟩
end Q215
namespace Q216
abbrev ps:List PK:=[.iop t74,.rd t91]
abbrev rs:List RK:=[.v t2]
abbrev R:=Option (ai rs×ah ps)
def f (x:ab ps):R:=(Q114.f K (x.1,8,())).bind λy1=>(Q114.f K (y1.2.1,256,())).bind λy2=>(Q114.f K (y2.2.1,16,())).bind λy3=>(Q114.f K (y3.2.1,40,())).bind λy4=>let j5:R:=(Q215.f K (y4.2.1,x.2.1,())).bind λy5=>some (((3,y5.1.1,0,false),()),y5.2.1,());bif y4.1.1==0 then j5 else (bif y4.1.1==1 then j5 else (let j7:=(wr .i64 (y2.1.1*16))+y3.1.1;bif y4.1.1==2 then ((Q215.f K (y4.2.1,x.2.1,())).bind λy7=>(Q114.f K (y7.2.1,128,())).bind λy8=>some (((4,y7.1.1,wr .i64 ((wr .i64 ((wr .i64 j7)*16))+(wr .i64 (y8.1.1*4096))),false),()),y8.2.1,())) else (let j4:R:=(Q114.f K (y4.2.1,3,())).bind λy9=>some (((5,y1.1.1,y9.1.1,false),()),y9.2.1,());bif y4.1.1==3 then j4 else (bif y4.1.1==4 then j4 else (bif y4.1.1==5 then (some (((6,y1.1.1,0,false),()),y4.2.1,())) else (let j6:=(((7,y1.1.1,0,false),()),y4.2.1,());bif y4.1.1==6 then (some j6) else (bif y4.1.1==7 then (some j6) else (let j3:=((1,y1.1.1,wr .i64 j7,false),());bif y4.1.1==8 then ((Q114.f K (y4.2.1,3,())).bind λy11=>bif y11.1.1==0 then (some (((8,y1.1.1,0,false),()),y11.2.1,())) else (some (j3,y11.2.1,()))) else (let j2:R:=(Q114.f K (y4.2.1,4,())).bind λy12=>some (((9,y1.1.1,wr .i64 ((wr .i64 ((wr .i64 (BC y1.1.1 4))*4))+y12.1.1),false),()),y12.2.1,());bif y4.1.1==9 then j2 else (bif y4.1.1==10 then j2 else (bif y4.1.1==11 then j2 else (let j1:R:=bif decide ((BA x.2.1.2.1:Int)>0) then ((Q215.f K (y4.2.1,x.2.1,())).bind λy15=>(Q114.f K (y15.2.1,10,())).bind λy16=>some (((2,y15.1.1,0,y16.1.1==0),()),y16.2.1,())) else (some (j3,y4.2.1,()));bif y4.1.1==12 then j1 else (bif y4.1.1==13 then j1 else (bif y4.1.1==14 then j1 else (bif y4.1.1==15 then j1 else (bif y4.1.1==16 then j1 else (bif y4.1.1==17 then j1 else (bif y4.1.1==18 then j1 else (bif y4.1.1==19 then j1 else (bif y4.1.1==20 then j1 else (bif y4.1.1==21 then j1 else (bif y4.1.1==22 then j1 else (bif y4.1.1==23 then j1 else (bif y4.1.1==24 then j1 else (bif y4.1.1==25 then j1 else (bif y4.1.1==26 then j1 else (bif y4.1.1==27 then j1 else (some (j3,y4.2.1,())))))))))))))))))))))))))))))
def c:Ctr:=⟨122,ps,rs,false,f K⟩
end Q216
namespace Q217
abbrev ps:List PK:=[.iop t74,.rd I6]
abbrev rs:List RK:=[.v (.list false 139 t2),.v t91]
abbrev R:=Option (ai rs×ah ps)
abbrev A1:=List (Ty.den t2)×Int×List (Ty.den (.int .u8))×Int×List (Ty.den t26)×List (Ty.den t40)×List (Ty.den I6)×List (Ty.den t2)
abbrev A0:=List (Ty.den t2)×Int×List (Ty.den (.int .u8))×Int×List (Ty.den t26)×List (Ty.den t40)×List (Ty.den I6)×List (Ty.den t2)
def s1 (x:ab ps)(r1:A1->R)(a:A1):R:=bif decide (a.2.1>0) then ((Q216.f K ((a.2.2.1,a.2.2.2.1),a.2.2.2.2,())).bind λy5=>bif decide ((BA a.1+BA ([y5.1.1]))*32<=am) then ((Q213.f K (a.2.2.2.2,())).bind λy6=>(Q212.f K (y6.1.1,y5.1.1,())).bind λy7=>bif y7.1.2.1 then (r1 (a.1++([y5.1.1]),wr .i64 (a.2.1-1),y5.2.1.1,y5.2.1.2,y7.1.1)) else (r1 (a.1++([y5.1.1]),wr .i64 (a.2.1-1),y5.2.1.1,y5.2.1.2,a.2.2.2.2))) else none) else ((Q213.f K (a.2.2.2.2,())).bind λy8=>some ((a.1,y8.1.1,()),(a.2.2.1,a.2.2.2.1),()))
def l1 (x:ab ps):A1->R:=ae (s1 K x) K
def s0 (x:ab ps)(N1:A1->R)(r0:A0->R)(a:A0):R:=bif decide (a.2.1<=7) then (bif decide ((BD a.2.1 4)>0) then (let j1:=[(9,a.2.1,wr .i64 ((wr .i64 (BC a.2.1 4))*4),false)];bif decide ((BA a.1+BA j1)*32<=am) then (let j2:=[(2,0,0,false),(2,0,0,false)];bif decide ((BA (a.1++j1)+BA j2)*32<=am) then (r0 ((a.1++j1)++j2,wr .i64 (a.2.1+1),a.2.2)) else none) else none) else (r0 (a.1,wr .i64 (a.2.1+1),a.2.2))) else ((Q214.f K (a.2.2.2.2,a.1,())).bind λy3=>(Q114.f K ((a.2.2.1,a.2.2.2.1),x.2.1,())).bind λy4=>N1 (y3.2.1,y4.1.1,y4.2.1.1,y4.2.1.2,y3.1.1))
def l0 (x:ab ps):A0->R:=ae (s0 K x (l1 K x)) K
def pre (N0:A0->R)(N1:A1->R)(x:ab ps):R:=(Q129.f K ()).bind λy1=>(Q114.f K (x.1,3,())).bind λy2=>bif decide (y2.1.1>0) then (N0 ([],0,y2.2.1.1,y2.2.1.2,y1.1.1)) else ((Q114.f K (y2.2.1,x.2.1,())).bind λy9=>N1 ([],y9.1.1,y9.2.1.1,y9.2.1.2,y1.1.1))
def f (x:ab ps):R:=pre K (l0 K x) (l1 K x) x
def c:Ctr:=⟨78,ps,rs,false,f K⟩
def G:List Ctr:=[Q114.c K,Q129.c K,Q214.c K,Q216.c K,Q212.c K,Q213.c K]
def v1:List (Nat×List Coe):=[(0,[.keep]),(5,[.keep]),(6,[.keep]),(7,[.own false 139 t2]),(9,[.keep]),(100000,[.ro true 5 (.int .u8),.keep]),(100005,Kc1),(100006,[.ro false 33 t26,.ro false 117 t40,.ro false 3 I6,.ro false 40 t2])]
def v0:List (Nat×List Coe):=[(0,[.keep]),(1,[.keep]),(5,[.keep]),(6,[.keep]),(7,[.own false 139 t2]),(8,[.keep]),(100000,[.ro true 5 (.int .u8),.keep]),(100005,Kc1),(100006,[.ro false 33 t26,.ro false 117 t40,.ro false 3 I6,.ro false 40 t2])]
def L:List (Nat×List (Nat×List Coe)):=[(13,v1),(6,v0)]
def body:Code:=cQ Tryz.f78
abbrev ev:Code->St->(Ex->St->R)->R:=evK (G K) T_S L K
abbrev fin:Ex->St->R:=di T_S ps rs false Tryz.f78.results.toList
def S0 (x:ab ps)(a:A0):St:=av [(0,⟨0,.one,[.bp 100000 0]⟩),(1,⟨0,.one,[.int .i64 x.2.1]⟩),(5,⟨0,.one,[.bp 100005 0]⟩),(6,⟨0,.one,[.bp 100006 0]⟩),(7,⟨0,.one,[.own false none 139 t2 a.1]⟩),(8,⟨0,.one,[.int .i64 a.2.1]⟩),(100000,⟨0,.agg,[.ro true 5 (.int .u8) a.2.2.1,.int .i64 a.2.2.2.1]⟩),(100005,⟨0,.agg,[.nil,.nil,.nil,.nil]⟩),(100006,⟨0,.agg,(wa8 a.2.2.2.2)⟩)]
def S1 (x:ab ps)(a:A1):St:=av [(0,⟨0,.one,[.bp 100000 0]⟩),(5,⟨0,.one,[.bp 100005 0]⟩),(6,⟨0,.one,[.bp 100006 0]⟩),(7,⟨0,.one,[.own false none 139 t2 a.1]⟩),(9,⟨0,.one,[.int .i64 a.2.1]⟩),(100000,⟨0,.agg,[.ro true 5 (.int .u8) a.2.2.1,.int .i64 a.2.2.2.1]⟩),(100005,⟨0,.agg,[.nil,.nil,.nil,.nil]⟩),(100006,⟨0,.agg,(wa8 a.2.2.2.2)⟩)]
def k1 (x:ab ps):Ex->St->R:=kAt (ev K) body [1,1,1,1,0,1,0] fin
def N1 (x:ab ps):A1->R:=λa=>aV v1 (ev K (sub body [1,1,1,1,0,1,0,0])) K (S1 x a) (k1 K x)
def k0 (x:ab ps):Ex->St->R:=kAt (ev K) body [1,1,1,0,1,0,0,1,0] fin
def N0 (x:ab ps):A0->R:=λa=>aV v0 (ev K (sub body [1,1,1,0,1,0,0,1,0,0])) K (S0 x a) (k0 K x)
end Q217
namespace Q218
abbrev ps:List PK:=[.iop t74]
abbrev rs:List RK:=[.v t91]
abbrev R:=Option (ai rs×ah ps)
def f (x:ab ps):R:=(Q217.f K (x.1,100,())).bind λy1=>some ((y1.1.2.1,()),y1.2.1,())
def c:Ctr:=⟨29,ps,rs,false,f K⟩
end Q218
namespace Q219
abbrev ps:List PK:=[.iop t74]
abbrev rs:List RK:=[.v t26]
abbrev R:=Option (ai rs×ah ps)
def f (x:ab ps):R:=(Q218.f K (x.1,())).bind λy1=>(Q114.f K (y1.2.1,(BA y1.1.1.1:Int),())).bind λy2=>(idx y1.1.1.1 y2.1.1).bind λy3=>some ((y3,()),y2.2.1,())
def c:Ctr:=⟨71,ps,rs,false,f K⟩
end Q219
namespace Q220
abbrev ps:List PK:=[.iop t74]
abbrev rs:List RK:=[.v t26]
abbrev R:=Option (ai rs×ah ps)
def f (x:ab ps):R:=(Q219.f K (x.1,())).bind λy1=>(Q114.f K (y1.2.1,20,())).bind λy2=>bif y2.1.1==0 then ((Q127.f K (y2.2.1,y1.1.1,())).bind λy3=>some ((y3.1.1,()),y3.2.1,())) else (some ((y1.1.1,()),y2.2.1,()))
def c:Ctr:=⟨70,ps,rs,false,f K⟩
end Q220
namespace Q221
abbrev ps:List PK:=[.rd (.list false 5 (.int .u8))]
abbrev rs:List RK:=[.v t26,.v I6]
abbrev R:=Option (ai rs×ah ps)
abbrev A0:=Int×Int×Bool×Bool×Bool×Int×Int×Int×Int×List (Ty.den t2)×List (Ty.den t3)×Int×Int×Int×Bool×List (Ty.den t6)×Int×Int×Int×Int×List (Ty.den t11)×List (Ty.den t12)×List (Ty.den (.int .u8))×Int
def s0 (x:ab ps)(r0:A0->R)(a:A0):R:=let b1:=a.2.2.2.2.2.2.2.2.2.2.2.2.2.2.2;let b2:=b1.2.2.2.2.2.2.2;let j2:=(BA b1.1:Int);let j1:R:=bif decide (j2>0) then ((Q114.f K (b2,6,())).bind λy4=>bif decide (y4.1.1>0) then ((Q114.f K (y4.2.1,j2,())).bind λy5=>(idx b1.1 y5.1.1).bind λy6=>some ((zc59c5b a.2 (y6.1,())),())) else ((Q114.f K (y4.2.1,9,())).bind λy7=>some ((zc59c5b a.2 (wr .i64 (y7.1.1-1),())),()))) else ((Q114.f K (b2,9,())).bind λy8=>some ((zc59c5b a.2 (wr .i64 (y8.1.1-1),())),()));bif decide (a.1<6) then (bif j2==0 then ((Q219.f K (b2,())).bind λy3=>r0 (wr .i64 (a.1+1),(zc31b9a y3))) else j1) else j1
def l0 (x:ab ps):A0->R:=ae (s0 K x) K
def pre (N0:A0->R)(x:ab ps):R:=(Q113.f K (x.1,())).bind λy1=>(Q220.f K (y1.1.1,())).bind λy2=>N0 (0,(zc31b9a y2))
def f (x:ab ps):R:=pre K (l0 K x) x
def c:Ctr:=⟨23,ps,rs,false,f K⟩
end Q221
namespace Q222
abbrev ps:List PK:=[.rd t6,.rref I6]
abbrev rs:List RK:=[.v .bool]
abbrev R:=Option (ai rs×ah ps)
def f (K:Nat)(x:ab ps):R:=some ((x.1.1==x.2.1,()),())
def c:Ctr:=⟨73,ps,rs,true,f K⟩
end Q222
namespace Q223
abbrev ps:List PK:=[.rd t6]
abbrev rs:List RK:=[.v I6]
abbrev R:=Option (ai rs×ah ps)
def f (K:Nat)(x:ab ps):R:=some ((let j1:=((wr .i64 (6-(BA x.1.2.2.2:Int)))+1);bif decide ((wr .i64 j1)<3) then 3 else wr .i64 j1,()),())
def c:Ctr:=⟨74,ps,rs,true,f K⟩
end Q223
namespace Q224
abbrev ps:List PK:=[.rd t26,.rd I6]
abbrev rs:List RK:=[.v I6,.v .bool]
abbrev R:=Option (ai rs×ah ps)
def f (x:ab ps):R:=(Q56.f K (x.1.2.2.2.2.2.2.2.2.2.2.2.1,λy1=>(Q222.f K (y1.1,x.2.1,())).map λy=>y.1.1,())).bind λy2=>bif decide (y2.1.1<0) then (some ((0,false,()),())) else ((Q49.f K (x.1,())).bind λy3=>bif !y3.1.1 then (some ((0,false,()),())) else ((idx x.1.2.2.2.2.2.2.2.2.2.2.2.1 y2.1.1).bind λy4=>(Q223.f K (y4,())).bind λy5=>some ((let j1:=y5.1.1-(wr .i64 (x.1.2.2.2.2.2.1-y4.2.2.1));bif decide ((wr .i64 j1)<0) then 0 else wr .i64 j1,true,()),())))
def c:Ctr:=⟨24,ps,rs,true,f K⟩
end Q224
namespace Q225
abbrev ps:List PK:=[.rd t26,.rd I6]
abbrev rs:List RK:=[.v I6,.v .bool]
abbrev Res:=ai rs×ah ps
abbrev R:=Option Res
abbrev A1:=Int×Int×Int×Int×List (Ty.den I6)
abbrev A0:=Int
def s1 (x:ab ps)(r0:A0->R)(r1:A1->R)(a:A1):R:=bif decide (a.1<6) then ((Q193.f K (wr .i64 (x.1.2.2.2.2.2.1+a.1),a.2,())).bind λy3=>bif !y3.1.1 then (r1 (wr .i64 (a.1+1),a.2)) else (some ((a.1,true,()),()))) else (some ((a.1,true,()),()))
def l1 (x:ab ps)(r0:A0->R):A1->R:=ae (s1 K x r0) K
def s0 (K:Nat)(x:ab ps)(N1:A1->R)(r0:A0->R)(a:A0):R:=bif decide (a<(BA x.1.2.2.2.2.2.2.2.2.2.2.2.1:Int)) then ((idx x.1.2.2.2.2.2.2.2.2.2.2.2.1 a).bind λy2=>bif y2.1 != x.2.1 then (r0 (wr .i64 (a+1))) else (N1 (0,y2))) else (some ((0,false,()),()))
def l0 (x:ab ps):A0->R:=ae (λr0 a=>s0 K x (l1 K x r0) r0 a) K
def pre (N0:A0->R)(x:ab ps):R:=(Q112.f K (x.1,())).bind λy1=>bif !y1.1.1 then (some ((0,false,()),())) else (N0 0)
def f (x:ab ps):R:=pre K (l0 K x) x
def c:Ctr:=⟨25,ps,rs,true,f K⟩
def G:List Ctr:=[Q112.c K,Q193.c K]
def v1:List (Nat×List Coe):=[(2,[.keep]),(7,[.keep]),(8,[.keep]),(100002,Kc0),(100007,Kc3)]
def v0:List (Nat×List Coe):=[(1,[.keep]),(2,[.keep]),(6,[.keep]),(100002,Kc0)]
def L:List (Nat×List (Nat×List Coe)):=[(10,v1),(5,v0)]
def body:Code:=cQ Tryz.f25
abbrev ev:Code->St->(Ex->St->R)->R:=evK (G K) T_S L K
abbrev fin:Ex->St->R:=di T_S ps rs true Tryz.f25.results.toList
def S0 (x:ab ps)(a:A0):St:=av [(1,⟨0,.one,[.int .i64 x.2.1]⟩),(2,⟨0,.one,[.bp 100002 0]⟩),(6,⟨0,.one,[.int .i64 a]⟩),(100002,⟨0,.agg,(w0 x.1)⟩)]
def S1 (x:ab ps)(a:A1):St:=av [(2,⟨0,.one,[.bp 100002 0]⟩),(7,⟨0,.one,[.bp 100007 0]⟩),(8,⟨0,.one,[.int .i64 a.1]⟩),(100002,⟨0,.agg,(w0 x.1)⟩),(100007,⟨0,.agg,(wa0 a.2)⟩)]
def k0 (x:ab ps):Ex->St->R:=kAt (ev K) body [1,1,0,1,0] fin
def N0 (x:ab ps):A0->R:=λa=>aV v0 (ev K (sub body [1,1,0,1,0,0])) K (S0 x a) (k0 K x)
def k1 (x:ab ps)(q0:St->R):Ex->St->R:=kAt (ev K) (sub body [1,1,0,1,0,0]) [1,0,0,1,1,1,0,0] (fX v0 q0 (k0 K x))
def N1 (x:ab ps)(q0:St->R):A1->R:=λa=>aV v1 (ev K (sub body [1,1,0,1,0,0,1,0,0,1,1,1,0,0,0])) K (S1 x a) (k1 K x q0)
end Q225
namespace Q226
abbrev ps:List PK:=[.rd I6,.rd I6,.rd I6]
abbrev rs:List RK:=[.v .bool]
abbrev R:=Option (ai rs×ah ps)
def f (K:Nat)(x:ab ps):R:=bif decide (x.1>=x.2.1) then (some ((decide (x.1<=x.2.2.1),()),())) else (some ((false,()),()))
def c:Ctr:=⟨26,ps,rs,true,f K⟩
end Q226
namespace Q227
abbrev ps:List PK:=[.rd (.list false 5 (.int .u8))]
abbrev rs:List RK:=[.v .bool]
abbrev R:=Option (ai rs×ah ps)
def f (x:ab ps):R:=bif decide ((BA x.1:Int)>1048576) then (some ((true,()),())) else ((Q221.f K (x.1,())).bind λy1=>(Q224.f K (y1.1.1,y1.1.2.1,())).bind λy2=>(Q225.f K (y1.1.1,y1.1.2.1,())).bind λy3=>let j2:R:=some ((false,()),());bif y2.1.1 != y3.1.1 then j2 else (bif y2.1.2.1 != y3.1.2.1 then j2 else ((Q49.f K (y1.1.1,())).bind λy4=>(Q112.f K (y1.1.1,())).bind λy5=>bif y4.1.1 != y5.1.1 then j2 else (let j3:=((decide (y2.1.1>=0),()),());bif !y2.1.2.1 then (some j3) else (bif y1.1.1.2.2.1 then (some j3) else ((Q22.f K (y1.1.1.2.2.2.2.2.2.2.2.1,y1.1.2.1,())).bind λy6=>(Q11.f K ()).bind λy7=>(let j1:=(wr .i64 ((wr .i64 (BC y1.1.1.1 4))*4))+(BD (wr .i64 (y1.1.1.1+1)) 4);Q96.f K (y1.1.1,(1,5,wr .i64 j1,y1.1.1.1,0,wr .i64 j1,y7.1.1,[y6.1.1]),())).bind λy8=>(Q224.f K (y8.1.1,y1.1.2.1,())).bind λy9=>bif y9.1.2.1 then (bif decide (y9.1.1<=y2.1.1) then ((Q226.f K (y2.1.1,0,6,())).bind λy10=>some ((y10.1.1,()),())) else j2) else j2))))))
def c:Ctr:=⟨7,ps,rs,true,f K⟩
end Q227
end
end Go.Proofs.YtadlacffdemoiaaGreatEv
