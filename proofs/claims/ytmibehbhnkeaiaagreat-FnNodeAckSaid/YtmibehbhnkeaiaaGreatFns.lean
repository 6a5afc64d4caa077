/- The functions, on plain values. Printed by run3.py. -/
import Derived.Test.YtmibehbhnkeaiaaGreatFns0
set_option linter.unusedVariables false
set_option maxRecDepth 100000
set_option linter.unusedVariables false
set_option linter.unusedSimpArgs false
open Int renaming toNat->FK,tdiv->FL,tmod->FM,fdiv->FN
open List renaming length->FJ
namespace Go.Proofs.YtmibehbhnkeaiaaGreatEv
open Go Go.Proofs
noncomputable section
variable (K:Nat)
namespace Q128
abbrev ps:List PK:=[.iop t76,.rd I6]
abbrev rs:List RK:=[.v (.list true 46 t2)]
abbrev R:=Option (ai rs×ag ps)
def f (x:ab ps):R:=let b1:=x.1.2.2.2.2.2.2.2.2;(Q127.f K (b1.2.1,3,())).bind λy1=>(Q23.f K (b1.1,x.2.1,())).bind λy2=>let j1:=(zcp8 x.1 (b1.1,y1.1.2.1,b1.2.2));bif y2.1.1.2.2.1==2 then ((Q54.f K (y1.1.1,y2.1.1,())).bind λy3=>some ((y3.1.1,()),j1,())) else (some ((y1.1.1,()),j1,()))
def c:Ctr:=⟨177,ps,rs,false,f K⟩
end Q128
namespace Q129
abbrev ps:List PK:=[.iop t76]
abbrev rs:List RK:=[.v (.list true 35 t59)]
abbrev R:=Option (ai rs×ag ps)
abbrev A0:=Int
def s0 (x:ab ps)(r0:A0->R)(a:A0):R:=bif decide (a<8) then (let j2:=wr .i64 (x.1.2.2.2.2.2.2.2.1+a);bif (FM j2 8)==x.1.1 then (r0 (wr .i64 (a+1))) else ((Q118.f K (x.1,FM j2 8,())).bind λy1=>bif !y1.1.1 then (r0 (wr .i64 (a+1))) else ((Q128.f K (x.1,FM j2 8,())).bind λy2=>let b1:=y2.2.1.2.2.2.2;let j3:=b1.2.2.1+1;let j1:=(zcp4 y2.2.1 (b1.1,b1.2.1,wr .i64 j3,wr .i64 ((FM j2 8)+1),b1.2.2.2.2.1,b1.2.2.2.2.2.1,(FM j2 8,b1.2.1,wr .i64 j3,false),b1.2.2.2.2.2.2.2));(Q65.f K (j1,1,FM j2 8,())).bind λy3=>some (([(zcp4 y3.1.1 (wr .i64 j3,y3.1.1.2.2.2.2.2.1,y3.1.1.2.2.2.2.2.2.1,y2.1.1))],()),j1,())))) else (some (([],()),x.1,()))
def l0 (x:ab ps):A0->R:=ae (s0 K x) K
def pre (K:Nat)(N0:A0->R)(x:ab ps):R:=bif x.1.2.2.2.2.2.2.2.2.2.2.1.1 != (-1) then (some (([],()),x.1,())) else (bif decide (x.1.2.2.2.2.2.2.1>=999999) then (some (([],()),x.1,())) else (N0 0))
def f (x:ab ps):R:=pre K (l0 K x) x
def c:Ctr:=⟨132,ps,rs,false,f K⟩
end Q129
namespace Q130
abbrev ps:List PK:=[.rref t26,.rd I6]
abbrev rs:List RK:=[.bv (.list false 46 t2)]
abbrev R:=Option (ai rs×ag ps)
abbrev A0:=Int
def s0 (K:Nat)(x:ab ps)(r0:A0->R)(a:A0):R:=let b1:=x.1.2.2.2.2.2.2.2.2.2.2.2.2.2.2;bif decide (a<(FJ b1:Int)) then ((idx b1 a).bind λy1=>bif y1.1==x.2.1 then (some ((y1.2,()),())) else (r0 (wr .i64 (a+1)))) else (some (([],()),()))
def l0 (x:ab ps):A0->R:=ae (s0 K x) K
def pre (K:Nat)(N0:A0->R)(x:ab ps):R:=N0 0
def f (x:ab ps):R:=pre K (l0 K x) x
def c:Ctr:=⟨169,ps,rs,true,f K⟩
end Q130
namespace Q131
abbrev ps:List PK:=[.rd (.list false 3 I6),.rd I6]
abbrev rs:List RK:=[.v I6]
abbrev R:=Option (ai rs×ag ps)
abbrev A0:=Int
def s0 (K:Nat)(x:ab ps)(r0:A0->R)(a:A0):R:=bif decide (a<(FJ x.1:Int)) then ((idx x.1 a).bind λy1=>bif x.2.1==y1 then (some ((a,()),())) else (r0 (wr .i64 (a+1)))) else (some (((-1),()),()))
def l0 (x:ab ps):A0->R:=ae (s0 K x) K
def pre (K:Nat)(N0:A0->R)(x:ab ps):R:=N0 0
def f (x:ab ps):R:=pre K (l0 K x) x
def c:Ctr:=⟨306,ps,rs,true,f K⟩
end Q131
namespace Q132
abbrev ps:List PK:=[.rd (.list false 3 I6),.rd I6]
abbrev rs:List RK:=[.v .bool]
abbrev R:=Option (ai rs×ag ps)
def f (x:ab ps):R:=(Q131.f K (x.1,x.2.1,())).bind λy1=>some ((decide (y1.1.1>=0),()),())
def c:Ctr:=⟨267,ps,rs,true,f K⟩
end Q132
namespace Q133
abbrev ps:List PK:=[.rd t2]
abbrev rs:List RK:=[.v .bool]
abbrev R:=Option (ai rs×ag ps)
def f (K:Nat)(x:ab ps):R:=bif x.1.2.2.2 then (some ((x.1.2.2.1==1,()),())) else (some ((false,()),()))
def c:Ctr:=⟨307,ps,rs,true,f K⟩
end Q133
namespace Q134
abbrev ps:List PK:=[.rd (.list false 46 t2),.rd I6]
abbrev rs:List RK:=[.v (.list true 3 I6)]
abbrev R:=Option (ai rs×ag ps)
def f (x:ab ps):R:=(Q17.f K (x.1,())).bind λy1=>bif !y1.1.1 then (some (([],()),())) else ((Q116.f K (x.1,λy2=>(Q133.f K (y2.1,())).map λy=>y.1.1,())).bind λy3=>(Q120.f K (y3.1.1,x.2.1,())).bind λy4=>some ((y4.1.1,()),()))
def c:Ctr:=⟨268,ps,rs,true,f K⟩
end Q134
namespace Q135
abbrev ps:List PK:=[.rref t26,.rd I6]
abbrev rs:List RK:=[.v (.list true 35 t59)]
abbrev R:=Option (ai rs×ag ps)
abbrev A0:=List (Ty.den t59)×Int×Int
def s0 (x:ab ps)(r0:A0->R)(a:A0):R:=bif decide (a.2.2<a.2.1) then ((Q29.f K (x.1,())).bind λy4=>bif a.2.2==y4.1.1 then (r0 (a.1,a.2.1,wr .i64 (a.2.2+1))) else ((Q130.f K (x.1,a.2.2,())).bind λy5=>(Q134.f K (y5.1.1,2,())).bind λy6=>let j1:R:=(Q66.f K (x.1,6,wr .i64 ((wr .i64 (a.2.2*4))+(bz .i64 (FN x.2.1 (2 ^ 3)) 3)),())).bind λy10=>bif decide ((FJ a.1+FJ ([(2,y10.1.1.2)]))*104<=am) then (r0 (a.1++([(2,y10.1.1.2)]),a.2.1,wr .i64 (a.2.2+1))) else none;let j3:=(FJ y6.1.1:Int);bif decide (j3>0) then (bif (bz .i64 x.2.1 4)==0 then (bif decide (j3=0) then none else (let j2:=(FM (bz .i64 (FN x.2.1 (2 ^ 3)) 255) j3);(idx y6.1.1 j2).bind λ_=>(idx y6.1.1 (FK j2:Nat)).bind λy8=>(Q66.f K (x.1,6,y8,())).bind λy9=>bif decide ((FJ a.1+FJ ([(2,y9.1.1.2)]))*104<=am) then (r0 (a.1++([(2,y9.1.1.2)]),a.2.1,wr .i64 (a.2.2+1))) else none)) else j1) else j1)) else (some ((a.1,()),()))
def l0 (x:ab ps):A0->R:=ae (s0 K x) K
def pre (N0:A0->R)(x:ab ps):R:=(Q134.f K (x.1.2.2.2.2.2.2.2.2.1,2,())).bind λy1=>(Q132.f K (y1.1.1,x.1.1,())).bind λy2=>bif !y2.1.1 then (some (([],()),())) else ((Q26.f K (7,())).bind λy3=>N0 ([],wr .i64 (y3.1.1+1),0))
def f (x:ab ps):R:=pre K (l0 K x) x
def c:Ctr:=⟨201,ps,rs,true,f K⟩
end Q135
namespace Q136
abbrev ps:List PK:=[.rd t2,.rref2 t26]
abbrev rs:List RK:=[.v .bool]
abbrev R:=Option (ai rs×ag ps)
def f (K:Nat)(x:ab ps):R:=bif x.1.2.2.1 != 4 then (some ((x.1.1 != x.2.1.1,()),())) else (some ((false,()),()))
def c:Ctr:=⟨202,ps,rs,true,f K⟩
end Q136
namespace Q137
abbrev ps:List PK:=[.rref t26,.rd I6]
abbrev rs:List RK:=[.v (.list true 35 t59)]
abbrev R:=Option (ai rs×ag ps)
def f (x:ab ps):R:=let b1:=x.1.2.2.2.2.2.2.2.2;bif (bz .i64 x.2.1 3)==1 then ((Q135.f K (x.1,FN x.2.1 (2 ^ 2),())).bind λy1=>some ((y1.1.1,()),())) else ((Q116.f K (b1.1,λy2=>(Q136.f K (y2.1,x.1,())).map λy=>y.1.1,())).bind λy3=>bif (bz .i64 x.2.1 3)==3 then (some (([],()),())) else (let j3:=(FJ y3.1.1:Int);bif j3==0 then (some (([],()),())) else (bif decide (j3=0) then none else (let j2:=(FM (bz .i64 (FN x.2.1 (2 ^ 2)) 255) j3);(idx y3.1.1 j2).bind λ_=>(idx y3.1.1 (FK j2:Nat)).bind λy5=>bif (bz .i64 x.2.1 3)==0 then ((Q66.f K (x.1,4,y5,())).bind λy6=>some (([y6.1.1],()),())) else (let j1:=(FJ b1.2.2.2.2.2.2:Int);bif j1==0 then (some (([],()),())) else ((Q65.f K (x.1,6,y5,())).bind λy7=>bif decide (j1=0) then none else ((idx b1.2.2.2.2.2.2 (FM (bz .i64 (FN (FN x.2.1 (2 ^ 2)) (2 ^ 10)) 255) j1)).bind λy8=>(Q0.f K (y8.2,())).bind λy9=>some (([(zcp4 y7.1.1 (y7.1.1.2.2.2.2.1,y7.1.1.2.2.2.2.2.1,y7.1.1.2.2.2.2.2.2.1,y9.1.1))],()),()))))))))
def c:Ctr:=⟨133,ps,rs,true,f K⟩
end Q137
namespace Q138
abbrev ps:List PK:=[.iop t76,.rd I6]
abbrev rs:List RK:=[.v (.list true 35 t59)]
abbrev R:=Option (ai rs×ag ps)
def f (x:ab ps):R:=let b1:=x.1.2.2.2.2;(Q52.f K (x.1,())).bind λy1=>bif !y1.1.1 then (some (([],()),x.1,())) else (bif decide (b1.2.1>=999999) then (some (([],()),x.1,())) else ((Q115.f K ((zcp4 x.1 (b1.1,wr .i64 (b1.2.1+1),b1.2.2)),())).bind λy2=>(Q121.f K (y2.2.1,())).bind λy3=>(Q129.f K (y3.2.1,())).bind λy4=>bif decide ((FJ y3.1.1+FJ y4.1.1)*104<=am) then ((Q137.f K (y4.2.1,x.2.1,())).bind λy5=>bif decide ((FJ (y3.1.1++y4.1.1)+FJ y5.1.1)*104<=am) then (some (((y3.1.1++y4.1.1)++y5.1.1,()),y4.2.1,())) else none) else none))
def c:Ctr:=⟨78,ps,rs,false,f K⟩
end Q138
namespace Q139
abbrev ps:List PK:=[.iop t76,.rref I6]
abbrev rs:List RK:=[.v (.list true 35 t59)]
abbrev R:=Option (ai rs×ag ps)
def f (x:ab ps):R:=(Q138.f K (x.1,x.2.1,())).bind λy1=>some ((y1.1.1,()),y1.2.1,())
def c:Ctr:=⟨77,ps,rs,false,f K⟩
end Q139
namespace Q140
abbrev ps:List PK:=[.rd t26,.clo 77 [(false,I6)]]
abbrev rs:List RK:=[.v t76,.v (.list true 35 t59)]
abbrev R:=Option (ai rs×ag ps)
def f (x:ab ps):R:=(Q50.f K (x.1,())).bind λy1=>bif !y1.1.1 then (some (((0,false,false,false,0,0,0,0,[],[],(0,0,0,false),[],(0,0,0,0),[],[]),[],()),())) else ((Q88.f K (x.1,())).bind λy2=>(Q139.f K (y2.1.1,x.2.1.1,())).bind λy3=>(Q89.f K (y3.1.1,())).bind λy4=>some ((y3.2.1,y4.1.1,()),()))
def c:Ctr:=⟨45,ps,rs,true,f K⟩
end Q140
namespace Q141
abbrev ps:List PK:=[.rd t26,.rd I6]
abbrev rs:List RK:=[.v t76,.v (.list true 35 t59)]
abbrev R:=Option (ai rs×ag ps)
def f (x:ab ps):R:=(Q140.f K (x.1,(x.2.1,()),())).bind λy1=>some ((y1.1.1,y1.1.2.1,()),())
def c:Ctr:=⟨25,ps,rs,true,f K⟩
end Q141
namespace Q142
abbrev ps:List PK:=[.rd (.list false 5 (.int .u8))]
abbrev rs:List RK:=[.box t77]
abbrev R:=Option (ai rs×ag ps)
def f (K:Nat)(x:ab ps):R:=bif decide ((FJ x.1:Int)>2000) then (bif decide (0<=0)&&decide (0<=2000)&&decide (2000<=(FJ x.1:Int))&&true then (some ((((x.1.take (FK 2000)).drop (FK 0),0),()),())) else none) else (some (((x.1,0),()),()))
def c:Ctr:=⟨40,ps,rs,false,f K⟩
end Q142
namespace Q143
abbrev ps:List PK:=[.iop t77,.rd I6]
abbrev rs:List RK:=[.v I6]
abbrev R:=Option (ai rs×ag ps)
def f (K:Nat)(x:ab ps):R:=let j4:=(x.1.1,wr .i64 (x.1.2+1));bif decide (x.2.1<1) then (some ((0,()),j4,())) else (let j3:=(FJ x.1.1:Int);bif j3==0 then (some ((0,()),j4,())) else (let j2:=wr .i64 ((wr .i64 (x.1.2+1))-1);bif decide (j2<j3) then ((idx x.1.1 j2).bind λy1=>bif decide (x.2.1=0) then none else (some ((FM (wr .i64 y1) x.2.1,()),j4,()))) else (bif decide (j3=0) then none else ((idx x.1.1 (FM j2 j3)).bind λy2=>bif decide (j3=0) then none else ((idx x.1.1 (FM (wr .i64 ((wr .i64 (j2*7))+3)) j3)).bind λy3=>bif decide (j3=0) then none else (bif decide (x.2.1=0) then none else (some ((FM (let j1:=(wr .i64 ((wr .i64 ((wr .i64 ((wr .i64 ((wr .i64 y2)*131))+(wr .i64 ((wr .i64 y3)*1117))))+(wr .i64 (j2*29))))+(wr .i64 ((wr .i64 (FL j2 j3))*53))));rD .i64 j1 (wr .i64 (FL j1 64))) x.2.1,()),j4,()))))))))
def c:Ctr:=⟨42,ps,rs,false,f K⟩
end Q143
namespace Q144
abbrev ps:List PK:=[.rd t26]
abbrev rs:List RK:=[.v t91]
abbrev R:=Option (ai rs×ag ps)
abbrev A2:=Int×List (Ty.den t6)×List (Ty.den t11)×List (Ty.den t12)
abbrev A1:=Int×List (Ty.den t6)×List (Ty.den t11)
abbrev A0:=Int×List (Ty.den t6)
def s2 (K:Nat)(x:ab ps)(r2:A2->R)(a:A2):R:=let b1:=x.1.2.2.2.2.2.2.2.2;bif decide (a.1<(FJ b1.2.2.2.2.2.2:Int)) then ((idx b1.2.2.2.2.2.2 a.1).bind λy3=>bif decide ((FJ ([]:List (Ty.den t2))+FJ y3.2)*32<=am) then (bif decide ((FJ a.2.2.2+FJ ([(y3.1,[]++y3.2)]))*32<=am) then (r2 (wr .i64 (a.1+1),a.2.1,a.2.2.1,a.2.2.2++([(y3.1,[]++y3.2)]))) else none) else none) else (some (((zcp8 x.1 ([]++b1.1,[]++b1.2.1,b1.2.2.1,a.2.1,b1.2.2.2.2.1,a.2.2)),()),()))
def l2 (x:ab ps):A2->R:=ae (s2 K x) K
def s1 (K:Nat)(x:ab ps)(N2:A2->R)(r1:A1->R)(a:A1):R:=let b1:=x.1.2.2.2.2.2.2.2.2.2.2.2.2.2.1;bif decide (a.1<(FJ b1:Int)) then ((idx b1 a.1).bind λy2=>bif decide ((FJ ([]:List (Ty.den I6))+FJ y2.2.2)*8<=am) then (bif decide ((FJ a.2.2+FJ ([(y2.1,y2.2.1,[]++y2.2.2)]))*64<=am) then (r1 (wr .i64 (a.1+1),a.2.1,a.2.2++([(y2.1,y2.2.1,[]++y2.2.2)]))) else none) else none) else (N2 (0,a.2.1,a.2.2,[]))
def l1 (x:ab ps):A1->R:=ae (s1 K x (l2 K x)) K
def s0 (K:Nat)(x:ab ps)(N1:A1->R)(r0:A0->R)(a:A0):R:=bif decide (a.1<(FJ x.1.2.2.2.2.2.2.2.2.2.2.2.1:Int)) then ((idx x.1.2.2.2.2.2.2.2.2.2.2.2.1 a.1).bind λy1=>bif decide ((FJ ([]:List (Ty.den I6))+FJ y1.2.2.2)*8<=am) then (bif decide ((FJ a.2+FJ ([(y1.1,y1.2.1,y1.2.2.1,[]++y1.2.2.2)]))*48<=am) then (r0 (wr .i64 (a.1+1),a.2++([(y1.1,y1.2.1,y1.2.2.1,[]++y1.2.2.2)]))) else none) else none) else (N1 (0,a.2,[]))
def l0 (x:ab ps):A0->R:=ae (s0 K x (l1 K x)) K
def pre (K:Nat)(N0:A0->R)(x:ab ps):R:=bif decide ((FJ ([]:List (Ty.den t2))+FJ x.1.2.2.2.2.2.2.2.2.1)*32<=am) then (bif decide ((FJ ([]:List (Ty.den t3))+FJ x.1.2.2.2.2.2.2.2.2.2.1)*40<=am) then (N0 (0,[])) else none) else none
def f (x:ab ps):R:=pre K (l0 K x) x
def c:Ctr:=⟨49,ps,rs,true,f K⟩
def G (K:Nat):List Ctr:=[]
def v2:List (Nat×List Coe):=[(1,[.keep]),(2,[.keep]),(3,[.keep]),(8,[.keep]),(100001,Kc0),(100002,Kc2),(100003,[.keep,.keep,.keep,.keep,.keep,.keep,.keep,.keep,.own false 46 t2,.own false 133 t3,.keep,.keep,.keep,.keep,.own false 86 t6,.keep,.keep,.keep,.keep,.own false 89 t11,.own false 91 t12])]
def v1:List (Nat×List Coe):=[(1,[.keep]),(2,[.keep]),(3,[.keep]),(6,[.keep]),(100001,Kc0),(100002,Kc2),(100003,[.keep,.keep,.keep,.keep,.keep,.keep,.keep,.keep,.own false 46 t2,.own false 133 t3,.keep,.keep,.keep,.keep,.own false 86 t6,.keep,.keep,.keep,.keep,.own false 89 t11,.ro true 91 t12])]
def v0:List (Nat×List Coe):=[(1,[.keep]),(2,[.keep]),(3,[.keep]),(4,[.keep]),(100001,Kc0),(100002,Kc2),(100003,[.keep,.keep,.keep,.keep,.keep,.keep,.keep,.keep,.own false 46 t2,.own false 133 t3,.keep,.keep,.keep,.keep,.own false 86 t6,.keep,.keep,.keep,.keep,.ro true 89 t11,.ro true 91 t12])]
def L:List (Nat×List (Nat×List Coe)):=[(21,v2),(14,v1),(7,v0)]
def body:Code:=cY Tryz.f49
abbrev ev:Code->St->(Ex->St->R)->R:=evK (G K) T_ND L K
abbrev fin:Ex->St->R:=du T_ND ps rs true Tryz.f49.results.toList
def S0 (x:ab ps)(a:A0):St:=av [(1,⟨0,.one,[.bp 100001 0]⟩),(2,⟨0,.one,[.bp 100002 0]⟩),(3,⟨0,.one,[.bp 100003 0]⟩),(4,⟨0,.one,[.int .i64 a.1]⟩),(100001,⟨0,.agg,(w0 x.1)⟩),(100002,⟨0,.agg,[.int .i64 0,.bool false,.bool false,.bool false,.int .i64 0,.int .i64 0,.int .i64 0,.int .i64 0,.nil,.nil,.int .i64 0,.int .i64 0,.int .i64 0,.bool false,.nil,.int .i64 0,.int .i64 0,.int .i64 0,.int .i64 0,.nil,.nil]⟩),(100003,⟨0,.agg,[.int .i64 x.1.1,.bool x.1.2.1,.bool x.1.2.2.1,.bool x.1.2.2.2.1,.int .i64 x.1.2.2.2.2.1,.int .i64 x.1.2.2.2.2.2.1,.int .i64 x.1.2.2.2.2.2.2.1,.int .i64 x.1.2.2.2.2.2.2.2.1,.own false none 46 t2 ([]++x.1.2.2.2.2.2.2.2.2.1),.own false none 133 t3 ([]++x.1.2.2.2.2.2.2.2.2.2.1),.int .i64 x.1.2.2.2.2.2.2.2.2.2.2.1.1,.int .i64 x.1.2.2.2.2.2.2.2.2.2.2.1.2.1,.int .i64 x.1.2.2.2.2.2.2.2.2.2.2.1.2.2.1,.bool x.1.2.2.2.2.2.2.2.2.2.2.1.2.2.2,.own false none 86 t6 a.2,.int .i64 x.1.2.2.2.2.2.2.2.2.2.2.2.2.1.1,.int .i64 x.1.2.2.2.2.2.2.2.2.2.2.2.2.1.2.1,.int .i64 x.1.2.2.2.2.2.2.2.2.2.2.2.2.1.2.2.1,.int .i64 x.1.2.2.2.2.2.2.2.2.2.2.2.2.1.2.2.2,.ro true 89 t11 x.1.2.2.2.2.2.2.2.2.2.2.2.2.2.1,.ro true 91 t12 x.1.2.2.2.2.2.2.2.2.2.2.2.2.2.2]⟩)]
def S1 (x:ab ps)(a:A1):St:=av [(1,⟨0,.one,[.bp 100001 0]⟩),(2,⟨0,.one,[.bp 100002 0]⟩),(3,⟨0,.one,[.bp 100003 0]⟩),(6,⟨0,.one,[.int .i64 a.1]⟩),(100001,⟨0,.agg,(w0 x.1)⟩),(100002,⟨0,.agg,[.int .i64 0,.bool false,.bool false,.bool false,.int .i64 0,.int .i64 0,.int .i64 0,.int .i64 0,.nil,.nil,.int .i64 0,.int .i64 0,.int .i64 0,.bool false,.nil,.int .i64 0,.int .i64 0,.int .i64 0,.int .i64 0,.nil,.nil]⟩),(100003,⟨0,.agg,[.int .i64 x.1.1,.bool x.1.2.1,.bool x.1.2.2.1,.bool x.1.2.2.2.1,.int .i64 x.1.2.2.2.2.1,.int .i64 x.1.2.2.2.2.2.1,.int .i64 x.1.2.2.2.2.2.2.1,.int .i64 x.1.2.2.2.2.2.2.2.1,.own false none 46 t2 ([]++x.1.2.2.2.2.2.2.2.2.1),.own false none 133 t3 ([]++x.1.2.2.2.2.2.2.2.2.2.1),.int .i64 x.1.2.2.2.2.2.2.2.2.2.2.1.1,.int .i64 x.1.2.2.2.2.2.2.2.2.2.2.1.2.1,.int .i64 x.1.2.2.2.2.2.2.2.2.2.2.1.2.2.1,.bool x.1.2.2.2.2.2.2.2.2.2.2.1.2.2.2,.own false none 86 t6 a.2.1,.int .i64 x.1.2.2.2.2.2.2.2.2.2.2.2.2.1.1,.int .i64 x.1.2.2.2.2.2.2.2.2.2.2.2.2.1.2.1,.int .i64 x.1.2.2.2.2.2.2.2.2.2.2.2.2.1.2.2.1,.int .i64 x.1.2.2.2.2.2.2.2.2.2.2.2.2.1.2.2.2,.own false none 89 t11 a.2.2,.ro true 91 t12 x.1.2.2.2.2.2.2.2.2.2.2.2.2.2.2]⟩)]
def S2 (x:ab ps)(a:A2):St:=av [(1,⟨0,.one,[.bp 100001 0]⟩),(2,⟨0,.one,[.bp 100002 0]⟩),(3,⟨0,.one,[.bp 100003 0]⟩),(8,⟨0,.one,[.int .i64 a.1]⟩),(100001,⟨0,.agg,(w0 x.1)⟩),(100002,⟨0,.agg,[.int .i64 0,.bool false,.bool false,.bool false,.int .i64 0,.int .i64 0,.int .i64 0,.int .i64 0,.nil,.nil,.int .i64 0,.int .i64 0,.int .i64 0,.bool false,.nil,.int .i64 0,.int .i64 0,.int .i64 0,.int .i64 0,.nil,.nil]⟩),(100003,⟨0,.agg,[.int .i64 x.1.1,.bool x.1.2.1,.bool x.1.2.2.1,.bool x.1.2.2.2.1,.int .i64 x.1.2.2.2.2.1,.int .i64 x.1.2.2.2.2.2.1,.int .i64 x.1.2.2.2.2.2.2.1,.int .i64 x.1.2.2.2.2.2.2.2.1,.own false none 46 t2 ([]++x.1.2.2.2.2.2.2.2.2.1),.own false none 133 t3 ([]++x.1.2.2.2.2.2.2.2.2.2.1),.int .i64 x.1.2.2.2.2.2.2.2.2.2.2.1.1,.int .i64 x.1.2.2.2.2.2.2.2.2.2.2.1.2.1,.int .i64 x.1.2.2.2.2.2.2.2.2.2.2.1.2.2.1,.bool x.1.2.2.2.2.2.2.2.2.2.2.1.2.2.2,.own false none 86 t6 a.2.1,.int .i64 x.1.2.2.2.2.2.2.2.2.2.2.2.2.1.1,.int .i64 x.1.2.2.2.2.2.2.2.2.2.2.2.2.1.2.1,.int .i64 x.1.2.2.2.2.2.2.2.2.2.2.2.2.1.2.2.1,.int .i64 x.1.2.2.2.2.2.2.2.2.2.2.2.2.1.2.2.2,.own false none 89 t11 a.2.2.1,.own false none 91 t12 a.2.2.2]⟩)]
def k0 (x:ab ps):Ex->St->R:=kAt (ev K) body [1,1,1,1,1,0,1,0] fin
def N0 (x:ab ps):A0->R:=λa=>aY v0 (ev K (sub body [1,1,1,1,1,0,1,0,0])) K (S0 x a) (k0 K x)
def k1 (x:ab ps):Ex->St->R:=kAt (ev K) body [1,1,1,1,1,1,1,0,1,0] fin
def N1 (x:ab ps):A1->R:=λa=>aY v1 (ev K (sub body [1,1,1,1,1,1,1,0,1,0,0])) K (S1 x a) (k1 K x)
def k2 (x:ab ps):Ex->St->R:=kAt (ev K) body [1,1,1,1,1,1,1,1,1,0,1,0] fin
def N2 (x:ab ps):A2->R:=λa=>aY v2 (ev K (sub body [1,1,1,1,1,1,1,1,1,0,1,0,0])) K (S2 x a) (k2 K x)
end Q144
namespace Q145
abbrev ps:List PK:=[.own (.list true 46 t2),.rd t2]
abbrev rs:List RK:=[.v (.list true 46 t2),.v .bool]
abbrev R:=Option (ai rs×ag ps)
abbrev A0:=Int
def s0 (K:Nat)(x:ab ps)(r0:A0->R)(a:A0):R:=let j1:R:=bif decide (0<=0)&&decide (0<=a)&&decide (a<=(FJ x.1:Int))&&true then (let j2:=(x.1.take (FK a)).drop (FK 0);bif decide ((FJ ([]:List (Ty.den t2))+FJ j2)*32<=am) then (bif decide ((FJ ([]++j2)+FJ ([x.2.1]))*32<=am) then (bif decide (0<=a)&&decide (a<=(FJ x.1:Int))&&decide ((FJ x.1:Int)<=(FJ x.1:Int))&&true then (let j3:=((x.1.take (FK (FJ x.1:Int))).drop (FK a));bif decide ((FJ (([]++j2)++([x.2.1]))+FJ j3)*32<=am) then (some (((([]++j2)++([x.2.1]))++j3,true,()),())) else none) else none) else none) else none) else none;bif decide (a<(FJ x.1:Int)) then ((idx x.1 a).bind λ_=>(idx x.1 (FK a:Nat)).bind λy8=>bif decide (y8.1<x.2.1.1) then (r0 (wr .i64 (a+1))) else j1) else j1
def l0 (x:ab ps):A0->R:=ae (s0 K x) K
def pre (N0:A0->R)(x:ab ps):R:=(Q103.f K (x.1,x.2.1.1,())).bind λy1=>bif decide (y1.1.1>=0) then ((idx x.1 y1.1.1).bind λ_=>(idx x.1 (FK y1.1.1:Nat)).bind λy3=>(Q106.f K (x.2.1,y3,())).bind λy4=>bif !y4.1.1 then (some ((x.1,false,()),())) else (bif decide ((FJ ([]:List (Ty.den t2))+FJ x.1)*32<=am) then ((idx ([]++x.1) y1.1.1).bind λ_=>(idx ([]++x.1) (FK y1.1.1:Nat)).bind λy6=>some ((([]++x.1).set (FK y1.1.1) x.2.1,true,()),())) else none)) else (N0 0)
def f (x:ab ps):R:=pre K (l0 K x) x
def c:Ctr:=⟨221,ps,rs,true,f K⟩
end Q145
namespace Q146
abbrev ps:List PK:=[.rd I6]
abbrev rs:List RK:=[.v .bool]
abbrev R:=Option (ai rs×ag ps)
def f (K:Nat)(x:ab ps):R:=some ((decide ((FM x.1 4)<3),()),())
def c:Ctr:=⟨225,ps,rs,true,f K⟩
end Q146
namespace Q147
abbrev ps:List PK:=[.iop t77,.rd I6]
abbrev rs:List RK:=[.v t2]
abbrev R:=Option (ai rs×ag ps)
def f (x:ab ps):R:=(Q143.f K (x.1,4,())).bind λy1=>(Q143.f K (y1.2.1,3,())).bind λy2=>(Q143.f K (y2.2.1,12,())).bind λy3=>(Q143.f K (y3.2.1,3,())).bind λy4=>(idx ([y2.1.1,y3.1.1,999]) y4.1.1).bind λ_=>(idx ([y2.1.1,y3.1.1,999]) (FK y4.1.1:Nat)).bind λy6=>(Q143.f K (y4.2.1,4,())).bind λy7=>let j1:=(wr .i64 (x.2.1*4))+y1.1.1;(Q146.f K (wr .i64 j1,())).bind λy8=>some (((wr .i64 j1,y6,wr .i64 (1+y7.1.1),y8.1.1),()),y7.2.1,())
def c:Ctr:=⟨231,ps,rs,false,f K⟩
end Q147
namespace Q148
abbrev ps:List PK:=[.iop t77,.rd I6]
abbrev rs:List RK:=[.v (.list true 46 t2)]
abbrev R:=Option (ai rs×ag ps)
abbrev A0:=List (Ty.den t2)×Int×List (Ty.den (.int .u8))×Int
def s0 (x:ab ps)(r0:A0->R)(a:A0):R:=bif decide (a.2.1>0) then (bif decide (x.2.1<0) then ((Q143.f K (a.2.2,2,())).bind λy2=>(Q147.f K (y2.2.1,y2.1.1,())).bind λy3=>(Q145.f K (a.1,y3.1.1,())).bind λy4=>r0 (y4.1.1,wr .i64 (a.2.1-1),y3.2.1)) else ((Q147.f K (a.2.2,x.2.1,())).bind λy5=>(Q145.f K (a.1,y5.1.1,())).bind λy6=>r0 (y6.1.1,wr .i64 (a.2.1-1),y5.2.1))) else (some ((a.1,()),a.2.2,()))
def l0 (x:ab ps):A0->R:=ae (s0 K x) K
def pre (N0:A0->R)(x:ab ps):R:=(Q143.f K (x.1,6,())).bind λy1=>N0 ([],y1.1.1,y1.2.1)
def f (x:ab ps):R:=pre K (l0 K x) x
def c:Ctr:=⟨156,ps,rs,false,f K⟩
end Q148
namespace Q149
abbrev ps:List PK:=[.iop t77]
abbrev rs:List RK:=[.v t2]
abbrev R:=Option (ai rs×ag ps)
def f (x:ab ps):R:=(Q143.f K (x.1,2,())).bind λy1=>(Q147.f K (y1.2.1,y1.1.1,())).bind λy2=>let b1:=y2.1.1.2;(Q143.f K (y2.2.1,12,())).bind λy3=>bif y3.1.1==0 then ((Q143.f K (y3.2.1,2,())).bind λy4=>(idx ([(-1),8]:List (Int)) y4.1.1).bind λ_=>(idx ([(-1),8]:List (Int)) (FK y4.1.1:Nat)).bind λy6=>some (((y6,b1),()),y4.2.1,())) else (bif y3.1.1==1 then ((Q143.f K (y3.2.1,2,())).bind λy7=>let j1:=([(-1),1000]:List (Int));(idx j1 y7.1.1).bind λ_=>(idx j1 (FK y7.1.1:Nat)).bind λy9=>some (((y2.1.1.1,y9,b1.2),()),y7.2.1,())) else (bif y3.1.1==2 then ((Q143.f K (y3.2.1,2,())).bind λy10=>(idx ([0,5]:List (Int)) y10.1.1).bind λ_=>(idx ([0,5]:List (Int)) (FK y10.1.1:Nat)).bind λy12=>some (((y2.1.1.1,b1.1,y12,b1.2.2),()),y10.2.1,())) else (bif y3.1.1==3 then (some (((y2.1.1.1,b1.1,b1.2.1,!b1.2.2),()),y3.2.1,())) else (some ((y2.1.1,()),y3.2.1,())))))
def c:Ctr:=⟨157,ps,rs,false,f K⟩
end Q149
namespace Q150
abbrev ps:List PK:=[.iop t77]
abbrev rs:List RK:=[.v (.list true 46 t2)]
abbrev R:=Option (ai rs×ag ps)
def f (x:ab ps):R:=(Q148.f K (x.1,(-1),())).bind λy1=>bif decide ((FJ y1.1.1:Int)>0) then ((Q143.f K (y1.2.1,12,())).bind λy2=>bif y2.1.1==0 then ((Q143.f K (y2.2.1,(FJ y1.1.1:Int),())).bind λy3=>(Q143.f K (y3.2.1,3,())).bind λy4=>let j1:=(FK y3.1.1:Nat);bif y4.1.1==0 then ((Q149.f K (y4.2.1,())).bind λy5=>(idx y1.1.1 y3.1.1).bind λ_=>(idx y1.1.1 j1).bind λy7=>some ((y1.1.1.set (FK y3.1.1) y5.1.1,()),y5.2.1,())) else (bif y4.1.1==1 then ((idx y1.1.1 y3.1.1).bind λ_=>(idx y1.1.1 j1).bind λy9=>bif decide ((FJ y1.1.1+FJ ([y9]))*32<=am) then (some ((y1.1.1++([y9]),()),y4.2.1,())) else none) else ((idx y1.1.1 y3.1.1).bind λ_=>(idx y1.1.1 j1).bind λy11=>some ((y1.1.1.set (FK y3.1.1) (y11.1,y11.2.1,0,y11.2.2.2),()),y4.2.1,())))) else (some ((y1.1.1,()),y2.2.1,()))) else (some ((y1.1.1,()),y1.2.1,()))
def c:Ctr:=⟨101,ps,rs,false,f K⟩
end Q150
namespace Q151
abbrev ps:List PK:=[.iop t77,.rd I6]
abbrev rs:List RK:=[.v (.list true 133 t3)]
abbrev R:=Option (ai rs×ag ps)
abbrev A0:=List (Ty.den t3)×List (Ty.den t2)×Int×List (Ty.den (.int .u8))×Int
def s0 (x:ab ps)(r0:A0->R)(a:A0):R:=bif decide (a.2.2.1<(FJ a.2.1:Int)) then ((idx a.2.1 a.2.2.1).bind λ_=>(idx a.2.1 (FK a.2.2.1:Nat)).bind λy3=>(Q143.f K (a.2.2.2,4,())).bind λy4=>let j1:=[(y3,wr .i64 (1+y4.1.1))];bif decide ((FJ a.1+FJ j1)*40<=am) then (r0 (a.1++j1,a.2.1,wr .i64 (a.2.2.1+1),y4.2.1)) else none) else (some ((a.1,()),a.2.2.2,()))
def l0 (x:ab ps):A0->R:=ae (s0 K x) K
def pre (N0:A0->R)(x:ab ps):R:=(Q148.f K (x.1,x.2.1,())).bind λy1=>N0 ([],y1.1.1,0,y1.2.1)
def f (x:ab ps):R:=pre K (l0 K x) x
def c:Ctr:=⟨158,ps,rs,false,f K⟩
end Q151
namespace Q152
abbrev ps:List PK:=[.iop t77]
abbrev rs:List RK:=[.v (.list true 133 t3)]
abbrev R:=Option (ai rs×ag ps)
def f (x:ab ps):R:=(Q151.f K (x.1,(-1),())).bind λy1=>bif decide ((FJ y1.1.1:Int)>0) then ((Q143.f K (y1.2.1,10,())).bind λy2=>bif y2.1.1==0 then ((Q143.f K (y2.2.1,(FJ y1.1.1:Int),())).bind λy3=>(Q143.f K (y3.2.1,3,())).bind λy4=>let j1:=(FK y3.1.1:Nat);bif y4.1.1==0 then ((Q143.f K (y4.2.1,2,())).bind λy5=>(idx ([0,5]:List (Int)) y5.1.1).bind λ_=>(idx ([0,5]:List (Int)) (FK y5.1.1:Nat)).bind λy7=>(idx y1.1.1 y3.1.1).bind λ_=>(idx y1.1.1 j1).bind λy9=>some ((y1.1.1.set (FK y3.1.1) (y9.1,y7),()),y5.2.1,())) else (bif y4.1.1==1 then ((Q149.f K (y4.2.1,())).bind λy10=>(idx y1.1.1 y3.1.1).bind λ_=>(idx y1.1.1 j1).bind λy12=>some ((y1.1.1.set (FK y3.1.1) (y10.1.1,y12.2),()),y10.2.1,())) else ((idx y1.1.1 y3.1.1).bind λ_=>(idx y1.1.1 j1).bind λy14=>bif decide ((FJ y1.1.1+FJ ([y14]))*40<=am) then (some ((y1.1.1++([y14]),()),y4.2.1,())) else none))) else (some ((y1.1.1,()),y2.2.1,()))) else (some ((y1.1.1,()),y1.2.1,()))
def c:Ctr:=⟨102,ps,rs,false,f K⟩
end Q152
namespace Q153
abbrev ps:List PK:=[]
abbrev rs:List RK:=[.v t9]
abbrev R:=Option (ai rs×ag ps)
def f (K:Nat)(x:ab ps):R:=some (((0,0,0,1500),()),())
def c:Ctr:=⟨232,ps,rs,true,f K⟩
end Q153
namespace Q154
abbrev ps:List PK:=[.iop t77]
abbrev rs:List RK:=[.v t9]
abbrev R:=Option (ai rs×ag ps)
def f (x:ab ps):R:=(Q143.f K (x.1,6,())).bind λy1=>bif y1.1.1==0 then ((Q153.f K ()).bind λy2=>some ((y2.1.1,()),y1.2.1,())) else ((Q143.f K (y1.2.1,3,())).bind λy3=>let j1:=([10,1000,100000]:List (Int));(idx j1 y3.1.1).bind λ_=>(idx j1 (FK y3.1.1:Nat)).bind λy5=>(Q143.f K (y3.2.1,wr .i64 ((wr .i64 (2*y5))+1),())).bind λy6=>(Q143.f K (y6.2.1,wr .i64 ((wr .i64 (2*y5))+1),())).bind λy7=>(Q143.f K (y7.2.1,wr .i64 (y5+1),())).bind λy8=>(Q143.f K (y8.2.1,1500,())).bind λy9=>some (((wr .i64 (y6.1.1-y5),wr .i64 (y7.1.1-y5),y8.1.1,wr .i64 (1+y9.1.1)),()),y9.2.1,()))
def c:Ctr:=⟨159,ps,rs,false,f K⟩
end Q154
namespace Q155
abbrev ps:List PK:=[.iop t77]
abbrev rs:List RK:=[.v t9]
abbrev R:=Option (ai rs×ag ps)
def f (x:ab ps):R:=(Q154.f K (x.1,())).bind λy1=>(Q143.f K (y1.2.1,16,())).bind λy2=>bif y2.1.1==0 then ((Q143.f K (y2.2.1,3,())).bind λy3=>let j1:=([100000,100001,(-100001)]:List (Int));(idx j1 y3.1.1).bind λ_=>(idx j1 (FK y3.1.1:Nat)).bind λy5=>some (((y5,y1.1.1.2),()),y3.2.1,())) else (bif y2.1.1==1 then ((Q143.f K (y2.2.1,2,())).bind λy6=>let j2:=([(-1),100001]:List (Int));(idx j2 y6.1.1).bind λ_=>(idx j2 (FK y6.1.1:Nat)).bind λy8=>some (((y1.1.1.1,y1.1.1.2.1,y8,y1.1.1.2.2.2),()),y6.2.1,())) else (bif y2.1.1==2 then ((Q143.f K (y2.2.1,2,())).bind λy9=>(idx ([0,1501]:List (Int)) y9.1.1).bind λ_=>(idx ([0,1501]:List (Int)) (FK y9.1.1:Nat)).bind λy11=>some (((y1.1.1.1,y1.1.1.2.1,y1.1.1.2.2.1,y11),()),y9.2.1,())) else (some ((y1.1.1,()),y2.2.1,()))))
def c:Ctr:=⟨103,ps,rs,false,f K⟩
end Q155
namespace Q156
abbrev ps:List PK:=[.iop t77,.rd t26]
abbrev rs:List RK:=[.v t26]
abbrev R:=Option (ai rs×ag ps)
def f (x:ab ps):R:=(Q144.f K (x.2.1,())).bind λy1=>let b3:=y1.1.1.2;let b1:=b3.2.2.2.2.2.2.2;let b2:=b1.2.2.2;(Q143.f K (x.1,12,())).bind λy2=>bif y2.1.1==0 then ((Q150.f K (y2.2.1,())).bind λy3=>some (((zcp8 y1.1.1 (y3.1.1,b1.2)),()),y3.2.1,())) else (bif y2.1.1==1 then ((Q152.f K (y2.2.1,())).bind λy4=>some (((zcp8 y1.1.1 (b1.1,y4.1.1,b1.2.2)),()),y4.2.1,())) else (bif y2.1.1==2 then (some (((zcp4 y1.1.1 (wr .i64 (b3.2.2.2.1+1),b3.2.2.2.2)),()),y2.2.1,())) else (bif y2.1.1==3 then ((Q143.f K (y2.2.1,9,())).bind λy5=>(Q143.f K (y5.2.1,3,())).bind λy6=>(Q143.f K (y6.2.1,3,())).bind λy7=>(Q143.f K (y7.2.1,2,())).bind λy8=>some (((zcp8 y1.1.1 (b1.1,b1.2.1,(wr .i64 (y5.1.1-1),y6.1.1,y7.1.1,y8.1.1==0),b2)),()),y8.2.1,())) else (bif y2.1.1==4 then ((Q143.f K (y2.2.1,8,())).bind λy9=>(Q143.f K (y9.2.1,8,())).bind λy10=>let j3:=[(y9.1.1,0,0,[y10.1.1])];bif decide ((FJ b2.1+FJ j3)*48<=am) then (some (((zcp8 y1.1.1 (b1.1,b1.2.1,b1.2.2.1,b2.1++j3,b2.2)),()),y10.2.1,())) else none) else (bif y2.1.1==5 then ((Q155.f K (y2.2.1,())).bind λy11=>some (((zcp8 y1.1.1 (zcp4 b1 (y11.1.1,b2.2.2))),()),y11.2.1,())) else (bif y2.1.1==6 then ((Q143.f K (y2.2.1,9,())).bind λy12=>(Q155.f K (y12.2.1,())).bind λy13=>(Q143.f K (y13.2.1,3,())).bind λy14=>let j2:=[(y12.1.1,y13.1.1,[y14.1.1])];bif decide ((FJ b2.2.2.1+FJ j2)*64<=am) then (some (((zcp8 y1.1.1 (zcp4 b1 (b2.2.1,b2.2.2.1++j2,b2.2.2.2))),()),y14.2.1,())) else none) else (bif y2.1.1==7 then ((Q143.f K (y2.2.1,3,())).bind λy15=>(Q150.f K (y15.2.1,())).bind λy16=>bif decide ((FJ b2.2.2.2+FJ ([(y15.1.1,y16.1.1)]))*32<=am) then (some (((zcp8 y1.1.1 (zcp4 b1 (b2.2.1,b2.2.2.1,b2.2.2.2++([(y15.1.1,y16.1.1)])))),()),y16.2.1,())) else none) else (bif y2.1.1==8 then (some (((y1.1.1.1,!b3.1,b3.2),()),y2.2.1,())) else (bif y2.1.1==9 then (some (((y1.1.1.1,b3.1,!b3.2.1,b3.2.2),()),y2.2.1,())) else (bif y2.1.1==10 then ((Q143.f K (y2.2.1,3,())).bind λy17=>let j1:=([(-1),999999,1000000]:List (Int));(idx j1 y17.1.1).bind λ_=>(idx j1 (FK y17.1.1:Nat)).bind λy19=>some (((zcp4 y1.1.1 (b3.2.2.2.1,y19,b3.2.2.2.2.2)),()),y17.2.1,())) else ((Q143.f K (y2.2.1,8,())).bind λy20=>(Q143.f K (y20.2.1,3,())).bind λy21=>(idx ([(-1),8,y20.1.1]) y21.1.1).bind λ_=>(idx ([(-1),8,y20.1.1]) (FK y21.1.1:Nat)).bind λy23=>some (((y23,b3),()),y21.2.1,()))))))))))))
def c:Ctr:=⟨43,ps,rs,false,f K⟩
end Q156
namespace Q157
abbrev ps:List PK:=[.rd I6,.rd .bool]
abbrev rs:List RK:=[.v t26]
abbrev R:=Option (ai rs×ag ps)
def f (x:ab ps):R:=(Q98.f K (x.1,0,7,())).bind λy1=>bif !y1.1.1 then (some (((0,false,false,false,0,0,0,0,[],[],(0,0,0,false),[],(0,0,0,0),[],[]),()),())) else ((Q153.f K ()).bind λy2=>some (((x.1,true,false,x.2.1,0,0,0,0,[(x.1,0,1,x.2.1)],[],((-1),0,0,false),[],y2.1.1,[],[]),()),()))
def c:Ctr:=⟨224,ps,rs,true,f K⟩
end Q157
namespace Q158
abbrev ps:List PK:=[]
abbrev rs:List RK:=[.v t94]
abbrev R:=Option (ai rs×ag ps)
abbrev A0:=Int×List (Ty.den t26)×List (Ty.den I6)×List (Ty.den t2)
def s0 (x:ab ps)(r0:A0->R)(a:A0):R:=bif decide (a.1<=7) then ((Q146.f K (a.1,())).bind λy1=>(Q157.f K (a.1,y1.1.1,())).bind λy2=>bif decide ((FJ a.2.1+FJ ([y2.1.1]))*232<=am) then (bif decide ((FJ a.2.2.1+FJ ([0]))*8<=am) then ((idx y2.1.1.2.2.2.2.2.2.2.2.1 0).bind λy3=>bif decide ((FJ a.2.2.2+FJ ([y3]))*32<=am) then (r0 (wr .i64 (a.1+1),a.2.1++([y2.1.1]),a.2.2.1++([0]),a.2.2.2++([y3]))) else none) else none) else none) else (some (((a.2.1,[],a.2.2),()),()))
def l0 (x:ab ps):A0->R:=ae (s0 K x) K
def pre (K:Nat)(N0:A0->R)(x:ab ps):R:=N0 (0,[],[],[])
def f (x:ab ps):R:=pre K (l0 K x) x
def c:Ctr:=⟨151,ps,rs,true,f K⟩
end Q158
namespace Q159
abbrev ps:List PK:=[.rd t47]
abbrev rs:List RK:=[.v .bool]
abbrev R:=Option (ai rs×ag ps)
def f (x:ab ps):R:=let b1:=x.1.2.2.2.2.2;(Q98.f K (x.1.1,1,2,())).bind λy1=>let j1:R:=some ((false,()),());bif !y1.1.1 then j1 else ((Q98.f K (x.1.2.1,1,6,())).bind λy2=>bif !y2.1.1 then j1 else ((Q98.f K (x.1.2.2.1,0,7,())).bind λy3=>bif !y3.1.1 then j1 else ((Q98.f K (x.1.2.2.2.1,0,7,())).bind λy4=>bif !y4.1.1 then j1 else ((Q98.f K (x.1.2.2.2.2.1,0,999999,())).bind λy5=>bif !y5.1.1 then j1 else ((Q98.f K (b1.1,0,7,())).bind λy6=>bif !y6.1.1 then j1 else ((Q110.f K (b1.2.1,())).bind λy7=>bif !y7.1.1 then j1 else ((Q100.f K (b1.2.2,())).bind λy8=>bif !y8.1.1 then j1 else (bif x.1.2.1==6 then (bif decide ((FJ b1.2.2:Int)>0) then ((idx b1.2.2 0).bind λy9=>(Q101.f K (b1.2.2,wr .i64 (FL y9.1 4),())).bind λy10=>some ((y10.1.1,()),())) else j1) else ((Q101.f K (b1.2.2,wr .i64 (FL x.1.2.2.1 4),())).bind λy11=>some ((y11.1.1,()),()))))))))))
def c:Ctr:=⟨59,ps,rs,true,f K⟩
end Q159
namespace Q160
abbrev ps:List PK:=[.rd t26,.rd t47]
abbrev rs:List RK:=[.v .bool]
abbrev R:=Option (ai rs×ag ps)
def f (x:ab ps):R:=let b1:=x.2.1.2.2;let j1:R:=some ((false,()),());bif !x.1.2.1 then j1 else (bif x.1.2.2.1 then j1 else (bif b1.2.1 != x.1.1 then j1 else (bif b1.1==x.1.1 then j1 else ((Q102.f K (x.1.1,())).bind λy1=>let j2:=(b1.2.2.2.2.2,y1.1.1,());bif x.2.1.1==2 then (bif x.2.1.2.1==6 then ((Q102.f K (b1.1,())).bind λy2=>bif y2.1.1 != y1.1.1 then ((Q101.f K j2).bind λy3=>bif y3.1.1 then (some ((true,()),())) else ((Q102.f K (b1.1,())).bind λy4=>(Q101.f K (b1.2.2.2.2.2,y4.1.1,())).bind λy5=>some ((y5.1.1,()),()))) else j1) else j1) else ((Q102.f K (b1.1,())).bind λy6=>bif y6.1.1==y1.1.1 then (bif x.2.1.2.1 != 6 then (some ((true,()),())) else ((Q101.f K j2).bind λy7=>some ((!y7.1.1,()),()))) else j1)))))
def c:Ctr:=⟨60,ps,rs,true,f K⟩
end Q160
namespace Q161
abbrev ps:List PK:=[.rd t26,.rd I6,.rd I6,.rd I6,.rd I6,.rd (.list false 46 t2)]
abbrev rs:List RK:=[.v t47]
abbrev R:=Option (ai rs×ag ps)
def f (K:Nat)(x:ab ps):R:=bif decide ((FJ ([]:List (Ty.den t2))+FJ x.2.2.2.2.2.1)*32<=am) then (some (((1,x.2.1,x.1.1,x.2.2.1,x.2.2.2.1,x.2.2.2.2.1,x.1.2.2.2.2.2.2.2.2.2.2.2.2.1,[]++x.2.2.2.2.2.1),()),())) else none
def c:Ctr:=⟨98,ps,rs,true,f K⟩
end Q161
namespace Q162
abbrev ps:List PK:=[.rd (.list false 46 t2),.rd t2]
abbrev rs:List RK:=[.v (.list false 46 t2),.v .bool]
abbrev R:=Option (ai rs×ag ps)
abbrev A0:=Int
def s0 (K:Nat)(x:ab ps)(r0:A0->R)(a:A0):R:=let j1:R:=bif decide (0<=0)&&decide (0<=a)&&decide (a<=(FJ x.1:Int))&&true then (let j2:=(x.1.take (FK a)).drop (FK 0);bif decide ((FJ ([]:List (Ty.den t2))+FJ j2)*32<=am) then (bif decide ((FJ ([]++j2)+FJ ([x.2.1]))*32<=am) then (bif decide (0<=a)&&decide (a<=(FJ x.1:Int))&&decide ((FJ x.1:Int)<=(FJ x.1:Int))&&true then (let j3:=((x.1.take (FK (FJ x.1:Int))).drop (FK a));bif decide ((FJ (([]++j2)++([x.2.1]))+FJ j3)*32<=am) then (some (((([]++j2)++([x.2.1]))++j3,true,()),())) else none) else none) else none) else none) else none;bif decide (a<(FJ x.1:Int)) then ((idx x.1 a).bind λy6=>bif decide (y6.1<x.2.1.1) then (r0 (wr .i64 (a+1))) else j1) else j1
def l0 (x:ab ps):A0->R:=ae (s0 K x) K
def pre (N0:A0->R)(x:ab ps):R:=(Q103.f K (x.1,x.2.1.1,())).bind λy1=>bif decide (y1.1.1>=0) then ((idx x.1 y1.1.1).bind λy2=>(Q106.f K (x.2.1,y2,())).bind λy3=>bif !y3.1.1 then (some ((x.1,false,()),())) else (bif decide ((FJ ([]:List (Ty.den t2))+FJ x.1)*32<=am) then ((idx ([]++x.1) y1.1.1).bind λ_=>(idx ([]++x.1) (FK y1.1.1:Nat)).bind λy5=>some ((([]++x.1).set (FK y1.1.1) x.2.1,true,()),())) else none)) else (N0 0)
def f (x:ab ps):R:=pre K (l0 K x) x
def c:Ctr:=⟨221,ps,rs,false,f K⟩
end Q162
namespace Q163
abbrev ps:List PK:=[.rd (.list false 133 t3),.rd t2]
abbrev rs:List RK:=[.v (.list false 133 t3)]
abbrev R:=Option (ai rs×ag ps)
abbrev A0:=List (Ty.den t3)×Bool×Int
def s0 (x:ab ps)(r0:A0->R)(a:A0):R:=let j3:=FJ a.1+FJ ([(x.2.1,4)]);bif decide (a.2.2<(FJ x.1:Int)) then ((idx x.1 a.2.2).bind λy1=>let j2:R:=bif y1.1.1 != x.2.1.1 then ((idx x.1 a.2.2).bind λy4=>bif decide ((FJ a.1+FJ ([y4]))*40<=am) then (r0 (a.1++([y4]),a.2.1,wr .i64 (a.2.2+1))) else none) else (r0 (a.1,a.2.1,wr .i64 (a.2.2+1)));let j1:R:=bif !a.2.1 then (bif decide (y1.1.1>=x.2.1.1) then (bif decide (j3*40<=am) then (bif y1.1.1 != x.2.1.1 then ((idx x.1 a.2.2).bind λy3=>bif decide ((FJ (a.1++([(x.2.1,4)]))+FJ ([y3]))*40<=am) then (r0 ((a.1++([(x.2.1,4)]))++([y3]),true,wr .i64 (a.2.2+1))) else none) else (r0 (a.1++([(x.2.1,4)]),true,wr .i64 (a.2.2+1)))) else none) else j2) else j2;bif y1.1.1==x.2.1.1 then ((Q106.f K (x.2.1,y1.1,())).bind λy2=>bif !y2.1.1 then (some ((x.1,()),())) else j1) else j1) else (bif !a.2.1 then (bif decide (j3*40<=am) then (some ((a.1++([(x.2.1,4)]),()),())) else none) else (some ((a.1,()),())))
def l0 (x:ab ps):A0->R:=ae (s0 K x) K
def pre (K:Nat)(N0:A0->R)(x:ab ps):R:=N0 ([],false,0)
def f (x:ab ps):R:=pre K (l0 K x) x
def c:Ctr:=⟨222,ps,rs,false,f K⟩
end Q163
namespace Q164
abbrev ps:List PK:=[.rd t26,.rd t2,.rd I6]
abbrev rs:List RK:=[.v (.list true 86 t6)]
abbrev R:=Option (ai rs×ag ps)
abbrev A0:=List (Ty.den t6)×Bool×Int
def s0 (K:Nat)(x:ab ps)(r0:A0->R)(a:A0):R:=let j1:=[(x.2.1.1,x.2.1.2.1,x.1.2.2.2.2.2.1,[x.2.2.1])];let j3:=FJ a.1+FJ j1;bif decide (a.2.2<(FJ x.1.2.2.2.2.2.2.2.2.2.2.2.1:Int)) then ((idx x.1.2.2.2.2.2.2.2.2.2.2.2.1 a.2.2).bind λy1=>let j2:R:=bif y1.1 != x.2.1.1 then (bif decide ((FJ a.1+FJ ([y1]))*48<=am) then (r0 (a.1++([y1]),a.2.1,wr .i64 (a.2.2+1))) else none) else (r0 (a.1,a.2.1,wr .i64 (a.2.2+1)));bif !a.2.1 then (bif decide (y1.1>=x.2.1.1) then (bif decide (j3*48<=am) then (bif y1.1 != x.2.1.1 then (bif decide ((FJ (a.1++j1)+FJ ([y1]))*48<=am) then (r0 ((a.1++j1)++([y1]),true,wr .i64 (a.2.2+1))) else none) else (r0 (a.1++j1,true,wr .i64 (a.2.2+1)))) else none) else j2) else j2) else (bif !a.2.1 then (bif decide (j3*48<=am) then (some ((a.1++j1,()),())) else none) else (some ((a.1,()),())))
def l0 (x:ab ps):A0->R:=ae (s0 K x) K
def pre (K:Nat)(N0:A0->R)(x:ab ps):R:=N0 ([],x.2.1.2.2.1 != 2,0)
def f (x:ab ps):R:=pre K (l0 K x) x
def c:Ctr:=⟨223,ps,rs,false,f K⟩
end Q164
namespace Q165
abbrev ps:List PK:=[.own t38,.rd t2,.rd I6]
abbrev rs:List RK:=[.v t38]
abbrev R:=Option (ai rs×ag ps)
def f (x:ab ps):R:=let b1:=x.1.2.2.2.2.2.2.2.2;(Q162.f K (b1.1,x.2.1,())).bind λy1=>bif !y1.1.2.1 then (some ((x.1,()),())) else ((Q103.f K (b1.1,x.2.1.1,())).bind λy2=>let j3:=(b1.2.1,x.2.1,());let j1:R:=(Q163.f K j3).bind λy7=>(Q164.f K ((zcp8 x.1 (y1.1.1,y7.1.1,b1.2.2)),x.2.1,x.2.2.1,())).bind λy8=>some (((zcp8 x.1 (y1.1.1,y7.1.1,b1.2.2.1,y8.1.1,b1.2.2.2.2)),()),());bif decide (y2.1.1>=0) then ((idx b1.1 y2.1.1).bind λy3=>bif y3.2.1==x.2.1.2.1 then ((idx b1.1 y2.1.1).bind λy4=>(Q163.f K j3).bind λy5=>let j2:=(zcp8 x.1 (y1.1.1,y5.1.1,b1.2.2));bif !(y4.2.2.1==x.2.1.2.2.1) then ((Q164.f K (j2,x.2.1,x.2.2.1,())).bind λy6=>some (((zcp8 x.1 (y1.1.1,y5.1.1,b1.2.2.1,y6.1.1,b1.2.2.2.2)),()),())) else (some ((j2,()),()))) else j1) else j1)
def c:Ctr:=⟨149,ps,rs,false,f K⟩
end Q165
namespace Q166
abbrev ps:List PK:=[.own t38,.rd t2]
abbrev rs:List RK:=[.v t38]
abbrev R:=Option (ai rs×ag ps)
def f (x:ab ps):R:=(Q103.f K (x.1.2.2.2.2.2.2.2.2.1,x.1.1,())).bind λy1=>(idx x.1.2.2.2.2.2.2.2.2.1 y1.1.1).bind λy2=>(Q106.f K (x.2.1,y2,())).bind λy3=>bif !y3.1.1 then (some ((x.1,()),())) else (bif decide (x.2.1.2.1>=999) then (some ((x.1,()),())) else ((Q165.f K ((zcp4 x.1 (wr .i64 (x.2.1.2.1+1),x.1.2.2.2.2.2)),(x.1.1,wr .i64 (x.2.1.2.1+1),1,x.1.2.2.2.1),x.1.1,())).bind λy4=>some ((y4.1.1,()),())))
def c:Ctr:=⟨188,ps,rs,false,f K⟩
end Q166
namespace Q167
abbrev ps:List PK:=[.own t38,.rd t2,.rd I6]
abbrev rs:List RK:=[.v t38]
abbrev R:=Option (ai rs×ag ps)
abbrev A1:=Int×Int×List (Ty.den t6)×Int×Int×Int×List (Ty.den I6)
abbrev A0:=Int×List (Ty.den t6)
def s1 (K:Nat)(x:ab ps)(r0:A0->R)(r1:A1->R)(a:A1):R:=let b1:=a.2.2.2.2.2;let j2:=(FJ b1.2:Int);let j1:R:=bif decide (0<=0)&&decide (0<=a.2.1)&&decide (a.2.1<=j2)&&true then (let j3:=(b1.2.take (FK a.2.1)).drop (FK 0);bif decide ((FJ ([]:List (Ty.den I6))+FJ j3)*8<=am) then (bif decide ((FJ ([]++j3)+FJ ([x.2.2.1]))*8<=am) then (bif decide (0<=a.2.1)&&decide (a.2.1<=j2)&&decide (j2<=j2)&&true then (let j5:=(b1.2.take (FK j2)).drop (FK a.2.1);bif decide ((FJ (([]++j3)++([x.2.2.1]))+FJ j5)*8<=am) then ((idx a.2.2.1 a.1).bind λ_=>(idx a.2.2.1 (FK a.1:Nat)).bind λy5=>r0 (wr .i64 (a.1+1),a.2.2.1.set (FK a.1) (a.2.2.2.1,a.2.2.2.2.1,b1.1,(([]++j3)++([x.2.2.1]))++j5))) else none) else none) else none) else none) else none;let j4:R:=bif a.2.1==j2 then j1 else ((idx b1.2 a.2.1).bind λy6=>bif y6 != x.2.2.1 then j1 else (r0 (wr .i64 (a.1+1),a.2.2.1)));bif decide (a.2.1<j2) then ((idx b1.2 a.2.1).bind λy3=>bif decide (y3<x.2.2.1) then (r1 (a.1,wr .i64 (a.2.1+1),a.2.2)) else j4) else j4
def l1 (x:ab ps)(r0:A0->R):A1->R:=ae (s1 K x r0) K
def s0 (K:Nat)(x:ab ps)(N1:A1->R)(r0:A0->R)(a:A0):R:=let b1:=x.1.2.2.2.2.2.2.2.2;bif decide (a.1<(FJ a.2:Int)) then ((idx a.2 a.1).bind λ_=>(idx a.2 (FK a.1:Nat)).bind λy2=>let j1:R:=r0 (wr .i64 (a.1+1),a.2);bif y2.1 != x.2.1.1 then j1 else (bif y2.2.1 != x.2.1.2.1 then j1 else (bif x.2.1.2.2.1 != 2 then j1 else (N1 (a.1,0,a.2,y2))))) else (some (((zcp8 x.1 (b1.1,b1.2.1,b1.2.2.1,a.2,b1.2.2.2.2)),()),()))
def l0 (x:ab ps):A0->R:=ae (λr0 a=>s0 K x (l1 K x r0) r0 a) K
def pre (K:Nat)(N0:A0->R)(x:ab ps):R:=N0 (0,x.1.2.2.2.2.2.2.2.2.2.2.2.1)
def f (x:ab ps):R:=pre K (l0 K x) x
def c:Ctr:=⟨189,ps,rs,false,f K⟩
def G (K:Nat):List Ctr:=[]
def v1:List (Nat×List Coe):=[(2,[.keep]),(3,[.keep]),(4,[.keep]),(6,[.keep]),(7,[.keep]),(8,[.keep]),(9,[.keep]),(100003,Kc4),(100004,Kc1),(100006,Kc2),(100008,Kc5)]
def v0:List (Nat×List Coe):=[(2,[.keep]),(3,[.keep]),(4,[.keep]),(6,[.keep]),(7,[.keep]),(100003,Kc4),(100004,Kc1),(100006,Kc2)]
def L:List (Nat×List (Nat×List Coe)):=[(8,v1),(3,v0)]
def body:Code:=cY Tryz.f189
abbrev ev:Code->St->(Ex->St->R)->R:=evK (G K) T_NS L K
abbrev fin:Ex->St->R:=du T_NS ps rs false Tryz.f189.results.toList
def S0 (x:ab ps)(a:A0):St:=av [(2,⟨0,.one,[.int .i64 x.2.2.1]⟩),(3,⟨0,.one,[.bp 100003 0]⟩),(4,⟨0,.one,[.bp 100004 0]⟩),(6,⟨0,.one,[.bp 100006 0]⟩),(7,⟨0,.one,[.int .i64 a.1]⟩),(100003,⟨0,.agg,[.int .i64 x.1.1,.bool x.1.2.1,.bool x.1.2.2.1,.bool x.1.2.2.2.1,.int .i64 x.1.2.2.2.2.1,.int .i64 x.1.2.2.2.2.2.1,.int .i64 x.1.2.2.2.2.2.2.1,.int .i64 x.1.2.2.2.2.2.2.2.1,.ro true 46 t2 x.1.2.2.2.2.2.2.2.2.1,.ro true 133 t3 x.1.2.2.2.2.2.2.2.2.2.1,.int .i64 x.1.2.2.2.2.2.2.2.2.2.2.1.1,.int .i64 x.1.2.2.2.2.2.2.2.2.2.2.1.2.1,.int .i64 x.1.2.2.2.2.2.2.2.2.2.2.1.2.2.1,.bool x.1.2.2.2.2.2.2.2.2.2.2.1.2.2.2,.own true none 86 t6 a.2,.int .i64 x.1.2.2.2.2.2.2.2.2.2.2.2.2.1.1,.int .i64 x.1.2.2.2.2.2.2.2.2.2.2.2.2.1.2.1,.int .i64 x.1.2.2.2.2.2.2.2.2.2.2.2.2.1.2.2.1,.int .i64 x.1.2.2.2.2.2.2.2.2.2.2.2.2.1.2.2.2,.ro true 89 t11 x.1.2.2.2.2.2.2.2.2.2.2.2.2.2.1,.ro true 91 t12 x.1.2.2.2.2.2.2.2.2.2.2.2.2.2.2]⟩),(100004,⟨0,.agg,(w1 x.2.1)⟩),(100006,⟨0,.agg,[.int .i64 0,.bool false,.bool false,.bool false,.int .i64 0,.int .i64 0,.int .i64 0,.int .i64 0,.nil,.nil,.int .i64 0,.int .i64 0,.int .i64 0,.bool false,.nil,.int .i64 0,.int .i64 0,.int .i64 0,.int .i64 0,.nil,.nil]⟩)]
def S1 (x:ab ps)(a:A1):St:=av [(2,⟨0,.one,[.int .i64 x.2.2.1]⟩),(3,⟨0,.one,[.bp 100003 0]⟩),(4,⟨0,.one,[.bp 100004 0]⟩),(6,⟨0,.one,[.bp 100006 0]⟩),(7,⟨0,.one,[.int .i64 a.1]⟩),(8,⟨0,.one,[.bp 100008 0]⟩),(9,⟨0,.one,[.int .i64 a.2.1]⟩),(100003,⟨0,.agg,[.int .i64 x.1.1,.bool x.1.2.1,.bool x.1.2.2.1,.bool x.1.2.2.2.1,.int .i64 x.1.2.2.2.2.1,.int .i64 x.1.2.2.2.2.2.1,.int .i64 x.1.2.2.2.2.2.2.1,.int .i64 x.1.2.2.2.2.2.2.2.1,.ro true 46 t2 x.1.2.2.2.2.2.2.2.2.1,.ro true 133 t3 x.1.2.2.2.2.2.2.2.2.2.1,.int .i64 x.1.2.2.2.2.2.2.2.2.2.2.1.1,.int .i64 x.1.2.2.2.2.2.2.2.2.2.2.1.2.1,.int .i64 x.1.2.2.2.2.2.2.2.2.2.2.1.2.2.1,.bool x.1.2.2.2.2.2.2.2.2.2.2.1.2.2.2,.own true none 86 t6 a.2.2.1,.int .i64 x.1.2.2.2.2.2.2.2.2.2.2.2.2.1.1,.int .i64 x.1.2.2.2.2.2.2.2.2.2.2.2.2.1.2.1,.int .i64 x.1.2.2.2.2.2.2.2.2.2.2.2.2.1.2.2.1,.int .i64 x.1.2.2.2.2.2.2.2.2.2.2.2.2.1.2.2.2,.ro true 89 t11 x.1.2.2.2.2.2.2.2.2.2.2.2.2.2.1,.ro true 91 t12 x.1.2.2.2.2.2.2.2.2.2.2.2.2.2.2]⟩),(100004,⟨0,.agg,(w1 x.2.1)⟩),(100006,⟨0,.agg,[.int .i64 0,.bool false,.bool false,.bool false,.int .i64 0,.int .i64 0,.int .i64 0,.int .i64 0,.nil,.nil,.int .i64 0,.int .i64 0,.int .i64 0,.bool false,.nil,.int .i64 0,.int .i64 0,.int .i64 0,.int .i64 0,.nil,.nil]⟩),(100008,⟨0,.agg,(wa0 a.2.2.2)⟩)]
def k0 (x:ab ps):Ex->St->R:=kAt (ev K) body [1,0,1,0] fin
def N0 (x:ab ps):A0->R:=λa=>aY v0 (ev K (sub body [1,0,1,0,0])) K (S0 x a) (k0 K x)
def k1 (x:ab ps)(q0:St->R):Ex->St->R:=kAt (ev K) (sub body [1,0,1,0,0]) [1,0,0,1,1,1,0,0] (iq v0 q0 (k0 K x))
def N1 (x:ab ps)(q0:St->R):A1->R:=λa=>aY v1 (ev K (sub body [1,0,1,0,0,1,0,0,1,1,1,0,0,0])) K (S1 x a) (k1 K x q0)
end Q167
namespace Q168
abbrev ps:List PK:=[.own t38,.rd (.list false 46 t2),.rd I6]
abbrev rs:List RK:=[.v t38]
abbrev R:=Option (ai rs×ag ps)
abbrev A0:=Int×Int×Bool×Bool×Bool×Int×Int×Int×Int×List (Ty.den t2)×List (Ty.den t3)×Int×Int×Int×Bool×List (Ty.den t6)×Int×Int×Int×Int×List (Ty.den t11)×List (Ty.den t12)
def s0 (x:ab ps)(r0:A0->R)(a:A0):R:=bif decide (a.1<(FJ x.2.1:Int)) then ((idx x.2.1 a.1).bind λy1=>bif y1.1==a.2.1 then ((Q166.f K (zc286a0 a.2 (y1,()))).bind λy2=>r0 (wr .i64 (a.1+1),(zc3ec45 y2.1.1))) else ((Q165.f K (zc286a0 a.2 (y1,x.2.2.1,()))).bind λy3=>(Q167.f K (y3.1.1,y1,x.2.2.1,())).bind λy4=>r0 (wr .i64 (a.1+1),(zc3ec45 y4.1.1)))) else (some ((zc286a0 a.2 ()),()))
def l0 (x:ab ps):A0->R:=ae (s0 K x) K
def pre (K:Nat)(N0:A0->R)(x:ab ps):R:=N0 (0,(zc3ec45 x.1))
def f (x:ab ps):R:=pre K (l0 K x) x
def c:Ctr:=⟨116,ps,rs,false,f K⟩
end Q168
namespace Q169
abbrev ps:List PK:=[.rd (.list false 46 t2),.rd (.list false 46 t2)]
abbrev rs:List RK:=[.v (.list true 46 t2)]
abbrev R:=Option (ai rs×ag ps)
abbrev A0:=List (Ty.den t2)×Int
def s0 (x:ab ps)(r0:A0->R)(a:A0):R:=bif decide (a.2<(FJ x.2.1:Int)) then ((idx x.2.1 a.2).bind λy3=>(Q145.f K (a.1,y3,())).bind λy4=>r0 (y4.1.1,wr .i64 (a.2+1))) else (some ((a.1,()),()))
def l0 (x:ab ps):A0->R:=ae (s0 K x) K
def pre (N0:A0->R)(x:ab ps):R:=(Q100.f K (x.1,())).bind λy1=>bif !y1.1.1 then (some (([],()),())) else ((Q100.f K (x.2.1,())).bind λy2=>bif !y2.1.1 then (some (([],()),())) else (bif decide ((FJ ([]:List (Ty.den t2))+FJ x.1)*32<=am) then (N0 ([]++x.1,0)) else none))
def f (x:ab ps):R:=pre K (l0 K x) x
def c:Ctr:=⟨250,ps,rs,true,f K⟩
end Q169
namespace Q170
abbrev ps:List PK:=[.rd t26,.rd I6,.rd (.list false 46 t2)]
abbrev rs:List RK:=[.v (.list true 46 t2)]
abbrev R:=Option (ai rs×ag ps)
abbrev A0:=Int
def s0 (x:ab ps)(r0:A0->R)(a:A0):R:=let b1:=x.1.2.2.2.2.2.2.2.2.2.2.2.2.2.2;bif decide (a<(FJ b1:Int)) then ((idx b1 a).bind λy1=>bif y1.1==x.2.1 then ((idx b1 a).bind λy2=>(Q169.f K (y2.2,x.2.2.1,())).bind λy3=>some ((y3.1.1,()),())) else (r0 (wr .i64 (a+1)))) else (bif decide ((FJ ([]:List (Ty.den t2))+FJ x.2.2.1)*32<=am) then (some (([]++x.2.2.1,()),())) else none)
def l0 (x:ab ps):A0->R:=ae (s0 K x) K
def pre (K:Nat)(N0:A0->R)(x:ab ps):R:=N0 0
def f (x:ab ps):R:=pre K (l0 K x) x
def c:Ctr:=⟨183,ps,rs,true,f K⟩
end Q170
namespace Q171
abbrev ps:List PK:=[.own t38,.rd I6,.rd (.list false 46 t2)]
abbrev rs:List RK:=[.v t38]
abbrev R:=Option (ai rs×ag ps)
abbrev A0:=List (Ty.den t12)×Bool×Int
def s0 (K:Nat)(x:ab ps)(r0:A0->R)(a:A0):R:=let b2:=x.1.2.2.2.2.2.2.2.2;let b1:=b2.2.2.2.2;let j2:=FJ a.1+FJ ([(x.2.1,x.2.2.1)]);bif decide (a.2.2<(FJ b1.2.2:Int)) then ((idx b1.2.2 a.2.2).bind λy1=>let j1:R:=bif y1.1 != x.2.1 then (bif decide ((FJ a.1+FJ ([y1]))*32<=am) then (r0 (a.1++([y1]),a.2.1,wr .i64 (a.2.2+1))) else none) else (r0 (a.1,a.2.1,wr .i64 (a.2.2+1)));bif !a.2.1 then (bif decide (y1.1>=x.2.1) then (bif decide (j2*32<=am) then (bif y1.1 != x.2.1 then (let j3:=a.1++([(x.2.1,x.2.2.1)]);bif decide ((FJ j3+FJ ([y1]))*32<=am) then (r0 (j3++([y1]),true,wr .i64 (a.2.2+1))) else none) else (r0 (a.1++([(x.2.1,x.2.2.1)]),true,wr .i64 (a.2.2+1)))) else none) else j1) else j1) else (bif !a.2.1 then (bif decide (j2*32<=am) then (some (((zcp8 x.1 (zcp4 b2 (b1.1,b1.2.1,a.1++([(x.2.1,x.2.2.1)])))),()),())) else none) else (some (((zcp8 x.1 (zcp4 b2 (b1.1,b1.2.1,a.1))),()),())))
def l0 (x:ab ps):A0->R:=ae (s0 K x) K
def pre (K:Nat)(N0:A0->R)(x:ab ps):R:=N0 ([],false,0)
def f (x:ab ps):R:=pre K (l0 K x) x
def c:Ctr:=⟨184,ps,rs,false,f K⟩
end Q171
namespace Q172
abbrev ps:List PK:=[.rd (.list false 46 t2),.rd (.list false 46 t2)]
abbrev rs:List RK:=[.v .bool]
abbrev R:=Option (ai rs×ag ps)
abbrev A0:=Int
def s0 (K:Nat)(x:ab ps)(r0:A0->R)(a:A0):R:=bif decide (a<(FJ x.1:Int)) then ((idx x.1 a).bind λy1=>(idx x.2.1 a).bind λy2=>bif !Ty.eqv t2 y1 y2 then (some ((true,()),())) else (r0 (wr .i64 (a+1)))) else (some ((false,()),()))
def l0 (x:ab ps):A0->R:=ae (s0 K x) K
def pre (K:Nat)(N0:A0->R)(x:ab ps):R:=bif (FJ x.1:Int) != (FJ x.2.1:Int) then (some ((true,()),())) else (N0 0)
def f (x:ab ps):R:=pre K (l0 K x) x
def c:Ctr:=⟨185,ps,rs,true,f K⟩
end Q172
namespace Q173
abbrev ps:List PK:=[.own t38,.rd t47]
abbrev rs:List RK:=[.v t38,.v (.list true 35 t47)]
abbrev R:=Option (ai rs×ag ps)
def f (x:ab ps):R:=let b1:=x.2.1.2.2.2.2.2.2.2;(Q102.f K (x.1.1,())).bind λy1=>(Q101.f K (b1,y1.1.1,())).bind λy2=>bif y2.1.1 then ((Q168.f K (x.1,b1,x.1.1,())).bind λy3=>some ((y3.1.1,[],()),())) else ((idx b1 0).bind λy4=>(Q102.f K (y4.1,())).bind λy5=>(Q170.f K (x.1,y5.1.1,b1,())).bind λy6=>(Q171.f K (x.1,y5.1.1,y6.1.1,())).bind λy7=>bif x.2.1.1==2 then ((Q172.f K (b1,y6.1.1,())).bind λy8=>bif y8.1.1 then ((Q161.f K (y7.1.1,6,x.2.1.2.2.1,0,x.1.1,y6.1.1,())).bind λy9=>some ((y7.1.1,[(2,y9.1.1.2)],()),())) else (some ((y7.1.1,[],()),()))) else (some ((y7.1.1,[],()),())))
def c:Ctr:=⟨114,ps,rs,false,f K⟩
end Q173
namespace Q174
abbrev ps:List PK:=[.rd (.list false 133 t3),.rd (.list false 4 .bool)]
abbrev rs:List RK:=[.v I6]
abbrev R:=Option (ai rs×ag ps)
abbrev A0:=Int×Int
def s0 (K:Nat)(x:ab ps)(r0:A0->R)(a:A0):R:=bif decide (a.2<(FJ x.1:Int)) then ((idx x.2.1 a.2).bind λy1=>bif !y1 then (bif decide (a.1<0) then (r0 (a.2,wr .i64 (a.2+1))) else ((idx x.1 a.2).bind λy2=>(idx x.1 a.1).bind λy3=>bif decide (y2.2>y3.2) then (r0 (a.2,wr .i64 (a.2+1))) else (r0 (a.1,wr .i64 (a.2+1))))) else (r0 (a.1,wr .i64 (a.2+1)))) else (some ((a.1,()),()))
def l0 (x:ab ps):A0->R:=ae (s0 K x) K
def pre (K:Nat)(N0:A0->R)(x:ab ps):R:=N0 ((-1),0)
def f (x:ab ps):R:=pre K (l0 K x) x
def c:Ctr:=⟨293,ps,rs,true,f K⟩
end Q174
namespace Q175
abbrev ps:List PK:=[.rd (.list false 133 t3),.rd I6]
abbrev rs:List RK:=[.v (.list true 46 t2),.v (.list true 133 t3)]
abbrev R:=Option (ai rs×ag ps)
abbrev A1:=List (Ty.den .bool)×List (Ty.den t2)×List (Ty.den t3)×Int
abbrev A0:=List (Ty.den .bool)×Int
def s1 (K:Nat)(x:ab ps)(r1:A1->R)(a:A1):R:=let b2:=a.2.2.1;let b1:=a.2.2.2;bif decide (b1<(FJ x.1:Int)) then ((idx x.1 b1).bind λy2=>(idx a.1 b1).bind λ_=>(idx a.1 (FK b1:Nat)).bind λy4=>bif y4 then (bif decide ((FJ a.2.1+FJ ([y2.1]))*32<=am) then (bif decide ((wr .i64 (y2.2-1))>0) then (let j1:=[(y2.1,wr .i64 (y2.2-1))];bif decide ((FJ b2+FJ j1)*40<=am) then (r1 (a.1,a.2.1++([y2.1]),b2++j1,wr .i64 (b1+1))) else none) else (r1 (a.1,a.2.1++([y2.1]),b2,wr .i64 (b1+1)))) else none) else (bif decide (y2.2>0) then (bif decide ((FJ b2+FJ ([y2]))*40<=am) then (r1 (a.1,a.2.1,b2++([y2]),wr .i64 (b1+1))) else none) else (r1 (a.1,a.2.1,b2,wr .i64 (b1+1))))) else (some ((a.2.1,b2,()),()))
def l1 (x:ab ps):A1->R:=ae (s1 K x) K
def s0 (x:ab ps)(N1:A1->R)(r0:A0->R)(a:A0):R:=bif decide (a.2<x.2.1) then ((Q174.f K (x.1,a.1,())).bind λy1=>bif decide (y1.1.1<0) then (N1 (a.1,[],[],0)) else ((idx a.1 y1.1.1).bind λ_=>(idx a.1 (FK y1.1.1:Nat)).bind λy6=>r0 (a.1.set (FK y1.1.1) true,wr .i64 (a.2+1)))) else (N1 (a.1,[],[],0))
def l0 (x:ab ps):A0->R:=ae (s0 K x (l1 K x)) K
def pre (K:Nat)(N0:A0->R)(x:ab ps):R:=bif decide (0<=(FJ x.1:Int))&&decide ((FJ x.1:Int)=(FJ x.1:Int))&&decide ((FJ x.1:Int)*(1:Nat)<=am) then (N0 (List.replicate (FK (FJ x.1:Int)) (false:Ty.den .bool),0)) else none
def f (x:ab ps):R:=pre K (l0 K x) x
def c:Ctr:=⟨251,ps,rs,true,f K⟩
def G:List Ctr:=[Q174.c K]
def v1:List (Nat×List Coe):=[(0,[.ro true 133 t3]),(6,[.own false 4 .bool]),(9,[.own false 46 t2]),(10,[.own false 133 t3]),(11,[.keep])]
def v0:List (Nat×List Coe):=[(0,[.ro true 133 t3]),(1,[.keep]),(6,[.own false 4 .bool]),(7,[.keep])]
def L:List (Nat×List (Nat×List Coe)):=[(12,v1),(4,v0)]
def body:Code:=cY Tryz.f251
abbrev ev:Code->St->(Ex->St->R)->R:=evK (G K) T_S L K
abbrev fin:Ex->St->R:=du T_S ps rs true Tryz.f251.results.toList
def S0 (x:ab ps)(a:A0):St:=av [(0,⟨0,.one,[.ro true 133 t3 x.1]⟩),(1,⟨0,.one,[.int .i64 x.2.1]⟩),(6,⟨0,.one,[.own false none 4 .bool a.1]⟩),(7,⟨0,.one,[.int .i64 a.2]⟩)]
def S1 (x:ab ps)(a:A1):St:=av [(0,⟨0,.one,[.ro true 133 t3 x.1]⟩),(6,⟨0,.one,[.own false none 4 .bool a.1]⟩),(9,⟨0,.one,[.own false none 46 t2 a.2.1]⟩),(10,⟨0,.one,[.own false none 133 t3 a.2.2.1]⟩),(11,⟨0,.one,[.int .i64 a.2.2.2]⟩)]
def k0 (x:ab ps):Ex->St->R:=kAt (ev K) body [1,1,0,1,0] fin
def N0 (x:ab ps):A0->R:=λa=>aY v0 (ev K (sub body [1,1,0,1,0,0])) K (S0 x a) (k0 K x)
def k1 (x:ab ps):Ex->St->R:=kAt (ev K) body [1,1,1,1,1,0,1,0] fin
def N1 (x:ab ps):A1->R:=λa=>aY v1 (ev K (sub body [1,1,1,1,1,0,1,0,0])) K (S1 x a) (k1 K x)
end Q175
namespace Q176
abbrev ps:List PK:=[.own t38,.rd I6]
abbrev rs:List RK:=[.v (.list true 46 t2),.v t38]
abbrev R:=Option (ai rs×ag ps)
def f (x:ab ps):R:=let b1:=x.1.2.2.2.2.2.2.2.2;(Q175.f K (b1.2.1,3,())).bind λy1=>(Q103.f K (b1.1,x.2.1,())).bind λy2=>let j1:=(zcp8 x.1 (b1.1,y1.1.2.1,b1.2.2));bif decide (y2.1.1>=0) then ((idx b1.1 y2.1.1).bind λy3=>bif y3.2.2.1==2 then ((idx b1.1 y2.1.1).bind λy4=>(Q145.f K (y1.1.1,y4,())).bind λy5=>some ((y5.1.1,j1,()),())) else (some ((y1.1.1,j1,()),()))) else (some ((y1.1.1,j1,()),()))
def c:Ctr:=⟨186,ps,rs,false,f K⟩
end Q176
namespace Q177
abbrev ps:List PK:=[.rd I6,.rd I6,.rd I6]
abbrev rs:List RK:=[.v I6]
abbrev R:=Option (ai rs×ag ps)
def f (K:Nat)(x:ab ps):R:=bif decide (x.1<x.2.1) then (some ((x.2.1,()),())) else (bif decide (x.1>x.2.2.1) then (some ((x.2.2.1,()),())) else (some ((x.1,()),())))
def c:Ctr:=⟨252,ps,rs,true,f K⟩
end Q177
namespace Q178
abbrev ps:List PK:=[.rd (.list false 3 I6),.rd I6]
abbrev rs:List RK:=[.v (.list false 3 I6)]
abbrev R:=Option (ai rs×ag ps)
def f (K:Nat)(x:ab ps):R:=bif decide ((FJ ([]:List (Ty.den I6))+FJ x.1)*8<=am) then (bif decide ((FJ ([]++x.1)+FJ ([x.2.1]))*8<=am) then (bif decide ((FJ (([]++x.1)++([x.2.1])):Int)>3) then (bif decide (0<=(wr .i64 ((FJ (([]++x.1)++([x.2.1])):Int)-3)))&&decide ((wr .i64 ((FJ (([]++x.1)++([x.2.1])):Int)-3))<=(FJ (([]++x.1)++([x.2.1])):Int))&&decide ((FJ (([]++x.1)++([x.2.1])):Int)<=(FJ (([]++x.1)++([x.2.1])):Int))&&true then (some ((((([]++x.1)++([x.2.1])).take (FK (FJ (([]++x.1)++([x.2.1])):Int))).drop (FK (wr .i64 ((FJ (([]++x.1)++([x.2.1])):Int)-3))),()),())) else none) else (some ((([]++x.1)++([x.2.1]),()),()))) else none) else none
def c:Ctr:=⟨294,ps,rs,true,f K⟩
end Q178
namespace Q179
abbrev ps:List PK:=[.rd (.list false 89 t11),.rd I6,.rd t9,.rd I6]
abbrev rs:List RK:=[.v (.list true 89 t11)]
abbrev R:=Option (ai rs×ag ps)
abbrev A0:=List (Ty.den t11)×Bool×Int×List (Ty.den I6)
def s0 (x:ab ps)(r0:A0->R)(a:A0):R:=let b1:=a.2.2.1;bif decide (b1<(FJ x.1:Int)) then ((idx x.1 b1).bind λy1=>let j5:=FJ a.1+FJ ([y1]);bif y1.1==x.2.1 then (let j2:R:=bif y1.1 != x.2.1 then (bif decide (j5*64<=am) then (r0 (a.1++([y1]),a.2.1,wr .i64 (b1+1),y1.2.2)) else none) else (r0 (a.1,a.2.1,wr .i64 (b1+1),y1.2.2));bif !a.2.1 then (bif decide (y1.1>=x.2.1) then ((Q178.f K (y1.2.2,x.2.2.2.1,())).bind λy2=>let j3:=[(x.2.1,x.2.2.1,y2.1.1)];bif decide ((FJ a.1+FJ j3)*64<=am) then (bif y1.1 != x.2.1 then (bif decide ((FJ (a.1++j3)+FJ ([y1]))*64<=am) then (r0 ((a.1++j3)++([y1]),true,wr .i64 (b1+1),y2.1.1)) else none) else (r0 (a.1++j3,true,wr .i64 (b1+1),y2.1.1))) else none) else j2) else j2) else (let j1:R:=bif y1.1 != x.2.1 then (bif decide (j5*64<=am) then (r0 (a.1++([y1]),a.2.1,wr .i64 (b1+1),a.2.2.2)) else none) else (r0 (a.1,a.2.1,wr .i64 (b1+1),a.2.2.2));bif !a.2.1 then (bif decide (y1.1>=x.2.1) then ((Q178.f K (a.2.2.2,x.2.2.2.1,())).bind λy3=>let j4:=[(x.2.1,x.2.2.1,y3.1.1)];bif decide ((FJ a.1+FJ j4)*64<=am) then (bif y1.1 != x.2.1 then (bif decide ((FJ (a.1++j4)+FJ ([y1]))*64<=am) then (r0 ((a.1++j4)++([y1]),true,wr .i64 (b1+1),y3.1.1)) else none) else (r0 (a.1++j4,true,wr .i64 (b1+1),y3.1.1))) else none) else j1) else j1)) else (bif !a.2.1 then ((Q178.f K (a.2.2.2,x.2.2.2.1,())).bind λy4=>let j6:=[(x.2.1,x.2.2.1,y4.1.1)];bif decide ((FJ a.1+FJ j6)*64<=am) then (some ((a.1++j6,()),())) else none) else (some ((a.1,()),())))
def l0 (x:ab ps):A0->R:=ae (s0 K x) K
def pre (K:Nat)(N0:A0->R)(x:ab ps):R:=N0 ([],false,0,[])
def f (x:ab ps):R:=pre K (l0 K x) x
def c:Ctr:=⟨253,ps,rs,false,f K⟩
end Q179
namespace Q180
abbrev ps:List PK:=[.rd I6]
abbrev rs:List RK:=[.v I6]
abbrev R:=Option (ai rs×ag ps)
def f (x:ab ps):R:=(Q177.f K (x.1,(-1000000000),1000000000,())).bind λy1=>some ((y1.1.1,()),())
def c:Ctr:=⟨322,ps,rs,true,f K⟩
end Q180
namespace Q181
abbrev ps:List PK:=[.rd I6]
abbrev rs:List RK:=[.v I6]
abbrev R:=Option (ai rs×ag ps)
abbrev A0:=Int×Int
def s0 (K:Nat)(x:ab ps)(r0:A0->R)(a:A0):R:=bif decide (a.1<a.2) then (let j1:=FL (wr .i64 ((wr .i64 (a.1+a.2))+1)) 2;bif decide (wr .i64 j1=0) then none else (bif decide ((wr .i64 j1)<=(wr .i64 (FL x.1 (wr .i64 j1)))) then (r0 (wr .i64 j1,a.2)) else (r0 (a.1,wr .i64 ((wr .i64 j1)-1))))) else (some ((a.1,()),()))
def l0 (x:ab ps):A0->R:=ae (s0 K x) K
def pre (K:Nat)(N0:A0->R)(x:ab ps):R:=N0 (0,1500000000)
def f (x:ab ps):R:=pre K (l0 K x) x
def c:Ctr:=⟨323,ps,rs,true,f K⟩
end Q181
namespace Q182
abbrev ps:List PK:=[.rd I6,.rd I6]
abbrev rs:List RK:=[.v I6]
abbrev R:=Option (ai rs×ag ps)
def f (x:ab ps):R:=(Q180.f K (x.1,())).bind λy1=>(Q180.f K (x.2.1,())).bind λy2=>(Q181.f K (wr .i64 ((wr .i64 (y1.1.1*y1.1.1))+(wr .i64 (y2.1.1*y2.1.1))),())).bind λy3=>(Q180.f K (y3.1.1,())).bind λy4=>some ((y4.1.1,()),())
def c:Ctr:=⟨297,ps,rs,true,f K⟩
end Q182
namespace Q183
abbrev ps:List PK:=[.rd t9,.rd t9]
abbrev rs:List RK:=[.v I6]
abbrev R:=Option (ai rs×ag ps)
def f (x:ab ps):R:=(Q110.f K (x.1,())).bind λy1=>bif !y1.1.1 then (some ((0,()),())) else ((Q110.f K (x.2.1,())).bind λy2=>bif !y2.1.1 then (some ((0,()),())) else ((Q182.f K (wr .i64 (x.1.1-x.2.1.1),wr .i64 (x.1.2.1-x.2.1.2.1),())).bind λy3=>some ((wr .i64 ((wr .i64 (y3.1.1+x.1.2.2.1))+x.2.1.2.2.1),()),())))
def c:Ctr:=⟨295,ps,rs,true,f K⟩
end Q183
namespace Q184
abbrev ps:List PK:=[.rd t9,.rd t9,.rd I6]
abbrev rs:List RK:=[.v I6]
abbrev R:=Option (ai rs×ag ps)
def f (K:Nat)(x:ab ps):R:=bif decide (wr .i64 (x.1.2.2.2+x.2.1.2.2.2)=0) then none else (some ((wr .i64 (FL (wr .i64 (FL (wr .i64 (x.2.2.1*x.1.2.2.2)) (wr .i64 (x.1.2.2.2+x.2.1.2.2.2)))) 4),()),()))
def c:Ctr:=⟨296,ps,rs,true,f K⟩
end Q184
namespace Q185
abbrev ps:List PK:=[.rd I6]
abbrev rs:List RK:=[.v I6,.v I6]
abbrev R:=Option (ai rs×ag ps)
def f (K:Nat)(x:ab ps):R:=bif (bz .i64 x.1 3)==0 then (some ((1,0,()),())) else (bif (bz .i64 x.1 3)==1 then (some ((0,1,()),())) else (bif (bz .i64 x.1 3)==2 then (some (((-1),0,()),())) else (some ((0,(-1),()),()))))
def c:Ctr:=⟨298,ps,rs,true,f K⟩
end Q185
namespace Q186
abbrev ps:List PK:=[.rd I6]
abbrev rs:List RK:=[.v I6]
abbrev R:=Option (ai rs×ag ps)
def f (K:Nat)(x:ab ps):R:=bif decide (x.1<0) then (some ((wr .i64 (0-x.1),()),())) else (some ((x.1,()),()))
def c:Ctr:=⟨324,ps,rs,true,f K⟩
end Q186
namespace Q187
abbrev ps:List PK:=[.rd t9,.rd t9,.rd I6,.rd I6]
abbrev rs:List RK:=[.v I6]
abbrev R:=Option (ai rs×ag ps)
def f (x:ab ps):R:=let b1:=x.1.2.2.2;(Q186.f K (x.2.2.1,())).bind λy1=>bif decide (x.2.2.2.1=0) then none else ((Q177.f K (wr .i64 (FL (wr .i64 (y1.1.1*1000)) x.2.2.2.1),0,1500,())).bind λy2=>bif decide (wr .i64 (b1+x.2.1.2.2.2)=0) then none else ((Q177.f K (wr .i64 (b1+(wr .i64 (FL (wr .i64 (FL (wr .i64 ((wr .i64 (y2.1.1-b1))*b1)) (wr .i64 (b1+x.2.1.2.2.2)))) 4))),1,1500,())).bind λy3=>some ((y3.1.1,()),())))
def c:Ctr:=⟨299,ps,rs,true,f K⟩
end Q187
namespace Q188
abbrev ps:List PK:=[.rd t9,.rd t9,.rd I6,.rd I6]
abbrev rs:List RK:=[.v t9]
abbrev R:=Option (ai rs×ag ps)
def f (x:ab ps):R:=(Q110.f K (x.1,())).bind λy1=>bif !y1.1.1 then (some (((0,0,0,0),()),())) else ((Q110.f K (x.2.1,())).bind λy2=>bif !y2.1.1 then (some ((x.1,()),())) else ((Q98.f K (x.2.2.1,1,60000,())).bind λy3=>bif !y3.1.1 then (some ((x.1,()),())) else ((Q183.f K (x.1,x.2.1,())).bind λy4=>(Q184.f K (x.1,x.2.1,wr .i64 (x.2.2.1-y4.1.1),())).bind λy5=>(Q182.f K (wr .i64 (x.1.1-x.2.1.1),wr .i64 (x.1.2.1-x.2.1.2.1),())).bind λy6=>let j1:=(x.1,x.2.1,wr .i64 (x.2.2.1-y4.1.1),x.2.2.1,());let j2:=(wr .i64 (x.1.2.2.1+(wr .i64 (FL y5.1.1 4))),0,100000,());bif y6.1.1==0 then ((Q185.f K (x.2.2.2.1,())).bind λy7=>bif decide (y5.1.1<0) then (let j3:=wr .i64 (FL (wr .i64 (y5.1.1*0)) 1);(Q177.f K (wr .i64 (x.1.1+j3),(-100000),100000,())).bind λy8=>(Q177.f K (wr .i64 (x.1.2.1+j3),(-100000),100000,())).bind λy9=>(Q177.f K j2).bind λy10=>(Q187.f K j1).bind λy11=>some (((y8.1.1,y9.1.1,y10.1.1,y11.1.1),()),())) else ((Q177.f K (wr .i64 (x.1.1+(wr .i64 (FL (wr .i64 (y5.1.1*y7.1.1)) 1))),(-100000),100000,())).bind λy12=>(Q177.f K (wr .i64 (x.1.2.1+(wr .i64 (FL (wr .i64 (y5.1.1*y7.1.2.1)) 1))),(-100000),100000,())).bind λy13=>(Q177.f K j2).bind λy14=>(Q187.f K j1).bind λy15=>some (((y12.1.1,y13.1.1,y14.1.1,y15.1.1),()),()))) else (let j4:=wr .i64 (x.1.2.1-x.2.1.2.1);let j5:=wr .i64 (x.1.1-x.2.1.1);bif decide (y5.1.1<(wr .i64 (0-y6.1.1))) then (bif decide (y6.1.1=0) then none else ((Q177.f K (wr .i64 (x.1.1+(wr .i64 (FL (wr .i64 ((wr .i64 (0-y6.1.1))*j5)) y6.1.1))),(-100000),100000,())).bind λy16=>bif decide (y6.1.1=0) then none else ((Q177.f K (wr .i64 (x.1.2.1+(wr .i64 (FL (wr .i64 ((wr .i64 (0-y6.1.1))*j4)) y6.1.1))),(-100000),100000,())).bind λy17=>(Q177.f K (wr .i64 (x.1.2.2.1+(wr .i64 (FL (wr .i64 (0-y6.1.1)) 4))),0,100000,())).bind λy18=>(Q187.f K j1).bind λy19=>some (((y16.1.1,y17.1.1,y18.1.1,y19.1.1),()),())))) else (bif decide (y6.1.1=0) then none else ((Q177.f K (wr .i64 (x.1.1+(wr .i64 (FL (wr .i64 (y5.1.1*j5)) y6.1.1))),(-100000),100000,())).bind λy20=>bif decide (y6.1.1=0) then none else ((Q177.f K (wr .i64 (x.1.2.1+(wr .i64 (FL (wr .i64 (y5.1.1*j4)) y6.1.1))),(-100000),100000,())).bind λy21=>(Q177.f K j2).bind λy22=>(Q187.f K j1).bind λy23=>some (((y20.1.1,y21.1.1,y22.1.1,y23.1.1),()),()))))))))
def c:Ctr:=⟨254,ps,rs,true,f K⟩
end Q188
namespace Q189
abbrev ps:List PK:=[.rd (.list false 3 I6)]
abbrev rs:List RK:=[.v I6]
abbrev Res:=ai rs×ag ps
abbrev R:=Option Res
abbrev A1:=List (Ty.den I6)×List (Ty.den I6)×Int×Int
abbrev A0:=List (Ty.den I6)×List (Ty.den I6)×Int
def s1 (K:Nat)(x:ab ps)(r0:A0->R)(r1:A1->R)(a:A1):R:=let b1:=a.2.2.2;let j3:=(FJ a.2.1:Int);let j1:R:=bif decide (0<=0)&&decide (0<=b1)&&decide (b1<=j3)&&true then (let j2:=(a.2.1.take (FK b1)).drop (FK 0);bif decide ((FJ ([]:List (Ty.den I6))+FJ j2)*8<=am) then ((idx a.1 a.2.2.1).bind λy3=>bif decide ((FJ ([]++j2)+FJ ([y3]))*8<=am) then (bif decide (0<=b1)&&decide (b1<=j3)&&decide (j3<=j3)&&true then (let j4:=(a.2.1.take (FK j3)).drop (FK b1);bif decide ((FJ (([]++j2)++([y3]))+FJ j4)*8<=am) then (r0 (a.1,(([]++j2)++([y3]))++j4,wr .i64 (a.2.2.1+1))) else none) else none) else none) else none) else none;bif decide (b1<j3) then ((idx a.2.1 b1).bind λy1=>(idx a.1 a.2.2.1).bind λy2=>bif decide (y1<=y2) then (r1 (a.1,a.2.1,a.2.2.1,wr .i64 (b1+1))) else j1) else j1
def l1 (x:ab ps)(r0:A0->R):A1->R:=ae (s1 K x r0) K
def s0 (K:Nat)(x:ab ps)(N1:A1->R)(r0:A0->R)(a:A0):R:=bif decide (a.2.2<(FJ a.1:Int)) then (N1 (a.1,a.2.1,a.2.2,0)) else (bif (FJ a.2.1:Int)==0 then (some ((0,()),())) else ((idx a.2.1 (wr .i64 (FL (wr .i64 ((FJ a.2.1:Int)-1)) 2))).bind λy5=>some ((y5,()),())))
def l0 (x:ab ps):A0->R:=ae (λr0 a=>s0 K x (l1 K x r0) r0 a) K
def pre (K:Nat)(N0:A0->R)(x:ab ps):R:=bif decide ((FJ x.1:Int)>3) then (let j1:=(wr .i64 ((FJ x.1:Int)-3));bif decide (0<=j1)&&decide (j1<=(FJ x.1:Int))&&decide ((FJ x.1:Int)<=(FJ x.1:Int))&&true then (N0 ((x.1.take (FK (FJ x.1:Int))).drop (FK j1),[],0)) else none) else (N0 (x.1,[],0))
def f (x:ab ps):R:=pre K (l0 K x) x
def c:Ctr:=⟨255,ps,rs,true,f K⟩
def G (K:Nat):List Ctr:=[]
def v1:List (Nat×List Coe):=[(3,[.ro true 3 I6]),(4,[.ro false 3 I6]),(5,[.keep]),(6,[.keep])]
def v0:List (Nat×List Coe):=[(3,[.ro true 3 I6]),(4,[.ro false 3 I6]),(5,[.keep])]
def L:List (Nat×List (Nat×List Coe)):=[(10,v1),(7,v0)]
def body:Code:=cY Tryz.f255
abbrev ev:Code->St->(Ex->St->R)->R:=evK (G K) T_S L K
abbrev fin:Ex->St->R:=du T_S ps rs true Tryz.f255.results.toList
def S0 (x:ab ps)(a:A0):St:=av [(3,⟨0,.one,[.ro true 3 I6 a.1]⟩),(4,⟨0,.one,[.ro false 3 I6 a.2.1]⟩),(5,⟨0,.one,[.int .i64 a.2.2]⟩)]
def S1 (x:ab ps)(a:A1):St:=av [(3,⟨0,.one,[.ro true 3 I6 a.1]⟩),(4,⟨0,.one,[.ro false 3 I6 a.2.1]⟩),(5,⟨0,.one,[.int .i64 a.2.2.1]⟩),(6,⟨0,.one,[.int .i64 a.2.2.2]⟩)]
def k0 (x:ab ps):Ex->St->R:=kAt (ev K) body [1,1,1,1,0,1,0] fin
def N0 (x:ab ps):A0->R:=λa=>aY v0 (ev K (sub body [1,1,1,1,0,1,0,0])) K (S0 x a) (k0 K x)
def k1 (x:ab ps)(q0:St->R):Ex->St->R:=kAt (ev K) (sub body [1,1,1,1,0,1,0,0]) [1,0,0,1,0,0] (iq v0 q0 (k0 K x))
def N1 (x:ab ps)(q0:St->R):A1->R:=λa=>aY v1 (ev K (sub body [1,1,1,1,0,1,0,0,1,0,0,1,0,0,0])) K (S1 x a) (k1 K x q0)
end Q189
namespace Q190
abbrev ps:List PK:=[.own t38,.rd t47]
abbrev rs:List RK:=[.v t38]
abbrev R:=Option (ai rs×ag ps)
abbrev A0:=Int×Int×Int×Int×Int×List (Ty.den t11)
def s0 (x:ab ps)(r0:A0->R)(a:A0):R:=let b2:=x.1.2.2.2.2.2.2.2.2;let b1:=a.2.2.2.2.2;let j1:=(a.2.1,a.2.2.1,a.2.2.2.1,a.2.2.2.2.1);bif decide (a.1<(FJ b1:Int)) then ((idx b1 a.1).bind λ_=>(idx b1 (FK a.1:Nat)).bind λy4=>bif y4.1==x.2.1.2.2.1 then ((idx b1 a.1).bind λ_=>(idx b1 (FK a.1:Nat)).bind λy6=>(Q189.f K (y6.2.2,())).bind λy7=>(Q188.f K (j1,x.2.1.2.2.2.2.2.2.1,y7.1.1,x.2.1.2.2.2.2.1,())).bind λy8=>r0 (wr .i64 (a.1+1),(zc00556 y8.1.1 b1))) else (r0 (wr .i64 (a.1+1),a.2))) else (some (((zcp8 x.1 (b2.1,b2.2.1,((-1),0,0,false),b2.2.2.2.1,j1,b1,b2.2.2.2.2.2.2)),()),()))
def l0 (x:ab ps):A0->R:=ae (s0 K x) K
def pre (N0:A0->R)(x:ab ps):R:=let b2:=x.2.1.2.2;let b1:=x.1.2.2.2.2.2.2.2.2.2.2;bif decide (b1.1.1<0) then (some ((x.1,()),())) else (bif b1.1.1 != b2.1 then (some ((x.1,()),())) else (bif b1.1.2.2.1 != b2.2.2.1 then (some ((x.1,()),())) else (bif b2.2.2.2.1 != b2.1 then (some ((x.1,()),())) else ((Q177.f K (wr .i64 ((wr .i64 ((wr .i64 (x.1.2.2.2.2.2.1-b1.1.2.1))*1000))+500),1,60000,())).bind λy1=>(Q179.f K (b1.2.2.2.1,b2.1,b2.2.2.2.2.1,y1.1.1,())).bind λy2=>N0 (0,(zc00556 b1.2.2.1 y2.1.1))))))
def f (x:ab ps):R:=pre K (l0 K x) x
def c:Ctr:=⟨187,ps,rs,false,f K⟩
end Q190
namespace Q191
abbrev ps:List PK:=[.own t38,.rd t47]
abbrev rs:List RK:=[.v t38,.v (.list true 35 t47)]
abbrev R:=Option (ai rs×ag ps)
def f (x:ab ps):R:=let b2:=x.2.1.2;let b1:=b2.2.2.2.2.1;(Q102.f K (x.1.1,())).bind λy1=>let j1:R:=some ((x.1,[],()),());let j2:=(x.1,b1,());bif b2.1==1 then ((Q102.f K (b1,())).bind λy2=>bif y2.1.1 != y1.1.1 then j1 else (bif b1==x.1.1 then j1 else ((Q176.f K j2).bind λy3=>(Q161.f K (y3.1.2.1,2,b1,b2.2.2.2.1,x.1.1,y3.1.1,())).bind λy4=>some ((y3.1.2.1,[y4.1.1],()),())))) else (bif b2.1==3 then ((Q102.f K (b1,())).bind λy5=>bif y5.1.1 != y1.1.1 then j1 else (bif b1==x.1.1 then j1 else (bif b1==b2.2.1 then j1 else ((Q176.f K j2).bind λy6=>(Q161.f K (y6.1.2.1,1,b1,b2.2.2.2.1,b2.2.1,y6.1.1,())).bind λy7=>some ((y6.1.2.1,[y7.1.1],()),()))))) else (bif b2.1==4 then ((Q161.f K (x.1,5,b2.2.1,0,x.1.1,x.1.2.2.2.2.2.2.2.2.1,())).bind λy8=>some ((x.1,[y8.1.1],()),())) else (bif b2.1==2 then ((Q190.f K (x.1,x.2.1,())).bind λy9=>some ((y9.1.1,[],()),())) else j1)))
def c:Ctr:=⟨115,ps,rs,false,f K⟩
end Q191
namespace Q192
abbrev ps:List PK:=[.own t38,.rd t47]
abbrev rs:List RK:=[.v t38,.v (.list true 35 t47)]
abbrev R:=Option (ai rs×ag ps)
def f (x:ab ps):R:=(Q159.f K (x.2.1,())).bind λy1=>bif !y1.1.1 then (some ((x.1,[],()),())) else ((Q160.f K (x.1,x.2.1,())).bind λy2=>bif !y2.1.1 then (some ((x.1,[],()),())) else (bif x.2.1.2.1==6 then ((Q173.f K (x.1,x.2.1,())).bind λy3=>some ((y3.1.1,y3.1.2.1,()),())) else ((Q168.f K (x.1,x.2.1.2.2.2.2.2.2.2,x.2.1.2.2.1,())).bind λy4=>(Q191.f K (y4.1.1,x.2.1,())).bind λy5=>some ((y5.1.1,y5.1.2.1,()),()))))
def c:Ctr:=⟨48,ps,rs,false,f K⟩
end Q192
namespace Q193
abbrev ps:List PK:=[.rd .str,.rd (.int .u8)]
abbrev rs:List RK:=[.v (.list true 9 .str)]
abbrev R:=Option (ai rs×ag ps)
abbrev A0:=List (Ty.den .str)×Int×Int
def s0 (K:Nat)(x:ab ps)(r0:A0->R)(a:A0):R:=bif decide (a.2.2<(x.1.size:Int)) then ((idx x.1.data.toList a.2.2).bind λy1=>bif (y1.toNat:Int)==x.2.1 then (bif decide (0<=a.2.1)&&decide (a.2.1<=a.2.2)&&decide (a.2.2<=(x.1.size:Int)) then (let j2:=[x.1.extract (FK a.2.1) (FK a.2.2)];bif decide ((FJ a.1+FJ j2)*16<=am) then (r0 (a.1++j2,wr .i64 (a.2.2+1),wr .i64 (a.2.2+1))) else none) else none) else (r0 (a.1,a.2.1,wr .i64 (a.2.2+1)))) else (bif decide (0<=a.2.1)&&decide (a.2.1<=(x.1.size:Int))&&decide ((x.1.size:Int)<=(x.1.size:Int)) then (let j1:=([x.1.extract (FK a.2.1) (FK (x.1.size:Int))]);bif decide ((FJ a.1+FJ j1)*16<=am) then (some ((a.1++j1,()),())) else none) else none)
def l0 (x:ab ps):A0->R:=ae (s0 K x) K
def pre (K:Nat)(N0:A0->R)(x:ab ps):R:=N0 ([],0,0)
def f (x:ab ps):R:=pre K (l0 K x) x
def c:Ctr:=⟨160,ps,rs,true,f K⟩
end Q193
namespace Q194
abbrev ps:List PK:=[.rd I6]
abbrev rs:List RK:=[.v .str]
abbrev R:=Option (ai rs×ag ps)
def f (K:Nat)(x:ab ps):R:=let j1:=ByteArray.mk #[112,105,110,103];let j2:=ByteArray.mk #[115,121,110,99];let j3:=ByteArray.mk #[98,97,99,107];let j4:=ByteArray.mk #[115,117,109];let j5:=ByteArray.mk #[97,115,107];let j6:=ByteArray.mk #[97,99,107];(idx ([(ByteArray.mk #[]),j1,j6,j5,j2,j3,j4]) x.1).bind λ_=>(idx ([(ByteArray.mk #[]),j1,j6,j5,j2,j3,j4]) (FK x.1:Nat)).bind λy2=>some ((y2,()),())
def c:Ctr:=⟨161,ps,rs,true,f K⟩
end Q194
namespace Q195
abbrev ps:List PK:=[.rd .str]
abbrev rs:List RK:=[.v I6]
abbrev R:=Option (ai rs×ag ps)
abbrev A0:=Int×Int
def s0 (K:Nat)(x:ab ps)(r0:A0->R)(a:A0):R:=bif decide (a.2<(x.1.size:Int)) then ((idx x.1.data.toList a.2).bind λy3=>bif decide ((y3.toNat:Int)<48) then (some (((-1),()),())) else ((idx x.1.data.toList a.2).bind λy4=>bif decide ((y4.toNat:Int)>57) then (some (((-1),()),())) else ((idx x.1.data.toList a.2).bind λy5=>r0 (wr .i64 ((wr .i64 (a.1*10))+(wr .i64 (wr .u8 ((y5.toNat:Int)-48)))),wr .i64 (a.2+1))))) else (some ((a.1,()),()))
def l0 (x:ab ps):A0->R:=ae (s0 K x) K
def pre (N0:A0->R)(x:ab ps):R:=(Q98.f K ((x.1.size:Int),1,6,())).bind λy1=>bif !y1.1.1 then (some (((-1),()),())) else (bif decide ((x.1.size:Int)>1) then ((idx x.1.data.toList 0).bind λy2=>bif (y2.toNat:Int)==48 then (some (((-1),()),())) else (N0 (0,0))) else (N0 (0,0)))
def f (x:ab ps):R:=pre K (l0 K x) x
def c:Ctr:=⟨162,ps,rs,true,f K⟩
end Q195
namespace Q196
abbrev ps:List PK:=[.rd .str]
abbrev rs:List RK:=[.v I6,.v .bool]
abbrev R:=Option (ai rs×ag ps)
def f (x:ab ps):R:=let j2:R:=some (((-1),false,()),());bif decide ((x.1.size:Int)<2) then j2 else ((idx x.1.data.toList 0).bind λy1=>let j1:R:=bif decide (0<=1)&&decide (1<=(x.1.size:Int))&&decide ((x.1.size:Int)<=(x.1.size:Int)) then ((Q195.f K (x.1.extract (FK 1) (FK (x.1.size:Int)),())).bind λy3=>bif decide (y3.1.1<0) then j2 else (bif x.1.toList==(ByteArray.mk #[45,48]).toList then j2 else ((idx x.1.data.toList 0).bind λy4=>bif (y4.toNat:Int)==45 then (some ((wr .i64 (0-y3.1.1),true,()),())) else (some ((y3.1.1,true,()),()))))) else none;bif (y1.toNat:Int) != 43 then ((idx x.1.data.toList 0).bind λy2=>bif (y2.toNat:Int) != 45 then j2 else j1) else j1)
def c:Ctr:=⟨163,ps,rs,true,f K⟩
end Q196
namespace Q197
abbrev ps:List PK:=[.rd I6]
abbrev rs:List RK:=[.v .str]
abbrev R:=Option (ai rs×ag ps)
def f (K:Nat)(x:ab ps):R:=let j1:=ByteArray.mk #[115,117,115,112,101,99,116];let j2:=ByteArray.mk #[97,108,105,118,101];let j3:=ByteArray.mk #[108,101,102,116];let j4:=ByteArray.mk #[100,101,97,100];(idx ([(ByteArray.mk #[]),j2,j1,j4,j3]) x.1).bind λ_=>(idx ([(ByteArray.mk #[]),j2,j1,j4,j3]) (FK x.1:Nat)).bind λy2=>some ((y2,()),())
def c:Ctr:=⟨315,ps,rs,true,f K⟩
end Q197
namespace Q198
abbrev ps:List PK:=[.rd .str]
abbrev rs:List RK:=[.v t2,.v .bool]
abbrev R:=Option (ai rs×ag ps)
abbrev A0:=List (Ty.den .str)×Int×Int×Int×Int×Bool
def s0 (x:ab ps)(r0:A0->R)(a:A0):R:=bif decide (a.2.1<=4) then ((Q197.f K (a.2.1,())).bind λy9=>(idx a.1 2).bind λ_=>(idx a.1 (FK 2:Nat)).bind λy11=>bif y9.1.1.toList==y11.toList then (r0 (a.1,wr .i64 (a.2.1+1),a.2.2.1,a.2.2.2.1,a.2.1,a.2.2.2.2.2)) else (r0 (a.1,wr .i64 (a.2.1+1),a.2.2))) else ((Q99.f K (a.2.2,())).bind λy12=>some ((a.2.2,y12.1.1,()),()))
def l0 (x:ab ps):A0->R:=ae (s0 K x) K
def pre (N0:A0->R)(x:ab ps):R:=let j1:R:=(Q193.f K (x.1,58,())).bind λy13=>bif (FJ y13.1.1:Int) != 3 then (some (((0,0,0,false),false,()),())) else ((idx y13.1.1 0).bind λ_=>(idx y13.1.1 (FK 0:Nat)).bind λy15=>(Q195.f K (y15,())).bind λy16=>(idx y13.1.1 1).bind λ_=>(idx y13.1.1 (FK 1:Nat)).bind λy18=>(Q195.f K (y18,())).bind λy19=>N0 (y13.1.1,1,y16.1.1,y19.1.1,0,false));bif decide ((x.1.size:Int)>0) then (let j2:=(wr .i64 ((x.1.size:Int)-1));(idx x.1.data.toList j2).bind λy1=>bif (y1.toNat:Int)==42 then (bif decide (0<=0)&&decide (0<=j2)&&decide (j2<=(x.1.size:Int)) then ((Q193.f K (x.1.extract (FK 0) (FK j2),58,())).bind λy2=>bif (FJ y2.1.1:Int) != 3 then (some (((0,0,0,true),false,()),())) else ((idx y2.1.1 0).bind λ_=>(idx y2.1.1 (FK 0:Nat)).bind λy4=>(Q195.f K (y4,())).bind λy5=>(idx y2.1.1 1).bind λ_=>(idx y2.1.1 (FK 1:Nat)).bind λy7=>(Q195.f K (y7,())).bind λy8=>N0 (y2.1.1,1,y5.1.1,y8.1.1,0,true))) else none) else j1) else j1
def f (x:ab ps):R:=pre K (l0 K x) x
def c:Ctr:=⟨278,ps,rs,true,f K⟩
end Q198
namespace Q199
abbrev ps:List PK:=[.rd .str]
abbrev rs:List RK:=[.v (.list true 46 t2),.v .bool]
abbrev R:=Option (ai rs×ag ps)
abbrev A0:=List (Ty.den t2)×List (Ty.den .str)×Int
def s0 (x:ab ps)(r0:A0->R)(a:A0):R:=bif decide (a.2.2<(FJ a.2.1:Int)) then ((idx a.2.1 a.2.2).bind λ_=>(idx a.2.1 (FK a.2.2:Nat)).bind λy3=>(Q198.f K (y3,())).bind λy4=>bif !y4.1.2.1 then (some (([],false,()),())) else (bif decide ((FJ a.1+FJ ([y4.1.1]))*32<=am) then (r0 (a.1++([y4.1.1]),a.2.1,wr .i64 (a.2.2+1))) else none)) else (some ((a.1,true,()),()))
def l0 (x:ab ps):A0->R:=ae (s0 K x) K
def pre (N0:A0->R)(x:ab ps):R:=bif x.1.toList==(ByteArray.mk #[45]).toList then (some (([],true,()),())) else ((Q193.f K (x.1,44,())).bind λy1=>N0 ([],y1.1.1,0))
def f (x:ab ps):R:=pre K (l0 K x) x
def c:Ctr:=⟨233,ps,rs,true,f K⟩
end Q199
namespace Q200
abbrev ps:List PK:=[.rd (.list false 46 t2)]
abbrev rs:List RK:=[.v .str]
abbrev R:=Option (ai rs×ag ps)
abbrev A0:=ByteArray×Int
def s0 (x:ab ps)(r0:A0->R)(a:A0):R:=bif decide (a.2<(FJ x.1:Int)) then (bif decide (a.2>0) then (aX a.1 (ByteArray.mk #[44]) λy1=>(idx x.1 a.2).bind λy2=>(Q12.f K (y2.1,())).bind λy3=>aX y1 y3.1.1 λy4=>aX y4 (ByteArray.mk #[58]) λy5=>(idx x.1 a.2).bind λy6=>(Q12.f K (y6.2.1,())).bind λy7=>aX y5 y7.1.1 λy8=>aX y8 (ByteArray.mk #[58]) λy9=>(idx x.1 a.2).bind λy10=>(Q197.f K (y10.2.2.1,())).bind λy11=>aX y9 y11.1.1 λy12=>(idx x.1 a.2).bind λy13=>bif y13.2.2.2 then (aX y12 (ByteArray.mk #[42]) λy14=>r0 (y14,wr .i64 (a.2+1))) else (r0 (y12,wr .i64 (a.2+1)))) else ((idx x.1 a.2).bind λy15=>(Q12.f K (y15.1,())).bind λy16=>aX a.1 y16.1.1 λy17=>aX y17 (ByteArray.mk #[58]) λy18=>(idx x.1 a.2).bind λy19=>(Q12.f K (y19.2.1,())).bind λy20=>aX y18 y20.1.1 λy21=>aX y21 (ByteArray.mk #[58]) λy22=>(idx x.1 a.2).bind λy23=>(Q197.f K (y23.2.2.1,())).bind λy24=>aX y22 y24.1.1 λy25=>(idx x.1 a.2).bind λy26=>bif y26.2.2.2 then (aX y25 (ByteArray.mk #[42]) λy27=>r0 (y27,wr .i64 (a.2+1))) else (r0 (y25,wr .i64 (a.2+1))))) else (some ((a.1,()),()))
def l0 (x:ab ps):A0->R:=ae (s0 K x) K
def pre (K:Nat)(N0:A0->R)(x:ab ps):R:=N0 ((ByteArray.mk #[]),0)
def f (x:ab ps):R:=pre K (l0 K x) x
def c:Ctr:=⟨279,ps,rs,true,f K⟩
end Q200
namespace Q201
abbrev ps:List PK:=[.rd (.list false 46 t2)]
abbrev rs:List RK:=[.v .str]
abbrev R:=Option (ai rs×ag ps)
def f (x:ab ps):R:=(Q100.f K (x.1,())).bind λy1=>bif !y1.1.1 then (some (((ByteArray.mk #[]),()),())) else (bif (FJ x.1:Int)==0 then (some (((ByteArray.mk #[45]),()),())) else ((Q200.f K (x.1,())).bind λy2=>some ((y2.1.1,()),())))
def c:Ctr:=⟨234,ps,rs,true,f K⟩
end Q201
namespace Q202
abbrev ps:List PK:=[.rd .str]
abbrev rs:List RK:=[.v (.list true 46 t2),.v .bool]
abbrev R:=Option (ai rs×ag ps)
def f (x:ab ps):R:=(Q199.f K (x.1,())).bind λy1=>bif !y1.1.2.1 then (some (([],false,()),())) else ((Q201.f K (y1.1.1,())).bind λy2=>bif y2.1.1.toList != x.1.toList then (some (([],false,()),())) else (some ((y1.1.1,true,()),())))
def c:Ctr:=⟨164,ps,rs,true,f K⟩
end Q202
namespace Q203
abbrev ps:List PK:=[.rd I6]
abbrev rs:List RK:=[.v .str]
abbrev R:=Option (ai rs×ag ps)
def f (x:ab ps):R:=bif decide (x.1<0) then ((Q12.f K (wr .i64 (0-x.1),())).bind λy1=>aX (ByteArray.mk #[45]) y1.1.1 λy2=>some ((y2,()),())) else ((Q12.f K (x.1,())).bind λy3=>aX (ByteArray.mk #[43]) y3.1.1 λy4=>some ((y4,()),()))
def c:Ctr:=⟨281,ps,rs,true,f K⟩
end Q203
namespace Q204
abbrev ps:List PK:=[.rd t47]
abbrev rs:List RK:=[.v .str]
abbrev R:=Option (ai rs×ag ps)
def f (x:ab ps):R:=let b1:=x.1.2.2.2.2;let j1:=(b1.2.2.1.2.2.1,());let j2:=(b1.2.2.1.2.2.2,());let j3:=(b1.2.2.1.2.1,());bif x.1.1==2 then (aX (ByteArray.mk #[119,97,110]) (ByteArray.mk #[32]) λy1=>(Q194.f K (x.1.2.1,())).bind λy2=>aX y1 y2.1.1 λy3=>aX y3 (ByteArray.mk #[32]) λy4=>(Q12.f K (x.1.2.2.1,())).bind λy5=>aX y4 y5.1.1 λy6=>aX y6 (ByteArray.mk #[32]) λy7=>(Q12.f K (x.1.2.2.2.1,())).bind λy8=>aX y7 y8.1.1 λy9=>aX y9 (ByteArray.mk #[32]) λy10=>(Q12.f K (b1.1,())).bind λy11=>aX y10 y11.1.1 λy12=>aX y12 (ByteArray.mk #[32]) λy13=>(Q12.f K (b1.2.1,())).bind λy14=>aX y13 y14.1.1 λy15=>aX y15 (ByteArray.mk #[32]) λy16=>(Q203.f K (b1.2.2.1.1,())).bind λy17=>aX y16 y17.1.1 λy18=>aX y18 (ByteArray.mk #[32]) λy19=>(Q203.f K j3).bind λy20=>aX y19 y20.1.1 λy21=>aX y21 (ByteArray.mk #[32]) λy22=>(Q12.f K j1).bind λy23=>aX y22 y23.1.1 λy24=>aX y24 (ByteArray.mk #[32]) λy25=>(Q12.f K j2).bind λy26=>aX y25 y26.1.1 λy27=>aX y27 (ByteArray.mk #[32]) λy28=>(Q201.f K (b1.2.2.2,())).bind λy29=>aX y28 y29.1.1 λy30=>some ((y30,()),())) else (aX (ByteArray.mk #[108,97,110]) (ByteArray.mk #[32]) λy31=>(Q194.f K (x.1.2.1,())).bind λy32=>aX y31 y32.1.1 λy33=>aX y33 (ByteArray.mk #[32]) λy34=>(Q12.f K (x.1.2.2.1,())).bind λy35=>aX y34 y35.1.1 λy36=>aX y36 (ByteArray.mk #[32]) λy37=>(Q12.f K (x.1.2.2.2.1,())).bind λy38=>aX y37 y38.1.1 λy39=>aX y39 (ByteArray.mk #[32]) λy40=>(Q12.f K (b1.1,())).bind λy41=>aX y40 y41.1.1 λy42=>aX y42 (ByteArray.mk #[32]) λy43=>(Q12.f K (b1.2.1,())).bind λy44=>aX y43 y44.1.1 λy45=>aX y45 (ByteArray.mk #[32]) λy46=>(Q203.f K (b1.2.2.1.1,())).bind λy47=>aX y46 y47.1.1 λy48=>aX y48 (ByteArray.mk #[32]) λy49=>(Q203.f K j3).bind λy50=>aX y49 y50.1.1 λy51=>aX y51 (ByteArray.mk #[32]) λy52=>(Q12.f K j1).bind λy53=>aX y52 y53.1.1 λy54=>aX y54 (ByteArray.mk #[32]) λy55=>(Q12.f K j2).bind λy56=>aX y55 y56.1.1 λy57=>aX y57 (ByteArray.mk #[32]) λy58=>(Q201.f K (b1.2.2.2,())).bind λy59=>aX y58 y59.1.1 λy60=>some ((y60,()),()))
def c:Ctr:=⟨235,ps,rs,true,f K⟩
end Q204
namespace Q205
abbrev ps:List PK:=[.rd I6]
abbrev rs:List RK:=[.v .str]
abbrev R:=Option (ai rs×ag ps)
abbrev A0:=List (Ty.den (.int .u8))×Int
def s0 (K:Nat)(x:ab ps)(r0:A0->R)(a:A0):R:=bif decide (a.2>=0) then (bif decide ((wr .i64 (4*a.2))<0) then none else ((idx (ByteArray.mk #[48,49,50,51,52,53,54,55,56,57,97,98,99,100,101,102]).data.toList (bz .i64 (FN x.1 (2 ^ (min (FK (wr .i64 (4*a.2))) 64))) 15)).bind λy1=>bif decide ((FJ a.1+FJ ([(y1.toNat:Int)]))*1<=am) then (r0 (a.1++([(y1.toNat:Int)]),wr .i64 (a.2-1))) else none)) else (some ((ip a.1,()),()))
def l0 (x:ab ps):A0->R:=ae (s0 K x) K
def pre (K:Nat)(N0:A0->R)(x:ab ps):R:=N0 ([],7)
def f (x:ab ps):R:=pre K (l0 K x) x
def c:Ctr:=⟨236,ps,rs,true,f K⟩
end Q205
namespace Q206
abbrev ps:List PK:=[.rd I6]
abbrev rs:List RK:=[.v I6]
abbrev R:=Option (ai rs×ag ps)
abbrev A0:=Int×Int
def s0 (K:Nat)(x:ab ps)(r0:A0->R)(a:A0):R:=bif decide (a.2<8) then (bif (bz .i64 a.1 1)==1 then (r0 (rD .i64 (FN a.1 (2 ^ 1)) 3988292384,wr .i64 (a.2+1))) else (r0 (FN a.1 (2 ^ 1),wr .i64 (a.2+1)))) else (some ((a.1,()),()))
def l0 (x:ab ps):A0->R:=ae (s0 K x) K
def pre (K:Nat)(N0:A0->R)(x:ab ps):R:=N0 (x.1,0)
def f (x:ab ps):R:=pre K (l0 K x) x
def c:Ctr:=⟨282,ps,rs,true,f K⟩
end Q206
namespace Q207
abbrev ps:List PK:=[.rd .str]
abbrev rs:List RK:=[.v I6]
abbrev R:=Option (ai rs×ag ps)
abbrev A0:=Int×Int
def s0 (x:ab ps)(r0:A0->R)(a:A0):R:=bif decide (a.2<(x.1.size:Int)) then ((idx x.1.data.toList a.2).bind λy1=>(Q206.f K (rD .i64 a.1 (wr .i64 (y1.toNat:Int)),())).bind λy2=>r0 (y2.1.1,wr .i64 (a.2+1))) else (some ((rD .i64 a.1 4294967295,()),()))
def l0 (x:ab ps):A0->R:=ae (s0 K x) K
def pre (K:Nat)(N0:A0->R)(x:ab ps):R:=N0 (4294967295,0)
def f (x:ab ps):R:=pre K (l0 K x) x
def c:Ctr:=⟨237,ps,rs,true,f K⟩
end Q207
namespace Q208
abbrev ps:List PK:=[.rd t47]
abbrev rs:List RK:=[.v .str]
abbrev R:=Option (ai rs×ag ps)
def f (x:ab ps):R:=(Q159.f K (x.1,())).bind λy1=>bif !y1.1.1 then (some (((ByteArray.mk #[]),()),())) else ((Q204.f K (x.1,())).bind λy2=>aX y2.1.1 (ByteArray.mk #[32]) λy3=>(Q207.f K (y2.1.1,())).bind λy4=>(Q205.f K (y4.1.1,())).bind λy5=>aX y3 y5.1.1 λy6=>some ((y6,()),()))
def c:Ctr:=⟨165,ps,rs,true,f K⟩
end Q208
namespace Q209
abbrev ps:List PK:=[.rd .str]
abbrev rs:List RK:=[.v t59,.v .bool]
abbrev R:=Option (ai rs×ag ps)
abbrev A0:=List (Ty.den .str)×Int×Int×Int
def s0 (x:ab ps)(r0:A0->R)(a:A0):R:=bif decide (a.2.1<=6) then ((Q194.f K (a.2.1,())).bind λy4=>(idx a.1 1).bind λ_=>(idx a.1 (FK 1:Nat)).bind λy6=>bif y4.1.1.toList==y6.toList then (r0 (a.1,wr .i64 (a.2.1+1),a.2.2.1,a.2.1)) else (r0 (a.1,wr .i64 (a.2.1+1),a.2.2))) else ((idx a.1 2).bind λ_=>(idx a.1 (FK 2:Nat)).bind λy8=>(Q195.f K (y8,())).bind λy9=>(idx a.1 3).bind λ_=>(idx a.1 (FK 3:Nat)).bind λy11=>(Q195.f K (y11,())).bind λy12=>(idx a.1 4).bind λ_=>(idx a.1 (FK 4:Nat)).bind λy14=>(Q195.f K (y14,())).bind λy15=>(idx a.1 5).bind λ_=>(idx a.1 (FK 5:Nat)).bind λy17=>(Q195.f K (y17,())).bind λy18=>(idx a.1 6).bind λ_=>(idx a.1 (FK 6:Nat)).bind λy20=>(Q196.f K (y20,())).bind λy21=>(idx a.1 7).bind λ_=>(idx a.1 (FK 7:Nat)).bind λy23=>(Q196.f K (y23,())).bind λy24=>(idx a.1 10).bind λ_=>(idx a.1 (FK 10:Nat)).bind λy26=>(Q202.f K (y26,())).bind λy27=>(idx a.1 8).bind λ_=>(idx a.1 (FK 8:Nat)).bind λy29=>(Q195.f K (y29,())).bind λy30=>(idx a.1 9).bind λ_=>(idx a.1 (FK 9:Nat)).bind λy32=>(Q195.f K (y32,())).bind λy33=>let j1:R:=some (((0,0,0,0,0,0,(0,0,0,0),[]),false,()),());bif !y21.1.2.1 then j1 else (bif !y24.1.2.1 then j1 else (bif !y27.1.2.1 then j1 else (let j2:=(a.2.2.1,a.2.2.2,y9.1.1,y12.1.1,y15.1.1,y18.1.1,(y21.1.1,y24.1.1,y30.1.1,y33.1.1),y27.1.1);(Q208.f K (j2,())).bind λy34=>bif y34.1.1.toList != x.1.toList then j1 else (some ((j2,true,()),()))))))
def l0 (x:ab ps):A0->R:=ae (s0 K x) K
def pre (N0:A0->R)(x:ab ps):R:=(Q193.f K (x.1,32,())).bind λy1=>let j1:R:=some (((0,0,0,0,0,0,(0,0,0,0),[]),false,()),());bif decide ((x.1.size:Int)>300) then j1 else (bif (FJ y1.1.1:Int) != 12 then j1 else ((idx y1.1.1 0).bind λ_=>(idx y1.1.1 (FK 0:Nat)).bind λy3=>bif y3.toList==(ByteArray.mk #[119,97,110]).toList then (N0 (y1.1.1,1,2,0)) else (N0 (y1.1.1,1,1,0))))
def f (x:ab ps):R:=pre K (l0 K x) x
def c:Ctr:=⟨104,ps,rs,true,f K⟩
end Q209
namespace Q210
abbrev ps:List PK:=[.rd (.list false 121 t40),.rd I6]
abbrev rs:List RK:=[.v (.list true 121 t40)]
abbrev R:=Option (ai rs×ag ps)
def f (K:Nat)(x:ab ps):R:=bif decide (0<=0)&&decide (0<=x.2.1)&&decide (x.2.1<=(FJ x.1:Int))&&true then (let j1:=(x.1.take (FK x.2.1)).drop (FK 0);bif decide ((FJ ([]:List (Ty.den t40))+FJ j1)*32<=am) then (bif decide (0<=(wr .i64 (x.2.1+1)))&&decide ((wr .i64 (x.2.1+1))<=(FJ x.1:Int))&&decide ((FJ x.1:Int)<=(FJ x.1:Int))&&true then (let j2:=((x.1.take (FK (FJ x.1:Int))).drop (FK (wr .i64 (x.2.1+1))));bif decide ((FJ ([]++j1)+FJ j2)*32<=am) then (some ((([]++j1)++j2,()),())) else none) else none) else none) else none
def c:Ctr:=⟨229,ps,rs,true,f K⟩
end Q210
namespace Q211
abbrev ps:List PK:=[.rd t94,.rd I6,.rd (.list false 35 t47)]
abbrev rs:List RK:=[.v t94]
abbrev R:=Option (ai rs×ag ps)
abbrev A0:=Int×List (Ty.den t40)
def s0 (x:ab ps)(r0:A0->R)(a:A0):R:=bif decide (a.1<(FJ x.2.2.1:Int)) then (bif decide ((FJ a.2:Int)<60) then ((idx x.1.2.2.1 x.2.1).bind λy1=>(idx x.2.2.1 a.1).bind λy2=>(idx x.1.2.2.1 y2.2.2.2.1).bind λy3=>bif y1==y3 then (bif decide ((FJ ([]:List (Ty.den t40))+FJ a.2)*32<=am) then ((idx x.2.2.1 a.1).bind λy4=>(idx x.2.2.1 a.1).bind λy5=>(Q208.f K (y5,())).bind λy6=>let j1:=[(y4.2.2.2.1,y6.1.1,false)];bif decide ((FJ ([]++a.2)+FJ j1)*32<=am) then (r0 (wr .i64 (a.1+1),([]++a.2)++j1)) else none) else none) else (r0 (wr .i64 (a.1+1),a.2))) else (r0 (wr .i64 (a.1+1),a.2))) else (some (((x.1.1,a.2,x.1.2.2),()),()))
def l0 (x:ab ps):A0->R:=ae (s0 K x) K
def pre (K:Nat)(N0:A0->R)(x:ab ps):R:=N0 (0,x.1.2.1)
def f (x:ab ps):R:=pre K (l0 K x) x
def c:Ctr:=⟨312,ps,rs,false,f K⟩
end Q211
namespace Q212
abbrev ps:List PK:=[.rd t2,.rd t2]
abbrev rs:List RK:=[.v .bool]
abbrev R:=Option (ai rs×ag ps)
def f (x:ab ps):R:=bif x.1.1 != x.2.1.1 then (some ((decide (x.1.1<x.2.1.1),()),())) else ((Q106.f K (x.2.1,x.1,())).bind λy1=>some ((y1.1.1,()),()))
def c:Ctr:=⟨329,ps,rs,true,f K⟩
end Q212
namespace Q213
abbrev ps:List PK:=[.rd (.list false 46 t2),.rd t2]
abbrev rs:List RK:=[.v (.list false 46 t2)]
abbrev R:=Option (ai rs×ag ps)
abbrev A0:=Int
def s0 (x:ab ps)(r0:A0->R)(a:A0):R:=let j1:R:=bif decide (0<=0)&&decide (0<=a)&&decide (a<=(FJ x.1:Int))&&true then (let j3:=(x.1.take (FK a)).drop (FK 0);bif decide ((FJ ([]:List (Ty.den t2))+FJ j3)*32<=am) then (bif decide ((FJ ([]++j3)+FJ ([x.2.1]))*32<=am) then (bif decide (0<=a)&&decide (a<=(FJ x.1:Int))&&decide ((FJ x.1:Int)<=(FJ x.1:Int))&&true then (let j4:=((x.1.take (FK (FJ x.1:Int))).drop (FK a));bif decide ((FJ (([]++j3)++([x.2.1]))+FJ j4)*32<=am) then (some (((([]++j3)++([x.2.1]))++j4,()),())) else none) else none) else none) else none) else none;let j2:R:=bif decide (a<(FJ x.1:Int)) then ((idx x.1 a).bind λy3=>bif Ty.eqv t2 y3 x.2.1 then (some ((x.1,()),())) else j1) else j1;bif decide (a<(FJ x.1:Int)) then ((idx x.1 a).bind λy1=>(Q212.f K (y1,x.2.1,())).bind λy2=>bif y2.1.1 then (r0 (wr .i64 (a+1))) else j2) else j2
def l0 (x:ab ps):A0->R:=ae (s0 K x) K
def pre (K:Nat)(N0:A0->R)(x:ab ps):R:=N0 0
def f (x:ab ps):R:=pre K (l0 K x) x
def c:Ctr:=⟨314,ps,rs,false,f K⟩
end Q213
namespace Q214
abbrev ps:List PK:=[.rd (.list false 46 t2),.rd t2]
abbrev rs:List RK:=[.v .bool]
abbrev R:=Option (ai rs×ag ps)
abbrev A0:=Int
def s0 (K:Nat)(x:ab ps)(r0:A0->R)(a:A0):R:=bif decide (a<(FJ x.1:Int)) then ((idx x.1 a).bind λy1=>bif Ty.eqv t2 y1 x.2.1 then (some ((true,()),())) else (r0 (wr .i64 (a+1)))) else (some ((false,()),()))
def l0 (x:ab ps):A0->R:=ae (s0 K x) K
def pre (K:Nat)(N0:A0->R)(x:ab ps):R:=N0 0
def f (x:ab ps):R:=pre K (l0 K x) x
def c:Ctr:=⟨328,ps,rs,true,f K⟩
end Q214
namespace Q215
abbrev ps:List PK:=[.rd t94,.rd (.list false 46 t2),.rd (.list false 46 t2),.rd (.list false 46 t2)]
abbrev rs:List RK:=[.v t94]
abbrev R:=Option (ai rs×ag ps)
abbrev A0:=Int×List (Ty.den t2)
def s0 (x:ab ps)(r0:A0->R)(a:A0):R:=bif decide (a.1<(FJ x.2.2.2.1:Int)) then ((idx x.2.2.2.1 a.1).bind λy1=>(Q214.f K (x.2.1,y1,())).bind λy2=>bif !y2.1.1 then ((idx x.2.2.2.1 a.1).bind λy3=>(Q214.f K (x.2.2.1,y3,())).bind λy4=>bif !y4.1.1 then ((idx x.2.2.2.1 a.1).bind λy5=>(Q213.f K (a.2,y5,())).bind λy6=>r0 (wr .i64 (a.1+1),y6.1.1)) else (r0 (wr .i64 (a.1+1),a.2))) else (r0 (wr .i64 (a.1+1),a.2))) else (some (((x.1.1,x.1.2.1,x.1.2.2.1,a.2),()),()))
def l0 (x:ab ps):A0->R:=ae (s0 K x) K
def pre (K:Nat)(N0:A0->R)(x:ab ps):R:=N0 (0,x.1.2.2.2)
def f (x:ab ps):R:=pre K (l0 K x) x
def c:Ctr:=⟨313,ps,rs,false,f K⟩
end Q215
namespace Q216
abbrev ps:List PK:=[.hol t97 0 14,.own t38,.rd (.list false 35 t47),.rd (.list false 46 t2)]
abbrev rs:List RK:=[.v t94]
abbrev R:=Option (ai rs×ag ps)
def f (x:ab ps):R:=let b1:=x.2.1.1;(idx x.1.1.1 b1).bind λ_=>(idx x.1.1.1 (FK b1:Nat)).bind λy2=>(idx x.1.1.1 b1).bind λ_=>(idx x.1.1.1 (FK b1:Nat)).bind λy4=>bif Nat.beq (FK b1) x.1.2 then ((Q215.f K ((x.1.1.1.set (FK b1) x.2.1,x.1.1.2),y2.2.2.2.2.2.2.2.2.1,x.2.2.2.1,x.2.1.2.2.2.2.2.2.2.2.1,())).bind λy5=>(Q211.f K (y5.1.1,b1,x.2.2.1,())).bind λy6=>some ((y6.1.1,()),())) else none
def c:Ctr:=⟨275,ps,rs,false,f K⟩
end Q216
namespace Q217
abbrev ps:List PK:=[.own t97,.rd I6,.rd .bool]
abbrev rs:List RK:=[.v t94]
abbrev R:=Option (ai rs×ag ps)
def f (x:ab ps):R:=let b3:=x.1.2.2.1;(idx x.1.2.1 x.2.1).bind λ_=>(idx x.1.2.1 (FK x.2.1:Nat)).bind λy2=>bif !x.2.2.1 then ((Q210.f K (x.1.2.1,x.2.1,())).bind λy3=>(Q209.f K (y2.2.1,())).bind λy4=>let j1:R:=some (((x.1.1,y3.1.1,x.1.2.2),()),());bif !y4.1.2.1 then j1 else ((idx b3 y4.1.1.2.2.1).bind λ_=>(idx b3 (FK y4.1.1.2.2.1:Nat)).bind λy6=>(idx b3 y2.1).bind λ_=>(idx b3 (FK y2.1:Nat)).bind λy8=>bif y6 != y8 then j1 else (bif y4.1.1.2.2.2.1 != y2.1 then j1 else ((idx x.1.1 y2.1).bind λ_=>(idx x.1.1 (FK y2.1:Nat)).bind λy10=>let b1:=y10.2.2.2.2.2.2.2.2;(idx x.1.1 (FK y2.1:Nat)).bind λy11=>(Q192.f K ((zcp8 y10 (b1.1,b1.2.1,b1.2.2.1,y11.2.2.2.2.2.2.2.2.2.2.2.1,b1.2.2.2.2)),y4.1.1,())).bind λy12=>(Q216.f K (((x.1.1,y3.1.1,x.1.2.2),FK y2.1),y12.1.1,y12.1.2.1,y4.1.1.2.2.2.2.2.2.2,())).bind λy13=>some ((y13.1.1,()),()))))) else ((Q209.f K (y2.2.1,())).bind λy14=>let b4:=y14.1.1.2.2;bif !y14.1.2.1 then (some ((x.1,()),())) else ((idx b3 b4.1).bind λ_=>(idx b3 (FK b4.1:Nat)).bind λy16=>(idx b3 y2.1).bind λ_=>(idx b3 (FK y2.1:Nat)).bind λy18=>bif y16 != y18 then (some ((x.1,()),())) else (bif b4.2.1 != y2.1 then (some ((x.1,()),())) else ((idx x.1.1 y2.1).bind λ_=>(idx x.1.1 (FK y2.1:Nat)).bind λy20=>let b2:=y20.2.2.2.2.2.2.2.2;(idx x.1.1 (FK y2.1:Nat)).bind λy21=>(Q192.f K ((zcp8 y20 (b2.1,b2.2.1,b2.2.2.1,y21.2.2.2.2.2.2.2.2.2.2.2.1,b2.2.2.2.2)),y14.1.1,())).bind λy22=>(Q216.f K ((x.1,FK y2.1),y22.1.1,y22.1.2.1,b4.2.2.2.2.2,())).bind λy23=>some ((y23.1.1,()),())))))
def c:Ctr:=⟨227,ps,rs,false,f K⟩
end Q217
namespace Q218
abbrev ps:List PK:=[.own t97,.rd I6,.rd I6]
abbrev rs:List RK:=[.v t94,.v .bool]
abbrev R:=Option (ai rs×ag ps)
def f (K:Nat)(x:ab ps):R:=(idx x.1.2.1 x.2.1).bind λ_=>(idx x.1.2.1 (FK x.2.1:Nat)).bind λy2=>bif y2.2.2 then (some ((x.1,false,()),())) else (bif (y2.2.1.size:Int)==0 then (some ((x.1,false,()),())) else (bif decide ((y2.2.1.size:Int)=0) then none else (let j1:=(FM (bz .i64 x.2.2.1 4095) (y2.2.1.size:Int));(idx (eS y2.2.1) j1).bind λ_=>(idx (eS y2.2.1) (FK j1:Nat)).bind λy4=>(idx (eS y2.2.1) j1).bind λ_=>(idx (eS y2.2.1) (FK j1:Nat)).bind λy6=>(idx x.1.2.1 x.2.1).bind λ_=>(idx x.1.2.1 (FK x.2.1:Nat)).bind λy8=>some (((x.1.1,x.1.2.1.set (FK x.2.1) (y2.1,ip ((eS y2.2.1).set (FK j1) (rD .u8 y4 (wr .u8 (wr .i64 (1+(bz .i64 (FN x.2.2.1 (2 ^ 12)) 127)))))),true),x.1.2.2),true,()),()))))
def c:Ctr:=⟨228,ps,rs,false,f K⟩
end Q218
namespace Q219
abbrev ps:List PK:=[.rd t26,.rd t2,.rd I6]
abbrev rs:List RK:=[.v t26]
abbrev R:=Option (ai rs×ag ps)
def f (x:ab ps):R:=let b1:=x.1.2.2.2.2.2.2.2.2;(Q162.f K (b1.1,x.2.1,())).bind λy1=>bif !y1.1.2.1 then (some ((x.1,()),())) else ((Q103.f K (b1.1,x.2.1.1,())).bind λy2=>let j3:=(b1.2.1,x.2.1,());let j1:R:=(Q163.f K j3).bind λy7=>(Q164.f K ((zcp8 x.1 (y1.1.1,y7.1.1,b1.2.2)),x.2.1,x.2.2.1,())).bind λy8=>some (((zcp8 x.1 (y1.1.1,y7.1.1,b1.2.2.1,y8.1.1,b1.2.2.2.2)),()),());bif decide (y2.1.1>=0) then ((idx b1.1 y2.1.1).bind λy3=>bif y3.2.1==x.2.1.2.1 then ((idx b1.1 y2.1.1).bind λy4=>(Q163.f K j3).bind λy5=>let j2:=(zcp8 x.1 (y1.1.1,y5.1.1,b1.2.2));bif !(y4.2.2.1==x.2.1.2.2.1) then ((Q164.f K (j2,x.2.1,x.2.2.1,())).bind λy6=>some (((zcp8 x.1 (y1.1.1,y5.1.1,b1.2.2.1,y6.1.1,b1.2.2.2.2)),()),())) else (some ((j2,()),()))) else j1) else j1)
def c:Ctr:=⟨149,ps,rs,false,f K⟩
end Q219
namespace Q220
abbrev ps:List PK:=[.rd I6,.rd t6]
abbrev rs:List RK:=[.v .bool]
abbrev R:=Option (ai rs×ag ps)
def f (K:Nat)(x:ab ps):R:=let j1:=(wr .i64 ((wr .i64 (6-(FJ x.2.1.2.2.2:Int)))+1));let j2:=wr .i64 (x.1-x.2.1.2.2.1);bif decide (j1<3) then (some ((decide (j2>=3),()),())) else (some ((decide (j2>=j1),()),()))
def c:Ctr:=⟨207,ps,rs,true,f K⟩
end Q220
namespace Q221
abbrev ps:List PK:=[.rd t26]
abbrev rs:List RK:=[.v t26]
abbrev R:=Option (ai rs×ag ps)
abbrev A0:=Int×Int×Bool×Bool×Bool×Int×Int×Int×Int×List (Ty.den t2)×List (Ty.den t3)×Int×Int×Int×Bool×List (Ty.den t6)×Int×Int×Int×Int×List (Ty.den t11)×List (Ty.den t12)
def s0 (x:ab ps)(r0:A0->R)(a:A0):R:=let b1:=x.1.2.2.2.2.2.2.2.2.2.2.2.1;bif decide (a.1<(FJ b1:Int)) then ((idx b1 a.1).bind λy1=>(Q220.f K (a.2.2.2.2.2.2.1,y1,())).bind λy2=>bif y2.1.1 then ((idx b1 a.1).bind λy3=>(Q103.f K (a.2.2.2.2.2.2.2.2.2.1,y3.1,())).bind λy4=>(idx a.2.2.2.2.2.2.2.2.2.1 y4.1.1).bind λy5=>(Q219.f K (zc286a0 a.2 ((y5.1,y5.2.1,3,y5.2.2.2),a.2.1,()))).bind λy6=>r0 (wr .i64 (a.1+1),(zc3ec45 y6.1.1))) else (r0 (wr .i64 (a.1+1),a.2))) else (some ((zc286a0 a.2 ()),()))
def l0 (x:ab ps):A0->R:=ae (s0 K x) K
def pre (K:Nat)(N0:A0->R)(x:ab ps):R:=N0 (0,(zc3ec45 x.1))
def f (x:ab ps):R:=pre K (l0 K x) x
def c:Ctr:=⟨140,ps,rs,false,f K⟩
end Q221
namespace Q222
abbrev ps:List PK:=[.rd (.list false 46 t2),.rd I6]
abbrev rs:List RK:=[.v .bool]
abbrev R:=Option (ai rs×ag ps)
def f (x:ab ps):R:=(Q103.f K (x.1,x.2.1,())).bind λy1=>bif decide (y1.1.1>=0) then ((idx x.1 y1.1.1).bind λy2=>bif y2.2.2.1==1 then (some ((true,()),())) else ((idx x.1 y1.1.1).bind λy3=>some ((y3.2.2.1==2,()),()))) else (some ((false,()),()))
def c:Ctr:=⟨150,ps,rs,true,f K⟩
end Q222
namespace Q223
abbrev ps:List PK:=[.rd t26]
abbrev rs:List RK:=[.v (.list true 3 I6)]
abbrev R:=Option (ai rs×ag ps)
abbrev A0:=List (Ty.den I6)×Int
def s0 (K:Nat)(x:ab ps)(r0:A0->R)(a:A0):R:=let b1:=x.1.2.2.2.2.2.2.2.2;bif decide (a.2<(FJ b1.1:Int)) then (bif decide ((FJ a.1:Int)<2) then ((idx b1.1 a.2).bind λy1=>let j1:R:=r0 (a.1,wr .i64 (a.2+1));bif y1.1 != x.1.1 then (bif y1.1 != b1.2.2.1.1 then (bif y1.2.2.1==1 then (bif decide ((FJ a.1+FJ ([y1.1]))*8<=am) then (r0 (a.1++([y1.1]),wr .i64 (a.2+1))) else none) else j1) else j1) else j1) else (some ((a.1,()),()))) else (some ((a.1,()),()))
def l0 (x:ab ps):A0->R:=ae (s0 K x) K
def pre (K:Nat)(N0:A0->R)(x:ab ps):R:=N0 ([],0)
def f (x:ab ps):R:=pre K (l0 K x) x
def c:Ctr:=⟨208,ps,rs,true,f K⟩
end Q223
namespace Q224
abbrev ps:List PK:=[.rd t26]
abbrev rs:List RK:=[.v t26,.v (.list true 35 t47)]
abbrev R:=Option (ai rs×ag ps)
abbrev A0:=List (Ty.den t47)×List (Ty.den I6)×Int
def s0 (x:ab ps)(r0:A0->R)(a:A0):R:=let b1:=x.1.2.2.2.2.2.2.2.2;let j1:=(zcp8 x.1 (b1.1,b1.2.1,(b1.2.2.1.1,b1.2.2.1.2.1,b1.2.2.1.2.2.1,true),b1.2.2.2));bif decide (a.2.2<(FJ a.2.1:Int)) then ((idx a.2.1 a.2.2).bind λ_=>(idx a.2.1 (FK a.2.2:Nat)).bind λy7=>(Q161.f K (j1,3,y7,b1.2.2.1.2.2.1,b1.2.2.1.1,[],())).bind λy8=>bif decide ((FJ a.1+FJ ([y8.1.1]))*104<=am) then (r0 (a.1++([y8.1.1]),a.2.1,wr .i64 (a.2.2+1))) else none) else (some ((j1,a.1,()),()))
def l0 (x:ab ps):A0->R:=ae (s0 K x) K
def pre (N0:A0->R)(x:ab ps):R:=let b1:=x.1.2.2.2.2.2.2.2.2;let b2:=b1.2.2.1;let j3:=(b1.1,b2.1,());(Q222.f K j3).bind λy1=>let j1:=(zcp8 x.1 (b1.1,b1.2.1,((-1),0,0,false),b1.2.2.2));bif !y1.1.1 then (some ((j1,[],()),())) else (let j2:=wr .i64 (x.1.2.2.2.2.2.1-b2.2.1);bif decide (j2>=4) then ((Q103.f K j3).bind λy2=>(idx b1.1 y2.1.1).bind λy3=>bif y3.2.2.1==1 then ((Q219.f K (j1,(y3.1,y3.2.1,2,y3.2.2.2),x.1.1,())).bind λy4=>some ((y4.1.1,[],()),())) else (some ((j1,[],()),()))) else (bif decide (j2>=2) then (bif !b2.2.2.2 then ((Q223.f K ((zcp8 x.1 (b1.1,b1.2.1,(b2.1,b2.2.1,b2.2.2.1,true),b1.2.2.2)),())).bind λy5=>N0 ([],y5.1.1,0)) else (some ((x.1,[],()),()))) else (some ((x.1,[],()),()))))
def f (x:ab ps):R:=pre K (l0 K x) x
def c:Ctr:=⟨141,ps,rs,false,f K⟩
end Q224
namespace Q225
abbrev ps:List PK:=[.rd t26,.rd I6]
abbrev rs:List RK:=[.v (.list true 46 t2),.v t26]
abbrev R:=Option (ai rs×ag ps)
def f (x:ab ps):R:=let b1:=x.1.2.2.2.2.2.2.2.2;(Q175.f K (b1.2.1,3,())).bind λy1=>(Q103.f K (b1.1,x.2.1,())).bind λy2=>let j1:=(zcp8 x.1 (b1.1,y1.1.2.1,b1.2.2));bif decide (y2.1.1>=0) then ((idx b1.1 y2.1.1).bind λy3=>bif y3.2.2.1==2 then ((idx b1.1 y2.1.1).bind λy4=>(Q145.f K (y1.1.1,y4,())).bind λy5=>some ((y5.1.1,j1,()),())) else (some ((y1.1.1,j1,()),()))) else (some ((y1.1.1,j1,()),()))
def c:Ctr:=⟨186,ps,rs,false,f K⟩
end Q225
namespace Q226
abbrev ps:List PK:=[.rd t26]
abbrev rs:List RK:=[.v I6]
abbrev R:=Option (ai rs×ag ps)
abbrev A0:=Int
def s0 (x:ab ps)(r0:A0->R)(a:A0):R:=bif decide (a<=7) then (let j1:=wr .i64 (x.1.2.2.2.2.2.2.2.1+a);bif (FM j1 8) != x.1.1 then ((Q222.f K (x.1.2.2.2.2.2.2.2.2.1,FM j1 8,())).bind λy1=>bif y1.1.1 then (some ((FM j1 8,()),())) else (r0 (wr .i64 (a+1)))) else (r0 (wr .i64 (a+1)))) else (some (((-1),()),()))
def l0 (x:ab ps):A0->R:=ae (s0 K x) K
def pre (K:Nat)(N0:A0->R)(x:ab ps):R:=N0 0
def f (x:ab ps):R:=pre K (l0 K x) x
def c:Ctr:=⟨209,ps,rs,true,f K⟩
end Q226
namespace Q227
abbrev ps:List PK:=[.rd t26]
abbrev rs:List RK:=[.v t26,.v (.list true 35 t47)]
abbrev R:=Option (ai rs×ag ps)
def f (x:ab ps):R:=(Q226.f K (x.1,())).bind λy1=>bif decide (y1.1.1<0) then (some ((x.1,[],()),())) else (bif decide (x.1.2.2.2.2.2.2.1>=999999) then (some ((x.1,[],()),())) else ((Q225.f K (x.1,y1.1.1,())).bind λy2=>let b1:=y2.1.2.1.2.2.2.2;let j2:=b1.2.2.1+1;let j1:=(zcp4 y2.1.2.1 (b1.1,b1.2.1,wr .i64 j2,wr .i64 (y1.1.1+1),b1.2.2.2.2.1,b1.2.2.2.2.2.1,(y1.1.1,b1.2.1,wr .i64 j2,false),b1.2.2.2.2.2.2.2));(Q161.f K (j1,1,y1.1.1,wr .i64 j2,y2.1.2.1.1,y2.1.1,())).bind λy3=>some ((j1,[y3.1.1],()),())))
def c:Ctr:=⟨142,ps,rs,false,f K⟩
end Q227
namespace Q228
abbrev ps:List PK:=[.rd t26,.rd I6]
abbrev rs:List RK:=[.v I6]
abbrev R:=Option (ai rs×ag ps)
abbrev A0:=List (Ty.den I6)×Int
def s0 (K:Nat)(x:ab ps)(r0:A0->R)(a:A0):R:=let b1:=x.1.2.2.2.2.2.2.2.2.1;bif decide (a.2<(FJ b1:Int)) then ((idx b1 a.2).bind λy1=>bif y1.1 != x.1.1 then ((idx b1 a.2).bind λy2=>bif y2.2.2.1 != 4 then ((idx b1 a.2).bind λy3=>bif decide ((FJ a.1+FJ ([y3.1]))*8<=am) then (r0 (a.1++([y3.1]),wr .i64 (a.2+1))) else none) else (r0 (a.1,wr .i64 (a.2+1)))) else (r0 (a.1,wr .i64 (a.2+1)))) else (bif (FJ a.1:Int)==0 then (some (((-1),()),())) else (bif decide ((FJ a.1:Int)=0) then none else (let j1:=(FM (bz .i64 x.2.1 255) (FJ a.1:Int));(idx a.1 j1).bind λ_=>(idx a.1 (FK j1:Nat)).bind λy5=>some ((y5,()),()))))
def l0 (x:ab ps):A0->R:=ae (s0 K x) K
def pre (K:Nat)(N0:A0->R)(x:ab ps):R:=N0 ([],0)
def f (x:ab ps):R:=pre K (l0 K x) x
def c:Ctr:=⟨210,ps,rs,true,f K⟩
end Q228
namespace Q229
abbrev ps:List PK:=[.rd (.list false 46 t2),.rd I6]
abbrev rs:List RK:=[.v (.list true 3 I6)]
abbrev R:=Option (ai rs×ag ps)
abbrev A0:=List (Ty.den I6)×Int
def s0 (K:Nat)(x:ab ps)(r0:A0->R)(a:A0):R:=bif decide (a.2<(FJ x.1:Int)) then (bif decide ((FJ a.1:Int)<x.2.1) then ((idx x.1 a.2).bind λy1=>bif y1.2.2.2 then ((idx x.1 a.2).bind λy2=>bif y2.2.2.1==1 then ((idx x.1 a.2).bind λy3=>bif decide ((FJ a.1+FJ ([y3.1]))*8<=am) then (r0 (a.1++([y3.1]),wr .i64 (a.2+1))) else none) else (r0 (a.1,wr .i64 (a.2+1)))) else (r0 (a.1,wr .i64 (a.2+1)))) else (some ((a.1,()),()))) else (some ((a.1,()),()))
def l0 (x:ab ps):A0->R:=ae (s0 K x) K
def pre (K:Nat)(N0:A0->R)(x:ab ps):R:=N0 ([],0)
def f (x:ab ps):R:=pre K (l0 K x) x
def c:Ctr:=⟨308,ps,rs,true,f K⟩
end Q229
namespace Q230
abbrev ps:List PK:=[.rd t26]
abbrev rs:List RK:=[.v .bool]
abbrev R:=Option (ai rs×ag ps)
abbrev A0:=List (Ty.den I6)×Int
def s0 (K:Nat)(x:ab ps)(r0:A0->R)(a:A0):R:=bif decide (a.2<(FJ a.1:Int)) then ((idx a.1 a.2).bind λ_=>(idx a.1 (FK a.2:Nat)).bind λy3=>bif y3==x.1.1 then (some ((true,()),())) else (r0 (a.1,wr .i64 (a.2+1)))) else (some ((false,()),()))
def l0 (x:ab ps):A0->R:=ae (s0 K x) K
def pre (N0:A0->R)(x:ab ps):R:=(Q229.f K (x.1.2.2.2.2.2.2.2.2.1,2,())).bind λy1=>N0 (y1.1.1,0)
def f (x:ab ps):R:=pre K (l0 K x) x
def c:Ctr:=⟨269,ps,rs,true,f K⟩
end Q230
namespace Q231
abbrev ps:List PK:=[.rd t26,.rd I6,.rd I6]
abbrev rs:List RK:=[.v I6]
abbrev R:=Option (ai rs×ag ps)
abbrev A0:=Int
def s0 (x:ab ps)(r0:A0->R)(a:A0):R:=let b1:=x.1.2.2.2.2.2.2.2.2.2.2.2.2.2.2;bif decide (a<(FJ b1:Int)) then ((idx b1 a).bind λy1=>let j3:R:=r0 (wr .i64 (a+1));bif y1.1==x.2.1 then ((idx b1 a).bind λy2=>(Q229.f K (y2.2,2,())).bind λy3=>let j2:=(FJ y3.1.1:Int);bif decide (j2>0) then (bif (bz .i64 x.2.2.1 4)==0 then (bif decide (j2=0) then none else (let j1:=(FM (bz .i64 (FN x.2.2.1 (2 ^ 3)) 255) j2);(idx y3.1.1 j1).bind λ_=>(idx y3.1.1 (FK j1:Nat)).bind λy5=>some ((y5,()),()))) else j3) else j3) else j3) else (some ((wr .i64 ((wr .i64 (x.2.1*4))+(bz .i64 (FN x.2.2.1 (2 ^ 3)) 3)),()),()))
def l0 (x:ab ps):A0->R:=ae (s0 K x) K
def pre (K:Nat)(N0:A0->R)(x:ab ps):R:=N0 0
def f (x:ab ps):R:=pre K (l0 K x) x
def c:Ctr:=⟨270,ps,rs,true,f K⟩
end Q231
namespace Q232
abbrev ps:List PK:=[.rd t26,.rd I6]
abbrev rs:List RK:=[.v (.list true 35 t47)]
abbrev R:=Option (ai rs×ag ps)
abbrev A0:=List (Ty.den t47)×Int
def s0 (x:ab ps)(r0:A0->R)(a:A0):R:=bif decide (a.2<=1) then ((Q102.f K (x.1.1,())).bind λy2=>bif a.2 != y2.1.1 then ((Q231.f K (x.1,a.2,x.2.1,())).bind λy3=>(Q161.f K (x.1,6,y3.1.1,0,x.1.1,x.1.2.2.2.2.2.2.2.2.1,())).bind λy4=>bif decide ((FJ a.1+FJ ([(2,y4.1.1.2)]))*104<=am) then (r0 (a.1++([(2,y4.1.1.2)]),wr .i64 (a.2+1))) else none) else (r0 (a.1,wr .i64 (a.2+1)))) else (some ((a.1,()),()))
def l0 (x:ab ps):A0->R:=ae (s0 K x) K
def pre (N0:A0->R)(x:ab ps):R:=(Q230.f K (x.1,())).bind λy1=>bif !y1.1.1 then (some (([],()),())) else (N0 ([],0))
def f (x:ab ps):R:=pre K (l0 K x) x
def c:Ctr:=⟨211,ps,rs,true,f K⟩
end Q232
namespace Q233
abbrev ps:List PK:=[.rd t26,.rd I6]
abbrev rs:List RK:=[.v (.list true 35 t47)]
abbrev R:=Option (ai rs×ag ps)
def f (x:ab ps):R:=let b1:=x.1.2.2.2.2.2.2.2.2;let j3:=(x.1,FN x.2.1 (2 ^ 2),());(Q228.f K j3).bind λy1=>let j1:R:=bif (bz .i64 x.2.1 3)==1 then ((Q232.f K j3).bind λy3=>some ((y3.1.1,()),())) else (bif (bz .i64 x.2.1 3)==2 then (bif decide (y1.1.1>=0) then (let j2:=(FJ b1.2.2.2.2.2.2:Int);bif decide (j2>0) then (bif decide (j2=0) then none else ((idx b1.2.2.2.2.2.2 (FM (bz .i64 (FN x.2.1 (2 ^ 10)) 255) j2)).bind λy4=>(Q161.f K (x.1,6,y1.1.1,0,x.1.1,y4.2,())).bind λy5=>some (([y5.1.1],()),()))) else (some (([],()),()))) else (some (([],()),()))) else (some (([],()),())));bif (bz .i64 x.2.1 3)==0 then (bif decide (y1.1.1>=0) then ((Q161.f K (x.1,4,y1.1.1,0,x.1.1,b1.1,())).bind λy2=>some (([y2.1.1],()),())) else j1) else j1
def c:Ctr:=⟨143,ps,rs,true,f K⟩
end Q233
namespace Q234
abbrev ps:List PK:=[.rd t26,.rd I6]
abbrev rs:List RK:=[.v t26,.v (.list true 35 t47)]
abbrev R:=Option (ai rs×ag ps)
def f (x:ab ps):R:=let b2:=x.1.2.2.2.2;let j1:R:=some ((x.1,[],()),());bif !x.1.2.1 then j1 else (bif x.1.2.2.1 then j1 else (bif decide (b2.2.1>=999999) then j1 else ((Q221.f K ((zcp4 x.1 (b2.1,wr .i64 (b2.2.1+1),b2.2.2)),())).bind λy1=>let b1:=y1.1.1.2.2.2.2.2.2.2.2.2.2.1.1;bif decide (b1>=0) then ((Q224.f K (y1.1.1,())).bind λy2=>bif decide (y2.1.1.2.2.2.2.2.2.2.2.2.2.1.1<0) then ((Q227.f K (y2.1.1,())).bind λy3=>bif decide ((FJ y2.1.2.1+FJ y3.1.2.1)*104<=am) then ((Q233.f K (y3.1.1,x.2.1,())).bind λy4=>bif decide ((FJ (y2.1.2.1++y3.1.2.1)+FJ y4.1.1)*104<=am) then (some ((y3.1.1,(y2.1.2.1++y3.1.2.1)++y4.1.1,()),())) else none) else none) else ((Q233.f K (y2.1.1,x.2.1,())).bind λy5=>bif decide ((FJ y2.1.2.1+FJ y5.1.1)*104<=am) then (some ((y2.1.1,y2.1.2.1++y5.1.1,()),())) else none)) else (bif decide (b1<0) then ((Q227.f K (y1.1.1,())).bind λy6=>bif decide ((FJ ([]:List (Ty.den t47))+FJ y6.1.2.1)*104<=am) then ((Q233.f K (y6.1.1,x.2.1,())).bind λy7=>bif decide ((FJ ([]++y6.1.2.1)+FJ y7.1.1)*104<=am) then (some ((y6.1.1,([]++y6.1.2.1)++y7.1.1,()),())) else none) else none) else ((Q233.f K (y1.1.1,x.2.1,())).bind λy8=>bif decide ((FJ ([]:List (Ty.den t47))+FJ y8.1.1)*104<=am) then (some ((y1.1.1,[]++y8.1.1,()),())) else none)))))
def c:Ctr:=⟨89,ps,rs,false,f K⟩
end Q234
namespace Q235
abbrev ps:List PK:=[.rd t26]
abbrev rs:List RK:=[.v t26,.v (.list true 35 t47)]
abbrev R:=Option (ai rs×ag ps)
abbrev A0:=List (Ty.den t47)×Int×Int×Bool×Bool×Int×Int×Int×Int×List (Ty.den t2)×List (Ty.den t3)×Int×Int×Int×Bool×List (Ty.den t6)×Int×Int×Int×Int×List (Ty.den t11)×List (Ty.den t12)
def s0 (x:ab ps)(r0:A0->R)(a:A0):R:=let b1:=a.2.2.2.2.2.2.2.2.2.1;let j1:=(a.2.2.1,a.2.2.2.1,true,(zceae5f a.2.2.2.2));bif decide (a.2.1<(FJ b1:Int)) then ((idx b1 a.2.1).bind λy2=>let j2:=(a.1,wr .i64 (a.2.1+1),a.2.2);bif y2.1 != a.2.2.1 then ((idx b1 a.2.1).bind λy3=>(Q222.f K (b1,y3.1,())).bind λy4=>bif y4.1.1 then ((idx b1 a.2.1).bind λy5=>(Q161.f K (j1,5,y5.1,0,a.2.2.1,b1,())).bind λy6=>bif decide ((FJ a.1+FJ ([y6.1.1]))*104<=am) then (r0 (a.1++([y6.1.1]),wr .i64 (a.2.1+1),a.2.2)) else none) else (r0 j2)) else (r0 j2)) else (some ((j1,a.1,()),()))
def l0 (x:ab ps):A0->R:=ae (s0 K x) K
def pre (N0:A0->R)(x:ab ps):R:=bif !x.1.2.1 then (some ((x.1,[],()),())) else (bif x.1.2.2.1 then (some ((x.1,[],()),())) else ((Q219.f K (x.1,(x.1.1,x.1.2.2.2.2.1,4,x.1.2.2.2.1),x.1.1,())).bind λy1=>let b2:=y1.1.1.2.2.2;let b1:=b2.2.2.2.2.2;let b3:=b1.2.2.2.2;N0 ([],0,y1.1.1.1,y1.1.1.2.1,b2.1,b2.2.1,b2.2.2.1,b2.2.2.2.1,b2.2.2.2.2.1,b1.1,b1.2.1,b1.2.2.1.1,b1.2.2.1.2.1,b1.2.2.1.2.2.1,b1.2.2.1.2.2.2,b1.2.2.2.1,b3.1.1,b3.1.2.1,b3.1.2.2.1,b3.1.2.2.2,b3.2)))
def f (x:ab ps):R:=pre K (l0 K x) x
def c:Ctr:=⟨95,ps,rs,false,f K⟩
end Q235
namespace Q236
abbrev ps:List PK:=[.own t98,.rd t26,.rd (.list false 35 t47),.rd (.list false 46 t2)]
abbrev rs:List RK:=[.v t94]
abbrev R:=Option (ai rs×ag ps)
def f (x:ab ps):R:=(idx x.1.1 x.2.1.1).bind λ_=>(idx x.1.1 (FK x.2.1.1:Nat)).bind λy2=>(idx x.1.1 x.2.1.1).bind λ_=>(idx x.1.1 (FK x.2.1.1:Nat)).bind λy4=>(Q215.f K ((x.1.1.set (FK x.2.1.1) x.2.1,x.1.2),y2.2.2.2.2.2.2.2.2.1,x.2.2.2.1,x.2.1.2.2.2.2.2.2.2.2.1,())).bind λy5=>(Q211.f K (y5.1.1,x.2.1.1,x.2.2.1,())).bind λy6=>some ((y6.1.1,()),())
def c:Ctr:=⟨275,ps,rs,false,f K⟩
end Q236
namespace Q237
abbrev ps:List PK:=[.rd I6,.rd .bool]
abbrev rs:List RK:=[.v t26]
abbrev R:=Option (ai rs×ag ps)
def f (K:Nat)(x:ab ps):R:=some (((x.1,false,false,x.2.1,0,0,0,0,[],[],(0,0,0,false),[],(0,0,0,0),[],[]),()),())
def c:Ctr:=⟨276,ps,rs,true,f K⟩
end Q237
namespace Q238
abbrev ps:List PK:=[.own t98,.rd I6]
abbrev rs:List RK:=[.v t94]
abbrev R:=Option (ai rs×ag ps)
def f (x:ab ps):R:=(Q146.f K (x.2.1,())).bind λy1=>(Q157.f K (x.2.1,y1.1.1,())).bind λy2=>(idx x.1.1 x.2.1).bind λ_=>(idx x.1.1 (FK x.2.1:Nat)).bind λy4=>(idx y2.1.1.2.2.2.2.2.2.2.2.1 0).bind λy5=>(Q213.f K (x.1.2.2.2,y5,())).bind λy6=>some (((x.1.1.set (FK x.2.1) y2.1.1,x.1.2.1,x.1.2.2.1,y6.1.1),()),())
def c:Ctr:=⟨277,ps,rs,false,f K⟩
end Q238
namespace Q239
abbrev ps:List PK:=[.own t98,.rd t2]
abbrev rs:List RK:=[.v t94,.v .bool]
abbrev R:=Option (ai rs×ag ps)
def f (x:ab ps):R:=let b1:=x.2.1.2;(idx x.1.1 b1.1).bind λ_=>let j2:=(FK b1.1:Nat);(idx x.1.1 j2).bind λy2=>bif x.2.1.1==5 then ((Q177.f K (b1.2.1,0,2,())).bind λy3=>(idx x.1.2.2.1 b1.1).bind λ_=>(idx x.1.2.2.1 j2).bind λy5=>some (((x.1.1,x.1.2.1,x.1.2.2.1.set (FK b1.1) y3.1.1,x.1.2.2.2),true,()),())) else (bif x.2.1.1==6 then ((Q237.f K (y2.1,y2.2.2.2.1,())).bind λy6=>(idx x.1.1 b1.1).bind λ_=>(idx x.1.1 j2).bind λy8=>some (((x.1.1.set (FK b1.1) y6.1.1,x.1.2),y2.2.1,()),())) else (let j1:R:=some ((x.1,false,()),());bif x.2.1.1==7 then (bif y2.2.1 then j1 else ((Q238.f K (x.1,b1.1,())).bind λy9=>some ((y9.1.1,true,()),()))) else (bif !y2.2.1 then j1 else (bif y2.2.2.1 then j1 else (bif x.2.1.1==1 then (bif decide (y2.2.2.2.2.2.1>=999999) then j1 else ((Q234.f K (y2,b1.2.1,())).bind λy10=>(Q236.f K (x.1,y10.1.1,y10.1.2.1,[],())).bind λy11=>some ((y11.1.1,true,()),()))) else (bif x.2.1.1==8 then ((Q235.f K (y2,())).bind λy12=>(Q236.f K (x.1,y12.1.1,y12.1.2.1,[],())).bind λy13=>some ((y13.1.1,true,()),())) else (bif x.2.1.1==9 then ((Q98.f K (b1.2.1,0,7,())).bind λy14=>bif !y14.1.1 then j1 else (bif b1.2.1==y2.1 then j1 else ((Q102.f K (b1.2.1,())).bind λy15=>(Q102.f K (y2.1,())).bind λy16=>bif y15.1.1 != y16.1.1 then j1 else ((Q161.f K (y2,4,b1.2.1,0,y2.1,y2.2.2.2.2.2.2.2.2.1,())).bind λy17=>(Q236.f K (x.1,y2,[y17.1.1],[],())).bind λy18=>some ((y18.1.1,true,()),()))))) else j1)))))))
def c:Ctr:=⟨230,ps,rs,false,f K⟩
end Q239
namespace Q240
abbrev ps:List PK:=[.own t97,.rd t2]
def c:Ctr:=⟨230,ps,Q239.rs,false,Q239.f K⟩
end Q240
namespace Q241
abbrev ps:List PK:=[.own t97,.rd t2]
abbrev rs:List RK:=[.v t94,.v .bool]
abbrev R:=Option (ai rs×ag ps)
def f (x:ab ps):R:=let b1:=x.2.1.2;let j1:R:=(Q98.f K (b1.1,0,wr .i64 ((FJ x.1.2.1:Int)-1),())).bind λy1=>bif !y1.1.1 then (some ((x.1,false,()),())) else (bif x.2.1.1==2 then ((Q217.f K (x.1,b1.1,b1.2.2,())).bind λy2=>some ((y2.1.1,true,()),())) else (bif x.2.1.1==4 then ((Q218.f K (x.1,b1.1,b1.2.1,())).bind λy3=>some ((y3.1.1,y3.1.2.1,()),())) else ((Q210.f K (x.1.2.1,b1.1,())).bind λy4=>some (((x.1.1,y4.1.1,x.1.2.2),true,()),()))));bif x.2.1.1==2 then j1 else (bif x.2.1.1==3 then j1 else (bif x.2.1.1==4 then j1 else ((Q98.f K (b1.1,0,7,())).bind λy13=>bif !y13.1.1 then (some ((x.1,false,()),())) else ((Q239.f K (x.1,x.2.1,())).bind λy14=>some ((y14.1.1,y14.1.2.1,()),())))))
def c:Ctr:=⟨154,ps,rs,false,f K⟩
end Q241
namespace Q242
abbrev ps:List PK:=[.rd t94]
abbrev rs:List RK:=[.v t97]
abbrev R:=Option (ai rs×ag ps)
abbrev A0:=Int×List (Ty.den t38)
def s0 (x:ab ps)(r0:A0->R)(a:A0):R:=bif decide (a.1<(FJ x.1.1:Int)) then ((idx x.1.1 a.1).bind λy1=>(Q144.f K (y1,())).bind λy2=>bif decide ((FJ a.2+FJ ([y2.1.1]))*232<=am) then (r0 (wr .i64 (a.1+1),a.2++([y2.1.1]))) else none) else (some (((a.2,[]++x.1.2.1,[]++x.1.2.2.1,[]++x.1.2.2.2),()),()))
def l0 (x:ab ps):A0->R:=ae (s0 K x) K
def pre (K:Nat)(N0:A0->R)(x:ab ps):R:=bif decide ((FJ ([]:List (Ty.den t40))+FJ x.1.2.1)*32<=am) then (bif decide ((FJ ([]:List (Ty.den I6))+FJ x.1.2.2.1)*8<=am) then (bif decide ((FJ ([]:List (Ty.den t2))+FJ x.1.2.2.2)*32<=am) then (N0 (0,[])) else none) else none) else none
def f (x:ab ps):R:=pre K (l0 K x) x
def c:Ctr:=⟨155,ps,rs,true,f K⟩
end Q242
namespace Q243
abbrev ps:List PK:=[.rd t94,.io (.list true 151 t2)]
abbrev rs:List RK:=[.v t94]
abbrev R:=Option (ai rs×ag ps)
abbrev A0:=Int×List (Ty.den t26)×List (Ty.den t40)×List (Ty.den I6)×List (Ty.den t2)
def s0 (x:ab ps)(r0:A0->R)(a:A0):R:=bif decide (a.1<(FJ x.2.1:Int)) then ((Q242.f K (a.2,())).bind λy1=>(idx x.2.1 a.1).bind λ_=>(idx x.2.1 (FK a.1:Nat)).bind λy3=>(Q241.f K (y1.1.1,y3,())).bind λy4=>bif y4.1.2.1 then (r0 (wr .i64 (a.1+1),y4.1.1)) else (r0 (wr .i64 (a.1+1),a.2))) else (some ((a.2,()),x.2.1,()))
def l0 (x:ab ps):A0->R:=ae (s0 K x) K
def pre (K:Nat)(N0:A0->R)(x:ab ps):R:=N0 (0,x.1)
def f (x:ab ps):R:=pre K (l0 K x) x
def c:Ctr:=⟨152,ps,rs,false,f K⟩
end Q243
namespace Q244
abbrev ps:List PK:=[.iop t77,.rd t94]
abbrev rs:List RK:=[.v I6]
abbrev R:=Option (ai rs×ag ps)
def f (x:ab ps):R:=let j2:=(FJ x.2.1.2.1:Int);bif j2==0 then (some ((0,()),x.1,())) else ((Q143.f K (x.1,3,())).bind λy1=>let j1:R:=(Q143.f K (y1.2.1,j2,())).bind λy3=>some ((y3.1.1,()),y3.2.1,());bif decide (y1.1.1>0) then (bif decide (j2>4) then ((Q143.f K (y1.2.1,4,())).bind λy2=>some ((y2.1.1,()),y2.2.1,())) else j1) else j1)
def c:Ctr:=⟨226,ps,rs,false,f K⟩
end Q244
namespace Q245
abbrev ps:List PK:=[.iop t77,.rd t94]
abbrev rs:List RK:=[.v t2]
abbrev R:=Option (ai rs×ag ps)
def f (x:ab ps):R:=(Q143.f K (x.1,8,())).bind λy1=>(Q143.f K (y1.2.1,256,())).bind λy2=>(Q143.f K (y2.2.1,16,())).bind λy3=>(Q143.f K (y3.2.1,40,())).bind λy4=>let j5:R:=(Q244.f K (y4.2.1,x.2.1,())).bind λy5=>some (((3,y5.1.1,0,false),()),y5.2.1,());bif y4.1.1==0 then j5 else (bif y4.1.1==1 then j5 else (let j7:=(wr .i64 (y2.1.1*16))+y3.1.1;bif y4.1.1==2 then ((Q244.f K (y4.2.1,x.2.1,())).bind λy7=>(Q143.f K (y7.2.1,128,())).bind λy8=>some (((4,y7.1.1,wr .i64 ((wr .i64 ((wr .i64 j7)*16))+(wr .i64 (y8.1.1*4096))),false),()),y8.2.1,())) else (let j4:R:=(Q143.f K (y4.2.1,3,())).bind λy9=>some (((5,y1.1.1,y9.1.1,false),()),y9.2.1,());bif y4.1.1==3 then j4 else (bif y4.1.1==4 then j4 else (bif y4.1.1==5 then (some (((6,y1.1.1,0,false),()),y4.2.1,())) else (let j6:=(((7,y1.1.1,0,false),()),y4.2.1,());bif y4.1.1==6 then (some j6) else (bif y4.1.1==7 then (some j6) else (let j3:=((1,y1.1.1,wr .i64 j7,false),());bif y4.1.1==8 then ((Q143.f K (y4.2.1,3,())).bind λy11=>bif y11.1.1==0 then (some (((8,y1.1.1,0,false),()),y11.2.1,())) else (some (j3,y11.2.1,()))) else (let j2:R:=(Q143.f K (y4.2.1,4,())).bind λy12=>some (((9,y1.1.1,wr .i64 ((wr .i64 ((wr .i64 (FL y1.1.1 4))*4))+y12.1.1),false),()),y12.2.1,());bif y4.1.1==9 then j2 else (bif y4.1.1==10 then j2 else (bif y4.1.1==11 then j2 else (let j1:R:=bif decide ((FJ x.2.1.2.1:Int)>0) then ((Q244.f K (y4.2.1,x.2.1,())).bind λy15=>(Q143.f K (y15.2.1,10,())).bind λy16=>some (((2,y15.1.1,0,y16.1.1==0),()),y16.2.1,())) else (some (j3,y4.2.1,()));bif y4.1.1==12 then j1 else (bif y4.1.1==13 then j1 else (bif y4.1.1==14 then j1 else (bif y4.1.1==15 then j1 else (bif y4.1.1==16 then j1 else (bif y4.1.1==17 then j1 else (bif y4.1.1==18 then j1 else (bif y4.1.1==19 then j1 else (bif y4.1.1==20 then j1 else (bif y4.1.1==21 then j1 else (bif y4.1.1==22 then j1 else (bif y4.1.1==23 then j1 else (bif y4.1.1==24 then j1 else (bif y4.1.1==25 then j1 else (bif y4.1.1==26 then j1 else (bif y4.1.1==27 then j1 else (some (j3,y4.2.1,())))))))))))))))))))))))))))))
def c:Ctr:=⟨153,ps,rs,false,f K⟩
end Q245
namespace Q246
abbrev ps:List PK:=[.iop t77,.rd I6]
abbrev rs:List RK:=[.v (.list false 151 t2),.v t94]
abbrev R:=Option (ai rs×ag ps)
abbrev A1:=List (Ty.den t2)×Int×List (Ty.den (.int .u8))×Int×List (Ty.den t26)×List (Ty.den t40)×List (Ty.den I6)×List (Ty.den t2)
abbrev A0:=List (Ty.den t2)×Int×List (Ty.den (.int .u8))×Int×List (Ty.den t26)×List (Ty.den t40)×List (Ty.den I6)×List (Ty.den t2)
def s1 (x:ab ps)(r1:A1->R)(a:A1):R:=bif decide (a.2.1>0) then ((Q245.f K ((a.2.2.1,a.2.2.2.1),a.2.2.2.2,())).bind λy5=>bif decide ((FJ a.1+FJ ([y5.1.1]))*32<=am) then ((Q242.f K (a.2.2.2.2,())).bind λy6=>(Q241.f K (y6.1.1,y5.1.1,())).bind λy7=>bif y7.1.2.1 then (r1 (a.1++([y5.1.1]),wr .i64 (a.2.1-1),y5.2.1.1,y5.2.1.2,y7.1.1)) else (r1 (a.1++([y5.1.1]),wr .i64 (a.2.1-1),y5.2.1.1,y5.2.1.2,a.2.2.2.2))) else none) else ((Q242.f K (a.2.2.2.2,())).bind λy8=>some ((a.1,y8.1.1,()),(a.2.2.1,a.2.2.2.1),()))
def l1 (x:ab ps):A1->R:=ae (s1 K x) K
def s0 (x:ab ps)(N1:A1->R)(r0:A0->R)(a:A0):R:=bif decide (a.2.1<=7) then (bif decide ((FM a.2.1 4)>0) then (let j1:=[(9,a.2.1,wr .i64 ((wr .i64 (FL a.2.1 4))*4),false)];bif decide ((FJ a.1+FJ j1)*32<=am) then (let j2:=[(2,0,0,false),(2,0,0,false)];bif decide ((FJ (a.1++j1)+FJ j2)*32<=am) then (r0 ((a.1++j1)++j2,wr .i64 (a.2.1+1),a.2.2)) else none) else none) else (r0 (a.1,wr .i64 (a.2.1+1),a.2.2))) else ((Q243.f K (a.2.2.2.2,a.1,())).bind λy3=>(Q143.f K ((a.2.2.1,a.2.2.2.1),x.2.1,())).bind λy4=>N1 (y3.2.1,y4.1.1,y4.2.1.1,y4.2.1.2,y3.1.1))
def l0 (x:ab ps):A0->R:=ae (s0 K x (l1 K x)) K
def pre (N0:A0->R)(N1:A1->R)(x:ab ps):R:=(Q158.f K ()).bind λy1=>(Q143.f K (x.1,3,())).bind λy2=>bif decide (y2.1.1>0) then (N0 ([],0,y2.2.1.1,y2.2.1.2,y1.1.1)) else ((Q143.f K (y2.2.1,x.2.1,())).bind λy9=>N1 ([],y9.1.1,y9.2.1.1,y9.2.1.2,y1.1.1))
def f (x:ab ps):R:=pre K (l0 K x) (l1 K x) x
def c:Ctr:=⟨100,ps,rs,false,f K⟩
def G:List Ctr:=[Q143.c K,Q158.c K,Q243.c K,Q245.c K,Q241.c K,Q242.c K]
def v1:List (Nat×List Coe):=[(0,[.keep]),(5,[.keep]),(6,[.keep]),(7,[.own false 151 t2]),(9,[.keep]),(100000,[.ro true 5 (.int .u8),.keep]),(100005,Kc1),(100006,[.ro false 33 t26,.ro false 121 t40,.ro false 3 I6,.ro false 46 t2])]
def v0:List (Nat×List Coe):=[(0,[.keep]),(1,[.keep]),(5,[.keep]),(6,[.keep]),(7,[.own false 151 t2]),(8,[.keep]),(100000,[.ro true 5 (.int .u8),.keep]),(100005,Kc1),(100006,[.ro false 33 t26,.ro false 121 t40,.ro false 3 I6,.ro false 46 t2])]
def L:List (Nat×List (Nat×List Coe)):=[(13,v1),(6,v0)]
def body:Code:=cY Tryz.f100
abbrev ev:Code->St->(Ex->St->R)->R:=evK (G K) T_S L K
abbrev fin:Ex->St->R:=du T_S ps rs false Tryz.f100.results.toList
def S0 (x:ab ps)(a:A0):St:=av [(0,⟨0,.one,[.bp 100000 0]⟩),(1,⟨0,.one,[.int .i64 x.2.1]⟩),(5,⟨0,.one,[.bp 100005 0]⟩),(6,⟨0,.one,[.bp 100006 0]⟩),(7,⟨0,.one,[.own false none 151 t2 a.1]⟩),(8,⟨0,.one,[.int .i64 a.2.1]⟩),(100000,⟨0,.agg,[.ro true 5 (.int .u8) a.2.2.1,.int .i64 a.2.2.2.1]⟩),(100005,⟨0,.agg,[.nil,.nil,.nil,.nil]⟩),(100006,⟨0,.agg,(wa8 a.2.2.2.2)⟩)]
def S1 (x:ab ps)(a:A1):St:=av [(0,⟨0,.one,[.bp 100000 0]⟩),(5,⟨0,.one,[.bp 100005 0]⟩),(6,⟨0,.one,[.bp 100006 0]⟩),(7,⟨0,.one,[.own false none 151 t2 a.1]⟩),(9,⟨0,.one,[.int .i64 a.2.1]⟩),(100000,⟨0,.agg,[.ro true 5 (.int .u8) a.2.2.1,.int .i64 a.2.2.2.1]⟩),(100005,⟨0,.agg,[.nil,.nil,.nil,.nil]⟩),(100006,⟨0,.agg,(wa8 a.2.2.2.2)⟩)]
def k1 (x:ab ps):Ex->St->R:=kAt (ev K) body [1,1,1,1,0,1,0] fin
def N1 (x:ab ps):A1->R:=λa=>aY v1 (ev K (sub body [1,1,1,1,0,1,0,0])) K (S1 x a) (k1 K x)
def k0 (x:ab ps):Ex->St->R:=kAt (ev K) body [1,1,1,0,1,0,0,1,0] fin
def N0 (x:ab ps):A0->R:=λa=>aY v0 (ev K (sub body [1,1,1,0,1,0,0,1,0,0])) K (S0 x a) (k0 K x)
end Q246
namespace Q247
abbrev ps:List PK:=[.iop t77]
abbrev rs:List RK:=[.v t94]
abbrev R:=Option (ai rs×ag ps)
def f (x:ab ps):R:=(Q246.f K (x.1,100,())).bind λy1=>some ((y1.1.2.1,()),y1.2.1,())
def c:Ctr:=⟨41,ps,rs,false,f K⟩
end Q247
namespace Q248
abbrev ps:List PK:=[.iop t77]
abbrev rs:List RK:=[.v t26]
abbrev R:=Option (ai rs×ag ps)
def f (x:ab ps):R:=(Q247.f K (x.1,())).bind λy1=>(Q143.f K (y1.2.1,(FJ y1.1.1.1:Int),())).bind λy2=>(idx y1.1.1.1 y2.1.1).bind λy3=>some ((y3,()),y2.2.1,())
def c:Ctr:=⟨139,ps,rs,false,f K⟩
end Q248
namespace Q249
abbrev ps:List PK:=[.iop t77]
abbrev rs:List RK:=[.v t26]
abbrev R:=Option (ai rs×ag ps)
def f (x:ab ps):R:=(Q248.f K (x.1,())).bind λy1=>(Q143.f K (y1.2.1,20,())).bind λy2=>bif y2.1.1==0 then ((Q156.f K (y2.2.1,y1.1.1,())).bind λy3=>some ((y3.1.1,()),y3.2.1,())) else (some ((y1.1.1,()),y2.2.1,()))
def c:Ctr:=⟨88,ps,rs,false,f K⟩
end Q249
namespace Q250
abbrev ps:List PK:=[.rd (.list false 5 (.int .u8))]
abbrev rs:List RK:=[.v t26,.v I6]
abbrev R:=Option (ai rs×ag ps)
def f (x:ab ps):R:=(Q142.f K (x.1,())).bind λy1=>(Q249.f K (y1.1.1,())).bind λy2=>(Q143.f K (y2.2.1,4096,())).bind λy3=>(Q143.f K (y3.2.1,4,())).bind λy4=>some ((y2.1.1,wr .i64 (y3.1.1-y4.1.1),()),())
def c:Ctr:=⟨27,ps,rs,false,f K⟩
end Q250
namespace Q251
abbrev ps:List PK:=[.rd t26,.rd I6]
abbrev rs:List RK:=[.v t91,.v (.list true 35 t47)]
abbrev R:=Option (ai rs×ag ps)
def f (x:ab ps):R:=(Q113.f K (x.1,())).bind λy1=>bif !y1.1.1 then (some (((0,false,false,false,0,0,0,0,[],[],(0,0,0,false),[],(0,0,0,0),[],[]),[],()),())) else ((Q144.f K (x.1,())).bind λy2=>(Q234.f K (y2.1.1,x.2.1,())).bind λy3=>(Q144.f K (y3.1.1,())).bind λy4=>some ((y4.1.1,y3.1.2.1,()),()))
def c:Ctr:=⟨28,ps,rs,true,f K⟩
end Q251
namespace Q252
abbrev ps:List PK:=[]
abbrev rs:List RK:=[.v t9]
abbrev R:=Option (ai rs×ag ps)
def f (K:Nat)(x:ab ps):R:=some (((0,0,0,1500),()),())
def c:Ctr:=⟨29,ps,rs,true,f K⟩
end Q252
namespace Q253
abbrev ps:List PK:=[.rd (.list false 89 t11),.fn [t11] .bool]
abbrev rs:List RK:=[.v I6]
abbrev R:=Option (ai rs×ag ps)
abbrev A0:=Int
def s0 (K:Nat)(x:ab ps)(r0:A0->R)(a:A0):R:=bif decide (a<(FJ x.1:Int)) then ((idx x.1 a).bind λy1=>(x.2.1 (y1,())).bind λy2=>bif y2 then (some ((a,()),())) else (r0 (wr .i64 (a+1)))) else (some (((-1),()),()))
def l0 (x:ab ps):A0->R:=ae (s0 K x) K
def pre (K:Nat)(N0:A0->R)(x:ab ps):R:=N0 0
def f (x:ab ps):R:=pre K (l0 K x) x
def c:Ctr:=⟨90,ps,rs,true,f K⟩
end Q253
namespace Q254
abbrev ps:List PK:=[.rd t11,.rref I6]
abbrev rs:List RK:=[.v .bool]
abbrev R:=Option (ai rs×ag ps)
def f (K:Nat)(x:ab ps):R:=some ((x.1.1==x.2.1,()),())
def c:Ctr:=⟨91,ps,rs,true,f K⟩
end Q254
namespace Q255
abbrev ps:List PK:=[.rd t26,.rd I6]
abbrev rs:List RK:=[.v I6,.v .bool]
abbrev R:=Option (ai rs×ag ps)
def f (x:ab ps):R:=let b1:=x.1.2.2.2.2.2.2.2.2.2.2.2.2;(Q253.f K (b1.2.1,λy1=>(Q254.f K (y1.1,x.2.1,())).map λy=>y.1.1,())).bind λy2=>bif decide (y2.1.1<0) then (some ((0,false,()),())) else ((Q50.f K (x.1,())).bind λy3=>bif !y3.1.1 then (some ((0,false,()),())) else ((idx b1.2.1 y2.1.1).bind λy4=>(Q73.f K (b1.1,y4.2.1,())).bind λy5=>some ((y5.1.1,true,()),())))
def c:Ctr:=⟨30,ps,rs,true,f K⟩
end Q255
namespace Q256
abbrev ps:List PK:=[.rd (.list false 5 (.int .u8))]
abbrev rs:List RK:=[.v .bool]
abbrev R:=Option (ai rs×ag ps)
def f (x:ab ps):R:=bif decide ((FJ x.1:Int)>1048576) then (some ((true,()),())) else ((Q250.f K (x.1,())).bind λy1=>(Q141.f K (y1.1.1,y1.1.2.1,())).bind λy2=>let b1:=y2.1.1.2.2.2.2.2.2.2.2.2.2.1;(Q251.f K (y1.1.1,y1.1.2.1,())).bind λy3=>(Q95.f K (y2.1.1,y3.1.1,())).bind λy4=>let j1:R:=(Q95.f K (y2.1.1,y3.1.1,())).bind λy5=>some ((y5.1.1,()),());bif !y4.1.1 then j1 else ((Q97.f K (y2.1.2.1,y3.1.2.1,())).bind λy6=>bif !y6.1.1 then j1 else ((Q113.f K (y1.1.1,())).bind λy8=>bif !y8.1.1 then j1 else (bif !y1.1.1.2.1 then j1 else (bif decide (b1.1<0) then j1 else ((Q252.f K ()).bind λy12=>(Q91.f K (y2.1.1,(1,2,b1.1,y2.1.1.1,b1.2.2.1,b1.1,y12.1.1,[]),())).bind λy13=>bif y1.1.1.2.2.1 then (some ((true,()),())) else ((Q255.f K (y13.1.1,b1.1,())).bind λy14=>(Q252.f K ()).bind λy15=>(Q91.f K (y2.1.1,(1,2,b1.1,y2.1.1.1,wr .i64 (b1.2.2.1-1),b1.1,y15.1.1,[]),())).bind λy16=>let j2:R:=some ((false,()),());bif y13.1.1.2.2.2.2.2.2.2.2.2.2.1.1==(-1) then (bif (FJ y13.1.2.1:Int)==0 then (bif y14.1.2.1 then (bif decide (y14.1.1>=0) then (bif (FJ y16.1.2.1:Int)==0 then ((Q95.f K (y16.1.1,y2.1.1,())).bind λy17=>some ((y17.1.1,()),())) else j2) else j2) else j2) else j2) else j2)))))))
def c:Ctr:=⟨7,ps,rs,true,f K⟩
end Q256
end
end Go.Proofs.YtmibehbhnkeaiaaGreatEv
