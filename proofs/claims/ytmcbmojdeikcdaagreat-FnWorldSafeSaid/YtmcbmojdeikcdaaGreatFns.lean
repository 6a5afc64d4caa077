/- The functions, on plain values. Printed by run3.py. -/
import Derived.Test.YtmcbmojdeikcdaaGreatFns0
set_option linter.unusedVariables false
set_option maxRecDepth 100000
set_option linter.unusedVariables false
set_option linter.unusedSimpArgs false
open Int renaming toNat->AB,tdiv->AC,tmod->AD,fdiv->AE
open List renaming length->AA
namespace Go.Proofs.YtmcbmojdeikcdaaGreatEv
open Go Go.Proofs
noncomputable section
namespace Q106
abbrev ps:List PK:=[.rd (.list false 41 t2),.rd (.list false 41 t2)]
abbrev rs:List RK:=[.v .bool]
abbrev Res:=am rs×ak ps
abbrev A_l0:=Int
def l0.step (K:Nat)(x:ab ps)(rec_l0:A_l0->Option Res)(a:A_l0):Option Res:=bif decide (a<(AA x.1:Int)) then ((idx x.1 a).bind λy1=>(idx x.2.1 a).bind λy2=>bif !Ty.eqv t2 y1 y2 then (some ((true,()),())) else (rec_l0 (wr .i64 (a+1)))) else (some ((false,()),()))
def l0 (K:Nat)(x:ab ps):A_l0->Option Res:=ae (λrec_l0 a=>l0.step K x rec_l0 a) K
def pre (K:Nat)(N_l0:A_l0->Option Res)(x:ab ps):Option Res:=bif (AA x.1:Int) != (AA x.2.1:Int) then (some ((true,()),())) else (N_l0 0)
def f (K:Nat)(x:ab ps):Option Res:=pre K (l0 K x) x
def c (K:Nat):Ctr:=⟨234,ps,rs,true,f K⟩
end Q106
namespace Q107
abbrev ps:List PK:=[.own t38,.rd t47]
abbrev rs:List RK:=[.v t38,.v (.list true 133 t47)]
abbrev Res:=am rs×ak ps
def f (K:Nat)(x:ab ps):Option Res:=(Q91.f K (x.1.1,())).bind λy1=>(Q63.f K (x.2.1.2.2.2.2.2.2.2,y1.1.1,())).bind λy2=>bif y2.1.1 then ((Q101.f K (x.1,x.2.1.2.2.2.2.2.2.2,x.1.1,())).bind λy3=>some ((y3.1.1,[],()),())) else ((idx x.2.1.2.2.2.2.2.2.2 0).bind λy4=>(Q91.f K (y4.1,())).bind λy5=>(Q104.f K (x.1,y5.1.1,x.2.1.2.2.2.2.2.2.2,())).bind λy6=>(Q105.f K (x.1,y5.1.1,y6.1.1,())).bind λy7=>bif x.2.1.1==2 then ((Q106.f K (x.2.1.2.2.2.2.2.2.2,y6.1.1,())).bind λy8=>bif y8.1.1 then ((Q93.f K (y7.1.1,6,x.2.1.2.2.1,0,x.1.1,y6.1.1,())).bind λy9=>some ((y7.1.1,[(2,y9.1.1.2)],()),())) else (some ((y7.1.1,[],()),()))) else (some ((y7.1.1,[],()),())))
def c (K:Nat):Ctr:=⟨211,ps,rs,false,f K⟩
end Q107
namespace Q108
abbrev ps:List PK:=[.rd (.list false 116 t3),.rd (.list false 4 .bool)]
abbrev rs:List RK:=[.v (.int .i64)]
abbrev Res:=am rs×ak ps
abbrev A_l0:=Int×Int
def l0.step (K:Nat)(x:ab ps)(rec_l0:A_l0->Option Res)(a:A_l0):Option Res:=bif decide (a.2<(AA x.1:Int)) then ((idx x.2.1 a.2).bind λy1=>bif !y1 then (bif decide (a.1<0) then (rec_l0 (a.2,wr .i64 (a.2+1))) else ((idx x.1 a.2).bind λy2=>(idx x.1 a.1).bind λy3=>bif decide (y2.2>y3.2) then (rec_l0 (a.2,wr .i64 (a.2+1))) else (rec_l0 (a.1,wr .i64 (a.2+1))))) else (rec_l0 (a.1,wr .i64 (a.2+1)))) else (some ((a.1,()),()))
def l0 (K:Nat)(x:ab ps):A_l0->Option Res:=ae (λrec_l0 a=>l0.step K x rec_l0 a) K
def pre (K:Nat)(N_l0:A_l0->Option Res)(x:ab ps):Option Res:=N_l0 ((-1),0)
def f (K:Nat)(x:ab ps):Option Res:=pre K (l0 K x) x
def c (K:Nat):Ctr:=⟨250,ps,rs,true,f K⟩
end Q108
namespace Q109
abbrev ps:List PK:=[.rd (.list false 116 t3),.rd (.int .i64)]
abbrev rs:List RK:=[.v (.list true 41 t2),.v (.list true 116 t3)]
abbrev Res:=am rs×ak ps
abbrev A_l1:=List (Ty.den .bool)×List (Ty.den t2)×List (Ty.den t3)×Int
abbrev A_l0:=List (Ty.den .bool)×Int
def l1.step (K:Nat)(x:ab ps)(rec_l1:A_l1->Option Res)(a:A_l1):Option Res:=bif decide (a.2.2.2<(AA x.1:Int)) then ((idx x.1 a.2.2.2).bind λy2=>(idx a.1 a.2.2.2).bind λ_=>(idx a.1 (AB a.2.2.2:Nat)).bind λy4=>bif y4 then (bif decide ((AA a.2.1+AA ([y2.1]))*32<=aj) then (bif decide ((wr .i64 (y2.2-1))>0) then (bif decide ((AA a.2.2.1+AA ([(y2.1,wr .i64 (y2.2-1))]))*40<=aj) then (rec_l1 (a.1,a.2.1++([y2.1]),a.2.2.1++([(y2.1,wr .i64 (y2.2-1))]),wr .i64 (a.2.2.2+1))) else none) else (rec_l1 (a.1,a.2.1++([y2.1]),a.2.2.1,wr .i64 (a.2.2.2+1)))) else none) else (bif decide (y2.2>0) then (bif decide ((AA a.2.2.1+AA ([y2]))*40<=aj) then (rec_l1 (a.1,a.2.1,a.2.2.1++([y2]),wr .i64 (a.2.2.2+1))) else none) else (rec_l1 (a.1,a.2.1,a.2.2.1,wr .i64 (a.2.2.2+1))))) else (some ((a.2.1,a.2.2.1,()),()))
def l1 (K:Nat)(x:ab ps):A_l1->Option Res:=ae (λrec_l1 a=>l1.step K x rec_l1 a) K
def l0.step (K:Nat)(x:ab ps)(N_l1:A_l1->Option Res)(rec_l0:A_l0->Option Res)(a:A_l0):Option Res:=bif decide (a.2<x.2.1) then ((Q108.f K (x.1,a.1,())).bind λy1=>bif decide (y1.1.1<0) then (N_l1 (a.1,[],[],0)) else ((idx a.1 y1.1.1).bind λ_=>(idx a.1 (AB y1.1.1:Nat)).bind λy6=>rec_l0 (a.1.set (AB y1.1.1) true,wr .i64 (a.2+1)))) else (N_l1 (a.1,[],[],0))
def l0 (K:Nat)(x:ab ps):A_l0->Option Res:=ae (λrec_l0 a=>l0.step K x (l1 K x) rec_l0 a) K
def pre (K:Nat)(N_l0:A_l0->Option Res)(x:ab ps):Option Res:=bif decide (0<=(AA x.1:Int))&&decide ((AA x.1:Int)=(AA x.1:Int))&&decide ((AA x.1:Int)*(1:Nat)<=aj) then (N_l0 (List.replicate (AB (AA x.1:Int)) (false:Ty.den .bool),0)) else none
def f (K:Nat)(x:ab ps):Option Res:=pre K (l0 K x) x
def c (K:Nat):Ctr:=⟨241,ps,rs,true,f K⟩
def G (K:Nat):List Ctr:=[Q108.c K]
def live_l1:List (Nat×List Coe):=[(0,[.ro true 116 t3]),(6,[.own false 4 .bool]),(9,[.own false 41 t2]),(10,[.own false 116 t3]),(11,[.keep])]
def live_l0:List (Nat×List Coe):=[(0,[.ro true 116 t3]),(1,[.keep]),(6,[.own false 4 .bool]),(7,[.keep])]
def L:List (Nat×List (Nat×List Coe)):=[(12,live_l1),(4,live_l0)]
def body:Code:=cV Tryz.f241
abbrev ev (K:Nat):Code->St->(Ex->St->Option Res)->Option Res:=evK (G K) T_S L K
abbrev fin:Ex->St->Option Res:=dx T_S ps rs true Tryz.f241.results.toList
def S_l0 (x:ab ps)(a:A_l0):St:=ay [(0,⟨0,.one,[.ro true 116 t3 x.1]⟩),(1,⟨0,.one,[.int .i64 x.2.1]⟩),(6,⟨0,.one,[.own false none 4 .bool a.1]⟩),(7,⟨0,.one,[.int .i64 a.2]⟩)]
def S_l1 (x:ab ps)(a:A_l1):St:=ay [(0,⟨0,.one,[.ro true 116 t3 x.1]⟩),(6,⟨0,.one,[.own false none 4 .bool a.1]⟩),(9,⟨0,.one,[.own false none 41 t2 a.2.1]⟩),(10,⟨0,.one,[.own false none 116 t3 a.2.2.1]⟩),(11,⟨0,.one,[.int .i64 a.2.2.2]⟩)]
def k_l0 (K:Nat)(x:ab ps):Ex->St->Option Res:=kAt (ev K) body [1,1,0,1,0] fin
def N_l0 (K:Nat)(x:ab ps):A_l0->Option Res:=λa=>be live_l0 (ev K (sub body [1,1,0,1,0,0])) K (S_l0 x a) (k_l0 K x)
def k_l1 (K:Nat)(x:ab ps):Ex->St->Option Res:=kAt (ev K) body [1,1,1,1,1,0,1,0] fin
def N_l1 (K:Nat)(x:ab ps):A_l1->Option Res:=λa=>be live_l1 (ev K (sub body [1,1,1,1,1,0,1,0,0])) K (S_l1 x a) (k_l1 K x)
end Q109
namespace Q110
abbrev ps:List PK:=[.own t38,.rd (.int .i64)]
abbrev rs:List RK:=[.v (.list true 41 t2),.v t38]
abbrev Res:=am rs×ak ps
def f (K:Nat)(x:ab ps):Option Res:=(Q109.f K (x.1.2.2.2.2.2.2.2.2.2.1,3,())).bind λy1=>(Q94.f K (x.1.2.2.2.2.2.2.2.2.1,x.2.1,())).bind λy2=>bif decide (y2.1.1>=0) then ((idx x.1.2.2.2.2.2.2.2.2.1 y2.1.1).bind λy3=>bif y3.2.2.1==2 then ((idx x.1.2.2.2.2.2.2.2.2.1 y2.1.1).bind λy4=>(Q102.f K (y1.1.1,y4,())).bind λy5=>some ((y5.1.1,(x.1.1,(x.1.2.1,(x.1.2.2.1,(x.1.2.2.2.1,(x.1.2.2.2.2.1,(x.1.2.2.2.2.2.1,(x.1.2.2.2.2.2.2.1,(x.1.2.2.2.2.2.2.2.1,(x.1.2.2.2.2.2.2.2.2.1,(y1.1.2.1,x.1.2.2.2.2.2.2.2.2.2.2)))))))))),()),())) else (some ((y1.1.1,(x.1.1,(x.1.2.1,(x.1.2.2.1,(x.1.2.2.2.1,(x.1.2.2.2.2.1,(x.1.2.2.2.2.2.1,(x.1.2.2.2.2.2.2.1,(x.1.2.2.2.2.2.2.2.1,(x.1.2.2.2.2.2.2.2.2.1,(y1.1.2.1,x.1.2.2.2.2.2.2.2.2.2.2)))))))))),()),()))) else (some ((y1.1.1,(x.1.1,(x.1.2.1,(x.1.2.2.1,(x.1.2.2.2.1,(x.1.2.2.2.2.1,(x.1.2.2.2.2.2.1,(x.1.2.2.2.2.2.2.1,(x.1.2.2.2.2.2.2.2.1,(x.1.2.2.2.2.2.2.2.2.1,(y1.1.2.1,x.1.2.2.2.2.2.2.2.2.2.2)))))))))),()),()))
def c (K:Nat):Ctr:=⟨223,ps,rs,false,f K⟩
end Q110
namespace Q111
abbrev ps:List PK:=[.rd (.int .i64),.rd (.int .i64),.rd (.int .i64)]
abbrev rs:List RK:=[.v (.int .i64)]
abbrev Res:=am rs×ak ps
def f (K:Nat)(x:ab ps):Option Res:=bif decide (x.1<x.2.1) then (some ((x.2.1,()),())) else (bif decide (x.1>x.2.2.1) then (some ((x.2.2.1,()),())) else (some ((x.1,()),())))
def c (K:Nat):Ctr:=⟨167,ps,rs,true,f K⟩
end Q111
namespace Q112
abbrev ps:List PK:=[.rd (.list false 3 (.int .i64)),.rd (.int .i64)]
abbrev rs:List RK:=[.v (.list false 3 (.int .i64))]
abbrev Res:=am rs×ak ps
def f (K:Nat)(x:ab ps):Option Res:=bif decide ((AA ([]:List (Ty.den (.int .i64)))+AA x.1)*8<=aj) then (bif decide ((AA ([]++x.1)+AA ([x.2.1]))*8<=aj) then (bif decide ((AA (([]++x.1)++([x.2.1])):Int)>3) then (bif decide (0<=(wr .i64 ((AA (([]++x.1)++([x.2.1])):Int)-3)))&&decide ((wr .i64 ((AA (([]++x.1)++([x.2.1])):Int)-3))<=(AA (([]++x.1)++([x.2.1])):Int))&&decide ((AA (([]++x.1)++([x.2.1])):Int)<=(AA (([]++x.1)++([x.2.1])):Int))&&true then (some ((((([]++x.1)++([x.2.1])).take (AB (AA (([]++x.1)++([x.2.1])):Int))).drop (AB (wr .i64 ((AA (([]++x.1)++([x.2.1])):Int)-3))),()),())) else none) else (some ((([]++x.1)++([x.2.1]),()),()))) else none) else none
def c (K:Nat):Ctr:=⟨251,ps,rs,true,f K⟩
end Q112
namespace Q113
abbrev ps:List PK:=[.rd (.list false 45 t11),.rd (.int .i64),.rd t9,.rd (.int .i64)]
abbrev rs:List RK:=[.v (.list true 45 t11)]
abbrev Res:=am rs×ak ps
abbrev A_l0:=List (Ty.den t11)×Bool×Int×List (Ty.den (.int .i64))
def l0.step (K:Nat)(x:ab ps)(rec_l0:A_l0->Option Res)(a:A_l0):Option Res:=bif decide (a.2.2.1<(AA x.1:Int)) then ((idx x.1 a.2.2.1).bind λy1=>bif y1.1==x.2.1 then (bif !a.2.1 then (bif decide (y1.1>=x.2.1) then ((Q112.f K (y1.2.2,x.2.2.2.1,())).bind λy2=>bif decide ((AA a.1+AA ([(x.2.1,(x.2.2.1,y2.1.1))]))*64<=aj) then (bif y1.1 != x.2.1 then (bif decide ((AA (a.1++([(x.2.1,(x.2.2.1,y2.1.1))]))+AA ([y1]))*64<=aj) then (rec_l0 ((a.1++([(x.2.1,(x.2.2.1,y2.1.1))]))++([y1]),true,wr .i64 (a.2.2.1+1),y2.1.1)) else none) else (rec_l0 (a.1++([(x.2.1,(x.2.2.1,y2.1.1))]),true,wr .i64 (a.2.2.1+1),y2.1.1))) else none) else (bif y1.1 != x.2.1 then (bif decide ((AA a.1+AA ([y1]))*64<=aj) then (rec_l0 (a.1++([y1]),a.2.1,wr .i64 (a.2.2.1+1),y1.2.2)) else none) else (rec_l0 (a.1,a.2.1,wr .i64 (a.2.2.1+1),y1.2.2)))) else (bif y1.1 != x.2.1 then (bif decide ((AA a.1+AA ([y1]))*64<=aj) then (rec_l0 (a.1++([y1]),a.2.1,wr .i64 (a.2.2.1+1),y1.2.2)) else none) else (rec_l0 (a.1,a.2.1,wr .i64 (a.2.2.1+1),y1.2.2)))) else (bif !a.2.1 then (bif decide (y1.1>=x.2.1) then ((Q112.f K (a.2.2.2,x.2.2.2.1,())).bind λy3=>bif decide ((AA a.1+AA ([(x.2.1,(x.2.2.1,y3.1.1))]))*64<=aj) then (bif y1.1 != x.2.1 then (bif decide ((AA (a.1++([(x.2.1,(x.2.2.1,y3.1.1))]))+AA ([y1]))*64<=aj) then (rec_l0 ((a.1++([(x.2.1,(x.2.2.1,y3.1.1))]))++([y1]),true,wr .i64 (a.2.2.1+1),y3.1.1)) else none) else (rec_l0 (a.1++([(x.2.1,(x.2.2.1,y3.1.1))]),true,wr .i64 (a.2.2.1+1),y3.1.1))) else none) else (bif y1.1 != x.2.1 then (bif decide ((AA a.1+AA ([y1]))*64<=aj) then (rec_l0 (a.1++([y1]),a.2.1,wr .i64 (a.2.2.1+1),a.2.2.2)) else none) else (rec_l0 (a.1,a.2.1,wr .i64 (a.2.2.1+1),a.2.2.2)))) else (bif y1.1 != x.2.1 then (bif decide ((AA a.1+AA ([y1]))*64<=aj) then (rec_l0 (a.1++([y1]),a.2.1,wr .i64 (a.2.2.1+1),a.2.2.2)) else none) else (rec_l0 (a.1,a.2.1,wr .i64 (a.2.2.1+1),a.2.2.2))))) else (bif !a.2.1 then ((Q112.f K (a.2.2.2,x.2.2.2.1,())).bind λy4=>bif decide ((AA a.1+AA ([(x.2.1,(x.2.2.1,y4.1.1))]))*64<=aj) then (some ((a.1++([(x.2.1,(x.2.2.1,y4.1.1))]),()),())) else none) else (some ((a.1,()),())))
def l0 (K:Nat)(x:ab ps):A_l0->Option Res:=ae (λrec_l0 a=>l0.step K x rec_l0 a) K
def pre (K:Nat)(N_l0:A_l0->Option Res)(x:ab ps):Option Res:=N_l0 ([],false,0,[])
def f (K:Nat)(x:ab ps):Option Res:=pre K (l0 K x) x
def c (K:Nat):Ctr:=⟨246,ps,rs,false,f K⟩
end Q113
namespace Q114
abbrev ps:List PK:=[.rd (.int .i64)]
abbrev rs:List RK:=[.v (.int .i64)]
abbrev Res:=am rs×ak ps
def f (K:Nat)(x:ab ps):Option Res:=(Q111.f K (x.1,(-1000000000),1000000000,())).bind λy1=>some ((y1.1.1,()),())
def c (K:Nat):Ctr:=⟨148,ps,rs,true,f K⟩
end Q114
namespace Q115
abbrev ps:List PK:=[.rd (.int .i64)]
abbrev rs:List RK:=[.v (.int .i64)]
abbrev Res:=am rs×ak ps
abbrev A_l0:=Int×Int
def l0.step (K:Nat)(x:ab ps)(rec_l0:A_l0->Option Res)(a:A_l0):Option Res:=bif decide (a.1<a.2) then (bif decide (wr .i64 (AC (wr .i64 ((wr .i64 (a.1+a.2))+1)) 2)=0) then none else (bif decide ((wr .i64 (AC (wr .i64 ((wr .i64 (a.1+a.2))+1)) 2))<=(wr .i64 (AC x.1 (wr .i64 (AC (wr .i64 ((wr .i64 (a.1+a.2))+1)) 2))))) then (rec_l0 (wr .i64 (AC (wr .i64 ((wr .i64 (a.1+a.2))+1)) 2),a.2)) else (rec_l0 (a.1,wr .i64 ((wr .i64 (AC (wr .i64 ((wr .i64 (a.1+a.2))+1)) 2))-1))))) else (some ((a.1,()),()))
def l0 (K:Nat)(x:ab ps):A_l0->Option Res:=ae (λrec_l0 a=>l0.step K x rec_l0 a) K
def pre (K:Nat)(N_l0:A_l0->Option Res)(x:ab ps):Option Res:=N_l0 (0,1500000000)
def f (K:Nat)(x:ab ps):Option Res:=pre K (l0 K x) x
def c (K:Nat):Ctr:=⟨149,ps,rs,true,f K⟩
end Q115
namespace Q116
abbrev ps:List PK:=[.rd (.int .i64),.rd (.int .i64)]
abbrev rs:List RK:=[.v (.int .i64)]
abbrev Res:=am rs×ak ps
def f (K:Nat)(x:ab ps):Option Res:=(Q114.f K (x.1,())).bind λy1=>(Q114.f K (x.2.1,())).bind λy2=>(Q115.f K (wr .i64 ((wr .i64 (y1.1.1*y1.1.1))+(wr .i64 (y2.1.1*y2.1.1))),())).bind λy3=>(Q114.f K (y3.1.1,())).bind λy4=>some ((y4.1.1,()),())
def c (K:Nat):Ctr:=⟨105,ps,rs,true,f K⟩
end Q116
namespace Q117
abbrev ps:List PK:=[.rd t9,.rd t9]
abbrev rs:List RK:=[.v (.int .i64)]
abbrev Res:=am rs×ak ps
def f (K:Nat)(x:ab ps):Option Res:=(Q64.f K (x.1,())).bind λy1=>bif !y1.1.1 then (some ((0,()),())) else ((Q64.f K (x.2.1,())).bind λy2=>bif !y2.1.1 then (some ((0,()),())) else ((Q116.f K (wr .i64 (x.1.1-x.2.1.1),wr .i64 (x.1.2.1-x.2.1.2.1),())).bind λy3=>some ((wr .i64 ((wr .i64 (y3.1.1+x.1.2.2.1))+x.2.1.2.2.1),()),())))
def c (K:Nat):Ctr:=⟨49,ps,rs,true,f K⟩
end Q117
namespace Q118
abbrev ps:List PK:=[.rd t9,.rd t9,.rd (.int .i64)]
abbrev rs:List RK:=[.v (.int .i64)]
abbrev Res:=am rs×ak ps
def f (K:Nat)(x:ab ps):Option Res:=bif decide (wr .i64 (x.1.2.2.2+x.2.1.2.2.2)=0) then none else (some ((wr .i64 (AC (wr .i64 (AC (wr .i64 (x.2.2.1*x.1.2.2.2)) (wr .i64 (x.1.2.2.2+x.2.1.2.2.2)))) 4),()),()))
def c (K:Nat):Ctr:=⟨252,ps,rs,true,f K⟩
end Q118
namespace Q119
abbrev ps:List PK:=[.rd (.int .i64)]
abbrev rs:List RK:=[.v (.int .i64),.v (.int .i64)]
abbrev Res:=am rs×ak ps
def f (K:Nat)(x:ab ps):Option Res:=bif (bg .i64 x.1 3)==0 then (some ((1,0,()),())) else (bif (bg .i64 x.1 3)==1 then (some ((0,1,()),())) else (bif (bg .i64 x.1 3)==2 then (some (((-1),0,()),())) else (some ((0,(-1),()),()))))
def c (K:Nat):Ctr:=⟨253,ps,rs,true,f K⟩
end Q119
namespace Q120
abbrev ps:List PK:=[.rd (.int .i64)]
abbrev rs:List RK:=[.v (.int .i64)]
abbrev Res:=am rs×ak ps
def f (K:Nat)(x:ab ps):Option Res:=bif decide (x.1<0) then (some ((wr .i64 (0-x.1),()),())) else (some ((x.1,()),()))
def c (K:Nat):Ctr:=⟨255,ps,rs,true,f K⟩
end Q120
namespace Q121
abbrev ps:List PK:=[.rd t9,.rd t9,.rd (.int .i64),.rd (.int .i64)]
abbrev rs:List RK:=[.v (.int .i64)]
abbrev Res:=am rs×ak ps
def f (K:Nat)(x:ab ps):Option Res:=(Q120.f K (x.2.2.1,())).bind λy1=>bif decide (x.2.2.2.1=0) then none else ((Q111.f K (wr .i64 (AC (wr .i64 (y1.1.1*1000)) x.2.2.2.1),0,1500,())).bind λy2=>bif decide (wr .i64 (x.1.2.2.2+x.2.1.2.2.2)=0) then none else ((Q111.f K (wr .i64 (x.1.2.2.2+(wr .i64 (AC (wr .i64 (AC (wr .i64 ((wr .i64 (y2.1.1-x.1.2.2.2))*x.1.2.2.2)) (wr .i64 (x.1.2.2.2+x.2.1.2.2.2)))) 4))),1,1500,())).bind λy3=>some ((y3.1.1,()),())))
def c (K:Nat):Ctr:=⟨254,ps,rs,true,f K⟩
end Q121
namespace Q122
abbrev ps:List PK:=[.rd t9,.rd t9,.rd (.int .i64),.rd (.int .i64)]
abbrev rs:List RK:=[.v t9]
abbrev Res:=am rs×ak ps
def f (K:Nat)(x:ab ps):Option Res:=(Q64.f K (x.1,())).bind λy1=>bif !y1.1.1 then (some (((0,(0,(0,0))),()),())) else ((Q64.f K (x.2.1,())).bind λy2=>bif !y2.1.1 then (some ((x.1,()),())) else ((Q56.f K (x.2.2.1,1,60000,())).bind λy3=>bif !y3.1.1 then (some ((x.1,()),())) else ((Q117.f K (x.1,x.2.1,())).bind λy4=>(Q118.f K (x.1,x.2.1,wr .i64 (x.2.2.1-y4.1.1),())).bind λy5=>(Q116.f K (wr .i64 (x.1.1-x.2.1.1),wr .i64 (x.1.2.1-x.2.1.2.1),())).bind λy6=>bif y6.1.1==0 then ((Q119.f K (x.2.2.2.1,())).bind λy7=>bif decide (y5.1.1<0) then ((Q111.f K (wr .i64 (x.1.1+(wr .i64 (AC (wr .i64 (y5.1.1*0)) 1))),(-100000),100000,())).bind λy8=>(Q111.f K (wr .i64 (x.1.2.1+(wr .i64 (AC (wr .i64 (y5.1.1*0)) 1))),(-100000),100000,())).bind λy9=>(Q111.f K (wr .i64 (x.1.2.2.1+(wr .i64 (AC y5.1.1 4))),0,100000,())).bind λy10=>(Q121.f K (x.1,x.2.1,wr .i64 (x.2.2.1-y4.1.1),x.2.2.1,())).bind λy11=>some (((y8.1.1,(y9.1.1,(y10.1.1,y11.1.1))),()),())) else ((Q111.f K (wr .i64 (x.1.1+(wr .i64 (AC (wr .i64 (y5.1.1*y7.1.1)) 1))),(-100000),100000,())).bind λy12=>(Q111.f K (wr .i64 (x.1.2.1+(wr .i64 (AC (wr .i64 (y5.1.1*y7.1.2.1)) 1))),(-100000),100000,())).bind λy13=>(Q111.f K (wr .i64 (x.1.2.2.1+(wr .i64 (AC y5.1.1 4))),0,100000,())).bind λy14=>(Q121.f K (x.1,x.2.1,wr .i64 (x.2.2.1-y4.1.1),x.2.2.1,())).bind λy15=>some (((y12.1.1,(y13.1.1,(y14.1.1,y15.1.1))),()),()))) else (bif decide (y5.1.1<(wr .i64 (0-y6.1.1))) then (bif decide (y6.1.1=0) then none else ((Q111.f K (wr .i64 (x.1.1+(wr .i64 (AC (wr .i64 ((wr .i64 (0-y6.1.1))*(wr .i64 (x.1.1-x.2.1.1)))) y6.1.1))),(-100000),100000,())).bind λy16=>bif decide (y6.1.1=0) then none else ((Q111.f K (wr .i64 (x.1.2.1+(wr .i64 (AC (wr .i64 ((wr .i64 (0-y6.1.1))*(wr .i64 (x.1.2.1-x.2.1.2.1)))) y6.1.1))),(-100000),100000,())).bind λy17=>(Q111.f K (wr .i64 (x.1.2.2.1+(wr .i64 (AC (wr .i64 (0-y6.1.1)) 4))),0,100000,())).bind λy18=>(Q121.f K (x.1,x.2.1,wr .i64 (x.2.2.1-y4.1.1),x.2.2.1,())).bind λy19=>some (((y16.1.1,(y17.1.1,(y18.1.1,y19.1.1))),()),())))) else (bif decide (y6.1.1=0) then none else ((Q111.f K (wr .i64 (x.1.1+(wr .i64 (AC (wr .i64 (y5.1.1*(wr .i64 (x.1.1-x.2.1.1)))) y6.1.1))),(-100000),100000,())).bind λy20=>bif decide (y6.1.1=0) then none else ((Q111.f K (wr .i64 (x.1.2.1+(wr .i64 (AC (wr .i64 (y5.1.1*(wr .i64 (x.1.2.1-x.2.1.2.1)))) y6.1.1))),(-100000),100000,())).bind λy21=>(Q111.f K (wr .i64 (x.1.2.2.1+(wr .i64 (AC y5.1.1 4))),0,100000,())).bind λy22=>(Q121.f K (x.1,x.2.1,wr .i64 (x.2.2.1-y4.1.1),x.2.2.1,())).bind λy23=>some (((y20.1.1,(y21.1.1,(y22.1.1,y23.1.1))),()),()))))))))
def c (K:Nat):Ctr:=⟨247,ps,rs,true,f K⟩
end Q122
namespace Q123
abbrev ps:List PK:=[.rd (.list false 3 (.int .i64))]
abbrev rs:List RK:=[.v (.int .i64)]
abbrev Res:=am rs×ak ps
abbrev A_l1:=List (Ty.den (.int .i64))×List (Ty.den (.int .i64))×Int×Int
abbrev A_l0:=List (Ty.den (.int .i64))×List (Ty.den (.int .i64))×Int
def l1.step (K:Nat)(x:ab ps)(rec_l0:A_l0->Option Res)(rec_l1:A_l1->Option Res)(a:A_l1):Option Res:=bif decide (a.2.2.2<(AA a.2.1:Int)) then ((idx a.2.1 a.2.2.2).bind λy1=>(idx a.1 a.2.2.1).bind λy2=>bif decide (y1<=y2) then (rec_l1 (a.1,a.2.1,a.2.2.1,wr .i64 (a.2.2.2+1))) else (bif decide (0<=0)&&decide (0<=a.2.2.2)&&decide (a.2.2.2<=(AA a.2.1:Int))&&true then (bif decide ((AA ([]:List (Ty.den (.int .i64)))+AA ((a.2.1.take (AB a.2.2.2)).drop (AB 0)))*8<=aj) then ((idx a.1 a.2.2.1).bind λy3=>bif decide ((AA ([]++((a.2.1.take (AB a.2.2.2)).drop (AB 0)))+AA ([y3]))*8<=aj) then (bif decide (0<=a.2.2.2)&&decide (a.2.2.2<=(AA a.2.1:Int))&&decide ((AA a.2.1:Int)<=(AA a.2.1:Int))&&true then (bif decide ((AA (([]++((a.2.1.take (AB a.2.2.2)).drop (AB 0)))++([y3]))+AA ((a.2.1.take (AB (AA a.2.1:Int))).drop (AB a.2.2.2)))*8<=aj) then (rec_l0 (a.1,(([]++((a.2.1.take (AB a.2.2.2)).drop (AB 0)))++([y3]))++((a.2.1.take (AB (AA a.2.1:Int))).drop (AB a.2.2.2)),wr .i64 (a.2.2.1+1))) else none) else none) else none) else none) else none)) else (bif decide (0<=0)&&decide (0<=a.2.2.2)&&decide (a.2.2.2<=(AA a.2.1:Int))&&true then (bif decide ((AA ([]:List (Ty.den (.int .i64)))+AA ((a.2.1.take (AB a.2.2.2)).drop (AB 0)))*8<=aj) then ((idx a.1 a.2.2.1).bind λy4=>bif decide ((AA ([]++((a.2.1.take (AB a.2.2.2)).drop (AB 0)))+AA ([y4]))*8<=aj) then (bif decide (0<=a.2.2.2)&&decide (a.2.2.2<=(AA a.2.1:Int))&&decide ((AA a.2.1:Int)<=(AA a.2.1:Int))&&true then (bif decide ((AA (([]++((a.2.1.take (AB a.2.2.2)).drop (AB 0)))++([y4]))+AA ((a.2.1.take (AB (AA a.2.1:Int))).drop (AB a.2.2.2)))*8<=aj) then (rec_l0 (a.1,(([]++((a.2.1.take (AB a.2.2.2)).drop (AB 0)))++([y4]))++((a.2.1.take (AB (AA a.2.1:Int))).drop (AB a.2.2.2)),wr .i64 (a.2.2.1+1))) else none) else none) else none) else none) else none)
def l1 (K:Nat)(x:ab ps)(rec_l0:A_l0->Option Res):A_l1->Option Res:=ae (λrec_l1 a=>l1.step K x rec_l0 rec_l1 a) K
def l0.step (K:Nat)(x:ab ps)(N_l1:A_l1->Option Res)(rec_l0:A_l0->Option Res)(a:A_l0):Option Res:=bif decide (a.2.2<(AA a.1:Int)) then (N_l1 (a.1,a.2.1,a.2.2,0)) else (bif (AA a.2.1:Int)==0 then (some ((0,()),())) else ((idx a.2.1 (wr .i64 (AC (wr .i64 ((AA a.2.1:Int)-1)) 2))).bind λy5=>some ((y5,()),())))
def l0 (K:Nat)(x:ab ps):A_l0->Option Res:=ae (λrec_l0 a=>l0.step K x (l1 K x rec_l0) rec_l0 a) K
def pre (K:Nat)(N_l0:A_l0->Option Res)(x:ab ps):Option Res:=bif decide ((AA x.1:Int)>3) then (bif decide (0<=(wr .i64 ((AA x.1:Int)-3)))&&decide ((wr .i64 ((AA x.1:Int)-3))<=(AA x.1:Int))&&decide ((AA x.1:Int)<=(AA x.1:Int))&&true then (N_l0 ((x.1.take (AB (AA x.1:Int))).drop (AB (wr .i64 ((AA x.1:Int)-3))),[],0)) else none) else (N_l0 (x.1,[],0))
def f (K:Nat)(x:ab ps):Option Res:=pre K (l0 K x) x
def c (K:Nat):Ctr:=⟨248,ps,rs,true,f K⟩
def G (K:Nat):List Ctr:=[]
def live_l1:List (Nat×List Coe):=[(3,[.ro true 3 (.int .i64)]),(4,[.ro false 3 (.int .i64)]),(5,[.keep]),(6,[.keep])]
def live_l0:List (Nat×List Coe):=[(3,[.ro true 3 (.int .i64)]),(4,[.ro false 3 (.int .i64)]),(5,[.keep])]
def L:List (Nat×List (Nat×List Coe)):=[(10,live_l1),(7,live_l0)]
def body:Code:=cV Tryz.f248
abbrev ev (K:Nat):Code->St->(Ex->St->Option Res)->Option Res:=evK (G K) T_S L K
abbrev fin:Ex->St->Option Res:=dx T_S ps rs true Tryz.f248.results.toList
def S_l0 (x:ab ps)(a:A_l0):St:=ay [(3,⟨0,.one,[.ro true 3 (.int .i64) a.1]⟩),(4,⟨0,.one,[.ro false 3 (.int .i64) a.2.1]⟩),(5,⟨0,.one,[.int .i64 a.2.2]⟩)]
def S_l1 (x:ab ps)(a:A_l1):St:=ay [(3,⟨0,.one,[.ro true 3 (.int .i64) a.1]⟩),(4,⟨0,.one,[.ro false 3 (.int .i64) a.2.1]⟩),(5,⟨0,.one,[.int .i64 a.2.2.1]⟩),(6,⟨0,.one,[.int .i64 a.2.2.2]⟩)]
def k_l0 (K:Nat)(x:ab ps):Ex->St->Option Res:=kAt (ev K) body [1,1,1,1,0,1,0] fin
def N_l0 (K:Nat)(x:ab ps):A_l0->Option Res:=λa=>be live_l0 (ev K (sub body [1,1,1,1,0,1,0,0])) K (S_l0 x a) (k_l0 K x)
def k_l1 (K:Nat)(x:ab ps)(r_l0:St->Option Res):Ex->St->Option Res:=kAt (ev K) (sub body [1,1,1,1,0,1,0,0]) [1,0,0,1,0,0] (bo live_l0 r_l0 (k_l0 K x))
def N_l1 (K:Nat)(x:ab ps)(r_l0:St->Option Res):A_l1->Option Res:=λa=>be live_l1 (ev K (sub body [1,1,1,1,0,1,0,0,1,0,0,1,0,0,0])) K (S_l1 x a) (k_l1 K x r_l0)
end Q123
namespace Q124
abbrev ps:List PK:=[.own t38,.rd t47]
abbrev rs:List RK:=[.v t38]
abbrev Res:=am rs×ak ps
abbrev A_l0:=Int×Int×Int×Int×Int×List (Ty.den t11)
def l0.step (K:Nat)(x:ab ps)(rec_l0:A_l0->Option Res)(a:A_l0):Option Res:=bif decide (a.1<(AA a.2.2.2.2.2:Int)) then ((idx a.2.2.2.2.2 a.1).bind λ_=>(idx a.2.2.2.2.2 (AB a.1:Nat)).bind λy4=>bif y4.1==x.2.1.2.2.1 then ((idx a.2.2.2.2.2 a.1).bind λ_=>(idx a.2.2.2.2.2 (AB a.1:Nat)).bind λy6=>(Q123.f K (y6.2.2,())).bind λy7=>(Q122.f K ((a.2.1,(a.2.2.1,(a.2.2.2.1,a.2.2.2.2.1))),x.2.1.2.2.2.2.2.2.1,y7.1.1,x.2.1.2.2.2.2.1,())).bind λy8=>rec_l0 (wr .i64 (a.1+1),y8.1.1.1,y8.1.1.2.1,y8.1.1.2.2.1,y8.1.1.2.2.2,a.2.2.2.2.2)) else (rec_l0 (wr .i64 (a.1+1),a.2.1,a.2.2.1,a.2.2.2.1,a.2.2.2.2.1,a.2.2.2.2.2))) else (some (((x.1.1,(x.1.2.1,(x.1.2.2.1,(x.1.2.2.2.1,(x.1.2.2.2.2.1,(x.1.2.2.2.2.2.1,(x.1.2.2.2.2.2.2.1,(x.1.2.2.2.2.2.2.2.1,(x.1.2.2.2.2.2.2.2.2.1,(x.1.2.2.2.2.2.2.2.2.2.1,(((-1),(0,(0,false))),(x.1.2.2.2.2.2.2.2.2.2.2.2.1,((a.2.1,(a.2.2.1,(a.2.2.2.1,a.2.2.2.2.1))),(a.2.2.2.2.2,x.1.2.2.2.2.2.2.2.2.2.2.2.2.2.2)))))))))))))),()),()))
def l0 (K:Nat)(x:ab ps):A_l0->Option Res:=ae (λrec_l0 a=>l0.step K x rec_l0 a) K
def pre (K:Nat)(N_l0:A_l0->Option Res)(x:ab ps):Option Res:=bif decide (x.1.2.2.2.2.2.2.2.2.2.2.1.1<0) then (some ((x.1,()),())) else (bif x.1.2.2.2.2.2.2.2.2.2.2.1.1 != x.2.1.2.2.1 then (some ((x.1,()),())) else (bif x.1.2.2.2.2.2.2.2.2.2.2.1.2.2.1 != x.2.1.2.2.2.2.1 then (some ((x.1,()),())) else (bif x.2.1.2.2.2.2.2.1 != x.2.1.2.2.1 then (some ((x.1,()),())) else ((Q111.f K (wr .i64 ((wr .i64 ((wr .i64 (x.1.2.2.2.2.2.1-x.1.2.2.2.2.2.2.2.2.2.2.1.2.1))*1000))+500),1,60000,())).bind λy1=>(Q113.f K (x.1.2.2.2.2.2.2.2.2.2.2.2.2.2.1,x.2.1.2.2.1,x.2.1.2.2.2.2.2.2.1,y1.1.1,())).bind λy2=>N_l0 (0,x.1.2.2.2.2.2.2.2.2.2.2.2.2.1.1,x.1.2.2.2.2.2.2.2.2.2.2.2.2.1.2.1,x.1.2.2.2.2.2.2.2.2.2.2.2.2.1.2.2.1,x.1.2.2.2.2.2.2.2.2.2.2.2.2.1.2.2.2,y2.1.1)))))
def f (K:Nat)(x:ab ps):Option Res:=pre K (l0 K x) x
def c (K:Nat):Ctr:=⟨235,ps,rs,false,f K⟩
end Q124
namespace Q125
abbrev ps:List PK:=[.own t38,.rd t47]
abbrev rs:List RK:=[.v t38,.v (.list true 133 t47)]
abbrev Res:=am rs×ak ps
def f (K:Nat)(x:ab ps):Option Res:=(Q91.f K (x.1.1,())).bind λy1=>bif x.2.1.2.1==1 then ((Q91.f K (x.2.1.2.2.2.2.2.1,())).bind λy2=>bif y2.1.1 != y1.1.1 then (some ((x.1,[],()),())) else (bif x.2.1.2.2.2.2.2.1==x.1.1 then (some ((x.1,[],()),())) else ((Q110.f K (x.1,x.2.1.2.2.2.2.2.1,())).bind λy3=>(Q93.f K (y3.1.2.1,2,x.2.1.2.2.2.2.2.1,x.2.1.2.2.2.2.1,x.1.1,y3.1.1,())).bind λy4=>some ((y3.1.2.1,[y4.1.1],()),())))) else (bif x.2.1.2.1==3 then ((Q91.f K (x.2.1.2.2.2.2.2.1,())).bind λy5=>bif y5.1.1 != y1.1.1 then (some ((x.1,[],()),())) else (bif x.2.1.2.2.2.2.2.1==x.1.1 then (some ((x.1,[],()),())) else (bif x.2.1.2.2.2.2.2.1==x.2.1.2.2.1 then (some ((x.1,[],()),())) else ((Q110.f K (x.1,x.2.1.2.2.2.2.2.1,())).bind λy6=>(Q93.f K (y6.1.2.1,1,x.2.1.2.2.2.2.2.1,x.2.1.2.2.2.2.1,x.2.1.2.2.1,y6.1.1,())).bind λy7=>some ((y6.1.2.1,[y7.1.1],()),()))))) else (bif x.2.1.2.1==4 then ((Q93.f K (x.1,5,x.2.1.2.2.1,0,x.1.1,x.1.2.2.2.2.2.2.2.2.1,())).bind λy8=>some ((x.1,[y8.1.1],()),())) else (bif x.2.1.2.1==2 then ((Q124.f K (x.1,x.2.1,())).bind λy9=>some ((y9.1.1,[],()),())) else (some ((x.1,[],()),())))))
def c (K:Nat):Ctr:=⟨212,ps,rs,false,f K⟩
end Q125
namespace Q126
abbrev ps:List PK:=[.own t38,.rd t47]
abbrev rs:List RK:=[.v t38,.v (.list true 133 t47)]
abbrev Res:=am rs×ak ps
def f (K:Nat)(x:ab ps):Option Res:=(Q65.f K (x.2.1,())).bind λy1=>bif !y1.1.1 then (some ((x.1,[],()),())) else ((Q92.f K (x.1,x.2.1,())).bind λy2=>bif !y2.1.1 then (some ((x.1,[],()),())) else (bif x.2.1.2.1==6 then ((Q107.f K (x.1,x.2.1,())).bind λy3=>some ((y3.1.1,y3.1.2.1,()),())) else ((Q101.f K (x.1,x.2.1.2.2.2.2.2.2.2,x.2.1.2.2.1,())).bind λy4=>(Q125.f K (y4.1.1,x.2.1,())).bind λy5=>some ((y5.1.1,y5.1.2.1,()),()))))
def c (K:Nat):Ctr:=⟨185,ps,rs,false,f K⟩
end Q126
namespace Q127
abbrev ps:List PK:=[.own t68,.rd (.int .i64),.rd .bool]
abbrev rs:List RK:=[.v t65]
abbrev Res:=am rs×ak ps
def f (K:Nat)(x:ab ps):Option Res:=(idx x.1.2.1 x.2.1).bind λ_=>(idx x.1.2.1 (AB x.2.1:Nat)).bind λy2=>bif !x.2.2.1 then ((Q83.f K (x.1.2.1,x.2.1,())).bind λy3=>(Q90.f K (y2.2.1,())).bind λy4=>bif !y4.1.2.1 then (some (((x.1.1,(y3.1.1,x.1.2.2)),()),())) else ((idx x.1.2.2.1 y4.1.1.2.2.1).bind λ_=>(idx x.1.2.2.1 (AB y4.1.1.2.2.1:Nat)).bind λy6=>(idx x.1.2.2.1 y2.1).bind λ_=>(idx x.1.2.2.1 (AB y2.1:Nat)).bind λy8=>bif y6 != y8 then (some (((x.1.1,(y3.1.1,x.1.2.2)),()),())) else (bif y4.1.1.2.2.2.1 != y2.1 then (some (((x.1.1,(y3.1.1,x.1.2.2)),()),())) else ((idx x.1.1 y2.1).bind λ_=>(idx x.1.1 (AB y2.1:Nat)).bind λy10=>(idx x.1.1 (AB y2.1:Nat)).bind λy11=>(Q126.f K ((y10.1,(y10.2.1,(y10.2.2.1,(y10.2.2.2.1,(y10.2.2.2.2.1,(y10.2.2.2.2.2.1,(y10.2.2.2.2.2.2.1,(y10.2.2.2.2.2.2.2.1,(y10.2.2.2.2.2.2.2.2.1,(y10.2.2.2.2.2.2.2.2.2.1,(y10.2.2.2.2.2.2.2.2.2.2.1,(y11.2.2.2.2.2.2.2.2.2.2.2.1,y10.2.2.2.2.2.2.2.2.2.2.2.2)))))))))))),y4.1.1,())).bind λy12=>(Q82.f K (((x.1.1,(y3.1.1,x.1.2.2)),AB y2.1),y12.1.1,y12.1.2.1,y4.1.1.2.2.2.2.2.2.2,())).bind λy13=>some ((y13.1.1,()),()))))) else ((Q90.f K (y2.2.1,())).bind λy14=>bif !y14.1.2.1 then (some ((x.1,()),())) else ((idx x.1.2.2.1 y14.1.1.2.2.1).bind λ_=>(idx x.1.2.2.1 (AB y14.1.1.2.2.1:Nat)).bind λy16=>(idx x.1.2.2.1 y2.1).bind λ_=>(idx x.1.2.2.1 (AB y2.1:Nat)).bind λy18=>bif y16 != y18 then (some ((x.1,()),())) else (bif y14.1.1.2.2.2.1 != y2.1 then (some ((x.1,()),())) else ((idx x.1.1 y2.1).bind λ_=>(idx x.1.1 (AB y2.1:Nat)).bind λy20=>(idx x.1.1 (AB y2.1:Nat)).bind λy21=>(Q126.f K ((y20.1,(y20.2.1,(y20.2.2.1,(y20.2.2.2.1,(y20.2.2.2.2.1,(y20.2.2.2.2.2.1,(y20.2.2.2.2.2.2.1,(y20.2.2.2.2.2.2.2.1,(y20.2.2.2.2.2.2.2.2.1,(y20.2.2.2.2.2.2.2.2.2.1,(y20.2.2.2.2.2.2.2.2.2.2.1,(y21.2.2.2.2.2.2.2.2.2.2.2.1,y20.2.2.2.2.2.2.2.2.2.2.2.2)))))))))))),y14.1.1,())).bind λy22=>(Q82.f K (((x.1.1,x.1.2),AB y2.1),y22.1.1,y22.1.2.1,y14.1.1.2.2.2.2.2.2.2,())).bind λy23=>some ((y23.1.1,()),())))))
def c (K:Nat):Ctr:=⟨160,ps,rs,false,f K⟩
end Q127
namespace Q128
abbrev ps:List PK:=[.own t68,.rd (.int .i64),.rd (.int .i64)]
abbrev rs:List RK:=[.v t65,.v .bool]
abbrev Res:=am rs×ak ps
def f (K:Nat)(x:ab ps):Option Res:=(idx x.1.2.1 x.2.1).bind λ_=>(idx x.1.2.1 (AB x.2.1:Nat)).bind λy2=>bif y2.2.2 then (some ((x.1,false,()),())) else (bif (y2.2.1.size:Int)==0 then (some ((x.1,false,()),())) else (bif decide ((y2.2.1.size:Int)=0) then none else ((idx (dP y2.2.1) (AD (bg .i64 x.2.2.1 4095) (y2.2.1.size:Int))).bind λ_=>(idx (dP y2.2.1) (AB (AD (bg .i64 x.2.2.1 4095) (y2.2.1.size:Int)):Nat)).bind λy4=>(idx (dP y2.2.1) (AD (bg .i64 x.2.2.1 4095) (y2.2.1.size:Int))).bind λ_=>(idx (dP y2.2.1) (AB (AD (bg .i64 x.2.2.1 4095) (y2.2.1.size:Int)):Nat)).bind λy6=>(idx x.1.2.1 x.2.1).bind λ_=>(idx x.1.2.1 (AB x.2.1:Nat)).bind λy8=>some (((x.1.1,(x.1.2.1.set (AB x.2.1) (y2.1,(fK ((dP y2.2.1).set (AB (AD (bg .i64 x.2.2.1 4095) (y2.2.1.size:Int))) (oV .u8 y4 (wr .u8 (wr .i64 (1+(bg .i64 (AE x.2.2.1 (2 ^ 12)) 127)))))),true)),x.1.2.2)),true,()),()))))
def c (K:Nat):Ctr:=⟨203,ps,rs,false,f K⟩
end Q128
namespace Q129
abbrev ps:List PK:=[.rd (.int .i64),.rd t6]
abbrev rs:List RK:=[.v .bool]
abbrev Res:=am rs×ak ps
def f (K:Nat)(x:ab ps):Option Res:=bif decide ((wr .i64 ((wr .i64 (6-(AA x.2.1.2.2.2:Int)))+1))<3) then (some ((decide ((wr .i64 (x.1-x.2.1.2.2.1))>=3),()),())) else (some ((decide ((wr .i64 (x.1-x.2.1.2.2.1))>=(wr .i64 ((wr .i64 (6-(AA x.2.1.2.2.2:Int)))+1))),()),()))
def c (K:Nat):Ctr:=⟨218,ps,rs,true,f K⟩
end Q129
namespace Q130
abbrev ps:List PK:=[.rd t26,.rd t2,.rd (.int .i64)]
abbrev rs:List RK:=[.v t26]
abbrev Res:=am rs×ak ps
def f (K:Nat)(x:ab ps):Option Res:=(Q95.f K (x.1.2.2.2.2.2.2.2.2.1,x.2.1,())).bind λy1=>bif !y1.1.2.1 then (some ((x.1,()),())) else ((Q94.f K (x.1.2.2.2.2.2.2.2.2.1,x.2.1.1,())).bind λy2=>bif decide (y2.1.1>=0) then ((idx x.1.2.2.2.2.2.2.2.2.1 y2.1.1).bind λy3=>bif y3.2.1==x.2.1.2.1 then ((idx x.1.2.2.2.2.2.2.2.2.1 y2.1.1).bind λy4=>(Q96.f K (x.1.2.2.2.2.2.2.2.2.2.1,x.2.1,())).bind λy5=>bif !(y4.2.2.1==x.2.1.2.2.1) then ((Q97.f K ((x.1.1,(x.1.2.1,(x.1.2.2.1,(x.1.2.2.2.1,(x.1.2.2.2.2.1,(x.1.2.2.2.2.2.1,(x.1.2.2.2.2.2.2.1,(x.1.2.2.2.2.2.2.2.1,(y1.1.1,(y5.1.1,x.1.2.2.2.2.2.2.2.2.2.2)))))))))),x.2.1,x.2.2.1,())).bind λy6=>some (((x.1.1,(x.1.2.1,(x.1.2.2.1,(x.1.2.2.2.1,(x.1.2.2.2.2.1,(x.1.2.2.2.2.2.1,(x.1.2.2.2.2.2.2.1,(x.1.2.2.2.2.2.2.2.1,(y1.1.1,(y5.1.1,(x.1.2.2.2.2.2.2.2.2.2.2.1,(y6.1.1,x.1.2.2.2.2.2.2.2.2.2.2.2.2)))))))))))),()),())) else (some (((x.1.1,(x.1.2.1,(x.1.2.2.1,(x.1.2.2.2.1,(x.1.2.2.2.2.1,(x.1.2.2.2.2.2.1,(x.1.2.2.2.2.2.2.1,(x.1.2.2.2.2.2.2.2.1,(y1.1.1,(y5.1.1,x.1.2.2.2.2.2.2.2.2.2.2)))))))))),()),()))) else ((Q96.f K (x.1.2.2.2.2.2.2.2.2.2.1,x.2.1,())).bind λy7=>(Q97.f K ((x.1.1,(x.1.2.1,(x.1.2.2.1,(x.1.2.2.2.1,(x.1.2.2.2.2.1,(x.1.2.2.2.2.2.1,(x.1.2.2.2.2.2.2.1,(x.1.2.2.2.2.2.2.2.1,(y1.1.1,(y7.1.1,x.1.2.2.2.2.2.2.2.2.2.2)))))))))),x.2.1,x.2.2.1,())).bind λy8=>some (((x.1.1,(x.1.2.1,(x.1.2.2.1,(x.1.2.2.2.1,(x.1.2.2.2.2.1,(x.1.2.2.2.2.2.1,(x.1.2.2.2.2.2.2.1,(x.1.2.2.2.2.2.2.2.1,(y1.1.1,(y7.1.1,(x.1.2.2.2.2.2.2.2.2.2.2.1,(y8.1.1,x.1.2.2.2.2.2.2.2.2.2.2.2.2)))))))))))),()),()))) else ((Q96.f K (x.1.2.2.2.2.2.2.2.2.2.1,x.2.1,())).bind λy9=>(Q97.f K ((x.1.1,(x.1.2.1,(x.1.2.2.1,(x.1.2.2.2.1,(x.1.2.2.2.2.1,(x.1.2.2.2.2.2.1,(x.1.2.2.2.2.2.2.1,(x.1.2.2.2.2.2.2.2.1,(y1.1.1,(y9.1.1,x.1.2.2.2.2.2.2.2.2.2.2)))))))))),x.2.1,x.2.2.1,())).bind λy10=>some (((x.1.1,(x.1.2.1,(x.1.2.2.1,(x.1.2.2.2.1,(x.1.2.2.2.2.1,(x.1.2.2.2.2.2.1,(x.1.2.2.2.2.2.2.1,(x.1.2.2.2.2.2.2.2.1,(y1.1.1,(y9.1.1,(x.1.2.2.2.2.2.2.2.2.2.2.1,(y10.1.1,x.1.2.2.2.2.2.2.2.2.2.2.2.2)))))))))))),()),())))
def c (K:Nat):Ctr:=⟨219,ps,rs,false,f K⟩
end Q130
namespace Q131
abbrev ps:List PK:=[.rd t26]
abbrev rs:List RK:=[.v t26]
abbrev Res:=am rs×ak ps
abbrev A_l0:=Int×Int×Bool×Bool×Bool×Int×Int×Int×Int×List (Ty.den t2)×List (Ty.den t3)×Int×Int×Int×Bool×List (Ty.den t6)×Int×Int×Int×Int×List (Ty.den t11)×List (Ty.den t12)
def l0.step (K:Nat)(x:ab ps)(rec_l0:A_l0->Option Res)(a:A_l0):Option Res:=bif decide (a.1<(AA x.1.2.2.2.2.2.2.2.2.2.2.2.1:Int)) then ((idx x.1.2.2.2.2.2.2.2.2.2.2.2.1 a.1).bind λy1=>(Q129.f K (a.2.2.2.2.2.2.1,y1,())).bind λy2=>bif y2.1.1 then ((idx x.1.2.2.2.2.2.2.2.2.2.2.2.1 a.1).bind λy3=>(Q94.f K (a.2.2.2.2.2.2.2.2.2.1,y3.1,())).bind λy4=>(idx a.2.2.2.2.2.2.2.2.2.1 y4.1.1).bind λy5=>(Q130.f K ((a.2.1,(a.2.2.1,(a.2.2.2.1,(a.2.2.2.2.1,(a.2.2.2.2.2.1,(a.2.2.2.2.2.2.1,(a.2.2.2.2.2.2.2.1,(a.2.2.2.2.2.2.2.2.1,(a.2.2.2.2.2.2.2.2.2.1,(a.2.2.2.2.2.2.2.2.2.2.1,((a.2.2.2.2.2.2.2.2.2.2.2.1,(a.2.2.2.2.2.2.2.2.2.2.2.2.1,(a.2.2.2.2.2.2.2.2.2.2.2.2.2.1,a.2.2.2.2.2.2.2.2.2.2.2.2.2.2.1))),(a.2.2.2.2.2.2.2.2.2.2.2.2.2.2.2.1,((a.2.2.2.2.2.2.2.2.2.2.2.2.2.2.2.2.1,(a.2.2.2.2.2.2.2.2.2.2.2.2.2.2.2.2.2.1,(a.2.2.2.2.2.2.2.2.2.2.2.2.2.2.2.2.2.2.1,a.2.2.2.2.2.2.2.2.2.2.2.2.2.2.2.2.2.2.2.1))),a.2.2.2.2.2.2.2.2.2.2.2.2.2.2.2.2.2.2.2.2))))))))))))),(y5.1,(y5.2.1,(3,y5.2.2.2))),a.2.1,())).bind λy6=>rec_l0 (wr .i64 (a.1+1),y6.1.1.1,y6.1.1.2.1,y6.1.1.2.2.1,y6.1.1.2.2.2.1,y6.1.1.2.2.2.2.1,y6.1.1.2.2.2.2.2.1,y6.1.1.2.2.2.2.2.2.1,y6.1.1.2.2.2.2.2.2.2.1,y6.1.1.2.2.2.2.2.2.2.2.1,y6.1.1.2.2.2.2.2.2.2.2.2.1,y6.1.1.2.2.2.2.2.2.2.2.2.2.1.1,y6.1.1.2.2.2.2.2.2.2.2.2.2.1.2.1,y6.1.1.2.2.2.2.2.2.2.2.2.2.1.2.2.1,y6.1.1.2.2.2.2.2.2.2.2.2.2.1.2.2.2,y6.1.1.2.2.2.2.2.2.2.2.2.2.2.1,y6.1.1.2.2.2.2.2.2.2.2.2.2.2.2.1.1,y6.1.1.2.2.2.2.2.2.2.2.2.2.2.2.1.2.1,y6.1.1.2.2.2.2.2.2.2.2.2.2.2.2.1.2.2.1,y6.1.1.2.2.2.2.2.2.2.2.2.2.2.2.1.2.2.2,y6.1.1.2.2.2.2.2.2.2.2.2.2.2.2.2.1,y6.1.1.2.2.2.2.2.2.2.2.2.2.2.2.2.2)) else (rec_l0 (wr .i64 (a.1+1),a.2.1,a.2.2.1,a.2.2.2.1,a.2.2.2.2.1,a.2.2.2.2.2.1,a.2.2.2.2.2.2.1,a.2.2.2.2.2.2.2.1,a.2.2.2.2.2.2.2.2.1,a.2.2.2.2.2.2.2.2.2.1,a.2.2.2.2.2.2.2.2.2.2.1,a.2.2.2.2.2.2.2.2.2.2.2.1,a.2.2.2.2.2.2.2.2.2.2.2.2.1,a.2.2.2.2.2.2.2.2.2.2.2.2.2.1,a.2.2.2.2.2.2.2.2.2.2.2.2.2.2.1,a.2.2.2.2.2.2.2.2.2.2.2.2.2.2.2.1,a.2.2.2.2.2.2.2.2.2.2.2.2.2.2.2.2.1,a.2.2.2.2.2.2.2.2.2.2.2.2.2.2.2.2.2.1,a.2.2.2.2.2.2.2.2.2.2.2.2.2.2.2.2.2.2.1,a.2.2.2.2.2.2.2.2.2.2.2.2.2.2.2.2.2.2.2.1,a.2.2.2.2.2.2.2.2.2.2.2.2.2.2.2.2.2.2.2.2.1,a.2.2.2.2.2.2.2.2.2.2.2.2.2.2.2.2.2.2.2.2.2))) else (some (((a.2.1,(a.2.2.1,(a.2.2.2.1,(a.2.2.2.2.1,(a.2.2.2.2.2.1,(a.2.2.2.2.2.2.1,(a.2.2.2.2.2.2.2.1,(a.2.2.2.2.2.2.2.2.1,(a.2.2.2.2.2.2.2.2.2.1,(a.2.2.2.2.2.2.2.2.2.2.1,((a.2.2.2.2.2.2.2.2.2.2.2.1,(a.2.2.2.2.2.2.2.2.2.2.2.2.1,(a.2.2.2.2.2.2.2.2.2.2.2.2.2.1,a.2.2.2.2.2.2.2.2.2.2.2.2.2.2.1))),(a.2.2.2.2.2.2.2.2.2.2.2.2.2.2.2.1,((a.2.2.2.2.2.2.2.2.2.2.2.2.2.2.2.2.1,(a.2.2.2.2.2.2.2.2.2.2.2.2.2.2.2.2.2.1,(a.2.2.2.2.2.2.2.2.2.2.2.2.2.2.2.2.2.2.1,a.2.2.2.2.2.2.2.2.2.2.2.2.2.2.2.2.2.2.2.1))),a.2.2.2.2.2.2.2.2.2.2.2.2.2.2.2.2.2.2.2.2))))))))))))),()),()))
def l0 (K:Nat)(x:ab ps):A_l0->Option Res:=ae (λrec_l0 a=>l0.step K x rec_l0 a) K
def pre (K:Nat)(N_l0:A_l0->Option Res)(x:ab ps):Option Res:=N_l0 (0,x.1.1,x.1.2.1,x.1.2.2.1,x.1.2.2.2.1,x.1.2.2.2.2.1,x.1.2.2.2.2.2.1,x.1.2.2.2.2.2.2.1,x.1.2.2.2.2.2.2.2.1,x.1.2.2.2.2.2.2.2.2.1,x.1.2.2.2.2.2.2.2.2.2.1,x.1.2.2.2.2.2.2.2.2.2.2.1.1,x.1.2.2.2.2.2.2.2.2.2.2.1.2.1,x.1.2.2.2.2.2.2.2.2.2.2.1.2.2.1,x.1.2.2.2.2.2.2.2.2.2.2.1.2.2.2,x.1.2.2.2.2.2.2.2.2.2.2.2.1,x.1.2.2.2.2.2.2.2.2.2.2.2.2.1.1,x.1.2.2.2.2.2.2.2.2.2.2.2.2.1.2.1,x.1.2.2.2.2.2.2.2.2.2.2.2.2.1.2.2.1,x.1.2.2.2.2.2.2.2.2.2.2.2.2.1.2.2.2,x.1.2.2.2.2.2.2.2.2.2.2.2.2.2.1,x.1.2.2.2.2.2.2.2.2.2.2.2.2.2.2)
def f (K:Nat)(x:ab ps):Option Res:=pre K (l0 K x) x
def c (K:Nat):Ctr:=⟨190,ps,rs,false,f K⟩
end Q131
namespace Q132
abbrev ps:List PK:=[.rd (.list false 41 t2),.rd (.int .i64)]
abbrev rs:List RK:=[.v .bool]
abbrev Res:=am rs×ak ps
def f (K:Nat)(x:ab ps):Option Res:=(Q94.f K (x.1,x.2.1,())).bind λy1=>bif decide (y1.1.1>=0) then ((idx x.1 y1.1.1).bind λy2=>bif y2.2.2.1==1 then (some ((true,()),())) else ((idx x.1 y1.1.1).bind λy3=>some ((y3.2.2.1==2,()),()))) else (some ((false,()),()))
def c (K:Nat):Ctr:=⟨220,ps,rs,true,f K⟩
end Q132
namespace Q133
abbrev ps:List PK:=[.rd t26]
abbrev rs:List RK:=[.v (.list true 3 (.int .i64))]
abbrev Res:=am rs×ak ps
abbrev A_l0:=List (Ty.den (.int .i64))×Int
def l0.step (K:Nat)(x:ab ps)(rec_l0:A_l0->Option Res)(a:A_l0):Option Res:=bif decide (a.2<(AA x.1.2.2.2.2.2.2.2.2.1:Int)) then (bif decide ((AA a.1:Int)<2) then ((idx x.1.2.2.2.2.2.2.2.2.1 a.2).bind λy1=>bif y1.1 != x.1.1 then (bif y1.1 != x.1.2.2.2.2.2.2.2.2.2.2.1.1 then (bif y1.2.2.1==1 then (bif decide ((AA a.1+AA ([y1.1]))*8<=aj) then (rec_l0 (a.1++([y1.1]),wr .i64 (a.2+1))) else none) else (rec_l0 (a.1,wr .i64 (a.2+1)))) else (rec_l0 (a.1,wr .i64 (a.2+1)))) else (rec_l0 (a.1,wr .i64 (a.2+1)))) else (some ((a.1,()),()))) else (some ((a.1,()),()))
def l0 (K:Nat)(x:ab ps):A_l0->Option Res:=ae (λrec_l0 a=>l0.step K x rec_l0 a) K
def pre (K:Nat)(N_l0:A_l0->Option Res)(x:ab ps):Option Res:=N_l0 ([],0)
def f (K:Nat)(x:ab ps):Option Res:=pre K (l0 K x) x
def c (K:Nat):Ctr:=⟨221,ps,rs,true,f K⟩
end Q133
namespace Q134
abbrev ps:List PK:=[.rd t26]
abbrev rs:List RK:=[.v t26,.v (.list true 133 t47)]
abbrev Res:=am rs×ak ps
abbrev A_l0:=List (Ty.den t47)×List (Ty.den (.int .i64))×Int
def l0.step (K:Nat)(x:ab ps)(rec_l0:A_l0->Option Res)(a:A_l0):Option Res:=bif decide (a.2.2<(AA a.2.1:Int)) then ((idx a.2.1 a.2.2).bind λ_=>(idx a.2.1 (AB a.2.2:Nat)).bind λy7=>(Q93.f K ((x.1.1,(x.1.2.1,(x.1.2.2.1,(x.1.2.2.2.1,(x.1.2.2.2.2.1,(x.1.2.2.2.2.2.1,(x.1.2.2.2.2.2.2.1,(x.1.2.2.2.2.2.2.2.1,(x.1.2.2.2.2.2.2.2.2.1,(x.1.2.2.2.2.2.2.2.2.2.1,((x.1.2.2.2.2.2.2.2.2.2.2.1.1,(x.1.2.2.2.2.2.2.2.2.2.2.1.2.1,(x.1.2.2.2.2.2.2.2.2.2.2.1.2.2.1,true))),x.1.2.2.2.2.2.2.2.2.2.2.2))))))))))),3,y7,x.1.2.2.2.2.2.2.2.2.2.2.1.2.2.1,x.1.2.2.2.2.2.2.2.2.2.2.1.1,[],())).bind λy8=>bif decide ((AA a.1+AA ([y8.1.1]))*104<=aj) then (rec_l0 (a.1++([y8.1.1]),a.2.1,wr .i64 (a.2.2+1))) else none) else (some (((x.1.1,(x.1.2.1,(x.1.2.2.1,(x.1.2.2.2.1,(x.1.2.2.2.2.1,(x.1.2.2.2.2.2.1,(x.1.2.2.2.2.2.2.1,(x.1.2.2.2.2.2.2.2.1,(x.1.2.2.2.2.2.2.2.2.1,(x.1.2.2.2.2.2.2.2.2.2.1,((x.1.2.2.2.2.2.2.2.2.2.2.1.1,(x.1.2.2.2.2.2.2.2.2.2.2.1.2.1,(x.1.2.2.2.2.2.2.2.2.2.2.1.2.2.1,true))),x.1.2.2.2.2.2.2.2.2.2.2.2))))))))))),a.1,()),()))
def l0 (K:Nat)(x:ab ps):A_l0->Option Res:=ae (λrec_l0 a=>l0.step K x rec_l0 a) K
def pre (K:Nat)(N_l0:A_l0->Option Res)(x:ab ps):Option Res:=(Q132.f K (x.1.2.2.2.2.2.2.2.2.1,x.1.2.2.2.2.2.2.2.2.2.2.1.1,())).bind λy1=>bif !y1.1.1 then (some (((x.1.1,(x.1.2.1,(x.1.2.2.1,(x.1.2.2.2.1,(x.1.2.2.2.2.1,(x.1.2.2.2.2.2.1,(x.1.2.2.2.2.2.2.1,(x.1.2.2.2.2.2.2.2.1,(x.1.2.2.2.2.2.2.2.2.1,(x.1.2.2.2.2.2.2.2.2.2.1,(((-1),(0,(0,false))),x.1.2.2.2.2.2.2.2.2.2.2.2))))))))))),[],()),())) else (bif decide ((wr .i64 (x.1.2.2.2.2.2.1-x.1.2.2.2.2.2.2.2.2.2.2.1.2.1))>=4) then ((Q94.f K (x.1.2.2.2.2.2.2.2.2.1,x.1.2.2.2.2.2.2.2.2.2.2.1.1,())).bind λy2=>(idx x.1.2.2.2.2.2.2.2.2.1 y2.1.1).bind λy3=>bif y3.2.2.1==1 then ((Q130.f K ((x.1.1,(x.1.2.1,(x.1.2.2.1,(x.1.2.2.2.1,(x.1.2.2.2.2.1,(x.1.2.2.2.2.2.1,(x.1.2.2.2.2.2.2.1,(x.1.2.2.2.2.2.2.2.1,(x.1.2.2.2.2.2.2.2.2.1,(x.1.2.2.2.2.2.2.2.2.2.1,(((-1),(0,(0,false))),x.1.2.2.2.2.2.2.2.2.2.2.2))))))))))),(y3.1,(y3.2.1,(2,y3.2.2.2))),x.1.1,())).bind λy4=>some ((y4.1.1,[],()),())) else (some (((x.1.1,(x.1.2.1,(x.1.2.2.1,(x.1.2.2.2.1,(x.1.2.2.2.2.1,(x.1.2.2.2.2.2.1,(x.1.2.2.2.2.2.2.1,(x.1.2.2.2.2.2.2.2.1,(x.1.2.2.2.2.2.2.2.2.1,(x.1.2.2.2.2.2.2.2.2.2.1,(((-1),(0,(0,false))),x.1.2.2.2.2.2.2.2.2.2.2.2))))))))))),[],()),()))) else (bif decide ((wr .i64 (x.1.2.2.2.2.2.1-x.1.2.2.2.2.2.2.2.2.2.2.1.2.1))>=2) then (bif !x.1.2.2.2.2.2.2.2.2.2.2.1.2.2.2 then ((Q133.f K ((x.1.1,(x.1.2.1,(x.1.2.2.1,(x.1.2.2.2.1,(x.1.2.2.2.2.1,(x.1.2.2.2.2.2.1,(x.1.2.2.2.2.2.2.1,(x.1.2.2.2.2.2.2.2.1,(x.1.2.2.2.2.2.2.2.2.1,(x.1.2.2.2.2.2.2.2.2.2.1,((x.1.2.2.2.2.2.2.2.2.2.2.1.1,(x.1.2.2.2.2.2.2.2.2.2.2.1.2.1,(x.1.2.2.2.2.2.2.2.2.2.2.1.2.2.1,true))),x.1.2.2.2.2.2.2.2.2.2.2.2))))))))))),())).bind λy5=>N_l0 ([],y5.1.1,0)) else (some ((x.1,[],()),()))) else (some ((x.1,[],()),()))))
def f (K:Nat)(x:ab ps):Option Res:=pre K (l0 K x) x
def c (K:Nat):Ctr:=⟨191,ps,rs,false,f K⟩
end Q134
namespace Q135
abbrev ps:List PK:=[.rd t26]
abbrev rs:List RK:=[.v (.int .i64)]
abbrev Res:=am rs×ak ps
abbrev A_l0:=Int
def l0.step (K:Nat)(x:ab ps)(rec_l0:A_l0->Option Res)(a:A_l0):Option Res:=bif decide (a<=7) then (bif (AD (wr .i64 (x.1.2.2.2.2.2.2.2.1+a)) 8) != x.1.1 then ((Q132.f K (x.1.2.2.2.2.2.2.2.2.1,AD (wr .i64 (x.1.2.2.2.2.2.2.2.1+a)) 8,())).bind λy1=>bif y1.1.1 then (some ((AD (wr .i64 (x.1.2.2.2.2.2.2.2.1+a)) 8,()),())) else (rec_l0 (wr .i64 (a+1)))) else (rec_l0 (wr .i64 (a+1)))) else (some (((-1),()),()))
def l0 (K:Nat)(x:ab ps):A_l0->Option Res:=ae (λrec_l0 a=>l0.step K x rec_l0 a) K
def pre (K:Nat)(N_l0:A_l0->Option Res)(x:ab ps):Option Res:=N_l0 0
def f (K:Nat)(x:ab ps):Option Res:=pre K (l0 K x) x
def c (K:Nat):Ctr:=⟨222,ps,rs,true,f K⟩
end Q135
namespace Q136
abbrev ps:List PK:=[.rd t26,.rd (.int .i64)]
abbrev rs:List RK:=[.v (.list true 41 t2),.v t26]
abbrev Res:=am rs×ak ps
def f (K:Nat)(x:ab ps):Option Res:=(Q109.f K (x.1.2.2.2.2.2.2.2.2.2.1,3,())).bind λy1=>(Q94.f K (x.1.2.2.2.2.2.2.2.2.1,x.2.1,())).bind λy2=>bif decide (y2.1.1>=0) then ((idx x.1.2.2.2.2.2.2.2.2.1 y2.1.1).bind λy3=>bif y3.2.2.1==2 then ((idx x.1.2.2.2.2.2.2.2.2.1 y2.1.1).bind λy4=>(Q102.f K (y1.1.1,y4,())).bind λy5=>some ((y5.1.1,(x.1.1,(x.1.2.1,(x.1.2.2.1,(x.1.2.2.2.1,(x.1.2.2.2.2.1,(x.1.2.2.2.2.2.1,(x.1.2.2.2.2.2.2.1,(x.1.2.2.2.2.2.2.2.1,(x.1.2.2.2.2.2.2.2.2.1,(y1.1.2.1,x.1.2.2.2.2.2.2.2.2.2.2)))))))))),()),())) else (some ((y1.1.1,(x.1.1,(x.1.2.1,(x.1.2.2.1,(x.1.2.2.2.1,(x.1.2.2.2.2.1,(x.1.2.2.2.2.2.1,(x.1.2.2.2.2.2.2.1,(x.1.2.2.2.2.2.2.2.1,(x.1.2.2.2.2.2.2.2.2.1,(y1.1.2.1,x.1.2.2.2.2.2.2.2.2.2.2)))))))))),()),()))) else (some ((y1.1.1,(x.1.1,(x.1.2.1,(x.1.2.2.1,(x.1.2.2.2.1,(x.1.2.2.2.2.1,(x.1.2.2.2.2.2.1,(x.1.2.2.2.2.2.2.1,(x.1.2.2.2.2.2.2.2.1,(x.1.2.2.2.2.2.2.2.2.1,(y1.1.2.1,x.1.2.2.2.2.2.2.2.2.2.2)))))))))),()),()))
def c (K:Nat):Ctr:=⟨223,ps,rs,false,f K⟩
end Q136
namespace Q137
abbrev ps:List PK:=[.rd t26]
abbrev rs:List RK:=[.v t26,.v (.list true 133 t47)]
abbrev Res:=am rs×ak ps
def f (K:Nat)(x:ab ps):Option Res:=(Q135.f K (x.1,())).bind λy1=>bif decide (y1.1.1<0) then (some ((x.1,[],()),())) else (bif decide (x.1.2.2.2.2.2.2.1>=999999) then (some ((x.1,[],()),())) else ((Q136.f K (x.1,y1.1.1,())).bind λy2=>(Q93.f K ((y2.1.2.1.1,(y2.1.2.1.2.1,(y2.1.2.1.2.2.1,(y2.1.2.1.2.2.2.1,(y2.1.2.1.2.2.2.2.1,(y2.1.2.1.2.2.2.2.2.1,(wr .i64 (y2.1.2.1.2.2.2.2.2.2.1+1),(wr .i64 (y1.1.1+1),(y2.1.2.1.2.2.2.2.2.2.2.2.1,(y2.1.2.1.2.2.2.2.2.2.2.2.2.1,((y1.1.1,(y2.1.2.1.2.2.2.2.2.1,(wr .i64 (y2.1.2.1.2.2.2.2.2.2.1+1),false))),y2.1.2.1.2.2.2.2.2.2.2.2.2.2.2))))))))))),1,y1.1.1,wr .i64 (y2.1.2.1.2.2.2.2.2.2.1+1),y2.1.2.1.1,y2.1.1,())).bind λy3=>some (((y2.1.2.1.1,(y2.1.2.1.2.1,(y2.1.2.1.2.2.1,(y2.1.2.1.2.2.2.1,(y2.1.2.1.2.2.2.2.1,(y2.1.2.1.2.2.2.2.2.1,(wr .i64 (y2.1.2.1.2.2.2.2.2.2.1+1),(wr .i64 (y1.1.1+1),(y2.1.2.1.2.2.2.2.2.2.2.2.1,(y2.1.2.1.2.2.2.2.2.2.2.2.2.1,((y1.1.1,(y2.1.2.1.2.2.2.2.2.1,(wr .i64 (y2.1.2.1.2.2.2.2.2.2.1+1),false))),y2.1.2.1.2.2.2.2.2.2.2.2.2.2.2))))))))))),[y3.1.1],()),())))
def c (K:Nat):Ctr:=⟨192,ps,rs,false,f K⟩
end Q137
namespace Q138
abbrev ps:List PK:=[.rd t26,.rd (.int .i64)]
abbrev rs:List RK:=[.v (.int .i64)]
abbrev Res:=am rs×ak ps
abbrev A_l0:=List (Ty.den (.int .i64))×Int
def l0.step (K:Nat)(x:ab ps)(rec_l0:A_l0->Option Res)(a:A_l0):Option Res:=bif decide (a.2<(AA x.1.2.2.2.2.2.2.2.2.1:Int)) then ((idx x.1.2.2.2.2.2.2.2.2.1 a.2).bind λy1=>bif y1.1 != x.1.1 then ((idx x.1.2.2.2.2.2.2.2.2.1 a.2).bind λy2=>bif y2.2.2.1 != 4 then ((idx x.1.2.2.2.2.2.2.2.2.1 a.2).bind λy3=>bif decide ((AA a.1+AA ([y3.1]))*8<=aj) then (rec_l0 (a.1++([y3.1]),wr .i64 (a.2+1))) else none) else (rec_l0 (a.1,wr .i64 (a.2+1)))) else (rec_l0 (a.1,wr .i64 (a.2+1)))) else (bif (AA a.1:Int)==0 then (some (((-1),()),())) else (bif decide ((AA a.1:Int)=0) then none else ((idx a.1 (AD (bg .i64 x.2.1 255) (AA a.1:Int))).bind λ_=>(idx a.1 (AB (AD (bg .i64 x.2.1 255) (AA a.1:Int)):Nat)).bind λy5=>some ((y5,()),()))))
def l0 (K:Nat)(x:ab ps):A_l0->Option Res:=ae (λrec_l0 a=>l0.step K x rec_l0 a) K
def pre (K:Nat)(N_l0:A_l0->Option Res)(x:ab ps):Option Res:=N_l0 ([],0)
def f (K:Nat)(x:ab ps):Option Res:=pre K (l0 K x) x
def c (K:Nat):Ctr:=⟨224,ps,rs,true,f K⟩
end Q138
namespace Q139
abbrev ps:List PK:=[.rd (.list false 41 t2),.rd (.int .i64)]
abbrev rs:List RK:=[.v (.list true 3 (.int .i64))]
abbrev Res:=am rs×ak ps
abbrev A_l0:=List (Ty.den (.int .i64))×Int
def l0.step (K:Nat)(x:ab ps)(rec_l0:A_l0->Option Res)(a:A_l0):Option Res:=bif decide (a.2<(AA x.1:Int)) then (bif decide ((AA a.1:Int)<x.2.1) then ((idx x.1 a.2).bind λy1=>bif y1.2.2.2 then ((idx x.1 a.2).bind λy2=>bif y2.2.2.1==1 then ((idx x.1 a.2).bind λy3=>bif decide ((AA a.1+AA ([y3.1]))*8<=aj) then (rec_l0 (a.1++([y3.1]),wr .i64 (a.2+1))) else none) else (rec_l0 (a.1,wr .i64 (a.2+1)))) else (rec_l0 (a.1,wr .i64 (a.2+1)))) else (some ((a.1,()),()))) else (some ((a.1,()),()))
def l0 (K:Nat)(x:ab ps):A_l0->Option Res:=ae (λrec_l0 a=>l0.step K x rec_l0 a) K
def pre (K:Nat)(N_l0:A_l0->Option Res)(x:ab ps):Option Res:=N_l0 ([],0)
def f (K:Nat)(x:ab ps):Option Res:=pre K (l0 K x) x
def c (K:Nat):Ctr:=⟨75,ps,rs,true,f K⟩
end Q139
namespace Q140
abbrev ps:List PK:=[.rd t26]
abbrev rs:List RK:=[.v .bool]
abbrev Res:=am rs×ak ps
abbrev A_l0:=List (Ty.den (.int .i64))×Int
def l0.step (K:Nat)(x:ab ps)(rec_l0:A_l0->Option Res)(a:A_l0):Option Res:=bif decide (a.2<(AA a.1:Int)) then ((idx a.1 a.2).bind λ_=>(idx a.1 (AB a.2:Nat)).bind λy3=>bif y3==x.1.1 then (some ((true,()),())) else (rec_l0 (a.1,wr .i64 (a.2+1)))) else (some ((false,()),()))
def l0 (K:Nat)(x:ab ps):A_l0->Option Res:=ae (λrec_l0 a=>l0.step K x rec_l0 a) K
def pre (K:Nat)(N_l0:A_l0->Option Res)(x:ab ps):Option Res:=(Q139.f K (x.1.2.2.2.2.2.2.2.2.1,2,())).bind λy1=>N_l0 (y1.1.1,0)
def f (K:Nat)(x:ab ps):Option Res:=pre K (l0 K x) x
def c (K:Nat):Ctr:=⟨242,ps,rs,true,f K⟩
end Q140
namespace Q141
abbrev ps:List PK:=[.rd t26,.rd (.int .i64),.rd (.int .i64)]
abbrev rs:List RK:=[.v (.int .i64)]
abbrev Res:=am rs×ak ps
abbrev A_l0:=Int
def l0.step (K:Nat)(x:ab ps)(rec_l0:A_l0->Option Res)(a:A_l0):Option Res:=bif decide (a<(AA x.1.2.2.2.2.2.2.2.2.2.2.2.2.2.2:Int)) then ((idx x.1.2.2.2.2.2.2.2.2.2.2.2.2.2.2 a).bind λy1=>bif y1.1==x.2.1 then ((idx x.1.2.2.2.2.2.2.2.2.2.2.2.2.2.2 a).bind λy2=>(Q139.f K (y2.2,2,())).bind λy3=>bif decide ((AA y3.1.1:Int)>0) then (bif (bg .i64 x.2.2.1 4)==0 then (bif decide ((AA y3.1.1:Int)=0) then none else ((idx y3.1.1 (AD (bg .i64 (AE x.2.2.1 (2 ^ 3)) 255) (AA y3.1.1:Int))).bind λ_=>(idx y3.1.1 (AB (AD (bg .i64 (AE x.2.2.1 (2 ^ 3)) 255) (AA y3.1.1:Int)):Nat)).bind λy5=>some ((y5,()),()))) else (rec_l0 (wr .i64 (a+1)))) else (rec_l0 (wr .i64 (a+1)))) else (rec_l0 (wr .i64 (a+1)))) else (some ((wr .i64 ((wr .i64 (x.2.1*4))+(bg .i64 (AE x.2.2.1 (2 ^ 3)) 3)),()),()))
def l0 (K:Nat)(x:ab ps):A_l0->Option Res:=ae (λrec_l0 a=>l0.step K x rec_l0 a) K
def pre (K:Nat)(N_l0:A_l0->Option Res)(x:ab ps):Option Res:=N_l0 0
def f (K:Nat)(x:ab ps):Option Res:=pre K (l0 K x) x
def c (K:Nat):Ctr:=⟨243,ps,rs,true,f K⟩
end Q141
namespace Q142
abbrev ps:List PK:=[.rd t26,.rd (.int .i64)]
abbrev rs:List RK:=[.v (.list true 133 t47)]
abbrev Res:=am rs×ak ps
abbrev A_l0:=List (Ty.den t47)×Int
def l0.step (K:Nat)(x:ab ps)(rec_l0:A_l0->Option Res)(a:A_l0):Option Res:=bif decide (a.2<=1) then ((Q91.f K (x.1.1,())).bind λy2=>bif a.2 != y2.1.1 then ((Q141.f K (x.1,a.2,x.2.1,())).bind λy3=>(Q93.f K (x.1,6,y3.1.1,0,x.1.1,x.1.2.2.2.2.2.2.2.2.1,())).bind λy4=>bif decide ((AA a.1+AA ([(2,y4.1.1.2)]))*104<=aj) then (rec_l0 (a.1++([(2,y4.1.1.2)]),wr .i64 (a.2+1))) else none) else (rec_l0 (a.1,wr .i64 (a.2+1)))) else (some ((a.1,()),()))
def l0 (K:Nat)(x:ab ps):A_l0->Option Res:=ae (λrec_l0 a=>l0.step K x rec_l0 a) K
def pre (K:Nat)(N_l0:A_l0->Option Res)(x:ab ps):Option Res:=(Q140.f K (x.1,())).bind λy1=>bif !y1.1.1 then (some (([],()),())) else (N_l0 ([],0))
def f (K:Nat)(x:ab ps):Option Res:=pre K (l0 K x) x
def c (K:Nat):Ctr:=⟨225,ps,rs,true,f K⟩
end Q142
namespace Q143
abbrev ps:List PK:=[.rd t26,.rd (.int .i64)]
abbrev rs:List RK:=[.v (.list true 133 t47)]
abbrev Res:=am rs×ak ps
def f (K:Nat)(x:ab ps):Option Res:=(Q138.f K (x.1,AE x.2.1 (2 ^ 2),())).bind λy1=>bif (bg .i64 x.2.1 3)==0 then (bif decide (y1.1.1>=0) then ((Q93.f K (x.1,4,y1.1.1,0,x.1.1,x.1.2.2.2.2.2.2.2.2.1,())).bind λy2=>some (([y2.1.1],()),())) else (bif (bg .i64 x.2.1 3)==1 then ((Q142.f K (x.1,AE x.2.1 (2 ^ 2),())).bind λy3=>some ((y3.1.1,()),())) else (bif (bg .i64 x.2.1 3)==2 then (bif decide (y1.1.1>=0) then (bif decide ((AA x.1.2.2.2.2.2.2.2.2.2.2.2.2.2.2:Int)>0) then (bif decide ((AA x.1.2.2.2.2.2.2.2.2.2.2.2.2.2.2:Int)=0) then none else ((idx x.1.2.2.2.2.2.2.2.2.2.2.2.2.2.2 (AD (bg .i64 (AE x.2.1 (2 ^ 10)) 255) (AA x.1.2.2.2.2.2.2.2.2.2.2.2.2.2.2:Int))).bind λy4=>(Q93.f K (x.1,6,y1.1.1,0,x.1.1,y4.2,())).bind λy5=>some (([y5.1.1],()),()))) else (some (([],()),()))) else (some (([],()),()))) else (some (([],()),()))))) else (bif (bg .i64 x.2.1 3)==1 then ((Q142.f K (x.1,AE x.2.1 (2 ^ 2),())).bind λy6=>some ((y6.1.1,()),())) else (bif (bg .i64 x.2.1 3)==2 then (bif decide (y1.1.1>=0) then (bif decide ((AA x.1.2.2.2.2.2.2.2.2.2.2.2.2.2.2:Int)>0) then (bif decide ((AA x.1.2.2.2.2.2.2.2.2.2.2.2.2.2.2:Int)=0) then none else ((idx x.1.2.2.2.2.2.2.2.2.2.2.2.2.2.2 (AD (bg .i64 (AE x.2.1 (2 ^ 10)) 255) (AA x.1.2.2.2.2.2.2.2.2.2.2.2.2.2.2:Int))).bind λy7=>(Q93.f K (x.1,6,y1.1.1,0,x.1.1,y7.2,())).bind λy8=>some (([y8.1.1],()),()))) else (some (([],()),()))) else (some (([],()),()))) else (some (([],()),()))))
def c (K:Nat):Ctr:=⟨193,ps,rs,true,f K⟩
end Q143
namespace Q144
abbrev ps:List PK:=[.rd t26,.rd (.int .i64)]
abbrev rs:List RK:=[.v t26,.v (.list true 133 t47)]
abbrev Res:=am rs×ak ps
def f (K:Nat)(x:ab ps):Option Res:=bif !x.1.2.1 then (some ((x.1,[],()),())) else (bif x.1.2.2.1 then (some ((x.1,[],()),())) else (bif decide (x.1.2.2.2.2.2.1>=999999) then (some ((x.1,[],()),())) else ((Q131.f K ((x.1.1,(x.1.2.1,(x.1.2.2.1,(x.1.2.2.2.1,(x.1.2.2.2.2.1,(wr .i64 (x.1.2.2.2.2.2.1+1),x.1.2.2.2.2.2.2)))))),())).bind λy1=>bif decide (y1.1.1.2.2.2.2.2.2.2.2.2.2.1.1>=0) then ((Q134.f K (y1.1.1,())).bind λy2=>bif decide (y2.1.1.2.2.2.2.2.2.2.2.2.2.1.1<0) then ((Q137.f K (y2.1.1,())).bind λy3=>bif decide ((AA y2.1.2.1+AA y3.1.2.1)*104<=aj) then ((Q143.f K (y3.1.1,x.2.1,())).bind λy4=>bif decide ((AA (y2.1.2.1++y3.1.2.1)+AA y4.1.1)*104<=aj) then (some ((y3.1.1,(y2.1.2.1++y3.1.2.1)++y4.1.1,()),())) else none) else none) else ((Q143.f K (y2.1.1,x.2.1,())).bind λy5=>bif decide ((AA y2.1.2.1+AA y5.1.1)*104<=aj) then (some ((y2.1.1,y2.1.2.1++y5.1.1,()),())) else none)) else (bif decide (y1.1.1.2.2.2.2.2.2.2.2.2.2.1.1<0) then ((Q137.f K (y1.1.1,())).bind λy6=>bif decide ((AA ([]:List (Ty.den t47))+AA y6.1.2.1)*104<=aj) then ((Q143.f K (y6.1.1,x.2.1,())).bind λy7=>bif decide ((AA ([]++y6.1.2.1)+AA y7.1.1)*104<=aj) then (some ((y6.1.1,([]++y6.1.2.1)++y7.1.1,()),())) else none) else none) else ((Q143.f K (y1.1.1,x.2.1,())).bind λy8=>bif decide ((AA ([]:List (Ty.den t47))+AA y8.1.1)*104<=aj) then (some ((y1.1.1,[]++y8.1.1,()),())) else none)))))
def c (K:Nat):Ctr:=⟨162,ps,rs,false,f K⟩
end Q144
namespace Q145
abbrev ps:List PK:=[.own t76,.rd t26,.rd (.list false 133 t47),.rd (.list false 41 t2)]
abbrev rs:List RK:=[.v t65]
abbrev Res:=am rs×ak ps
def f (K:Nat)(x:ab ps):Option Res:=(idx x.1.1 x.2.1.1).bind λ_=>(idx x.1.1 (AB x.2.1.1:Nat)).bind λy2=>(idx x.1.1 x.2.1.1).bind λ_=>(idx x.1.1 (AB x.2.1.1:Nat)).bind λy4=>(Q81.f K ((x.1.1.set (AB x.2.1.1) x.2.1,x.1.2),y2.2.2.2.2.2.2.2.2.1,x.2.2.2.1,x.2.1.2.2.2.2.2.2.2.2.1,())).bind λy5=>(Q76.f K (y5.1.1,x.2.1.1,x.2.2.1,())).bind λy6=>some ((y6.1.1,()),())
def c (K:Nat):Ctr:=⟨163,ps,rs,false,f K⟩
end Q145
namespace Q146
abbrev ps:List PK:=[.rd (.int .i64),.rd .bool]
abbrev rs:List RK:=[.v t26]
abbrev Res:=am rs×ak ps
def f (K:Nat)(x:ab ps):Option Res:=some (((x.1,(false,(false,(x.2.1,(0,(0,(0,(0,([],([],((0,(0,(0,false))),([],((0,(0,(0,0))),([],[])))))))))))))),()),())
def c (K:Nat):Ctr:=⟨228,ps,rs,true,f K⟩
end Q146
namespace Q147
abbrev ps:List PK:=[.own t76,.rd (.int .i64)]
abbrev rs:List RK:=[.v t65]
abbrev Res:=am rs×ak ps
def f (K:Nat)(x:ab ps):Option Res:=(Q59.f K (x.2.1,())).bind λy1=>(Q58.f K (x.2.1,y1.1.1,())).bind λy2=>(idx x.1.1 x.2.1).bind λ_=>(idx x.1.1 (AB x.2.1:Nat)).bind λy4=>(idx y2.1.1.2.2.2.2.2.2.2.2.1 0).bind λy5=>(Q80.f K (x.1.2.2.2,y5,())).bind λy6=>some (((x.1.1.set (AB x.2.1) y2.1.1,(x.1.2.1,(x.1.2.2.1,y6.1.1))),()),())
def c (K:Nat):Ctr:=⟨229,ps,rs,false,f K⟩
end Q147
namespace Q148
abbrev ps:List PK:=[.rd t26]
abbrev rs:List RK:=[.v t26,.v (.list true 133 t47)]
abbrev Res:=am rs×ak ps
abbrev A_l0:=List (Ty.den t47)×Int×Int×Bool×Bool×Int×Int×Int×Int×List (Ty.den t2)×List (Ty.den t3)×Int×Int×Int×Bool×List (Ty.den t6)×Int×Int×Int×Int×List (Ty.den t11)×List (Ty.den t12)
def l0.step (K:Nat)(x:ab ps)(rec_l0:A_l0->Option Res)(a:A_l0):Option Res:=bif decide (a.2.1<(AA a.2.2.2.2.2.2.2.2.2.1:Int)) then ((idx a.2.2.2.2.2.2.2.2.2.1 a.2.1).bind λy2=>bif y2.1 != a.2.2.1 then ((idx a.2.2.2.2.2.2.2.2.2.1 a.2.1).bind λy3=>(Q132.f K (a.2.2.2.2.2.2.2.2.2.1,y3.1,())).bind λy4=>bif y4.1.1 then ((idx a.2.2.2.2.2.2.2.2.2.1 a.2.1).bind λy5=>(Q93.f K ((a.2.2.1,(a.2.2.2.1,(true,(a.2.2.2.2.1,(a.2.2.2.2.2.1,(a.2.2.2.2.2.2.1,(a.2.2.2.2.2.2.2.1,(a.2.2.2.2.2.2.2.2.1,(a.2.2.2.2.2.2.2.2.2.1,(a.2.2.2.2.2.2.2.2.2.2.1,((a.2.2.2.2.2.2.2.2.2.2.2.1,(a.2.2.2.2.2.2.2.2.2.2.2.2.1,(a.2.2.2.2.2.2.2.2.2.2.2.2.2.1,a.2.2.2.2.2.2.2.2.2.2.2.2.2.2.1))),(a.2.2.2.2.2.2.2.2.2.2.2.2.2.2.2.1,((a.2.2.2.2.2.2.2.2.2.2.2.2.2.2.2.2.1,(a.2.2.2.2.2.2.2.2.2.2.2.2.2.2.2.2.2.1,(a.2.2.2.2.2.2.2.2.2.2.2.2.2.2.2.2.2.2.1,a.2.2.2.2.2.2.2.2.2.2.2.2.2.2.2.2.2.2.2.1))),a.2.2.2.2.2.2.2.2.2.2.2.2.2.2.2.2.2.2.2.2))))))))))))),5,y5.1,0,a.2.2.1,a.2.2.2.2.2.2.2.2.2.1,())).bind λy6=>bif decide ((AA a.1+AA ([y6.1.1]))*104<=aj) then (rec_l0 (a.1++([y6.1.1]),wr .i64 (a.2.1+1),a.2.2.1,a.2.2.2.1,a.2.2.2.2.1,a.2.2.2.2.2.1,a.2.2.2.2.2.2.1,a.2.2.2.2.2.2.2.1,a.2.2.2.2.2.2.2.2.1,a.2.2.2.2.2.2.2.2.2.1,a.2.2.2.2.2.2.2.2.2.2.1,a.2.2.2.2.2.2.2.2.2.2.2.1,a.2.2.2.2.2.2.2.2.2.2.2.2.1,a.2.2.2.2.2.2.2.2.2.2.2.2.2.1,a.2.2.2.2.2.2.2.2.2.2.2.2.2.2.1,a.2.2.2.2.2.2.2.2.2.2.2.2.2.2.2.1,a.2.2.2.2.2.2.2.2.2.2.2.2.2.2.2.2.1,a.2.2.2.2.2.2.2.2.2.2.2.2.2.2.2.2.2.1,a.2.2.2.2.2.2.2.2.2.2.2.2.2.2.2.2.2.2.1,a.2.2.2.2.2.2.2.2.2.2.2.2.2.2.2.2.2.2.2.1,a.2.2.2.2.2.2.2.2.2.2.2.2.2.2.2.2.2.2.2.2.1,a.2.2.2.2.2.2.2.2.2.2.2.2.2.2.2.2.2.2.2.2.2)) else none) else (rec_l0 (a.1,wr .i64 (a.2.1+1),a.2.2.1,a.2.2.2.1,a.2.2.2.2.1,a.2.2.2.2.2.1,a.2.2.2.2.2.2.1,a.2.2.2.2.2.2.2.1,a.2.2.2.2.2.2.2.2.1,a.2.2.2.2.2.2.2.2.2.1,a.2.2.2.2.2.2.2.2.2.2.1,a.2.2.2.2.2.2.2.2.2.2.2.1,a.2.2.2.2.2.2.2.2.2.2.2.2.1,a.2.2.2.2.2.2.2.2.2.2.2.2.2.1,a.2.2.2.2.2.2.2.2.2.2.2.2.2.2.1,a.2.2.2.2.2.2.2.2.2.2.2.2.2.2.2.1,a.2.2.2.2.2.2.2.2.2.2.2.2.2.2.2.2.1,a.2.2.2.2.2.2.2.2.2.2.2.2.2.2.2.2.2.1,a.2.2.2.2.2.2.2.2.2.2.2.2.2.2.2.2.2.2.1,a.2.2.2.2.2.2.2.2.2.2.2.2.2.2.2.2.2.2.2.1,a.2.2.2.2.2.2.2.2.2.2.2.2.2.2.2.2.2.2.2.2.1,a.2.2.2.2.2.2.2.2.2.2.2.2.2.2.2.2.2.2.2.2.2))) else (rec_l0 (a.1,wr .i64 (a.2.1+1),a.2.2.1,a.2.2.2.1,a.2.2.2.2.1,a.2.2.2.2.2.1,a.2.2.2.2.2.2.1,a.2.2.2.2.2.2.2.1,a.2.2.2.2.2.2.2.2.1,a.2.2.2.2.2.2.2.2.2.1,a.2.2.2.2.2.2.2.2.2.2.1,a.2.2.2.2.2.2.2.2.2.2.2.1,a.2.2.2.2.2.2.2.2.2.2.2.2.1,a.2.2.2.2.2.2.2.2.2.2.2.2.2.1,a.2.2.2.2.2.2.2.2.2.2.2.2.2.2.1,a.2.2.2.2.2.2.2.2.2.2.2.2.2.2.2.1,a.2.2.2.2.2.2.2.2.2.2.2.2.2.2.2.2.1,a.2.2.2.2.2.2.2.2.2.2.2.2.2.2.2.2.2.1,a.2.2.2.2.2.2.2.2.2.2.2.2.2.2.2.2.2.2.1,a.2.2.2.2.2.2.2.2.2.2.2.2.2.2.2.2.2.2.2.1,a.2.2.2.2.2.2.2.2.2.2.2.2.2.2.2.2.2.2.2.2.1,a.2.2.2.2.2.2.2.2.2.2.2.2.2.2.2.2.2.2.2.2.2))) else (some (((a.2.2.1,(a.2.2.2.1,(true,(a.2.2.2.2.1,(a.2.2.2.2.2.1,(a.2.2.2.2.2.2.1,(a.2.2.2.2.2.2.2.1,(a.2.2.2.2.2.2.2.2.1,(a.2.2.2.2.2.2.2.2.2.1,(a.2.2.2.2.2.2.2.2.2.2.1,((a.2.2.2.2.2.2.2.2.2.2.2.1,(a.2.2.2.2.2.2.2.2.2.2.2.2.1,(a.2.2.2.2.2.2.2.2.2.2.2.2.2.1,a.2.2.2.2.2.2.2.2.2.2.2.2.2.2.1))),(a.2.2.2.2.2.2.2.2.2.2.2.2.2.2.2.1,((a.2.2.2.2.2.2.2.2.2.2.2.2.2.2.2.2.1,(a.2.2.2.2.2.2.2.2.2.2.2.2.2.2.2.2.2.1,(a.2.2.2.2.2.2.2.2.2.2.2.2.2.2.2.2.2.2.1,a.2.2.2.2.2.2.2.2.2.2.2.2.2.2.2.2.2.2.2.1))),a.2.2.2.2.2.2.2.2.2.2.2.2.2.2.2.2.2.2.2.2))))))))))))),a.1,()),()))
def l0 (K:Nat)(x:ab ps):A_l0->Option Res:=ae (λrec_l0 a=>l0.step K x rec_l0 a) K
def pre (K:Nat)(N_l0:A_l0->Option Res)(x:ab ps):Option Res:=bif !x.1.2.1 then (some ((x.1,[],()),())) else (bif x.1.2.2.1 then (some ((x.1,[],()),())) else ((Q130.f K (x.1,(x.1.1,(x.1.2.2.2.2.1,(4,x.1.2.2.2.1))),x.1.1,())).bind λy1=>N_l0 ([],0,y1.1.1.1,y1.1.1.2.1,y1.1.1.2.2.2.1,y1.1.1.2.2.2.2.1,y1.1.1.2.2.2.2.2.1,y1.1.1.2.2.2.2.2.2.1,y1.1.1.2.2.2.2.2.2.2.1,y1.1.1.2.2.2.2.2.2.2.2.1,y1.1.1.2.2.2.2.2.2.2.2.2.1,y1.1.1.2.2.2.2.2.2.2.2.2.2.1.1,y1.1.1.2.2.2.2.2.2.2.2.2.2.1.2.1,y1.1.1.2.2.2.2.2.2.2.2.2.2.1.2.2.1,y1.1.1.2.2.2.2.2.2.2.2.2.2.1.2.2.2,y1.1.1.2.2.2.2.2.2.2.2.2.2.2.1,y1.1.1.2.2.2.2.2.2.2.2.2.2.2.2.1.1,y1.1.1.2.2.2.2.2.2.2.2.2.2.2.2.1.2.1,y1.1.1.2.2.2.2.2.2.2.2.2.2.2.2.1.2.2.1,y1.1.1.2.2.2.2.2.2.2.2.2.2.2.2.1.2.2.2,y1.1.1.2.2.2.2.2.2.2.2.2.2.2.2.2.1,y1.1.1.2.2.2.2.2.2.2.2.2.2.2.2.2.2)))
def f (K:Nat)(x:ab ps):Option Res:=pre K (l0 K x) x
def c (K:Nat):Ctr:=⟨230,ps,rs,false,f K⟩
end Q148
namespace Q149
abbrev ps:List PK:=[.own t76,.rd t2]
abbrev rs:List RK:=[.v t65,.v .bool]
abbrev Res:=am rs×ak ps
def f (K:Nat)(x:ab ps):Option Res:=(idx x.1.1 x.2.1.2.1).bind λ_=>(idx x.1.1 (AB x.2.1.2.1:Nat)).bind λy2=>bif x.2.1.1==5 then ((Q111.f K (x.2.1.2.2.1,0,2,())).bind λy3=>(idx x.1.2.2.1 x.2.1.2.1).bind λ_=>(idx x.1.2.2.1 (AB x.2.1.2.1:Nat)).bind λy5=>some (((x.1.1,(x.1.2.1,(x.1.2.2.1.set (AB x.2.1.2.1) y3.1.1,x.1.2.2.2))),true,()),())) else (bif x.2.1.1==6 then ((Q146.f K (y2.1,y2.2.2.2.1,())).bind λy6=>(idx x.1.1 x.2.1.2.1).bind λ_=>(idx x.1.1 (AB x.2.1.2.1:Nat)).bind λy8=>some (((x.1.1.set (AB x.2.1.2.1) y6.1.1,x.1.2),y2.2.1,()),())) else (bif x.2.1.1==7 then (bif y2.2.1 then (some ((x.1,false,()),())) else ((Q147.f K (x.1,x.2.1.2.1,())).bind λy9=>some ((y9.1.1,true,()),()))) else (bif !y2.2.1 then (some ((x.1,false,()),())) else (bif y2.2.2.1 then (some ((x.1,false,()),())) else (bif x.2.1.1==1 then (bif decide (y2.2.2.2.2.2.1>=999999) then (some ((x.1,false,()),())) else ((Q144.f K (y2,x.2.1.2.2.1,())).bind λy10=>(Q145.f K (x.1,y10.1.1,y10.1.2.1,[],())).bind λy11=>some ((y11.1.1,true,()),()))) else (bif x.2.1.1==8 then ((Q148.f K (y2,())).bind λy12=>(Q145.f K (x.1,y12.1.1,y12.1.2.1,[],())).bind λy13=>some ((y13.1.1,true,()),())) else (bif x.2.1.1==9 then ((Q56.f K (x.2.1.2.2.1,0,7,())).bind λy14=>bif !y14.1.1 then (some ((x.1,false,()),())) else (bif x.2.1.2.2.1==y2.1 then (some ((x.1,false,()),())) else ((Q91.f K (x.2.1.2.2.1,())).bind λy15=>(Q91.f K (y2.1,())).bind λy16=>bif y15.1.1 != y16.1.1 then (some ((x.1,false,()),())) else ((Q93.f K (y2,4,x.2.1.2.2.1,0,y2.1,y2.2.2.2.2.2.2.2.2.1,())).bind λy17=>(Q145.f K (x.1,y2,[y17.1.1],[],())).bind λy18=>some ((y18.1.1,true,()),()))))) else (some ((x.1,false,()),())))))))))
def c (K:Nat):Ctr:=⟨204,ps,rs,false,f K⟩
end Q149
namespace Q150
abbrev ps:List PK:=[.own t68,.rd t2]
def c (K:Nat):Ctr:=⟨204,ps,Q149.rs,false,Q149.f K⟩
end Q150
namespace Q151
abbrev ps:List PK:=[.own t68,.rd t2]
abbrev rs:List RK:=[.v t65,.v .bool]
abbrev Res:=am rs×ak ps
def f (K:Nat)(x:ab ps):Option Res:=bif x.2.1.1==2 then ((Q56.f K (x.2.1.2.1,0,wr .i64 ((AA x.1.2.1:Int)-1),())).bind λy1=>bif !y1.1.1 then (some ((x.1,false,()),())) else (bif x.2.1.1==2 then ((Q127.f K (x.1,x.2.1.2.1,x.2.1.2.2.2,())).bind λy2=>some ((y2.1.1,true,()),())) else (bif x.2.1.1==4 then ((Q128.f K (x.1,x.2.1.2.1,x.2.1.2.2.1,())).bind λy3=>some ((y3.1.1,y3.1.2.1,()),())) else ((Q83.f K (x.1.2.1,x.2.1.2.1,())).bind λy4=>some (((x.1.1,(y4.1.1,x.1.2.2)),true,()),()))))) else (bif x.2.1.1==3 then ((Q56.f K (x.2.1.2.1,0,wr .i64 ((AA x.1.2.1:Int)-1),())).bind λy5=>bif !y5.1.1 then (some ((x.1,false,()),())) else (bif x.2.1.1==2 then ((Q127.f K (x.1,x.2.1.2.1,x.2.1.2.2.2,())).bind λy6=>some ((y6.1.1,true,()),())) else (bif x.2.1.1==4 then ((Q128.f K (x.1,x.2.1.2.1,x.2.1.2.2.1,())).bind λy7=>some ((y7.1.1,y7.1.2.1,()),())) else ((Q83.f K (x.1.2.1,x.2.1.2.1,())).bind λy8=>some (((x.1.1,(y8.1.1,x.1.2.2)),true,()),()))))) else (bif x.2.1.1==4 then ((Q56.f K (x.2.1.2.1,0,wr .i64 ((AA x.1.2.1:Int)-1),())).bind λy9=>bif !y9.1.1 then (some ((x.1,false,()),())) else (bif x.2.1.1==2 then ((Q127.f K (x.1,x.2.1.2.1,x.2.1.2.2.2,())).bind λy10=>some ((y10.1.1,true,()),())) else (bif x.2.1.1==4 then ((Q128.f K (x.1,x.2.1.2.1,x.2.1.2.2.1,())).bind λy11=>some ((y11.1.1,y11.1.2.1,()),())) else ((Q83.f K (x.1.2.1,x.2.1.2.1,())).bind λy12=>some (((x.1.1,(y12.1.1,x.1.2.2)),true,()),()))))) else ((Q56.f K (x.2.1.2.1,0,7,())).bind λy13=>bif !y13.1.1 then (some ((x.1,false,()),())) else ((Q149.f K (x.1,x.2.1,())).bind λy14=>some ((y14.1.1,y14.1.2.1,()),())))))
def c (K:Nat):Ctr:=⟨181,ps,rs,false,f K⟩
end Q151
namespace Q152
abbrev ps:List PK:=[.rd t65,.io (.list true 171 t2)]
abbrev rs:List RK:=[.v t65]
abbrev Res:=am rs×ak ps
abbrev A_l0:=Int×List (Ty.den t26)×List (Ty.den t40)×List (Ty.den (.int .i64))×List (Ty.den t2)
def l0.step (K:Nat)(x:ab ps)(rec_l0:A_l0->Option Res)(a:A_l0):Option Res:=bif decide (a.1<(AA x.2.1:Int)) then ((Q55.f K (a.2,())).bind λy1=>(idx x.2.1 a.1).bind λ_=>(idx x.2.1 (AB a.1:Nat)).bind λy3=>(Q151.f K (y1.1.1,y3,())).bind λy4=>bif y4.1.2.1 then (rec_l0 (wr .i64 (a.1+1),y4.1.1.1,y4.1.1.2.1,y4.1.1.2.2.1,y4.1.1.2.2.2)) else (rec_l0 (wr .i64 (a.1+1),a.2.1,a.2.2.1,a.2.2.2.1,a.2.2.2.2))) else (some ((a.2,()),(x.2.1,())))
def l0 (K:Nat)(x:ab ps):A_l0->Option Res:=ae (λrec_l0 a=>l0.step K x rec_l0 a) K
def pre (K:Nat)(N_l0:A_l0->Option Res)(x:ab ps):Option Res:=N_l0 (0,x.1.1,x.1.2.1,x.1.2.2.1,x.1.2.2.2)
def f (K:Nat)(x:ab ps):Option Res:=pre K (l0 K x) x
def c (K:Nat):Ctr:=⟨179,ps,rs,false,f K⟩
end Q152
namespace Q153
abbrev ps:List PK:=[.iop t48,.rd t65]
abbrev rs:List RK:=[.v (.int .i64)]
abbrev Res:=am rs×ak ps
def f (K:Nat)(x:ab ps):Option Res:=bif (AA x.2.1.2.1:Int)==0 then (some ((0,()),(x.1,()))) else ((Q53.f K (x.1,3,())).bind λy1=>bif decide (y1.1.1>0) then (bif decide ((AA x.2.1.2.1:Int)>4) then ((Q53.f K (y1.2.1,4,())).bind λy2=>some ((y2.1.1,()),(y2.2.1,()))) else ((Q53.f K (y1.2.1,(AA x.2.1.2.1:Int),())).bind λy3=>some ((y3.1.1,()),(y3.2.1,())))) else ((Q53.f K (y1.2.1,(AA x.2.1.2.1:Int),())).bind λy4=>some ((y4.1.1,()),(y4.2.1,()))))
def c (K:Nat):Ctr:=⟨202,ps,rs,false,f K⟩
end Q153
namespace Q154
abbrev ps:List PK:=[.iop t48,.rd t65]
abbrev rs:List RK:=[.v t2]
abbrev Res:=am rs×ak ps
def f (K:Nat)(x:ab ps):Option Res:=(Q53.f K (x.1,8,())).bind λy1=>(Q53.f K (y1.2.1,256,())).bind λy2=>(Q53.f K (y2.2.1,16,())).bind λy3=>(Q53.f K (y3.2.1,40,())).bind λy4=>bif y4.1.1==0 then ((Q153.f K (y4.2.1,x.2.1,())).bind λy5=>some (((3,(y5.1.1,(0,false))),()),(y5.2.1,()))) else (bif y4.1.1==1 then ((Q153.f K (y4.2.1,x.2.1,())).bind λy6=>some (((3,(y6.1.1,(0,false))),()),(y6.2.1,()))) else (bif y4.1.1==2 then ((Q153.f K (y4.2.1,x.2.1,())).bind λy7=>(Q53.f K (y7.2.1,128,())).bind λy8=>some (((4,(y7.1.1,(wr .i64 ((wr .i64 ((wr .i64 ((wr .i64 (y2.1.1*16))+y3.1.1))*16))+(wr .i64 (y8.1.1*4096))),false))),()),(y8.2.1,()))) else (bif y4.1.1==3 then ((Q53.f K (y4.2.1,3,())).bind λy9=>some (((5,(y1.1.1,(y9.1.1,false))),()),(y9.2.1,()))) else (bif y4.1.1==4 then ((Q53.f K (y4.2.1,3,())).bind λy10=>some (((5,(y1.1.1,(y10.1.1,false))),()),(y10.2.1,()))) else (bif y4.1.1==5 then (some (((6,(y1.1.1,(0,false))),()),(y4.2.1,()))) else (bif y4.1.1==6 then (some (((7,(y1.1.1,(0,false))),()),(y4.2.1,()))) else (bif y4.1.1==7 then (some (((7,(y1.1.1,(0,false))),()),(y4.2.1,()))) else (bif y4.1.1==8 then ((Q53.f K (y4.2.1,3,())).bind λy11=>bif y11.1.1==0 then (some (((8,(y1.1.1,(0,false))),()),(y11.2.1,()))) else (some (((1,(y1.1.1,(wr .i64 ((wr .i64 (y2.1.1*16))+y3.1.1),false))),()),(y11.2.1,())))) else (bif y4.1.1==9 then ((Q53.f K (y4.2.1,4,())).bind λy12=>some (((9,(y1.1.1,(wr .i64 ((wr .i64 ((wr .i64 (AC y1.1.1 4))*4))+y12.1.1),false))),()),(y12.2.1,()))) else (bif y4.1.1==10 then ((Q53.f K (y4.2.1,4,())).bind λy13=>some (((9,(y1.1.1,(wr .i64 ((wr .i64 ((wr .i64 (AC y1.1.1 4))*4))+y13.1.1),false))),()),(y13.2.1,()))) else (bif y4.1.1==11 then ((Q53.f K (y4.2.1,4,())).bind λy14=>some (((9,(y1.1.1,(wr .i64 ((wr .i64 ((wr .i64 (AC y1.1.1 4))*4))+y14.1.1),false))),()),(y14.2.1,()))) else (bif y4.1.1==12 then (bif decide ((AA x.2.1.2.1:Int)>0) then ((Q153.f K (y4.2.1,x.2.1,())).bind λy15=>(Q53.f K (y15.2.1,10,())).bind λy16=>some (((2,(y15.1.1,(0,y16.1.1==0))),()),(y16.2.1,()))) else (some (((1,(y1.1.1,(wr .i64 ((wr .i64 (y2.1.1*16))+y3.1.1),false))),()),(y4.2.1,())))) else (bif y4.1.1==13 then (bif decide ((AA x.2.1.2.1:Int)>0) then ((Q153.f K (y4.2.1,x.2.1,())).bind λy17=>(Q53.f K (y17.2.1,10,())).bind λy18=>some (((2,(y17.1.1,(0,y18.1.1==0))),()),(y18.2.1,()))) else (some (((1,(y1.1.1,(wr .i64 ((wr .i64 (y2.1.1*16))+y3.1.1),false))),()),(y4.2.1,())))) else (bif y4.1.1==14 then (bif decide ((AA x.2.1.2.1:Int)>0) then ((Q153.f K (y4.2.1,x.2.1,())).bind λy19=>(Q53.f K (y19.2.1,10,())).bind λy20=>some (((2,(y19.1.1,(0,y20.1.1==0))),()),(y20.2.1,()))) else (some (((1,(y1.1.1,(wr .i64 ((wr .i64 (y2.1.1*16))+y3.1.1),false))),()),(y4.2.1,())))) else (bif y4.1.1==15 then (bif decide ((AA x.2.1.2.1:Int)>0) then ((Q153.f K (y4.2.1,x.2.1,())).bind λy21=>(Q53.f K (y21.2.1,10,())).bind λy22=>some (((2,(y21.1.1,(0,y22.1.1==0))),()),(y22.2.1,()))) else (some (((1,(y1.1.1,(wr .i64 ((wr .i64 (y2.1.1*16))+y3.1.1),false))),()),(y4.2.1,())))) else (bif y4.1.1==16 then (bif decide ((AA x.2.1.2.1:Int)>0) then ((Q153.f K (y4.2.1,x.2.1,())).bind λy23=>(Q53.f K (y23.2.1,10,())).bind λy24=>some (((2,(y23.1.1,(0,y24.1.1==0))),()),(y24.2.1,()))) else (some (((1,(y1.1.1,(wr .i64 ((wr .i64 (y2.1.1*16))+y3.1.1),false))),()),(y4.2.1,())))) else (bif y4.1.1==17 then (bif decide ((AA x.2.1.2.1:Int)>0) then ((Q153.f K (y4.2.1,x.2.1,())).bind λy25=>(Q53.f K (y25.2.1,10,())).bind λy26=>some (((2,(y25.1.1,(0,y26.1.1==0))),()),(y26.2.1,()))) else (some (((1,(y1.1.1,(wr .i64 ((wr .i64 (y2.1.1*16))+y3.1.1),false))),()),(y4.2.1,())))) else (bif y4.1.1==18 then (bif decide ((AA x.2.1.2.1:Int)>0) then ((Q153.f K (y4.2.1,x.2.1,())).bind λy27=>(Q53.f K (y27.2.1,10,())).bind λy28=>some (((2,(y27.1.1,(0,y28.1.1==0))),()),(y28.2.1,()))) else (some (((1,(y1.1.1,(wr .i64 ((wr .i64 (y2.1.1*16))+y3.1.1),false))),()),(y4.2.1,())))) else (bif y4.1.1==19 then (bif decide ((AA x.2.1.2.1:Int)>0) then ((Q153.f K (y4.2.1,x.2.1,())).bind λy29=>(Q53.f K (y29.2.1,10,())).bind λy30=>some (((2,(y29.1.1,(0,y30.1.1==0))),()),(y30.2.1,()))) else (some (((1,(y1.1.1,(wr .i64 ((wr .i64 (y2.1.1*16))+y3.1.1),false))),()),(y4.2.1,())))) else (bif y4.1.1==20 then (bif decide ((AA x.2.1.2.1:Int)>0) then ((Q153.f K (y4.2.1,x.2.1,())).bind λy31=>(Q53.f K (y31.2.1,10,())).bind λy32=>some (((2,(y31.1.1,(0,y32.1.1==0))),()),(y32.2.1,()))) else (some (((1,(y1.1.1,(wr .i64 ((wr .i64 (y2.1.1*16))+y3.1.1),false))),()),(y4.2.1,())))) else (bif y4.1.1==21 then (bif decide ((AA x.2.1.2.1:Int)>0) then ((Q153.f K (y4.2.1,x.2.1,())).bind λy33=>(Q53.f K (y33.2.1,10,())).bind λy34=>some (((2,(y33.1.1,(0,y34.1.1==0))),()),(y34.2.1,()))) else (some (((1,(y1.1.1,(wr .i64 ((wr .i64 (y2.1.1*16))+y3.1.1),false))),()),(y4.2.1,())))) else (bif y4.1.1==22 then (bif decide ((AA x.2.1.2.1:Int)>0) then ((Q153.f K (y4.2.1,x.2.1,())).bind λy35=>(Q53.f K (y35.2.1,10,())).bind λy36=>some (((2,(y35.1.1,(0,y36.1.1==0))),()),(y36.2.1,()))) else (some (((1,(y1.1.1,(wr .i64 ((wr .i64 (y2.1.1*16))+y3.1.1),false))),()),(y4.2.1,())))) else (bif y4.1.1==23 then (bif decide ((AA x.2.1.2.1:Int)>0) then ((Q153.f K (y4.2.1,x.2.1,())).bind λy37=>(Q53.f K (y37.2.1,10,())).bind λy38=>some (((2,(y37.1.1,(0,y38.1.1==0))),()),(y38.2.1,()))) else (some (((1,(y1.1.1,(wr .i64 ((wr .i64 (y2.1.1*16))+y3.1.1),false))),()),(y4.2.1,())))) else (bif y4.1.1==24 then (bif decide ((AA x.2.1.2.1:Int)>0) then ((Q153.f K (y4.2.1,x.2.1,())).bind λy39=>(Q53.f K (y39.2.1,10,())).bind λy40=>some (((2,(y39.1.1,(0,y40.1.1==0))),()),(y40.2.1,()))) else (some (((1,(y1.1.1,(wr .i64 ((wr .i64 (y2.1.1*16))+y3.1.1),false))),()),(y4.2.1,())))) else (bif y4.1.1==25 then (bif decide ((AA x.2.1.2.1:Int)>0) then ((Q153.f K (y4.2.1,x.2.1,())).bind λy41=>(Q53.f K (y41.2.1,10,())).bind λy42=>some (((2,(y41.1.1,(0,y42.1.1==0))),()),(y42.2.1,()))) else (some (((1,(y1.1.1,(wr .i64 ((wr .i64 (y2.1.1*16))+y3.1.1),false))),()),(y4.2.1,())))) else (bif y4.1.1==26 then (bif decide ((AA x.2.1.2.1:Int)>0) then ((Q153.f K (y4.2.1,x.2.1,())).bind λy43=>(Q53.f K (y43.2.1,10,())).bind λy44=>some (((2,(y43.1.1,(0,y44.1.1==0))),()),(y44.2.1,()))) else (some (((1,(y1.1.1,(wr .i64 ((wr .i64 (y2.1.1*16))+y3.1.1),false))),()),(y4.2.1,())))) else (bif y4.1.1==27 then (bif decide ((AA x.2.1.2.1:Int)>0) then ((Q153.f K (y4.2.1,x.2.1,())).bind λy45=>(Q53.f K (y45.2.1,10,())).bind λy46=>some (((2,(y45.1.1,(0,y46.1.1==0))),()),(y46.2.1,()))) else (some (((1,(y1.1.1,(wr .i64 ((wr .i64 (y2.1.1*16))+y3.1.1),false))),()),(y4.2.1,())))) else (some (((1,(y1.1.1,(wr .i64 ((wr .i64 (y2.1.1*16))+y3.1.1),false))),()),(y4.2.1,()))))))))))))))))))))))))))))))
def c (K:Nat):Ctr:=⟨180,ps,rs,false,f K⟩
end Q154
namespace Q155
abbrev ps:List PK:=[.iop t48,.rd (.int .i64)]
abbrev rs:List RK:=[.v (.list false 171 t2),.v t65]
abbrev Res:=am rs×ak ps
abbrev A_l1:=List (Ty.den t2)×Int×List (Ty.den (.int .u8))×Int×List (Ty.den t26)×List (Ty.den t40)×List (Ty.den (.int .i64))×List (Ty.den t2)
abbrev A_l0:=List (Ty.den t2)×Int×List (Ty.den (.int .u8))×Int×List (Ty.den t26)×List (Ty.den t40)×List (Ty.den (.int .i64))×List (Ty.den t2)
def l1.step (K:Nat)(x:ab ps)(rec_l1:A_l1->Option Res)(a:A_l1):Option Res:=bif decide (a.2.1>0) then ((Q154.f K ((a.2.2.1,a.2.2.2.1),a.2.2.2.2,())).bind λy5=>bif decide ((AA a.1+AA ([y5.1.1]))*32<=aj) then ((Q55.f K (a.2.2.2.2,())).bind λy6=>(Q151.f K (y6.1.1,y5.1.1,())).bind λy7=>bif y7.1.2.1 then (rec_l1 (a.1++([y5.1.1]),wr .i64 (a.2.1-1),y5.2.1.1,y5.2.1.2,y7.1.1.1,y7.1.1.2.1,y7.1.1.2.2.1,y7.1.1.2.2.2)) else (rec_l1 (a.1++([y5.1.1]),wr .i64 (a.2.1-1),y5.2.1.1,y5.2.1.2,a.2.2.2.2.1,a.2.2.2.2.2.1,a.2.2.2.2.2.2.1,a.2.2.2.2.2.2.2))) else none) else ((Q55.f K (a.2.2.2.2,())).bind λy8=>some ((a.1,y8.1.1,()),((a.2.2.1,a.2.2.2.1),())))
def l1 (K:Nat)(x:ab ps):A_l1->Option Res:=ae (λrec_l1 a=>l1.step K x rec_l1 a) K
def l0.step (K:Nat)(x:ab ps)(N_l1:A_l1->Option Res)(rec_l0:A_l0->Option Res)(a:A_l0):Option Res:=bif decide (a.2.1<=7) then (bif decide ((AD a.2.1 4)>0) then (bif decide ((AA a.1+AA ([(9,(a.2.1,(wr .i64 ((wr .i64 (AC a.2.1 4))*4),false)))]))*32<=aj) then (bif decide ((AA (a.1++([(9,(a.2.1,(wr .i64 ((wr .i64 (AC a.2.1 4))*4),false)))]))+AA ([(2,(0,(0,false))),(2,(0,(0,false)))]))*32<=aj) then (rec_l0 ((a.1++([(9,(a.2.1,(wr .i64 ((wr .i64 (AC a.2.1 4))*4),false)))]))++([(2,(0,(0,false))),(2,(0,(0,false)))]),wr .i64 (a.2.1+1),a.2.2.1,a.2.2.2.1,a.2.2.2.2.1,a.2.2.2.2.2.1,a.2.2.2.2.2.2.1,a.2.2.2.2.2.2.2)) else none) else none) else (rec_l0 (a.1,wr .i64 (a.2.1+1),a.2.2.1,a.2.2.2.1,a.2.2.2.2.1,a.2.2.2.2.2.1,a.2.2.2.2.2.2.1,a.2.2.2.2.2.2.2))) else ((Q152.f K (a.2.2.2.2,a.1,())).bind λy3=>(Q53.f K ((a.2.2.1,a.2.2.2.1),x.2.1,())).bind λy4=>N_l1 (y3.2.1,y4.1.1,y4.2.1.1,y4.2.1.2,y3.1.1.1,y3.1.1.2.1,y3.1.1.2.2.1,y3.1.1.2.2.2))
def l0 (K:Nat)(x:ab ps):A_l0->Option Res:=ae (λrec_l0 a=>l0.step K x (l1 K x) rec_l0 a) K
def pre (K:Nat)(N_l0:A_l0->Option Res)(N_l1:A_l1->Option Res)(x:ab ps):Option Res:=(Q60.f K ()).bind λy1=>(Q53.f K (x.1,3,())).bind λy2=>bif decide (y2.1.1>0) then (N_l0 ([],0,y2.2.1.1,y2.2.1.2,y1.1.1.1,y1.1.1.2.1,y1.1.1.2.2.1,y1.1.1.2.2.2)) else ((Q53.f K (y2.2.1,x.2.1,())).bind λy9=>N_l1 ([],y9.1.1,y9.2.1.1,y9.2.1.2,y1.1.1.1,y1.1.1.2.1,y1.1.1.2.2.1,y1.1.1.2.2.2))
def f (K:Nat)(x:ab ps):Option Res:=pre K (l0 K x) (l1 K x) x
def c (K:Nat):Ctr:=⟨157,ps,rs,false,f K⟩
def G (K:Nat):List Ctr:=[Q53.c K,Q55.c K,Q60.c K,Q152.c K,Q154.c K,Q151.c K]
def live_l1:List (Nat×List Coe):=[(0,[.keep]),(5,[.keep]),(6,[.keep]),(7,[.own false 171 t2]),(9,[.keep]),(100000,[.ro true 5 (.int .u8),.keep]),(100005,[.keep,.keep,.keep,.keep]),(100006,[.ro false 33 t26,.ro false 101 t40,.ro false 3 (.int .i64),.ro false 41 t2])]
def live_l0:List (Nat×List Coe):=[(0,[.keep]),(1,[.keep]),(5,[.keep]),(6,[.keep]),(7,[.own false 171 t2]),(8,[.keep]),(100000,[.ro true 5 (.int .u8),.keep]),(100005,[.keep,.keep,.keep,.keep]),(100006,[.ro false 33 t26,.ro false 101 t40,.ro false 3 (.int .i64),.ro false 41 t2])]
def L:List (Nat×List (Nat×List Coe)):=[(13,live_l1),(6,live_l0)]
def body:Code:=cV Tryz.f157
abbrev ev (K:Nat):Code->St->(Ex->St->Option Res)->Option Res:=evK (G K) T_S L K
abbrev fin:Ex->St->Option Res:=dx T_S ps rs false Tryz.f157.results.toList
def S_l0 (x:ab ps)(a:A_l0):St:=ay [(0,⟨0,.one,[.bp 100000 0]⟩),(1,⟨0,.one,[.int .i64 x.2.1]⟩),(5,⟨0,.one,[.bp 100005 0]⟩),(6,⟨0,.one,[.bp 100006 0]⟩),(7,⟨0,.one,[.own false none 171 t2 a.1]⟩),(8,⟨0,.one,[.int .i64 a.2.1]⟩),(100000,⟨0,.agg,[.ro true 5 (.int .u8) a.2.2.1,.int .i64 a.2.2.2.1]⟩),(100005,⟨0,.agg,[.nil,.nil,.nil,.nil]⟩),(100006,⟨0,.agg,[.ro false 33 t26 a.2.2.2.2.1,.ro false 101 t40 a.2.2.2.2.2.1,.ro false 3 (.int .i64) a.2.2.2.2.2.2.1,.ro false 41 t2 a.2.2.2.2.2.2.2]⟩)]
def S_l1 (x:ab ps)(a:A_l1):St:=ay [(0,⟨0,.one,[.bp 100000 0]⟩),(5,⟨0,.one,[.bp 100005 0]⟩),(6,⟨0,.one,[.bp 100006 0]⟩),(7,⟨0,.one,[.own false none 171 t2 a.1]⟩),(9,⟨0,.one,[.int .i64 a.2.1]⟩),(100000,⟨0,.agg,[.ro true 5 (.int .u8) a.2.2.1,.int .i64 a.2.2.2.1]⟩),(100005,⟨0,.agg,[.nil,.nil,.nil,.nil]⟩),(100006,⟨0,.agg,[.ro false 33 t26 a.2.2.2.2.1,.ro false 101 t40 a.2.2.2.2.2.1,.ro false 3 (.int .i64) a.2.2.2.2.2.2.1,.ro false 41 t2 a.2.2.2.2.2.2.2]⟩)]
def k_l1 (K:Nat)(x:ab ps):Ex->St->Option Res:=kAt (ev K) body [1,1,1,1,0,1,0] fin
def N_l1 (K:Nat)(x:ab ps):A_l1->Option Res:=λa=>be live_l1 (ev K (sub body [1,1,1,1,0,1,0,0])) K (S_l1 x a) (k_l1 K x)
def k_l0 (K:Nat)(x:ab ps):Ex->St->Option Res:=kAt (ev K) body [1,1,1,0,1,0,0,1,0] fin
def N_l0 (K:Nat)(x:ab ps):A_l0->Option Res:=λa=>be live_l0 (ev K (sub body [1,1,1,0,1,0,0,1,0,0])) K (S_l0 x a) (k_l0 K x)
end Q155
namespace Q156
abbrev ps:List PK:=[.iop t48]
abbrev rs:List RK:=[.v t65]
abbrev Res:=am rs×ak ps
def f (K:Nat)(x:ab ps):Option Res:=(Q155.f K (x.1,100,())).bind λy1=>some ((y1.1.2.1,()),(y1.2.1,()))
def c (K:Nat):Ctr:=⟨125,ps,rs,false,f K⟩
end Q156
namespace Q157
abbrev ps:List PK:=[.rd t65]
abbrev rs:List RK:=[.v t79]
abbrev Res:=am rs×ak ps
abbrev A_l0:=Int×List (Ty.den t26)
def l0.step (K:Nat)(x:ab ps)(rec_l0:A_l0->Option Res)(a:A_l0):Option Res:=bif decide (a.1<(AA x.1.1:Int)) then ((idx x.1.1 a.1).bind λy1=>(Q54.f K (y1,())).bind λy2=>bif decide ((AA a.2+AA ([y2.1.1]))*232<=aj) then (rec_l0 (wr .i64 (a.1+1),a.2++([y2.1.1]))) else none) else (some (((a.2,([]++x.1.2.1,([]++x.1.2.2.1,[]++x.1.2.2.2))),()),()))
def l0 (K:Nat)(x:ab ps):A_l0->Option Res:=ae (λrec_l0 a=>l0.step K x rec_l0 a) K
def pre (K:Nat)(N_l0:A_l0->Option Res)(x:ab ps):Option Res:=bif decide ((AA ([]:List (Ty.den t40))+AA x.1.2.1)*32<=aj) then (bif decide ((AA ([]:List (Ty.den (.int .i64)))+AA x.1.2.2.1)*8<=aj) then (bif decide ((AA ([]:List (Ty.den t2))+AA x.1.2.2.2)*32<=aj) then (N_l0 (0,[])) else none) else none) else none
def f (K:Nat)(x:ab ps):Option Res:=pre K (l0 K x) x
def c (K:Nat):Ctr:=⟨94,ps,rs,true,f K⟩
end Q157
namespace Q158
abbrev ps:List PK:=[.iop t48,.rd (.int .i64)]
abbrev rs:List RK:=[.v t2]
abbrev Res:=am rs×ak ps
def f (K:Nat)(x:ab ps):Option Res:=(Q53.f K (x.1,4,())).bind λy1=>(Q53.f K (y1.2.1,3,())).bind λy2=>(Q53.f K (y2.2.1,12,())).bind λy3=>(Q53.f K (y3.2.1,3,())).bind λy4=>(idx ([y2.1.1,y3.1.1,999]) y4.1.1).bind λ_=>(idx ([y2.1.1,y3.1.1,999]) (AB y4.1.1:Nat)).bind λy6=>(Q53.f K (y4.2.1,4,())).bind λy7=>(Q59.f K (wr .i64 ((wr .i64 (x.2.1*4))+y1.1.1),())).bind λy8=>some (((wr .i64 ((wr .i64 (x.2.1*4))+y1.1.1),(y6,(wr .i64 (1+y7.1.1),y8.1.1))),()),(y7.2.1,()))
def c (K:Nat):Ctr:=⟨182,ps,rs,false,f K⟩
end Q158
namespace Q159
abbrev ps:List PK:=[.iop t48]
abbrev rs:List RK:=[.v t2]
abbrev Res:=am rs×ak ps
def f (K:Nat)(x:ab ps):Option Res:=(Q53.f K (x.1,2,())).bind λy1=>(Q158.f K (y1.2.1,y1.1.1,())).bind λy2=>(Q53.f K (y2.2.1,12,())).bind λy3=>bif y3.1.1==0 then ((Q53.f K (y3.2.1,2,())).bind λy4=>(idx ([(-1),8]:List (Int)) y4.1.1).bind λ_=>(idx ([(-1),8]:List (Int)) (AB y4.1.1:Nat)).bind λy6=>some (((y6,y2.1.1.2),()),(y4.2.1,()))) else (bif y3.1.1==1 then ((Q53.f K (y3.2.1,2,())).bind λy7=>(idx ([(-1),1000]:List (Int)) y7.1.1).bind λ_=>(idx ([(-1),1000]:List (Int)) (AB y7.1.1:Nat)).bind λy9=>some (((y2.1.1.1,(y9,y2.1.1.2.2)),()),(y7.2.1,()))) else (bif y3.1.1==2 then ((Q53.f K (y3.2.1,2,())).bind λy10=>(idx ([0,5]:List (Int)) y10.1.1).bind λ_=>(idx ([0,5]:List (Int)) (AB y10.1.1:Nat)).bind λy12=>some (((y2.1.1.1,(y2.1.1.2.1,(y12,y2.1.1.2.2.2))),()),(y10.2.1,()))) else (bif y3.1.1==3 then (some (((y2.1.1.1,(y2.1.1.2.1,(y2.1.1.2.2.1,!y2.1.1.2.2.2))),()),(y3.2.1,()))) else (some ((y2.1.1,()),(y3.2.1,()))))))
def c (K:Nat):Ctr:=⟨158,ps,rs,false,f K⟩
end Q159
namespace Q160
abbrev ps:List PK:=[.iop t48,.rd (.int .i64)]
abbrev rs:List RK:=[.v (.list true 41 t2)]
abbrev Res:=am rs×ak ps
abbrev A_l0:=List (Ty.den t2)×Int×List (Ty.den (.int .u8))×Int
def l0.step (K:Nat)(x:ab ps)(rec_l0:A_l0->Option Res)(a:A_l0):Option Res:=bif decide (a.2.1>0) then (bif decide (x.2.1<0) then ((Q53.f K (a.2.2,2,())).bind λy2=>(Q158.f K (y2.2.1,y2.1.1,())).bind λy3=>(Q102.f K (a.1,y3.1.1,())).bind λy4=>rec_l0 (y4.1.1,wr .i64 (a.2.1-1),y3.2.1.1,y3.2.1.2)) else ((Q158.f K (a.2.2,x.2.1,())).bind λy5=>(Q102.f K (a.1,y5.1.1,())).bind λy6=>rec_l0 (y6.1.1,wr .i64 (a.2.1-1),y5.2.1.1,y5.2.1.2))) else (some ((a.1,()),(a.2.2,())))
def l0 (K:Nat)(x:ab ps):A_l0->Option Res:=ae (λrec_l0 a=>l0.step K x rec_l0 a) K
def pre (K:Nat)(N_l0:A_l0->Option Res)(x:ab ps):Option Res:=(Q53.f K (x.1,6,())).bind λy1=>N_l0 ([],y1.1.1,y1.2.1.1,y1.2.1.2)
def f (K:Nat)(x:ab ps):Option Res:=pre K (l0 K x) x
def c (K:Nat):Ctr:=⟨164,ps,rs,false,f K⟩
end Q160
namespace Q161
abbrev ps:List PK:=[.iop t48]
abbrev rs:List RK:=[.v (.list true 41 t2)]
abbrev Res:=am rs×ak ps
def f (K:Nat)(x:ab ps):Option Res:=(Q160.f K (x.1,(-1),())).bind λy1=>bif decide ((AA y1.1.1:Int)>0) then ((Q53.f K (y1.2.1,12,())).bind λy2=>bif y2.1.1==0 then ((Q53.f K (y2.2.1,(AA y1.1.1:Int),())).bind λy3=>(Q53.f K (y3.2.1,3,())).bind λy4=>bif y4.1.1==0 then ((Q159.f K (y4.2.1,())).bind λy5=>(idx y1.1.1 y3.1.1).bind λ_=>(idx y1.1.1 (AB y3.1.1:Nat)).bind λy7=>some ((y1.1.1.set (AB y3.1.1) y5.1.1,()),(y5.2.1,()))) else (bif y4.1.1==1 then ((idx y1.1.1 y3.1.1).bind λ_=>(idx y1.1.1 (AB y3.1.1:Nat)).bind λy9=>bif decide ((AA y1.1.1+AA ([y9]))*32<=aj) then (some ((y1.1.1++([y9]),()),(y4.2.1,()))) else none) else ((idx y1.1.1 y3.1.1).bind λ_=>(idx y1.1.1 (AB y3.1.1:Nat)).bind λy11=>some ((y1.1.1.set (AB y3.1.1) (y11.1,(y11.2.1,(0,y11.2.2.2))),()),(y4.2.1,()))))) else (some ((y1.1.1,()),(y2.2.1,())))) else (some ((y1.1.1,()),(y1.2.1,())))
def c (K:Nat):Ctr:=⟨141,ps,rs,false,f K⟩
end Q161
namespace Q162
abbrev ps:List PK:=[.iop t48,.rd (.int .i64)]
abbrev rs:List RK:=[.v (.list true 116 t3)]
abbrev Res:=am rs×ak ps
abbrev A_l0:=List (Ty.den t3)×List (Ty.den t2)×Int×List (Ty.den (.int .u8))×Int
def l0.step (K:Nat)(x:ab ps)(rec_l0:A_l0->Option Res)(a:A_l0):Option Res:=bif decide (a.2.2.1<(AA a.2.1:Int)) then ((idx a.2.1 a.2.2.1).bind λ_=>(idx a.2.1 (AB a.2.2.1:Nat)).bind λy3=>(Q53.f K (a.2.2.2,4,())).bind λy4=>bif decide ((AA a.1+AA ([(y3,wr .i64 (1+y4.1.1))]))*40<=aj) then (rec_l0 (a.1++([(y3,wr .i64 (1+y4.1.1))]),a.2.1,wr .i64 (a.2.2.1+1),y4.2.1.1,y4.2.1.2)) else none) else (some ((a.1,()),(a.2.2.2,())))
def l0 (K:Nat)(x:ab ps):A_l0->Option Res:=ae (λrec_l0 a=>l0.step K x rec_l0 a) K
def pre (K:Nat)(N_l0:A_l0->Option Res)(x:ab ps):Option Res:=(Q160.f K (x.1,x.2.1,())).bind λy1=>N_l0 ([],y1.1.1,0,y1.2.1.1,y1.2.1.2)
def f (K:Nat)(x:ab ps):Option Res:=pre K (l0 K x) x
def c (K:Nat):Ctr:=⟨165,ps,rs,false,f K⟩
end Q162
namespace Q163
abbrev ps:List PK:=[.iop t48]
abbrev rs:List RK:=[.v (.list true 116 t3)]
abbrev Res:=am rs×ak ps
def f (K:Nat)(x:ab ps):Option Res:=(Q162.f K (x.1,(-1),())).bind λy1=>bif decide ((AA y1.1.1:Int)>0) then ((Q53.f K (y1.2.1,10,())).bind λy2=>bif y2.1.1==0 then ((Q53.f K (y2.2.1,(AA y1.1.1:Int),())).bind λy3=>(Q53.f K (y3.2.1,3,())).bind λy4=>bif y4.1.1==0 then ((Q53.f K (y4.2.1,2,())).bind λy5=>(idx ([0,5]:List (Int)) y5.1.1).bind λ_=>(idx ([0,5]:List (Int)) (AB y5.1.1:Nat)).bind λy7=>(idx y1.1.1 y3.1.1).bind λ_=>(idx y1.1.1 (AB y3.1.1:Nat)).bind λy9=>some ((y1.1.1.set (AB y3.1.1) (y9.1,y7),()),(y5.2.1,()))) else (bif y4.1.1==1 then ((Q159.f K (y4.2.1,())).bind λy10=>(idx y1.1.1 y3.1.1).bind λ_=>(idx y1.1.1 (AB y3.1.1:Nat)).bind λy12=>some ((y1.1.1.set (AB y3.1.1) (y10.1.1,y12.2),()),(y10.2.1,()))) else ((idx y1.1.1 y3.1.1).bind λ_=>(idx y1.1.1 (AB y3.1.1:Nat)).bind λy14=>bif decide ((AA y1.1.1+AA ([y14]))*40<=aj) then (some ((y1.1.1++([y14]),()),(y4.2.1,()))) else none))) else (some ((y1.1.1,()),(y2.2.1,())))) else (some ((y1.1.1,()),(y1.2.1,())))
def c (K:Nat):Ctr:=⟨142,ps,rs,false,f K⟩
end Q163
namespace Q164
abbrev ps:List PK:=[.iop t48]
abbrev rs:List RK:=[.v t9]
abbrev Res:=am rs×ak ps
def f (K:Nat)(x:ab ps):Option Res:=(Q53.f K (x.1,6,())).bind λy1=>bif y1.1.1==0 then ((Q57.f K ()).bind λy2=>some ((y2.1.1,()),(y1.2.1,()))) else ((Q53.f K (y1.2.1,3,())).bind λy3=>(idx ([10,1000,100000]:List (Int)) y3.1.1).bind λ_=>(idx ([10,1000,100000]:List (Int)) (AB y3.1.1:Nat)).bind λy5=>(Q53.f K (y3.2.1,wr .i64 ((wr .i64 (2*y5))+1),())).bind λy6=>(Q53.f K (y6.2.1,wr .i64 ((wr .i64 (2*y5))+1),())).bind λy7=>(Q53.f K (y7.2.1,wr .i64 (y5+1),())).bind λy8=>(Q53.f K (y8.2.1,1500,())).bind λy9=>some (((wr .i64 (y6.1.1-y5),(wr .i64 (y7.1.1-y5),(y8.1.1,wr .i64 (1+y9.1.1)))),()),(y9.2.1,())))
def c (K:Nat):Ctr:=⟨40,ps,rs,false,f K⟩
end Q164
namespace Q165
abbrev ps:List PK:=[.iop t48]
abbrev rs:List RK:=[.v t9]
abbrev Res:=am rs×ak ps
def f (K:Nat)(x:ab ps):Option Res:=(Q164.f K (x.1,())).bind λy1=>(Q53.f K (y1.2.1,16,())).bind λy2=>bif y2.1.1==0 then ((Q53.f K (y2.2.1,3,())).bind λy3=>(idx ([100000,100001,(-100001)]:List (Int)) y3.1.1).bind λ_=>(idx ([100000,100001,(-100001)]:List (Int)) (AB y3.1.1:Nat)).bind λy5=>some (((y5,y1.1.1.2),()),(y3.2.1,()))) else (bif y2.1.1==1 then ((Q53.f K (y2.2.1,2,())).bind λy6=>(idx ([(-1),100001]:List (Int)) y6.1.1).bind λ_=>(idx ([(-1),100001]:List (Int)) (AB y6.1.1:Nat)).bind λy8=>some (((y1.1.1.1,(y1.1.1.2.1,(y8,y1.1.1.2.2.2))),()),(y6.2.1,()))) else (bif y2.1.1==2 then ((Q53.f K (y2.2.1,2,())).bind λy9=>(idx ([0,1501]:List (Int)) y9.1.1).bind λ_=>(idx ([0,1501]:List (Int)) (AB y9.1.1:Nat)).bind λy11=>some (((y1.1.1.1,(y1.1.1.2.1,(y1.1.1.2.2.1,y11))),()),(y9.2.1,()))) else (some ((y1.1.1,()),(y2.2.1,())))))
def c (K:Nat):Ctr:=⟨143,ps,rs,false,f K⟩
end Q165
namespace Q166
abbrev ps:List PK:=[.iop t48,.rd t26]
abbrev rs:List RK:=[.v t26]
abbrev Res:=am rs×ak ps
def f (K:Nat)(x:ab ps):Option Res:=(Q54.f K (x.2.1,())).bind λy1=>(Q53.f K (x.1,12,())).bind λy2=>bif y2.1.1==0 then ((Q161.f K (y2.2.1,())).bind λy3=>some (((y1.1.1.1,(y1.1.1.2.1,(y1.1.1.2.2.1,(y1.1.1.2.2.2.1,(y1.1.1.2.2.2.2.1,(y1.1.1.2.2.2.2.2.1,(y1.1.1.2.2.2.2.2.2.1,(y1.1.1.2.2.2.2.2.2.2.1,(y3.1.1,y1.1.1.2.2.2.2.2.2.2.2.2))))))))),()),(y3.2.1,()))) else (bif y2.1.1==1 then ((Q163.f K (y2.2.1,())).bind λy4=>some (((y1.1.1.1,(y1.1.1.2.1,(y1.1.1.2.2.1,(y1.1.1.2.2.2.1,(y1.1.1.2.2.2.2.1,(y1.1.1.2.2.2.2.2.1,(y1.1.1.2.2.2.2.2.2.1,(y1.1.1.2.2.2.2.2.2.2.1,(y1.1.1.2.2.2.2.2.2.2.2.1,(y4.1.1,y1.1.1.2.2.2.2.2.2.2.2.2.2)))))))))),()),(y4.2.1,()))) else (bif y2.1.1==2 then (some (((y1.1.1.1,(y1.1.1.2.1,(y1.1.1.2.2.1,(y1.1.1.2.2.2.1,(wr .i64 (y1.1.1.2.2.2.2.1+1),y1.1.1.2.2.2.2.2))))),()),(y2.2.1,()))) else (bif y2.1.1==3 then ((Q53.f K (y2.2.1,9,())).bind λy5=>(Q53.f K (y5.2.1,3,())).bind λy6=>(Q53.f K (y6.2.1,3,())).bind λy7=>(Q53.f K (y7.2.1,2,())).bind λy8=>some (((y1.1.1.1,(y1.1.1.2.1,(y1.1.1.2.2.1,(y1.1.1.2.2.2.1,(y1.1.1.2.2.2.2.1,(y1.1.1.2.2.2.2.2.1,(y1.1.1.2.2.2.2.2.2.1,(y1.1.1.2.2.2.2.2.2.2.1,(y1.1.1.2.2.2.2.2.2.2.2.1,(y1.1.1.2.2.2.2.2.2.2.2.2.1,((wr .i64 (y5.1.1-1),(y6.1.1,(y7.1.1,y8.1.1==0))),y1.1.1.2.2.2.2.2.2.2.2.2.2.2))))))))))),()),(y8.2.1,()))) else (bif y2.1.1==4 then ((Q53.f K (y2.2.1,8,())).bind λy9=>(Q53.f K (y9.2.1,8,())).bind λy10=>bif decide ((AA y1.1.1.2.2.2.2.2.2.2.2.2.2.2.1+AA ([(y9.1.1,(0,(0,[y10.1.1])))]))*48<=aj) then (some (((y1.1.1.1,(y1.1.1.2.1,(y1.1.1.2.2.1,(y1.1.1.2.2.2.1,(y1.1.1.2.2.2.2.1,(y1.1.1.2.2.2.2.2.1,(y1.1.1.2.2.2.2.2.2.1,(y1.1.1.2.2.2.2.2.2.2.1,(y1.1.1.2.2.2.2.2.2.2.2.1,(y1.1.1.2.2.2.2.2.2.2.2.2.1,(y1.1.1.2.2.2.2.2.2.2.2.2.2.1,(y1.1.1.2.2.2.2.2.2.2.2.2.2.2.1++([(y9.1.1,(0,(0,[y10.1.1])))]),y1.1.1.2.2.2.2.2.2.2.2.2.2.2.2)))))))))))),()),(y10.2.1,()))) else none) else (bif y2.1.1==5 then ((Q165.f K (y2.2.1,())).bind λy11=>some (((y1.1.1.1,(y1.1.1.2.1,(y1.1.1.2.2.1,(y1.1.1.2.2.2.1,(y1.1.1.2.2.2.2.1,(y1.1.1.2.2.2.2.2.1,(y1.1.1.2.2.2.2.2.2.1,(y1.1.1.2.2.2.2.2.2.2.1,(y1.1.1.2.2.2.2.2.2.2.2.1,(y1.1.1.2.2.2.2.2.2.2.2.2.1,(y1.1.1.2.2.2.2.2.2.2.2.2.2.1,(y1.1.1.2.2.2.2.2.2.2.2.2.2.2.1,(y11.1.1,y1.1.1.2.2.2.2.2.2.2.2.2.2.2.2.2))))))))))))),()),(y11.2.1,()))) else (bif y2.1.1==6 then ((Q53.f K (y2.2.1,9,())).bind λy12=>(Q165.f K (y12.2.1,())).bind λy13=>(Q53.f K (y13.2.1,3,())).bind λy14=>bif decide ((AA y1.1.1.2.2.2.2.2.2.2.2.2.2.2.2.2.1+AA ([(y12.1.1,(y13.1.1,[y14.1.1]))]))*64<=aj) then (some (((y1.1.1.1,(y1.1.1.2.1,(y1.1.1.2.2.1,(y1.1.1.2.2.2.1,(y1.1.1.2.2.2.2.1,(y1.1.1.2.2.2.2.2.1,(y1.1.1.2.2.2.2.2.2.1,(y1.1.1.2.2.2.2.2.2.2.1,(y1.1.1.2.2.2.2.2.2.2.2.1,(y1.1.1.2.2.2.2.2.2.2.2.2.1,(y1.1.1.2.2.2.2.2.2.2.2.2.2.1,(y1.1.1.2.2.2.2.2.2.2.2.2.2.2.1,(y1.1.1.2.2.2.2.2.2.2.2.2.2.2.2.1,(y1.1.1.2.2.2.2.2.2.2.2.2.2.2.2.2.1++([(y12.1.1,(y13.1.1,[y14.1.1]))]),y1.1.1.2.2.2.2.2.2.2.2.2.2.2.2.2.2)))))))))))))),()),(y14.2.1,()))) else none) else (bif y2.1.1==7 then ((Q53.f K (y2.2.1,3,())).bind λy15=>(Q161.f K (y15.2.1,())).bind λy16=>bif decide ((AA y1.1.1.2.2.2.2.2.2.2.2.2.2.2.2.2.2+AA ([(y15.1.1,y16.1.1)]))*32<=aj) then (some (((y1.1.1.1,(y1.1.1.2.1,(y1.1.1.2.2.1,(y1.1.1.2.2.2.1,(y1.1.1.2.2.2.2.1,(y1.1.1.2.2.2.2.2.1,(y1.1.1.2.2.2.2.2.2.1,(y1.1.1.2.2.2.2.2.2.2.1,(y1.1.1.2.2.2.2.2.2.2.2.1,(y1.1.1.2.2.2.2.2.2.2.2.2.1,(y1.1.1.2.2.2.2.2.2.2.2.2.2.1,(y1.1.1.2.2.2.2.2.2.2.2.2.2.2.1,(y1.1.1.2.2.2.2.2.2.2.2.2.2.2.2.1,(y1.1.1.2.2.2.2.2.2.2.2.2.2.2.2.2.1,y1.1.1.2.2.2.2.2.2.2.2.2.2.2.2.2.2++([(y15.1.1,y16.1.1)]))))))))))))))),()),(y16.2.1,()))) else none) else (bif y2.1.1==8 then (some (((y1.1.1.1,(!y1.1.1.2.1,y1.1.1.2.2)),()),(y2.2.1,()))) else (bif y2.1.1==9 then (some (((y1.1.1.1,(y1.1.1.2.1,(!y1.1.1.2.2.1,y1.1.1.2.2.2))),()),(y2.2.1,()))) else (bif y2.1.1==10 then ((Q53.f K (y2.2.1,3,())).bind λy17=>(idx ([(-1),999999,1000000]:List (Int)) y17.1.1).bind λ_=>(idx ([(-1),999999,1000000]:List (Int)) (AB y17.1.1:Nat)).bind λy19=>some (((y1.1.1.1,(y1.1.1.2.1,(y1.1.1.2.2.1,(y1.1.1.2.2.2.1,(y1.1.1.2.2.2.2.1,(y19,y1.1.1.2.2.2.2.2.2)))))),()),(y17.2.1,()))) else ((Q53.f K (y2.2.1,8,())).bind λy20=>(Q53.f K (y20.2.1,3,())).bind λy21=>(idx ([(-1),8,y20.1.1]) y21.1.1).bind λ_=>(idx ([(-1),8,y20.1.1]) (AB y21.1.1:Nat)).bind λy23=>some (((y23,y1.1.1.2),()),(y21.2.1,())))))))))))))
def c (K:Nat):Ctr:=⟨99,ps,rs,false,f K⟩
end Q166
namespace Q167
abbrev ps:List PK:=[.rd .str,.rd (.int .i64)]
abbrev rs:List RK:=[.v .str]
abbrev Res:=am rs×ak ps
abbrev A_l0:=ByteArray×Int×ByteArray
def l0.step (K:Nat)(x:ab ps)(rec_l0:A_l0->Option Res)(a:A_l0):Option Res:=bif decide (a.2.1>0) then (bif (AD a.2.1 2)==1 then (aU a.2.2 a.1 λy1=>aU a.1 a.1 λy2=>rec_l0 (y2,wr .i64 (AC a.2.1 2),y1)) else (aU a.1 a.1 λy3=>rec_l0 (y3,wr .i64 (AC a.2.1 2),a.2.2))) else (some ((a.2.2,()),()))
def l0 (K:Nat)(x:ab ps):A_l0->Option Res:=ae (λrec_l0 a=>l0.step K x rec_l0 a) K
def pre (K:Nat)(N_l0:A_l0->Option Res)(x:ab ps):Option Res:=N_l0 (x.1,x.2.1,(ByteArray.mk #[]))
def f (K:Nat)(x:ab ps):Option Res:=pre K (l0 K x) x
def c (K:Nat):Ctr:=⟨159,ps,rs,true,f K⟩
end Q167
namespace Q168
abbrev ps:List PK:=[.iop t48,.rd t65]
abbrev rs:List RK:=[.v t65]
abbrev Res:=am rs×ak ps
def f (K:Nat)(x:ab ps):Option Res:=(Q157.f K (x.2.1,())).bind λy1=>(Q53.f K (x.1,(AA y1.1.1.1:Int),())).bind λy2=>(Q53.f K (y2.2.1,6,())).bind λy3=>bif y3.1.1==0 then (bif decide (0<=1)&&decide (1<=(AA y1.1.1.1:Int))&&decide ((AA y1.1.1.1:Int)<=(AA y1.1.1.1:Int))&&true then (some ((((y1.1.1.1.take (AB (AA y1.1.1.1:Int))).drop (AB 1),y1.1.1.2),()),(y3.2.1,()))) else none) else (bif y3.1.1==1 then ((Q53.f K (y3.2.1,3,())).bind λy4=>(idx ([(-1),3,2]:List (Int)) y4.1.1).bind λ_=>(idx ([(-1),3,2]:List (Int)) (AB y4.1.1:Nat)).bind λy6=>(idx y1.1.1.2.2.1 y2.1.1).bind λ_=>(idx y1.1.1.2.2.1 (AB y2.1.1:Nat)).bind λy8=>some (((y1.1.1.1,(y1.1.1.2.1,(y1.1.1.2.2.1.set (AB y2.1.1) y6,y1.1.1.2.2.2))),()),(y4.2.1,()))) else (bif y3.1.1==2 then ((Q159.f K (y3.2.1,())).bind λy9=>bif decide ((AA y1.1.1.2.2.2+AA ([y9.1.1]))*32<=aj) then (some (((y1.1.1.1,(y1.1.1.2.1,(y1.1.1.2.2.1,y1.1.1.2.2.2++([y9.1.1])))),()),(y9.2.1,()))) else none) else (bif y3.1.1==3 then ((Q53.f K (y3.2.1,10,())).bind λy10=>(Q53.f K (y10.2.1,2,())).bind λy11=>(Q167.f K ((ByteArray.mk #[116]),wr .i64 (y11.1.1*301),())).bind λy12=>bif decide ((AA y1.1.1.2.1+AA ([(wr .i64 (y10.1.1-1),(y12.1.1,false))]))*32<=aj) then (some (((y1.1.1.1,(y1.1.1.2.1++([(wr .i64 (y10.1.1-1),(y12.1.1,false))]),y1.1.1.2.2)),()),(y11.2.1,()))) else none) else ((idx y1.1.1.1 y2.1.1).bind λ_=>(idx y1.1.1.1 (AB y2.1.1:Nat)).bind λy14=>(Q166.f K (y3.2.1,y14,())).bind λy15=>(idx y1.1.1.1 y2.1.1).bind λ_=>(idx y1.1.1.1 (AB y2.1.1:Nat)).bind λy17=>some (((y1.1.1.1.set (AB y2.1.1) y15.1.1,y1.1.1.2),()),(y15.2.1,()))))))
def c (K:Nat):Ctr:=⟨126,ps,rs,false,f K⟩
end Q168
namespace Q169
abbrev ps:List PK:=[.iop t48]
abbrev rs:List RK:=[.v t65]
abbrev Res:=am rs×ak ps
def f (K:Nat)(x:ab ps):Option Res:=(Q156.f K (x.1,())).bind λy1=>(Q53.f K (y1.2.1,24,())).bind λy2=>bif y2.1.1==0 then ((Q168.f K (y2.2.1,y1.1.1,())).bind λy3=>some ((y3.1.1,()),(y3.2.1,()))) else (some ((y1.1.1,()),(y2.2.1,())))
def c (K:Nat):Ctr:=⟨81,ps,rs,false,f K⟩
end Q169
namespace Q170
abbrev ps:List PK:=[.rd (.list false 5 (.int .u8))]
abbrev rs:List RK:=[.v t65]
abbrev Res:=am rs×ak ps
def f (K:Nat)(x:ab ps):Option Res:=(Q52.f K (x.1,())).bind λy1=>(Q169.f K (y1.1.1,())).bind λy2=>bif decide ((AA y2.1.1.2.2.2:Int)>0) then ((Q53.f K (y2.2.1,4,())).bind λy3=>bif y3.1.1==0 then ((Q53.f K (y3.2.1,(AA y2.1.1.2.2.2:Int),())).bind λy4=>bif decide (0<=0)&&decide (0<=y4.1.1)&&decide (y4.1.1<=(AA y2.1.1.2.2.2:Int))&&true then (bif decide ((AA ([]:List (Ty.den t2))+AA ((y2.1.1.2.2.2.take (AB y4.1.1)).drop (AB 0)))*32<=aj) then (bif decide (0<=(wr .i64 (y4.1.1+1)))&&decide ((wr .i64 (y4.1.1+1))<=(AA y2.1.1.2.2.2:Int))&&decide ((AA y2.1.1.2.2.2:Int)<=(AA y2.1.1.2.2.2:Int))&&true then (bif decide ((AA ([]++((y2.1.1.2.2.2.take (AB y4.1.1)).drop (AB 0)))+AA ((y2.1.1.2.2.2.take (AB (AA y2.1.1.2.2.2:Int))).drop (AB (wr .i64 (y4.1.1+1)))))*32<=aj) then (some (((y2.1.1.1,(y2.1.1.2.1,(y2.1.1.2.2.1,([]++((y2.1.1.2.2.2.take (AB y4.1.1)).drop (AB 0)))++((y2.1.1.2.2.2.take (AB (AA y2.1.1.2.2.2:Int))).drop (AB (wr .i64 (y4.1.1+1))))))),()),())) else none) else none) else none) else none) else (some ((y2.1.1,()),()))) else (some ((y2.1.1,()),()))
def c (K:Nat):Ctr:=⟨28,ps,rs,false,f K⟩
end Q170
namespace Q171
abbrev ps:List PK:=[.rd (.int .i64)]
abbrev rs:List RK:=[.v .bool]
abbrev Res:=am rs×ak ps
def f (K:Nat)(x:ab ps):Option Res:=some (((AD x.1 4) != 3,()),())
def c (K:Nat):Ctr:=⟨87,ps,rs,true,f K⟩
end Q171
namespace Q172
abbrev ps:List PK:=[.rd (.list false 101 t40),.fn [t40] .bool]
abbrev rs:List RK:=[.v (.int .i64)]
abbrev Res:=am rs×ak ps
abbrev A_l0:=Int
def l0.step (K:Nat)(x:ab ps)(rec_l0:A_l0->Option Res)(a:A_l0):Option Res:=bif decide (a<(AA x.1:Int)) then ((idx x.1 a).bind λy1=>(x.2.1 (y1,())).bind λy2=>bif y2 then (some ((a,()),())) else (rec_l0 (wr .i64 (a+1)))) else (some (((-1),()),()))
def l0 (K:Nat)(x:ab ps):A_l0->Option Res:=ae (λrec_l0 a=>l0.step K x rec_l0 a) K
def pre (K:Nat)(N_l0:A_l0->Option Res)(x:ab ps):Option Res:=N_l0 0
def f (K:Nat)(x:ab ps):Option Res:=pre K (l0 K x) x
def c (K:Nat):Ctr:=⟨131,ps,rs,true,f K⟩
end Q172
namespace Q173
abbrev ps:List PK:=[.rd (.list false 101 t40),.fn [t40] .bool]
abbrev rs:List RK:=[.v .bool]
abbrev Res:=am rs×ak ps
def f (K:Nat)(x:ab ps):Option Res:=(Q172.f K (x.1,x.2.1,())).bind λy1=>some ((decide (y1.1.1>=0),()),())
def c (K:Nat):Ctr:=⟨89,ps,rs,true,f K⟩
end Q173
namespace Q174
abbrev ps:List PK:=[.rd t40]
abbrev rs:List RK:=[.v .bool]
abbrev Res:=am rs×ak ps
def f (K:Nat)(x:ab ps):Option Res:=(Q3.f K (x.1.1,())).bind λy1=>bif !y1.1.1 then (some ((true,()),())) else (some ((decide ((x.1.2.1.size:Int)>300),()),()))
def c (K:Nat):Ctr:=⟨90,ps,rs,true,f K⟩
end Q174
namespace Q175
abbrev ps:List PK:=[.rd t65]
abbrev rs:List RK:=[.v .bool]
abbrev Res:=am rs×ak ps
abbrev A_l1:=Int
abbrev A_l0:=Int
def l1.step (K:Nat)(x:ab ps)(rec_l1:A_l1->Option Res)(a:A_l1):Option Res:=bif decide (a<(AA x.1.2.2.2:Int)) then ((idx x.1.2.2.2 a).bind λy6=>(Q5.f K (y6,())).bind λy7=>bif !y7.1.1 then (some ((false,()),())) else (bif decide (a>0) then ((idx x.1.2.2.2 (wr .i64 (a-1))).bind λy8=>(Q25.f K (y8,y6,())).bind λy9=>bif decide (y9.1.1>=0) then (some ((false,()),())) else (rec_l1 (wr .i64 (a+1)))) else (rec_l1 (wr .i64 (a+1))))) else ((Q173.f K (x.1.2.1,λy10=>(Q174.f K (y10.1,())).map λy=>y.1.1,())).bind λy11=>some ((!y11.1.1,()),()))
def l1 (K:Nat)(x:ab ps):A_l1->Option Res:=ae (λrec_l1 a=>l1.step K x rec_l1 a) K
def l0.step (K:Nat)(x:ab ps)(N_l1:A_l1->Option Res)(rec_l0:A_l0->Option Res)(a:A_l0):Option Res:=bif decide (a<(AA x.1.1:Int)) then ((idx x.1.1 a).bind λy1=>(Q39.f K (y1,())).bind λy2=>bif !y2.1.1 then (some ((false,()),())) else (bif y1.1 != a then (some ((false,()),())) else ((Q171.f K (a,())).bind λy3=>bif y1.2.2.2.1 != y3.1.1 then (some ((false,()),())) else ((idx x.1.2.2.1 a).bind λy4=>(Q2.f K (y4,0,2,())).bind λy5=>bif !y5.1.1 then (some ((false,()),())) else (rec_l0 (wr .i64 (a+1))))))) else (N_l1 0)
def l0 (K:Nat)(x:ab ps):A_l0->Option Res:=ae (λrec_l0 a=>l0.step K x (l1 K x) rec_l0 a) K
def pre (K:Nat)(N_l0:A_l0->Option Res)(x:ab ps):Option Res:=bif (AA x.1.1:Int) != 8 then (some ((false,()),())) else (bif (AA x.1.2.2.1:Int) != 8 then (some ((false,()),())) else (bif decide ((AA x.1.2.1:Int)>60) then (some ((false,()),())) else (N_l0 0)))
def f (K:Nat)(x:ab ps):Option Res:=pre K (l0 K x) x
def c (K:Nat):Ctr:=⟨31,ps,rs,true,f K⟩
def G (K:Nat):List Ctr:=[Q39.c K,Q2.c K,Q5.c K,Q171.c K,Q25.c K,Q173.c K,Q174.c K]
def live_l1:List (Nat×List Coe):=[(1,[.keep]),(58,[.ro true 41 t2]),(59,[.keep]),(60,[.keep]),(100001,[.ro true 33 t26,.ro true 101 t40,.ro true 3 (.int .i64),.ro true 41 t2])]
def live_l0:List (Nat×List Coe):=[(1,[.keep]),(24,[.ro true 33 t26]),(25,[.keep]),(26,[.keep]),(100001,[.ro true 33 t26,.ro true 101 t40,.ro true 3 (.int .i64),.ro true 41 t2])]
def L:List (Nat×List (Nat×List Coe)):=[(11,live_l1),(5,live_l0)]
def body:Code:=cV Tryz.f31
abbrev ev (K:Nat):Code->St->(Ex->St->Option Res)->Option Res:=evK (G K) T_D L K
abbrev fin:Ex->St->Option Res:=dx T_D ps rs true Tryz.f31.results.toList
def S_l0 (x:ab ps)(a:A_l0):St:=ay [(1,⟨0,.one,[.bp 100001 0]⟩),(24,⟨0,.one,[.ro true 33 t26 x.1.1]⟩),(25,⟨0,.one,[.int .i64 (AA x.1.1:Int)]⟩),(26,⟨0,.one,[.int .i64 a]⟩),(100001,⟨0,.agg,[.ro true 33 t26 x.1.1,.ro true 101 t40 x.1.2.1,.ro true 3 (.int .i64) x.1.2.2.1,.ro true 41 t2 x.1.2.2.2]⟩)]
def S_l1 (x:ab ps)(a:A_l1):St:=ay [(1,⟨0,.one,[.bp 100001 0]⟩),(58,⟨0,.one,[.ro true 41 t2 x.1.2.2.2]⟩),(59,⟨0,.one,[.int .i64 (AA x.1.2.2.2:Int)]⟩),(60,⟨0,.one,[.int .i64 a]⟩),(100001,⟨0,.agg,[.ro true 33 t26 x.1.1,.ro true 101 t40 x.1.2.1,.ro true 3 (.int .i64) x.1.2.2.1,.ro true 41 t2 x.1.2.2.2]⟩)]
def k_l0 (K:Nat)(x:ab ps):Ex->St->Option Res:=kAt (ev K) body [1,1,0,1,0] fin
def N_l0 (K:Nat)(x:ab ps):A_l0->Option Res:=λa=>be live_l0 (ev K (sub body [1,1,0,1,0,0])) K (S_l0 x a) (k_l0 K x)
def k_l1 (K:Nat)(x:ab ps):Ex->St->Option Res:=kAt (ev K) body [1,1,1,0,1,0] fin
def N_l1 (K:Nat)(x:ab ps):A_l1->Option Res:=λa=>be live_l1 (ev K (sub body [1,1,1,0,1,0,0])) K (S_l1 x a) (k_l1 K x)
end Q175
namespace Q176
abbrev ps:List PK:=[.rd (.list false 41 t2),.rd t2]
abbrev rs:List RK:=[.v (.int .i64)]
abbrev Res:=am rs×ak ps
abbrev A_l0:=Int
def l0.step (K:Nat)(x:ab ps)(rec_l0:A_l0->Option Res)(a:A_l0):Option Res:=bif decide (a<(AA x.1:Int)) then ((idx x.1 a).bind λy1=>bif Ty.eqv t2 x.2.1 y1 then (some ((a,()),())) else (rec_l0 (wr .i64 (a+1)))) else (some (((-1),()),()))
def l0 (K:Nat)(x:ab ps):A_l0->Option Res:=ae (λrec_l0 a=>l0.step K x rec_l0 a) K
def pre (K:Nat)(N_l0:A_l0->Option Res)(x:ab ps):Option Res:=N_l0 0
def f (K:Nat)(x:ab ps):Option Res:=pre K (l0 K x) x
def c (K:Nat):Ctr:=⟨127,ps,rs,true,f K⟩
end Q176
namespace Q177
abbrev ps:List PK:=[.rd (.list false 41 t2),.rd t2]
abbrev rs:List RK:=[.v .bool]
abbrev Res:=am rs×ak ps
def f (K:Nat)(x:ab ps):Option Res:=(Q176.f K (x.1,x.2.1,())).bind λy1=>some ((decide (y1.1.1>=0),()),())
def c (K:Nat):Ctr:=⟨83,ps,rs,true,f K⟩
end Q177
namespace Q178
abbrev ps:List PK:=[.rd t2,.rref t65]
abbrev rs:List RK:=[.v .bool]
abbrev Res:=am rs×ak ps
def f (K:Nat)(x:ab ps):Option Res:=(Q177.f K (x.2.1.2.2.2,x.1,())).bind λy1=>some ((!y1.1.1,()),())
def c (K:Nat):Ctr:=⟨82,ps,rs,true,f K⟩
end Q178
namespace Q179
abbrev ps:List PK:=[.rd t65]
abbrev rs:List RK:=[.v .bool]
abbrev Res:=am rs×ak ps
abbrev A_l1:=Int
abbrev A_l0:=Int
def l1.step (K:Nat)(x:ab ps)(rec_l1:A_l1->Option Res)(a:A_l1):Option Res:=bif decide (a<(AA x.1.2.2.2:Int)) then ((idx x.1.2.2.2 a).bind λy6=>(Q2.f K (y6.2.2.1,2,3,())).bind λy7=>bif y7.1.1 then ((Q178.f K ((y6.1,(y6.2.1,(wr .i64 (y6.2.2.1-1),y6.2.2.2))),x.1,())).bind λy8=>bif y8.1.1 then (some ((false,()),())) else (rec_l1 (wr .i64 (a+1)))) else (rec_l1 (wr .i64 (a+1)))) else (some ((true,()),()))
def l1 (K:Nat)(x:ab ps):A_l1->Option Res:=ae (λrec_l1 a=>l1.step K x rec_l1 a) K
def l0.step (K:Nat)(x:ab ps)(N_l1:A_l1->Option Res)(rec_l0:A_l0->Option Res)(a:A_l0):Option Res:=bif decide (a<(AA x.1.1:Int)) then ((idx x.1.1 a).bind λy2=>(Q50.f K (y2,())).bind λy3=>(Q16.f K (y3.1.1,λy4=>(Q178.f K (y4.1,x.1,())).map λy=>y.1.1,())).bind λy5=>bif y5.1.1 then (some ((false,()),())) else (rec_l0 (wr .i64 (a+1)))) else (N_l1 0)
def l0 (K:Nat)(x:ab ps):A_l0->Option Res:=ae (λrec_l0 a=>l0.step K x (l1 K x) rec_l0 a) K
def pre (K:Nat)(N_l0:A_l0->Option Res)(x:ab ps):Option Res:=(Q175.f K (x.1,())).bind λy1=>bif !y1.1.1 then (some ((false,()),())) else (N_l0 0)
def f (K:Nat)(x:ab ps):Option Res:=pre K (l0 K x) x
def c (K:Nat):Ctr:=⟨29,ps,rs,true,f K⟩
def G (K:Nat):List Ctr:=[Q175.c K,Q2.c K,Q50.c K,Q178.c K,Q16.c K]
def live_l1:List (Nat×List Coe):=[(3,[.keep]),(26,[.ro true 41 t2]),(27,[.keep]),(28,[.keep]),(100001,[.ro true 33 t26,.ro true 101 t40,.ro true 3 (.int .i64),.ro true 41 t2])]
def live_l0:List (Nat×List Coe):=[(1,[.keep]),(3,[.keep]),(14,[.ro true 33 t26]),(15,[.keep]),(16,[.keep]),(100001,[.ro true 33 t26,.ro true 101 t40,.ro true 3 (.int .i64),.ro true 41 t2])]
def L:List (Nat×List (Nat×List Coe)):=[(12,live_l1),(6,live_l0)]
def body:Code:=cV Tryz.f29
abbrev ev (K:Nat):Code->St->(Ex->St->Option Res)->Option Res:=evK (G K) T_D L K
abbrev fin:Ex->St->Option Res:=dx T_D ps rs true Tryz.f29.results.toList
def S_l0 (x:ab ps)(a:A_l0):St:=ay [(1,⟨0,.one,[.bp 100001 0]⟩),(3,⟨0,.one,[.clo 82 [100001]]⟩),(14,⟨0,.one,[.ro true 33 t26 x.1.1]⟩),(15,⟨0,.one,[.int .i64 (AA x.1.1:Int)]⟩),(16,⟨0,.one,[.int .i64 a]⟩),(100001,⟨0,.agg,[.ro true 33 t26 x.1.1,.ro true 101 t40 x.1.2.1,.ro true 3 (.int .i64) x.1.2.2.1,.ro true 41 t2 x.1.2.2.2]⟩)]
def S_l1 (x:ab ps)(a:A_l1):St:=ay [(3,⟨0,.one,[.clo 82 [100001]]⟩),(26,⟨0,.one,[.ro true 41 t2 x.1.2.2.2]⟩),(27,⟨0,.one,[.int .i64 (AA x.1.2.2.2:Int)]⟩),(28,⟨0,.one,[.int .i64 a]⟩),(100001,⟨0,.agg,[.ro true 33 t26 x.1.1,.ro true 101 t40 x.1.2.1,.ro true 3 (.int .i64) x.1.2.2.1,.ro true 41 t2 x.1.2.2.2]⟩)]
def k_l0 (K:Nat)(x:ab ps):Ex->St->Option Res:=kAt (ev K) body [1,1,1,0,1,0] fin
def N_l0 (K:Nat)(x:ab ps):A_l0->Option Res:=λa=>be live_l0 (ev K (sub body [1,1,1,0,1,0,0])) K (S_l0 x a) (k_l0 K x)
def k_l1 (K:Nat)(x:ab ps):Ex->St->Option Res:=kAt (ev K) body [1,1,1,1,0,1,0] fin
def N_l1 (K:Nat)(x:ab ps):A_l1->Option Res:=λa=>be live_l1 (ev K (sub body [1,1,1,1,0,1,0,0])) K (S_l1 x a) (k_l1 K x)
end Q179
namespace Q180
abbrev ps:List PK:=[.rd t26]
abbrev rs:List RK:=[.v .bool]
abbrev Res:=am rs×ak ps
def f (K:Nat)(x:ab ps):Option Res:=(Q94.f K (x.1.2.2.2.2.2.2.2.2.1,x.1.1,())).bind λy1=>bif decide (y1.1.1<0) then (some ((false,()),())) else ((idx x.1.2.2.2.2.2.2.2.2.1 y1.1.1).bind λy2=>bif x.1.2.2.1 then (bif y2.2.1==x.1.2.2.2.2.1 then (bif y2.2.2.1==4 then (some ((y2.2.2.2==x.1.2.2.2.1,()),())) else (some ((false,()),()))) else (some ((false,()),()))) else (bif y2.2.1==x.1.2.2.2.2.1 then (bif y2.2.2.1==1 then (some ((y2.2.2.2==x.1.2.2.2.1,()),())) else (some ((false,()),()))) else (some ((false,()),()))))
def c (K:Nat):Ctr:=⟨62,ps,rs,true,f K⟩
end Q180
namespace Q181
abbrev ps:List PK:=[.rd (.list false 116 t3)]
abbrev rs:List RK:=[.v .bool]
abbrev Res:=am rs×ak ps
abbrev A_l0:=Int
def l0.step (K:Nat)(x:ab ps)(rec_l0:A_l0->Option Res)(a:A_l0):Option Res:=bif decide (a<(AA x.1:Int)) then ((idx x.1 a).bind λy1=>(Q61.f K (y1.1,())).bind λy2=>bif !y2.1.1 then (some ((false,()),())) else ((idx x.1 a).bind λy3=>(Q56.f K (y3.2,1,4,())).bind λy4=>bif !y4.1.1 then (some ((false,()),())) else (bif decide (a>0) then ((idx x.1 (wr .i64 (a-1))).bind λy5=>(idx x.1 a).bind λy6=>bif decide (y5.1.1>=y6.1.1) then (some ((false,()),())) else (rec_l0 (wr .i64 (a+1)))) else (rec_l0 (wr .i64 (a+1)))))) else (some ((true,()),()))
def l0 (K:Nat)(x:ab ps):A_l0->Option Res:=ae (λrec_l0 a=>l0.step K x rec_l0 a) K
def pre (K:Nat)(N_l0:A_l0->Option Res)(x:ab ps):Option Res:=N_l0 0
def f (K:Nat)(x:ab ps):Option Res:=pre K (l0 K x) x
def c (K:Nat):Ctr:=⟨116,ps,rs,true,f K⟩
end Q181
namespace Q182
abbrev ps:List PK:=[.rd t26]
abbrev rs:List RK:=[.v .bool]
abbrev Res:=am rs×ak ps
abbrev A_l0:=Int
def l0.step (K:Nat)(x:ab ps)(rec_l0:A_l0->Option Res)(a:A_l0):Option Res:=bif decide (a<(AA x.1.2.2.2.2.2.2.2.2.2.1:Int)) then ((idx x.1.2.2.2.2.2.2.2.2.2.1 a).bind λy2=>(Q94.f K (x.1.2.2.2.2.2.2.2.2.1,y2.1.1,())).bind λy3=>bif decide (y3.1.1<0) then (some ((false,()),())) else ((idx x.1.2.2.2.2.2.2.2.2.2.1 a).bind λy4=>(idx x.1.2.2.2.2.2.2.2.2.1 y3.1.1).bind λy5=>(Q78.f K (y4.1,y5,())).bind λy6=>bif y6.1.1 then (some ((false,()),())) else (rec_l0 (wr .i64 (a+1))))) else (some ((true,()),()))
def l0 (K:Nat)(x:ab ps):A_l0->Option Res:=ae (λrec_l0 a=>l0.step K x rec_l0 a) K
def pre (K:Nat)(N_l0:A_l0->Option Res)(x:ab ps):Option Res:=(Q181.f K (x.1.2.2.2.2.2.2.2.2.2.1,())).bind λy1=>bif !y1.1.1 then (some ((false,()),())) else (N_l0 0)
def f (K:Nat)(x:ab ps):Option Res:=pre K (l0 K x) x
def c (K:Nat):Ctr:=⟨63,ps,rs,true,f K⟩
end Q182
namespace Q183
abbrev ps:List PK:=[.rd t26]
abbrev rs:List RK:=[.v .bool]
abbrev Res:=am rs×ak ps
def f (K:Nat)(x:ab ps):Option Res:=bif x.1.2.2.2.2.2.2.2.2.2.2.1.1==(-1) then (bif x.1.2.2.2.2.2.2.2.2.2.2.1.2.1==0 then (bif x.1.2.2.2.2.2.2.2.2.2.2.1.2.2.1==0 then (some ((!x.1.2.2.2.2.2.2.2.2.2.2.1.2.2.2,()),())) else (some ((false,()),()))) else (some ((false,()),()))) else (bif x.1.2.2.2.2.2.2.2.2.2.2.1.1 != x.1.1 then ((Q94.f K (x.1.2.2.2.2.2.2.2.2.1,x.1.2.2.2.2.2.2.2.2.2.2.1.1,())).bind λy1=>bif decide (y1.1.1>=0) then ((Q56.f K (x.1.2.2.2.2.2.2.2.2.2.2.1.2.1,0,x.1.2.2.2.2.2.1,())).bind λy2=>bif y2.1.1 then ((Q56.f K (x.1.2.2.2.2.2.2.2.2.2.2.1.2.2.1,1,x.1.2.2.2.2.2.2.1,())).bind λy3=>some ((y3.1.1,()),())) else (some ((false,()),()))) else (some ((false,()),()))) else (some ((false,()),())))
def c (K:Nat):Ctr:=⟨64,ps,rs,true,f K⟩
end Q183
namespace Q184
abbrev ps:List PK:=[.rd t26]
abbrev rs:List RK:=[.v .bool]
abbrev Res:=am rs×ak ps
abbrev A_l1:=Int×Int×Int×Int×Int×List (Ty.den (.int .i64))
abbrev A_l2:=Int×Int
abbrev A_l0:=Int
def l1.step (K:Nat)(x:ab ps)(rec_l0:A_l0->Option Res)(rec_l1:A_l1->Option Res)(a:A_l1):Option Res:=bif decide (a.2.1<(AA a.2.2.2.2.2:Int)) then ((idx a.2.2.2.2.2 a.2.1).bind λy7=>(Q56.f K (y7,0,7,())).bind λy8=>bif !y8.1.1 then (some ((false,()),())) else ((idx a.2.2.2.2.2 a.2.1).bind λy9=>(Q91.f K (y9,())).bind λy10=>(Q91.f K (x.1.1,())).bind λy11=>bif y10.1.1 != y11.1.1 then (some ((false,()),())) else (bif decide (a.2.1>0) then ((idx a.2.2.2.2.2 (wr .i64 (a.2.1-1))).bind λy12=>(idx a.2.2.2.2.2 a.2.1).bind λy13=>bif decide (y12>=y13) then (some ((false,()),())) else (rec_l1 (a.1,wr .i64 (a.2.1+1),a.2.2.1,a.2.2.2.1,a.2.2.2.2.1,a.2.2.2.2.2))) else (rec_l1 (a.1,wr .i64 (a.2.1+1),a.2.2.1,a.2.2.2.1,a.2.2.2.2.1,a.2.2.2.2.2))))) else (rec_l0 (wr .i64 (a.1+1)))
def l1 (K:Nat)(x:ab ps)(rec_l0:A_l0->Option Res):A_l1->Option Res:=ae (λrec_l1 a=>l1.step K x rec_l0 rec_l1 a) K
def l2.step (K:Nat)(x:ab ps)(rec_l2:A_l2->Option Res)(a:A_l2):Option Res:=bif decide (a.2<(AA x.1.2.2.2.2.2.2.2.2.1:Int)) then ((idx x.1.2.2.2.2.2.2.2.2.1 a.2).bind λy17=>bif y17.2.2.1==2 then (rec_l2 (wr .i64 (a.1+1),wr .i64 (a.2+1))) else (rec_l2 (a.1,wr .i64 (a.2+1)))) else (some ((a.1==(AA x.1.2.2.2.2.2.2.2.2.2.2.2.1:Int),()),()))
def l2 (K:Nat)(x:ab ps):A_l2->Option Res:=ae (λrec_l2 a=>l2.step K x rec_l2 a) K
def l0.step (K:Nat)(x:ab ps)(N_l1:A_l1->Option Res)(N_l2:A_l2->Option Res)(rec_l0:A_l0->Option Res)(a:A_l0):Option Res:=bif decide (a<(AA x.1.2.2.2.2.2.2.2.2.2.2.2.1:Int)) then ((idx x.1.2.2.2.2.2.2.2.2.2.2.2.1 a).bind λy1=>(Q94.f K (x.1.2.2.2.2.2.2.2.2.1,y1.1,())).bind λy2=>bif decide (a>0) then ((idx x.1.2.2.2.2.2.2.2.2.2.2.2.1 (wr .i64 (a-1))).bind λy3=>bif decide (y3.1>=y1.1) then (some ((false,()),())) else (bif decide (y2.1.1<0) then (some ((false,()),())) else ((idx x.1.2.2.2.2.2.2.2.2.1 y2.1.1).bind λy4=>bif y4.2.2.1 != 2 then (some ((false,()),())) else ((idx x.1.2.2.2.2.2.2.2.2.1 y2.1.1).bind λy5=>bif y5.2.1 != y1.2.1 then (some ((false,()),())) else ((Q56.f K (y1.2.2.1,0,x.1.2.2.2.2.2.1,())).bind λy6=>bif !y6.1.1 then (some ((false,()),())) else (bif (AA y1.2.2.2:Int)==0 then (some ((false,()),())) else (N_l1 (a,0,y1.1,y1.2.1,y1.2.2.1,y1.2.2.2)))))))) else (bif decide (y2.1.1<0) then (some ((false,()),())) else ((idx x.1.2.2.2.2.2.2.2.2.1 y2.1.1).bind λy14=>bif y14.2.2.1 != 2 then (some ((false,()),())) else ((idx x.1.2.2.2.2.2.2.2.2.1 y2.1.1).bind λy15=>bif y15.2.1 != y1.2.1 then (some ((false,()),())) else ((Q56.f K (y1.2.2.1,0,x.1.2.2.2.2.2.1,())).bind λy16=>bif !y16.1.1 then (some ((false,()),())) else (bif (AA y1.2.2.2:Int)==0 then (some ((false,()),())) else (N_l1 (a,0,y1.1,y1.2.1,y1.2.2.1,y1.2.2.2)))))))) else (N_l2 (0,0))
def l0 (K:Nat)(x:ab ps):A_l0->Option Res:=ae (λrec_l0 a=>l0.step K x (l1 K x rec_l0) (l2 K x) rec_l0 a) K
def pre (K:Nat)(N_l0:A_l0->Option Res)(x:ab ps):Option Res:=N_l0 0
def f (K:Nat)(x:ab ps):Option Res:=pre K (l0 K x) x
def c (K:Nat):Ctr:=⟨65,ps,rs,true,f K⟩
def G (K:Nat):List Ctr:=[Q91.c K,Q94.c K,Q56.c K]
def live_l1:List (Nat×List Coe):=[(1,[.keep]),(3,[.keep]),(4,[.keep]),(6,[.keep]),(100001,[.keep,.keep,.keep,.keep,.keep,.keep,.keep,.keep,.ro true 41 t2,.ro true 116 t3,.keep,.keep,.keep,.keep,.ro true 92 t6,.keep,.keep,.keep,.keep,.ro true 45 t11,.ro true 56 t12]),(100004,[.keep,.keep,.keep,.ro true 3 (.int .i64)])]
def live_l2:List (Nat×List Coe):=[(1,[.keep]),(7,[.keep]),(8,[.keep]),(100001,[.keep,.keep,.keep,.keep,.keep,.keep,.keep,.keep,.ro true 41 t2,.ro true 116 t3,.keep,.keep,.keep,.keep,.ro true 92 t6,.keep,.keep,.keep,.keep,.ro true 45 t11,.ro true 56 t12])]
def live_l0:List (Nat×List Coe):=[(1,[.keep]),(3,[.keep]),(100001,[.keep,.keep,.keep,.keep,.keep,.keep,.keep,.keep,.ro true 41 t2,.ro true 116 t3,.keep,.keep,.keep,.keep,.ro true 92 t6,.keep,.keep,.keep,.keep,.ro true 45 t11,.ro true 56 t12])]
def L:List (Nat×List (Nat×List Coe)):=[(10,live_l1),(16,live_l2),(3,live_l0)]
def body:Code:=cV Tryz.f65
abbrev ev (K:Nat):Code->St->(Ex->St->Option Res)->Option Res:=evK (G K) T_S L K
abbrev fin:Ex->St->Option Res:=dx T_S ps rs true Tryz.f65.results.toList
def S_l0 (x:ab ps)(a:A_l0):St:=ay [(1,⟨0,.one,[.bp 100001 0]⟩),(3,⟨0,.one,[.int .i64 a]⟩),(100001,⟨0,.agg,[.int .i64 x.1.1,.bool x.1.2.1,.bool x.1.2.2.1,.bool x.1.2.2.2.1,.int .i64 x.1.2.2.2.2.1,.int .i64 x.1.2.2.2.2.2.1,.int .i64 x.1.2.2.2.2.2.2.1,.int .i64 x.1.2.2.2.2.2.2.2.1,.ro true 41 t2 x.1.2.2.2.2.2.2.2.2.1,.ro true 116 t3 x.1.2.2.2.2.2.2.2.2.2.1,.int .i64 x.1.2.2.2.2.2.2.2.2.2.2.1.1,.int .i64 x.1.2.2.2.2.2.2.2.2.2.2.1.2.1,.int .i64 x.1.2.2.2.2.2.2.2.2.2.2.1.2.2.1,.bool x.1.2.2.2.2.2.2.2.2.2.2.1.2.2.2,.ro true 92 t6 x.1.2.2.2.2.2.2.2.2.2.2.2.1,.int .i64 x.1.2.2.2.2.2.2.2.2.2.2.2.2.1.1,.int .i64 x.1.2.2.2.2.2.2.2.2.2.2.2.2.1.2.1,.int .i64 x.1.2.2.2.2.2.2.2.2.2.2.2.2.1.2.2.1,.int .i64 x.1.2.2.2.2.2.2.2.2.2.2.2.2.1.2.2.2,.ro true 45 t11 x.1.2.2.2.2.2.2.2.2.2.2.2.2.2.1,.ro true 56 t12 x.1.2.2.2.2.2.2.2.2.2.2.2.2.2.2]⟩)]
def S_l2 (x:ab ps)(a:A_l2):St:=ay [(1,⟨0,.one,[.bp 100001 0]⟩),(7,⟨0,.one,[.int .i64 a.1]⟩),(8,⟨0,.one,[.int .i64 a.2]⟩),(100001,⟨0,.agg,[.int .i64 x.1.1,.bool x.1.2.1,.bool x.1.2.2.1,.bool x.1.2.2.2.1,.int .i64 x.1.2.2.2.2.1,.int .i64 x.1.2.2.2.2.2.1,.int .i64 x.1.2.2.2.2.2.2.1,.int .i64 x.1.2.2.2.2.2.2.2.1,.ro true 41 t2 x.1.2.2.2.2.2.2.2.2.1,.ro true 116 t3 x.1.2.2.2.2.2.2.2.2.2.1,.int .i64 x.1.2.2.2.2.2.2.2.2.2.2.1.1,.int .i64 x.1.2.2.2.2.2.2.2.2.2.2.1.2.1,.int .i64 x.1.2.2.2.2.2.2.2.2.2.2.1.2.2.1,.bool x.1.2.2.2.2.2.2.2.2.2.2.1.2.2.2,.ro true 92 t6 x.1.2.2.2.2.2.2.2.2.2.2.2.1,.int .i64 x.1.2.2.2.2.2.2.2.2.2.2.2.2.1.1,.int .i64 x.1.2.2.2.2.2.2.2.2.2.2.2.2.1.2.1,.int .i64 x.1.2.2.2.2.2.2.2.2.2.2.2.2.1.2.2.1,.int .i64 x.1.2.2.2.2.2.2.2.2.2.2.2.2.1.2.2.2,.ro true 45 t11 x.1.2.2.2.2.2.2.2.2.2.2.2.2.2.1,.ro true 56 t12 x.1.2.2.2.2.2.2.2.2.2.2.2.2.2.2]⟩)]
def S_l1 (x:ab ps)(a:A_l1):St:=ay [(1,⟨0,.one,[.bp 100001 0]⟩),(3,⟨0,.one,[.int .i64 a.1]⟩),(4,⟨0,.one,[.bp 100004 0]⟩),(6,⟨0,.one,[.int .i64 a.2.1]⟩),(100001,⟨0,.agg,[.int .i64 x.1.1,.bool x.1.2.1,.bool x.1.2.2.1,.bool x.1.2.2.2.1,.int .i64 x.1.2.2.2.2.1,.int .i64 x.1.2.2.2.2.2.1,.int .i64 x.1.2.2.2.2.2.2.1,.int .i64 x.1.2.2.2.2.2.2.2.1,.ro true 41 t2 x.1.2.2.2.2.2.2.2.2.1,.ro true 116 t3 x.1.2.2.2.2.2.2.2.2.2.1,.int .i64 x.1.2.2.2.2.2.2.2.2.2.2.1.1,.int .i64 x.1.2.2.2.2.2.2.2.2.2.2.1.2.1,.int .i64 x.1.2.2.2.2.2.2.2.2.2.2.1.2.2.1,.bool x.1.2.2.2.2.2.2.2.2.2.2.1.2.2.2,.ro true 92 t6 x.1.2.2.2.2.2.2.2.2.2.2.2.1,.int .i64 x.1.2.2.2.2.2.2.2.2.2.2.2.2.1.1,.int .i64 x.1.2.2.2.2.2.2.2.2.2.2.2.2.1.2.1,.int .i64 x.1.2.2.2.2.2.2.2.2.2.2.2.2.1.2.2.1,.int .i64 x.1.2.2.2.2.2.2.2.2.2.2.2.2.1.2.2.2,.ro true 45 t11 x.1.2.2.2.2.2.2.2.2.2.2.2.2.2.1,.ro true 56 t12 x.1.2.2.2.2.2.2.2.2.2.2.2.2.2.2]⟩),(100004,⟨0,.agg,[.int .i64 a.2.2.1,.int .i64 a.2.2.2.1,.int .i64 a.2.2.2.2.1,.ro true 3 (.int .i64) a.2.2.2.2.2]⟩)]
def k_l0 (K:Nat)(x:ab ps):Ex->St->Option Res:=kAt (ev K) body [1,0,1,0] fin
def N_l0 (K:Nat)(x:ab ps):A_l0->Option Res:=λa=>be live_l0 (ev K (sub body [1,0,1,0,0])) K (S_l0 x a) (k_l0 K x)
def k_l2 (K:Nat)(x:ab ps):Ex->St->Option Res:=kAt (ev K) body [1,1,1,0,1,0] fin
def N_l2 (K:Nat)(x:ab ps):A_l2->Option Res:=λa=>be live_l2 (ev K (sub body [1,1,1,0,1,0,0])) K (S_l2 x a) (k_l2 K x)
def k_l1 (K:Nat)(x:ab ps)(r_l0:St->Option Res):Ex->St->Option Res:=kAt (ev K) (sub body [1,0,1,0,0]) [1,0,0,1,1,1,1,0] (bo live_l0 r_l0 (k_l0 K x))
def N_l1 (K:Nat)(x:ab ps)(r_l0:St->Option Res):A_l1->Option Res:=λa=>be live_l1 (ev K (sub body [1,0,1,0,0,1,0,0,1,1,1,1,0,0])) K (S_l1 x a) (k_l1 K x r_l0)
end Q184
namespace Q185
abbrev ps:List PK:=[.rd t26]
abbrev rs:List RK:=[.v .bool]
abbrev Res:=am rs×ak ps
abbrev A_l1:=Int×Int×Int×Int×Int×Int×Int×List (Ty.den (.int .i64))
abbrev A_l0:=Int
def l1.step (K:Nat)(x:ab ps)(rec_l0:A_l0->Option Res)(rec_l1:A_l1->Option Res)(a:A_l1):Option Res:=bif decide (a.2.1<(AA a.2.2.2.2.2.2.2:Int)) then ((idx a.2.2.2.2.2.2.2 a.2.1).bind λy8=>(Q56.f K (y8,1,60000,())).bind λy9=>bif !y9.1.1 then (some ((false,()),())) else (rec_l1 (a.1,wr .i64 (a.2.1+1),a.2.2.1,a.2.2.2.1,a.2.2.2.2.1,a.2.2.2.2.2.1,a.2.2.2.2.2.2.1,a.2.2.2.2.2.2.2))) else (rec_l0 (wr .i64 (a.1+1)))
def l1 (K:Nat)(x:ab ps)(rec_l0:A_l0->Option Res):A_l1->Option Res:=ae (λrec_l1 a=>l1.step K x rec_l0 rec_l1 a) K
def l0.step (K:Nat)(x:ab ps)(N_l1:A_l1->Option Res)(rec_l0:A_l0->Option Res)(a:A_l0):Option Res:=bif decide (a<(AA x.1.2.2.2.2.2.2.2.2.2.2.2.2.2.1:Int)) then ((idx x.1.2.2.2.2.2.2.2.2.2.2.2.2.2.1 a).bind λy1=>(Q56.f K (y1.1,0,7,())).bind λy2=>bif !y2.1.1 then (some ((false,()),())) else ((Q91.f K (y1.1,())).bind λy3=>(Q91.f K (x.1.1,())).bind λy4=>bif y3.1.1 != y4.1.1 then (some ((false,()),())) else (bif y1.1==x.1.1 then (some ((false,()),())) else (bif decide (a>0) then ((idx x.1.2.2.2.2.2.2.2.2.2.2.2.2.2.1 (wr .i64 (a-1))).bind λy5=>bif decide (y5.1>=y1.1) then (some ((false,()),())) else ((Q64.f K (y1.2.1,())).bind λy6=>bif !y6.1.1 then (some ((false,()),())) else ((Q56.f K ((AA y1.2.2:Int),1,3,())).bind λy7=>bif !y7.1.1 then (some ((false,()),())) else (N_l1 (a,0,y1.1,y1.2.1.1,y1.2.1.2.1,y1.2.1.2.2.1,y1.2.1.2.2.2,y1.2.2))))) else ((Q64.f K (y1.2.1,())).bind λy10=>bif !y10.1.1 then (some ((false,()),())) else ((Q56.f K ((AA y1.2.2:Int),1,3,())).bind λy11=>bif !y11.1.1 then (some ((false,()),())) else (N_l1 (a,0,y1.1,y1.2.1.1,y1.2.1.2.1,y1.2.1.2.2.1,y1.2.1.2.2.2,y1.2.2)))))))) else (some ((true,()),()))
def l0 (K:Nat)(x:ab ps):A_l0->Option Res:=ae (λrec_l0 a=>l0.step K x (l1 K x rec_l0) rec_l0 a) K
def pre (K:Nat)(N_l0:A_l0->Option Res)(x:ab ps):Option Res:=N_l0 0
def f (K:Nat)(x:ab ps):Option Res:=pre K (l0 K x) x
def c (K:Nat):Ctr:=⟨67,ps,rs,true,f K⟩
def G (K:Nat):List Ctr:=[Q91.c K,Q56.c K,Q64.c K]
def live_l1:List (Nat×List Coe):=[(1,[.keep]),(3,[.keep]),(4,[.keep]),(5,[.keep]),(100001,[.keep,.keep,.keep,.keep,.keep,.keep,.keep,.keep,.ro true 41 t2,.ro true 116 t3,.keep,.keep,.keep,.keep,.ro true 92 t6,.keep,.keep,.keep,.keep,.ro true 45 t11,.ro true 56 t12]),(100004,[.keep,.keep,.keep,.keep,.keep,.ro true 3 (.int .i64)])]
def live_l0:List (Nat×List Coe):=[(1,[.keep]),(3,[.keep]),(100001,[.keep,.keep,.keep,.keep,.keep,.keep,.keep,.keep,.ro true 41 t2,.ro true 116 t3,.keep,.keep,.keep,.keep,.ro true 92 t6,.keep,.keep,.keep,.keep,.ro true 45 t11,.ro true 56 t12])]
def L:List (Nat×List (Nat×List Coe)):=[(9,live_l1),(3,live_l0)]
def body:Code:=cV Tryz.f67
abbrev ev (K:Nat):Code->St->(Ex->St->Option Res)->Option Res:=evK (G K) T_S L K
abbrev fin:Ex->St->Option Res:=dx T_S ps rs true Tryz.f67.results.toList
def S_l0 (x:ab ps)(a:A_l0):St:=ay [(1,⟨0,.one,[.bp 100001 0]⟩),(3,⟨0,.one,[.int .i64 a]⟩),(100001,⟨0,.agg,[.int .i64 x.1.1,.bool x.1.2.1,.bool x.1.2.2.1,.bool x.1.2.2.2.1,.int .i64 x.1.2.2.2.2.1,.int .i64 x.1.2.2.2.2.2.1,.int .i64 x.1.2.2.2.2.2.2.1,.int .i64 x.1.2.2.2.2.2.2.2.1,.ro true 41 t2 x.1.2.2.2.2.2.2.2.2.1,.ro true 116 t3 x.1.2.2.2.2.2.2.2.2.2.1,.int .i64 x.1.2.2.2.2.2.2.2.2.2.2.1.1,.int .i64 x.1.2.2.2.2.2.2.2.2.2.2.1.2.1,.int .i64 x.1.2.2.2.2.2.2.2.2.2.2.1.2.2.1,.bool x.1.2.2.2.2.2.2.2.2.2.2.1.2.2.2,.ro true 92 t6 x.1.2.2.2.2.2.2.2.2.2.2.2.1,.int .i64 x.1.2.2.2.2.2.2.2.2.2.2.2.2.1.1,.int .i64 x.1.2.2.2.2.2.2.2.2.2.2.2.2.1.2.1,.int .i64 x.1.2.2.2.2.2.2.2.2.2.2.2.2.1.2.2.1,.int .i64 x.1.2.2.2.2.2.2.2.2.2.2.2.2.1.2.2.2,.ro true 45 t11 x.1.2.2.2.2.2.2.2.2.2.2.2.2.2.1,.ro true 56 t12 x.1.2.2.2.2.2.2.2.2.2.2.2.2.2.2]⟩)]
def S_l1 (x:ab ps)(a:A_l1):St:=ay [(1,⟨0,.one,[.bp 100001 0]⟩),(3,⟨0,.one,[.int .i64 a.1]⟩),(4,⟨0,.one,[.bp 100004 0]⟩),(5,⟨0,.one,[.int .i64 a.2.1]⟩),(100001,⟨0,.agg,[.int .i64 x.1.1,.bool x.1.2.1,.bool x.1.2.2.1,.bool x.1.2.2.2.1,.int .i64 x.1.2.2.2.2.1,.int .i64 x.1.2.2.2.2.2.1,.int .i64 x.1.2.2.2.2.2.2.1,.int .i64 x.1.2.2.2.2.2.2.2.1,.ro true 41 t2 x.1.2.2.2.2.2.2.2.2.1,.ro true 116 t3 x.1.2.2.2.2.2.2.2.2.2.1,.int .i64 x.1.2.2.2.2.2.2.2.2.2.2.1.1,.int .i64 x.1.2.2.2.2.2.2.2.2.2.2.1.2.1,.int .i64 x.1.2.2.2.2.2.2.2.2.2.2.1.2.2.1,.bool x.1.2.2.2.2.2.2.2.2.2.2.1.2.2.2,.ro true 92 t6 x.1.2.2.2.2.2.2.2.2.2.2.2.1,.int .i64 x.1.2.2.2.2.2.2.2.2.2.2.2.2.1.1,.int .i64 x.1.2.2.2.2.2.2.2.2.2.2.2.2.1.2.1,.int .i64 x.1.2.2.2.2.2.2.2.2.2.2.2.2.1.2.2.1,.int .i64 x.1.2.2.2.2.2.2.2.2.2.2.2.2.1.2.2.2,.ro true 45 t11 x.1.2.2.2.2.2.2.2.2.2.2.2.2.2.1,.ro true 56 t12 x.1.2.2.2.2.2.2.2.2.2.2.2.2.2.2]⟩),(100004,⟨0,.agg,[.int .i64 a.2.2.1,.int .i64 a.2.2.2.1,.int .i64 a.2.2.2.2.1,.int .i64 a.2.2.2.2.2.1,.int .i64 a.2.2.2.2.2.2.1,.ro true 3 (.int .i64) a.2.2.2.2.2.2.2]⟩)]
def k_l0 (K:Nat)(x:ab ps):Ex->St->Option Res:=kAt (ev K) body [1,0,1,0] fin
def N_l0 (K:Nat)(x:ab ps):A_l0->Option Res:=λa=>be live_l0 (ev K (sub body [1,0,1,0,0])) K (S_l0 x a) (k_l0 K x)
def k_l1 (K:Nat)(x:ab ps)(r_l0:St->Option Res):Ex->St->Option Res:=kAt (ev K) (sub body [1,0,1,0,0]) [1,0,0,1,1,1,0] (bo live_l0 r_l0 (k_l0 K x))
def N_l1 (K:Nat)(x:ab ps)(r_l0:St->Option Res):A_l1->Option Res:=λa=>be live_l1 (ev K (sub body [1,0,1,0,0,1,0,0,1,1,1,0,0])) K (S_l1 x a) (k_l1 K x r_l0)
end Q185
namespace Q186
abbrev ps:List PK:=[.rd t26]
abbrev rs:List RK:=[.v .bool]
abbrev Res:=am rs×ak ps
abbrev A_l0:=Int
def l0.step (K:Nat)(x:ab ps)(rec_l0:A_l0->Option Res)(a:A_l0):Option Res:=bif decide (a<(AA x.1.2.2.2.2.2.2.2.2.2.2.2.2.2.2:Int)) then ((idx x.1.2.2.2.2.2.2.2.2.2.2.2.2.2.2 a).bind λy1=>(Q56.f K (y1.1,0,1,())).bind λy2=>bif !y2.1.1 then (some ((false,()),())) else ((Q91.f K (x.1.1,())).bind λy3=>bif y1.1==y3.1.1 then (some ((false,()),())) else (bif decide (a>0) then ((idx x.1.2.2.2.2.2.2.2.2.2.2.2.2.2.2 (wr .i64 (a-1))).bind λy4=>bif decide (y4.1>=y1.1) then (some ((false,()),())) else (bif (AA y1.2:Int)==0 then (some ((false,()),())) else ((Q62.f K (y1.2,())).bind λy5=>bif !y5.1.1 then (some ((false,()),())) else ((Q63.f K (y1.2,y1.1,())).bind λy6=>bif !y6.1.1 then (some ((false,()),())) else (rec_l0 (wr .i64 (a+1))))))) else (bif (AA y1.2:Int)==0 then (some ((false,()),())) else ((Q62.f K (y1.2,())).bind λy7=>bif !y7.1.1 then (some ((false,()),())) else ((Q63.f K (y1.2,y1.1,())).bind λy8=>bif !y8.1.1 then (some ((false,()),())) else (rec_l0 (wr .i64 (a+1))))))))) else (some ((true,()),()))
def l0 (K:Nat)(x:ab ps):A_l0->Option Res:=ae (λrec_l0 a=>l0.step K x rec_l0 a) K
def pre (K:Nat)(N_l0:A_l0->Option Res)(x:ab ps):Option Res:=N_l0 0
def f (K:Nat)(x:ab ps):Option Res:=pre K (l0 K x) x
def c (K:Nat):Ctr:=⟨68,ps,rs,true,f K⟩
end Q186
namespace Q187
abbrev ps:List PK:=[.rd t26]
abbrev rs:List RK:=[.v .bool]
abbrev Res:=am rs×ak ps
def f (K:Nat)(x:ab ps):Option Res:=(Q56.f K (x.1.1,0,7,())).bind λy1=>bif !y1.1.1 then (some ((false,()),())) else ((Q56.f K (x.1.2.2.2.2.2.1,0,999999,())).bind λy2=>bif !y2.1.1 then (some ((false,()),())) else ((Q56.f K (x.1.2.2.2.2.2.2.1,0,999999,())).bind λy3=>bif !y3.1.1 then (some ((false,()),())) else ((Q56.f K (x.1.2.2.2.2.2.2.2.1,0,8,())).bind λy4=>bif !y4.1.1 then (some ((false,()),())) else ((Q56.f K (x.1.2.2.2.2.1,0,999,())).bind λy5=>bif !y5.1.1 then (some ((false,()),())) else (bif !x.1.2.1 then (bif !x.1.2.2.1 then (bif x.1.2.2.2.2.1==0 then (bif x.1.2.2.2.2.2.1==0 then (bif x.1.2.2.2.2.2.2.1==0 then (bif x.1.2.2.2.2.2.2.2.1==0 then (bif (wr .i64 ((wr .i64 ((wr .i64 ((wr .i64 ((AA x.1.2.2.2.2.2.2.2.2.1:Int)+(AA x.1.2.2.2.2.2.2.2.2.2.1:Int)))+(AA x.1.2.2.2.2.2.2.2.2.2.2.2.1:Int)))+(AA x.1.2.2.2.2.2.2.2.2.2.2.2.2.2.1:Int)))+(AA x.1.2.2.2.2.2.2.2.2.2.2.2.2.2.2:Int)))==0 then (bif x.1.2.2.2.2.2.2.2.2.2.2.1.1==0 then (bif x.1.2.2.2.2.2.2.2.2.2.2.1.2.1==0 then (bif x.1.2.2.2.2.2.2.2.2.2.2.1.2.2.1==0 then (bif !x.1.2.2.2.2.2.2.2.2.2.2.1.2.2.2 then (bif x.1.2.2.2.2.2.2.2.2.2.2.2.2.1.1==0 then (bif x.1.2.2.2.2.2.2.2.2.2.2.2.2.1.2.1==0 then (bif x.1.2.2.2.2.2.2.2.2.2.2.2.2.1.2.2.1==0 then (some ((x.1.2.2.2.2.2.2.2.2.2.2.2.2.1.2.2.2==0,()),())) else (some ((false,()),()))) else (some ((false,()),()))) else (some ((false,()),()))) else (some ((false,()),()))) else (some ((false,()),()))) else (some ((false,()),()))) else (some ((false,()),()))) else (some ((false,()),()))) else (some ((false,()),()))) else (some ((false,()),()))) else (some ((false,()),()))) else (some ((false,()),()))) else (some ((false,()),()))) else ((Q62.f K (x.1.2.2.2.2.2.2.2.2.1,())).bind λy6=>bif y6.1.1 then ((Q91.f K (x.1.1,())).bind λy7=>(Q63.f K (x.1.2.2.2.2.2.2.2.2.1,y7.1.1,())).bind λy8=>bif y8.1.1 then ((Q180.f K (x.1,())).bind λy9=>bif y9.1.1 then ((Q182.f K (x.1,())).bind λy10=>bif y10.1.1 then ((Q183.f K (x.1,())).bind λy11=>bif y11.1.1 then ((Q184.f K (x.1,())).bind λy12=>bif y12.1.1 then ((Q64.f K (x.1.2.2.2.2.2.2.2.2.2.2.2.2.1,())).bind λy13=>bif y13.1.1 then ((Q185.f K (x.1,())).bind λy14=>bif y14.1.1 then ((Q186.f K (x.1,())).bind λy15=>some ((y15.1.1,()),())) else (some ((false,()),()))) else (some ((false,()),()))) else (some ((false,()),()))) else (some ((false,()),()))) else (some ((false,()),()))) else (some ((false,()),()))) else (some ((false,()),()))) else (some ((false,()),()))))))))
def c (K:Nat):Ctr:=⟨13,ps,rs,true,f K⟩
end Q187
namespace Q188
abbrev ps:List PK:=[.rd t65]
abbrev rs:List RK:=[.v .bool]
abbrev Res:=am rs×ak ps
abbrev A_l2:=Int
abbrev A_l1:=Int
abbrev A_l0:=Int
def l2.step (K:Nat)(x:ab ps)(rec_l2:A_l2->Option Res)(a:A_l2):Option Res:=bif decide (a<(AA x.1.2.2.2:Int)) then ((idx x.1.2.2.2 a).bind λy11=>(Q61.f K (y11,())).bind λy12=>bif !y12.1.1 then (some ((false,()),())) else (bif decide (a>0) then ((idx x.1.2.2.2 (wr .i64 (a-1))).bind λy13=>(idx x.1.2.2.2 a).bind λy14=>(Q79.f K (y13,y14,())).bind λy15=>bif !y15.1.1 then (some ((false,()),())) else (rec_l2 (wr .i64 (a+1)))) else (rec_l2 (wr .i64 (a+1))))) else (some ((true,()),()))
def l2 (K:Nat)(x:ab ps):A_l2->Option Res:=ae (λrec_l2 a=>l2.step K x rec_l2 a) K
def l1.step (K:Nat)(x:ab ps)(N_l2:A_l2->Option Res)(rec_l1:A_l1->Option Res)(a:A_l1):Option Res:=bif decide (a<(AA x.1.2.1:Int)) then ((idx x.1.2.1 a).bind λy8=>(Q56.f K (y8.1,0,7,())).bind λy9=>bif !y9.1.1 then (some ((false,()),())) else ((idx x.1.2.1 a).bind λy10=>bif decide ((y10.2.1.size:Int)>300) then (some ((false,()),())) else (rec_l1 (wr .i64 (a+1))))) else (N_l2 0)
def l1 (K:Nat)(x:ab ps):A_l1->Option Res:=ae (λrec_l1 a=>l1.step K x (l2 K x) rec_l1 a) K
def l0.step (K:Nat)(x:ab ps)(N_l1:A_l1->Option Res)(rec_l0:A_l0->Option Res)(a:A_l0):Option Res:=bif decide (a<(AA x.1.1:Int)) then ((idx x.1.1 a).bind λy1=>bif y1.1 != a then (some ((false,()),())) else ((idx x.1.1 a).bind λy2=>(Q59.f K (a,())).bind λy3=>bif y2.2.2.2.1 != y3.1.1 then (some ((false,()),())) else ((idx x.1.1 a).bind λy4=>(Q187.f K (y4,())).bind λy5=>bif !y5.1.1 then (some ((false,()),())) else ((idx x.1.2.2.1 a).bind λy6=>(Q56.f K (y6,0,2,())).bind λy7=>bif !y7.1.1 then (some ((false,()),())) else (rec_l0 (wr .i64 (a+1))))))) else (N_l1 0)
def l0 (K:Nat)(x:ab ps):A_l0->Option Res:=ae (λrec_l0 a=>l0.step K x (l1 K x) rec_l0 a) K
def pre (K:Nat)(N_l0:A_l0->Option Res)(x:ab ps):Option Res:=bif (AA x.1.1:Int) != 8 then (some ((false,()),())) else (bif (AA x.1.2.2.1:Int) != (AA x.1.1:Int) then (some ((false,()),())) else (bif decide ((AA x.1.2.1:Int)>60) then (some ((false,()),())) else (N_l0 0)))
def f (K:Nat)(x:ab ps):Option Res:=pre K (l0 K x) x
def c (K:Nat):Ctr:=⟨32,ps,rs,true,f K⟩
def G (K:Nat):List Ctr:=[Q187.c K,Q56.c K,Q59.c K,Q61.c K,Q79.c K]
def live_l2:List (Nat×List Coe):=[(1,[.keep]),(5,[.keep]),(100001,[.ro true 33 t26,.ro true 101 t40,.ro true 3 (.int .i64),.ro true 41 t2])]
def live_l1:List (Nat×List Coe):=[(1,[.keep]),(4,[.keep]),(100001,[.ro true 33 t26,.ro true 101 t40,.ro true 3 (.int .i64),.ro true 41 t2])]
def live_l0:List (Nat×List Coe):=[(1,[.keep]),(3,[.keep]),(100001,[.ro true 33 t26,.ro true 101 t40,.ro true 3 (.int .i64),.ro true 41 t2])]
def L:List (Nat×List (Nat×List Coe)):=[(15,live_l2),(10,live_l1),(5,live_l0)]
def body:Code:=cV Tryz.f32
abbrev ev (K:Nat):Code->St->(Ex->St->Option Res)->Option Res:=evK (G K) T_S L K
abbrev fin:Ex->St->Option Res:=dx T_S ps rs true Tryz.f32.results.toList
def S_l0 (x:ab ps)(a:A_l0):St:=ay [(1,⟨0,.one,[.bp 100001 0]⟩),(3,⟨0,.one,[.int .i64 a]⟩),(100001,⟨0,.agg,[.ro true 33 t26 x.1.1,.ro true 101 t40 x.1.2.1,.ro true 3 (.int .i64) x.1.2.2.1,.ro true 41 t2 x.1.2.2.2]⟩)]
def S_l1 (x:ab ps)(a:A_l1):St:=ay [(1,⟨0,.one,[.bp 100001 0]⟩),(4,⟨0,.one,[.int .i64 a]⟩),(100001,⟨0,.agg,[.ro true 33 t26 x.1.1,.ro true 101 t40 x.1.2.1,.ro true 3 (.int .i64) x.1.2.2.1,.ro true 41 t2 x.1.2.2.2]⟩)]
def S_l2 (x:ab ps)(a:A_l2):St:=ay [(1,⟨0,.one,[.bp 100001 0]⟩),(5,⟨0,.one,[.int .i64 a]⟩),(100001,⟨0,.agg,[.ro true 33 t26 x.1.1,.ro true 101 t40 x.1.2.1,.ro true 3 (.int .i64) x.1.2.2.1,.ro true 41 t2 x.1.2.2.2]⟩)]
def k_l0 (K:Nat)(x:ab ps):Ex->St->Option Res:=kAt (ev K) body [1,1,0,1,0] fin
def N_l0 (K:Nat)(x:ab ps):A_l0->Option Res:=λa=>be live_l0 (ev K (sub body [1,1,0,1,0,0])) K (S_l0 x a) (k_l0 K x)
def k_l1 (K:Nat)(x:ab ps):Ex->St->Option Res:=kAt (ev K) body [1,1,1,0,1,0] fin
def N_l1 (K:Nat)(x:ab ps):A_l1->Option Res:=λa=>be live_l1 (ev K (sub body [1,1,1,0,1,0,0])) K (S_l1 x a) (k_l1 K x)
def k_l2 (K:Nat)(x:ab ps):Ex->St->Option Res:=kAt (ev K) body [1,1,1,1,0,1,0] fin
def N_l2 (K:Nat)(x:ab ps):A_l2->Option Res:=λa=>be live_l2 (ev K (sub body [1,1,1,1,0,1,0,0])) K (S_l2 x a) (k_l2 K x)
end Q188
namespace Q189
abbrev ps:List PK:=[.rd (.list false 41 t2)]
abbrev rs:List RK:=[.v .bool]
abbrev Res:=am rs×ak ps
abbrev A_l0:=Int
def l0.step (K:Nat)(x:ab ps)(rec_l0:A_l0->Option Res)(a:A_l0):Option Res:=bif decide (a<(AA x.1:Int)) then ((idx x.1 a).bind λy1=>bif y1.2.2.1==1 then (rec_l0 (wr .i64 (a+1))) else (bif y1.2.2.1==4 then (rec_l0 (wr .i64 (a+1))) else ((Q77.f K (x.1,(y1.1,(y1.2.1,(wr .i64 (y1.2.2.1-1),y1.2.2.2))),())).bind λy2=>bif !y2.1.1 then (some ((false,()),())) else (rec_l0 (wr .i64 (a+1)))))) else (some ((true,()),()))
def l0 (K:Nat)(x:ab ps):A_l0->Option Res:=ae (λrec_l0 a=>l0.step K x rec_l0 a) K
def pre (K:Nat)(N_l0:A_l0->Option Res)(x:ab ps):Option Res:=N_l0 0
def f (K:Nat)(x:ab ps):Option Res:=pre K (l0 K x) x
def c (K:Nat):Ctr:=⟨85,ps,rs,true,f K⟩
end Q189
namespace Q190
abbrev ps:List PK:=[.rd t65,.rd (.list false 41 t2)]
abbrev rs:List RK:=[.v .bool]
abbrev Res:=am rs×ak ps
abbrev A_l0:=Int
def l0.step (K:Nat)(x:ab ps)(rec_l0:A_l0->Option Res)(a:A_l0):Option Res:=bif decide (a<(AA x.2.1:Int)) then ((idx x.2.1 a).bind λy1=>(Q77.f K (x.1.2.2.2,y1,())).bind λy2=>bif !y2.1.1 then (some ((false,()),())) else (rec_l0 (wr .i64 (a+1)))) else (some ((true,()),()))
def l0 (K:Nat)(x:ab ps):A_l0->Option Res:=ae (λrec_l0 a=>l0.step K x rec_l0 a) K
def pre (K:Nat)(N_l0:A_l0->Option Res)(x:ab ps):Option Res:=N_l0 0
def f (K:Nat)(x:ab ps):Option Res:=pre K (l0 K x) x
def c (K:Nat):Ctr:=⟨86,ps,rs,true,f K⟩
end Q190
namespace Q191
abbrev ps:List PK:=[.rd t65]
abbrev rs:List RK:=[.v .bool]
abbrev Res:=am rs×ak ps
abbrev A_l1:=Int×Int×Int×Bool×Bool×Bool×Int×Int×Int×Int×List (Ty.den t2)×List (Ty.den t3)×Int×Int×Int×Bool×List (Ty.den t6)×Int×Int×Int×Int×List (Ty.den t11)×List (Ty.den t12)
abbrev A_l0:=Int
def l1.step (K:Nat)(x:ab ps)(rec_l0:A_l0->Option Res)(rec_l1:A_l1->Option Res)(a:A_l1):Option Res:=bif decide (a.2.1<(AA a.2.2.2.2.2.2.2.2.2.2.2.2.2.2.2.2.2.2.2.2.2.2:Int)) then ((idx a.2.2.2.2.2.2.2.2.2.2.2.2.2.2.2.2.2.2.2.2.2.2 a.2.1).bind λy5=>(Q190.f K (x.1,y5.2,())).bind λy6=>bif !y6.1.1 then (some ((false,()),())) else (rec_l1 (a.1,wr .i64 (a.2.1+1),a.2.2.1,a.2.2.2.1,a.2.2.2.2.1,a.2.2.2.2.2.1,a.2.2.2.2.2.2.1,a.2.2.2.2.2.2.2.1,a.2.2.2.2.2.2.2.2.1,a.2.2.2.2.2.2.2.2.2.1,a.2.2.2.2.2.2.2.2.2.2.1,a.2.2.2.2.2.2.2.2.2.2.2.1,a.2.2.2.2.2.2.2.2.2.2.2.2.1,a.2.2.2.2.2.2.2.2.2.2.2.2.2.1,a.2.2.2.2.2.2.2.2.2.2.2.2.2.2.1,a.2.2.2.2.2.2.2.2.2.2.2.2.2.2.2.1,a.2.2.2.2.2.2.2.2.2.2.2.2.2.2.2.2.1,a.2.2.2.2.2.2.2.2.2.2.2.2.2.2.2.2.2.1,a.2.2.2.2.2.2.2.2.2.2.2.2.2.2.2.2.2.2.1,a.2.2.2.2.2.2.2.2.2.2.2.2.2.2.2.2.2.2.2.1,a.2.2.2.2.2.2.2.2.2.2.2.2.2.2.2.2.2.2.2.2.1,a.2.2.2.2.2.2.2.2.2.2.2.2.2.2.2.2.2.2.2.2.2.1,a.2.2.2.2.2.2.2.2.2.2.2.2.2.2.2.2.2.2.2.2.2.2))) else (rec_l0 (wr .i64 (a.1+1)))
def l1 (K:Nat)(x:ab ps)(rec_l0:A_l0->Option Res):A_l1->Option Res:=ae (λrec_l1 a=>l1.step K x rec_l0 rec_l1 a) K
def l0.step (K:Nat)(x:ab ps)(N_l1:A_l1->Option Res)(rec_l0:A_l0->Option Res)(a:A_l0):Option Res:=bif decide (a<(AA x.1.1:Int)) then ((idx x.1.1 a).bind λy3=>(Q190.f K (x.1,y3.2.2.2.2.2.2.2.2.1,())).bind λy4=>bif !y4.1.1 then (some ((false,()),())) else (N_l1 (a,0,y3.1,y3.2.1,y3.2.2.1,y3.2.2.2.1,y3.2.2.2.2.1,y3.2.2.2.2.2.1,y3.2.2.2.2.2.2.1,y3.2.2.2.2.2.2.2.1,y3.2.2.2.2.2.2.2.2.1,y3.2.2.2.2.2.2.2.2.2.1,y3.2.2.2.2.2.2.2.2.2.2.1.1,y3.2.2.2.2.2.2.2.2.2.2.1.2.1,y3.2.2.2.2.2.2.2.2.2.2.1.2.2.1,y3.2.2.2.2.2.2.2.2.2.2.1.2.2.2,y3.2.2.2.2.2.2.2.2.2.2.2.1,y3.2.2.2.2.2.2.2.2.2.2.2.2.1.1,y3.2.2.2.2.2.2.2.2.2.2.2.2.1.2.1,y3.2.2.2.2.2.2.2.2.2.2.2.2.1.2.2.1,y3.2.2.2.2.2.2.2.2.2.2.2.2.1.2.2.2,y3.2.2.2.2.2.2.2.2.2.2.2.2.2.1,y3.2.2.2.2.2.2.2.2.2.2.2.2.2.2))) else (some ((true,()),()))
def l0 (K:Nat)(x:ab ps):A_l0->Option Res:=ae (λrec_l0 a=>l0.step K x (l1 K x rec_l0) rec_l0 a) K
def pre (K:Nat)(N_l0:A_l0->Option Res)(x:ab ps):Option Res:=(Q188.f K (x.1,())).bind λy1=>bif !y1.1.1 then (some ((false,()),())) else ((Q189.f K (x.1.2.2.2,())).bind λy2=>bif !y2.1.1 then (some ((false,()),())) else (N_l0 0))
def f (K:Nat)(x:ab ps):Option Res:=pre K (l0 K x) x
def c (K:Nat):Ctr:=⟨30,ps,rs,true,f K⟩
def G (K:Nat):List Ctr:=[Q188.c K,Q189.c K,Q190.c K]
def live_l1:List (Nat×List Coe):=[(1,[.keep]),(3,[.keep]),(4,[.keep]),(5,[.keep]),(100001,[.ro true 33 t26,.ro true 101 t40,.ro true 3 (.int .i64),.ro true 41 t2]),(100004,[.keep,.keep,.keep,.keep,.keep,.keep,.keep,.keep,.ro true 41 t2,.ro true 116 t3,.keep,.keep,.keep,.keep,.ro true 92 t6,.keep,.keep,.keep,.keep,.ro true 45 t11,.ro true 56 t12])]
def live_l0:List (Nat×List Coe):=[(1,[.keep]),(3,[.keep]),(100001,[.ro true 33 t26,.ro true 101 t40,.ro true 3 (.int .i64),.ro true 41 t2])]
def L:List (Nat×List (Nat×List Coe)):=[(11,live_l1),(5,live_l0)]
def body:Code:=cV Tryz.f30
abbrev ev (K:Nat):Code->St->(Ex->St->Option Res)->Option Res:=evK (G K) T_S L K
abbrev fin:Ex->St->Option Res:=dx T_S ps rs true Tryz.f30.results.toList
def S_l0 (x:ab ps)(a:A_l0):St:=ay [(1,⟨0,.one,[.bp 100001 0]⟩),(3,⟨0,.one,[.int .i64 a]⟩),(100001,⟨0,.agg,[.ro true 33 t26 x.1.1,.ro true 101 t40 x.1.2.1,.ro true 3 (.int .i64) x.1.2.2.1,.ro true 41 t2 x.1.2.2.2]⟩)]
def S_l1 (x:ab ps)(a:A_l1):St:=ay [(1,⟨0,.one,[.bp 100001 0]⟩),(3,⟨0,.one,[.int .i64 a.1]⟩),(4,⟨0,.one,[.bp 100004 0]⟩),(5,⟨0,.one,[.int .i64 a.2.1]⟩),(100001,⟨0,.agg,[.ro true 33 t26 x.1.1,.ro true 101 t40 x.1.2.1,.ro true 3 (.int .i64) x.1.2.2.1,.ro true 41 t2 x.1.2.2.2]⟩),(100004,⟨0,.agg,[.int .i64 a.2.2.1,.bool a.2.2.2.1,.bool a.2.2.2.2.1,.bool a.2.2.2.2.2.1,.int .i64 a.2.2.2.2.2.2.1,.int .i64 a.2.2.2.2.2.2.2.1,.int .i64 a.2.2.2.2.2.2.2.2.1,.int .i64 a.2.2.2.2.2.2.2.2.2.1,.ro true 41 t2 a.2.2.2.2.2.2.2.2.2.2.1,.ro true 116 t3 a.2.2.2.2.2.2.2.2.2.2.2.1,.int .i64 a.2.2.2.2.2.2.2.2.2.2.2.2.1,.int .i64 a.2.2.2.2.2.2.2.2.2.2.2.2.2.1,.int .i64 a.2.2.2.2.2.2.2.2.2.2.2.2.2.2.1,.bool a.2.2.2.2.2.2.2.2.2.2.2.2.2.2.2.1,.ro true 92 t6 a.2.2.2.2.2.2.2.2.2.2.2.2.2.2.2.2.1,.int .i64 a.2.2.2.2.2.2.2.2.2.2.2.2.2.2.2.2.2.1,.int .i64 a.2.2.2.2.2.2.2.2.2.2.2.2.2.2.2.2.2.2.1,.int .i64 a.2.2.2.2.2.2.2.2.2.2.2.2.2.2.2.2.2.2.2.1,.int .i64 a.2.2.2.2.2.2.2.2.2.2.2.2.2.2.2.2.2.2.2.2.1,.ro true 45 t11 a.2.2.2.2.2.2.2.2.2.2.2.2.2.2.2.2.2.2.2.2.2.1,.ro true 56 t12 a.2.2.2.2.2.2.2.2.2.2.2.2.2.2.2.2.2.2.2.2.2.2]⟩)]
def k_l0 (K:Nat)(x:ab ps):Ex->St->Option Res:=kAt (ev K) body [1,1,0,1,0] fin
def N_l0 (K:Nat)(x:ab ps):A_l0->Option Res:=λa=>be live_l0 (ev K (sub body [1,1,0,1,0,0])) K (S_l0 x a) (k_l0 K x)
def k_l1 (K:Nat)(x:ab ps)(r_l0:St->Option Res):Ex->St->Option Res:=kAt (ev K) (sub body [1,1,0,1,0,0]) [1,0,0,1,1,1,0] (bo live_l0 r_l0 (k_l0 K x))
def N_l1 (K:Nat)(x:ab ps)(r_l0:St->Option Res):A_l1->Option Res:=λa=>be live_l1 (ev K (sub body [1,1,0,1,0,0,1,0,0,1,1,1,0,0])) K (S_l1 x a) (k_l1 K x r_l0)
end Q191
namespace Q192
abbrev ps:List PK:=[.rd (.list false 5 (.int .u8))]
abbrev rs:List RK:=[.v .bool]
abbrev Res:=am rs×ak ps
abbrev A_l2:=Bool×Int×List (Ty.den t2)×Int×Bool×Int×List (Ty.den t26)×List (Ty.den t40)×List (Ty.den (.int .i64))×List (Ty.den t2)
abbrev A_l1:=Bool×Int×List (Ty.den t2)×Int×List (Ty.den t26)×List (Ty.den t40)×List (Ty.den (.int .i64))×List (Ty.den t2)
abbrev A_l0:=Bool×Int×List (Ty.den t26)×List (Ty.den t40)×List (Ty.den (.int .i64))×List (Ty.den t2)
def l2.step (K:Nat)(x:ab ps)(rec_l0:A_l0->Option Res)(rec_l1:A_l1->Option Res)(rec_l2:A_l2->Option Res)(a:A_l2):Option Res:=bif decide (a.2.2.2.2.2.1<(AA a.2.2.2.2.2.2.2.2.2:Int)) then (bif a.2.2.2.2.1 then (rec_l2 (a.1,a.2.1,a.2.2.1,a.2.2.2.1,true,wr .i64 (a.2.2.2.2.2.1+1),a.2.2.2.2.2.2.1,a.2.2.2.2.2.2.2.1,a.2.2.2.2.2.2.2.2.1,a.2.2.2.2.2.2.2.2.2)) else ((idx a.2.2.2.2.2.2.2.2.2 a.2.2.2.2.2.1).bind λy8=>(idx a.2.2.1 a.2.2.2.1).bind λ_=>(idx a.2.2.1 (AB a.2.2.2.1:Nat)).bind λy10=>rec_l2 (a.1,a.2.1,a.2.2.1,a.2.2.2.1,Ty.eqv t2 y8 y10,wr .i64 (a.2.2.2.2.2.1+1),a.2.2.2.2.2.2.1,a.2.2.2.2.2.2.2.1,a.2.2.2.2.2.2.2.2.1,a.2.2.2.2.2.2.2.2.2))) else (bif !a.2.2.2.2.1 then (some ((false,()),())) else (rec_l1 (a.1,a.2.1,a.2.2.1,wr .i64 (a.2.2.2.1+1),a.2.2.2.2.2.2.1,a.2.2.2.2.2.2.2.1,a.2.2.2.2.2.2.2.2.1,a.2.2.2.2.2.2.2.2.2)))
def l2 (K:Nat)(x:ab ps)(rec_l0:A_l0->Option Res)(rec_l1:A_l1->Option Res):A_l2->Option Res:=ae (λrec_l2 a=>l2.step K x rec_l0 rec_l1 rec_l2 a) K
def l1.step (K:Nat)(x:ab ps)(N_l2:A_l2->Option Res)(rec_l0:A_l0->Option Res)(rec_l1:A_l1->Option Res)(a:A_l1):Option Res:=bif decide (a.2.2.2.1<(AA a.2.2.1:Int)) then (N_l2 (a.1,a.2.1,a.2.2.1,a.2.2.2.1,false,0,a.2.2.2.2.1,a.2.2.2.2.2.1,a.2.2.2.2.2.2.1,a.2.2.2.2.2.2.2)) else (rec_l0 (a.1,wr .i64 (a.2.1+1),a.2.2.2.2.1,a.2.2.2.2.2.1,a.2.2.2.2.2.2.1,a.2.2.2.2.2.2.2))
def l1 (K:Nat)(x:ab ps)(rec_l0:A_l0->Option Res):A_l1->Option Res:=ae (λrec_l1 a=>l1.step K x (l2 K x rec_l0 rec_l1) rec_l0 rec_l1 a) K
def l0.step (K:Nat)(x:ab ps)(N_l1:A_l1->Option Res)(rec_l0:A_l0->Option Res)(a:A_l0):Option Res:=bif decide (a.2.1<(AA a.2.2.1:Int)) then (bif a.1 then ((idx a.2.2.1 a.2.1).bind λy6=>(Q51.f K (y6,())).bind λy7=>N_l1 (a.1,a.2.1,y7.1.1,0,a.2.2.1,a.2.2.2.1,a.2.2.2.2.1,a.2.2.2.2.2)) else (some ((true,()),()))) else (some ((true,()),()))
def l0 (K:Nat)(x:ab ps):A_l0->Option Res:=ae (λrec_l0 a=>l0.step K x (l1 K x rec_l0) rec_l0 a) K
def pre (K:Nat)(N_l0:A_l0->Option Res)(x:ab ps):Option Res:=bif decide ((AA x.1:Int)>1048576) then (some ((true,()),())) else ((Q170.f K (x.1,())).bind λy1=>(Q179.f K (y1.1.1,())).bind λy2=>(Q191.f K (y1.1.1,())).bind λy3=>bif y2.1.1 != y3.1.1 then (some ((false,()),())) else ((Q175.f K (y1.1.1,())).bind λy4=>(Q188.f K (y1.1.1,())).bind λy5=>bif y4.1.1 != y5.1.1 then (some ((false,()),())) else (N_l0 (y2.1.1,0,y1.1.1.1,y1.1.1.2.1,y1.1.1.2.2.1,y1.1.1.2.2.2))))
def f (K:Nat)(x:ab ps):Option Res:=pre K (l0 K x) x
def c (K:Nat):Ctr:=⟨6,ps,rs,true,f K⟩
def G (K:Nat):List Ctr:=[Q51.c K,Q170.c K,Q179.c K,Q191.c K,Q175.c K,Q188.c K]
def live_l2:List (Nat×List Coe):=[(3,[.keep]),(4,[.keep]),(5,[.keep]),(6,[.own false 41 t2]),(7,[.keep]),(8,[.keep]),(9,[.keep]),(100003,[.ro true 33 t26,.ro true 101 t40,.ro true 3 (.int .i64),.ro true 41 t2])]
def live_l1:List (Nat×List Coe):=[(3,[.keep]),(4,[.keep]),(5,[.keep]),(6,[.own false 41 t2]),(7,[.keep]),(100003,[.ro true 33 t26,.ro true 101 t40,.ro true 3 (.int .i64),.ro true 41 t2])]
def live_l0:List (Nat×List Coe):=[(3,[.keep]),(4,[.keep]),(5,[.keep]),(100003,[.ro true 33 t26,.ro true 101 t40,.ro true 3 (.int .i64),.ro true 41 t2])]
def L:List (Nat×List (Nat×List Coe)):=[(17,live_l2),(13,live_l1),(9,live_l0)]
def body:Code:=cV Tryz.f6
abbrev ev (K:Nat):Code->St->(Ex->St->Option Res)->Option Res:=evK (G K) T_D L K
abbrev fin:Ex->St->Option Res:=dx T_D ps rs true Tryz.f6.results.toList
def S_l0 (x:ab ps)(a:A_l0):St:=ay [(3,⟨0,.one,[.bp 100003 0]⟩),(4,⟨0,.one,[.bool a.1]⟩),(5,⟨0,.one,[.int .i64 a.2.1]⟩),(100003,⟨0,.agg,[.ro true 33 t26 a.2.2.1,.ro true 101 t40 a.2.2.2.1,.ro true 3 (.int .i64) a.2.2.2.2.1,.ro true 41 t2 a.2.2.2.2.2]⟩)]
def S_l1 (x:ab ps)(a:A_l1):St:=ay [(3,⟨0,.one,[.bp 100003 0]⟩),(4,⟨0,.one,[.bool a.1]⟩),(5,⟨0,.one,[.int .i64 a.2.1]⟩),(6,⟨0,.one,[.own false none 41 t2 a.2.2.1]⟩),(7,⟨0,.one,[.int .i64 a.2.2.2.1]⟩),(100003,⟨0,.agg,[.ro true 33 t26 a.2.2.2.2.1,.ro true 101 t40 a.2.2.2.2.2.1,.ro true 3 (.int .i64) a.2.2.2.2.2.2.1,.ro true 41 t2 a.2.2.2.2.2.2.2]⟩)]
def S_l2 (x:ab ps)(a:A_l2):St:=ay [(3,⟨0,.one,[.bp 100003 0]⟩),(4,⟨0,.one,[.bool a.1]⟩),(5,⟨0,.one,[.int .i64 a.2.1]⟩),(6,⟨0,.one,[.own false none 41 t2 a.2.2.1]⟩),(7,⟨0,.one,[.int .i64 a.2.2.2.1]⟩),(8,⟨0,.one,[.bool a.2.2.2.2.1]⟩),(9,⟨0,.one,[.int .i64 a.2.2.2.2.2.1]⟩),(100003,⟨0,.agg,[.ro true 33 t26 a.2.2.2.2.2.2.1,.ro true 101 t40 a.2.2.2.2.2.2.2.1,.ro true 3 (.int .i64) a.2.2.2.2.2.2.2.2.1,.ro true 41 t2 a.2.2.2.2.2.2.2.2.2]⟩)]
def k_l0 (K:Nat)(x:ab ps):Ex->St->Option Res:=kAt (ev K) body [1,1,1,1,1,0,1,0] fin
def N_l0 (K:Nat)(x:ab ps):A_l0->Option Res:=λa=>be live_l0 (ev K (sub body [1,1,1,1,1,0,1,0,0])) K (S_l0 x a) (k_l0 K x)
def k_l1 (K:Nat)(x:ab ps)(r_l0:St->Option Res):Ex->St->Option Res:=kAt (ev K) (sub body [1,1,1,1,1,0,1,0,0]) [1,0,0,1,1,0] (bo live_l0 r_l0 (k_l0 K x))
def N_l1 (K:Nat)(x:ab ps)(r_l0:St->Option Res):A_l1->Option Res:=λa=>be live_l1 (ev K (sub body [1,1,1,1,1,0,1,0,0,1,0,0,1,1,0,0])) K (S_l1 x a) (k_l1 K x r_l0)
def k_l2 (K:Nat)(x:ab ps)(r_l0:St->Option Res)(r_l1:St->Option Res):Ex->St->Option Res:=kAt (ev K) (sub body [1,1,1,1,1,0,1,0,0,1,0,0,1,1,0,0]) [1,0,0,1,0,1,0] (bo live_l1 r_l1 (k_l1 K x r_l0))
def N_l2 (K:Nat)(x:ab ps)(r_l0:St->Option Res)(r_l1:St->Option Res):A_l2->Option Res:=λa=>be live_l2 (ev K (sub body [1,1,1,1,1,0,1,0,0,1,0,0,1,1,0,0,1,0,0,1,0,1,0,0])) K (S_l2 x a) (k_l2 K x r_l0 r_l1)
end Q192
end
end Go.Proofs.YtmcbmojdeikcdaaGreatEv
