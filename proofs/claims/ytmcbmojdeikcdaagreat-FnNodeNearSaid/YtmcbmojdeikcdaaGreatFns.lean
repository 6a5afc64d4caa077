/- The functions, on plain values. Printed by run3.py. -/
import Derived.Test.YtmcbmojdeikcdaaGreatFns0
set_option linter.unusedVariables false
set_option maxRecDepth 100000
set_option linter.unusedVariables false
set_option linter.unusedSimpArgs false
open Int renaming toNat->AB,fdiv->AC,tdiv->AD,tmod->AE
open List renaming length->AA
namespace Go.Proofs.YtmcbmojdeikcdaaGreatEv
open Go Go.Proofs
noncomputable section
namespace Q91
abbrev ps:List PK:=[.rd t26]
abbrev rs:List RK:=[.v .bool]
abbrev Res:=ak rs×aj ps
abbrev A_l0:=List (Ty.den (.int .i64))×Int
def l0.step (K:Nat)(x:ab ps)(rec_l0:A_l0->Option Res)(a:A_l0):Option Res:=bif decide (a.2<(AA a.1:Int)) then ((idx a.1 a.2).bind λ_=>(idx a.1 (AB a.2:Nat)).bind λy3=>bif y3==x.1.1 then (some ((true,()),())) else (rec_l0 (a.1,wr .i64 (a.2+1)))) else (some ((false,()),()))
def l0 (K:Nat)(x:ab ps):A_l0->Option Res:=ae (λrec_l0 a=>l0.step K x rec_l0 a) K
def pre (K:Nat)(N_l0:A_l0->Option Res)(x:ab ps):Option Res:=(Q90.f K (x.1.2.2.2.2.2.2.2.2.1,2,())).bind λy1=>N_l0 (y1.1.1,0)
def f (K:Nat)(x:ab ps):Option Res:=pre K (l0 K x) x
def c (K:Nat):Ctr:=⟨242,ps,rs,true,f K⟩
end Q91
namespace Q92
abbrev ps:List PK:=[.rd t26,.rd (.int .i64),.rd (.int .i64)]
abbrev rs:List RK:=[.v (.int .i64)]
abbrev Res:=ak rs×aj ps
abbrev A_l0:=Int
def l0.step (K:Nat)(x:ab ps)(rec_l0:A_l0->Option Res)(a:A_l0):Option Res:=bif decide (a<(AA x.1.2.2.2.2.2.2.2.2.2.2.2.2.2.2:Int)) then ((idx x.1.2.2.2.2.2.2.2.2.2.2.2.2.2.2 a).bind λy1=>bif y1.1==x.2.1 then ((idx x.1.2.2.2.2.2.2.2.2.2.2.2.2.2.2 a).bind λy2=>(Q90.f K (y2.2,2,())).bind λy3=>bif decide ((AA y3.1.1:Int)>0) then (bif (bh .i64 x.2.2.1 4)==0 then (bif decide ((AA y3.1.1:Int)=0) then none else ((idx y3.1.1 (AE (bh .i64 (AC x.2.2.1 (2 ^ 3)) 255) (AA y3.1.1:Int))).bind λ_=>(idx y3.1.1 (AB (AE (bh .i64 (AC x.2.2.1 (2 ^ 3)) 255) (AA y3.1.1:Int)):Nat)).bind λy5=>some ((y5,()),()))) else (rec_l0 (wr .i64 (a+1)))) else (rec_l0 (wr .i64 (a+1)))) else (rec_l0 (wr .i64 (a+1)))) else (some ((wr .i64 ((wr .i64 (x.2.1*4))+(bh .i64 (AC x.2.2.1 (2 ^ 3)) 3)),()),()))
def l0 (K:Nat)(x:ab ps):A_l0->Option Res:=ae (λrec_l0 a=>l0.step K x rec_l0 a) K
def pre (K:Nat)(N_l0:A_l0->Option Res)(x:ab ps):Option Res:=N_l0 0
def f (K:Nat)(x:ab ps):Option Res:=pre K (l0 K x) x
def c (K:Nat):Ctr:=⟨243,ps,rs,true,f K⟩
end Q92
namespace Q93
abbrev ps:List PK:=[.rd t26,.rd (.int .i64)]
abbrev rs:List RK:=[.v (.list true 133 t47)]
abbrev Res:=ak rs×aj ps
abbrev A_l0:=List (Ty.den t47)×Int
def l0.step (K:Nat)(x:ab ps)(rec_l0:A_l0->Option Res)(a:A_l0):Option Res:=bif decide (a.2<=1) then ((Q42.f K (x.1.1,())).bind λy2=>bif a.2 != y2.1.1 then ((Q92.f K (x.1,a.2,x.2.1,())).bind λy3=>(Q44.f K (x.1,6,y3.1.1,0,x.1.1,x.1.2.2.2.2.2.2.2.2.1,())).bind λy4=>bif decide ((AA a.1+AA ([(2,y4.1.1.2)]))*104<=ah) then (rec_l0 (a.1++([(2,y4.1.1.2)]),wr .i64 (a.2+1))) else none) else (rec_l0 (a.1,wr .i64 (a.2+1)))) else (some ((a.1,()),()))
def l0 (K:Nat)(x:ab ps):A_l0->Option Res:=ae (λrec_l0 a=>l0.step K x rec_l0 a) K
def pre (K:Nat)(N_l0:A_l0->Option Res)(x:ab ps):Option Res:=(Q91.f K (x.1,())).bind λy1=>bif !y1.1.1 then (some (([],()),())) else (N_l0 ([],0))
def f (K:Nat)(x:ab ps):Option Res:=pre K (l0 K x) x
def c (K:Nat):Ctr:=⟨225,ps,rs,true,f K⟩
end Q93
namespace Q94
abbrev ps:List PK:=[.rd t26,.rd (.int .i64)]
abbrev rs:List RK:=[.v (.list true 133 t47)]
abbrev Res:=ak rs×aj ps
def f (K:Nat)(x:ab ps):Option Res:=(Q89.f K (x.1,AC x.2.1 (2 ^ 2),())).bind λy1=>bif (bh .i64 x.2.1 3)==0 then (bif decide (y1.1.1>=0) then ((Q44.f K (x.1,4,y1.1.1,0,x.1.1,x.1.2.2.2.2.2.2.2.2.1,())).bind λy2=>some (([y2.1.1],()),())) else (bif (bh .i64 x.2.1 3)==1 then ((Q93.f K (x.1,AC x.2.1 (2 ^ 2),())).bind λy3=>some ((y3.1.1,()),())) else (bif (bh .i64 x.2.1 3)==2 then (bif decide (y1.1.1>=0) then (bif decide ((AA x.1.2.2.2.2.2.2.2.2.2.2.2.2.2.2:Int)>0) then (bif decide ((AA x.1.2.2.2.2.2.2.2.2.2.2.2.2.2.2:Int)=0) then none else ((idx x.1.2.2.2.2.2.2.2.2.2.2.2.2.2.2 (AE (bh .i64 (AC x.2.1 (2 ^ 10)) 255) (AA x.1.2.2.2.2.2.2.2.2.2.2.2.2.2.2:Int))).bind λy4=>(Q44.f K (x.1,6,y1.1.1,0,x.1.1,y4.2,())).bind λy5=>some (([y5.1.1],()),()))) else (some (([],()),()))) else (some (([],()),()))) else (some (([],()),()))))) else (bif (bh .i64 x.2.1 3)==1 then ((Q93.f K (x.1,AC x.2.1 (2 ^ 2),())).bind λy6=>some ((y6.1.1,()),())) else (bif (bh .i64 x.2.1 3)==2 then (bif decide (y1.1.1>=0) then (bif decide ((AA x.1.2.2.2.2.2.2.2.2.2.2.2.2.2.2:Int)>0) then (bif decide ((AA x.1.2.2.2.2.2.2.2.2.2.2.2.2.2.2:Int)=0) then none else ((idx x.1.2.2.2.2.2.2.2.2.2.2.2.2.2.2 (AE (bh .i64 (AC x.2.1 (2 ^ 10)) 255) (AA x.1.2.2.2.2.2.2.2.2.2.2.2.2.2.2:Int))).bind λy7=>(Q44.f K (x.1,6,y1.1.1,0,x.1.1,y7.2,())).bind λy8=>some (([y8.1.1],()),()))) else (some (([],()),()))) else (some (([],()),()))) else (some (([],()),()))))
def c (K:Nat):Ctr:=⟨193,ps,rs,true,f K⟩
end Q94
namespace Q95
abbrev ps:List PK:=[.rd t26,.rd (.int .i64)]
abbrev rs:List RK:=[.v t26,.v (.list true 133 t47)]
abbrev Res:=ak rs×aj ps
def f (K:Nat)(x:ab ps):Option Res:=bif !x.1.2.1 then (some ((x.1,[],()),())) else (bif x.1.2.2.1 then (some ((x.1,[],()),())) else (bif decide (x.1.2.2.2.2.2.1>=999999) then (some ((x.1,[],()),())) else ((Q82.f K ((x.1.1,(x.1.2.1,(x.1.2.2.1,(x.1.2.2.2.1,(x.1.2.2.2.2.1,(wr .i64 (x.1.2.2.2.2.2.1+1),x.1.2.2.2.2.2.2)))))),())).bind λy1=>bif decide (y1.1.1.2.2.2.2.2.2.2.2.2.2.1.1>=0) then ((Q85.f K (y1.1.1,())).bind λy2=>bif decide (y2.1.1.2.2.2.2.2.2.2.2.2.2.1.1<0) then ((Q88.f K (y2.1.1,())).bind λy3=>bif decide ((AA y2.1.2.1+AA y3.1.2.1)*104<=ah) then ((Q94.f K (y3.1.1,x.2.1,())).bind λy4=>bif decide ((AA (y2.1.2.1++y3.1.2.1)+AA y4.1.1)*104<=ah) then (some ((y3.1.1,(y2.1.2.1++y3.1.2.1)++y4.1.1,()),())) else none) else none) else ((Q94.f K (y2.1.1,x.2.1,())).bind λy5=>bif decide ((AA y2.1.2.1+AA y5.1.1)*104<=ah) then (some ((y2.1.1,y2.1.2.1++y5.1.1,()),())) else none)) else (bif decide (y1.1.1.2.2.2.2.2.2.2.2.2.2.1.1<0) then ((Q88.f K (y1.1.1,())).bind λy6=>bif decide ((AA ([]:List (Ty.den t47))+AA y6.1.2.1)*104<=ah) then ((Q94.f K (y6.1.1,x.2.1,())).bind λy7=>bif decide ((AA ([]++y6.1.2.1)+AA y7.1.1)*104<=ah) then (some ((y6.1.1,([]++y6.1.2.1)++y7.1.1,()),())) else none) else none) else ((Q94.f K (y1.1.1,x.2.1,())).bind λy8=>bif decide ((AA ([]:List (Ty.den t47))+AA y8.1.1)*104<=ah) then (some ((y1.1.1,[]++y8.1.1,()),())) else none)))))
def c (K:Nat):Ctr:=⟨162,ps,rs,false,f K⟩
end Q95
namespace Q96
abbrev ps:List PK:=[.own t76,.rd t26,.rd (.list false 133 t47),.rd (.list false 41 t2)]
abbrev rs:List RK:=[.v t65]
abbrev Res:=ak rs×aj ps
def f (K:Nat)(x:ab ps):Option Res:=(idx x.1.1 x.2.1.1).bind λ_=>(idx x.1.1 (AB x.2.1.1:Nat)).bind λy2=>(idx x.1.1 x.2.1.1).bind λ_=>(idx x.1.1 (AB x.2.1.1:Nat)).bind λy4=>(Q32.f K ((x.1.1.set (AB x.2.1.1) x.2.1,x.1.2),y2.2.2.2.2.2.2.2.2.1,x.2.2.2.1,x.2.1.2.2.2.2.2.2.2.2.1,())).bind λy5=>(Q27.f K (y5.1.1,x.2.1.1,x.2.2.1,())).bind λy6=>some ((y6.1.1,()),())
def c (K:Nat):Ctr:=⟨163,ps,rs,false,f K⟩
end Q96
namespace Q97
abbrev ps:List PK:=[.rd (.int .i64),.rd .bool]
abbrev rs:List RK:=[.v t26]
abbrev Res:=ak rs×aj ps
def f (K:Nat)(x:ab ps):Option Res:=some (((x.1,(false,(false,(x.2.1,(0,(0,(0,(0,([],([],((0,(0,(0,false))),([],((0,(0,(0,0))),([],[])))))))))))))),()),())
def c (K:Nat):Ctr:=⟨228,ps,rs,true,f K⟩
end Q97
namespace Q98
abbrev ps:List PK:=[.own t76,.rd (.int .i64)]
abbrev rs:List RK:=[.v t65]
abbrev Res:=ak rs×aj ps
def f (K:Nat)(x:ab ps):Option Res:=(Q10.f K (x.2.1,())).bind λy1=>(Q9.f K (x.2.1,y1.1.1,())).bind λy2=>(idx x.1.1 x.2.1).bind λ_=>(idx x.1.1 (AB x.2.1:Nat)).bind λy4=>(idx y2.1.1.2.2.2.2.2.2.2.2.1 0).bind λy5=>(Q31.f K (x.1.2.2.2,y5,())).bind λy6=>some (((x.1.1.set (AB x.2.1) y2.1.1,(x.1.2.1,(x.1.2.2.1,y6.1.1))),()),())
def c (K:Nat):Ctr:=⟨229,ps,rs,false,f K⟩
end Q98
namespace Q99
abbrev ps:List PK:=[.rd t26]
abbrev rs:List RK:=[.v t26,.v (.list true 133 t47)]
abbrev Res:=ak rs×aj ps
abbrev A_l0:=List (Ty.den t47)×Int×Int×Bool×Bool×Int×Int×Int×Int×List (Ty.den t2)×List (Ty.den t3)×Int×Int×Int×Bool×List (Ty.den t6)×Int×Int×Int×Int×List (Ty.den t11)×List (Ty.den t12)
def l0.step (K:Nat)(x:ab ps)(rec_l0:A_l0->Option Res)(a:A_l0):Option Res:=bif decide (a.2.1<(AA a.2.2.2.2.2.2.2.2.2.1:Int)) then ((idx a.2.2.2.2.2.2.2.2.2.1 a.2.1).bind λy2=>bif y2.1 != a.2.2.1 then ((idx a.2.2.2.2.2.2.2.2.2.1 a.2.1).bind λy3=>(Q83.f K (a.2.2.2.2.2.2.2.2.2.1,y3.1,())).bind λy4=>bif y4.1.1 then ((idx a.2.2.2.2.2.2.2.2.2.1 a.2.1).bind λy5=>(Q44.f K ((a.2.2.1,(a.2.2.2.1,(true,(a.2.2.2.2.1,(a.2.2.2.2.2.1,(a.2.2.2.2.2.2.1,(a.2.2.2.2.2.2.2.1,(a.2.2.2.2.2.2.2.2.1,(a.2.2.2.2.2.2.2.2.2.1,(a.2.2.2.2.2.2.2.2.2.2.1,((a.2.2.2.2.2.2.2.2.2.2.2.1,(a.2.2.2.2.2.2.2.2.2.2.2.2.1,(a.2.2.2.2.2.2.2.2.2.2.2.2.2.1,a.2.2.2.2.2.2.2.2.2.2.2.2.2.2.1))),(a.2.2.2.2.2.2.2.2.2.2.2.2.2.2.2.1,((a.2.2.2.2.2.2.2.2.2.2.2.2.2.2.2.2.1,(a.2.2.2.2.2.2.2.2.2.2.2.2.2.2.2.2.2.1,(a.2.2.2.2.2.2.2.2.2.2.2.2.2.2.2.2.2.2.1,a.2.2.2.2.2.2.2.2.2.2.2.2.2.2.2.2.2.2.2.1))),a.2.2.2.2.2.2.2.2.2.2.2.2.2.2.2.2.2.2.2.2))))))))))))),5,y5.1,0,a.2.2.1,a.2.2.2.2.2.2.2.2.2.1,())).bind λy6=>bif decide ((AA a.1+AA ([y6.1.1]))*104<=ah) then (rec_l0 (a.1++([y6.1.1]),wr .i64 (a.2.1+1),a.2.2.1,a.2.2.2.1,a.2.2.2.2.1,a.2.2.2.2.2.1,a.2.2.2.2.2.2.1,a.2.2.2.2.2.2.2.1,a.2.2.2.2.2.2.2.2.1,a.2.2.2.2.2.2.2.2.2.1,a.2.2.2.2.2.2.2.2.2.2.1,a.2.2.2.2.2.2.2.2.2.2.2.1,a.2.2.2.2.2.2.2.2.2.2.2.2.1,a.2.2.2.2.2.2.2.2.2.2.2.2.2.1,a.2.2.2.2.2.2.2.2.2.2.2.2.2.2.1,a.2.2.2.2.2.2.2.2.2.2.2.2.2.2.2.1,a.2.2.2.2.2.2.2.2.2.2.2.2.2.2.2.2.1,a.2.2.2.2.2.2.2.2.2.2.2.2.2.2.2.2.2.1,a.2.2.2.2.2.2.2.2.2.2.2.2.2.2.2.2.2.2.1,a.2.2.2.2.2.2.2.2.2.2.2.2.2.2.2.2.2.2.2.1,a.2.2.2.2.2.2.2.2.2.2.2.2.2.2.2.2.2.2.2.2.1,a.2.2.2.2.2.2.2.2.2.2.2.2.2.2.2.2.2.2.2.2.2)) else none) else (rec_l0 (a.1,wr .i64 (a.2.1+1),a.2.2.1,a.2.2.2.1,a.2.2.2.2.1,a.2.2.2.2.2.1,a.2.2.2.2.2.2.1,a.2.2.2.2.2.2.2.1,a.2.2.2.2.2.2.2.2.1,a.2.2.2.2.2.2.2.2.2.1,a.2.2.2.2.2.2.2.2.2.2.1,a.2.2.2.2.2.2.2.2.2.2.2.1,a.2.2.2.2.2.2.2.2.2.2.2.2.1,a.2.2.2.2.2.2.2.2.2.2.2.2.2.1,a.2.2.2.2.2.2.2.2.2.2.2.2.2.2.1,a.2.2.2.2.2.2.2.2.2.2.2.2.2.2.2.1,a.2.2.2.2.2.2.2.2.2.2.2.2.2.2.2.2.1,a.2.2.2.2.2.2.2.2.2.2.2.2.2.2.2.2.2.1,a.2.2.2.2.2.2.2.2.2.2.2.2.2.2.2.2.2.2.1,a.2.2.2.2.2.2.2.2.2.2.2.2.2.2.2.2.2.2.2.1,a.2.2.2.2.2.2.2.2.2.2.2.2.2.2.2.2.2.2.2.2.1,a.2.2.2.2.2.2.2.2.2.2.2.2.2.2.2.2.2.2.2.2.2))) else (rec_l0 (a.1,wr .i64 (a.2.1+1),a.2.2.1,a.2.2.2.1,a.2.2.2.2.1,a.2.2.2.2.2.1,a.2.2.2.2.2.2.1,a.2.2.2.2.2.2.2.1,a.2.2.2.2.2.2.2.2.1,a.2.2.2.2.2.2.2.2.2.1,a.2.2.2.2.2.2.2.2.2.2.1,a.2.2.2.2.2.2.2.2.2.2.2.1,a.2.2.2.2.2.2.2.2.2.2.2.2.1,a.2.2.2.2.2.2.2.2.2.2.2.2.2.1,a.2.2.2.2.2.2.2.2.2.2.2.2.2.2.1,a.2.2.2.2.2.2.2.2.2.2.2.2.2.2.2.1,a.2.2.2.2.2.2.2.2.2.2.2.2.2.2.2.2.1,a.2.2.2.2.2.2.2.2.2.2.2.2.2.2.2.2.2.1,a.2.2.2.2.2.2.2.2.2.2.2.2.2.2.2.2.2.2.1,a.2.2.2.2.2.2.2.2.2.2.2.2.2.2.2.2.2.2.2.1,a.2.2.2.2.2.2.2.2.2.2.2.2.2.2.2.2.2.2.2.2.1,a.2.2.2.2.2.2.2.2.2.2.2.2.2.2.2.2.2.2.2.2.2))) else (some (((a.2.2.1,(a.2.2.2.1,(true,(a.2.2.2.2.1,(a.2.2.2.2.2.1,(a.2.2.2.2.2.2.1,(a.2.2.2.2.2.2.2.1,(a.2.2.2.2.2.2.2.2.1,(a.2.2.2.2.2.2.2.2.2.1,(a.2.2.2.2.2.2.2.2.2.2.1,((a.2.2.2.2.2.2.2.2.2.2.2.1,(a.2.2.2.2.2.2.2.2.2.2.2.2.1,(a.2.2.2.2.2.2.2.2.2.2.2.2.2.1,a.2.2.2.2.2.2.2.2.2.2.2.2.2.2.1))),(a.2.2.2.2.2.2.2.2.2.2.2.2.2.2.2.1,((a.2.2.2.2.2.2.2.2.2.2.2.2.2.2.2.2.1,(a.2.2.2.2.2.2.2.2.2.2.2.2.2.2.2.2.2.1,(a.2.2.2.2.2.2.2.2.2.2.2.2.2.2.2.2.2.2.1,a.2.2.2.2.2.2.2.2.2.2.2.2.2.2.2.2.2.2.2.1))),a.2.2.2.2.2.2.2.2.2.2.2.2.2.2.2.2.2.2.2.2))))))))))))),a.1,()),()))
def l0 (K:Nat)(x:ab ps):A_l0->Option Res:=ae (λrec_l0 a=>l0.step K x rec_l0 a) K
def pre (K:Nat)(N_l0:A_l0->Option Res)(x:ab ps):Option Res:=bif !x.1.2.1 then (some ((x.1,[],()),())) else (bif x.1.2.2.1 then (some ((x.1,[],()),())) else ((Q81.f K (x.1,(x.1.1,(x.1.2.2.2.2.1,(4,x.1.2.2.2.1))),x.1.1,())).bind λy1=>N_l0 ([],0,y1.1.1.1,y1.1.1.2.1,y1.1.1.2.2.2.1,y1.1.1.2.2.2.2.1,y1.1.1.2.2.2.2.2.1,y1.1.1.2.2.2.2.2.2.1,y1.1.1.2.2.2.2.2.2.2.1,y1.1.1.2.2.2.2.2.2.2.2.1,y1.1.1.2.2.2.2.2.2.2.2.2.1,y1.1.1.2.2.2.2.2.2.2.2.2.2.1.1,y1.1.1.2.2.2.2.2.2.2.2.2.2.1.2.1,y1.1.1.2.2.2.2.2.2.2.2.2.2.1.2.2.1,y1.1.1.2.2.2.2.2.2.2.2.2.2.1.2.2.2,y1.1.1.2.2.2.2.2.2.2.2.2.2.2.1,y1.1.1.2.2.2.2.2.2.2.2.2.2.2.2.1.1,y1.1.1.2.2.2.2.2.2.2.2.2.2.2.2.1.2.1,y1.1.1.2.2.2.2.2.2.2.2.2.2.2.2.1.2.2.1,y1.1.1.2.2.2.2.2.2.2.2.2.2.2.2.1.2.2.2,y1.1.1.2.2.2.2.2.2.2.2.2.2.2.2.2.1,y1.1.1.2.2.2.2.2.2.2.2.2.2.2.2.2.2)))
def f (K:Nat)(x:ab ps):Option Res:=pre K (l0 K x) x
def c (K:Nat):Ctr:=⟨230,ps,rs,false,f K⟩
end Q99
namespace Q100
abbrev ps:List PK:=[.own t76,.rd t2]
abbrev rs:List RK:=[.v t65,.v .bool]
abbrev Res:=ak rs×aj ps
def f (K:Nat)(x:ab ps):Option Res:=(idx x.1.1 x.2.1.2.1).bind λ_=>(idx x.1.1 (AB x.2.1.2.1:Nat)).bind λy2=>bif x.2.1.1==5 then ((Q62.f K (x.2.1.2.2.1,0,2,())).bind λy3=>(idx x.1.2.2.1 x.2.1.2.1).bind λ_=>(idx x.1.2.2.1 (AB x.2.1.2.1:Nat)).bind λy5=>some (((x.1.1,(x.1.2.1,(x.1.2.2.1.set (AB x.2.1.2.1) y3.1.1,x.1.2.2.2))),true,()),())) else (bif x.2.1.1==6 then ((Q97.f K (y2.1,y2.2.2.2.1,())).bind λy6=>(idx x.1.1 x.2.1.2.1).bind λ_=>(idx x.1.1 (AB x.2.1.2.1:Nat)).bind λy8=>some (((x.1.1.set (AB x.2.1.2.1) y6.1.1,x.1.2),y2.2.1,()),())) else (bif x.2.1.1==7 then (bif y2.2.1 then (some ((x.1,false,()),())) else ((Q98.f K (x.1,x.2.1.2.1,())).bind λy9=>some ((y9.1.1,true,()),()))) else (bif !y2.2.1 then (some ((x.1,false,()),())) else (bif y2.2.2.1 then (some ((x.1,false,()),())) else (bif x.2.1.1==1 then (bif decide (y2.2.2.2.2.2.1>=999999) then (some ((x.1,false,()),())) else ((Q95.f K (y2,x.2.1.2.2.1,())).bind λy10=>(Q96.f K (x.1,y10.1.1,y10.1.2.1,[],())).bind λy11=>some ((y11.1.1,true,()),()))) else (bif x.2.1.1==8 then ((Q99.f K (y2,())).bind λy12=>(Q96.f K (x.1,y12.1.1,y12.1.2.1,[],())).bind λy13=>some ((y13.1.1,true,()),())) else (bif x.2.1.1==9 then ((Q7.f K (x.2.1.2.2.1,0,7,())).bind λy14=>bif !y14.1.1 then (some ((x.1,false,()),())) else (bif x.2.1.2.2.1==y2.1 then (some ((x.1,false,()),())) else ((Q42.f K (x.2.1.2.2.1,())).bind λy15=>(Q42.f K (y2.1,())).bind λy16=>bif y15.1.1 != y16.1.1 then (some ((x.1,false,()),())) else ((Q44.f K (y2,4,x.2.1.2.2.1,0,y2.1,y2.2.2.2.2.2.2.2.2.1,())).bind λy17=>(Q96.f K (x.1,y2,[y17.1.1],[],())).bind λy18=>some ((y18.1.1,true,()),()))))) else (some ((x.1,false,()),())))))))))
def c (K:Nat):Ctr:=⟨204,ps,rs,false,f K⟩
end Q100
namespace Q101
abbrev ps:List PK:=[.own t68,.rd t2]
def c (K:Nat):Ctr:=⟨204,ps,Q100.rs,false,Q100.f K⟩
end Q101
namespace Q102
abbrev ps:List PK:=[.own t68,.rd t2]
abbrev rs:List RK:=[.v t65,.v .bool]
abbrev Res:=ak rs×aj ps
def f (K:Nat)(x:ab ps):Option Res:=bif x.2.1.1==2 then ((Q7.f K (x.2.1.2.1,0,wr .i64 ((AA x.1.2.1:Int)-1),())).bind λy1=>bif !y1.1.1 then (some ((x.1,false,()),())) else (bif x.2.1.1==2 then ((Q78.f K (x.1,x.2.1.2.1,x.2.1.2.2.2,())).bind λy2=>some ((y2.1.1,true,()),())) else (bif x.2.1.1==4 then ((Q79.f K (x.1,x.2.1.2.1,x.2.1.2.2.1,())).bind λy3=>some ((y3.1.1,y3.1.2.1,()),())) else ((Q34.f K (x.1.2.1,x.2.1.2.1,())).bind λy4=>some (((x.1.1,(y4.1.1,x.1.2.2)),true,()),()))))) else (bif x.2.1.1==3 then ((Q7.f K (x.2.1.2.1,0,wr .i64 ((AA x.1.2.1:Int)-1),())).bind λy5=>bif !y5.1.1 then (some ((x.1,false,()),())) else (bif x.2.1.1==2 then ((Q78.f K (x.1,x.2.1.2.1,x.2.1.2.2.2,())).bind λy6=>some ((y6.1.1,true,()),())) else (bif x.2.1.1==4 then ((Q79.f K (x.1,x.2.1.2.1,x.2.1.2.2.1,())).bind λy7=>some ((y7.1.1,y7.1.2.1,()),())) else ((Q34.f K (x.1.2.1,x.2.1.2.1,())).bind λy8=>some (((x.1.1,(y8.1.1,x.1.2.2)),true,()),()))))) else (bif x.2.1.1==4 then ((Q7.f K (x.2.1.2.1,0,wr .i64 ((AA x.1.2.1:Int)-1),())).bind λy9=>bif !y9.1.1 then (some ((x.1,false,()),())) else (bif x.2.1.1==2 then ((Q78.f K (x.1,x.2.1.2.1,x.2.1.2.2.2,())).bind λy10=>some ((y10.1.1,true,()),())) else (bif x.2.1.1==4 then ((Q79.f K (x.1,x.2.1.2.1,x.2.1.2.2.1,())).bind λy11=>some ((y11.1.1,y11.1.2.1,()),())) else ((Q34.f K (x.1.2.1,x.2.1.2.1,())).bind λy12=>some (((x.1.1,(y12.1.1,x.1.2.2)),true,()),()))))) else ((Q7.f K (x.2.1.2.1,0,7,())).bind λy13=>bif !y13.1.1 then (some ((x.1,false,()),())) else ((Q100.f K (x.1,x.2.1,())).bind λy14=>some ((y14.1.1,y14.1.2.1,()),())))))
def c (K:Nat):Ctr:=⟨181,ps,rs,false,f K⟩
end Q102
namespace Q103
abbrev ps:List PK:=[.rd t65,.io (.list true 171 t2)]
abbrev rs:List RK:=[.v t65]
abbrev Res:=ak rs×aj ps
abbrev A_l0:=Int×List (Ty.den t26)×List (Ty.den t40)×List (Ty.den (.int .i64))×List (Ty.den t2)
def l0.step (K:Nat)(x:ab ps)(rec_l0:A_l0->Option Res)(a:A_l0):Option Res:=bif decide (a.1<(AA x.2.1:Int)) then ((Q6.f K (a.2,())).bind λy1=>(idx x.2.1 a.1).bind λ_=>(idx x.2.1 (AB a.1:Nat)).bind λy3=>(Q102.f K (y1.1.1,y3,())).bind λy4=>bif y4.1.2.1 then (rec_l0 (wr .i64 (a.1+1),y4.1.1.1,y4.1.1.2.1,y4.1.1.2.2.1,y4.1.1.2.2.2)) else (rec_l0 (wr .i64 (a.1+1),a.2.1,a.2.2.1,a.2.2.2.1,a.2.2.2.2))) else (some ((a.2,()),(x.2.1,())))
def l0 (K:Nat)(x:ab ps):A_l0->Option Res:=ae (λrec_l0 a=>l0.step K x rec_l0 a) K
def pre (K:Nat)(N_l0:A_l0->Option Res)(x:ab ps):Option Res:=N_l0 (0,x.1.1,x.1.2.1,x.1.2.2.1,x.1.2.2.2)
def f (K:Nat)(x:ab ps):Option Res:=pre K (l0 K x) x
def c (K:Nat):Ctr:=⟨179,ps,rs,false,f K⟩
end Q103
namespace Q104
abbrev ps:List PK:=[.iop t48,.rd t65]
abbrev rs:List RK:=[.v (.int .i64)]
abbrev Res:=ak rs×aj ps
def f (K:Nat)(x:ab ps):Option Res:=bif (AA x.2.1.2.1:Int)==0 then (some ((0,()),(x.1,()))) else ((Q4.f K (x.1,3,())).bind λy1=>bif decide (y1.1.1>0) then (bif decide ((AA x.2.1.2.1:Int)>4) then ((Q4.f K (y1.2.1,4,())).bind λy2=>some ((y2.1.1,()),(y2.2.1,()))) else ((Q4.f K (y1.2.1,(AA x.2.1.2.1:Int),())).bind λy3=>some ((y3.1.1,()),(y3.2.1,())))) else ((Q4.f K (y1.2.1,(AA x.2.1.2.1:Int),())).bind λy4=>some ((y4.1.1,()),(y4.2.1,()))))
def c (K:Nat):Ctr:=⟨202,ps,rs,false,f K⟩
end Q104
namespace Q105
abbrev ps:List PK:=[.iop t48,.rd t65]
abbrev rs:List RK:=[.v t2]
abbrev Res:=ak rs×aj ps
def f (K:Nat)(x:ab ps):Option Res:=(Q4.f K (x.1,8,())).bind λy1=>(Q4.f K (y1.2.1,256,())).bind λy2=>(Q4.f K (y2.2.1,16,())).bind λy3=>(Q4.f K (y3.2.1,40,())).bind λy4=>bif y4.1.1==0 then ((Q104.f K (y4.2.1,x.2.1,())).bind λy5=>some (((3,(y5.1.1,(0,false))),()),(y5.2.1,()))) else (bif y4.1.1==1 then ((Q104.f K (y4.2.1,x.2.1,())).bind λy6=>some (((3,(y6.1.1,(0,false))),()),(y6.2.1,()))) else (bif y4.1.1==2 then ((Q104.f K (y4.2.1,x.2.1,())).bind λy7=>(Q4.f K (y7.2.1,128,())).bind λy8=>some (((4,(y7.1.1,(wr .i64 ((wr .i64 ((wr .i64 ((wr .i64 (y2.1.1*16))+y3.1.1))*16))+(wr .i64 (y8.1.1*4096))),false))),()),(y8.2.1,()))) else (bif y4.1.1==3 then ((Q4.f K (y4.2.1,3,())).bind λy9=>some (((5,(y1.1.1,(y9.1.1,false))),()),(y9.2.1,()))) else (bif y4.1.1==4 then ((Q4.f K (y4.2.1,3,())).bind λy10=>some (((5,(y1.1.1,(y10.1.1,false))),()),(y10.2.1,()))) else (bif y4.1.1==5 then (some (((6,(y1.1.1,(0,false))),()),(y4.2.1,()))) else (bif y4.1.1==6 then (some (((7,(y1.1.1,(0,false))),()),(y4.2.1,()))) else (bif y4.1.1==7 then (some (((7,(y1.1.1,(0,false))),()),(y4.2.1,()))) else (bif y4.1.1==8 then ((Q4.f K (y4.2.1,3,())).bind λy11=>bif y11.1.1==0 then (some (((8,(y1.1.1,(0,false))),()),(y11.2.1,()))) else (some (((1,(y1.1.1,(wr .i64 ((wr .i64 (y2.1.1*16))+y3.1.1),false))),()),(y11.2.1,())))) else (bif y4.1.1==9 then ((Q4.f K (y4.2.1,4,())).bind λy12=>some (((9,(y1.1.1,(wr .i64 ((wr .i64 ((wr .i64 (AD y1.1.1 4))*4))+y12.1.1),false))),()),(y12.2.1,()))) else (bif y4.1.1==10 then ((Q4.f K (y4.2.1,4,())).bind λy13=>some (((9,(y1.1.1,(wr .i64 ((wr .i64 ((wr .i64 (AD y1.1.1 4))*4))+y13.1.1),false))),()),(y13.2.1,()))) else (bif y4.1.1==11 then ((Q4.f K (y4.2.1,4,())).bind λy14=>some (((9,(y1.1.1,(wr .i64 ((wr .i64 ((wr .i64 (AD y1.1.1 4))*4))+y14.1.1),false))),()),(y14.2.1,()))) else (bif y4.1.1==12 then (bif decide ((AA x.2.1.2.1:Int)>0) then ((Q104.f K (y4.2.1,x.2.1,())).bind λy15=>(Q4.f K (y15.2.1,10,())).bind λy16=>some (((2,(y15.1.1,(0,y16.1.1==0))),()),(y16.2.1,()))) else (some (((1,(y1.1.1,(wr .i64 ((wr .i64 (y2.1.1*16))+y3.1.1),false))),()),(y4.2.1,())))) else (bif y4.1.1==13 then (bif decide ((AA x.2.1.2.1:Int)>0) then ((Q104.f K (y4.2.1,x.2.1,())).bind λy17=>(Q4.f K (y17.2.1,10,())).bind λy18=>some (((2,(y17.1.1,(0,y18.1.1==0))),()),(y18.2.1,()))) else (some (((1,(y1.1.1,(wr .i64 ((wr .i64 (y2.1.1*16))+y3.1.1),false))),()),(y4.2.1,())))) else (bif y4.1.1==14 then (bif decide ((AA x.2.1.2.1:Int)>0) then ((Q104.f K (y4.2.1,x.2.1,())).bind λy19=>(Q4.f K (y19.2.1,10,())).bind λy20=>some (((2,(y19.1.1,(0,y20.1.1==0))),()),(y20.2.1,()))) else (some (((1,(y1.1.1,(wr .i64 ((wr .i64 (y2.1.1*16))+y3.1.1),false))),()),(y4.2.1,())))) else (bif y4.1.1==15 then (bif decide ((AA x.2.1.2.1:Int)>0) then ((Q104.f K (y4.2.1,x.2.1,())).bind λy21=>(Q4.f K (y21.2.1,10,())).bind λy22=>some (((2,(y21.1.1,(0,y22.1.1==0))),()),(y22.2.1,()))) else (some (((1,(y1.1.1,(wr .i64 ((wr .i64 (y2.1.1*16))+y3.1.1),false))),()),(y4.2.1,())))) else (bif y4.1.1==16 then (bif decide ((AA x.2.1.2.1:Int)>0) then ((Q104.f K (y4.2.1,x.2.1,())).bind λy23=>(Q4.f K (y23.2.1,10,())).bind λy24=>some (((2,(y23.1.1,(0,y24.1.1==0))),()),(y24.2.1,()))) else (some (((1,(y1.1.1,(wr .i64 ((wr .i64 (y2.1.1*16))+y3.1.1),false))),()),(y4.2.1,())))) else (bif y4.1.1==17 then (bif decide ((AA x.2.1.2.1:Int)>0) then ((Q104.f K (y4.2.1,x.2.1,())).bind λy25=>(Q4.f K (y25.2.1,10,())).bind λy26=>some (((2,(y25.1.1,(0,y26.1.1==0))),()),(y26.2.1,()))) else (some (((1,(y1.1.1,(wr .i64 ((wr .i64 (y2.1.1*16))+y3.1.1),false))),()),(y4.2.1,())))) else (bif y4.1.1==18 then (bif decide ((AA x.2.1.2.1:Int)>0) then ((Q104.f K (y4.2.1,x.2.1,())).bind λy27=>(Q4.f K (y27.2.1,10,())).bind λy28=>some (((2,(y27.1.1,(0,y28.1.1==0))),()),(y28.2.1,()))) else (some (((1,(y1.1.1,(wr .i64 ((wr .i64 (y2.1.1*16))+y3.1.1),false))),()),(y4.2.1,())))) else (bif y4.1.1==19 then (bif decide ((AA x.2.1.2.1:Int)>0) then ((Q104.f K (y4.2.1,x.2.1,())).bind λy29=>(Q4.f K (y29.2.1,10,())).bind λy30=>some (((2,(y29.1.1,(0,y30.1.1==0))),()),(y30.2.1,()))) else (some (((1,(y1.1.1,(wr .i64 ((wr .i64 (y2.1.1*16))+y3.1.1),false))),()),(y4.2.1,())))) else (bif y4.1.1==20 then (bif decide ((AA x.2.1.2.1:Int)>0) then ((Q104.f K (y4.2.1,x.2.1,())).bind λy31=>(Q4.f K (y31.2.1,10,())).bind λy32=>some (((2,(y31.1.1,(0,y32.1.1==0))),()),(y32.2.1,()))) else (some (((1,(y1.1.1,(wr .i64 ((wr .i64 (y2.1.1*16))+y3.1.1),false))),()),(y4.2.1,())))) else (bif y4.1.1==21 then (bif decide ((AA x.2.1.2.1:Int)>0) then ((Q104.f K (y4.2.1,x.2.1,())).bind λy33=>(Q4.f K (y33.2.1,10,())).bind λy34=>some (((2,(y33.1.1,(0,y34.1.1==0))),()),(y34.2.1,()))) else (some (((1,(y1.1.1,(wr .i64 ((wr .i64 (y2.1.1*16))+y3.1.1),false))),()),(y4.2.1,())))) else (bif y4.1.1==22 then (bif decide ((AA x.2.1.2.1:Int)>0) then ((Q104.f K (y4.2.1,x.2.1,())).bind λy35=>(Q4.f K (y35.2.1,10,())).bind λy36=>some (((2,(y35.1.1,(0,y36.1.1==0))),()),(y36.2.1,()))) else (some (((1,(y1.1.1,(wr .i64 ((wr .i64 (y2.1.1*16))+y3.1.1),false))),()),(y4.2.1,())))) else (bif y4.1.1==23 then (bif decide ((AA x.2.1.2.1:Int)>0) then ((Q104.f K (y4.2.1,x.2.1,())).bind λy37=>(Q4.f K (y37.2.1,10,())).bind λy38=>some (((2,(y37.1.1,(0,y38.1.1==0))),()),(y38.2.1,()))) else (some (((1,(y1.1.1,(wr .i64 ((wr .i64 (y2.1.1*16))+y3.1.1),false))),()),(y4.2.1,())))) else (bif y4.1.1==24 then (bif decide ((AA x.2.1.2.1:Int)>0) then ((Q104.f K (y4.2.1,x.2.1,())).bind λy39=>(Q4.f K (y39.2.1,10,())).bind λy40=>some (((2,(y39.1.1,(0,y40.1.1==0))),()),(y40.2.1,()))) else (some (((1,(y1.1.1,(wr .i64 ((wr .i64 (y2.1.1*16))+y3.1.1),false))),()),(y4.2.1,())))) else (bif y4.1.1==25 then (bif decide ((AA x.2.1.2.1:Int)>0) then ((Q104.f K (y4.2.1,x.2.1,())).bind λy41=>(Q4.f K (y41.2.1,10,())).bind λy42=>some (((2,(y41.1.1,(0,y42.1.1==0))),()),(y42.2.1,()))) else (some (((1,(y1.1.1,(wr .i64 ((wr .i64 (y2.1.1*16))+y3.1.1),false))),()),(y4.2.1,())))) else (bif y4.1.1==26 then (bif decide ((AA x.2.1.2.1:Int)>0) then ((Q104.f K (y4.2.1,x.2.1,())).bind λy43=>(Q4.f K (y43.2.1,10,())).bind λy44=>some (((2,(y43.1.1,(0,y44.1.1==0))),()),(y44.2.1,()))) else (some (((1,(y1.1.1,(wr .i64 ((wr .i64 (y2.1.1*16))+y3.1.1),false))),()),(y4.2.1,())))) else (bif y4.1.1==27 then (bif decide ((AA x.2.1.2.1:Int)>0) then ((Q104.f K (y4.2.1,x.2.1,())).bind λy45=>(Q4.f K (y45.2.1,10,())).bind λy46=>some (((2,(y45.1.1,(0,y46.1.1==0))),()),(y46.2.1,()))) else (some (((1,(y1.1.1,(wr .i64 ((wr .i64 (y2.1.1*16))+y3.1.1),false))),()),(y4.2.1,())))) else (some (((1,(y1.1.1,(wr .i64 ((wr .i64 (y2.1.1*16))+y3.1.1),false))),()),(y4.2.1,()))))))))))))))))))))))))))))))
def c (K:Nat):Ctr:=⟨180,ps,rs,false,f K⟩
end Q105
namespace Q106
abbrev ps:List PK:=[.iop t48,.rd (.int .i64)]
abbrev rs:List RK:=[.v (.list false 171 t2),.v t65]
abbrev Res:=ak rs×aj ps
abbrev A_l1:=List (Ty.den t2)×Int×List (Ty.den (.int .u8))×Int×List (Ty.den t26)×List (Ty.den t40)×List (Ty.den (.int .i64))×List (Ty.den t2)
abbrev A_l0:=List (Ty.den t2)×Int×List (Ty.den (.int .u8))×Int×List (Ty.den t26)×List (Ty.den t40)×List (Ty.den (.int .i64))×List (Ty.den t2)
def l1.step (K:Nat)(x:ab ps)(rec_l1:A_l1->Option Res)(a:A_l1):Option Res:=bif decide (a.2.1>0) then ((Q105.f K ((a.2.2.1,a.2.2.2.1),a.2.2.2.2,())).bind λy5=>bif decide ((AA a.1+AA ([y5.1.1]))*32<=ah) then ((Q6.f K (a.2.2.2.2,())).bind λy6=>(Q102.f K (y6.1.1,y5.1.1,())).bind λy7=>bif y7.1.2.1 then (rec_l1 (a.1++([y5.1.1]),wr .i64 (a.2.1-1),y5.2.1.1,y5.2.1.2,y7.1.1.1,y7.1.1.2.1,y7.1.1.2.2.1,y7.1.1.2.2.2)) else (rec_l1 (a.1++([y5.1.1]),wr .i64 (a.2.1-1),y5.2.1.1,y5.2.1.2,a.2.2.2.2.1,a.2.2.2.2.2.1,a.2.2.2.2.2.2.1,a.2.2.2.2.2.2.2))) else none) else ((Q6.f K (a.2.2.2.2,())).bind λy8=>some ((a.1,y8.1.1,()),((a.2.2.1,a.2.2.2.1),())))
def l1 (K:Nat)(x:ab ps):A_l1->Option Res:=ae (λrec_l1 a=>l1.step K x rec_l1 a) K
def l0.step (K:Nat)(x:ab ps)(N_l1:A_l1->Option Res)(rec_l0:A_l0->Option Res)(a:A_l0):Option Res:=bif decide (a.2.1<=7) then (bif decide ((AE a.2.1 4)>0) then (bif decide ((AA a.1+AA ([(9,(a.2.1,(wr .i64 ((wr .i64 (AD a.2.1 4))*4),false)))]))*32<=ah) then (bif decide ((AA (a.1++([(9,(a.2.1,(wr .i64 ((wr .i64 (AD a.2.1 4))*4),false)))]))+AA ([(2,(0,(0,false))),(2,(0,(0,false)))]))*32<=ah) then (rec_l0 ((a.1++([(9,(a.2.1,(wr .i64 ((wr .i64 (AD a.2.1 4))*4),false)))]))++([(2,(0,(0,false))),(2,(0,(0,false)))]),wr .i64 (a.2.1+1),a.2.2.1,a.2.2.2.1,a.2.2.2.2.1,a.2.2.2.2.2.1,a.2.2.2.2.2.2.1,a.2.2.2.2.2.2.2)) else none) else none) else (rec_l0 (a.1,wr .i64 (a.2.1+1),a.2.2.1,a.2.2.2.1,a.2.2.2.2.1,a.2.2.2.2.2.1,a.2.2.2.2.2.2.1,a.2.2.2.2.2.2.2))) else ((Q103.f K (a.2.2.2.2,a.1,())).bind λy3=>(Q4.f K ((a.2.2.1,a.2.2.2.1),x.2.1,())).bind λy4=>N_l1 (y3.2.1,y4.1.1,y4.2.1.1,y4.2.1.2,y3.1.1.1,y3.1.1.2.1,y3.1.1.2.2.1,y3.1.1.2.2.2))
def l0 (K:Nat)(x:ab ps):A_l0->Option Res:=ae (λrec_l0 a=>l0.step K x (l1 K x) rec_l0 a) K
def pre (K:Nat)(N_l0:A_l0->Option Res)(N_l1:A_l1->Option Res)(x:ab ps):Option Res:=(Q11.f K ()).bind λy1=>(Q4.f K (x.1,3,())).bind λy2=>bif decide (y2.1.1>0) then (N_l0 ([],0,y2.2.1.1,y2.2.1.2,y1.1.1.1,y1.1.1.2.1,y1.1.1.2.2.1,y1.1.1.2.2.2)) else ((Q4.f K (y2.2.1,x.2.1,())).bind λy9=>N_l1 ([],y9.1.1,y9.2.1.1,y9.2.1.2,y1.1.1.1,y1.1.1.2.1,y1.1.1.2.2.1,y1.1.1.2.2.2))
def f (K:Nat)(x:ab ps):Option Res:=pre K (l0 K x) (l1 K x) x
def c (K:Nat):Ctr:=⟨157,ps,rs,false,f K⟩
def G (K:Nat):List Ctr:=[Q4.c K,Q6.c K,Q11.c K,Q103.c K,Q105.c K,Q102.c K]
def live_l1:List (Nat×List Coe):=[(0,[.keep]),(5,[.keep]),(6,[.keep]),(7,[.own false 171 t2]),(9,[.keep]),(100000,[.ro true 5 (.int .u8),.keep]),(100005,[.keep,.keep,.keep,.keep]),(100006,[.ro false 33 t26,.ro false 101 t40,.ro false 3 (.int .i64),.ro false 41 t2])]
def live_l0:List (Nat×List Coe):=[(0,[.keep]),(1,[.keep]),(5,[.keep]),(6,[.keep]),(7,[.own false 171 t2]),(8,[.keep]),(100000,[.ro true 5 (.int .u8),.keep]),(100005,[.keep,.keep,.keep,.keep]),(100006,[.ro false 33 t26,.ro false 101 t40,.ro false 3 (.int .i64),.ro false 41 t2])]
def L:List (Nat×List (Nat×List Coe)):=[(13,live_l1),(6,live_l0)]
def body:Code:=dh Tryz.f157
abbrev ev (K:Nat):Code->St->(Ex->St->Option Res)->Option Res:=evK (G K) T_S L K
abbrev fin:Ex->St->Option Res:=dy T_S ps rs false Tryz.f157.results.toList
def S_l0 (x:ab ps)(a:A_l0):St:=az [(0,⟨0,.one,[.bp 100000 0]⟩),(1,⟨0,.one,[.int .i64 x.2.1]⟩),(5,⟨0,.one,[.bp 100005 0]⟩),(6,⟨0,.one,[.bp 100006 0]⟩),(7,⟨0,.one,[.own false none 171 t2 a.1]⟩),(8,⟨0,.one,[.int .i64 a.2.1]⟩),(100000,⟨0,.agg,[.ro true 5 (.int .u8) a.2.2.1,.int .i64 a.2.2.2.1]⟩),(100005,⟨0,.agg,[.nil,.nil,.nil,.nil]⟩),(100006,⟨0,.agg,[.ro false 33 t26 a.2.2.2.2.1,.ro false 101 t40 a.2.2.2.2.2.1,.ro false 3 (.int .i64) a.2.2.2.2.2.2.1,.ro false 41 t2 a.2.2.2.2.2.2.2]⟩)]
def S_l1 (x:ab ps)(a:A_l1):St:=az [(0,⟨0,.one,[.bp 100000 0]⟩),(5,⟨0,.one,[.bp 100005 0]⟩),(6,⟨0,.one,[.bp 100006 0]⟩),(7,⟨0,.one,[.own false none 171 t2 a.1]⟩),(9,⟨0,.one,[.int .i64 a.2.1]⟩),(100000,⟨0,.agg,[.ro true 5 (.int .u8) a.2.2.1,.int .i64 a.2.2.2.1]⟩),(100005,⟨0,.agg,[.nil,.nil,.nil,.nil]⟩),(100006,⟨0,.agg,[.ro false 33 t26 a.2.2.2.2.1,.ro false 101 t40 a.2.2.2.2.2.1,.ro false 3 (.int .i64) a.2.2.2.2.2.2.1,.ro false 41 t2 a.2.2.2.2.2.2.2]⟩)]
def k_l1 (K:Nat)(x:ab ps):Ex->St->Option Res:=kAt (ev K) body [1,1,1,1,0,1,0] fin
def N_l1 (K:Nat)(x:ab ps):A_l1->Option Res:=λa=>bt live_l1 (ev K (sub body [1,1,1,1,0,1,0,0])) K (S_l1 x a) (k_l1 K x)
def k_l0 (K:Nat)(x:ab ps):Ex->St->Option Res:=kAt (ev K) body [1,1,1,0,1,0,0,1,0] fin
def N_l0 (K:Nat)(x:ab ps):A_l0->Option Res:=λa=>bt live_l0 (ev K (sub body [1,1,1,0,1,0,0,1,0,0])) K (S_l0 x a) (k_l0 K x)
end Q106
namespace Q107
abbrev ps:List PK:=[.iop t48]
abbrev rs:List RK:=[.v t65]
abbrev Res:=ak rs×aj ps
def f (K:Nat)(x:ab ps):Option Res:=(Q106.f K (x.1,100,())).bind λy1=>some ((y1.1.2.1,()),(y1.2.1,()))
def c (K:Nat):Ctr:=⟨125,ps,rs,false,f K⟩
end Q107
namespace Q108
abbrev ps:List PK:=[.iop t48]
abbrev rs:List RK:=[.v t26]
abbrev Res:=ak rs×aj ps
def f (K:Nat)(x:ab ps):Option Res:=(Q107.f K (x.1,())).bind λy1=>(Q4.f K (y1.2.1,(AA y1.1.1.1:Int),())).bind λy2=>(idx y1.1.1.1 y2.1.1).bind λy3=>some ((y3,()),(y2.2.1,()))
def c (K:Nat):Ctr:=⟨98,ps,rs,false,f K⟩
end Q108
namespace Q109
abbrev ps:List PK:=[.iop t48,.rd (.int .i64)]
abbrev rs:List RK:=[.v t2]
abbrev Res:=ak rs×aj ps
def f (K:Nat)(x:ab ps):Option Res:=(Q4.f K (x.1,4,())).bind λy1=>(Q4.f K (y1.2.1,3,())).bind λy2=>(Q4.f K (y2.2.1,12,())).bind λy3=>(Q4.f K (y3.2.1,3,())).bind λy4=>(idx ([y2.1.1,y3.1.1,999]) y4.1.1).bind λ_=>(idx ([y2.1.1,y3.1.1,999]) (AB y4.1.1:Nat)).bind λy6=>(Q4.f K (y4.2.1,4,())).bind λy7=>(Q10.f K (wr .i64 ((wr .i64 (x.2.1*4))+y1.1.1),())).bind λy8=>some (((wr .i64 ((wr .i64 (x.2.1*4))+y1.1.1),(y6,(wr .i64 (1+y7.1.1),y8.1.1))),()),(y7.2.1,()))
def c (K:Nat):Ctr:=⟨182,ps,rs,false,f K⟩
end Q109
namespace Q110
abbrev ps:List PK:=[.iop t48]
abbrev rs:List RK:=[.v t2]
abbrev Res:=ak rs×aj ps
def f (K:Nat)(x:ab ps):Option Res:=(Q4.f K (x.1,2,())).bind λy1=>(Q109.f K (y1.2.1,y1.1.1,())).bind λy2=>(Q4.f K (y2.2.1,12,())).bind λy3=>bif y3.1.1==0 then ((Q4.f K (y3.2.1,2,())).bind λy4=>(idx ([(-1),8]:List (Int)) y4.1.1).bind λ_=>(idx ([(-1),8]:List (Int)) (AB y4.1.1:Nat)).bind λy6=>some (((y6,y2.1.1.2),()),(y4.2.1,()))) else (bif y3.1.1==1 then ((Q4.f K (y3.2.1,2,())).bind λy7=>(idx ([(-1),1000]:List (Int)) y7.1.1).bind λ_=>(idx ([(-1),1000]:List (Int)) (AB y7.1.1:Nat)).bind λy9=>some (((y2.1.1.1,(y9,y2.1.1.2.2)),()),(y7.2.1,()))) else (bif y3.1.1==2 then ((Q4.f K (y3.2.1,2,())).bind λy10=>(idx ([0,5]:List (Int)) y10.1.1).bind λ_=>(idx ([0,5]:List (Int)) (AB y10.1.1:Nat)).bind λy12=>some (((y2.1.1.1,(y2.1.1.2.1,(y12,y2.1.1.2.2.2))),()),(y10.2.1,()))) else (bif y3.1.1==3 then (some (((y2.1.1.1,(y2.1.1.2.1,(y2.1.1.2.2.1,!y2.1.1.2.2.2))),()),(y3.2.1,()))) else (some ((y2.1.1,()),(y3.2.1,()))))))
def c (K:Nat):Ctr:=⟨158,ps,rs,false,f K⟩
end Q110
namespace Q111
abbrev ps:List PK:=[.iop t48,.rd (.int .i64)]
abbrev rs:List RK:=[.v (.list true 41 t2)]
abbrev Res:=ak rs×aj ps
abbrev A_l0:=List (Ty.den t2)×Int×List (Ty.den (.int .u8))×Int
def l0.step (K:Nat)(x:ab ps)(rec_l0:A_l0->Option Res)(a:A_l0):Option Res:=bif decide (a.2.1>0) then (bif decide (x.2.1<0) then ((Q4.f K (a.2.2,2,())).bind λy2=>(Q109.f K (y2.2.1,y2.1.1,())).bind λy3=>(Q53.f K (a.1,y3.1.1,())).bind λy4=>rec_l0 (y4.1.1,wr .i64 (a.2.1-1),y3.2.1.1,y3.2.1.2)) else ((Q109.f K (a.2.2,x.2.1,())).bind λy5=>(Q53.f K (a.1,y5.1.1,())).bind λy6=>rec_l0 (y6.1.1,wr .i64 (a.2.1-1),y5.2.1.1,y5.2.1.2))) else (some ((a.1,()),(a.2.2,())))
def l0 (K:Nat)(x:ab ps):A_l0->Option Res:=ae (λrec_l0 a=>l0.step K x rec_l0 a) K
def pre (K:Nat)(N_l0:A_l0->Option Res)(x:ab ps):Option Res:=(Q4.f K (x.1,6,())).bind λy1=>N_l0 ([],y1.1.1,y1.2.1.1,y1.2.1.2)
def f (K:Nat)(x:ab ps):Option Res:=pre K (l0 K x) x
def c (K:Nat):Ctr:=⟨164,ps,rs,false,f K⟩
end Q111
namespace Q112
abbrev ps:List PK:=[.iop t48]
abbrev rs:List RK:=[.v (.list true 41 t2)]
abbrev Res:=ak rs×aj ps
def f (K:Nat)(x:ab ps):Option Res:=(Q111.f K (x.1,(-1),())).bind λy1=>bif decide ((AA y1.1.1:Int)>0) then ((Q4.f K (y1.2.1,12,())).bind λy2=>bif y2.1.1==0 then ((Q4.f K (y2.2.1,(AA y1.1.1:Int),())).bind λy3=>(Q4.f K (y3.2.1,3,())).bind λy4=>bif y4.1.1==0 then ((Q110.f K (y4.2.1,())).bind λy5=>(idx y1.1.1 y3.1.1).bind λ_=>(idx y1.1.1 (AB y3.1.1:Nat)).bind λy7=>some ((y1.1.1.set (AB y3.1.1) y5.1.1,()),(y5.2.1,()))) else (bif y4.1.1==1 then ((idx y1.1.1 y3.1.1).bind λ_=>(idx y1.1.1 (AB y3.1.1:Nat)).bind λy9=>bif decide ((AA y1.1.1+AA ([y9]))*32<=ah) then (some ((y1.1.1++([y9]),()),(y4.2.1,()))) else none) else ((idx y1.1.1 y3.1.1).bind λ_=>(idx y1.1.1 (AB y3.1.1:Nat)).bind λy11=>some ((y1.1.1.set (AB y3.1.1) (y11.1,(y11.2.1,(0,y11.2.2.2))),()),(y4.2.1,()))))) else (some ((y1.1.1,()),(y2.2.1,())))) else (some ((y1.1.1,()),(y1.2.1,())))
def c (K:Nat):Ctr:=⟨141,ps,rs,false,f K⟩
end Q112
namespace Q113
abbrev ps:List PK:=[.iop t48,.rd (.int .i64)]
abbrev rs:List RK:=[.v (.list true 116 t3)]
abbrev Res:=ak rs×aj ps
abbrev A_l0:=List (Ty.den t3)×List (Ty.den t2)×Int×List (Ty.den (.int .u8))×Int
def l0.step (K:Nat)(x:ab ps)(rec_l0:A_l0->Option Res)(a:A_l0):Option Res:=bif decide (a.2.2.1<(AA a.2.1:Int)) then ((idx a.2.1 a.2.2.1).bind λ_=>(idx a.2.1 (AB a.2.2.1:Nat)).bind λy3=>(Q4.f K (a.2.2.2,4,())).bind λy4=>bif decide ((AA a.1+AA ([(y3,wr .i64 (1+y4.1.1))]))*40<=ah) then (rec_l0 (a.1++([(y3,wr .i64 (1+y4.1.1))]),a.2.1,wr .i64 (a.2.2.1+1),y4.2.1.1,y4.2.1.2)) else none) else (some ((a.1,()),(a.2.2.2,())))
def l0 (K:Nat)(x:ab ps):A_l0->Option Res:=ae (λrec_l0 a=>l0.step K x rec_l0 a) K
def pre (K:Nat)(N_l0:A_l0->Option Res)(x:ab ps):Option Res:=(Q111.f K (x.1,x.2.1,())).bind λy1=>N_l0 ([],y1.1.1,0,y1.2.1.1,y1.2.1.2)
def f (K:Nat)(x:ab ps):Option Res:=pre K (l0 K x) x
def c (K:Nat):Ctr:=⟨165,ps,rs,false,f K⟩
end Q113
namespace Q114
abbrev ps:List PK:=[.iop t48]
abbrev rs:List RK:=[.v (.list true 116 t3)]
abbrev Res:=ak rs×aj ps
def f (K:Nat)(x:ab ps):Option Res:=(Q113.f K (x.1,(-1),())).bind λy1=>bif decide ((AA y1.1.1:Int)>0) then ((Q4.f K (y1.2.1,10,())).bind λy2=>bif y2.1.1==0 then ((Q4.f K (y2.2.1,(AA y1.1.1:Int),())).bind λy3=>(Q4.f K (y3.2.1,3,())).bind λy4=>bif y4.1.1==0 then ((Q4.f K (y4.2.1,2,())).bind λy5=>(idx ([0,5]:List (Int)) y5.1.1).bind λ_=>(idx ([0,5]:List (Int)) (AB y5.1.1:Nat)).bind λy7=>(idx y1.1.1 y3.1.1).bind λ_=>(idx y1.1.1 (AB y3.1.1:Nat)).bind λy9=>some ((y1.1.1.set (AB y3.1.1) (y9.1,y7),()),(y5.2.1,()))) else (bif y4.1.1==1 then ((Q110.f K (y4.2.1,())).bind λy10=>(idx y1.1.1 y3.1.1).bind λ_=>(idx y1.1.1 (AB y3.1.1:Nat)).bind λy12=>some ((y1.1.1.set (AB y3.1.1) (y10.1.1,y12.2),()),(y10.2.1,()))) else ((idx y1.1.1 y3.1.1).bind λ_=>(idx y1.1.1 (AB y3.1.1:Nat)).bind λy14=>bif decide ((AA y1.1.1+AA ([y14]))*40<=ah) then (some ((y1.1.1++([y14]),()),(y4.2.1,()))) else none))) else (some ((y1.1.1,()),(y2.2.1,())))) else (some ((y1.1.1,()),(y1.2.1,())))
def c (K:Nat):Ctr:=⟨142,ps,rs,false,f K⟩
end Q114
namespace Q115
abbrev ps:List PK:=[.iop t48]
abbrev rs:List RK:=[.v t9]
abbrev Res:=ak rs×aj ps
def f (K:Nat)(x:ab ps):Option Res:=(Q4.f K (x.1,6,())).bind λy1=>bif y1.1.1==0 then ((Q8.f K ()).bind λy2=>some ((y2.1.1,()),(y1.2.1,()))) else ((Q4.f K (y1.2.1,3,())).bind λy3=>(idx ([10,1000,100000]:List (Int)) y3.1.1).bind λ_=>(idx ([10,1000,100000]:List (Int)) (AB y3.1.1:Nat)).bind λy5=>(Q4.f K (y3.2.1,wr .i64 ((wr .i64 (2*y5))+1),())).bind λy6=>(Q4.f K (y6.2.1,wr .i64 ((wr .i64 (2*y5))+1),())).bind λy7=>(Q4.f K (y7.2.1,wr .i64 (y5+1),())).bind λy8=>(Q4.f K (y8.2.1,1500,())).bind λy9=>some (((wr .i64 (y6.1.1-y5),(wr .i64 (y7.1.1-y5),(y8.1.1,wr .i64 (1+y9.1.1)))),()),(y9.2.1,())))
def c (K:Nat):Ctr:=⟨40,ps,rs,false,f K⟩
end Q115
namespace Q116
abbrev ps:List PK:=[.iop t48]
abbrev rs:List RK:=[.v t9]
abbrev Res:=ak rs×aj ps
def f (K:Nat)(x:ab ps):Option Res:=(Q115.f K (x.1,())).bind λy1=>(Q4.f K (y1.2.1,16,())).bind λy2=>bif y2.1.1==0 then ((Q4.f K (y2.2.1,3,())).bind λy3=>(idx ([100000,100001,(-100001)]:List (Int)) y3.1.1).bind λ_=>(idx ([100000,100001,(-100001)]:List (Int)) (AB y3.1.1:Nat)).bind λy5=>some (((y5,y1.1.1.2),()),(y3.2.1,()))) else (bif y2.1.1==1 then ((Q4.f K (y2.2.1,2,())).bind λy6=>(idx ([(-1),100001]:List (Int)) y6.1.1).bind λ_=>(idx ([(-1),100001]:List (Int)) (AB y6.1.1:Nat)).bind λy8=>some (((y1.1.1.1,(y1.1.1.2.1,(y8,y1.1.1.2.2.2))),()),(y6.2.1,()))) else (bif y2.1.1==2 then ((Q4.f K (y2.2.1,2,())).bind λy9=>(idx ([0,1501]:List (Int)) y9.1.1).bind λ_=>(idx ([0,1501]:List (Int)) (AB y9.1.1:Nat)).bind λy11=>some (((y1.1.1.1,(y1.1.1.2.1,(y1.1.1.2.2.1,y11))),()),(y9.2.1,()))) else (some ((y1.1.1,()),(y2.2.1,())))))
def c (K:Nat):Ctr:=⟨143,ps,rs,false,f K⟩
end Q116
namespace Q117
abbrev ps:List PK:=[.iop t48,.rd t26]
abbrev rs:List RK:=[.v t26]
abbrev Res:=ak rs×aj ps
def f (K:Nat)(x:ab ps):Option Res:=(Q5.f K (x.2.1,())).bind λy1=>(Q4.f K (x.1,12,())).bind λy2=>bif y2.1.1==0 then ((Q112.f K (y2.2.1,())).bind λy3=>some (((y1.1.1.1,(y1.1.1.2.1,(y1.1.1.2.2.1,(y1.1.1.2.2.2.1,(y1.1.1.2.2.2.2.1,(y1.1.1.2.2.2.2.2.1,(y1.1.1.2.2.2.2.2.2.1,(y1.1.1.2.2.2.2.2.2.2.1,(y3.1.1,y1.1.1.2.2.2.2.2.2.2.2.2))))))))),()),(y3.2.1,()))) else (bif y2.1.1==1 then ((Q114.f K (y2.2.1,())).bind λy4=>some (((y1.1.1.1,(y1.1.1.2.1,(y1.1.1.2.2.1,(y1.1.1.2.2.2.1,(y1.1.1.2.2.2.2.1,(y1.1.1.2.2.2.2.2.1,(y1.1.1.2.2.2.2.2.2.1,(y1.1.1.2.2.2.2.2.2.2.1,(y1.1.1.2.2.2.2.2.2.2.2.1,(y4.1.1,y1.1.1.2.2.2.2.2.2.2.2.2.2)))))))))),()),(y4.2.1,()))) else (bif y2.1.1==2 then (some (((y1.1.1.1,(y1.1.1.2.1,(y1.1.1.2.2.1,(y1.1.1.2.2.2.1,(wr .i64 (y1.1.1.2.2.2.2.1+1),y1.1.1.2.2.2.2.2))))),()),(y2.2.1,()))) else (bif y2.1.1==3 then ((Q4.f K (y2.2.1,9,())).bind λy5=>(Q4.f K (y5.2.1,3,())).bind λy6=>(Q4.f K (y6.2.1,3,())).bind λy7=>(Q4.f K (y7.2.1,2,())).bind λy8=>some (((y1.1.1.1,(y1.1.1.2.1,(y1.1.1.2.2.1,(y1.1.1.2.2.2.1,(y1.1.1.2.2.2.2.1,(y1.1.1.2.2.2.2.2.1,(y1.1.1.2.2.2.2.2.2.1,(y1.1.1.2.2.2.2.2.2.2.1,(y1.1.1.2.2.2.2.2.2.2.2.1,(y1.1.1.2.2.2.2.2.2.2.2.2.1,((wr .i64 (y5.1.1-1),(y6.1.1,(y7.1.1,y8.1.1==0))),y1.1.1.2.2.2.2.2.2.2.2.2.2.2))))))))))),()),(y8.2.1,()))) else (bif y2.1.1==4 then ((Q4.f K (y2.2.1,8,())).bind λy9=>(Q4.f K (y9.2.1,8,())).bind λy10=>bif decide ((AA y1.1.1.2.2.2.2.2.2.2.2.2.2.2.1+AA ([(y9.1.1,(0,(0,[y10.1.1])))]))*48<=ah) then (some (((y1.1.1.1,(y1.1.1.2.1,(y1.1.1.2.2.1,(y1.1.1.2.2.2.1,(y1.1.1.2.2.2.2.1,(y1.1.1.2.2.2.2.2.1,(y1.1.1.2.2.2.2.2.2.1,(y1.1.1.2.2.2.2.2.2.2.1,(y1.1.1.2.2.2.2.2.2.2.2.1,(y1.1.1.2.2.2.2.2.2.2.2.2.1,(y1.1.1.2.2.2.2.2.2.2.2.2.2.1,(y1.1.1.2.2.2.2.2.2.2.2.2.2.2.1++([(y9.1.1,(0,(0,[y10.1.1])))]),y1.1.1.2.2.2.2.2.2.2.2.2.2.2.2)))))))))))),()),(y10.2.1,()))) else none) else (bif y2.1.1==5 then ((Q116.f K (y2.2.1,())).bind λy11=>some (((y1.1.1.1,(y1.1.1.2.1,(y1.1.1.2.2.1,(y1.1.1.2.2.2.1,(y1.1.1.2.2.2.2.1,(y1.1.1.2.2.2.2.2.1,(y1.1.1.2.2.2.2.2.2.1,(y1.1.1.2.2.2.2.2.2.2.1,(y1.1.1.2.2.2.2.2.2.2.2.1,(y1.1.1.2.2.2.2.2.2.2.2.2.1,(y1.1.1.2.2.2.2.2.2.2.2.2.2.1,(y1.1.1.2.2.2.2.2.2.2.2.2.2.2.1,(y11.1.1,y1.1.1.2.2.2.2.2.2.2.2.2.2.2.2.2))))))))))))),()),(y11.2.1,()))) else (bif y2.1.1==6 then ((Q4.f K (y2.2.1,9,())).bind λy12=>(Q116.f K (y12.2.1,())).bind λy13=>(Q4.f K (y13.2.1,3,())).bind λy14=>bif decide ((AA y1.1.1.2.2.2.2.2.2.2.2.2.2.2.2.2.1+AA ([(y12.1.1,(y13.1.1,[y14.1.1]))]))*64<=ah) then (some (((y1.1.1.1,(y1.1.1.2.1,(y1.1.1.2.2.1,(y1.1.1.2.2.2.1,(y1.1.1.2.2.2.2.1,(y1.1.1.2.2.2.2.2.1,(y1.1.1.2.2.2.2.2.2.1,(y1.1.1.2.2.2.2.2.2.2.1,(y1.1.1.2.2.2.2.2.2.2.2.1,(y1.1.1.2.2.2.2.2.2.2.2.2.1,(y1.1.1.2.2.2.2.2.2.2.2.2.2.1,(y1.1.1.2.2.2.2.2.2.2.2.2.2.2.1,(y1.1.1.2.2.2.2.2.2.2.2.2.2.2.2.1,(y1.1.1.2.2.2.2.2.2.2.2.2.2.2.2.2.1++([(y12.1.1,(y13.1.1,[y14.1.1]))]),y1.1.1.2.2.2.2.2.2.2.2.2.2.2.2.2.2)))))))))))))),()),(y14.2.1,()))) else none) else (bif y2.1.1==7 then ((Q4.f K (y2.2.1,3,())).bind λy15=>(Q112.f K (y15.2.1,())).bind λy16=>bif decide ((AA y1.1.1.2.2.2.2.2.2.2.2.2.2.2.2.2.2+AA ([(y15.1.1,y16.1.1)]))*32<=ah) then (some (((y1.1.1.1,(y1.1.1.2.1,(y1.1.1.2.2.1,(y1.1.1.2.2.2.1,(y1.1.1.2.2.2.2.1,(y1.1.1.2.2.2.2.2.1,(y1.1.1.2.2.2.2.2.2.1,(y1.1.1.2.2.2.2.2.2.2.1,(y1.1.1.2.2.2.2.2.2.2.2.1,(y1.1.1.2.2.2.2.2.2.2.2.2.1,(y1.1.1.2.2.2.2.2.2.2.2.2.2.1,(y1.1.1.2.2.2.2.2.2.2.2.2.2.2.1,(y1.1.1.2.2.2.2.2.2.2.2.2.2.2.2.1,(y1.1.1.2.2.2.2.2.2.2.2.2.2.2.2.2.1,y1.1.1.2.2.2.2.2.2.2.2.2.2.2.2.2.2++([(y15.1.1,y16.1.1)]))))))))))))))),()),(y16.2.1,()))) else none) else (bif y2.1.1==8 then (some (((y1.1.1.1,(!y1.1.1.2.1,y1.1.1.2.2)),()),(y2.2.1,()))) else (bif y2.1.1==9 then (some (((y1.1.1.1,(y1.1.1.2.1,(!y1.1.1.2.2.1,y1.1.1.2.2.2))),()),(y2.2.1,()))) else (bif y2.1.1==10 then ((Q4.f K (y2.2.1,3,())).bind λy17=>(idx ([(-1),999999,1000000]:List (Int)) y17.1.1).bind λ_=>(idx ([(-1),999999,1000000]:List (Int)) (AB y17.1.1:Nat)).bind λy19=>some (((y1.1.1.1,(y1.1.1.2.1,(y1.1.1.2.2.1,(y1.1.1.2.2.2.1,(y1.1.1.2.2.2.2.1,(y19,y1.1.1.2.2.2.2.2.2)))))),()),(y17.2.1,()))) else ((Q4.f K (y2.2.1,8,())).bind λy20=>(Q4.f K (y20.2.1,3,())).bind λy21=>(idx ([(-1),8,y20.1.1]) y21.1.1).bind λ_=>(idx ([(-1),8,y20.1.1]) (AB y21.1.1:Nat)).bind λy23=>some (((y23,y1.1.1.2),()),(y21.2.1,())))))))))))))
def c (K:Nat):Ctr:=⟨99,ps,rs,false,f K⟩
end Q117
namespace Q118
abbrev ps:List PK:=[.iop t48]
abbrev rs:List RK:=[.v t26]
abbrev Res:=ak rs×aj ps
def f (K:Nat)(x:ab ps):Option Res:=(Q108.f K (x.1,())).bind λy1=>(Q4.f K (y1.2.1,20,())).bind λy2=>bif y2.1.1==0 then ((Q117.f K (y2.2.1,y1.1.1,())).bind λy3=>some ((y3.1.1,()),(y3.2.1,()))) else (some ((y1.1.1,()),(y2.2.1,())))
def c (K:Nat):Ctr:=⟨37,ps,rs,false,f K⟩
end Q118
namespace Q119
abbrev ps:List PK:=[.rd (.list false 5 (.int .u8))]
abbrev rs:List RK:=[.v t26,.v (.int .i64)]
abbrev Res:=ak rs×aj ps
abbrev A_l0:=Int×Int×Bool×Bool×Bool×Int×Int×Int×Int×List (Ty.den t2)×List (Ty.den t3)×Int×Int×Int×Bool×List (Ty.den t6)×Int×Int×Int×Int×List (Ty.den t11)×List (Ty.den t12)×List (Ty.den (.int .u8))×Int
def l0.step (K:Nat)(x:ab ps)(rec_l0:A_l0->Option Res)(a:A_l0):Option Res:=bif decide (a.1<4) then ((Q42.f K (a.2.1,())).bind λy4=>bif (wr .i64 ((wr .i64 (y4.1.1*4))+a.1)) != a.2.1 then ((Q4.f K (a.2.2.2.2.2.2.2.2.2.2.2.2.2.2.2.2.2.2.2.2.2.2,4,())).bind λy5=>bif decide (y5.1.1>0) then ((Q115.f K (y5.2.1,())).bind λy6=>(Q4.f K (y6.2.1,9,())).bind λy7=>bif decide ((AA a.2.2.2.2.2.2.2.2.2.2.2.2.2.2.2.2.2.2.2.2.1+AA ([(wr .i64 ((wr .i64 (y4.1.1*4))+a.1),(y6.1.1,[wr .i64 (1+y7.1.1)]))]))*64<=ah) then (rec_l0 (wr .i64 (a.1+1),a.2.1,a.2.2.1,a.2.2.2.1,a.2.2.2.2.1,a.2.2.2.2.2.1,a.2.2.2.2.2.2.1,a.2.2.2.2.2.2.2.1,a.2.2.2.2.2.2.2.2.1,a.2.2.2.2.2.2.2.2.2.1,a.2.2.2.2.2.2.2.2.2.2.1,a.2.2.2.2.2.2.2.2.2.2.2.1,a.2.2.2.2.2.2.2.2.2.2.2.2.1,a.2.2.2.2.2.2.2.2.2.2.2.2.2.1,a.2.2.2.2.2.2.2.2.2.2.2.2.2.2.1,a.2.2.2.2.2.2.2.2.2.2.2.2.2.2.2.1,a.2.2.2.2.2.2.2.2.2.2.2.2.2.2.2.2.1,a.2.2.2.2.2.2.2.2.2.2.2.2.2.2.2.2.2.1,a.2.2.2.2.2.2.2.2.2.2.2.2.2.2.2.2.2.2.1,a.2.2.2.2.2.2.2.2.2.2.2.2.2.2.2.2.2.2.2.1,a.2.2.2.2.2.2.2.2.2.2.2.2.2.2.2.2.2.2.2.2.1++([(wr .i64 ((wr .i64 (y4.1.1*4))+a.1),(y6.1.1,[wr .i64 (1+y7.1.1)]))]),a.2.2.2.2.2.2.2.2.2.2.2.2.2.2.2.2.2.2.2.2.2.1,y7.2.1.1,y7.2.1.2)) else none) else (rec_l0 (wr .i64 (a.1+1),a.2.1,a.2.2.1,a.2.2.2.1,a.2.2.2.2.1,a.2.2.2.2.2.1,a.2.2.2.2.2.2.1,a.2.2.2.2.2.2.2.1,a.2.2.2.2.2.2.2.2.1,a.2.2.2.2.2.2.2.2.2.1,a.2.2.2.2.2.2.2.2.2.2.1,a.2.2.2.2.2.2.2.2.2.2.2.1,a.2.2.2.2.2.2.2.2.2.2.2.2.1,a.2.2.2.2.2.2.2.2.2.2.2.2.2.1,a.2.2.2.2.2.2.2.2.2.2.2.2.2.2.1,a.2.2.2.2.2.2.2.2.2.2.2.2.2.2.2.1,a.2.2.2.2.2.2.2.2.2.2.2.2.2.2.2.2.1,a.2.2.2.2.2.2.2.2.2.2.2.2.2.2.2.2.2.1,a.2.2.2.2.2.2.2.2.2.2.2.2.2.2.2.2.2.2.1,a.2.2.2.2.2.2.2.2.2.2.2.2.2.2.2.2.2.2.2.1,a.2.2.2.2.2.2.2.2.2.2.2.2.2.2.2.2.2.2.2.2.1,a.2.2.2.2.2.2.2.2.2.2.2.2.2.2.2.2.2.2.2.2.2.1,y5.2.1.1,y5.2.1.2))) else (rec_l0 (wr .i64 (a.1+1),a.2.1,a.2.2.1,a.2.2.2.1,a.2.2.2.2.1,a.2.2.2.2.2.1,a.2.2.2.2.2.2.1,a.2.2.2.2.2.2.2.1,a.2.2.2.2.2.2.2.2.1,a.2.2.2.2.2.2.2.2.2.1,a.2.2.2.2.2.2.2.2.2.2.1,a.2.2.2.2.2.2.2.2.2.2.2.1,a.2.2.2.2.2.2.2.2.2.2.2.2.1,a.2.2.2.2.2.2.2.2.2.2.2.2.2.1,a.2.2.2.2.2.2.2.2.2.2.2.2.2.2.1,a.2.2.2.2.2.2.2.2.2.2.2.2.2.2.2.1,a.2.2.2.2.2.2.2.2.2.2.2.2.2.2.2.2.1,a.2.2.2.2.2.2.2.2.2.2.2.2.2.2.2.2.2.1,a.2.2.2.2.2.2.2.2.2.2.2.2.2.2.2.2.2.2.1,a.2.2.2.2.2.2.2.2.2.2.2.2.2.2.2.2.2.2.2.1,a.2.2.2.2.2.2.2.2.2.2.2.2.2.2.2.2.2.2.2.2.1,a.2.2.2.2.2.2.2.2.2.2.2.2.2.2.2.2.2.2.2.2.2.1,a.2.2.2.2.2.2.2.2.2.2.2.2.2.2.2.2.2.2.2.2.2.2.1,a.2.2.2.2.2.2.2.2.2.2.2.2.2.2.2.2.2.2.2.2.2.2.2))) else ((Q4.f K (a.2.2.2.2.2.2.2.2.2.2.2.2.2.2.2.2.2.2.2.2.2.2,6,())).bind λy8=>some (((a.2.1,(a.2.2.1,(a.2.2.2.1,(a.2.2.2.2.1,(a.2.2.2.2.2.1,(a.2.2.2.2.2.2.1,(a.2.2.2.2.2.2.2.1,(a.2.2.2.2.2.2.2.2.1,(a.2.2.2.2.2.2.2.2.2.1,(a.2.2.2.2.2.2.2.2.2.2.1,((a.2.2.2.2.2.2.2.2.2.2.2.1,(a.2.2.2.2.2.2.2.2.2.2.2.2.1,(a.2.2.2.2.2.2.2.2.2.2.2.2.2.1,a.2.2.2.2.2.2.2.2.2.2.2.2.2.2.1))),(a.2.2.2.2.2.2.2.2.2.2.2.2.2.2.2.1,((a.2.2.2.2.2.2.2.2.2.2.2.2.2.2.2.2.1,(a.2.2.2.2.2.2.2.2.2.2.2.2.2.2.2.2.2.1,(a.2.2.2.2.2.2.2.2.2.2.2.2.2.2.2.2.2.2.1,a.2.2.2.2.2.2.2.2.2.2.2.2.2.2.2.2.2.2.2.1))),(a.2.2.2.2.2.2.2.2.2.2.2.2.2.2.2.2.2.2.2.2.1,a.2.2.2.2.2.2.2.2.2.2.2.2.2.2.2.2.2.2.2.2.2.1)))))))))))))),wr .i64 (y8.1.1-1),()),()))
def l0 (K:Nat)(x:ab ps):A_l0->Option Res:=ae (λrec_l0 a=>l0.step K x rec_l0 a) K
def pre (K:Nat)(N_l0:A_l0->Option Res)(x:ab ps):Option Res:=(Q3.f K (x.1,())).bind λy1=>(Q118.f K (y1.1.1,())).bind λy2=>bif y2.1.1.2.1 then ((Q4.f K (y2.2.1,2,())).bind λy3=>bif y3.1.1==0 then (N_l0 (0,y2.1.1.1,y2.1.1.2.1,y2.1.1.2.2.1,y2.1.1.2.2.2.1,y2.1.1.2.2.2.2.1,y2.1.1.2.2.2.2.2.1,y2.1.1.2.2.2.2.2.2.1,y2.1.1.2.2.2.2.2.2.2.1,y2.1.1.2.2.2.2.2.2.2.2.1,y2.1.1.2.2.2.2.2.2.2.2.2.1,y2.1.1.2.2.2.2.2.2.2.2.2.2.1.1,y2.1.1.2.2.2.2.2.2.2.2.2.2.1.2.1,y2.1.1.2.2.2.2.2.2.2.2.2.2.1.2.2.1,y2.1.1.2.2.2.2.2.2.2.2.2.2.1.2.2.2,y2.1.1.2.2.2.2.2.2.2.2.2.2.2.1,y2.1.1.2.2.2.2.2.2.2.2.2.2.2.2.1.1,y2.1.1.2.2.2.2.2.2.2.2.2.2.2.2.1.2.1,y2.1.1.2.2.2.2.2.2.2.2.2.2.2.2.1.2.2.1,y2.1.1.2.2.2.2.2.2.2.2.2.2.2.2.1.2.2.2,[],y2.1.1.2.2.2.2.2.2.2.2.2.2.2.2.2.2,y3.2.1.1,y3.2.1.2)) else ((Q4.f K (y3.2.1,6,())).bind λy9=>some ((y2.1.1,wr .i64 (y9.1.1-1),()),()))) else ((Q4.f K (y2.2.1,6,())).bind λy10=>some ((y2.1.1,wr .i64 (y10.1.1-1),()),()))
def f (K:Nat)(x:ab ps):Option Res:=pre K (l0 K x) x
def c (K:Nat):Ctr:=⟨8,ps,rs,false,f K⟩
end Q119
namespace Q120
abbrev ps:List PK:=[.rd (.int .i64),.rd (.int .i64),.rd (.int .i64)]
abbrev rs:List RK:=[.v .bool]
abbrev Res:=ak rs×aj ps
def f (K:Nat)(x:ab ps):Option Res:=bif decide (x.1>=x.2.1) then (some ((decide (x.1<=x.2.2.1),()),())) else (some ((false,()),()))
def c (K:Nat):Ctr:=⟨51,ps,rs,true,f K⟩
end Q120
namespace Q121
abbrev ps:List PK:=[.rd (.int .i64)]
abbrev rs:List RK:=[.v .bool]
abbrev Res:=ak rs×aj ps
def f (K:Nat)(x:ab ps):Option Res:=(Q120.f K (x.1,0,7,())).bind λy1=>some ((y1.1.1,()),())
def c (K:Nat):Ctr:=⟨50,ps,rs,true,f K⟩
end Q121
namespace Q122
abbrev ps:List PK:=[.rd t26]
abbrev rs:List RK:=[.v .bool]
abbrev Res:=ak rs×aj ps
def f (K:Nat)(x:ab ps):Option Res:=bif !x.1.2.2.1 then (bif x.1.2.2.2.2.1==0 then (bif x.1.2.2.2.2.2.1==0 then (bif x.1.2.2.2.2.2.2.1==0 then (bif x.1.2.2.2.2.2.2.2.1==0 then (bif (wr .i64 ((wr .i64 ((wr .i64 ((wr .i64 ((AA x.1.2.2.2.2.2.2.2.2.1:Int)+(AA x.1.2.2.2.2.2.2.2.2.2.1:Int)))+(AA x.1.2.2.2.2.2.2.2.2.2.2.2.1:Int)))+(AA x.1.2.2.2.2.2.2.2.2.2.2.2.2.2.1:Int)))+(AA x.1.2.2.2.2.2.2.2.2.2.2.2.2.2.2:Int)))==0 then (bif Ty.eqv t2 x.1.2.2.2.2.2.2.2.2.2.2.1 (0,(0,(0,false))) then (some ((Ty.eqv t9 x.1.2.2.2.2.2.2.2.2.2.2.2.2.1 (0,(0,(0,0))),()),())) else (some ((false,()),()))) else (some ((false,()),()))) else (some ((false,()),()))) else (some ((false,()),()))) else (some ((false,()),()))) else (some ((false,()),()))) else (some ((false,()),()))
def c (K:Nat):Ctr:=⟨52,ps,rs,true,f K⟩
end Q122
namespace Q123
abbrev ps:List PK:=[.rd t2]
abbrev rs:List RK:=[.v .bool]
abbrev Res:=ak rs×aj ps
def f (K:Nat)(x:ab ps):Option Res:=(Q121.f K (x.1.1,())).bind λy1=>bif y1.1.1 then ((Q120.f K (x.1.2.1,0,999,())).bind λy2=>bif y2.1.1 then ((Q120.f K (x.1.2.2.1,1,4,())).bind λy3=>some ((y3.1.1,()),())) else (some ((false,()),()))) else (some ((false,()),()))
def c (K:Nat):Ctr:=⟨80,ps,rs,true,f K⟩
end Q123
namespace Q124
abbrev ps:List PK:=[.rd (.list false 41 t2)]
abbrev rs:List RK:=[.v .bool]
abbrev Res:=ak rs×aj ps
abbrev A_l0:=Int
def l0.step (K:Nat)(x:ab ps)(rec_l0:A_l0->Option Res)(a:A_l0):Option Res:=bif decide (a<(AA x.1:Int)) then ((idx x.1 a).bind λy1=>(Q123.f K (y1,())).bind λy2=>bif !y2.1.1 then (some ((false,()),())) else (bif decide (a>0) then ((idx x.1 (wr .i64 (a-1))).bind λy3=>bif decide (y1.1<=y3.1) then (some ((false,()),())) else (rec_l0 (wr .i64 (a+1)))) else (rec_l0 (wr .i64 (a+1))))) else (some ((true,()),()))
def l0 (K:Nat)(x:ab ps):A_l0->Option Res:=ae (λrec_l0 a=>l0.step K x rec_l0 a) K
def pre (K:Nat)(N_l0:A_l0->Option Res)(x:ab ps):Option Res:=N_l0 0
def f (K:Nat)(x:ab ps):Option Res:=pre K (l0 K x) x
def c (K:Nat):Ctr:=⟨27,ps,rs,true,f K⟩
end Q124
namespace Q125
abbrev ps:List PK:=[.rd (.list false 41 t2),.rd (.int .i64),.fn [t2,(.int .i64)] (.int .i64)]
abbrev rs:List RK:=[.v (.int .i64),.v .bool]
abbrev Res:=ak rs×aj ps
abbrev A_l0:=Int×Int
def l0.step (K:Nat)(x:ab ps)(rec_l0:A_l0->Option Res)(a:A_l0):Option Res:=bif decide (a.1<a.2) then ((idx x.1 (wr .i64 (AC (wr .u64 (wr .i64 (a.1+a.2))) (2 ^ 1)))).bind λy1=>(x.2.2.1 (y1,x.2.1,())).bind λy2=>bif decide (y2<0) then (rec_l0 (wr .i64 ((wr .i64 (AC (wr .u64 (wr .i64 (a.1+a.2))) (2 ^ 1)))+1),a.2)) else (rec_l0 (a.1,wr .i64 (AC (wr .u64 (wr .i64 (a.1+a.2))) (2 ^ 1))))) else (bif decide (a.1<(AA x.1:Int)) then ((idx x.1 a.1).bind λy3=>(x.2.2.1 (y3,x.2.1,())).bind λy4=>some ((a.1,y4==0,()),())) else (some ((a.1,false,()),())))
def l0 (K:Nat)(x:ab ps):A_l0->Option Res:=ae (λrec_l0 a=>l0.step K x rec_l0 a) K
def pre (K:Nat)(N_l0:A_l0->Option Res)(x:ab ps):Option Res:=N_l0 (0,(AA x.1:Int))
def f (K:Nat)(x:ab ps):Option Res:=pre K (l0 K x) x
def c (K:Nat):Ctr:=⟨118,ps,rs,true,f K⟩
end Q125
namespace Q126
abbrev ps:List PK:=[.rd (.int .i64)]
abbrev rs:List RK:=[.v .bool]
abbrev Res:=ak rs×aj ps
def f (K:Nat)(x:ab ps):Option Res:=some ((x.1 != x.1,()),())
def c (K:Nat):Ctr:=⟨101,ps,rs,true,f K⟩
end Q126
namespace Q127
abbrev ps:List PK:=[.rd (.int .i64),.rd (.int .i64)]
abbrev rs:List RK:=[.v (.int .i64)]
abbrev Res:=ak rs×aj ps
def f (K:Nat)(x:ab ps):Option Res:=(Q126.f K (x.1,())).bind λy1=>(Q126.f K (x.2.1,())).bind λy2=>bif y1.1.1 then (bif y2.1.1 then (some ((0,()),())) else (some (((-1),()),()))) else (bif y2.1.1 then (some ((1,()),())) else (bif decide (x.1<x.2.1) then (some (((-1),()),())) else (bif decide (x.1>x.2.1) then (some ((1,()),())) else (some ((0,()),())))))
def c (K:Nat):Ctr:=⟨44,ps,rs,true,f K⟩
end Q127
namespace Q128
abbrev ps:List PK:=[.rd t2,.rd (.int .i64)]
abbrev rs:List RK:=[.v (.int .i64)]
abbrev Res:=ak rs×aj ps
def f (K:Nat)(x:ab ps):Option Res:=(Q127.f K (x.1.1,x.2.1,())).bind λy1=>some ((y1.1.1,()),())
def c (K:Nat):Ctr:=⟨119,ps,rs,true,f K⟩
end Q128
namespace Q129
abbrev ps:List PK:=[.rd (.list false 41 t2),.rd (.int .i64)]
abbrev rs:List RK:=[.v (.int .i64),.v .bool]
abbrev Res:=ak rs×aj ps
def f (K:Nat)(x:ab ps):Option Res:=(Q125.f K (x.1,x.2.1,λy1=>(Q128.f K (y1.1,y1.2.1,())).map λy=>y.1.1,())).bind λy2=>some ((y2.1.1,y2.1.2.1,()),())
def c (K:Nat):Ctr:=⟨69,ps,rs,true,f K⟩
end Q129
namespace Q130
abbrev ps:List PK:=[.rd (.list false 41 t2),.rd (.int .i64)]
abbrev rs:List RK:=[.v t2,.v .bool]
abbrev Res:=ak rs×aj ps
def f (K:Nat)(x:ab ps):Option Res:=(Q124.f K (x.1,())).bind λy1=>bif !y1.1.1 then (some (((0,(0,(0,false))),false,()),())) else ((Q129.f K (x.1,x.2.1,())).bind λy2=>bif !y2.1.2.1 then (some (((0,(0,(0,false))),false,()),())) else ((idx x.1 y2.1.1).bind λy3=>some ((y3,true,()),())))
def c (K:Nat):Ctr:=⟨14,ps,rs,true,f K⟩
end Q130
namespace Q131
abbrev ps:List PK:=[.rd (.int .i64)]
abbrev rs:List RK:=[.v (.int .i64)]
abbrev Res:=ak rs×aj ps
def f (K:Nat)(x:ab ps):Option Res:=some ((wr .i64 (AD x.1 4),()),())
def c (K:Nat):Ctr:=⟨115,ps,rs,true,f K⟩
end Q131
namespace Q132
abbrev ps:List PK:=[.rd t26]
abbrev rs:List RK:=[.v (.int .i64)]
abbrev Res:=ak rs×aj ps
def f (K:Nat)(x:ab ps):Option Res:=(Q131.f K (x.1.1,())).bind λy1=>some ((y1.1.1,()),())
def c (K:Nat):Ctr:=⟨72,ps,rs,true,f K⟩
end Q132
namespace Q133
abbrev ps:List PK:=[.rd (.list false 41 t2),.fn [t2] .bool]
abbrev rs:List RK:=[.v (.int .i64)]
abbrev Res:=ak rs×aj ps
abbrev A_l0:=Int
def l0.step (K:Nat)(x:ab ps)(rec_l0:A_l0->Option Res)(a:A_l0):Option Res:=bif decide (a<(AA x.1:Int)) then ((idx x.1 a).bind λy1=>(x.2.1 (y1,())).bind λy2=>bif y2 then (some ((a,()),())) else (rec_l0 (wr .i64 (a+1)))) else (some (((-1),()),()))
def l0 (K:Nat)(x:ab ps):A_l0->Option Res:=ae (λrec_l0 a=>l0.step K x rec_l0 a) K
def pre (K:Nat)(N_l0:A_l0->Option Res)(x:ab ps):Option Res:=N_l0 0
def f (K:Nat)(x:ab ps):Option Res:=pre K (l0 K x) x
def c (K:Nat):Ctr:=⟨128,ps,rs,true,f K⟩
end Q133
namespace Q134
abbrev ps:List PK:=[.rd (.list false 41 t2),.fn [t2] .bool]
abbrev rs:List RK:=[.v .bool]
abbrev Res:=ak rs×aj ps
def f (K:Nat)(x:ab ps):Option Res:=(Q133.f K (x.1,x.2.1,())).bind λy1=>some ((decide (y1.1.1>=0),()),())
def c (K:Nat):Ctr:=⟨84,ps,rs,true,f K⟩
end Q134
namespace Q135
abbrev ps:List PK:=[.rd t2,.rref (.int .i64)]
abbrev rs:List RK:=[.v .bool]
abbrev Res:=ak rs×aj ps
def f (K:Nat)(x:ab ps):Option Res:=(Q131.f K (x.1.1,())).bind λy1=>some ((y1.1.1 != x.2.1,()),())
def c (K:Nat):Ctr:=⟨150,ps,rs,true,f K⟩
end Q135
namespace Q136
abbrev ps:List PK:=[.rd (.list false 41 t2),.rd (.int .i64)]
abbrev rs:List RK:=[.v .bool]
abbrev Res:=ak rs×aj ps
def f (K:Nat)(x:ab ps):Option Res:=(Q134.f K (x.1,λy1=>(Q135.f K (y1.1,x.2.1,())).map λy=>y.1.1,())).bind λy2=>some ((!y2.1.1,()),())
def c (K:Nat):Ctr:=⟨106,ps,rs,true,f K⟩
end Q136
namespace Q137
abbrev ps:List PK:=[.rd (.list false 116 t3),.fn [t3] .bool]
abbrev rs:List RK:=[.v (.int .i64)]
abbrev Res:=ak rs×aj ps
abbrev A_l0:=Int
def l0.step (K:Nat)(x:ab ps)(rec_l0:A_l0->Option Res)(a:A_l0):Option Res:=bif decide (a<(AA x.1:Int)) then ((idx x.1 a).bind λy1=>(x.2.1 (y1,())).bind λy2=>bif y2 then (some ((a,()),())) else (rec_l0 (wr .i64 (a+1)))) else (some (((-1),()),()))
def l0 (K:Nat)(x:ab ps):A_l0->Option Res:=ae (λrec_l0 a=>l0.step K x rec_l0 a) K
def pre (K:Nat)(N_l0:A_l0->Option Res)(x:ab ps):Option Res:=N_l0 0
def f (K:Nat)(x:ab ps):Option Res:=pre K (l0 K x) x
def c (K:Nat):Ctr:=⟨153,ps,rs,true,f K⟩
end Q137
namespace Q138
abbrev ps:List PK:=[.rd (.list false 116 t3),.fn [t3] .bool]
abbrev rs:List RK:=[.v .bool]
abbrev Res:=ak rs×aj ps
def f (K:Nat)(x:ab ps):Option Res:=(Q137.f K (x.1,x.2.1,())).bind λy1=>some ((decide (y1.1.1>=0),()),())
def c (K:Nat):Ctr:=⟨108,ps,rs,true,f K⟩
end Q138
namespace Q139
abbrev ps:List PK:=[.rd t3]
abbrev rs:List RK:=[.v .bool]
abbrev Res:=ak rs×aj ps
def f (K:Nat)(x:ab ps):Option Res:=(Q120.f K (x.1.2,1,4,())).bind λy1=>some ((!y1.1.1,()),())
def c (K:Nat):Ctr:=⟨151,ps,rs,true,f K⟩
end Q139
namespace Q140
abbrev ps:List PK:=[.rd (.list false 116 t3)]
abbrev rs:List RK:=[.v (.list true 41 t2)]
abbrev Res:=ak rs×aj ps
abbrev A_l0:=List (Ty.den t2)×Int
def l0.step (K:Nat)(x:ab ps)(rec_l0:A_l0->Option Res)(a:A_l0):Option Res:=bif decide (a.2<(AA x.1:Int)) then ((idx x.1 a.2).bind λy1=>bif decide ((AA a.1+AA ([y1.1]))*32<=ah) then (rec_l0 (a.1++([y1.1]),wr .i64 (a.2+1))) else none) else (some ((a.1,()),()))
def l0 (K:Nat)(x:ab ps):A_l0->Option Res:=ae (λrec_l0 a=>l0.step K x rec_l0 a) K
def pre (K:Nat)(N_l0:A_l0->Option Res)(x:ab ps):Option Res:=N_l0 ([],0)
def f (K:Nat)(x:ab ps):Option Res:=pre K (l0 K x) x
def c (K:Nat):Ctr:=⟨152,ps,rs,true,f K⟩
end Q140
namespace Q141
abbrev ps:List PK:=[.rd (.list false 116 t3)]
abbrev rs:List RK:=[.v .bool]
abbrev Res:=ak rs×aj ps
def f (K:Nat)(x:ab ps):Option Res:=(Q140.f K (x.1,())).bind λy1=>(Q124.f K (y1.1.1,())).bind λy2=>bif y2.1.1 then ((Q138.f K (x.1,λy3=>(Q139.f K (y3.1,())).map λy=>y.1.1,())).bind λy4=>some ((!y4.1.1,()),())) else (some ((false,()),()))
def c (K:Nat):Ctr:=⟨107,ps,rs,true,f K⟩
end Q141
namespace Q142
abbrev ps:List PK:=[.rd (.list false 3 (.int .i64))]
abbrev rs:List RK:=[.v (.int .i64)]
abbrev Res:=ak rs×aj ps
abbrev A_l0:=Int
def l0.step (K:Nat)(x:ab ps)(rec_l0:A_l0->Option Res)(a:A_l0):Option Res:=bif decide (a<(AA x.1:Int)) then ((idx x.1 a).bind λy1=>bif y1 != 0 then (some ((y1,()),())) else (rec_l0 (wr .i64 (a+1)))) else (some ((0,()),()))
def l0 (K:Nat)(x:ab ps):A_l0->Option Res:=ae (λrec_l0 a=>l0.step K x rec_l0 a) K
def pre (K:Nat)(N_l0:A_l0->Option Res)(x:ab ps):Option Res:=N_l0 0
def f (K:Nat)(x:ab ps):Option Res:=pre K (l0 K x) x
def c (K:Nat):Ctr:=⟨130,ps,rs,true,f K⟩
end Q142
namespace Q143
abbrev ps:List PK:=[.rd t2,.rd t2]
abbrev rs:List RK:=[.v (.int .i64)]
abbrev Res:=ak rs×aj ps
def f (K:Nat)(x:ab ps):Option Res:=bif x.1.2.2.2 then (bif !x.2.1.2.2.2 then ((Q127.f K (x.1.1,x.2.1.1,())).bind λy1=>(Q127.f K (x.1.2.1,x.2.1.2.1,())).bind λy2=>(Q127.f K (x.1.2.2.1,x.2.1.2.2.1,())).bind λy3=>(Q142.f K ([y1.1.1,y2.1.1,y3.1.1,1],())).bind λy4=>some ((y4.1.1,()),())) else (bif x.2.1.2.2.2 then (bif !x.1.2.2.2 then ((Q127.f K (x.1.1,x.2.1.1,())).bind λy5=>(Q127.f K (x.1.2.1,x.2.1.2.1,())).bind λy6=>(Q127.f K (x.1.2.2.1,x.2.1.2.2.1,())).bind λy7=>(Q142.f K ([y5.1.1,y6.1.1,y7.1.1,(-1)],())).bind λy8=>some ((y8.1.1,()),())) else ((Q127.f K (x.1.1,x.2.1.1,())).bind λy9=>(Q127.f K (x.1.2.1,x.2.1.2.1,())).bind λy10=>(Q127.f K (x.1.2.2.1,x.2.1.2.2.1,())).bind λy11=>(Q142.f K ([y9.1.1,y10.1.1,y11.1.1,0],())).bind λy12=>some ((y12.1.1,()),()))) else ((Q127.f K (x.1.1,x.2.1.1,())).bind λy13=>(Q127.f K (x.1.2.1,x.2.1.2.1,())).bind λy14=>(Q127.f K (x.1.2.2.1,x.2.1.2.2.1,())).bind λy15=>(Q142.f K ([y13.1.1,y14.1.1,y15.1.1,0],())).bind λy16=>some ((y16.1.1,()),())))) else (bif x.2.1.2.2.2 then (bif !x.1.2.2.2 then ((Q127.f K (x.1.1,x.2.1.1,())).bind λy17=>(Q127.f K (x.1.2.1,x.2.1.2.1,())).bind λy18=>(Q127.f K (x.1.2.2.1,x.2.1.2.2.1,())).bind λy19=>(Q142.f K ([y17.1.1,y18.1.1,y19.1.1,(-1)],())).bind λy20=>some ((y20.1.1,()),())) else ((Q127.f K (x.1.1,x.2.1.1,())).bind λy21=>(Q127.f K (x.1.2.1,x.2.1.2.1,())).bind λy22=>(Q127.f K (x.1.2.2.1,x.2.1.2.2.1,())).bind λy23=>(Q142.f K ([y21.1.1,y22.1.1,y23.1.1,0],())).bind λy24=>some ((y24.1.1,()),()))) else ((Q127.f K (x.1.1,x.2.1.1,())).bind λy25=>(Q127.f K (x.1.2.1,x.2.1.2.1,())).bind λy26=>(Q127.f K (x.1.2.2.1,x.2.1.2.2.1,())).bind λy27=>(Q142.f K ([y25.1.1,y26.1.1,y27.1.1,0],())).bind λy28=>some ((y28.1.1,()),())))
def c (K:Nat):Ctr:=⟨88,ps,rs,true,f K⟩
end Q143
namespace Q144
abbrev ps:List PK:=[.rd t2,.rd t2]
abbrev rs:List RK:=[.v .bool]
abbrev Res:=ak rs×aj ps
def f (K:Nat)(x:ab ps):Option Res:=(Q123.f K (x.1,())).bind λy1=>bif y1.1.1 then ((Q123.f K (x.2.1,())).bind λy2=>bif y2.1.1 then (bif x.1.1==x.2.1.1 then ((Q143.f K (x.1,x.2.1,())).bind λy3=>some ((decide (y3.1.1>0),()),())) else (some ((false,()),()))) else (some ((false,()),()))) else (some ((false,()),()))
def c (K:Nat):Ctr:=⟨110,ps,rs,true,f K⟩
end Q144
namespace Q145
abbrev ps:List PK:=[.rd t3,.rref t26]
abbrev rs:List RK:=[.v .bool]
abbrev Res:=ak rs×aj ps
def f (K:Nat)(x:ab ps):Option Res:=(Q130.f K (x.2.1.2.2.2.2.2.2.2.2.1,x.1.1.1,())).bind λy1=>bif !y1.1.2.1 then (some ((true,()),())) else ((Q144.f K (x.1.1,y1.1.1,())).bind λy2=>some ((y2.1.1,()),()))
def c (K:Nat):Ctr:=⟨109,ps,rs,true,f K⟩
end Q145
namespace Q146
abbrev ps:List PK:=[.rd t26]
abbrev rs:List RK:=[.v .bool]
abbrev Res:=ak rs×aj ps
def f (K:Nat)(x:ab ps):Option Res:=bif x.1.2.2.1 then ((Q130.f K (x.1.2.2.2.2.2.2.2.2.1,x.1.1,())).bind λy1=>bif !y1.1.2.1 then (some ((false,()),())) else (bif !Ty.eqv t2 y1.1.1 (x.1.1,(x.1.2.2.2.2.1,(4,x.1.2.2.2.1))) then (some ((false,()),())) else ((Q132.f K (x.1,())).bind λy2=>(Q136.f K (x.1.2.2.2.2.2.2.2.2.1,y2.1.1,())).bind λy3=>bif !y3.1.1 then (some ((false,()),())) else ((Q141.f K (x.1.2.2.2.2.2.2.2.2.2.1,())).bind λy4=>bif !y4.1.1 then (some ((false,()),())) else ((Q138.f K (x.1.2.2.2.2.2.2.2.2.2.1,λy5=>(Q145.f K (y5.1,x.1,())).map λy=>y.1.1,())).bind λy6=>some ((!y6.1.1,()),())))))) else ((Q130.f K (x.1.2.2.2.2.2.2.2.2.1,x.1.1,())).bind λy7=>bif !y7.1.2.1 then (some ((false,()),())) else (bif !Ty.eqv t2 y7.1.1 (x.1.1,(x.1.2.2.2.2.1,(1,x.1.2.2.2.1))) then (some ((false,()),())) else ((Q132.f K (x.1,())).bind λy8=>(Q136.f K (x.1.2.2.2.2.2.2.2.2.1,y8.1.1,())).bind λy9=>bif !y9.1.1 then (some ((false,()),())) else ((Q141.f K (x.1.2.2.2.2.2.2.2.2.2.1,())).bind λy10=>bif !y10.1.1 then (some ((false,()),())) else ((Q138.f K (x.1.2.2.2.2.2.2.2.2.2.1,λy11=>(Q145.f K (y11.1,x.1,())).map λy=>y.1.1,())).bind λy12=>some ((!y12.1.1,()),()))))))
def c (K:Nat):Ctr:=⟨53,ps,rs,true,f K⟩
end Q146
namespace Q147
abbrev ps:List PK:=[.rd t26]
abbrev rs:List RK:=[.v .bool]
abbrev Res:=ak rs×aj ps
def f (K:Nat)(x:ab ps):Option Res:=bif x.1.2.2.2.2.2.2.2.2.2.2.1.1==(-1) then (some ((Ty.eqv t2 x.1.2.2.2.2.2.2.2.2.2.2.1 ((-1),(0,(0,false))),()),())) else ((Q130.f K (x.1.2.2.2.2.2.2.2.2.1,x.1.2.2.2.2.2.2.2.2.2.2.1.1,())).bind λy1=>bif y1.1.2.1 then (bif x.1.2.2.2.2.2.2.2.2.2.2.1.1 != x.1.1 then ((Q120.f K (x.1.2.2.2.2.2.2.2.2.2.2.1.2.1,0,x.1.2.2.2.2.2.1,())).bind λy2=>bif y2.1.1 then ((Q120.f K (x.1.2.2.2.2.2.2.2.2.2.2.1.2.2.1,1,x.1.2.2.2.2.2.2.1,())).bind λy3=>some ((y3.1.1,()),())) else (some ((false,()),()))) else (some ((false,()),()))) else (some ((false,()),())))
def c (K:Nat):Ctr:=⟨54,ps,rs,true,f K⟩
end Q147
namespace Q148
abbrev ps:List PK:=[.rd t26,.rd (.int .i64)]
abbrev rs:List RK:=[.v .bool]
abbrev Res:=ak rs×aj ps
def f (K:Nat)(x:ab ps):Option Res:=(Q121.f K (x.2.1,())).bind λy1=>bif y1.1.1 then ((Q131.f K (x.2.1,())).bind λy2=>(Q132.f K (x.1,())).bind λy3=>some ((y2.1.1==y3.1.1,()),())) else (some ((false,()),()))
def c (K:Nat):Ctr:=⟨111,ps,rs,true,f K⟩
end Q148
namespace Q149
abbrev ps:List PK:=[.rd t26]
abbrev rs:List RK:=[.v .bool]
abbrev Res:=ak rs×aj ps
abbrev A_l2:=List (Ty.den t2)×Int×List (Ty.den (.int .i64))×Int×Int×Int×Int×Int×List (Ty.den (.int .i64))
abbrev A_l1:=List (Ty.den t2)×Int
abbrev A_l0:=List (Ty.den t2)×Int
def l2.step (K:Nat)(x:ab ps)(rec_l1:A_l1->Option Res)(rec_l2:A_l2->Option Res)(a:A_l2):Option Res:=bif decide (a.2.2.2.2.1<a.2.2.2.1) then ((idx a.2.2.1 a.2.2.2.2.1).bind λy8=>(Q148.f K (x.1,y8,())).bind λy9=>bif !y9.1.1 then (some ((false,()),())) else (bif decide (a.2.2.2.2.1>0) then ((idx a.2.2.2.2.2.2.2.2 (wr .i64 (a.2.2.2.2.1-1))).bind λy10=>bif decide (y8<=y10) then (some ((false,()),())) else (rec_l2 (a.1,a.2.1,a.2.2.1,a.2.2.2.1,wr .i64 (a.2.2.2.2.1+1),a.2.2.2.2.2.1,a.2.2.2.2.2.2.1,a.2.2.2.2.2.2.2.1,a.2.2.2.2.2.2.2.2))) else (rec_l2 (a.1,a.2.1,a.2.2.1,a.2.2.2.1,wr .i64 (a.2.2.2.2.1+1),a.2.2.2.2.2.1,a.2.2.2.2.2.2.1,a.2.2.2.2.2.2.2.1,a.2.2.2.2.2.2.2.2)))) else (rec_l1 (a.1,wr .i64 (a.2.1+1)))
def l2 (K:Nat)(x:ab ps)(rec_l1:A_l1->Option Res):A_l2->Option Res:=ae (λrec_l2 a=>l2.step K x rec_l1 rec_l2 a) K
def l1.step (K:Nat)(x:ab ps)(N_l2:A_l2->Option Res)(rec_l1:A_l1->Option Res)(a:A_l1):Option Res:=bif decide (a.2<(AA x.1.2.2.2.2.2.2.2.2.2.2.2.1:Int)) then ((idx x.1.2.2.2.2.2.2.2.2.2.2.2.1 a.2).bind λy2=>(idx a.1 a.2).bind λ_=>(idx a.1 (AB a.2:Nat)).bind λy4=>bif y2.1 != y4.1 then (some ((false,()),())) else ((idx a.1 a.2).bind λ_=>(idx a.1 (AB a.2:Nat)).bind λy6=>bif y2.2.1 != y6.2.1 then (some ((false,()),())) else ((Q120.f K (y2.2.2.1,0,x.1.2.2.2.2.2.1,())).bind λy7=>bif !y7.1.1 then (some ((false,()),())) else (bif (AA y2.2.2.2:Int)==0 then (some ((false,()),())) else (N_l2 (a.1,a.2,y2.2.2.2,(AA y2.2.2.2:Int),0,y2.1,y2.2.1,y2.2.2.1,y2.2.2.2)))))) else (some ((true,()),()))
def l1 (K:Nat)(x:ab ps):A_l1->Option Res:=ae (λrec_l1 a=>l1.step K x (l2 K x rec_l1) rec_l1 a) K
def l0.step (K:Nat)(x:ab ps)(N_l1:A_l1->Option Res)(rec_l0:A_l0->Option Res)(a:A_l0):Option Res:=bif decide (a.2<(AA x.1.2.2.2.2.2.2.2.2.1:Int)) then ((idx x.1.2.2.2.2.2.2.2.2.1 a.2).bind λy1=>bif y1.2.2.1==2 then (bif decide ((AA a.1+AA ([y1]))*32<=ah) then (rec_l0 (a.1++([y1]),wr .i64 (a.2+1))) else none) else (rec_l0 (a.1,wr .i64 (a.2+1)))) else (bif (AA x.1.2.2.2.2.2.2.2.2.2.2.2.1:Int) != (AA a.1:Int) then (some ((false,()),())) else (N_l1 (a.1,0)))
def l0 (K:Nat)(x:ab ps):A_l0->Option Res:=ae (λrec_l0 a=>l0.step K x (l1 K x) rec_l0 a) K
def pre (K:Nat)(N_l0:A_l0->Option Res)(x:ab ps):Option Res:=N_l0 ([],0)
def f (K:Nat)(x:ab ps):Option Res:=pre K (l0 K x) x
def c (K:Nat):Ctr:=⟨55,ps,rs,true,f K⟩
def G (K:Nat):List Ctr:=[Q120.c K,Q148.c K]
def live_l2:List (Nat×List Coe):=[(1,[.keep]),(3,[.own false 41 t2]),(7,[.keep]),(32,[.ro true 92 t6]),(33,[.keep]),(34,[.keep]),(72,[.ro true 3 (.int .i64)]),(73,[.keep]),(74,[.keep]),(100001,[.keep,.keep,.keep,.keep,.keep,.keep,.keep,.keep,.ro true 41 t2,.ro true 116 t3,.keep,.keep,.keep,.keep,.ro true 92 t6,.keep,.keep,.keep,.keep,.ro true 45 t11,.ro true 56 t12]),(100007,[.keep,.keep,.keep,.ro true 3 (.int .i64)])]
def live_l1:List (Nat×List Coe):=[(1,[.keep]),(3,[.own false 41 t2]),(32,[.ro true 92 t6]),(33,[.keep]),(34,[.keep]),(100001,[.keep,.keep,.keep,.keep,.keep,.keep,.keep,.keep,.ro true 41 t2,.ro true 116 t3,.keep,.keep,.keep,.keep,.ro true 92 t6,.keep,.keep,.keep,.keep,.ro true 45 t11,.ro true 56 t12])]
def live_l0:List (Nat×List Coe):=[(1,[.keep]),(3,[.own false 41 t2]),(11,[.ro true 41 t2]),(12,[.keep]),(13,[.keep]),(100001,[.keep,.keep,.keep,.keep,.keep,.keep,.keep,.keep,.ro true 41 t2,.ro true 116 t3,.keep,.keep,.keep,.keep,.ro true 92 t6,.keep,.keep,.keep,.keep,.ro true 45 t11,.ro true 56 t12])]
def L:List (Nat×List (Nat×List Coe)):=[(17,live_l2),(12,live_l1),(4,live_l0)]
def body:Code:=dh Tryz.f55
abbrev ev (K:Nat):Code->St->(Ex->St->Option Res)->Option Res:=evK (G K) T_D L K
abbrev fin:Ex->St->Option Res:=dy T_D ps rs true Tryz.f55.results.toList
def S_l0 (x:ab ps)(a:A_l0):St:=az [(1,⟨0,.one,[.bp 100001 0]⟩),(3,⟨0,.one,[.own false none 41 t2 a.1]⟩),(11,⟨0,.one,[.ro true 41 t2 x.1.2.2.2.2.2.2.2.2.1]⟩),(12,⟨0,.one,[.int .i64 (AA x.1.2.2.2.2.2.2.2.2.1:Int)]⟩),(13,⟨0,.one,[.int .i64 a.2]⟩),(100001,⟨0,.agg,[.int .i64 x.1.1,.bool x.1.2.1,.bool x.1.2.2.1,.bool x.1.2.2.2.1,.int .i64 x.1.2.2.2.2.1,.int .i64 x.1.2.2.2.2.2.1,.int .i64 x.1.2.2.2.2.2.2.1,.int .i64 x.1.2.2.2.2.2.2.2.1,.ro true 41 t2 x.1.2.2.2.2.2.2.2.2.1,.ro true 116 t3 x.1.2.2.2.2.2.2.2.2.2.1,.int .i64 x.1.2.2.2.2.2.2.2.2.2.2.1.1,.int .i64 x.1.2.2.2.2.2.2.2.2.2.2.1.2.1,.int .i64 x.1.2.2.2.2.2.2.2.2.2.2.1.2.2.1,.bool x.1.2.2.2.2.2.2.2.2.2.2.1.2.2.2,.ro true 92 t6 x.1.2.2.2.2.2.2.2.2.2.2.2.1,.int .i64 x.1.2.2.2.2.2.2.2.2.2.2.2.2.1.1,.int .i64 x.1.2.2.2.2.2.2.2.2.2.2.2.2.1.2.1,.int .i64 x.1.2.2.2.2.2.2.2.2.2.2.2.2.1.2.2.1,.int .i64 x.1.2.2.2.2.2.2.2.2.2.2.2.2.1.2.2.2,.ro true 45 t11 x.1.2.2.2.2.2.2.2.2.2.2.2.2.2.1,.ro true 56 t12 x.1.2.2.2.2.2.2.2.2.2.2.2.2.2.2]⟩)]
def S_l1 (x:ab ps)(a:A_l1):St:=az [(1,⟨0,.one,[.bp 100001 0]⟩),(3,⟨0,.one,[.own false none 41 t2 a.1]⟩),(32,⟨0,.one,[.ro true 92 t6 x.1.2.2.2.2.2.2.2.2.2.2.2.1]⟩),(33,⟨0,.one,[.int .i64 (AA x.1.2.2.2.2.2.2.2.2.2.2.2.1:Int)]⟩),(34,⟨0,.one,[.int .i64 a.2]⟩),(100001,⟨0,.agg,[.int .i64 x.1.1,.bool x.1.2.1,.bool x.1.2.2.1,.bool x.1.2.2.2.1,.int .i64 x.1.2.2.2.2.1,.int .i64 x.1.2.2.2.2.2.1,.int .i64 x.1.2.2.2.2.2.2.1,.int .i64 x.1.2.2.2.2.2.2.2.1,.ro true 41 t2 x.1.2.2.2.2.2.2.2.2.1,.ro true 116 t3 x.1.2.2.2.2.2.2.2.2.2.1,.int .i64 x.1.2.2.2.2.2.2.2.2.2.2.1.1,.int .i64 x.1.2.2.2.2.2.2.2.2.2.2.1.2.1,.int .i64 x.1.2.2.2.2.2.2.2.2.2.2.1.2.2.1,.bool x.1.2.2.2.2.2.2.2.2.2.2.1.2.2.2,.ro true 92 t6 x.1.2.2.2.2.2.2.2.2.2.2.2.1,.int .i64 x.1.2.2.2.2.2.2.2.2.2.2.2.2.1.1,.int .i64 x.1.2.2.2.2.2.2.2.2.2.2.2.2.1.2.1,.int .i64 x.1.2.2.2.2.2.2.2.2.2.2.2.2.1.2.2.1,.int .i64 x.1.2.2.2.2.2.2.2.2.2.2.2.2.1.2.2.2,.ro true 45 t11 x.1.2.2.2.2.2.2.2.2.2.2.2.2.2.1,.ro true 56 t12 x.1.2.2.2.2.2.2.2.2.2.2.2.2.2.2]⟩)]
def S_l2 (x:ab ps)(a:A_l2):St:=az [(1,⟨0,.one,[.bp 100001 0]⟩),(3,⟨0,.one,[.own false none 41 t2 a.1]⟩),(7,⟨0,.one,[.bp 100007 0]⟩),(32,⟨0,.one,[.ro true 92 t6 x.1.2.2.2.2.2.2.2.2.2.2.2.1]⟩),(33,⟨0,.one,[.int .i64 (AA x.1.2.2.2.2.2.2.2.2.2.2.2.1:Int)]⟩),(34,⟨0,.one,[.int .i64 a.2.1]⟩),(72,⟨0,.one,[.ro true 3 (.int .i64) a.2.2.1]⟩),(73,⟨0,.one,[.int .i64 a.2.2.2.1]⟩),(74,⟨0,.one,[.int .i64 a.2.2.2.2.1]⟩),(100001,⟨0,.agg,[.int .i64 x.1.1,.bool x.1.2.1,.bool x.1.2.2.1,.bool x.1.2.2.2.1,.int .i64 x.1.2.2.2.2.1,.int .i64 x.1.2.2.2.2.2.1,.int .i64 x.1.2.2.2.2.2.2.1,.int .i64 x.1.2.2.2.2.2.2.2.1,.ro true 41 t2 x.1.2.2.2.2.2.2.2.2.1,.ro true 116 t3 x.1.2.2.2.2.2.2.2.2.2.1,.int .i64 x.1.2.2.2.2.2.2.2.2.2.2.1.1,.int .i64 x.1.2.2.2.2.2.2.2.2.2.2.1.2.1,.int .i64 x.1.2.2.2.2.2.2.2.2.2.2.1.2.2.1,.bool x.1.2.2.2.2.2.2.2.2.2.2.1.2.2.2,.ro true 92 t6 x.1.2.2.2.2.2.2.2.2.2.2.2.1,.int .i64 x.1.2.2.2.2.2.2.2.2.2.2.2.2.1.1,.int .i64 x.1.2.2.2.2.2.2.2.2.2.2.2.2.1.2.1,.int .i64 x.1.2.2.2.2.2.2.2.2.2.2.2.2.1.2.2.1,.int .i64 x.1.2.2.2.2.2.2.2.2.2.2.2.2.1.2.2.2,.ro true 45 t11 x.1.2.2.2.2.2.2.2.2.2.2.2.2.2.1,.ro true 56 t12 x.1.2.2.2.2.2.2.2.2.2.2.2.2.2.2]⟩),(100007,⟨0,.agg,[.int .i64 a.2.2.2.2.2.1,.int .i64 a.2.2.2.2.2.2.1,.int .i64 a.2.2.2.2.2.2.2.1,.ro true 3 (.int .i64) a.2.2.2.2.2.2.2.2]⟩)]
def k_l0 (K:Nat)(x:ab ps):Ex->St->Option Res:=kAt (ev K) body [1,1,0,1,0] fin
def N_l0 (K:Nat)(x:ab ps):A_l0->Option Res:=λa=>bt live_l0 (ev K (sub body [1,1,0,1,0,0])) K (S_l0 x a) (k_l0 K x)
def k_l1 (K:Nat)(x:ab ps):Ex->St->Option Res:=kAt (ev K) body [1,1,1,1,0,1,0] fin
def N_l1 (K:Nat)(x:ab ps):A_l1->Option Res:=λa=>bt live_l1 (ev K (sub body [1,1,1,1,0,1,0,0])) K (S_l1 x a) (k_l1 K x)
def k_l2 (K:Nat)(x:ab ps)(r_l1:St->Option Res):Ex->St->Option Res:=kAt (ev K) (sub body [1,1,1,1,0,1,0,0]) [1,1,0,0,1,1,1,0] (bC live_l1 r_l1 (k_l1 K x))
def N_l2 (K:Nat)(x:ab ps)(r_l1:St->Option Res):A_l2->Option Res:=λa=>bt live_l2 (ev K (sub body [1,1,1,1,0,1,0,0,1,1,0,0,1,1,1,0,0])) K (S_l2 x a) (k_l2 K x r_l1)
end Q149
namespace Q150
abbrev ps:List PK:=[.rd t9]
abbrev rs:List RK:=[.v .bool]
abbrev Res:=ak rs×aj ps
def f (K:Nat)(x:ab ps):Option Res:=(Q120.f K (x.1.1,(-100000),100000,())).bind λy1=>bif y1.1.1 then ((Q120.f K (x.1.2.1,(-100000),100000,())).bind λy2=>bif y2.1.1 then ((Q120.f K (x.1.2.2.1,0,100000,())).bind λy3=>bif y3.1.1 then ((Q120.f K (x.1.2.2.2,1,1500,())).bind λy4=>some ((y4.1.1,()),())) else (some ((false,()),()))) else (some ((false,()),()))) else (some ((false,()),()))
def c (K:Nat):Ctr:=⟨56,ps,rs,true,f K⟩
end Q150
namespace Q151
abbrev ps:List PK:=[.rd (.int .i64)]
abbrev rs:List RK:=[.v .bool]
abbrev Res:=ak rs×aj ps
def f (K:Nat)(x:ab ps):Option Res:=(Q120.f K (x.1,1,60000,())).bind λy1=>some ((!y1.1.1,()),())
def c (K:Nat):Ctr:=⟨112,ps,rs,true,f K⟩
end Q151
namespace Q152
abbrev ps:List PK:=[.rd t26,.rd (.int .i64)]
abbrev rs:List RK:=[.v .bool]
abbrev Res:=ak rs×aj ps
def f (K:Nat)(x:ab ps):Option Res:=(Q148.f K (x.1,x.2.1,())).bind λy1=>bif y1.1.1 then (some ((x.2.1 != x.1.1,()),())) else (some ((false,()),()))
def c (K:Nat):Ctr:=⟨113,ps,rs,true,f K⟩
end Q152
namespace Q153
abbrev ps:List PK:=[.rd (.list false 3 (.int .i64)),.fn [(.int .i64)] .bool]
abbrev rs:List RK:=[.v (.int .i64)]
abbrev Res:=ak rs×aj ps
abbrev A_l0:=Int
def l0.step (K:Nat)(x:ab ps)(rec_l0:A_l0->Option Res)(a:A_l0):Option Res:=bif decide (a<(AA x.1:Int)) then ((idx x.1 a).bind λy1=>(x.2.1 (y1,())).bind λy2=>bif y2 then (some ((a,()),())) else (rec_l0 (wr .i64 (a+1)))) else (some (((-1),()),()))
def l0 (K:Nat)(x:ab ps):A_l0->Option Res:=ae (λrec_l0 a=>l0.step K x rec_l0 a) K
def pre (K:Nat)(N_l0:A_l0->Option Res)(x:ab ps):Option Res:=N_l0 0
def f (K:Nat)(x:ab ps):Option Res:=pre K (l0 K x) x
def c (K:Nat):Ctr:=⟨154,ps,rs,true,f K⟩
end Q153
namespace Q154
abbrev ps:List PK:=[.rd (.list false 3 (.int .i64)),.fn [(.int .i64)] .bool]
abbrev rs:List RK:=[.v .bool]
abbrev Res:=ak rs×aj ps
def f (K:Nat)(x:ab ps):Option Res:=(Q153.f K (x.1,x.2.1,())).bind λy1=>some ((decide (y1.1.1>=0),()),())
def c (K:Nat):Ctr:=⟨114,ps,rs,true,f K⟩
end Q154
namespace Q155
abbrev ps:List PK:=[.rd t26]
abbrev rs:List RK:=[.v .bool]
abbrev Res:=ak rs×aj ps
abbrev A_l0:=Int
def l0.step (K:Nat)(x:ab ps)(rec_l0:A_l0->Option Res)(a:A_l0):Option Res:=bif decide (a<(AA x.1.2.2.2.2.2.2.2.2.2.2.2.2.2.1:Int)) then ((idx x.1.2.2.2.2.2.2.2.2.2.2.2.2.2.1 a).bind λy1=>(Q152.f K (x.1,y1.1,())).bind λy2=>bif !y2.1.1 then (some ((false,()),())) else (bif decide (a>0) then ((idx x.1.2.2.2.2.2.2.2.2.2.2.2.2.2.1 (wr .i64 (a-1))).bind λy3=>bif decide (y1.1<=y3.1) then (some ((false,()),())) else ((Q150.f K (y1.2.1,())).bind λy4=>bif !y4.1.1 then (some ((false,()),())) else ((Q120.f K ((AA y1.2.2:Int),1,3,())).bind λy5=>bif !y5.1.1 then (some ((false,()),())) else ((Q154.f K (y1.2.2,λy6=>(Q151.f K (y6.1,())).map λy=>y.1.1,())).bind λy7=>bif y7.1.1 then (some ((false,()),())) else (rec_l0 (wr .i64 (a+1))))))) else ((Q150.f K (y1.2.1,())).bind λy8=>bif !y8.1.1 then (some ((false,()),())) else ((Q120.f K ((AA y1.2.2:Int),1,3,())).bind λy9=>bif !y9.1.1 then (some ((false,()),())) else ((Q154.f K (y1.2.2,λy10=>(Q151.f K (y10.1,())).map λy=>y.1.1,())).bind λy11=>bif y11.1.1 then (some ((false,()),())) else (rec_l0 (wr .i64 (a+1)))))))) else (some ((true,()),()))
def l0 (K:Nat)(x:ab ps):A_l0->Option Res:=ae (λrec_l0 a=>l0.step K x rec_l0 a) K
def pre (K:Nat)(N_l0:A_l0->Option Res)(x:ab ps):Option Res:=N_l0 0
def f (K:Nat)(x:ab ps):Option Res:=pre K (l0 K x) x
def c (K:Nat):Ctr:=⟨57,ps,rs,true,f K⟩
end Q155
namespace Q156
abbrev ps:List PK:=[.rd t26]
abbrev rs:List RK:=[.v .bool]
abbrev Res:=ak rs×aj ps
abbrev A_l0:=Int
def l0.step (K:Nat)(x:ab ps)(rec_l0:A_l0->Option Res)(a:A_l0):Option Res:=bif decide (a<(AA x.1.2.2.2.2.2.2.2.2.2.2.2.2.2.2:Int)) then ((idx x.1.2.2.2.2.2.2.2.2.2.2.2.2.2.2 a).bind λy1=>(Q131.f K (7,())).bind λy2=>(Q120.f K (y1.1,0,y2.1.1,())).bind λy3=>bif !y3.1.1 then (some ((false,()),())) else ((Q132.f K (x.1,())).bind λy4=>bif y1.1==y4.1.1 then (some ((false,()),())) else (bif decide (a>0) then ((idx x.1.2.2.2.2.2.2.2.2.2.2.2.2.2.2 (wr .i64 (a-1))).bind λy5=>bif decide (y1.1<=y5.1) then (some ((false,()),())) else (bif (AA y1.2:Int)==0 then (some ((false,()),())) else ((Q124.f K (y1.2,())).bind λy6=>bif !y6.1.1 then (some ((false,()),())) else ((Q136.f K (y1.2,y1.1,())).bind λy7=>bif !y7.1.1 then (some ((false,()),())) else (rec_l0 (wr .i64 (a+1))))))) else (bif (AA y1.2:Int)==0 then (some ((false,()),())) else ((Q124.f K (y1.2,())).bind λy8=>bif !y8.1.1 then (some ((false,()),())) else ((Q136.f K (y1.2,y1.1,())).bind λy9=>bif !y9.1.1 then (some ((false,()),())) else (rec_l0 (wr .i64 (a+1))))))))) else (some ((true,()),()))
def l0 (K:Nat)(x:ab ps):A_l0->Option Res:=ae (λrec_l0 a=>l0.step K x rec_l0 a) K
def pre (K:Nat)(N_l0:A_l0->Option Res)(x:ab ps):Option Res:=N_l0 0
def f (K:Nat)(x:ab ps):Option Res:=pre K (l0 K x) x
def c (K:Nat):Ctr:=⟨58,ps,rs,true,f K⟩
end Q156
namespace Q157
abbrev ps:List PK:=[.rd t26]
abbrev rs:List RK:=[.v .bool]
abbrev Res:=ak rs×aj ps
def f (K:Nat)(x:ab ps):Option Res:=(Q121.f K (x.1.1,())).bind λy1=>bif !y1.1.1 then (some ((false,()),())) else ((Q120.f K (x.1.2.2.2.2.2.1,0,999999,())).bind λy2=>bif !y2.1.1 then (some ((false,()),())) else ((Q120.f K (x.1.2.2.2.2.2.2.1,0,999999,())).bind λy3=>bif !y3.1.1 then (some ((false,()),())) else ((Q120.f K (x.1.2.2.2.2.2.2.2.1,0,8,())).bind λy4=>bif !y4.1.1 then (some ((false,()),())) else ((Q120.f K (x.1.2.2.2.2.1,0,999,())).bind λy5=>bif !y5.1.1 then (some ((false,()),())) else (bif !x.1.2.1 then ((Q122.f K (x.1,())).bind λy6=>some ((y6.1.1,()),())) else ((Q146.f K (x.1,())).bind λy7=>bif y7.1.1 then ((Q147.f K (x.1,())).bind λy8=>bif y8.1.1 then ((Q149.f K (x.1,())).bind λy9=>bif y9.1.1 then ((Q150.f K (x.1.2.2.2.2.2.2.2.2.2.2.2.2.1,())).bind λy10=>bif y10.1.1 then ((Q155.f K (x.1,())).bind λy11=>bif y11.1.1 then ((Q156.f K (x.1,())).bind λy12=>some ((y12.1.1,()),())) else (some ((false,()),()))) else (some ((false,()),()))) else (some ((false,()),()))) else (some ((false,()),()))) else (some ((false,()),()))))))))
def c (K:Nat):Ctr:=⟨12,ps,rs,true,f K⟩
end Q157
namespace Q158
abbrev ps:List PK:=[.io (.list true 45 t11),.rd (.int .i64),.rd (.int .i64),.fn [t11,t11] (.int .i64)]
abbrev rs:List RK:=[]
abbrev Res:=ak rs×aj ps
abbrev A_l1:=List (Ty.den t11)×Int×Int
abbrev A_l0:=List (Ty.den t11)×Int
def l1.step (K:Nat)(x:ab ps)(rec_l0:A_l0->Option Res)(rec_l1:A_l1->Option Res)(a:A_l1):Option Res:=bif decide (a.2.2>x.2.1) then ((idx a.1 a.2.2).bind λ_=>(idx a.1 (AB a.2.2:Nat)).bind λy2=>(idx a.1 (wr .i64 (a.2.2-1))).bind λ_=>(idx a.1 (AB (wr .i64 (a.2.2-1)):Nat)).bind λy4=>(x.2.2.2.1 (y2,y4,())).bind λy5=>bif decide (y5<0) then ((idx a.1 (wr .i64 (a.2.2-1))).bind λ_=>(idx a.1 (AB (wr .i64 (a.2.2-1)):Nat)).bind λy7=>(idx a.1 a.2.2).bind λ_=>(idx a.1 (AB a.2.2:Nat)).bind λy9=>(idx a.1 a.2.2).bind λ_=>(idx a.1 (AB a.2.2:Nat)).bind λy11=>(idx (a.1.set (AB a.2.2) y7) (wr .i64 (a.2.2-1))).bind λ_=>(idx (a.1.set (AB a.2.2) y7) (AB (wr .i64 (a.2.2-1)):Nat)).bind λy13=>rec_l1 ((a.1.set (AB a.2.2) y7).set (AB (wr .i64 (a.2.2-1))) y9,a.2.1,wr .i64 (a.2.2-1))) else (rec_l0 (a.1,wr .i64 (a.2.1+1)))) else (rec_l0 (a.1,wr .i64 (a.2.1+1)))
def l1 (K:Nat)(x:ab ps)(rec_l0:A_l0->Option Res):A_l1->Option Res:=ae (λrec_l1 a=>l1.step K x rec_l0 rec_l1 a) K
def l0.step (K:Nat)(x:ab ps)(N_l1:A_l1->Option Res)(rec_l0:A_l0->Option Res)(a:A_l0):Option Res:=bif decide (a.2<x.2.2.1) then (N_l1 (a.1,a.2,a.2)) else (some ((),(a.1,())))
def l0 (K:Nat)(x:ab ps):A_l0->Option Res:=ae (λrec_l0 a=>l0.step K x (l1 K x rec_l0) rec_l0 a) K
def pre (K:Nat)(N_l0:A_l0->Option Res)(x:ab ps):Option Res:=N_l0 (x.1,wr .i64 (x.2.1+1))
def f (K:Nat)(x:ab ps):Option Res:=pre K (l0 K x) x
def c (K:Nat):Ctr:=⟨144,ps,rs,false,f K⟩
def G (K:Nat):List Ctr:=[]
def live_l1:List (Nat×List Coe):=[(0,[.own true 45 t11]),(1,[.keep]),(2,[.keep]),(3,[.keep]),(8,[.keep]),(9,[.keep])]
def live_l0:List (Nat×List Coe):=[(0,[.own true 45 t11]),(1,[.keep]),(2,[.keep]),(3,[.keep]),(8,[.keep])]
def L:List (Nat×List (Nat×List Coe)):=[(5,live_l1),(2,live_l0)]
def body:Code:=dh Tryz.f144
abbrev ev (K:Nat):Code->St->(Ex->St->Option Res)->Option Res:=evK (G K) T_S L K
abbrev fin:Ex->St->Option Res:=dy T_S ps rs false Tryz.f144.results.toList
def S_l0 (x:ab ps)(a:A_l0):St:=az [(0,⟨0,.one,[.own true none 45 t11 a.1]⟩),(1,⟨0,.one,[.int .i64 x.2.1]⟩),(2,⟨0,.one,[.int .i64 x.2.2.1]⟩),(3,⟨0,.one,[.fn [t11,t11] (.int .i64) x.2.2.2.1]⟩),(8,⟨0,.one,[.int .i64 a.2]⟩)]
def S_l1 (x:ab ps)(a:A_l1):St:=az [(0,⟨0,.one,[.own true none 45 t11 a.1]⟩),(1,⟨0,.one,[.int .i64 x.2.1]⟩),(2,⟨0,.one,[.int .i64 x.2.2.1]⟩),(3,⟨0,.one,[.fn [t11,t11] (.int .i64) x.2.2.2.1]⟩),(8,⟨0,.one,[.int .i64 a.2.1]⟩),(9,⟨0,.one,[.int .i64 a.2.2]⟩)]
def k_l0 (K:Nat)(x:ab ps):Ex->St->Option Res:=kAt (ev K) body [1,0] fin
def N_l0 (K:Nat)(x:ab ps):A_l0->Option Res:=λa=>bt live_l0 (ev K (sub body [1,0,0])) K (S_l0 x a) (k_l0 K x)
def k_l1 (K:Nat)(x:ab ps)(r_l0:St->Option Res):Ex->St->Option Res:=kAt (ev K) (sub body [1,0,0]) [1,0,0,1,0] (bC live_l0 r_l0 (k_l0 K x))
def N_l1 (K:Nat)(x:ab ps)(r_l0:St->Option Res):A_l1->Option Res:=λa=>bt live_l1 (ev K (sub body [1,0,0,1,0,0,1,0,0])) K (S_l1 x a) (k_l1 K x r_l0)
end Q158
namespace Q159
abbrev ps:List PK:=[.io (.list true 45 t11),.rd (.int .i64),.fn [t11,t11] (.int .i64)]
abbrev rs:List RK:=[]
abbrev Res:=ak rs×aj ps
abbrev A_l2:=List (Ty.den t11)×Int×Int
abbrev A_l1:=List (Ty.den t11)×Int
abbrev A_l0:=List (Ty.den t11)×Int×Int
def l2.step (K:Nat)(x:ab ps)(rec_l1:A_l1->Option Res)(rec_l2:A_l2->Option Res)(a:A_l2):Option Res:=bif decide (a.2.2<=x.2.1) then none else (bif decide ((wr .i64 (0+a.2.1))<x.2.1) then none else (rec_l1 (a.1,wr .i64 (a.2.1*2))))
def l2 (K:Nat)(x:ab ps)(rec_l1:A_l1->Option Res):A_l2->Option Res:=ae (λrec_l2 a=>l2.step K x rec_l1 rec_l2 a) K
def l1.step (K:Nat)(x:ab ps)(N_l2:A_l2->Option Res)(rec_l1:A_l1->Option Res)(a:A_l1):Option Res:=bif decide (a.2<x.2.1) then (N_l2 (a.1,a.2,wr .i64 (2*a.2))) else (some ((),(a.1,())))
def l1 (K:Nat)(x:ab ps):A_l1->Option Res:=ae (λrec_l1 a=>l1.step K x (l2 K x rec_l1) rec_l1 a) K
def l0.step (K:Nat)(x:ab ps)(N_l1:A_l1->Option Res)(rec_l0:A_l0->Option Res)(a:A_l0):Option Res:=bif decide (a.2.2<=x.2.1) then ((Q158.f K (a.1,a.2.1,a.2.2,x.2.2.1,())).bind λy1=>rec_l0 (y1.2.1,a.2.2,wr .i64 (a.2.2+20))) else ((Q158.f K (a.1,a.2.1,x.2.1,x.2.2.1,())).bind λy2=>N_l1 (y2.2.1,20))
def l0 (K:Nat)(x:ab ps):A_l0->Option Res:=ae (λrec_l0 a=>l0.step K x (l1 K x) rec_l0 a) K
def pre (K:Nat)(N_l0:A_l0->Option Res)(x:ab ps):Option Res:=N_l0 (x.1,0,20)
def f (K:Nat)(x:ab ps):Option Res:=pre K (l0 K x) x
def c (K:Nat):Ctr:=⟨100,ps,rs,false,f K⟩
def G (K:Nat):List Ctr:=[Q158.c K]
def live_l2:List (Nat×List Coe):=[(0,[.own true 45 t11]),(1,[.keep]),(2,[.keep]),(6,[.keep]),(7,[.keep]),(8,[.keep])]
def live_l1:List (Nat×List Coe):=[(0,[.own true 45 t11]),(1,[.keep]),(2,[.keep]),(6,[.keep])]
def live_l0:List (Nat×List Coe):=[(0,[.own true 45 t11]),(1,[.keep]),(2,[.keep]),(6,[.keep]),(7,[.keep]),(8,[.keep])]
def L:List (Nat×List (Nat×List Coe)):=[(10,live_l2),(8,live_l1),(3,live_l0)]
def body:Code:=dh Tryz.f100
abbrev ev (K:Nat):Code->St->(Ex->St->Option Res)->Option Res:=evK (G K) T_S L K
abbrev fin:Ex->St->Option Res:=dy T_S ps rs false Tryz.f100.results.toList
def S_l0 (x:ab ps)(a:A_l0):St:=az [(0,⟨0,.one,[.own true none 45 t11 a.1]⟩),(1,⟨0,.one,[.int .i64 x.2.1]⟩),(2,⟨0,.one,[.fn [t11,t11] (.int .i64) x.2.2.1]⟩),(6,⟨0,.one,[.int .i64 20]⟩),(7,⟨0,.one,[.int .i64 a.2.1]⟩),(8,⟨0,.one,[.int .i64 a.2.2]⟩)]
def S_l1 (x:ab ps)(a:A_l1):St:=az [(0,⟨0,.one,[.own true none 45 t11 a.1]⟩),(1,⟨0,.one,[.int .i64 x.2.1]⟩),(2,⟨0,.one,[.fn [t11,t11] (.int .i64) x.2.2.1]⟩),(6,⟨0,.one,[.int .i64 a.2]⟩)]
def S_l2 (x:ab ps)(a:A_l2):St:=az [(0,⟨0,.one,[.own true none 45 t11 a.1]⟩),(1,⟨0,.one,[.int .i64 x.2.1]⟩),(2,⟨0,.one,[.fn [t11,t11] (.int .i64) x.2.2.1]⟩),(6,⟨0,.one,[.int .i64 a.2.1]⟩),(7,⟨0,.one,[.int .i64 0]⟩),(8,⟨0,.one,[.int .i64 a.2.2]⟩)]
def k_l0 (K:Nat)(x:ab ps):Ex->St->Option Res:=kAt (ev K) body [1,1,0,0] fin
def N_l0 (K:Nat)(x:ab ps):A_l0->Option Res:=λa=>bt live_l0 (ev K (sub body [1,1,0,0,0])) K (S_l0 x a) (k_l0 K x)
def k_l1 (K:Nat)(x:ab ps):Ex->St->Option Res:=kAt (ev K) body [1,1,1,1,0] fin
def N_l1 (K:Nat)(x:ab ps):A_l1->Option Res:=λa=>bt live_l1 (ev K (sub body [1,1,1,1,0,0])) K (S_l1 x a) (k_l1 K x)
def k_l2 (K:Nat)(x:ab ps)(r_l1:St->Option Res):Ex->St->Option Res:=kAt (ev K) (sub body [1,1,1,1,0,0]) [1,0,1,0,0] (bC live_l1 r_l1 (k_l1 K x))
def N_l2 (K:Nat)(x:ab ps)(r_l1:St->Option Res):A_l2->Option Res:=λa=>bt live_l2 (ev K (sub body [1,1,1,1,0,0,1,0,1,0,0,0])) K (S_l2 x a) (k_l2 K x r_l1)
end Q159
namespace Q160
abbrev ps:List PK:=[.io (.list true 45 t11),.fn [t11,t11] (.int .i64)]
abbrev rs:List RK:=[]
abbrev Res:=ak rs×aj ps
def f (K:Nat)(x:ab ps):Option Res:=(Q159.f K (x.1,(AA x.1:Int),x.2.1,())).bind λy1=>some ((),(y1.2.1,()))
def c (K:Nat):Ctr:=⟨42,ps,rs,false,f K⟩
end Q160
namespace Q161
abbrev ps:List PK:=[.rd (.int .i64),.rd (.int .i64),.rd (.int .i64)]
abbrev rs:List RK:=[.v (.int .i64)]
abbrev Res:=ak rs×aj ps
def f (K:Nat)(x:ab ps):Option Res:=some ((bif decide (x.2.1<(bif decide (x.2.2.1<x.1) then x.2.2.1 else x.1)) then bif decide (x.2.2.1<x.1) then x.2.2.1 else x.1 else x.2.1,()),())
def c (K:Nat):Ctr:=⟨104,ps,rs,true,f K⟩
end Q161
namespace Q162
abbrev ps:List PK:=[.rd (.int .i64)]
abbrev rs:List RK:=[.v (.int .i64)]
abbrev Res:=ak rs×aj ps
def f (K:Nat)(x:ab ps):Option Res:=(Q161.f K (x.1,(-1000000000),1000000000,())).bind λy1=>some ((y1.1.1,()),())
def c (K:Nat):Ctr:=⟨146,ps,rs,true,f K⟩
end Q162
namespace Q163
abbrev ps:List PK:=[.rd (.int .i64)]
abbrev rs:List RK:=[.v (.int .i64)]
abbrev Res:=ak rs×aj ps
abbrev A_l0:=Int×Int
def l0.step (K:Nat)(x:ab ps)(rec_l0:A_l0->Option Res)(a:A_l0):Option Res:=bif decide ((wr .i64 (a.2-a.1))>1) then (bif decide ((wr .i64 ((wr .i64 (AD (wr .i64 (a.1+a.2)) 2))*(wr .i64 (AD (wr .i64 (a.1+a.2)) 2))))<=x.1) then (rec_l0 (wr .i64 (AD (wr .i64 (a.1+a.2)) 2),a.2)) else (rec_l0 (a.1,wr .i64 (AD (wr .i64 (a.1+a.2)) 2)))) else (some ((a.1,()),()))
def l0 (K:Nat)(x:ab ps):A_l0->Option Res:=ae (λrec_l0 a=>l0.step K x rec_l0 a) K
def pre (K:Nat)(N_l0:A_l0->Option Res)(x:ab ps):Option Res:=N_l0 (0,2147483648)
def f (K:Nat)(x:ab ps):Option Res:=pre K (l0 K x) x
def c (K:Nat):Ctr:=⟨147,ps,rs,true,f K⟩
end Q163
namespace Q164
abbrev ps:List PK:=[.rd (.int .i64),.rd (.int .i64)]
abbrev rs:List RK:=[.v (.int .i64)]
abbrev Res:=ak rs×aj ps
def f (K:Nat)(x:ab ps):Option Res:=(Q162.f K (x.1,())).bind λy1=>(Q162.f K (x.2.1,())).bind λy2=>(Q163.f K (wr .i64 ((wr .i64 (y1.1.1*y1.1.1))+(wr .i64 (y2.1.1*y2.1.1))),())).bind λy3=>(Q162.f K (y3.1.1,())).bind λy4=>some ((y4.1.1,()),())
def c (K:Nat):Ctr:=⟨102,ps,rs,true,f K⟩
end Q164
namespace Q165
abbrev ps:List PK:=[.rd t9,.rd t9]
abbrev rs:List RK:=[.v (.int .i64)]
abbrev Res:=ak rs×aj ps
def f (K:Nat)(x:ab ps):Option Res:=(Q150.f K (x.1,())).bind λy1=>bif !y1.1.1 then (some ((0,()),())) else ((Q150.f K (x.2.1,())).bind λy2=>bif !y2.1.1 then (some ((0,()),())) else ((Q164.f K (wr .i64 (x.1.1-x.2.1.1),wr .i64 (x.1.2.1-x.2.1.2.1),())).bind λy3=>some ((wr .i64 ((wr .i64 (y3.1.1+x.1.2.2.1))+x.2.1.2.2.1),()),())))
def c (K:Nat):Ctr:=⟨45,ps,rs,true,f K⟩
end Q165
namespace Q166
abbrev ps:List PK:=[.rd t11,.rd t11,.rref t26]
abbrev rs:List RK:=[.v (.int .i64)]
abbrev Res:=ak rs×aj ps
def f (K:Nat)(x:ab ps):Option Res:=(Q165.f K (x.2.2.1.2.2.2.2.2.2.2.2.2.2.2.2.1,x.1.2.1,())).bind λy1=>(Q165.f K (x.2.2.1.2.2.2.2.2.2.2.2.2.2.2.2.1,x.2.1.2.1,())).bind λy2=>(Q127.f K (y1.1.1,y2.1.1,())).bind λy3=>some ((y3.1.1,()),())
def c (K:Nat):Ctr:=⟨43,ps,rs,true,f K⟩
end Q166
namespace Q167
abbrev ps:List PK:=[.rref t26,.rd (.int .i64)]
abbrev rs:List RK:=[.v (.int .i64)]
abbrev Res:=ak rs×aj ps
def f (K:Nat)(x:ab ps):Option Res:=(Q130.f K (x.1.2.2.2.2.2.2.2.2.1,x.2.1,())).bind λy1=>some ((y1.1.1.2.2.1,()),())
def c (K:Nat):Ctr:=⟨46,ps,rs,true,f K⟩
end Q167
namespace Q168
abbrev ps:List PK:=[.rd (.list false 3 (.int .i64)),.rd (.int .i64)]
abbrev rs:List RK:=[.v (.list true 3 (.int .i64))]
abbrev Res:=ak rs×aj ps
def f (K:Nat)(x:ab ps):Option Res:=(Q161.f K (x.2.1,0,(AA x.1:Int),())).bind λy1=>bif decide (0<=0)&&decide (0<=y1.1.1)&&decide (y1.1.1<=(AA x.1:Int))&&true then ((Q2.f K ((x.1.take (AB y1.1.1)).drop (AB 0),())).bind λy2=>some ((y2.1.1,()),())) else none
def c (K:Nat):Ctr:=⟨47,ps,rs,true,f K⟩
end Q168
namespace Q169
abbrev ps:List PK:=[.rd t26,.rd (.int .i64)]
abbrev rs:List RK:=[.v (.list true 3 (.int .i64))]
abbrev Res:=ak rs×aj ps
abbrev A_l0:=List (Ty.den t11)×List (Ty.den (.int .i64))×Int×Int
def l0.step (K:Nat)(x:ab ps)(rec_l0:A_l0->Option Res)(a:A_l0):Option Res:=bif decide (a.2.2.2<a.2.2.1) then ((idx a.1 a.2.2.2).bind λ_=>(idx a.1 (AB a.2.2.2:Nat)).bind λy6=>(Q167.f K (x.1,y6.1,())).bind λy7=>bif y7.1.1==1 then (bif decide ((AA a.2.1+AA ([y6.1]))*8<=ah) then (rec_l0 (a.1,a.2.1++([y6.1]),a.2.2.1,wr .i64 (a.2.2.2+1))) else none) else (rec_l0 (a.1,a.2.1,a.2.2.1,wr .i64 (a.2.2.2+1)))) else ((Q168.f K (a.2.1,x.2.1,())).bind λy8=>some ((y8.1.1,()),()))
def l0 (K:Nat)(x:ab ps):A_l0->Option Res:=ae (λrec_l0 a=>l0.step K x rec_l0 a) K
def pre (K:Nat)(N_l0:A_l0->Option Res)(x:ab ps):Option Res:=(Q157.f K (x.1,())).bind λy1=>bif !y1.1.1 then (some (([],()),())) else (bif !x.1.2.1 then (some (([],()),())) else ((Q1.f K (x.1.2.2.2.2.2.2.2.2.2.2.2.2.2.1,())).bind λy2=>(Q160.f K (y2.1.1,λy3=>(Q166.f K (y3.1,y3.2.1,x.1,())).map λy=>y.1.1,())).bind λy4=>N_l0 (y4.2.1,[],(AA y4.2.1:Int),0)))
def f (K:Nat)(x:ab ps):Option Res:=pre K (l0 K x) x
def c (K:Nat):Ctr:=⟨9,ps,rs,true,f K⟩
end Q169
namespace Q170
abbrev ps:List PK:=[.rd (.list false 3 (.int .i64)),.rd (.list false 3 (.int .i64))]
abbrev rs:List RK:=[.v .bool]
abbrev Res:=ak rs×aj ps
abbrev A_l0:=Int
def l0.step (K:Nat)(x:ab ps)(rec_l0:A_l0->Option Res)(a:A_l0):Option Res:=bif decide (a<(AA x.1:Int)) then ((idx x.1 a).bind λy1=>(idx x.2.1 a).bind λy2=>bif y1 != y2 then (some ((false,()),())) else (rec_l0 (wr .i64 (a+1)))) else (some ((true,()),()))
def l0 (K:Nat)(x:ab ps):A_l0->Option Res:=ae (λrec_l0 a=>l0.step K x rec_l0 a) K
def pre (K:Nat)(N_l0:A_l0->Option Res)(x:ab ps):Option Res:=bif (AA x.1:Int) != (AA x.2.1:Int) then (some ((false,()),())) else (N_l0 0)
def f (K:Nat)(x:ab ps):Option Res:=pre K (l0 K x) x
def c (K:Nat):Ctr:=⟨10,ps,rs,true,f K⟩
end Q170
namespace Q171
abbrev ps:List PK:=[.rd t26]
abbrev rs:List RK:=[.v .bool]
abbrev Res:=ak rs×aj ps
def f (K:Nat)(x:ab ps):Option Res:=(Q45.f K (x.1.2.2.2.2.2.2.2.2.1,x.1.1,())).bind λy1=>bif decide (y1.1.1<0) then (some ((false,()),())) else ((idx x.1.2.2.2.2.2.2.2.2.1 y1.1.1).bind λy2=>bif x.1.2.2.1 then (bif y2.2.1==x.1.2.2.2.2.1 then (bif y2.2.2.1==4 then (some ((y2.2.2.2==x.1.2.2.2.1,()),())) else (some ((false,()),()))) else (some ((false,()),()))) else (bif y2.2.1==x.1.2.2.2.2.1 then (bif y2.2.2.1==1 then (some ((y2.2.2.2==x.1.2.2.2.1,()),())) else (some ((false,()),()))) else (some ((false,()),()))))
def c (K:Nat):Ctr:=⟨62,ps,rs,true,f K⟩
end Q171
namespace Q172
abbrev ps:List PK:=[.rd (.list false 116 t3)]
abbrev rs:List RK:=[.v .bool]
abbrev Res:=ak rs×aj ps
abbrev A_l0:=Int
def l0.step (K:Nat)(x:ab ps)(rec_l0:A_l0->Option Res)(a:A_l0):Option Res:=bif decide (a<(AA x.1:Int)) then ((idx x.1 a).bind λy1=>(Q12.f K (y1.1,())).bind λy2=>bif !y2.1.1 then (some ((false,()),())) else ((idx x.1 a).bind λy3=>(Q7.f K (y3.2,1,4,())).bind λy4=>bif !y4.1.1 then (some ((false,()),())) else (bif decide (a>0) then ((idx x.1 (wr .i64 (a-1))).bind λy5=>(idx x.1 a).bind λy6=>bif decide (y5.1.1>=y6.1.1) then (some ((false,()),())) else (rec_l0 (wr .i64 (a+1)))) else (rec_l0 (wr .i64 (a+1)))))) else (some ((true,()),()))
def l0 (K:Nat)(x:ab ps):A_l0->Option Res:=ae (λrec_l0 a=>l0.step K x rec_l0 a) K
def pre (K:Nat)(N_l0:A_l0->Option Res)(x:ab ps):Option Res:=N_l0 0
def f (K:Nat)(x:ab ps):Option Res:=pre K (l0 K x) x
def c (K:Nat):Ctr:=⟨116,ps,rs,true,f K⟩
end Q172
namespace Q173
abbrev ps:List PK:=[.rd t26]
abbrev rs:List RK:=[.v .bool]
abbrev Res:=ak rs×aj ps
abbrev A_l0:=Int
def l0.step (K:Nat)(x:ab ps)(rec_l0:A_l0->Option Res)(a:A_l0):Option Res:=bif decide (a<(AA x.1.2.2.2.2.2.2.2.2.2.1:Int)) then ((idx x.1.2.2.2.2.2.2.2.2.2.1 a).bind λy2=>(Q45.f K (x.1.2.2.2.2.2.2.2.2.1,y2.1.1,())).bind λy3=>bif decide (y3.1.1<0) then (some ((false,()),())) else ((idx x.1.2.2.2.2.2.2.2.2.2.1 a).bind λy4=>(idx x.1.2.2.2.2.2.2.2.2.1 y3.1.1).bind λy5=>(Q29.f K (y4.1,y5,())).bind λy6=>bif y6.1.1 then (some ((false,()),())) else (rec_l0 (wr .i64 (a+1))))) else (some ((true,()),()))
def l0 (K:Nat)(x:ab ps):A_l0->Option Res:=ae (λrec_l0 a=>l0.step K x rec_l0 a) K
def pre (K:Nat)(N_l0:A_l0->Option Res)(x:ab ps):Option Res:=(Q172.f K (x.1.2.2.2.2.2.2.2.2.2.1,())).bind λy1=>bif !y1.1.1 then (some ((false,()),())) else (N_l0 0)
def f (K:Nat)(x:ab ps):Option Res:=pre K (l0 K x) x
def c (K:Nat):Ctr:=⟨63,ps,rs,true,f K⟩
end Q173
namespace Q174
abbrev ps:List PK:=[.rd t26]
abbrev rs:List RK:=[.v .bool]
abbrev Res:=ak rs×aj ps
def f (K:Nat)(x:ab ps):Option Res:=bif x.1.2.2.2.2.2.2.2.2.2.2.1.1==(-1) then (bif x.1.2.2.2.2.2.2.2.2.2.2.1.2.1==0 then (bif x.1.2.2.2.2.2.2.2.2.2.2.1.2.2.1==0 then (some ((!x.1.2.2.2.2.2.2.2.2.2.2.1.2.2.2,()),())) else (some ((false,()),()))) else (some ((false,()),()))) else (bif x.1.2.2.2.2.2.2.2.2.2.2.1.1 != x.1.1 then ((Q45.f K (x.1.2.2.2.2.2.2.2.2.1,x.1.2.2.2.2.2.2.2.2.2.2.1.1,())).bind λy1=>bif decide (y1.1.1>=0) then ((Q7.f K (x.1.2.2.2.2.2.2.2.2.2.2.1.2.1,0,x.1.2.2.2.2.2.1,())).bind λy2=>bif y2.1.1 then ((Q7.f K (x.1.2.2.2.2.2.2.2.2.2.2.1.2.2.1,1,x.1.2.2.2.2.2.2.1,())).bind λy3=>some ((y3.1.1,()),())) else (some ((false,()),()))) else (some ((false,()),()))) else (some ((false,()),())))
def c (K:Nat):Ctr:=⟨64,ps,rs,true,f K⟩
end Q174
namespace Q175
abbrev ps:List PK:=[.rd t26]
abbrev rs:List RK:=[.v .bool]
abbrev Res:=ak rs×aj ps
abbrev A_l1:=Int×Int×Int×Int×Int×List (Ty.den (.int .i64))
abbrev A_l2:=Int×Int
abbrev A_l0:=Int
def l1.step (K:Nat)(x:ab ps)(rec_l0:A_l0->Option Res)(rec_l1:A_l1->Option Res)(a:A_l1):Option Res:=bif decide (a.2.1<(AA a.2.2.2.2.2:Int)) then ((idx a.2.2.2.2.2 a.2.1).bind λy7=>(Q7.f K (y7,0,7,())).bind λy8=>bif !y8.1.1 then (some ((false,()),())) else ((idx a.2.2.2.2.2 a.2.1).bind λy9=>(Q42.f K (y9,())).bind λy10=>(Q42.f K (x.1.1,())).bind λy11=>bif y10.1.1 != y11.1.1 then (some ((false,()),())) else (bif decide (a.2.1>0) then ((idx a.2.2.2.2.2 (wr .i64 (a.2.1-1))).bind λy12=>(idx a.2.2.2.2.2 a.2.1).bind λy13=>bif decide (y12>=y13) then (some ((false,()),())) else (rec_l1 (a.1,wr .i64 (a.2.1+1),a.2.2.1,a.2.2.2.1,a.2.2.2.2.1,a.2.2.2.2.2))) else (rec_l1 (a.1,wr .i64 (a.2.1+1),a.2.2.1,a.2.2.2.1,a.2.2.2.2.1,a.2.2.2.2.2))))) else (rec_l0 (wr .i64 (a.1+1)))
def l1 (K:Nat)(x:ab ps)(rec_l0:A_l0->Option Res):A_l1->Option Res:=ae (λrec_l1 a=>l1.step K x rec_l0 rec_l1 a) K
def l2.step (K:Nat)(x:ab ps)(rec_l2:A_l2->Option Res)(a:A_l2):Option Res:=bif decide (a.2<(AA x.1.2.2.2.2.2.2.2.2.1:Int)) then ((idx x.1.2.2.2.2.2.2.2.2.1 a.2).bind λy17=>bif y17.2.2.1==2 then (rec_l2 (wr .i64 (a.1+1),wr .i64 (a.2+1))) else (rec_l2 (a.1,wr .i64 (a.2+1)))) else (some ((a.1==(AA x.1.2.2.2.2.2.2.2.2.2.2.2.1:Int),()),()))
def l2 (K:Nat)(x:ab ps):A_l2->Option Res:=ae (λrec_l2 a=>l2.step K x rec_l2 a) K
def l0.step (K:Nat)(x:ab ps)(N_l1:A_l1->Option Res)(N_l2:A_l2->Option Res)(rec_l0:A_l0->Option Res)(a:A_l0):Option Res:=bif decide (a<(AA x.1.2.2.2.2.2.2.2.2.2.2.2.1:Int)) then ((idx x.1.2.2.2.2.2.2.2.2.2.2.2.1 a).bind λy1=>(Q45.f K (x.1.2.2.2.2.2.2.2.2.1,y1.1,())).bind λy2=>bif decide (a>0) then ((idx x.1.2.2.2.2.2.2.2.2.2.2.2.1 (wr .i64 (a-1))).bind λy3=>bif decide (y3.1>=y1.1) then (some ((false,()),())) else (bif decide (y2.1.1<0) then (some ((false,()),())) else ((idx x.1.2.2.2.2.2.2.2.2.1 y2.1.1).bind λy4=>bif y4.2.2.1 != 2 then (some ((false,()),())) else ((idx x.1.2.2.2.2.2.2.2.2.1 y2.1.1).bind λy5=>bif y5.2.1 != y1.2.1 then (some ((false,()),())) else ((Q7.f K (y1.2.2.1,0,x.1.2.2.2.2.2.1,())).bind λy6=>bif !y6.1.1 then (some ((false,()),())) else (bif (AA y1.2.2.2:Int)==0 then (some ((false,()),())) else (N_l1 (a,0,y1.1,y1.2.1,y1.2.2.1,y1.2.2.2)))))))) else (bif decide (y2.1.1<0) then (some ((false,()),())) else ((idx x.1.2.2.2.2.2.2.2.2.1 y2.1.1).bind λy14=>bif y14.2.2.1 != 2 then (some ((false,()),())) else ((idx x.1.2.2.2.2.2.2.2.2.1 y2.1.1).bind λy15=>bif y15.2.1 != y1.2.1 then (some ((false,()),())) else ((Q7.f K (y1.2.2.1,0,x.1.2.2.2.2.2.1,())).bind λy16=>bif !y16.1.1 then (some ((false,()),())) else (bif (AA y1.2.2.2:Int)==0 then (some ((false,()),())) else (N_l1 (a,0,y1.1,y1.2.1,y1.2.2.1,y1.2.2.2)))))))) else (N_l2 (0,0))
def l0 (K:Nat)(x:ab ps):A_l0->Option Res:=ae (λrec_l0 a=>l0.step K x (l1 K x rec_l0) (l2 K x) rec_l0 a) K
def pre (K:Nat)(N_l0:A_l0->Option Res)(x:ab ps):Option Res:=N_l0 0
def f (K:Nat)(x:ab ps):Option Res:=pre K (l0 K x) x
def c (K:Nat):Ctr:=⟨65,ps,rs,true,f K⟩
def G (K:Nat):List Ctr:=[Q42.c K,Q45.c K,Q7.c K]
def live_l1:List (Nat×List Coe):=[(1,[.keep]),(3,[.keep]),(4,[.keep]),(6,[.keep]),(100001,[.keep,.keep,.keep,.keep,.keep,.keep,.keep,.keep,.ro true 41 t2,.ro true 116 t3,.keep,.keep,.keep,.keep,.ro true 92 t6,.keep,.keep,.keep,.keep,.ro true 45 t11,.ro true 56 t12]),(100004,[.keep,.keep,.keep,.ro true 3 (.int .i64)])]
def live_l2:List (Nat×List Coe):=[(1,[.keep]),(7,[.keep]),(8,[.keep]),(100001,[.keep,.keep,.keep,.keep,.keep,.keep,.keep,.keep,.ro true 41 t2,.ro true 116 t3,.keep,.keep,.keep,.keep,.ro true 92 t6,.keep,.keep,.keep,.keep,.ro true 45 t11,.ro true 56 t12])]
def live_l0:List (Nat×List Coe):=[(1,[.keep]),(3,[.keep]),(100001,[.keep,.keep,.keep,.keep,.keep,.keep,.keep,.keep,.ro true 41 t2,.ro true 116 t3,.keep,.keep,.keep,.keep,.ro true 92 t6,.keep,.keep,.keep,.keep,.ro true 45 t11,.ro true 56 t12])]
def L:List (Nat×List (Nat×List Coe)):=[(10,live_l1),(16,live_l2),(3,live_l0)]
def body:Code:=dh Tryz.f65
abbrev ev (K:Nat):Code->St->(Ex->St->Option Res)->Option Res:=evK (G K) T_S L K
abbrev fin:Ex->St->Option Res:=dy T_S ps rs true Tryz.f65.results.toList
def S_l0 (x:ab ps)(a:A_l0):St:=az [(1,⟨0,.one,[.bp 100001 0]⟩),(3,⟨0,.one,[.int .i64 a]⟩),(100001,⟨0,.agg,[.int .i64 x.1.1,.bool x.1.2.1,.bool x.1.2.2.1,.bool x.1.2.2.2.1,.int .i64 x.1.2.2.2.2.1,.int .i64 x.1.2.2.2.2.2.1,.int .i64 x.1.2.2.2.2.2.2.1,.int .i64 x.1.2.2.2.2.2.2.2.1,.ro true 41 t2 x.1.2.2.2.2.2.2.2.2.1,.ro true 116 t3 x.1.2.2.2.2.2.2.2.2.2.1,.int .i64 x.1.2.2.2.2.2.2.2.2.2.2.1.1,.int .i64 x.1.2.2.2.2.2.2.2.2.2.2.1.2.1,.int .i64 x.1.2.2.2.2.2.2.2.2.2.2.1.2.2.1,.bool x.1.2.2.2.2.2.2.2.2.2.2.1.2.2.2,.ro true 92 t6 x.1.2.2.2.2.2.2.2.2.2.2.2.1,.int .i64 x.1.2.2.2.2.2.2.2.2.2.2.2.2.1.1,.int .i64 x.1.2.2.2.2.2.2.2.2.2.2.2.2.1.2.1,.int .i64 x.1.2.2.2.2.2.2.2.2.2.2.2.2.1.2.2.1,.int .i64 x.1.2.2.2.2.2.2.2.2.2.2.2.2.1.2.2.2,.ro true 45 t11 x.1.2.2.2.2.2.2.2.2.2.2.2.2.2.1,.ro true 56 t12 x.1.2.2.2.2.2.2.2.2.2.2.2.2.2.2]⟩)]
def S_l2 (x:ab ps)(a:A_l2):St:=az [(1,⟨0,.one,[.bp 100001 0]⟩),(7,⟨0,.one,[.int .i64 a.1]⟩),(8,⟨0,.one,[.int .i64 a.2]⟩),(100001,⟨0,.agg,[.int .i64 x.1.1,.bool x.1.2.1,.bool x.1.2.2.1,.bool x.1.2.2.2.1,.int .i64 x.1.2.2.2.2.1,.int .i64 x.1.2.2.2.2.2.1,.int .i64 x.1.2.2.2.2.2.2.1,.int .i64 x.1.2.2.2.2.2.2.2.1,.ro true 41 t2 x.1.2.2.2.2.2.2.2.2.1,.ro true 116 t3 x.1.2.2.2.2.2.2.2.2.2.1,.int .i64 x.1.2.2.2.2.2.2.2.2.2.2.1.1,.int .i64 x.1.2.2.2.2.2.2.2.2.2.2.1.2.1,.int .i64 x.1.2.2.2.2.2.2.2.2.2.2.1.2.2.1,.bool x.1.2.2.2.2.2.2.2.2.2.2.1.2.2.2,.ro true 92 t6 x.1.2.2.2.2.2.2.2.2.2.2.2.1,.int .i64 x.1.2.2.2.2.2.2.2.2.2.2.2.2.1.1,.int .i64 x.1.2.2.2.2.2.2.2.2.2.2.2.2.1.2.1,.int .i64 x.1.2.2.2.2.2.2.2.2.2.2.2.2.1.2.2.1,.int .i64 x.1.2.2.2.2.2.2.2.2.2.2.2.2.1.2.2.2,.ro true 45 t11 x.1.2.2.2.2.2.2.2.2.2.2.2.2.2.1,.ro true 56 t12 x.1.2.2.2.2.2.2.2.2.2.2.2.2.2.2]⟩)]
def S_l1 (x:ab ps)(a:A_l1):St:=az [(1,⟨0,.one,[.bp 100001 0]⟩),(3,⟨0,.one,[.int .i64 a.1]⟩),(4,⟨0,.one,[.bp 100004 0]⟩),(6,⟨0,.one,[.int .i64 a.2.1]⟩),(100001,⟨0,.agg,[.int .i64 x.1.1,.bool x.1.2.1,.bool x.1.2.2.1,.bool x.1.2.2.2.1,.int .i64 x.1.2.2.2.2.1,.int .i64 x.1.2.2.2.2.2.1,.int .i64 x.1.2.2.2.2.2.2.1,.int .i64 x.1.2.2.2.2.2.2.2.1,.ro true 41 t2 x.1.2.2.2.2.2.2.2.2.1,.ro true 116 t3 x.1.2.2.2.2.2.2.2.2.2.1,.int .i64 x.1.2.2.2.2.2.2.2.2.2.2.1.1,.int .i64 x.1.2.2.2.2.2.2.2.2.2.2.1.2.1,.int .i64 x.1.2.2.2.2.2.2.2.2.2.2.1.2.2.1,.bool x.1.2.2.2.2.2.2.2.2.2.2.1.2.2.2,.ro true 92 t6 x.1.2.2.2.2.2.2.2.2.2.2.2.1,.int .i64 x.1.2.2.2.2.2.2.2.2.2.2.2.2.1.1,.int .i64 x.1.2.2.2.2.2.2.2.2.2.2.2.2.1.2.1,.int .i64 x.1.2.2.2.2.2.2.2.2.2.2.2.2.1.2.2.1,.int .i64 x.1.2.2.2.2.2.2.2.2.2.2.2.2.1.2.2.2,.ro true 45 t11 x.1.2.2.2.2.2.2.2.2.2.2.2.2.2.1,.ro true 56 t12 x.1.2.2.2.2.2.2.2.2.2.2.2.2.2.2]⟩),(100004,⟨0,.agg,[.int .i64 a.2.2.1,.int .i64 a.2.2.2.1,.int .i64 a.2.2.2.2.1,.ro true 3 (.int .i64) a.2.2.2.2.2]⟩)]
def k_l0 (K:Nat)(x:ab ps):Ex->St->Option Res:=kAt (ev K) body [1,0,1,0] fin
def N_l0 (K:Nat)(x:ab ps):A_l0->Option Res:=λa=>bt live_l0 (ev K (sub body [1,0,1,0,0])) K (S_l0 x a) (k_l0 K x)
def k_l2 (K:Nat)(x:ab ps):Ex->St->Option Res:=kAt (ev K) body [1,1,1,0,1,0] fin
def N_l2 (K:Nat)(x:ab ps):A_l2->Option Res:=λa=>bt live_l2 (ev K (sub body [1,1,1,0,1,0,0])) K (S_l2 x a) (k_l2 K x)
def k_l1 (K:Nat)(x:ab ps)(r_l0:St->Option Res):Ex->St->Option Res:=kAt (ev K) (sub body [1,0,1,0,0]) [1,0,0,1,1,1,1,0] (bC live_l0 r_l0 (k_l0 K x))
def N_l1 (K:Nat)(x:ab ps)(r_l0:St->Option Res):A_l1->Option Res:=λa=>bt live_l1 (ev K (sub body [1,0,1,0,0,1,0,0,1,1,1,1,0,0])) K (S_l1 x a) (k_l1 K x r_l0)
end Q175
namespace Q176
abbrev ps:List PK:=[.rd t26]
abbrev rs:List RK:=[.v .bool]
abbrev Res:=ak rs×aj ps
abbrev A_l1:=Int×Int×Int×Int×Int×Int×Int×List (Ty.den (.int .i64))
abbrev A_l0:=Int
def l1.step (K:Nat)(x:ab ps)(rec_l0:A_l0->Option Res)(rec_l1:A_l1->Option Res)(a:A_l1):Option Res:=bif decide (a.2.1<(AA a.2.2.2.2.2.2.2:Int)) then ((idx a.2.2.2.2.2.2.2 a.2.1).bind λy8=>(Q7.f K (y8,1,60000,())).bind λy9=>bif !y9.1.1 then (some ((false,()),())) else (rec_l1 (a.1,wr .i64 (a.2.1+1),a.2.2.1,a.2.2.2.1,a.2.2.2.2.1,a.2.2.2.2.2.1,a.2.2.2.2.2.2.1,a.2.2.2.2.2.2.2))) else (rec_l0 (wr .i64 (a.1+1)))
def l1 (K:Nat)(x:ab ps)(rec_l0:A_l0->Option Res):A_l1->Option Res:=ae (λrec_l1 a=>l1.step K x rec_l0 rec_l1 a) K
def l0.step (K:Nat)(x:ab ps)(N_l1:A_l1->Option Res)(rec_l0:A_l0->Option Res)(a:A_l0):Option Res:=bif decide (a<(AA x.1.2.2.2.2.2.2.2.2.2.2.2.2.2.1:Int)) then ((idx x.1.2.2.2.2.2.2.2.2.2.2.2.2.2.1 a).bind λy1=>(Q7.f K (y1.1,0,7,())).bind λy2=>bif !y2.1.1 then (some ((false,()),())) else ((Q42.f K (y1.1,())).bind λy3=>(Q42.f K (x.1.1,())).bind λy4=>bif y3.1.1 != y4.1.1 then (some ((false,()),())) else (bif y1.1==x.1.1 then (some ((false,()),())) else (bif decide (a>0) then ((idx x.1.2.2.2.2.2.2.2.2.2.2.2.2.2.1 (wr .i64 (a-1))).bind λy5=>bif decide (y5.1>=y1.1) then (some ((false,()),())) else ((Q15.f K (y1.2.1,())).bind λy6=>bif !y6.1.1 then (some ((false,()),())) else ((Q7.f K ((AA y1.2.2:Int),1,3,())).bind λy7=>bif !y7.1.1 then (some ((false,()),())) else (N_l1 (a,0,y1.1,y1.2.1.1,y1.2.1.2.1,y1.2.1.2.2.1,y1.2.1.2.2.2,y1.2.2))))) else ((Q15.f K (y1.2.1,())).bind λy10=>bif !y10.1.1 then (some ((false,()),())) else ((Q7.f K ((AA y1.2.2:Int),1,3,())).bind λy11=>bif !y11.1.1 then (some ((false,()),())) else (N_l1 (a,0,y1.1,y1.2.1.1,y1.2.1.2.1,y1.2.1.2.2.1,y1.2.1.2.2.2,y1.2.2)))))))) else (some ((true,()),()))
def l0 (K:Nat)(x:ab ps):A_l0->Option Res:=ae (λrec_l0 a=>l0.step K x (l1 K x rec_l0) rec_l0 a) K
def pre (K:Nat)(N_l0:A_l0->Option Res)(x:ab ps):Option Res:=N_l0 0
def f (K:Nat)(x:ab ps):Option Res:=pre K (l0 K x) x
def c (K:Nat):Ctr:=⟨67,ps,rs,true,f K⟩
def G (K:Nat):List Ctr:=[Q42.c K,Q7.c K,Q15.c K]
def live_l1:List (Nat×List Coe):=[(1,[.keep]),(3,[.keep]),(4,[.keep]),(5,[.keep]),(100001,[.keep,.keep,.keep,.keep,.keep,.keep,.keep,.keep,.ro true 41 t2,.ro true 116 t3,.keep,.keep,.keep,.keep,.ro true 92 t6,.keep,.keep,.keep,.keep,.ro true 45 t11,.ro true 56 t12]),(100004,[.keep,.keep,.keep,.keep,.keep,.ro true 3 (.int .i64)])]
def live_l0:List (Nat×List Coe):=[(1,[.keep]),(3,[.keep]),(100001,[.keep,.keep,.keep,.keep,.keep,.keep,.keep,.keep,.ro true 41 t2,.ro true 116 t3,.keep,.keep,.keep,.keep,.ro true 92 t6,.keep,.keep,.keep,.keep,.ro true 45 t11,.ro true 56 t12])]
def L:List (Nat×List (Nat×List Coe)):=[(9,live_l1),(3,live_l0)]
def body:Code:=dh Tryz.f67
abbrev ev (K:Nat):Code->St->(Ex->St->Option Res)->Option Res:=evK (G K) T_S L K
abbrev fin:Ex->St->Option Res:=dy T_S ps rs true Tryz.f67.results.toList
def S_l0 (x:ab ps)(a:A_l0):St:=az [(1,⟨0,.one,[.bp 100001 0]⟩),(3,⟨0,.one,[.int .i64 a]⟩),(100001,⟨0,.agg,[.int .i64 x.1.1,.bool x.1.2.1,.bool x.1.2.2.1,.bool x.1.2.2.2.1,.int .i64 x.1.2.2.2.2.1,.int .i64 x.1.2.2.2.2.2.1,.int .i64 x.1.2.2.2.2.2.2.1,.int .i64 x.1.2.2.2.2.2.2.2.1,.ro true 41 t2 x.1.2.2.2.2.2.2.2.2.1,.ro true 116 t3 x.1.2.2.2.2.2.2.2.2.2.1,.int .i64 x.1.2.2.2.2.2.2.2.2.2.2.1.1,.int .i64 x.1.2.2.2.2.2.2.2.2.2.2.1.2.1,.int .i64 x.1.2.2.2.2.2.2.2.2.2.2.1.2.2.1,.bool x.1.2.2.2.2.2.2.2.2.2.2.1.2.2.2,.ro true 92 t6 x.1.2.2.2.2.2.2.2.2.2.2.2.1,.int .i64 x.1.2.2.2.2.2.2.2.2.2.2.2.2.1.1,.int .i64 x.1.2.2.2.2.2.2.2.2.2.2.2.2.1.2.1,.int .i64 x.1.2.2.2.2.2.2.2.2.2.2.2.2.1.2.2.1,.int .i64 x.1.2.2.2.2.2.2.2.2.2.2.2.2.1.2.2.2,.ro true 45 t11 x.1.2.2.2.2.2.2.2.2.2.2.2.2.2.1,.ro true 56 t12 x.1.2.2.2.2.2.2.2.2.2.2.2.2.2.2]⟩)]
def S_l1 (x:ab ps)(a:A_l1):St:=az [(1,⟨0,.one,[.bp 100001 0]⟩),(3,⟨0,.one,[.int .i64 a.1]⟩),(4,⟨0,.one,[.bp 100004 0]⟩),(5,⟨0,.one,[.int .i64 a.2.1]⟩),(100001,⟨0,.agg,[.int .i64 x.1.1,.bool x.1.2.1,.bool x.1.2.2.1,.bool x.1.2.2.2.1,.int .i64 x.1.2.2.2.2.1,.int .i64 x.1.2.2.2.2.2.1,.int .i64 x.1.2.2.2.2.2.2.1,.int .i64 x.1.2.2.2.2.2.2.2.1,.ro true 41 t2 x.1.2.2.2.2.2.2.2.2.1,.ro true 116 t3 x.1.2.2.2.2.2.2.2.2.2.1,.int .i64 x.1.2.2.2.2.2.2.2.2.2.2.1.1,.int .i64 x.1.2.2.2.2.2.2.2.2.2.2.1.2.1,.int .i64 x.1.2.2.2.2.2.2.2.2.2.2.1.2.2.1,.bool x.1.2.2.2.2.2.2.2.2.2.2.1.2.2.2,.ro true 92 t6 x.1.2.2.2.2.2.2.2.2.2.2.2.1,.int .i64 x.1.2.2.2.2.2.2.2.2.2.2.2.2.1.1,.int .i64 x.1.2.2.2.2.2.2.2.2.2.2.2.2.1.2.1,.int .i64 x.1.2.2.2.2.2.2.2.2.2.2.2.2.1.2.2.1,.int .i64 x.1.2.2.2.2.2.2.2.2.2.2.2.2.1.2.2.2,.ro true 45 t11 x.1.2.2.2.2.2.2.2.2.2.2.2.2.2.1,.ro true 56 t12 x.1.2.2.2.2.2.2.2.2.2.2.2.2.2.2]⟩),(100004,⟨0,.agg,[.int .i64 a.2.2.1,.int .i64 a.2.2.2.1,.int .i64 a.2.2.2.2.1,.int .i64 a.2.2.2.2.2.1,.int .i64 a.2.2.2.2.2.2.1,.ro true 3 (.int .i64) a.2.2.2.2.2.2.2]⟩)]
def k_l0 (K:Nat)(x:ab ps):Ex->St->Option Res:=kAt (ev K) body [1,0,1,0] fin
def N_l0 (K:Nat)(x:ab ps):A_l0->Option Res:=λa=>bt live_l0 (ev K (sub body [1,0,1,0,0])) K (S_l0 x a) (k_l0 K x)
def k_l1 (K:Nat)(x:ab ps)(r_l0:St->Option Res):Ex->St->Option Res:=kAt (ev K) (sub body [1,0,1,0,0]) [1,0,0,1,1,1,0] (bC live_l0 r_l0 (k_l0 K x))
def N_l1 (K:Nat)(x:ab ps)(r_l0:St->Option Res):A_l1->Option Res:=λa=>bt live_l1 (ev K (sub body [1,0,1,0,0,1,0,0,1,1,1,0,0])) K (S_l1 x a) (k_l1 K x r_l0)
end Q176
namespace Q177
abbrev ps:List PK:=[.rd t26]
abbrev rs:List RK:=[.v .bool]
abbrev Res:=ak rs×aj ps
abbrev A_l0:=Int
def l0.step (K:Nat)(x:ab ps)(rec_l0:A_l0->Option Res)(a:A_l0):Option Res:=bif decide (a<(AA x.1.2.2.2.2.2.2.2.2.2.2.2.2.2.2:Int)) then ((idx x.1.2.2.2.2.2.2.2.2.2.2.2.2.2.2 a).bind λy1=>(Q7.f K (y1.1,0,1,())).bind λy2=>bif !y2.1.1 then (some ((false,()),())) else ((Q42.f K (x.1.1,())).bind λy3=>bif y1.1==y3.1.1 then (some ((false,()),())) else (bif decide (a>0) then ((idx x.1.2.2.2.2.2.2.2.2.2.2.2.2.2.2 (wr .i64 (a-1))).bind λy4=>bif decide (y4.1>=y1.1) then (some ((false,()),())) else (bif (AA y1.2:Int)==0 then (some ((false,()),())) else ((Q13.f K (y1.2,())).bind λy5=>bif !y5.1.1 then (some ((false,()),())) else ((Q14.f K (y1.2,y1.1,())).bind λy6=>bif !y6.1.1 then (some ((false,()),())) else (rec_l0 (wr .i64 (a+1))))))) else (bif (AA y1.2:Int)==0 then (some ((false,()),())) else ((Q13.f K (y1.2,())).bind λy7=>bif !y7.1.1 then (some ((false,()),())) else ((Q14.f K (y1.2,y1.1,())).bind λy8=>bif !y8.1.1 then (some ((false,()),())) else (rec_l0 (wr .i64 (a+1))))))))) else (some ((true,()),()))
def l0 (K:Nat)(x:ab ps):A_l0->Option Res:=ae (λrec_l0 a=>l0.step K x rec_l0 a) K
def pre (K:Nat)(N_l0:A_l0->Option Res)(x:ab ps):Option Res:=N_l0 0
def f (K:Nat)(x:ab ps):Option Res:=pre K (l0 K x) x
def c (K:Nat):Ctr:=⟨68,ps,rs,true,f K⟩
end Q177
namespace Q178
abbrev ps:List PK:=[.rd t26]
abbrev rs:List RK:=[.v .bool]
abbrev Res:=ak rs×aj ps
def f (K:Nat)(x:ab ps):Option Res:=(Q7.f K (x.1.1,0,7,())).bind λy1=>bif !y1.1.1 then (some ((false,()),())) else ((Q7.f K (x.1.2.2.2.2.2.1,0,999999,())).bind λy2=>bif !y2.1.1 then (some ((false,()),())) else ((Q7.f K (x.1.2.2.2.2.2.2.1,0,999999,())).bind λy3=>bif !y3.1.1 then (some ((false,()),())) else ((Q7.f K (x.1.2.2.2.2.2.2.2.1,0,8,())).bind λy4=>bif !y4.1.1 then (some ((false,()),())) else ((Q7.f K (x.1.2.2.2.2.1,0,999,())).bind λy5=>bif !y5.1.1 then (some ((false,()),())) else (bif !x.1.2.1 then (bif !x.1.2.2.1 then (bif x.1.2.2.2.2.1==0 then (bif x.1.2.2.2.2.2.1==0 then (bif x.1.2.2.2.2.2.2.1==0 then (bif x.1.2.2.2.2.2.2.2.1==0 then (bif (wr .i64 ((wr .i64 ((wr .i64 ((wr .i64 ((AA x.1.2.2.2.2.2.2.2.2.1:Int)+(AA x.1.2.2.2.2.2.2.2.2.2.1:Int)))+(AA x.1.2.2.2.2.2.2.2.2.2.2.2.1:Int)))+(AA x.1.2.2.2.2.2.2.2.2.2.2.2.2.2.1:Int)))+(AA x.1.2.2.2.2.2.2.2.2.2.2.2.2.2.2:Int)))==0 then (bif x.1.2.2.2.2.2.2.2.2.2.2.1.1==0 then (bif x.1.2.2.2.2.2.2.2.2.2.2.1.2.1==0 then (bif x.1.2.2.2.2.2.2.2.2.2.2.1.2.2.1==0 then (bif !x.1.2.2.2.2.2.2.2.2.2.2.1.2.2.2 then (bif x.1.2.2.2.2.2.2.2.2.2.2.2.2.1.1==0 then (bif x.1.2.2.2.2.2.2.2.2.2.2.2.2.1.2.1==0 then (bif x.1.2.2.2.2.2.2.2.2.2.2.2.2.1.2.2.1==0 then (some ((x.1.2.2.2.2.2.2.2.2.2.2.2.2.1.2.2.2==0,()),())) else (some ((false,()),()))) else (some ((false,()),()))) else (some ((false,()),()))) else (some ((false,()),()))) else (some ((false,()),()))) else (some ((false,()),()))) else (some ((false,()),()))) else (some ((false,()),()))) else (some ((false,()),()))) else (some ((false,()),()))) else (some ((false,()),()))) else (some ((false,()),()))) else (some ((false,()),()))) else ((Q13.f K (x.1.2.2.2.2.2.2.2.2.1,())).bind λy6=>bif y6.1.1 then ((Q42.f K (x.1.1,())).bind λy7=>(Q14.f K (x.1.2.2.2.2.2.2.2.2.1,y7.1.1,())).bind λy8=>bif y8.1.1 then ((Q171.f K (x.1,())).bind λy9=>bif y9.1.1 then ((Q173.f K (x.1,())).bind λy10=>bif y10.1.1 then ((Q174.f K (x.1,())).bind λy11=>bif y11.1.1 then ((Q175.f K (x.1,())).bind λy12=>bif y12.1.1 then ((Q15.f K (x.1.2.2.2.2.2.2.2.2.2.2.2.2.1,())).bind λy13=>bif y13.1.1 then ((Q176.f K (x.1,())).bind λy14=>bif y14.1.1 then ((Q177.f K (x.1,())).bind λy15=>some ((y15.1.1,()),())) else (some ((false,()),()))) else (some ((false,()),()))) else (some ((false,()),()))) else (some ((false,()),()))) else (some ((false,()),()))) else (some ((false,()),()))) else (some ((false,()),()))) else (some ((false,()),()))))))))
def c (K:Nat):Ctr:=⟨13,ps,rs,true,f K⟩
end Q178
namespace Q179
abbrev ps:List PK:=[.rd t26,.rd (.int .i64)]
abbrev rs:List RK:=[.v (.list false 3 (.int .i64))]
abbrev Res:=ak rs×aj ps
abbrev A_l1:=List (Ty.den (.int .i64))×List (Ty.den (.int .i64))×Int×Int×Int
abbrev A_l0:=List (Ty.den (.int .i64))×List (Ty.den (.int .i64))×Int
def l1.step (K:Nat)(x:ab ps)(rec_l0:A_l0->Option Res)(rec_l1:A_l1->Option Res)(a:A_l1):Option Res:=bif decide (a.2.2.2.2<(AA a.2.1:Int)) then ((idx a.2.1 a.2.2.2.2).bind λy7=>bif decide (y7<=a.2.2.2.1) then (rec_l1 (a.1,a.2.1,a.2.2.1,a.2.2.2.1,wr .i64 (a.2.2.2.2+1))) else (bif decide (0<=0)&&decide (0<=a.2.2.2.2)&&decide (a.2.2.2.2<=(AA a.2.1:Int))&&true then (bif decide ((AA ([]:List (Ty.den (.int .i64)))+AA ((a.2.1.take (AB a.2.2.2.2)).drop (AB 0)))*8<=ah) then (bif decide ((AA ([]++((a.2.1.take (AB a.2.2.2.2)).drop (AB 0)))+AA ([a.2.2.2.1]))*8<=ah) then (bif decide (0<=a.2.2.2.2)&&decide (a.2.2.2.2<=(AA a.2.1:Int))&&decide ((AA a.2.1:Int)<=(AA a.2.1:Int))&&true then (bif decide ((AA (([]++((a.2.1.take (AB a.2.2.2.2)).drop (AB 0)))++([a.2.2.2.1]))+AA ((a.2.1.take (AB (AA a.2.1:Int))).drop (AB a.2.2.2.2)))*8<=ah) then (bif decide (0<=0)&&decide (0<=a.2.2.2.2)&&decide (a.2.2.2.2<=(AA a.1:Int))&&true then (bif decide ((AA ([]:List (Ty.den (.int .i64)))+AA ((a.1.take (AB a.2.2.2.2)).drop (AB 0)))*8<=ah) then ((idx x.1.2.2.2.2.2.2.2.2.2.2.2.2.2.1 a.2.2.1).bind λy8=>bif decide ((AA ([]++((a.1.take (AB a.2.2.2.2)).drop (AB 0)))+AA ([y8.1]))*8<=ah) then (bif decide (0<=a.2.2.2.2)&&decide (a.2.2.2.2<=(AA a.1:Int))&&decide ((AA a.1:Int)<=(AA a.1:Int))&&true then (bif decide ((AA (([]++((a.1.take (AB a.2.2.2.2)).drop (AB 0)))++([y8.1]))+AA ((a.1.take (AB (AA a.1:Int))).drop (AB a.2.2.2.2)))*8<=ah) then (rec_l0 ((([]++((a.1.take (AB a.2.2.2.2)).drop (AB 0)))++([y8.1]))++((a.1.take (AB (AA a.1:Int))).drop (AB a.2.2.2.2)),(([]++((a.2.1.take (AB a.2.2.2.2)).drop (AB 0)))++([a.2.2.2.1]))++((a.2.1.take (AB (AA a.2.1:Int))).drop (AB a.2.2.2.2)),wr .i64 (a.2.2.1+1))) else none) else none) else none) else none) else none) else none) else none) else none) else none) else none)) else (bif decide (0<=0)&&decide (0<=a.2.2.2.2)&&decide (a.2.2.2.2<=(AA a.2.1:Int))&&true then (bif decide ((AA ([]:List (Ty.den (.int .i64)))+AA ((a.2.1.take (AB a.2.2.2.2)).drop (AB 0)))*8<=ah) then (bif decide ((AA ([]++((a.2.1.take (AB a.2.2.2.2)).drop (AB 0)))+AA ([a.2.2.2.1]))*8<=ah) then (bif decide (0<=a.2.2.2.2)&&decide (a.2.2.2.2<=(AA a.2.1:Int))&&decide ((AA a.2.1:Int)<=(AA a.2.1:Int))&&true then (bif decide ((AA (([]++((a.2.1.take (AB a.2.2.2.2)).drop (AB 0)))++([a.2.2.2.1]))+AA ((a.2.1.take (AB (AA a.2.1:Int))).drop (AB a.2.2.2.2)))*8<=ah) then (bif decide (0<=0)&&decide (0<=a.2.2.2.2)&&decide (a.2.2.2.2<=(AA a.1:Int))&&true then (bif decide ((AA ([]:List (Ty.den (.int .i64)))+AA ((a.1.take (AB a.2.2.2.2)).drop (AB 0)))*8<=ah) then ((idx x.1.2.2.2.2.2.2.2.2.2.2.2.2.2.1 a.2.2.1).bind λy9=>bif decide ((AA ([]++((a.1.take (AB a.2.2.2.2)).drop (AB 0)))+AA ([y9.1]))*8<=ah) then (bif decide (0<=a.2.2.2.2)&&decide (a.2.2.2.2<=(AA a.1:Int))&&decide ((AA a.1:Int)<=(AA a.1:Int))&&true then (bif decide ((AA (([]++((a.1.take (AB a.2.2.2.2)).drop (AB 0)))++([y9.1]))+AA ((a.1.take (AB (AA a.1:Int))).drop (AB a.2.2.2.2)))*8<=ah) then (rec_l0 ((([]++((a.1.take (AB a.2.2.2.2)).drop (AB 0)))++([y9.1]))++((a.1.take (AB (AA a.1:Int))).drop (AB a.2.2.2.2)),(([]++((a.2.1.take (AB a.2.2.2.2)).drop (AB 0)))++([a.2.2.2.1]))++((a.2.1.take (AB (AA a.2.1:Int))).drop (AB a.2.2.2.2)),wr .i64 (a.2.2.1+1))) else none) else none) else none) else none) else none) else none) else none) else none) else none) else none)
def l1 (K:Nat)(x:ab ps)(rec_l0:A_l0->Option Res):A_l1->Option Res:=ae (λrec_l1 a=>l1.step K x rec_l0 rec_l1 a) K
def l0.step (K:Nat)(x:ab ps)(N_l1:A_l1->Option Res)(rec_l0:A_l0->Option Res)(a:A_l0):Option Res:=bif decide (a.2.2<(AA x.1.2.2.2.2.2.2.2.2.2.2.2.2.2.1:Int)) then ((idx x.1.2.2.2.2.2.2.2.2.2.2.2.2.2.1 a.2.2).bind λy2=>(Q45.f K (x.1.2.2.2.2.2.2.2.2.1,y2.1,())).bind λy3=>bif decide (y3.1.1<0) then (rec_l0 (a.1,a.2.1,wr .i64 (a.2.2+1))) else ((idx x.1.2.2.2.2.2.2.2.2.1 y3.1.1).bind λy4=>bif y4.2.2.1 != 1 then (rec_l0 (a.1,a.2.1,wr .i64 (a.2.2+1))) else ((idx x.1.2.2.2.2.2.2.2.2.2.2.2.2.2.1 a.2.2).bind λy5=>(Q68.f K (x.1.2.2.2.2.2.2.2.2.2.2.2.2.1,y5.2.1,())).bind λy6=>N_l1 (a.1,a.2.1,a.2.2,y6.1.1,0)))) else (bif decide (x.2.1<0) then (some (([],()),())) else (bif decide ((AA a.1:Int)>x.2.1) then (bif decide (0<=0)&&decide (0<=x.2.1)&&decide (x.2.1<=(AA a.1:Int))&&true then (some (((a.1.take (AB x.2.1)).drop (AB 0),()),())) else none) else (some ((a.1,()),()))))
def l0 (K:Nat)(x:ab ps):A_l0->Option Res:=ae (λrec_l0 a=>l0.step K x (l1 K x rec_l0) rec_l0 a) K
def pre (K:Nat)(N_l0:A_l0->Option Res)(x:ab ps):Option Res:=(Q178.f K (x.1,())).bind λy1=>bif !y1.1.1 then (some (([],()),())) else (bif !x.1.2.1 then (some (([],()),())) else (N_l0 ([],[],0)))
def f (K:Nat)(x:ab ps):Option Res:=pre K (l0 K x) x
def c (K:Nat):Ctr:=⟨11,ps,rs,true,f K⟩
def G (K:Nat):List Ctr:=[Q178.c K,Q45.c K,Q68.c K]
def live_l1:List (Nat×List Coe):=[(1,[.keep]),(2,[.keep]),(5,[.ro false 3 (.int .i64)]),(6,[.ro false 3 (.int .i64)]),(7,[.keep]),(9,[.keep]),(10,[.keep]),(100002,[.keep,.keep,.keep,.keep,.keep,.keep,.keep,.keep,.ro true 41 t2,.ro true 116 t3,.keep,.keep,.keep,.keep,.ro true 92 t6,.keep,.keep,.keep,.keep,.ro true 45 t11,.ro true 56 t12])]
def live_l0:List (Nat×List Coe):=[(1,[.keep]),(2,[.keep]),(5,[.ro false 3 (.int .i64)]),(6,[.ro false 3 (.int .i64)]),(7,[.keep]),(100002,[.keep,.keep,.keep,.keep,.keep,.keep,.keep,.keep,.ro true 41 t2,.ro true 116 t3,.keep,.keep,.keep,.keep,.ro true 92 t6,.keep,.keep,.keep,.keep,.ro true 45 t11,.ro true 56 t12])]
def L:List (Nat×List (Nat×List Coe)):=[(13,live_l1),(7,live_l0)]
def body:Code:=dh Tryz.f11
abbrev ev (K:Nat):Code->St->(Ex->St->Option Res)->Option Res:=evK (G K) T_S L K
abbrev fin:Ex->St->Option Res:=dy T_S ps rs true Tryz.f11.results.toList
def S_l0 (x:ab ps)(a:A_l0):St:=az [(1,⟨0,.one,[.int .i64 x.2.1]⟩),(2,⟨0,.one,[.bp 100002 0]⟩),(5,⟨0,.one,[.ro false 3 (.int .i64) a.1]⟩),(6,⟨0,.one,[.ro false 3 (.int .i64) a.2.1]⟩),(7,⟨0,.one,[.int .i64 a.2.2]⟩),(100002,⟨0,.agg,[.int .i64 x.1.1,.bool x.1.2.1,.bool x.1.2.2.1,.bool x.1.2.2.2.1,.int .i64 x.1.2.2.2.2.1,.int .i64 x.1.2.2.2.2.2.1,.int .i64 x.1.2.2.2.2.2.2.1,.int .i64 x.1.2.2.2.2.2.2.2.1,.ro true 41 t2 x.1.2.2.2.2.2.2.2.2.1,.ro true 116 t3 x.1.2.2.2.2.2.2.2.2.2.1,.int .i64 x.1.2.2.2.2.2.2.2.2.2.2.1.1,.int .i64 x.1.2.2.2.2.2.2.2.2.2.2.1.2.1,.int .i64 x.1.2.2.2.2.2.2.2.2.2.2.1.2.2.1,.bool x.1.2.2.2.2.2.2.2.2.2.2.1.2.2.2,.ro true 92 t6 x.1.2.2.2.2.2.2.2.2.2.2.2.1,.int .i64 x.1.2.2.2.2.2.2.2.2.2.2.2.2.1.1,.int .i64 x.1.2.2.2.2.2.2.2.2.2.2.2.2.1.2.1,.int .i64 x.1.2.2.2.2.2.2.2.2.2.2.2.2.1.2.2.1,.int .i64 x.1.2.2.2.2.2.2.2.2.2.2.2.2.1.2.2.2,.ro true 45 t11 x.1.2.2.2.2.2.2.2.2.2.2.2.2.2.1,.ro true 56 t12 x.1.2.2.2.2.2.2.2.2.2.2.2.2.2.2]⟩)]
def S_l1 (x:ab ps)(a:A_l1):St:=az [(1,⟨0,.one,[.int .i64 x.2.1]⟩),(2,⟨0,.one,[.bp 100002 0]⟩),(5,⟨0,.one,[.ro false 3 (.int .i64) a.1]⟩),(6,⟨0,.one,[.ro false 3 (.int .i64) a.2.1]⟩),(7,⟨0,.one,[.int .i64 a.2.2.1]⟩),(9,⟨0,.one,[.int .i64 a.2.2.2.1]⟩),(10,⟨0,.one,[.int .i64 a.2.2.2.2]⟩),(100002,⟨0,.agg,[.int .i64 x.1.1,.bool x.1.2.1,.bool x.1.2.2.1,.bool x.1.2.2.2.1,.int .i64 x.1.2.2.2.2.1,.int .i64 x.1.2.2.2.2.2.1,.int .i64 x.1.2.2.2.2.2.2.1,.int .i64 x.1.2.2.2.2.2.2.2.1,.ro true 41 t2 x.1.2.2.2.2.2.2.2.2.1,.ro true 116 t3 x.1.2.2.2.2.2.2.2.2.2.1,.int .i64 x.1.2.2.2.2.2.2.2.2.2.2.1.1,.int .i64 x.1.2.2.2.2.2.2.2.2.2.2.1.2.1,.int .i64 x.1.2.2.2.2.2.2.2.2.2.2.1.2.2.1,.bool x.1.2.2.2.2.2.2.2.2.2.2.1.2.2.2,.ro true 92 t6 x.1.2.2.2.2.2.2.2.2.2.2.2.1,.int .i64 x.1.2.2.2.2.2.2.2.2.2.2.2.2.1.1,.int .i64 x.1.2.2.2.2.2.2.2.2.2.2.2.2.1.2.1,.int .i64 x.1.2.2.2.2.2.2.2.2.2.2.2.2.1.2.2.1,.int .i64 x.1.2.2.2.2.2.2.2.2.2.2.2.2.1.2.2.2,.ro true 45 t11 x.1.2.2.2.2.2.2.2.2.2.2.2.2.2.1,.ro true 56 t12 x.1.2.2.2.2.2.2.2.2.2.2.2.2.2.2]⟩)]
def k_l0 (K:Nat)(x:ab ps):Ex->St->Option Res:=kAt (ev K) body [1,1,1,1,0,1,0] fin
def N_l0 (K:Nat)(x:ab ps):A_l0->Option Res:=λa=>bt live_l0 (ev K (sub body [1,1,1,1,0,1,0,0])) K (S_l0 x a) (k_l0 K x)
def k_l1 (K:Nat)(x:ab ps)(r_l0:St->Option Res):Ex->St->Option Res:=kAt (ev K) (sub body [1,1,1,1,0,1,0,0]) [1,0,0,1,1,1,1,0,0] (bC live_l0 r_l0 (k_l0 K x))
def N_l1 (K:Nat)(x:ab ps)(r_l0:St->Option Res):A_l1->Option Res:=λa=>bt live_l1 (ev K (sub body [1,1,1,1,0,1,0,0,1,0,0,1,1,1,1,0,0,0])) K (S_l1 x a) (k_l1 K x r_l0)
end Q179
namespace Q180
abbrev ps:List PK:=[.rd (.list false 45 t11),.fn [t11] .bool]
abbrev rs:List RK:=[.v (.int .i64)]
abbrev Res:=ak rs×aj ps
abbrev A_l0:=Int
def l0.step (K:Nat)(x:ab ps)(rec_l0:A_l0->Option Res)(a:A_l0):Option Res:=bif decide (a<(AA x.1:Int)) then ((idx x.1 a).bind λy1=>(x.2.1 (y1,())).bind λy2=>bif y2 then (some ((a,()),())) else (rec_l0 (wr .i64 (a+1)))) else (some (((-1),()),()))
def l0 (K:Nat)(x:ab ps):A_l0->Option Res:=ae (λrec_l0 a=>l0.step K x rec_l0 a) K
def pre (K:Nat)(N_l0:A_l0->Option Res)(x:ab ps):Option Res:=N_l0 0
def f (K:Nat)(x:ab ps):Option Res:=pre K (l0 K x) x
def c (K:Nat):Ctr:=⟨70,ps,rs,true,f K⟩
end Q180
namespace Q181
abbrev ps:List PK:=[.rd t11,.rref (.int .i64)]
abbrev rs:List RK:=[.v .bool]
abbrev Res:=ak rs×aj ps
def f (K:Nat)(x:ab ps):Option Res:=some ((x.1.1==x.2.1,()),())
def c (K:Nat):Ctr:=⟨71,ps,rs,true,f K⟩
end Q181
namespace Q182
abbrev ps:List PK:=[.rd t26,.rd (.int .i64)]
abbrev rs:List RK:=[.v (.int .i64),.v .bool]
abbrev Res:=ak rs×aj ps
def f (K:Nat)(x:ab ps):Option Res:=(Q180.f K (x.1.2.2.2.2.2.2.2.2.2.2.2.2.2.1,λy1=>(Q181.f K (y1.1,x.2.1,())).map λy=>y.1.1,())).bind λy2=>bif decide (y2.1.1<0) then (some ((0,false,()),())) else ((Q157.f K (x.1,())).bind λy3=>bif !y3.1.1 then (some ((0,false,()),())) else ((idx x.1.2.2.2.2.2.2.2.2.2.2.2.2.2.1 y2.1.1).bind λy4=>(Q165.f K (x.1.2.2.2.2.2.2.2.2.2.2.2.2.1,y4.2.1,())).bind λy5=>some ((y5.1.1,true,()),())))
def c (K:Nat):Ctr:=⟨15,ps,rs,true,f K⟩
end Q182
namespace Q183
abbrev ps:List PK:=[.rd (.list false 5 (.int .u8))]
abbrev rs:List RK:=[.v .bool]
abbrev Res:=ak rs×aj ps
abbrev A_l2:=Int×List (Ty.den (.int .i64))×List (Ty.den (.int .i64))×Int×Int
abbrev A_l1:=Int×List (Ty.den (.int .i64))×List (Ty.den (.int .i64))×Int×Int×Int×Bool×Bool×Bool×Int×Int×Int×Int×List (Ty.den t2)×List (Ty.den t3)×Int×Int×Int×Bool×List (Ty.den t6)×Int×Int×Int×Int×List (Ty.den t11)×List (Ty.den t12)
abbrev A_l0:=Int×List (Ty.den (.int .i64))×List (Ty.den (.int .i64))×Int×Int×Int×Bool×Bool×Bool×Int×Int×Int×Int×List (Ty.den t2)×List (Ty.den t3)×Int×Int×Int×Bool×List (Ty.den t6)×Int×Int×Int×Int×List (Ty.den t11)×List (Ty.den t12)
def l2.step (K:Nat)(x:ab ps)(rec_l2:A_l2->Option Res)(a:A_l2):Option Res:=bif decide (a.2.2.2.2<(AA a.2.1:Int)) then ((idx a.2.1 a.2.2.2.2).bind λ_=>(idx a.2.1 (AB a.2.2.2.2:Nat)).bind λy22=>(idx a.2.2.1 a.2.2.2.2).bind λ_=>(idx a.2.2.1 (AB a.2.2.2.2:Nat)).bind λy24=>bif y22 != y24 then (some ((false,()),())) else (rec_l2 (a.1,a.2.1,a.2.2.1,a.2.2.2.1,wr .i64 (a.2.2.2.2+1)))) else (bif (AA a.2.2.1:Int)==a.2.2.2.1 then (bif decide (a.1<0) then (some ((true,()),())) else (bif (AA a.2.1:Int)==a.1 then (some ((true,()),())) else (some (((AA a.2.1:Int)==a.2.2.2.1,()),())))) else (some ((false,()),())))
def l2 (K:Nat)(x:ab ps):A_l2->Option Res:=ae (λrec_l2 a=>l2.step K x rec_l2 a) K
def l1.step (K:Nat)(x:ab ps)(N_l2:A_l2->Option Res)(rec_l1:A_l1->Option Res)(a:A_l1):Option Res:=bif decide (a.2.2.2.2.1<(AA a.2.2.1:Int)) then ((idx a.2.2.1 (wr .i64 (a.2.2.2.2.1-1))).bind λ_=>(idx a.2.2.1 (AB (wr .i64 (a.2.2.2.2.1-1)):Nat)).bind λy12=>(Q182.f K ((a.2.2.2.2.2.1,(a.2.2.2.2.2.2.1,(a.2.2.2.2.2.2.2.1,(a.2.2.2.2.2.2.2.2.1,(a.2.2.2.2.2.2.2.2.2.1,(a.2.2.2.2.2.2.2.2.2.2.1,(a.2.2.2.2.2.2.2.2.2.2.2.1,(a.2.2.2.2.2.2.2.2.2.2.2.2.1,(a.2.2.2.2.2.2.2.2.2.2.2.2.2.1,(a.2.2.2.2.2.2.2.2.2.2.2.2.2.2.1,((a.2.2.2.2.2.2.2.2.2.2.2.2.2.2.2.1,(a.2.2.2.2.2.2.2.2.2.2.2.2.2.2.2.2.1,(a.2.2.2.2.2.2.2.2.2.2.2.2.2.2.2.2.2.1,a.2.2.2.2.2.2.2.2.2.2.2.2.2.2.2.2.2.2.1))),(a.2.2.2.2.2.2.2.2.2.2.2.2.2.2.2.2.2.2.2.1,((a.2.2.2.2.2.2.2.2.2.2.2.2.2.2.2.2.2.2.2.2.1,(a.2.2.2.2.2.2.2.2.2.2.2.2.2.2.2.2.2.2.2.2.2.1,(a.2.2.2.2.2.2.2.2.2.2.2.2.2.2.2.2.2.2.2.2.2.2.1,a.2.2.2.2.2.2.2.2.2.2.2.2.2.2.2.2.2.2.2.2.2.2.2.1))),a.2.2.2.2.2.2.2.2.2.2.2.2.2.2.2.2.2.2.2.2.2.2.2.2))))))))))))),y12,())).bind λy13=>(idx a.2.2.1 a.2.2.2.2.1).bind λ_=>(idx a.2.2.1 (AB a.2.2.2.2.1:Nat)).bind λy15=>(Q182.f K ((a.2.2.2.2.2.1,(a.2.2.2.2.2.2.1,(a.2.2.2.2.2.2.2.1,(a.2.2.2.2.2.2.2.2.1,(a.2.2.2.2.2.2.2.2.2.1,(a.2.2.2.2.2.2.2.2.2.2.1,(a.2.2.2.2.2.2.2.2.2.2.2.1,(a.2.2.2.2.2.2.2.2.2.2.2.2.1,(a.2.2.2.2.2.2.2.2.2.2.2.2.2.1,(a.2.2.2.2.2.2.2.2.2.2.2.2.2.2.1,((a.2.2.2.2.2.2.2.2.2.2.2.2.2.2.2.1,(a.2.2.2.2.2.2.2.2.2.2.2.2.2.2.2.2.1,(a.2.2.2.2.2.2.2.2.2.2.2.2.2.2.2.2.2.1,a.2.2.2.2.2.2.2.2.2.2.2.2.2.2.2.2.2.2.1))),(a.2.2.2.2.2.2.2.2.2.2.2.2.2.2.2.2.2.2.2.1,((a.2.2.2.2.2.2.2.2.2.2.2.2.2.2.2.2.2.2.2.2.1,(a.2.2.2.2.2.2.2.2.2.2.2.2.2.2.2.2.2.2.2.2.2.1,(a.2.2.2.2.2.2.2.2.2.2.2.2.2.2.2.2.2.2.2.2.2.2.1,a.2.2.2.2.2.2.2.2.2.2.2.2.2.2.2.2.2.2.2.2.2.2.2.1))),a.2.2.2.2.2.2.2.2.2.2.2.2.2.2.2.2.2.2.2.2.2.2.2.2))))))))))))),y15,())).bind λy16=>bif !y16.1.2.1 then (some ((false,()),())) else (bif decide (y13.1.1>y16.1.1) then (some ((false,()),())) else (bif y13.1.1==y16.1.1 then ((idx a.2.2.1 (wr .i64 (a.2.2.2.2.1-1))).bind λ_=>(idx a.2.2.1 (AB (wr .i64 (a.2.2.2.2.1-1)):Nat)).bind λy18=>(idx a.2.2.1 a.2.2.2.2.1).bind λ_=>(idx a.2.2.1 (AB a.2.2.2.2.1:Nat)).bind λy20=>bif decide (y18>y20) then (some ((false,()),())) else (rec_l1 (a.1,a.2.1,a.2.2.1,a.2.2.2.1,wr .i64 (a.2.2.2.2.1+1),a.2.2.2.2.2.1,a.2.2.2.2.2.2.1,a.2.2.2.2.2.2.2.1,a.2.2.2.2.2.2.2.2.1,a.2.2.2.2.2.2.2.2.2.1,a.2.2.2.2.2.2.2.2.2.2.1,a.2.2.2.2.2.2.2.2.2.2.2.1,a.2.2.2.2.2.2.2.2.2.2.2.2.1,a.2.2.2.2.2.2.2.2.2.2.2.2.2.1,a.2.2.2.2.2.2.2.2.2.2.2.2.2.2.1,a.2.2.2.2.2.2.2.2.2.2.2.2.2.2.2.1,a.2.2.2.2.2.2.2.2.2.2.2.2.2.2.2.2.1,a.2.2.2.2.2.2.2.2.2.2.2.2.2.2.2.2.2.1,a.2.2.2.2.2.2.2.2.2.2.2.2.2.2.2.2.2.2.1,a.2.2.2.2.2.2.2.2.2.2.2.2.2.2.2.2.2.2.2.1,a.2.2.2.2.2.2.2.2.2.2.2.2.2.2.2.2.2.2.2.2.1,a.2.2.2.2.2.2.2.2.2.2.2.2.2.2.2.2.2.2.2.2.2.1,a.2.2.2.2.2.2.2.2.2.2.2.2.2.2.2.2.2.2.2.2.2.2.1,a.2.2.2.2.2.2.2.2.2.2.2.2.2.2.2.2.2.2.2.2.2.2.2.1,a.2.2.2.2.2.2.2.2.2.2.2.2.2.2.2.2.2.2.2.2.2.2.2.2.1,a.2.2.2.2.2.2.2.2.2.2.2.2.2.2.2.2.2.2.2.2.2.2.2.2.2))) else (rec_l1 (a.1,a.2.1,a.2.2.1,a.2.2.2.1,wr .i64 (a.2.2.2.2.1+1),a.2.2.2.2.2.1,a.2.2.2.2.2.2.1,a.2.2.2.2.2.2.2.1,a.2.2.2.2.2.2.2.2.1,a.2.2.2.2.2.2.2.2.2.1,a.2.2.2.2.2.2.2.2.2.2.1,a.2.2.2.2.2.2.2.2.2.2.2.1,a.2.2.2.2.2.2.2.2.2.2.2.2.1,a.2.2.2.2.2.2.2.2.2.2.2.2.2.1,a.2.2.2.2.2.2.2.2.2.2.2.2.2.2.1,a.2.2.2.2.2.2.2.2.2.2.2.2.2.2.2.1,a.2.2.2.2.2.2.2.2.2.2.2.2.2.2.2.2.1,a.2.2.2.2.2.2.2.2.2.2.2.2.2.2.2.2.2.1,a.2.2.2.2.2.2.2.2.2.2.2.2.2.2.2.2.2.2.1,a.2.2.2.2.2.2.2.2.2.2.2.2.2.2.2.2.2.2.2.1,a.2.2.2.2.2.2.2.2.2.2.2.2.2.2.2.2.2.2.2.2.1,a.2.2.2.2.2.2.2.2.2.2.2.2.2.2.2.2.2.2.2.2.2.1,a.2.2.2.2.2.2.2.2.2.2.2.2.2.2.2.2.2.2.2.2.2.2.1,a.2.2.2.2.2.2.2.2.2.2.2.2.2.2.2.2.2.2.2.2.2.2.2.1,a.2.2.2.2.2.2.2.2.2.2.2.2.2.2.2.2.2.2.2.2.2.2.2.2.1,a.2.2.2.2.2.2.2.2.2.2.2.2.2.2.2.2.2.2.2.2.2.2.2.2.2))))) else (N_l2 (a.1,a.2.1,a.2.2.1,a.2.2.2.1,0))
def l1 (K:Nat)(x:ab ps):A_l1->Option Res:=ae (λrec_l1 a=>l1.step K x (l2 K x) rec_l1 a) K
def l0.step (K:Nat)(x:ab ps)(N_l1:A_l1->Option Res)(rec_l0:A_l0->Option Res)(a:A_l0):Option Res:=bif decide (a.2.2.2.2.1<(AA a.2.2.2.2.2.2.2.2.2.2.2.2.2.2.2.2.2.2.2.2.2.2.2.2.1:Int)) then ((Q178.f K ((a.2.2.2.2.2.1,(a.2.2.2.2.2.2.1,(a.2.2.2.2.2.2.2.1,(a.2.2.2.2.2.2.2.2.1,(a.2.2.2.2.2.2.2.2.2.1,(a.2.2.2.2.2.2.2.2.2.2.1,(a.2.2.2.2.2.2.2.2.2.2.2.1,(a.2.2.2.2.2.2.2.2.2.2.2.2.1,(a.2.2.2.2.2.2.2.2.2.2.2.2.2.1,(a.2.2.2.2.2.2.2.2.2.2.2.2.2.2.1,((a.2.2.2.2.2.2.2.2.2.2.2.2.2.2.2.1,(a.2.2.2.2.2.2.2.2.2.2.2.2.2.2.2.2.1,(a.2.2.2.2.2.2.2.2.2.2.2.2.2.2.2.2.2.1,a.2.2.2.2.2.2.2.2.2.2.2.2.2.2.2.2.2.2.1))),(a.2.2.2.2.2.2.2.2.2.2.2.2.2.2.2.2.2.2.2.1,((a.2.2.2.2.2.2.2.2.2.2.2.2.2.2.2.2.2.2.2.2.1,(a.2.2.2.2.2.2.2.2.2.2.2.2.2.2.2.2.2.2.2.2.2.1,(a.2.2.2.2.2.2.2.2.2.2.2.2.2.2.2.2.2.2.2.2.2.2.1,a.2.2.2.2.2.2.2.2.2.2.2.2.2.2.2.2.2.2.2.2.2.2.2.1))),a.2.2.2.2.2.2.2.2.2.2.2.2.2.2.2.2.2.2.2.2.2.2.2.2))))))))))))),())).bind λy8=>bif y8.1.1 then (bif a.2.2.2.2.2.2.1 then ((idx a.2.2.2.2.2.2.2.2.2.2.2.2.2.2.2.2.2.2.2.2.2.2.2.2.1 a.2.2.2.2.1).bind λy9=>(Q130.f K (a.2.2.2.2.2.2.2.2.2.2.2.2.2.1,y9.1,())).bind λy10=>bif y10.1.2.1 then (bif y10.1.1.2.2.1==1 then (rec_l0 (a.1,a.2.1,a.2.2.1,wr .i64 (a.2.2.2.1+1),wr .i64 (a.2.2.2.2.1+1),a.2.2.2.2.2.1,a.2.2.2.2.2.2.1,a.2.2.2.2.2.2.2.1,a.2.2.2.2.2.2.2.2.1,a.2.2.2.2.2.2.2.2.2.1,a.2.2.2.2.2.2.2.2.2.2.1,a.2.2.2.2.2.2.2.2.2.2.2.1,a.2.2.2.2.2.2.2.2.2.2.2.2.1,a.2.2.2.2.2.2.2.2.2.2.2.2.2.1,a.2.2.2.2.2.2.2.2.2.2.2.2.2.2.1,a.2.2.2.2.2.2.2.2.2.2.2.2.2.2.2.1,a.2.2.2.2.2.2.2.2.2.2.2.2.2.2.2.2.1,a.2.2.2.2.2.2.2.2.2.2.2.2.2.2.2.2.2.1,a.2.2.2.2.2.2.2.2.2.2.2.2.2.2.2.2.2.2.1,a.2.2.2.2.2.2.2.2.2.2.2.2.2.2.2.2.2.2.2.1,a.2.2.2.2.2.2.2.2.2.2.2.2.2.2.2.2.2.2.2.2.1,a.2.2.2.2.2.2.2.2.2.2.2.2.2.2.2.2.2.2.2.2.2.1,a.2.2.2.2.2.2.2.2.2.2.2.2.2.2.2.2.2.2.2.2.2.2.1,a.2.2.2.2.2.2.2.2.2.2.2.2.2.2.2.2.2.2.2.2.2.2.2.1,a.2.2.2.2.2.2.2.2.2.2.2.2.2.2.2.2.2.2.2.2.2.2.2.2.1,a.2.2.2.2.2.2.2.2.2.2.2.2.2.2.2.2.2.2.2.2.2.2.2.2.2)) else (rec_l0 (a.1,a.2.1,a.2.2.1,a.2.2.2.1,wr .i64 (a.2.2.2.2.1+1),a.2.2.2.2.2.1,a.2.2.2.2.2.2.1,a.2.2.2.2.2.2.2.1,a.2.2.2.2.2.2.2.2.1,a.2.2.2.2.2.2.2.2.2.1,a.2.2.2.2.2.2.2.2.2.2.1,a.2.2.2.2.2.2.2.2.2.2.2.1,a.2.2.2.2.2.2.2.2.2.2.2.2.1,a.2.2.2.2.2.2.2.2.2.2.2.2.2.1,a.2.2.2.2.2.2.2.2.2.2.2.2.2.2.1,a.2.2.2.2.2.2.2.2.2.2.2.2.2.2.2.1,a.2.2.2.2.2.2.2.2.2.2.2.2.2.2.2.2.1,a.2.2.2.2.2.2.2.2.2.2.2.2.2.2.2.2.2.1,a.2.2.2.2.2.2.2.2.2.2.2.2.2.2.2.2.2.2.1,a.2.2.2.2.2.2.2.2.2.2.2.2.2.2.2.2.2.2.2.1,a.2.2.2.2.2.2.2.2.2.2.2.2.2.2.2.2.2.2.2.2.1,a.2.2.2.2.2.2.2.2.2.2.2.2.2.2.2.2.2.2.2.2.2.1,a.2.2.2.2.2.2.2.2.2.2.2.2.2.2.2.2.2.2.2.2.2.2.1,a.2.2.2.2.2.2.2.2.2.2.2.2.2.2.2.2.2.2.2.2.2.2.2.1,a.2.2.2.2.2.2.2.2.2.2.2.2.2.2.2.2.2.2.2.2.2.2.2.2.1,a.2.2.2.2.2.2.2.2.2.2.2.2.2.2.2.2.2.2.2.2.2.2.2.2.2))) else (rec_l0 (a.1,a.2.1,a.2.2.1,a.2.2.2.1,wr .i64 (a.2.2.2.2.1+1),a.2.2.2.2.2.1,a.2.2.2.2.2.2.1,a.2.2.2.2.2.2.2.1,a.2.2.2.2.2.2.2.2.1,a.2.2.2.2.2.2.2.2.2.1,a.2.2.2.2.2.2.2.2.2.2.1,a.2.2.2.2.2.2.2.2.2.2.2.1,a.2.2.2.2.2.2.2.2.2.2.2.2.1,a.2.2.2.2.2.2.2.2.2.2.2.2.2.1,a.2.2.2.2.2.2.2.2.2.2.2.2.2.2.1,a.2.2.2.2.2.2.2.2.2.2.2.2.2.2.2.1,a.2.2.2.2.2.2.2.2.2.2.2.2.2.2.2.2.1,a.2.2.2.2.2.2.2.2.2.2.2.2.2.2.2.2.2.1,a.2.2.2.2.2.2.2.2.2.2.2.2.2.2.2.2.2.2.1,a.2.2.2.2.2.2.2.2.2.2.2.2.2.2.2.2.2.2.2.1,a.2.2.2.2.2.2.2.2.2.2.2.2.2.2.2.2.2.2.2.2.1,a.2.2.2.2.2.2.2.2.2.2.2.2.2.2.2.2.2.2.2.2.2.1,a.2.2.2.2.2.2.2.2.2.2.2.2.2.2.2.2.2.2.2.2.2.2.1,a.2.2.2.2.2.2.2.2.2.2.2.2.2.2.2.2.2.2.2.2.2.2.2.1,a.2.2.2.2.2.2.2.2.2.2.2.2.2.2.2.2.2.2.2.2.2.2.2.2.1,a.2.2.2.2.2.2.2.2.2.2.2.2.2.2.2.2.2.2.2.2.2.2.2.2.2))) else (N_l1 (a.1,a.2.1,a.2.2.1,a.2.2.2.1,1,a.2.2.2.2.2.1,a.2.2.2.2.2.2.1,a.2.2.2.2.2.2.2.1,a.2.2.2.2.2.2.2.2.1,a.2.2.2.2.2.2.2.2.2.1,a.2.2.2.2.2.2.2.2.2.2.1,a.2.2.2.2.2.2.2.2.2.2.2.1,a.2.2.2.2.2.2.2.2.2.2.2.2.1,a.2.2.2.2.2.2.2.2.2.2.2.2.2.1,a.2.2.2.2.2.2.2.2.2.2.2.2.2.2.1,a.2.2.2.2.2.2.2.2.2.2.2.2.2.2.2.1,a.2.2.2.2.2.2.2.2.2.2.2.2.2.2.2.2.1,a.2.2.2.2.2.2.2.2.2.2.2.2.2.2.2.2.2.1,a.2.2.2.2.2.2.2.2.2.2.2.2.2.2.2.2.2.2.1,a.2.2.2.2.2.2.2.2.2.2.2.2.2.2.2.2.2.2.2.1,a.2.2.2.2.2.2.2.2.2.2.2.2.2.2.2.2.2.2.2.2.1,a.2.2.2.2.2.2.2.2.2.2.2.2.2.2.2.2.2.2.2.2.2.1,a.2.2.2.2.2.2.2.2.2.2.2.2.2.2.2.2.2.2.2.2.2.2.1,a.2.2.2.2.2.2.2.2.2.2.2.2.2.2.2.2.2.2.2.2.2.2.2.1,a.2.2.2.2.2.2.2.2.2.2.2.2.2.2.2.2.2.2.2.2.2.2.2.2.1,a.2.2.2.2.2.2.2.2.2.2.2.2.2.2.2.2.2.2.2.2.2.2.2.2.2))) else (N_l1 (a.1,a.2.1,a.2.2.1,a.2.2.2.1,1,a.2.2.2.2.2.1,a.2.2.2.2.2.2.1,a.2.2.2.2.2.2.2.1,a.2.2.2.2.2.2.2.2.1,a.2.2.2.2.2.2.2.2.2.1,a.2.2.2.2.2.2.2.2.2.2.1,a.2.2.2.2.2.2.2.2.2.2.2.1,a.2.2.2.2.2.2.2.2.2.2.2.2.1,a.2.2.2.2.2.2.2.2.2.2.2.2.2.1,a.2.2.2.2.2.2.2.2.2.2.2.2.2.2.1,a.2.2.2.2.2.2.2.2.2.2.2.2.2.2.2.1,a.2.2.2.2.2.2.2.2.2.2.2.2.2.2.2.2.1,a.2.2.2.2.2.2.2.2.2.2.2.2.2.2.2.2.2.1,a.2.2.2.2.2.2.2.2.2.2.2.2.2.2.2.2.2.2.1,a.2.2.2.2.2.2.2.2.2.2.2.2.2.2.2.2.2.2.2.1,a.2.2.2.2.2.2.2.2.2.2.2.2.2.2.2.2.2.2.2.2.1,a.2.2.2.2.2.2.2.2.2.2.2.2.2.2.2.2.2.2.2.2.2.1,a.2.2.2.2.2.2.2.2.2.2.2.2.2.2.2.2.2.2.2.2.2.2.1,a.2.2.2.2.2.2.2.2.2.2.2.2.2.2.2.2.2.2.2.2.2.2.2.1,a.2.2.2.2.2.2.2.2.2.2.2.2.2.2.2.2.2.2.2.2.2.2.2.2.1,a.2.2.2.2.2.2.2.2.2.2.2.2.2.2.2.2.2.2.2.2.2.2.2.2.2))) else (N_l1 (a.1,a.2.1,a.2.2.1,a.2.2.2.1,1,a.2.2.2.2.2.1,a.2.2.2.2.2.2.1,a.2.2.2.2.2.2.2.1,a.2.2.2.2.2.2.2.2.1,a.2.2.2.2.2.2.2.2.2.1,a.2.2.2.2.2.2.2.2.2.2.1,a.2.2.2.2.2.2.2.2.2.2.2.1,a.2.2.2.2.2.2.2.2.2.2.2.2.1,a.2.2.2.2.2.2.2.2.2.2.2.2.2.1,a.2.2.2.2.2.2.2.2.2.2.2.2.2.2.1,a.2.2.2.2.2.2.2.2.2.2.2.2.2.2.2.1,a.2.2.2.2.2.2.2.2.2.2.2.2.2.2.2.2.1,a.2.2.2.2.2.2.2.2.2.2.2.2.2.2.2.2.2.1,a.2.2.2.2.2.2.2.2.2.2.2.2.2.2.2.2.2.2.1,a.2.2.2.2.2.2.2.2.2.2.2.2.2.2.2.2.2.2.2.1,a.2.2.2.2.2.2.2.2.2.2.2.2.2.2.2.2.2.2.2.2.1,a.2.2.2.2.2.2.2.2.2.2.2.2.2.2.2.2.2.2.2.2.2.1,a.2.2.2.2.2.2.2.2.2.2.2.2.2.2.2.2.2.2.2.2.2.2.1,a.2.2.2.2.2.2.2.2.2.2.2.2.2.2.2.2.2.2.2.2.2.2.2.1,a.2.2.2.2.2.2.2.2.2.2.2.2.2.2.2.2.2.2.2.2.2.2.2.2.1,a.2.2.2.2.2.2.2.2.2.2.2.2.2.2.2.2.2.2.2.2.2.2.2.2.2))
def l0 (K:Nat)(x:ab ps):A_l0->Option Res:=ae (λrec_l0 a=>l0.step K x (l1 K x) rec_l0 a) K
def pre (K:Nat)(N_l0:A_l0->Option Res)(x:ab ps):Option Res:=bif decide ((AA x.1:Int)>1048576) then (some ((true,()),())) else ((Q119.f K (x.1,())).bind λy1=>(Q169.f K (y1.1.1,y1.1.2.1,())).bind λy2=>(Q179.f K (y1.1.1,y1.1.2.1,())).bind λy3=>(Q170.f K (y2.1.1,y3.1.1,())).bind λy4=>bif !y4.1.1 then (some ((false,()),())) else ((Q157.f K (y1.1.1,())).bind λy5=>(Q178.f K (y1.1.1,())).bind λy6=>bif y5.1.1 != y6.1.1 then (some ((false,()),())) else (bif decide ((AA y2.1.1:Int)>y1.1.2.1) then (bif decide ((AA y2.1.1:Int)>0) then (some ((false,()),())) else ((Q169.f K (y1.1.1,8,())).bind λy7=>N_l0 (y1.1.2.1,y2.1.1,y7.1.1,0,0,y1.1.1.1,y1.1.1.2.1,y1.1.1.2.2.1,y1.1.1.2.2.2.1,y1.1.1.2.2.2.2.1,y1.1.1.2.2.2.2.2.1,y1.1.1.2.2.2.2.2.2.1,y1.1.1.2.2.2.2.2.2.2.1,y1.1.1.2.2.2.2.2.2.2.2.1,y1.1.1.2.2.2.2.2.2.2.2.2.1,y1.1.1.2.2.2.2.2.2.2.2.2.2.1.1,y1.1.1.2.2.2.2.2.2.2.2.2.2.1.2.1,y1.1.1.2.2.2.2.2.2.2.2.2.2.1.2.2.1,y1.1.1.2.2.2.2.2.2.2.2.2.2.1.2.2.2,y1.1.1.2.2.2.2.2.2.2.2.2.2.2.1,y1.1.1.2.2.2.2.2.2.2.2.2.2.2.2.1.1,y1.1.1.2.2.2.2.2.2.2.2.2.2.2.2.1.2.1,y1.1.1.2.2.2.2.2.2.2.2.2.2.2.2.1.2.2.1,y1.1.1.2.2.2.2.2.2.2.2.2.2.2.2.1.2.2.2,y1.1.1.2.2.2.2.2.2.2.2.2.2.2.2.2.1,y1.1.1.2.2.2.2.2.2.2.2.2.2.2.2.2.2))) else ((Q169.f K (y1.1.1,8,())).bind λy25=>N_l0 (y1.1.2.1,y2.1.1,y25.1.1,0,0,y1.1.1.1,y1.1.1.2.1,y1.1.1.2.2.1,y1.1.1.2.2.2.1,y1.1.1.2.2.2.2.1,y1.1.1.2.2.2.2.2.1,y1.1.1.2.2.2.2.2.2.1,y1.1.1.2.2.2.2.2.2.2.1,y1.1.1.2.2.2.2.2.2.2.2.1,y1.1.1.2.2.2.2.2.2.2.2.2.1,y1.1.1.2.2.2.2.2.2.2.2.2.2.1.1,y1.1.1.2.2.2.2.2.2.2.2.2.2.1.2.1,y1.1.1.2.2.2.2.2.2.2.2.2.2.1.2.2.1,y1.1.1.2.2.2.2.2.2.2.2.2.2.1.2.2.2,y1.1.1.2.2.2.2.2.2.2.2.2.2.2.1,y1.1.1.2.2.2.2.2.2.2.2.2.2.2.2.1.1,y1.1.1.2.2.2.2.2.2.2.2.2.2.2.2.1.2.1,y1.1.1.2.2.2.2.2.2.2.2.2.2.2.2.1.2.2.1,y1.1.1.2.2.2.2.2.2.2.2.2.2.2.2.1.2.2.2,y1.1.1.2.2.2.2.2.2.2.2.2.2.2.2.2.1,y1.1.1.2.2.2.2.2.2.2.2.2.2.2.2.2.2)))))
def f (K:Nat)(x:ab ps):Option Res:=pre K (l0 K x) x
def c (K:Nat):Ctr:=⟨3,ps,rs,true,f K⟩
def G (K:Nat):List Ctr:=[Q119.c K,Q169.c K,Q170.c K,Q179.c K,Q157.c K,Q178.c K,Q130.c K,Q182.c K]
def live_l2:List (Nat×List Coe):=[(4,[.keep]),(5,[.own false 3 (.int .i64)]),(6,[.own false 3 (.int .i64)]),(7,[.keep]),(16,[.keep])]
def live_l1:List (Nat×List Coe):=[(3,[.keep]),(4,[.keep]),(5,[.own false 3 (.int .i64)]),(6,[.own false 3 (.int .i64)]),(7,[.keep]),(11,[.keep]),(100003,[.keep,.keep,.keep,.keep,.keep,.keep,.keep,.keep,.ro true 41 t2,.ro true 116 t3,.keep,.keep,.keep,.keep,.ro true 92 t6,.keep,.keep,.keep,.keep,.ro true 45 t11,.ro true 56 t12])]
def live_l0:List (Nat×List Coe):=[(3,[.keep]),(4,[.keep]),(5,[.own false 3 (.int .i64)]),(6,[.own false 3 (.int .i64)]),(7,[.keep]),(8,[.keep]),(100003,[.keep,.keep,.keep,.keep,.keep,.keep,.keep,.keep,.ro true 41 t2,.ro true 116 t3,.keep,.keep,.keep,.keep,.ro true 92 t6,.keep,.keep,.keep,.keep,.ro true 45 t11,.ro true 56 t12])]
def L:List (Nat×List (Nat×List Coe)):=[(24,live_l2),(17,live_l1),(11,live_l0)]
def body:Code:=dh Tryz.f3
abbrev ev (K:Nat):Code->St->(Ex->St->Option Res)->Option Res:=evK (G K) T_D L K
abbrev fin:Ex->St->Option Res:=dy T_D ps rs true Tryz.f3.results.toList
def S_l0 (x:ab ps)(a:A_l0):St:=az [(3,⟨0,.one,[.bp 100003 0]⟩),(4,⟨0,.one,[.int .i64 a.1]⟩),(5,⟨0,.one,[.own false none 3 (.int .i64) a.2.1]⟩),(6,⟨0,.one,[.own false none 3 (.int .i64) a.2.2.1]⟩),(7,⟨0,.one,[.int .i64 a.2.2.2.1]⟩),(8,⟨0,.one,[.int .i64 a.2.2.2.2.1]⟩),(100003,⟨0,.agg,[.int .i64 a.2.2.2.2.2.1,.bool a.2.2.2.2.2.2.1,.bool a.2.2.2.2.2.2.2.1,.bool a.2.2.2.2.2.2.2.2.1,.int .i64 a.2.2.2.2.2.2.2.2.2.1,.int .i64 a.2.2.2.2.2.2.2.2.2.2.1,.int .i64 a.2.2.2.2.2.2.2.2.2.2.2.1,.int .i64 a.2.2.2.2.2.2.2.2.2.2.2.2.1,.ro true 41 t2 a.2.2.2.2.2.2.2.2.2.2.2.2.2.1,.ro true 116 t3 a.2.2.2.2.2.2.2.2.2.2.2.2.2.2.1,.int .i64 a.2.2.2.2.2.2.2.2.2.2.2.2.2.2.2.1,.int .i64 a.2.2.2.2.2.2.2.2.2.2.2.2.2.2.2.2.1,.int .i64 a.2.2.2.2.2.2.2.2.2.2.2.2.2.2.2.2.2.1,.bool a.2.2.2.2.2.2.2.2.2.2.2.2.2.2.2.2.2.2.1,.ro true 92 t6 a.2.2.2.2.2.2.2.2.2.2.2.2.2.2.2.2.2.2.2.1,.int .i64 a.2.2.2.2.2.2.2.2.2.2.2.2.2.2.2.2.2.2.2.2.1,.int .i64 a.2.2.2.2.2.2.2.2.2.2.2.2.2.2.2.2.2.2.2.2.2.1,.int .i64 a.2.2.2.2.2.2.2.2.2.2.2.2.2.2.2.2.2.2.2.2.2.2.1,.int .i64 a.2.2.2.2.2.2.2.2.2.2.2.2.2.2.2.2.2.2.2.2.2.2.2.1,.ro true 45 t11 a.2.2.2.2.2.2.2.2.2.2.2.2.2.2.2.2.2.2.2.2.2.2.2.2.1,.ro true 56 t12 a.2.2.2.2.2.2.2.2.2.2.2.2.2.2.2.2.2.2.2.2.2.2.2.2.2]⟩)]
def S_l1 (x:ab ps)(a:A_l1):St:=az [(3,⟨0,.one,[.bp 100003 0]⟩),(4,⟨0,.one,[.int .i64 a.1]⟩),(5,⟨0,.one,[.own false none 3 (.int .i64) a.2.1]⟩),(6,⟨0,.one,[.own false none 3 (.int .i64) a.2.2.1]⟩),(7,⟨0,.one,[.int .i64 a.2.2.2.1]⟩),(11,⟨0,.one,[.int .i64 a.2.2.2.2.1]⟩),(100003,⟨0,.agg,[.int .i64 a.2.2.2.2.2.1,.bool a.2.2.2.2.2.2.1,.bool a.2.2.2.2.2.2.2.1,.bool a.2.2.2.2.2.2.2.2.1,.int .i64 a.2.2.2.2.2.2.2.2.2.1,.int .i64 a.2.2.2.2.2.2.2.2.2.2.1,.int .i64 a.2.2.2.2.2.2.2.2.2.2.2.1,.int .i64 a.2.2.2.2.2.2.2.2.2.2.2.2.1,.ro true 41 t2 a.2.2.2.2.2.2.2.2.2.2.2.2.2.1,.ro true 116 t3 a.2.2.2.2.2.2.2.2.2.2.2.2.2.2.1,.int .i64 a.2.2.2.2.2.2.2.2.2.2.2.2.2.2.2.1,.int .i64 a.2.2.2.2.2.2.2.2.2.2.2.2.2.2.2.2.1,.int .i64 a.2.2.2.2.2.2.2.2.2.2.2.2.2.2.2.2.2.1,.bool a.2.2.2.2.2.2.2.2.2.2.2.2.2.2.2.2.2.2.1,.ro true 92 t6 a.2.2.2.2.2.2.2.2.2.2.2.2.2.2.2.2.2.2.2.1,.int .i64 a.2.2.2.2.2.2.2.2.2.2.2.2.2.2.2.2.2.2.2.2.1,.int .i64 a.2.2.2.2.2.2.2.2.2.2.2.2.2.2.2.2.2.2.2.2.2.1,.int .i64 a.2.2.2.2.2.2.2.2.2.2.2.2.2.2.2.2.2.2.2.2.2.2.1,.int .i64 a.2.2.2.2.2.2.2.2.2.2.2.2.2.2.2.2.2.2.2.2.2.2.2.1,.ro true 45 t11 a.2.2.2.2.2.2.2.2.2.2.2.2.2.2.2.2.2.2.2.2.2.2.2.2.1,.ro true 56 t12 a.2.2.2.2.2.2.2.2.2.2.2.2.2.2.2.2.2.2.2.2.2.2.2.2.2]⟩)]
def S_l2 (x:ab ps)(a:A_l2):St:=az [(4,⟨0,.one,[.int .i64 a.1]⟩),(5,⟨0,.one,[.own false none 3 (.int .i64) a.2.1]⟩),(6,⟨0,.one,[.own false none 3 (.int .i64) a.2.2.1]⟩),(7,⟨0,.one,[.int .i64 a.2.2.2.1]⟩),(16,⟨0,.one,[.int .i64 a.2.2.2.2]⟩)]
def k_l0 (K:Nat)(x:ab ps):Ex->St->Option Res:=kAt (ev K) body [1,1,1,1,1,1,1,0,1,0] fin
def N_l0 (K:Nat)(x:ab ps):A_l0->Option Res:=λa=>bt live_l0 (ev K (sub body [1,1,1,1,1,1,1,0,1,0,0])) K (S_l0 x a) (k_l0 K x)
def k_l1 (K:Nat)(x:ab ps):Ex->St->Option Res:=kAt (ev K) body [1,1,1,1,1,1,1,1,0,1,0] fin
def N_l1 (K:Nat)(x:ab ps):A_l1->Option Res:=λa=>bt live_l1 (ev K (sub body [1,1,1,1,1,1,1,1,0,1,0,0])) K (S_l1 x a) (k_l1 K x)
def k_l2 (K:Nat)(x:ab ps):Ex->St->Option Res:=kAt (ev K) body [1,1,1,1,1,1,1,1,1,0,1,0] fin
def N_l2 (K:Nat)(x:ab ps):A_l2->Option Res:=λa=>bt live_l2 (ev K (sub body [1,1,1,1,1,1,1,1,1,0,1,0,0])) K (S_l2 x a) (k_l2 K x)
end Q183
end
end Go.Proofs.YtmcbmojdeikcdaaGreatEv
