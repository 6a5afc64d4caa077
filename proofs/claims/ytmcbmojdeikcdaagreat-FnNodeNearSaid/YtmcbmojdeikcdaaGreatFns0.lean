/- The functions, on plain values. Printed by run3.py. -/
import Derived.Test.YtmcbmojdeikcdaaGreatProg
import Derived.Test.YtmcbmojdeikcdaaGreatE0
set_option linter.unusedVariables false
set_option maxRecDepth 100000
set_option linter.unusedVariables false
set_option linter.unusedSimpArgs false
open Int renaming toNat->AB,tdiv->AC,tmod->AD,fdiv->AE
open List renaming length->AA
namespace Go.Proofs.YtmcbmojdeikcdaaGreatEv
open Go Go.Proofs
noncomputable section
abbrev t0:Ty:=.pair (.int .i64) .bool
abbrev t1:Ty:=.pair (.int .i64) t0
abbrev t2:Ty:=.pair (.int .i64) t1
abbrev t3:Ty:=.pair t2 (.int .i64)
abbrev t4:Ty:=.pair (.int .i64) (.list false 3 (.int .i64))
abbrev t5:Ty:=.pair (.int .i64) t4
abbrev t6:Ty:=.pair (.int .i64) t5
abbrev t7:Ty:=.pair (.int .i64) (.int .i64)
abbrev t8:Ty:=.pair (.int .i64) t7
abbrev t9:Ty:=.pair (.int .i64) t8
abbrev t10:Ty:=.pair t9 (.list false 3 (.int .i64))
abbrev t11:Ty:=.pair (.int .i64) t10
abbrev t12:Ty:=.pair (.int .i64) (.list false 41 t2)
abbrev t13:Ty:=.pair (.list false 45 t11) (.list false 56 t12)
abbrev t14:Ty:=.pair t9 t13
abbrev t15:Ty:=.pair (.list false 92 t6) t14
abbrev t16:Ty:=.pair t2 t15
abbrev t17:Ty:=.pair (.list false 116 t3) t16
abbrev t18:Ty:=.pair (.list false 41 t2) t17
abbrev t19:Ty:=.pair (.int .i64) t18
abbrev t20:Ty:=.pair (.int .i64) t19
abbrev t21:Ty:=.pair (.int .i64) t20
abbrev t22:Ty:=.pair (.int .i64) t21
abbrev t23:Ty:=.pair .bool t22
abbrev t24:Ty:=.pair .bool t23
abbrev t25:Ty:=.pair .bool t24
abbrev t26:Ty:=.pair (.int .i64) t25
abbrev t27:Ty:=.pair (.list true 92 t6) t14
abbrev t28:Ty:=.pair t2 t27
abbrev t29:Ty:=.pair (.list false 116 t3) t28
abbrev t30:Ty:=.pair (.list false 41 t2) t29
abbrev t31:Ty:=.pair (.int .i64) t30
abbrev t32:Ty:=.pair (.int .i64) t31
abbrev t33:Ty:=.pair (.int .i64) t32
abbrev t34:Ty:=.pair (.int .i64) t33
abbrev t35:Ty:=.pair .bool t34
abbrev t36:Ty:=.pair .bool t35
abbrev t37:Ty:=.pair .bool t36
abbrev t38:Ty:=.pair (.int .i64) t37
abbrev t39:Ty:=.pair .str .bool
abbrev t40:Ty:=.pair (.int .i64) t39
abbrev t41:Ty:=.pair t9 (.list false 41 t2)
abbrev t42:Ty:=.pair (.int .i64) t41
abbrev t43:Ty:=.pair (.int .i64) t42
abbrev t44:Ty:=.pair (.int .i64) t43
abbrev t45:Ty:=.pair (.int .i64) t44
abbrev t46:Ty:=.pair (.int .i64) t45
abbrev t47:Ty:=.pair (.int .i64) t46
abbrev t48:Ty:=.pair (.list false 5 (.int .u8)) (.int .i64)
abbrev t49:Ty:=.pair (.list true 45 t11) (.list true 56 t12)
abbrev t50:Ty:=.pair t9 t49
abbrev t51:Ty:=.pair (.list true 92 t6) t50
abbrev t52:Ty:=.pair t2 t51
abbrev t53:Ty:=.pair (.list true 116 t3) t52
abbrev t54:Ty:=.pair (.list true 41 t2) t53
abbrev t55:Ty:=.pair (.int .i64) t54
abbrev t56:Ty:=.pair (.int .i64) t55
abbrev t57:Ty:=.pair (.int .i64) t56
abbrev t58:Ty:=.pair (.int .i64) t57
abbrev t59:Ty:=.pair .bool t58
abbrev t60:Ty:=.pair .bool t59
abbrev t61:Ty:=.pair .bool t60
abbrev t62:Ty:=.pair (.int .i64) t61
abbrev t63:Ty:=.pair (.list false 3 (.int .i64)) (.list false 41 t2)
abbrev t64:Ty:=.pair (.list false 101 t40) t63
abbrev t65:Ty:=.pair (.list false 33 t26) t64
abbrev t66:Ty:=.pair (.list true 3 (.int .i64)) (.list false 41 t2)
abbrev t67:Ty:=.pair (.list true 101 t40) t66
abbrev t68:Ty:=.pair (.list true 33 t38) t67
abbrev t69:Ty:=.pair t9 (.list true 41 t2)
abbrev t70:Ty:=.pair (.int .i64) t69
abbrev t71:Ty:=.pair (.int .i64) t70
abbrev t72:Ty:=.pair (.int .i64) t71
abbrev t73:Ty:=.pair (.int .i64) t72
abbrev t74:Ty:=.pair (.int .i64) t73
abbrev t75:Ty:=.pair (.int .i64) t74
abbrev t76:Ty:=.pair (.list true 33 t26) t67
abbrev t77:Ty:=.pair (.int .i64) (.list true 3 (.int .i64))
abbrev t78:Ty:=.pair (.int .i64) t77
abbrev t79:Ty:=.pair (.int .i64) t78
abbrev t80:Ty:=.pair t9 (.list true 3 (.int .i64))
abbrev t81:Ty:=.pair (.int .i64) t80
abbrev t82:Ty:=.pair (.int .i64) (.list true 41 t2)
abbrev t83:Ty:=.pair (.list true 45 t81) (.list true 56 t82)
abbrev t84:Ty:=.pair t9 t83
abbrev t85:Ty:=.pair (.list true 92 t79) t84
abbrev t86:Ty:=.pair t2 t85
abbrev t87:Ty:=.pair (.list true 116 t3) t86
abbrev t88:Ty:=.pair (.list true 41 t2) t87
abbrev t89:Ty:=.pair (.int .i64) t88
abbrev t90:Ty:=.pair (.int .i64) t89
abbrev t91:Ty:=.pair (.int .i64) t90
abbrev t92:Ty:=.pair (.int .i64) t91
abbrev t93:Ty:=.pair .bool t92
abbrev t94:Ty:=.pair .bool t93
abbrev t95:Ty:=.pair .bool t94
abbrev t96:Ty:=.pair (.int .i64) t95
abbrev ty_impl_Probe_D:Ty:=t2
abbrev ty_impl_Coord_D:Ty:=t9
abbrev ty_impl_Node_D:Ty:=t96
abbrev ty_impl_Fact_D:Ty:=t2
abbrev ty_impl_Place_D:Ty:=t81
abbrev ty_impl_Foreign_D:Ty:=t82
abbrev ty_impl_Doubt_D:Ty:=t79
abbrev ty_impl_Flight_D:Ty:=t40
abbrev ty_impl_Item_D:Ty:=t3
abbrev ty_impl_Word_D:Ty:=t75
abbrev ty_impl_Event_D:Ty:=t2
abbrev ty_impl_Probe_S:Ty:=t2
abbrev ty_impl_Coord_S:Ty:=t9
abbrev ty_impl_Node_S:Ty:=t26
abbrev ty_impl_Fact_S:Ty:=t2
abbrev ty_impl_Place_S:Ty:=t11
abbrev ty_impl_Foreign_S:Ty:=t12
abbrev ty_impl_World_S:Ty:=t65
abbrev ty_impl_Doubt_S:Ty:=t6
abbrev ty_impl_Flight_S:Ty:=t40
abbrev ty_spec_l1Rd_S:Ty:=t48
abbrev ty_impl_Item_S:Ty:=t3
abbrev ty_impl_Word_S:Ty:=t47
abbrev ty_impl_Event_S:Ty:=t2
abbrev ty_impl_Probe_NS:Ty:=t2
abbrev ty_impl_Coord_NS:Ty:=t9
abbrev ty_impl_Node_NS:Ty:=t38
abbrev ty_impl_Fact_NS:Ty:=t2
abbrev ty_impl_Place_NS:Ty:=t11
abbrev ty_impl_Foreign_NS:Ty:=t12
abbrev ty_impl_World_NS:Ty:=t68
abbrev ty_impl_Doubt_NS:Ty:=t6
abbrev ty_impl_Flight_NS:Ty:=t40
abbrev ty_spec_l1Rd_NS:Ty:=t48
abbrev ty_impl_Item_NS:Ty:=t3
abbrev ty_impl_Word_NS:Ty:=t47
abbrev ty_impl_Event_NS:Ty:=t2
abbrev ty_impl_Probe_ND:Ty:=t2
abbrev ty_impl_Coord_ND:Ty:=t9
abbrev ty_impl_Node_ND:Ty:=t62
abbrev ty_impl_Fact_ND:Ty:=t2
abbrev ty_impl_Place_ND:Ty:=t11
abbrev ty_impl_Foreign_ND:Ty:=t12
abbrev ty_impl_Doubt_ND:Ty:=t6
abbrev ty_impl_Flight_ND:Ty:=t40
abbrev ty_spec_l1Rd_ND:Ty:=t48
abbrev ty_impl_Item_ND:Ty:=t3
abbrev ty_impl_Word_ND:Ty:=t47
abbrev ty_impl_Event_ND:Ty:=t2
abbrev ty_impl_Probe_WT:Ty:=t2
abbrev ty_impl_Coord_WT:Ty:=t9
abbrev ty_impl_Node_WT:Ty:=t26
abbrev ty_impl_Fact_WT:Ty:=t2
abbrev ty_impl_Place_WT:Ty:=t11
abbrev ty_impl_Foreign_WT:Ty:=t12
abbrev ty_impl_Doubt_WT:Ty:=t6
abbrev ty_impl_Flight_WT:Ty:=t40
abbrev ty_spec_l1Rd_WT:Ty:=t48
abbrev ty_impl_Item_WT:Ty:=t3
abbrev ty_impl_Word_WT:Ty:=t47
abbrev ty_impl_Event_WT:Ty:=t2
abbrev ty_impl_Probe_WF:Ty:=t2
abbrev ty_impl_Coord_WF:Ty:=t9
abbrev ty_impl_Node_WF:Ty:=t26
abbrev ty_impl_Fact_WF:Ty:=t2
abbrev ty_impl_Place_WF:Ty:=t11
abbrev ty_impl_Foreign_WF:Ty:=t12
abbrev ty_impl_World_WF:Ty:=t65
abbrev ty_impl_Doubt_WF:Ty:=t6
abbrev ty_impl_Flight_WF:Ty:=t40
abbrev ty_spec_l1Rd_WF:Ty:=t48
abbrev ty_impl_Item_WF:Ty:=t3
abbrev ty_impl_Word_WF:Ty:=t75
abbrev ty_impl_Event_WF:Ty:=t2
abbrev ty_impl_Probe_NT:Ty:=t2
abbrev ty_impl_Coord_NT:Ty:=t9
abbrev ty_impl_Node_NT:Ty:=t26
abbrev ty_impl_Fact_NT:Ty:=t2
abbrev ty_impl_Place_NT:Ty:=t11
abbrev ty_impl_Foreign_NT:Ty:=t12
abbrev ty_impl_World_NT:Ty:=t76
abbrev ty_impl_Doubt_NT:Ty:=t6
abbrev ty_impl_Flight_NT:Ty:=t40
abbrev ty_spec_l1Rd_NT:Ty:=t48
abbrev ty_impl_Item_NT:Ty:=t3
abbrev ty_impl_Word_NT:Ty:=t47
abbrev ty_impl_Event_NT:Ty:=t2
abbrev ty_impl_Probe_NL:Ty:=t2
abbrev ty_impl_Coord_NL:Ty:=t9
abbrev ty_impl_Fact_NL:Ty:=t2
abbrev ty_impl_Place_NL:Ty:=t81
abbrev ty_impl_Foreign_NL:Ty:=t12
abbrev ty_impl_Doubt_NL:Ty:=t79
abbrev ty_impl_Flight_NL:Ty:=t40
abbrev ty_impl_Item_NL:Ty:=t3
abbrev ty_impl_Word_NL:Ty:=t75
abbrev ty_impl_Event_NL:Ty:=t2
def Tl_D:List (TypeId×TI):=[(3,.int .i64),(4,.bool),(22,.slice 5 (.int .u8) 1),(23,.slice 41 t2 32),(24,.slice 116 t3 40),(26,.struct t2 [(0,1,false),(1,1,false),(2,1,false),(3,1,false)]),(27,.slice 92 t79 48),(29,.struct t9 [(0,1,false),(1,1,false),(2,1,false),(3,1,false)]),(30,.slice 45 t81 64),(31,.slice 56 t82 32),(33,.struct t96 [(0,1,false),(1,1,false),(2,1,false),(3,1,false),(4,1,false),(5,1,false),(6,1,false),(7,1,false),(8,1,false),(9,1,false),(10,4,true),(14,1,false),(15,4,true),(19,1,false),(20,1,false)]),(36,.slice 3 (.int .i64) 8),(41,.struct t2 [(0,1,false),(1,1,false),(2,1,false),(3,1,false)]),(45,.struct t81 [(0,1,false),(1,4,true),(5,1,false)]),(56,.struct t82 [(0,1,false),(1,1,false)]),(74,.fn),(77,.fn),(84,.fn),(92,.struct t79 [(0,1,false),(1,1,false),(2,1,false),(3,1,false)]),(93,.fn),(116,.struct t3 [(0,4,true),(4,1,false)]),(117,.fn),(120,.fn),(143,.int .u64)]
def T_D (t:TypeId):TI:=gS Tl_D t
def Tl_ND:List (TypeId×TI):=[(3,.int .i64),(23,.slice 41 t2 32),(24,.slice 116 t3 40),(27,.slice 92 t6 48),(30,.slice 45 t11 64),(31,.slice 56 t12 32),(33,.struct t62 [(0,1,false),(1,1,false),(2,1,false),(3,1,false),(4,1,false),(5,1,false),(6,1,false),(7,1,false),(8,1,false),(9,1,false),(10,4,true),(14,1,false),(15,4,true),(19,1,false),(20,1,false)]),(36,.slice 3 (.int .i64) 8),(45,.struct t11 [(0,1,false),(1,4,true),(5,1,false)]),(56,.struct t12 [(0,1,false),(1,1,false)]),(92,.struct t6 [(0,1,false),(1,1,false),(2,1,false),(3,1,false)])]
def T_ND (t:TypeId):TI:=gS Tl_ND t
def Tl_NS:List (TypeId×TI):=[(3,.int .i64),(4,.bool),(5,.int .u8),(9,.str),(22,.slice 5 (.int .u8) 1),(23,.slice 41 t2 32),(24,.slice 116 t3 40),(26,.struct t2 [(0,1,false),(1,1,false),(2,1,false),(3,1,false)]),(27,.slice 92 t6 48),(29,.struct t9 [(0,1,false),(1,1,false),(2,1,false),(3,1,false)]),(30,.slice 45 t11 64),(31,.slice 56 t12 32),(33,.struct t38 [(0,1,false),(1,1,false),(2,1,false),(3,1,false),(4,1,false),(5,1,false),(6,1,false),(7,1,false),(8,1,false),(9,1,false),(10,4,true),(14,1,false),(15,4,true),(19,1,false),(20,1,false)]),(36,.slice 3 (.int .i64) 8),(41,.struct t2 [(0,1,false),(1,1,false),(2,1,false),(3,1,false)]),(45,.struct t11 [(0,1,false),(1,4,true),(5,1,false)]),(56,.struct t12 [(0,1,false),(1,1,false)]),(59,.slice 33 t38 232),(60,.slice 101 t40 32),(62,.struct t68 [(0,1,false),(1,1,false),(2,1,false),(3,1,false)]),(92,.struct t6 [(0,1,false),(1,1,false),(2,1,false),(3,1,false)]),(101,.struct t40 [(0,1,false),(1,1,false),(2,1,false)]),(133,.struct t47 [(0,1,false),(1,1,false),(2,1,false),(3,1,false),(4,1,false),(5,1,false),(6,4,true),(10,1,false)]),(135,.slice 133 t47 104),(171,.struct t2 [(0,1,false),(1,1,false),(2,1,false),(3,1,false)])]
def T_NS (t:TypeId):TI:=gS Tl_NS t
def Tl_NT:List (TypeId×TI):=[(3,.int .i64),(4,.bool),(23,.slice 41 t2 32),(33,.struct t26 [(0,1,false),(1,1,false),(2,1,false),(3,1,false),(4,1,false),(5,1,false),(6,1,false),(7,1,false),(8,1,false),(9,1,false),(10,4,true),(14,1,false),(15,4,true),(19,1,false),(20,1,false)]),(36,.slice 3 (.int .i64) 8),(41,.struct t2 [(0,1,false),(1,1,false),(2,1,false),(3,1,false)]),(59,.slice 33 t26 232),(62,.struct t76 [(0,1,false),(1,1,false),(2,1,false),(3,1,false)]),(135,.slice 133 t47 104),(171,.struct t2 [(0,1,false),(1,1,false),(2,1,false),(3,1,false)])]
def T_NT (t:TypeId):TI:=gS Tl_NT t
def Tl_S:List (TypeId×TI):=[(3,.int .i64),(4,.bool),(5,.int .u8),(9,.str),(22,.slice 5 (.int .u8) 1),(23,.slice 41 t2 32),(24,.slice 116 t3 40),(26,.struct t2 [(0,1,false),(1,1,false),(2,1,false),(3,1,false)]),(27,.slice 92 t6 48),(29,.struct t9 [(0,1,false),(1,1,false),(2,1,false),(3,1,false)]),(30,.slice 45 t11 64),(31,.slice 56 t12 32),(33,.struct t26 [(0,1,false),(1,1,false),(2,1,false),(3,1,false),(4,1,false),(5,1,false),(6,1,false),(7,1,false),(8,1,false),(9,1,false),(10,4,true),(14,1,false),(15,4,true),(19,1,false),(20,1,false)]),(36,.slice 3 (.int .i64) 8),(41,.struct t2 [(0,1,false),(1,1,false),(2,1,false),(3,1,false)]),(45,.struct t11 [(0,1,false),(1,4,true),(5,1,false)]),(56,.struct t12 [(0,1,false),(1,1,false)]),(59,.slice 33 t26 232),(60,.slice 101 t40 32),(62,.struct t65 [(0,1,false),(1,1,false),(2,1,false),(3,1,false)]),(65,.ptr),(74,.fn),(92,.struct t6 [(0,1,false),(1,1,false),(2,1,false),(3,1,false)]),(101,.struct t40 [(0,1,false),(1,1,false),(2,1,false)]),(107,.struct t48 [(0,1,false),(1,1,false)]),(116,.struct t3 [(0,4,true),(4,1,false)]),(133,.struct t47 [(0,1,false),(1,1,false),(2,1,false),(3,1,false),(4,1,false),(5,1,false),(6,4,true),(10,1,false)]),(135,.slice 133 t47 104),(146,.slice 171 t2 32),(171,.struct t2 [(0,1,false),(1,1,false),(2,1,false),(3,1,false)]),(197,.slice 9 .str 16),(229,.slice 4 .bool 1)]
def T_S (t:TypeId):TI:=gS Tl_S t
namespace Q0
abbrev ps:List PK:=[.rd (.int .i64)]
abbrev rs:List RK:=[.v .str]
abbrev Res:=ak rs×aj ps
def step (g:ab ps->Option Res)(x:ab ps):Option Res:=bif decide (x.1<(-9223372036854775807)) then (some (((ByteArray.mk #[45,57,50,50,51,51,55,50,48,51,54,56,53,52,55,55,53,56,48,56]),()),())) else (bif decide (x.1<0) then ((g (wr .i64 (0-x.1),())).bind λy1=>aT (ByteArray.mk #[45]) y1.1.1 λy2=>some ((y2,()),())) else (bif decide (x.1<10) then (some ((fT ([wr .u8 (wr .i64 (48+x.1))]),()),())) else ((g (wr .i64 (AC x.1 10),())).bind λy3=>aT y3.1.1 (fT ([wr .u8 (wr .i64 (48+(AD x.1 10)))])) λy4=>some ((y4,()),()))))
def f (K:Nat)(x:ab ps):Option Res:=Nat.rec (motive:=λ_=>ab ps->Option Res) (λ_=>none) (λ_ g x=>step g x) K x
def c (K:Nat):Ctr:=⟨214,ps,rs,true,f K⟩
end Q0
namespace Q1
abbrev ps:List PK:=[.rd (.list false 45 t11)]
abbrev rs:List RK:=[.v (.list true 45 t11)]
abbrev Res:=ak rs×aj ps
def f (K:Nat)(x:ab ps):Option Res:=gU t11 64 x.1
def c (K:Nat):Ctr:=⟨41,ps,rs,false,f K⟩
end Q1
namespace Q2
abbrev ps:List PK:=[.rd (.list false 3 (.int .i64))]
abbrev rs:List RK:=[.v (.list true 3 (.int .i64))]
abbrev Res:=ak rs×aj ps
def f (K:Nat)(x:ab ps):Option Res:=gU (.int .i64) 8 x.1
def c (K:Nat):Ctr:=⟨103,ps,rs,true,f K⟩
end Q2
namespace Q3
abbrev ps:List PK:=[.rd (.list false 5 (.int .u8))]
abbrev rs:List RK:=[.box t48]
abbrev Res:=ak rs×aj ps
def f (K:Nat)(x:ab ps):Option Res:=bif decide ((AA x.1:Int)>2000) then (bif decide (0<=0)&&decide (0<=2000)&&decide (2000<=(AA x.1:Int))&&true then (some ((((x.1.take (AB 2000)).drop (AB 0),0),()),())) else none) else (some (((x.1,0),()),()))
def c (K:Nat):Ctr:=⟨36,ps,rs,false,f K⟩
end Q3
namespace Q4
abbrev ps:List PK:=[.iop t48,.rd (.int .i64)]
abbrev rs:List RK:=[.v (.int .i64)]
abbrev Res:=ak rs×aj ps
def f (K:Nat)(x:ab ps):Option Res:=bif decide (x.2.1<1) then (some ((0,()),((x.1.1,wr .i64 (x.1.2+1)),()))) else (bif (AA x.1.1:Int)==0 then (some ((0,()),((x.1.1,wr .i64 (x.1.2+1)),()))) else (bif decide ((wr .i64 ((wr .i64 (x.1.2+1))-1))<(AA x.1.1:Int)) then ((idx x.1.1 (wr .i64 ((wr .i64 (x.1.2+1))-1))).bind λy1=>bif decide (x.2.1=0) then none else (some ((AD (wr .i64 y1) x.2.1,()),((x.1.1,wr .i64 (x.1.2+1)),())))) else (bif decide ((AA x.1.1:Int)=0) then none else ((idx x.1.1 (AD (wr .i64 ((wr .i64 (x.1.2+1))-1)) (AA x.1.1:Int))).bind λy2=>bif decide ((AA x.1.1:Int)=0) then none else ((idx x.1.1 (AD (wr .i64 ((wr .i64 ((wr .i64 ((wr .i64 (x.1.2+1))-1))*7))+3)) (AA x.1.1:Int))).bind λy3=>bif decide ((AA x.1.1:Int)=0) then none else (bif decide (x.2.1=0) then none else (some ((AD (pa .i64 (wr .i64 ((wr .i64 ((wr .i64 ((wr .i64 ((wr .i64 y2)*131))+(wr .i64 ((wr .i64 y3)*1117))))+(wr .i64 ((wr .i64 ((wr .i64 (x.1.2+1))-1))*29))))+(wr .i64 ((wr .i64 (AC (wr .i64 ((wr .i64 (x.1.2+1))-1)) (AA x.1.1:Int)))*53)))) (wr .i64 (AC (wr .i64 ((wr .i64 ((wr .i64 ((wr .i64 ((wr .i64 y2)*131))+(wr .i64 ((wr .i64 y3)*1117))))+(wr .i64 ((wr .i64 ((wr .i64 (x.1.2+1))-1))*29))))+(wr .i64 ((wr .i64 (AC (wr .i64 ((wr .i64 (x.1.2+1))-1)) (AA x.1.1:Int)))*53)))) 64))) x.2.1,()),((x.1.1,wr .i64 (x.1.2+1)),())))))))))
def c (K:Nat):Ctr:=⟨38,ps,rs,false,f K⟩
end Q4
namespace Q5
abbrev ps:List PK:=[.rd t26]
abbrev rs:List RK:=[.v t62]
abbrev Res:=ak rs×aj ps
abbrev A_l2:=Int×List (Ty.den t6)×List (Ty.den t11)×List (Ty.den t12)
abbrev A_l1:=Int×List (Ty.den t6)×List (Ty.den t11)
abbrev A_l0:=Int×List (Ty.den t6)
def l2.step (K:Nat)(x:ab ps)(rec_l2:A_l2->Option Res)(a:A_l2):Option Res:=bif decide (a.1<(AA x.1.2.2.2.2.2.2.2.2.2.2.2.2.2.2:Int)) then ((idx x.1.2.2.2.2.2.2.2.2.2.2.2.2.2.2 a.1).bind λy3=>bif decide ((AA ([]:List (Ty.den t2))+AA y3.2)*32<=ah) then (bif decide ((AA a.2.2.2+AA ([(y3.1,[]++y3.2)]))*32<=ah) then (rec_l2 (wr .i64 (a.1+1),a.2.1,a.2.2.1,a.2.2.2++([(y3.1,[]++y3.2)]))) else none) else none) else (some (((x.1.1,(x.1.2.1,(x.1.2.2.1,(x.1.2.2.2.1,(x.1.2.2.2.2.1,(x.1.2.2.2.2.2.1,(x.1.2.2.2.2.2.2.1,(x.1.2.2.2.2.2.2.2.1,([]++x.1.2.2.2.2.2.2.2.2.1,([]++x.1.2.2.2.2.2.2.2.2.2.1,(x.1.2.2.2.2.2.2.2.2.2.2.1,(a.2.1,(x.1.2.2.2.2.2.2.2.2.2.2.2.2.1,a.2.2))))))))))))),()),()))
def l2 (K:Nat)(x:ab ps):A_l2->Option Res:=ae (λrec_l2 a=>l2.step K x rec_l2 a) K
def l1.step (K:Nat)(x:ab ps)(N_l2:A_l2->Option Res)(rec_l1:A_l1->Option Res)(a:A_l1):Option Res:=bif decide (a.1<(AA x.1.2.2.2.2.2.2.2.2.2.2.2.2.2.1:Int)) then ((idx x.1.2.2.2.2.2.2.2.2.2.2.2.2.2.1 a.1).bind λy2=>bif decide ((AA ([]:List (Ty.den (.int .i64)))+AA y2.2.2)*8<=ah) then (bif decide ((AA a.2.2+AA ([(y2.1,(y2.2.1,[]++y2.2.2))]))*64<=ah) then (rec_l1 (wr .i64 (a.1+1),a.2.1,a.2.2++([(y2.1,(y2.2.1,[]++y2.2.2))]))) else none) else none) else (N_l2 (0,a.2.1,a.2.2,[]))
def l1 (K:Nat)(x:ab ps):A_l1->Option Res:=ae (λrec_l1 a=>l1.step K x (l2 K x) rec_l1 a) K
def l0.step (K:Nat)(x:ab ps)(N_l1:A_l1->Option Res)(rec_l0:A_l0->Option Res)(a:A_l0):Option Res:=bif decide (a.1<(AA x.1.2.2.2.2.2.2.2.2.2.2.2.1:Int)) then ((idx x.1.2.2.2.2.2.2.2.2.2.2.2.1 a.1).bind λy1=>bif decide ((AA ([]:List (Ty.den (.int .i64)))+AA y1.2.2.2)*8<=ah) then (bif decide ((AA a.2+AA ([(y1.1,(y1.2.1,(y1.2.2.1,[]++y1.2.2.2)))]))*48<=ah) then (rec_l0 (wr .i64 (a.1+1),a.2++([(y1.1,(y1.2.1,(y1.2.2.1,[]++y1.2.2.2)))]))) else none) else none) else (N_l1 (0,a.2,[]))
def l0 (K:Nat)(x:ab ps):A_l0->Option Res:=ae (λrec_l0 a=>l0.step K x (l1 K x) rec_l0 a) K
def pre (K:Nat)(N_l0:A_l0->Option Res)(x:ab ps):Option Res:=bif decide ((AA ([]:List (Ty.den t2))+AA x.1.2.2.2.2.2.2.2.2.1)*32<=ah) then (bif decide ((AA ([]:List (Ty.den t3))+AA x.1.2.2.2.2.2.2.2.2.2.1)*40<=ah) then (N_l0 (0,[])) else none) else none
def f (K:Nat)(x:ab ps):Option Res:=pre K (l0 K x) x
def c (K:Nat):Ctr:=⟨132,ps,rs,true,f K⟩
def G (K:Nat):List Ctr:=[]
def live_l2:List (Nat×List Coe):=[(1,[.keep]),(2,[.keep]),(3,[.keep]),(8,[.keep]),(100001,[.keep,.keep,.keep,.keep,.keep,.keep,.keep,.keep,.ro true 41 t2,.ro true 116 t3,.keep,.keep,.keep,.keep,.ro true 92 t6,.keep,.keep,.keep,.keep,.ro true 45 t11,.ro true 56 t12]),(100002,[.keep,.keep,.keep,.keep,.keep,.keep,.keep,.keep,.keep,.keep,.keep,.keep,.keep,.keep,.keep,.keep,.keep,.keep,.keep,.keep,.keep]),(100003,[.keep,.keep,.keep,.keep,.keep,.keep,.keep,.keep,.own false 41 t2,.own false 116 t3,.keep,.keep,.keep,.keep,.own false 92 t6,.keep,.keep,.keep,.keep,.own false 45 t11,.own false 56 t12])]
def live_l1:List (Nat×List Coe):=[(1,[.keep]),(2,[.keep]),(3,[.keep]),(6,[.keep]),(100001,[.keep,.keep,.keep,.keep,.keep,.keep,.keep,.keep,.ro true 41 t2,.ro true 116 t3,.keep,.keep,.keep,.keep,.ro true 92 t6,.keep,.keep,.keep,.keep,.ro true 45 t11,.ro true 56 t12]),(100002,[.keep,.keep,.keep,.keep,.keep,.keep,.keep,.keep,.keep,.keep,.keep,.keep,.keep,.keep,.keep,.keep,.keep,.keep,.keep,.keep,.keep]),(100003,[.keep,.keep,.keep,.keep,.keep,.keep,.keep,.keep,.own false 41 t2,.own false 116 t3,.keep,.keep,.keep,.keep,.own false 92 t6,.keep,.keep,.keep,.keep,.own false 45 t11,.ro true 56 t12])]
def live_l0:List (Nat×List Coe):=[(1,[.keep]),(2,[.keep]),(3,[.keep]),(4,[.keep]),(100001,[.keep,.keep,.keep,.keep,.keep,.keep,.keep,.keep,.ro true 41 t2,.ro true 116 t3,.keep,.keep,.keep,.keep,.ro true 92 t6,.keep,.keep,.keep,.keep,.ro true 45 t11,.ro true 56 t12]),(100002,[.keep,.keep,.keep,.keep,.keep,.keep,.keep,.keep,.keep,.keep,.keep,.keep,.keep,.keep,.keep,.keep,.keep,.keep,.keep,.keep,.keep]),(100003,[.keep,.keep,.keep,.keep,.keep,.keep,.keep,.keep,.own false 41 t2,.own false 116 t3,.keep,.keep,.keep,.keep,.own false 92 t6,.keep,.keep,.keep,.keep,.ro true 45 t11,.ro true 56 t12])]
def L:List (Nat×List (Nat×List Coe)):=[(21,live_l2),(14,live_l1),(7,live_l0)]
def body:Code:=dh Tryz.f132
abbrev ev (K:Nat):Code->St->(Ex->St->Option Res)->Option Res:=evK (G K) T_ND L K
abbrev fin:Ex->St->Option Res:=dy T_ND ps rs true Tryz.f132.results.toList
def S_l0 (x:ab ps)(a:A_l0):St:=az [(1,⟨0,.one,[.bp 100001 0]⟩),(2,⟨0,.one,[.bp 100002 0]⟩),(3,⟨0,.one,[.bp 100003 0]⟩),(4,⟨0,.one,[.int .i64 a.1]⟩),(100001,⟨0,.agg,[.int .i64 x.1.1,.bool x.1.2.1,.bool x.1.2.2.1,.bool x.1.2.2.2.1,.int .i64 x.1.2.2.2.2.1,.int .i64 x.1.2.2.2.2.2.1,.int .i64 x.1.2.2.2.2.2.2.1,.int .i64 x.1.2.2.2.2.2.2.2.1,.ro true 41 t2 x.1.2.2.2.2.2.2.2.2.1,.ro true 116 t3 x.1.2.2.2.2.2.2.2.2.2.1,.int .i64 x.1.2.2.2.2.2.2.2.2.2.2.1.1,.int .i64 x.1.2.2.2.2.2.2.2.2.2.2.1.2.1,.int .i64 x.1.2.2.2.2.2.2.2.2.2.2.1.2.2.1,.bool x.1.2.2.2.2.2.2.2.2.2.2.1.2.2.2,.ro true 92 t6 x.1.2.2.2.2.2.2.2.2.2.2.2.1,.int .i64 x.1.2.2.2.2.2.2.2.2.2.2.2.2.1.1,.int .i64 x.1.2.2.2.2.2.2.2.2.2.2.2.2.1.2.1,.int .i64 x.1.2.2.2.2.2.2.2.2.2.2.2.2.1.2.2.1,.int .i64 x.1.2.2.2.2.2.2.2.2.2.2.2.2.1.2.2.2,.ro true 45 t11 x.1.2.2.2.2.2.2.2.2.2.2.2.2.2.1,.ro true 56 t12 x.1.2.2.2.2.2.2.2.2.2.2.2.2.2.2]⟩),(100002,⟨0,.agg,[.int .i64 0,.bool false,.bool false,.bool false,.int .i64 0,.int .i64 0,.int .i64 0,.int .i64 0,.nil,.nil,.int .i64 0,.int .i64 0,.int .i64 0,.bool false,.nil,.int .i64 0,.int .i64 0,.int .i64 0,.int .i64 0,.nil,.nil]⟩),(100003,⟨0,.agg,[.int .i64 x.1.1,.bool x.1.2.1,.bool x.1.2.2.1,.bool x.1.2.2.2.1,.int .i64 x.1.2.2.2.2.1,.int .i64 x.1.2.2.2.2.2.1,.int .i64 x.1.2.2.2.2.2.2.1,.int .i64 x.1.2.2.2.2.2.2.2.1,.own false none 41 t2 ([]++x.1.2.2.2.2.2.2.2.2.1),.own false none 116 t3 ([]++x.1.2.2.2.2.2.2.2.2.2.1),.int .i64 x.1.2.2.2.2.2.2.2.2.2.2.1.1,.int .i64 x.1.2.2.2.2.2.2.2.2.2.2.1.2.1,.int .i64 x.1.2.2.2.2.2.2.2.2.2.2.1.2.2.1,.bool x.1.2.2.2.2.2.2.2.2.2.2.1.2.2.2,.own false none 92 t6 a.2,.int .i64 x.1.2.2.2.2.2.2.2.2.2.2.2.2.1.1,.int .i64 x.1.2.2.2.2.2.2.2.2.2.2.2.2.1.2.1,.int .i64 x.1.2.2.2.2.2.2.2.2.2.2.2.2.1.2.2.1,.int .i64 x.1.2.2.2.2.2.2.2.2.2.2.2.2.1.2.2.2,.ro true 45 t11 x.1.2.2.2.2.2.2.2.2.2.2.2.2.2.1,.ro true 56 t12 x.1.2.2.2.2.2.2.2.2.2.2.2.2.2.2]⟩)]
def S_l1 (x:ab ps)(a:A_l1):St:=az [(1,⟨0,.one,[.bp 100001 0]⟩),(2,⟨0,.one,[.bp 100002 0]⟩),(3,⟨0,.one,[.bp 100003 0]⟩),(6,⟨0,.one,[.int .i64 a.1]⟩),(100001,⟨0,.agg,[.int .i64 x.1.1,.bool x.1.2.1,.bool x.1.2.2.1,.bool x.1.2.2.2.1,.int .i64 x.1.2.2.2.2.1,.int .i64 x.1.2.2.2.2.2.1,.int .i64 x.1.2.2.2.2.2.2.1,.int .i64 x.1.2.2.2.2.2.2.2.1,.ro true 41 t2 x.1.2.2.2.2.2.2.2.2.1,.ro true 116 t3 x.1.2.2.2.2.2.2.2.2.2.1,.int .i64 x.1.2.2.2.2.2.2.2.2.2.2.1.1,.int .i64 x.1.2.2.2.2.2.2.2.2.2.2.1.2.1,.int .i64 x.1.2.2.2.2.2.2.2.2.2.2.1.2.2.1,.bool x.1.2.2.2.2.2.2.2.2.2.2.1.2.2.2,.ro true 92 t6 x.1.2.2.2.2.2.2.2.2.2.2.2.1,.int .i64 x.1.2.2.2.2.2.2.2.2.2.2.2.2.1.1,.int .i64 x.1.2.2.2.2.2.2.2.2.2.2.2.2.1.2.1,.int .i64 x.1.2.2.2.2.2.2.2.2.2.2.2.2.1.2.2.1,.int .i64 x.1.2.2.2.2.2.2.2.2.2.2.2.2.1.2.2.2,.ro true 45 t11 x.1.2.2.2.2.2.2.2.2.2.2.2.2.2.1,.ro true 56 t12 x.1.2.2.2.2.2.2.2.2.2.2.2.2.2.2]⟩),(100002,⟨0,.agg,[.int .i64 0,.bool false,.bool false,.bool false,.int .i64 0,.int .i64 0,.int .i64 0,.int .i64 0,.nil,.nil,.int .i64 0,.int .i64 0,.int .i64 0,.bool false,.nil,.int .i64 0,.int .i64 0,.int .i64 0,.int .i64 0,.nil,.nil]⟩),(100003,⟨0,.agg,[.int .i64 x.1.1,.bool x.1.2.1,.bool x.1.2.2.1,.bool x.1.2.2.2.1,.int .i64 x.1.2.2.2.2.1,.int .i64 x.1.2.2.2.2.2.1,.int .i64 x.1.2.2.2.2.2.2.1,.int .i64 x.1.2.2.2.2.2.2.2.1,.own false none 41 t2 ([]++x.1.2.2.2.2.2.2.2.2.1),.own false none 116 t3 ([]++x.1.2.2.2.2.2.2.2.2.2.1),.int .i64 x.1.2.2.2.2.2.2.2.2.2.2.1.1,.int .i64 x.1.2.2.2.2.2.2.2.2.2.2.1.2.1,.int .i64 x.1.2.2.2.2.2.2.2.2.2.2.1.2.2.1,.bool x.1.2.2.2.2.2.2.2.2.2.2.1.2.2.2,.own false none 92 t6 a.2.1,.int .i64 x.1.2.2.2.2.2.2.2.2.2.2.2.2.1.1,.int .i64 x.1.2.2.2.2.2.2.2.2.2.2.2.2.1.2.1,.int .i64 x.1.2.2.2.2.2.2.2.2.2.2.2.2.1.2.2.1,.int .i64 x.1.2.2.2.2.2.2.2.2.2.2.2.2.1.2.2.2,.own false none 45 t11 a.2.2,.ro true 56 t12 x.1.2.2.2.2.2.2.2.2.2.2.2.2.2.2]⟩)]
def S_l2 (x:ab ps)(a:A_l2):St:=az [(1,⟨0,.one,[.bp 100001 0]⟩),(2,⟨0,.one,[.bp 100002 0]⟩),(3,⟨0,.one,[.bp 100003 0]⟩),(8,⟨0,.one,[.int .i64 a.1]⟩),(100001,⟨0,.agg,[.int .i64 x.1.1,.bool x.1.2.1,.bool x.1.2.2.1,.bool x.1.2.2.2.1,.int .i64 x.1.2.2.2.2.1,.int .i64 x.1.2.2.2.2.2.1,.int .i64 x.1.2.2.2.2.2.2.1,.int .i64 x.1.2.2.2.2.2.2.2.1,.ro true 41 t2 x.1.2.2.2.2.2.2.2.2.1,.ro true 116 t3 x.1.2.2.2.2.2.2.2.2.2.1,.int .i64 x.1.2.2.2.2.2.2.2.2.2.2.1.1,.int .i64 x.1.2.2.2.2.2.2.2.2.2.2.1.2.1,.int .i64 x.1.2.2.2.2.2.2.2.2.2.2.1.2.2.1,.bool x.1.2.2.2.2.2.2.2.2.2.2.1.2.2.2,.ro true 92 t6 x.1.2.2.2.2.2.2.2.2.2.2.2.1,.int .i64 x.1.2.2.2.2.2.2.2.2.2.2.2.2.1.1,.int .i64 x.1.2.2.2.2.2.2.2.2.2.2.2.2.1.2.1,.int .i64 x.1.2.2.2.2.2.2.2.2.2.2.2.2.1.2.2.1,.int .i64 x.1.2.2.2.2.2.2.2.2.2.2.2.2.1.2.2.2,.ro true 45 t11 x.1.2.2.2.2.2.2.2.2.2.2.2.2.2.1,.ro true 56 t12 x.1.2.2.2.2.2.2.2.2.2.2.2.2.2.2]⟩),(100002,⟨0,.agg,[.int .i64 0,.bool false,.bool false,.bool false,.int .i64 0,.int .i64 0,.int .i64 0,.int .i64 0,.nil,.nil,.int .i64 0,.int .i64 0,.int .i64 0,.bool false,.nil,.int .i64 0,.int .i64 0,.int .i64 0,.int .i64 0,.nil,.nil]⟩),(100003,⟨0,.agg,[.int .i64 x.1.1,.bool x.1.2.1,.bool x.1.2.2.1,.bool x.1.2.2.2.1,.int .i64 x.1.2.2.2.2.1,.int .i64 x.1.2.2.2.2.2.1,.int .i64 x.1.2.2.2.2.2.2.1,.int .i64 x.1.2.2.2.2.2.2.2.1,.own false none 41 t2 ([]++x.1.2.2.2.2.2.2.2.2.1),.own false none 116 t3 ([]++x.1.2.2.2.2.2.2.2.2.2.1),.int .i64 x.1.2.2.2.2.2.2.2.2.2.2.1.1,.int .i64 x.1.2.2.2.2.2.2.2.2.2.2.1.2.1,.int .i64 x.1.2.2.2.2.2.2.2.2.2.2.1.2.2.1,.bool x.1.2.2.2.2.2.2.2.2.2.2.1.2.2.2,.own false none 92 t6 a.2.1,.int .i64 x.1.2.2.2.2.2.2.2.2.2.2.2.2.1.1,.int .i64 x.1.2.2.2.2.2.2.2.2.2.2.2.2.1.2.1,.int .i64 x.1.2.2.2.2.2.2.2.2.2.2.2.2.1.2.2.1,.int .i64 x.1.2.2.2.2.2.2.2.2.2.2.2.2.1.2.2.2,.own false none 45 t11 a.2.2.1,.own false none 56 t12 a.2.2.2]⟩)]
def k_l0 (K:Nat)(x:ab ps):Ex->St->Option Res:=kAt (ev K) body [1,1,1,1,1,0,1,0] fin
def N_l0 (K:Nat)(x:ab ps):A_l0->Option Res:=λa=>bt live_l0 (ev K (sub body [1,1,1,1,1,0,1,0,0])) K (S_l0 x a) (k_l0 K x)
def k_l1 (K:Nat)(x:ab ps):Ex->St->Option Res:=kAt (ev K) body [1,1,1,1,1,1,1,0,1,0] fin
def N_l1 (K:Nat)(x:ab ps):A_l1->Option Res:=λa=>bt live_l1 (ev K (sub body [1,1,1,1,1,1,1,0,1,0,0])) K (S_l1 x a) (k_l1 K x)
def k_l2 (K:Nat)(x:ab ps):Ex->St->Option Res:=kAt (ev K) body [1,1,1,1,1,1,1,1,1,0,1,0] fin
def N_l2 (K:Nat)(x:ab ps):A_l2->Option Res:=λa=>bt live_l2 (ev K (sub body [1,1,1,1,1,1,1,1,1,0,1,0,0])) K (S_l2 x a) (k_l2 K x)
end Q5
namespace Q6
abbrev ps:List PK:=[.rd t65]
abbrev rs:List RK:=[.v t68]
abbrev Res:=ak rs×aj ps
abbrev A_l0:=Int×List (Ty.den t38)
def l0.step (K:Nat)(x:ab ps)(rec_l0:A_l0->Option Res)(a:A_l0):Option Res:=bif decide (a.1<(AA x.1.1:Int)) then ((idx x.1.1 a.1).bind λy1=>(Q5.f K (y1,())).bind λy2=>bif decide ((AA a.2+AA ([y2.1.1]))*232<=ah) then (rec_l0 (wr .i64 (a.1+1),a.2++([y2.1.1]))) else none) else (some (((a.2,([]++x.1.2.1,([]++x.1.2.2.1,[]++x.1.2.2.2))),()),()))
def l0 (K:Nat)(x:ab ps):A_l0->Option Res:=ae (λrec_l0 a=>l0.step K x rec_l0 a) K
def pre (K:Nat)(N_l0:A_l0->Option Res)(x:ab ps):Option Res:=bif decide ((AA ([]:List (Ty.den t40))+AA x.1.2.1)*32<=ah) then (bif decide ((AA ([]:List (Ty.den (.int .i64)))+AA x.1.2.2.1)*8<=ah) then (bif decide ((AA ([]:List (Ty.den t2))+AA x.1.2.2.2)*32<=ah) then (N_l0 (0,[])) else none) else none) else none
def f (K:Nat)(x:ab ps):Option Res:=pre K (l0 K x) x
def c (K:Nat):Ctr:=⟨94,ps,rs,true,f K⟩
end Q6
namespace Q7
abbrev ps:List PK:=[.rd (.int .i64),.rd (.int .i64),.rd (.int .i64)]
abbrev rs:List RK:=[.v .bool]
abbrev Res:=ak rs×aj ps
def f (K:Nat)(x:ab ps):Option Res:=bif decide (x.1>=x.2.1) then (some ((decide (x.1<=x.2.2.1),()),())) else (some ((false,()),()))
def c (K:Nat):Ctr:=⟨59,ps,rs,true,f K⟩
end Q7
namespace Q8
abbrev ps:List PK:=[]
abbrev rs:List RK:=[.v t9]
abbrev Res:=ak rs×aj ps
def f (K:Nat)(x:ab ps):Option Res:=some (((0,(0,(0,1500))),()),())
def c (K:Nat):Ctr:=⟨79,ps,rs,true,f K⟩
end Q8
namespace Q9
abbrev ps:List PK:=[.rd (.int .i64),.rd .bool]
abbrev rs:List RK:=[.v t26]
abbrev Res:=ak rs×aj ps
def f (K:Nat)(x:ab ps):Option Res:=(Q7.f K (x.1,0,7,())).bind λy1=>bif !y1.1.1 then (some (((0,(false,(false,(false,(0,(0,(0,(0,([],([],((0,(0,(0,false))),([],((0,(0,(0,0))),([],[])))))))))))))),()),())) else ((Q8.f K ()).bind λy2=>some (((x.1,(true,(false,(x.2.1,(0,(0,(0,(0,([(x.1,(0,(1,x.2.1)))],([],(((-1),(0,(0,false))),([],(y2.1.1,([],[])))))))))))))),()),()))
def c (K:Nat):Ctr:=⟨26,ps,rs,true,f K⟩
end Q9
namespace Q10
abbrev ps:List PK:=[.rd (.int .i64)]
abbrev rs:List RK:=[.v .bool]
abbrev Res:=ak rs×aj ps
def f (K:Nat)(x:ab ps):Option Res:=some ((decide ((AD x.1 4)<3),()),())
def c (K:Nat):Ctr:=⟨91,ps,rs,true,f K⟩
end Q10
namespace Q11
abbrev ps:List PK:=[]
abbrev rs:List RK:=[.v t65]
abbrev Res:=ak rs×aj ps
abbrev A_l0:=Int×List (Ty.den t26)×List (Ty.den (.int .i64))×List (Ty.den t2)
def l0.step (K:Nat)(x:ab ps)(rec_l0:A_l0->Option Res)(a:A_l0):Option Res:=bif decide (a.1<=7) then ((Q10.f K (a.1,())).bind λy1=>(Q9.f K (a.1,y1.1.1,())).bind λy2=>bif decide ((AA a.2.1+AA ([y2.1.1]))*232<=ah) then (bif decide ((AA a.2.2.1+AA ([0]))*8<=ah) then ((idx y2.1.1.2.2.2.2.2.2.2.2.1 0).bind λy3=>bif decide ((AA a.2.2.2+AA ([y3]))*32<=ah) then (rec_l0 (wr .i64 (a.1+1),a.2.1++([y2.1.1]),a.2.2.1++([0]),a.2.2.2++([y3]))) else none) else none) else none) else (some (((a.2.1,([],a.2.2)),()),()))
def l0 (K:Nat)(x:ab ps):A_l0->Option Res:=ae (λrec_l0 a=>l0.step K x rec_l0 a) K
def pre (K:Nat)(N_l0:A_l0->Option Res)(x:ab ps):Option Res:=N_l0 (0,[],[],[])
def f (K:Nat)(x:ab ps):Option Res:=pre K (l0 K x) x
def c (K:Nat):Ctr:=⟨178,ps,rs,true,f K⟩
end Q11
namespace Q12
abbrev ps:List PK:=[.rd t2]
abbrev rs:List RK:=[.v .bool]
abbrev Res:=ak rs×aj ps
def f (K:Nat)(x:ab ps):Option Res:=(Q7.f K (x.1.1,0,7,())).bind λy1=>bif y1.1.1 then ((Q7.f K (x.1.2.1,0,999,())).bind λy2=>bif y2.1.1 then ((Q7.f K (x.1.2.2.1,1,4,())).bind λy3=>some ((y3.1.1,()),())) else (some ((false,()),()))) else (some ((false,()),()))
def c (K:Nat):Ctr:=⟨92,ps,rs,true,f K⟩
end Q12
namespace Q13
abbrev ps:List PK:=[.rd (.list false 41 t2)]
abbrev rs:List RK:=[.v .bool]
abbrev Res:=ak rs×aj ps
abbrev A_l0:=Int
def l0.step (K:Nat)(x:ab ps)(rec_l0:A_l0->Option Res)(a:A_l0):Option Res:=bif decide (a<(AA x.1:Int)) then ((idx x.1 a).bind λy1=>(Q12.f K (y1,())).bind λy2=>bif !y2.1.1 then (some ((false,()),())) else (bif decide (a>0) then ((idx x.1 (wr .i64 (a-1))).bind λy3=>(idx x.1 a).bind λy4=>bif decide (y3.1>=y4.1) then (some ((false,()),())) else (rec_l0 (wr .i64 (a+1)))) else (rec_l0 (wr .i64 (a+1))))) else (some ((true,()),()))
def l0 (K:Nat)(x:ab ps):A_l0->Option Res:=ae (λrec_l0 a=>l0.step K x rec_l0 a) K
def pre (K:Nat)(N_l0:A_l0->Option Res)(x:ab ps):Option Res:=N_l0 0
def f (K:Nat)(x:ab ps):Option Res:=pre K (l0 K x) x
def c (K:Nat):Ctr:=⟨60,ps,rs,true,f K⟩
end Q13
namespace Q14
abbrev ps:List PK:=[.rd (.list false 41 t2),.rd (.int .i64)]
abbrev rs:List RK:=[.v .bool]
abbrev Res:=ak rs×aj ps
abbrev A_l0:=Int
def l0.step (K:Nat)(x:ab ps)(rec_l0:A_l0->Option Res)(a:A_l0):Option Res:=bif decide (a<(AA x.1:Int)) then ((idx x.1 a).bind λy1=>bif (wr .i64 (AC y1.1 4)) != x.2.1 then (some ((false,()),())) else (rec_l0 (wr .i64 (a+1)))) else (some ((true,()),()))
def l0 (K:Nat)(x:ab ps):A_l0->Option Res:=ae (λrec_l0 a=>l0.step K x rec_l0 a) K
def pre (K:Nat)(N_l0:A_l0->Option Res)(x:ab ps):Option Res:=N_l0 0
def f (K:Nat)(x:ab ps):Option Res:=pre K (l0 K x) x
def c (K:Nat):Ctr:=⟨61,ps,rs,true,f K⟩
end Q14
namespace Q15
abbrev ps:List PK:=[.rd t9]
abbrev rs:List RK:=[.v .bool]
abbrev Res:=ak rs×aj ps
def f (K:Nat)(x:ab ps):Option Res:=(Q7.f K (x.1.1,(-100000),100000,())).bind λy1=>bif y1.1.1 then ((Q7.f K (x.1.2.1,(-100000),100000,())).bind λy2=>bif y2.1.1 then ((Q7.f K (x.1.2.2.1,0,100000,())).bind λy3=>bif y3.1.1 then ((Q7.f K (x.1.2.2.2,1,1500,())).bind λy4=>some ((y4.1.1,()),())) else (some ((false,()),()))) else (some ((false,()),()))) else (some ((false,()),()))
def c (K:Nat):Ctr:=⟨66,ps,rs,true,f K⟩
end Q15
namespace Q16
abbrev ps:List PK:=[.rd t47]
abbrev rs:List RK:=[.v .bool]
abbrev Res:=ak rs×aj ps
def f (K:Nat)(x:ab ps):Option Res:=(Q7.f K (x.1.1,1,2,())).bind λy1=>bif !y1.1.1 then (some ((false,()),())) else ((Q7.f K (x.1.2.1,1,6,())).bind λy2=>bif !y2.1.1 then (some ((false,()),())) else ((Q7.f K (x.1.2.2.1,0,7,())).bind λy3=>bif !y3.1.1 then (some ((false,()),())) else ((Q7.f K (x.1.2.2.2.1,0,7,())).bind λy4=>bif !y4.1.1 then (some ((false,()),())) else ((Q7.f K (x.1.2.2.2.2.1,0,999999,())).bind λy5=>bif !y5.1.1 then (some ((false,()),())) else ((Q7.f K (x.1.2.2.2.2.2.1,0,7,())).bind λy6=>bif !y6.1.1 then (some ((false,()),())) else ((Q15.f K (x.1.2.2.2.2.2.2.1,())).bind λy7=>bif !y7.1.1 then (some ((false,()),())) else ((Q13.f K (x.1.2.2.2.2.2.2.2,())).bind λy8=>bif !y8.1.1 then (some ((false,()),())) else (bif x.1.2.1==6 then (bif decide ((AA x.1.2.2.2.2.2.2.2:Int)>0) then ((idx x.1.2.2.2.2.2.2.2 0).bind λy9=>(Q14.f K (x.1.2.2.2.2.2.2.2,wr .i64 (AC y9.1 4),())).bind λy10=>some ((y10.1.1,()),())) else (some ((false,()),()))) else ((Q14.f K (x.1.2.2.2.2.2.2.2,wr .i64 (AC x.1.2.2.1 4),())).bind λy11=>some ((y11.1.1,()),()))))))))))
def c (K:Nat):Ctr:=⟨186,ps,rs,true,f K⟩
end Q16
namespace Q17
abbrev ps:List PK:=[.rd (.int .i64)]
abbrev rs:List RK:=[.v .str]
abbrev Res:=ak rs×aj ps
def f (K:Nat)(x:ab ps):Option Res:=(idx ([(ByteArray.mk #[]),(ByteArray.mk #[112,105,110,103]),(ByteArray.mk #[97,99,107]),(ByteArray.mk #[97,115,107]),(ByteArray.mk #[115,121,110,99]),(ByteArray.mk #[98,97,99,107]),(ByteArray.mk #[115,117,109])]) x.1).bind λ_=>(idx ([(ByteArray.mk #[]),(ByteArray.mk #[112,105,110,103]),(ByteArray.mk #[97,99,107]),(ByteArray.mk #[97,115,107]),(ByteArray.mk #[115,121,110,99]),(ByteArray.mk #[98,97,99,107]),(ByteArray.mk #[115,117,109])]) (AB x.1:Nat)).bind λy2=>some ((y2,()),())
def c (K:Nat):Ctr:=⟨206,ps,rs,true,f K⟩
end Q17
namespace Q18
abbrev ps:List PK:=[.rd (.int .i64)]
abbrev rs:List RK:=[.v .str]
abbrev Res:=ak rs×aj ps
def f (K:Nat)(x:ab ps):Option Res:=bif decide (x.1<0) then ((Q0.f K (wr .i64 (0-x.1),())).bind λy1=>aT (ByteArray.mk #[45]) y1.1.1 λy2=>some ((y2,()),())) else ((Q0.f K (x.1,())).bind λy3=>aT (ByteArray.mk #[43]) y3.1.1 λy4=>some ((y4,()),()))
def c (K:Nat):Ctr:=⟨215,ps,rs,true,f K⟩
end Q18
namespace Q19
abbrev ps:List PK:=[.rd (.int .i64)]
abbrev rs:List RK:=[.v .str]
abbrev Res:=ak rs×aj ps
def f (K:Nat)(x:ab ps):Option Res:=(idx ([(ByteArray.mk #[]),(ByteArray.mk #[97,108,105,118,101]),(ByteArray.mk #[115,117,115,112,101,99,116]),(ByteArray.mk #[100,101,97,100]),(ByteArray.mk #[108,101,102,116])]) x.1).bind λ_=>(idx ([(ByteArray.mk #[]),(ByteArray.mk #[97,108,105,118,101]),(ByteArray.mk #[115,117,115,112,101,99,116]),(ByteArray.mk #[100,101,97,100]),(ByteArray.mk #[108,101,102,116])]) (AB x.1:Nat)).bind λy2=>some ((y2,()),())
def c (K:Nat):Ctr:=⟨249,ps,rs,true,f K⟩
end Q19
namespace Q20
abbrev ps:List PK:=[.rd (.list false 41 t2)]
abbrev rs:List RK:=[.v .str]
abbrev Res:=ak rs×aj ps
abbrev A_l0:=ByteArray×Int
def l0.step (K:Nat)(x:ab ps)(rec_l0:A_l0->Option Res)(a:A_l0):Option Res:=bif decide (a.2<(AA x.1:Int)) then (bif decide (a.2>0) then (aT a.1 (ByteArray.mk #[44]) λy1=>(idx x.1 a.2).bind λy2=>(Q0.f K (y2.1,())).bind λy3=>aT y1 y3.1.1 λy4=>aT y4 (ByteArray.mk #[58]) λy5=>(idx x.1 a.2).bind λy6=>(Q0.f K (y6.2.1,())).bind λy7=>aT y5 y7.1.1 λy8=>aT y8 (ByteArray.mk #[58]) λy9=>(idx x.1 a.2).bind λy10=>(Q19.f K (y10.2.2.1,())).bind λy11=>aT y9 y11.1.1 λy12=>(idx x.1 a.2).bind λy13=>bif y13.2.2.2 then (aT y12 (ByteArray.mk #[42]) λy14=>rec_l0 (y14,wr .i64 (a.2+1))) else (rec_l0 (y12,wr .i64 (a.2+1)))) else ((idx x.1 a.2).bind λy15=>(Q0.f K (y15.1,())).bind λy16=>aT a.1 y16.1.1 λy17=>aT y17 (ByteArray.mk #[58]) λy18=>(idx x.1 a.2).bind λy19=>(Q0.f K (y19.2.1,())).bind λy20=>aT y18 y20.1.1 λy21=>aT y21 (ByteArray.mk #[58]) λy22=>(idx x.1 a.2).bind λy23=>(Q19.f K (y23.2.2.1,())).bind λy24=>aT y22 y24.1.1 λy25=>(idx x.1 a.2).bind λy26=>bif y26.2.2.2 then (aT y25 (ByteArray.mk #[42]) λy27=>rec_l0 (y27,wr .i64 (a.2+1))) else (rec_l0 (y25,wr .i64 (a.2+1))))) else (some ((a.1,()),()))
def l0 (K:Nat)(x:ab ps):A_l0->Option Res:=ae (λrec_l0 a=>l0.step K x rec_l0 a) K
def pre (K:Nat)(N_l0:A_l0->Option Res)(x:ab ps):Option Res:=N_l0 ((ByteArray.mk #[]),0)
def f (K:Nat)(x:ab ps):Option Res:=pre K (l0 K x) x
def c (K:Nat):Ctr:=⟨238,ps,rs,true,f K⟩
end Q20
namespace Q21
abbrev ps:List PK:=[.rd (.list false 41 t2)]
abbrev rs:List RK:=[.v .str]
abbrev Res:=ak rs×aj ps
def f (K:Nat)(x:ab ps):Option Res:=(Q13.f K (x.1,())).bind λy1=>bif !y1.1.1 then (some (((ByteArray.mk #[]),()),())) else (bif (AA x.1:Int)==0 then (some (((ByteArray.mk #[45]),()),())) else ((Q20.f K (x.1,())).bind λy2=>some ((y2.1.1,()),())))
def c (K:Nat):Ctr:=⟨216,ps,rs,true,f K⟩
end Q21
namespace Q22
abbrev ps:List PK:=[.rd t47]
abbrev rs:List RK:=[.v .str]
abbrev Res:=ak rs×aj ps
def f (K:Nat)(x:ab ps):Option Res:=bif x.1.1==2 then (aT (ByteArray.mk #[119,97,110]) (ByteArray.mk #[32]) λy1=>(Q17.f K (x.1.2.1,())).bind λy2=>aT y1 y2.1.1 λy3=>aT y3 (ByteArray.mk #[32]) λy4=>(Q0.f K (x.1.2.2.1,())).bind λy5=>aT y4 y5.1.1 λy6=>aT y6 (ByteArray.mk #[32]) λy7=>(Q0.f K (x.1.2.2.2.1,())).bind λy8=>aT y7 y8.1.1 λy9=>aT y9 (ByteArray.mk #[32]) λy10=>(Q0.f K (x.1.2.2.2.2.1,())).bind λy11=>aT y10 y11.1.1 λy12=>aT y12 (ByteArray.mk #[32]) λy13=>(Q0.f K (x.1.2.2.2.2.2.1,())).bind λy14=>aT y13 y14.1.1 λy15=>aT y15 (ByteArray.mk #[32]) λy16=>(Q18.f K (x.1.2.2.2.2.2.2.1.1,())).bind λy17=>aT y16 y17.1.1 λy18=>aT y18 (ByteArray.mk #[32]) λy19=>(Q18.f K (x.1.2.2.2.2.2.2.1.2.1,())).bind λy20=>aT y19 y20.1.1 λy21=>aT y21 (ByteArray.mk #[32]) λy22=>(Q0.f K (x.1.2.2.2.2.2.2.1.2.2.1,())).bind λy23=>aT y22 y23.1.1 λy24=>aT y24 (ByteArray.mk #[32]) λy25=>(Q0.f K (x.1.2.2.2.2.2.2.1.2.2.2,())).bind λy26=>aT y25 y26.1.1 λy27=>aT y27 (ByteArray.mk #[32]) λy28=>(Q21.f K (x.1.2.2.2.2.2.2.2,())).bind λy29=>aT y28 y29.1.1 λy30=>some ((y30,()),())) else (aT (ByteArray.mk #[108,97,110]) (ByteArray.mk #[32]) λy31=>(Q17.f K (x.1.2.1,())).bind λy32=>aT y31 y32.1.1 λy33=>aT y33 (ByteArray.mk #[32]) λy34=>(Q0.f K (x.1.2.2.1,())).bind λy35=>aT y34 y35.1.1 λy36=>aT y36 (ByteArray.mk #[32]) λy37=>(Q0.f K (x.1.2.2.2.1,())).bind λy38=>aT y37 y38.1.1 λy39=>aT y39 (ByteArray.mk #[32]) λy40=>(Q0.f K (x.1.2.2.2.2.1,())).bind λy41=>aT y40 y41.1.1 λy42=>aT y42 (ByteArray.mk #[32]) λy43=>(Q0.f K (x.1.2.2.2.2.2.1,())).bind λy44=>aT y43 y44.1.1 λy45=>aT y45 (ByteArray.mk #[32]) λy46=>(Q18.f K (x.1.2.2.2.2.2.2.1.1,())).bind λy47=>aT y46 y47.1.1 λy48=>aT y48 (ByteArray.mk #[32]) λy49=>(Q18.f K (x.1.2.2.2.2.2.2.1.2.1,())).bind λy50=>aT y49 y50.1.1 λy51=>aT y51 (ByteArray.mk #[32]) λy52=>(Q0.f K (x.1.2.2.2.2.2.2.1.2.2.1,())).bind λy53=>aT y52 y53.1.1 λy54=>aT y54 (ByteArray.mk #[32]) λy55=>(Q0.f K (x.1.2.2.2.2.2.2.1.2.2.2,())).bind λy56=>aT y55 y56.1.1 λy57=>aT y57 (ByteArray.mk #[32]) λy58=>(Q21.f K (x.1.2.2.2.2.2.2.2,())).bind λy59=>aT y58 y59.1.1 λy60=>some ((y60,()),()))
def c (K:Nat):Ctr:=⟨187,ps,rs,true,f K⟩
end Q22
namespace Q23
abbrev ps:List PK:=[.rd (.int .i64)]
abbrev rs:List RK:=[.v .str]
abbrev Res:=ak rs×aj ps
abbrev A_l0:=List (Ty.den (.int .u8))×Int
def l0.step (K:Nat)(x:ab ps)(rec_l0:A_l0->Option Res)(a:A_l0):Option Res:=bif decide (a.2>=0) then (bif decide ((wr .i64 (4*a.2))<0) then none else ((idx (ByteArray.mk #[48,49,50,51,52,53,54,55,56,57,97,98,99,100,101,102]).data.toList (bh .i64 (AE x.1 (2 ^ (min (AB (wr .i64 (4*a.2))) 64))) 15)).bind λy1=>bif decide ((AA a.1+AA ([(y1.toNat:Int)]))*1<=ah) then (rec_l0 (a.1++([(y1.toNat:Int)]),wr .i64 (a.2-1))) else none)) else (some ((fT a.1,()),()))
def l0 (K:Nat)(x:ab ps):A_l0->Option Res:=ae (λrec_l0 a=>l0.step K x rec_l0 a) K
def pre (K:Nat)(N_l0:A_l0->Option Res)(x:ab ps):Option Res:=N_l0 ([],7)
def f (K:Nat)(x:ab ps):Option Res:=pre K (l0 K x) x
def c (K:Nat):Ctr:=⟨188,ps,rs,true,f K⟩
end Q23
namespace Q24
abbrev ps:List PK:=[.rd (.int .i64)]
abbrev rs:List RK:=[.v (.int .i64)]
abbrev Res:=ak rs×aj ps
abbrev A_l0:=Int×Int
def l0.step (K:Nat)(x:ab ps)(rec_l0:A_l0->Option Res)(a:A_l0):Option Res:=bif decide (a.2<8) then (bif (bh .i64 a.1 1)==1 then (rec_l0 (pa .i64 (AE a.1 (2 ^ 1)) 3988292384,wr .i64 (a.2+1))) else (rec_l0 (AE a.1 (2 ^ 1),wr .i64 (a.2+1)))) else (some ((a.1,()),()))
def l0 (K:Nat)(x:ab ps):A_l0->Option Res:=ae (λrec_l0 a=>l0.step K x rec_l0 a) K
def pre (K:Nat)(N_l0:A_l0->Option Res)(x:ab ps):Option Res:=N_l0 (x.1,0)
def f (K:Nat)(x:ab ps):Option Res:=pre K (l0 K x) x
def c (K:Nat):Ctr:=⟨217,ps,rs,true,f K⟩
end Q24
namespace Q25
abbrev ps:List PK:=[.rd .str]
abbrev rs:List RK:=[.v (.int .i64)]
abbrev Res:=ak rs×aj ps
abbrev A_l0:=Int×Int
def l0.step (K:Nat)(x:ab ps)(rec_l0:A_l0->Option Res)(a:A_l0):Option Res:=bif decide (a.2<(x.1.size:Int)) then ((idx x.1.data.toList a.2).bind λy1=>(Q24.f K (pa .i64 a.1 (wr .i64 (y1.toNat:Int)),())).bind λy2=>rec_l0 (y2.1.1,wr .i64 (a.2+1))) else (some ((pa .i64 a.1 4294967295,()),()))
def l0 (K:Nat)(x:ab ps):A_l0->Option Res:=ae (λrec_l0 a=>l0.step K x rec_l0 a) K
def pre (K:Nat)(N_l0:A_l0->Option Res)(x:ab ps):Option Res:=N_l0 (4294967295,0)
def f (K:Nat)(x:ab ps):Option Res:=pre K (l0 K x) x
def c (K:Nat):Ctr:=⟨189,ps,rs,true,f K⟩
end Q25
namespace Q26
abbrev ps:List PK:=[.rd t47]
abbrev rs:List RK:=[.v .str]
abbrev Res:=ak rs×aj ps
def f (K:Nat)(x:ab ps):Option Res:=(Q16.f K (x.1,())).bind λy1=>bif !y1.1.1 then (some (((ByteArray.mk #[]),()),())) else ((Q22.f K (x.1,())).bind λy2=>aT y2.1.1 (ByteArray.mk #[32]) λy3=>(Q25.f K (y2.1.1,())).bind λy4=>(Q23.f K (y4.1.1,())).bind λy5=>aT y3 y5.1.1 λy6=>some ((y6,()),()))
def c (K:Nat):Ctr:=⟨161,ps,rs,true,f K⟩
end Q26
namespace Q27
abbrev ps:List PK:=[.rd t65,.rd (.int .i64),.rd (.list false 133 t47)]
abbrev rs:List RK:=[.v t65]
abbrev Res:=ak rs×aj ps
abbrev A_l0:=Int×List (Ty.den t40)
def l0.step (K:Nat)(x:ab ps)(rec_l0:A_l0->Option Res)(a:A_l0):Option Res:=bif decide (a.1<(AA x.2.2.1:Int)) then (bif decide ((AA a.2:Int)<60) then ((idx x.1.2.2.1 x.2.1).bind λy1=>(idx x.2.2.1 a.1).bind λy2=>(idx x.1.2.2.1 y2.2.2.2.1).bind λy3=>bif y1==y3 then (bif decide ((AA ([]:List (Ty.den t40))+AA a.2)*32<=ah) then ((idx x.2.2.1 a.1).bind λy4=>(idx x.2.2.1 a.1).bind λy5=>(Q26.f K (y5,())).bind λy6=>bif decide ((AA ([]++a.2)+AA ([(y4.2.2.2.1,(y6.1.1,false))]))*32<=ah) then (rec_l0 (wr .i64 (a.1+1),([]++a.2)++([(y4.2.2.2.1,(y6.1.1,false))]))) else none) else none) else (rec_l0 (wr .i64 (a.1+1),a.2))) else (rec_l0 (wr .i64 (a.1+1),a.2))) else (some (((x.1.1,(a.2,x.1.2.2)),()),()))
def l0 (K:Nat)(x:ab ps):A_l0->Option Res:=ae (λrec_l0 a=>l0.step K x rec_l0 a) K
def pre (K:Nat)(N_l0:A_l0->Option Res)(x:ab ps):Option Res:=N_l0 (0,x.1.2.1)
def f (K:Nat)(x:ab ps):Option Res:=pre K (l0 K x) x
def c (K:Nat):Ctr:=⟨134,ps,rs,false,f K⟩
end Q27
namespace Q28
abbrev ps:List PK:=[.rd (.list false 41 t2),.rd t2]
abbrev rs:List RK:=[.v .bool]
abbrev Res:=ak rs×aj ps
abbrev A_l0:=Int
def l0.step (K:Nat)(x:ab ps)(rec_l0:A_l0->Option Res)(a:A_l0):Option Res:=bif decide (a<(AA x.1:Int)) then ((idx x.1 a).bind λy1=>bif Ty.eqv t2 y1 x.2.1 then (some ((true,()),())) else (rec_l0 (wr .i64 (a+1)))) else (some ((false,()),()))
def l0 (K:Nat)(x:ab ps):A_l0->Option Res:=ae (λrec_l0 a=>l0.step K x rec_l0 a) K
def pre (K:Nat)(N_l0:A_l0->Option Res)(x:ab ps):Option Res:=N_l0 0
def f (K:Nat)(x:ab ps):Option Res:=pre K (l0 K x) x
def c (K:Nat):Ctr:=⟨129,ps,rs,true,f K⟩
end Q28
namespace Q29
abbrev ps:List PK:=[.rd t2,.rd t2]
abbrev rs:List RK:=[.v .bool]
abbrev Res:=ak rs×aj ps
def f (K:Nat)(x:ab ps):Option Res:=bif x.1.2.1 != x.2.1.2.1 then (some ((decide (x.1.2.1>x.2.1.2.1),()),())) else (bif x.1.2.2.1 != x.2.1.2.2.1 then (some ((decide (x.1.2.2.1>x.2.1.2.2.1),()),())) else (bif x.1.2.2.2 then (some ((!x.2.1.2.2.2,()),())) else (some ((false,()),()))))
def c (K:Nat):Ctr:=⟨117,ps,rs,true,f K⟩
end Q29
namespace Q30
abbrev ps:List PK:=[.rd t2,.rd t2]
abbrev rs:List RK:=[.v .bool]
abbrev Res:=ak rs×aj ps
def f (K:Nat)(x:ab ps):Option Res:=bif x.1.1 != x.2.1.1 then (some ((decide (x.1.1<x.2.1.1),()),())) else ((Q29.f K (x.2.1,x.1,())).bind λy1=>some ((y1.1.1,()),()))
def c (K:Nat):Ctr:=⟨93,ps,rs,true,f K⟩
end Q30
namespace Q31
abbrev ps:List PK:=[.rd (.list false 41 t2),.rd t2]
abbrev rs:List RK:=[.v (.list false 41 t2)]
abbrev Res:=ak rs×aj ps
abbrev A_l0:=Int
def l0.step (K:Nat)(x:ab ps)(rec_l0:A_l0->Option Res)(a:A_l0):Option Res:=bif decide (a<(AA x.1:Int)) then ((idx x.1 a).bind λy1=>(Q30.f K (y1,x.2.1,())).bind λy2=>bif y2.1.1 then (rec_l0 (wr .i64 (a+1))) else (bif decide (a<(AA x.1:Int)) then ((idx x.1 a).bind λy3=>bif Ty.eqv t2 y3 x.2.1 then (some ((x.1,()),())) else (bif decide (0<=0)&&decide (0<=a)&&decide (a<=(AA x.1:Int))&&true then (bif decide ((AA ([]:List (Ty.den t2))+AA ((x.1.take (AB a)).drop (AB 0)))*32<=ah) then (bif decide ((AA ([]++((x.1.take (AB a)).drop (AB 0)))+AA ([x.2.1]))*32<=ah) then (bif decide (0<=a)&&decide (a<=(AA x.1:Int))&&decide ((AA x.1:Int)<=(AA x.1:Int))&&true then (bif decide ((AA (([]++((x.1.take (AB a)).drop (AB 0)))++([x.2.1]))+AA ((x.1.take (AB (AA x.1:Int))).drop (AB a)))*32<=ah) then (some (((([]++((x.1.take (AB a)).drop (AB 0)))++([x.2.1]))++((x.1.take (AB (AA x.1:Int))).drop (AB a)),()),())) else none) else none) else none) else none) else none)) else (bif decide (0<=0)&&decide (0<=a)&&decide (a<=(AA x.1:Int))&&true then (bif decide ((AA ([]:List (Ty.den t2))+AA ((x.1.take (AB a)).drop (AB 0)))*32<=ah) then (bif decide ((AA ([]++((x.1.take (AB a)).drop (AB 0)))+AA ([x.2.1]))*32<=ah) then (bif decide (0<=a)&&decide (a<=(AA x.1:Int))&&decide ((AA x.1:Int)<=(AA x.1:Int))&&true then (bif decide ((AA (([]++((x.1.take (AB a)).drop (AB 0)))++([x.2.1]))+AA ((x.1.take (AB (AA x.1:Int))).drop (AB a)))*32<=ah) then (some (((([]++((x.1.take (AB a)).drop (AB 0)))++([x.2.1]))++((x.1.take (AB (AA x.1:Int))).drop (AB a)),()),())) else none) else none) else none) else none) else none))) else (bif decide (a<(AA x.1:Int)) then ((idx x.1 a).bind λy4=>bif Ty.eqv t2 y4 x.2.1 then (some ((x.1,()),())) else (bif decide (0<=0)&&decide (0<=a)&&decide (a<=(AA x.1:Int))&&true then (bif decide ((AA ([]:List (Ty.den t2))+AA ((x.1.take (AB a)).drop (AB 0)))*32<=ah) then (bif decide ((AA ([]++((x.1.take (AB a)).drop (AB 0)))+AA ([x.2.1]))*32<=ah) then (bif decide (0<=a)&&decide (a<=(AA x.1:Int))&&decide ((AA x.1:Int)<=(AA x.1:Int))&&true then (bif decide ((AA (([]++((x.1.take (AB a)).drop (AB 0)))++([x.2.1]))+AA ((x.1.take (AB (AA x.1:Int))).drop (AB a)))*32<=ah) then (some (((([]++((x.1.take (AB a)).drop (AB 0)))++([x.2.1]))++((x.1.take (AB (AA x.1:Int))).drop (AB a)),()),())) else none) else none) else none) else none) else none)) else (bif decide (0<=0)&&decide (0<=a)&&decide (a<=(AA x.1:Int))&&true then (bif decide ((AA ([]:List (Ty.den t2))+AA ((x.1.take (AB a)).drop (AB 0)))*32<=ah) then (bif decide ((AA ([]++((x.1.take (AB a)).drop (AB 0)))+AA ([x.2.1]))*32<=ah) then (bif decide (0<=a)&&decide (a<=(AA x.1:Int))&&decide ((AA x.1:Int)<=(AA x.1:Int))&&true then (bif decide ((AA (([]++((x.1.take (AB a)).drop (AB 0)))++([x.2.1]))+AA ((x.1.take (AB (AA x.1:Int))).drop (AB a)))*32<=ah) then (some (((([]++((x.1.take (AB a)).drop (AB 0)))++([x.2.1]))++((x.1.take (AB (AA x.1:Int))).drop (AB a)),()),())) else none) else none) else none) else none) else none))
def l0 (K:Nat)(x:ab ps):A_l0->Option Res:=ae (λrec_l0 a=>l0.step K x rec_l0 a) K
def pre (K:Nat)(N_l0:A_l0->Option Res)(x:ab ps):Option Res:=N_l0 0
def f (K:Nat)(x:ab ps):Option Res:=pre K (l0 K x) x
def c (K:Nat):Ctr:=⟨226,ps,rs,false,f K⟩
end Q31
namespace Q32
abbrev ps:List PK:=[.rd t65,.rd (.list false 41 t2),.rd (.list false 41 t2),.rd (.list false 41 t2)]
abbrev rs:List RK:=[.v t65]
abbrev Res:=ak rs×aj ps
abbrev A_l0:=Int×List (Ty.den t2)
def l0.step (K:Nat)(x:ab ps)(rec_l0:A_l0->Option Res)(a:A_l0):Option Res:=bif decide (a.1<(AA x.2.2.2.1:Int)) then ((idx x.2.2.2.1 a.1).bind λy1=>(Q28.f K (x.2.1,y1,())).bind λy2=>bif !y2.1.1 then ((idx x.2.2.2.1 a.1).bind λy3=>(Q28.f K (x.2.2.1,y3,())).bind λy4=>bif !y4.1.1 then ((idx x.2.2.2.1 a.1).bind λy5=>(Q31.f K (a.2,y5,())).bind λy6=>rec_l0 (wr .i64 (a.1+1),y6.1.1)) else (rec_l0 (wr .i64 (a.1+1),a.2))) else (rec_l0 (wr .i64 (a.1+1),a.2))) else (some (((x.1.1,(x.1.2.1,(x.1.2.2.1,a.2))),()),()))
def l0 (K:Nat)(x:ab ps):A_l0->Option Res:=ae (λrec_l0 a=>l0.step K x rec_l0 a) K
def pre (K:Nat)(N_l0:A_l0->Option Res)(x:ab ps):Option Res:=N_l0 (0,x.1.2.2.2)
def f (K:Nat)(x:ab ps):Option Res:=pre K (l0 K x) x
def c (K:Nat):Ctr:=⟨194,ps,rs,false,f K⟩
end Q32
namespace Q33
abbrev ps:List PK:=[.hol t68 0 14,.own t38,.rd (.list false 133 t47),.rd (.list false 41 t2)]
abbrev rs:List RK:=[.v t65]
abbrev Res:=ak rs×aj ps
def f (K:Nat)(x:ab ps):Option Res:=(idx x.1.1.1 x.2.1.1).bind λ_=>(idx x.1.1.1 (AB x.2.1.1:Nat)).bind λy2=>(idx x.1.1.1 x.2.1.1).bind λ_=>(idx x.1.1.1 (AB x.2.1.1:Nat)).bind λy4=>bif Nat.beq (AB x.2.1.1) x.1.2 then ((Q32.f K ((x.1.1.1.set (AB x.2.1.1) x.2.1,x.1.1.2),y2.2.2.2.2.2.2.2.2.1,x.2.2.2.1,x.2.1.2.2.2.2.2.2.2.2.1,())).bind λy5=>(Q27.f K (y5.1.1,x.2.1.1,x.2.2.1,())).bind λy6=>some ((y6.1.1,()),())) else none
def c (K:Nat):Ctr:=⟨163,ps,rs,false,f K⟩
end Q33
namespace Q34
abbrev ps:List PK:=[.rd (.list false 101 t40),.rd (.int .i64)]
abbrev rs:List RK:=[.v (.list true 101 t40)]
abbrev Res:=ak rs×aj ps
def f (K:Nat)(x:ab ps):Option Res:=bif decide (0<=0)&&decide (0<=x.2.1)&&decide (x.2.1<=(AA x.1:Int))&&true then (bif decide ((AA ([]:List (Ty.den t40))+AA ((x.1.take (AB x.2.1)).drop (AB 0)))*32<=ah) then (bif decide (0<=(wr .i64 (x.2.1+1)))&&decide ((wr .i64 (x.2.1+1))<=(AA x.1:Int))&&decide ((AA x.1:Int)<=(AA x.1:Int))&&true then (bif decide ((AA ([]++((x.1.take (AB x.2.1)).drop (AB 0)))+AA ((x.1.take (AB (AA x.1:Int))).drop (AB (wr .i64 (x.2.1+1)))))*32<=ah) then (some ((([]++((x.1.take (AB x.2.1)).drop (AB 0)))++((x.1.take (AB (AA x.1:Int))).drop (AB (wr .i64 (x.2.1+1)))),()),())) else none) else none) else none) else none
def c (K:Nat):Ctr:=⟨183,ps,rs,true,f K⟩
end Q34
namespace Q35
abbrev ps:List PK:=[.rd .str,.rd (.int .u8)]
abbrev rs:List RK:=[.v (.list true 9 .str)]
abbrev Res:=ak rs×aj ps
abbrev A_l0:=List (Ty.den .str)×Int×Int
def l0.step (K:Nat)(x:ab ps)(rec_l0:A_l0->Option Res)(a:A_l0):Option Res:=bif decide (a.2.2<(x.1.size:Int)) then ((idx x.1.data.toList a.2.2).bind λy1=>bif (y1.toNat:Int)==x.2.1 then (bif decide (0<=a.2.1)&&decide (a.2.1<=a.2.2)&&decide (a.2.2<=(x.1.size:Int)) then (bif decide ((AA a.1+AA ([x.1.extract (AB a.2.1) (AB a.2.2)]))*16<=ah) then (rec_l0 (a.1++([x.1.extract (AB a.2.1) (AB a.2.2)]),wr .i64 (a.2.2+1),wr .i64 (a.2.2+1))) else none) else none) else (rec_l0 (a.1,a.2.1,wr .i64 (a.2.2+1)))) else (bif decide (0<=a.2.1)&&decide (a.2.1<=(x.1.size:Int))&&decide ((x.1.size:Int)<=(x.1.size:Int)) then (bif decide ((AA a.1+AA ([x.1.extract (AB a.2.1) (AB (x.1.size:Int))]))*16<=ah) then (some ((a.1++([x.1.extract (AB a.2.1) (AB (x.1.size:Int))]),()),())) else none) else none)
def l0 (K:Nat)(x:ab ps):A_l0->Option Res:=ae (λrec_l0 a=>l0.step K x rec_l0 a) K
def pre (K:Nat)(N_l0:A_l0->Option Res)(x:ab ps):Option Res:=N_l0 ([],0,0)
def f (K:Nat)(x:ab ps):Option Res:=pre K (l0 K x) x
def c (K:Nat):Ctr:=⟨205,ps,rs,true,f K⟩
end Q35
namespace Q36
abbrev ps:List PK:=[.rd .str]
abbrev rs:List RK:=[.v (.int .i64)]
abbrev Res:=ak rs×aj ps
abbrev A_l0:=Int×Int
def l0.step (K:Nat)(x:ab ps)(rec_l0:A_l0->Option Res)(a:A_l0):Option Res:=bif decide (a.2<(x.1.size:Int)) then ((idx x.1.data.toList a.2).bind λy3=>bif decide ((y3.toNat:Int)<48) then (some (((-1),()),())) else ((idx x.1.data.toList a.2).bind λy4=>bif decide ((y4.toNat:Int)>57) then (some (((-1),()),())) else ((idx x.1.data.toList a.2).bind λy5=>rec_l0 (wr .i64 ((wr .i64 (a.1*10))+(wr .i64 (wr .u8 ((y5.toNat:Int)-48)))),wr .i64 (a.2+1))))) else (some ((a.1,()),()))
def l0 (K:Nat)(x:ab ps):A_l0->Option Res:=ae (λrec_l0 a=>l0.step K x rec_l0 a) K
def pre (K:Nat)(N_l0:A_l0->Option Res)(x:ab ps):Option Res:=(Q7.f K ((x.1.size:Int),1,6,())).bind λy1=>bif !y1.1.1 then (some (((-1),()),())) else (bif decide ((x.1.size:Int)>1) then ((idx x.1.data.toList 0).bind λy2=>bif (y2.toNat:Int)==48 then (some (((-1),()),())) else (N_l0 (0,0))) else (N_l0 (0,0)))
def f (K:Nat)(x:ab ps):Option Res:=pre K (l0 K x) x
def c (K:Nat):Ctr:=⟨207,ps,rs,true,f K⟩
end Q36
namespace Q37
abbrev ps:List PK:=[.rd .str]
abbrev rs:List RK:=[.v (.int .i64),.v .bool]
abbrev Res:=ak rs×aj ps
def f (K:Nat)(x:ab ps):Option Res:=bif decide ((x.1.size:Int)<2) then (some (((-1),false,()),())) else ((idx x.1.data.toList 0).bind λy1=>bif (y1.toNat:Int) != 43 then ((idx x.1.data.toList 0).bind λy2=>bif (y2.toNat:Int) != 45 then (some (((-1),false,()),())) else (bif decide (0<=1)&&decide (1<=(x.1.size:Int))&&decide ((x.1.size:Int)<=(x.1.size:Int)) then ((Q36.f K (x.1.extract (AB 1) (AB (x.1.size:Int)),())).bind λy3=>bif decide (y3.1.1<0) then (some (((-1),false,()),())) else (bif x.1.toList==(ByteArray.mk #[45,48]).toList then (some (((-1),false,()),())) else ((idx x.1.data.toList 0).bind λy4=>bif (y4.toNat:Int)==45 then (some ((wr .i64 (0-y3.1.1),true,()),())) else (some ((y3.1.1,true,()),()))))) else none)) else (bif decide (0<=1)&&decide (1<=(x.1.size:Int))&&decide ((x.1.size:Int)<=(x.1.size:Int)) then ((Q36.f K (x.1.extract (AB 1) (AB (x.1.size:Int)),())).bind λy5=>bif decide (y5.1.1<0) then (some (((-1),false,()),())) else (bif x.1.toList==(ByteArray.mk #[45,48]).toList then (some (((-1),false,()),())) else ((idx x.1.data.toList 0).bind λy6=>bif (y6.toNat:Int)==45 then (some ((wr .i64 (0-y5.1.1),true,()),())) else (some ((y5.1.1,true,()),()))))) else none))
def c (K:Nat):Ctr:=⟨208,ps,rs,true,f K⟩
end Q37
namespace Q38
abbrev ps:List PK:=[.rd .str]
abbrev rs:List RK:=[.v t2,.v .bool]
abbrev Res:=ak rs×aj ps
abbrev A_l0:=List (Ty.den .str)×Int×Int×Int×Int×Bool
def l0.step (K:Nat)(x:ab ps)(rec_l0:A_l0->Option Res)(a:A_l0):Option Res:=bif decide (a.2.1<=4) then ((Q19.f K (a.2.1,())).bind λy9=>(idx a.1 2).bind λ_=>(idx a.1 (AB 2:Nat)).bind λy11=>bif y9.1.1.toList==y11.toList then (rec_l0 (a.1,wr .i64 (a.2.1+1),a.2.2.1,a.2.2.2.1,a.2.1,a.2.2.2.2.2)) else (rec_l0 (a.1,wr .i64 (a.2.1+1),a.2.2.1,a.2.2.2.1,a.2.2.2.2.1,a.2.2.2.2.2))) else ((Q12.f K (a.2.2,())).bind λy12=>some ((a.2.2,y12.1.1,()),()))
def l0 (K:Nat)(x:ab ps):A_l0->Option Res:=ae (λrec_l0 a=>l0.step K x rec_l0 a) K
def pre (K:Nat)(N_l0:A_l0->Option Res)(x:ab ps):Option Res:=bif decide ((x.1.size:Int)>0) then ((idx x.1.data.toList (wr .i64 ((x.1.size:Int)-1))).bind λy1=>bif (y1.toNat:Int)==42 then (bif decide (0<=0)&&decide (0<=(wr .i64 ((x.1.size:Int)-1)))&&decide ((wr .i64 ((x.1.size:Int)-1))<=(x.1.size:Int)) then ((Q35.f K (x.1.extract (AB 0) (AB (wr .i64 ((x.1.size:Int)-1))),58,())).bind λy2=>bif (AA y2.1.1:Int) != 3 then (some (((0,(0,(0,true))),false,()),())) else ((idx y2.1.1 0).bind λ_=>(idx y2.1.1 (AB 0:Nat)).bind λy4=>(Q36.f K (y4,())).bind λy5=>(idx y2.1.1 1).bind λ_=>(idx y2.1.1 (AB 1:Nat)).bind λy7=>(Q36.f K (y7,())).bind λy8=>N_l0 (y2.1.1,1,y5.1.1,y8.1.1,0,true))) else none) else ((Q35.f K (x.1,58,())).bind λy13=>bif (AA y13.1.1:Int) != 3 then (some (((0,(0,(0,false))),false,()),())) else ((idx y13.1.1 0).bind λ_=>(idx y13.1.1 (AB 0:Nat)).bind λy15=>(Q36.f K (y15,())).bind λy16=>(idx y13.1.1 1).bind λ_=>(idx y13.1.1 (AB 1:Nat)).bind λy18=>(Q36.f K (y18,())).bind λy19=>N_l0 (y13.1.1,1,y16.1.1,y19.1.1,0,false)))) else ((Q35.f K (x.1,58,())).bind λy20=>bif (AA y20.1.1:Int) != 3 then (some (((0,(0,(0,false))),false,()),())) else ((idx y20.1.1 0).bind λ_=>(idx y20.1.1 (AB 0:Nat)).bind λy22=>(Q36.f K (y22,())).bind λy23=>(idx y20.1.1 1).bind λ_=>(idx y20.1.1 (AB 1:Nat)).bind λy25=>(Q36.f K (y25,())).bind λy26=>N_l0 (y20.1.1,1,y23.1.1,y26.1.1,0,false)))
def f (K:Nat)(x:ab ps):Option Res:=pre K (l0 K x) x
def c (K:Nat):Ctr:=⟨244,ps,rs,true,f K⟩
end Q38
namespace Q39
abbrev ps:List PK:=[.rd .str]
abbrev rs:List RK:=[.v (.list true 41 t2),.v .bool]
abbrev Res:=ak rs×aj ps
abbrev A_l0:=List (Ty.den t2)×List (Ty.den .str)×Int
def l0.step (K:Nat)(x:ab ps)(rec_l0:A_l0->Option Res)(a:A_l0):Option Res:=bif decide (a.2.2<(AA a.2.1:Int)) then ((idx a.2.1 a.2.2).bind λ_=>(idx a.2.1 (AB a.2.2:Nat)).bind λy3=>(Q38.f K (y3,())).bind λy4=>bif !y4.1.2.1 then (some (([],false,()),())) else (bif decide ((AA a.1+AA ([y4.1.1]))*32<=ah) then (rec_l0 (a.1++([y4.1.1]),a.2.1,wr .i64 (a.2.2+1))) else none)) else (some ((a.1,true,()),()))
def l0 (K:Nat)(x:ab ps):A_l0->Option Res:=ae (λrec_l0 a=>l0.step K x rec_l0 a) K
def pre (K:Nat)(N_l0:A_l0->Option Res)(x:ab ps):Option Res:=bif x.1.toList==(ByteArray.mk #[45]).toList then (some (([],true,()),())) else ((Q35.f K (x.1,44,())).bind λy1=>N_l0 ([],y1.1.1,0))
def f (K:Nat)(x:ab ps):Option Res:=pre K (l0 K x) x
def c (K:Nat):Ctr:=⟨231,ps,rs,true,f K⟩
end Q39
namespace Q40
abbrev ps:List PK:=[.rd .str]
abbrev rs:List RK:=[.v (.list true 41 t2),.v .bool]
abbrev Res:=ak rs×aj ps
def f (K:Nat)(x:ab ps):Option Res:=(Q39.f K (x.1,())).bind λy1=>bif !y1.1.2.1 then (some (([],false,()),())) else ((Q21.f K (y1.1.1,())).bind λy2=>bif y2.1.1.toList != x.1.toList then (some (([],false,()),())) else (some ((y1.1.1,true,()),())))
def c (K:Nat):Ctr:=⟨209,ps,rs,true,f K⟩
end Q40
namespace Q41
abbrev ps:List PK:=[.rd .str]
abbrev rs:List RK:=[.v t75,.v .bool]
abbrev Res:=ak rs×aj ps
abbrev A_l0:=List (Ty.den .str)×Int×Int×Int
def l0.step (K:Nat)(x:ab ps)(rec_l0:A_l0->Option Res)(a:A_l0):Option Res:=bif decide (a.2.1<=6) then ((Q17.f K (a.2.1,())).bind λy4=>(idx a.1 1).bind λ_=>(idx a.1 (AB 1:Nat)).bind λy6=>bif y4.1.1.toList==y6.toList then (rec_l0 (a.1,wr .i64 (a.2.1+1),a.2.2.1,a.2.1)) else (rec_l0 (a.1,wr .i64 (a.2.1+1),a.2.2.1,a.2.2.2))) else ((idx a.1 2).bind λ_=>(idx a.1 (AB 2:Nat)).bind λy8=>(Q36.f K (y8,())).bind λy9=>(idx a.1 3).bind λ_=>(idx a.1 (AB 3:Nat)).bind λy11=>(Q36.f K (y11,())).bind λy12=>(idx a.1 4).bind λ_=>(idx a.1 (AB 4:Nat)).bind λy14=>(Q36.f K (y14,())).bind λy15=>(idx a.1 5).bind λ_=>(idx a.1 (AB 5:Nat)).bind λy17=>(Q36.f K (y17,())).bind λy18=>(idx a.1 6).bind λ_=>(idx a.1 (AB 6:Nat)).bind λy20=>(Q37.f K (y20,())).bind λy21=>(idx a.1 7).bind λ_=>(idx a.1 (AB 7:Nat)).bind λy23=>(Q37.f K (y23,())).bind λy24=>(idx a.1 10).bind λ_=>(idx a.1 (AB 10:Nat)).bind λy26=>(Q40.f K (y26,())).bind λy27=>(idx a.1 8).bind λ_=>(idx a.1 (AB 8:Nat)).bind λy29=>(Q36.f K (y29,())).bind λy30=>(idx a.1 9).bind λ_=>(idx a.1 (AB 9:Nat)).bind λy32=>(Q36.f K (y32,())).bind λy33=>bif !y21.1.2.1 then (some (((0,(0,(0,(0,(0,(0,((0,(0,(0,0))),[]))))))),false,()),())) else (bif !y24.1.2.1 then (some (((0,(0,(0,(0,(0,(0,((0,(0,(0,0))),[]))))))),false,()),())) else (bif !y27.1.2.1 then (some (((0,(0,(0,(0,(0,(0,((0,(0,(0,0))),[]))))))),false,()),())) else ((Q26.f K ((a.2.2.1,(a.2.2.2,(y9.1.1,(y12.1.1,(y15.1.1,(y18.1.1,((y21.1.1,(y24.1.1,(y30.1.1,y33.1.1))),y27.1.1))))))),())).bind λy34=>bif y34.1.1.toList != x.1.toList then (some (((0,(0,(0,(0,(0,(0,((0,(0,(0,0))),[]))))))),false,()),())) else (some (((a.2.2.1,(a.2.2.2,(y9.1.1,(y12.1.1,(y15.1.1,(y18.1.1,((y21.1.1,(y24.1.1,(y30.1.1,y33.1.1))),y27.1.1))))))),true,()),()))))))
def l0 (K:Nat)(x:ab ps):A_l0->Option Res:=ae (λrec_l0 a=>l0.step K x rec_l0 a) K
def pre (K:Nat)(N_l0:A_l0->Option Res)(x:ab ps):Option Res:=(Q35.f K (x.1,32,())).bind λy1=>bif decide ((x.1.size:Int)>300) then (some (((0,(0,(0,(0,(0,(0,((0,(0,(0,0))),[]))))))),false,()),())) else (bif (AA y1.1.1:Int) != 12 then (some (((0,(0,(0,(0,(0,(0,((0,(0,(0,0))),[]))))))),false,()),())) else ((idx y1.1.1 0).bind λ_=>(idx y1.1.1 (AB 0:Nat)).bind λy3=>bif y3.toList==(ByteArray.mk #[119,97,110]).toList then (N_l0 (y1.1.1,1,2,0)) else (N_l0 (y1.1.1,1,1,0))))
def f (K:Nat)(x:ab ps):Option Res:=pre K (l0 K x) x
def c (K:Nat):Ctr:=⟨184,ps,rs,true,f K⟩
end Q41
namespace Q42
abbrev ps:List PK:=[.rd (.int .i64)]
abbrev rs:List RK:=[.v (.int .i64)]
abbrev Res:=ak rs×aj ps
def f (K:Nat)(x:ab ps):Option Res:=some ((wr .i64 (AC x.1 4),()),())
def c (K:Nat):Ctr:=⟨39,ps,rs,true,f K⟩
end Q42
namespace Q43
abbrev ps:List PK:=[.rd t26,.rd t47]
abbrev rs:List RK:=[.v .bool]
abbrev Res:=ak rs×aj ps
def f (K:Nat)(x:ab ps):Option Res:=bif !x.1.2.1 then (some ((false,()),())) else (bif x.1.2.2.1 then (some ((false,()),())) else (bif x.2.1.2.2.2.1 != x.1.1 then (some ((false,()),())) else (bif x.2.1.2.2.1==x.1.1 then (some ((false,()),())) else ((Q42.f K (x.1.1,())).bind λy1=>bif x.2.1.1==2 then (bif x.2.1.2.1==6 then ((Q42.f K (x.2.1.2.2.1,())).bind λy2=>bif y2.1.1 != y1.1.1 then ((Q14.f K (x.2.1.2.2.2.2.2.2.2,y1.1.1,())).bind λy3=>bif y3.1.1 then (some ((true,()),())) else ((Q42.f K (x.2.1.2.2.1,())).bind λy4=>(Q14.f K (x.2.1.2.2.2.2.2.2.2,y4.1.1,())).bind λy5=>some ((y5.1.1,()),()))) else (some ((false,()),()))) else (some ((false,()),()))) else ((Q42.f K (x.2.1.2.2.1,())).bind λy6=>bif y6.1.1==y1.1.1 then (bif x.2.1.2.1 != 6 then (some ((true,()),())) else ((Q14.f K (x.2.1.2.2.2.2.2.2.2,y1.1.1,())).bind λy7=>some ((!y7.1.1,()),()))) else (some ((false,()),())))))))
def c (K:Nat):Ctr:=⟨210,ps,rs,true,f K⟩
end Q43
namespace Q44
abbrev ps:List PK:=[.rd t26,.rd (.int .i64),.rd (.int .i64),.rd (.int .i64),.rd (.int .i64),.rd (.list false 41 t2)]
abbrev rs:List RK:=[.v t47]
abbrev Res:=ak rs×aj ps
def f (K:Nat)(x:ab ps):Option Res:=bif decide ((AA ([]:List (Ty.den t2))+AA x.2.2.2.2.2.1)*32<=ah) then (some (((1,(x.2.1,(x.1.1,(x.2.2.1,(x.2.2.2.1,(x.2.2.2.2.1,(x.1.2.2.2.2.2.2.2.2.2.2.2.2.1,[]++x.2.2.2.2.2.1))))))),()),())) else none
def c (K:Nat):Ctr:=⟨135,ps,rs,true,f K⟩
end Q44
namespace Q45
abbrev ps:List PK:=[.rd (.list false 41 t2),.rd (.int .i64)]
abbrev rs:List RK:=[.v (.int .i64)]
abbrev Res:=ak rs×aj ps
abbrev A_l0:=Int
def l0.step (K:Nat)(x:ab ps)(rec_l0:A_l0->Option Res)(a:A_l0):Option Res:=bif decide (a<(AA x.1:Int)) then ((idx x.1 a).bind λy1=>bif y1.1==x.2.1 then (some ((a,()),())) else (rec_l0 (wr .i64 (a+1)))) else (some (((-1),()),()))
def l0 (K:Nat)(x:ab ps):A_l0->Option Res:=ae (λrec_l0 a=>l0.step K x rec_l0 a) K
def pre (K:Nat)(N_l0:A_l0->Option Res)(x:ab ps):Option Res:=N_l0 0
def f (K:Nat)(x:ab ps):Option Res:=pre K (l0 K x) x
def c (K:Nat):Ctr:=⟨48,ps,rs,true,f K⟩
end Q45
namespace Q46
abbrev ps:List PK:=[.rd (.list false 41 t2),.rd t2]
abbrev rs:List RK:=[.v (.list false 41 t2),.v .bool]
abbrev Res:=ak rs×aj ps
abbrev A_l0:=Int
def l0.step (K:Nat)(x:ab ps)(rec_l0:A_l0->Option Res)(a:A_l0):Option Res:=bif decide (a<(AA x.1:Int)) then ((idx x.1 a).bind λy6=>bif decide (y6.1<x.2.1.1) then (rec_l0 (wr .i64 (a+1))) else (bif decide (0<=0)&&decide (0<=a)&&decide (a<=(AA x.1:Int))&&true then (bif decide ((AA ([]:List (Ty.den t2))+AA ((x.1.take (AB a)).drop (AB 0)))*32<=ah) then (bif decide ((AA ([]++((x.1.take (AB a)).drop (AB 0)))+AA ([x.2.1]))*32<=ah) then (bif decide (0<=a)&&decide (a<=(AA x.1:Int))&&decide ((AA x.1:Int)<=(AA x.1:Int))&&true then (bif decide ((AA (([]++((x.1.take (AB a)).drop (AB 0)))++([x.2.1]))+AA ((x.1.take (AB (AA x.1:Int))).drop (AB a)))*32<=ah) then (some (((([]++((x.1.take (AB a)).drop (AB 0)))++([x.2.1]))++((x.1.take (AB (AA x.1:Int))).drop (AB a)),true,()),())) else none) else none) else none) else none) else none)) else (bif decide (0<=0)&&decide (0<=a)&&decide (a<=(AA x.1:Int))&&true then (bif decide ((AA ([]:List (Ty.den t2))+AA ((x.1.take (AB a)).drop (AB 0)))*32<=ah) then (bif decide ((AA ([]++((x.1.take (AB a)).drop (AB 0)))+AA ([x.2.1]))*32<=ah) then (bif decide (0<=a)&&decide (a<=(AA x.1:Int))&&decide ((AA x.1:Int)<=(AA x.1:Int))&&true then (bif decide ((AA (([]++((x.1.take (AB a)).drop (AB 0)))++([x.2.1]))+AA ((x.1.take (AB (AA x.1:Int))).drop (AB a)))*32<=ah) then (some (((([]++((x.1.take (AB a)).drop (AB 0)))++([x.2.1]))++((x.1.take (AB (AA x.1:Int))).drop (AB a)),true,()),())) else none) else none) else none) else none) else none)
def l0 (K:Nat)(x:ab ps):A_l0->Option Res:=ae (λrec_l0 a=>l0.step K x rec_l0 a) K
def pre (K:Nat)(N_l0:A_l0->Option Res)(x:ab ps):Option Res:=(Q45.f K (x.1,x.2.1.1,())).bind λy1=>bif decide (y1.1.1>=0) then ((idx x.1 y1.1.1).bind λy2=>(Q29.f K (x.2.1,y2,())).bind λy3=>bif !y3.1.1 then (some ((x.1,false,()),())) else (bif decide ((AA ([]:List (Ty.den t2))+AA x.1)*32<=ah) then ((idx ([]++x.1) y1.1.1).bind λ_=>(idx ([]++x.1) (AB y1.1.1:Nat)).bind λy5=>some ((([]++x.1).set (AB y1.1.1) x.2.1,true,()),())) else none)) else (N_l0 0)
def f (K:Nat)(x:ab ps):Option Res:=pre K (l0 K x) x
def c (K:Nat):Ctr:=⟨195,ps,rs,false,f K⟩
end Q46
namespace Q47
abbrev ps:List PK:=[.rd (.list false 116 t3),.rd t2]
abbrev rs:List RK:=[.v (.list false 116 t3)]
abbrev Res:=ak rs×aj ps
abbrev A_l0:=List (Ty.den t3)×Bool×Int
def l0.step (K:Nat)(x:ab ps)(rec_l0:A_l0->Option Res)(a:A_l0):Option Res:=bif decide (a.2.2<(AA x.1:Int)) then ((idx x.1 a.2.2).bind λy1=>bif y1.1.1==x.2.1.1 then ((Q29.f K (x.2.1,y1.1,())).bind λy2=>bif !y2.1.1 then (some ((x.1,()),())) else (bif !a.2.1 then (bif decide (y1.1.1>=x.2.1.1) then (bif decide ((AA a.1+AA ([(x.2.1,4)]))*40<=ah) then (bif y1.1.1 != x.2.1.1 then ((idx x.1 a.2.2).bind λy3=>bif decide ((AA (a.1++([(x.2.1,4)]))+AA ([y3]))*40<=ah) then (rec_l0 ((a.1++([(x.2.1,4)]))++([y3]),true,wr .i64 (a.2.2+1))) else none) else (rec_l0 (a.1++([(x.2.1,4)]),true,wr .i64 (a.2.2+1)))) else none) else (bif y1.1.1 != x.2.1.1 then ((idx x.1 a.2.2).bind λy4=>bif decide ((AA a.1+AA ([y4]))*40<=ah) then (rec_l0 (a.1++([y4]),a.2.1,wr .i64 (a.2.2+1))) else none) else (rec_l0 (a.1,a.2.1,wr .i64 (a.2.2+1))))) else (bif y1.1.1 != x.2.1.1 then ((idx x.1 a.2.2).bind λy5=>bif decide ((AA a.1+AA ([y5]))*40<=ah) then (rec_l0 (a.1++([y5]),a.2.1,wr .i64 (a.2.2+1))) else none) else (rec_l0 (a.1,a.2.1,wr .i64 (a.2.2+1)))))) else (bif !a.2.1 then (bif decide (y1.1.1>=x.2.1.1) then (bif decide ((AA a.1+AA ([(x.2.1,4)]))*40<=ah) then (bif y1.1.1 != x.2.1.1 then ((idx x.1 a.2.2).bind λy6=>bif decide ((AA (a.1++([(x.2.1,4)]))+AA ([y6]))*40<=ah) then (rec_l0 ((a.1++([(x.2.1,4)]))++([y6]),true,wr .i64 (a.2.2+1))) else none) else (rec_l0 (a.1++([(x.2.1,4)]),true,wr .i64 (a.2.2+1)))) else none) else (bif y1.1.1 != x.2.1.1 then ((idx x.1 a.2.2).bind λy7=>bif decide ((AA a.1+AA ([y7]))*40<=ah) then (rec_l0 (a.1++([y7]),a.2.1,wr .i64 (a.2.2+1))) else none) else (rec_l0 (a.1,a.2.1,wr .i64 (a.2.2+1))))) else (bif y1.1.1 != x.2.1.1 then ((idx x.1 a.2.2).bind λy8=>bif decide ((AA a.1+AA ([y8]))*40<=ah) then (rec_l0 (a.1++([y8]),a.2.1,wr .i64 (a.2.2+1))) else none) else (rec_l0 (a.1,a.2.1,wr .i64 (a.2.2+1)))))) else (bif !a.2.1 then (bif decide ((AA a.1+AA ([(x.2.1,4)]))*40<=ah) then (some ((a.1++([(x.2.1,4)]),()),())) else none) else (some ((a.1,()),())))
def l0 (K:Nat)(x:ab ps):A_l0->Option Res:=ae (λrec_l0 a=>l0.step K x rec_l0 a) K
def pre (K:Nat)(N_l0:A_l0->Option Res)(x:ab ps):Option Res:=N_l0 ([],false,0)
def f (K:Nat)(x:ab ps):Option Res:=pre K (l0 K x) x
def c (K:Nat):Ctr:=⟨239,ps,rs,false,f K⟩
end Q47
namespace Q48
abbrev ps:List PK:=[.rd t26,.rd t2,.rd (.int .i64)]
abbrev rs:List RK:=[.v (.list true 92 t6)]
abbrev Res:=ak rs×aj ps
abbrev A_l0:=List (Ty.den t6)×Bool×Int
def l0.step (K:Nat)(x:ab ps)(rec_l0:A_l0->Option Res)(a:A_l0):Option Res:=bif decide (a.2.2<(AA x.1.2.2.2.2.2.2.2.2.2.2.2.1:Int)) then ((idx x.1.2.2.2.2.2.2.2.2.2.2.2.1 a.2.2).bind λy1=>bif !a.2.1 then (bif decide (y1.1>=x.2.1.1) then (bif decide ((AA a.1+AA ([(x.2.1.1,(x.2.1.2.1,(x.1.2.2.2.2.2.1,[x.2.2.1])))]))*48<=ah) then (bif y1.1 != x.2.1.1 then (bif decide ((AA (a.1++([(x.2.1.1,(x.2.1.2.1,(x.1.2.2.2.2.2.1,[x.2.2.1])))]))+AA ([y1]))*48<=ah) then (rec_l0 ((a.1++([(x.2.1.1,(x.2.1.2.1,(x.1.2.2.2.2.2.1,[x.2.2.1])))]))++([y1]),true,wr .i64 (a.2.2+1))) else none) else (rec_l0 (a.1++([(x.2.1.1,(x.2.1.2.1,(x.1.2.2.2.2.2.1,[x.2.2.1])))]),true,wr .i64 (a.2.2+1)))) else none) else (bif y1.1 != x.2.1.1 then (bif decide ((AA a.1+AA ([y1]))*48<=ah) then (rec_l0 (a.1++([y1]),a.2.1,wr .i64 (a.2.2+1))) else none) else (rec_l0 (a.1,a.2.1,wr .i64 (a.2.2+1))))) else (bif y1.1 != x.2.1.1 then (bif decide ((AA a.1+AA ([y1]))*48<=ah) then (rec_l0 (a.1++([y1]),a.2.1,wr .i64 (a.2.2+1))) else none) else (rec_l0 (a.1,a.2.1,wr .i64 (a.2.2+1))))) else (bif !a.2.1 then (bif decide ((AA a.1+AA ([(x.2.1.1,(x.2.1.2.1,(x.1.2.2.2.2.2.1,[x.2.2.1])))]))*48<=ah) then (some ((a.1++([(x.2.1.1,(x.2.1.2.1,(x.1.2.2.2.2.2.1,[x.2.2.1])))]),()),())) else none) else (some ((a.1,()),())))
def l0 (K:Nat)(x:ab ps):A_l0->Option Res:=ae (λrec_l0 a=>l0.step K x rec_l0 a) K
def pre (K:Nat)(N_l0:A_l0->Option Res)(x:ab ps):Option Res:=N_l0 ([],x.2.1.2.2.1 != 2,0)
def f (K:Nat)(x:ab ps):Option Res:=pre K (l0 K x) x
def c (K:Nat):Ctr:=⟨240,ps,rs,false,f K⟩
end Q48
namespace Q49
abbrev ps:List PK:=[.own t38,.rd t2,.rd (.int .i64)]
abbrev rs:List RK:=[.v t38]
abbrev Res:=ak rs×aj ps
def f (K:Nat)(x:ab ps):Option Res:=(Q46.f K (x.1.2.2.2.2.2.2.2.2.1,x.2.1,())).bind λy1=>bif !y1.1.2.1 then (some ((x.1,()),())) else ((Q45.f K (x.1.2.2.2.2.2.2.2.2.1,x.2.1.1,())).bind λy2=>bif decide (y2.1.1>=0) then ((idx x.1.2.2.2.2.2.2.2.2.1 y2.1.1).bind λy3=>bif y3.2.1==x.2.1.2.1 then ((idx x.1.2.2.2.2.2.2.2.2.1 y2.1.1).bind λy4=>(Q47.f K (x.1.2.2.2.2.2.2.2.2.2.1,x.2.1,())).bind λy5=>bif !(y4.2.2.1==x.2.1.2.2.1) then ((Q48.f K ((x.1.1,(x.1.2.1,(x.1.2.2.1,(x.1.2.2.2.1,(x.1.2.2.2.2.1,(x.1.2.2.2.2.2.1,(x.1.2.2.2.2.2.2.1,(x.1.2.2.2.2.2.2.2.1,(y1.1.1,(y5.1.1,x.1.2.2.2.2.2.2.2.2.2.2)))))))))),x.2.1,x.2.2.1,())).bind λy6=>some (((x.1.1,(x.1.2.1,(x.1.2.2.1,(x.1.2.2.2.1,(x.1.2.2.2.2.1,(x.1.2.2.2.2.2.1,(x.1.2.2.2.2.2.2.1,(x.1.2.2.2.2.2.2.2.1,(y1.1.1,(y5.1.1,(x.1.2.2.2.2.2.2.2.2.2.2.1,(y6.1.1,x.1.2.2.2.2.2.2.2.2.2.2.2.2)))))))))))),()),())) else (some (((x.1.1,(x.1.2.1,(x.1.2.2.1,(x.1.2.2.2.1,(x.1.2.2.2.2.1,(x.1.2.2.2.2.2.1,(x.1.2.2.2.2.2.2.1,(x.1.2.2.2.2.2.2.2.1,(y1.1.1,(y5.1.1,x.1.2.2.2.2.2.2.2.2.2.2)))))))))),()),()))) else ((Q47.f K (x.1.2.2.2.2.2.2.2.2.2.1,x.2.1,())).bind λy7=>(Q48.f K ((x.1.1,(x.1.2.1,(x.1.2.2.1,(x.1.2.2.2.1,(x.1.2.2.2.2.1,(x.1.2.2.2.2.2.1,(x.1.2.2.2.2.2.2.1,(x.1.2.2.2.2.2.2.2.1,(y1.1.1,(y7.1.1,x.1.2.2.2.2.2.2.2.2.2.2)))))))))),x.2.1,x.2.2.1,())).bind λy8=>some (((x.1.1,(x.1.2.1,(x.1.2.2.1,(x.1.2.2.2.1,(x.1.2.2.2.2.1,(x.1.2.2.2.2.2.1,(x.1.2.2.2.2.2.2.1,(x.1.2.2.2.2.2.2.2.1,(y1.1.1,(y7.1.1,(x.1.2.2.2.2.2.2.2.2.2.2.1,(y8.1.1,x.1.2.2.2.2.2.2.2.2.2.2.2.2)))))))))))),()),()))) else ((Q47.f K (x.1.2.2.2.2.2.2.2.2.2.1,x.2.1,())).bind λy9=>(Q48.f K ((x.1.1,(x.1.2.1,(x.1.2.2.1,(x.1.2.2.2.1,(x.1.2.2.2.2.1,(x.1.2.2.2.2.2.1,(x.1.2.2.2.2.2.2.1,(x.1.2.2.2.2.2.2.2.1,(y1.1.1,(y9.1.1,x.1.2.2.2.2.2.2.2.2.2.2)))))))))),x.2.1,x.2.2.1,())).bind λy10=>some (((x.1.1,(x.1.2.1,(x.1.2.2.1,(x.1.2.2.2.1,(x.1.2.2.2.2.1,(x.1.2.2.2.2.2.1,(x.1.2.2.2.2.2.2.1,(x.1.2.2.2.2.2.2.2.1,(y1.1.1,(y9.1.1,(x.1.2.2.2.2.2.2.2.2.2.2.1,(y10.1.1,x.1.2.2.2.2.2.2.2.2.2.2.2.2)))))))))))),()),())))
def c (K:Nat):Ctr:=⟨219,ps,rs,false,f K⟩
end Q49
namespace Q50
abbrev ps:List PK:=[.own t38,.rd t2]
abbrev rs:List RK:=[.v t38]
abbrev Res:=ak rs×aj ps
def f (K:Nat)(x:ab ps):Option Res:=(Q45.f K (x.1.2.2.2.2.2.2.2.2.1,x.1.1,())).bind λy1=>(idx x.1.2.2.2.2.2.2.2.2.1 y1.1.1).bind λy2=>(Q29.f K (x.2.1,y2,())).bind λy3=>bif !y3.1.1 then (some ((x.1,()),())) else (bif decide (x.2.1.2.1>=999) then (some ((x.1,()),())) else ((Q49.f K ((x.1.1,(x.1.2.1,(x.1.2.2.1,(x.1.2.2.2.1,(wr .i64 (x.2.1.2.1+1),x.1.2.2.2.2.2))))),(x.1.1,(wr .i64 (x.2.1.2.1+1),(1,x.1.2.2.2.1))),x.1.1,())).bind λy4=>some ((y4.1.1,()),())))
def c (K:Nat):Ctr:=⟨236,ps,rs,false,f K⟩
end Q50
namespace Q51
abbrev ps:List PK:=[.own t38,.rd t2,.rd (.int .i64)]
abbrev rs:List RK:=[.v t38]
abbrev Res:=ak rs×aj ps
abbrev A_l1:=Int×Int×List (Ty.den t6)×Int×Int×Int×List (Ty.den (.int .i64))
abbrev A_l0:=Int×List (Ty.den t6)
def l1.step (K:Nat)(x:ab ps)(rec_l0:A_l0->Option Res)(rec_l1:A_l1->Option Res)(a:A_l1):Option Res:=bif decide (a.2.1<(AA a.2.2.2.2.2.2:Int)) then ((idx a.2.2.2.2.2.2 a.2.1).bind λy3=>bif decide (y3<x.2.2.1) then (rec_l1 (a.1,wr .i64 (a.2.1+1),a.2.2.1,a.2.2.2.1,a.2.2.2.2.1,a.2.2.2.2.2.1,a.2.2.2.2.2.2)) else (bif a.2.1==(AA a.2.2.2.2.2.2:Int) then (bif decide (0<=0)&&decide (0<=a.2.1)&&decide (a.2.1<=(AA a.2.2.2.2.2.2:Int))&&true then (bif decide ((AA ([]:List (Ty.den (.int .i64)))+AA ((a.2.2.2.2.2.2.take (AB a.2.1)).drop (AB 0)))*8<=ah) then (bif decide ((AA ([]++((a.2.2.2.2.2.2.take (AB a.2.1)).drop (AB 0)))+AA ([x.2.2.1]))*8<=ah) then (bif decide (0<=a.2.1)&&decide (a.2.1<=(AA a.2.2.2.2.2.2:Int))&&decide ((AA a.2.2.2.2.2.2:Int)<=(AA a.2.2.2.2.2.2:Int))&&true then (bif decide ((AA (([]++((a.2.2.2.2.2.2.take (AB a.2.1)).drop (AB 0)))++([x.2.2.1]))+AA ((a.2.2.2.2.2.2.take (AB (AA a.2.2.2.2.2.2:Int))).drop (AB a.2.1)))*8<=ah) then ((idx a.2.2.1 a.1).bind λ_=>(idx a.2.2.1 (AB a.1:Nat)).bind λy5=>rec_l0 (wr .i64 (a.1+1),a.2.2.1.set (AB a.1) (a.2.2.2.1,(a.2.2.2.2.1,(a.2.2.2.2.2.1,(([]++((a.2.2.2.2.2.2.take (AB a.2.1)).drop (AB 0)))++([x.2.2.1]))++((a.2.2.2.2.2.2.take (AB (AA a.2.2.2.2.2.2:Int))).drop (AB a.2.1))))))) else none) else none) else none) else none) else none) else ((idx a.2.2.2.2.2.2 a.2.1).bind λy6=>bif y6 != x.2.2.1 then (bif decide (0<=0)&&decide (0<=a.2.1)&&decide (a.2.1<=(AA a.2.2.2.2.2.2:Int))&&true then (bif decide ((AA ([]:List (Ty.den (.int .i64)))+AA ((a.2.2.2.2.2.2.take (AB a.2.1)).drop (AB 0)))*8<=ah) then (bif decide ((AA ([]++((a.2.2.2.2.2.2.take (AB a.2.1)).drop (AB 0)))+AA ([x.2.2.1]))*8<=ah) then (bif decide (0<=a.2.1)&&decide (a.2.1<=(AA a.2.2.2.2.2.2:Int))&&decide ((AA a.2.2.2.2.2.2:Int)<=(AA a.2.2.2.2.2.2:Int))&&true then (bif decide ((AA (([]++((a.2.2.2.2.2.2.take (AB a.2.1)).drop (AB 0)))++([x.2.2.1]))+AA ((a.2.2.2.2.2.2.take (AB (AA a.2.2.2.2.2.2:Int))).drop (AB a.2.1)))*8<=ah) then ((idx a.2.2.1 a.1).bind λ_=>(idx a.2.2.1 (AB a.1:Nat)).bind λy8=>rec_l0 (wr .i64 (a.1+1),a.2.2.1.set (AB a.1) (a.2.2.2.1,(a.2.2.2.2.1,(a.2.2.2.2.2.1,(([]++((a.2.2.2.2.2.2.take (AB a.2.1)).drop (AB 0)))++([x.2.2.1]))++((a.2.2.2.2.2.2.take (AB (AA a.2.2.2.2.2.2:Int))).drop (AB a.2.1))))))) else none) else none) else none) else none) else none) else (rec_l0 (wr .i64 (a.1+1),a.2.2.1))))) else (bif a.2.1==(AA a.2.2.2.2.2.2:Int) then (bif decide (0<=0)&&decide (0<=a.2.1)&&decide (a.2.1<=(AA a.2.2.2.2.2.2:Int))&&true then (bif decide ((AA ([]:List (Ty.den (.int .i64)))+AA ((a.2.2.2.2.2.2.take (AB a.2.1)).drop (AB 0)))*8<=ah) then (bif decide ((AA ([]++((a.2.2.2.2.2.2.take (AB a.2.1)).drop (AB 0)))+AA ([x.2.2.1]))*8<=ah) then (bif decide (0<=a.2.1)&&decide (a.2.1<=(AA a.2.2.2.2.2.2:Int))&&decide ((AA a.2.2.2.2.2.2:Int)<=(AA a.2.2.2.2.2.2:Int))&&true then (bif decide ((AA (([]++((a.2.2.2.2.2.2.take (AB a.2.1)).drop (AB 0)))++([x.2.2.1]))+AA ((a.2.2.2.2.2.2.take (AB (AA a.2.2.2.2.2.2:Int))).drop (AB a.2.1)))*8<=ah) then ((idx a.2.2.1 a.1).bind λ_=>(idx a.2.2.1 (AB a.1:Nat)).bind λy10=>rec_l0 (wr .i64 (a.1+1),a.2.2.1.set (AB a.1) (a.2.2.2.1,(a.2.2.2.2.1,(a.2.2.2.2.2.1,(([]++((a.2.2.2.2.2.2.take (AB a.2.1)).drop (AB 0)))++([x.2.2.1]))++((a.2.2.2.2.2.2.take (AB (AA a.2.2.2.2.2.2:Int))).drop (AB a.2.1))))))) else none) else none) else none) else none) else none) else ((idx a.2.2.2.2.2.2 a.2.1).bind λy11=>bif y11 != x.2.2.1 then (bif decide (0<=0)&&decide (0<=a.2.1)&&decide (a.2.1<=(AA a.2.2.2.2.2.2:Int))&&true then (bif decide ((AA ([]:List (Ty.den (.int .i64)))+AA ((a.2.2.2.2.2.2.take (AB a.2.1)).drop (AB 0)))*8<=ah) then (bif decide ((AA ([]++((a.2.2.2.2.2.2.take (AB a.2.1)).drop (AB 0)))+AA ([x.2.2.1]))*8<=ah) then (bif decide (0<=a.2.1)&&decide (a.2.1<=(AA a.2.2.2.2.2.2:Int))&&decide ((AA a.2.2.2.2.2.2:Int)<=(AA a.2.2.2.2.2.2:Int))&&true then (bif decide ((AA (([]++((a.2.2.2.2.2.2.take (AB a.2.1)).drop (AB 0)))++([x.2.2.1]))+AA ((a.2.2.2.2.2.2.take (AB (AA a.2.2.2.2.2.2:Int))).drop (AB a.2.1)))*8<=ah) then ((idx a.2.2.1 a.1).bind λ_=>(idx a.2.2.1 (AB a.1:Nat)).bind λy13=>rec_l0 (wr .i64 (a.1+1),a.2.2.1.set (AB a.1) (a.2.2.2.1,(a.2.2.2.2.1,(a.2.2.2.2.2.1,(([]++((a.2.2.2.2.2.2.take (AB a.2.1)).drop (AB 0)))++([x.2.2.1]))++((a.2.2.2.2.2.2.take (AB (AA a.2.2.2.2.2.2:Int))).drop (AB a.2.1))))))) else none) else none) else none) else none) else none) else (rec_l0 (wr .i64 (a.1+1),a.2.2.1))))
def l1 (K:Nat)(x:ab ps)(rec_l0:A_l0->Option Res):A_l1->Option Res:=ae (λrec_l1 a=>l1.step K x rec_l0 rec_l1 a) K
def l0.step (K:Nat)(x:ab ps)(N_l1:A_l1->Option Res)(rec_l0:A_l0->Option Res)(a:A_l0):Option Res:=bif decide (a.1<(AA a.2:Int)) then ((idx a.2 a.1).bind λ_=>(idx a.2 (AB a.1:Nat)).bind λy2=>bif y2.1 != x.2.1.1 then (rec_l0 (wr .i64 (a.1+1),a.2)) else (bif y2.2.1 != x.2.1.2.1 then (rec_l0 (wr .i64 (a.1+1),a.2)) else (bif x.2.1.2.2.1 != 2 then (rec_l0 (wr .i64 (a.1+1),a.2)) else (N_l1 (a.1,0,a.2,y2.1,y2.2.1,y2.2.2.1,y2.2.2.2))))) else (some (((x.1.1,(x.1.2.1,(x.1.2.2.1,(x.1.2.2.2.1,(x.1.2.2.2.2.1,(x.1.2.2.2.2.2.1,(x.1.2.2.2.2.2.2.1,(x.1.2.2.2.2.2.2.2.1,(x.1.2.2.2.2.2.2.2.2.1,(x.1.2.2.2.2.2.2.2.2.2.1,(x.1.2.2.2.2.2.2.2.2.2.2.1,(a.2,x.1.2.2.2.2.2.2.2.2.2.2.2.2)))))))))))),()),()))
def l0 (K:Nat)(x:ab ps):A_l0->Option Res:=ae (λrec_l0 a=>l0.step K x (l1 K x rec_l0) rec_l0 a) K
def pre (K:Nat)(N_l0:A_l0->Option Res)(x:ab ps):Option Res:=N_l0 (0,x.1.2.2.2.2.2.2.2.2.2.2.2.1)
def f (K:Nat)(x:ab ps):Option Res:=pre K (l0 K x) x
def c (K:Nat):Ctr:=⟨237,ps,rs,false,f K⟩
def G (K:Nat):List Ctr:=[]
def live_l1:List (Nat×List Coe):=[(2,[.keep]),(3,[.keep]),(4,[.keep]),(6,[.keep]),(7,[.keep]),(8,[.keep]),(9,[.keep]),(100003,[.keep,.keep,.keep,.keep,.keep,.keep,.keep,.keep,.ro true 41 t2,.ro true 116 t3,.keep,.keep,.keep,.keep,.own true 92 t6,.keep,.keep,.keep,.keep,.ro true 45 t11,.ro true 56 t12]),(100004,[.keep,.keep,.keep,.keep]),(100006,[.keep,.keep,.keep,.keep,.keep,.keep,.keep,.keep,.keep,.keep,.keep,.keep,.keep,.keep,.keep,.keep,.keep,.keep,.keep,.keep,.keep]),(100008,[.keep,.keep,.keep,.ro true 3 (.int .i64)])]
def live_l0:List (Nat×List Coe):=[(2,[.keep]),(3,[.keep]),(4,[.keep]),(6,[.keep]),(7,[.keep]),(100003,[.keep,.keep,.keep,.keep,.keep,.keep,.keep,.keep,.ro true 41 t2,.ro true 116 t3,.keep,.keep,.keep,.keep,.own true 92 t6,.keep,.keep,.keep,.keep,.ro true 45 t11,.ro true 56 t12]),(100004,[.keep,.keep,.keep,.keep]),(100006,[.keep,.keep,.keep,.keep,.keep,.keep,.keep,.keep,.keep,.keep,.keep,.keep,.keep,.keep,.keep,.keep,.keep,.keep,.keep,.keep,.keep])]
def L:List (Nat×List (Nat×List Coe)):=[(8,live_l1),(3,live_l0)]
def body:Code:=dh Tryz.f237
abbrev ev (K:Nat):Code->St->(Ex->St->Option Res)->Option Res:=evK (G K) T_NS L K
abbrev fin:Ex->St->Option Res:=dy T_NS ps rs false Tryz.f237.results.toList
def S_l0 (x:ab ps)(a:A_l0):St:=az [(2,⟨0,.one,[.int .i64 x.2.2.1]⟩),(3,⟨0,.one,[.bp 100003 0]⟩),(4,⟨0,.one,[.bp 100004 0]⟩),(6,⟨0,.one,[.bp 100006 0]⟩),(7,⟨0,.one,[.int .i64 a.1]⟩),(100003,⟨0,.agg,[.int .i64 x.1.1,.bool x.1.2.1,.bool x.1.2.2.1,.bool x.1.2.2.2.1,.int .i64 x.1.2.2.2.2.1,.int .i64 x.1.2.2.2.2.2.1,.int .i64 x.1.2.2.2.2.2.2.1,.int .i64 x.1.2.2.2.2.2.2.2.1,.ro true 41 t2 x.1.2.2.2.2.2.2.2.2.1,.ro true 116 t3 x.1.2.2.2.2.2.2.2.2.2.1,.int .i64 x.1.2.2.2.2.2.2.2.2.2.2.1.1,.int .i64 x.1.2.2.2.2.2.2.2.2.2.2.1.2.1,.int .i64 x.1.2.2.2.2.2.2.2.2.2.2.1.2.2.1,.bool x.1.2.2.2.2.2.2.2.2.2.2.1.2.2.2,.own true none 92 t6 a.2,.int .i64 x.1.2.2.2.2.2.2.2.2.2.2.2.2.1.1,.int .i64 x.1.2.2.2.2.2.2.2.2.2.2.2.2.1.2.1,.int .i64 x.1.2.2.2.2.2.2.2.2.2.2.2.2.1.2.2.1,.int .i64 x.1.2.2.2.2.2.2.2.2.2.2.2.2.1.2.2.2,.ro true 45 t11 x.1.2.2.2.2.2.2.2.2.2.2.2.2.2.1,.ro true 56 t12 x.1.2.2.2.2.2.2.2.2.2.2.2.2.2.2]⟩),(100004,⟨0,.agg,[.int .i64 x.2.1.1,.int .i64 x.2.1.2.1,.int .i64 x.2.1.2.2.1,.bool x.2.1.2.2.2]⟩),(100006,⟨0,.agg,[.int .i64 0,.bool false,.bool false,.bool false,.int .i64 0,.int .i64 0,.int .i64 0,.int .i64 0,.nil,.nil,.int .i64 0,.int .i64 0,.int .i64 0,.bool false,.nil,.int .i64 0,.int .i64 0,.int .i64 0,.int .i64 0,.nil,.nil]⟩)]
def S_l1 (x:ab ps)(a:A_l1):St:=az [(2,⟨0,.one,[.int .i64 x.2.2.1]⟩),(3,⟨0,.one,[.bp 100003 0]⟩),(4,⟨0,.one,[.bp 100004 0]⟩),(6,⟨0,.one,[.bp 100006 0]⟩),(7,⟨0,.one,[.int .i64 a.1]⟩),(8,⟨0,.one,[.bp 100008 0]⟩),(9,⟨0,.one,[.int .i64 a.2.1]⟩),(100003,⟨0,.agg,[.int .i64 x.1.1,.bool x.1.2.1,.bool x.1.2.2.1,.bool x.1.2.2.2.1,.int .i64 x.1.2.2.2.2.1,.int .i64 x.1.2.2.2.2.2.1,.int .i64 x.1.2.2.2.2.2.2.1,.int .i64 x.1.2.2.2.2.2.2.2.1,.ro true 41 t2 x.1.2.2.2.2.2.2.2.2.1,.ro true 116 t3 x.1.2.2.2.2.2.2.2.2.2.1,.int .i64 x.1.2.2.2.2.2.2.2.2.2.2.1.1,.int .i64 x.1.2.2.2.2.2.2.2.2.2.2.1.2.1,.int .i64 x.1.2.2.2.2.2.2.2.2.2.2.1.2.2.1,.bool x.1.2.2.2.2.2.2.2.2.2.2.1.2.2.2,.own true none 92 t6 a.2.2.1,.int .i64 x.1.2.2.2.2.2.2.2.2.2.2.2.2.1.1,.int .i64 x.1.2.2.2.2.2.2.2.2.2.2.2.2.1.2.1,.int .i64 x.1.2.2.2.2.2.2.2.2.2.2.2.2.1.2.2.1,.int .i64 x.1.2.2.2.2.2.2.2.2.2.2.2.2.1.2.2.2,.ro true 45 t11 x.1.2.2.2.2.2.2.2.2.2.2.2.2.2.1,.ro true 56 t12 x.1.2.2.2.2.2.2.2.2.2.2.2.2.2.2]⟩),(100004,⟨0,.agg,[.int .i64 x.2.1.1,.int .i64 x.2.1.2.1,.int .i64 x.2.1.2.2.1,.bool x.2.1.2.2.2]⟩),(100006,⟨0,.agg,[.int .i64 0,.bool false,.bool false,.bool false,.int .i64 0,.int .i64 0,.int .i64 0,.int .i64 0,.nil,.nil,.int .i64 0,.int .i64 0,.int .i64 0,.bool false,.nil,.int .i64 0,.int .i64 0,.int .i64 0,.int .i64 0,.nil,.nil]⟩),(100008,⟨0,.agg,[.int .i64 a.2.2.2.1,.int .i64 a.2.2.2.2.1,.int .i64 a.2.2.2.2.2.1,.ro true 3 (.int .i64) a.2.2.2.2.2.2]⟩)]
def k_l0 (K:Nat)(x:ab ps):Ex->St->Option Res:=kAt (ev K) body [1,0,1,0] fin
def N_l0 (K:Nat)(x:ab ps):A_l0->Option Res:=λa=>bt live_l0 (ev K (sub body [1,0,1,0,0])) K (S_l0 x a) (k_l0 K x)
def k_l1 (K:Nat)(x:ab ps)(r_l0:St->Option Res):Ex->St->Option Res:=kAt (ev K) (sub body [1,0,1,0,0]) [1,0,0,1,1,1,0,0] (bC live_l0 r_l0 (k_l0 K x))
def N_l1 (K:Nat)(x:ab ps)(r_l0:St->Option Res):A_l1->Option Res:=λa=>bt live_l1 (ev K (sub body [1,0,1,0,0,1,0,0,1,1,1,0,0,0])) K (S_l1 x a) (k_l1 K x r_l0)
end Q51
namespace Q52
abbrev ps:List PK:=[.own t38,.rd (.list false 41 t2),.rd (.int .i64)]
abbrev rs:List RK:=[.v t38]
abbrev Res:=ak rs×aj ps
abbrev A_l0:=Int×Int×Bool×Bool×Bool×Int×Int×Int×Int×List (Ty.den t2)×List (Ty.den t3)×Int×Int×Int×Bool×List (Ty.den t6)×Int×Int×Int×Int×List (Ty.den t11)×List (Ty.den t12)
def l0.step (K:Nat)(x:ab ps)(rec_l0:A_l0->Option Res)(a:A_l0):Option Res:=bif decide (a.1<(AA x.2.1:Int)) then ((idx x.2.1 a.1).bind λy1=>bif y1.1==a.2.1 then ((Q50.f K ((a.2.1,(a.2.2.1,(a.2.2.2.1,(a.2.2.2.2.1,(a.2.2.2.2.2.1,(a.2.2.2.2.2.2.1,(a.2.2.2.2.2.2.2.1,(a.2.2.2.2.2.2.2.2.1,(a.2.2.2.2.2.2.2.2.2.1,(a.2.2.2.2.2.2.2.2.2.2.1,((a.2.2.2.2.2.2.2.2.2.2.2.1,(a.2.2.2.2.2.2.2.2.2.2.2.2.1,(a.2.2.2.2.2.2.2.2.2.2.2.2.2.1,a.2.2.2.2.2.2.2.2.2.2.2.2.2.2.1))),(a.2.2.2.2.2.2.2.2.2.2.2.2.2.2.2.1,((a.2.2.2.2.2.2.2.2.2.2.2.2.2.2.2.2.1,(a.2.2.2.2.2.2.2.2.2.2.2.2.2.2.2.2.2.1,(a.2.2.2.2.2.2.2.2.2.2.2.2.2.2.2.2.2.2.1,a.2.2.2.2.2.2.2.2.2.2.2.2.2.2.2.2.2.2.2.1))),a.2.2.2.2.2.2.2.2.2.2.2.2.2.2.2.2.2.2.2.2))))))))))))),y1,())).bind λy2=>rec_l0 (wr .i64 (a.1+1),y2.1.1.1,y2.1.1.2.1,y2.1.1.2.2.1,y2.1.1.2.2.2.1,y2.1.1.2.2.2.2.1,y2.1.1.2.2.2.2.2.1,y2.1.1.2.2.2.2.2.2.1,y2.1.1.2.2.2.2.2.2.2.1,y2.1.1.2.2.2.2.2.2.2.2.1,y2.1.1.2.2.2.2.2.2.2.2.2.1,y2.1.1.2.2.2.2.2.2.2.2.2.2.1.1,y2.1.1.2.2.2.2.2.2.2.2.2.2.1.2.1,y2.1.1.2.2.2.2.2.2.2.2.2.2.1.2.2.1,y2.1.1.2.2.2.2.2.2.2.2.2.2.1.2.2.2,y2.1.1.2.2.2.2.2.2.2.2.2.2.2.1,y2.1.1.2.2.2.2.2.2.2.2.2.2.2.2.1.1,y2.1.1.2.2.2.2.2.2.2.2.2.2.2.2.1.2.1,y2.1.1.2.2.2.2.2.2.2.2.2.2.2.2.1.2.2.1,y2.1.1.2.2.2.2.2.2.2.2.2.2.2.2.1.2.2.2,y2.1.1.2.2.2.2.2.2.2.2.2.2.2.2.2.1,y2.1.1.2.2.2.2.2.2.2.2.2.2.2.2.2.2)) else ((Q49.f K ((a.2.1,(a.2.2.1,(a.2.2.2.1,(a.2.2.2.2.1,(a.2.2.2.2.2.1,(a.2.2.2.2.2.2.1,(a.2.2.2.2.2.2.2.1,(a.2.2.2.2.2.2.2.2.1,(a.2.2.2.2.2.2.2.2.2.1,(a.2.2.2.2.2.2.2.2.2.2.1,((a.2.2.2.2.2.2.2.2.2.2.2.1,(a.2.2.2.2.2.2.2.2.2.2.2.2.1,(a.2.2.2.2.2.2.2.2.2.2.2.2.2.1,a.2.2.2.2.2.2.2.2.2.2.2.2.2.2.1))),(a.2.2.2.2.2.2.2.2.2.2.2.2.2.2.2.1,((a.2.2.2.2.2.2.2.2.2.2.2.2.2.2.2.2.1,(a.2.2.2.2.2.2.2.2.2.2.2.2.2.2.2.2.2.1,(a.2.2.2.2.2.2.2.2.2.2.2.2.2.2.2.2.2.2.1,a.2.2.2.2.2.2.2.2.2.2.2.2.2.2.2.2.2.2.2.1))),a.2.2.2.2.2.2.2.2.2.2.2.2.2.2.2.2.2.2.2.2))))))))))))),y1,x.2.2.1,())).bind λy3=>(Q51.f K (y3.1.1,y1,x.2.2.1,())).bind λy4=>rec_l0 (wr .i64 (a.1+1),y4.1.1.1,y4.1.1.2.1,y4.1.1.2.2.1,y4.1.1.2.2.2.1,y4.1.1.2.2.2.2.1,y4.1.1.2.2.2.2.2.1,y4.1.1.2.2.2.2.2.2.1,y4.1.1.2.2.2.2.2.2.2.1,y4.1.1.2.2.2.2.2.2.2.2.1,y4.1.1.2.2.2.2.2.2.2.2.2.1,y4.1.1.2.2.2.2.2.2.2.2.2.2.1.1,y4.1.1.2.2.2.2.2.2.2.2.2.2.1.2.1,y4.1.1.2.2.2.2.2.2.2.2.2.2.1.2.2.1,y4.1.1.2.2.2.2.2.2.2.2.2.2.1.2.2.2,y4.1.1.2.2.2.2.2.2.2.2.2.2.2.1,y4.1.1.2.2.2.2.2.2.2.2.2.2.2.2.1.1,y4.1.1.2.2.2.2.2.2.2.2.2.2.2.2.1.2.1,y4.1.1.2.2.2.2.2.2.2.2.2.2.2.2.1.2.2.1,y4.1.1.2.2.2.2.2.2.2.2.2.2.2.2.1.2.2.2,y4.1.1.2.2.2.2.2.2.2.2.2.2.2.2.2.1,y4.1.1.2.2.2.2.2.2.2.2.2.2.2.2.2.2))) else (some (((a.2.1,(a.2.2.1,(a.2.2.2.1,(a.2.2.2.2.1,(a.2.2.2.2.2.1,(a.2.2.2.2.2.2.1,(a.2.2.2.2.2.2.2.1,(a.2.2.2.2.2.2.2.2.1,(a.2.2.2.2.2.2.2.2.2.1,(a.2.2.2.2.2.2.2.2.2.2.1,((a.2.2.2.2.2.2.2.2.2.2.2.1,(a.2.2.2.2.2.2.2.2.2.2.2.2.1,(a.2.2.2.2.2.2.2.2.2.2.2.2.2.1,a.2.2.2.2.2.2.2.2.2.2.2.2.2.2.1))),(a.2.2.2.2.2.2.2.2.2.2.2.2.2.2.2.1,((a.2.2.2.2.2.2.2.2.2.2.2.2.2.2.2.2.1,(a.2.2.2.2.2.2.2.2.2.2.2.2.2.2.2.2.2.1,(a.2.2.2.2.2.2.2.2.2.2.2.2.2.2.2.2.2.2.1,a.2.2.2.2.2.2.2.2.2.2.2.2.2.2.2.2.2.2.2.1))),a.2.2.2.2.2.2.2.2.2.2.2.2.2.2.2.2.2.2.2.2))))))))))))),()),()))
def l0 (K:Nat)(x:ab ps):A_l0->Option Res:=ae (λrec_l0 a=>l0.step K x rec_l0 a) K
def pre (K:Nat)(N_l0:A_l0->Option Res)(x:ab ps):Option Res:=N_l0 (0,x.1.1,x.1.2.1,x.1.2.2.1,x.1.2.2.2.1,x.1.2.2.2.2.1,x.1.2.2.2.2.2.1,x.1.2.2.2.2.2.2.1,x.1.2.2.2.2.2.2.2.1,x.1.2.2.2.2.2.2.2.2.1,x.1.2.2.2.2.2.2.2.2.2.1,x.1.2.2.2.2.2.2.2.2.2.2.1.1,x.1.2.2.2.2.2.2.2.2.2.2.1.2.1,x.1.2.2.2.2.2.2.2.2.2.2.1.2.2.1,x.1.2.2.2.2.2.2.2.2.2.2.1.2.2.2,x.1.2.2.2.2.2.2.2.2.2.2.2.1,x.1.2.2.2.2.2.2.2.2.2.2.2.2.1.1,x.1.2.2.2.2.2.2.2.2.2.2.2.2.1.2.1,x.1.2.2.2.2.2.2.2.2.2.2.2.2.1.2.2.1,x.1.2.2.2.2.2.2.2.2.2.2.2.2.1.2.2.2,x.1.2.2.2.2.2.2.2.2.2.2.2.2.2.1,x.1.2.2.2.2.2.2.2.2.2.2.2.2.2.2)
def f (K:Nat)(x:ab ps):Option Res:=pre K (l0 K x) x
def c (K:Nat):Ctr:=⟨213,ps,rs,false,f K⟩
end Q52
namespace Q53
abbrev ps:List PK:=[.own (.list true 41 t2),.rd t2]
abbrev rs:List RK:=[.v (.list true 41 t2),.v .bool]
abbrev Res:=ak rs×aj ps
abbrev A_l0:=Int
def l0.step (K:Nat)(x:ab ps)(rec_l0:A_l0->Option Res)(a:A_l0):Option Res:=bif decide (a<(AA x.1:Int)) then ((idx x.1 a).bind λ_=>(idx x.1 (AB a:Nat)).bind λy8=>bif decide (y8.1<x.2.1.1) then (rec_l0 (wr .i64 (a+1))) else (bif decide (0<=0)&&decide (0<=a)&&decide (a<=(AA x.1:Int))&&true then (bif decide ((AA ([]:List (Ty.den t2))+AA ((x.1.take (AB a)).drop (AB 0)))*32<=ah) then (bif decide ((AA ([]++((x.1.take (AB a)).drop (AB 0)))+AA ([x.2.1]))*32<=ah) then (bif decide (0<=a)&&decide (a<=(AA x.1:Int))&&decide ((AA x.1:Int)<=(AA x.1:Int))&&true then (bif decide ((AA (([]++((x.1.take (AB a)).drop (AB 0)))++([x.2.1]))+AA ((x.1.take (AB (AA x.1:Int))).drop (AB a)))*32<=ah) then (some (((([]++((x.1.take (AB a)).drop (AB 0)))++([x.2.1]))++((x.1.take (AB (AA x.1:Int))).drop (AB a)),true,()),())) else none) else none) else none) else none) else none)) else (bif decide (0<=0)&&decide (0<=a)&&decide (a<=(AA x.1:Int))&&true then (bif decide ((AA ([]:List (Ty.den t2))+AA ((x.1.take (AB a)).drop (AB 0)))*32<=ah) then (bif decide ((AA ([]++((x.1.take (AB a)).drop (AB 0)))+AA ([x.2.1]))*32<=ah) then (bif decide (0<=a)&&decide (a<=(AA x.1:Int))&&decide ((AA x.1:Int)<=(AA x.1:Int))&&true then (bif decide ((AA (([]++((x.1.take (AB a)).drop (AB 0)))++([x.2.1]))+AA ((x.1.take (AB (AA x.1:Int))).drop (AB a)))*32<=ah) then (some (((([]++((x.1.take (AB a)).drop (AB 0)))++([x.2.1]))++((x.1.take (AB (AA x.1:Int))).drop (AB a)),true,()),())) else none) else none) else none) else none) else none)
def l0 (K:Nat)(x:ab ps):A_l0->Option Res:=ae (λrec_l0 a=>l0.step K x rec_l0 a) K
def pre (K:Nat)(N_l0:A_l0->Option Res)(x:ab ps):Option Res:=(Q45.f K (x.1,x.2.1.1,())).bind λy1=>bif decide (y1.1.1>=0) then ((idx x.1 y1.1.1).bind λ_=>(idx x.1 (AB y1.1.1:Nat)).bind λy3=>(Q29.f K (x.2.1,y3,())).bind λy4=>bif !y4.1.1 then (some ((x.1,false,()),())) else (bif decide ((AA ([]:List (Ty.den t2))+AA x.1)*32<=ah) then ((idx ([]++x.1) y1.1.1).bind λ_=>(idx ([]++x.1) (AB y1.1.1:Nat)).bind λy6=>some ((([]++x.1).set (AB y1.1.1) x.2.1,true,()),())) else none)) else (N_l0 0)
def f (K:Nat)(x:ab ps):Option Res:=pre K (l0 K x) x
def c (K:Nat):Ctr:=⟨195,ps,rs,true,f K⟩
end Q53
namespace Q54
abbrev ps:List PK:=[.rd (.list false 41 t2),.rd (.list false 41 t2)]
abbrev rs:List RK:=[.v (.list true 41 t2)]
abbrev Res:=ak rs×aj ps
abbrev A_l0:=List (Ty.den t2)×Int
def l0.step (K:Nat)(x:ab ps)(rec_l0:A_l0->Option Res)(a:A_l0):Option Res:=bif decide (a.2<(AA x.2.1:Int)) then ((idx x.2.1 a.2).bind λy3=>(Q53.f K (a.1,y3,())).bind λy4=>rec_l0 (y4.1.1,wr .i64 (a.2+1))) else (some ((a.1,()),()))
def l0 (K:Nat)(x:ab ps):A_l0->Option Res:=ae (λrec_l0 a=>l0.step K x rec_l0 a) K
def pre (K:Nat)(N_l0:A_l0->Option Res)(x:ab ps):Option Res:=(Q13.f K (x.1,())).bind λy1=>bif !y1.1.1 then (some (([],()),())) else ((Q13.f K (x.2.1,())).bind λy2=>bif !y2.1.1 then (some (([],()),())) else (bif decide ((AA ([]:List (Ty.den t2))+AA x.1)*32<=ah) then (N_l0 ([]++x.1,0)) else none))
def f (K:Nat)(x:ab ps):Option Res:=pre K (l0 K x) x
def c (K:Nat):Ctr:=⟨245,ps,rs,true,f K⟩
end Q54
namespace Q55
abbrev ps:List PK:=[.rd t26,.rd (.int .i64),.rd (.list false 41 t2)]
abbrev rs:List RK:=[.v (.list true 41 t2)]
abbrev Res:=ak rs×aj ps
abbrev A_l0:=Int
def l0.step (K:Nat)(x:ab ps)(rec_l0:A_l0->Option Res)(a:A_l0):Option Res:=bif decide (a<(AA x.1.2.2.2.2.2.2.2.2.2.2.2.2.2.2:Int)) then ((idx x.1.2.2.2.2.2.2.2.2.2.2.2.2.2.2 a).bind λy1=>bif y1.1==x.2.1 then ((idx x.1.2.2.2.2.2.2.2.2.2.2.2.2.2.2 a).bind λy2=>(Q54.f K (y2.2,x.2.2.1,())).bind λy3=>some ((y3.1.1,()),())) else (rec_l0 (wr .i64 (a+1)))) else (bif decide ((AA ([]:List (Ty.den t2))+AA x.2.2.1)*32<=ah) then (some (([]++x.2.2.1,()),())) else none)
def l0 (K:Nat)(x:ab ps):A_l0->Option Res:=ae (λrec_l0 a=>l0.step K x rec_l0 a) K
def pre (K:Nat)(N_l0:A_l0->Option Res)(x:ab ps):Option Res:=N_l0 0
def f (K:Nat)(x:ab ps):Option Res:=pre K (l0 K x) x
def c (K:Nat):Ctr:=⟨232,ps,rs,true,f K⟩
end Q55
namespace Q56
abbrev ps:List PK:=[.own t38,.rd (.int .i64),.rd (.list false 41 t2)]
abbrev rs:List RK:=[.v t38]
abbrev Res:=ak rs×aj ps
abbrev A_l0:=List (Ty.den t12)×Bool×Int
def l0.step (K:Nat)(x:ab ps)(rec_l0:A_l0->Option Res)(a:A_l0):Option Res:=bif decide (a.2.2<(AA x.1.2.2.2.2.2.2.2.2.2.2.2.2.2.2:Int)) then ((idx x.1.2.2.2.2.2.2.2.2.2.2.2.2.2.2 a.2.2).bind λy1=>bif !a.2.1 then (bif decide (y1.1>=x.2.1) then (bif decide ((AA a.1+AA ([(x.2.1,x.2.2.1)]))*32<=ah) then (bif y1.1 != x.2.1 then (bif decide ((AA (a.1++([(x.2.1,x.2.2.1)]))+AA ([y1]))*32<=ah) then (rec_l0 ((a.1++([(x.2.1,x.2.2.1)]))++([y1]),true,wr .i64 (a.2.2+1))) else none) else (rec_l0 (a.1++([(x.2.1,x.2.2.1)]),true,wr .i64 (a.2.2+1)))) else none) else (bif y1.1 != x.2.1 then (bif decide ((AA a.1+AA ([y1]))*32<=ah) then (rec_l0 (a.1++([y1]),a.2.1,wr .i64 (a.2.2+1))) else none) else (rec_l0 (a.1,a.2.1,wr .i64 (a.2.2+1))))) else (bif y1.1 != x.2.1 then (bif decide ((AA a.1+AA ([y1]))*32<=ah) then (rec_l0 (a.1++([y1]),a.2.1,wr .i64 (a.2.2+1))) else none) else (rec_l0 (a.1,a.2.1,wr .i64 (a.2.2+1))))) else (bif !a.2.1 then (bif decide ((AA a.1+AA ([(x.2.1,x.2.2.1)]))*32<=ah) then (some (((x.1.1,(x.1.2.1,(x.1.2.2.1,(x.1.2.2.2.1,(x.1.2.2.2.2.1,(x.1.2.2.2.2.2.1,(x.1.2.2.2.2.2.2.1,(x.1.2.2.2.2.2.2.2.1,(x.1.2.2.2.2.2.2.2.2.1,(x.1.2.2.2.2.2.2.2.2.2.1,(x.1.2.2.2.2.2.2.2.2.2.2.1,(x.1.2.2.2.2.2.2.2.2.2.2.2.1,(x.1.2.2.2.2.2.2.2.2.2.2.2.2.1,(x.1.2.2.2.2.2.2.2.2.2.2.2.2.2.1,a.1++([(x.2.1,x.2.2.1)]))))))))))))))),()),())) else none) else (some (((x.1.1,(x.1.2.1,(x.1.2.2.1,(x.1.2.2.2.1,(x.1.2.2.2.2.1,(x.1.2.2.2.2.2.1,(x.1.2.2.2.2.2.2.1,(x.1.2.2.2.2.2.2.2.1,(x.1.2.2.2.2.2.2.2.2.1,(x.1.2.2.2.2.2.2.2.2.2.1,(x.1.2.2.2.2.2.2.2.2.2.2.1,(x.1.2.2.2.2.2.2.2.2.2.2.2.1,(x.1.2.2.2.2.2.2.2.2.2.2.2.2.1,(x.1.2.2.2.2.2.2.2.2.2.2.2.2.2.1,a.1)))))))))))))),()),())))
def l0 (K:Nat)(x:ab ps):A_l0->Option Res:=ae (λrec_l0 a=>l0.step K x rec_l0 a) K
def pre (K:Nat)(N_l0:A_l0->Option Res)(x:ab ps):Option Res:=N_l0 ([],false,0)
def f (K:Nat)(x:ab ps):Option Res:=pre K (l0 K x) x
def c (K:Nat):Ctr:=⟨233,ps,rs,false,f K⟩
end Q56
namespace Q57
abbrev ps:List PK:=[.rd (.list false 41 t2),.rd (.list false 41 t2)]
abbrev rs:List RK:=[.v .bool]
abbrev Res:=ak rs×aj ps
abbrev A_l0:=Int
def l0.step (K:Nat)(x:ab ps)(rec_l0:A_l0->Option Res)(a:A_l0):Option Res:=bif decide (a<(AA x.1:Int)) then ((idx x.1 a).bind λy1=>(idx x.2.1 a).bind λy2=>bif !Ty.eqv t2 y1 y2 then (some ((true,()),())) else (rec_l0 (wr .i64 (a+1)))) else (some ((false,()),()))
def l0 (K:Nat)(x:ab ps):A_l0->Option Res:=ae (λrec_l0 a=>l0.step K x rec_l0 a) K
def pre (K:Nat)(N_l0:A_l0->Option Res)(x:ab ps):Option Res:=bif (AA x.1:Int) != (AA x.2.1:Int) then (some ((true,()),())) else (N_l0 0)
def f (K:Nat)(x:ab ps):Option Res:=pre K (l0 K x) x
def c (K:Nat):Ctr:=⟨234,ps,rs,true,f K⟩
end Q57
namespace Q58
abbrev ps:List PK:=[.own t38,.rd t47]
abbrev rs:List RK:=[.v t38,.v (.list true 133 t47)]
abbrev Res:=ak rs×aj ps
def f (K:Nat)(x:ab ps):Option Res:=(Q42.f K (x.1.1,())).bind λy1=>(Q14.f K (x.2.1.2.2.2.2.2.2.2,y1.1.1,())).bind λy2=>bif y2.1.1 then ((Q52.f K (x.1,x.2.1.2.2.2.2.2.2.2,x.1.1,())).bind λy3=>some ((y3.1.1,[],()),())) else ((idx x.2.1.2.2.2.2.2.2.2 0).bind λy4=>(Q42.f K (y4.1,())).bind λy5=>(Q55.f K (x.1,y5.1.1,x.2.1.2.2.2.2.2.2.2,())).bind λy6=>(Q56.f K (x.1,y5.1.1,y6.1.1,())).bind λy7=>bif x.2.1.1==2 then ((Q57.f K (x.2.1.2.2.2.2.2.2.2,y6.1.1,())).bind λy8=>bif y8.1.1 then ((Q44.f K (y7.1.1,6,x.2.1.2.2.1,0,x.1.1,y6.1.1,())).bind λy9=>some ((y7.1.1,[(2,y9.1.1.2)],()),())) else (some ((y7.1.1,[],()),()))) else (some ((y7.1.1,[],()),())))
def c (K:Nat):Ctr:=⟨211,ps,rs,false,f K⟩
end Q58
namespace Q59
abbrev ps:List PK:=[.rd (.list false 116 t3),.rd (.list false 4 .bool)]
abbrev rs:List RK:=[.v (.int .i64)]
abbrev Res:=ak rs×aj ps
abbrev A_l0:=Int×Int
def l0.step (K:Nat)(x:ab ps)(rec_l0:A_l0->Option Res)(a:A_l0):Option Res:=bif decide (a.2<(AA x.1:Int)) then ((idx x.2.1 a.2).bind λy1=>bif !y1 then (bif decide (a.1<0) then (rec_l0 (a.2,wr .i64 (a.2+1))) else ((idx x.1 a.2).bind λy2=>(idx x.1 a.1).bind λy3=>bif decide (y2.2>y3.2) then (rec_l0 (a.2,wr .i64 (a.2+1))) else (rec_l0 (a.1,wr .i64 (a.2+1))))) else (rec_l0 (a.1,wr .i64 (a.2+1)))) else (some ((a.1,()),()))
def l0 (K:Nat)(x:ab ps):A_l0->Option Res:=ae (λrec_l0 a=>l0.step K x rec_l0 a) K
def pre (K:Nat)(N_l0:A_l0->Option Res)(x:ab ps):Option Res:=N_l0 ((-1),0)
def f (K:Nat)(x:ab ps):Option Res:=pre K (l0 K x) x
def c (K:Nat):Ctr:=⟨250,ps,rs,true,f K⟩
end Q59
namespace Q60
abbrev ps:List PK:=[.rd (.list false 116 t3),.rd (.int .i64)]
abbrev rs:List RK:=[.v (.list true 41 t2),.v (.list true 116 t3)]
abbrev Res:=ak rs×aj ps
abbrev A_l1:=List (Ty.den .bool)×List (Ty.den t2)×List (Ty.den t3)×Int
abbrev A_l0:=List (Ty.den .bool)×Int
def l1.step (K:Nat)(x:ab ps)(rec_l1:A_l1->Option Res)(a:A_l1):Option Res:=bif decide (a.2.2.2<(AA x.1:Int)) then ((idx x.1 a.2.2.2).bind λy2=>(idx a.1 a.2.2.2).bind λ_=>(idx a.1 (AB a.2.2.2:Nat)).bind λy4=>bif y4 then (bif decide ((AA a.2.1+AA ([y2.1]))*32<=ah) then (bif decide ((wr .i64 (y2.2-1))>0) then (bif decide ((AA a.2.2.1+AA ([(y2.1,wr .i64 (y2.2-1))]))*40<=ah) then (rec_l1 (a.1,a.2.1++([y2.1]),a.2.2.1++([(y2.1,wr .i64 (y2.2-1))]),wr .i64 (a.2.2.2+1))) else none) else (rec_l1 (a.1,a.2.1++([y2.1]),a.2.2.1,wr .i64 (a.2.2.2+1)))) else none) else (bif decide (y2.2>0) then (bif decide ((AA a.2.2.1+AA ([y2]))*40<=ah) then (rec_l1 (a.1,a.2.1,a.2.2.1++([y2]),wr .i64 (a.2.2.2+1))) else none) else (rec_l1 (a.1,a.2.1,a.2.2.1,wr .i64 (a.2.2.2+1))))) else (some ((a.2.1,a.2.2.1,()),()))
def l1 (K:Nat)(x:ab ps):A_l1->Option Res:=ae (λrec_l1 a=>l1.step K x rec_l1 a) K
def l0.step (K:Nat)(x:ab ps)(N_l1:A_l1->Option Res)(rec_l0:A_l0->Option Res)(a:A_l0):Option Res:=bif decide (a.2<x.2.1) then ((Q59.f K (x.1,a.1,())).bind λy1=>bif decide (y1.1.1<0) then (N_l1 (a.1,[],[],0)) else ((idx a.1 y1.1.1).bind λ_=>(idx a.1 (AB y1.1.1:Nat)).bind λy6=>rec_l0 (a.1.set (AB y1.1.1) true,wr .i64 (a.2+1)))) else (N_l1 (a.1,[],[],0))
def l0 (K:Nat)(x:ab ps):A_l0->Option Res:=ae (λrec_l0 a=>l0.step K x (l1 K x) rec_l0 a) K
def pre (K:Nat)(N_l0:A_l0->Option Res)(x:ab ps):Option Res:=bif decide (0<=(AA x.1:Int))&&decide ((AA x.1:Int)=(AA x.1:Int))&&decide ((AA x.1:Int)*(1:Nat)<=ah) then (N_l0 (List.replicate (AB (AA x.1:Int)) (false:Ty.den .bool),0)) else none
def f (K:Nat)(x:ab ps):Option Res:=pre K (l0 K x) x
def c (K:Nat):Ctr:=⟨241,ps,rs,true,f K⟩
def G (K:Nat):List Ctr:=[Q59.c K]
def live_l1:List (Nat×List Coe):=[(0,[.ro true 116 t3]),(6,[.own false 4 .bool]),(9,[.own false 41 t2]),(10,[.own false 116 t3]),(11,[.keep])]
def live_l0:List (Nat×List Coe):=[(0,[.ro true 116 t3]),(1,[.keep]),(6,[.own false 4 .bool]),(7,[.keep])]
def L:List (Nat×List (Nat×List Coe)):=[(12,live_l1),(4,live_l0)]
def body:Code:=dh Tryz.f241
abbrev ev (K:Nat):Code->St->(Ex->St->Option Res)->Option Res:=evK (G K) T_S L K
abbrev fin:Ex->St->Option Res:=dy T_S ps rs true Tryz.f241.results.toList
def S_l0 (x:ab ps)(a:A_l0):St:=az [(0,⟨0,.one,[.ro true 116 t3 x.1]⟩),(1,⟨0,.one,[.int .i64 x.2.1]⟩),(6,⟨0,.one,[.own false none 4 .bool a.1]⟩),(7,⟨0,.one,[.int .i64 a.2]⟩)]
def S_l1 (x:ab ps)(a:A_l1):St:=az [(0,⟨0,.one,[.ro true 116 t3 x.1]⟩),(6,⟨0,.one,[.own false none 4 .bool a.1]⟩),(9,⟨0,.one,[.own false none 41 t2 a.2.1]⟩),(10,⟨0,.one,[.own false none 116 t3 a.2.2.1]⟩),(11,⟨0,.one,[.int .i64 a.2.2.2]⟩)]
def k_l0 (K:Nat)(x:ab ps):Ex->St->Option Res:=kAt (ev K) body [1,1,0,1,0] fin
def N_l0 (K:Nat)(x:ab ps):A_l0->Option Res:=λa=>bt live_l0 (ev K (sub body [1,1,0,1,0,0])) K (S_l0 x a) (k_l0 K x)
def k_l1 (K:Nat)(x:ab ps):Ex->St->Option Res:=kAt (ev K) body [1,1,1,1,1,0,1,0] fin
def N_l1 (K:Nat)(x:ab ps):A_l1->Option Res:=λa=>bt live_l1 (ev K (sub body [1,1,1,1,1,0,1,0,0])) K (S_l1 x a) (k_l1 K x)
end Q60
namespace Q61
abbrev ps:List PK:=[.own t38,.rd (.int .i64)]
abbrev rs:List RK:=[.v (.list true 41 t2),.v t38]
abbrev Res:=ak rs×aj ps
def f (K:Nat)(x:ab ps):Option Res:=(Q60.f K (x.1.2.2.2.2.2.2.2.2.2.1,3,())).bind λy1=>(Q45.f K (x.1.2.2.2.2.2.2.2.2.1,x.2.1,())).bind λy2=>bif decide (y2.1.1>=0) then ((idx x.1.2.2.2.2.2.2.2.2.1 y2.1.1).bind λy3=>bif y3.2.2.1==2 then ((idx x.1.2.2.2.2.2.2.2.2.1 y2.1.1).bind λy4=>(Q53.f K (y1.1.1,y4,())).bind λy5=>some ((y5.1.1,(x.1.1,(x.1.2.1,(x.1.2.2.1,(x.1.2.2.2.1,(x.1.2.2.2.2.1,(x.1.2.2.2.2.2.1,(x.1.2.2.2.2.2.2.1,(x.1.2.2.2.2.2.2.2.1,(x.1.2.2.2.2.2.2.2.2.1,(y1.1.2.1,x.1.2.2.2.2.2.2.2.2.2.2)))))))))),()),())) else (some ((y1.1.1,(x.1.1,(x.1.2.1,(x.1.2.2.1,(x.1.2.2.2.1,(x.1.2.2.2.2.1,(x.1.2.2.2.2.2.1,(x.1.2.2.2.2.2.2.1,(x.1.2.2.2.2.2.2.2.1,(x.1.2.2.2.2.2.2.2.2.1,(y1.1.2.1,x.1.2.2.2.2.2.2.2.2.2.2)))))))))),()),()))) else (some ((y1.1.1,(x.1.1,(x.1.2.1,(x.1.2.2.1,(x.1.2.2.2.1,(x.1.2.2.2.2.1,(x.1.2.2.2.2.2.1,(x.1.2.2.2.2.2.2.1,(x.1.2.2.2.2.2.2.2.1,(x.1.2.2.2.2.2.2.2.2.1,(y1.1.2.1,x.1.2.2.2.2.2.2.2.2.2.2)))))))))),()),()))
def c (K:Nat):Ctr:=⟨223,ps,rs,false,f K⟩
end Q61
namespace Q62
abbrev ps:List PK:=[.rd (.int .i64),.rd (.int .i64),.rd (.int .i64)]
abbrev rs:List RK:=[.v (.int .i64)]
abbrev Res:=ak rs×aj ps
def f (K:Nat)(x:ab ps):Option Res:=bif decide (x.1<x.2.1) then (some ((x.2.1,()),())) else (bif decide (x.1>x.2.2.1) then (some ((x.2.2.1,()),())) else (some ((x.1,()),())))
def c (K:Nat):Ctr:=⟨167,ps,rs,true,f K⟩
end Q62
namespace Q63
abbrev ps:List PK:=[.rd (.list false 3 (.int .i64)),.rd (.int .i64)]
abbrev rs:List RK:=[.v (.list false 3 (.int .i64))]
abbrev Res:=ak rs×aj ps
def f (K:Nat)(x:ab ps):Option Res:=bif decide ((AA ([]:List (Ty.den (.int .i64)))+AA x.1)*8<=ah) then (bif decide ((AA ([]++x.1)+AA ([x.2.1]))*8<=ah) then (bif decide ((AA (([]++x.1)++([x.2.1])):Int)>3) then (bif decide (0<=(wr .i64 ((AA (([]++x.1)++([x.2.1])):Int)-3)))&&decide ((wr .i64 ((AA (([]++x.1)++([x.2.1])):Int)-3))<=(AA (([]++x.1)++([x.2.1])):Int))&&decide ((AA (([]++x.1)++([x.2.1])):Int)<=(AA (([]++x.1)++([x.2.1])):Int))&&true then (some ((((([]++x.1)++([x.2.1])).take (AB (AA (([]++x.1)++([x.2.1])):Int))).drop (AB (wr .i64 ((AA (([]++x.1)++([x.2.1])):Int)-3))),()),())) else none) else (some ((([]++x.1)++([x.2.1]),()),()))) else none) else none
def c (K:Nat):Ctr:=⟨251,ps,rs,true,f K⟩
end Q63
namespace Q64
abbrev ps:List PK:=[.rd (.list false 45 t11),.rd (.int .i64),.rd t9,.rd (.int .i64)]
abbrev rs:List RK:=[.v (.list true 45 t11)]
abbrev Res:=ak rs×aj ps
abbrev A_l0:=List (Ty.den t11)×Bool×Int×List (Ty.den (.int .i64))
def l0.step (K:Nat)(x:ab ps)(rec_l0:A_l0->Option Res)(a:A_l0):Option Res:=bif decide (a.2.2.1<(AA x.1:Int)) then ((idx x.1 a.2.2.1).bind λy1=>bif y1.1==x.2.1 then (bif !a.2.1 then (bif decide (y1.1>=x.2.1) then ((Q63.f K (y1.2.2,x.2.2.2.1,())).bind λy2=>bif decide ((AA a.1+AA ([(x.2.1,(x.2.2.1,y2.1.1))]))*64<=ah) then (bif y1.1 != x.2.1 then (bif decide ((AA (a.1++([(x.2.1,(x.2.2.1,y2.1.1))]))+AA ([y1]))*64<=ah) then (rec_l0 ((a.1++([(x.2.1,(x.2.2.1,y2.1.1))]))++([y1]),true,wr .i64 (a.2.2.1+1),y2.1.1)) else none) else (rec_l0 (a.1++([(x.2.1,(x.2.2.1,y2.1.1))]),true,wr .i64 (a.2.2.1+1),y2.1.1))) else none) else (bif y1.1 != x.2.1 then (bif decide ((AA a.1+AA ([y1]))*64<=ah) then (rec_l0 (a.1++([y1]),a.2.1,wr .i64 (a.2.2.1+1),y1.2.2)) else none) else (rec_l0 (a.1,a.2.1,wr .i64 (a.2.2.1+1),y1.2.2)))) else (bif y1.1 != x.2.1 then (bif decide ((AA a.1+AA ([y1]))*64<=ah) then (rec_l0 (a.1++([y1]),a.2.1,wr .i64 (a.2.2.1+1),y1.2.2)) else none) else (rec_l0 (a.1,a.2.1,wr .i64 (a.2.2.1+1),y1.2.2)))) else (bif !a.2.1 then (bif decide (y1.1>=x.2.1) then ((Q63.f K (a.2.2.2,x.2.2.2.1,())).bind λy3=>bif decide ((AA a.1+AA ([(x.2.1,(x.2.2.1,y3.1.1))]))*64<=ah) then (bif y1.1 != x.2.1 then (bif decide ((AA (a.1++([(x.2.1,(x.2.2.1,y3.1.1))]))+AA ([y1]))*64<=ah) then (rec_l0 ((a.1++([(x.2.1,(x.2.2.1,y3.1.1))]))++([y1]),true,wr .i64 (a.2.2.1+1),y3.1.1)) else none) else (rec_l0 (a.1++([(x.2.1,(x.2.2.1,y3.1.1))]),true,wr .i64 (a.2.2.1+1),y3.1.1))) else none) else (bif y1.1 != x.2.1 then (bif decide ((AA a.1+AA ([y1]))*64<=ah) then (rec_l0 (a.1++([y1]),a.2.1,wr .i64 (a.2.2.1+1),a.2.2.2)) else none) else (rec_l0 (a.1,a.2.1,wr .i64 (a.2.2.1+1),a.2.2.2)))) else (bif y1.1 != x.2.1 then (bif decide ((AA a.1+AA ([y1]))*64<=ah) then (rec_l0 (a.1++([y1]),a.2.1,wr .i64 (a.2.2.1+1),a.2.2.2)) else none) else (rec_l0 (a.1,a.2.1,wr .i64 (a.2.2.1+1),a.2.2.2))))) else (bif !a.2.1 then ((Q63.f K (a.2.2.2,x.2.2.2.1,())).bind λy4=>bif decide ((AA a.1+AA ([(x.2.1,(x.2.2.1,y4.1.1))]))*64<=ah) then (some ((a.1++([(x.2.1,(x.2.2.1,y4.1.1))]),()),())) else none) else (some ((a.1,()),())))
def l0 (K:Nat)(x:ab ps):A_l0->Option Res:=ae (λrec_l0 a=>l0.step K x rec_l0 a) K
def pre (K:Nat)(N_l0:A_l0->Option Res)(x:ab ps):Option Res:=N_l0 ([],false,0,[])
def f (K:Nat)(x:ab ps):Option Res:=pre K (l0 K x) x
def c (K:Nat):Ctr:=⟨246,ps,rs,false,f K⟩
end Q64
namespace Q65
abbrev ps:List PK:=[.rd (.int .i64)]
abbrev rs:List RK:=[.v (.int .i64)]
abbrev Res:=ak rs×aj ps
def f (K:Nat)(x:ab ps):Option Res:=(Q62.f K (x.1,(-1000000000),1000000000,())).bind λy1=>some ((y1.1.1,()),())
def c (K:Nat):Ctr:=⟨148,ps,rs,true,f K⟩
end Q65
namespace Q66
abbrev ps:List PK:=[.rd (.int .i64)]
abbrev rs:List RK:=[.v (.int .i64)]
abbrev Res:=ak rs×aj ps
abbrev A_l0:=Int×Int
def l0.step (K:Nat)(x:ab ps)(rec_l0:A_l0->Option Res)(a:A_l0):Option Res:=bif decide (a.1<a.2) then (bif decide (wr .i64 (AC (wr .i64 ((wr .i64 (a.1+a.2))+1)) 2)=0) then none else (bif decide ((wr .i64 (AC (wr .i64 ((wr .i64 (a.1+a.2))+1)) 2))<=(wr .i64 (AC x.1 (wr .i64 (AC (wr .i64 ((wr .i64 (a.1+a.2))+1)) 2))))) then (rec_l0 (wr .i64 (AC (wr .i64 ((wr .i64 (a.1+a.2))+1)) 2),a.2)) else (rec_l0 (a.1,wr .i64 ((wr .i64 (AC (wr .i64 ((wr .i64 (a.1+a.2))+1)) 2))-1))))) else (some ((a.1,()),()))
def l0 (K:Nat)(x:ab ps):A_l0->Option Res:=ae (λrec_l0 a=>l0.step K x rec_l0 a) K
def pre (K:Nat)(N_l0:A_l0->Option Res)(x:ab ps):Option Res:=N_l0 (0,1500000000)
def f (K:Nat)(x:ab ps):Option Res:=pre K (l0 K x) x
def c (K:Nat):Ctr:=⟨149,ps,rs,true,f K⟩
end Q66
namespace Q67
abbrev ps:List PK:=[.rd (.int .i64),.rd (.int .i64)]
abbrev rs:List RK:=[.v (.int .i64)]
abbrev Res:=ak rs×aj ps
def f (K:Nat)(x:ab ps):Option Res:=(Q65.f K (x.1,())).bind λy1=>(Q65.f K (x.2.1,())).bind λy2=>(Q66.f K (wr .i64 ((wr .i64 (y1.1.1*y1.1.1))+(wr .i64 (y2.1.1*y2.1.1))),())).bind λy3=>(Q65.f K (y3.1.1,())).bind λy4=>some ((y4.1.1,()),())
def c (K:Nat):Ctr:=⟨105,ps,rs,true,f K⟩
end Q67
namespace Q68
abbrev ps:List PK:=[.rd t9,.rd t9]
abbrev rs:List RK:=[.v (.int .i64)]
abbrev Res:=ak rs×aj ps
def f (K:Nat)(x:ab ps):Option Res:=(Q15.f K (x.1,())).bind λy1=>bif !y1.1.1 then (some ((0,()),())) else ((Q15.f K (x.2.1,())).bind λy2=>bif !y2.1.1 then (some ((0,()),())) else ((Q67.f K (wr .i64 (x.1.1-x.2.1.1),wr .i64 (x.1.2.1-x.2.1.2.1),())).bind λy3=>some ((wr .i64 ((wr .i64 (y3.1.1+x.1.2.2.1))+x.2.1.2.2.1),()),())))
def c (K:Nat):Ctr:=⟨49,ps,rs,true,f K⟩
end Q68
namespace Q69
abbrev ps:List PK:=[.rd t9,.rd t9,.rd (.int .i64)]
abbrev rs:List RK:=[.v (.int .i64)]
abbrev Res:=ak rs×aj ps
def f (K:Nat)(x:ab ps):Option Res:=bif decide (wr .i64 (x.1.2.2.2+x.2.1.2.2.2)=0) then none else (some ((wr .i64 (AC (wr .i64 (AC (wr .i64 (x.2.2.1*x.1.2.2.2)) (wr .i64 (x.1.2.2.2+x.2.1.2.2.2)))) 4),()),()))
def c (K:Nat):Ctr:=⟨252,ps,rs,true,f K⟩
end Q69
namespace Q70
abbrev ps:List PK:=[.rd (.int .i64)]
abbrev rs:List RK:=[.v (.int .i64),.v (.int .i64)]
abbrev Res:=ak rs×aj ps
def f (K:Nat)(x:ab ps):Option Res:=bif (bh .i64 x.1 3)==0 then (some ((1,0,()),())) else (bif (bh .i64 x.1 3)==1 then (some ((0,1,()),())) else (bif (bh .i64 x.1 3)==2 then (some (((-1),0,()),())) else (some ((0,(-1),()),()))))
def c (K:Nat):Ctr:=⟨253,ps,rs,true,f K⟩
end Q70
namespace Q71
abbrev ps:List PK:=[.rd (.int .i64)]
abbrev rs:List RK:=[.v (.int .i64)]
abbrev Res:=ak rs×aj ps
def f (K:Nat)(x:ab ps):Option Res:=bif decide (x.1<0) then (some ((wr .i64 (0-x.1),()),())) else (some ((x.1,()),()))
def c (K:Nat):Ctr:=⟨255,ps,rs,true,f K⟩
end Q71
namespace Q72
abbrev ps:List PK:=[.rd t9,.rd t9,.rd (.int .i64),.rd (.int .i64)]
abbrev rs:List RK:=[.v (.int .i64)]
abbrev Res:=ak rs×aj ps
def f (K:Nat)(x:ab ps):Option Res:=(Q71.f K (x.2.2.1,())).bind λy1=>bif decide (x.2.2.2.1=0) then none else ((Q62.f K (wr .i64 (AC (wr .i64 (y1.1.1*1000)) x.2.2.2.1),0,1500,())).bind λy2=>bif decide (wr .i64 (x.1.2.2.2+x.2.1.2.2.2)=0) then none else ((Q62.f K (wr .i64 (x.1.2.2.2+(wr .i64 (AC (wr .i64 (AC (wr .i64 ((wr .i64 (y2.1.1-x.1.2.2.2))*x.1.2.2.2)) (wr .i64 (x.1.2.2.2+x.2.1.2.2.2)))) 4))),1,1500,())).bind λy3=>some ((y3.1.1,()),())))
def c (K:Nat):Ctr:=⟨254,ps,rs,true,f K⟩
end Q72
namespace Q73
abbrev ps:List PK:=[.rd t9,.rd t9,.rd (.int .i64),.rd (.int .i64)]
abbrev rs:List RK:=[.v t9]
abbrev Res:=ak rs×aj ps
def f (K:Nat)(x:ab ps):Option Res:=(Q15.f K (x.1,())).bind λy1=>bif !y1.1.1 then (some (((0,(0,(0,0))),()),())) else ((Q15.f K (x.2.1,())).bind λy2=>bif !y2.1.1 then (some ((x.1,()),())) else ((Q7.f K (x.2.2.1,1,60000,())).bind λy3=>bif !y3.1.1 then (some ((x.1,()),())) else ((Q68.f K (x.1,x.2.1,())).bind λy4=>(Q69.f K (x.1,x.2.1,wr .i64 (x.2.2.1-y4.1.1),())).bind λy5=>(Q67.f K (wr .i64 (x.1.1-x.2.1.1),wr .i64 (x.1.2.1-x.2.1.2.1),())).bind λy6=>bif y6.1.1==0 then ((Q70.f K (x.2.2.2.1,())).bind λy7=>bif decide (y5.1.1<0) then ((Q62.f K (wr .i64 (x.1.1+(wr .i64 (AC (wr .i64 (y5.1.1*0)) 1))),(-100000),100000,())).bind λy8=>(Q62.f K (wr .i64 (x.1.2.1+(wr .i64 (AC (wr .i64 (y5.1.1*0)) 1))),(-100000),100000,())).bind λy9=>(Q62.f K (wr .i64 (x.1.2.2.1+(wr .i64 (AC y5.1.1 4))),0,100000,())).bind λy10=>(Q72.f K (x.1,x.2.1,wr .i64 (x.2.2.1-y4.1.1),x.2.2.1,())).bind λy11=>some (((y8.1.1,(y9.1.1,(y10.1.1,y11.1.1))),()),())) else ((Q62.f K (wr .i64 (x.1.1+(wr .i64 (AC (wr .i64 (y5.1.1*y7.1.1)) 1))),(-100000),100000,())).bind λy12=>(Q62.f K (wr .i64 (x.1.2.1+(wr .i64 (AC (wr .i64 (y5.1.1*y7.1.2.1)) 1))),(-100000),100000,())).bind λy13=>(Q62.f K (wr .i64 (x.1.2.2.1+(wr .i64 (AC y5.1.1 4))),0,100000,())).bind λy14=>(Q72.f K (x.1,x.2.1,wr .i64 (x.2.2.1-y4.1.1),x.2.2.1,())).bind λy15=>some (((y12.1.1,(y13.1.1,(y14.1.1,y15.1.1))),()),()))) else (bif decide (y5.1.1<(wr .i64 (0-y6.1.1))) then (bif decide (y6.1.1=0) then none else ((Q62.f K (wr .i64 (x.1.1+(wr .i64 (AC (wr .i64 ((wr .i64 (0-y6.1.1))*(wr .i64 (x.1.1-x.2.1.1)))) y6.1.1))),(-100000),100000,())).bind λy16=>bif decide (y6.1.1=0) then none else ((Q62.f K (wr .i64 (x.1.2.1+(wr .i64 (AC (wr .i64 ((wr .i64 (0-y6.1.1))*(wr .i64 (x.1.2.1-x.2.1.2.1)))) y6.1.1))),(-100000),100000,())).bind λy17=>(Q62.f K (wr .i64 (x.1.2.2.1+(wr .i64 (AC (wr .i64 (0-y6.1.1)) 4))),0,100000,())).bind λy18=>(Q72.f K (x.1,x.2.1,wr .i64 (x.2.2.1-y4.1.1),x.2.2.1,())).bind λy19=>some (((y16.1.1,(y17.1.1,(y18.1.1,y19.1.1))),()),())))) else (bif decide (y6.1.1=0) then none else ((Q62.f K (wr .i64 (x.1.1+(wr .i64 (AC (wr .i64 (y5.1.1*(wr .i64 (x.1.1-x.2.1.1)))) y6.1.1))),(-100000),100000,())).bind λy20=>bif decide (y6.1.1=0) then none else ((Q62.f K (wr .i64 (x.1.2.1+(wr .i64 (AC (wr .i64 (y5.1.1*(wr .i64 (x.1.2.1-x.2.1.2.1)))) y6.1.1))),(-100000),100000,())).bind λy21=>(Q62.f K (wr .i64 (x.1.2.2.1+(wr .i64 (AC y5.1.1 4))),0,100000,())).bind λy22=>(Q72.f K (x.1,x.2.1,wr .i64 (x.2.2.1-y4.1.1),x.2.2.1,())).bind λy23=>some (((y20.1.1,(y21.1.1,(y22.1.1,y23.1.1))),()),()))))))))
def c (K:Nat):Ctr:=⟨247,ps,rs,true,f K⟩
end Q73
namespace Q74
abbrev ps:List PK:=[.rd (.list false 3 (.int .i64))]
abbrev rs:List RK:=[.v (.int .i64)]
abbrev Res:=ak rs×aj ps
abbrev A_l1:=List (Ty.den (.int .i64))×List (Ty.den (.int .i64))×Int×Int
abbrev A_l0:=List (Ty.den (.int .i64))×List (Ty.den (.int .i64))×Int
def l1.step (K:Nat)(x:ab ps)(rec_l0:A_l0->Option Res)(rec_l1:A_l1->Option Res)(a:A_l1):Option Res:=bif decide (a.2.2.2<(AA a.2.1:Int)) then ((idx a.2.1 a.2.2.2).bind λy1=>(idx a.1 a.2.2.1).bind λy2=>bif decide (y1<=y2) then (rec_l1 (a.1,a.2.1,a.2.2.1,wr .i64 (a.2.2.2+1))) else (bif decide (0<=0)&&decide (0<=a.2.2.2)&&decide (a.2.2.2<=(AA a.2.1:Int))&&true then (bif decide ((AA ([]:List (Ty.den (.int .i64)))+AA ((a.2.1.take (AB a.2.2.2)).drop (AB 0)))*8<=ah) then ((idx a.1 a.2.2.1).bind λy3=>bif decide ((AA ([]++((a.2.1.take (AB a.2.2.2)).drop (AB 0)))+AA ([y3]))*8<=ah) then (bif decide (0<=a.2.2.2)&&decide (a.2.2.2<=(AA a.2.1:Int))&&decide ((AA a.2.1:Int)<=(AA a.2.1:Int))&&true then (bif decide ((AA (([]++((a.2.1.take (AB a.2.2.2)).drop (AB 0)))++([y3]))+AA ((a.2.1.take (AB (AA a.2.1:Int))).drop (AB a.2.2.2)))*8<=ah) then (rec_l0 (a.1,(([]++((a.2.1.take (AB a.2.2.2)).drop (AB 0)))++([y3]))++((a.2.1.take (AB (AA a.2.1:Int))).drop (AB a.2.2.2)),wr .i64 (a.2.2.1+1))) else none) else none) else none) else none) else none)) else (bif decide (0<=0)&&decide (0<=a.2.2.2)&&decide (a.2.2.2<=(AA a.2.1:Int))&&true then (bif decide ((AA ([]:List (Ty.den (.int .i64)))+AA ((a.2.1.take (AB a.2.2.2)).drop (AB 0)))*8<=ah) then ((idx a.1 a.2.2.1).bind λy4=>bif decide ((AA ([]++((a.2.1.take (AB a.2.2.2)).drop (AB 0)))+AA ([y4]))*8<=ah) then (bif decide (0<=a.2.2.2)&&decide (a.2.2.2<=(AA a.2.1:Int))&&decide ((AA a.2.1:Int)<=(AA a.2.1:Int))&&true then (bif decide ((AA (([]++((a.2.1.take (AB a.2.2.2)).drop (AB 0)))++([y4]))+AA ((a.2.1.take (AB (AA a.2.1:Int))).drop (AB a.2.2.2)))*8<=ah) then (rec_l0 (a.1,(([]++((a.2.1.take (AB a.2.2.2)).drop (AB 0)))++([y4]))++((a.2.1.take (AB (AA a.2.1:Int))).drop (AB a.2.2.2)),wr .i64 (a.2.2.1+1))) else none) else none) else none) else none) else none)
def l1 (K:Nat)(x:ab ps)(rec_l0:A_l0->Option Res):A_l1->Option Res:=ae (λrec_l1 a=>l1.step K x rec_l0 rec_l1 a) K
def l0.step (K:Nat)(x:ab ps)(N_l1:A_l1->Option Res)(rec_l0:A_l0->Option Res)(a:A_l0):Option Res:=bif decide (a.2.2<(AA a.1:Int)) then (N_l1 (a.1,a.2.1,a.2.2,0)) else (bif (AA a.2.1:Int)==0 then (some ((0,()),())) else ((idx a.2.1 (wr .i64 (AC (wr .i64 ((AA a.2.1:Int)-1)) 2))).bind λy5=>some ((y5,()),())))
def l0 (K:Nat)(x:ab ps):A_l0->Option Res:=ae (λrec_l0 a=>l0.step K x (l1 K x rec_l0) rec_l0 a) K
def pre (K:Nat)(N_l0:A_l0->Option Res)(x:ab ps):Option Res:=bif decide ((AA x.1:Int)>3) then (bif decide (0<=(wr .i64 ((AA x.1:Int)-3)))&&decide ((wr .i64 ((AA x.1:Int)-3))<=(AA x.1:Int))&&decide ((AA x.1:Int)<=(AA x.1:Int))&&true then (N_l0 ((x.1.take (AB (AA x.1:Int))).drop (AB (wr .i64 ((AA x.1:Int)-3))),[],0)) else none) else (N_l0 (x.1,[],0))
def f (K:Nat)(x:ab ps):Option Res:=pre K (l0 K x) x
def c (K:Nat):Ctr:=⟨248,ps,rs,true,f K⟩
def G (K:Nat):List Ctr:=[]
def live_l1:List (Nat×List Coe):=[(3,[.ro true 3 (.int .i64)]),(4,[.ro false 3 (.int .i64)]),(5,[.keep]),(6,[.keep])]
def live_l0:List (Nat×List Coe):=[(3,[.ro true 3 (.int .i64)]),(4,[.ro false 3 (.int .i64)]),(5,[.keep])]
def L:List (Nat×List (Nat×List Coe)):=[(10,live_l1),(7,live_l0)]
def body:Code:=dh Tryz.f248
abbrev ev (K:Nat):Code->St->(Ex->St->Option Res)->Option Res:=evK (G K) T_S L K
abbrev fin:Ex->St->Option Res:=dy T_S ps rs true Tryz.f248.results.toList
def S_l0 (x:ab ps)(a:A_l0):St:=az [(3,⟨0,.one,[.ro true 3 (.int .i64) a.1]⟩),(4,⟨0,.one,[.ro false 3 (.int .i64) a.2.1]⟩),(5,⟨0,.one,[.int .i64 a.2.2]⟩)]
def S_l1 (x:ab ps)(a:A_l1):St:=az [(3,⟨0,.one,[.ro true 3 (.int .i64) a.1]⟩),(4,⟨0,.one,[.ro false 3 (.int .i64) a.2.1]⟩),(5,⟨0,.one,[.int .i64 a.2.2.1]⟩),(6,⟨0,.one,[.int .i64 a.2.2.2]⟩)]
def k_l0 (K:Nat)(x:ab ps):Ex->St->Option Res:=kAt (ev K) body [1,1,1,1,0,1,0] fin
def N_l0 (K:Nat)(x:ab ps):A_l0->Option Res:=λa=>bt live_l0 (ev K (sub body [1,1,1,1,0,1,0,0])) K (S_l0 x a) (k_l0 K x)
def k_l1 (K:Nat)(x:ab ps)(r_l0:St->Option Res):Ex->St->Option Res:=kAt (ev K) (sub body [1,1,1,1,0,1,0,0]) [1,0,0,1,0,0] (bC live_l0 r_l0 (k_l0 K x))
def N_l1 (K:Nat)(x:ab ps)(r_l0:St->Option Res):A_l1->Option Res:=λa=>bt live_l1 (ev K (sub body [1,1,1,1,0,1,0,0,1,0,0,1,0,0,0])) K (S_l1 x a) (k_l1 K x r_l0)
end Q74
namespace Q75
abbrev ps:List PK:=[.own t38,.rd t47]
abbrev rs:List RK:=[.v t38]
abbrev Res:=ak rs×aj ps
abbrev A_l0:=Int×Int×Int×Int×Int×List (Ty.den t11)
def l0.step (K:Nat)(x:ab ps)(rec_l0:A_l0->Option Res)(a:A_l0):Option Res:=bif decide (a.1<(AA a.2.2.2.2.2:Int)) then ((idx a.2.2.2.2.2 a.1).bind λ_=>(idx a.2.2.2.2.2 (AB a.1:Nat)).bind λy4=>bif y4.1==x.2.1.2.2.1 then ((idx a.2.2.2.2.2 a.1).bind λ_=>(idx a.2.2.2.2.2 (AB a.1:Nat)).bind λy6=>(Q74.f K (y6.2.2,())).bind λy7=>(Q73.f K ((a.2.1,(a.2.2.1,(a.2.2.2.1,a.2.2.2.2.1))),x.2.1.2.2.2.2.2.2.1,y7.1.1,x.2.1.2.2.2.2.1,())).bind λy8=>rec_l0 (wr .i64 (a.1+1),y8.1.1.1,y8.1.1.2.1,y8.1.1.2.2.1,y8.1.1.2.2.2,a.2.2.2.2.2)) else (rec_l0 (wr .i64 (a.1+1),a.2.1,a.2.2.1,a.2.2.2.1,a.2.2.2.2.1,a.2.2.2.2.2))) else (some (((x.1.1,(x.1.2.1,(x.1.2.2.1,(x.1.2.2.2.1,(x.1.2.2.2.2.1,(x.1.2.2.2.2.2.1,(x.1.2.2.2.2.2.2.1,(x.1.2.2.2.2.2.2.2.1,(x.1.2.2.2.2.2.2.2.2.1,(x.1.2.2.2.2.2.2.2.2.2.1,(((-1),(0,(0,false))),(x.1.2.2.2.2.2.2.2.2.2.2.2.1,((a.2.1,(a.2.2.1,(a.2.2.2.1,a.2.2.2.2.1))),(a.2.2.2.2.2,x.1.2.2.2.2.2.2.2.2.2.2.2.2.2.2)))))))))))))),()),()))
def l0 (K:Nat)(x:ab ps):A_l0->Option Res:=ae (λrec_l0 a=>l0.step K x rec_l0 a) K
def pre (K:Nat)(N_l0:A_l0->Option Res)(x:ab ps):Option Res:=bif decide (x.1.2.2.2.2.2.2.2.2.2.2.1.1<0) then (some ((x.1,()),())) else (bif x.1.2.2.2.2.2.2.2.2.2.2.1.1 != x.2.1.2.2.1 then (some ((x.1,()),())) else (bif x.1.2.2.2.2.2.2.2.2.2.2.1.2.2.1 != x.2.1.2.2.2.2.1 then (some ((x.1,()),())) else (bif x.2.1.2.2.2.2.2.1 != x.2.1.2.2.1 then (some ((x.1,()),())) else ((Q62.f K (wr .i64 ((wr .i64 ((wr .i64 (x.1.2.2.2.2.2.1-x.1.2.2.2.2.2.2.2.2.2.2.1.2.1))*1000))+500),1,60000,())).bind λy1=>(Q64.f K (x.1.2.2.2.2.2.2.2.2.2.2.2.2.2.1,x.2.1.2.2.1,x.2.1.2.2.2.2.2.2.1,y1.1.1,())).bind λy2=>N_l0 (0,x.1.2.2.2.2.2.2.2.2.2.2.2.2.1.1,x.1.2.2.2.2.2.2.2.2.2.2.2.2.1.2.1,x.1.2.2.2.2.2.2.2.2.2.2.2.2.1.2.2.1,x.1.2.2.2.2.2.2.2.2.2.2.2.2.1.2.2.2,y2.1.1)))))
def f (K:Nat)(x:ab ps):Option Res:=pre K (l0 K x) x
def c (K:Nat):Ctr:=⟨235,ps,rs,false,f K⟩
end Q75
namespace Q76
abbrev ps:List PK:=[.own t38,.rd t47]
abbrev rs:List RK:=[.v t38,.v (.list true 133 t47)]
abbrev Res:=ak rs×aj ps
def f (K:Nat)(x:ab ps):Option Res:=(Q42.f K (x.1.1,())).bind λy1=>bif x.2.1.2.1==1 then ((Q42.f K (x.2.1.2.2.2.2.2.1,())).bind λy2=>bif y2.1.1 != y1.1.1 then (some ((x.1,[],()),())) else (bif x.2.1.2.2.2.2.2.1==x.1.1 then (some ((x.1,[],()),())) else ((Q61.f K (x.1,x.2.1.2.2.2.2.2.1,())).bind λy3=>(Q44.f K (y3.1.2.1,2,x.2.1.2.2.2.2.2.1,x.2.1.2.2.2.2.1,x.1.1,y3.1.1,())).bind λy4=>some ((y3.1.2.1,[y4.1.1],()),())))) else (bif x.2.1.2.1==3 then ((Q42.f K (x.2.1.2.2.2.2.2.1,())).bind λy5=>bif y5.1.1 != y1.1.1 then (some ((x.1,[],()),())) else (bif x.2.1.2.2.2.2.2.1==x.1.1 then (some ((x.1,[],()),())) else (bif x.2.1.2.2.2.2.2.1==x.2.1.2.2.1 then (some ((x.1,[],()),())) else ((Q61.f K (x.1,x.2.1.2.2.2.2.2.1,())).bind λy6=>(Q44.f K (y6.1.2.1,1,x.2.1.2.2.2.2.2.1,x.2.1.2.2.2.2.1,x.2.1.2.2.1,y6.1.1,())).bind λy7=>some ((y6.1.2.1,[y7.1.1],()),()))))) else (bif x.2.1.2.1==4 then ((Q44.f K (x.1,5,x.2.1.2.2.1,0,x.1.1,x.1.2.2.2.2.2.2.2.2.1,())).bind λy8=>some ((x.1,[y8.1.1],()),())) else (bif x.2.1.2.1==2 then ((Q75.f K (x.1,x.2.1,())).bind λy9=>some ((y9.1.1,[],()),())) else (some ((x.1,[],()),())))))
def c (K:Nat):Ctr:=⟨212,ps,rs,false,f K⟩
end Q76
namespace Q77
abbrev ps:List PK:=[.own t38,.rd t47]
abbrev rs:List RK:=[.v t38,.v (.list true 133 t47)]
abbrev Res:=ak rs×aj ps
def f (K:Nat)(x:ab ps):Option Res:=(Q16.f K (x.2.1,())).bind λy1=>bif !y1.1.1 then (some ((x.1,[],()),())) else ((Q43.f K (x.1,x.2.1,())).bind λy2=>bif !y2.1.1 then (some ((x.1,[],()),())) else (bif x.2.1.2.1==6 then ((Q58.f K (x.1,x.2.1,())).bind λy3=>some ((y3.1.1,y3.1.2.1,()),())) else ((Q52.f K (x.1,x.2.1.2.2.2.2.2.2.2,x.2.1.2.2.1,())).bind λy4=>(Q76.f K (y4.1.1,x.2.1,())).bind λy5=>some ((y5.1.1,y5.1.2.1,()),()))))
def c (K:Nat):Ctr:=⟨185,ps,rs,false,f K⟩
end Q77
namespace Q78
abbrev ps:List PK:=[.own t68,.rd (.int .i64),.rd .bool]
abbrev rs:List RK:=[.v t65]
abbrev Res:=ak rs×aj ps
def f (K:Nat)(x:ab ps):Option Res:=(idx x.1.2.1 x.2.1).bind λ_=>(idx x.1.2.1 (AB x.2.1:Nat)).bind λy2=>bif !x.2.2.1 then ((Q34.f K (x.1.2.1,x.2.1,())).bind λy3=>(Q41.f K (y2.2.1,())).bind λy4=>bif !y4.1.2.1 then (some (((x.1.1,(y3.1.1,x.1.2.2)),()),())) else ((idx x.1.2.2.1 y4.1.1.2.2.1).bind λ_=>(idx x.1.2.2.1 (AB y4.1.1.2.2.1:Nat)).bind λy6=>(idx x.1.2.2.1 y2.1).bind λ_=>(idx x.1.2.2.1 (AB y2.1:Nat)).bind λy8=>bif y6 != y8 then (some (((x.1.1,(y3.1.1,x.1.2.2)),()),())) else (bif y4.1.1.2.2.2.1 != y2.1 then (some (((x.1.1,(y3.1.1,x.1.2.2)),()),())) else ((idx x.1.1 y2.1).bind λ_=>(idx x.1.1 (AB y2.1:Nat)).bind λy10=>(idx x.1.1 (AB y2.1:Nat)).bind λy11=>(Q77.f K ((y10.1,(y10.2.1,(y10.2.2.1,(y10.2.2.2.1,(y10.2.2.2.2.1,(y10.2.2.2.2.2.1,(y10.2.2.2.2.2.2.1,(y10.2.2.2.2.2.2.2.1,(y10.2.2.2.2.2.2.2.2.1,(y10.2.2.2.2.2.2.2.2.2.1,(y10.2.2.2.2.2.2.2.2.2.2.1,(y11.2.2.2.2.2.2.2.2.2.2.2.1,y10.2.2.2.2.2.2.2.2.2.2.2.2)))))))))))),y4.1.1,())).bind λy12=>(Q33.f K (((x.1.1,(y3.1.1,x.1.2.2)),AB y2.1),y12.1.1,y12.1.2.1,y4.1.1.2.2.2.2.2.2.2,())).bind λy13=>some ((y13.1.1,()),()))))) else ((Q41.f K (y2.2.1,())).bind λy14=>bif !y14.1.2.1 then (some ((x.1,()),())) else ((idx x.1.2.2.1 y14.1.1.2.2.1).bind λ_=>(idx x.1.2.2.1 (AB y14.1.1.2.2.1:Nat)).bind λy16=>(idx x.1.2.2.1 y2.1).bind λ_=>(idx x.1.2.2.1 (AB y2.1:Nat)).bind λy18=>bif y16 != y18 then (some ((x.1,()),())) else (bif y14.1.1.2.2.2.1 != y2.1 then (some ((x.1,()),())) else ((idx x.1.1 y2.1).bind λ_=>(idx x.1.1 (AB y2.1:Nat)).bind λy20=>(idx x.1.1 (AB y2.1:Nat)).bind λy21=>(Q77.f K ((y20.1,(y20.2.1,(y20.2.2.1,(y20.2.2.2.1,(y20.2.2.2.2.1,(y20.2.2.2.2.2.1,(y20.2.2.2.2.2.2.1,(y20.2.2.2.2.2.2.2.1,(y20.2.2.2.2.2.2.2.2.1,(y20.2.2.2.2.2.2.2.2.2.1,(y20.2.2.2.2.2.2.2.2.2.2.1,(y21.2.2.2.2.2.2.2.2.2.2.2.1,y20.2.2.2.2.2.2.2.2.2.2.2.2)))))))))))),y14.1.1,())).bind λy22=>(Q33.f K (((x.1.1,x.1.2),AB y2.1),y22.1.1,y22.1.2.1,y14.1.1.2.2.2.2.2.2.2,())).bind λy23=>some ((y23.1.1,()),())))))
def c (K:Nat):Ctr:=⟨160,ps,rs,false,f K⟩
end Q78
namespace Q79
abbrev ps:List PK:=[.own t68,.rd (.int .i64),.rd (.int .i64)]
abbrev rs:List RK:=[.v t65,.v .bool]
abbrev Res:=ak rs×aj ps
def f (K:Nat)(x:ab ps):Option Res:=(idx x.1.2.1 x.2.1).bind λ_=>(idx x.1.2.1 (AB x.2.1:Nat)).bind λy2=>bif y2.2.2 then (some ((x.1,false,()),())) else (bif (y2.2.1.size:Int)==0 then (some ((x.1,false,()),())) else (bif decide ((y2.2.1.size:Int)=0) then none else ((idx (dR y2.2.1) (AD (bh .i64 x.2.2.1 4095) (y2.2.1.size:Int))).bind λ_=>(idx (dR y2.2.1) (AB (AD (bh .i64 x.2.2.1 4095) (y2.2.1.size:Int)):Nat)).bind λy4=>(idx (dR y2.2.1) (AD (bh .i64 x.2.2.1 4095) (y2.2.1.size:Int))).bind λ_=>(idx (dR y2.2.1) (AB (AD (bh .i64 x.2.2.1 4095) (y2.2.1.size:Int)):Nat)).bind λy6=>(idx x.1.2.1 x.2.1).bind λ_=>(idx x.1.2.1 (AB x.2.1:Nat)).bind λy8=>some (((x.1.1,(x.1.2.1.set (AB x.2.1) (y2.1,(fT ((dR y2.2.1).set (AB (AD (bh .i64 x.2.2.1 4095) (y2.2.1.size:Int))) (pa .u8 y4 (wr .u8 (wr .i64 (1+(bh .i64 (AE x.2.2.1 (2 ^ 12)) 127)))))),true)),x.1.2.2)),true,()),()))))
def c (K:Nat):Ctr:=⟨203,ps,rs,false,f K⟩
end Q79
namespace Q80
abbrev ps:List PK:=[.rd (.int .i64),.rd t6]
abbrev rs:List RK:=[.v .bool]
abbrev Res:=ak rs×aj ps
def f (K:Nat)(x:ab ps):Option Res:=bif decide ((wr .i64 ((wr .i64 (6-(AA x.2.1.2.2.2:Int)))+1))<3) then (some ((decide ((wr .i64 (x.1-x.2.1.2.2.1))>=3),()),())) else (some ((decide ((wr .i64 (x.1-x.2.1.2.2.1))>=(wr .i64 ((wr .i64 (6-(AA x.2.1.2.2.2:Int)))+1))),()),()))
def c (K:Nat):Ctr:=⟨218,ps,rs,true,f K⟩
end Q80
namespace Q81
abbrev ps:List PK:=[.rd t26,.rd t2,.rd (.int .i64)]
abbrev rs:List RK:=[.v t26]
abbrev Res:=ak rs×aj ps
def f (K:Nat)(x:ab ps):Option Res:=(Q46.f K (x.1.2.2.2.2.2.2.2.2.1,x.2.1,())).bind λy1=>bif !y1.1.2.1 then (some ((x.1,()),())) else ((Q45.f K (x.1.2.2.2.2.2.2.2.2.1,x.2.1.1,())).bind λy2=>bif decide (y2.1.1>=0) then ((idx x.1.2.2.2.2.2.2.2.2.1 y2.1.1).bind λy3=>bif y3.2.1==x.2.1.2.1 then ((idx x.1.2.2.2.2.2.2.2.2.1 y2.1.1).bind λy4=>(Q47.f K (x.1.2.2.2.2.2.2.2.2.2.1,x.2.1,())).bind λy5=>bif !(y4.2.2.1==x.2.1.2.2.1) then ((Q48.f K ((x.1.1,(x.1.2.1,(x.1.2.2.1,(x.1.2.2.2.1,(x.1.2.2.2.2.1,(x.1.2.2.2.2.2.1,(x.1.2.2.2.2.2.2.1,(x.1.2.2.2.2.2.2.2.1,(y1.1.1,(y5.1.1,x.1.2.2.2.2.2.2.2.2.2.2)))))))))),x.2.1,x.2.2.1,())).bind λy6=>some (((x.1.1,(x.1.2.1,(x.1.2.2.1,(x.1.2.2.2.1,(x.1.2.2.2.2.1,(x.1.2.2.2.2.2.1,(x.1.2.2.2.2.2.2.1,(x.1.2.2.2.2.2.2.2.1,(y1.1.1,(y5.1.1,(x.1.2.2.2.2.2.2.2.2.2.2.1,(y6.1.1,x.1.2.2.2.2.2.2.2.2.2.2.2.2)))))))))))),()),())) else (some (((x.1.1,(x.1.2.1,(x.1.2.2.1,(x.1.2.2.2.1,(x.1.2.2.2.2.1,(x.1.2.2.2.2.2.1,(x.1.2.2.2.2.2.2.1,(x.1.2.2.2.2.2.2.2.1,(y1.1.1,(y5.1.1,x.1.2.2.2.2.2.2.2.2.2.2)))))))))),()),()))) else ((Q47.f K (x.1.2.2.2.2.2.2.2.2.2.1,x.2.1,())).bind λy7=>(Q48.f K ((x.1.1,(x.1.2.1,(x.1.2.2.1,(x.1.2.2.2.1,(x.1.2.2.2.2.1,(x.1.2.2.2.2.2.1,(x.1.2.2.2.2.2.2.1,(x.1.2.2.2.2.2.2.2.1,(y1.1.1,(y7.1.1,x.1.2.2.2.2.2.2.2.2.2.2)))))))))),x.2.1,x.2.2.1,())).bind λy8=>some (((x.1.1,(x.1.2.1,(x.1.2.2.1,(x.1.2.2.2.1,(x.1.2.2.2.2.1,(x.1.2.2.2.2.2.1,(x.1.2.2.2.2.2.2.1,(x.1.2.2.2.2.2.2.2.1,(y1.1.1,(y7.1.1,(x.1.2.2.2.2.2.2.2.2.2.2.1,(y8.1.1,x.1.2.2.2.2.2.2.2.2.2.2.2.2)))))))))))),()),()))) else ((Q47.f K (x.1.2.2.2.2.2.2.2.2.2.1,x.2.1,())).bind λy9=>(Q48.f K ((x.1.1,(x.1.2.1,(x.1.2.2.1,(x.1.2.2.2.1,(x.1.2.2.2.2.1,(x.1.2.2.2.2.2.1,(x.1.2.2.2.2.2.2.1,(x.1.2.2.2.2.2.2.2.1,(y1.1.1,(y9.1.1,x.1.2.2.2.2.2.2.2.2.2.2)))))))))),x.2.1,x.2.2.1,())).bind λy10=>some (((x.1.1,(x.1.2.1,(x.1.2.2.1,(x.1.2.2.2.1,(x.1.2.2.2.2.1,(x.1.2.2.2.2.2.1,(x.1.2.2.2.2.2.2.1,(x.1.2.2.2.2.2.2.2.1,(y1.1.1,(y9.1.1,(x.1.2.2.2.2.2.2.2.2.2.2.1,(y10.1.1,x.1.2.2.2.2.2.2.2.2.2.2.2.2)))))))))))),()),())))
def c (K:Nat):Ctr:=⟨219,ps,rs,false,f K⟩
end Q81
namespace Q82
abbrev ps:List PK:=[.rd t26]
abbrev rs:List RK:=[.v t26]
abbrev Res:=ak rs×aj ps
abbrev A_l0:=Int×Int×Bool×Bool×Bool×Int×Int×Int×Int×List (Ty.den t2)×List (Ty.den t3)×Int×Int×Int×Bool×List (Ty.den t6)×Int×Int×Int×Int×List (Ty.den t11)×List (Ty.den t12)
def l0.step (K:Nat)(x:ab ps)(rec_l0:A_l0->Option Res)(a:A_l0):Option Res:=bif decide (a.1<(AA x.1.2.2.2.2.2.2.2.2.2.2.2.1:Int)) then ((idx x.1.2.2.2.2.2.2.2.2.2.2.2.1 a.1).bind λy1=>(Q80.f K (a.2.2.2.2.2.2.1,y1,())).bind λy2=>bif y2.1.1 then ((idx x.1.2.2.2.2.2.2.2.2.2.2.2.1 a.1).bind λy3=>(Q45.f K (a.2.2.2.2.2.2.2.2.2.1,y3.1,())).bind λy4=>(idx a.2.2.2.2.2.2.2.2.2.1 y4.1.1).bind λy5=>(Q81.f K ((a.2.1,(a.2.2.1,(a.2.2.2.1,(a.2.2.2.2.1,(a.2.2.2.2.2.1,(a.2.2.2.2.2.2.1,(a.2.2.2.2.2.2.2.1,(a.2.2.2.2.2.2.2.2.1,(a.2.2.2.2.2.2.2.2.2.1,(a.2.2.2.2.2.2.2.2.2.2.1,((a.2.2.2.2.2.2.2.2.2.2.2.1,(a.2.2.2.2.2.2.2.2.2.2.2.2.1,(a.2.2.2.2.2.2.2.2.2.2.2.2.2.1,a.2.2.2.2.2.2.2.2.2.2.2.2.2.2.1))),(a.2.2.2.2.2.2.2.2.2.2.2.2.2.2.2.1,((a.2.2.2.2.2.2.2.2.2.2.2.2.2.2.2.2.1,(a.2.2.2.2.2.2.2.2.2.2.2.2.2.2.2.2.2.1,(a.2.2.2.2.2.2.2.2.2.2.2.2.2.2.2.2.2.2.1,a.2.2.2.2.2.2.2.2.2.2.2.2.2.2.2.2.2.2.2.1))),a.2.2.2.2.2.2.2.2.2.2.2.2.2.2.2.2.2.2.2.2))))))))))))),(y5.1,(y5.2.1,(3,y5.2.2.2))),a.2.1,())).bind λy6=>rec_l0 (wr .i64 (a.1+1),y6.1.1.1,y6.1.1.2.1,y6.1.1.2.2.1,y6.1.1.2.2.2.1,y6.1.1.2.2.2.2.1,y6.1.1.2.2.2.2.2.1,y6.1.1.2.2.2.2.2.2.1,y6.1.1.2.2.2.2.2.2.2.1,y6.1.1.2.2.2.2.2.2.2.2.1,y6.1.1.2.2.2.2.2.2.2.2.2.1,y6.1.1.2.2.2.2.2.2.2.2.2.2.1.1,y6.1.1.2.2.2.2.2.2.2.2.2.2.1.2.1,y6.1.1.2.2.2.2.2.2.2.2.2.2.1.2.2.1,y6.1.1.2.2.2.2.2.2.2.2.2.2.1.2.2.2,y6.1.1.2.2.2.2.2.2.2.2.2.2.2.1,y6.1.1.2.2.2.2.2.2.2.2.2.2.2.2.1.1,y6.1.1.2.2.2.2.2.2.2.2.2.2.2.2.1.2.1,y6.1.1.2.2.2.2.2.2.2.2.2.2.2.2.1.2.2.1,y6.1.1.2.2.2.2.2.2.2.2.2.2.2.2.1.2.2.2,y6.1.1.2.2.2.2.2.2.2.2.2.2.2.2.2.1,y6.1.1.2.2.2.2.2.2.2.2.2.2.2.2.2.2)) else (rec_l0 (wr .i64 (a.1+1),a.2.1,a.2.2.1,a.2.2.2.1,a.2.2.2.2.1,a.2.2.2.2.2.1,a.2.2.2.2.2.2.1,a.2.2.2.2.2.2.2.1,a.2.2.2.2.2.2.2.2.1,a.2.2.2.2.2.2.2.2.2.1,a.2.2.2.2.2.2.2.2.2.2.1,a.2.2.2.2.2.2.2.2.2.2.2.1,a.2.2.2.2.2.2.2.2.2.2.2.2.1,a.2.2.2.2.2.2.2.2.2.2.2.2.2.1,a.2.2.2.2.2.2.2.2.2.2.2.2.2.2.1,a.2.2.2.2.2.2.2.2.2.2.2.2.2.2.2.1,a.2.2.2.2.2.2.2.2.2.2.2.2.2.2.2.2.1,a.2.2.2.2.2.2.2.2.2.2.2.2.2.2.2.2.2.1,a.2.2.2.2.2.2.2.2.2.2.2.2.2.2.2.2.2.2.1,a.2.2.2.2.2.2.2.2.2.2.2.2.2.2.2.2.2.2.2.1,a.2.2.2.2.2.2.2.2.2.2.2.2.2.2.2.2.2.2.2.2.1,a.2.2.2.2.2.2.2.2.2.2.2.2.2.2.2.2.2.2.2.2.2))) else (some (((a.2.1,(a.2.2.1,(a.2.2.2.1,(a.2.2.2.2.1,(a.2.2.2.2.2.1,(a.2.2.2.2.2.2.1,(a.2.2.2.2.2.2.2.1,(a.2.2.2.2.2.2.2.2.1,(a.2.2.2.2.2.2.2.2.2.1,(a.2.2.2.2.2.2.2.2.2.2.1,((a.2.2.2.2.2.2.2.2.2.2.2.1,(a.2.2.2.2.2.2.2.2.2.2.2.2.1,(a.2.2.2.2.2.2.2.2.2.2.2.2.2.1,a.2.2.2.2.2.2.2.2.2.2.2.2.2.2.1))),(a.2.2.2.2.2.2.2.2.2.2.2.2.2.2.2.1,((a.2.2.2.2.2.2.2.2.2.2.2.2.2.2.2.2.1,(a.2.2.2.2.2.2.2.2.2.2.2.2.2.2.2.2.2.1,(a.2.2.2.2.2.2.2.2.2.2.2.2.2.2.2.2.2.2.1,a.2.2.2.2.2.2.2.2.2.2.2.2.2.2.2.2.2.2.2.1))),a.2.2.2.2.2.2.2.2.2.2.2.2.2.2.2.2.2.2.2.2))))))))))))),()),()))
def l0 (K:Nat)(x:ab ps):A_l0->Option Res:=ae (λrec_l0 a=>l0.step K x rec_l0 a) K
def pre (K:Nat)(N_l0:A_l0->Option Res)(x:ab ps):Option Res:=N_l0 (0,x.1.1,x.1.2.1,x.1.2.2.1,x.1.2.2.2.1,x.1.2.2.2.2.1,x.1.2.2.2.2.2.1,x.1.2.2.2.2.2.2.1,x.1.2.2.2.2.2.2.2.1,x.1.2.2.2.2.2.2.2.2.1,x.1.2.2.2.2.2.2.2.2.2.1,x.1.2.2.2.2.2.2.2.2.2.2.1.1,x.1.2.2.2.2.2.2.2.2.2.2.1.2.1,x.1.2.2.2.2.2.2.2.2.2.2.1.2.2.1,x.1.2.2.2.2.2.2.2.2.2.2.1.2.2.2,x.1.2.2.2.2.2.2.2.2.2.2.2.1,x.1.2.2.2.2.2.2.2.2.2.2.2.2.1.1,x.1.2.2.2.2.2.2.2.2.2.2.2.2.1.2.1,x.1.2.2.2.2.2.2.2.2.2.2.2.2.1.2.2.1,x.1.2.2.2.2.2.2.2.2.2.2.2.2.1.2.2.2,x.1.2.2.2.2.2.2.2.2.2.2.2.2.2.1,x.1.2.2.2.2.2.2.2.2.2.2.2.2.2.2)
def f (K:Nat)(x:ab ps):Option Res:=pre K (l0 K x) x
def c (K:Nat):Ctr:=⟨190,ps,rs,false,f K⟩
end Q82
namespace Q83
abbrev ps:List PK:=[.rd (.list false 41 t2),.rd (.int .i64)]
abbrev rs:List RK:=[.v .bool]
abbrev Res:=ak rs×aj ps
def f (K:Nat)(x:ab ps):Option Res:=(Q45.f K (x.1,x.2.1,())).bind λy1=>bif decide (y1.1.1>=0) then ((idx x.1 y1.1.1).bind λy2=>bif y2.2.2.1==1 then (some ((true,()),())) else ((idx x.1 y1.1.1).bind λy3=>some ((y3.2.2.1==2,()),()))) else (some ((false,()),()))
def c (K:Nat):Ctr:=⟨220,ps,rs,true,f K⟩
end Q83
namespace Q84
abbrev ps:List PK:=[.rd t26]
abbrev rs:List RK:=[.v (.list true 3 (.int .i64))]
abbrev Res:=ak rs×aj ps
abbrev A_l0:=List (Ty.den (.int .i64))×Int
def l0.step (K:Nat)(x:ab ps)(rec_l0:A_l0->Option Res)(a:A_l0):Option Res:=bif decide (a.2<(AA x.1.2.2.2.2.2.2.2.2.1:Int)) then (bif decide ((AA a.1:Int)<2) then ((idx x.1.2.2.2.2.2.2.2.2.1 a.2).bind λy1=>bif y1.1 != x.1.1 then (bif y1.1 != x.1.2.2.2.2.2.2.2.2.2.2.1.1 then (bif y1.2.2.1==1 then (bif decide ((AA a.1+AA ([y1.1]))*8<=ah) then (rec_l0 (a.1++([y1.1]),wr .i64 (a.2+1))) else none) else (rec_l0 (a.1,wr .i64 (a.2+1)))) else (rec_l0 (a.1,wr .i64 (a.2+1)))) else (rec_l0 (a.1,wr .i64 (a.2+1)))) else (some ((a.1,()),()))) else (some ((a.1,()),()))
def l0 (K:Nat)(x:ab ps):A_l0->Option Res:=ae (λrec_l0 a=>l0.step K x rec_l0 a) K
def pre (K:Nat)(N_l0:A_l0->Option Res)(x:ab ps):Option Res:=N_l0 ([],0)
def f (K:Nat)(x:ab ps):Option Res:=pre K (l0 K x) x
def c (K:Nat):Ctr:=⟨221,ps,rs,true,f K⟩
end Q84
namespace Q85
abbrev ps:List PK:=[.rd t26]
abbrev rs:List RK:=[.v t26,.v (.list true 133 t47)]
abbrev Res:=ak rs×aj ps
abbrev A_l0:=List (Ty.den t47)×List (Ty.den (.int .i64))×Int
def l0.step (K:Nat)(x:ab ps)(rec_l0:A_l0->Option Res)(a:A_l0):Option Res:=bif decide (a.2.2<(AA a.2.1:Int)) then ((idx a.2.1 a.2.2).bind λ_=>(idx a.2.1 (AB a.2.2:Nat)).bind λy7=>(Q44.f K ((x.1.1,(x.1.2.1,(x.1.2.2.1,(x.1.2.2.2.1,(x.1.2.2.2.2.1,(x.1.2.2.2.2.2.1,(x.1.2.2.2.2.2.2.1,(x.1.2.2.2.2.2.2.2.1,(x.1.2.2.2.2.2.2.2.2.1,(x.1.2.2.2.2.2.2.2.2.2.1,((x.1.2.2.2.2.2.2.2.2.2.2.1.1,(x.1.2.2.2.2.2.2.2.2.2.2.1.2.1,(x.1.2.2.2.2.2.2.2.2.2.2.1.2.2.1,true))),x.1.2.2.2.2.2.2.2.2.2.2.2))))))))))),3,y7,x.1.2.2.2.2.2.2.2.2.2.2.1.2.2.1,x.1.2.2.2.2.2.2.2.2.2.2.1.1,[],())).bind λy8=>bif decide ((AA a.1+AA ([y8.1.1]))*104<=ah) then (rec_l0 (a.1++([y8.1.1]),a.2.1,wr .i64 (a.2.2+1))) else none) else (some (((x.1.1,(x.1.2.1,(x.1.2.2.1,(x.1.2.2.2.1,(x.1.2.2.2.2.1,(x.1.2.2.2.2.2.1,(x.1.2.2.2.2.2.2.1,(x.1.2.2.2.2.2.2.2.1,(x.1.2.2.2.2.2.2.2.2.1,(x.1.2.2.2.2.2.2.2.2.2.1,((x.1.2.2.2.2.2.2.2.2.2.2.1.1,(x.1.2.2.2.2.2.2.2.2.2.2.1.2.1,(x.1.2.2.2.2.2.2.2.2.2.2.1.2.2.1,true))),x.1.2.2.2.2.2.2.2.2.2.2.2))))))))))),a.1,()),()))
def l0 (K:Nat)(x:ab ps):A_l0->Option Res:=ae (λrec_l0 a=>l0.step K x rec_l0 a) K
def pre (K:Nat)(N_l0:A_l0->Option Res)(x:ab ps):Option Res:=(Q83.f K (x.1.2.2.2.2.2.2.2.2.1,x.1.2.2.2.2.2.2.2.2.2.2.1.1,())).bind λy1=>bif !y1.1.1 then (some (((x.1.1,(x.1.2.1,(x.1.2.2.1,(x.1.2.2.2.1,(x.1.2.2.2.2.1,(x.1.2.2.2.2.2.1,(x.1.2.2.2.2.2.2.1,(x.1.2.2.2.2.2.2.2.1,(x.1.2.2.2.2.2.2.2.2.1,(x.1.2.2.2.2.2.2.2.2.2.1,(((-1),(0,(0,false))),x.1.2.2.2.2.2.2.2.2.2.2.2))))))))))),[],()),())) else (bif decide ((wr .i64 (x.1.2.2.2.2.2.1-x.1.2.2.2.2.2.2.2.2.2.2.1.2.1))>=4) then ((Q45.f K (x.1.2.2.2.2.2.2.2.2.1,x.1.2.2.2.2.2.2.2.2.2.2.1.1,())).bind λy2=>(idx x.1.2.2.2.2.2.2.2.2.1 y2.1.1).bind λy3=>bif y3.2.2.1==1 then ((Q81.f K ((x.1.1,(x.1.2.1,(x.1.2.2.1,(x.1.2.2.2.1,(x.1.2.2.2.2.1,(x.1.2.2.2.2.2.1,(x.1.2.2.2.2.2.2.1,(x.1.2.2.2.2.2.2.2.1,(x.1.2.2.2.2.2.2.2.2.1,(x.1.2.2.2.2.2.2.2.2.2.1,(((-1),(0,(0,false))),x.1.2.2.2.2.2.2.2.2.2.2.2))))))))))),(y3.1,(y3.2.1,(2,y3.2.2.2))),x.1.1,())).bind λy4=>some ((y4.1.1,[],()),())) else (some (((x.1.1,(x.1.2.1,(x.1.2.2.1,(x.1.2.2.2.1,(x.1.2.2.2.2.1,(x.1.2.2.2.2.2.1,(x.1.2.2.2.2.2.2.1,(x.1.2.2.2.2.2.2.2.1,(x.1.2.2.2.2.2.2.2.2.1,(x.1.2.2.2.2.2.2.2.2.2.1,(((-1),(0,(0,false))),x.1.2.2.2.2.2.2.2.2.2.2.2))))))))))),[],()),()))) else (bif decide ((wr .i64 (x.1.2.2.2.2.2.1-x.1.2.2.2.2.2.2.2.2.2.2.1.2.1))>=2) then (bif !x.1.2.2.2.2.2.2.2.2.2.2.1.2.2.2 then ((Q84.f K ((x.1.1,(x.1.2.1,(x.1.2.2.1,(x.1.2.2.2.1,(x.1.2.2.2.2.1,(x.1.2.2.2.2.2.1,(x.1.2.2.2.2.2.2.1,(x.1.2.2.2.2.2.2.2.1,(x.1.2.2.2.2.2.2.2.2.1,(x.1.2.2.2.2.2.2.2.2.2.1,((x.1.2.2.2.2.2.2.2.2.2.2.1.1,(x.1.2.2.2.2.2.2.2.2.2.2.1.2.1,(x.1.2.2.2.2.2.2.2.2.2.2.1.2.2.1,true))),x.1.2.2.2.2.2.2.2.2.2.2.2))))))))))),())).bind λy5=>N_l0 ([],y5.1.1,0)) else (some ((x.1,[],()),()))) else (some ((x.1,[],()),()))))
def f (K:Nat)(x:ab ps):Option Res:=pre K (l0 K x) x
def c (K:Nat):Ctr:=⟨191,ps,rs,false,f K⟩
end Q85
namespace Q86
abbrev ps:List PK:=[.rd t26]
abbrev rs:List RK:=[.v (.int .i64)]
abbrev Res:=ak rs×aj ps
abbrev A_l0:=Int
def l0.step (K:Nat)(x:ab ps)(rec_l0:A_l0->Option Res)(a:A_l0):Option Res:=bif decide (a<=7) then (bif (AD (wr .i64 (x.1.2.2.2.2.2.2.2.1+a)) 8) != x.1.1 then ((Q83.f K (x.1.2.2.2.2.2.2.2.2.1,AD (wr .i64 (x.1.2.2.2.2.2.2.2.1+a)) 8,())).bind λy1=>bif y1.1.1 then (some ((AD (wr .i64 (x.1.2.2.2.2.2.2.2.1+a)) 8,()),())) else (rec_l0 (wr .i64 (a+1)))) else (rec_l0 (wr .i64 (a+1)))) else (some (((-1),()),()))
def l0 (K:Nat)(x:ab ps):A_l0->Option Res:=ae (λrec_l0 a=>l0.step K x rec_l0 a) K
def pre (K:Nat)(N_l0:A_l0->Option Res)(x:ab ps):Option Res:=N_l0 0
def f (K:Nat)(x:ab ps):Option Res:=pre K (l0 K x) x
def c (K:Nat):Ctr:=⟨222,ps,rs,true,f K⟩
end Q86
namespace Q87
abbrev ps:List PK:=[.rd t26,.rd (.int .i64)]
abbrev rs:List RK:=[.v (.list true 41 t2),.v t26]
abbrev Res:=ak rs×aj ps
def f (K:Nat)(x:ab ps):Option Res:=(Q60.f K (x.1.2.2.2.2.2.2.2.2.2.1,3,())).bind λy1=>(Q45.f K (x.1.2.2.2.2.2.2.2.2.1,x.2.1,())).bind λy2=>bif decide (y2.1.1>=0) then ((idx x.1.2.2.2.2.2.2.2.2.1 y2.1.1).bind λy3=>bif y3.2.2.1==2 then ((idx x.1.2.2.2.2.2.2.2.2.1 y2.1.1).bind λy4=>(Q53.f K (y1.1.1,y4,())).bind λy5=>some ((y5.1.1,(x.1.1,(x.1.2.1,(x.1.2.2.1,(x.1.2.2.2.1,(x.1.2.2.2.2.1,(x.1.2.2.2.2.2.1,(x.1.2.2.2.2.2.2.1,(x.1.2.2.2.2.2.2.2.1,(x.1.2.2.2.2.2.2.2.2.1,(y1.1.2.1,x.1.2.2.2.2.2.2.2.2.2.2)))))))))),()),())) else (some ((y1.1.1,(x.1.1,(x.1.2.1,(x.1.2.2.1,(x.1.2.2.2.1,(x.1.2.2.2.2.1,(x.1.2.2.2.2.2.1,(x.1.2.2.2.2.2.2.1,(x.1.2.2.2.2.2.2.2.1,(x.1.2.2.2.2.2.2.2.2.1,(y1.1.2.1,x.1.2.2.2.2.2.2.2.2.2.2)))))))))),()),()))) else (some ((y1.1.1,(x.1.1,(x.1.2.1,(x.1.2.2.1,(x.1.2.2.2.1,(x.1.2.2.2.2.1,(x.1.2.2.2.2.2.1,(x.1.2.2.2.2.2.2.1,(x.1.2.2.2.2.2.2.2.1,(x.1.2.2.2.2.2.2.2.2.1,(y1.1.2.1,x.1.2.2.2.2.2.2.2.2.2.2)))))))))),()),()))
def c (K:Nat):Ctr:=⟨223,ps,rs,false,f K⟩
end Q87
namespace Q88
abbrev ps:List PK:=[.rd t26]
abbrev rs:List RK:=[.v t26,.v (.list true 133 t47)]
abbrev Res:=ak rs×aj ps
def f (K:Nat)(x:ab ps):Option Res:=(Q86.f K (x.1,())).bind λy1=>bif decide (y1.1.1<0) then (some ((x.1,[],()),())) else (bif decide (x.1.2.2.2.2.2.2.1>=999999) then (some ((x.1,[],()),())) else ((Q87.f K (x.1,y1.1.1,())).bind λy2=>(Q44.f K ((y2.1.2.1.1,(y2.1.2.1.2.1,(y2.1.2.1.2.2.1,(y2.1.2.1.2.2.2.1,(y2.1.2.1.2.2.2.2.1,(y2.1.2.1.2.2.2.2.2.1,(wr .i64 (y2.1.2.1.2.2.2.2.2.2.1+1),(wr .i64 (y1.1.1+1),(y2.1.2.1.2.2.2.2.2.2.2.2.1,(y2.1.2.1.2.2.2.2.2.2.2.2.2.1,((y1.1.1,(y2.1.2.1.2.2.2.2.2.1,(wr .i64 (y2.1.2.1.2.2.2.2.2.2.1+1),false))),y2.1.2.1.2.2.2.2.2.2.2.2.2.2.2))))))))))),1,y1.1.1,wr .i64 (y2.1.2.1.2.2.2.2.2.2.1+1),y2.1.2.1.1,y2.1.1,())).bind λy3=>some (((y2.1.2.1.1,(y2.1.2.1.2.1,(y2.1.2.1.2.2.1,(y2.1.2.1.2.2.2.1,(y2.1.2.1.2.2.2.2.1,(y2.1.2.1.2.2.2.2.2.1,(wr .i64 (y2.1.2.1.2.2.2.2.2.2.1+1),(wr .i64 (y1.1.1+1),(y2.1.2.1.2.2.2.2.2.2.2.2.1,(y2.1.2.1.2.2.2.2.2.2.2.2.2.1,((y1.1.1,(y2.1.2.1.2.2.2.2.2.1,(wr .i64 (y2.1.2.1.2.2.2.2.2.2.1+1),false))),y2.1.2.1.2.2.2.2.2.2.2.2.2.2.2))))))))))),[y3.1.1],()),())))
def c (K:Nat):Ctr:=⟨192,ps,rs,false,f K⟩
end Q88
namespace Q89
abbrev ps:List PK:=[.rd t26,.rd (.int .i64)]
abbrev rs:List RK:=[.v (.int .i64)]
abbrev Res:=ak rs×aj ps
abbrev A_l0:=List (Ty.den (.int .i64))×Int
def l0.step (K:Nat)(x:ab ps)(rec_l0:A_l0->Option Res)(a:A_l0):Option Res:=bif decide (a.2<(AA x.1.2.2.2.2.2.2.2.2.1:Int)) then ((idx x.1.2.2.2.2.2.2.2.2.1 a.2).bind λy1=>bif y1.1 != x.1.1 then ((idx x.1.2.2.2.2.2.2.2.2.1 a.2).bind λy2=>bif y2.2.2.1 != 4 then ((idx x.1.2.2.2.2.2.2.2.2.1 a.2).bind λy3=>bif decide ((AA a.1+AA ([y3.1]))*8<=ah) then (rec_l0 (a.1++([y3.1]),wr .i64 (a.2+1))) else none) else (rec_l0 (a.1,wr .i64 (a.2+1)))) else (rec_l0 (a.1,wr .i64 (a.2+1)))) else (bif (AA a.1:Int)==0 then (some (((-1),()),())) else (bif decide ((AA a.1:Int)=0) then none else ((idx a.1 (AD (bh .i64 x.2.1 255) (AA a.1:Int))).bind λ_=>(idx a.1 (AB (AD (bh .i64 x.2.1 255) (AA a.1:Int)):Nat)).bind λy5=>some ((y5,()),()))))
def l0 (K:Nat)(x:ab ps):A_l0->Option Res:=ae (λrec_l0 a=>l0.step K x rec_l0 a) K
def pre (K:Nat)(N_l0:A_l0->Option Res)(x:ab ps):Option Res:=N_l0 ([],0)
def f (K:Nat)(x:ab ps):Option Res:=pre K (l0 K x) x
def c (K:Nat):Ctr:=⟨224,ps,rs,true,f K⟩
end Q89
namespace Q90
abbrev ps:List PK:=[.rd (.list false 41 t2),.rd (.int .i64)]
abbrev rs:List RK:=[.v (.list true 3 (.int .i64))]
abbrev Res:=ak rs×aj ps
abbrev A_l0:=List (Ty.den (.int .i64))×Int
def l0.step (K:Nat)(x:ab ps)(rec_l0:A_l0->Option Res)(a:A_l0):Option Res:=bif decide (a.2<(AA x.1:Int)) then (bif decide ((AA a.1:Int)<x.2.1) then ((idx x.1 a.2).bind λy1=>bif y1.2.2.2 then ((idx x.1 a.2).bind λy2=>bif y2.2.2.1==1 then ((idx x.1 a.2).bind λy3=>bif decide ((AA a.1+AA ([y3.1]))*8<=ah) then (rec_l0 (a.1++([y3.1]),wr .i64 (a.2+1))) else none) else (rec_l0 (a.1,wr .i64 (a.2+1)))) else (rec_l0 (a.1,wr .i64 (a.2+1)))) else (some ((a.1,()),()))) else (some ((a.1,()),()))
def l0 (K:Nat)(x:ab ps):A_l0->Option Res:=ae (λrec_l0 a=>l0.step K x rec_l0 a) K
def pre (K:Nat)(N_l0:A_l0->Option Res)(x:ab ps):Option Res:=N_l0 ([],0)
def f (K:Nat)(x:ab ps):Option Res:=pre K (l0 K x) x
def c (K:Nat):Ctr:=⟨75,ps,rs,true,f K⟩
end Q90
end
end Go.Proofs.YtmcbmojdeikcdaaGreatEv
