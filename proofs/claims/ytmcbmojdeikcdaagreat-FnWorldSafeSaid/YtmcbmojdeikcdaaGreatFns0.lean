/- The functions, on plain values. Printed by run3.py. -/
import Derived.Test.YtmcbmojdeikcdaaGreatProg
import Derived.Test.YtmcbmojdeikcdaaGreatE0
set_option linter.unusedVariables false
set_option maxRecDepth 100000
set_option linter.unusedVariables false
set_option linter.unusedSimpArgs false
open Int renaming toNat->AB,fdiv->AC,tdiv->AD,tmod->AE
open List renaming length->AA
namespace Go.Proofs.YtmcbmojdeikcdaaGreatEv
open Go Go.Proofs
noncomputable section
abbrev t0:Ty:=.pair (.int .i64) .bool
abbrev t1:Ty:=.pair (.int .i64) t0
abbrev t2:Ty:=.pair (.int .i64) t1
abbrev t3:Ty:=.pair t2 (.int .i64)
abbrev t4:Ty:=.pair (.int .i64) (.list false 3 (.int .i64))
abbrev t5:Ty:=.pair (.int .i64) t4
abbrev t6:Ty:=.pair (.int .i64) t5
abbrev t7:Ty:=.pair (.int .i64) (.int .i64)
abbrev t8:Ty:=.pair (.int .i64) t7
abbrev t9:Ty:=.pair (.int .i64) t8
abbrev t10:Ty:=.pair t9 (.list false 3 (.int .i64))
abbrev t11:Ty:=.pair (.int .i64) t10
abbrev t12:Ty:=.pair (.int .i64) (.list false 41 t2)
abbrev t13:Ty:=.pair (.list false 45 t11) (.list false 56 t12)
abbrev t14:Ty:=.pair t9 t13
abbrev t15:Ty:=.pair (.list false 92 t6) t14
abbrev t16:Ty:=.pair t2 t15
abbrev t17:Ty:=.pair (.list false 116 t3) t16
abbrev t18:Ty:=.pair (.list false 41 t2) t17
abbrev t19:Ty:=.pair (.int .i64) t18
abbrev t20:Ty:=.pair (.int .i64) t19
abbrev t21:Ty:=.pair (.int .i64) t20
abbrev t22:Ty:=.pair (.int .i64) t21
abbrev t23:Ty:=.pair .bool t22
abbrev t24:Ty:=.pair .bool t23
abbrev t25:Ty:=.pair .bool t24
abbrev t26:Ty:=.pair (.int .i64) t25
abbrev t27:Ty:=.pair (.list true 92 t6) t14
abbrev t28:Ty:=.pair t2 t27
abbrev t29:Ty:=.pair (.list false 116 t3) t28
abbrev t30:Ty:=.pair (.list false 41 t2) t29
abbrev t31:Ty:=.pair (.int .i64) t30
abbrev t32:Ty:=.pair (.int .i64) t31
abbrev t33:Ty:=.pair (.int .i64) t32
abbrev t34:Ty:=.pair (.int .i64) t33
abbrev t35:Ty:=.pair .bool t34
abbrev t36:Ty:=.pair .bool t35
abbrev t37:Ty:=.pair .bool t36
abbrev t38:Ty:=.pair (.int .i64) t37
abbrev t39:Ty:=.pair .str .bool
abbrev t40:Ty:=.pair (.int .i64) t39
abbrev t41:Ty:=.pair t9 (.list false 41 t2)
abbrev t42:Ty:=.pair (.int .i64) t41
abbrev t43:Ty:=.pair (.int .i64) t42
abbrev t44:Ty:=.pair (.int .i64) t43
abbrev t45:Ty:=.pair (.int .i64) t44
abbrev t46:Ty:=.pair (.int .i64) t45
abbrev t47:Ty:=.pair (.int .i64) t46
abbrev t48:Ty:=.pair (.list false 5 (.int .u8)) (.int .i64)
abbrev t49:Ty:=.pair (.list true 45 t11) (.list true 56 t12)
abbrev t50:Ty:=.pair t9 t49
abbrev t51:Ty:=.pair (.list true 92 t6) t50
abbrev t52:Ty:=.pair t2 t51
abbrev t53:Ty:=.pair (.list true 116 t3) t52
abbrev t54:Ty:=.pair (.list true 41 t2) t53
abbrev t55:Ty:=.pair (.int .i64) t54
abbrev t56:Ty:=.pair (.int .i64) t55
abbrev t57:Ty:=.pair (.int .i64) t56
abbrev t58:Ty:=.pair (.int .i64) t57
abbrev t59:Ty:=.pair .bool t58
abbrev t60:Ty:=.pair .bool t59
abbrev t61:Ty:=.pair .bool t60
abbrev t62:Ty:=.pair (.int .i64) t61
abbrev t63:Ty:=.pair (.list false 3 (.int .i64)) (.list false 41 t2)
abbrev t64:Ty:=.pair (.list false 101 t40) t63
abbrev t65:Ty:=.pair (.list false 33 t26) t64
abbrev t66:Ty:=.pair (.list true 3 (.int .i64)) (.list false 41 t2)
abbrev t67:Ty:=.pair (.list true 101 t40) t66
abbrev t68:Ty:=.pair (.list true 33 t38) t67
abbrev t69:Ty:=.pair t9 (.list true 41 t2)
abbrev t70:Ty:=.pair (.int .i64) t69
abbrev t71:Ty:=.pair (.int .i64) t70
abbrev t72:Ty:=.pair (.int .i64) t71
abbrev t73:Ty:=.pair (.int .i64) t72
abbrev t74:Ty:=.pair (.int .i64) t73
abbrev t75:Ty:=.pair (.int .i64) t74
abbrev t76:Ty:=.pair (.list true 33 t26) t67
abbrev t77:Ty:=.pair (.list true 3 (.int .i64)) (.list true 41 t2)
abbrev t78:Ty:=.pair (.list true 101 t40) t77
abbrev t79:Ty:=.pair (.list true 33 t26) t78
abbrev t80:Ty:=.pair (.int .i64) (.list true 3 (.int .i64))
abbrev t81:Ty:=.pair (.int .i64) t80
abbrev t82:Ty:=.pair (.int .i64) t81
abbrev t83:Ty:=.pair t9 (.list true 3 (.int .i64))
abbrev t84:Ty:=.pair (.int .i64) t83
abbrev t85:Ty:=.pair (.int .i64) (.list true 41 t2)
abbrev t86:Ty:=.pair (.list true 45 t84) (.list true 56 t85)
abbrev t87:Ty:=.pair t9 t86
abbrev t88:Ty:=.pair (.list true 92 t82) t87
abbrev t89:Ty:=.pair t2 t88
abbrev t90:Ty:=.pair (.list true 116 t3) t89
abbrev t91:Ty:=.pair (.list true 41 t2) t90
abbrev t92:Ty:=.pair (.int .i64) t91
abbrev t93:Ty:=.pair (.int .i64) t92
abbrev t94:Ty:=.pair (.int .i64) t93
abbrev t95:Ty:=.pair (.int .i64) t94
abbrev t96:Ty:=.pair .bool t95
abbrev t97:Ty:=.pair .bool t96
abbrev t98:Ty:=.pair .bool t97
abbrev t99:Ty:=.pair (.int .i64) t98
abbrev t100:Ty:=.pair (.list true 33 t99) t78
abbrev ty_impl_Probe_D:Ty:=t2
abbrev ty_impl_Coord_D:Ty:=t9
abbrev ty_impl_Node_D:Ty:=t99
abbrev ty_impl_Fact_D:Ty:=t2
abbrev ty_impl_Place_D:Ty:=t84
abbrev ty_impl_Foreign_D:Ty:=t85
abbrev ty_impl_World_D:Ty:=t100
abbrev ty_impl_Doubt_D:Ty:=t82
abbrev ty_impl_Flight_D:Ty:=t40
abbrev ty_impl_Item_D:Ty:=t3
abbrev ty_impl_Word_D:Ty:=t75
abbrev ty_impl_Event_D:Ty:=t2
abbrev ty_impl_Probe_S:Ty:=t2
abbrev ty_impl_Coord_S:Ty:=t9
abbrev ty_impl_Node_S:Ty:=t26
abbrev ty_impl_Fact_S:Ty:=t2
abbrev ty_impl_Place_S:Ty:=t11
abbrev ty_impl_Foreign_S:Ty:=t12
abbrev ty_impl_World_S:Ty:=t65
abbrev ty_impl_Doubt_S:Ty:=t6
abbrev ty_impl_Flight_S:Ty:=t40
abbrev ty_spec_l1Rd_S:Ty:=t48
abbrev ty_impl_Item_S:Ty:=t3
abbrev ty_impl_Word_S:Ty:=t47
abbrev ty_impl_Event_S:Ty:=t2
abbrev ty_impl_Probe_NS:Ty:=t2
abbrev ty_impl_Coord_NS:Ty:=t9
abbrev ty_impl_Node_NS:Ty:=t38
abbrev ty_impl_Fact_NS:Ty:=t2
abbrev ty_impl_Place_NS:Ty:=t11
abbrev ty_impl_Foreign_NS:Ty:=t12
abbrev ty_impl_World_NS:Ty:=t68
abbrev ty_impl_Doubt_NS:Ty:=t6
abbrev ty_impl_Flight_NS:Ty:=t40
abbrev ty_spec_l1Rd_NS:Ty:=t48
abbrev ty_impl_Item_NS:Ty:=t3
abbrev ty_impl_Word_NS:Ty:=t47
abbrev ty_impl_Event_NS:Ty:=t2
abbrev ty_impl_Probe_ND:Ty:=t2
abbrev ty_impl_Coord_ND:Ty:=t9
abbrev ty_impl_Node_ND:Ty:=t62
abbrev ty_impl_Fact_ND:Ty:=t2
abbrev ty_impl_Place_ND:Ty:=t11
abbrev ty_impl_Foreign_ND:Ty:=t12
abbrev ty_impl_Doubt_ND:Ty:=t6
abbrev ty_impl_Flight_ND:Ty:=t40
abbrev ty_spec_l1Rd_ND:Ty:=t48
abbrev ty_impl_Item_ND:Ty:=t3
abbrev ty_impl_Word_ND:Ty:=t47
abbrev ty_impl_Event_ND:Ty:=t2
abbrev ty_impl_Probe_WT:Ty:=t2
abbrev ty_impl_Coord_WT:Ty:=t9
abbrev ty_impl_Node_WT:Ty:=t26
abbrev ty_impl_Fact_WT:Ty:=t2
abbrev ty_impl_Place_WT:Ty:=t11
abbrev ty_impl_Foreign_WT:Ty:=t12
abbrev ty_impl_World_WT:Ty:=t79
abbrev ty_impl_Doubt_WT:Ty:=t6
abbrev ty_impl_Flight_WT:Ty:=t40
abbrev ty_spec_l1Rd_WT:Ty:=t48
abbrev ty_impl_Item_WT:Ty:=t3
abbrev ty_impl_Word_WT:Ty:=t47
abbrev ty_impl_Event_WT:Ty:=t2
abbrev ty_impl_Probe_WF:Ty:=t2
abbrev ty_impl_Coord_WF:Ty:=t9
abbrev ty_impl_Node_WF:Ty:=t26
abbrev ty_impl_Fact_WF:Ty:=t2
abbrev ty_impl_Place_WF:Ty:=t11
abbrev ty_impl_Foreign_WF:Ty:=t12
abbrev ty_impl_World_WF:Ty:=t65
abbrev ty_impl_Doubt_WF:Ty:=t6
abbrev ty_impl_Flight_WF:Ty:=t40
abbrev ty_spec_l1Rd_WF:Ty:=t48
abbrev ty_impl_Item_WF:Ty:=t3
abbrev ty_impl_Word_WF:Ty:=t75
abbrev ty_impl_Event_WF:Ty:=t2
abbrev ty_impl_Probe_NT:Ty:=t2
abbrev ty_impl_Coord_NT:Ty:=t9
abbrev ty_impl_Node_NT:Ty:=t26
abbrev ty_impl_Fact_NT:Ty:=t2
abbrev ty_impl_Place_NT:Ty:=t11
abbrev ty_impl_Foreign_NT:Ty:=t12
abbrev ty_impl_World_NT:Ty:=t76
abbrev ty_impl_Doubt_NT:Ty:=t6
abbrev ty_impl_Flight_NT:Ty:=t40
abbrev ty_spec_l1Rd_NT:Ty:=t48
abbrev ty_impl_Item_NT:Ty:=t3
abbrev ty_impl_Word_NT:Ty:=t47
abbrev ty_impl_Event_NT:Ty:=t2
abbrev ty_impl_Probe_NL:Ty:=t2
abbrev ty_impl_Coord_NL:Ty:=t9
abbrev ty_impl_Fact_NL:Ty:=t2
abbrev ty_impl_Place_NL:Ty:=t84
abbrev ty_impl_Foreign_NL:Ty:=t12
abbrev ty_impl_Doubt_NL:Ty:=t82
abbrev ty_impl_Flight_NL:Ty:=t40
abbrev ty_impl_Item_NL:Ty:=t3
abbrev ty_impl_Word_NL:Ty:=t75
abbrev ty_impl_Event_NL:Ty:=t2
def Tl_D:List (TypeId×TI):=[(3,.int .i64),(4,.bool),(5,.int .u8),(9,.str),(22,.slice 5 (.int .u8) 1),(23,.slice 41 t2 32),(24,.slice 116 t3 40),(26,.struct t2 [(0,1,false),(1,1,false),(2,1,false),(3,1,false)]),(27,.slice 92 t82 48),(29,.struct t9 [(0,1,false),(1,1,false),(2,1,false),(3,1,false)]),(30,.slice 45 t84 64),(31,.slice 56 t85 32),(33,.struct t99 [(0,1,false),(1,1,false),(2,1,false),(3,1,false),(4,1,false),(5,1,false),(6,1,false),(7,1,false),(8,1,false),(9,1,false),(10,4,true),(14,1,false),(15,4,true),(19,1,false),(20,1,false)]),(36,.slice 3 (.int .i64) 8),(41,.struct t2 [(0,1,false),(1,1,false),(2,1,false),(3,1,false)]),(45,.struct t84 [(0,1,false),(1,4,true),(5,1,false)]),(56,.struct t85 [(0,1,false),(1,1,false)]),(59,.slice 33 t99 232),(60,.slice 101 t40 32),(62,.struct t100 [(0,1,false),(1,1,false),(2,1,false),(3,1,false)]),(77,.fn),(92,.struct t82 [(0,1,false),(1,1,false),(2,1,false),(3,1,false)]),(93,.fn),(101,.struct t40 [(0,1,false),(1,1,false),(2,1,false)]),(102,.fn),(116,.struct t3 [(0,4,true),(4,1,false)]),(117,.fn),(120,.fn),(124,.fn),(143,.int .u64),(166,.int .u32),(168,.int .u64),(193,.ptr)]
def T_D (t:TypeId):TI:=gJ Tl_D t
def Tl_ND:List (TypeId×TI):=[(3,.int .i64),(23,.slice 41 t2 32),(24,.slice 116 t3 40),(27,.slice 92 t6 48),(30,.slice 45 t11 64),(31,.slice 56 t12 32),(33,.struct t62 [(0,1,false),(1,1,false),(2,1,false),(3,1,false),(4,1,false),(5,1,false),(6,1,false),(7,1,false),(8,1,false),(9,1,false),(10,4,true),(14,1,false),(15,4,true),(19,1,false),(20,1,false)]),(36,.slice 3 (.int .i64) 8),(45,.struct t11 [(0,1,false),(1,4,true),(5,1,false)]),(56,.struct t12 [(0,1,false),(1,1,false)]),(92,.struct t6 [(0,1,false),(1,1,false),(2,1,false),(3,1,false)])]
def T_ND (t:TypeId):TI:=gJ Tl_ND t
def Tl_NS:List (TypeId×TI):=[(3,.int .i64),(4,.bool),(5,.int .u8),(9,.str),(22,.slice 5 (.int .u8) 1),(23,.slice 41 t2 32),(24,.slice 116 t3 40),(26,.struct t2 [(0,1,false),(1,1,false),(2,1,false),(3,1,false)]),(27,.slice 92 t6 48),(29,.struct t9 [(0,1,false),(1,1,false),(2,1,false),(3,1,false)]),(30,.slice 45 t11 64),(31,.slice 56 t12 32),(33,.struct t38 [(0,1,false),(1,1,false),(2,1,false),(3,1,false),(4,1,false),(5,1,false),(6,1,false),(7,1,false),(8,1,false),(9,1,false),(10,4,true),(14,1,false),(15,4,true),(19,1,false),(20,1,false)]),(36,.slice 3 (.int .i64) 8),(41,.struct t2 [(0,1,false),(1,1,false),(2,1,false),(3,1,false)]),(45,.struct t11 [(0,1,false),(1,4,true),(5,1,false)]),(56,.struct t12 [(0,1,false),(1,1,false)]),(59,.slice 33 t38 232),(60,.slice 101 t40 32),(62,.struct t68 [(0,1,false),(1,1,false),(2,1,false),(3,1,false)]),(92,.struct t6 [(0,1,false),(1,1,false),(2,1,false),(3,1,false)]),(101,.struct t40 [(0,1,false),(1,1,false),(2,1,false)]),(133,.struct t47 [(0,1,false),(1,1,false),(2,1,false),(3,1,false),(4,1,false),(5,1,false),(6,4,true),(10,1,false)]),(135,.slice 133 t47 104),(171,.struct t2 [(0,1,false),(1,1,false),(2,1,false),(3,1,false)])]
def T_NS (t:TypeId):TI:=gJ Tl_NS t
def Tl_NT:List (TypeId×TI):=[(3,.int .i64),(4,.bool),(23,.slice 41 t2 32),(33,.struct t26 [(0,1,false),(1,1,false),(2,1,false),(3,1,false),(4,1,false),(5,1,false),(6,1,false),(7,1,false),(8,1,false),(9,1,false),(10,4,true),(14,1,false),(15,4,true),(19,1,false),(20,1,false)]),(36,.slice 3 (.int .i64) 8),(41,.struct t2 [(0,1,false),(1,1,false),(2,1,false),(3,1,false)]),(59,.slice 33 t26 232),(62,.struct t76 [(0,1,false),(1,1,false),(2,1,false),(3,1,false)]),(135,.slice 133 t47 104),(171,.struct t2 [(0,1,false),(1,1,false),(2,1,false),(3,1,false)])]
def T_NT (t:TypeId):TI:=gJ Tl_NT t
def Tl_S:List (TypeId×TI):=[(3,.int .i64),(4,.bool),(5,.int .u8),(9,.str),(22,.slice 5 (.int .u8) 1),(23,.slice 41 t2 32),(24,.slice 116 t3 40),(26,.struct t2 [(0,1,false),(1,1,false),(2,1,false),(3,1,false)]),(27,.slice 92 t6 48),(29,.struct t9 [(0,1,false),(1,1,false),(2,1,false),(3,1,false)]),(30,.slice 45 t11 64),(31,.slice 56 t12 32),(33,.struct t26 [(0,1,false),(1,1,false),(2,1,false),(3,1,false),(4,1,false),(5,1,false),(6,1,false),(7,1,false),(8,1,false),(9,1,false),(10,4,true),(14,1,false),(15,4,true),(19,1,false),(20,1,false)]),(36,.slice 3 (.int .i64) 8),(41,.struct t2 [(0,1,false),(1,1,false),(2,1,false),(3,1,false)]),(45,.struct t11 [(0,1,false),(1,4,true),(5,1,false)]),(56,.struct t12 [(0,1,false),(1,1,false)]),(59,.slice 33 t26 232),(60,.slice 101 t40 32),(62,.struct t65 [(0,1,false),(1,1,false),(2,1,false),(3,1,false)]),(65,.ptr),(92,.struct t6 [(0,1,false),(1,1,false),(2,1,false),(3,1,false)]),(101,.struct t40 [(0,1,false),(1,1,false),(2,1,false)]),(107,.struct t48 [(0,1,false),(1,1,false)]),(116,.struct t3 [(0,4,true),(4,1,false)]),(124,.fn),(133,.struct t47 [(0,1,false),(1,1,false),(2,1,false),(3,1,false),(4,1,false),(5,1,false),(6,4,true),(10,1,false)]),(135,.slice 133 t47 104),(143,.int .u64),(146,.slice 171 t2 32),(159,.int .i64),(171,.struct t2 [(0,1,false),(1,1,false),(2,1,false),(3,1,false)]),(197,.slice 9 .str 16),(229,.slice 4 .bool 1)]
def T_S (t:TypeId):TI:=gJ Tl_S t
def Tl_WT:List (TypeId×TI):=[(3,.int .i64),(23,.slice 41 t2 32),(33,.struct t26 [(0,1,false),(1,1,false),(2,1,false),(3,1,false),(4,1,false),(5,1,false),(6,1,false),(7,1,false),(8,1,false),(9,1,false),(10,4,true),(14,1,false),(15,4,true),(19,1,false),(20,1,false)]),(36,.slice 3 (.int .i64) 8),(59,.slice 33 t26 232),(60,.slice 101 t40 32),(62,.struct t79 [(0,1,false),(1,1,false),(2,1,false),(3,1,false)])]
def T_WT (t:TypeId):TI:=gJ Tl_WT t
namespace Q0
abbrev ps:List PK:=[.rd (.list false 41 t2)]
abbrev rs:List RK:=[.v (.list true 41 t2)]
abbrev Res:=am rs×ak ps
def f (K:Nat)(x:ab ps):Option Res:=jc t2 32 x.1
def c (K:Nat):Ctr:=⟨122,ps,rs,true,f K⟩
end Q0
namespace Q1
abbrev ps:List PK:=[.rd (.int .i64)]
abbrev rs:List RK:=[.v .str]
abbrev Res:=am rs×ak ps
def step (g:ab ps->Option Res)(x:ab ps):Option Res:=bif decide (x.1<(-9223372036854775807)) then (some (((ByteArray.mk #[45,57,50,50,51,51,55,50,48,51,54,56,53,52,55,55,53,56,48,56]),()),())) else (bif decide (x.1<0) then ((g (wr .i64 (0-x.1),())).bind λy1=>aU (ByteArray.mk #[45]) y1.1.1 λy2=>some ((y2,()),())) else (bif decide (x.1<10) then (some ((fK ([wr .u8 (wr .i64 (48+x.1))]),()),())) else ((g (wr .i64 (AD x.1 10),())).bind λy3=>aU y3.1.1 (fK ([wr .u8 (wr .i64 (48+(AE x.1 10)))])) λy4=>some ((y4,()),()))))
def f (K:Nat)(x:ab ps):Option Res:=Nat.rec (motive:=λ_=>ab ps->Option Res) (λ_=>none) (λ_ g x=>step g x) K x
def c (K:Nat):Ctr:=⟨214,ps,rs,true,f K⟩
end Q1
namespace Q2
abbrev ps:List PK:=[.rd (.int .i64),.rd (.int .i64),.rd (.int .i64)]
abbrev rs:List RK:=[.v .bool]
abbrev Res:=am rs×ak ps
def f (K:Nat)(x:ab ps):Option Res:=bif decide (x.1>=x.2.1) then (some ((decide (x.1<=x.2.2.1),()),())) else (some ((false,()),()))
def c (K:Nat):Ctr:=⟨51,ps,rs,true,f K⟩
end Q2
namespace Q3
abbrev ps:List PK:=[.rd (.int .i64)]
abbrev rs:List RK:=[.v .bool]
abbrev Res:=am rs×ak ps
def f (K:Nat)(x:ab ps):Option Res:=(Q2.f K (x.1,0,7,())).bind λy1=>some ((y1.1.1,()),())
def c (K:Nat):Ctr:=⟨50,ps,rs,true,f K⟩
end Q3
namespace Q4
abbrev ps:List PK:=[.rd t26]
abbrev rs:List RK:=[.v .bool]
abbrev Res:=am rs×ak ps
def f (K:Nat)(x:ab ps):Option Res:=bif !x.1.2.2.1 then (bif x.1.2.2.2.2.1==0 then (bif x.1.2.2.2.2.2.1==0 then (bif x.1.2.2.2.2.2.2.1==0 then (bif x.1.2.2.2.2.2.2.2.1==0 then (bif (wr .i64 ((wr .i64 ((wr .i64 ((wr .i64 ((AA x.1.2.2.2.2.2.2.2.2.1:Int)+(AA x.1.2.2.2.2.2.2.2.2.2.1:Int)))+(AA x.1.2.2.2.2.2.2.2.2.2.2.2.1:Int)))+(AA x.1.2.2.2.2.2.2.2.2.2.2.2.2.2.1:Int)))+(AA x.1.2.2.2.2.2.2.2.2.2.2.2.2.2.2:Int)))==0 then (bif Ty.eqv t2 x.1.2.2.2.2.2.2.2.2.2.2.1 (0,(0,(0,false))) then (some ((Ty.eqv t9 x.1.2.2.2.2.2.2.2.2.2.2.2.2.1 (0,(0,(0,0))),()),())) else (some ((false,()),()))) else (some ((false,()),()))) else (some ((false,()),()))) else (some ((false,()),()))) else (some ((false,()),()))) else (some ((false,()),()))) else (some ((false,()),()))
def c (K:Nat):Ctr:=⟨52,ps,rs,true,f K⟩
end Q4
namespace Q5
abbrev ps:List PK:=[.rd t2]
abbrev rs:List RK:=[.v .bool]
abbrev Res:=am rs×ak ps
def f (K:Nat)(x:ab ps):Option Res:=(Q3.f K (x.1.1,())).bind λy1=>bif y1.1.1 then ((Q2.f K (x.1.2.1,0,999,())).bind λy2=>bif y2.1.1 then ((Q2.f K (x.1.2.2.1,1,4,())).bind λy3=>some ((y3.1.1,()),())) else (some ((false,()),()))) else (some ((false,()),()))
def c (K:Nat):Ctr:=⟨80,ps,rs,true,f K⟩
end Q5
namespace Q6
abbrev ps:List PK:=[.rd (.list false 41 t2)]
abbrev rs:List RK:=[.v .bool]
abbrev Res:=am rs×ak ps
abbrev A_l0:=Int
def l0.step (K:Nat)(x:ab ps)(rec_l0:A_l0->Option Res)(a:A_l0):Option Res:=bif decide (a<(AA x.1:Int)) then ((idx x.1 a).bind λy1=>(Q5.f K (y1,())).bind λy2=>bif !y2.1.1 then (some ((false,()),())) else (bif decide (a>0) then ((idx x.1 (wr .i64 (a-1))).bind λy3=>bif decide (y1.1<=y3.1) then (some ((false,()),())) else (rec_l0 (wr .i64 (a+1)))) else (rec_l0 (wr .i64 (a+1))))) else (some ((true,()),()))
def l0 (K:Nat)(x:ab ps):A_l0->Option Res:=ae (λrec_l0 a=>l0.step K x rec_l0 a) K
def pre (K:Nat)(N_l0:A_l0->Option Res)(x:ab ps):Option Res:=N_l0 0
def f (K:Nat)(x:ab ps):Option Res:=pre K (l0 K x) x
def c (K:Nat):Ctr:=⟨27,ps,rs,true,f K⟩
end Q6
namespace Q7
abbrev ps:List PK:=[.rd (.list false 41 t2),.rd (.int .i64),.fn [t2,(.int .i64)] (.int .i64)]
abbrev rs:List RK:=[.v (.int .i64),.v .bool]
abbrev Res:=am rs×ak ps
abbrev A_l0:=Int×Int
def l0.step (K:Nat)(x:ab ps)(rec_l0:A_l0->Option Res)(a:A_l0):Option Res:=bif decide (a.1<a.2) then ((idx x.1 (wr .i64 (AC (wr .u64 (wr .i64 (a.1+a.2))) (2 ^ 1)))).bind λy1=>(x.2.2.1 (y1,x.2.1,())).bind λy2=>bif decide (y2<0) then (rec_l0 (wr .i64 ((wr .i64 (AC (wr .u64 (wr .i64 (a.1+a.2))) (2 ^ 1)))+1),a.2)) else (rec_l0 (a.1,wr .i64 (AC (wr .u64 (wr .i64 (a.1+a.2))) (2 ^ 1))))) else (bif decide (a.1<(AA x.1:Int)) then ((idx x.1 a.1).bind λy3=>(x.2.2.1 (y3,x.2.1,())).bind λy4=>some ((a.1,y4==0,()),())) else (some ((a.1,false,()),())))
def l0 (K:Nat)(x:ab ps):A_l0->Option Res:=ae (λrec_l0 a=>l0.step K x rec_l0 a) K
def pre (K:Nat)(N_l0:A_l0->Option Res)(x:ab ps):Option Res:=N_l0 (0,(AA x.1:Int))
def f (K:Nat)(x:ab ps):Option Res:=pre K (l0 K x) x
def c (K:Nat):Ctr:=⟨118,ps,rs,true,f K⟩
end Q7
namespace Q8
abbrev ps:List PK:=[.rd (.int .i64)]
abbrev rs:List RK:=[.v .bool]
abbrev Res:=am rs×ak ps
def f (K:Nat)(x:ab ps):Option Res:=some ((x.1 != x.1,()),())
def c (K:Nat):Ctr:=⟨101,ps,rs,true,f K⟩
end Q8
namespace Q9
abbrev ps:List PK:=[.rd (.int .i64),.rd (.int .i64)]
abbrev rs:List RK:=[.v (.int .i64)]
abbrev Res:=am rs×ak ps
def f (K:Nat)(x:ab ps):Option Res:=(Q8.f K (x.1,())).bind λy1=>(Q8.f K (x.2.1,())).bind λy2=>bif y1.1.1 then (bif y2.1.1 then (some ((0,()),())) else (some (((-1),()),()))) else (bif y2.1.1 then (some ((1,()),())) else (bif decide (x.1<x.2.1) then (some (((-1),()),())) else (bif decide (x.1>x.2.1) then (some ((1,()),())) else (some ((0,()),())))))
def c (K:Nat):Ctr:=⟨44,ps,rs,true,f K⟩
end Q9
namespace Q10
abbrev ps:List PK:=[.rd t2,.rd (.int .i64)]
abbrev rs:List RK:=[.v (.int .i64)]
abbrev Res:=am rs×ak ps
def f (K:Nat)(x:ab ps):Option Res:=(Q9.f K (x.1.1,x.2.1,())).bind λy1=>some ((y1.1.1,()),())
def c (K:Nat):Ctr:=⟨119,ps,rs,true,f K⟩
end Q10
namespace Q11
abbrev ps:List PK:=[.rd (.list false 41 t2),.rd (.int .i64)]
abbrev rs:List RK:=[.v (.int .i64),.v .bool]
abbrev Res:=am rs×ak ps
def f (K:Nat)(x:ab ps):Option Res:=(Q7.f K (x.1,x.2.1,λy1=>(Q10.f K (y1.1,y1.2.1,())).map λy=>y.1.1,())).bind λy2=>some ((y2.1.1,y2.1.2.1,()),())
def c (K:Nat):Ctr:=⟨69,ps,rs,true,f K⟩
end Q11
namespace Q12
abbrev ps:List PK:=[.rd (.list false 41 t2),.rd (.int .i64)]
abbrev rs:List RK:=[.v t2,.v .bool]
abbrev Res:=am rs×ak ps
def f (K:Nat)(x:ab ps):Option Res:=(Q6.f K (x.1,())).bind λy1=>bif !y1.1.1 then (some (((0,(0,(0,false))),false,()),())) else ((Q11.f K (x.1,x.2.1,())).bind λy2=>bif !y2.1.2.1 then (some (((0,(0,(0,false))),false,()),())) else ((idx x.1 y2.1.1).bind λy3=>some ((y3,true,()),())))
def c (K:Nat):Ctr:=⟨14,ps,rs,true,f K⟩
end Q12
namespace Q13
abbrev ps:List PK:=[.rd (.int .i64)]
abbrev rs:List RK:=[.v (.int .i64)]
abbrev Res:=am rs×ak ps
def f (K:Nat)(x:ab ps):Option Res:=some ((wr .i64 (AD x.1 4),()),())
def c (K:Nat):Ctr:=⟨115,ps,rs,true,f K⟩
end Q13
namespace Q14
abbrev ps:List PK:=[.rd t26]
abbrev rs:List RK:=[.v (.int .i64)]
abbrev Res:=am rs×ak ps
def f (K:Nat)(x:ab ps):Option Res:=(Q13.f K (x.1.1,())).bind λy1=>some ((y1.1.1,()),())
def c (K:Nat):Ctr:=⟨72,ps,rs,true,f K⟩
end Q14
namespace Q15
abbrev ps:List PK:=[.rd (.list false 41 t2),.fn [t2] .bool]
abbrev rs:List RK:=[.v (.int .i64)]
abbrev Res:=am rs×ak ps
abbrev A_l0:=Int
def l0.step (K:Nat)(x:ab ps)(rec_l0:A_l0->Option Res)(a:A_l0):Option Res:=bif decide (a<(AA x.1:Int)) then ((idx x.1 a).bind λy1=>(x.2.1 (y1,())).bind λy2=>bif y2 then (some ((a,()),())) else (rec_l0 (wr .i64 (a+1)))) else (some (((-1),()),()))
def l0 (K:Nat)(x:ab ps):A_l0->Option Res:=ae (λrec_l0 a=>l0.step K x rec_l0 a) K
def pre (K:Nat)(N_l0:A_l0->Option Res)(x:ab ps):Option Res:=N_l0 0
def f (K:Nat)(x:ab ps):Option Res:=pre K (l0 K x) x
def c (K:Nat):Ctr:=⟨128,ps,rs,true,f K⟩
end Q15
namespace Q16
abbrev ps:List PK:=[.rd (.list false 41 t2),.fn [t2] .bool]
abbrev rs:List RK:=[.v .bool]
abbrev Res:=am rs×ak ps
def f (K:Nat)(x:ab ps):Option Res:=(Q15.f K (x.1,x.2.1,())).bind λy1=>some ((decide (y1.1.1>=0),()),())
def c (K:Nat):Ctr:=⟨84,ps,rs,true,f K⟩
end Q16
namespace Q17
abbrev ps:List PK:=[.rd t2,.rref (.int .i64)]
abbrev rs:List RK:=[.v .bool]
abbrev Res:=am rs×ak ps
def f (K:Nat)(x:ab ps):Option Res:=(Q13.f K (x.1.1,())).bind λy1=>some ((y1.1.1 != x.2.1,()),())
def c (K:Nat):Ctr:=⟨150,ps,rs,true,f K⟩
end Q17
namespace Q18
abbrev ps:List PK:=[.rd (.list false 41 t2),.rd (.int .i64)]
abbrev rs:List RK:=[.v .bool]
abbrev Res:=am rs×ak ps
def f (K:Nat)(x:ab ps):Option Res:=(Q16.f K (x.1,λy1=>(Q17.f K (y1.1,x.2.1,())).map λy=>y.1.1,())).bind λy2=>some ((!y2.1.1,()),())
def c (K:Nat):Ctr:=⟨106,ps,rs,true,f K⟩
end Q18
namespace Q19
abbrev ps:List PK:=[.rd (.list false 116 t3),.fn [t3] .bool]
abbrev rs:List RK:=[.v (.int .i64)]
abbrev Res:=am rs×ak ps
abbrev A_l0:=Int
def l0.step (K:Nat)(x:ab ps)(rec_l0:A_l0->Option Res)(a:A_l0):Option Res:=bif decide (a<(AA x.1:Int)) then ((idx x.1 a).bind λy1=>(x.2.1 (y1,())).bind λy2=>bif y2 then (some ((a,()),())) else (rec_l0 (wr .i64 (a+1)))) else (some (((-1),()),()))
def l0 (K:Nat)(x:ab ps):A_l0->Option Res:=ae (λrec_l0 a=>l0.step K x rec_l0 a) K
def pre (K:Nat)(N_l0:A_l0->Option Res)(x:ab ps):Option Res:=N_l0 0
def f (K:Nat)(x:ab ps):Option Res:=pre K (l0 K x) x
def c (K:Nat):Ctr:=⟨153,ps,rs,true,f K⟩
end Q19
namespace Q20
abbrev ps:List PK:=[.rd (.list false 116 t3),.fn [t3] .bool]
abbrev rs:List RK:=[.v .bool]
abbrev Res:=am rs×ak ps
def f (K:Nat)(x:ab ps):Option Res:=(Q19.f K (x.1,x.2.1,())).bind λy1=>some ((decide (y1.1.1>=0),()),())
def c (K:Nat):Ctr:=⟨108,ps,rs,true,f K⟩
end Q20
namespace Q21
abbrev ps:List PK:=[.rd t3]
abbrev rs:List RK:=[.v .bool]
abbrev Res:=am rs×ak ps
def f (K:Nat)(x:ab ps):Option Res:=(Q2.f K (x.1.2,1,4,())).bind λy1=>some ((!y1.1.1,()),())
def c (K:Nat):Ctr:=⟨151,ps,rs,true,f K⟩
end Q21
namespace Q22
abbrev ps:List PK:=[.rd (.list false 116 t3)]
abbrev rs:List RK:=[.v (.list true 41 t2)]
abbrev Res:=am rs×ak ps
abbrev A_l0:=List (Ty.den t2)×Int
def l0.step (K:Nat)(x:ab ps)(rec_l0:A_l0->Option Res)(a:A_l0):Option Res:=bif decide (a.2<(AA x.1:Int)) then ((idx x.1 a.2).bind λy1=>bif decide ((AA a.1+AA ([y1.1]))*32<=aj) then (rec_l0 (a.1++([y1.1]),wr .i64 (a.2+1))) else none) else (some ((a.1,()),()))
def l0 (K:Nat)(x:ab ps):A_l0->Option Res:=ae (λrec_l0 a=>l0.step K x rec_l0 a) K
def pre (K:Nat)(N_l0:A_l0->Option Res)(x:ab ps):Option Res:=N_l0 ([],0)
def f (K:Nat)(x:ab ps):Option Res:=pre K (l0 K x) x
def c (K:Nat):Ctr:=⟨152,ps,rs,true,f K⟩
end Q22
namespace Q23
abbrev ps:List PK:=[.rd (.list false 116 t3)]
abbrev rs:List RK:=[.v .bool]
abbrev Res:=am rs×ak ps
def f (K:Nat)(x:ab ps):Option Res:=(Q22.f K (x.1,())).bind λy1=>(Q6.f K (y1.1.1,())).bind λy2=>bif y2.1.1 then ((Q20.f K (x.1,λy3=>(Q21.f K (y3.1,())).map λy=>y.1.1,())).bind λy4=>some ((!y4.1.1,()),())) else (some ((false,()),()))
def c (K:Nat):Ctr:=⟨107,ps,rs,true,f K⟩
end Q23
namespace Q24
abbrev ps:List PK:=[.rd (.list false 3 (.int .i64))]
abbrev rs:List RK:=[.v (.int .i64)]
abbrev Res:=am rs×ak ps
abbrev A_l0:=Int
def l0.step (K:Nat)(x:ab ps)(rec_l0:A_l0->Option Res)(a:A_l0):Option Res:=bif decide (a<(AA x.1:Int)) then ((idx x.1 a).bind λy1=>bif y1 != 0 then (some ((y1,()),())) else (rec_l0 (wr .i64 (a+1)))) else (some ((0,()),()))
def l0 (K:Nat)(x:ab ps):A_l0->Option Res:=ae (λrec_l0 a=>l0.step K x rec_l0 a) K
def pre (K:Nat)(N_l0:A_l0->Option Res)(x:ab ps):Option Res:=N_l0 0
def f (K:Nat)(x:ab ps):Option Res:=pre K (l0 K x) x
def c (K:Nat):Ctr:=⟨130,ps,rs,true,f K⟩
end Q24
namespace Q25
abbrev ps:List PK:=[.rd t2,.rd t2]
abbrev rs:List RK:=[.v (.int .i64)]
abbrev Res:=am rs×ak ps
def f (K:Nat)(x:ab ps):Option Res:=bif x.1.2.2.2 then (bif !x.2.1.2.2.2 then ((Q9.f K (x.1.1,x.2.1.1,())).bind λy1=>(Q9.f K (x.1.2.1,x.2.1.2.1,())).bind λy2=>(Q9.f K (x.1.2.2.1,x.2.1.2.2.1,())).bind λy3=>(Q24.f K ([y1.1.1,y2.1.1,y3.1.1,1],())).bind λy4=>some ((y4.1.1,()),())) else (bif x.2.1.2.2.2 then (bif !x.1.2.2.2 then ((Q9.f K (x.1.1,x.2.1.1,())).bind λy5=>(Q9.f K (x.1.2.1,x.2.1.2.1,())).bind λy6=>(Q9.f K (x.1.2.2.1,x.2.1.2.2.1,())).bind λy7=>(Q24.f K ([y5.1.1,y6.1.1,y7.1.1,(-1)],())).bind λy8=>some ((y8.1.1,()),())) else ((Q9.f K (x.1.1,x.2.1.1,())).bind λy9=>(Q9.f K (x.1.2.1,x.2.1.2.1,())).bind λy10=>(Q9.f K (x.1.2.2.1,x.2.1.2.2.1,())).bind λy11=>(Q24.f K ([y9.1.1,y10.1.1,y11.1.1,0],())).bind λy12=>some ((y12.1.1,()),()))) else ((Q9.f K (x.1.1,x.2.1.1,())).bind λy13=>(Q9.f K (x.1.2.1,x.2.1.2.1,())).bind λy14=>(Q9.f K (x.1.2.2.1,x.2.1.2.2.1,())).bind λy15=>(Q24.f K ([y13.1.1,y14.1.1,y15.1.1,0],())).bind λy16=>some ((y16.1.1,()),())))) else (bif x.2.1.2.2.2 then (bif !x.1.2.2.2 then ((Q9.f K (x.1.1,x.2.1.1,())).bind λy17=>(Q9.f K (x.1.2.1,x.2.1.2.1,())).bind λy18=>(Q9.f K (x.1.2.2.1,x.2.1.2.2.1,())).bind λy19=>(Q24.f K ([y17.1.1,y18.1.1,y19.1.1,(-1)],())).bind λy20=>some ((y20.1.1,()),())) else ((Q9.f K (x.1.1,x.2.1.1,())).bind λy21=>(Q9.f K (x.1.2.1,x.2.1.2.1,())).bind λy22=>(Q9.f K (x.1.2.2.1,x.2.1.2.2.1,())).bind λy23=>(Q24.f K ([y21.1.1,y22.1.1,y23.1.1,0],())).bind λy24=>some ((y24.1.1,()),()))) else ((Q9.f K (x.1.1,x.2.1.1,())).bind λy25=>(Q9.f K (x.1.2.1,x.2.1.2.1,())).bind λy26=>(Q9.f K (x.1.2.2.1,x.2.1.2.2.1,())).bind λy27=>(Q24.f K ([y25.1.1,y26.1.1,y27.1.1,0],())).bind λy28=>some ((y28.1.1,()),())))
def c (K:Nat):Ctr:=⟨88,ps,rs,true,f K⟩
end Q25
namespace Q26
abbrev ps:List PK:=[.rd t2,.rd t2]
abbrev rs:List RK:=[.v .bool]
abbrev Res:=am rs×ak ps
def f (K:Nat)(x:ab ps):Option Res:=(Q5.f K (x.1,())).bind λy1=>bif y1.1.1 then ((Q5.f K (x.2.1,())).bind λy2=>bif y2.1.1 then (bif x.1.1==x.2.1.1 then ((Q25.f K (x.1,x.2.1,())).bind λy3=>some ((decide (y3.1.1>0),()),())) else (some ((false,()),()))) else (some ((false,()),()))) else (some ((false,()),()))
def c (K:Nat):Ctr:=⟨110,ps,rs,true,f K⟩
end Q26
namespace Q27
abbrev ps:List PK:=[.rd t3,.rref t26]
abbrev rs:List RK:=[.v .bool]
abbrev Res:=am rs×ak ps
def f (K:Nat)(x:ab ps):Option Res:=(Q12.f K (x.2.1.2.2.2.2.2.2.2.2.1,x.1.1.1,())).bind λy1=>bif !y1.1.2.1 then (some ((true,()),())) else ((Q26.f K (x.1.1,y1.1.1,())).bind λy2=>some ((y2.1.1,()),()))
def c (K:Nat):Ctr:=⟨109,ps,rs,true,f K⟩
end Q27
namespace Q28
abbrev ps:List PK:=[.rd t26]
abbrev rs:List RK:=[.v .bool]
abbrev Res:=am rs×ak ps
def f (K:Nat)(x:ab ps):Option Res:=bif x.1.2.2.1 then ((Q12.f K (x.1.2.2.2.2.2.2.2.2.1,x.1.1,())).bind λy1=>bif !y1.1.2.1 then (some ((false,()),())) else (bif !Ty.eqv t2 y1.1.1 (x.1.1,(x.1.2.2.2.2.1,(4,x.1.2.2.2.1))) then (some ((false,()),())) else ((Q14.f K (x.1,())).bind λy2=>(Q18.f K (x.1.2.2.2.2.2.2.2.2.1,y2.1.1,())).bind λy3=>bif !y3.1.1 then (some ((false,()),())) else ((Q23.f K (x.1.2.2.2.2.2.2.2.2.2.1,())).bind λy4=>bif !y4.1.1 then (some ((false,()),())) else ((Q20.f K (x.1.2.2.2.2.2.2.2.2.2.1,λy5=>(Q27.f K (y5.1,x.1,())).map λy=>y.1.1,())).bind λy6=>some ((!y6.1.1,()),())))))) else ((Q12.f K (x.1.2.2.2.2.2.2.2.2.1,x.1.1,())).bind λy7=>bif !y7.1.2.1 then (some ((false,()),())) else (bif !Ty.eqv t2 y7.1.1 (x.1.1,(x.1.2.2.2.2.1,(1,x.1.2.2.2.1))) then (some ((false,()),())) else ((Q14.f K (x.1,())).bind λy8=>(Q18.f K (x.1.2.2.2.2.2.2.2.2.1,y8.1.1,())).bind λy9=>bif !y9.1.1 then (some ((false,()),())) else ((Q23.f K (x.1.2.2.2.2.2.2.2.2.2.1,())).bind λy10=>bif !y10.1.1 then (some ((false,()),())) else ((Q20.f K (x.1.2.2.2.2.2.2.2.2.2.1,λy11=>(Q27.f K (y11.1,x.1,())).map λy=>y.1.1,())).bind λy12=>some ((!y12.1.1,()),()))))))
def c (K:Nat):Ctr:=⟨53,ps,rs,true,f K⟩
end Q28
namespace Q29
abbrev ps:List PK:=[.rd t26]
abbrev rs:List RK:=[.v .bool]
abbrev Res:=am rs×ak ps
def f (K:Nat)(x:ab ps):Option Res:=bif x.1.2.2.2.2.2.2.2.2.2.2.1.1==(-1) then (some ((Ty.eqv t2 x.1.2.2.2.2.2.2.2.2.2.2.1 ((-1),(0,(0,false))),()),())) else ((Q12.f K (x.1.2.2.2.2.2.2.2.2.1,x.1.2.2.2.2.2.2.2.2.2.2.1.1,())).bind λy1=>bif y1.1.2.1 then (bif x.1.2.2.2.2.2.2.2.2.2.2.1.1 != x.1.1 then ((Q2.f K (x.1.2.2.2.2.2.2.2.2.2.2.1.2.1,0,x.1.2.2.2.2.2.1,())).bind λy2=>bif y2.1.1 then ((Q2.f K (x.1.2.2.2.2.2.2.2.2.2.2.1.2.2.1,1,x.1.2.2.2.2.2.2.1,())).bind λy3=>some ((y3.1.1,()),())) else (some ((false,()),()))) else (some ((false,()),()))) else (some ((false,()),())))
def c (K:Nat):Ctr:=⟨54,ps,rs,true,f K⟩
end Q29
namespace Q30
abbrev ps:List PK:=[.rd t26,.rd (.int .i64)]
abbrev rs:List RK:=[.v .bool]
abbrev Res:=am rs×ak ps
def f (K:Nat)(x:ab ps):Option Res:=(Q3.f K (x.2.1,())).bind λy1=>bif y1.1.1 then ((Q13.f K (x.2.1,())).bind λy2=>(Q14.f K (x.1,())).bind λy3=>some ((y2.1.1==y3.1.1,()),())) else (some ((false,()),()))
def c (K:Nat):Ctr:=⟨111,ps,rs,true,f K⟩
end Q30
namespace Q31
abbrev ps:List PK:=[.rd t26]
abbrev rs:List RK:=[.v .bool]
abbrev Res:=am rs×ak ps
abbrev A_l2:=List (Ty.den t2)×Int×List (Ty.den (.int .i64))×Int×Int×Int×Int×Int×List (Ty.den (.int .i64))
abbrev A_l1:=List (Ty.den t2)×Int
abbrev A_l0:=List (Ty.den t2)×Int
def l2.step (K:Nat)(x:ab ps)(rec_l1:A_l1->Option Res)(rec_l2:A_l2->Option Res)(a:A_l2):Option Res:=bif decide (a.2.2.2.2.1<a.2.2.2.1) then ((idx a.2.2.1 a.2.2.2.2.1).bind λy8=>(Q30.f K (x.1,y8,())).bind λy9=>bif !y9.1.1 then (some ((false,()),())) else (bif decide (a.2.2.2.2.1>0) then ((idx a.2.2.2.2.2.2.2.2 (wr .i64 (a.2.2.2.2.1-1))).bind λy10=>bif decide (y8<=y10) then (some ((false,()),())) else (rec_l2 (a.1,a.2.1,a.2.2.1,a.2.2.2.1,wr .i64 (a.2.2.2.2.1+1),a.2.2.2.2.2.1,a.2.2.2.2.2.2.1,a.2.2.2.2.2.2.2.1,a.2.2.2.2.2.2.2.2))) else (rec_l2 (a.1,a.2.1,a.2.2.1,a.2.2.2.1,wr .i64 (a.2.2.2.2.1+1),a.2.2.2.2.2.1,a.2.2.2.2.2.2.1,a.2.2.2.2.2.2.2.1,a.2.2.2.2.2.2.2.2)))) else (rec_l1 (a.1,wr .i64 (a.2.1+1)))
def l2 (K:Nat)(x:ab ps)(rec_l1:A_l1->Option Res):A_l2->Option Res:=ae (λrec_l2 a=>l2.step K x rec_l1 rec_l2 a) K
def l1.step (K:Nat)(x:ab ps)(N_l2:A_l2->Option Res)(rec_l1:A_l1->Option Res)(a:A_l1):Option Res:=bif decide (a.2<(AA x.1.2.2.2.2.2.2.2.2.2.2.2.1:Int)) then ((idx x.1.2.2.2.2.2.2.2.2.2.2.2.1 a.2).bind λy2=>(idx a.1 a.2).bind λ_=>(idx a.1 (AB a.2:Nat)).bind λy4=>bif y2.1 != y4.1 then (some ((false,()),())) else ((idx a.1 a.2).bind λ_=>(idx a.1 (AB a.2:Nat)).bind λy6=>bif y2.2.1 != y6.2.1 then (some ((false,()),())) else ((Q2.f K (y2.2.2.1,0,x.1.2.2.2.2.2.1,())).bind λy7=>bif !y7.1.1 then (some ((false,()),())) else (bif (AA y2.2.2.2:Int)==0 then (some ((false,()),())) else (N_l2 (a.1,a.2,y2.2.2.2,(AA y2.2.2.2:Int),0,y2.1,y2.2.1,y2.2.2.1,y2.2.2.2)))))) else (some ((true,()),()))
def l1 (K:Nat)(x:ab ps):A_l1->Option Res:=ae (λrec_l1 a=>l1.step K x (l2 K x rec_l1) rec_l1 a) K
def l0.step (K:Nat)(x:ab ps)(N_l1:A_l1->Option Res)(rec_l0:A_l0->Option Res)(a:A_l0):Option Res:=bif decide (a.2<(AA x.1.2.2.2.2.2.2.2.2.1:Int)) then ((idx x.1.2.2.2.2.2.2.2.2.1 a.2).bind λy1=>bif y1.2.2.1==2 then (bif decide ((AA a.1+AA ([y1]))*32<=aj) then (rec_l0 (a.1++([y1]),wr .i64 (a.2+1))) else none) else (rec_l0 (a.1,wr .i64 (a.2+1)))) else (bif (AA x.1.2.2.2.2.2.2.2.2.2.2.2.1:Int) != (AA a.1:Int) then (some ((false,()),())) else (N_l1 (a.1,0)))
def l0 (K:Nat)(x:ab ps):A_l0->Option Res:=ae (λrec_l0 a=>l0.step K x (l1 K x) rec_l0 a) K
def pre (K:Nat)(N_l0:A_l0->Option Res)(x:ab ps):Option Res:=N_l0 ([],0)
def f (K:Nat)(x:ab ps):Option Res:=pre K (l0 K x) x
def c (K:Nat):Ctr:=⟨55,ps,rs,true,f K⟩
def G (K:Nat):List Ctr:=[Q2.c K,Q30.c K]
def live_l2:List (Nat×List Coe):=[(1,[.keep]),(3,[.own false 41 t2]),(7,[.keep]),(32,[.ro true 92 t6]),(33,[.keep]),(34,[.keep]),(72,[.ro true 3 (.int .i64)]),(73,[.keep]),(74,[.keep]),(100001,[.keep,.keep,.keep,.keep,.keep,.keep,.keep,.keep,.ro true 41 t2,.ro true 116 t3,.keep,.keep,.keep,.keep,.ro true 92 t6,.keep,.keep,.keep,.keep,.ro true 45 t11,.ro true 56 t12]),(100007,[.keep,.keep,.keep,.ro true 3 (.int .i64)])]
def live_l1:List (Nat×List Coe):=[(1,[.keep]),(3,[.own false 41 t2]),(32,[.ro true 92 t6]),(33,[.keep]),(34,[.keep]),(100001,[.keep,.keep,.keep,.keep,.keep,.keep,.keep,.keep,.ro true 41 t2,.ro true 116 t3,.keep,.keep,.keep,.keep,.ro true 92 t6,.keep,.keep,.keep,.keep,.ro true 45 t11,.ro true 56 t12])]
def live_l0:List (Nat×List Coe):=[(1,[.keep]),(3,[.own false 41 t2]),(11,[.ro true 41 t2]),(12,[.keep]),(13,[.keep]),(100001,[.keep,.keep,.keep,.keep,.keep,.keep,.keep,.keep,.ro true 41 t2,.ro true 116 t3,.keep,.keep,.keep,.keep,.ro true 92 t6,.keep,.keep,.keep,.keep,.ro true 45 t11,.ro true 56 t12])]
def L:List (Nat×List (Nat×List Coe)):=[(17,live_l2),(12,live_l1),(4,live_l0)]
def body:Code:=cV Tryz.f55
abbrev ev (K:Nat):Code->St->(Ex->St->Option Res)->Option Res:=evK (G K) T_D L K
abbrev fin:Ex->St->Option Res:=dx T_D ps rs true Tryz.f55.results.toList
def S_l0 (x:ab ps)(a:A_l0):St:=ay [(1,⟨0,.one,[.bp 100001 0]⟩),(3,⟨0,.one,[.own false none 41 t2 a.1]⟩),(11,⟨0,.one,[.ro true 41 t2 x.1.2.2.2.2.2.2.2.2.1]⟩),(12,⟨0,.one,[.int .i64 (AA x.1.2.2.2.2.2.2.2.2.1:Int)]⟩),(13,⟨0,.one,[.int .i64 a.2]⟩),(100001,⟨0,.agg,[.int .i64 x.1.1,.bool x.1.2.1,.bool x.1.2.2.1,.bool x.1.2.2.2.1,.int .i64 x.1.2.2.2.2.1,.int .i64 x.1.2.2.2.2.2.1,.int .i64 x.1.2.2.2.2.2.2.1,.int .i64 x.1.2.2.2.2.2.2.2.1,.ro true 41 t2 x.1.2.2.2.2.2.2.2.2.1,.ro true 116 t3 x.1.2.2.2.2.2.2.2.2.2.1,.int .i64 x.1.2.2.2.2.2.2.2.2.2.2.1.1,.int .i64 x.1.2.2.2.2.2.2.2.2.2.2.1.2.1,.int .i64 x.1.2.2.2.2.2.2.2.2.2.2.1.2.2.1,.bool x.1.2.2.2.2.2.2.2.2.2.2.1.2.2.2,.ro true 92 t6 x.1.2.2.2.2.2.2.2.2.2.2.2.1,.int .i64 x.1.2.2.2.2.2.2.2.2.2.2.2.2.1.1,.int .i64 x.1.2.2.2.2.2.2.2.2.2.2.2.2.1.2.1,.int .i64 x.1.2.2.2.2.2.2.2.2.2.2.2.2.1.2.2.1,.int .i64 x.1.2.2.2.2.2.2.2.2.2.2.2.2.1.2.2.2,.ro true 45 t11 x.1.2.2.2.2.2.2.2.2.2.2.2.2.2.1,.ro true 56 t12 x.1.2.2.2.2.2.2.2.2.2.2.2.2.2.2]⟩)]
def S_l1 (x:ab ps)(a:A_l1):St:=ay [(1,⟨0,.one,[.bp 100001 0]⟩),(3,⟨0,.one,[.own false none 41 t2 a.1]⟩),(32,⟨0,.one,[.ro true 92 t6 x.1.2.2.2.2.2.2.2.2.2.2.2.1]⟩),(33,⟨0,.one,[.int .i64 (AA x.1.2.2.2.2.2.2.2.2.2.2.2.1:Int)]⟩),(34,⟨0,.one,[.int .i64 a.2]⟩),(100001,⟨0,.agg,[.int .i64 x.1.1,.bool x.1.2.1,.bool x.1.2.2.1,.bool x.1.2.2.2.1,.int .i64 x.1.2.2.2.2.1,.int .i64 x.1.2.2.2.2.2.1,.int .i64 x.1.2.2.2.2.2.2.1,.int .i64 x.1.2.2.2.2.2.2.2.1,.ro true 41 t2 x.1.2.2.2.2.2.2.2.2.1,.ro true 116 t3 x.1.2.2.2.2.2.2.2.2.2.1,.int .i64 x.1.2.2.2.2.2.2.2.2.2.2.1.1,.int .i64 x.1.2.2.2.2.2.2.2.2.2.2.1.2.1,.int .i64 x.1.2.2.2.2.2.2.2.2.2.2.1.2.2.1,.bool x.1.2.2.2.2.2.2.2.2.2.2.1.2.2.2,.ro true 92 t6 x.1.2.2.2.2.2.2.2.2.2.2.2.1,.int .i64 x.1.2.2.2.2.2.2.2.2.2.2.2.2.1.1,.int .i64 x.1.2.2.2.2.2.2.2.2.2.2.2.2.1.2.1,.int .i64 x.1.2.2.2.2.2.2.2.2.2.2.2.2.1.2.2.1,.int .i64 x.1.2.2.2.2.2.2.2.2.2.2.2.2.1.2.2.2,.ro true 45 t11 x.1.2.2.2.2.2.2.2.2.2.2.2.2.2.1,.ro true 56 t12 x.1.2.2.2.2.2.2.2.2.2.2.2.2.2.2]⟩)]
def S_l2 (x:ab ps)(a:A_l2):St:=ay [(1,⟨0,.one,[.bp 100001 0]⟩),(3,⟨0,.one,[.own false none 41 t2 a.1]⟩),(7,⟨0,.one,[.bp 100007 0]⟩),(32,⟨0,.one,[.ro true 92 t6 x.1.2.2.2.2.2.2.2.2.2.2.2.1]⟩),(33,⟨0,.one,[.int .i64 (AA x.1.2.2.2.2.2.2.2.2.2.2.2.1:Int)]⟩),(34,⟨0,.one,[.int .i64 a.2.1]⟩),(72,⟨0,.one,[.ro true 3 (.int .i64) a.2.2.1]⟩),(73,⟨0,.one,[.int .i64 a.2.2.2.1]⟩),(74,⟨0,.one,[.int .i64 a.2.2.2.2.1]⟩),(100001,⟨0,.agg,[.int .i64 x.1.1,.bool x.1.2.1,.bool x.1.2.2.1,.bool x.1.2.2.2.1,.int .i64 x.1.2.2.2.2.1,.int .i64 x.1.2.2.2.2.2.1,.int .i64 x.1.2.2.2.2.2.2.1,.int .i64 x.1.2.2.2.2.2.2.2.1,.ro true 41 t2 x.1.2.2.2.2.2.2.2.2.1,.ro true 116 t3 x.1.2.2.2.2.2.2.2.2.2.1,.int .i64 x.1.2.2.2.2.2.2.2.2.2.2.1.1,.int .i64 x.1.2.2.2.2.2.2.2.2.2.2.1.2.1,.int .i64 x.1.2.2.2.2.2.2.2.2.2.2.1.2.2.1,.bool x.1.2.2.2.2.2.2.2.2.2.2.1.2.2.2,.ro true 92 t6 x.1.2.2.2.2.2.2.2.2.2.2.2.1,.int .i64 x.1.2.2.2.2.2.2.2.2.2.2.2.2.1.1,.int .i64 x.1.2.2.2.2.2.2.2.2.2.2.2.2.1.2.1,.int .i64 x.1.2.2.2.2.2.2.2.2.2.2.2.2.1.2.2.1,.int .i64 x.1.2.2.2.2.2.2.2.2.2.2.2.2.1.2.2.2,.ro true 45 t11 x.1.2.2.2.2.2.2.2.2.2.2.2.2.2.1,.ro true 56 t12 x.1.2.2.2.2.2.2.2.2.2.2.2.2.2.2]⟩),(100007,⟨0,.agg,[.int .i64 a.2.2.2.2.2.1,.int .i64 a.2.2.2.2.2.2.1,.int .i64 a.2.2.2.2.2.2.2.1,.ro true 3 (.int .i64) a.2.2.2.2.2.2.2.2]⟩)]
def k_l0 (K:Nat)(x:ab ps):Ex->St->Option Res:=kAt (ev K) body [1,1,0,1,0] fin
def N_l0 (K:Nat)(x:ab ps):A_l0->Option Res:=λa=>be live_l0 (ev K (sub body [1,1,0,1,0,0])) K (S_l0 x a) (k_l0 K x)
def k_l1 (K:Nat)(x:ab ps):Ex->St->Option Res:=kAt (ev K) body [1,1,1,1,0,1,0] fin
def N_l1 (K:Nat)(x:ab ps):A_l1->Option Res:=λa=>be live_l1 (ev K (sub body [1,1,1,1,0,1,0,0])) K (S_l1 x a) (k_l1 K x)
def k_l2 (K:Nat)(x:ab ps)(r_l1:St->Option Res):Ex->St->Option Res:=kAt (ev K) (sub body [1,1,1,1,0,1,0,0]) [1,1,0,0,1,1,1,0] (bo live_l1 r_l1 (k_l1 K x))
def N_l2 (K:Nat)(x:ab ps)(r_l1:St->Option Res):A_l2->Option Res:=λa=>be live_l2 (ev K (sub body [1,1,1,1,0,1,0,0,1,1,0,0,1,1,1,0,0])) K (S_l2 x a) (k_l2 K x r_l1)
end Q31
namespace Q32
abbrev ps:List PK:=[.rd t9]
abbrev rs:List RK:=[.v .bool]
abbrev Res:=am rs×ak ps
def f (K:Nat)(x:ab ps):Option Res:=(Q2.f K (x.1.1,(-100000),100000,())).bind λy1=>bif y1.1.1 then ((Q2.f K (x.1.2.1,(-100000),100000,())).bind λy2=>bif y2.1.1 then ((Q2.f K (x.1.2.2.1,0,100000,())).bind λy3=>bif y3.1.1 then ((Q2.f K (x.1.2.2.2,1,1500,())).bind λy4=>some ((y4.1.1,()),())) else (some ((false,()),()))) else (some ((false,()),()))) else (some ((false,()),()))
def c (K:Nat):Ctr:=⟨56,ps,rs,true,f K⟩
end Q32
namespace Q33
abbrev ps:List PK:=[.rd (.int .i64)]
abbrev rs:List RK:=[.v .bool]
abbrev Res:=am rs×ak ps
def f (K:Nat)(x:ab ps):Option Res:=(Q2.f K (x.1,1,60000,())).bind λy1=>some ((!y1.1.1,()),())
def c (K:Nat):Ctr:=⟨112,ps,rs,true,f K⟩
end Q33
namespace Q34
abbrev ps:List PK:=[.rd t26,.rd (.int .i64)]
abbrev rs:List RK:=[.v .bool]
abbrev Res:=am rs×ak ps
def f (K:Nat)(x:ab ps):Option Res:=(Q30.f K (x.1,x.2.1,())).bind λy1=>bif y1.1.1 then (some ((x.2.1 != x.1.1,()),())) else (some ((false,()),()))
def c (K:Nat):Ctr:=⟨113,ps,rs,true,f K⟩
end Q34
namespace Q35
abbrev ps:List PK:=[.rd (.list false 3 (.int .i64)),.fn [(.int .i64)] .bool]
abbrev rs:List RK:=[.v (.int .i64)]
abbrev Res:=am rs×ak ps
abbrev A_l0:=Int
def l0.step (K:Nat)(x:ab ps)(rec_l0:A_l0->Option Res)(a:A_l0):Option Res:=bif decide (a<(AA x.1:Int)) then ((idx x.1 a).bind λy1=>(x.2.1 (y1,())).bind λy2=>bif y2 then (some ((a,()),())) else (rec_l0 (wr .i64 (a+1)))) else (some (((-1),()),()))
def l0 (K:Nat)(x:ab ps):A_l0->Option Res:=ae (λrec_l0 a=>l0.step K x rec_l0 a) K
def pre (K:Nat)(N_l0:A_l0->Option Res)(x:ab ps):Option Res:=N_l0 0
def f (K:Nat)(x:ab ps):Option Res:=pre K (l0 K x) x
def c (K:Nat):Ctr:=⟨154,ps,rs,true,f K⟩
end Q35
namespace Q36
abbrev ps:List PK:=[.rd (.list false 3 (.int .i64)),.fn [(.int .i64)] .bool]
abbrev rs:List RK:=[.v .bool]
abbrev Res:=am rs×ak ps
def f (K:Nat)(x:ab ps):Option Res:=(Q35.f K (x.1,x.2.1,())).bind λy1=>some ((decide (y1.1.1>=0),()),())
def c (K:Nat):Ctr:=⟨114,ps,rs,true,f K⟩
end Q36
namespace Q37
abbrev ps:List PK:=[.rd t26]
abbrev rs:List RK:=[.v .bool]
abbrev Res:=am rs×ak ps
abbrev A_l0:=Int
def l0.step (K:Nat)(x:ab ps)(rec_l0:A_l0->Option Res)(a:A_l0):Option Res:=bif decide (a<(AA x.1.2.2.2.2.2.2.2.2.2.2.2.2.2.1:Int)) then ((idx x.1.2.2.2.2.2.2.2.2.2.2.2.2.2.1 a).bind λy1=>(Q34.f K (x.1,y1.1,())).bind λy2=>bif !y2.1.1 then (some ((false,()),())) else (bif decide (a>0) then ((idx x.1.2.2.2.2.2.2.2.2.2.2.2.2.2.1 (wr .i64 (a-1))).bind λy3=>bif decide (y1.1<=y3.1) then (some ((false,()),())) else ((Q32.f K (y1.2.1,())).bind λy4=>bif !y4.1.1 then (some ((false,()),())) else ((Q2.f K ((AA y1.2.2:Int),1,3,())).bind λy5=>bif !y5.1.1 then (some ((false,()),())) else ((Q36.f K (y1.2.2,λy6=>(Q33.f K (y6.1,())).map λy=>y.1.1,())).bind λy7=>bif y7.1.1 then (some ((false,()),())) else (rec_l0 (wr .i64 (a+1))))))) else ((Q32.f K (y1.2.1,())).bind λy8=>bif !y8.1.1 then (some ((false,()),())) else ((Q2.f K ((AA y1.2.2:Int),1,3,())).bind λy9=>bif !y9.1.1 then (some ((false,()),())) else ((Q36.f K (y1.2.2,λy10=>(Q33.f K (y10.1,())).map λy=>y.1.1,())).bind λy11=>bif y11.1.1 then (some ((false,()),())) else (rec_l0 (wr .i64 (a+1)))))))) else (some ((true,()),()))
def l0 (K:Nat)(x:ab ps):A_l0->Option Res:=ae (λrec_l0 a=>l0.step K x rec_l0 a) K
def pre (K:Nat)(N_l0:A_l0->Option Res)(x:ab ps):Option Res:=N_l0 0
def f (K:Nat)(x:ab ps):Option Res:=pre K (l0 K x) x
def c (K:Nat):Ctr:=⟨57,ps,rs,true,f K⟩
end Q37
namespace Q38
abbrev ps:List PK:=[.rd t26]
abbrev rs:List RK:=[.v .bool]
abbrev Res:=am rs×ak ps
abbrev A_l0:=Int
def l0.step (K:Nat)(x:ab ps)(rec_l0:A_l0->Option Res)(a:A_l0):Option Res:=bif decide (a<(AA x.1.2.2.2.2.2.2.2.2.2.2.2.2.2.2:Int)) then ((idx x.1.2.2.2.2.2.2.2.2.2.2.2.2.2.2 a).bind λy1=>(Q13.f K (7,())).bind λy2=>(Q2.f K (y1.1,0,y2.1.1,())).bind λy3=>bif !y3.1.1 then (some ((false,()),())) else ((Q14.f K (x.1,())).bind λy4=>bif y1.1==y4.1.1 then (some ((false,()),())) else (bif decide (a>0) then ((idx x.1.2.2.2.2.2.2.2.2.2.2.2.2.2.2 (wr .i64 (a-1))).bind λy5=>bif decide (y1.1<=y5.1) then (some ((false,()),())) else (bif (AA y1.2:Int)==0 then (some ((false,()),())) else ((Q6.f K (y1.2,())).bind λy6=>bif !y6.1.1 then (some ((false,()),())) else ((Q18.f K (y1.2,y1.1,())).bind λy7=>bif !y7.1.1 then (some ((false,()),())) else (rec_l0 (wr .i64 (a+1))))))) else (bif (AA y1.2:Int)==0 then (some ((false,()),())) else ((Q6.f K (y1.2,())).bind λy8=>bif !y8.1.1 then (some ((false,()),())) else ((Q18.f K (y1.2,y1.1,())).bind λy9=>bif !y9.1.1 then (some ((false,()),())) else (rec_l0 (wr .i64 (a+1))))))))) else (some ((true,()),()))
def l0 (K:Nat)(x:ab ps):A_l0->Option Res:=ae (λrec_l0 a=>l0.step K x rec_l0 a) K
def pre (K:Nat)(N_l0:A_l0->Option Res)(x:ab ps):Option Res:=N_l0 0
def f (K:Nat)(x:ab ps):Option Res:=pre K (l0 K x) x
def c (K:Nat):Ctr:=⟨58,ps,rs,true,f K⟩
end Q38
namespace Q39
abbrev ps:List PK:=[.rd t26]
abbrev rs:List RK:=[.v .bool]
abbrev Res:=am rs×ak ps
def f (K:Nat)(x:ab ps):Option Res:=(Q3.f K (x.1.1,())).bind λy1=>bif !y1.1.1 then (some ((false,()),())) else ((Q2.f K (x.1.2.2.2.2.2.1,0,999999,())).bind λy2=>bif !y2.1.1 then (some ((false,()),())) else ((Q2.f K (x.1.2.2.2.2.2.2.1,0,999999,())).bind λy3=>bif !y3.1.1 then (some ((false,()),())) else ((Q2.f K (x.1.2.2.2.2.2.2.2.1,0,8,())).bind λy4=>bif !y4.1.1 then (some ((false,()),())) else ((Q2.f K (x.1.2.2.2.2.1,0,999,())).bind λy5=>bif !y5.1.1 then (some ((false,()),())) else (bif !x.1.2.1 then ((Q4.f K (x.1,())).bind λy6=>some ((y6.1.1,()),())) else ((Q28.f K (x.1,())).bind λy7=>bif y7.1.1 then ((Q29.f K (x.1,())).bind λy8=>bif y8.1.1 then ((Q31.f K (x.1,())).bind λy9=>bif y9.1.1 then ((Q32.f K (x.1.2.2.2.2.2.2.2.2.2.2.2.2.1,())).bind λy10=>bif y10.1.1 then ((Q37.f K (x.1,())).bind λy11=>bif y11.1.1 then ((Q38.f K (x.1,())).bind λy12=>some ((y12.1.1,()),())) else (some ((false,()),()))) else (some ((false,()),()))) else (some ((false,()),()))) else (some ((false,()),()))) else (some ((false,()),()))))))))
def c (K:Nat):Ctr:=⟨12,ps,rs,true,f K⟩
end Q39
namespace Q40
abbrev ps:List PK:=[.io (.list true 41 t2),.rd (.int .i64),.rd (.int .i64),.fn [t2,t2] (.int .i64)]
abbrev rs:List RK:=[]
abbrev Res:=am rs×ak ps
abbrev A_l1:=List (Ty.den t2)×Int×Int
abbrev A_l0:=List (Ty.den t2)×Int
def l1.step (K:Nat)(x:ab ps)(rec_l0:A_l0->Option Res)(rec_l1:A_l1->Option Res)(a:A_l1):Option Res:=bif decide (a.2.2>x.2.1) then ((idx a.1 a.2.2).bind λ_=>(idx a.1 (AB a.2.2:Nat)).bind λy2=>(idx a.1 (wr .i64 (a.2.2-1))).bind λ_=>(idx a.1 (AB (wr .i64 (a.2.2-1)):Nat)).bind λy4=>(x.2.2.2.1 (y2,y4,())).bind λy5=>bif decide (y5<0) then ((idx a.1 (wr .i64 (a.2.2-1))).bind λ_=>(idx a.1 (AB (wr .i64 (a.2.2-1)):Nat)).bind λy7=>(idx a.1 a.2.2).bind λ_=>(idx a.1 (AB a.2.2:Nat)).bind λy9=>(idx a.1 a.2.2).bind λ_=>(idx a.1 (AB a.2.2:Nat)).bind λy11=>(idx (a.1.set (AB a.2.2) y7) (wr .i64 (a.2.2-1))).bind λ_=>(idx (a.1.set (AB a.2.2) y7) (AB (wr .i64 (a.2.2-1)):Nat)).bind λy13=>rec_l1 ((a.1.set (AB a.2.2) y7).set (AB (wr .i64 (a.2.2-1))) y9,a.2.1,wr .i64 (a.2.2-1))) else (rec_l0 (a.1,wr .i64 (a.2.1+1)))) else (rec_l0 (a.1,wr .i64 (a.2.1+1)))
def l1 (K:Nat)(x:ab ps)(rec_l0:A_l0->Option Res):A_l1->Option Res:=ae (λrec_l1 a=>l1.step K x rec_l0 rec_l1 a) K
def l0.step (K:Nat)(x:ab ps)(N_l1:A_l1->Option Res)(rec_l0:A_l0->Option Res)(a:A_l0):Option Res:=bif decide (a.2<x.2.2.1) then (N_l1 (a.1,a.2,a.2)) else (some ((),(a.1,())))
def l0 (K:Nat)(x:ab ps):A_l0->Option Res:=ae (λrec_l0 a=>l0.step K x (l1 K x rec_l0) rec_l0 a) K
def pre (K:Nat)(N_l0:A_l0->Option Res)(x:ab ps):Option Res:=N_l0 (x.1,wr .i64 (x.2.1+1))
def f (K:Nat)(x:ab ps):Option Res:=pre K (l0 K x) x
def c (K:Nat):Ctr:=⟨168,ps,rs,true,f K⟩
def G (K:Nat):List Ctr:=[]
def live_l1:List (Nat×List Coe):=[(0,[.own false 41 t2]),(1,[.keep]),(2,[.keep]),(3,[.keep]),(8,[.keep]),(9,[.keep])]
def live_l0:List (Nat×List Coe):=[(0,[.own false 41 t2]),(1,[.keep]),(2,[.keep]),(3,[.keep]),(8,[.keep])]
def L:List (Nat×List (Nat×List Coe)):=[(5,live_l1),(2,live_l0)]
def body:Code:=cV Tryz.f168
abbrev ev (K:Nat):Code->St->(Ex->St->Option Res)->Option Res:=evK (G K) T_S L K
abbrev fin:Ex->St->Option Res:=dx T_S ps rs true Tryz.f168.results.toList
def S_l0 (x:ab ps)(a:A_l0):St:=ay [(0,⟨0,.one,[.own false none 41 t2 a.1]⟩),(1,⟨0,.one,[.int .i64 x.2.1]⟩),(2,⟨0,.one,[.int .i64 x.2.2.1]⟩),(3,⟨0,.one,[.fn [t2,t2] (.int .i64) x.2.2.2.1]⟩),(8,⟨0,.one,[.int .i64 a.2]⟩)]
def S_l1 (x:ab ps)(a:A_l1):St:=ay [(0,⟨0,.one,[.own false none 41 t2 a.1]⟩),(1,⟨0,.one,[.int .i64 x.2.1]⟩),(2,⟨0,.one,[.int .i64 x.2.2.1]⟩),(3,⟨0,.one,[.fn [t2,t2] (.int .i64) x.2.2.2.1]⟩),(8,⟨0,.one,[.int .i64 a.2.1]⟩),(9,⟨0,.one,[.int .i64 a.2.2]⟩)]
def k_l0 (K:Nat)(x:ab ps):Ex->St->Option Res:=kAt (ev K) body [1,0] fin
def N_l0 (K:Nat)(x:ab ps):A_l0->Option Res:=λa=>be live_l0 (ev K (sub body [1,0,0])) K (S_l0 x a) (k_l0 K x)
def k_l1 (K:Nat)(x:ab ps)(r_l0:St->Option Res):Ex->St->Option Res:=kAt (ev K) (sub body [1,0,0]) [1,0,0,1,0] (bo live_l0 r_l0 (k_l0 K x))
def N_l1 (K:Nat)(x:ab ps)(r_l0:St->Option Res):A_l1->Option Res:=λa=>be live_l1 (ev K (sub body [1,0,0,1,0,0,1,0,0])) K (S_l1 x a) (k_l1 K x r_l0)
end Q40
namespace Q41
abbrev ps:List PK:=[.rd (.list false 41 t2),.rd (.int .i64),.rd (.int .i64),.iop (.int .i64),.fn [t2,t2] (.int .i64)]
abbrev rs:List RK:=[.v (.int .i64),.v (.int .i64)]
abbrev Res:=am rs×ak ps
def f (K:Nat)(x:ab ps):Option Res:=(idx x.1 x.2.2.1).bind λy1=>(idx x.1 x.2.1).bind λy2=>(x.2.2.2.2.1 (y1,y2,())).bind λy3=>bif decide (y3<0) then (some ((x.2.2.1,x.2.1,()),(wr .i64 (x.2.2.2.1+1),()))) else (some ((x.2.1,x.2.2.1,()),(x.2.2.2.1,())))
def c (K:Nat):Ctr:=⟨227,ps,rs,true,f K⟩
end Q41
namespace Q42
abbrev ps:List PK:=[.rd (.list false 41 t2),.rd (.int .i64),.rd (.int .i64),.rd (.int .i64),.iop (.int .i64),.fn [t2,t2] (.int .i64)]
abbrev rs:List RK:=[.v (.int .i64)]
abbrev Res:=am rs×ak ps
def f (K:Nat)(x:ab ps):Option Res:=(Q41.f K (x.1,x.2.1,x.2.2.1,x.2.2.2.2.1,x.2.2.2.2.2.1,())).bind λy1=>(Q41.f K (x.1,y1.1.2.1,x.2.2.2.1,y1.2.1,x.2.2.2.2.2.1,())).bind λy2=>(Q41.f K (x.1,y1.1.1,y2.1.1,y2.2.1,x.2.2.2.2.2.1,())).bind λy3=>some ((y3.1.2.1,()),(y3.2.1,()))
def c (K:Nat):Ctr:=⟨201,ps,rs,true,f K⟩
end Q42
namespace Q43
abbrev ps:List PK:=[.rd (.list false 41 t2),.rd (.int .i64),.iop (.int .i64),.fn [t2,t2] (.int .i64)]
abbrev rs:List RK:=[.v (.int .i64)]
abbrev Res:=am rs×ak ps
def f (K:Nat)(x:ab ps):Option Res:=(Q42.f K (x.1,wr .i64 (x.2.1-1),x.2.1,wr .i64 (x.2.1+1),x.2.2.1,x.2.2.2.1,())).bind λy1=>some ((y1.1.1,()),(y1.2.1,()))
def c (K:Nat):Ctr:=⟨200,ps,rs,true,f K⟩
end Q43
namespace Q44
abbrev ps:List PK:=[.rd (.list false 41 t2),.rd (.int .i64),.rd (.int .i64),.fn [t2,t2] (.int .i64)]
abbrev rs:List RK:=[.v (.int .i64),.v (.int .i64)]
abbrev Res:=am rs×ak ps
def f (K:Nat)(x:ab ps):Option Res:=bif decide ((wr .i64 (x.2.2.1-x.2.1))>=8) then (bif decide ((wr .i64 (x.2.2.1-x.2.1))>=50) then ((Q43.f K (x.1,wr .i64 (x.2.1+(wr .i64 ((wr .i64 (AD (wr .i64 (x.2.2.1-x.2.1)) 4))*1))),0,x.2.2.2.1,())).bind λy1=>(Q43.f K (x.1,wr .i64 (x.2.1+(wr .i64 ((wr .i64 (AD (wr .i64 (x.2.2.1-x.2.1)) 4))*2))),y1.2.1,x.2.2.2.1,())).bind λy2=>(Q43.f K (x.1,wr .i64 (x.2.1+(wr .i64 ((wr .i64 (AD (wr .i64 (x.2.2.1-x.2.1)) 4))*3))),y2.2.1,x.2.2.2.1,())).bind λy3=>(Q42.f K (x.1,y1.1.1,y2.1.1,y3.1.1,y3.2.1,x.2.2.2.1,())).bind λy4=>bif y4.2.1==0 then (some ((y4.1.1,1,()),())) else (bif y4.2.1==12 then (some ((y4.1.1,2,()),())) else (some ((y4.1.1,0,()),())))) else ((Q42.f K (x.1,wr .i64 (x.2.1+(wr .i64 ((wr .i64 (AD (wr .i64 (x.2.2.1-x.2.1)) 4))*1))),wr .i64 (x.2.1+(wr .i64 ((wr .i64 (AD (wr .i64 (x.2.2.1-x.2.1)) 4))*2))),wr .i64 (x.2.1+(wr .i64 ((wr .i64 (AD (wr .i64 (x.2.2.1-x.2.1)) 4))*3))),0,x.2.2.2.1,())).bind λy5=>bif y5.2.1==0 then (some ((y5.1.1,1,()),())) else (bif y5.2.1==12 then (some ((y5.1.1,2,()),())) else (some ((y5.1.1,0,()),()))))) else (some ((wr .i64 (x.2.1+(wr .i64 ((wr .i64 (AD (wr .i64 (x.2.2.1-x.2.1)) 4))*2))),1,()),()))
def c (K:Nat):Ctr:=⟨171,ps,rs,true,f K⟩
end Q44
namespace Q45
abbrev ps:List PK:=[.io (.list true 41 t2),.rd (.int .i64),.rd (.int .i64),.rd (.int .i64),.fn [t2,t2] (.int .i64)]
abbrev rs:List RK:=[]
abbrev Res:=am rs×ak ps
abbrev A_l0:=Unit
def l0.step (K:Nat)(x:ab ps)(rec_l0:A_l0->Option Res)(a:A_l0):Option Res:=bif decide ((wr .i64 (x.2.2.1-x.2.1))<=12) then ((Q40.f K (x.1,x.2.1,x.2.2.1,x.2.2.2.2.1,())).bind λy1=>some ((),(y1.2.1,()))) else (bif x.2.2.2.1==0 then none else ((Q44.f K (x.1,x.2.1,x.2.2.1,x.2.2.2.2.1,())).bind λy2=>bif y2.1.2.1==2 then none else (bif y2.1.2.1==1 then none else (bif decide (x.2.1>0) then ((idx x.1 (wr .i64 (x.2.1-1))).bind λ_=>(idx x.1 (AB (wr .i64 (x.2.1-1)):Nat)).bind λy4=>(idx x.1 y2.1.1).bind λ_=>(idx x.1 (AB y2.1.1:Nat)).bind λy6=>(x.2.2.2.2.1 (y4,y6,())).bind λy7=>bif !(decide (y7<0)) then none else none) else none))))
def l0 (K:Nat)(x:ab ps):A_l0->Option Res:=ae (λrec_l0 a=>l0.step K x rec_l0 a) K
def pre (K:Nat)(N_l0:A_l0->Option Res)(x:ab ps):Option Res:=N_l0 ()
def f (K:Nat)(x:ab ps):Option Res:=pre K (l0 K x) x
def c (K:Nat):Ctr:=⟨155,ps,rs,true,f K⟩
end Q45
namespace Q46
abbrev ps:List PK:=[.rd (.int .u64)]
abbrev rs:List RK:=[.v (.int .i64)]
abbrev Res:=am rs×ak ps
def f (K:Nat)(x:ab ps):Option Res:=bif decide (x.1>=4294967296) then (bif decide ((AC x.1 (2 ^ 32))>=65536) then (bif decide ((AC (AC x.1 (2 ^ 32)) (2 ^ 16))>=256) then ((idx (ByteArray.mk #[0,1,2,2,3,3,3,3,4,4,4,4,4,4,4,4,5,5,5,5,5,5,5,5,5,5,5,5,5,5,5,5,6,6,6,6,6,6,6,6,6,6,6,6,6,6,6,6,6,6,6,6,6,6,6,6,6,6,6,6,6,6,6,6,7,7,7,7,7,7,7,7,7,7,7,7,7,7,7,7,7,7,7,7,7,7,7,7,7,7,7,7,7,7,7,7,7,7,7,7,7,7,7,7,7,7,7,7,7,7,7,7,7,7,7,7,7,7,7,7,7,7,7,7,7,7,7,7,8,8,8,8,8,8,8,8,8,8,8,8,8,8,8,8,8,8,8,8,8,8,8,8,8,8,8,8,8,8,8,8,8,8,8,8,8,8,8,8,8,8,8,8,8,8,8,8,8,8,8,8,8,8,8,8,8,8,8,8,8,8,8,8,8,8,8,8,8,8,8,8,8,8,8,8,8,8,8,8,8,8,8,8,8,8,8,8,8,8,8,8,8,8,8,8,8,8,8,8,8,8,8,8,8,8,8,8,8,8,8,8,8,8,8,8,8,8,8,8,8,8,8,8,8,8,8,8]).data.toList (wr .u8 (AC (AC (AC x.1 (2 ^ 32)) (2 ^ 16)) (2 ^ 8)))).bind λy1=>some ((wr .i64 ((wr .i64 ((wr .i64 (32+16))+8))+(wr .i64 (y1.toNat:Int))),()),())) else ((idx (ByteArray.mk #[0,1,2,2,3,3,3,3,4,4,4,4,4,4,4,4,5,5,5,5,5,5,5,5,5,5,5,5,5,5,5,5,6,6,6,6,6,6,6,6,6,6,6,6,6,6,6,6,6,6,6,6,6,6,6,6,6,6,6,6,6,6,6,6,7,7,7,7,7,7,7,7,7,7,7,7,7,7,7,7,7,7,7,7,7,7,7,7,7,7,7,7,7,7,7,7,7,7,7,7,7,7,7,7,7,7,7,7,7,7,7,7,7,7,7,7,7,7,7,7,7,7,7,7,7,7,7,7,8,8,8,8,8,8,8,8,8,8,8,8,8,8,8,8,8,8,8,8,8,8,8,8,8,8,8,8,8,8,8,8,8,8,8,8,8,8,8,8,8,8,8,8,8,8,8,8,8,8,8,8,8,8,8,8,8,8,8,8,8,8,8,8,8,8,8,8,8,8,8,8,8,8,8,8,8,8,8,8,8,8,8,8,8,8,8,8,8,8,8,8,8,8,8,8,8,8,8,8,8,8,8,8,8,8,8,8,8,8,8,8,8,8,8,8,8,8,8,8,8,8,8,8,8,8,8,8]).data.toList (wr .u8 (AC (AC x.1 (2 ^ 32)) (2 ^ 16)))).bind λy2=>some ((wr .i64 ((wr .i64 (32+16))+(wr .i64 (y2.toNat:Int))),()),()))) else (bif decide ((AC x.1 (2 ^ 32))>=256) then ((idx (ByteArray.mk #[0,1,2,2,3,3,3,3,4,4,4,4,4,4,4,4,5,5,5,5,5,5,5,5,5,5,5,5,5,5,5,5,6,6,6,6,6,6,6,6,6,6,6,6,6,6,6,6,6,6,6,6,6,6,6,6,6,6,6,6,6,6,6,6,7,7,7,7,7,7,7,7,7,7,7,7,7,7,7,7,7,7,7,7,7,7,7,7,7,7,7,7,7,7,7,7,7,7,7,7,7,7,7,7,7,7,7,7,7,7,7,7,7,7,7,7,7,7,7,7,7,7,7,7,7,7,7,7,8,8,8,8,8,8,8,8,8,8,8,8,8,8,8,8,8,8,8,8,8,8,8,8,8,8,8,8,8,8,8,8,8,8,8,8,8,8,8,8,8,8,8,8,8,8,8,8,8,8,8,8,8,8,8,8,8,8,8,8,8,8,8,8,8,8,8,8,8,8,8,8,8,8,8,8,8,8,8,8,8,8,8,8,8,8,8,8,8,8,8,8,8,8,8,8,8,8,8,8,8,8,8,8,8,8,8,8,8,8,8,8,8,8,8,8,8,8,8,8,8,8,8,8,8,8,8,8]).data.toList (wr .u8 (AC (AC x.1 (2 ^ 32)) (2 ^ 8)))).bind λy3=>some ((wr .i64 ((wr .i64 (32+8))+(wr .i64 (y3.toNat:Int))),()),())) else ((idx (ByteArray.mk #[0,1,2,2,3,3,3,3,4,4,4,4,4,4,4,4,5,5,5,5,5,5,5,5,5,5,5,5,5,5,5,5,6,6,6,6,6,6,6,6,6,6,6,6,6,6,6,6,6,6,6,6,6,6,6,6,6,6,6,6,6,6,6,6,7,7,7,7,7,7,7,7,7,7,7,7,7,7,7,7,7,7,7,7,7,7,7,7,7,7,7,7,7,7,7,7,7,7,7,7,7,7,7,7,7,7,7,7,7,7,7,7,7,7,7,7,7,7,7,7,7,7,7,7,7,7,7,7,8,8,8,8,8,8,8,8,8,8,8,8,8,8,8,8,8,8,8,8,8,8,8,8,8,8,8,8,8,8,8,8,8,8,8,8,8,8,8,8,8,8,8,8,8,8,8,8,8,8,8,8,8,8,8,8,8,8,8,8,8,8,8,8,8,8,8,8,8,8,8,8,8,8,8,8,8,8,8,8,8,8,8,8,8,8,8,8,8,8,8,8,8,8,8,8,8,8,8,8,8,8,8,8,8,8,8,8,8,8,8,8,8,8,8,8,8,8,8,8,8,8,8,8,8,8,8,8]).data.toList (wr .u8 (AC x.1 (2 ^ 32)))).bind λy4=>some ((wr .i64 (32+(wr .i64 (y4.toNat:Int))),()),())))) else (bif decide (x.1>=65536) then (bif decide ((AC x.1 (2 ^ 16))>=256) then ((idx (ByteArray.mk #[0,1,2,2,3,3,3,3,4,4,4,4,4,4,4,4,5,5,5,5,5,5,5,5,5,5,5,5,5,5,5,5,6,6,6,6,6,6,6,6,6,6,6,6,6,6,6,6,6,6,6,6,6,6,6,6,6,6,6,6,6,6,6,6,7,7,7,7,7,7,7,7,7,7,7,7,7,7,7,7,7,7,7,7,7,7,7,7,7,7,7,7,7,7,7,7,7,7,7,7,7,7,7,7,7,7,7,7,7,7,7,7,7,7,7,7,7,7,7,7,7,7,7,7,7,7,7,7,8,8,8,8,8,8,8,8,8,8,8,8,8,8,8,8,8,8,8,8,8,8,8,8,8,8,8,8,8,8,8,8,8,8,8,8,8,8,8,8,8,8,8,8,8,8,8,8,8,8,8,8,8,8,8,8,8,8,8,8,8,8,8,8,8,8,8,8,8,8,8,8,8,8,8,8,8,8,8,8,8,8,8,8,8,8,8,8,8,8,8,8,8,8,8,8,8,8,8,8,8,8,8,8,8,8,8,8,8,8,8,8,8,8,8,8,8,8,8,8,8,8,8,8,8,8,8,8]).data.toList (wr .u8 (AC (AC x.1 (2 ^ 16)) (2 ^ 8)))).bind λy5=>some ((wr .i64 ((wr .i64 ((wr .i64 (0+16))+8))+(wr .i64 (y5.toNat:Int))),()),())) else ((idx (ByteArray.mk #[0,1,2,2,3,3,3,3,4,4,4,4,4,4,4,4,5,5,5,5,5,5,5,5,5,5,5,5,5,5,5,5,6,6,6,6,6,6,6,6,6,6,6,6,6,6,6,6,6,6,6,6,6,6,6,6,6,6,6,6,6,6,6,6,7,7,7,7,7,7,7,7,7,7,7,7,7,7,7,7,7,7,7,7,7,7,7,7,7,7,7,7,7,7,7,7,7,7,7,7,7,7,7,7,7,7,7,7,7,7,7,7,7,7,7,7,7,7,7,7,7,7,7,7,7,7,7,7,8,8,8,8,8,8,8,8,8,8,8,8,8,8,8,8,8,8,8,8,8,8,8,8,8,8,8,8,8,8,8,8,8,8,8,8,8,8,8,8,8,8,8,8,8,8,8,8,8,8,8,8,8,8,8,8,8,8,8,8,8,8,8,8,8,8,8,8,8,8,8,8,8,8,8,8,8,8,8,8,8,8,8,8,8,8,8,8,8,8,8,8,8,8,8,8,8,8,8,8,8,8,8,8,8,8,8,8,8,8,8,8,8,8,8,8,8,8,8,8,8,8,8,8,8,8,8,8]).data.toList (wr .u8 (AC x.1 (2 ^ 16)))).bind λy6=>some ((wr .i64 ((wr .i64 (0+16))+(wr .i64 (y6.toNat:Int))),()),()))) else (bif decide (x.1>=256) then ((idx (ByteArray.mk #[0,1,2,2,3,3,3,3,4,4,4,4,4,4,4,4,5,5,5,5,5,5,5,5,5,5,5,5,5,5,5,5,6,6,6,6,6,6,6,6,6,6,6,6,6,6,6,6,6,6,6,6,6,6,6,6,6,6,6,6,6,6,6,6,7,7,7,7,7,7,7,7,7,7,7,7,7,7,7,7,7,7,7,7,7,7,7,7,7,7,7,7,7,7,7,7,7,7,7,7,7,7,7,7,7,7,7,7,7,7,7,7,7,7,7,7,7,7,7,7,7,7,7,7,7,7,7,7,8,8,8,8,8,8,8,8,8,8,8,8,8,8,8,8,8,8,8,8,8,8,8,8,8,8,8,8,8,8,8,8,8,8,8,8,8,8,8,8,8,8,8,8,8,8,8,8,8,8,8,8,8,8,8,8,8,8,8,8,8,8,8,8,8,8,8,8,8,8,8,8,8,8,8,8,8,8,8,8,8,8,8,8,8,8,8,8,8,8,8,8,8,8,8,8,8,8,8,8,8,8,8,8,8,8,8,8,8,8,8,8,8,8,8,8,8,8,8,8,8,8,8,8,8,8,8,8]).data.toList (wr .u8 (AC x.1 (2 ^ 8)))).bind λy7=>some ((wr .i64 ((wr .i64 (0+8))+(wr .i64 (y7.toNat:Int))),()),())) else ((idx (ByteArray.mk #[0,1,2,2,3,3,3,3,4,4,4,4,4,4,4,4,5,5,5,5,5,5,5,5,5,5,5,5,5,5,5,5,6,6,6,6,6,6,6,6,6,6,6,6,6,6,6,6,6,6,6,6,6,6,6,6,6,6,6,6,6,6,6,6,7,7,7,7,7,7,7,7,7,7,7,7,7,7,7,7,7,7,7,7,7,7,7,7,7,7,7,7,7,7,7,7,7,7,7,7,7,7,7,7,7,7,7,7,7,7,7,7,7,7,7,7,7,7,7,7,7,7,7,7,7,7,7,7,8,8,8,8,8,8,8,8,8,8,8,8,8,8,8,8,8,8,8,8,8,8,8,8,8,8,8,8,8,8,8,8,8,8,8,8,8,8,8,8,8,8,8,8,8,8,8,8,8,8,8,8,8,8,8,8,8,8,8,8,8,8,8,8,8,8,8,8,8,8,8,8,8,8,8,8,8,8,8,8,8,8,8,8,8,8,8,8,8,8,8,8,8,8,8,8,8,8,8,8,8,8,8,8,8,8,8,8,8,8,8,8,8,8,8,8,8,8,8,8,8,8,8,8,8,8,8,8]).data.toList (wr .u8 x.1)).bind λy8=>some ((wr .i64 (0+(wr .i64 (y8.toNat:Int))),()),()))))
def c (K:Nat):Ctr:=⟨177,ps,rs,true,f K⟩
end Q46
namespace Q47
abbrev ps:List PK:=[.rd (.int .u64)]
abbrev rs:List RK:=[.v (.int .i64)]
abbrev Res:=am rs×ak ps
def f (K:Nat)(x:ab ps):Option Res:=(Q46.f K (x.1,())).bind λy1=>some ((y1.1.1,()),())
def c (K:Nat):Ctr:=⟨156,ps,rs,true,f K⟩
end Q47
namespace Q48
abbrev ps:List PK:=[.io (.list true 41 t2),.fn [t2,t2] (.int .i64)]
abbrev rs:List RK:=[]
abbrev Res:=am rs×ak ps
def f (K:Nat)(x:ab ps):Option Res:=(Q47.f K (wr .u64 (AA x.1:Int),())).bind λy1=>(Q45.f K (x.1,0,(AA x.1:Int),y1.1.1,x.2.1,())).bind λy2=>some ((),(y2.2.1,()))
def c (K:Nat):Ctr:=⟨123,ps,rs,true,f K⟩
end Q48
namespace Q49
abbrev ps:List PK:=[.own (.list true 41 t2)]
abbrev rs:List RK:=[.v (.list true 41 t2)]
abbrev Res:=am rs×ak ps
def f (K:Nat)(x:ab ps):Option Res:=bif true&&decide ((AA x.1:Int)=(AA x.1:Int))&&decide ((AA x.1:Int)=(AA x.1:Int))&&true then (some ((x.1,()),())) else none
def c (K:Nat):Ctr:=⟨124,ps,rs,true,f K⟩
end Q49
namespace Q50
abbrev ps:List PK:=[.rd t26]
abbrev rs:List RK:=[.v (.list true 41 t2)]
abbrev Res:=am rs×ak ps
abbrev A_l0:=List (Ty.den t2)×Int
def l0.step (K:Nat)(x:ab ps)(rec_l0:A_l0->Option Res)(a:A_l0):Option Res:=bif decide (a.2<(AA x.1.2.2.2.2.2.2.2.2.2.2.2.2.2.2:Int)) then ((idx x.1.2.2.2.2.2.2.2.2.2.2.2.2.2.2 a.2).bind λy2=>bif decide ((AA a.1+AA y2.2)*32<=aj) then (rec_l0 (a.1++y2.2,wr .i64 (a.2+1))) else none) else ((Q48.f K (a.1,λy3=>(Q25.f K (y3.1,y3.2.1,())).map λy=>y.1.1,())).bind λy4=>(Q49.f K (y4.2.1,())).bind λy5=>some ((y5.1.1,()),()))
def l0 (K:Nat)(x:ab ps):A_l0->Option Res:=ae (λrec_l0 a=>l0.step K x rec_l0 a) K
def pre (K:Nat)(N_l0:A_l0->Option Res)(x:ab ps):Option Res:=(Q0.f K (x.1.2.2.2.2.2.2.2.2.1,())).bind λy1=>N_l0 (y1.1.1,0)
def f (K:Nat)(x:ab ps):Option Res:=pre K (l0 K x) x
def c (K:Nat):Ctr:=⟨76,ps,rs,true,f K⟩
end Q50
namespace Q51
abbrev ps:List PK:=[.rd t26]
abbrev rs:List RK:=[.v (.list true 41 t2)]
abbrev Res:=am rs×ak ps
def f (K:Nat)(x:ab ps):Option Res:=(Q39.f K (x.1,())).bind λy1=>bif !y1.1.1 then (some (([],()),())) else (bif !x.1.2.1 then (some (([],()),())) else ((Q50.f K (x.1,())).bind λy2=>some ((y2.1.1,()),())))
def c (K:Nat):Ctr:=⟨19,ps,rs,true,f K⟩
end Q51
namespace Q52
abbrev ps:List PK:=[.rd (.list false 5 (.int .u8))]
abbrev rs:List RK:=[.box t48]
abbrev Res:=am rs×ak ps
def f (K:Nat)(x:ab ps):Option Res:=bif decide ((AA x.1:Int)>2000) then (bif decide (0<=0)&&decide (0<=2000)&&decide (2000<=(AA x.1:Int))&&true then (some ((((x.1.take (AB 2000)).drop (AB 0),0),()),())) else none) else (some (((x.1,0),()),()))
def c (K:Nat):Ctr:=⟨36,ps,rs,false,f K⟩
end Q52
namespace Q53
abbrev ps:List PK:=[.iop t48,.rd (.int .i64)]
abbrev rs:List RK:=[.v (.int .i64)]
abbrev Res:=am rs×ak ps
def f (K:Nat)(x:ab ps):Option Res:=bif decide (x.2.1<1) then (some ((0,()),((x.1.1,wr .i64 (x.1.2+1)),()))) else (bif (AA x.1.1:Int)==0 then (some ((0,()),((x.1.1,wr .i64 (x.1.2+1)),()))) else (bif decide ((wr .i64 ((wr .i64 (x.1.2+1))-1))<(AA x.1.1:Int)) then ((idx x.1.1 (wr .i64 ((wr .i64 (x.1.2+1))-1))).bind λy1=>bif decide (x.2.1=0) then none else (some ((AE (wr .i64 y1) x.2.1,()),((x.1.1,wr .i64 (x.1.2+1)),())))) else (bif decide ((AA x.1.1:Int)=0) then none else ((idx x.1.1 (AE (wr .i64 ((wr .i64 (x.1.2+1))-1)) (AA x.1.1:Int))).bind λy2=>bif decide ((AA x.1.1:Int)=0) then none else ((idx x.1.1 (AE (wr .i64 ((wr .i64 ((wr .i64 ((wr .i64 (x.1.2+1))-1))*7))+3)) (AA x.1.1:Int))).bind λy3=>bif decide ((AA x.1.1:Int)=0) then none else (bif decide (x.2.1=0) then none else (some ((AE (oV .i64 (wr .i64 ((wr .i64 ((wr .i64 ((wr .i64 ((wr .i64 y2)*131))+(wr .i64 ((wr .i64 y3)*1117))))+(wr .i64 ((wr .i64 ((wr .i64 (x.1.2+1))-1))*29))))+(wr .i64 ((wr .i64 (AD (wr .i64 ((wr .i64 (x.1.2+1))-1)) (AA x.1.1:Int)))*53)))) (wr .i64 (AD (wr .i64 ((wr .i64 ((wr .i64 ((wr .i64 ((wr .i64 y2)*131))+(wr .i64 ((wr .i64 y3)*1117))))+(wr .i64 ((wr .i64 ((wr .i64 (x.1.2+1))-1))*29))))+(wr .i64 ((wr .i64 (AD (wr .i64 ((wr .i64 (x.1.2+1))-1)) (AA x.1.1:Int)))*53)))) 64))) x.2.1,()),((x.1.1,wr .i64 (x.1.2+1)),())))))))))
def c (K:Nat):Ctr:=⟨38,ps,rs,false,f K⟩
end Q53
namespace Q54
abbrev ps:List PK:=[.rd t26]
abbrev rs:List RK:=[.v t62]
abbrev Res:=am rs×ak ps
abbrev A_l2:=Int×List (Ty.den t6)×List (Ty.den t11)×List (Ty.den t12)
abbrev A_l1:=Int×List (Ty.den t6)×List (Ty.den t11)
abbrev A_l0:=Int×List (Ty.den t6)
def l2.step (K:Nat)(x:ab ps)(rec_l2:A_l2->Option Res)(a:A_l2):Option Res:=bif decide (a.1<(AA x.1.2.2.2.2.2.2.2.2.2.2.2.2.2.2:Int)) then ((idx x.1.2.2.2.2.2.2.2.2.2.2.2.2.2.2 a.1).bind λy3=>bif decide ((AA ([]:List (Ty.den t2))+AA y3.2)*32<=aj) then (bif decide ((AA a.2.2.2+AA ([(y3.1,[]++y3.2)]))*32<=aj) then (rec_l2 (wr .i64 (a.1+1),a.2.1,a.2.2.1,a.2.2.2++([(y3.1,[]++y3.2)]))) else none) else none) else (some (((x.1.1,(x.1.2.1,(x.1.2.2.1,(x.1.2.2.2.1,(x.1.2.2.2.2.1,(x.1.2.2.2.2.2.1,(x.1.2.2.2.2.2.2.1,(x.1.2.2.2.2.2.2.2.1,([]++x.1.2.2.2.2.2.2.2.2.1,([]++x.1.2.2.2.2.2.2.2.2.2.1,(x.1.2.2.2.2.2.2.2.2.2.2.1,(a.2.1,(x.1.2.2.2.2.2.2.2.2.2.2.2.2.1,a.2.2))))))))))))),()),()))
def l2 (K:Nat)(x:ab ps):A_l2->Option Res:=ae (λrec_l2 a=>l2.step K x rec_l2 a) K
def l1.step (K:Nat)(x:ab ps)(N_l2:A_l2->Option Res)(rec_l1:A_l1->Option Res)(a:A_l1):Option Res:=bif decide (a.1<(AA x.1.2.2.2.2.2.2.2.2.2.2.2.2.2.1:Int)) then ((idx x.1.2.2.2.2.2.2.2.2.2.2.2.2.2.1 a.1).bind λy2=>bif decide ((AA ([]:List (Ty.den (.int .i64)))+AA y2.2.2)*8<=aj) then (bif decide ((AA a.2.2+AA ([(y2.1,(y2.2.1,[]++y2.2.2))]))*64<=aj) then (rec_l1 (wr .i64 (a.1+1),a.2.1,a.2.2++([(y2.1,(y2.2.1,[]++y2.2.2))]))) else none) else none) else (N_l2 (0,a.2.1,a.2.2,[]))
def l1 (K:Nat)(x:ab ps):A_l1->Option Res:=ae (λrec_l1 a=>l1.step K x (l2 K x) rec_l1 a) K
def l0.step (K:Nat)(x:ab ps)(N_l1:A_l1->Option Res)(rec_l0:A_l0->Option Res)(a:A_l0):Option Res:=bif decide (a.1<(AA x.1.2.2.2.2.2.2.2.2.2.2.2.1:Int)) then ((idx x.1.2.2.2.2.2.2.2.2.2.2.2.1 a.1).bind λy1=>bif decide ((AA ([]:List (Ty.den (.int .i64)))+AA y1.2.2.2)*8<=aj) then (bif decide ((AA a.2+AA ([(y1.1,(y1.2.1,(y1.2.2.1,[]++y1.2.2.2)))]))*48<=aj) then (rec_l0 (wr .i64 (a.1+1),a.2++([(y1.1,(y1.2.1,(y1.2.2.1,[]++y1.2.2.2)))]))) else none) else none) else (N_l1 (0,a.2,[]))
def l0 (K:Nat)(x:ab ps):A_l0->Option Res:=ae (λrec_l0 a=>l0.step K x (l1 K x) rec_l0 a) K
def pre (K:Nat)(N_l0:A_l0->Option Res)(x:ab ps):Option Res:=bif decide ((AA ([]:List (Ty.den t2))+AA x.1.2.2.2.2.2.2.2.2.1)*32<=aj) then (bif decide ((AA ([]:List (Ty.den t3))+AA x.1.2.2.2.2.2.2.2.2.2.1)*40<=aj) then (N_l0 (0,[])) else none) else none
def f (K:Nat)(x:ab ps):Option Res:=pre K (l0 K x) x
def c (K:Nat):Ctr:=⟨132,ps,rs,true,f K⟩
def G (K:Nat):List Ctr:=[]
def live_l2:List (Nat×List Coe):=[(1,[.keep]),(2,[.keep]),(3,[.keep]),(8,[.keep]),(100001,[.keep,.keep,.keep,.keep,.keep,.keep,.keep,.keep,.ro true 41 t2,.ro true 116 t3,.keep,.keep,.keep,.keep,.ro true 92 t6,.keep,.keep,.keep,.keep,.ro true 45 t11,.ro true 56 t12]),(100002,[.keep,.keep,.keep,.keep,.keep,.keep,.keep,.keep,.keep,.keep,.keep,.keep,.keep,.keep,.keep,.keep,.keep,.keep,.keep,.keep,.keep]),(100003,[.keep,.keep,.keep,.keep,.keep,.keep,.keep,.keep,.own false 41 t2,.own false 116 t3,.keep,.keep,.keep,.keep,.own false 92 t6,.keep,.keep,.keep,.keep,.own false 45 t11,.own false 56 t12])]
def live_l1:List (Nat×List Coe):=[(1,[.keep]),(2,[.keep]),(3,[.keep]),(6,[.keep]),(100001,[.keep,.keep,.keep,.keep,.keep,.keep,.keep,.keep,.ro true 41 t2,.ro true 116 t3,.keep,.keep,.keep,.keep,.ro true 92 t6,.keep,.keep,.keep,.keep,.ro true 45 t11,.ro true 56 t12]),(100002,[.keep,.keep,.keep,.keep,.keep,.keep,.keep,.keep,.keep,.keep,.keep,.keep,.keep,.keep,.keep,.keep,.keep,.keep,.keep,.keep,.keep]),(100003,[.keep,.keep,.keep,.keep,.keep,.keep,.keep,.keep,.own false 41 t2,.own false 116 t3,.keep,.keep,.keep,.keep,.own false 92 t6,.keep,.keep,.keep,.keep,.own false 45 t11,.ro true 56 t12])]
def live_l0:List (Nat×List Coe):=[(1,[.keep]),(2,[.keep]),(3,[.keep]),(4,[.keep]),(100001,[.keep,.keep,.keep,.keep,.keep,.keep,.keep,.keep,.ro true 41 t2,.ro true 116 t3,.keep,.keep,.keep,.keep,.ro true 92 t6,.keep,.keep,.keep,.keep,.ro true 45 t11,.ro true 56 t12]),(100002,[.keep,.keep,.keep,.keep,.keep,.keep,.keep,.keep,.keep,.keep,.keep,.keep,.keep,.keep,.keep,.keep,.keep,.keep,.keep,.keep,.keep]),(100003,[.keep,.keep,.keep,.keep,.keep,.keep,.keep,.keep,.own false 41 t2,.own false 116 t3,.keep,.keep,.keep,.keep,.own false 92 t6,.keep,.keep,.keep,.keep,.ro true 45 t11,.ro true 56 t12])]
def L:List (Nat×List (Nat×List Coe)):=[(21,live_l2),(14,live_l1),(7,live_l0)]
def body:Code:=cV Tryz.f132
abbrev ev (K:Nat):Code->St->(Ex->St->Option Res)->Option Res:=evK (G K) T_ND L K
abbrev fin:Ex->St->Option Res:=dx T_ND ps rs true Tryz.f132.results.toList
def S_l0 (x:ab ps)(a:A_l0):St:=ay [(1,⟨0,.one,[.bp 100001 0]⟩),(2,⟨0,.one,[.bp 100002 0]⟩),(3,⟨0,.one,[.bp 100003 0]⟩),(4,⟨0,.one,[.int .i64 a.1]⟩),(100001,⟨0,.agg,[.int .i64 x.1.1,.bool x.1.2.1,.bool x.1.2.2.1,.bool x.1.2.2.2.1,.int .i64 x.1.2.2.2.2.1,.int .i64 x.1.2.2.2.2.2.1,.int .i64 x.1.2.2.2.2.2.2.1,.int .i64 x.1.2.2.2.2.2.2.2.1,.ro true 41 t2 x.1.2.2.2.2.2.2.2.2.1,.ro true 116 t3 x.1.2.2.2.2.2.2.2.2.2.1,.int .i64 x.1.2.2.2.2.2.2.2.2.2.2.1.1,.int .i64 x.1.2.2.2.2.2.2.2.2.2.2.1.2.1,.int .i64 x.1.2.2.2.2.2.2.2.2.2.2.1.2.2.1,.bool x.1.2.2.2.2.2.2.2.2.2.2.1.2.2.2,.ro true 92 t6 x.1.2.2.2.2.2.2.2.2.2.2.2.1,.int .i64 x.1.2.2.2.2.2.2.2.2.2.2.2.2.1.1,.int .i64 x.1.2.2.2.2.2.2.2.2.2.2.2.2.1.2.1,.int .i64 x.1.2.2.2.2.2.2.2.2.2.2.2.2.1.2.2.1,.int .i64 x.1.2.2.2.2.2.2.2.2.2.2.2.2.1.2.2.2,.ro true 45 t11 x.1.2.2.2.2.2.2.2.2.2.2.2.2.2.1,.ro true 56 t12 x.1.2.2.2.2.2.2.2.2.2.2.2.2.2.2]⟩),(100002,⟨0,.agg,[.int .i64 0,.bool false,.bool false,.bool false,.int .i64 0,.int .i64 0,.int .i64 0,.int .i64 0,.nil,.nil,.int .i64 0,.int .i64 0,.int .i64 0,.bool false,.nil,.int .i64 0,.int .i64 0,.int .i64 0,.int .i64 0,.nil,.nil]⟩),(100003,⟨0,.agg,[.int .i64 x.1.1,.bool x.1.2.1,.bool x.1.2.2.1,.bool x.1.2.2.2.1,.int .i64 x.1.2.2.2.2.1,.int .i64 x.1.2.2.2.2.2.1,.int .i64 x.1.2.2.2.2.2.2.1,.int .i64 x.1.2.2.2.2.2.2.2.1,.own false none 41 t2 ([]++x.1.2.2.2.2.2.2.2.2.1),.own false none 116 t3 ([]++x.1.2.2.2.2.2.2.2.2.2.1),.int .i64 x.1.2.2.2.2.2.2.2.2.2.2.1.1,.int .i64 x.1.2.2.2.2.2.2.2.2.2.2.1.2.1,.int .i64 x.1.2.2.2.2.2.2.2.2.2.2.1.2.2.1,.bool x.1.2.2.2.2.2.2.2.2.2.2.1.2.2.2,.own false none 92 t6 a.2,.int .i64 x.1.2.2.2.2.2.2.2.2.2.2.2.2.1.1,.int .i64 x.1.2.2.2.2.2.2.2.2.2.2.2.2.1.2.1,.int .i64 x.1.2.2.2.2.2.2.2.2.2.2.2.2.1.2.2.1,.int .i64 x.1.2.2.2.2.2.2.2.2.2.2.2.2.1.2.2.2,.ro true 45 t11 x.1.2.2.2.2.2.2.2.2.2.2.2.2.2.1,.ro true 56 t12 x.1.2.2.2.2.2.2.2.2.2.2.2.2.2.2]⟩)]
def S_l1 (x:ab ps)(a:A_l1):St:=ay [(1,⟨0,.one,[.bp 100001 0]⟩),(2,⟨0,.one,[.bp 100002 0]⟩),(3,⟨0,.one,[.bp 100003 0]⟩),(6,⟨0,.one,[.int .i64 a.1]⟩),(100001,⟨0,.agg,[.int .i64 x.1.1,.bool x.1.2.1,.bool x.1.2.2.1,.bool x.1.2.2.2.1,.int .i64 x.1.2.2.2.2.1,.int .i64 x.1.2.2.2.2.2.1,.int .i64 x.1.2.2.2.2.2.2.1,.int .i64 x.1.2.2.2.2.2.2.2.1,.ro true 41 t2 x.1.2.2.2.2.2.2.2.2.1,.ro true 116 t3 x.1.2.2.2.2.2.2.2.2.2.1,.int .i64 x.1.2.2.2.2.2.2.2.2.2.2.1.1,.int .i64 x.1.2.2.2.2.2.2.2.2.2.2.1.2.1,.int .i64 x.1.2.2.2.2.2.2.2.2.2.2.1.2.2.1,.bool x.1.2.2.2.2.2.2.2.2.2.2.1.2.2.2,.ro true 92 t6 x.1.2.2.2.2.2.2.2.2.2.2.2.1,.int .i64 x.1.2.2.2.2.2.2.2.2.2.2.2.2.1.1,.int .i64 x.1.2.2.2.2.2.2.2.2.2.2.2.2.1.2.1,.int .i64 x.1.2.2.2.2.2.2.2.2.2.2.2.2.1.2.2.1,.int .i64 x.1.2.2.2.2.2.2.2.2.2.2.2.2.1.2.2.2,.ro true 45 t11 x.1.2.2.2.2.2.2.2.2.2.2.2.2.2.1,.ro true 56 t12 x.1.2.2.2.2.2.2.2.2.2.2.2.2.2.2]⟩),(100002,⟨0,.agg,[.int .i64 0,.bool false,.bool false,.bool false,.int .i64 0,.int .i64 0,.int .i64 0,.int .i64 0,.nil,.nil,.int .i64 0,.int .i64 0,.int .i64 0,.bool false,.nil,.int .i64 0,.int .i64 0,.int .i64 0,.int .i64 0,.nil,.nil]⟩),(100003,⟨0,.agg,[.int .i64 x.1.1,.bool x.1.2.1,.bool x.1.2.2.1,.bool x.1.2.2.2.1,.int .i64 x.1.2.2.2.2.1,.int .i64 x.1.2.2.2.2.2.1,.int .i64 x.1.2.2.2.2.2.2.1,.int .i64 x.1.2.2.2.2.2.2.2.1,.own false none 41 t2 ([]++x.1.2.2.2.2.2.2.2.2.1),.own false none 116 t3 ([]++x.1.2.2.2.2.2.2.2.2.2.1),.int .i64 x.1.2.2.2.2.2.2.2.2.2.2.1.1,.int .i64 x.1.2.2.2.2.2.2.2.2.2.2.1.2.1,.int .i64 x.1.2.2.2.2.2.2.2.2.2.2.1.2.2.1,.bool x.1.2.2.2.2.2.2.2.2.2.2.1.2.2.2,.own false none 92 t6 a.2.1,.int .i64 x.1.2.2.2.2.2.2.2.2.2.2.2.2.1.1,.int .i64 x.1.2.2.2.2.2.2.2.2.2.2.2.2.1.2.1,.int .i64 x.1.2.2.2.2.2.2.2.2.2.2.2.2.1.2.2.1,.int .i64 x.1.2.2.2.2.2.2.2.2.2.2.2.2.1.2.2.2,.own false none 45 t11 a.2.2,.ro true 56 t12 x.1.2.2.2.2.2.2.2.2.2.2.2.2.2.2]⟩)]
def S_l2 (x:ab ps)(a:A_l2):St:=ay [(1,⟨0,.one,[.bp 100001 0]⟩),(2,⟨0,.one,[.bp 100002 0]⟩),(3,⟨0,.one,[.bp 100003 0]⟩),(8,⟨0,.one,[.int .i64 a.1]⟩),(100001,⟨0,.agg,[.int .i64 x.1.1,.bool x.1.2.1,.bool x.1.2.2.1,.bool x.1.2.2.2.1,.int .i64 x.1.2.2.2.2.1,.int .i64 x.1.2.2.2.2.2.1,.int .i64 x.1.2.2.2.2.2.2.1,.int .i64 x.1.2.2.2.2.2.2.2.1,.ro true 41 t2 x.1.2.2.2.2.2.2.2.2.1,.ro true 116 t3 x.1.2.2.2.2.2.2.2.2.2.1,.int .i64 x.1.2.2.2.2.2.2.2.2.2.2.1.1,.int .i64 x.1.2.2.2.2.2.2.2.2.2.2.1.2.1,.int .i64 x.1.2.2.2.2.2.2.2.2.2.2.1.2.2.1,.bool x.1.2.2.2.2.2.2.2.2.2.2.1.2.2.2,.ro true 92 t6 x.1.2.2.2.2.2.2.2.2.2.2.2.1,.int .i64 x.1.2.2.2.2.2.2.2.2.2.2.2.2.1.1,.int .i64 x.1.2.2.2.2.2.2.2.2.2.2.2.2.1.2.1,.int .i64 x.1.2.2.2.2.2.2.2.2.2.2.2.2.1.2.2.1,.int .i64 x.1.2.2.2.2.2.2.2.2.2.2.2.2.1.2.2.2,.ro true 45 t11 x.1.2.2.2.2.2.2.2.2.2.2.2.2.2.1,.ro true 56 t12 x.1.2.2.2.2.2.2.2.2.2.2.2.2.2.2]⟩),(100002,⟨0,.agg,[.int .i64 0,.bool false,.bool false,.bool false,.int .i64 0,.int .i64 0,.int .i64 0,.int .i64 0,.nil,.nil,.int .i64 0,.int .i64 0,.int .i64 0,.bool false,.nil,.int .i64 0,.int .i64 0,.int .i64 0,.int .i64 0,.nil,.nil]⟩),(100003,⟨0,.agg,[.int .i64 x.1.1,.bool x.1.2.1,.bool x.1.2.2.1,.bool x.1.2.2.2.1,.int .i64 x.1.2.2.2.2.1,.int .i64 x.1.2.2.2.2.2.1,.int .i64 x.1.2.2.2.2.2.2.1,.int .i64 x.1.2.2.2.2.2.2.2.1,.own false none 41 t2 ([]++x.1.2.2.2.2.2.2.2.2.1),.own false none 116 t3 ([]++x.1.2.2.2.2.2.2.2.2.2.1),.int .i64 x.1.2.2.2.2.2.2.2.2.2.2.1.1,.int .i64 x.1.2.2.2.2.2.2.2.2.2.2.1.2.1,.int .i64 x.1.2.2.2.2.2.2.2.2.2.2.1.2.2.1,.bool x.1.2.2.2.2.2.2.2.2.2.2.1.2.2.2,.own false none 92 t6 a.2.1,.int .i64 x.1.2.2.2.2.2.2.2.2.2.2.2.2.1.1,.int .i64 x.1.2.2.2.2.2.2.2.2.2.2.2.2.1.2.1,.int .i64 x.1.2.2.2.2.2.2.2.2.2.2.2.2.1.2.2.1,.int .i64 x.1.2.2.2.2.2.2.2.2.2.2.2.2.1.2.2.2,.own false none 45 t11 a.2.2.1,.own false none 56 t12 a.2.2.2]⟩)]
def k_l0 (K:Nat)(x:ab ps):Ex->St->Option Res:=kAt (ev K) body [1,1,1,1,1,0,1,0] fin
def N_l0 (K:Nat)(x:ab ps):A_l0->Option Res:=λa=>be live_l0 (ev K (sub body [1,1,1,1,1,0,1,0,0])) K (S_l0 x a) (k_l0 K x)
def k_l1 (K:Nat)(x:ab ps):Ex->St->Option Res:=kAt (ev K) body [1,1,1,1,1,1,1,0,1,0] fin
def N_l1 (K:Nat)(x:ab ps):A_l1->Option Res:=λa=>be live_l1 (ev K (sub body [1,1,1,1,1,1,1,0,1,0,0])) K (S_l1 x a) (k_l1 K x)
def k_l2 (K:Nat)(x:ab ps):Ex->St->Option Res:=kAt (ev K) body [1,1,1,1,1,1,1,1,1,0,1,0] fin
def N_l2 (K:Nat)(x:ab ps):A_l2->Option Res:=λa=>be live_l2 (ev K (sub body [1,1,1,1,1,1,1,1,1,0,1,0,0])) K (S_l2 x a) (k_l2 K x)
end Q54
namespace Q55
abbrev ps:List PK:=[.rd t65]
abbrev rs:List RK:=[.v t68]
abbrev Res:=am rs×ak ps
abbrev A_l0:=Int×List (Ty.den t38)
def l0.step (K:Nat)(x:ab ps)(rec_l0:A_l0->Option Res)(a:A_l0):Option Res:=bif decide (a.1<(AA x.1.1:Int)) then ((idx x.1.1 a.1).bind λy1=>(Q54.f K (y1,())).bind λy2=>bif decide ((AA a.2+AA ([y2.1.1]))*232<=aj) then (rec_l0 (wr .i64 (a.1+1),a.2++([y2.1.1]))) else none) else (some (((a.2,([]++x.1.2.1,([]++x.1.2.2.1,[]++x.1.2.2.2))),()),()))
def l0 (K:Nat)(x:ab ps):A_l0->Option Res:=ae (λrec_l0 a=>l0.step K x rec_l0 a) K
def pre (K:Nat)(N_l0:A_l0->Option Res)(x:ab ps):Option Res:=bif decide ((AA ([]:List (Ty.den t40))+AA x.1.2.1)*32<=aj) then (bif decide ((AA ([]:List (Ty.den (.int .i64)))+AA x.1.2.2.1)*8<=aj) then (bif decide ((AA ([]:List (Ty.den t2))+AA x.1.2.2.2)*32<=aj) then (N_l0 (0,[])) else none) else none) else none
def f (K:Nat)(x:ab ps):Option Res:=pre K (l0 K x) x
def c (K:Nat):Ctr:=⟨94,ps,rs,true,f K⟩
end Q55
namespace Q56
abbrev ps:List PK:=[.rd (.int .i64),.rd (.int .i64),.rd (.int .i64)]
abbrev rs:List RK:=[.v .bool]
abbrev Res:=am rs×ak ps
def f (K:Nat)(x:ab ps):Option Res:=bif decide (x.1>=x.2.1) then (some ((decide (x.1<=x.2.2.1),()),())) else (some ((false,()),()))
def c (K:Nat):Ctr:=⟨59,ps,rs,true,f K⟩
end Q56
namespace Q57
abbrev ps:List PK:=[]
abbrev rs:List RK:=[.v t9]
abbrev Res:=am rs×ak ps
def f (K:Nat)(x:ab ps):Option Res:=some (((0,(0,(0,1500))),()),())
def c (K:Nat):Ctr:=⟨79,ps,rs,true,f K⟩
end Q57
namespace Q58
abbrev ps:List PK:=[.rd (.int .i64),.rd .bool]
abbrev rs:List RK:=[.v t26]
abbrev Res:=am rs×ak ps
def f (K:Nat)(x:ab ps):Option Res:=(Q56.f K (x.1,0,7,())).bind λy1=>bif !y1.1.1 then (some (((0,(false,(false,(false,(0,(0,(0,(0,([],([],((0,(0,(0,false))),([],((0,(0,(0,0))),([],[])))))))))))))),()),())) else ((Q57.f K ()).bind λy2=>some (((x.1,(true,(false,(x.2.1,(0,(0,(0,(0,([(x.1,(0,(1,x.2.1)))],([],(((-1),(0,(0,false))),([],(y2.1.1,([],[])))))))))))))),()),()))
def c (K:Nat):Ctr:=⟨26,ps,rs,true,f K⟩
end Q58
namespace Q59
abbrev ps:List PK:=[.rd (.int .i64)]
abbrev rs:List RK:=[.v .bool]
abbrev Res:=am rs×ak ps
def f (K:Nat)(x:ab ps):Option Res:=some ((decide ((AE x.1 4)<3),()),())
def c (K:Nat):Ctr:=⟨91,ps,rs,true,f K⟩
end Q59
namespace Q60
abbrev ps:List PK:=[]
abbrev rs:List RK:=[.v t65]
abbrev Res:=am rs×ak ps
abbrev A_l0:=Int×List (Ty.den t26)×List (Ty.den (.int .i64))×List (Ty.den t2)
def l0.step (K:Nat)(x:ab ps)(rec_l0:A_l0->Option Res)(a:A_l0):Option Res:=bif decide (a.1<=7) then ((Q59.f K (a.1,())).bind λy1=>(Q58.f K (a.1,y1.1.1,())).bind λy2=>bif decide ((AA a.2.1+AA ([y2.1.1]))*232<=aj) then (bif decide ((AA a.2.2.1+AA ([0]))*8<=aj) then ((idx y2.1.1.2.2.2.2.2.2.2.2.1 0).bind λy3=>bif decide ((AA a.2.2.2+AA ([y3]))*32<=aj) then (rec_l0 (wr .i64 (a.1+1),a.2.1++([y2.1.1]),a.2.2.1++([0]),a.2.2.2++([y3]))) else none) else none) else none) else (some (((a.2.1,([],a.2.2)),()),()))
def l0 (K:Nat)(x:ab ps):A_l0->Option Res:=ae (λrec_l0 a=>l0.step K x rec_l0 a) K
def pre (K:Nat)(N_l0:A_l0->Option Res)(x:ab ps):Option Res:=N_l0 (0,[],[],[])
def f (K:Nat)(x:ab ps):Option Res:=pre K (l0 K x) x
def c (K:Nat):Ctr:=⟨178,ps,rs,true,f K⟩
end Q60
namespace Q61
abbrev ps:List PK:=[.rd t2]
abbrev rs:List RK:=[.v .bool]
abbrev Res:=am rs×ak ps
def f (K:Nat)(x:ab ps):Option Res:=(Q56.f K (x.1.1,0,7,())).bind λy1=>bif y1.1.1 then ((Q56.f K (x.1.2.1,0,999,())).bind λy2=>bif y2.1.1 then ((Q56.f K (x.1.2.2.1,1,4,())).bind λy3=>some ((y3.1.1,()),())) else (some ((false,()),()))) else (some ((false,()),()))
def c (K:Nat):Ctr:=⟨92,ps,rs,true,f K⟩
end Q61
namespace Q62
abbrev ps:List PK:=[.rd (.list false 41 t2)]
abbrev rs:List RK:=[.v .bool]
abbrev Res:=am rs×ak ps
abbrev A_l0:=Int
def l0.step (K:Nat)(x:ab ps)(rec_l0:A_l0->Option Res)(a:A_l0):Option Res:=bif decide (a<(AA x.1:Int)) then ((idx x.1 a).bind λy1=>(Q61.f K (y1,())).bind λy2=>bif !y2.1.1 then (some ((false,()),())) else (bif decide (a>0) then ((idx x.1 (wr .i64 (a-1))).bind λy3=>(idx x.1 a).bind λy4=>bif decide (y3.1>=y4.1) then (some ((false,()),())) else (rec_l0 (wr .i64 (a+1)))) else (rec_l0 (wr .i64 (a+1))))) else (some ((true,()),()))
def l0 (K:Nat)(x:ab ps):A_l0->Option Res:=ae (λrec_l0 a=>l0.step K x rec_l0 a) K
def pre (K:Nat)(N_l0:A_l0->Option Res)(x:ab ps):Option Res:=N_l0 0
def f (K:Nat)(x:ab ps):Option Res:=pre K (l0 K x) x
def c (K:Nat):Ctr:=⟨60,ps,rs,true,f K⟩
end Q62
namespace Q63
abbrev ps:List PK:=[.rd (.list false 41 t2),.rd (.int .i64)]
abbrev rs:List RK:=[.v .bool]
abbrev Res:=am rs×ak ps
abbrev A_l0:=Int
def l0.step (K:Nat)(x:ab ps)(rec_l0:A_l0->Option Res)(a:A_l0):Option Res:=bif decide (a<(AA x.1:Int)) then ((idx x.1 a).bind λy1=>bif (wr .i64 (AD y1.1 4)) != x.2.1 then (some ((false,()),())) else (rec_l0 (wr .i64 (a+1)))) else (some ((true,()),()))
def l0 (K:Nat)(x:ab ps):A_l0->Option Res:=ae (λrec_l0 a=>l0.step K x rec_l0 a) K
def pre (K:Nat)(N_l0:A_l0->Option Res)(x:ab ps):Option Res:=N_l0 0
def f (K:Nat)(x:ab ps):Option Res:=pre K (l0 K x) x
def c (K:Nat):Ctr:=⟨61,ps,rs,true,f K⟩
end Q63
namespace Q64
abbrev ps:List PK:=[.rd t9]
abbrev rs:List RK:=[.v .bool]
abbrev Res:=am rs×ak ps
def f (K:Nat)(x:ab ps):Option Res:=(Q56.f K (x.1.1,(-100000),100000,())).bind λy1=>bif y1.1.1 then ((Q56.f K (x.1.2.1,(-100000),100000,())).bind λy2=>bif y2.1.1 then ((Q56.f K (x.1.2.2.1,0,100000,())).bind λy3=>bif y3.1.1 then ((Q56.f K (x.1.2.2.2,1,1500,())).bind λy4=>some ((y4.1.1,()),())) else (some ((false,()),()))) else (some ((false,()),()))) else (some ((false,()),()))
def c (K:Nat):Ctr:=⟨66,ps,rs,true,f K⟩
end Q64
namespace Q65
abbrev ps:List PK:=[.rd t47]
abbrev rs:List RK:=[.v .bool]
abbrev Res:=am rs×ak ps
def f (K:Nat)(x:ab ps):Option Res:=(Q56.f K (x.1.1,1,2,())).bind λy1=>bif !y1.1.1 then (some ((false,()),())) else ((Q56.f K (x.1.2.1,1,6,())).bind λy2=>bif !y2.1.1 then (some ((false,()),())) else ((Q56.f K (x.1.2.2.1,0,7,())).bind λy3=>bif !y3.1.1 then (some ((false,()),())) else ((Q56.f K (x.1.2.2.2.1,0,7,())).bind λy4=>bif !y4.1.1 then (some ((false,()),())) else ((Q56.f K (x.1.2.2.2.2.1,0,999999,())).bind λy5=>bif !y5.1.1 then (some ((false,()),())) else ((Q56.f K (x.1.2.2.2.2.2.1,0,7,())).bind λy6=>bif !y6.1.1 then (some ((false,()),())) else ((Q64.f K (x.1.2.2.2.2.2.2.1,())).bind λy7=>bif !y7.1.1 then (some ((false,()),())) else ((Q62.f K (x.1.2.2.2.2.2.2.2,())).bind λy8=>bif !y8.1.1 then (some ((false,()),())) else (bif x.1.2.1==6 then (bif decide ((AA x.1.2.2.2.2.2.2.2:Int)>0) then ((idx x.1.2.2.2.2.2.2.2 0).bind λy9=>(Q63.f K (x.1.2.2.2.2.2.2.2,wr .i64 (AD y9.1 4),())).bind λy10=>some ((y10.1.1,()),())) else (some ((false,()),()))) else ((Q63.f K (x.1.2.2.2.2.2.2.2,wr .i64 (AD x.1.2.2.1 4),())).bind λy11=>some ((y11.1.1,()),()))))))))))
def c (K:Nat):Ctr:=⟨186,ps,rs,true,f K⟩
end Q65
namespace Q66
abbrev ps:List PK:=[.rd (.int .i64)]
abbrev rs:List RK:=[.v .str]
abbrev Res:=am rs×ak ps
def f (K:Nat)(x:ab ps):Option Res:=(idx ([(ByteArray.mk #[]),(ByteArray.mk #[112,105,110,103]),(ByteArray.mk #[97,99,107]),(ByteArray.mk #[97,115,107]),(ByteArray.mk #[115,121,110,99]),(ByteArray.mk #[98,97,99,107]),(ByteArray.mk #[115,117,109])]) x.1).bind λ_=>(idx ([(ByteArray.mk #[]),(ByteArray.mk #[112,105,110,103]),(ByteArray.mk #[97,99,107]),(ByteArray.mk #[97,115,107]),(ByteArray.mk #[115,121,110,99]),(ByteArray.mk #[98,97,99,107]),(ByteArray.mk #[115,117,109])]) (AB x.1:Nat)).bind λy2=>some ((y2,()),())
def c (K:Nat):Ctr:=⟨206,ps,rs,true,f K⟩
end Q66
namespace Q67
abbrev ps:List PK:=[.rd (.int .i64)]
abbrev rs:List RK:=[.v .str]
abbrev Res:=am rs×ak ps
def f (K:Nat)(x:ab ps):Option Res:=bif decide (x.1<0) then ((Q1.f K (wr .i64 (0-x.1),())).bind λy1=>aU (ByteArray.mk #[45]) y1.1.1 λy2=>some ((y2,()),())) else ((Q1.f K (x.1,())).bind λy3=>aU (ByteArray.mk #[43]) y3.1.1 λy4=>some ((y4,()),()))
def c (K:Nat):Ctr:=⟨215,ps,rs,true,f K⟩
end Q67
namespace Q68
abbrev ps:List PK:=[.rd (.int .i64)]
abbrev rs:List RK:=[.v .str]
abbrev Res:=am rs×ak ps
def f (K:Nat)(x:ab ps):Option Res:=(idx ([(ByteArray.mk #[]),(ByteArray.mk #[97,108,105,118,101]),(ByteArray.mk #[115,117,115,112,101,99,116]),(ByteArray.mk #[100,101,97,100]),(ByteArray.mk #[108,101,102,116])]) x.1).bind λ_=>(idx ([(ByteArray.mk #[]),(ByteArray.mk #[97,108,105,118,101]),(ByteArray.mk #[115,117,115,112,101,99,116]),(ByteArray.mk #[100,101,97,100]),(ByteArray.mk #[108,101,102,116])]) (AB x.1:Nat)).bind λy2=>some ((y2,()),())
def c (K:Nat):Ctr:=⟨249,ps,rs,true,f K⟩
end Q68
namespace Q69
abbrev ps:List PK:=[.rd (.list false 41 t2)]
abbrev rs:List RK:=[.v .str]
abbrev Res:=am rs×ak ps
abbrev A_l0:=ByteArray×Int
def l0.step (K:Nat)(x:ab ps)(rec_l0:A_l0->Option Res)(a:A_l0):Option Res:=bif decide (a.2<(AA x.1:Int)) then (bif decide (a.2>0) then (aU a.1 (ByteArray.mk #[44]) λy1=>(idx x.1 a.2).bind λy2=>(Q1.f K (y2.1,())).bind λy3=>aU y1 y3.1.1 λy4=>aU y4 (ByteArray.mk #[58]) λy5=>(idx x.1 a.2).bind λy6=>(Q1.f K (y6.2.1,())).bind λy7=>aU y5 y7.1.1 λy8=>aU y8 (ByteArray.mk #[58]) λy9=>(idx x.1 a.2).bind λy10=>(Q68.f K (y10.2.2.1,())).bind λy11=>aU y9 y11.1.1 λy12=>(idx x.1 a.2).bind λy13=>bif y13.2.2.2 then (aU y12 (ByteArray.mk #[42]) λy14=>rec_l0 (y14,wr .i64 (a.2+1))) else (rec_l0 (y12,wr .i64 (a.2+1)))) else ((idx x.1 a.2).bind λy15=>(Q1.f K (y15.1,())).bind λy16=>aU a.1 y16.1.1 λy17=>aU y17 (ByteArray.mk #[58]) λy18=>(idx x.1 a.2).bind λy19=>(Q1.f K (y19.2.1,())).bind λy20=>aU y18 y20.1.1 λy21=>aU y21 (ByteArray.mk #[58]) λy22=>(idx x.1 a.2).bind λy23=>(Q68.f K (y23.2.2.1,())).bind λy24=>aU y22 y24.1.1 λy25=>(idx x.1 a.2).bind λy26=>bif y26.2.2.2 then (aU y25 (ByteArray.mk #[42]) λy27=>rec_l0 (y27,wr .i64 (a.2+1))) else (rec_l0 (y25,wr .i64 (a.2+1))))) else (some ((a.1,()),()))
def l0 (K:Nat)(x:ab ps):A_l0->Option Res:=ae (λrec_l0 a=>l0.step K x rec_l0 a) K
def pre (K:Nat)(N_l0:A_l0->Option Res)(x:ab ps):Option Res:=N_l0 ((ByteArray.mk #[]),0)
def f (K:Nat)(x:ab ps):Option Res:=pre K (l0 K x) x
def c (K:Nat):Ctr:=⟨238,ps,rs,true,f K⟩
end Q69
namespace Q70
abbrev ps:List PK:=[.rd (.list false 41 t2)]
abbrev rs:List RK:=[.v .str]
abbrev Res:=am rs×ak ps
def f (K:Nat)(x:ab ps):Option Res:=(Q62.f K (x.1,())).bind λy1=>bif !y1.1.1 then (some (((ByteArray.mk #[]),()),())) else (bif (AA x.1:Int)==0 then (some (((ByteArray.mk #[45]),()),())) else ((Q69.f K (x.1,())).bind λy2=>some ((y2.1.1,()),())))
def c (K:Nat):Ctr:=⟨216,ps,rs,true,f K⟩
end Q70
namespace Q71
abbrev ps:List PK:=[.rd t47]
abbrev rs:List RK:=[.v .str]
abbrev Res:=am rs×ak ps
def f (K:Nat)(x:ab ps):Option Res:=bif x.1.1==2 then (aU (ByteArray.mk #[119,97,110]) (ByteArray.mk #[32]) λy1=>(Q66.f K (x.1.2.1,())).bind λy2=>aU y1 y2.1.1 λy3=>aU y3 (ByteArray.mk #[32]) λy4=>(Q1.f K (x.1.2.2.1,())).bind λy5=>aU y4 y5.1.1 λy6=>aU y6 (ByteArray.mk #[32]) λy7=>(Q1.f K (x.1.2.2.2.1,())).bind λy8=>aU y7 y8.1.1 λy9=>aU y9 (ByteArray.mk #[32]) λy10=>(Q1.f K (x.1.2.2.2.2.1,())).bind λy11=>aU y10 y11.1.1 λy12=>aU y12 (ByteArray.mk #[32]) λy13=>(Q1.f K (x.1.2.2.2.2.2.1,())).bind λy14=>aU y13 y14.1.1 λy15=>aU y15 (ByteArray.mk #[32]) λy16=>(Q67.f K (x.1.2.2.2.2.2.2.1.1,())).bind λy17=>aU y16 y17.1.1 λy18=>aU y18 (ByteArray.mk #[32]) λy19=>(Q67.f K (x.1.2.2.2.2.2.2.1.2.1,())).bind λy20=>aU y19 y20.1.1 λy21=>aU y21 (ByteArray.mk #[32]) λy22=>(Q1.f K (x.1.2.2.2.2.2.2.1.2.2.1,())).bind λy23=>aU y22 y23.1.1 λy24=>aU y24 (ByteArray.mk #[32]) λy25=>(Q1.f K (x.1.2.2.2.2.2.2.1.2.2.2,())).bind λy26=>aU y25 y26.1.1 λy27=>aU y27 (ByteArray.mk #[32]) λy28=>(Q70.f K (x.1.2.2.2.2.2.2.2,())).bind λy29=>aU y28 y29.1.1 λy30=>some ((y30,()),())) else (aU (ByteArray.mk #[108,97,110]) (ByteArray.mk #[32]) λy31=>(Q66.f K (x.1.2.1,())).bind λy32=>aU y31 y32.1.1 λy33=>aU y33 (ByteArray.mk #[32]) λy34=>(Q1.f K (x.1.2.2.1,())).bind λy35=>aU y34 y35.1.1 λy36=>aU y36 (ByteArray.mk #[32]) λy37=>(Q1.f K (x.1.2.2.2.1,())).bind λy38=>aU y37 y38.1.1 λy39=>aU y39 (ByteArray.mk #[32]) λy40=>(Q1.f K (x.1.2.2.2.2.1,())).bind λy41=>aU y40 y41.1.1 λy42=>aU y42 (ByteArray.mk #[32]) λy43=>(Q1.f K (x.1.2.2.2.2.2.1,())).bind λy44=>aU y43 y44.1.1 λy45=>aU y45 (ByteArray.mk #[32]) λy46=>(Q67.f K (x.1.2.2.2.2.2.2.1.1,())).bind λy47=>aU y46 y47.1.1 λy48=>aU y48 (ByteArray.mk #[32]) λy49=>(Q67.f K (x.1.2.2.2.2.2.2.1.2.1,())).bind λy50=>aU y49 y50.1.1 λy51=>aU y51 (ByteArray.mk #[32]) λy52=>(Q1.f K (x.1.2.2.2.2.2.2.1.2.2.1,())).bind λy53=>aU y52 y53.1.1 λy54=>aU y54 (ByteArray.mk #[32]) λy55=>(Q1.f K (x.1.2.2.2.2.2.2.1.2.2.2,())).bind λy56=>aU y55 y56.1.1 λy57=>aU y57 (ByteArray.mk #[32]) λy58=>(Q70.f K (x.1.2.2.2.2.2.2.2,())).bind λy59=>aU y58 y59.1.1 λy60=>some ((y60,()),()))
def c (K:Nat):Ctr:=⟨187,ps,rs,true,f K⟩
end Q71
namespace Q72
abbrev ps:List PK:=[.rd (.int .i64)]
abbrev rs:List RK:=[.v .str]
abbrev Res:=am rs×ak ps
abbrev A_l0:=List (Ty.den (.int .u8))×Int
def l0.step (K:Nat)(x:ab ps)(rec_l0:A_l0->Option Res)(a:A_l0):Option Res:=bif decide (a.2>=0) then (bif decide ((wr .i64 (4*a.2))<0) then none else ((idx (ByteArray.mk #[48,49,50,51,52,53,54,55,56,57,97,98,99,100,101,102]).data.toList (bg .i64 (AC x.1 (2 ^ (min (AB (wr .i64 (4*a.2))) 64))) 15)).bind λy1=>bif decide ((AA a.1+AA ([(y1.toNat:Int)]))*1<=aj) then (rec_l0 (a.1++([(y1.toNat:Int)]),wr .i64 (a.2-1))) else none)) else (some ((fK a.1,()),()))
def l0 (K:Nat)(x:ab ps):A_l0->Option Res:=ae (λrec_l0 a=>l0.step K x rec_l0 a) K
def pre (K:Nat)(N_l0:A_l0->Option Res)(x:ab ps):Option Res:=N_l0 ([],7)
def f (K:Nat)(x:ab ps):Option Res:=pre K (l0 K x) x
def c (K:Nat):Ctr:=⟨188,ps,rs,true,f K⟩
end Q72
namespace Q73
abbrev ps:List PK:=[.rd (.int .i64)]
abbrev rs:List RK:=[.v (.int .i64)]
abbrev Res:=am rs×ak ps
abbrev A_l0:=Int×Int
def l0.step (K:Nat)(x:ab ps)(rec_l0:A_l0->Option Res)(a:A_l0):Option Res:=bif decide (a.2<8) then (bif (bg .i64 a.1 1)==1 then (rec_l0 (oV .i64 (AC a.1 (2 ^ 1)) 3988292384,wr .i64 (a.2+1))) else (rec_l0 (AC a.1 (2 ^ 1),wr .i64 (a.2+1)))) else (some ((a.1,()),()))
def l0 (K:Nat)(x:ab ps):A_l0->Option Res:=ae (λrec_l0 a=>l0.step K x rec_l0 a) K
def pre (K:Nat)(N_l0:A_l0->Option Res)(x:ab ps):Option Res:=N_l0 (x.1,0)
def f (K:Nat)(x:ab ps):Option Res:=pre K (l0 K x) x
def c (K:Nat):Ctr:=⟨217,ps,rs,true,f K⟩
end Q73
namespace Q74
abbrev ps:List PK:=[.rd .str]
abbrev rs:List RK:=[.v (.int .i64)]
abbrev Res:=am rs×ak ps
abbrev A_l0:=Int×Int
def l0.step (K:Nat)(x:ab ps)(rec_l0:A_l0->Option Res)(a:A_l0):Option Res:=bif decide (a.2<(x.1.size:Int)) then ((idx x.1.data.toList a.2).bind λy1=>(Q73.f K (oV .i64 a.1 (wr .i64 (y1.toNat:Int)),())).bind λy2=>rec_l0 (y2.1.1,wr .i64 (a.2+1))) else (some ((oV .i64 a.1 4294967295,()),()))
def l0 (K:Nat)(x:ab ps):A_l0->Option Res:=ae (λrec_l0 a=>l0.step K x rec_l0 a) K
def pre (K:Nat)(N_l0:A_l0->Option Res)(x:ab ps):Option Res:=N_l0 (4294967295,0)
def f (K:Nat)(x:ab ps):Option Res:=pre K (l0 K x) x
def c (K:Nat):Ctr:=⟨189,ps,rs,true,f K⟩
end Q74
namespace Q75
abbrev ps:List PK:=[.rd t47]
abbrev rs:List RK:=[.v .str]
abbrev Res:=am rs×ak ps
def f (K:Nat)(x:ab ps):Option Res:=(Q65.f K (x.1,())).bind λy1=>bif !y1.1.1 then (some (((ByteArray.mk #[]),()),())) else ((Q71.f K (x.1,())).bind λy2=>aU y2.1.1 (ByteArray.mk #[32]) λy3=>(Q74.f K (y2.1.1,())).bind λy4=>(Q72.f K (y4.1.1,())).bind λy5=>aU y3 y5.1.1 λy6=>some ((y6,()),()))
def c (K:Nat):Ctr:=⟨161,ps,rs,true,f K⟩
end Q75
namespace Q76
abbrev ps:List PK:=[.rd t65,.rd (.int .i64),.rd (.list false 133 t47)]
abbrev rs:List RK:=[.v t65]
abbrev Res:=am rs×ak ps
abbrev A_l0:=Int×List (Ty.den t40)
def l0.step (K:Nat)(x:ab ps)(rec_l0:A_l0->Option Res)(a:A_l0):Option Res:=bif decide (a.1<(AA x.2.2.1:Int)) then (bif decide ((AA a.2:Int)<60) then ((idx x.1.2.2.1 x.2.1).bind λy1=>(idx x.2.2.1 a.1).bind λy2=>(idx x.1.2.2.1 y2.2.2.2.1).bind λy3=>bif y1==y3 then (bif decide ((AA ([]:List (Ty.den t40))+AA a.2)*32<=aj) then ((idx x.2.2.1 a.1).bind λy4=>(idx x.2.2.1 a.1).bind λy5=>(Q75.f K (y5,())).bind λy6=>bif decide ((AA ([]++a.2)+AA ([(y4.2.2.2.1,(y6.1.1,false))]))*32<=aj) then (rec_l0 (wr .i64 (a.1+1),([]++a.2)++([(y4.2.2.2.1,(y6.1.1,false))]))) else none) else none) else (rec_l0 (wr .i64 (a.1+1),a.2))) else (rec_l0 (wr .i64 (a.1+1),a.2))) else (some (((x.1.1,(a.2,x.1.2.2)),()),()))
def l0 (K:Nat)(x:ab ps):A_l0->Option Res:=ae (λrec_l0 a=>l0.step K x rec_l0 a) K
def pre (K:Nat)(N_l0:A_l0->Option Res)(x:ab ps):Option Res:=N_l0 (0,x.1.2.1)
def f (K:Nat)(x:ab ps):Option Res:=pre K (l0 K x) x
def c (K:Nat):Ctr:=⟨134,ps,rs,false,f K⟩
end Q76
namespace Q77
abbrev ps:List PK:=[.rd (.list false 41 t2),.rd t2]
abbrev rs:List RK:=[.v .bool]
abbrev Res:=am rs×ak ps
abbrev A_l0:=Int
def l0.step (K:Nat)(x:ab ps)(rec_l0:A_l0->Option Res)(a:A_l0):Option Res:=bif decide (a<(AA x.1:Int)) then ((idx x.1 a).bind λy1=>bif Ty.eqv t2 y1 x.2.1 then (some ((true,()),())) else (rec_l0 (wr .i64 (a+1)))) else (some ((false,()),()))
def l0 (K:Nat)(x:ab ps):A_l0->Option Res:=ae (λrec_l0 a=>l0.step K x rec_l0 a) K
def pre (K:Nat)(N_l0:A_l0->Option Res)(x:ab ps):Option Res:=N_l0 0
def f (K:Nat)(x:ab ps):Option Res:=pre K (l0 K x) x
def c (K:Nat):Ctr:=⟨129,ps,rs,true,f K⟩
end Q77
namespace Q78
abbrev ps:List PK:=[.rd t2,.rd t2]
abbrev rs:List RK:=[.v .bool]
abbrev Res:=am rs×ak ps
def f (K:Nat)(x:ab ps):Option Res:=bif x.1.2.1 != x.2.1.2.1 then (some ((decide (x.1.2.1>x.2.1.2.1),()),())) else (bif x.1.2.2.1 != x.2.1.2.2.1 then (some ((decide (x.1.2.2.1>x.2.1.2.2.1),()),())) else (bif x.1.2.2.2 then (some ((!x.2.1.2.2.2,()),())) else (some ((false,()),()))))
def c (K:Nat):Ctr:=⟨117,ps,rs,true,f K⟩
end Q78
namespace Q79
abbrev ps:List PK:=[.rd t2,.rd t2]
abbrev rs:List RK:=[.v .bool]
abbrev Res:=am rs×ak ps
def f (K:Nat)(x:ab ps):Option Res:=bif x.1.1 != x.2.1.1 then (some ((decide (x.1.1<x.2.1.1),()),())) else ((Q78.f K (x.2.1,x.1,())).bind λy1=>some ((y1.1.1,()),()))
def c (K:Nat):Ctr:=⟨93,ps,rs,true,f K⟩
end Q79
namespace Q80
abbrev ps:List PK:=[.rd (.list false 41 t2),.rd t2]
abbrev rs:List RK:=[.v (.list false 41 t2)]
abbrev Res:=am rs×ak ps
abbrev A_l0:=Int
def l0.step (K:Nat)(x:ab ps)(rec_l0:A_l0->Option Res)(a:A_l0):Option Res:=bif decide (a<(AA x.1:Int)) then ((idx x.1 a).bind λy1=>(Q79.f K (y1,x.2.1,())).bind λy2=>bif y2.1.1 then (rec_l0 (wr .i64 (a+1))) else (bif decide (a<(AA x.1:Int)) then ((idx x.1 a).bind λy3=>bif Ty.eqv t2 y3 x.2.1 then (some ((x.1,()),())) else (bif decide (0<=0)&&decide (0<=a)&&decide (a<=(AA x.1:Int))&&true then (bif decide ((AA ([]:List (Ty.den t2))+AA ((x.1.take (AB a)).drop (AB 0)))*32<=aj) then (bif decide ((AA ([]++((x.1.take (AB a)).drop (AB 0)))+AA ([x.2.1]))*32<=aj) then (bif decide (0<=a)&&decide (a<=(AA x.1:Int))&&decide ((AA x.1:Int)<=(AA x.1:Int))&&true then (bif decide ((AA (([]++((x.1.take (AB a)).drop (AB 0)))++([x.2.1]))+AA ((x.1.take (AB (AA x.1:Int))).drop (AB a)))*32<=aj) then (some (((([]++((x.1.take (AB a)).drop (AB 0)))++([x.2.1]))++((x.1.take (AB (AA x.1:Int))).drop (AB a)),()),())) else none) else none) else none) else none) else none)) else (bif decide (0<=0)&&decide (0<=a)&&decide (a<=(AA x.1:Int))&&true then (bif decide ((AA ([]:List (Ty.den t2))+AA ((x.1.take (AB a)).drop (AB 0)))*32<=aj) then (bif decide ((AA ([]++((x.1.take (AB a)).drop (AB 0)))+AA ([x.2.1]))*32<=aj) then (bif decide (0<=a)&&decide (a<=(AA x.1:Int))&&decide ((AA x.1:Int)<=(AA x.1:Int))&&true then (bif decide ((AA (([]++((x.1.take (AB a)).drop (AB 0)))++([x.2.1]))+AA ((x.1.take (AB (AA x.1:Int))).drop (AB a)))*32<=aj) then (some (((([]++((x.1.take (AB a)).drop (AB 0)))++([x.2.1]))++((x.1.take (AB (AA x.1:Int))).drop (AB a)),()),())) else none) else none) else none) else none) else none))) else (bif decide (a<(AA x.1:Int)) then ((idx x.1 a).bind λy4=>bif Ty.eqv t2 y4 x.2.1 then (some ((x.1,()),())) else (bif decide (0<=0)&&decide (0<=a)&&decide (a<=(AA x.1:Int))&&true then (bif decide ((AA ([]:List (Ty.den t2))+AA ((x.1.take (AB a)).drop (AB 0)))*32<=aj) then (bif decide ((AA ([]++((x.1.take (AB a)).drop (AB 0)))+AA ([x.2.1]))*32<=aj) then (bif decide (0<=a)&&decide (a<=(AA x.1:Int))&&decide ((AA x.1:Int)<=(AA x.1:Int))&&true then (bif decide ((AA (([]++((x.1.take (AB a)).drop (AB 0)))++([x.2.1]))+AA ((x.1.take (AB (AA x.1:Int))).drop (AB a)))*32<=aj) then (some (((([]++((x.1.take (AB a)).drop (AB 0)))++([x.2.1]))++((x.1.take (AB (AA x.1:Int))).drop (AB a)),()),())) else none) else none) else none) else none) else none)) else (bif decide (0<=0)&&decide (0<=a)&&decide (a<=(AA x.1:Int))&&true then (bif decide ((AA ([]:List (Ty.den t2))+AA ((x.1.take (AB a)).drop (AB 0)))*32<=aj) then (bif decide ((AA ([]++((x.1.take (AB a)).drop (AB 0)))+AA ([x.2.1]))*32<=aj) then (bif decide (0<=a)&&decide (a<=(AA x.1:Int))&&decide ((AA x.1:Int)<=(AA x.1:Int))&&true then (bif decide ((AA (([]++((x.1.take (AB a)).drop (AB 0)))++([x.2.1]))+AA ((x.1.take (AB (AA x.1:Int))).drop (AB a)))*32<=aj) then (some (((([]++((x.1.take (AB a)).drop (AB 0)))++([x.2.1]))++((x.1.take (AB (AA x.1:Int))).drop (AB a)),()),())) else none) else none) else none) else none) else none))
def l0 (K:Nat)(x:ab ps):A_l0->Option Res:=ae (λrec_l0 a=>l0.step K x rec_l0 a) K
def pre (K:Nat)(N_l0:A_l0->Option Res)(x:ab ps):Option Res:=N_l0 0
def f (K:Nat)(x:ab ps):Option Res:=pre K (l0 K x) x
def c (K:Nat):Ctr:=⟨226,ps,rs,false,f K⟩
end Q80
namespace Q81
abbrev ps:List PK:=[.rd t65,.rd (.list false 41 t2),.rd (.list false 41 t2),.rd (.list false 41 t2)]
abbrev rs:List RK:=[.v t65]
abbrev Res:=am rs×ak ps
abbrev A_l0:=Int×List (Ty.den t2)
def l0.step (K:Nat)(x:ab ps)(rec_l0:A_l0->Option Res)(a:A_l0):Option Res:=bif decide (a.1<(AA x.2.2.2.1:Int)) then ((idx x.2.2.2.1 a.1).bind λy1=>(Q77.f K (x.2.1,y1,())).bind λy2=>bif !y2.1.1 then ((idx x.2.2.2.1 a.1).bind λy3=>(Q77.f K (x.2.2.1,y3,())).bind λy4=>bif !y4.1.1 then ((idx x.2.2.2.1 a.1).bind λy5=>(Q80.f K (a.2,y5,())).bind λy6=>rec_l0 (wr .i64 (a.1+1),y6.1.1)) else (rec_l0 (wr .i64 (a.1+1),a.2))) else (rec_l0 (wr .i64 (a.1+1),a.2))) else (some (((x.1.1,(x.1.2.1,(x.1.2.2.1,a.2))),()),()))
def l0 (K:Nat)(x:ab ps):A_l0->Option Res:=ae (λrec_l0 a=>l0.step K x rec_l0 a) K
def pre (K:Nat)(N_l0:A_l0->Option Res)(x:ab ps):Option Res:=N_l0 (0,x.1.2.2.2)
def f (K:Nat)(x:ab ps):Option Res:=pre K (l0 K x) x
def c (K:Nat):Ctr:=⟨194,ps,rs,false,f K⟩
end Q81
namespace Q82
abbrev ps:List PK:=[.hol t68 0 14,.own t38,.rd (.list false 133 t47),.rd (.list false 41 t2)]
abbrev rs:List RK:=[.v t65]
abbrev Res:=am rs×ak ps
def f (K:Nat)(x:ab ps):Option Res:=(idx x.1.1.1 x.2.1.1).bind λ_=>(idx x.1.1.1 (AB x.2.1.1:Nat)).bind λy2=>(idx x.1.1.1 x.2.1.1).bind λ_=>(idx x.1.1.1 (AB x.2.1.1:Nat)).bind λy4=>bif Nat.beq (AB x.2.1.1) x.1.2 then ((Q81.f K ((x.1.1.1.set (AB x.2.1.1) x.2.1,x.1.1.2),y2.2.2.2.2.2.2.2.2.1,x.2.2.2.1,x.2.1.2.2.2.2.2.2.2.2.1,())).bind λy5=>(Q76.f K (y5.1.1,x.2.1.1,x.2.2.1,())).bind λy6=>some ((y6.1.1,()),())) else none
def c (K:Nat):Ctr:=⟨163,ps,rs,false,f K⟩
end Q82
namespace Q83
abbrev ps:List PK:=[.rd (.list false 101 t40),.rd (.int .i64)]
abbrev rs:List RK:=[.v (.list true 101 t40)]
abbrev Res:=am rs×ak ps
def f (K:Nat)(x:ab ps):Option Res:=bif decide (0<=0)&&decide (0<=x.2.1)&&decide (x.2.1<=(AA x.1:Int))&&true then (bif decide ((AA ([]:List (Ty.den t40))+AA ((x.1.take (AB x.2.1)).drop (AB 0)))*32<=aj) then (bif decide (0<=(wr .i64 (x.2.1+1)))&&decide ((wr .i64 (x.2.1+1))<=(AA x.1:Int))&&decide ((AA x.1:Int)<=(AA x.1:Int))&&true then (bif decide ((AA ([]++((x.1.take (AB x.2.1)).drop (AB 0)))+AA ((x.1.take (AB (AA x.1:Int))).drop (AB (wr .i64 (x.2.1+1)))))*32<=aj) then (some ((([]++((x.1.take (AB x.2.1)).drop (AB 0)))++((x.1.take (AB (AA x.1:Int))).drop (AB (wr .i64 (x.2.1+1)))),()),())) else none) else none) else none) else none
def c (K:Nat):Ctr:=⟨183,ps,rs,true,f K⟩
end Q83
namespace Q84
abbrev ps:List PK:=[.rd .str,.rd (.int .u8)]
abbrev rs:List RK:=[.v (.list true 9 .str)]
abbrev Res:=am rs×ak ps
abbrev A_l0:=List (Ty.den .str)×Int×Int
def l0.step (K:Nat)(x:ab ps)(rec_l0:A_l0->Option Res)(a:A_l0):Option Res:=bif decide (a.2.2<(x.1.size:Int)) then ((idx x.1.data.toList a.2.2).bind λy1=>bif (y1.toNat:Int)==x.2.1 then (bif decide (0<=a.2.1)&&decide (a.2.1<=a.2.2)&&decide (a.2.2<=(x.1.size:Int)) then (bif decide ((AA a.1+AA ([x.1.extract (AB a.2.1) (AB a.2.2)]))*16<=aj) then (rec_l0 (a.1++([x.1.extract (AB a.2.1) (AB a.2.2)]),wr .i64 (a.2.2+1),wr .i64 (a.2.2+1))) else none) else none) else (rec_l0 (a.1,a.2.1,wr .i64 (a.2.2+1)))) else (bif decide (0<=a.2.1)&&decide (a.2.1<=(x.1.size:Int))&&decide ((x.1.size:Int)<=(x.1.size:Int)) then (bif decide ((AA a.1+AA ([x.1.extract (AB a.2.1) (AB (x.1.size:Int))]))*16<=aj) then (some ((a.1++([x.1.extract (AB a.2.1) (AB (x.1.size:Int))]),()),())) else none) else none)
def l0 (K:Nat)(x:ab ps):A_l0->Option Res:=ae (λrec_l0 a=>l0.step K x rec_l0 a) K
def pre (K:Nat)(N_l0:A_l0->Option Res)(x:ab ps):Option Res:=N_l0 ([],0,0)
def f (K:Nat)(x:ab ps):Option Res:=pre K (l0 K x) x
def c (K:Nat):Ctr:=⟨205,ps,rs,true,f K⟩
end Q84
namespace Q85
abbrev ps:List PK:=[.rd .str]
abbrev rs:List RK:=[.v (.int .i64)]
abbrev Res:=am rs×ak ps
abbrev A_l0:=Int×Int
def l0.step (K:Nat)(x:ab ps)(rec_l0:A_l0->Option Res)(a:A_l0):Option Res:=bif decide (a.2<(x.1.size:Int)) then ((idx x.1.data.toList a.2).bind λy3=>bif decide ((y3.toNat:Int)<48) then (some (((-1),()),())) else ((idx x.1.data.toList a.2).bind λy4=>bif decide ((y4.toNat:Int)>57) then (some (((-1),()),())) else ((idx x.1.data.toList a.2).bind λy5=>rec_l0 (wr .i64 ((wr .i64 (a.1*10))+(wr .i64 (wr .u8 ((y5.toNat:Int)-48)))),wr .i64 (a.2+1))))) else (some ((a.1,()),()))
def l0 (K:Nat)(x:ab ps):A_l0->Option Res:=ae (λrec_l0 a=>l0.step K x rec_l0 a) K
def pre (K:Nat)(N_l0:A_l0->Option Res)(x:ab ps):Option Res:=(Q56.f K ((x.1.size:Int),1,6,())).bind λy1=>bif !y1.1.1 then (some (((-1),()),())) else (bif decide ((x.1.size:Int)>1) then ((idx x.1.data.toList 0).bind λy2=>bif (y2.toNat:Int)==48 then (some (((-1),()),())) else (N_l0 (0,0))) else (N_l0 (0,0)))
def f (K:Nat)(x:ab ps):Option Res:=pre K (l0 K x) x
def c (K:Nat):Ctr:=⟨207,ps,rs,true,f K⟩
end Q85
namespace Q86
abbrev ps:List PK:=[.rd .str]
abbrev rs:List RK:=[.v (.int .i64),.v .bool]
abbrev Res:=am rs×ak ps
def f (K:Nat)(x:ab ps):Option Res:=bif decide ((x.1.size:Int)<2) then (some (((-1),false,()),())) else ((idx x.1.data.toList 0).bind λy1=>bif (y1.toNat:Int) != 43 then ((idx x.1.data.toList 0).bind λy2=>bif (y2.toNat:Int) != 45 then (some (((-1),false,()),())) else (bif decide (0<=1)&&decide (1<=(x.1.size:Int))&&decide ((x.1.size:Int)<=(x.1.size:Int)) then ((Q85.f K (x.1.extract (AB 1) (AB (x.1.size:Int)),())).bind λy3=>bif decide (y3.1.1<0) then (some (((-1),false,()),())) else (bif x.1.toList==(ByteArray.mk #[45,48]).toList then (some (((-1),false,()),())) else ((idx x.1.data.toList 0).bind λy4=>bif (y4.toNat:Int)==45 then (some ((wr .i64 (0-y3.1.1),true,()),())) else (some ((y3.1.1,true,()),()))))) else none)) else (bif decide (0<=1)&&decide (1<=(x.1.size:Int))&&decide ((x.1.size:Int)<=(x.1.size:Int)) then ((Q85.f K (x.1.extract (AB 1) (AB (x.1.size:Int)),())).bind λy5=>bif decide (y5.1.1<0) then (some (((-1),false,()),())) else (bif x.1.toList==(ByteArray.mk #[45,48]).toList then (some (((-1),false,()),())) else ((idx x.1.data.toList 0).bind λy6=>bif (y6.toNat:Int)==45 then (some ((wr .i64 (0-y5.1.1),true,()),())) else (some ((y5.1.1,true,()),()))))) else none))
def c (K:Nat):Ctr:=⟨208,ps,rs,true,f K⟩
end Q86
namespace Q87
abbrev ps:List PK:=[.rd .str]
abbrev rs:List RK:=[.v t2,.v .bool]
abbrev Res:=am rs×ak ps
abbrev A_l0:=List (Ty.den .str)×Int×Int×Int×Int×Bool
def l0.step (K:Nat)(x:ab ps)(rec_l0:A_l0->Option Res)(a:A_l0):Option Res:=bif decide (a.2.1<=4) then ((Q68.f K (a.2.1,())).bind λy9=>(idx a.1 2).bind λ_=>(idx a.1 (AB 2:Nat)).bind λy11=>bif y9.1.1.toList==y11.toList then (rec_l0 (a.1,wr .i64 (a.2.1+1),a.2.2.1,a.2.2.2.1,a.2.1,a.2.2.2.2.2)) else (rec_l0 (a.1,wr .i64 (a.2.1+1),a.2.2.1,a.2.2.2.1,a.2.2.2.2.1,a.2.2.2.2.2))) else ((Q61.f K (a.2.2,())).bind λy12=>some ((a.2.2,y12.1.1,()),()))
def l0 (K:Nat)(x:ab ps):A_l0->Option Res:=ae (λrec_l0 a=>l0.step K x rec_l0 a) K
def pre (K:Nat)(N_l0:A_l0->Option Res)(x:ab ps):Option Res:=bif decide ((x.1.size:Int)>0) then ((idx x.1.data.toList (wr .i64 ((x.1.size:Int)-1))).bind λy1=>bif (y1.toNat:Int)==42 then (bif decide (0<=0)&&decide (0<=(wr .i64 ((x.1.size:Int)-1)))&&decide ((wr .i64 ((x.1.size:Int)-1))<=(x.1.size:Int)) then ((Q84.f K (x.1.extract (AB 0) (AB (wr .i64 ((x.1.size:Int)-1))),58,())).bind λy2=>bif (AA y2.1.1:Int) != 3 then (some (((0,(0,(0,true))),false,()),())) else ((idx y2.1.1 0).bind λ_=>(idx y2.1.1 (AB 0:Nat)).bind λy4=>(Q85.f K (y4,())).bind λy5=>(idx y2.1.1 1).bind λ_=>(idx y2.1.1 (AB 1:Nat)).bind λy7=>(Q85.f K (y7,())).bind λy8=>N_l0 (y2.1.1,1,y5.1.1,y8.1.1,0,true))) else none) else ((Q84.f K (x.1,58,())).bind λy13=>bif (AA y13.1.1:Int) != 3 then (some (((0,(0,(0,false))),false,()),())) else ((idx y13.1.1 0).bind λ_=>(idx y13.1.1 (AB 0:Nat)).bind λy15=>(Q85.f K (y15,())).bind λy16=>(idx y13.1.1 1).bind λ_=>(idx y13.1.1 (AB 1:Nat)).bind λy18=>(Q85.f K (y18,())).bind λy19=>N_l0 (y13.1.1,1,y16.1.1,y19.1.1,0,false)))) else ((Q84.f K (x.1,58,())).bind λy20=>bif (AA y20.1.1:Int) != 3 then (some (((0,(0,(0,false))),false,()),())) else ((idx y20.1.1 0).bind λ_=>(idx y20.1.1 (AB 0:Nat)).bind λy22=>(Q85.f K (y22,())).bind λy23=>(idx y20.1.1 1).bind λ_=>(idx y20.1.1 (AB 1:Nat)).bind λy25=>(Q85.f K (y25,())).bind λy26=>N_l0 (y20.1.1,1,y23.1.1,y26.1.1,0,false)))
def f (K:Nat)(x:ab ps):Option Res:=pre K (l0 K x) x
def c (K:Nat):Ctr:=⟨244,ps,rs,true,f K⟩
end Q87
namespace Q88
abbrev ps:List PK:=[.rd .str]
abbrev rs:List RK:=[.v (.list true 41 t2),.v .bool]
abbrev Res:=am rs×ak ps
abbrev A_l0:=List (Ty.den t2)×List (Ty.den .str)×Int
def l0.step (K:Nat)(x:ab ps)(rec_l0:A_l0->Option Res)(a:A_l0):Option Res:=bif decide (a.2.2<(AA a.2.1:Int)) then ((idx a.2.1 a.2.2).bind λ_=>(idx a.2.1 (AB a.2.2:Nat)).bind λy3=>(Q87.f K (y3,())).bind λy4=>bif !y4.1.2.1 then (some (([],false,()),())) else (bif decide ((AA a.1+AA ([y4.1.1]))*32<=aj) then (rec_l0 (a.1++([y4.1.1]),a.2.1,wr .i64 (a.2.2+1))) else none)) else (some ((a.1,true,()),()))
def l0 (K:Nat)(x:ab ps):A_l0->Option Res:=ae (λrec_l0 a=>l0.step K x rec_l0 a) K
def pre (K:Nat)(N_l0:A_l0->Option Res)(x:ab ps):Option Res:=bif x.1.toList==(ByteArray.mk #[45]).toList then (some (([],true,()),())) else ((Q84.f K (x.1,44,())).bind λy1=>N_l0 ([],y1.1.1,0))
def f (K:Nat)(x:ab ps):Option Res:=pre K (l0 K x) x
def c (K:Nat):Ctr:=⟨231,ps,rs,true,f K⟩
end Q88
namespace Q89
abbrev ps:List PK:=[.rd .str]
abbrev rs:List RK:=[.v (.list true 41 t2),.v .bool]
abbrev Res:=am rs×ak ps
def f (K:Nat)(x:ab ps):Option Res:=(Q88.f K (x.1,())).bind λy1=>bif !y1.1.2.1 then (some (([],false,()),())) else ((Q70.f K (y1.1.1,())).bind λy2=>bif y2.1.1.toList != x.1.toList then (some (([],false,()),())) else (some ((y1.1.1,true,()),())))
def c (K:Nat):Ctr:=⟨209,ps,rs,true,f K⟩
end Q89
namespace Q90
abbrev ps:List PK:=[.rd .str]
abbrev rs:List RK:=[.v t75,.v .bool]
abbrev Res:=am rs×ak ps
abbrev A_l0:=List (Ty.den .str)×Int×Int×Int
def l0.step (K:Nat)(x:ab ps)(rec_l0:A_l0->Option Res)(a:A_l0):Option Res:=bif decide (a.2.1<=6) then ((Q66.f K (a.2.1,())).bind λy4=>(idx a.1 1).bind λ_=>(idx a.1 (AB 1:Nat)).bind λy6=>bif y4.1.1.toList==y6.toList then (rec_l0 (a.1,wr .i64 (a.2.1+1),a.2.2.1,a.2.1)) else (rec_l0 (a.1,wr .i64 (a.2.1+1),a.2.2.1,a.2.2.2))) else ((idx a.1 2).bind λ_=>(idx a.1 (AB 2:Nat)).bind λy8=>(Q85.f K (y8,())).bind λy9=>(idx a.1 3).bind λ_=>(idx a.1 (AB 3:Nat)).bind λy11=>(Q85.f K (y11,())).bind λy12=>(idx a.1 4).bind λ_=>(idx a.1 (AB 4:Nat)).bind λy14=>(Q85.f K (y14,())).bind λy15=>(idx a.1 5).bind λ_=>(idx a.1 (AB 5:Nat)).bind λy17=>(Q85.f K (y17,())).bind λy18=>(idx a.1 6).bind λ_=>(idx a.1 (AB 6:Nat)).bind λy20=>(Q86.f K (y20,())).bind λy21=>(idx a.1 7).bind λ_=>(idx a.1 (AB 7:Nat)).bind λy23=>(Q86.f K (y23,())).bind λy24=>(idx a.1 10).bind λ_=>(idx a.1 (AB 10:Nat)).bind λy26=>(Q89.f K (y26,())).bind λy27=>(idx a.1 8).bind λ_=>(idx a.1 (AB 8:Nat)).bind λy29=>(Q85.f K (y29,())).bind λy30=>(idx a.1 9).bind λ_=>(idx a.1 (AB 9:Nat)).bind λy32=>(Q85.f K (y32,())).bind λy33=>bif !y21.1.2.1 then (some (((0,(0,(0,(0,(0,(0,((0,(0,(0,0))),[]))))))),false,()),())) else (bif !y24.1.2.1 then (some (((0,(0,(0,(0,(0,(0,((0,(0,(0,0))),[]))))))),false,()),())) else (bif !y27.1.2.1 then (some (((0,(0,(0,(0,(0,(0,((0,(0,(0,0))),[]))))))),false,()),())) else ((Q75.f K ((a.2.2.1,(a.2.2.2,(y9.1.1,(y12.1.1,(y15.1.1,(y18.1.1,((y21.1.1,(y24.1.1,(y30.1.1,y33.1.1))),y27.1.1))))))),())).bind λy34=>bif y34.1.1.toList != x.1.toList then (some (((0,(0,(0,(0,(0,(0,((0,(0,(0,0))),[]))))))),false,()),())) else (some (((a.2.2.1,(a.2.2.2,(y9.1.1,(y12.1.1,(y15.1.1,(y18.1.1,((y21.1.1,(y24.1.1,(y30.1.1,y33.1.1))),y27.1.1))))))),true,()),()))))))
def l0 (K:Nat)(x:ab ps):A_l0->Option Res:=ae (λrec_l0 a=>l0.step K x rec_l0 a) K
def pre (K:Nat)(N_l0:A_l0->Option Res)(x:ab ps):Option Res:=(Q84.f K (x.1,32,())).bind λy1=>bif decide ((x.1.size:Int)>300) then (some (((0,(0,(0,(0,(0,(0,((0,(0,(0,0))),[]))))))),false,()),())) else (bif (AA y1.1.1:Int) != 12 then (some (((0,(0,(0,(0,(0,(0,((0,(0,(0,0))),[]))))))),false,()),())) else ((idx y1.1.1 0).bind λ_=>(idx y1.1.1 (AB 0:Nat)).bind λy3=>bif y3.toList==(ByteArray.mk #[119,97,110]).toList then (N_l0 (y1.1.1,1,2,0)) else (N_l0 (y1.1.1,1,1,0))))
def f (K:Nat)(x:ab ps):Option Res:=pre K (l0 K x) x
def c (K:Nat):Ctr:=⟨184,ps,rs,true,f K⟩
end Q90
namespace Q91
abbrev ps:List PK:=[.rd (.int .i64)]
abbrev rs:List RK:=[.v (.int .i64)]
abbrev Res:=am rs×ak ps
def f (K:Nat)(x:ab ps):Option Res:=some ((wr .i64 (AD x.1 4),()),())
def c (K:Nat):Ctr:=⟨39,ps,rs,true,f K⟩
end Q91
namespace Q92
abbrev ps:List PK:=[.rd t26,.rd t47]
abbrev rs:List RK:=[.v .bool]
abbrev Res:=am rs×ak ps
def f (K:Nat)(x:ab ps):Option Res:=bif !x.1.2.1 then (some ((false,()),())) else (bif x.1.2.2.1 then (some ((false,()),())) else (bif x.2.1.2.2.2.1 != x.1.1 then (some ((false,()),())) else (bif x.2.1.2.2.1==x.1.1 then (some ((false,()),())) else ((Q91.f K (x.1.1,())).bind λy1=>bif x.2.1.1==2 then (bif x.2.1.2.1==6 then ((Q91.f K (x.2.1.2.2.1,())).bind λy2=>bif y2.1.1 != y1.1.1 then ((Q63.f K (x.2.1.2.2.2.2.2.2.2,y1.1.1,())).bind λy3=>bif y3.1.1 then (some ((true,()),())) else ((Q91.f K (x.2.1.2.2.1,())).bind λy4=>(Q63.f K (x.2.1.2.2.2.2.2.2.2,y4.1.1,())).bind λy5=>some ((y5.1.1,()),()))) else (some ((false,()),()))) else (some ((false,()),()))) else ((Q91.f K (x.2.1.2.2.1,())).bind λy6=>bif y6.1.1==y1.1.1 then (bif x.2.1.2.1 != 6 then (some ((true,()),())) else ((Q63.f K (x.2.1.2.2.2.2.2.2.2,y1.1.1,())).bind λy7=>some ((!y7.1.1,()),()))) else (some ((false,()),())))))))
def c (K:Nat):Ctr:=⟨210,ps,rs,true,f K⟩
end Q92
namespace Q93
abbrev ps:List PK:=[.rd t26,.rd (.int .i64),.rd (.int .i64),.rd (.int .i64),.rd (.int .i64),.rd (.list false 41 t2)]
abbrev rs:List RK:=[.v t47]
abbrev Res:=am rs×ak ps
def f (K:Nat)(x:ab ps):Option Res:=bif decide ((AA ([]:List (Ty.den t2))+AA x.2.2.2.2.2.1)*32<=aj) then (some (((1,(x.2.1,(x.1.1,(x.2.2.1,(x.2.2.2.1,(x.2.2.2.2.1,(x.1.2.2.2.2.2.2.2.2.2.2.2.2.1,[]++x.2.2.2.2.2.1))))))),()),())) else none
def c (K:Nat):Ctr:=⟨135,ps,rs,true,f K⟩
end Q93
namespace Q94
abbrev ps:List PK:=[.rd (.list false 41 t2),.rd (.int .i64)]
abbrev rs:List RK:=[.v (.int .i64)]
abbrev Res:=am rs×ak ps
abbrev A_l0:=Int
def l0.step (K:Nat)(x:ab ps)(rec_l0:A_l0->Option Res)(a:A_l0):Option Res:=bif decide (a<(AA x.1:Int)) then ((idx x.1 a).bind λy1=>bif y1.1==x.2.1 then (some ((a,()),())) else (rec_l0 (wr .i64 (a+1)))) else (some (((-1),()),()))
def l0 (K:Nat)(x:ab ps):A_l0->Option Res:=ae (λrec_l0 a=>l0.step K x rec_l0 a) K
def pre (K:Nat)(N_l0:A_l0->Option Res)(x:ab ps):Option Res:=N_l0 0
def f (K:Nat)(x:ab ps):Option Res:=pre K (l0 K x) x
def c (K:Nat):Ctr:=⟨48,ps,rs,true,f K⟩
end Q94
namespace Q95
abbrev ps:List PK:=[.rd (.list false 41 t2),.rd t2]
abbrev rs:List RK:=[.v (.list false 41 t2),.v .bool]
abbrev Res:=am rs×ak ps
abbrev A_l0:=Int
def l0.step (K:Nat)(x:ab ps)(rec_l0:A_l0->Option Res)(a:A_l0):Option Res:=bif decide (a<(AA x.1:Int)) then ((idx x.1 a).bind λy6=>bif decide (y6.1<x.2.1.1) then (rec_l0 (wr .i64 (a+1))) else (bif decide (0<=0)&&decide (0<=a)&&decide (a<=(AA x.1:Int))&&true then (bif decide ((AA ([]:List (Ty.den t2))+AA ((x.1.take (AB a)).drop (AB 0)))*32<=aj) then (bif decide ((AA ([]++((x.1.take (AB a)).drop (AB 0)))+AA ([x.2.1]))*32<=aj) then (bif decide (0<=a)&&decide (a<=(AA x.1:Int))&&decide ((AA x.1:Int)<=(AA x.1:Int))&&true then (bif decide ((AA (([]++((x.1.take (AB a)).drop (AB 0)))++([x.2.1]))+AA ((x.1.take (AB (AA x.1:Int))).drop (AB a)))*32<=aj) then (some (((([]++((x.1.take (AB a)).drop (AB 0)))++([x.2.1]))++((x.1.take (AB (AA x.1:Int))).drop (AB a)),true,()),())) else none) else none) else none) else none) else none)) else (bif decide (0<=0)&&decide (0<=a)&&decide (a<=(AA x.1:Int))&&true then (bif decide ((AA ([]:List (Ty.den t2))+AA ((x.1.take (AB a)).drop (AB 0)))*32<=aj) then (bif decide ((AA ([]++((x.1.take (AB a)).drop (AB 0)))+AA ([x.2.1]))*32<=aj) then (bif decide (0<=a)&&decide (a<=(AA x.1:Int))&&decide ((AA x.1:Int)<=(AA x.1:Int))&&true then (bif decide ((AA (([]++((x.1.take (AB a)).drop (AB 0)))++([x.2.1]))+AA ((x.1.take (AB (AA x.1:Int))).drop (AB a)))*32<=aj) then (some (((([]++((x.1.take (AB a)).drop (AB 0)))++([x.2.1]))++((x.1.take (AB (AA x.1:Int))).drop (AB a)),true,()),())) else none) else none) else none) else none) else none)
def l0 (K:Nat)(x:ab ps):A_l0->Option Res:=ae (λrec_l0 a=>l0.step K x rec_l0 a) K
def pre (K:Nat)(N_l0:A_l0->Option Res)(x:ab ps):Option Res:=(Q94.f K (x.1,x.2.1.1,())).bind λy1=>bif decide (y1.1.1>=0) then ((idx x.1 y1.1.1).bind λy2=>(Q78.f K (x.2.1,y2,())).bind λy3=>bif !y3.1.1 then (some ((x.1,false,()),())) else (bif decide ((AA ([]:List (Ty.den t2))+AA x.1)*32<=aj) then ((idx ([]++x.1) y1.1.1).bind λ_=>(idx ([]++x.1) (AB y1.1.1:Nat)).bind λy5=>some ((([]++x.1).set (AB y1.1.1) x.2.1,true,()),())) else none)) else (N_l0 0)
def f (K:Nat)(x:ab ps):Option Res:=pre K (l0 K x) x
def c (K:Nat):Ctr:=⟨195,ps,rs,false,f K⟩
end Q95
namespace Q96
abbrev ps:List PK:=[.rd (.list false 116 t3),.rd t2]
abbrev rs:List RK:=[.v (.list false 116 t3)]
abbrev Res:=am rs×ak ps
abbrev A_l0:=List (Ty.den t3)×Bool×Int
def l0.step (K:Nat)(x:ab ps)(rec_l0:A_l0->Option Res)(a:A_l0):Option Res:=bif decide (a.2.2<(AA x.1:Int)) then ((idx x.1 a.2.2).bind λy1=>bif y1.1.1==x.2.1.1 then ((Q78.f K (x.2.1,y1.1,())).bind λy2=>bif !y2.1.1 then (some ((x.1,()),())) else (bif !a.2.1 then (bif decide (y1.1.1>=x.2.1.1) then (bif decide ((AA a.1+AA ([(x.2.1,4)]))*40<=aj) then (bif y1.1.1 != x.2.1.1 then ((idx x.1 a.2.2).bind λy3=>bif decide ((AA (a.1++([(x.2.1,4)]))+AA ([y3]))*40<=aj) then (rec_l0 ((a.1++([(x.2.1,4)]))++([y3]),true,wr .i64 (a.2.2+1))) else none) else (rec_l0 (a.1++([(x.2.1,4)]),true,wr .i64 (a.2.2+1)))) else none) else (bif y1.1.1 != x.2.1.1 then ((idx x.1 a.2.2).bind λy4=>bif decide ((AA a.1+AA ([y4]))*40<=aj) then (rec_l0 (a.1++([y4]),a.2.1,wr .i64 (a.2.2+1))) else none) else (rec_l0 (a.1,a.2.1,wr .i64 (a.2.2+1))))) else (bif y1.1.1 != x.2.1.1 then ((idx x.1 a.2.2).bind λy5=>bif decide ((AA a.1+AA ([y5]))*40<=aj) then (rec_l0 (a.1++([y5]),a.2.1,wr .i64 (a.2.2+1))) else none) else (rec_l0 (a.1,a.2.1,wr .i64 (a.2.2+1)))))) else (bif !a.2.1 then (bif decide (y1.1.1>=x.2.1.1) then (bif decide ((AA a.1+AA ([(x.2.1,4)]))*40<=aj) then (bif y1.1.1 != x.2.1.1 then ((idx x.1 a.2.2).bind λy6=>bif decide ((AA (a.1++([(x.2.1,4)]))+AA ([y6]))*40<=aj) then (rec_l0 ((a.1++([(x.2.1,4)]))++([y6]),true,wr .i64 (a.2.2+1))) else none) else (rec_l0 (a.1++([(x.2.1,4)]),true,wr .i64 (a.2.2+1)))) else none) else (bif y1.1.1 != x.2.1.1 then ((idx x.1 a.2.2).bind λy7=>bif decide ((AA a.1+AA ([y7]))*40<=aj) then (rec_l0 (a.1++([y7]),a.2.1,wr .i64 (a.2.2+1))) else none) else (rec_l0 (a.1,a.2.1,wr .i64 (a.2.2+1))))) else (bif y1.1.1 != x.2.1.1 then ((idx x.1 a.2.2).bind λy8=>bif decide ((AA a.1+AA ([y8]))*40<=aj) then (rec_l0 (a.1++([y8]),a.2.1,wr .i64 (a.2.2+1))) else none) else (rec_l0 (a.1,a.2.1,wr .i64 (a.2.2+1)))))) else (bif !a.2.1 then (bif decide ((AA a.1+AA ([(x.2.1,4)]))*40<=aj) then (some ((a.1++([(x.2.1,4)]),()),())) else none) else (some ((a.1,()),())))
def l0 (K:Nat)(x:ab ps):A_l0->Option Res:=ae (λrec_l0 a=>l0.step K x rec_l0 a) K
def pre (K:Nat)(N_l0:A_l0->Option Res)(x:ab ps):Option Res:=N_l0 ([],false,0)
def f (K:Nat)(x:ab ps):Option Res:=pre K (l0 K x) x
def c (K:Nat):Ctr:=⟨239,ps,rs,false,f K⟩
end Q96
namespace Q97
abbrev ps:List PK:=[.rd t26,.rd t2,.rd (.int .i64)]
abbrev rs:List RK:=[.v (.list true 92 t6)]
abbrev Res:=am rs×ak ps
abbrev A_l0:=List (Ty.den t6)×Bool×Int
def l0.step (K:Nat)(x:ab ps)(rec_l0:A_l0->Option Res)(a:A_l0):Option Res:=bif decide (a.2.2<(AA x.1.2.2.2.2.2.2.2.2.2.2.2.1:Int)) then ((idx x.1.2.2.2.2.2.2.2.2.2.2.2.1 a.2.2).bind λy1=>bif !a.2.1 then (bif decide (y1.1>=x.2.1.1) then (bif decide ((AA a.1+AA ([(x.2.1.1,(x.2.1.2.1,(x.1.2.2.2.2.2.1,[x.2.2.1])))]))*48<=aj) then (bif y1.1 != x.2.1.1 then (bif decide ((AA (a.1++([(x.2.1.1,(x.2.1.2.1,(x.1.2.2.2.2.2.1,[x.2.2.1])))]))+AA ([y1]))*48<=aj) then (rec_l0 ((a.1++([(x.2.1.1,(x.2.1.2.1,(x.1.2.2.2.2.2.1,[x.2.2.1])))]))++([y1]),true,wr .i64 (a.2.2+1))) else none) else (rec_l0 (a.1++([(x.2.1.1,(x.2.1.2.1,(x.1.2.2.2.2.2.1,[x.2.2.1])))]),true,wr .i64 (a.2.2+1)))) else none) else (bif y1.1 != x.2.1.1 then (bif decide ((AA a.1+AA ([y1]))*48<=aj) then (rec_l0 (a.1++([y1]),a.2.1,wr .i64 (a.2.2+1))) else none) else (rec_l0 (a.1,a.2.1,wr .i64 (a.2.2+1))))) else (bif y1.1 != x.2.1.1 then (bif decide ((AA a.1+AA ([y1]))*48<=aj) then (rec_l0 (a.1++([y1]),a.2.1,wr .i64 (a.2.2+1))) else none) else (rec_l0 (a.1,a.2.1,wr .i64 (a.2.2+1))))) else (bif !a.2.1 then (bif decide ((AA a.1+AA ([(x.2.1.1,(x.2.1.2.1,(x.1.2.2.2.2.2.1,[x.2.2.1])))]))*48<=aj) then (some ((a.1++([(x.2.1.1,(x.2.1.2.1,(x.1.2.2.2.2.2.1,[x.2.2.1])))]),()),())) else none) else (some ((a.1,()),())))
def l0 (K:Nat)(x:ab ps):A_l0->Option Res:=ae (λrec_l0 a=>l0.step K x rec_l0 a) K
def pre (K:Nat)(N_l0:A_l0->Option Res)(x:ab ps):Option Res:=N_l0 ([],x.2.1.2.2.1 != 2,0)
def f (K:Nat)(x:ab ps):Option Res:=pre K (l0 K x) x
def c (K:Nat):Ctr:=⟨240,ps,rs,false,f K⟩
end Q97
namespace Q98
abbrev ps:List PK:=[.own t38,.rd t2,.rd (.int .i64)]
abbrev rs:List RK:=[.v t38]
abbrev Res:=am rs×ak ps
def f (K:Nat)(x:ab ps):Option Res:=(Q95.f K (x.1.2.2.2.2.2.2.2.2.1,x.2.1,())).bind λy1=>bif !y1.1.2.1 then (some ((x.1,()),())) else ((Q94.f K (x.1.2.2.2.2.2.2.2.2.1,x.2.1.1,())).bind λy2=>bif decide (y2.1.1>=0) then ((idx x.1.2.2.2.2.2.2.2.2.1 y2.1.1).bind λy3=>bif y3.2.1==x.2.1.2.1 then ((idx x.1.2.2.2.2.2.2.2.2.1 y2.1.1).bind λy4=>(Q96.f K (x.1.2.2.2.2.2.2.2.2.2.1,x.2.1,())).bind λy5=>bif !(y4.2.2.1==x.2.1.2.2.1) then ((Q97.f K ((x.1.1,(x.1.2.1,(x.1.2.2.1,(x.1.2.2.2.1,(x.1.2.2.2.2.1,(x.1.2.2.2.2.2.1,(x.1.2.2.2.2.2.2.1,(x.1.2.2.2.2.2.2.2.1,(y1.1.1,(y5.1.1,x.1.2.2.2.2.2.2.2.2.2.2)))))))))),x.2.1,x.2.2.1,())).bind λy6=>some (((x.1.1,(x.1.2.1,(x.1.2.2.1,(x.1.2.2.2.1,(x.1.2.2.2.2.1,(x.1.2.2.2.2.2.1,(x.1.2.2.2.2.2.2.1,(x.1.2.2.2.2.2.2.2.1,(y1.1.1,(y5.1.1,(x.1.2.2.2.2.2.2.2.2.2.2.1,(y6.1.1,x.1.2.2.2.2.2.2.2.2.2.2.2.2)))))))))))),()),())) else (some (((x.1.1,(x.1.2.1,(x.1.2.2.1,(x.1.2.2.2.1,(x.1.2.2.2.2.1,(x.1.2.2.2.2.2.1,(x.1.2.2.2.2.2.2.1,(x.1.2.2.2.2.2.2.2.1,(y1.1.1,(y5.1.1,x.1.2.2.2.2.2.2.2.2.2.2)))))))))),()),()))) else ((Q96.f K (x.1.2.2.2.2.2.2.2.2.2.1,x.2.1,())).bind λy7=>(Q97.f K ((x.1.1,(x.1.2.1,(x.1.2.2.1,(x.1.2.2.2.1,(x.1.2.2.2.2.1,(x.1.2.2.2.2.2.1,(x.1.2.2.2.2.2.2.1,(x.1.2.2.2.2.2.2.2.1,(y1.1.1,(y7.1.1,x.1.2.2.2.2.2.2.2.2.2.2)))))))))),x.2.1,x.2.2.1,())).bind λy8=>some (((x.1.1,(x.1.2.1,(x.1.2.2.1,(x.1.2.2.2.1,(x.1.2.2.2.2.1,(x.1.2.2.2.2.2.1,(x.1.2.2.2.2.2.2.1,(x.1.2.2.2.2.2.2.2.1,(y1.1.1,(y7.1.1,(x.1.2.2.2.2.2.2.2.2.2.2.1,(y8.1.1,x.1.2.2.2.2.2.2.2.2.2.2.2.2)))))))))))),()),()))) else ((Q96.f K (x.1.2.2.2.2.2.2.2.2.2.1,x.2.1,())).bind λy9=>(Q97.f K ((x.1.1,(x.1.2.1,(x.1.2.2.1,(x.1.2.2.2.1,(x.1.2.2.2.2.1,(x.1.2.2.2.2.2.1,(x.1.2.2.2.2.2.2.1,(x.1.2.2.2.2.2.2.2.1,(y1.1.1,(y9.1.1,x.1.2.2.2.2.2.2.2.2.2.2)))))))))),x.2.1,x.2.2.1,())).bind λy10=>some (((x.1.1,(x.1.2.1,(x.1.2.2.1,(x.1.2.2.2.1,(x.1.2.2.2.2.1,(x.1.2.2.2.2.2.1,(x.1.2.2.2.2.2.2.1,(x.1.2.2.2.2.2.2.2.1,(y1.1.1,(y9.1.1,(x.1.2.2.2.2.2.2.2.2.2.2.1,(y10.1.1,x.1.2.2.2.2.2.2.2.2.2.2.2.2)))))))))))),()),())))
def c (K:Nat):Ctr:=⟨219,ps,rs,false,f K⟩
end Q98
namespace Q99
abbrev ps:List PK:=[.own t38,.rd t2]
abbrev rs:List RK:=[.v t38]
abbrev Res:=am rs×ak ps
def f (K:Nat)(x:ab ps):Option Res:=(Q94.f K (x.1.2.2.2.2.2.2.2.2.1,x.1.1,())).bind λy1=>(idx x.1.2.2.2.2.2.2.2.2.1 y1.1.1).bind λy2=>(Q78.f K (x.2.1,y2,())).bind λy3=>bif !y3.1.1 then (some ((x.1,()),())) else (bif decide (x.2.1.2.1>=999) then (some ((x.1,()),())) else ((Q98.f K ((x.1.1,(x.1.2.1,(x.1.2.2.1,(x.1.2.2.2.1,(wr .i64 (x.2.1.2.1+1),x.1.2.2.2.2.2))))),(x.1.1,(wr .i64 (x.2.1.2.1+1),(1,x.1.2.2.2.1))),x.1.1,())).bind λy4=>some ((y4.1.1,()),())))
def c (K:Nat):Ctr:=⟨236,ps,rs,false,f K⟩
end Q99
namespace Q100
abbrev ps:List PK:=[.own t38,.rd t2,.rd (.int .i64)]
abbrev rs:List RK:=[.v t38]
abbrev Res:=am rs×ak ps
abbrev A_l1:=Int×Int×List (Ty.den t6)×Int×Int×Int×List (Ty.den (.int .i64))
abbrev A_l0:=Int×List (Ty.den t6)
def l1.step (K:Nat)(x:ab ps)(rec_l0:A_l0->Option Res)(rec_l1:A_l1->Option Res)(a:A_l1):Option Res:=bif decide (a.2.1<(AA a.2.2.2.2.2.2:Int)) then ((idx a.2.2.2.2.2.2 a.2.1).bind λy3=>bif decide (y3<x.2.2.1) then (rec_l1 (a.1,wr .i64 (a.2.1+1),a.2.2.1,a.2.2.2.1,a.2.2.2.2.1,a.2.2.2.2.2.1,a.2.2.2.2.2.2)) else (bif a.2.1==(AA a.2.2.2.2.2.2:Int) then (bif decide (0<=0)&&decide (0<=a.2.1)&&decide (a.2.1<=(AA a.2.2.2.2.2.2:Int))&&true then (bif decide ((AA ([]:List (Ty.den (.int .i64)))+AA ((a.2.2.2.2.2.2.take (AB a.2.1)).drop (AB 0)))*8<=aj) then (bif decide ((AA ([]++((a.2.2.2.2.2.2.take (AB a.2.1)).drop (AB 0)))+AA ([x.2.2.1]))*8<=aj) then (bif decide (0<=a.2.1)&&decide (a.2.1<=(AA a.2.2.2.2.2.2:Int))&&decide ((AA a.2.2.2.2.2.2:Int)<=(AA a.2.2.2.2.2.2:Int))&&true then (bif decide ((AA (([]++((a.2.2.2.2.2.2.take (AB a.2.1)).drop (AB 0)))++([x.2.2.1]))+AA ((a.2.2.2.2.2.2.take (AB (AA a.2.2.2.2.2.2:Int))).drop (AB a.2.1)))*8<=aj) then ((idx a.2.2.1 a.1).bind λ_=>(idx a.2.2.1 (AB a.1:Nat)).bind λy5=>rec_l0 (wr .i64 (a.1+1),a.2.2.1.set (AB a.1) (a.2.2.2.1,(a.2.2.2.2.1,(a.2.2.2.2.2.1,(([]++((a.2.2.2.2.2.2.take (AB a.2.1)).drop (AB 0)))++([x.2.2.1]))++((a.2.2.2.2.2.2.take (AB (AA a.2.2.2.2.2.2:Int))).drop (AB a.2.1))))))) else none) else none) else none) else none) else none) else ((idx a.2.2.2.2.2.2 a.2.1).bind λy6=>bif y6 != x.2.2.1 then (bif decide (0<=0)&&decide (0<=a.2.1)&&decide (a.2.1<=(AA a.2.2.2.2.2.2:Int))&&true then (bif decide ((AA ([]:List (Ty.den (.int .i64)))+AA ((a.2.2.2.2.2.2.take (AB a.2.1)).drop (AB 0)))*8<=aj) then (bif decide ((AA ([]++((a.2.2.2.2.2.2.take (AB a.2.1)).drop (AB 0)))+AA ([x.2.2.1]))*8<=aj) then (bif decide (0<=a.2.1)&&decide (a.2.1<=(AA a.2.2.2.2.2.2:Int))&&decide ((AA a.2.2.2.2.2.2:Int)<=(AA a.2.2.2.2.2.2:Int))&&true then (bif decide ((AA (([]++((a.2.2.2.2.2.2.take (AB a.2.1)).drop (AB 0)))++([x.2.2.1]))+AA ((a.2.2.2.2.2.2.take (AB (AA a.2.2.2.2.2.2:Int))).drop (AB a.2.1)))*8<=aj) then ((idx a.2.2.1 a.1).bind λ_=>(idx a.2.2.1 (AB a.1:Nat)).bind λy8=>rec_l0 (wr .i64 (a.1+1),a.2.2.1.set (AB a.1) (a.2.2.2.1,(a.2.2.2.2.1,(a.2.2.2.2.2.1,(([]++((a.2.2.2.2.2.2.take (AB a.2.1)).drop (AB 0)))++([x.2.2.1]))++((a.2.2.2.2.2.2.take (AB (AA a.2.2.2.2.2.2:Int))).drop (AB a.2.1))))))) else none) else none) else none) else none) else none) else (rec_l0 (wr .i64 (a.1+1),a.2.2.1))))) else (bif a.2.1==(AA a.2.2.2.2.2.2:Int) then (bif decide (0<=0)&&decide (0<=a.2.1)&&decide (a.2.1<=(AA a.2.2.2.2.2.2:Int))&&true then (bif decide ((AA ([]:List (Ty.den (.int .i64)))+AA ((a.2.2.2.2.2.2.take (AB a.2.1)).drop (AB 0)))*8<=aj) then (bif decide ((AA ([]++((a.2.2.2.2.2.2.take (AB a.2.1)).drop (AB 0)))+AA ([x.2.2.1]))*8<=aj) then (bif decide (0<=a.2.1)&&decide (a.2.1<=(AA a.2.2.2.2.2.2:Int))&&decide ((AA a.2.2.2.2.2.2:Int)<=(AA a.2.2.2.2.2.2:Int))&&true then (bif decide ((AA (([]++((a.2.2.2.2.2.2.take (AB a.2.1)).drop (AB 0)))++([x.2.2.1]))+AA ((a.2.2.2.2.2.2.take (AB (AA a.2.2.2.2.2.2:Int))).drop (AB a.2.1)))*8<=aj) then ((idx a.2.2.1 a.1).bind λ_=>(idx a.2.2.1 (AB a.1:Nat)).bind λy10=>rec_l0 (wr .i64 (a.1+1),a.2.2.1.set (AB a.1) (a.2.2.2.1,(a.2.2.2.2.1,(a.2.2.2.2.2.1,(([]++((a.2.2.2.2.2.2.take (AB a.2.1)).drop (AB 0)))++([x.2.2.1]))++((a.2.2.2.2.2.2.take (AB (AA a.2.2.2.2.2.2:Int))).drop (AB a.2.1))))))) else none) else none) else none) else none) else none) else ((idx a.2.2.2.2.2.2 a.2.1).bind λy11=>bif y11 != x.2.2.1 then (bif decide (0<=0)&&decide (0<=a.2.1)&&decide (a.2.1<=(AA a.2.2.2.2.2.2:Int))&&true then (bif decide ((AA ([]:List (Ty.den (.int .i64)))+AA ((a.2.2.2.2.2.2.take (AB a.2.1)).drop (AB 0)))*8<=aj) then (bif decide ((AA ([]++((a.2.2.2.2.2.2.take (AB a.2.1)).drop (AB 0)))+AA ([x.2.2.1]))*8<=aj) then (bif decide (0<=a.2.1)&&decide (a.2.1<=(AA a.2.2.2.2.2.2:Int))&&decide ((AA a.2.2.2.2.2.2:Int)<=(AA a.2.2.2.2.2.2:Int))&&true then (bif decide ((AA (([]++((a.2.2.2.2.2.2.take (AB a.2.1)).drop (AB 0)))++([x.2.2.1]))+AA ((a.2.2.2.2.2.2.take (AB (AA a.2.2.2.2.2.2:Int))).drop (AB a.2.1)))*8<=aj) then ((idx a.2.2.1 a.1).bind λ_=>(idx a.2.2.1 (AB a.1:Nat)).bind λy13=>rec_l0 (wr .i64 (a.1+1),a.2.2.1.set (AB a.1) (a.2.2.2.1,(a.2.2.2.2.1,(a.2.2.2.2.2.1,(([]++((a.2.2.2.2.2.2.take (AB a.2.1)).drop (AB 0)))++([x.2.2.1]))++((a.2.2.2.2.2.2.take (AB (AA a.2.2.2.2.2.2:Int))).drop (AB a.2.1))))))) else none) else none) else none) else none) else none) else (rec_l0 (wr .i64 (a.1+1),a.2.2.1))))
def l1 (K:Nat)(x:ab ps)(rec_l0:A_l0->Option Res):A_l1->Option Res:=ae (λrec_l1 a=>l1.step K x rec_l0 rec_l1 a) K
def l0.step (K:Nat)(x:ab ps)(N_l1:A_l1->Option Res)(rec_l0:A_l0->Option Res)(a:A_l0):Option Res:=bif decide (a.1<(AA a.2:Int)) then ((idx a.2 a.1).bind λ_=>(idx a.2 (AB a.1:Nat)).bind λy2=>bif y2.1 != x.2.1.1 then (rec_l0 (wr .i64 (a.1+1),a.2)) else (bif y2.2.1 != x.2.1.2.1 then (rec_l0 (wr .i64 (a.1+1),a.2)) else (bif x.2.1.2.2.1 != 2 then (rec_l0 (wr .i64 (a.1+1),a.2)) else (N_l1 (a.1,0,a.2,y2.1,y2.2.1,y2.2.2.1,y2.2.2.2))))) else (some (((x.1.1,(x.1.2.1,(x.1.2.2.1,(x.1.2.2.2.1,(x.1.2.2.2.2.1,(x.1.2.2.2.2.2.1,(x.1.2.2.2.2.2.2.1,(x.1.2.2.2.2.2.2.2.1,(x.1.2.2.2.2.2.2.2.2.1,(x.1.2.2.2.2.2.2.2.2.2.1,(x.1.2.2.2.2.2.2.2.2.2.2.1,(a.2,x.1.2.2.2.2.2.2.2.2.2.2.2.2)))))))))))),()),()))
def l0 (K:Nat)(x:ab ps):A_l0->Option Res:=ae (λrec_l0 a=>l0.step K x (l1 K x rec_l0) rec_l0 a) K
def pre (K:Nat)(N_l0:A_l0->Option Res)(x:ab ps):Option Res:=N_l0 (0,x.1.2.2.2.2.2.2.2.2.2.2.2.1)
def f (K:Nat)(x:ab ps):Option Res:=pre K (l0 K x) x
def c (K:Nat):Ctr:=⟨237,ps,rs,false,f K⟩
def G (K:Nat):List Ctr:=[]
def live_l1:List (Nat×List Coe):=[(2,[.keep]),(3,[.keep]),(4,[.keep]),(6,[.keep]),(7,[.keep]),(8,[.keep]),(9,[.keep]),(100003,[.keep,.keep,.keep,.keep,.keep,.keep,.keep,.keep,.ro true 41 t2,.ro true 116 t3,.keep,.keep,.keep,.keep,.own true 92 t6,.keep,.keep,.keep,.keep,.ro true 45 t11,.ro true 56 t12]),(100004,[.keep,.keep,.keep,.keep]),(100006,[.keep,.keep,.keep,.keep,.keep,.keep,.keep,.keep,.keep,.keep,.keep,.keep,.keep,.keep,.keep,.keep,.keep,.keep,.keep,.keep,.keep]),(100008,[.keep,.keep,.keep,.ro true 3 (.int .i64)])]
def live_l0:List (Nat×List Coe):=[(2,[.keep]),(3,[.keep]),(4,[.keep]),(6,[.keep]),(7,[.keep]),(100003,[.keep,.keep,.keep,.keep,.keep,.keep,.keep,.keep,.ro true 41 t2,.ro true 116 t3,.keep,.keep,.keep,.keep,.own true 92 t6,.keep,.keep,.keep,.keep,.ro true 45 t11,.ro true 56 t12]),(100004,[.keep,.keep,.keep,.keep]),(100006,[.keep,.keep,.keep,.keep,.keep,.keep,.keep,.keep,.keep,.keep,.keep,.keep,.keep,.keep,.keep,.keep,.keep,.keep,.keep,.keep,.keep])]
def L:List (Nat×List (Nat×List Coe)):=[(8,live_l1),(3,live_l0)]
def body:Code:=cV Tryz.f237
abbrev ev (K:Nat):Code->St->(Ex->St->Option Res)->Option Res:=evK (G K) T_NS L K
abbrev fin:Ex->St->Option Res:=dx T_NS ps rs false Tryz.f237.results.toList
def S_l0 (x:ab ps)(a:A_l0):St:=ay [(2,⟨0,.one,[.int .i64 x.2.2.1]⟩),(3,⟨0,.one,[.bp 100003 0]⟩),(4,⟨0,.one,[.bp 100004 0]⟩),(6,⟨0,.one,[.bp 100006 0]⟩),(7,⟨0,.one,[.int .i64 a.1]⟩),(100003,⟨0,.agg,[.int .i64 x.1.1,.bool x.1.2.1,.bool x.1.2.2.1,.bool x.1.2.2.2.1,.int .i64 x.1.2.2.2.2.1,.int .i64 x.1.2.2.2.2.2.1,.int .i64 x.1.2.2.2.2.2.2.1,.int .i64 x.1.2.2.2.2.2.2.2.1,.ro true 41 t2 x.1.2.2.2.2.2.2.2.2.1,.ro true 116 t3 x.1.2.2.2.2.2.2.2.2.2.1,.int .i64 x.1.2.2.2.2.2.2.2.2.2.2.1.1,.int .i64 x.1.2.2.2.2.2.2.2.2.2.2.1.2.1,.int .i64 x.1.2.2.2.2.2.2.2.2.2.2.1.2.2.1,.bool x.1.2.2.2.2.2.2.2.2.2.2.1.2.2.2,.own true none 92 t6 a.2,.int .i64 x.1.2.2.2.2.2.2.2.2.2.2.2.2.1.1,.int .i64 x.1.2.2.2.2.2.2.2.2.2.2.2.2.1.2.1,.int .i64 x.1.2.2.2.2.2.2.2.2.2.2.2.2.1.2.2.1,.int .i64 x.1.2.2.2.2.2.2.2.2.2.2.2.2.1.2.2.2,.ro true 45 t11 x.1.2.2.2.2.2.2.2.2.2.2.2.2.2.1,.ro true 56 t12 x.1.2.2.2.2.2.2.2.2.2.2.2.2.2.2]⟩),(100004,⟨0,.agg,[.int .i64 x.2.1.1,.int .i64 x.2.1.2.1,.int .i64 x.2.1.2.2.1,.bool x.2.1.2.2.2]⟩),(100006,⟨0,.agg,[.int .i64 0,.bool false,.bool false,.bool false,.int .i64 0,.int .i64 0,.int .i64 0,.int .i64 0,.nil,.nil,.int .i64 0,.int .i64 0,.int .i64 0,.bool false,.nil,.int .i64 0,.int .i64 0,.int .i64 0,.int .i64 0,.nil,.nil]⟩)]
def S_l1 (x:ab ps)(a:A_l1):St:=ay [(2,⟨0,.one,[.int .i64 x.2.2.1]⟩),(3,⟨0,.one,[.bp 100003 0]⟩),(4,⟨0,.one,[.bp 100004 0]⟩),(6,⟨0,.one,[.bp 100006 0]⟩),(7,⟨0,.one,[.int .i64 a.1]⟩),(8,⟨0,.one,[.bp 100008 0]⟩),(9,⟨0,.one,[.int .i64 a.2.1]⟩),(100003,⟨0,.agg,[.int .i64 x.1.1,.bool x.1.2.1,.bool x.1.2.2.1,.bool x.1.2.2.2.1,.int .i64 x.1.2.2.2.2.1,.int .i64 x.1.2.2.2.2.2.1,.int .i64 x.1.2.2.2.2.2.2.1,.int .i64 x.1.2.2.2.2.2.2.2.1,.ro true 41 t2 x.1.2.2.2.2.2.2.2.2.1,.ro true 116 t3 x.1.2.2.2.2.2.2.2.2.2.1,.int .i64 x.1.2.2.2.2.2.2.2.2.2.2.1.1,.int .i64 x.1.2.2.2.2.2.2.2.2.2.2.1.2.1,.int .i64 x.1.2.2.2.2.2.2.2.2.2.2.1.2.2.1,.bool x.1.2.2.2.2.2.2.2.2.2.2.1.2.2.2,.own true none 92 t6 a.2.2.1,.int .i64 x.1.2.2.2.2.2.2.2.2.2.2.2.2.1.1,.int .i64 x.1.2.2.2.2.2.2.2.2.2.2.2.2.1.2.1,.int .i64 x.1.2.2.2.2.2.2.2.2.2.2.2.2.1.2.2.1,.int .i64 x.1.2.2.2.2.2.2.2.2.2.2.2.2.1.2.2.2,.ro true 45 t11 x.1.2.2.2.2.2.2.2.2.2.2.2.2.2.1,.ro true 56 t12 x.1.2.2.2.2.2.2.2.2.2.2.2.2.2.2]⟩),(100004,⟨0,.agg,[.int .i64 x.2.1.1,.int .i64 x.2.1.2.1,.int .i64 x.2.1.2.2.1,.bool x.2.1.2.2.2]⟩),(100006,⟨0,.agg,[.int .i64 0,.bool false,.bool false,.bool false,.int .i64 0,.int .i64 0,.int .i64 0,.int .i64 0,.nil,.nil,.int .i64 0,.int .i64 0,.int .i64 0,.bool false,.nil,.int .i64 0,.int .i64 0,.int .i64 0,.int .i64 0,.nil,.nil]⟩),(100008,⟨0,.agg,[.int .i64 a.2.2.2.1,.int .i64 a.2.2.2.2.1,.int .i64 a.2.2.2.2.2.1,.ro true 3 (.int .i64) a.2.2.2.2.2.2]⟩)]
def k_l0 (K:Nat)(x:ab ps):Ex->St->Option Res:=kAt (ev K) body [1,0,1,0] fin
def N_l0 (K:Nat)(x:ab ps):A_l0->Option Res:=λa=>be live_l0 (ev K (sub body [1,0,1,0,0])) K (S_l0 x a) (k_l0 K x)
def k_l1 (K:Nat)(x:ab ps)(r_l0:St->Option Res):Ex->St->Option Res:=kAt (ev K) (sub body [1,0,1,0,0]) [1,0,0,1,1,1,0,0] (bo live_l0 r_l0 (k_l0 K x))
def N_l1 (K:Nat)(x:ab ps)(r_l0:St->Option Res):A_l1->Option Res:=λa=>be live_l1 (ev K (sub body [1,0,1,0,0,1,0,0,1,1,1,0,0,0])) K (S_l1 x a) (k_l1 K x r_l0)
end Q100
namespace Q101
abbrev ps:List PK:=[.own t38,.rd (.list false 41 t2),.rd (.int .i64)]
abbrev rs:List RK:=[.v t38]
abbrev Res:=am rs×ak ps
abbrev A_l0:=Int×Int×Bool×Bool×Bool×Int×Int×Int×Int×List (Ty.den t2)×List (Ty.den t3)×Int×Int×Int×Bool×List (Ty.den t6)×Int×Int×Int×Int×List (Ty.den t11)×List (Ty.den t12)
def l0.step (K:Nat)(x:ab ps)(rec_l0:A_l0->Option Res)(a:A_l0):Option Res:=bif decide (a.1<(AA x.2.1:Int)) then ((idx x.2.1 a.1).bind λy1=>bif y1.1==a.2.1 then ((Q99.f K ((a.2.1,(a.2.2.1,(a.2.2.2.1,(a.2.2.2.2.1,(a.2.2.2.2.2.1,(a.2.2.2.2.2.2.1,(a.2.2.2.2.2.2.2.1,(a.2.2.2.2.2.2.2.2.1,(a.2.2.2.2.2.2.2.2.2.1,(a.2.2.2.2.2.2.2.2.2.2.1,((a.2.2.2.2.2.2.2.2.2.2.2.1,(a.2.2.2.2.2.2.2.2.2.2.2.2.1,(a.2.2.2.2.2.2.2.2.2.2.2.2.2.1,a.2.2.2.2.2.2.2.2.2.2.2.2.2.2.1))),(a.2.2.2.2.2.2.2.2.2.2.2.2.2.2.2.1,((a.2.2.2.2.2.2.2.2.2.2.2.2.2.2.2.2.1,(a.2.2.2.2.2.2.2.2.2.2.2.2.2.2.2.2.2.1,(a.2.2.2.2.2.2.2.2.2.2.2.2.2.2.2.2.2.2.1,a.2.2.2.2.2.2.2.2.2.2.2.2.2.2.2.2.2.2.2.1))),a.2.2.2.2.2.2.2.2.2.2.2.2.2.2.2.2.2.2.2.2))))))))))))),y1,())).bind λy2=>rec_l0 (wr .i64 (a.1+1),y2.1.1.1,y2.1.1.2.1,y2.1.1.2.2.1,y2.1.1.2.2.2.1,y2.1.1.2.2.2.2.1,y2.1.1.2.2.2.2.2.1,y2.1.1.2.2.2.2.2.2.1,y2.1.1.2.2.2.2.2.2.2.1,y2.1.1.2.2.2.2.2.2.2.2.1,y2.1.1.2.2.2.2.2.2.2.2.2.1,y2.1.1.2.2.2.2.2.2.2.2.2.2.1.1,y2.1.1.2.2.2.2.2.2.2.2.2.2.1.2.1,y2.1.1.2.2.2.2.2.2.2.2.2.2.1.2.2.1,y2.1.1.2.2.2.2.2.2.2.2.2.2.1.2.2.2,y2.1.1.2.2.2.2.2.2.2.2.2.2.2.1,y2.1.1.2.2.2.2.2.2.2.2.2.2.2.2.1.1,y2.1.1.2.2.2.2.2.2.2.2.2.2.2.2.1.2.1,y2.1.1.2.2.2.2.2.2.2.2.2.2.2.2.1.2.2.1,y2.1.1.2.2.2.2.2.2.2.2.2.2.2.2.1.2.2.2,y2.1.1.2.2.2.2.2.2.2.2.2.2.2.2.2.1,y2.1.1.2.2.2.2.2.2.2.2.2.2.2.2.2.2)) else ((Q98.f K ((a.2.1,(a.2.2.1,(a.2.2.2.1,(a.2.2.2.2.1,(a.2.2.2.2.2.1,(a.2.2.2.2.2.2.1,(a.2.2.2.2.2.2.2.1,(a.2.2.2.2.2.2.2.2.1,(a.2.2.2.2.2.2.2.2.2.1,(a.2.2.2.2.2.2.2.2.2.2.1,((a.2.2.2.2.2.2.2.2.2.2.2.1,(a.2.2.2.2.2.2.2.2.2.2.2.2.1,(a.2.2.2.2.2.2.2.2.2.2.2.2.2.1,a.2.2.2.2.2.2.2.2.2.2.2.2.2.2.1))),(a.2.2.2.2.2.2.2.2.2.2.2.2.2.2.2.1,((a.2.2.2.2.2.2.2.2.2.2.2.2.2.2.2.2.1,(a.2.2.2.2.2.2.2.2.2.2.2.2.2.2.2.2.2.1,(a.2.2.2.2.2.2.2.2.2.2.2.2.2.2.2.2.2.2.1,a.2.2.2.2.2.2.2.2.2.2.2.2.2.2.2.2.2.2.2.1))),a.2.2.2.2.2.2.2.2.2.2.2.2.2.2.2.2.2.2.2.2))))))))))))),y1,x.2.2.1,())).bind λy3=>(Q100.f K (y3.1.1,y1,x.2.2.1,())).bind λy4=>rec_l0 (wr .i64 (a.1+1),y4.1.1.1,y4.1.1.2.1,y4.1.1.2.2.1,y4.1.1.2.2.2.1,y4.1.1.2.2.2.2.1,y4.1.1.2.2.2.2.2.1,y4.1.1.2.2.2.2.2.2.1,y4.1.1.2.2.2.2.2.2.2.1,y4.1.1.2.2.2.2.2.2.2.2.1,y4.1.1.2.2.2.2.2.2.2.2.2.1,y4.1.1.2.2.2.2.2.2.2.2.2.2.1.1,y4.1.1.2.2.2.2.2.2.2.2.2.2.1.2.1,y4.1.1.2.2.2.2.2.2.2.2.2.2.1.2.2.1,y4.1.1.2.2.2.2.2.2.2.2.2.2.1.2.2.2,y4.1.1.2.2.2.2.2.2.2.2.2.2.2.1,y4.1.1.2.2.2.2.2.2.2.2.2.2.2.2.1.1,y4.1.1.2.2.2.2.2.2.2.2.2.2.2.2.1.2.1,y4.1.1.2.2.2.2.2.2.2.2.2.2.2.2.1.2.2.1,y4.1.1.2.2.2.2.2.2.2.2.2.2.2.2.1.2.2.2,y4.1.1.2.2.2.2.2.2.2.2.2.2.2.2.2.1,y4.1.1.2.2.2.2.2.2.2.2.2.2.2.2.2.2))) else (some (((a.2.1,(a.2.2.1,(a.2.2.2.1,(a.2.2.2.2.1,(a.2.2.2.2.2.1,(a.2.2.2.2.2.2.1,(a.2.2.2.2.2.2.2.1,(a.2.2.2.2.2.2.2.2.1,(a.2.2.2.2.2.2.2.2.2.1,(a.2.2.2.2.2.2.2.2.2.2.1,((a.2.2.2.2.2.2.2.2.2.2.2.1,(a.2.2.2.2.2.2.2.2.2.2.2.2.1,(a.2.2.2.2.2.2.2.2.2.2.2.2.2.1,a.2.2.2.2.2.2.2.2.2.2.2.2.2.2.1))),(a.2.2.2.2.2.2.2.2.2.2.2.2.2.2.2.1,((a.2.2.2.2.2.2.2.2.2.2.2.2.2.2.2.2.1,(a.2.2.2.2.2.2.2.2.2.2.2.2.2.2.2.2.2.1,(a.2.2.2.2.2.2.2.2.2.2.2.2.2.2.2.2.2.2.1,a.2.2.2.2.2.2.2.2.2.2.2.2.2.2.2.2.2.2.2.1))),a.2.2.2.2.2.2.2.2.2.2.2.2.2.2.2.2.2.2.2.2))))))))))))),()),()))
def l0 (K:Nat)(x:ab ps):A_l0->Option Res:=ae (λrec_l0 a=>l0.step K x rec_l0 a) K
def pre (K:Nat)(N_l0:A_l0->Option Res)(x:ab ps):Option Res:=N_l0 (0,x.1.1,x.1.2.1,x.1.2.2.1,x.1.2.2.2.1,x.1.2.2.2.2.1,x.1.2.2.2.2.2.1,x.1.2.2.2.2.2.2.1,x.1.2.2.2.2.2.2.2.1,x.1.2.2.2.2.2.2.2.2.1,x.1.2.2.2.2.2.2.2.2.2.1,x.1.2.2.2.2.2.2.2.2.2.2.1.1,x.1.2.2.2.2.2.2.2.2.2.2.1.2.1,x.1.2.2.2.2.2.2.2.2.2.2.1.2.2.1,x.1.2.2.2.2.2.2.2.2.2.2.1.2.2.2,x.1.2.2.2.2.2.2.2.2.2.2.2.1,x.1.2.2.2.2.2.2.2.2.2.2.2.2.1.1,x.1.2.2.2.2.2.2.2.2.2.2.2.2.1.2.1,x.1.2.2.2.2.2.2.2.2.2.2.2.2.1.2.2.1,x.1.2.2.2.2.2.2.2.2.2.2.2.2.1.2.2.2,x.1.2.2.2.2.2.2.2.2.2.2.2.2.2.1,x.1.2.2.2.2.2.2.2.2.2.2.2.2.2.2)
def f (K:Nat)(x:ab ps):Option Res:=pre K (l0 K x) x
def c (K:Nat):Ctr:=⟨213,ps,rs,false,f K⟩
end Q101
namespace Q102
abbrev ps:List PK:=[.own (.list true 41 t2),.rd t2]
abbrev rs:List RK:=[.v (.list true 41 t2),.v .bool]
abbrev Res:=am rs×ak ps
abbrev A_l0:=Int
def l0.step (K:Nat)(x:ab ps)(rec_l0:A_l0->Option Res)(a:A_l0):Option Res:=bif decide (a<(AA x.1:Int)) then ((idx x.1 a).bind λ_=>(idx x.1 (AB a:Nat)).bind λy8=>bif decide (y8.1<x.2.1.1) then (rec_l0 (wr .i64 (a+1))) else (bif decide (0<=0)&&decide (0<=a)&&decide (a<=(AA x.1:Int))&&true then (bif decide ((AA ([]:List (Ty.den t2))+AA ((x.1.take (AB a)).drop (AB 0)))*32<=aj) then (bif decide ((AA ([]++((x.1.take (AB a)).drop (AB 0)))+AA ([x.2.1]))*32<=aj) then (bif decide (0<=a)&&decide (a<=(AA x.1:Int))&&decide ((AA x.1:Int)<=(AA x.1:Int))&&true then (bif decide ((AA (([]++((x.1.take (AB a)).drop (AB 0)))++([x.2.1]))+AA ((x.1.take (AB (AA x.1:Int))).drop (AB a)))*32<=aj) then (some (((([]++((x.1.take (AB a)).drop (AB 0)))++([x.2.1]))++((x.1.take (AB (AA x.1:Int))).drop (AB a)),true,()),())) else none) else none) else none) else none) else none)) else (bif decide (0<=0)&&decide (0<=a)&&decide (a<=(AA x.1:Int))&&true then (bif decide ((AA ([]:List (Ty.den t2))+AA ((x.1.take (AB a)).drop (AB 0)))*32<=aj) then (bif decide ((AA ([]++((x.1.take (AB a)).drop (AB 0)))+AA ([x.2.1]))*32<=aj) then (bif decide (0<=a)&&decide (a<=(AA x.1:Int))&&decide ((AA x.1:Int)<=(AA x.1:Int))&&true then (bif decide ((AA (([]++((x.1.take (AB a)).drop (AB 0)))++([x.2.1]))+AA ((x.1.take (AB (AA x.1:Int))).drop (AB a)))*32<=aj) then (some (((([]++((x.1.take (AB a)).drop (AB 0)))++([x.2.1]))++((x.1.take (AB (AA x.1:Int))).drop (AB a)),true,()),())) else none) else none) else none) else none) else none)
def l0 (K:Nat)(x:ab ps):A_l0->Option Res:=ae (λrec_l0 a=>l0.step K x rec_l0 a) K
def pre (K:Nat)(N_l0:A_l0->Option Res)(x:ab ps):Option Res:=(Q94.f K (x.1,x.2.1.1,())).bind λy1=>bif decide (y1.1.1>=0) then ((idx x.1 y1.1.1).bind λ_=>(idx x.1 (AB y1.1.1:Nat)).bind λy3=>(Q78.f K (x.2.1,y3,())).bind λy4=>bif !y4.1.1 then (some ((x.1,false,()),())) else (bif decide ((AA ([]:List (Ty.den t2))+AA x.1)*32<=aj) then ((idx ([]++x.1) y1.1.1).bind λ_=>(idx ([]++x.1) (AB y1.1.1:Nat)).bind λy6=>some ((([]++x.1).set (AB y1.1.1) x.2.1,true,()),())) else none)) else (N_l0 0)
def f (K:Nat)(x:ab ps):Option Res:=pre K (l0 K x) x
def c (K:Nat):Ctr:=⟨195,ps,rs,true,f K⟩
end Q102
namespace Q103
abbrev ps:List PK:=[.rd (.list false 41 t2),.rd (.list false 41 t2)]
abbrev rs:List RK:=[.v (.list true 41 t2)]
abbrev Res:=am rs×ak ps
abbrev A_l0:=List (Ty.den t2)×Int
def l0.step (K:Nat)(x:ab ps)(rec_l0:A_l0->Option Res)(a:A_l0):Option Res:=bif decide (a.2<(AA x.2.1:Int)) then ((idx x.2.1 a.2).bind λy3=>(Q102.f K (a.1,y3,())).bind λy4=>rec_l0 (y4.1.1,wr .i64 (a.2+1))) else (some ((a.1,()),()))
def l0 (K:Nat)(x:ab ps):A_l0->Option Res:=ae (λrec_l0 a=>l0.step K x rec_l0 a) K
def pre (K:Nat)(N_l0:A_l0->Option Res)(x:ab ps):Option Res:=(Q62.f K (x.1,())).bind λy1=>bif !y1.1.1 then (some (([],()),())) else ((Q62.f K (x.2.1,())).bind λy2=>bif !y2.1.1 then (some (([],()),())) else (bif decide ((AA ([]:List (Ty.den t2))+AA x.1)*32<=aj) then (N_l0 ([]++x.1,0)) else none))
def f (K:Nat)(x:ab ps):Option Res:=pre K (l0 K x) x
def c (K:Nat):Ctr:=⟨245,ps,rs,true,f K⟩
end Q103
namespace Q104
abbrev ps:List PK:=[.rd t26,.rd (.int .i64),.rd (.list false 41 t2)]
abbrev rs:List RK:=[.v (.list true 41 t2)]
abbrev Res:=am rs×ak ps
abbrev A_l0:=Int
def l0.step (K:Nat)(x:ab ps)(rec_l0:A_l0->Option Res)(a:A_l0):Option Res:=bif decide (a<(AA x.1.2.2.2.2.2.2.2.2.2.2.2.2.2.2:Int)) then ((idx x.1.2.2.2.2.2.2.2.2.2.2.2.2.2.2 a).bind λy1=>bif y1.1==x.2.1 then ((idx x.1.2.2.2.2.2.2.2.2.2.2.2.2.2.2 a).bind λy2=>(Q103.f K (y2.2,x.2.2.1,())).bind λy3=>some ((y3.1.1,()),())) else (rec_l0 (wr .i64 (a+1)))) else (bif decide ((AA ([]:List (Ty.den t2))+AA x.2.2.1)*32<=aj) then (some (([]++x.2.2.1,()),())) else none)
def l0 (K:Nat)(x:ab ps):A_l0->Option Res:=ae (λrec_l0 a=>l0.step K x rec_l0 a) K
def pre (K:Nat)(N_l0:A_l0->Option Res)(x:ab ps):Option Res:=N_l0 0
def f (K:Nat)(x:ab ps):Option Res:=pre K (l0 K x) x
def c (K:Nat):Ctr:=⟨232,ps,rs,true,f K⟩
end Q104
namespace Q105
abbrev ps:List PK:=[.own t38,.rd (.int .i64),.rd (.list false 41 t2)]
abbrev rs:List RK:=[.v t38]
abbrev Res:=am rs×ak ps
abbrev A_l0:=List (Ty.den t12)×Bool×Int
def l0.step (K:Nat)(x:ab ps)(rec_l0:A_l0->Option Res)(a:A_l0):Option Res:=bif decide (a.2.2<(AA x.1.2.2.2.2.2.2.2.2.2.2.2.2.2.2:Int)) then ((idx x.1.2.2.2.2.2.2.2.2.2.2.2.2.2.2 a.2.2).bind λy1=>bif !a.2.1 then (bif decide (y1.1>=x.2.1) then (bif decide ((AA a.1+AA ([(x.2.1,x.2.2.1)]))*32<=aj) then (bif y1.1 != x.2.1 then (bif decide ((AA (a.1++([(x.2.1,x.2.2.1)]))+AA ([y1]))*32<=aj) then (rec_l0 ((a.1++([(x.2.1,x.2.2.1)]))++([y1]),true,wr .i64 (a.2.2+1))) else none) else (rec_l0 (a.1++([(x.2.1,x.2.2.1)]),true,wr .i64 (a.2.2+1)))) else none) else (bif y1.1 != x.2.1 then (bif decide ((AA a.1+AA ([y1]))*32<=aj) then (rec_l0 (a.1++([y1]),a.2.1,wr .i64 (a.2.2+1))) else none) else (rec_l0 (a.1,a.2.1,wr .i64 (a.2.2+1))))) else (bif y1.1 != x.2.1 then (bif decide ((AA a.1+AA ([y1]))*32<=aj) then (rec_l0 (a.1++([y1]),a.2.1,wr .i64 (a.2.2+1))) else none) else (rec_l0 (a.1,a.2.1,wr .i64 (a.2.2+1))))) else (bif !a.2.1 then (bif decide ((AA a.1+AA ([(x.2.1,x.2.2.1)]))*32<=aj) then (some (((x.1.1,(x.1.2.1,(x.1.2.2.1,(x.1.2.2.2.1,(x.1.2.2.2.2.1,(x.1.2.2.2.2.2.1,(x.1.2.2.2.2.2.2.1,(x.1.2.2.2.2.2.2.2.1,(x.1.2.2.2.2.2.2.2.2.1,(x.1.2.2.2.2.2.2.2.2.2.1,(x.1.2.2.2.2.2.2.2.2.2.2.1,(x.1.2.2.2.2.2.2.2.2.2.2.2.1,(x.1.2.2.2.2.2.2.2.2.2.2.2.2.1,(x.1.2.2.2.2.2.2.2.2.2.2.2.2.2.1,a.1++([(x.2.1,x.2.2.1)]))))))))))))))),()),())) else none) else (some (((x.1.1,(x.1.2.1,(x.1.2.2.1,(x.1.2.2.2.1,(x.1.2.2.2.2.1,(x.1.2.2.2.2.2.1,(x.1.2.2.2.2.2.2.1,(x.1.2.2.2.2.2.2.2.1,(x.1.2.2.2.2.2.2.2.2.1,(x.1.2.2.2.2.2.2.2.2.2.1,(x.1.2.2.2.2.2.2.2.2.2.2.1,(x.1.2.2.2.2.2.2.2.2.2.2.2.1,(x.1.2.2.2.2.2.2.2.2.2.2.2.2.1,(x.1.2.2.2.2.2.2.2.2.2.2.2.2.2.1,a.1)))))))))))))),()),())))
def l0 (K:Nat)(x:ab ps):A_l0->Option Res:=ae (λrec_l0 a=>l0.step K x rec_l0 a) K
def pre (K:Nat)(N_l0:A_l0->Option Res)(x:ab ps):Option Res:=N_l0 ([],false,0)
def f (K:Nat)(x:ab ps):Option Res:=pre K (l0 K x) x
def c (K:Nat):Ctr:=⟨233,ps,rs,false,f K⟩
end Q105
end
end Go.Proofs.YtmcbmojdeikcdaaGreatEv
