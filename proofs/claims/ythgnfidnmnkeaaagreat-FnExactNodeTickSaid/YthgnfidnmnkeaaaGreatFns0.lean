/- The functions, on plain values. Printed by run3.py. -/
import Derived.Test.YthgnfidnmnkeaaaGreatProg
import Derived.Test.YthgnfidnmnkeaaaGreatE0
set_option linter.unusedVariables false
set_option maxRecDepth 100000
namespace Go.Proofs.YthgnfidnmnkeaaaGreatEv
open Go Go.Proofs
noncomputable section
@[reducible] def t0:Ty:=.pair (.int .i64) .bool
@[reducible] def t1:Ty:=.pair (.int .i64) t0
@[reducible] def t2:Ty:=.pair (.int .i64) t1
@[reducible] def t3:Ty:=.pair t2 (.int .i64)
@[reducible] def t4:Ty:=.pair (.int .i64) (.list true 3 (.int .i64))
@[reducible] def t5:Ty:=.pair (.int .i64) t4
@[reducible] def t6:Ty:=.pair (.int .i64) t5
@[reducible] def t7:Ty:=.pair (.int .i64) (.int .i64)
@[reducible] def t8:Ty:=.pair (.int .i64) t7
@[reducible] def t9:Ty:=.pair (.int .i64) t8
@[reducible] def t10:Ty:=.pair t9 (.list true 3 (.int .i64))
@[reducible] def t11:Ty:=.pair (.int .i64) t10
@[reducible] def t12:Ty:=.pair (.int .i64) (.list true 132 t2)
@[reducible] def t13:Ty:=.pair (.int .i64) (.list false 3 (.int .i64))
@[reducible] def t14:Ty:=.pair (.int .i64) t13
@[reducible] def t15:Ty:=.pair (.int .i64) t14
@[reducible] def t16:Ty:=.pair t9 (.list false 3 (.int .i64))
@[reducible] def t17:Ty:=.pair (.int .i64) t16
@[reducible] def t18:Ty:=.pair (.int .i64) (.list false 132 t2)
@[reducible] def t19:Ty:=.pair t9 (.list false 132 t2)
@[reducible] def t20:Ty:=.pair (.int .i64) t19
@[reducible] def t21:Ty:=.pair (.int .i64) t20
@[reducible] def t22:Ty:=.pair (.int .i64) t21
@[reducible] def t23:Ty:=.pair (.int .i64) t22
@[reducible] def t24:Ty:=.pair (.int .i64) t23
@[reducible] def t25:Ty:=.pair (.int .i64) t24
@[reducible] def t26:Ty:=.pair t9 (.list true 132 t2)
@[reducible] def t27:Ty:=.pair (.int .i64) t26
@[reducible] def t28:Ty:=.pair (.int .i64) t27
@[reducible] def t29:Ty:=.pair (.int .i64) t28
@[reducible] def t30:Ty:=.pair (.int .i64) t29
@[reducible] def t31:Ty:=.pair (.int .i64) t30
@[reducible] def t32:Ty:=.pair (.int .i64) t31
@[reducible] def t33:Ty:=.pair (.int .i64) .hdr
@[reducible] def t34:Ty:=.pair (.int .i64) t33
@[reducible] def t35:Ty:=.pair (.int .i64) t34
@[reducible] def t36:Ty:=.pair (.int .i64) (.list false 171 t2)
@[reducible] def t37:Ty:=.pair (.list false 165 t17) (.list false 168 t36)
@[reducible] def t38:Ty:=.pair t9 t37
@[reducible] def t39:Ty:=.pair (.list false 162 t15) t38
@[reducible] def t40:Ty:=.pair t2 t39
@[reducible] def t41:Ty:=.pair (.list false 176 t3) t40
@[reducible] def t42:Ty:=.pair (.list false 171 t2) t41
@[reducible] def t43:Ty:=.pair (.int .i64) t42
@[reducible] def t44:Ty:=.pair (.int .i64) t43
@[reducible] def t45:Ty:=.pair (.int .i64) t44
@[reducible] def t46:Ty:=.pair (.int .i64) t45
@[reducible] def t47:Ty:=.pair .bool t46
@[reducible] def t48:Ty:=.pair .bool t47
@[reducible] def t49:Ty:=.pair .bool t48
@[reducible] def t50:Ty:=.pair (.int .i64) t49
@[reducible] def t51:Ty:=.pair (.list true 94 t11) (.list true 119 t12)
@[reducible] def t52:Ty:=.pair t9 t51
@[reducible] def t53:Ty:=.pair (.list true 177 t6) t52
@[reducible] def t54:Ty:=.pair t2 t53
@[reducible] def t55:Ty:=.pair (.list true 173 t3) t54
@[reducible] def t56:Ty:=.pair (.list true 132 t2) t55
@[reducible] def t57:Ty:=.pair (.int .i64) t56
@[reducible] def t58:Ty:=.pair (.int .i64) t57
@[reducible] def t59:Ty:=.pair (.int .i64) t58
@[reducible] def t60:Ty:=.pair (.int .i64) t59
@[reducible] def t61:Ty:=.pair .bool t60
@[reducible] def t62:Ty:=.pair .bool t61
@[reducible] def t63:Ty:=.pair .bool t62
@[reducible] def t64:Ty:=.pair (.int .i64) t63
@[reducible] def t65:Ty:=.pair (.list false 94 t17) (.list false 119 t18)
@[reducible] def t66:Ty:=.pair t9 t65
@[reducible] def t67:Ty:=.pair (.list false 177 t15) t66
@[reducible] def t68:Ty:=.pair t2 t67
@[reducible] def t69:Ty:=.pair (.list false 173 t3) t68
@[reducible] def t70:Ty:=.pair (.list false 132 t2) t69
@[reducible] def t71:Ty:=.pair (.int .i64) t70
@[reducible] def t72:Ty:=.pair (.int .i64) t71
@[reducible] def t73:Ty:=.pair (.int .i64) t72
@[reducible] def t74:Ty:=.pair (.int .i64) t73
@[reducible] def t75:Ty:=.pair .bool t74
@[reducible] def t76:Ty:=.pair .bool t75
@[reducible] def t77:Ty:=.pair .bool t76
@[reducible] def t78:Ty:=.pair (.int .i64) t77
@[reducible] def t79:Ty:=.pair (.list true 94 t17) (.list true 119 t18)
@[reducible] def t80:Ty:=.pair t9 t79
@[reducible] def t81:Ty:=.pair (.list true 177 t15) t80
@[reducible] def t82:Ty:=.pair t2 t81
@[reducible] def t83:Ty:=.pair (.list true 173 t3) t82
@[reducible] def t84:Ty:=.pair (.list true 132 t2) t83
@[reducible] def t85:Ty:=.pair (.int .i64) t84
@[reducible] def t86:Ty:=.pair (.int .i64) t85
@[reducible] def t87:Ty:=.pair (.int .i64) t86
@[reducible] def t88:Ty:=.pair (.int .i64) t87
@[reducible] def t89:Ty:=.pair .bool t88
@[reducible] def t90:Ty:=.pair .bool t89
@[reducible] def t91:Ty:=.pair .bool t90
@[reducible] def t92:Ty:=.pair (.int .i64) t91
@[reducible] def t93:Ty:=.pair (.int .i64) (.list true 171 t2)
@[reducible] def t94:Ty:=.pair (.list true 165 t11) (.list true 168 t93)
@[reducible] def t95:Ty:=.pair t9 t94
@[reducible] def t96:Ty:=.pair (.list true 162 t6) t95
@[reducible] def t97:Ty:=.pair t2 t96
@[reducible] def t98:Ty:=.pair (.list true 176 t3) t97
@[reducible] def t99:Ty:=.pair (.list true 171 t2) t98
@[reducible] def t100:Ty:=.pair (.int .i64) t99
@[reducible] def t101:Ty:=.pair (.int .i64) t100
@[reducible] def t102:Ty:=.pair (.int .i64) t101
@[reducible] def t103:Ty:=.pair (.int .i64) t102
@[reducible] def t104:Ty:=.pair .bool t103
@[reducible] def t105:Ty:=.pair .bool t104
@[reducible] def t106:Ty:=.pair .bool t105
@[reducible] def t107:Ty:=.pair (.int .i64) t106
@[reducible] def ty_laws_Probe_D:Ty:=t2
@[reducible] def ty_laws_Coord_D:Ty:=t9
@[reducible] def ty_laws_Node_D:Ty:=t107
@[reducible] def ty_impl_Probe_D:Ty:=t2
@[reducible] def ty_impl_Coord_D:Ty:=t9
@[reducible] def ty_impl_Node_D:Ty:=t64
@[reducible] def ty_impl_Word_D:Ty:=t32
@[reducible] def ty_impl_Place_D:Ty:=t11
@[reducible] def ty_impl_Foreign_D:Ty:=t12
@[reducible] def ty_impl_Fact_D:Ty:=t2
@[reducible] def ty_laws_Doubt_D:Ty:=t6
@[reducible] def ty_laws_Place_D:Ty:=t11
@[reducible] def ty_laws_Foreign_D:Ty:=t93
@[reducible] def ty_laws_Fact_D:Ty:=t2
@[reducible] def ty_impl_Item_D:Ty:=t3
@[reducible] def ty_laws_Item_D:Ty:=t3
@[reducible] def ty_impl_Doubt_D:Ty:=t6
@[reducible] def ty_laws_Probe_S:Ty:=t2
@[reducible] def ty_laws_Coord_S:Ty:=t9
@[reducible] def ty_laws_Node_S:Ty:=t50
@[reducible] def ty_impl_Probe_S:Ty:=t2
@[reducible] def ty_impl_Coord_S:Ty:=t9
@[reducible] def ty_impl_Node_S:Ty:=t78
@[reducible] def ty_impl_Word_S:Ty:=t25
@[reducible] def ty_impl_Place_S:Ty:=t17
@[reducible] def ty_impl_Foreign_S:Ty:=t18
@[reducible] def ty_impl_Fact_S:Ty:=t2
@[reducible] def ty_laws_Doubt_S:Ty:=t15
@[reducible] def ty_laws_Place_S:Ty:=t17
@[reducible] def ty_laws_Foreign_S:Ty:=t36
@[reducible] def ty_laws_Fact_S:Ty:=t2
@[reducible] def ty_impl_Item_S:Ty:=t3
@[reducible] def ty_laws_Item_S:Ty:=t3
@[reducible] def ty_impl_Doubt_S:Ty:=t15
@[reducible] def ty_laws_Probe_NS:Ty:=t2
@[reducible] def ty_laws_Coord_NS:Ty:=t9
@[reducible] def ty_impl_Probe_NS:Ty:=t2
@[reducible] def ty_impl_Coord_NS:Ty:=t9
@[reducible] def ty_impl_Word_NS:Ty:=t25
@[reducible] def ty_impl_Place_NS:Ty:=t17
@[reducible] def ty_impl_Foreign_NS:Ty:=t18
@[reducible] def ty_impl_Fact_NS:Ty:=t2
@[reducible] def ty_laws_Doubt_NS:Ty:=t15
@[reducible] def ty_laws_Place_NS:Ty:=t17
@[reducible] def ty_laws_Foreign_NS:Ty:=t36
@[reducible] def ty_laws_Fact_NS:Ty:=t2
@[reducible] def ty_impl_Item_NS:Ty:=t3
@[reducible] def ty_laws_Item_NS:Ty:=t3
@[reducible] def ty_impl_Doubt_NS:Ty:=t15
@[reducible] def ty_laws_Probe_ND:Ty:=t2
@[reducible] def ty_laws_Coord_ND:Ty:=t9
@[reducible] def ty_impl_Probe_ND:Ty:=t2
@[reducible] def ty_impl_Coord_ND:Ty:=t9
@[reducible] def ty_impl_Node_ND:Ty:=t92
@[reducible] def ty_impl_Word_ND:Ty:=t25
@[reducible] def ty_impl_Place_ND:Ty:=t17
@[reducible] def ty_impl_Foreign_ND:Ty:=t18
@[reducible] def ty_impl_Fact_ND:Ty:=t2
@[reducible] def ty_laws_Doubt_ND:Ty:=t15
@[reducible] def ty_laws_Place_ND:Ty:=t17
@[reducible] def ty_laws_Foreign_ND:Ty:=t36
@[reducible] def ty_laws_Fact_ND:Ty:=t2
@[reducible] def ty_impl_Item_ND:Ty:=t3
@[reducible] def ty_laws_Item_ND:Ty:=t3
@[reducible] def ty_impl_Doubt_ND:Ty:=t15
@[reducible] def ty_laws_Probe_WT:Ty:=t2
@[reducible] def ty_laws_Coord_WT:Ty:=t9
@[reducible] def ty_laws_Node_WT:Ty:=t50
@[reducible] def ty_impl_Probe_WT:Ty:=t2
@[reducible] def ty_impl_Coord_WT:Ty:=t9
@[reducible] def ty_impl_Node_WT:Ty:=t78
@[reducible] def ty_impl_Word_WT:Ty:=t25
@[reducible] def ty_impl_Place_WT:Ty:=t17
@[reducible] def ty_impl_Foreign_WT:Ty:=t18
@[reducible] def ty_impl_Fact_WT:Ty:=t2
@[reducible] def ty_laws_Doubt_WT:Ty:=t15
@[reducible] def ty_laws_Place_WT:Ty:=t17
@[reducible] def ty_laws_Foreign_WT:Ty:=t36
@[reducible] def ty_laws_Fact_WT:Ty:=t2
@[reducible] def ty_impl_Item_WT:Ty:=t3
@[reducible] def ty_laws_Item_WT:Ty:=t3
@[reducible] def ty_impl_Doubt_WT:Ty:=t15
@[reducible] def ty_laws_Probe_WF:Ty:=t2
@[reducible] def ty_laws_Coord_WF:Ty:=t9
@[reducible] def ty_laws_Node_WF:Ty:=t50
@[reducible] def ty_impl_Probe_WF:Ty:=t2
@[reducible] def ty_impl_Coord_WF:Ty:=t9
@[reducible] def ty_impl_Node_WF:Ty:=t78
@[reducible] def ty_impl_Word_WF:Ty:=t32
@[reducible] def ty_impl_Place_WF:Ty:=t17
@[reducible] def ty_impl_Foreign_WF:Ty:=t18
@[reducible] def ty_impl_Fact_WF:Ty:=t2
@[reducible] def ty_laws_Doubt_WF:Ty:=t15
@[reducible] def ty_laws_Place_WF:Ty:=t17
@[reducible] def ty_laws_Foreign_WF:Ty:=t36
@[reducible] def ty_laws_Fact_WF:Ty:=t2
@[reducible] def ty_impl_Item_WF:Ty:=t3
@[reducible] def ty_laws_Item_WF:Ty:=t3
@[reducible] def ty_impl_Doubt_WF:Ty:=t15
@[reducible] def ty_laws_Probe_NT:Ty:=t2
@[reducible] def ty_laws_Coord_NT:Ty:=t9
@[reducible] def ty_laws_Node_NT:Ty:=t50
@[reducible] def ty_impl_Probe_NT:Ty:=t2
@[reducible] def ty_impl_Coord_NT:Ty:=t9
@[reducible] def ty_impl_Node_NT:Ty:=t78
@[reducible] def ty_impl_Word_NT:Ty:=t25
@[reducible] def ty_impl_Place_NT:Ty:=t17
@[reducible] def ty_impl_Foreign_NT:Ty:=t18
@[reducible] def ty_impl_Fact_NT:Ty:=t2
@[reducible] def ty_laws_Doubt_NT:Ty:=t15
@[reducible] def ty_laws_Place_NT:Ty:=t17
@[reducible] def ty_laws_Foreign_NT:Ty:=t36
@[reducible] def ty_laws_Fact_NT:Ty:=t2
@[reducible] def ty_impl_Item_NT:Ty:=t3
@[reducible] def ty_laws_Item_NT:Ty:=t3
@[reducible] def ty_impl_Doubt_NT:Ty:=t15
@[reducible] def ty_laws_Probe_NL:Ty:=t2
@[reducible] def ty_laws_Coord_NL:Ty:=t9
@[reducible] def ty_impl_Probe_NL:Ty:=t2
@[reducible] def ty_impl_Coord_NL:Ty:=t9
@[reducible] def ty_impl_Word_NL:Ty:=t32
@[reducible] def ty_impl_Place_NL:Ty:=t11
@[reducible] def ty_impl_Foreign_NL:Ty:=t18
@[reducible] def ty_impl_Fact_NL:Ty:=t2
@[reducible] def ty_laws_Doubt_NL:Ty:=t6
@[reducible] def ty_laws_Place_NL:Ty:=t11
@[reducible] def ty_laws_Foreign_NL:Ty:=t36
@[reducible] def ty_laws_Fact_NL:Ty:=t2
@[reducible] def ty_impl_Item_NL:Ty:=t3
@[reducible] def ty_laws_Item_NL:Ty:=t3
@[reducible] def ty_impl_Doubt_NL:Ty:=t6
def Tl_D:List (TypeId×TI):=[(3,.int .i64),(4,.bool),(5,.int .u8),(9,.str),(22,.slice 171 t2 32),(23,.slice 176 t3 40),(25,.struct t2 [(0,1,false),(1,1,false),(2,1,false),(3,1,false)]),(26,.slice 162 t6 48),(28,.struct t9 [(0,1,false),(1,1,false),(2,1,false),(3,1,false)]),(29,.slice 165 t11 64),(30,.slice 168 t93 32),(32,.struct t107 [(0,1,false),(1,1,false),(2,1,false),(3,1,false),(4,1,false),(5,1,false),(6,1,false),(7,1,false),(8,1,false),(9,1,false),(10,4,true),(14,1,false),(15,4,true),(19,1,false),(20,1,false)]),(36,.slice 132 t2 32),(37,.slice 173 t3 40),(38,.struct t2 [(0,1,false),(1,1,false),(2,1,false),(3,1,false)]),(39,.slice 177 t6 48),(40,.struct t9 [(0,1,false),(1,1,false),(2,1,false),(3,1,false)]),(41,.slice 94 t11 64),(42,.slice 119 t12 32),(44,.struct t64 [(0,1,false),(1,1,false),(2,1,false),(3,1,false),(4,1,false),(5,1,false),(6,1,false),(7,1,false),(8,1,false),(9,1,false),(10,4,true),(14,1,false),(15,4,true),(19,1,false),(20,1,false)]),(53,.struct t32 [(0,1,false),(1,1,false),(2,1,false),(3,1,false),(4,1,false),(5,1,false),(6,4,true),(10,1,false)]),(57,.slice 3 (.int .i64) 8),(75,.slice 53 t32 104),(94,.struct t11 [(0,1,false),(1,4,true),(5,1,false)]),(113,.fn),(119,.struct t12 [(0,1,false),(1,1,false)]),(130,.fn),(132,.struct t2 [(0,1,false),(1,1,false),(2,1,false),(3,1,false)]),(144,.fn),(150,.ptr),(152,.fn),(162,.struct t6 [(0,1,false),(1,1,false),(2,1,false),(3,1,false)]),(165,.struct t11 [(0,1,false),(1,4,true),(5,1,false)]),(168,.struct t93 [(0,1,false),(1,1,false)]),(171,.struct t2 [(0,1,false),(1,1,false),(2,1,false),(3,1,false)]),(173,.struct t3 [(0,4,true),(4,1,false)]),(176,.struct t3 [(0,4,true),(4,1,false)]),(177,.struct t6 [(0,1,false),(1,1,false),(2,1,false),(3,1,false)]),(213,.fn),(221,.int .u64),(227,.fn),(229,.fn),(258,.fn),(267,.int .u32),(269,.int .u64),(293,.ptr)]
def T_D (t:TypeId):TI:=gH Tl_D t
def Tl_ND:List (TypeId×TI):=[(3,.int .i64),(36,.slice 132 t2 32),(37,.slice 173 t3 40),(39,.slice 177 t15 48),(41,.slice 94 t17 64),(42,.slice 119 t18 32),(44,.struct t92 [(0,1,false),(1,1,false),(2,1,false),(3,1,false),(4,1,false),(5,1,false),(6,1,false),(7,1,false),(8,1,false),(9,1,false),(10,4,true),(14,1,false),(15,4,true),(19,1,false),(20,1,false)]),(57,.slice 3 (.int .i64) 8),(94,.struct t17 [(0,1,false),(1,4,true),(5,1,false)]),(119,.struct t18 [(0,1,false),(1,1,false)]),(177,.struct t15 [(0,1,false),(1,1,false),(2,1,false),(3,1,false)])]
def T_ND (t:TypeId):TI:=gH Tl_ND t
def Tl_S:List (TypeId×TI):=[(3,.int .i64),(4,.bool),(36,.slice 132 t2 32),(37,.slice 173 t3 40),(38,.struct t2 [(0,1,false),(1,1,false),(2,1,false),(3,1,false)]),(39,.slice 177 t15 48),(40,.struct t9 [(0,1,false),(1,1,false),(2,1,false),(3,1,false)]),(41,.slice 94 t17 64),(42,.slice 119 t18 32),(44,.struct t78 [(0,1,false),(1,1,false),(2,1,false),(3,1,false),(4,1,false),(5,1,false),(6,1,false),(7,1,false),(8,1,false),(9,1,false),(10,4,true),(14,1,false),(15,4,true),(19,1,false),(20,1,false)]),(53,.struct t25 [(0,1,false),(1,1,false),(2,1,false),(3,1,false),(4,1,false),(5,1,false),(6,4,true),(10,1,false)]),(57,.slice 3 (.int .i64) 8),(75,.slice 53 t25 104),(94,.struct t17 [(0,1,false),(1,4,true),(5,1,false)]),(119,.struct t18 [(0,1,false),(1,1,false)]),(132,.struct t2 [(0,1,false),(1,1,false),(2,1,false),(3,1,false)]),(144,.fn),(173,.struct t3 [(0,4,true),(4,1,false)]),(177,.struct t15 [(0,1,false),(1,1,false),(2,1,false),(3,1,false)]),(221,.int .u64),(260,.int .i64),(296,.slice 4 .bool 1)]
def T_S (t:TypeId):TI:=gH Tl_S t
namespace Q0
@[reducible] def ps:List PK:=[.rd (.list false 132 t2)]
@[reducible] def rs:List RK:=[.v (.list true 132 t2)]
abbrev Res:=ai rs×ah ps
noncomputable def f (K:Nat)(x:aa ps):Option Res:=el t2 32 x.1
noncomputable def c (K:Nat):Ctr:=⟨201,ps,rs,true,f K⟩
end Q0
namespace Q1
@[reducible] def ps:List PK:=[.own (.list true 132 t2),.rd (.int .i64),.own (.list true 132 t2)]
@[reducible] def rs:List RK:=[.v (.list true 132 t2)]
abbrev Res:=ai rs×ah ps
noncomputable def f (K:Nat)(x:aa ps):Option Res:=gw t2 32 x.1 x.2.1 x.2.2.1
noncomputable def c (K:Nat):Ctr:=⟨305,ps,rs,true,f K⟩
end Q1
namespace Q2
@[reducible] def ps:List PK:=[.rd (.list false 173 t3)]
@[reducible] def rs:List RK:=[.v (.list true 173 t3)]
abbrev Res:=ai rs×ah ps
noncomputable def f (K:Nat)(x:aa ps):Option Res:=el t3 40 x.1
noncomputable def c (K:Nat):Ctr:=⟨244,ps,rs,true,f K⟩
end Q2
namespace Q3
@[reducible] def ps:List PK:=[.own (.list true 173 t3),.rd (.int .i64),.own (.list true 173 t3)]
@[reducible] def rs:List RK:=[.v (.list true 173 t3)]
abbrev Res:=ai rs×ah ps
noncomputable def f (K:Nat)(x:aa ps):Option Res:=gw t3 40 x.1 x.2.1 x.2.2.1
noncomputable def c (K:Nat):Ctr:=⟨306,ps,rs,true,f K⟩
end Q3
namespace Q4
@[reducible] def ps:List PK:=[.own (.list true 177 t6),.fn [t15] .bool]
@[reducible] def rs:List RK:=[.v (.list true 177 t6)]
abbrev Res:=ai rs×ah ps
noncomputable def f (K:Nat)(x:aa ps):Option Res:=fP t6 x.1 x.2.1
noncomputable def c (K:Nat):Ctr:=⟨253,ps,rs,true,f K⟩
end Q4
namespace Q5
@[reducible] def ps:List PK:=[.own (.list true 177 t6),.rd (.int .i64),.own (.list true 177 t6)]
@[reducible] def rs:List RK:=[.v (.list true 177 t6)]
abbrev Res:=ai rs×ah ps
noncomputable def f (K:Nat)(x:aa ps):Option Res:=gw t6 48 x.1 x.2.1 x.2.2.1
noncomputable def c (K:Nat):Ctr:=⟨257,ps,rs,true,f K⟩
end Q5
namespace Q6
@[reducible] def ps:List PK:=[.rd (.list false 177 t15)]
@[reducible] def rs:List RK:=[.v (.list true 177 t15)]
abbrev Res:=ai rs×ah ps
noncomputable def f (K:Nat)(x:aa ps):Option Res:=el t15 48 x.1
noncomputable def c (K:Nat):Ctr:=⟨264,ps,rs,false,f K⟩
end Q6
namespace Q7
@[reducible] def ps:List PK:=[.rd (.list false 177 t15)]
@[reducible] def rs:List RK:=[.v (.list true 177 t35)]
abbrev Res:=ai rs×ah ps
noncomputable def f (K:Nat)(x:aa ps):Option Res:=oz t15 48 x.1
noncomputable def c (K:Nat):Ctr:=⟨264,ps,rs,true,f K⟩
end Q7
namespace Q8
@[reducible] def ps:List PK:=[.rd (.list false 3 (.int .i64))]
@[reducible] def rs:List RK:=[.v (.list true 3 (.int .i64))]
abbrev Res:=ai rs×ah ps
noncomputable def f (K:Nat)(x:aa ps):Option Res:=el (.int .i64) 8 x.1
noncomputable def c (K:Nat):Ctr:=⟨195,ps,rs,true,f K⟩
end Q8
namespace Q9
@[reducible] def ps:List PK:=[.own (.list true 173 t3),.fn [t3] .bool]
@[reducible] def rs:List RK:=[.v (.list true 173 t3)]
abbrev Res:=ai rs×ah ps
noncomputable def f (K:Nat)(x:aa ps):Option Res:=fP t3 x.1 x.2.1
noncomputable def c (K:Nat):Ctr:=⟨344,ps,rs,true,f K⟩
end Q9
namespace Q10
@[reducible] def ps:List PK:=[.rd (.list false 171 t2),.rd (.int .i64)]
@[reducible] def rs:List RK:=[.v (.int .i64)]
abbrev Res:=ai rs×ah ps
noncomputable def f (K:Nat)(x:aa ps):Option Res:=bif decide ((wr .i64 (x.2.1-(List.length x.1:Int)))<0) then (some (((-1),()),())) else (some ((wr .i64 (x.2.1-(List.length x.1:Int)),()),()))
noncomputable def c (K:Nat):Ctr:=⟨60,ps,rs,true,f K⟩
end Q10
namespace Q11
@[reducible] def ps:List PK:=[.rd (.list false 176 t3),.rd (.int .i64)]
@[reducible] def rs:List RK:=[.v (.int .i64)]
abbrev Res:=ai rs×ah ps
noncomputable def f (K:Nat)(x:aa ps):Option Res:=bif decide ((wr .i64 (x.2.1-(List.length x.1:Int)))<0) then (some (((-1),()),())) else (some ((wr .i64 (x.2.1-(List.length x.1:Int)),()),()))
noncomputable def c (K:Nat):Ctr:=⟨61,ps,rs,true,f K⟩
end Q11
namespace Q12
@[reducible] def ps:List PK:=[.rd (.list false 3 (.int .i64)),.rd (.int .i64)]
@[reducible] def rs:List RK:=[.v (.int .i64)]
abbrev Res:=ai rs×ah ps
noncomputable def f (K:Nat)(x:aa ps):Option Res:=bif decide ((wr .i64 (x.2.1-(List.length x.1:Int)))<0) then (some (((-1),()),())) else (some ((wr .i64 (x.2.1-(List.length x.1:Int)),()),()))
noncomputable def c (K:Nat):Ctr:=⟨102,ps,rs,true,f K⟩
end Q12
namespace Q13
@[reducible] def ps:List PK:=[.rd t15,.rd (.int .i64)]
@[reducible] def rs:List RK:=[.v (.int .i64)]
abbrev Res:=ai rs×ah ps
noncomputable def f (K:Nat)(x:aa ps):Option Res:=(Q12.f K (x.1.2.2.2,x.2.1,())).bind fun y1=>bif decide (y1.1.1<0) then (some (((-1),()),())) else (some ((y1.1.1,()),()))
noncomputable def c (K:Nat):Ctr:=⟨152,ps,rs,true,f K⟩
end Q13
namespace Q14
@[reducible] def ps:List PK:=[.rd (.list false 162 t15),.rd (.int .i64)]
@[reducible] def rs:List RK:=[.v (.int .i64)]
abbrev Res:=ai rs×ah ps
abbrev A_l0:=Int×Int
noncomputable def l0.step (K:Nat)(x:aa ps)(rec_l0:A_l0→Option Res)(a:A_l0):Option Res:=bif decide (a.2<(List.length x.1:Int)) then ((idx x.1 a.2).bind fun y1=>(Q13.f K (y1,a.1,())).bind fun y2=>bif decide (y2.1.1<0) then (some (((-1),()),())) else (rec_l0 (y2.1.1,wr .i64 (a.2+1)))) else (some ((a.1,()),()))
noncomputable def l0 (K:Nat)(x:aa ps):A_l0→Option Res:=ac (fun rec_l0 a=>l0.step K x rec_l0 a) K
noncomputable def pre (K:Nat)(N_l0:A_l0→Option Res)(x:aa ps):Option Res:=bif decide ((wr .i64 (x.2.1-(List.length x.1:Int)))<0) then (some (((-1),()),())) else (N_l0 (wr .i64 (x.2.1-(List.length x.1:Int)),0))
noncomputable def f (K:Nat)(x:aa ps):Option Res:=pre K (l0 K x) x
noncomputable def c (K:Nat):Ctr:=⟨62,ps,rs,true,f K⟩
end Q14
namespace Q15
@[reducible] def ps:List PK:=[.rd t17,.rd (.int .i64)]
@[reducible] def rs:List RK:=[.v (.int .i64)]
abbrev Res:=ai rs×ah ps
noncomputable def f (K:Nat)(x:aa ps):Option Res:=(Q12.f K (x.1.2.2,x.2.1,())).bind fun y1=>bif decide (y1.1.1<0) then (some (((-1),()),())) else (some ((y1.1.1,()),()))
noncomputable def c (K:Nat):Ctr:=⟨153,ps,rs,true,f K⟩
end Q15
namespace Q16
@[reducible] def ps:List PK:=[.rd (.list false 165 t17),.rd (.int .i64)]
@[reducible] def rs:List RK:=[.v (.int .i64)]
abbrev Res:=ai rs×ah ps
abbrev A_l0:=Int×Int
noncomputable def l0.step (K:Nat)(x:aa ps)(rec_l0:A_l0→Option Res)(a:A_l0):Option Res:=bif decide (a.2<(List.length x.1:Int)) then ((idx x.1 a.2).bind fun y1=>(Q15.f K (y1,a.1,())).bind fun y2=>bif decide (y2.1.1<0) then (some (((-1),()),())) else (rec_l0 (y2.1.1,wr .i64 (a.2+1)))) else (some ((a.1,()),()))
noncomputable def l0 (K:Nat)(x:aa ps):A_l0→Option Res:=ac (fun rec_l0 a=>l0.step K x rec_l0 a) K
noncomputable def pre (K:Nat)(N_l0:A_l0→Option Res)(x:aa ps):Option Res:=bif decide ((wr .i64 (x.2.1-(List.length x.1:Int)))<0) then (some (((-1),()),())) else (N_l0 (wr .i64 (x.2.1-(List.length x.1:Int)),0))
noncomputable def f (K:Nat)(x:aa ps):Option Res:=pre K (l0 K x) x
noncomputable def c (K:Nat):Ctr:=⟨63,ps,rs,true,f K⟩
end Q16
namespace Q17
@[reducible] def ps:List PK:=[.rd t36,.rd (.int .i64)]
@[reducible] def rs:List RK:=[.v (.int .i64)]
abbrev Res:=ai rs×ah ps
noncomputable def f (K:Nat)(x:aa ps):Option Res:=(Q10.f K (x.1.2,x.2.1,())).bind fun y1=>bif decide (y1.1.1<0) then (some (((-1),()),())) else (some ((y1.1.1,()),()))
noncomputable def c (K:Nat):Ctr:=⟨154,ps,rs,true,f K⟩
end Q17
namespace Q18
@[reducible] def ps:List PK:=[.rd (.list false 168 t36),.rd (.int .i64)]
@[reducible] def rs:List RK:=[.v (.int .i64)]
abbrev Res:=ai rs×ah ps
abbrev A_l0:=Int×Int
noncomputable def l0.step (K:Nat)(x:aa ps)(rec_l0:A_l0→Option Res)(a:A_l0):Option Res:=bif decide (a.2<(List.length x.1:Int)) then ((idx x.1 a.2).bind fun y1=>(Q17.f K (y1,a.1,())).bind fun y2=>bif decide (y2.1.1<0) then (some (((-1),()),())) else (rec_l0 (y2.1.1,wr .i64 (a.2+1)))) else (some ((a.1,()),()))
noncomputable def l0 (K:Nat)(x:aa ps):A_l0→Option Res:=ac (fun rec_l0 a=>l0.step K x rec_l0 a) K
noncomputable def pre (K:Nat)(N_l0:A_l0→Option Res)(x:aa ps):Option Res:=bif decide ((wr .i64 (x.2.1-(List.length x.1:Int)))<0) then (some (((-1),()),())) else (N_l0 (wr .i64 (x.2.1-(List.length x.1:Int)),0))
noncomputable def f (K:Nat)(x:aa ps):Option Res:=pre K (l0 K x) x
noncomputable def c (K:Nat):Ctr:=⟨64,ps,rs,true,f K⟩
end Q18
namespace Q19
@[reducible] def ps:List PK:=[.rd t50,.rd (.int .i64)]
@[reducible] def rs:List RK:=[.v (.int .i64)]
abbrev Res:=ai rs×ah ps
noncomputable def f (K:Nat)(x:aa ps):Option Res:=(Q10.f K (x.1.2.2.2.2.2.2.2.2.1,x.2.1,())).bind fun y1=>bif decide (y1.1.1<0) then (some (((-1),()),())) else ((Q11.f K (x.1.2.2.2.2.2.2.2.2.2.1,y1.1.1,())).bind fun y2=>bif decide (y2.1.1<0) then (some (((-1),()),())) else ((Q14.f K (x.1.2.2.2.2.2.2.2.2.2.2.2.1,y2.1.1,())).bind fun y3=>bif decide (y3.1.1<0) then (some (((-1),()),())) else ((Q16.f K (x.1.2.2.2.2.2.2.2.2.2.2.2.2.2.1,y3.1.1,())).bind fun y4=>bif decide (y4.1.1<0) then (some (((-1),()),())) else ((Q18.f K (x.1.2.2.2.2.2.2.2.2.2.2.2.2.2.2,y4.1.1,())).bind fun y5=>bif decide (y5.1.1<0) then (some (((-1),()),())) else (some ((y5.1.1,()),()))))))
noncomputable def c (K:Nat):Ctr:=⟨15,ps,rs,true,f K⟩
end Q19
namespace Q20
@[reducible] def ps:List PK:=[.rd t2]
@[reducible] def rs:List RK:=[.v t2]
abbrev Res:=ai rs×ah ps
noncomputable def f (K:Nat)(x:aa ps):Option Res:=some ((x.1,()),())
noncomputable def c (K:Nat):Ctr:=⟨165,ps,rs,true,f K⟩
end Q20
namespace Q21
@[reducible] def ps:List PK:=[.rd (.list false 171 t2)]
@[reducible] def rs:List RK:=[.v (.list true 132 t2)]
abbrev Res:=ai rs×ah ps
abbrev A_l0:=List (Ty.den t2)×Int
noncomputable def l0.step (K:Nat)(x:aa ps)(rec_l0:A_l0→Option Res)(a:A_l0):Option Res:=bif decide (a.2<(List.length x.1:Int)) then ((idx x.1 a.2).bind fun y1=>(Q20.f K (y1,())).bind fun y2=>(idx a.1 a.2).bind fun _=>(idx a.1 (Int.toNat a.2:Nat)).bind fun y4=>rec_l0 (a.1.set (Int.toNat a.2) y2.1.1,wr .i64 (a.2+1))) else (some ((a.1,()),()))
noncomputable def l0 (K:Nat)(x:aa ps):A_l0→Option Res:=ac (fun rec_l0 a=>l0.step K x rec_l0 a) K
noncomputable def pre (K:Nat)(N_l0:A_l0→Option Res)(x:aa ps):Option Res:=bif decide (0≤(List.length x.1:Int))&&decide ((List.length x.1:Int)=(List.length x.1:Int))&&decide ((List.length x.1:Int)*(32:Nat)≤an) then (N_l0 (List.replicate (Int.toNat (List.length x.1:Int)) ((0,(0,(0,false))):Ty.den t2),0)) else none
noncomputable def f (K:Nat)(x:aa ps):Option Res:=pre K (l0 K x) x
noncomputable def c (K:Nat):Ctr:=⟨67,ps,rs,true,f K⟩
end Q21
namespace Q22
@[reducible] def ps:List PK:=[.rd t3]
@[reducible] def rs:List RK:=[.v t3]
abbrev Res:=ai rs×ah ps
noncomputable def f (K:Nat)(x:aa ps):Option Res:=(Q20.f K (x.1.1,())).bind fun y1=>some (((y1.1.1,x.1.2),()),())
noncomputable def c (K:Nat):Ctr:=⟨166,ps,rs,true,f K⟩
end Q22
namespace Q23
@[reducible] def ps:List PK:=[.rd (.list false 176 t3)]
@[reducible] def rs:List RK:=[.v (.list true 173 t3)]
abbrev Res:=ai rs×ah ps
abbrev A_l0:=List (Ty.den t3)×Int
noncomputable def l0.step (K:Nat)(x:aa ps)(rec_l0:A_l0→Option Res)(a:A_l0):Option Res:=bif decide (a.2<(List.length x.1:Int)) then ((idx x.1 a.2).bind fun y1=>(Q22.f K (y1,())).bind fun y2=>(idx a.1 a.2).bind fun _=>(idx a.1 (Int.toNat a.2:Nat)).bind fun y4=>rec_l0 (a.1.set (Int.toNat a.2) y2.1.1,wr .i64 (a.2+1))) else (some ((a.1,()),()))
noncomputable def l0 (K:Nat)(x:aa ps):A_l0→Option Res:=ac (fun rec_l0 a=>l0.step K x rec_l0 a) K
noncomputable def pre (K:Nat)(N_l0:A_l0→Option Res)(x:aa ps):Option Res:=bif decide (0≤(List.length x.1:Int))&&decide ((List.length x.1:Int)=(List.length x.1:Int))&&decide ((List.length x.1:Int)*(40:Nat)≤an) then (N_l0 (List.replicate (Int.toNat (List.length x.1:Int)) (((0,(0,(0,false))),0):Ty.den t3),0)) else none
noncomputable def f (K:Nat)(x:aa ps):Option Res:=pre K (l0 K x) x
noncomputable def c (K:Nat):Ctr:=⟨68,ps,rs,true,f K⟩
end Q23
namespace Q24
@[reducible] def ps:List PK:=[.rd t2]
@[reducible] def rs:List RK:=[.v t2]
abbrev Res:=ai rs×ah ps
noncomputable def f (K:Nat)(x:aa ps):Option Res:=some ((x.1,()),())
noncomputable def c (K:Nat):Ctr:=⟨69,ps,rs,true,f K⟩
end Q24
namespace Q25
@[reducible] def ps:List PK:=[.rd (.list false 3 (.int .i64))]
@[reducible] def rs:List RK:=[.v (.list true 3 (.int .i64))]
abbrev Res:=ai rs×ah ps
abbrev A_l0:=List (Ty.den (.int .i64))×Int
noncomputable def l0.step (K:Nat)(x:aa ps)(rec_l0:A_l0→Option Res)(a:A_l0):Option Res:=bif decide (a.2<(List.length x.1:Int)) then ((idx x.1 a.2).bind fun y1=>(idx a.1 a.2).bind fun _=>(idx a.1 (Int.toNat a.2:Nat)).bind fun y3=>rec_l0 (a.1.set (Int.toNat a.2) y1,wr .i64 (a.2+1))) else (some ((a.1,()),()))
noncomputable def l0 (K:Nat)(x:aa ps):A_l0→Option Res:=ac (fun rec_l0 a=>l0.step K x rec_l0 a) K
noncomputable def pre (K:Nat)(N_l0:A_l0→Option Res)(x:aa ps):Option Res:=bif decide (0≤(List.length x.1:Int))&&decide ((List.length x.1:Int)=(List.length x.1:Int))&&decide ((List.length x.1:Int)*(8:Nat)≤an) then (N_l0 (List.replicate (Int.toNat (List.length x.1:Int)) (0:Ty.den (.int .i64)),0)) else none
noncomputable def f (K:Nat)(x:aa ps):Option Res:=pre K (l0 K x) x
noncomputable def c (K:Nat):Ctr:=⟨109,ps,rs,true,f K⟩
end Q25
namespace Q26
@[reducible] def ps:List PK:=[.rd t15]
@[reducible] def rs:List RK:=[.v t6]
abbrev Res:=ai rs×ah ps
noncomputable def f (K:Nat)(x:aa ps):Option Res:=(Q25.f K (x.1.2.2.2,())).bind fun y1=>some (((x.1.1,(x.1.2.1,(x.1.2.2.1,y1.1.1))),()),())
noncomputable def c (K:Nat):Ctr:=⟨167,ps,rs,true,f K⟩
end Q26
namespace Q27
@[reducible] def ps:List PK:=[.rd (.list false 162 t15)]
@[reducible] def rs:List RK:=[.v (.list true 177 t6)]
abbrev Res:=ai rs×ah ps
abbrev A_l0:=List (Ty.den t6)×Int
noncomputable def l0.step (K:Nat)(x:aa ps)(rec_l0:A_l0→Option Res)(a:A_l0):Option Res:=bif decide (a.2<(List.length x.1:Int)) then ((idx x.1 a.2).bind fun y1=>(Q26.f K (y1,())).bind fun y2=>(idx a.1 a.2).bind fun _=>(idx a.1 (Int.toNat a.2:Nat)).bind fun y4=>rec_l0 (a.1.set (Int.toNat a.2) y2.1.1,wr .i64 (a.2+1))) else (some ((a.1,()),()))
noncomputable def l0 (K:Nat)(x:aa ps):A_l0→Option Res:=ac (fun rec_l0 a=>l0.step K x rec_l0 a) K
noncomputable def pre (K:Nat)(N_l0:A_l0→Option Res)(x:aa ps):Option Res:=bif decide (0≤(List.length x.1:Int))&&decide ((List.length x.1:Int)=(List.length x.1:Int))&&decide ((List.length x.1:Int)*(48:Nat)≤an) then (N_l0 (List.replicate (Int.toNat (List.length x.1:Int)) ((0,(0,(0,[]))):Ty.den t6),0)) else none
noncomputable def f (K:Nat)(x:aa ps):Option Res:=pre K (l0 K x) x
noncomputable def c (K:Nat):Ctr:=⟨70,ps,rs,true,f K⟩
end Q27
namespace Q28
@[reducible] def ps:List PK:=[.rd t9]
@[reducible] def rs:List RK:=[.v t9]
abbrev Res:=ai rs×ah ps
noncomputable def f (K:Nat)(x:aa ps):Option Res:=some ((x.1,()),())
noncomputable def c (K:Nat):Ctr:=⟨71,ps,rs,true,f K⟩
end Q28
namespace Q29
@[reducible] def ps:List PK:=[.rd t17]
@[reducible] def rs:List RK:=[.v t11]
abbrev Res:=ai rs×ah ps
noncomputable def f (K:Nat)(x:aa ps):Option Res:=(Q28.f K (x.1.2.1,())).bind fun y1=>(Q25.f K (x.1.2.2,())).bind fun y2=>some (((x.1.1,(y1.1.1,y2.1.1)),()),())
noncomputable def c (K:Nat):Ctr:=⟨168,ps,rs,true,f K⟩
end Q29
namespace Q30
@[reducible] def ps:List PK:=[.rd (.list false 165 t17)]
@[reducible] def rs:List RK:=[.v (.list true 94 t11)]
abbrev Res:=ai rs×ah ps
abbrev A_l0:=List (Ty.den t11)×Int
noncomputable def l0.step (K:Nat)(x:aa ps)(rec_l0:A_l0→Option Res)(a:A_l0):Option Res:=bif decide (a.2<(List.length x.1:Int)) then ((idx x.1 a.2).bind fun y1=>(Q29.f K (y1,())).bind fun y2=>(idx a.1 a.2).bind fun _=>(idx a.1 (Int.toNat a.2:Nat)).bind fun y4=>rec_l0 (a.1.set (Int.toNat a.2) y2.1.1,wr .i64 (a.2+1))) else (some ((a.1,()),()))
noncomputable def l0 (K:Nat)(x:aa ps):A_l0→Option Res:=ac (fun rec_l0 a=>l0.step K x rec_l0 a) K
noncomputable def pre (K:Nat)(N_l0:A_l0→Option Res)(x:aa ps):Option Res:=bif decide (0≤(List.length x.1:Int))&&decide ((List.length x.1:Int)=(List.length x.1:Int))&&decide ((List.length x.1:Int)*(64:Nat)≤an) then (N_l0 (List.replicate (Int.toNat (List.length x.1:Int)) ((0,((0,(0,(0,0))),[])):Ty.den t11),0)) else none
noncomputable def f (K:Nat)(x:aa ps):Option Res:=pre K (l0 K x) x
noncomputable def c (K:Nat):Ctr:=⟨72,ps,rs,true,f K⟩
end Q30
namespace Q31
@[reducible] def ps:List PK:=[.rd t36]
@[reducible] def rs:List RK:=[.v t12]
abbrev Res:=ai rs×ah ps
noncomputable def f (K:Nat)(x:aa ps):Option Res:=(Q21.f K (x.1.2,())).bind fun y1=>some (((x.1.1,y1.1.1),()),())
noncomputable def c (K:Nat):Ctr:=⟨169,ps,rs,true,f K⟩
end Q31
namespace Q32
@[reducible] def ps:List PK:=[.rd (.list false 168 t36)]
@[reducible] def rs:List RK:=[.v (.list true 119 t12)]
abbrev Res:=ai rs×ah ps
abbrev A_l0:=List (Ty.den t12)×Int
noncomputable def l0.step (K:Nat)(x:aa ps)(rec_l0:A_l0→Option Res)(a:A_l0):Option Res:=bif decide (a.2<(List.length x.1:Int)) then ((idx x.1 a.2).bind fun y1=>(Q31.f K (y1,())).bind fun y2=>(idx a.1 a.2).bind fun _=>(idx a.1 (Int.toNat a.2:Nat)).bind fun y4=>rec_l0 (a.1.set (Int.toNat a.2) y2.1.1,wr .i64 (a.2+1))) else (some ((a.1,()),()))
noncomputable def l0 (K:Nat)(x:aa ps):A_l0→Option Res:=ac (fun rec_l0 a=>l0.step K x rec_l0 a) K
noncomputable def pre (K:Nat)(N_l0:A_l0→Option Res)(x:aa ps):Option Res:=bif decide (0≤(List.length x.1:Int))&&decide ((List.length x.1:Int)=(List.length x.1:Int))&&decide ((List.length x.1:Int)*(32:Nat)≤an) then (N_l0 (List.replicate (Int.toNat (List.length x.1:Int)) ((0,[]):Ty.den t12),0)) else none
noncomputable def f (K:Nat)(x:aa ps):Option Res:=pre K (l0 K x) x
noncomputable def c (K:Nat):Ctr:=⟨73,ps,rs,true,f K⟩
end Q32
namespace Q33
@[reducible] def ps:List PK:=[.rd t50]
@[reducible] def rs:List RK:=[.v t64]
abbrev Res:=ai rs×ah ps
noncomputable def f (K:Nat)(x:aa ps):Option Res:=(Q21.f K (x.1.2.2.2.2.2.2.2.2.1,())).bind fun y1=>(Q23.f K (x.1.2.2.2.2.2.2.2.2.2.1,())).bind fun y2=>(Q24.f K (x.1.2.2.2.2.2.2.2.2.2.2.1,())).bind fun y3=>(Q27.f K (x.1.2.2.2.2.2.2.2.2.2.2.2.1,())).bind fun y4=>(Q28.f K (x.1.2.2.2.2.2.2.2.2.2.2.2.2.1,())).bind fun y5=>(Q30.f K (x.1.2.2.2.2.2.2.2.2.2.2.2.2.2.1,())).bind fun y6=>(Q32.f K (x.1.2.2.2.2.2.2.2.2.2.2.2.2.2.2,())).bind fun y7=>some (((x.1.1,(x.1.2.1,(x.1.2.2.1,(x.1.2.2.2.1,(x.1.2.2.2.2.1,(x.1.2.2.2.2.2.1,(x.1.2.2.2.2.2.2.1,(x.1.2.2.2.2.2.2.2.1,(y1.1.1,(y2.1.1,(y3.1.1,(y4.1.1,(y5.1.1,(y6.1.1,y7.1.1)))))))))))))),()),())
noncomputable def c (K:Nat):Ctr:=⟨17,ps,rs,true,f K⟩
end Q33
namespace Q34
@[reducible] def ps:List PK:=[.rd t2,.rd t2]
@[reducible] def rs:List RK:=[.v .bool]
abbrev Res:=ai rs×ah ps
noncomputable def f (K:Nat)(x:aa ps):Option Res:=bif x.1.1 != x.2.1.1 then (some ((false,()),())) else (bif x.1.2.1 != x.2.1.2.1 then (some ((false,()),())) else (bif x.1.2.2.1 != x.2.1.2.2.1 then (some ((false,()),())) else (bif x.1.2.2.2 != x.2.1.2.2.2 then (some ((false,()),())) else (some ((true,()),())))))
noncomputable def c (K:Nat):Ctr:=⟨136,ps,rs,true,f K⟩
end Q34
namespace Q35
@[reducible] def ps:List PK:=[.rd (.list false 132 t2),.rd (.list false 132 t2)]
@[reducible] def rs:List RK:=[.v .bool]
abbrev Res:=ai rs×ah ps
abbrev A_l0:=Int
noncomputable def l0.step (K:Nat)(x:aa ps)(rec_l0:A_l0→Option Res)(a:A_l0):Option Res:=bif decide (a<(List.length x.1:Int)) then ((idx x.1 a).bind fun y1=>(idx x.2.1 a).bind fun y2=>(Q34.f K (y1,y2,())).bind fun y3=>bif !y3.1.1 then (some ((false,()),())) else (rec_l0 (wr .i64 (a+1)))) else (some ((true,()),()))
noncomputable def l0 (K:Nat)(x:aa ps):A_l0→Option Res:=ac (fun rec_l0 a=>l0.step K x rec_l0 a) K
noncomputable def pre (K:Nat)(N_l0:A_l0→Option Res)(x:aa ps):Option Res:=bif (List.length x.1:Int) != (List.length x.2.1:Int) then (some ((false,()),())) else (N_l0 0)
noncomputable def f (K:Nat)(x:aa ps):Option Res:=pre K (l0 K x) x
noncomputable def c (K:Nat):Ctr:=⟨46,ps,rs,true,f K⟩
end Q35
namespace Q36
@[reducible] def ps:List PK:=[.rd t3,.rd t3]
@[reducible] def rs:List RK:=[.v .bool]
abbrev Res:=ai rs×ah ps
noncomputable def f (K:Nat)(x:aa ps):Option Res:=(Q34.f K (x.1.1,x.2.1.1,())).bind fun y1=>bif !y1.1.1 then (some ((false,()),())) else (bif x.1.2 != x.2.1.2 then (some ((false,()),())) else (some ((true,()),())))
noncomputable def c (K:Nat):Ctr:=⟨178,ps,rs,true,f K⟩
end Q36
namespace Q37
@[reducible] def ps:List PK:=[.rd (.list false 173 t3),.rd (.list false 173 t3)]
@[reducible] def rs:List RK:=[.v .bool]
abbrev Res:=ai rs×ah ps
abbrev A_l0:=Int
noncomputable def l0.step (K:Nat)(x:aa ps)(rec_l0:A_l0→Option Res)(a:A_l0):Option Res:=bif decide (a<(List.length x.1:Int)) then ((idx x.1 a).bind fun y1=>(idx x.2.1 a).bind fun y2=>(Q36.f K (y1,y2,())).bind fun y3=>bif !y3.1.1 then (some ((false,()),())) else (rec_l0 (wr .i64 (a+1)))) else (some ((true,()),()))
noncomputable def l0 (K:Nat)(x:aa ps):A_l0→Option Res:=ac (fun rec_l0 a=>l0.step K x rec_l0 a) K
noncomputable def pre (K:Nat)(N_l0:A_l0→Option Res)(x:aa ps):Option Res:=bif (List.length x.1:Int) != (List.length x.2.1:Int) then (some ((false,()),())) else (N_l0 0)
noncomputable def f (K:Nat)(x:aa ps):Option Res:=pre K (l0 K x) x
noncomputable def c (K:Nat):Ctr:=⟨78,ps,rs,true,f K⟩
end Q37
namespace Q38
@[reducible] def ps:List PK:=[.rd t2,.rd t2]
@[reducible] def rs:List RK:=[.v .bool]
abbrev Res:=ai rs×ah ps
noncomputable def f (K:Nat)(x:aa ps):Option Res:=bif x.1.1 != x.2.1.1 then (some ((false,()),())) else (bif x.1.2.1 != x.2.1.2.1 then (some ((false,()),())) else (bif x.1.2.2.1 != x.2.1.2.2.1 then (some ((false,()),())) else (bif x.1.2.2.2 != x.2.1.2.2.2 then (some ((false,()),())) else (some ((true,()),())))))
noncomputable def c (K:Nat):Ctr:=⟨79,ps,rs,true,f K⟩
end Q38
namespace Q39
@[reducible] def ps:List PK:=[.rd (.list false 3 (.int .i64)),.rd (.list false 3 (.int .i64))]
@[reducible] def rs:List RK:=[.v .bool]
abbrev Res:=ai rs×ah ps
abbrev A_l0:=Int
noncomputable def l0.step (K:Nat)(x:aa ps)(rec_l0:A_l0→Option Res)(a:A_l0):Option Res:=bif decide (a<(List.length x.1:Int)) then ((idx x.1 a).bind fun y1=>(idx x.2.1 a).bind fun y2=>bif y1 != y2 then (some ((false,()),())) else (rec_l0 (wr .i64 (a+1)))) else (some ((true,()),()))
noncomputable def l0 (K:Nat)(x:aa ps):A_l0→Option Res:=ac (fun rec_l0 a=>l0.step K x rec_l0 a) K
noncomputable def pre (K:Nat)(N_l0:A_l0→Option Res)(x:aa ps):Option Res:=bif (List.length x.1:Int) != (List.length x.2.1:Int) then (some ((false,()),())) else (N_l0 0)
noncomputable def f (K:Nat)(x:aa ps):Option Res:=pre K (l0 K x) x
noncomputable def c (K:Nat):Ctr:=⟨27,ps,rs,true,f K⟩
end Q39
namespace Q40
@[reducible] def ps:List PK:=[.rd t15,.rd t15]
@[reducible] def rs:List RK:=[.v .bool]
abbrev Res:=ai rs×ah ps
noncomputable def f (K:Nat)(x:aa ps):Option Res:=bif x.1.1 != x.2.1.1 then (some ((false,()),())) else (bif x.1.2.1 != x.2.1.2.1 then (some ((false,()),())) else (bif x.1.2.2.1 != x.2.1.2.2.1 then (some ((false,()),())) else ((Q39.f K (x.1.2.2.2,x.2.1.2.2.2,())).bind fun y1=>bif !y1.1.1 then (some ((false,()),())) else (some ((true,()),())))))
noncomputable def c (K:Nat):Ctr:=⟨179,ps,rs,true,f K⟩
end Q40
namespace Q41
@[reducible] def ps:List PK:=[.rd (.list false 177 t15),.rd (.list false 177 t15)]
@[reducible] def rs:List RK:=[.v .bool]
abbrev Res:=ai rs×ah ps
abbrev A_l0:=Int
noncomputable def l0.step (K:Nat)(x:aa ps)(rec_l0:A_l0→Option Res)(a:A_l0):Option Res:=bif decide (a<(List.length x.1:Int)) then ((idx x.1 a).bind fun y1=>(idx x.2.1 a).bind fun y2=>(Q40.f K (y1,y2,())).bind fun y3=>bif !y3.1.1 then (some ((false,()),())) else (rec_l0 (wr .i64 (a+1)))) else (some ((true,()),()))
noncomputable def l0 (K:Nat)(x:aa ps):A_l0→Option Res:=ac (fun rec_l0 a=>l0.step K x rec_l0 a) K
noncomputable def pre (K:Nat)(N_l0:A_l0→Option Res)(x:aa ps):Option Res:=bif (List.length x.1:Int) != (List.length x.2.1:Int) then (some ((false,()),())) else (N_l0 0)
noncomputable def f (K:Nat)(x:aa ps):Option Res:=pre K (l0 K x) x
noncomputable def c (K:Nat):Ctr:=⟨80,ps,rs,true,f K⟩
end Q41
namespace Q42
@[reducible] def ps:List PK:=[.rd t9,.rd t9]
@[reducible] def rs:List RK:=[.v .bool]
abbrev Res:=ai rs×ah ps
noncomputable def f (K:Nat)(x:aa ps):Option Res:=bif x.1.1 != x.2.1.1 then (some ((false,()),())) else (bif x.1.2.1 != x.2.1.2.1 then (some ((false,()),())) else (bif x.1.2.2.1 != x.2.1.2.2.1 then (some ((false,()),())) else (bif x.1.2.2.2 != x.2.1.2.2.2 then (some ((false,()),())) else (some ((true,()),())))))
noncomputable def c (K:Nat):Ctr:=⟨81,ps,rs,true,f K⟩
end Q42
namespace Q43
@[reducible] def ps:List PK:=[.rd t17,.rd t17]
@[reducible] def rs:List RK:=[.v .bool]
abbrev Res:=ai rs×ah ps
noncomputable def f (K:Nat)(x:aa ps):Option Res:=bif x.1.1 != x.2.1.1 then (some ((false,()),())) else ((Q42.f K (x.1.2.1,x.2.1.2.1,())).bind fun y1=>bif !y1.1.1 then (some ((false,()),())) else ((Q39.f K (x.1.2.2,x.2.1.2.2,())).bind fun y2=>bif !y2.1.1 then (some ((false,()),())) else (some ((true,()),()))))
noncomputable def c (K:Nat):Ctr:=⟨180,ps,rs,true,f K⟩
end Q43
namespace Q44
@[reducible] def ps:List PK:=[.rd (.list false 94 t17),.rd (.list false 94 t17)]
@[reducible] def rs:List RK:=[.v .bool]
abbrev Res:=ai rs×ah ps
abbrev A_l0:=Int
noncomputable def l0.step (K:Nat)(x:aa ps)(rec_l0:A_l0→Option Res)(a:A_l0):Option Res:=bif decide (a<(List.length x.1:Int)) then ((idx x.1 a).bind fun y1=>(idx x.2.1 a).bind fun y2=>(Q43.f K (y1,y2,())).bind fun y3=>bif !y3.1.1 then (some ((false,()),())) else (rec_l0 (wr .i64 (a+1)))) else (some ((true,()),()))
noncomputable def l0 (K:Nat)(x:aa ps):A_l0→Option Res:=ac (fun rec_l0 a=>l0.step K x rec_l0 a) K
noncomputable def pre (K:Nat)(N_l0:A_l0→Option Res)(x:aa ps):Option Res:=bif (List.length x.1:Int) != (List.length x.2.1:Int) then (some ((false,()),())) else (N_l0 0)
noncomputable def f (K:Nat)(x:aa ps):Option Res:=pre K (l0 K x) x
noncomputable def c (K:Nat):Ctr:=⟨82,ps,rs,true,f K⟩
end Q44
namespace Q45
@[reducible] def ps:List PK:=[.rd t18,.rd t18]
@[reducible] def rs:List RK:=[.v .bool]
abbrev Res:=ai rs×ah ps
noncomputable def f (K:Nat)(x:aa ps):Option Res:=bif x.1.1 != x.2.1.1 then (some ((false,()),())) else ((Q35.f K (x.1.2,x.2.1.2,())).bind fun y1=>bif !y1.1.1 then (some ((false,()),())) else (some ((true,()),())))
noncomputable def c (K:Nat):Ctr:=⟨181,ps,rs,true,f K⟩
end Q45
namespace Q46
@[reducible] def ps:List PK:=[.rd (.list false 119 t18),.rd (.list false 119 t18)]
@[reducible] def rs:List RK:=[.v .bool]
abbrev Res:=ai rs×ah ps
abbrev A_l0:=Int
noncomputable def l0.step (K:Nat)(x:aa ps)(rec_l0:A_l0→Option Res)(a:A_l0):Option Res:=bif decide (a<(List.length x.1:Int)) then ((idx x.1 a).bind fun y1=>(idx x.2.1 a).bind fun y2=>(Q45.f K (y1,y2,())).bind fun y3=>bif !y3.1.1 then (some ((false,()),())) else (rec_l0 (wr .i64 (a+1)))) else (some ((true,()),()))
noncomputable def l0 (K:Nat)(x:aa ps):A_l0→Option Res:=ac (fun rec_l0 a=>l0.step K x rec_l0 a) K
noncomputable def pre (K:Nat)(N_l0:A_l0→Option Res)(x:aa ps):Option Res:=bif (List.length x.1:Int) != (List.length x.2.1:Int) then (some ((false,()),())) else (N_l0 0)
noncomputable def f (K:Nat)(x:aa ps):Option Res:=pre K (l0 K x) x
noncomputable def c (K:Nat):Ctr:=⟨83,ps,rs,true,f K⟩
end Q46
namespace Q47
@[reducible] def ps:List PK:=[.rd t78,.rd t78]
@[reducible] def rs:List RK:=[.v .bool]
abbrev Res:=ai rs×ah ps
noncomputable def f (K:Nat)(x:aa ps):Option Res:=bif x.1.1 != x.2.1.1 then (some ((false,()),())) else (bif x.1.2.1 != x.2.1.2.1 then (some ((false,()),())) else (bif x.1.2.2.1 != x.2.1.2.2.1 then (some ((false,()),())) else (bif x.1.2.2.2.1 != x.2.1.2.2.2.1 then (some ((false,()),())) else (bif x.1.2.2.2.2.1 != x.2.1.2.2.2.2.1 then (some ((false,()),())) else (bif x.1.2.2.2.2.2.1 != x.2.1.2.2.2.2.2.1 then (some ((false,()),())) else (bif x.1.2.2.2.2.2.2.1 != x.2.1.2.2.2.2.2.2.1 then (some ((false,()),())) else (bif x.1.2.2.2.2.2.2.2.1 != x.2.1.2.2.2.2.2.2.2.1 then (some ((false,()),())) else ((Q35.f K (x.1.2.2.2.2.2.2.2.2.1,x.2.1.2.2.2.2.2.2.2.2.1,())).bind fun y1=>bif !y1.1.1 then (some ((false,()),())) else ((Q37.f K (x.1.2.2.2.2.2.2.2.2.2.1,x.2.1.2.2.2.2.2.2.2.2.2.1,())).bind fun y2=>bif !y2.1.1 then (some ((false,()),())) else ((Q38.f K (x.1.2.2.2.2.2.2.2.2.2.2.1,x.2.1.2.2.2.2.2.2.2.2.2.2.1,())).bind fun y3=>bif !y3.1.1 then (some ((false,()),())) else ((Q41.f K (x.1.2.2.2.2.2.2.2.2.2.2.2.1,x.2.1.2.2.2.2.2.2.2.2.2.2.2.1,())).bind fun y4=>bif !y4.1.1 then (some ((false,()),())) else ((Q42.f K (x.1.2.2.2.2.2.2.2.2.2.2.2.2.1,x.2.1.2.2.2.2.2.2.2.2.2.2.2.2.1,())).bind fun y5=>bif !y5.1.1 then (some ((false,()),())) else ((Q44.f K (x.1.2.2.2.2.2.2.2.2.2.2.2.2.2.1,x.2.1.2.2.2.2.2.2.2.2.2.2.2.2.2.1,())).bind fun y6=>bif !y6.1.1 then (some ((false,()),())) else ((Q46.f K (x.1.2.2.2.2.2.2.2.2.2.2.2.2.2.2,x.2.1.2.2.2.2.2.2.2.2.2.2.2.2.2.2,())).bind fun y7=>bif !y7.1.1 then (some ((false,()),())) else (some ((true,()),()))))))))))))))))
noncomputable def c (K:Nat):Ctr:=⟨19,ps,rs,true,f K⟩
end Q47
namespace Q48
@[reducible] def ps:List PK:=[.io (.list true 132 t2),.rd (.int .i64)]
@[reducible] def rs:List RK:=[.v (.int .i64)]
abbrev Res:=ai rs×ah ps
abbrev A_l0:=List (Ty.den t2)×Int×Int
noncomputable def l0.step (K:Nat)(x:aa ps)(rec_l0:A_l0→Option Res)(a:A_l0):Option Res:=bif decide (a.2.2<(List.length a.1:Int)) then ((idx a.1 a.2.2).bind fun _=>(idx a.1 (Int.toNat a.2.2:Nat)).bind fun y2=>(idx (a.1.set (Int.toNat a.2.2) (a.2.1,y2.2)) a.2.2).bind fun _=>(idx (a.1.set (Int.toNat a.2.2) (a.2.1,y2.2)) (Int.toNat a.2.2:Nat)).bind fun y4=>(idx ((a.1.set (Int.toNat a.2.2) (a.2.1,y2.2)).set (Int.toNat a.2.2) (y4.1,(wr .i64 (a.2.1+1),y4.2.2))) a.2.2).bind fun _=>(idx ((a.1.set (Int.toNat a.2.2) (a.2.1,y2.2)).set (Int.toNat a.2.2) (y4.1,(wr .i64 (a.2.1+1),y4.2.2))) (Int.toNat a.2.2:Nat)).bind fun y6=>(idx (((a.1.set (Int.toNat a.2.2) (a.2.1,y2.2)).set (Int.toNat a.2.2) (y4.1,(wr .i64 (a.2.1+1),y4.2.2))).set (Int.toNat a.2.2) (y6.1,(y6.2.1,(wr .i64 ((wr .i64 (a.2.1+1))+1),y6.2.2.2)))) a.2.2).bind fun _=>(idx (((a.1.set (Int.toNat a.2.2) (a.2.1,y2.2)).set (Int.toNat a.2.2) (y4.1,(wr .i64 (a.2.1+1),y4.2.2))).set (Int.toNat a.2.2) (y6.1,(y6.2.1,(wr .i64 ((wr .i64 (a.2.1+1))+1),y6.2.2.2)))) (Int.toNat a.2.2:Nat)).bind fun y8=>rec_l0 ((((a.1.set (Int.toNat a.2.2) (a.2.1,y2.2)).set (Int.toNat a.2.2) (y4.1,(wr .i64 (a.2.1+1),y4.2.2))).set (Int.toNat a.2.2) (y6.1,(y6.2.1,(wr .i64 ((wr .i64 (a.2.1+1))+1),y6.2.2.2)))).set (Int.toNat a.2.2) (y8.1,(y8.2.1,(y8.2.2.1,(Int.tmod (wr .i64 ((wr .i64 ((wr .i64 (a.2.1+1))+1))+1)) 3)==0))),wr .i64 ((wr .i64 ((wr .i64 ((wr .i64 (a.2.1+1))+1))+1))+1),wr .i64 (a.2.2+1))) else (some ((a.2.1,()),(a.1,())))
noncomputable def l0 (K:Nat)(x:aa ps):A_l0→Option Res:=ac (fun rec_l0 a=>l0.step K x rec_l0 a) K
noncomputable def pre (K:Nat)(N_l0:A_l0→Option Res)(x:aa ps):Option Res:=N_l0 (x.1,x.2.1,0)
noncomputable def f (K:Nat)(x:aa ps):Option Res:=pre K (l0 K x) x
noncomputable def c (K:Nat):Ctr:=⟨47,ps,rs,true,f K⟩
end Q48
namespace Q49
@[reducible] def ps:List PK:=[.io (.list true 173 t3),.rd (.int .i64)]
@[reducible] def rs:List RK:=[.v (.int .i64)]
abbrev Res:=ai rs×ah ps
abbrev A_l0:=List (Ty.den t3)×Int×Int
noncomputable def l0.step (K:Nat)(x:aa ps)(rec_l0:A_l0→Option Res)(a:A_l0):Option Res:=bif decide (a.2.2<(List.length a.1:Int)) then ((idx a.1 a.2.2).bind fun _=>(idx a.1 (Int.toNat a.2.2:Nat)).bind fun y2=>(idx (a.1.set (Int.toNat a.2.2) ((a.2.1,y2.1.2),y2.2)) a.2.2).bind fun _=>(idx (a.1.set (Int.toNat a.2.2) ((a.2.1,y2.1.2),y2.2)) (Int.toNat a.2.2:Nat)).bind fun y4=>(idx ((a.1.set (Int.toNat a.2.2) ((a.2.1,y2.1.2),y2.2)).set (Int.toNat a.2.2) ((y4.1.1,(wr .i64 (a.2.1+1),y4.1.2.2)),y4.2)) a.2.2).bind fun _=>(idx ((a.1.set (Int.toNat a.2.2) ((a.2.1,y2.1.2),y2.2)).set (Int.toNat a.2.2) ((y4.1.1,(wr .i64 (a.2.1+1),y4.1.2.2)),y4.2)) (Int.toNat a.2.2:Nat)).bind fun y6=>(idx (((a.1.set (Int.toNat a.2.2) ((a.2.1,y2.1.2),y2.2)).set (Int.toNat a.2.2) ((y4.1.1,(wr .i64 (a.2.1+1),y4.1.2.2)),y4.2)).set (Int.toNat a.2.2) ((y6.1.1,(y6.1.2.1,(wr .i64 ((wr .i64 (a.2.1+1))+1),y6.1.2.2.2))),y6.2)) a.2.2).bind fun _=>(idx (((a.1.set (Int.toNat a.2.2) ((a.2.1,y2.1.2),y2.2)).set (Int.toNat a.2.2) ((y4.1.1,(wr .i64 (a.2.1+1),y4.1.2.2)),y4.2)).set (Int.toNat a.2.2) ((y6.1.1,(y6.1.2.1,(wr .i64 ((wr .i64 (a.2.1+1))+1),y6.1.2.2.2))),y6.2)) (Int.toNat a.2.2:Nat)).bind fun y8=>(idx ((((a.1.set (Int.toNat a.2.2) ((a.2.1,y2.1.2),y2.2)).set (Int.toNat a.2.2) ((y4.1.1,(wr .i64 (a.2.1+1),y4.1.2.2)),y4.2)).set (Int.toNat a.2.2) ((y6.1.1,(y6.1.2.1,(wr .i64 ((wr .i64 (a.2.1+1))+1),y6.1.2.2.2))),y6.2)).set (Int.toNat a.2.2) ((y8.1.1,(y8.1.2.1,(y8.1.2.2.1,(Int.tmod (wr .i64 ((wr .i64 ((wr .i64 (a.2.1+1))+1))+1)) 3)==0))),y8.2)) a.2.2).bind fun _=>(idx ((((a.1.set (Int.toNat a.2.2) ((a.2.1,y2.1.2),y2.2)).set (Int.toNat a.2.2) ((y4.1.1,(wr .i64 (a.2.1+1),y4.1.2.2)),y4.2)).set (Int.toNat a.2.2) ((y6.1.1,(y6.1.2.1,(wr .i64 ((wr .i64 (a.2.1+1))+1),y6.1.2.2.2))),y6.2)).set (Int.toNat a.2.2) ((y8.1.1,(y8.1.2.1,(y8.1.2.2.1,(Int.tmod (wr .i64 ((wr .i64 ((wr .i64 (a.2.1+1))+1))+1)) 3)==0))),y8.2)) (Int.toNat a.2.2:Nat)).bind fun y10=>rec_l0 (((((a.1.set (Int.toNat a.2.2) ((a.2.1,y2.1.2),y2.2)).set (Int.toNat a.2.2) ((y4.1.1,(wr .i64 (a.2.1+1),y4.1.2.2)),y4.2)).set (Int.toNat a.2.2) ((y6.1.1,(y6.1.2.1,(wr .i64 ((wr .i64 (a.2.1+1))+1),y6.1.2.2.2))),y6.2)).set (Int.toNat a.2.2) ((y8.1.1,(y8.1.2.1,(y8.1.2.2.1,(Int.tmod (wr .i64 ((wr .i64 ((wr .i64 (a.2.1+1))+1))+1)) 3)==0))),y8.2)).set (Int.toNat a.2.2) (y10.1,wr .i64 ((wr .i64 ((wr .i64 ((wr .i64 (a.2.1+1))+1))+1))+1)),wr .i64 ((wr .i64 ((wr .i64 ((wr .i64 ((wr .i64 (a.2.1+1))+1))+1))+1))+1),wr .i64 (a.2.2+1))) else (some ((a.2.1,()),(a.1,())))
noncomputable def l0 (K:Nat)(x:aa ps):A_l0→Option Res:=ac (fun rec_l0 a=>l0.step K x rec_l0 a) K
noncomputable def pre (K:Nat)(N_l0:A_l0→Option Res)(x:aa ps):Option Res:=N_l0 (x.1,x.2.1,0)
noncomputable def f (K:Nat)(x:aa ps):Option Res:=pre K (l0 K x) x
noncomputable def c (K:Nat):Ctr:=⟨96,ps,rs,true,f K⟩
end Q49
namespace Q50
@[reducible] def ps:List PK:=[.io (.list true 3 (.int .i64)),.rd (.int .i64)]
@[reducible] def rs:List RK:=[.v (.int .i64)]
abbrev Res:=ai rs×ah ps
abbrev A_l0:=List (Ty.den (.int .i64))×Int×Int
noncomputable def l0.step (K:Nat)(x:aa ps)(rec_l0:A_l0→Option Res)(a:A_l0):Option Res:=bif decide (a.2.2<(List.length a.1:Int)) then ((idx a.1 a.2.2).bind fun _=>(idx a.1 (Int.toNat a.2.2:Nat)).bind fun y2=>rec_l0 (a.1.set (Int.toNat a.2.2) a.2.1,wr .i64 (a.2.1+1),wr .i64 (a.2.2+1))) else (some ((a.2.1,()),(a.1,())))
noncomputable def l0 (K:Nat)(x:aa ps):A_l0→Option Res:=ac (fun rec_l0 a=>l0.step K x rec_l0 a) K
noncomputable def pre (K:Nat)(N_l0:A_l0→Option Res)(x:aa ps):Option Res:=N_l0 (x.1,x.2.1,0)
noncomputable def f (K:Nat)(x:aa ps):Option Res:=pre K (l0 K x) x
noncomputable def c (K:Nat):Ctr:=⟨29,ps,rs,true,f K⟩
end Q50
namespace Q51
@[reducible] def ps:List PK:=[.io (.list true 177 t6),.rd (.int .i64)]
@[reducible] def rs:List RK:=[.v (.int .i64)]
abbrev Res:=ai rs×ah ps
abbrev A_l0:=List (Ty.den t6)×Int×Int
noncomputable def l0.step (K:Nat)(x:aa ps)(rec_l0:A_l0→Option Res)(a:A_l0):Option Res:=bif decide (a.2.2<(List.length a.1:Int)) then ((idx a.1 a.2.2).bind fun _=>(idx a.1 (Int.toNat a.2.2:Nat)).bind fun y2=>(idx (a.1.set (Int.toNat a.2.2) (a.2.1,y2.2)) a.2.2).bind fun _=>(idx (a.1.set (Int.toNat a.2.2) (a.2.1,y2.2)) (Int.toNat a.2.2:Nat)).bind fun y4=>(idx ((a.1.set (Int.toNat a.2.2) (a.2.1,y2.2)).set (Int.toNat a.2.2) (y4.1,(wr .i64 (a.2.1+1),y4.2.2))) a.2.2).bind fun _=>(idx ((a.1.set (Int.toNat a.2.2) (a.2.1,y2.2)).set (Int.toNat a.2.2) (y4.1,(wr .i64 (a.2.1+1),y4.2.2))) (Int.toNat a.2.2:Nat)).bind fun y6=>(idx (((a.1.set (Int.toNat a.2.2) (a.2.1,y2.2)).set (Int.toNat a.2.2) (y4.1,(wr .i64 (a.2.1+1),y4.2.2))).set (Int.toNat a.2.2) (y6.1,(y6.2.1,(wr .i64 ((wr .i64 (a.2.1+1))+1),y6.2.2.2)))) a.2.2).bind fun _=>(idx (((a.1.set (Int.toNat a.2.2) (a.2.1,y2.2)).set (Int.toNat a.2.2) (y4.1,(wr .i64 (a.2.1+1),y4.2.2))).set (Int.toNat a.2.2) (y6.1,(y6.2.1,(wr .i64 ((wr .i64 (a.2.1+1))+1),y6.2.2.2)))) (Int.toNat a.2.2:Nat)).bind fun y8=>(idx (((a.1.set (Int.toNat a.2.2) (a.2.1,y2.2)).set (Int.toNat a.2.2) (y4.1,(wr .i64 (a.2.1+1),y4.2.2))).set (Int.toNat a.2.2) (y6.1,(y6.2.1,(wr .i64 ((wr .i64 (a.2.1+1))+1),y6.2.2.2)))) (Int.toNat a.2.2:Nat)).bind fun y9=>(Q50.f K (y9.2.2.2,wr .i64 ((wr .i64 ((wr .i64 (a.2.1+1))+1))+1),())).bind fun y10=>(idx (((a.1.set (Int.toNat a.2.2) (a.2.1,y2.2)).set (Int.toNat a.2.2) (y4.1,(wr .i64 (a.2.1+1),y4.2.2))).set (Int.toNat a.2.2) (y6.1,(y6.2.1,(wr .i64 ((wr .i64 (a.2.1+1))+1),y6.2.2.2)))) (Int.toNat a.2.2:Nat)).bind fun y11=>rec_l0 ((((a.1.set (Int.toNat a.2.2) (a.2.1,y2.2)).set (Int.toNat a.2.2) (y4.1,(wr .i64 (a.2.1+1),y4.2.2))).set (Int.toNat a.2.2) (y6.1,(y6.2.1,(wr .i64 ((wr .i64 (a.2.1+1))+1),y6.2.2.2)))).set (Int.toNat a.2.2) (y11.1,(y11.2.1,(y11.2.2.1,y10.2.1))),y10.1.1,wr .i64 (a.2.2+1))) else (some ((a.2.1,()),(a.1,())))
noncomputable def l0 (K:Nat)(x:aa ps):A_l0→Option Res:=ac (fun rec_l0 a=>l0.step K x rec_l0 a) K
noncomputable def pre (K:Nat)(N_l0:A_l0→Option Res)(x:aa ps):Option Res:=N_l0 (x.1,x.2.1,0)
noncomputable def f (K:Nat)(x:aa ps):Option Res:=pre K (l0 K x) x
noncomputable def c (K:Nat):Ctr:=⟨97,ps,rs,true,f K⟩
end Q51
namespace Q52
@[reducible] def ps:List PK:=[.io (.list true 94 t11),.rd (.int .i64)]
@[reducible] def rs:List RK:=[.v (.int .i64)]
abbrev Res:=ai rs×ah ps
abbrev A_l0:=List (Ty.den t11)×Int×Int
noncomputable def l0.step (K:Nat)(x:aa ps)(rec_l0:A_l0→Option Res)(a:A_l0):Option Res:=bif decide (a.2.2<(List.length a.1:Int)) then ((idx a.1 a.2.2).bind fun _=>(idx a.1 (Int.toNat a.2.2:Nat)).bind fun y2=>(idx (a.1.set (Int.toNat a.2.2) (a.2.1,y2.2)) a.2.2).bind fun _=>(idx (a.1.set (Int.toNat a.2.2) (a.2.1,y2.2)) (Int.toNat a.2.2:Nat)).bind fun y4=>(idx ((a.1.set (Int.toNat a.2.2) (a.2.1,y2.2)).set (Int.toNat a.2.2) (y4.1,((wr .i64 (a.2.1+1),y4.2.1.2),y4.2.2))) a.2.2).bind fun _=>(idx ((a.1.set (Int.toNat a.2.2) (a.2.1,y2.2)).set (Int.toNat a.2.2) (y4.1,((wr .i64 (a.2.1+1),y4.2.1.2),y4.2.2))) (Int.toNat a.2.2:Nat)).bind fun y6=>(idx (((a.1.set (Int.toNat a.2.2) (a.2.1,y2.2)).set (Int.toNat a.2.2) (y4.1,((wr .i64 (a.2.1+1),y4.2.1.2),y4.2.2))).set (Int.toNat a.2.2) (y6.1,((y6.2.1.1,(wr .i64 ((wr .i64 (a.2.1+1))+1),y6.2.1.2.2)),y6.2.2))) a.2.2).bind fun _=>(idx (((a.1.set (Int.toNat a.2.2) (a.2.1,y2.2)).set (Int.toNat a.2.2) (y4.1,((wr .i64 (a.2.1+1),y4.2.1.2),y4.2.2))).set (Int.toNat a.2.2) (y6.1,((y6.2.1.1,(wr .i64 ((wr .i64 (a.2.1+1))+1),y6.2.1.2.2)),y6.2.2))) (Int.toNat a.2.2:Nat)).bind fun y8=>(idx ((((a.1.set (Int.toNat a.2.2) (a.2.1,y2.2)).set (Int.toNat a.2.2) (y4.1,((wr .i64 (a.2.1+1),y4.2.1.2),y4.2.2))).set (Int.toNat a.2.2) (y6.1,((y6.2.1.1,(wr .i64 ((wr .i64 (a.2.1+1))+1),y6.2.1.2.2)),y6.2.2))).set (Int.toNat a.2.2) (y8.1,((y8.2.1.1,(y8.2.1.2.1,(wr .i64 ((wr .i64 ((wr .i64 (a.2.1+1))+1))+1),y8.2.1.2.2.2))),y8.2.2))) a.2.2).bind fun _=>(idx ((((a.1.set (Int.toNat a.2.2) (a.2.1,y2.2)).set (Int.toNat a.2.2) (y4.1,((wr .i64 (a.2.1+1),y4.2.1.2),y4.2.2))).set (Int.toNat a.2.2) (y6.1,((y6.2.1.1,(wr .i64 ((wr .i64 (a.2.1+1))+1),y6.2.1.2.2)),y6.2.2))).set (Int.toNat a.2.2) (y8.1,((y8.2.1.1,(y8.2.1.2.1,(wr .i64 ((wr .i64 ((wr .i64 (a.2.1+1))+1))+1),y8.2.1.2.2.2))),y8.2.2))) (Int.toNat a.2.2:Nat)).bind fun y10=>(idx (((((a.1.set (Int.toNat a.2.2) (a.2.1,y2.2)).set (Int.toNat a.2.2) (y4.1,((wr .i64 (a.2.1+1),y4.2.1.2),y4.2.2))).set (Int.toNat a.2.2) (y6.1,((y6.2.1.1,(wr .i64 ((wr .i64 (a.2.1+1))+1),y6.2.1.2.2)),y6.2.2))).set (Int.toNat a.2.2) (y8.1,((y8.2.1.1,(y8.2.1.2.1,(wr .i64 ((wr .i64 ((wr .i64 (a.2.1+1))+1))+1),y8.2.1.2.2.2))),y8.2.2))).set (Int.toNat a.2.2) (y10.1,((y10.2.1.1,(y10.2.1.2.1,(y10.2.1.2.2.1,wr .i64 ((wr .i64 ((wr .i64 ((wr .i64 (a.2.1+1))+1))+1))+1)))),y10.2.2))) a.2.2).bind fun _=>(idx (((((a.1.set (Int.toNat a.2.2) (a.2.1,y2.2)).set (Int.toNat a.2.2) (y4.1,((wr .i64 (a.2.1+1),y4.2.1.2),y4.2.2))).set (Int.toNat a.2.2) (y6.1,((y6.2.1.1,(wr .i64 ((wr .i64 (a.2.1+1))+1),y6.2.1.2.2)),y6.2.2))).set (Int.toNat a.2.2) (y8.1,((y8.2.1.1,(y8.2.1.2.1,(wr .i64 ((wr .i64 ((wr .i64 (a.2.1+1))+1))+1),y8.2.1.2.2.2))),y8.2.2))).set (Int.toNat a.2.2) (y10.1,((y10.2.1.1,(y10.2.1.2.1,(y10.2.1.2.2.1,wr .i64 ((wr .i64 ((wr .i64 ((wr .i64 (a.2.1+1))+1))+1))+1)))),y10.2.2))) (Int.toNat a.2.2:Nat)).bind fun y12=>(idx (((((a.1.set (Int.toNat a.2.2) (a.2.1,y2.2)).set (Int.toNat a.2.2) (y4.1,((wr .i64 (a.2.1+1),y4.2.1.2),y4.2.2))).set (Int.toNat a.2.2) (y6.1,((y6.2.1.1,(wr .i64 ((wr .i64 (a.2.1+1))+1),y6.2.1.2.2)),y6.2.2))).set (Int.toNat a.2.2) (y8.1,((y8.2.1.1,(y8.2.1.2.1,(wr .i64 ((wr .i64 ((wr .i64 (a.2.1+1))+1))+1),y8.2.1.2.2.2))),y8.2.2))).set (Int.toNat a.2.2) (y10.1,((y10.2.1.1,(y10.2.1.2.1,(y10.2.1.2.2.1,wr .i64 ((wr .i64 ((wr .i64 ((wr .i64 (a.2.1+1))+1))+1))+1)))),y10.2.2))) (Int.toNat a.2.2:Nat)).bind fun y13=>(Q50.f K (y13.2.2,wr .i64 ((wr .i64 ((wr .i64 ((wr .i64 ((wr .i64 (a.2.1+1))+1))+1))+1))+1),())).bind fun y14=>(idx (((((a.1.set (Int.toNat a.2.2) (a.2.1,y2.2)).set (Int.toNat a.2.2) (y4.1,((wr .i64 (a.2.1+1),y4.2.1.2),y4.2.2))).set (Int.toNat a.2.2) (y6.1,((y6.2.1.1,(wr .i64 ((wr .i64 (a.2.1+1))+1),y6.2.1.2.2)),y6.2.2))).set (Int.toNat a.2.2) (y8.1,((y8.2.1.1,(y8.2.1.2.1,(wr .i64 ((wr .i64 ((wr .i64 (a.2.1+1))+1))+1),y8.2.1.2.2.2))),y8.2.2))).set (Int.toNat a.2.2) (y10.1,((y10.2.1.1,(y10.2.1.2.1,(y10.2.1.2.2.1,wr .i64 ((wr .i64 ((wr .i64 ((wr .i64 (a.2.1+1))+1))+1))+1)))),y10.2.2))) (Int.toNat a.2.2:Nat)).bind fun y15=>rec_l0 ((((((a.1.set (Int.toNat a.2.2) (a.2.1,y2.2)).set (Int.toNat a.2.2) (y4.1,((wr .i64 (a.2.1+1),y4.2.1.2),y4.2.2))).set (Int.toNat a.2.2) (y6.1,((y6.2.1.1,(wr .i64 ((wr .i64 (a.2.1+1))+1),y6.2.1.2.2)),y6.2.2))).set (Int.toNat a.2.2) (y8.1,((y8.2.1.1,(y8.2.1.2.1,(wr .i64 ((wr .i64 ((wr .i64 (a.2.1+1))+1))+1),y8.2.1.2.2.2))),y8.2.2))).set (Int.toNat a.2.2) (y10.1,((y10.2.1.1,(y10.2.1.2.1,(y10.2.1.2.2.1,wr .i64 ((wr .i64 ((wr .i64 ((wr .i64 (a.2.1+1))+1))+1))+1)))),y10.2.2))).set (Int.toNat a.2.2) (y15.1,(y15.2.1,y14.2.1)),y14.1.1,wr .i64 (a.2.2+1))) else (some ((a.2.1,()),(a.1,())))
noncomputable def l0 (K:Nat)(x:aa ps):A_l0→Option Res:=ac (fun rec_l0 a=>l0.step K x rec_l0 a) K
noncomputable def pre (K:Nat)(N_l0:A_l0→Option Res)(x:aa ps):Option Res:=N_l0 (x.1,x.2.1,0)
noncomputable def f (K:Nat)(x:aa ps):Option Res:=pre K (l0 K x) x
noncomputable def c (K:Nat):Ctr:=⟨98,ps,rs,true,f K⟩
end Q52
namespace Q53
@[reducible] def ps:List PK:=[.io (.list true 119 t12),.rd (.int .i64)]
@[reducible] def rs:List RK:=[.v (.int .i64)]
abbrev Res:=ai rs×ah ps
abbrev A_l0:=List (Ty.den t12)×Int×Int
noncomputable def l0.step (K:Nat)(x:aa ps)(rec_l0:A_l0→Option Res)(a:A_l0):Option Res:=bif decide (a.2.2<(List.length a.1:Int)) then ((idx a.1 a.2.2).bind fun _=>(idx a.1 (Int.toNat a.2.2:Nat)).bind fun y2=>(idx (a.1.set (Int.toNat a.2.2) (a.2.1,y2.2)) a.2.2).bind fun _=>(idx (a.1.set (Int.toNat a.2.2) (a.2.1,y2.2)) (Int.toNat a.2.2:Nat)).bind fun y4=>(idx (a.1.set (Int.toNat a.2.2) (a.2.1,y2.2)) (Int.toNat a.2.2:Nat)).bind fun y5=>(Q48.f K (y5.2,wr .i64 (a.2.1+1),())).bind fun y6=>(idx (a.1.set (Int.toNat a.2.2) (a.2.1,y2.2)) (Int.toNat a.2.2:Nat)).bind fun y7=>rec_l0 ((a.1.set (Int.toNat a.2.2) (a.2.1,y2.2)).set (Int.toNat a.2.2) (y7.1,y6.2.1),y6.1.1,wr .i64 (a.2.2+1))) else (some ((a.2.1,()),(a.1,())))
noncomputable def l0 (K:Nat)(x:aa ps):A_l0→Option Res:=ac (fun rec_l0 a=>l0.step K x rec_l0 a) K
noncomputable def pre (K:Nat)(N_l0:A_l0→Option Res)(x:aa ps):Option Res:=N_l0 (x.1,x.2.1,0)
noncomputable def f (K:Nat)(x:aa ps):Option Res:=pre K (l0 K x) x
noncomputable def c (K:Nat):Ctr:=⟨99,ps,rs,true,f K⟩
end Q53
namespace Q54
@[reducible] def ps:List PK:=[.io t64,.rd (.int .i64)]
@[reducible] def rs:List RK:=[.v (.int .i64)]
abbrev Res:=ai rs×ah ps
noncomputable def f (K:Nat)(x:aa ps):Option Res:=(Q48.f K (x.1.2.2.2.2.2.2.2.2.1,x.2.1,())).bind fun y1=>(Q49.f K (x.1.2.2.2.2.2.2.2.2.2.1,y1.1.1,())).bind fun y2=>(Q51.f K (x.1.2.2.2.2.2.2.2.2.2.2.2.1,y2.1.1,())).bind fun y3=>(Q52.f K (x.1.2.2.2.2.2.2.2.2.2.2.2.2.2.1,y3.1.1,())).bind fun y4=>(Q53.f K (x.1.2.2.2.2.2.2.2.2.2.2.2.2.2.2,y4.1.1,())).bind fun y5=>some ((y5.1.1,()),((x.1.1,(x.1.2.1,(x.1.2.2.1,(x.1.2.2.2.1,(x.1.2.2.2.2.1,(x.1.2.2.2.2.2.1,(x.1.2.2.2.2.2.2.1,(x.1.2.2.2.2.2.2.2.1,(y1.2.1,(y2.2.1,(x.1.2.2.2.2.2.2.2.2.2.2.1,(y3.2.1,(x.1.2.2.2.2.2.2.2.2.2.2.2.2.1,(y4.2.1,y5.2.1)))))))))))))),()))
noncomputable def c (K:Nat):Ctr:=⟨28,ps,rs,true,f K⟩
end Q54
namespace Q55
@[reducible] def ps:List PK:=[.rd t25,.rd t25]
@[reducible] def rs:List RK:=[.v .bool]
abbrev Res:=ai rs×ah ps
noncomputable def f (K:Nat)(x:aa ps):Option Res:=bif x.1.1 != x.2.1.1 then (some ((false,()),())) else (bif x.1.2.1 != x.2.1.2.1 then (some ((false,()),())) else (bif x.1.2.2.1 != x.2.1.2.2.1 then (some ((false,()),())) else (bif x.1.2.2.2.1 != x.2.1.2.2.2.1 then (some ((false,()),())) else (bif x.1.2.2.2.2.1 != x.2.1.2.2.2.2.1 then (some ((false,()),())) else (bif x.1.2.2.2.2.2.1 != x.2.1.2.2.2.2.2.1 then (some ((false,()),())) else ((Q42.f K (x.1.2.2.2.2.2.2.1,x.2.1.2.2.2.2.2.2.1,())).bind fun y1=>bif !y1.1.1 then (some ((false,()),())) else ((Q35.f K (x.1.2.2.2.2.2.2.2,x.2.1.2.2.2.2.2.2.2,())).bind fun y2=>bif !y2.1.1 then (some ((false,()),())) else (some ((true,()),())))))))))
noncomputable def c (K:Nat):Ctr:=⟨24,ps,rs,true,f K⟩
end Q55
namespace Q56
@[reducible] def ps:List PK:=[.rd (.list false 53 t25),.rd (.list false 53 t25)]
@[reducible] def rs:List RK:=[.v .bool]
abbrev Res:=ai rs×ah ps
abbrev A_l0:=Int
noncomputable def l0.step (K:Nat)(x:aa ps)(rec_l0:A_l0→Option Res)(a:A_l0):Option Res:=bif decide (a<(List.length x.1:Int)) then ((idx x.1 a).bind fun y1=>(idx x.2.1 a).bind fun y2=>(Q55.f K (y1,y2,())).bind fun y3=>bif !y3.1.1 then (some ((false,()),())) else (rec_l0 (wr .i64 (a+1)))) else (some ((true,()),()))
noncomputable def l0 (K:Nat)(x:aa ps):A_l0→Option Res:=ac (fun rec_l0 a=>l0.step K x rec_l0 a) K
noncomputable def pre (K:Nat)(N_l0:A_l0→Option Res)(x:aa ps):Option Res:=bif (List.length x.1:Int) != (List.length x.2.1:Int) then (some ((false,()),())) else (N_l0 0)
noncomputable def f (K:Nat)(x:aa ps):Option Res:=pre K (l0 K x) x
noncomputable def c (K:Nat):Ctr:=⟨40,ps,rs,true,f K⟩
end Q56
namespace Q57
@[reducible] def ps:List PK:=[.io (.list true 53 t32),.rd (.int .i64)]
@[reducible] def rs:List RK:=[.v (.int .i64)]
abbrev Res:=ai rs×ah ps
abbrev A_l0:=List (Ty.den t32)×Int×Int
noncomputable def l0.step (K:Nat)(x:aa ps)(rec_l0:A_l0→Option Res)(a:A_l0):Option Res:=bif decide (a.2.2<(List.length a.1:Int)) then ((idx a.1 a.2.2).bind fun _=>(idx a.1 (Int.toNat a.2.2:Nat)).bind fun y2=>(idx (a.1.set (Int.toNat a.2.2) (a.2.1,y2.2)) a.2.2).bind fun _=>(idx (a.1.set (Int.toNat a.2.2) (a.2.1,y2.2)) (Int.toNat a.2.2:Nat)).bind fun y4=>(idx ((a.1.set (Int.toNat a.2.2) (a.2.1,y2.2)).set (Int.toNat a.2.2) (y4.1,(wr .i64 (a.2.1+1),y4.2.2))) a.2.2).bind fun _=>(idx ((a.1.set (Int.toNat a.2.2) (a.2.1,y2.2)).set (Int.toNat a.2.2) (y4.1,(wr .i64 (a.2.1+1),y4.2.2))) (Int.toNat a.2.2:Nat)).bind fun y6=>(idx (((a.1.set (Int.toNat a.2.2) (a.2.1,y2.2)).set (Int.toNat a.2.2) (y4.1,(wr .i64 (a.2.1+1),y4.2.2))).set (Int.toNat a.2.2) (y6.1,(y6.2.1,(wr .i64 ((wr .i64 (a.2.1+1))+1),y6.2.2.2)))) a.2.2).bind fun _=>(idx (((a.1.set (Int.toNat a.2.2) (a.2.1,y2.2)).set (Int.toNat a.2.2) (y4.1,(wr .i64 (a.2.1+1),y4.2.2))).set (Int.toNat a.2.2) (y6.1,(y6.2.1,(wr .i64 ((wr .i64 (a.2.1+1))+1),y6.2.2.2)))) (Int.toNat a.2.2:Nat)).bind fun y8=>(idx ((((a.1.set (Int.toNat a.2.2) (a.2.1,y2.2)).set (Int.toNat a.2.2) (y4.1,(wr .i64 (a.2.1+1),y4.2.2))).set (Int.toNat a.2.2) (y6.1,(y6.2.1,(wr .i64 ((wr .i64 (a.2.1+1))+1),y6.2.2.2)))).set (Int.toNat a.2.2) (y8.1,(y8.2.1,(y8.2.2.1,(wr .i64 ((wr .i64 ((wr .i64 (a.2.1+1))+1))+1),y8.2.2.2.2))))) a.2.2).bind fun _=>(idx ((((a.1.set (Int.toNat a.2.2) (a.2.1,y2.2)).set (Int.toNat a.2.2) (y4.1,(wr .i64 (a.2.1+1),y4.2.2))).set (Int.toNat a.2.2) (y6.1,(y6.2.1,(wr .i64 ((wr .i64 (a.2.1+1))+1),y6.2.2.2)))).set (Int.toNat a.2.2) (y8.1,(y8.2.1,(y8.2.2.1,(wr .i64 ((wr .i64 ((wr .i64 (a.2.1+1))+1))+1),y8.2.2.2.2))))) (Int.toNat a.2.2:Nat)).bind fun y10=>(idx (((((a.1.set (Int.toNat a.2.2) (a.2.1,y2.2)).set (Int.toNat a.2.2) (y4.1,(wr .i64 (a.2.1+1),y4.2.2))).set (Int.toNat a.2.2) (y6.1,(y6.2.1,(wr .i64 ((wr .i64 (a.2.1+1))+1),y6.2.2.2)))).set (Int.toNat a.2.2) (y8.1,(y8.2.1,(y8.2.2.1,(wr .i64 ((wr .i64 ((wr .i64 (a.2.1+1))+1))+1),y8.2.2.2.2))))).set (Int.toNat a.2.2) (y10.1,(y10.2.1,(y10.2.2.1,(y10.2.2.2.1,(wr .i64 ((wr .i64 ((wr .i64 ((wr .i64 (a.2.1+1))+1))+1))+1),y10.2.2.2.2.2)))))) a.2.2).bind fun _=>(idx (((((a.1.set (Int.toNat a.2.2) (a.2.1,y2.2)).set (Int.toNat a.2.2) (y4.1,(wr .i64 (a.2.1+1),y4.2.2))).set (Int.toNat a.2.2) (y6.1,(y6.2.1,(wr .i64 ((wr .i64 (a.2.1+1))+1),y6.2.2.2)))).set (Int.toNat a.2.2) (y8.1,(y8.2.1,(y8.2.2.1,(wr .i64 ((wr .i64 ((wr .i64 (a.2.1+1))+1))+1),y8.2.2.2.2))))).set (Int.toNat a.2.2) (y10.1,(y10.2.1,(y10.2.2.1,(y10.2.2.2.1,(wr .i64 ((wr .i64 ((wr .i64 ((wr .i64 (a.2.1+1))+1))+1))+1),y10.2.2.2.2.2)))))) (Int.toNat a.2.2:Nat)).bind fun y12=>(idx ((((((a.1.set (Int.toNat a.2.2) (a.2.1,y2.2)).set (Int.toNat a.2.2) (y4.1,(wr .i64 (a.2.1+1),y4.2.2))).set (Int.toNat a.2.2) (y6.1,(y6.2.1,(wr .i64 ((wr .i64 (a.2.1+1))+1),y6.2.2.2)))).set (Int.toNat a.2.2) (y8.1,(y8.2.1,(y8.2.2.1,(wr .i64 ((wr .i64 ((wr .i64 (a.2.1+1))+1))+1),y8.2.2.2.2))))).set (Int.toNat a.2.2) (y10.1,(y10.2.1,(y10.2.2.1,(y10.2.2.2.1,(wr .i64 ((wr .i64 ((wr .i64 ((wr .i64 (a.2.1+1))+1))+1))+1),y10.2.2.2.2.2)))))).set (Int.toNat a.2.2) (y12.1,(y12.2.1,(y12.2.2.1,(y12.2.2.2.1,(y12.2.2.2.2.1,(wr .i64 ((wr .i64 ((wr .i64 ((wr .i64 ((wr .i64 (a.2.1+1))+1))+1))+1))+1),y12.2.2.2.2.2.2))))))) a.2.2).bind fun _=>(idx ((((((a.1.set (Int.toNat a.2.2) (a.2.1,y2.2)).set (Int.toNat a.2.2) (y4.1,(wr .i64 (a.2.1+1),y4.2.2))).set (Int.toNat a.2.2) (y6.1,(y6.2.1,(wr .i64 ((wr .i64 (a.2.1+1))+1),y6.2.2.2)))).set (Int.toNat a.2.2) (y8.1,(y8.2.1,(y8.2.2.1,(wr .i64 ((wr .i64 ((wr .i64 (a.2.1+1))+1))+1),y8.2.2.2.2))))).set (Int.toNat a.2.2) (y10.1,(y10.2.1,(y10.2.2.1,(y10.2.2.2.1,(wr .i64 ((wr .i64 ((wr .i64 ((wr .i64 (a.2.1+1))+1))+1))+1),y10.2.2.2.2.2)))))).set (Int.toNat a.2.2) (y12.1,(y12.2.1,(y12.2.2.1,(y12.2.2.2.1,(y12.2.2.2.2.1,(wr .i64 ((wr .i64 ((wr .i64 ((wr .i64 ((wr .i64 (a.2.1+1))+1))+1))+1))+1),y12.2.2.2.2.2.2))))))) (Int.toNat a.2.2:Nat)).bind fun y14=>(idx (((((((a.1.set (Int.toNat a.2.2) (a.2.1,y2.2)).set (Int.toNat a.2.2) (y4.1,(wr .i64 (a.2.1+1),y4.2.2))).set (Int.toNat a.2.2) (y6.1,(y6.2.1,(wr .i64 ((wr .i64 (a.2.1+1))+1),y6.2.2.2)))).set (Int.toNat a.2.2) (y8.1,(y8.2.1,(y8.2.2.1,(wr .i64 ((wr .i64 ((wr .i64 (a.2.1+1))+1))+1),y8.2.2.2.2))))).set (Int.toNat a.2.2) (y10.1,(y10.2.1,(y10.2.2.1,(y10.2.2.2.1,(wr .i64 ((wr .i64 ((wr .i64 ((wr .i64 (a.2.1+1))+1))+1))+1),y10.2.2.2.2.2)))))).set (Int.toNat a.2.2) (y12.1,(y12.2.1,(y12.2.2.1,(y12.2.2.2.1,(y12.2.2.2.2.1,(wr .i64 ((wr .i64 ((wr .i64 ((wr .i64 ((wr .i64 (a.2.1+1))+1))+1))+1))+1),y12.2.2.2.2.2.2))))))).set (Int.toNat a.2.2) (y14.1,(y14.2.1,(y14.2.2.1,(y14.2.2.2.1,(y14.2.2.2.2.1,(y14.2.2.2.2.2.1,((wr .i64 ((wr .i64 ((wr .i64 ((wr .i64 ((wr .i64 ((wr .i64 (a.2.1+1))+1))+1))+1))+1))+1),y14.2.2.2.2.2.2.1.2),y14.2.2.2.2.2.2.2)))))))) a.2.2).bind fun _=>(idx (((((((a.1.set (Int.toNat a.2.2) (a.2.1,y2.2)).set (Int.toNat a.2.2) (y4.1,(wr .i64 (a.2.1+1),y4.2.2))).set (Int.toNat a.2.2) (y6.1,(y6.2.1,(wr .i64 ((wr .i64 (a.2.1+1))+1),y6.2.2.2)))).set (Int.toNat a.2.2) (y8.1,(y8.2.1,(y8.2.2.1,(wr .i64 ((wr .i64 ((wr .i64 (a.2.1+1))+1))+1),y8.2.2.2.2))))).set (Int.toNat a.2.2) (y10.1,(y10.2.1,(y10.2.2.1,(y10.2.2.2.1,(wr .i64 ((wr .i64 ((wr .i64 ((wr .i64 (a.2.1+1))+1))+1))+1),y10.2.2.2.2.2)))))).set (Int.toNat a.2.2) (y12.1,(y12.2.1,(y12.2.2.1,(y12.2.2.2.1,(y12.2.2.2.2.1,(wr .i64 ((wr .i64 ((wr .i64 ((wr .i64 ((wr .i64 (a.2.1+1))+1))+1))+1))+1),y12.2.2.2.2.2.2))))))).set (Int.toNat a.2.2) (y14.1,(y14.2.1,(y14.2.2.1,(y14.2.2.2.1,(y14.2.2.2.2.1,(y14.2.2.2.2.2.1,((wr .i64 ((wr .i64 ((wr .i64 ((wr .i64 ((wr .i64 ((wr .i64 (a.2.1+1))+1))+1))+1))+1))+1),y14.2.2.2.2.2.2.1.2),y14.2.2.2.2.2.2.2)))))))) (Int.toNat a.2.2:Nat)).bind fun y16=>(idx ((((((((a.1.set (Int.toNat a.2.2) (a.2.1,y2.2)).set (Int.toNat a.2.2) (y4.1,(wr .i64 (a.2.1+1),y4.2.2))).set (Int.toNat a.2.2) (y6.1,(y6.2.1,(wr .i64 ((wr .i64 (a.2.1+1))+1),y6.2.2.2)))).set (Int.toNat a.2.2) (y8.1,(y8.2.1,(y8.2.2.1,(wr .i64 ((wr .i64 ((wr .i64 (a.2.1+1))+1))+1),y8.2.2.2.2))))).set (Int.toNat a.2.2) (y10.1,(y10.2.1,(y10.2.2.1,(y10.2.2.2.1,(wr .i64 ((wr .i64 ((wr .i64 ((wr .i64 (a.2.1+1))+1))+1))+1),y10.2.2.2.2.2)))))).set (Int.toNat a.2.2) (y12.1,(y12.2.1,(y12.2.2.1,(y12.2.2.2.1,(y12.2.2.2.2.1,(wr .i64 ((wr .i64 ((wr .i64 ((wr .i64 ((wr .i64 (a.2.1+1))+1))+1))+1))+1),y12.2.2.2.2.2.2))))))).set (Int.toNat a.2.2) (y14.1,(y14.2.1,(y14.2.2.1,(y14.2.2.2.1,(y14.2.2.2.2.1,(y14.2.2.2.2.2.1,((wr .i64 ((wr .i64 ((wr .i64 ((wr .i64 ((wr .i64 ((wr .i64 (a.2.1+1))+1))+1))+1))+1))+1),y14.2.2.2.2.2.2.1.2),y14.2.2.2.2.2.2.2)))))))).set (Int.toNat a.2.2) (y16.1,(y16.2.1,(y16.2.2.1,(y16.2.2.2.1,(y16.2.2.2.2.1,(y16.2.2.2.2.2.1,((y16.2.2.2.2.2.2.1.1,(wr .i64 ((wr .i64 ((wr .i64 ((wr .i64 ((wr .i64 ((wr .i64 ((wr .i64 (a.2.1+1))+1))+1))+1))+1))+1))+1),y16.2.2.2.2.2.2.1.2.2)),y16.2.2.2.2.2.2.2)))))))) a.2.2).bind fun _=>(idx ((((((((a.1.set (Int.toNat a.2.2) (a.2.1,y2.2)).set (Int.toNat a.2.2) (y4.1,(wr .i64 (a.2.1+1),y4.2.2))).set (Int.toNat a.2.2) (y6.1,(y6.2.1,(wr .i64 ((wr .i64 (a.2.1+1))+1),y6.2.2.2)))).set (Int.toNat a.2.2) (y8.1,(y8.2.1,(y8.2.2.1,(wr .i64 ((wr .i64 ((wr .i64 (a.2.1+1))+1))+1),y8.2.2.2.2))))).set (Int.toNat a.2.2) (y10.1,(y10.2.1,(y10.2.2.1,(y10.2.2.2.1,(wr .i64 ((wr .i64 ((wr .i64 ((wr .i64 (a.2.1+1))+1))+1))+1),y10.2.2.2.2.2)))))).set (Int.toNat a.2.2) (y12.1,(y12.2.1,(y12.2.2.1,(y12.2.2.2.1,(y12.2.2.2.2.1,(wr .i64 ((wr .i64 ((wr .i64 ((wr .i64 ((wr .i64 (a.2.1+1))+1))+1))+1))+1),y12.2.2.2.2.2.2))))))).set (Int.toNat a.2.2) (y14.1,(y14.2.1,(y14.2.2.1,(y14.2.2.2.1,(y14.2.2.2.2.1,(y14.2.2.2.2.2.1,((wr .i64 ((wr .i64 ((wr .i64 ((wr .i64 ((wr .i64 ((wr .i64 (a.2.1+1))+1))+1))+1))+1))+1),y14.2.2.2.2.2.2.1.2),y14.2.2.2.2.2.2.2)))))))).set (Int.toNat a.2.2) (y16.1,(y16.2.1,(y16.2.2.1,(y16.2.2.2.1,(y16.2.2.2.2.1,(y16.2.2.2.2.2.1,((y16.2.2.2.2.2.2.1.1,(wr .i64 ((wr .i64 ((wr .i64 ((wr .i64 ((wr .i64 ((wr .i64 ((wr .i64 (a.2.1+1))+1))+1))+1))+1))+1))+1),y16.2.2.2.2.2.2.1.2.2)),y16.2.2.2.2.2.2.2)))))))) (Int.toNat a.2.2:Nat)).bind fun y18=>(idx (((((((((a.1.set (Int.toNat a.2.2) (a.2.1,y2.2)).set (Int.toNat a.2.2) (y4.1,(wr .i64 (a.2.1+1),y4.2.2))).set (Int.toNat a.2.2) (y6.1,(y6.2.1,(wr .i64 ((wr .i64 (a.2.1+1))+1),y6.2.2.2)))).set (Int.toNat a.2.2) (y8.1,(y8.2.1,(y8.2.2.1,(wr .i64 ((wr .i64 ((wr .i64 (a.2.1+1))+1))+1),y8.2.2.2.2))))).set (Int.toNat a.2.2) (y10.1,(y10.2.1,(y10.2.2.1,(y10.2.2.2.1,(wr .i64 ((wr .i64 ((wr .i64 ((wr .i64 (a.2.1+1))+1))+1))+1),y10.2.2.2.2.2)))))).set (Int.toNat a.2.2) (y12.1,(y12.2.1,(y12.2.2.1,(y12.2.2.2.1,(y12.2.2.2.2.1,(wr .i64 ((wr .i64 ((wr .i64 ((wr .i64 ((wr .i64 (a.2.1+1))+1))+1))+1))+1),y12.2.2.2.2.2.2))))))).set (Int.toNat a.2.2) (y14.1,(y14.2.1,(y14.2.2.1,(y14.2.2.2.1,(y14.2.2.2.2.1,(y14.2.2.2.2.2.1,((wr .i64 ((wr .i64 ((wr .i64 ((wr .i64 ((wr .i64 ((wr .i64 (a.2.1+1))+1))+1))+1))+1))+1),y14.2.2.2.2.2.2.1.2),y14.2.2.2.2.2.2.2)))))))).set (Int.toNat a.2.2) (y16.1,(y16.2.1,(y16.2.2.1,(y16.2.2.2.1,(y16.2.2.2.2.1,(y16.2.2.2.2.2.1,((y16.2.2.2.2.2.2.1.1,(wr .i64 ((wr .i64 ((wr .i64 ((wr .i64 ((wr .i64 ((wr .i64 ((wr .i64 (a.2.1+1))+1))+1))+1))+1))+1))+1),y16.2.2.2.2.2.2.1.2.2)),y16.2.2.2.2.2.2.2)))))))).set (Int.toNat a.2.2) (y18.1,(y18.2.1,(y18.2.2.1,(y18.2.2.2.1,(y18.2.2.2.2.1,(y18.2.2.2.2.2.1,((y18.2.2.2.2.2.2.1.1,(y18.2.2.2.2.2.2.1.2.1,(wr .i64 ((wr .i64 ((wr .i64 ((wr .i64 ((wr .i64 ((wr .i64 ((wr .i64 ((wr .i64 (a.2.1+1))+1))+1))+1))+1))+1))+1))+1),y18.2.2.2.2.2.2.1.2.2.2))),y18.2.2.2.2.2.2.2)))))))) a.2.2).bind fun _=>(idx (((((((((a.1.set (Int.toNat a.2.2) (a.2.1,y2.2)).set (Int.toNat a.2.2) (y4.1,(wr .i64 (a.2.1+1),y4.2.2))).set (Int.toNat a.2.2) (y6.1,(y6.2.1,(wr .i64 ((wr .i64 (a.2.1+1))+1),y6.2.2.2)))).set (Int.toNat a.2.2) (y8.1,(y8.2.1,(y8.2.2.1,(wr .i64 ((wr .i64 ((wr .i64 (a.2.1+1))+1))+1),y8.2.2.2.2))))).set (Int.toNat a.2.2) (y10.1,(y10.2.1,(y10.2.2.1,(y10.2.2.2.1,(wr .i64 ((wr .i64 ((wr .i64 ((wr .i64 (a.2.1+1))+1))+1))+1),y10.2.2.2.2.2)))))).set (Int.toNat a.2.2) (y12.1,(y12.2.1,(y12.2.2.1,(y12.2.2.2.1,(y12.2.2.2.2.1,(wr .i64 ((wr .i64 ((wr .i64 ((wr .i64 ((wr .i64 (a.2.1+1))+1))+1))+1))+1),y12.2.2.2.2.2.2))))))).set (Int.toNat a.2.2) (y14.1,(y14.2.1,(y14.2.2.1,(y14.2.2.2.1,(y14.2.2.2.2.1,(y14.2.2.2.2.2.1,((wr .i64 ((wr .i64 ((wr .i64 ((wr .i64 ((wr .i64 ((wr .i64 (a.2.1+1))+1))+1))+1))+1))+1),y14.2.2.2.2.2.2.1.2),y14.2.2.2.2.2.2.2)))))))).set (Int.toNat a.2.2) (y16.1,(y16.2.1,(y16.2.2.1,(y16.2.2.2.1,(y16.2.2.2.2.1,(y16.2.2.2.2.2.1,((y16.2.2.2.2.2.2.1.1,(wr .i64 ((wr .i64 ((wr .i64 ((wr .i64 ((wr .i64 ((wr .i64 ((wr .i64 (a.2.1+1))+1))+1))+1))+1))+1))+1),y16.2.2.2.2.2.2.1.2.2)),y16.2.2.2.2.2.2.2)))))))).set (Int.toNat a.2.2) (y18.1,(y18.2.1,(y18.2.2.1,(y18.2.2.2.1,(y18.2.2.2.2.1,(y18.2.2.2.2.2.1,((y18.2.2.2.2.2.2.1.1,(y18.2.2.2.2.2.2.1.2.1,(wr .i64 ((wr .i64 ((wr .i64 ((wr .i64 ((wr .i64 ((wr .i64 ((wr .i64 ((wr .i64 (a.2.1+1))+1))+1))+1))+1))+1))+1))+1),y18.2.2.2.2.2.2.1.2.2.2))),y18.2.2.2.2.2.2.2)))))))) (Int.toNat a.2.2:Nat)).bind fun y20=>(idx ((((((((((a.1.set (Int.toNat a.2.2) (a.2.1,y2.2)).set (Int.toNat a.2.2) (y4.1,(wr .i64 (a.2.1+1),y4.2.2))).set (Int.toNat a.2.2) (y6.1,(y6.2.1,(wr .i64 ((wr .i64 (a.2.1+1))+1),y6.2.2.2)))).set (Int.toNat a.2.2) (y8.1,(y8.2.1,(y8.2.2.1,(wr .i64 ((wr .i64 ((wr .i64 (a.2.1+1))+1))+1),y8.2.2.2.2))))).set (Int.toNat a.2.2) (y10.1,(y10.2.1,(y10.2.2.1,(y10.2.2.2.1,(wr .i64 ((wr .i64 ((wr .i64 ((wr .i64 (a.2.1+1))+1))+1))+1),y10.2.2.2.2.2)))))).set (Int.toNat a.2.2) (y12.1,(y12.2.1,(y12.2.2.1,(y12.2.2.2.1,(y12.2.2.2.2.1,(wr .i64 ((wr .i64 ((wr .i64 ((wr .i64 ((wr .i64 (a.2.1+1))+1))+1))+1))+1),y12.2.2.2.2.2.2))))))).set (Int.toNat a.2.2) (y14.1,(y14.2.1,(y14.2.2.1,(y14.2.2.2.1,(y14.2.2.2.2.1,(y14.2.2.2.2.2.1,((wr .i64 ((wr .i64 ((wr .i64 ((wr .i64 ((wr .i64 ((wr .i64 (a.2.1+1))+1))+1))+1))+1))+1),y14.2.2.2.2.2.2.1.2),y14.2.2.2.2.2.2.2)))))))).set (Int.toNat a.2.2) (y16.1,(y16.2.1,(y16.2.2.1,(y16.2.2.2.1,(y16.2.2.2.2.1,(y16.2.2.2.2.2.1,((y16.2.2.2.2.2.2.1.1,(wr .i64 ((wr .i64 ((wr .i64 ((wr .i64 ((wr .i64 ((wr .i64 ((wr .i64 (a.2.1+1))+1))+1))+1))+1))+1))+1),y16.2.2.2.2.2.2.1.2.2)),y16.2.2.2.2.2.2.2)))))))).set (Int.toNat a.2.2) (y18.1,(y18.2.1,(y18.2.2.1,(y18.2.2.2.1,(y18.2.2.2.2.1,(y18.2.2.2.2.2.1,((y18.2.2.2.2.2.2.1.1,(y18.2.2.2.2.2.2.1.2.1,(wr .i64 ((wr .i64 ((wr .i64 ((wr .i64 ((wr .i64 ((wr .i64 ((wr .i64 ((wr .i64 (a.2.1+1))+1))+1))+1))+1))+1))+1))+1),y18.2.2.2.2.2.2.1.2.2.2))),y18.2.2.2.2.2.2.2)))))))).set (Int.toNat a.2.2) (y20.1,(y20.2.1,(y20.2.2.1,(y20.2.2.2.1,(y20.2.2.2.2.1,(y20.2.2.2.2.2.1,((y20.2.2.2.2.2.2.1.1,(y20.2.2.2.2.2.2.1.2.1,(y20.2.2.2.2.2.2.1.2.2.1,wr .i64 ((wr .i64 ((wr .i64 ((wr .i64 ((wr .i64 ((wr .i64 ((wr .i64 ((wr .i64 ((wr .i64 (a.2.1+1))+1))+1))+1))+1))+1))+1))+1))+1)))),y20.2.2.2.2.2.2.2)))))))) a.2.2).bind fun _=>(idx ((((((((((a.1.set (Int.toNat a.2.2) (a.2.1,y2.2)).set (Int.toNat a.2.2) (y4.1,(wr .i64 (a.2.1+1),y4.2.2))).set (Int.toNat a.2.2) (y6.1,(y6.2.1,(wr .i64 ((wr .i64 (a.2.1+1))+1),y6.2.2.2)))).set (Int.toNat a.2.2) (y8.1,(y8.2.1,(y8.2.2.1,(wr .i64 ((wr .i64 ((wr .i64 (a.2.1+1))+1))+1),y8.2.2.2.2))))).set (Int.toNat a.2.2) (y10.1,(y10.2.1,(y10.2.2.1,(y10.2.2.2.1,(wr .i64 ((wr .i64 ((wr .i64 ((wr .i64 (a.2.1+1))+1))+1))+1),y10.2.2.2.2.2)))))).set (Int.toNat a.2.2) (y12.1,(y12.2.1,(y12.2.2.1,(y12.2.2.2.1,(y12.2.2.2.2.1,(wr .i64 ((wr .i64 ((wr .i64 ((wr .i64 ((wr .i64 (a.2.1+1))+1))+1))+1))+1),y12.2.2.2.2.2.2))))))).set (Int.toNat a.2.2) (y14.1,(y14.2.1,(y14.2.2.1,(y14.2.2.2.1,(y14.2.2.2.2.1,(y14.2.2.2.2.2.1,((wr .i64 ((wr .i64 ((wr .i64 ((wr .i64 ((wr .i64 ((wr .i64 (a.2.1+1))+1))+1))+1))+1))+1),y14.2.2.2.2.2.2.1.2),y14.2.2.2.2.2.2.2)))))))).set (Int.toNat a.2.2) (y16.1,(y16.2.1,(y16.2.2.1,(y16.2.2.2.1,(y16.2.2.2.2.1,(y16.2.2.2.2.2.1,((y16.2.2.2.2.2.2.1.1,(wr .i64 ((wr .i64 ((wr .i64 ((wr .i64 ((wr .i64 ((wr .i64 ((wr .i64 (a.2.1+1))+1))+1))+1))+1))+1))+1),y16.2.2.2.2.2.2.1.2.2)),y16.2.2.2.2.2.2.2)))))))).set (Int.toNat a.2.2) (y18.1,(y18.2.1,(y18.2.2.1,(y18.2.2.2.1,(y18.2.2.2.2.1,(y18.2.2.2.2.2.1,((y18.2.2.2.2.2.2.1.1,(y18.2.2.2.2.2.2.1.2.1,(wr .i64 ((wr .i64 ((wr .i64 ((wr .i64 ((wr .i64 ((wr .i64 ((wr .i64 ((wr .i64 (a.2.1+1))+1))+1))+1))+1))+1))+1))+1),y18.2.2.2.2.2.2.1.2.2.2))),y18.2.2.2.2.2.2.2)))))))).set (Int.toNat a.2.2) (y20.1,(y20.2.1,(y20.2.2.1,(y20.2.2.2.1,(y20.2.2.2.2.1,(y20.2.2.2.2.2.1,((y20.2.2.2.2.2.2.1.1,(y20.2.2.2.2.2.2.1.2.1,(y20.2.2.2.2.2.2.1.2.2.1,wr .i64 ((wr .i64 ((wr .i64 ((wr .i64 ((wr .i64 ((wr .i64 ((wr .i64 ((wr .i64 ((wr .i64 (a.2.1+1))+1))+1))+1))+1))+1))+1))+1))+1)))),y20.2.2.2.2.2.2.2)))))))) (Int.toNat a.2.2:Nat)).bind fun y22=>(idx ((((((((((a.1.set (Int.toNat a.2.2) (a.2.1,y2.2)).set (Int.toNat a.2.2) (y4.1,(wr .i64 (a.2.1+1),y4.2.2))).set (Int.toNat a.2.2) (y6.1,(y6.2.1,(wr .i64 ((wr .i64 (a.2.1+1))+1),y6.2.2.2)))).set (Int.toNat a.2.2) (y8.1,(y8.2.1,(y8.2.2.1,(wr .i64 ((wr .i64 ((wr .i64 (a.2.1+1))+1))+1),y8.2.2.2.2))))).set (Int.toNat a.2.2) (y10.1,(y10.2.1,(y10.2.2.1,(y10.2.2.2.1,(wr .i64 ((wr .i64 ((wr .i64 ((wr .i64 (a.2.1+1))+1))+1))+1),y10.2.2.2.2.2)))))).set (Int.toNat a.2.2) (y12.1,(y12.2.1,(y12.2.2.1,(y12.2.2.2.1,(y12.2.2.2.2.1,(wr .i64 ((wr .i64 ((wr .i64 ((wr .i64 ((wr .i64 (a.2.1+1))+1))+1))+1))+1),y12.2.2.2.2.2.2))))))).set (Int.toNat a.2.2) (y14.1,(y14.2.1,(y14.2.2.1,(y14.2.2.2.1,(y14.2.2.2.2.1,(y14.2.2.2.2.2.1,((wr .i64 ((wr .i64 ((wr .i64 ((wr .i64 ((wr .i64 ((wr .i64 (a.2.1+1))+1))+1))+1))+1))+1),y14.2.2.2.2.2.2.1.2),y14.2.2.2.2.2.2.2)))))))).set (Int.toNat a.2.2) (y16.1,(y16.2.1,(y16.2.2.1,(y16.2.2.2.1,(y16.2.2.2.2.1,(y16.2.2.2.2.2.1,((y16.2.2.2.2.2.2.1.1,(wr .i64 ((wr .i64 ((wr .i64 ((wr .i64 ((wr .i64 ((wr .i64 ((wr .i64 (a.2.1+1))+1))+1))+1))+1))+1))+1),y16.2.2.2.2.2.2.1.2.2)),y16.2.2.2.2.2.2.2)))))))).set (Int.toNat a.2.2) (y18.1,(y18.2.1,(y18.2.2.1,(y18.2.2.2.1,(y18.2.2.2.2.1,(y18.2.2.2.2.2.1,((y18.2.2.2.2.2.2.1.1,(y18.2.2.2.2.2.2.1.2.1,(wr .i64 ((wr .i64 ((wr .i64 ((wr .i64 ((wr .i64 ((wr .i64 ((wr .i64 ((wr .i64 (a.2.1+1))+1))+1))+1))+1))+1))+1))+1),y18.2.2.2.2.2.2.1.2.2.2))),y18.2.2.2.2.2.2.2)))))))).set (Int.toNat a.2.2) (y20.1,(y20.2.1,(y20.2.2.1,(y20.2.2.2.1,(y20.2.2.2.2.1,(y20.2.2.2.2.2.1,((y20.2.2.2.2.2.2.1.1,(y20.2.2.2.2.2.2.1.2.1,(y20.2.2.2.2.2.2.1.2.2.1,wr .i64 ((wr .i64 ((wr .i64 ((wr .i64 ((wr .i64 ((wr .i64 ((wr .i64 ((wr .i64 ((wr .i64 (a.2.1+1))+1))+1))+1))+1))+1))+1))+1))+1)))),y20.2.2.2.2.2.2.2)))))))) (Int.toNat a.2.2:Nat)).bind fun y23=>(Q48.f K (y23.2.2.2.2.2.2.2,wr .i64 ((wr .i64 ((wr .i64 ((wr .i64 ((wr .i64 ((wr .i64 ((wr .i64 ((wr .i64 ((wr .i64 ((wr .i64 (a.2.1+1))+1))+1))+1))+1))+1))+1))+1))+1))+1),())).bind fun y24=>(idx ((((((((((a.1.set (Int.toNat a.2.2) (a.2.1,y2.2)).set (Int.toNat a.2.2) (y4.1,(wr .i64 (a.2.1+1),y4.2.2))).set (Int.toNat a.2.2) (y6.1,(y6.2.1,(wr .i64 ((wr .i64 (a.2.1+1))+1),y6.2.2.2)))).set (Int.toNat a.2.2) (y8.1,(y8.2.1,(y8.2.2.1,(wr .i64 ((wr .i64 ((wr .i64 (a.2.1+1))+1))+1),y8.2.2.2.2))))).set (Int.toNat a.2.2) (y10.1,(y10.2.1,(y10.2.2.1,(y10.2.2.2.1,(wr .i64 ((wr .i64 ((wr .i64 ((wr .i64 (a.2.1+1))+1))+1))+1),y10.2.2.2.2.2)))))).set (Int.toNat a.2.2) (y12.1,(y12.2.1,(y12.2.2.1,(y12.2.2.2.1,(y12.2.2.2.2.1,(wr .i64 ((wr .i64 ((wr .i64 ((wr .i64 ((wr .i64 (a.2.1+1))+1))+1))+1))+1),y12.2.2.2.2.2.2))))))).set (Int.toNat a.2.2) (y14.1,(y14.2.1,(y14.2.2.1,(y14.2.2.2.1,(y14.2.2.2.2.1,(y14.2.2.2.2.2.1,((wr .i64 ((wr .i64 ((wr .i64 ((wr .i64 ((wr .i64 ((wr .i64 (a.2.1+1))+1))+1))+1))+1))+1),y14.2.2.2.2.2.2.1.2),y14.2.2.2.2.2.2.2)))))))).set (Int.toNat a.2.2) (y16.1,(y16.2.1,(y16.2.2.1,(y16.2.2.2.1,(y16.2.2.2.2.1,(y16.2.2.2.2.2.1,((y16.2.2.2.2.2.2.1.1,(wr .i64 ((wr .i64 ((wr .i64 ((wr .i64 ((wr .i64 ((wr .i64 ((wr .i64 (a.2.1+1))+1))+1))+1))+1))+1))+1),y16.2.2.2.2.2.2.1.2.2)),y16.2.2.2.2.2.2.2)))))))).set (Int.toNat a.2.2) (y18.1,(y18.2.1,(y18.2.2.1,(y18.2.2.2.1,(y18.2.2.2.2.1,(y18.2.2.2.2.2.1,((y18.2.2.2.2.2.2.1.1,(y18.2.2.2.2.2.2.1.2.1,(wr .i64 ((wr .i64 ((wr .i64 ((wr .i64 ((wr .i64 ((wr .i64 ((wr .i64 ((wr .i64 (a.2.1+1))+1))+1))+1))+1))+1))+1))+1),y18.2.2.2.2.2.2.1.2.2.2))),y18.2.2.2.2.2.2.2)))))))).set (Int.toNat a.2.2) (y20.1,(y20.2.1,(y20.2.2.1,(y20.2.2.2.1,(y20.2.2.2.2.1,(y20.2.2.2.2.2.1,((y20.2.2.2.2.2.2.1.1,(y20.2.2.2.2.2.2.1.2.1,(y20.2.2.2.2.2.2.1.2.2.1,wr .i64 ((wr .i64 ((wr .i64 ((wr .i64 ((wr .i64 ((wr .i64 ((wr .i64 ((wr .i64 ((wr .i64 (a.2.1+1))+1))+1))+1))+1))+1))+1))+1))+1)))),y20.2.2.2.2.2.2.2)))))))) (Int.toNat a.2.2:Nat)).bind fun y25=>rec_l0 (((((((((((a.1.set (Int.toNat a.2.2) (a.2.1,y2.2)).set (Int.toNat a.2.2) (y4.1,(wr .i64 (a.2.1+1),y4.2.2))).set (Int.toNat a.2.2) (y6.1,(y6.2.1,(wr .i64 ((wr .i64 (a.2.1+1))+1),y6.2.2.2)))).set (Int.toNat a.2.2) (y8.1,(y8.2.1,(y8.2.2.1,(wr .i64 ((wr .i64 ((wr .i64 (a.2.1+1))+1))+1),y8.2.2.2.2))))).set (Int.toNat a.2.2) (y10.1,(y10.2.1,(y10.2.2.1,(y10.2.2.2.1,(wr .i64 ((wr .i64 ((wr .i64 ((wr .i64 (a.2.1+1))+1))+1))+1),y10.2.2.2.2.2)))))).set (Int.toNat a.2.2) (y12.1,(y12.2.1,(y12.2.2.1,(y12.2.2.2.1,(y12.2.2.2.2.1,(wr .i64 ((wr .i64 ((wr .i64 ((wr .i64 ((wr .i64 (a.2.1+1))+1))+1))+1))+1),y12.2.2.2.2.2.2))))))).set (Int.toNat a.2.2) (y14.1,(y14.2.1,(y14.2.2.1,(y14.2.2.2.1,(y14.2.2.2.2.1,(y14.2.2.2.2.2.1,((wr .i64 ((wr .i64 ((wr .i64 ((wr .i64 ((wr .i64 ((wr .i64 (a.2.1+1))+1))+1))+1))+1))+1),y14.2.2.2.2.2.2.1.2),y14.2.2.2.2.2.2.2)))))))).set (Int.toNat a.2.2) (y16.1,(y16.2.1,(y16.2.2.1,(y16.2.2.2.1,(y16.2.2.2.2.1,(y16.2.2.2.2.2.1,((y16.2.2.2.2.2.2.1.1,(wr .i64 ((wr .i64 ((wr .i64 ((wr .i64 ((wr .i64 ((wr .i64 ((wr .i64 (a.2.1+1))+1))+1))+1))+1))+1))+1),y16.2.2.2.2.2.2.1.2.2)),y16.2.2.2.2.2.2.2)))))))).set (Int.toNat a.2.2) (y18.1,(y18.2.1,(y18.2.2.1,(y18.2.2.2.1,(y18.2.2.2.2.1,(y18.2.2.2.2.2.1,((y18.2.2.2.2.2.2.1.1,(y18.2.2.2.2.2.2.1.2.1,(wr .i64 ((wr .i64 ((wr .i64 ((wr .i64 ((wr .i64 ((wr .i64 ((wr .i64 ((wr .i64 (a.2.1+1))+1))+1))+1))+1))+1))+1))+1),y18.2.2.2.2.2.2.1.2.2.2))),y18.2.2.2.2.2.2.2)))))))).set (Int.toNat a.2.2) (y20.1,(y20.2.1,(y20.2.2.1,(y20.2.2.2.1,(y20.2.2.2.2.1,(y20.2.2.2.2.2.1,((y20.2.2.2.2.2.2.1.1,(y20.2.2.2.2.2.2.1.2.1,(y20.2.2.2.2.2.2.1.2.2.1,wr .i64 ((wr .i64 ((wr .i64 ((wr .i64 ((wr .i64 ((wr .i64 ((wr .i64 ((wr .i64 ((wr .i64 (a.2.1+1))+1))+1))+1))+1))+1))+1))+1))+1)))),y20.2.2.2.2.2.2.2)))))))).set (Int.toNat a.2.2) (y25.1,(y25.2.1,(y25.2.2.1,(y25.2.2.2.1,(y25.2.2.2.2.1,(y25.2.2.2.2.2.1,(y25.2.2.2.2.2.2.1,y24.2.1))))))),y24.1.1,wr .i64 (a.2.2+1))) else (some ((a.2.1,()),(a.1,())))
noncomputable def l0 (K:Nat)(x:aa ps):A_l0→Option Res:=ac (fun rec_l0 a=>l0.step K x rec_l0 a) K
noncomputable def pre (K:Nat)(N_l0:A_l0→Option Res)(x:aa ps):Option Res:=N_l0 (x.1,x.2.1,0)
noncomputable def f (K:Nat)(x:aa ps):Option Res:=pre K (l0 K x) x
noncomputable def c (K:Nat):Ctr:=⟨41,ps,rs,true,f K⟩
end Q57
namespace Q58
@[reducible] def ps:List PK:=[.rd (.list false 132 t2),.rd (.int .i64)]
@[reducible] def rs:List RK:=[.v (.int .i64)]
abbrev Res:=ai rs×ah ps
abbrev A_l0:=Int×Int
noncomputable def l0.step (K:Nat)(x:aa ps)(rec_l0:A_l0→Option Res)(a:A_l0):Option Res:=bif decide (a.2<(List.length x.1:Int)) then ((idx x.1 a.2).bind fun y1=>bif y1.1 != a.1 then (some (((-1),()),())) else ((idx x.1 a.2).bind fun y2=>bif y2.2.1 != (wr .i64 (a.1+1)) then (some (((-1),()),())) else ((idx x.1 a.2).bind fun y3=>bif y3.2.2.1 != (wr .i64 ((wr .i64 (a.1+1))+1)) then (some (((-1),()),())) else ((idx x.1 a.2).bind fun y4=>bif y4.2.2.2 != ((Int.tmod (wr .i64 ((wr .i64 ((wr .i64 (a.1+1))+1))+1)) 3)==0) then (some (((-1),()),())) else (rec_l0 (wr .i64 ((wr .i64 ((wr .i64 ((wr .i64 (a.1+1))+1))+1))+1),wr .i64 (a.2+1))))))) else (some ((a.1,()),()))
noncomputable def l0 (K:Nat)(x:aa ps):A_l0→Option Res:=ac (fun rec_l0 a=>l0.step K x rec_l0 a) K
noncomputable def pre (K:Nat)(N_l0:A_l0→Option Res)(x:aa ps):Option Res:=N_l0 (x.2.1,0)
noncomputable def f (K:Nat)(x:aa ps):Option Res:=pre K (l0 K x) x
noncomputable def c (K:Nat):Ctr:=⟨48,ps,rs,true,f K⟩
end Q58
namespace Q59
@[reducible] def ps:List PK:=[.rd (.list false 173 t3),.rd (.int .i64)]
@[reducible] def rs:List RK:=[.v (.int .i64)]
abbrev Res:=ai rs×ah ps
abbrev A_l0:=Int×Int
noncomputable def l0.step (K:Nat)(x:aa ps)(rec_l0:A_l0→Option Res)(a:A_l0):Option Res:=bif decide (a.2<(List.length x.1:Int)) then ((idx x.1 a.2).bind fun y1=>bif y1.1.1 != a.1 then (some (((-1),()),())) else ((idx x.1 a.2).bind fun y2=>bif y2.1.2.1 != (wr .i64 (a.1+1)) then (some (((-1),()),())) else ((idx x.1 a.2).bind fun y3=>bif y3.1.2.2.1 != (wr .i64 ((wr .i64 (a.1+1))+1)) then (some (((-1),()),())) else ((idx x.1 a.2).bind fun y4=>bif y4.1.2.2.2 != ((Int.tmod (wr .i64 ((wr .i64 ((wr .i64 (a.1+1))+1))+1)) 3)==0) then (some (((-1),()),())) else ((idx x.1 a.2).bind fun y5=>bif y5.2 != (wr .i64 ((wr .i64 ((wr .i64 ((wr .i64 (a.1+1))+1))+1))+1)) then (some (((-1),()),())) else (rec_l0 (wr .i64 ((wr .i64 ((wr .i64 ((wr .i64 ((wr .i64 (a.1+1))+1))+1))+1))+1),wr .i64 (a.2+1)))))))) else (some ((a.1,()),()))
noncomputable def l0 (K:Nat)(x:aa ps):A_l0→Option Res:=ac (fun rec_l0 a=>l0.step K x rec_l0 a) K
noncomputable def pre (K:Nat)(N_l0:A_l0→Option Res)(x:aa ps):Option Res:=N_l0 (x.2.1,0)
noncomputable def f (K:Nat)(x:aa ps):Option Res:=pre K (l0 K x) x
noncomputable def c (K:Nat):Ctr:=⟨131,ps,rs,true,f K⟩
end Q59
namespace Q60
@[reducible] def ps:List PK:=[.rd (.list false 3 (.int .i64)),.rd (.int .i64)]
@[reducible] def rs:List RK:=[.v (.int .i64)]
abbrev Res:=ai rs×ah ps
abbrev A_l0:=Int×Int
noncomputable def l0.step (K:Nat)(x:aa ps)(rec_l0:A_l0→Option Res)(a:A_l0):Option Res:=bif decide (a.2<(List.length x.1:Int)) then ((idx x.1 a.2).bind fun y1=>bif y1 != a.1 then (some (((-1),()),())) else (rec_l0 (wr .i64 (a.1+1),wr .i64 (a.2+1)))) else (some ((a.1,()),()))
noncomputable def l0 (K:Nat)(x:aa ps):A_l0→Option Res:=ac (fun rec_l0 a=>l0.step K x rec_l0 a) K
noncomputable def pre (K:Nat)(N_l0:A_l0→Option Res)(x:aa ps):Option Res:=N_l0 (x.2.1,0)
noncomputable def f (K:Nat)(x:aa ps):Option Res:=pre K (l0 K x) x
noncomputable def c (K:Nat):Ctr:=⟨30,ps,rs,true,f K⟩
end Q60
namespace Q61
@[reducible] def ps:List PK:=[.rd (.list false 177 t15),.rd (.int .i64)]
@[reducible] def rs:List RK:=[.v (.int .i64)]
abbrev Res:=ai rs×ah ps
abbrev A_l0:=Int×Int
noncomputable def l0.step (K:Nat)(x:aa ps)(rec_l0:A_l0→Option Res)(a:A_l0):Option Res:=bif decide (a.2<(List.length x.1:Int)) then ((idx x.1 a.2).bind fun y1=>bif y1.1 != a.1 then (some (((-1),()),())) else ((idx x.1 a.2).bind fun y2=>bif y2.2.1 != (wr .i64 (a.1+1)) then (some (((-1),()),())) else ((idx x.1 a.2).bind fun y3=>bif y3.2.2.1 != (wr .i64 ((wr .i64 (a.1+1))+1)) then (some (((-1),()),())) else ((idx x.1 a.2).bind fun y4=>(Q60.f K (y4.2.2.2,wr .i64 ((wr .i64 ((wr .i64 (a.1+1))+1))+1),())).bind fun y5=>bif decide (y5.1.1<0) then (some (((-1),()),())) else (rec_l0 (y5.1.1,wr .i64 (a.2+1))))))) else (some ((a.1,()),()))
noncomputable def l0 (K:Nat)(x:aa ps):A_l0→Option Res:=ac (fun rec_l0 a=>l0.step K x rec_l0 a) K
noncomputable def pre (K:Nat)(N_l0:A_l0→Option Res)(x:aa ps):Option Res:=N_l0 (x.2.1,0)
noncomputable def f (K:Nat)(x:aa ps):Option Res:=pre K (l0 K x) x
noncomputable def c (K:Nat):Ctr:=⟨132,ps,rs,true,f K⟩
end Q61
namespace Q62
@[reducible] def ps:List PK:=[.rd (.list false 94 t17),.rd (.int .i64)]
@[reducible] def rs:List RK:=[.v (.int .i64)]
abbrev Res:=ai rs×ah ps
abbrev A_l0:=Int×Int
noncomputable def l0.step (K:Nat)(x:aa ps)(rec_l0:A_l0→Option Res)(a:A_l0):Option Res:=bif decide (a.2<(List.length x.1:Int)) then ((idx x.1 a.2).bind fun y1=>bif y1.1 != a.1 then (some (((-1),()),())) else ((idx x.1 a.2).bind fun y2=>bif y2.2.1.1 != (wr .i64 (a.1+1)) then (some (((-1),()),())) else ((idx x.1 a.2).bind fun y3=>bif y3.2.1.2.1 != (wr .i64 ((wr .i64 (a.1+1))+1)) then (some (((-1),()),())) else ((idx x.1 a.2).bind fun y4=>bif y4.2.1.2.2.1 != (wr .i64 ((wr .i64 ((wr .i64 (a.1+1))+1))+1)) then (some (((-1),()),())) else ((idx x.1 a.2).bind fun y5=>bif y5.2.1.2.2.2 != (wr .i64 ((wr .i64 ((wr .i64 ((wr .i64 (a.1+1))+1))+1))+1)) then (some (((-1),()),())) else ((idx x.1 a.2).bind fun y6=>(Q60.f K (y6.2.2,wr .i64 ((wr .i64 ((wr .i64 ((wr .i64 ((wr .i64 (a.1+1))+1))+1))+1))+1),())).bind fun y7=>bif decide (y7.1.1<0) then (some (((-1),()),())) else (rec_l0 (y7.1.1,wr .i64 (a.2+1))))))))) else (some ((a.1,()),()))
noncomputable def l0 (K:Nat)(x:aa ps):A_l0→Option Res:=ac (fun rec_l0 a=>l0.step K x rec_l0 a) K
noncomputable def pre (K:Nat)(N_l0:A_l0→Option Res)(x:aa ps):Option Res:=N_l0 (x.2.1,0)
noncomputable def f (K:Nat)(x:aa ps):Option Res:=pre K (l0 K x) x
noncomputable def c (K:Nat):Ctr:=⟨133,ps,rs,true,f K⟩
end Q62
namespace Q63
@[reducible] def ps:List PK:=[.rd (.list false 119 t18),.rd (.int .i64)]
@[reducible] def rs:List RK:=[.v (.int .i64)]
abbrev Res:=ai rs×ah ps
abbrev A_l0:=Int×Int
noncomputable def l0.step (K:Nat)(x:aa ps)(rec_l0:A_l0→Option Res)(a:A_l0):Option Res:=bif decide (a.2<(List.length x.1:Int)) then ((idx x.1 a.2).bind fun y1=>bif y1.1 != a.1 then (some (((-1),()),())) else ((idx x.1 a.2).bind fun y2=>(Q58.f K (y2.2,wr .i64 (a.1+1),())).bind fun y3=>bif decide (y3.1.1<0) then (some (((-1),()),())) else (rec_l0 (y3.1.1,wr .i64 (a.2+1))))) else (some ((a.1,()),()))
noncomputable def l0 (K:Nat)(x:aa ps):A_l0→Option Res:=ac (fun rec_l0 a=>l0.step K x rec_l0 a) K
noncomputable def pre (K:Nat)(N_l0:A_l0→Option Res)(x:aa ps):Option Res:=N_l0 (x.2.1,0)
noncomputable def f (K:Nat)(x:aa ps):Option Res:=pre K (l0 K x) x
noncomputable def c (K:Nat):Ctr:=⟨134,ps,rs,true,f K⟩
end Q63
namespace Q64
@[reducible] def ps:List PK:=[.rd t78,.rd (.int .i64)]
@[reducible] def rs:List RK:=[.v (.int .i64)]
abbrev Res:=ai rs×ah ps
noncomputable def f (K:Nat)(x:aa ps):Option Res:=(Q58.f K (x.1.2.2.2.2.2.2.2.2.1,x.2.1,())).bind fun y1=>bif decide (y1.1.1<0) then (some (((-1),()),())) else ((Q59.f K (x.1.2.2.2.2.2.2.2.2.2.1,y1.1.1,())).bind fun y2=>bif decide (y2.1.1<0) then (some (((-1),()),())) else ((Q61.f K (x.1.2.2.2.2.2.2.2.2.2.2.2.1,y2.1.1,())).bind fun y3=>bif decide (y3.1.1<0) then (some (((-1),()),())) else ((Q62.f K (x.1.2.2.2.2.2.2.2.2.2.2.2.2.2.1,y3.1.1,())).bind fun y4=>bif decide (y4.1.1<0) then (some (((-1),()),())) else ((Q63.f K (x.1.2.2.2.2.2.2.2.2.2.2.2.2.2.2,y4.1.1,())).bind fun y5=>bif decide (y5.1.1<0) then (some (((-1),()),())) else (some ((y5.1.1,()),()))))))
noncomputable def c (K:Nat):Ctr:=⟨42,ps,rs,true,f K⟩
end Q64
namespace Q65
@[reducible] def ps:List PK:=[.rd (.list false 53 t25),.rd (.int .i64)]
@[reducible] def rs:List RK:=[.v (.int .i64)]
abbrev Res:=ai rs×ah ps
abbrev A_l0:=Int×Int
noncomputable def l0.step (K:Nat)(x:aa ps)(rec_l0:A_l0→Option Res)(a:A_l0):Option Res:=bif decide (a.2<(List.length x.1:Int)) then ((idx x.1 a.2).bind fun y1=>bif y1.1 != a.1 then (some (((-1),()),())) else ((idx x.1 a.2).bind fun y2=>bif y2.2.1 != (wr .i64 (a.1+1)) then (some (((-1),()),())) else ((idx x.1 a.2).bind fun y3=>bif y3.2.2.1 != (wr .i64 ((wr .i64 (a.1+1))+1)) then (some (((-1),()),())) else ((idx x.1 a.2).bind fun y4=>bif y4.2.2.2.1 != (wr .i64 ((wr .i64 ((wr .i64 (a.1+1))+1))+1)) then (some (((-1),()),())) else ((idx x.1 a.2).bind fun y5=>bif y5.2.2.2.2.1 != (wr .i64 ((wr .i64 ((wr .i64 ((wr .i64 (a.1+1))+1))+1))+1)) then (some (((-1),()),())) else ((idx x.1 a.2).bind fun y6=>bif y6.2.2.2.2.2.1 != (wr .i64 ((wr .i64 ((wr .i64 ((wr .i64 ((wr .i64 (a.1+1))+1))+1))+1))+1)) then (some (((-1),()),())) else ((idx x.1 a.2).bind fun y7=>bif y7.2.2.2.2.2.2.1.1 != (wr .i64 ((wr .i64 ((wr .i64 ((wr .i64 ((wr .i64 ((wr .i64 (a.1+1))+1))+1))+1))+1))+1)) then (some (((-1),()),())) else ((idx x.1 a.2).bind fun y8=>bif y8.2.2.2.2.2.2.1.2.1 != (wr .i64 ((wr .i64 ((wr .i64 ((wr .i64 ((wr .i64 ((wr .i64 ((wr .i64 (a.1+1))+1))+1))+1))+1))+1))+1)) then (some (((-1),()),())) else ((idx x.1 a.2).bind fun y9=>bif y9.2.2.2.2.2.2.1.2.2.1 != (wr .i64 ((wr .i64 ((wr .i64 ((wr .i64 ((wr .i64 ((wr .i64 ((wr .i64 ((wr .i64 (a.1+1))+1))+1))+1))+1))+1))+1))+1)) then (some (((-1),()),())) else ((idx x.1 a.2).bind fun y10=>bif y10.2.2.2.2.2.2.1.2.2.2 != (wr .i64 ((wr .i64 ((wr .i64 ((wr .i64 ((wr .i64 ((wr .i64 ((wr .i64 ((wr .i64 ((wr .i64 (a.1+1))+1))+1))+1))+1))+1))+1))+1))+1)) then (some (((-1),()),())) else ((idx x.1 a.2).bind fun y11=>(Q58.f K (y11.2.2.2.2.2.2.2,wr .i64 ((wr .i64 ((wr .i64 ((wr .i64 ((wr .i64 ((wr .i64 ((wr .i64 ((wr .i64 ((wr .i64 ((wr .i64 (a.1+1))+1))+1))+1))+1))+1))+1))+1))+1))+1),())).bind fun y12=>bif decide (y12.1.1<0) then (some (((-1),()),())) else (rec_l0 (y12.1.1,wr .i64 (a.2+1)))))))))))))) else (some ((a.1,()),()))
noncomputable def l0 (K:Nat)(x:aa ps):A_l0→Option Res:=ac (fun rec_l0 a=>l0.step K x rec_l0 a) K
noncomputable def pre (K:Nat)(N_l0:A_l0→Option Res)(x:aa ps):Option Res:=N_l0 (x.2.1,0)
noncomputable def f (K:Nat)(x:aa ps):Option Res:=pre K (l0 K x) x
noncomputable def c (K:Nat):Ctr:=⟨43,ps,rs,true,f K⟩
end Q65
namespace Q66
@[reducible] def ps:List PK:=[.rd (.int .i64)]
@[reducible] def rs:List RK:=[.v (.int .i64)]
abbrev Res:=ai rs×ah ps
noncomputable def f (K:Nat)(x:aa ps):Option Res:=some ((wr .i64 (Int.tdiv x.1 4),()),())
noncomputable def c (K:Nat):Ctr:=⟨92,ps,rs,true,f K⟩
end Q66
namespace Q67
@[reducible] def ps:List PK:=[.rd (.int .i64),.rd (.int .i64),.rd (.int .i64)]
@[reducible] def rs:List RK:=[.v .bool]
abbrev Res:=ai rs×ah ps
noncomputable def f (K:Nat)(x:aa ps):Option Res:=bif decide (x.1≥x.2.1) then (some ((decide (x.1≤x.2.2.1),()),())) else (some ((false,()),()))
noncomputable def c (K:Nat):Ctr:=⟨104,ps,rs,true,f K⟩
end Q67
namespace Q68
@[reducible] def ps:List PK:=[.rd t2]
@[reducible] def rs:List RK:=[.v .bool]
abbrev Res:=ai rs×ah ps
noncomputable def f (K:Nat)(x:aa ps):Option Res:=(Q67.f K (x.1.1,0,7,())).bind fun y1=>bif y1.1.1 then ((Q67.f K (x.1.2.1,0,999,())).bind fun y2=>bif y2.1.1 then ((Q67.f K (x.1.2.2.1,1,4,())).bind fun y3=>some ((y3.1.1,()),())) else (some ((false,()),()))) else (some ((false,()),()))
noncomputable def c (K:Nat):Ctr:=⟨105,ps,rs,true,f K⟩
end Q68
namespace Q69
@[reducible] def ps:List PK:=[.rd (.list false 132 t2)]
@[reducible] def rs:List RK:=[.v .bool]
abbrev Res:=ai rs×ah ps
abbrev A_l0:=Int
noncomputable def l0.step (K:Nat)(x:aa ps)(rec_l0:A_l0→Option Res)(a:A_l0):Option Res:=bif decide (a<(List.length x.1:Int)) then ((idx x.1 a).bind fun y1=>(Q68.f K (y1,())).bind fun y2=>bif !y2.1.1 then (some ((false,()),())) else (bif decide (a>0) then ((idx x.1 (wr .i64 (a-1))).bind fun y3=>(idx x.1 a).bind fun y4=>bif decide (y3.1≥y4.1) then (some ((false,()),())) else (rec_l0 (wr .i64 (a+1)))) else (rec_l0 (wr .i64 (a+1))))) else (some ((true,()),()))
noncomputable def l0 (K:Nat)(x:aa ps):A_l0→Option Res:=ac (fun rec_l0 a=>l0.step K x rec_l0 a) K
noncomputable def pre (K:Nat)(N_l0:A_l0→Option Res)(x:aa ps):Option Res:=N_l0 0
noncomputable def f (K:Nat)(x:aa ps):Option Res:=pre K (l0 K x) x
noncomputable def c (K:Nat):Ctr:=⟨155,ps,rs,true,f K⟩
end Q69
namespace Q70
@[reducible] def ps:List PK:=[.rd (.list false 132 t2),.rd (.int .i64)]
@[reducible] def rs:List RK:=[.v .bool]
abbrev Res:=ai rs×ah ps
abbrev A_l0:=Int
noncomputable def l0.step (K:Nat)(x:aa ps)(rec_l0:A_l0→Option Res)(a:A_l0):Option Res:=bif decide (a<(List.length x.1:Int)) then ((idx x.1 a).bind fun y1=>bif (wr .i64 (Int.tdiv y1.1 4)) != x.2.1 then (some ((false,()),())) else (rec_l0 (wr .i64 (a+1)))) else (some ((true,()),()))
noncomputable def l0 (K:Nat)(x:aa ps):A_l0→Option Res:=ac (fun rec_l0 a=>l0.step K x rec_l0 a) K
noncomputable def pre (K:Nat)(N_l0:A_l0→Option Res)(x:aa ps):Option Res:=N_l0 0
noncomputable def f (K:Nat)(x:aa ps):Option Res:=pre K (l0 K x) x
noncomputable def c (K:Nat):Ctr:=⟨156,ps,rs,true,f K⟩
end Q70
namespace Q71
@[reducible] def ps:List PK:=[.rd (.list false 132 t2),.rd (.int .i64)]
@[reducible] def rs:List RK:=[.v (.int .i64)]
abbrev Res:=ai rs×ah ps
abbrev A_l0:=Int
noncomputable def l0.step (K:Nat)(x:aa ps)(rec_l0:A_l0→Option Res)(a:A_l0):Option Res:=bif decide (a<(List.length x.1:Int)) then ((idx x.1 a).bind fun y1=>bif y1.1==x.2.1 then (some ((a,()),())) else (rec_l0 (wr .i64 (a+1)))) else (some (((-1),()),()))
noncomputable def l0 (K:Nat)(x:aa ps):A_l0→Option Res:=ac (fun rec_l0 a=>l0.step K x rec_l0 a) K
noncomputable def pre (K:Nat)(N_l0:A_l0→Option Res)(x:aa ps):Option Res:=N_l0 0
noncomputable def f (K:Nat)(x:aa ps):Option Res:=pre K (l0 K x) x
noncomputable def c (K:Nat):Ctr:=⟨119,ps,rs,true,f K⟩
end Q71
namespace Q72
@[reducible] def ps:List PK:=[.rd t78]
@[reducible] def rs:List RK:=[.v .bool]
abbrev Res:=ai rs×ah ps
noncomputable def f (K:Nat)(x:aa ps):Option Res:=(Q71.f K (x.1.2.2.2.2.2.2.2.2.1,x.1.1,())).bind fun y1=>bif decide (y1.1.1<0) then (some ((false,()),())) else ((idx x.1.2.2.2.2.2.2.2.2.1 y1.1.1).bind fun y2=>bif x.1.2.2.1 then (bif y2.2.1==x.1.2.2.2.2.1 then (bif y2.2.2.1==4 then (some ((y2.2.2.2==x.1.2.2.2.1,()),())) else (some ((false,()),()))) else (some ((false,()),()))) else (bif y2.2.1==x.1.2.2.2.2.1 then (bif y2.2.2.1==1 then (some ((y2.2.2.2==x.1.2.2.2.1,()),())) else (some ((false,()),()))) else (some ((false,()),()))))
noncomputable def c (K:Nat):Ctr:=⟨157,ps,rs,true,f K⟩
end Q72
namespace Q73
@[reducible] def ps:List PK:=[.rd t2,.rd t2]
@[reducible] def rs:List RK:=[.v .bool]
abbrev Res:=ai rs×ah ps
noncomputable def f (K:Nat)(x:aa ps):Option Res:=bif x.1.2.1 != x.2.1.2.1 then (some ((decide (x.1.2.1>x.2.1.2.1),()),())) else (bif x.1.2.2.1 != x.2.1.2.2.1 then (some ((decide (x.1.2.2.1>x.2.1.2.2.1),()),())) else (bif x.1.2.2.2 then (some ((!x.2.1.2.2.2,()),())) else (some ((false,()),()))))
noncomputable def c (K:Nat):Ctr:=⟨187,ps,rs,true,f K⟩
end Q73
namespace Q74
@[reducible] def ps:List PK:=[.rd (.list false 173 t3)]
@[reducible] def rs:List RK:=[.v .bool]
abbrev Res:=ai rs×ah ps
abbrev A_l0:=Int
noncomputable def l0.step (K:Nat)(x:aa ps)(rec_l0:A_l0→Option Res)(a:A_l0):Option Res:=bif decide (a<(List.length x.1:Int)) then ((idx x.1 a).bind fun y1=>(Q68.f K (y1.1,())).bind fun y2=>bif !y2.1.1 then (some ((false,()),())) else ((idx x.1 a).bind fun y3=>(Q67.f K (y3.2,1,4,())).bind fun y4=>bif !y4.1.1 then (some ((false,()),())) else (bif decide (a>0) then ((idx x.1 (wr .i64 (a-1))).bind fun y5=>(idx x.1 a).bind fun y6=>bif decide (y5.1.1≥y6.1.1) then (some ((false,()),())) else (rec_l0 (wr .i64 (a+1)))) else (rec_l0 (wr .i64 (a+1)))))) else (some ((true,()),()))
noncomputable def l0 (K:Nat)(x:aa ps):A_l0→Option Res:=ac (fun rec_l0 a=>l0.step K x rec_l0 a) K
noncomputable def pre (K:Nat)(N_l0:A_l0→Option Res)(x:aa ps):Option Res:=N_l0 0
noncomputable def f (K:Nat)(x:aa ps):Option Res:=pre K (l0 K x) x
noncomputable def c (K:Nat):Ctr:=⟨230,ps,rs,true,f K⟩
end Q74
namespace Q75
@[reducible] def ps:List PK:=[.rd t78]
@[reducible] def rs:List RK:=[.v .bool]
abbrev Res:=ai rs×ah ps
abbrev A_l0:=Int
noncomputable def l0.step (K:Nat)(x:aa ps)(rec_l0:A_l0→Option Res)(a:A_l0):Option Res:=bif decide (a<(List.length x.1.2.2.2.2.2.2.2.2.2.1:Int)) then ((idx x.1.2.2.2.2.2.2.2.2.2.1 a).bind fun y2=>(Q71.f K (x.1.2.2.2.2.2.2.2.2.1,y2.1.1,())).bind fun y3=>bif decide (y3.1.1<0) then (some ((false,()),())) else ((idx x.1.2.2.2.2.2.2.2.2.2.1 a).bind fun y4=>(idx x.1.2.2.2.2.2.2.2.2.1 y3.1.1).bind fun y5=>(Q73.f K (y4.1,y5,())).bind fun y6=>bif y6.1.1 then (some ((false,()),())) else (rec_l0 (wr .i64 (a+1))))) else (some ((true,()),()))
noncomputable def l0 (K:Nat)(x:aa ps):A_l0→Option Res:=ac (fun rec_l0 a=>l0.step K x rec_l0 a) K
noncomputable def pre (K:Nat)(N_l0:A_l0→Option Res)(x:aa ps):Option Res:=(Q74.f K (x.1.2.2.2.2.2.2.2.2.2.1,())).bind fun y1=>bif !y1.1.1 then (some ((false,()),())) else (N_l0 0)
noncomputable def f (K:Nat)(x:aa ps):Option Res:=pre K (l0 K x) x
noncomputable def c (K:Nat):Ctr:=⟨158,ps,rs,true,f K⟩
end Q75
namespace Q76
@[reducible] def ps:List PK:=[.rd t78]
@[reducible] def rs:List RK:=[.v .bool]
abbrev Res:=ai rs×ah ps
noncomputable def f (K:Nat)(x:aa ps):Option Res:=bif x.1.2.2.2.2.2.2.2.2.2.2.1.1==(-1) then (bif x.1.2.2.2.2.2.2.2.2.2.2.1.2.1==0 then (bif x.1.2.2.2.2.2.2.2.2.2.2.1.2.2.1==0 then (some ((!x.1.2.2.2.2.2.2.2.2.2.2.1.2.2.2,()),())) else (some ((false,()),()))) else (some ((false,()),()))) else (bif x.1.2.2.2.2.2.2.2.2.2.2.1.1 != x.1.1 then ((Q71.f K (x.1.2.2.2.2.2.2.2.2.1,x.1.2.2.2.2.2.2.2.2.2.2.1.1,())).bind fun y1=>bif decide (y1.1.1≥0) then ((Q67.f K (x.1.2.2.2.2.2.2.2.2.2.2.1.2.1,0,x.1.2.2.2.2.2.1,())).bind fun y2=>bif y2.1.1 then ((Q67.f K (x.1.2.2.2.2.2.2.2.2.2.2.1.2.2.1,1,x.1.2.2.2.2.2.2.1,())).bind fun y3=>some ((y3.1.1,()),())) else (some ((false,()),()))) else (some ((false,()),()))) else (some ((false,()),())))
noncomputable def c (K:Nat):Ctr:=⟨159,ps,rs,true,f K⟩
end Q76
namespace Q77
@[reducible] def ps:List PK:=[.rd t78]
@[reducible] def rs:List RK:=[.v .bool]
abbrev Res:=ai rs×ah ps
abbrev A_l1:=Int×Int×Int×Int×Int×List (Ty.den (.int .i64))
abbrev A_l2:=Int×Int
abbrev A_l0:=Int
noncomputable def l1.step (K:Nat)(x:aa ps)(rec_l0:A_l0→Option Res)(rec_l1:A_l1→Option Res)(a:A_l1):Option Res:=bif decide (a.2.1<(List.length a.2.2.2.2.2:Int)) then ((idx a.2.2.2.2.2 a.2.1).bind fun y7=>(Q67.f K (y7,0,7,())).bind fun y8=>bif !y8.1.1 then (some ((false,()),())) else ((idx a.2.2.2.2.2 a.2.1).bind fun y9=>(Q66.f K (y9,())).bind fun y10=>(Q66.f K (x.1.1,())).bind fun y11=>bif y10.1.1 != y11.1.1 then (some ((false,()),())) else (bif decide (a.2.1>0) then ((idx a.2.2.2.2.2 (wr .i64 (a.2.1-1))).bind fun y12=>(idx a.2.2.2.2.2 a.2.1).bind fun y13=>bif decide (y12≥y13) then (some ((false,()),())) else (rec_l1 (a.1,wr .i64 (a.2.1+1),a.2.2.1,a.2.2.2.1,a.2.2.2.2.1,a.2.2.2.2.2))) else (rec_l1 (a.1,wr .i64 (a.2.1+1),a.2.2.1,a.2.2.2.1,a.2.2.2.2.1,a.2.2.2.2.2))))) else (rec_l0 (wr .i64 (a.1+1)))
noncomputable def l1 (K:Nat)(x:aa ps)(rec_l0:A_l0→Option Res):A_l1→Option Res:=ac (fun rec_l1 a=>l1.step K x rec_l0 rec_l1 a) K
noncomputable def l2.step (K:Nat)(x:aa ps)(rec_l2:A_l2→Option Res)(a:A_l2):Option Res:=bif decide (a.2<(List.length x.1.2.2.2.2.2.2.2.2.1:Int)) then ((idx x.1.2.2.2.2.2.2.2.2.1 a.2).bind fun y17=>bif y17.2.2.1==2 then (rec_l2 (wr .i64 (a.1+1),wr .i64 (a.2+1))) else (rec_l2 (a.1,wr .i64 (a.2+1)))) else (some ((a.1==(List.length x.1.2.2.2.2.2.2.2.2.2.2.2.1:Int),()),()))
noncomputable def l2 (K:Nat)(x:aa ps):A_l2→Option Res:=ac (fun rec_l2 a=>l2.step K x rec_l2 a) K
noncomputable def l0.step (K:Nat)(x:aa ps)(N_l1:A_l1→Option Res)(N_l2:A_l2→Option Res)(rec_l0:A_l0→Option Res)(a:A_l0):Option Res:=bif decide (a<(List.length x.1.2.2.2.2.2.2.2.2.2.2.2.1:Int)) then ((idx x.1.2.2.2.2.2.2.2.2.2.2.2.1 a).bind fun y1=>(Q71.f K (x.1.2.2.2.2.2.2.2.2.1,y1.1,())).bind fun y2=>bif decide (a>0) then ((idx x.1.2.2.2.2.2.2.2.2.2.2.2.1 (wr .i64 (a-1))).bind fun y3=>bif decide (y3.1≥y1.1) then (some ((false,()),())) else (bif decide (y2.1.1<0) then (some ((false,()),())) else ((idx x.1.2.2.2.2.2.2.2.2.1 y2.1.1).bind fun y4=>bif y4.2.2.1 != 2 then (some ((false,()),())) else ((idx x.1.2.2.2.2.2.2.2.2.1 y2.1.1).bind fun y5=>bif y5.2.1 != y1.2.1 then (some ((false,()),())) else ((Q67.f K (y1.2.2.1,0,x.1.2.2.2.2.2.1,())).bind fun y6=>bif !y6.1.1 then (some ((false,()),())) else (bif (List.length y1.2.2.2:Int)==0 then (some ((false,()),())) else (N_l1 (a,0,y1.1,y1.2.1,y1.2.2.1,y1.2.2.2)))))))) else (bif decide (y2.1.1<0) then (some ((false,()),())) else ((idx x.1.2.2.2.2.2.2.2.2.1 y2.1.1).bind fun y14=>bif y14.2.2.1 != 2 then (some ((false,()),())) else ((idx x.1.2.2.2.2.2.2.2.2.1 y2.1.1).bind fun y15=>bif y15.2.1 != y1.2.1 then (some ((false,()),())) else ((Q67.f K (y1.2.2.1,0,x.1.2.2.2.2.2.1,())).bind fun y16=>bif !y16.1.1 then (some ((false,()),())) else (bif (List.length y1.2.2.2:Int)==0 then (some ((false,()),())) else (N_l1 (a,0,y1.1,y1.2.1,y1.2.2.1,y1.2.2.2)))))))) else (N_l2 (0,0))
noncomputable def l0 (K:Nat)(x:aa ps):A_l0→Option Res:=ac (fun rec_l0 a=>l0.step K x (l1 K x rec_l0) (l2 K x) rec_l0 a) K
noncomputable def pre (K:Nat)(N_l0:A_l0→Option Res)(x:aa ps):Option Res:=N_l0 0
noncomputable def f (K:Nat)(x:aa ps):Option Res:=pre K (l0 K x) x
noncomputable def c (K:Nat):Ctr:=⟨160,ps,rs,true,f K⟩
noncomputable def G (K:Nat):List Ctr:=[Q66.c K,Q67.c K,Q71.c K]
noncomputable def live_l1:List (Nat×List Coe):=[(1,[.keep]),(3,[.keep]),(4,[.keep]),(6,[.keep]),(100001,[.keep,.keep,.keep,.keep,.keep,.keep,.keep,.keep,.ro true 132 t2,.ro true 173 t3,.keep,.keep,.keep,.keep,.ro true 177 t15,.keep,.keep,.keep,.keep,.ro true 94 t17,.ro true 119 t18]),(100004,[.keep,.keep,.keep,.ro true 3 (.int .i64)])]
noncomputable def live_l2:List (Nat×List Coe):=[(1,[.keep]),(7,[.keep]),(8,[.keep]),(100001,[.keep,.keep,.keep,.keep,.keep,.keep,.keep,.keep,.ro true 132 t2,.ro true 173 t3,.keep,.keep,.keep,.keep,.ro true 177 t15,.keep,.keep,.keep,.keep,.ro true 94 t17,.ro true 119 t18])]
noncomputable def live_l0:List (Nat×List Coe):=[(1,[.keep]),(3,[.keep]),(100001,[.keep,.keep,.keep,.keep,.keep,.keep,.keep,.keep,.ro true 132 t2,.ro true 173 t3,.keep,.keep,.keep,.keep,.ro true 177 t15,.keep,.keep,.keep,.keep,.ro true 94 t17,.ro true 119 t18])]
noncomputable def L:List (Nat×List (Nat×List Coe)):=[(10,live_l1),(16,live_l2),(3,live_l0)]
noncomputable def body:Code:=c9 Tryz.f160
noncomputable abbrev ev (K:Nat):Code→St→(Ex→St→Option Res)→Option Res:=evK (G K) T_S L K
noncomputable abbrev fin:Ex→St→Option Res:=db T_S ps rs true Tryz.f160.results.toList
noncomputable def S_l0 (x:aa ps)(a:A_l0):St:=aw [(1,⟨0,.one,[.bp 100001 0]⟩),(3,⟨0,.one,[.int .i64 a]⟩),(100001,⟨0,.agg,[.int .i64 x.1.1,.bool x.1.2.1,.bool x.1.2.2.1,.bool x.1.2.2.2.1,.int .i64 x.1.2.2.2.2.1,.int .i64 x.1.2.2.2.2.2.1,.int .i64 x.1.2.2.2.2.2.2.1,.int .i64 x.1.2.2.2.2.2.2.2.1,.ro true 132 t2 x.1.2.2.2.2.2.2.2.2.1,.ro true 173 t3 x.1.2.2.2.2.2.2.2.2.2.1,.int .i64 x.1.2.2.2.2.2.2.2.2.2.2.1.1,.int .i64 x.1.2.2.2.2.2.2.2.2.2.2.1.2.1,.int .i64 x.1.2.2.2.2.2.2.2.2.2.2.1.2.2.1,.bool x.1.2.2.2.2.2.2.2.2.2.2.1.2.2.2,.ro true 177 t15 x.1.2.2.2.2.2.2.2.2.2.2.2.1,.int .i64 x.1.2.2.2.2.2.2.2.2.2.2.2.2.1.1,.int .i64 x.1.2.2.2.2.2.2.2.2.2.2.2.2.1.2.1,.int .i64 x.1.2.2.2.2.2.2.2.2.2.2.2.2.1.2.2.1,.int .i64 x.1.2.2.2.2.2.2.2.2.2.2.2.2.1.2.2.2,.ro true 94 t17 x.1.2.2.2.2.2.2.2.2.2.2.2.2.2.1,.ro true 119 t18 x.1.2.2.2.2.2.2.2.2.2.2.2.2.2.2]⟩)]
noncomputable def S_l2 (x:aa ps)(a:A_l2):St:=aw [(1,⟨0,.one,[.bp 100001 0]⟩),(7,⟨0,.one,[.int .i64 a.1]⟩),(8,⟨0,.one,[.int .i64 a.2]⟩),(100001,⟨0,.agg,[.int .i64 x.1.1,.bool x.1.2.1,.bool x.1.2.2.1,.bool x.1.2.2.2.1,.int .i64 x.1.2.2.2.2.1,.int .i64 x.1.2.2.2.2.2.1,.int .i64 x.1.2.2.2.2.2.2.1,.int .i64 x.1.2.2.2.2.2.2.2.1,.ro true 132 t2 x.1.2.2.2.2.2.2.2.2.1,.ro true 173 t3 x.1.2.2.2.2.2.2.2.2.2.1,.int .i64 x.1.2.2.2.2.2.2.2.2.2.2.1.1,.int .i64 x.1.2.2.2.2.2.2.2.2.2.2.1.2.1,.int .i64 x.1.2.2.2.2.2.2.2.2.2.2.1.2.2.1,.bool x.1.2.2.2.2.2.2.2.2.2.2.1.2.2.2,.ro true 177 t15 x.1.2.2.2.2.2.2.2.2.2.2.2.1,.int .i64 x.1.2.2.2.2.2.2.2.2.2.2.2.2.1.1,.int .i64 x.1.2.2.2.2.2.2.2.2.2.2.2.2.1.2.1,.int .i64 x.1.2.2.2.2.2.2.2.2.2.2.2.2.1.2.2.1,.int .i64 x.1.2.2.2.2.2.2.2.2.2.2.2.2.1.2.2.2,.ro true 94 t17 x.1.2.2.2.2.2.2.2.2.2.2.2.2.2.1,.ro true 119 t18 x.1.2.2.2.2.2.2.2.2.2.2.2.2.2.2]⟩)]
noncomputable def S_l1 (x:aa ps)(a:A_l1):St:=aw [(1,⟨0,.one,[.bp 100001 0]⟩),(3,⟨0,.one,[.int .i64 a.1]⟩),(4,⟨0,.one,[.bp 100004 0]⟩),(6,⟨0,.one,[.int .i64 a.2.1]⟩),(100001,⟨0,.agg,[.int .i64 x.1.1,.bool x.1.2.1,.bool x.1.2.2.1,.bool x.1.2.2.2.1,.int .i64 x.1.2.2.2.2.1,.int .i64 x.1.2.2.2.2.2.1,.int .i64 x.1.2.2.2.2.2.2.1,.int .i64 x.1.2.2.2.2.2.2.2.1,.ro true 132 t2 x.1.2.2.2.2.2.2.2.2.1,.ro true 173 t3 x.1.2.2.2.2.2.2.2.2.2.1,.int .i64 x.1.2.2.2.2.2.2.2.2.2.2.1.1,.int .i64 x.1.2.2.2.2.2.2.2.2.2.2.1.2.1,.int .i64 x.1.2.2.2.2.2.2.2.2.2.2.1.2.2.1,.bool x.1.2.2.2.2.2.2.2.2.2.2.1.2.2.2,.ro true 177 t15 x.1.2.2.2.2.2.2.2.2.2.2.2.1,.int .i64 x.1.2.2.2.2.2.2.2.2.2.2.2.2.1.1,.int .i64 x.1.2.2.2.2.2.2.2.2.2.2.2.2.1.2.1,.int .i64 x.1.2.2.2.2.2.2.2.2.2.2.2.2.1.2.2.1,.int .i64 x.1.2.2.2.2.2.2.2.2.2.2.2.2.1.2.2.2,.ro true 94 t17 x.1.2.2.2.2.2.2.2.2.2.2.2.2.2.1,.ro true 119 t18 x.1.2.2.2.2.2.2.2.2.2.2.2.2.2.2]⟩),(100004,⟨0,.agg,[.int .i64 a.2.2.1,.int .i64 a.2.2.2.1,.int .i64 a.2.2.2.2.1,.ro true 3 (.int .i64) a.2.2.2.2.2]⟩)]
noncomputable def k_l0 (K:Nat)(x:aa ps):Ex→St→Option Res:=kAt (ev K) body [1,0,1,0] fin
noncomputable def N_l0 (K:Nat)(x:aa ps):A_l0→Option Res:=fun a=>bu live_l0 (ev K (sub body [1,0,1,0,0])) K (S_l0 x a) (k_l0 K x)
noncomputable def k_l2 (K:Nat)(x:aa ps):Ex→St→Option Res:=kAt (ev K) body [1,1,1,0,1,0] fin
noncomputable def N_l2 (K:Nat)(x:aa ps):A_l2→Option Res:=fun a=>bu live_l2 (ev K (sub body [1,1,1,0,1,0,0])) K (S_l2 x a) (k_l2 K x)
noncomputable def k_l1 (K:Nat)(x:aa ps)(r_l0:St→Option Res):Ex→St→Option Res:=kAt (ev K) (sub body [1,0,1,0,0]) [1,0,0,1,1,1,1,0] (bL live_l0 r_l0 (k_l0 K x))
noncomputable def N_l1 (K:Nat)(x:aa ps)(r_l0:St→Option Res):A_l1→Option Res:=fun a=>bu live_l1 (ev K (sub body [1,0,1,0,0,1,0,0,1,1,1,1,0,0])) K (S_l1 x a) (k_l1 K x r_l0)
end Q77
namespace Q78
@[reducible] def ps:List PK:=[.rd t9]
@[reducible] def rs:List RK:=[.v .bool]
abbrev Res:=ai rs×ah ps
noncomputable def f (K:Nat)(x:aa ps):Option Res:=(Q67.f K (x.1.1,(-100000),100000,())).bind fun y1=>bif y1.1.1 then ((Q67.f K (x.1.2.1,(-100000),100000,())).bind fun y2=>bif y2.1.1 then ((Q67.f K (x.1.2.2.1,0,100000,())).bind fun y3=>bif y3.1.1 then ((Q67.f K (x.1.2.2.2,1,1500,())).bind fun y4=>some ((y4.1.1,()),())) else (some ((false,()),()))) else (some ((false,()),()))) else (some ((false,()),()))
noncomputable def c (K:Nat):Ctr:=⟨161,ps,rs,true,f K⟩
end Q78
namespace Q79
@[reducible] def ps:List PK:=[.rd t78]
@[reducible] def rs:List RK:=[.v .bool]
abbrev Res:=ai rs×ah ps
abbrev A_l1:=Int×Int×Int×Int×Int×Int×Int×List (Ty.den (.int .i64))
abbrev A_l0:=Int
noncomputable def l1.step (K:Nat)(x:aa ps)(rec_l0:A_l0→Option Res)(rec_l1:A_l1→Option Res)(a:A_l1):Option Res:=bif decide (a.2.1<(List.length a.2.2.2.2.2.2.2:Int)) then ((idx a.2.2.2.2.2.2.2 a.2.1).bind fun y8=>(Q67.f K (y8,1,60000,())).bind fun y9=>bif !y9.1.1 then (some ((false,()),())) else (rec_l1 (a.1,wr .i64 (a.2.1+1),a.2.2.1,a.2.2.2.1,a.2.2.2.2.1,a.2.2.2.2.2.1,a.2.2.2.2.2.2.1,a.2.2.2.2.2.2.2))) else (rec_l0 (wr .i64 (a.1+1)))
noncomputable def l1 (K:Nat)(x:aa ps)(rec_l0:A_l0→Option Res):A_l1→Option Res:=ac (fun rec_l1 a=>l1.step K x rec_l0 rec_l1 a) K
noncomputable def l0.step (K:Nat)(x:aa ps)(N_l1:A_l1→Option Res)(rec_l0:A_l0→Option Res)(a:A_l0):Option Res:=bif decide (a<(List.length x.1.2.2.2.2.2.2.2.2.2.2.2.2.2.1:Int)) then ((idx x.1.2.2.2.2.2.2.2.2.2.2.2.2.2.1 a).bind fun y1=>(Q67.f K (y1.1,0,7,())).bind fun y2=>bif !y2.1.1 then (some ((false,()),())) else ((Q66.f K (y1.1,())).bind fun y3=>(Q66.f K (x.1.1,())).bind fun y4=>bif y3.1.1 != y4.1.1 then (some ((false,()),())) else (bif y1.1==x.1.1 then (some ((false,()),())) else (bif decide (a>0) then ((idx x.1.2.2.2.2.2.2.2.2.2.2.2.2.2.1 (wr .i64 (a-1))).bind fun y5=>bif decide (y5.1≥y1.1) then (some ((false,()),())) else ((Q78.f K (y1.2.1,())).bind fun y6=>bif !y6.1.1 then (some ((false,()),())) else ((Q67.f K ((List.length y1.2.2:Int),1,3,())).bind fun y7=>bif !y7.1.1 then (some ((false,()),())) else (N_l1 (a,0,y1.1,y1.2.1.1,y1.2.1.2.1,y1.2.1.2.2.1,y1.2.1.2.2.2,y1.2.2))))) else ((Q78.f K (y1.2.1,())).bind fun y10=>bif !y10.1.1 then (some ((false,()),())) else ((Q67.f K ((List.length y1.2.2:Int),1,3,())).bind fun y11=>bif !y11.1.1 then (some ((false,()),())) else (N_l1 (a,0,y1.1,y1.2.1.1,y1.2.1.2.1,y1.2.1.2.2.1,y1.2.1.2.2.2,y1.2.2)))))))) else (some ((true,()),()))
noncomputable def l0 (K:Nat)(x:aa ps):A_l0→Option Res:=ac (fun rec_l0 a=>l0.step K x (l1 K x rec_l0) rec_l0 a) K
noncomputable def pre (K:Nat)(N_l0:A_l0→Option Res)(x:aa ps):Option Res:=N_l0 0
noncomputable def f (K:Nat)(x:aa ps):Option Res:=pre K (l0 K x) x
noncomputable def c (K:Nat):Ctr:=⟨162,ps,rs,true,f K⟩
noncomputable def G (K:Nat):List Ctr:=[Q66.c K,Q67.c K,Q78.c K]
noncomputable def live_l1:List (Nat×List Coe):=[(1,[.keep]),(3,[.keep]),(4,[.keep]),(5,[.keep]),(100001,[.keep,.keep,.keep,.keep,.keep,.keep,.keep,.keep,.ro true 132 t2,.ro true 173 t3,.keep,.keep,.keep,.keep,.ro true 177 t15,.keep,.keep,.keep,.keep,.ro true 94 t17,.ro true 119 t18]),(100004,[.keep,.keep,.keep,.keep,.keep,.ro true 3 (.int .i64)])]
noncomputable def live_l0:List (Nat×List Coe):=[(1,[.keep]),(3,[.keep]),(100001,[.keep,.keep,.keep,.keep,.keep,.keep,.keep,.keep,.ro true 132 t2,.ro true 173 t3,.keep,.keep,.keep,.keep,.ro true 177 t15,.keep,.keep,.keep,.keep,.ro true 94 t17,.ro true 119 t18])]
noncomputable def L:List (Nat×List (Nat×List Coe)):=[(9,live_l1),(3,live_l0)]
noncomputable def body:Code:=c9 Tryz.f162
noncomputable abbrev ev (K:Nat):Code→St→(Ex→St→Option Res)→Option Res:=evK (G K) T_S L K
noncomputable abbrev fin:Ex→St→Option Res:=db T_S ps rs true Tryz.f162.results.toList
noncomputable def S_l0 (x:aa ps)(a:A_l0):St:=aw [(1,⟨0,.one,[.bp 100001 0]⟩),(3,⟨0,.one,[.int .i64 a]⟩),(100001,⟨0,.agg,[.int .i64 x.1.1,.bool x.1.2.1,.bool x.1.2.2.1,.bool x.1.2.2.2.1,.int .i64 x.1.2.2.2.2.1,.int .i64 x.1.2.2.2.2.2.1,.int .i64 x.1.2.2.2.2.2.2.1,.int .i64 x.1.2.2.2.2.2.2.2.1,.ro true 132 t2 x.1.2.2.2.2.2.2.2.2.1,.ro true 173 t3 x.1.2.2.2.2.2.2.2.2.2.1,.int .i64 x.1.2.2.2.2.2.2.2.2.2.2.1.1,.int .i64 x.1.2.2.2.2.2.2.2.2.2.2.1.2.1,.int .i64 x.1.2.2.2.2.2.2.2.2.2.2.1.2.2.1,.bool x.1.2.2.2.2.2.2.2.2.2.2.1.2.2.2,.ro true 177 t15 x.1.2.2.2.2.2.2.2.2.2.2.2.1,.int .i64 x.1.2.2.2.2.2.2.2.2.2.2.2.2.1.1,.int .i64 x.1.2.2.2.2.2.2.2.2.2.2.2.2.1.2.1,.int .i64 x.1.2.2.2.2.2.2.2.2.2.2.2.2.1.2.2.1,.int .i64 x.1.2.2.2.2.2.2.2.2.2.2.2.2.1.2.2.2,.ro true 94 t17 x.1.2.2.2.2.2.2.2.2.2.2.2.2.2.1,.ro true 119 t18 x.1.2.2.2.2.2.2.2.2.2.2.2.2.2.2]⟩)]
noncomputable def S_l1 (x:aa ps)(a:A_l1):St:=aw [(1,⟨0,.one,[.bp 100001 0]⟩),(3,⟨0,.one,[.int .i64 a.1]⟩),(4,⟨0,.one,[.bp 100004 0]⟩),(5,⟨0,.one,[.int .i64 a.2.1]⟩),(100001,⟨0,.agg,[.int .i64 x.1.1,.bool x.1.2.1,.bool x.1.2.2.1,.bool x.1.2.2.2.1,.int .i64 x.1.2.2.2.2.1,.int .i64 x.1.2.2.2.2.2.1,.int .i64 x.1.2.2.2.2.2.2.1,.int .i64 x.1.2.2.2.2.2.2.2.1,.ro true 132 t2 x.1.2.2.2.2.2.2.2.2.1,.ro true 173 t3 x.1.2.2.2.2.2.2.2.2.2.1,.int .i64 x.1.2.2.2.2.2.2.2.2.2.2.1.1,.int .i64 x.1.2.2.2.2.2.2.2.2.2.2.1.2.1,.int .i64 x.1.2.2.2.2.2.2.2.2.2.2.1.2.2.1,.bool x.1.2.2.2.2.2.2.2.2.2.2.1.2.2.2,.ro true 177 t15 x.1.2.2.2.2.2.2.2.2.2.2.2.1,.int .i64 x.1.2.2.2.2.2.2.2.2.2.2.2.2.1.1,.int .i64 x.1.2.2.2.2.2.2.2.2.2.2.2.2.1.2.1,.int .i64 x.1.2.2.2.2.2.2.2.2.2.2.2.2.1.2.2.1,.int .i64 x.1.2.2.2.2.2.2.2.2.2.2.2.2.1.2.2.2,.ro true 94 t17 x.1.2.2.2.2.2.2.2.2.2.2.2.2.2.1,.ro true 119 t18 x.1.2.2.2.2.2.2.2.2.2.2.2.2.2.2]⟩),(100004,⟨0,.agg,[.int .i64 a.2.2.1,.int .i64 a.2.2.2.1,.int .i64 a.2.2.2.2.1,.int .i64 a.2.2.2.2.2.1,.int .i64 a.2.2.2.2.2.2.1,.ro true 3 (.int .i64) a.2.2.2.2.2.2.2]⟩)]
noncomputable def k_l0 (K:Nat)(x:aa ps):Ex→St→Option Res:=kAt (ev K) body [1,0,1,0] fin
noncomputable def N_l0 (K:Nat)(x:aa ps):A_l0→Option Res:=fun a=>bu live_l0 (ev K (sub body [1,0,1,0,0])) K (S_l0 x a) (k_l0 K x)
noncomputable def k_l1 (K:Nat)(x:aa ps)(r_l0:St→Option Res):Ex→St→Option Res:=kAt (ev K) (sub body [1,0,1,0,0]) [1,0,0,1,1,1,0] (bL live_l0 r_l0 (k_l0 K x))
noncomputable def N_l1 (K:Nat)(x:aa ps)(r_l0:St→Option Res):A_l1→Option Res:=fun a=>bu live_l1 (ev K (sub body [1,0,1,0,0,1,0,0,1,1,1,0,0])) K (S_l1 x a) (k_l1 K x r_l0)
end Q79
namespace Q80
@[reducible] def ps:List PK:=[.rd t78]
@[reducible] def rs:List RK:=[.v .bool]
abbrev Res:=ai rs×ah ps
abbrev A_l0:=Int
noncomputable def l0.step (K:Nat)(x:aa ps)(rec_l0:A_l0→Option Res)(a:A_l0):Option Res:=bif decide (a<(List.length x.1.2.2.2.2.2.2.2.2.2.2.2.2.2.2:Int)) then ((idx x.1.2.2.2.2.2.2.2.2.2.2.2.2.2.2 a).bind fun y1=>(Q67.f K (y1.1,0,1,())).bind fun y2=>bif !y2.1.1 then (some ((false,()),())) else ((Q66.f K (x.1.1,())).bind fun y3=>bif y1.1==y3.1.1 then (some ((false,()),())) else (bif decide (a>0) then ((idx x.1.2.2.2.2.2.2.2.2.2.2.2.2.2.2 (wr .i64 (a-1))).bind fun y4=>bif decide (y4.1≥y1.1) then (some ((false,()),())) else (bif (List.length y1.2:Int)==0 then (some ((false,()),())) else ((Q69.f K (y1.2,())).bind fun y5=>bif !y5.1.1 then (some ((false,()),())) else ((Q70.f K (y1.2,y1.1,())).bind fun y6=>bif !y6.1.1 then (some ((false,()),())) else (rec_l0 (wr .i64 (a+1))))))) else (bif (List.length y1.2:Int)==0 then (some ((false,()),())) else ((Q69.f K (y1.2,())).bind fun y7=>bif !y7.1.1 then (some ((false,()),())) else ((Q70.f K (y1.2,y1.1,())).bind fun y8=>bif !y8.1.1 then (some ((false,()),())) else (rec_l0 (wr .i64 (a+1))))))))) else (some ((true,()),()))
noncomputable def l0 (K:Nat)(x:aa ps):A_l0→Option Res:=ac (fun rec_l0 a=>l0.step K x rec_l0 a) K
noncomputable def pre (K:Nat)(N_l0:A_l0→Option Res)(x:aa ps):Option Res:=N_l0 0
noncomputable def f (K:Nat)(x:aa ps):Option Res:=pre K (l0 K x) x
noncomputable def c (K:Nat):Ctr:=⟨163,ps,rs,true,f K⟩
end Q80
namespace Q81
@[reducible] def ps:List PK:=[.rd t78]
@[reducible] def rs:List RK:=[.v .bool]
abbrev Res:=ai rs×ah ps
noncomputable def f (K:Nat)(x:aa ps):Option Res:=(Q67.f K (x.1.1,0,7,())).bind fun y1=>bif !y1.1.1 then (some ((false,()),())) else ((Q67.f K (x.1.2.2.2.2.2.1,0,999999,())).bind fun y2=>bif !y2.1.1 then (some ((false,()),())) else ((Q67.f K (x.1.2.2.2.2.2.2.1,0,999999,())).bind fun y3=>bif !y3.1.1 then (some ((false,()),())) else ((Q67.f K (x.1.2.2.2.2.2.2.2.1,0,8,())).bind fun y4=>bif !y4.1.1 then (some ((false,()),())) else ((Q67.f K (x.1.2.2.2.2.1,0,999,())).bind fun y5=>bif !y5.1.1 then (some ((false,()),())) else (bif !x.1.2.1 then (bif !x.1.2.2.1 then (bif x.1.2.2.2.2.1==0 then (bif x.1.2.2.2.2.2.1==0 then (bif x.1.2.2.2.2.2.2.1==0 then (bif x.1.2.2.2.2.2.2.2.1==0 then (bif (wr .i64 ((wr .i64 ((wr .i64 ((wr .i64 ((List.length x.1.2.2.2.2.2.2.2.2.1:Int)+(List.length x.1.2.2.2.2.2.2.2.2.2.1:Int)))+(List.length x.1.2.2.2.2.2.2.2.2.2.2.2.1:Int)))+(List.length x.1.2.2.2.2.2.2.2.2.2.2.2.2.2.1:Int)))+(List.length x.1.2.2.2.2.2.2.2.2.2.2.2.2.2.2:Int)))==0 then (bif x.1.2.2.2.2.2.2.2.2.2.2.1.1==0 then (bif x.1.2.2.2.2.2.2.2.2.2.2.1.2.1==0 then (bif x.1.2.2.2.2.2.2.2.2.2.2.1.2.2.1==0 then (bif !x.1.2.2.2.2.2.2.2.2.2.2.1.2.2.2 then (bif x.1.2.2.2.2.2.2.2.2.2.2.2.2.1.1==0 then (bif x.1.2.2.2.2.2.2.2.2.2.2.2.2.1.2.1==0 then (bif x.1.2.2.2.2.2.2.2.2.2.2.2.2.1.2.2.1==0 then (some ((x.1.2.2.2.2.2.2.2.2.2.2.2.2.1.2.2.2==0,()),())) else (some ((false,()),()))) else (some ((false,()),()))) else (some ((false,()),()))) else (some ((false,()),()))) else (some ((false,()),()))) else (some ((false,()),()))) else (some ((false,()),()))) else (some ((false,()),()))) else (some ((false,()),()))) else (some ((false,()),()))) else (some ((false,()),()))) else (some ((false,()),()))) else (some ((false,()),()))) else ((Q69.f K (x.1.2.2.2.2.2.2.2.2.1,())).bind fun y6=>bif y6.1.1 then ((Q66.f K (x.1.1,())).bind fun y7=>(Q70.f K (x.1.2.2.2.2.2.2.2.2.1,y7.1.1,())).bind fun y8=>bif y8.1.1 then ((Q72.f K (x.1,())).bind fun y9=>bif y9.1.1 then ((Q75.f K (x.1,())).bind fun y10=>bif y10.1.1 then ((Q76.f K (x.1,())).bind fun y11=>bif y11.1.1 then ((Q77.f K (x.1,())).bind fun y12=>bif y12.1.1 then ((Q78.f K (x.1.2.2.2.2.2.2.2.2.2.2.2.2.1,())).bind fun y13=>bif y13.1.1 then ((Q79.f K (x.1,())).bind fun y14=>bif y14.1.1 then ((Q80.f K (x.1,())).bind fun y15=>some ((y15.1.1,()),())) else (some ((false,()),()))) else (some ((false,()),()))) else (some ((false,()),()))) else (some ((false,()),()))) else (some ((false,()),()))) else (some ((false,()),()))) else (some ((false,()),()))) else (some ((false,()),()))))))))
noncomputable def c (K:Nat):Ctr:=⟨65,ps,rs,true,f K⟩
end Q81
namespace Q82
@[reducible] def ps:List PK:=[.rd t78]
@[reducible] def rs:List RK:=[.v t92]
abbrev Res:=ai rs×ah ps
abbrev A_l2:=Int×List (Ty.den t15)×List (Ty.den t17)×List (Ty.den t18)
abbrev A_l1:=Int×List (Ty.den t15)×List (Ty.den t17)
abbrev A_l0:=Int×List (Ty.den t15)
noncomputable def l2.step (K:Nat)(x:aa ps)(rec_l2:A_l2→Option Res)(a:A_l2):Option Res:=bif decide (a.1<(List.length x.1.2.2.2.2.2.2.2.2.2.2.2.2.2.2:Int)) then ((idx x.1.2.2.2.2.2.2.2.2.2.2.2.2.2.2 a.1).bind fun y3=>bif decide ((List.length ([]:List (Ty.den t2))+List.length y3.2)*32≤an) then (bif decide ((List.length a.2.2.2+List.length ([(y3.1,[]++y3.2)]))*32≤an) then (rec_l2 (wr .i64 (a.1+1),a.2.1,a.2.2.1,a.2.2.2++([(y3.1,[]++y3.2)]))) else none) else none) else (some (((x.1.1,(x.1.2.1,(x.1.2.2.1,(x.1.2.2.2.1,(x.1.2.2.2.2.1,(x.1.2.2.2.2.2.1,(x.1.2.2.2.2.2.2.1,(x.1.2.2.2.2.2.2.2.1,([]++x.1.2.2.2.2.2.2.2.2.1,([]++x.1.2.2.2.2.2.2.2.2.2.1,(x.1.2.2.2.2.2.2.2.2.2.2.1,(a.2.1,(x.1.2.2.2.2.2.2.2.2.2.2.2.2.1,a.2.2))))))))))))),()),()))
noncomputable def l2 (K:Nat)(x:aa ps):A_l2→Option Res:=ac (fun rec_l2 a=>l2.step K x rec_l2 a) K
noncomputable def l1.step (K:Nat)(x:aa ps)(N_l2:A_l2→Option Res)(rec_l1:A_l1→Option Res)(a:A_l1):Option Res:=bif decide (a.1<(List.length x.1.2.2.2.2.2.2.2.2.2.2.2.2.2.1:Int)) then ((idx x.1.2.2.2.2.2.2.2.2.2.2.2.2.2.1 a.1).bind fun y2=>bif decide ((List.length ([]:List (Ty.den (.int .i64)))+List.length y2.2.2)*8≤an) then (bif decide ((List.length a.2.2+List.length ([(y2.1,(y2.2.1,[]++y2.2.2))]))*64≤an) then (rec_l1 (wr .i64 (a.1+1),a.2.1,a.2.2++([(y2.1,(y2.2.1,[]++y2.2.2))]))) else none) else none) else (N_l2 (0,a.2.1,a.2.2,[]))
noncomputable def l1 (K:Nat)(x:aa ps):A_l1→Option Res:=ac (fun rec_l1 a=>l1.step K x (l2 K x) rec_l1 a) K
noncomputable def l0.step (K:Nat)(x:aa ps)(N_l1:A_l1→Option Res)(rec_l0:A_l0→Option Res)(a:A_l0):Option Res:=bif decide (a.1<(List.length x.1.2.2.2.2.2.2.2.2.2.2.2.1:Int)) then ((idx x.1.2.2.2.2.2.2.2.2.2.2.2.1 a.1).bind fun y1=>bif decide ((List.length ([]:List (Ty.den (.int .i64)))+List.length y1.2.2.2)*8≤an) then (bif decide ((List.length a.2+List.length ([(y1.1,(y1.2.1,(y1.2.2.1,[]++y1.2.2.2)))]))*48≤an) then (rec_l0 (wr .i64 (a.1+1),a.2++([(y1.1,(y1.2.1,(y1.2.2.1,[]++y1.2.2.2)))]))) else none) else none) else (N_l1 (0,a.2,[]))
noncomputable def l0 (K:Nat)(x:aa ps):A_l0→Option Res:=ac (fun rec_l0 a=>l0.step K x (l1 K x) rec_l0 a) K
noncomputable def pre (K:Nat)(N_l0:A_l0→Option Res)(x:aa ps):Option Res:=bif decide ((List.length ([]:List (Ty.den t2))+List.length x.1.2.2.2.2.2.2.2.2.1)*32≤an) then (bif decide ((List.length ([]:List (Ty.den t3))+List.length x.1.2.2.2.2.2.2.2.2.2.1)*40≤an) then (N_l0 (0,[])) else none) else none
noncomputable def f (K:Nat)(x:aa ps):Option Res:=pre K (l0 K x) x
noncomputable def c (K:Nat):Ctr:=⟨126,ps,rs,true,f K⟩
noncomputable def G (K:Nat):List Ctr:=[]
noncomputable def live_l2:List (Nat×List Coe):=[(1,[.keep]),(2,[.keep]),(3,[.keep]),(8,[.keep]),(100001,[.keep,.keep,.keep,.keep,.keep,.keep,.keep,.keep,.ro true 132 t2,.ro true 173 t3,.keep,.keep,.keep,.keep,.ro true 177 t15,.keep,.keep,.keep,.keep,.ro true 94 t17,.ro true 119 t18]),(100002,[.keep,.keep,.keep,.keep,.keep,.keep,.keep,.keep,.keep,.keep,.keep,.keep,.keep,.keep,.keep,.keep,.keep,.keep,.keep,.keep,.keep]),(100003,[.keep,.keep,.keep,.keep,.keep,.keep,.keep,.keep,.own false 132 t2,.own false 173 t3,.keep,.keep,.keep,.keep,.own false 177 t15,.keep,.keep,.keep,.keep,.own false 94 t17,.own false 119 t18])]
noncomputable def live_l1:List (Nat×List Coe):=[(1,[.keep]),(2,[.keep]),(3,[.keep]),(6,[.keep]),(100001,[.keep,.keep,.keep,.keep,.keep,.keep,.keep,.keep,.ro true 132 t2,.ro true 173 t3,.keep,.keep,.keep,.keep,.ro true 177 t15,.keep,.keep,.keep,.keep,.ro true 94 t17,.ro true 119 t18]),(100002,[.keep,.keep,.keep,.keep,.keep,.keep,.keep,.keep,.keep,.keep,.keep,.keep,.keep,.keep,.keep,.keep,.keep,.keep,.keep,.keep,.keep]),(100003,[.keep,.keep,.keep,.keep,.keep,.keep,.keep,.keep,.own false 132 t2,.own false 173 t3,.keep,.keep,.keep,.keep,.own false 177 t15,.keep,.keep,.keep,.keep,.own false 94 t17,.ro true 119 t18])]
noncomputable def live_l0:List (Nat×List Coe):=[(1,[.keep]),(2,[.keep]),(3,[.keep]),(4,[.keep]),(100001,[.keep,.keep,.keep,.keep,.keep,.keep,.keep,.keep,.ro true 132 t2,.ro true 173 t3,.keep,.keep,.keep,.keep,.ro true 177 t15,.keep,.keep,.keep,.keep,.ro true 94 t17,.ro true 119 t18]),(100002,[.keep,.keep,.keep,.keep,.keep,.keep,.keep,.keep,.keep,.keep,.keep,.keep,.keep,.keep,.keep,.keep,.keep,.keep,.keep,.keep,.keep]),(100003,[.keep,.keep,.keep,.keep,.keep,.keep,.keep,.keep,.own false 132 t2,.own false 173 t3,.keep,.keep,.keep,.keep,.own false 177 t15,.keep,.keep,.keep,.keep,.ro true 94 t17,.ro true 119 t18])]
noncomputable def L:List (Nat×List (Nat×List Coe)):=[(21,live_l2),(14,live_l1),(7,live_l0)]
noncomputable def body:Code:=c9 Tryz.f126
noncomputable abbrev ev (K:Nat):Code→St→(Ex→St→Option Res)→Option Res:=evK (G K) T_ND L K
noncomputable abbrev fin:Ex→St→Option Res:=db T_ND ps rs true Tryz.f126.results.toList
noncomputable def S_l0 (x:aa ps)(a:A_l0):St:=aw [(1,⟨0,.one,[.bp 100001 0]⟩),(2,⟨0,.one,[.bp 100002 0]⟩),(3,⟨0,.one,[.bp 100003 0]⟩),(4,⟨0,.one,[.int .i64 a.1]⟩),(100001,⟨0,.agg,[.int .i64 x.1.1,.bool x.1.2.1,.bool x.1.2.2.1,.bool x.1.2.2.2.1,.int .i64 x.1.2.2.2.2.1,.int .i64 x.1.2.2.2.2.2.1,.int .i64 x.1.2.2.2.2.2.2.1,.int .i64 x.1.2.2.2.2.2.2.2.1,.ro true 132 t2 x.1.2.2.2.2.2.2.2.2.1,.ro true 173 t3 x.1.2.2.2.2.2.2.2.2.2.1,.int .i64 x.1.2.2.2.2.2.2.2.2.2.2.1.1,.int .i64 x.1.2.2.2.2.2.2.2.2.2.2.1.2.1,.int .i64 x.1.2.2.2.2.2.2.2.2.2.2.1.2.2.1,.bool x.1.2.2.2.2.2.2.2.2.2.2.1.2.2.2,.ro true 177 t15 x.1.2.2.2.2.2.2.2.2.2.2.2.1,.int .i64 x.1.2.2.2.2.2.2.2.2.2.2.2.2.1.1,.int .i64 x.1.2.2.2.2.2.2.2.2.2.2.2.2.1.2.1,.int .i64 x.1.2.2.2.2.2.2.2.2.2.2.2.2.1.2.2.1,.int .i64 x.1.2.2.2.2.2.2.2.2.2.2.2.2.1.2.2.2,.ro true 94 t17 x.1.2.2.2.2.2.2.2.2.2.2.2.2.2.1,.ro true 119 t18 x.1.2.2.2.2.2.2.2.2.2.2.2.2.2.2]⟩),(100002,⟨0,.agg,[.int .i64 0,.bool false,.bool false,.bool false,.int .i64 0,.int .i64 0,.int .i64 0,.int .i64 0,.nil,.nil,.int .i64 0,.int .i64 0,.int .i64 0,.bool false,.nil,.int .i64 0,.int .i64 0,.int .i64 0,.int .i64 0,.nil,.nil]⟩),(100003,⟨0,.agg,[.int .i64 x.1.1,.bool x.1.2.1,.bool x.1.2.2.1,.bool x.1.2.2.2.1,.int .i64 x.1.2.2.2.2.1,.int .i64 x.1.2.2.2.2.2.1,.int .i64 x.1.2.2.2.2.2.2.1,.int .i64 x.1.2.2.2.2.2.2.2.1,.own false none 132 t2 ([]++x.1.2.2.2.2.2.2.2.2.1),.own false none 173 t3 ([]++x.1.2.2.2.2.2.2.2.2.2.1),.int .i64 x.1.2.2.2.2.2.2.2.2.2.2.1.1,.int .i64 x.1.2.2.2.2.2.2.2.2.2.2.1.2.1,.int .i64 x.1.2.2.2.2.2.2.2.2.2.2.1.2.2.1,.bool x.1.2.2.2.2.2.2.2.2.2.2.1.2.2.2,.own false none 177 t15 a.2,.int .i64 x.1.2.2.2.2.2.2.2.2.2.2.2.2.1.1,.int .i64 x.1.2.2.2.2.2.2.2.2.2.2.2.2.1.2.1,.int .i64 x.1.2.2.2.2.2.2.2.2.2.2.2.2.1.2.2.1,.int .i64 x.1.2.2.2.2.2.2.2.2.2.2.2.2.1.2.2.2,.ro true 94 t17 x.1.2.2.2.2.2.2.2.2.2.2.2.2.2.1,.ro true 119 t18 x.1.2.2.2.2.2.2.2.2.2.2.2.2.2.2]⟩)]
noncomputable def S_l1 (x:aa ps)(a:A_l1):St:=aw [(1,⟨0,.one,[.bp 100001 0]⟩),(2,⟨0,.one,[.bp 100002 0]⟩),(3,⟨0,.one,[.bp 100003 0]⟩),(6,⟨0,.one,[.int .i64 a.1]⟩),(100001,⟨0,.agg,[.int .i64 x.1.1,.bool x.1.2.1,.bool x.1.2.2.1,.bool x.1.2.2.2.1,.int .i64 x.1.2.2.2.2.1,.int .i64 x.1.2.2.2.2.2.1,.int .i64 x.1.2.2.2.2.2.2.1,.int .i64 x.1.2.2.2.2.2.2.2.1,.ro true 132 t2 x.1.2.2.2.2.2.2.2.2.1,.ro true 173 t3 x.1.2.2.2.2.2.2.2.2.2.1,.int .i64 x.1.2.2.2.2.2.2.2.2.2.2.1.1,.int .i64 x.1.2.2.2.2.2.2.2.2.2.2.1.2.1,.int .i64 x.1.2.2.2.2.2.2.2.2.2.2.1.2.2.1,.bool x.1.2.2.2.2.2.2.2.2.2.2.1.2.2.2,.ro true 177 t15 x.1.2.2.2.2.2.2.2.2.2.2.2.1,.int .i64 x.1.2.2.2.2.2.2.2.2.2.2.2.2.1.1,.int .i64 x.1.2.2.2.2.2.2.2.2.2.2.2.2.1.2.1,.int .i64 x.1.2.2.2.2.2.2.2.2.2.2.2.2.1.2.2.1,.int .i64 x.1.2.2.2.2.2.2.2.2.2.2.2.2.1.2.2.2,.ro true 94 t17 x.1.2.2.2.2.2.2.2.2.2.2.2.2.2.1,.ro true 119 t18 x.1.2.2.2.2.2.2.2.2.2.2.2.2.2.2]⟩),(100002,⟨0,.agg,[.int .i64 0,.bool false,.bool false,.bool false,.int .i64 0,.int .i64 0,.int .i64 0,.int .i64 0,.nil,.nil,.int .i64 0,.int .i64 0,.int .i64 0,.bool false,.nil,.int .i64 0,.int .i64 0,.int .i64 0,.int .i64 0,.nil,.nil]⟩),(100003,⟨0,.agg,[.int .i64 x.1.1,.bool x.1.2.1,.bool x.1.2.2.1,.bool x.1.2.2.2.1,.int .i64 x.1.2.2.2.2.1,.int .i64 x.1.2.2.2.2.2.1,.int .i64 x.1.2.2.2.2.2.2.1,.int .i64 x.1.2.2.2.2.2.2.2.1,.own false none 132 t2 ([]++x.1.2.2.2.2.2.2.2.2.1),.own false none 173 t3 ([]++x.1.2.2.2.2.2.2.2.2.2.1),.int .i64 x.1.2.2.2.2.2.2.2.2.2.2.1.1,.int .i64 x.1.2.2.2.2.2.2.2.2.2.2.1.2.1,.int .i64 x.1.2.2.2.2.2.2.2.2.2.2.1.2.2.1,.bool x.1.2.2.2.2.2.2.2.2.2.2.1.2.2.2,.own false none 177 t15 a.2.1,.int .i64 x.1.2.2.2.2.2.2.2.2.2.2.2.2.1.1,.int .i64 x.1.2.2.2.2.2.2.2.2.2.2.2.2.1.2.1,.int .i64 x.1.2.2.2.2.2.2.2.2.2.2.2.2.1.2.2.1,.int .i64 x.1.2.2.2.2.2.2.2.2.2.2.2.2.1.2.2.2,.own false none 94 t17 a.2.2,.ro true 119 t18 x.1.2.2.2.2.2.2.2.2.2.2.2.2.2.2]⟩)]
noncomputable def S_l2 (x:aa ps)(a:A_l2):St:=aw [(1,⟨0,.one,[.bp 100001 0]⟩),(2,⟨0,.one,[.bp 100002 0]⟩),(3,⟨0,.one,[.bp 100003 0]⟩),(8,⟨0,.one,[.int .i64 a.1]⟩),(100001,⟨0,.agg,[.int .i64 x.1.1,.bool x.1.2.1,.bool x.1.2.2.1,.bool x.1.2.2.2.1,.int .i64 x.1.2.2.2.2.1,.int .i64 x.1.2.2.2.2.2.1,.int .i64 x.1.2.2.2.2.2.2.1,.int .i64 x.1.2.2.2.2.2.2.2.1,.ro true 132 t2 x.1.2.2.2.2.2.2.2.2.1,.ro true 173 t3 x.1.2.2.2.2.2.2.2.2.2.1,.int .i64 x.1.2.2.2.2.2.2.2.2.2.2.1.1,.int .i64 x.1.2.2.2.2.2.2.2.2.2.2.1.2.1,.int .i64 x.1.2.2.2.2.2.2.2.2.2.2.1.2.2.1,.bool x.1.2.2.2.2.2.2.2.2.2.2.1.2.2.2,.ro true 177 t15 x.1.2.2.2.2.2.2.2.2.2.2.2.1,.int .i64 x.1.2.2.2.2.2.2.2.2.2.2.2.2.1.1,.int .i64 x.1.2.2.2.2.2.2.2.2.2.2.2.2.1.2.1,.int .i64 x.1.2.2.2.2.2.2.2.2.2.2.2.2.1.2.2.1,.int .i64 x.1.2.2.2.2.2.2.2.2.2.2.2.2.1.2.2.2,.ro true 94 t17 x.1.2.2.2.2.2.2.2.2.2.2.2.2.2.1,.ro true 119 t18 x.1.2.2.2.2.2.2.2.2.2.2.2.2.2.2]⟩),(100002,⟨0,.agg,[.int .i64 0,.bool false,.bool false,.bool false,.int .i64 0,.int .i64 0,.int .i64 0,.int .i64 0,.nil,.nil,.int .i64 0,.int .i64 0,.int .i64 0,.bool false,.nil,.int .i64 0,.int .i64 0,.int .i64 0,.int .i64 0,.nil,.nil]⟩),(100003,⟨0,.agg,[.int .i64 x.1.1,.bool x.1.2.1,.bool x.1.2.2.1,.bool x.1.2.2.2.1,.int .i64 x.1.2.2.2.2.1,.int .i64 x.1.2.2.2.2.2.1,.int .i64 x.1.2.2.2.2.2.2.1,.int .i64 x.1.2.2.2.2.2.2.2.1,.own false none 132 t2 ([]++x.1.2.2.2.2.2.2.2.2.1),.own false none 173 t3 ([]++x.1.2.2.2.2.2.2.2.2.2.1),.int .i64 x.1.2.2.2.2.2.2.2.2.2.2.1.1,.int .i64 x.1.2.2.2.2.2.2.2.2.2.2.1.2.1,.int .i64 x.1.2.2.2.2.2.2.2.2.2.2.1.2.2.1,.bool x.1.2.2.2.2.2.2.2.2.2.2.1.2.2.2,.own false none 177 t15 a.2.1,.int .i64 x.1.2.2.2.2.2.2.2.2.2.2.2.2.1.1,.int .i64 x.1.2.2.2.2.2.2.2.2.2.2.2.2.1.2.1,.int .i64 x.1.2.2.2.2.2.2.2.2.2.2.2.2.1.2.2.1,.int .i64 x.1.2.2.2.2.2.2.2.2.2.2.2.2.1.2.2.2,.own false none 94 t17 a.2.2.1,.own false none 119 t18 a.2.2.2]⟩)]
noncomputable def k_l0 (K:Nat)(x:aa ps):Ex→St→Option Res:=kAt (ev K) body [1,1,1,1,1,0,1,0] fin
noncomputable def N_l0 (K:Nat)(x:aa ps):A_l0→Option Res:=fun a=>bu live_l0 (ev K (sub body [1,1,1,1,1,0,1,0,0])) K (S_l0 x a) (k_l0 K x)
noncomputable def k_l1 (K:Nat)(x:aa ps):Ex→St→Option Res:=kAt (ev K) body [1,1,1,1,1,1,1,0,1,0] fin
noncomputable def N_l1 (K:Nat)(x:aa ps):A_l1→Option Res:=fun a=>bu live_l1 (ev K (sub body [1,1,1,1,1,1,1,0,1,0,0])) K (S_l1 x a) (k_l1 K x)
noncomputable def k_l2 (K:Nat)(x:aa ps):Ex→St→Option Res:=kAt (ev K) body [1,1,1,1,1,1,1,1,1,0,1,0] fin
noncomputable def N_l2 (K:Nat)(x:aa ps):A_l2→Option Res:=fun a=>bu live_l2 (ev K (sub body [1,1,1,1,1,1,1,1,1,0,1,0,0])) K (S_l2 x a) (k_l2 K x)
end Q82
namespace Q83
@[reducible] def ps:List PK:=[.rd (.list false 132 t2),.rd t2]
@[reducible] def rs:List RK:=[.v (.list false 132 t2),.v .bool]
abbrev Res:=ai rs×ah ps
abbrev A_l0:=Int
noncomputable def l0.step (K:Nat)(x:aa ps)(rec_l0:A_l0→Option Res)(a:A_l0):Option Res:=bif decide (a<(List.length x.1:Int)) then ((idx x.1 a).bind fun y6=>bif decide (y6.1<x.2.1.1) then (rec_l0 (wr .i64 (a+1))) else (bif decide (0≤0)&&decide (0≤a)&&decide (a≤(List.length x.1:Int))&&true then (bif decide ((List.length ([]:List (Ty.den t2))+List.length ((x.1.take (Int.toNat a)).drop (Int.toNat 0)))*32≤an) then (bif decide ((List.length ([]++((x.1.take (Int.toNat a)).drop (Int.toNat 0)))+List.length ([x.2.1]))*32≤an) then (bif decide (0≤a)&&decide (a≤(List.length x.1:Int))&&decide ((List.length x.1:Int)≤(List.length x.1:Int))&&true then (bif decide ((List.length (([]++((x.1.take (Int.toNat a)).drop (Int.toNat 0)))++([x.2.1]))+List.length ((x.1.take (Int.toNat (List.length x.1:Int))).drop (Int.toNat a)))*32≤an) then (some (((([]++((x.1.take (Int.toNat a)).drop (Int.toNat 0)))++([x.2.1]))++((x.1.take (Int.toNat (List.length x.1:Int))).drop (Int.toNat a)),true,()),())) else none) else none) else none) else none) else none)) else (bif decide (0≤0)&&decide (0≤a)&&decide (a≤(List.length x.1:Int))&&true then (bif decide ((List.length ([]:List (Ty.den t2))+List.length ((x.1.take (Int.toNat a)).drop (Int.toNat 0)))*32≤an) then (bif decide ((List.length ([]++((x.1.take (Int.toNat a)).drop (Int.toNat 0)))+List.length ([x.2.1]))*32≤an) then (bif decide (0≤a)&&decide (a≤(List.length x.1:Int))&&decide ((List.length x.1:Int)≤(List.length x.1:Int))&&true then (bif decide ((List.length (([]++((x.1.take (Int.toNat a)).drop (Int.toNat 0)))++([x.2.1]))+List.length ((x.1.take (Int.toNat (List.length x.1:Int))).drop (Int.toNat a)))*32≤an) then (some (((([]++((x.1.take (Int.toNat a)).drop (Int.toNat 0)))++([x.2.1]))++((x.1.take (Int.toNat (List.length x.1:Int))).drop (Int.toNat a)),true,()),())) else none) else none) else none) else none) else none)
noncomputable def l0 (K:Nat)(x:aa ps):A_l0→Option Res:=ac (fun rec_l0 a=>l0.step K x rec_l0 a) K
noncomputable def pre (K:Nat)(N_l0:A_l0→Option Res)(x:aa ps):Option Res:=(Q71.f K (x.1,x.2.1.1,())).bind fun y1=>bif decide (y1.1.1≥0) then ((idx x.1 y1.1.1).bind fun y2=>(Q73.f K (x.2.1,y2,())).bind fun y3=>bif !y3.1.1 then (some ((x.1,false,()),())) else (bif decide ((List.length ([]:List (Ty.den t2))+List.length x.1)*32≤an) then ((idx ([]++x.1) y1.1.1).bind fun _=>(idx ([]++x.1) (Int.toNat y1.1.1:Nat)).bind fun y5=>some ((([]++x.1).set (Int.toNat y1.1.1) x.2.1,true,()),())) else none)) else (N_l0 0)
noncomputable def f (K:Nat)(x:aa ps):Option Res:=pre K (l0 K x) x
noncomputable def c (K:Nat):Ctr:=⟨248,ps,rs,false,f K⟩
end Q83
namespace Q84
@[reducible] def ps:List PK:=[.rd (.list false 173 t3),.rd t2]
@[reducible] def rs:List RK:=[.v (.list false 173 t3)]
abbrev Res:=ai rs×ah ps
abbrev A_l0:=List (Ty.den t3)×Bool×Int
noncomputable def l0.step (K:Nat)(x:aa ps)(rec_l0:A_l0→Option Res)(a:A_l0):Option Res:=bif decide (a.2.2<(List.length x.1:Int)) then ((idx x.1 a.2.2).bind fun y1=>bif y1.1.1==x.2.1.1 then ((Q73.f K (x.2.1,y1.1,())).bind fun y2=>bif !y2.1.1 then (some ((x.1,()),())) else (bif !a.2.1 then (bif decide (y1.1.1≥x.2.1.1) then (bif decide ((List.length a.1+List.length ([(x.2.1,4)]))*40≤an) then (bif y1.1.1 != x.2.1.1 then ((idx x.1 a.2.2).bind fun y3=>bif decide ((List.length (a.1++([(x.2.1,4)]))+List.length ([y3]))*40≤an) then (rec_l0 ((a.1++([(x.2.1,4)]))++([y3]),true,wr .i64 (a.2.2+1))) else none) else (rec_l0 (a.1++([(x.2.1,4)]),true,wr .i64 (a.2.2+1)))) else none) else (bif y1.1.1 != x.2.1.1 then ((idx x.1 a.2.2).bind fun y4=>bif decide ((List.length a.1+List.length ([y4]))*40≤an) then (rec_l0 (a.1++([y4]),a.2.1,wr .i64 (a.2.2+1))) else none) else (rec_l0 (a.1,a.2.1,wr .i64 (a.2.2+1))))) else (bif y1.1.1 != x.2.1.1 then ((idx x.1 a.2.2).bind fun y5=>bif decide ((List.length a.1+List.length ([y5]))*40≤an) then (rec_l0 (a.1++([y5]),a.2.1,wr .i64 (a.2.2+1))) else none) else (rec_l0 (a.1,a.2.1,wr .i64 (a.2.2+1)))))) else (bif !a.2.1 then (bif decide (y1.1.1≥x.2.1.1) then (bif decide ((List.length a.1+List.length ([(x.2.1,4)]))*40≤an) then (bif y1.1.1 != x.2.1.1 then ((idx x.1 a.2.2).bind fun y6=>bif decide ((List.length (a.1++([(x.2.1,4)]))+List.length ([y6]))*40≤an) then (rec_l0 ((a.1++([(x.2.1,4)]))++([y6]),true,wr .i64 (a.2.2+1))) else none) else (rec_l0 (a.1++([(x.2.1,4)]),true,wr .i64 (a.2.2+1)))) else none) else (bif y1.1.1 != x.2.1.1 then ((idx x.1 a.2.2).bind fun y7=>bif decide ((List.length a.1+List.length ([y7]))*40≤an) then (rec_l0 (a.1++([y7]),a.2.1,wr .i64 (a.2.2+1))) else none) else (rec_l0 (a.1,a.2.1,wr .i64 (a.2.2+1))))) else (bif y1.1.1 != x.2.1.1 then ((idx x.1 a.2.2).bind fun y8=>bif decide ((List.length a.1+List.length ([y8]))*40≤an) then (rec_l0 (a.1++([y8]),a.2.1,wr .i64 (a.2.2+1))) else none) else (rec_l0 (a.1,a.2.1,wr .i64 (a.2.2+1)))))) else (bif !a.2.1 then (bif decide ((List.length a.1+List.length ([(x.2.1,4)]))*40≤an) then (some ((a.1++([(x.2.1,4)]),()),())) else none) else (some ((a.1,()),())))
noncomputable def l0 (K:Nat)(x:aa ps):A_l0→Option Res:=ac (fun rec_l0 a=>l0.step K x rec_l0 a) K
noncomputable def pre (K:Nat)(N_l0:A_l0→Option Res)(x:aa ps):Option Res:=N_l0 ([],false,0)
noncomputable def f (K:Nat)(x:aa ps):Option Res:=pre K (l0 K x) x
noncomputable def c (K:Nat):Ctr:=⟨249,ps,rs,false,f K⟩
end Q84
namespace Q85
@[reducible] def ps:List PK:=[.rd t78,.rd t2,.rd (.int .i64)]
@[reducible] def rs:List RK:=[.v (.list true 177 t15)]
abbrev Res:=ai rs×ah ps
abbrev A_l0:=List (Ty.den t15)×Bool×Int
noncomputable def l0.step (K:Nat)(x:aa ps)(rec_l0:A_l0→Option Res)(a:A_l0):Option Res:=bif decide (a.2.2<(List.length x.1.2.2.2.2.2.2.2.2.2.2.2.1:Int)) then ((idx x.1.2.2.2.2.2.2.2.2.2.2.2.1 a.2.2).bind fun y1=>bif !a.2.1 then (bif decide (y1.1≥x.2.1.1) then (bif decide ((List.length a.1+List.length ([(x.2.1.1,(x.2.1.2.1,(x.1.2.2.2.2.2.1,[x.2.2.1])))]))*48≤an) then (bif y1.1 != x.2.1.1 then (bif decide ((List.length (a.1++([(x.2.1.1,(x.2.1.2.1,(x.1.2.2.2.2.2.1,[x.2.2.1])))]))+List.length ([y1]))*48≤an) then (rec_l0 ((a.1++([(x.2.1.1,(x.2.1.2.1,(x.1.2.2.2.2.2.1,[x.2.2.1])))]))++([y1]),true,wr .i64 (a.2.2+1))) else none) else (rec_l0 (a.1++([(x.2.1.1,(x.2.1.2.1,(x.1.2.2.2.2.2.1,[x.2.2.1])))]),true,wr .i64 (a.2.2+1)))) else none) else (bif y1.1 != x.2.1.1 then (bif decide ((List.length a.1+List.length ([y1]))*48≤an) then (rec_l0 (a.1++([y1]),a.2.1,wr .i64 (a.2.2+1))) else none) else (rec_l0 (a.1,a.2.1,wr .i64 (a.2.2+1))))) else (bif y1.1 != x.2.1.1 then (bif decide ((List.length a.1+List.length ([y1]))*48≤an) then (rec_l0 (a.1++([y1]),a.2.1,wr .i64 (a.2.2+1))) else none) else (rec_l0 (a.1,a.2.1,wr .i64 (a.2.2+1))))) else (bif !a.2.1 then (bif decide ((List.length a.1+List.length ([(x.2.1.1,(x.2.1.2.1,(x.1.2.2.2.2.2.1,[x.2.2.1])))]))*48≤an) then (some ((a.1++([(x.2.1.1,(x.2.1.2.1,(x.1.2.2.2.2.2.1,[x.2.2.1])))]),()),())) else none) else (some ((a.1,()),())))
noncomputable def l0 (K:Nat)(x:aa ps):A_l0→Option Res:=ac (fun rec_l0 a=>l0.step K x rec_l0 a) K
noncomputable def pre (K:Nat)(N_l0:A_l0→Option Res)(x:aa ps):Option Res:=N_l0 ([],x.2.1.2.2.1 != 2,0)
noncomputable def f (K:Nat)(x:aa ps):Option Res:=pre K (l0 K x) x
noncomputable def c (K:Nat):Ctr:=⟨250,ps,rs,false,f K⟩
end Q85
namespace Q86
@[reducible] def ps:List PK:=[.rd t78,.rd t2,.rd (.int .i64)]
@[reducible] def rs:List RK:=[.v t78]
abbrev Res:=ai rs×ah ps
noncomputable def f (K:Nat)(x:aa ps):Option Res:=(Q83.f K (x.1.2.2.2.2.2.2.2.2.1,x.2.1,())).bind fun y1=>bif !y1.1.2.1 then (some ((x.1,()),())) else ((Q71.f K (x.1.2.2.2.2.2.2.2.2.1,x.2.1.1,())).bind fun y2=>bif decide (y2.1.1≥0) then ((idx x.1.2.2.2.2.2.2.2.2.1 y2.1.1).bind fun y3=>bif y3.2.1==x.2.1.2.1 then ((idx x.1.2.2.2.2.2.2.2.2.1 y2.1.1).bind fun y4=>(Q84.f K (x.1.2.2.2.2.2.2.2.2.2.1,x.2.1,())).bind fun y5=>bif !(y4.2.2.1==x.2.1.2.2.1) then ((Q85.f K ((x.1.1,(x.1.2.1,(x.1.2.2.1,(x.1.2.2.2.1,(x.1.2.2.2.2.1,(x.1.2.2.2.2.2.1,(x.1.2.2.2.2.2.2.1,(x.1.2.2.2.2.2.2.2.1,(y1.1.1,(y5.1.1,x.1.2.2.2.2.2.2.2.2.2.2)))))))))),x.2.1,x.2.2.1,())).bind fun y6=>some (((x.1.1,(x.1.2.1,(x.1.2.2.1,(x.1.2.2.2.1,(x.1.2.2.2.2.1,(x.1.2.2.2.2.2.1,(x.1.2.2.2.2.2.2.1,(x.1.2.2.2.2.2.2.2.1,(y1.1.1,(y5.1.1,(x.1.2.2.2.2.2.2.2.2.2.2.1,(y6.1.1,x.1.2.2.2.2.2.2.2.2.2.2.2.2)))))))))))),()),())) else (some (((x.1.1,(x.1.2.1,(x.1.2.2.1,(x.1.2.2.2.1,(x.1.2.2.2.2.1,(x.1.2.2.2.2.2.1,(x.1.2.2.2.2.2.2.1,(x.1.2.2.2.2.2.2.2.1,(y1.1.1,(y5.1.1,x.1.2.2.2.2.2.2.2.2.2.2)))))))))),()),()))) else ((Q84.f K (x.1.2.2.2.2.2.2.2.2.2.1,x.2.1,())).bind fun y7=>(Q85.f K ((x.1.1,(x.1.2.1,(x.1.2.2.1,(x.1.2.2.2.1,(x.1.2.2.2.2.1,(x.1.2.2.2.2.2.1,(x.1.2.2.2.2.2.2.1,(x.1.2.2.2.2.2.2.2.1,(y1.1.1,(y7.1.1,x.1.2.2.2.2.2.2.2.2.2.2)))))))))),x.2.1,x.2.2.1,())).bind fun y8=>some (((x.1.1,(x.1.2.1,(x.1.2.2.1,(x.1.2.2.2.1,(x.1.2.2.2.2.1,(x.1.2.2.2.2.2.1,(x.1.2.2.2.2.2.2.1,(x.1.2.2.2.2.2.2.2.1,(y1.1.1,(y7.1.1,(x.1.2.2.2.2.2.2.2.2.2.2.1,(y8.1.1,x.1.2.2.2.2.2.2.2.2.2.2.2.2)))))))))))),()),()))) else ((Q84.f K (x.1.2.2.2.2.2.2.2.2.2.1,x.2.1,())).bind fun y9=>(Q85.f K ((x.1.1,(x.1.2.1,(x.1.2.2.1,(x.1.2.2.2.1,(x.1.2.2.2.2.1,(x.1.2.2.2.2.2.1,(x.1.2.2.2.2.2.2.1,(x.1.2.2.2.2.2.2.2.1,(y1.1.1,(y9.1.1,x.1.2.2.2.2.2.2.2.2.2.2)))))))))),x.2.1,x.2.2.1,())).bind fun y10=>some (((x.1.1,(x.1.2.1,(x.1.2.2.1,(x.1.2.2.2.1,(x.1.2.2.2.2.1,(x.1.2.2.2.2.2.1,(x.1.2.2.2.2.2.2.1,(x.1.2.2.2.2.2.2.2.1,(y1.1.1,(y9.1.1,(x.1.2.2.2.2.2.2.2.2.2.2.1,(y10.1.1,x.1.2.2.2.2.2.2.2.2.2.2.2.2)))))))))))),()),())))
noncomputable def c (K:Nat):Ctr:=⟨210,ps,rs,false,f K⟩
end Q86
namespace Q87
@[reducible] def ps:List PK:=[.rd (.int .i64),.rd t15]
@[reducible] def rs:List RK:=[.v .bool]
abbrev Res:=ai rs×ah ps
noncomputable def f (K:Nat)(x:aa ps):Option Res:=bif decide ((wr .i64 ((wr .i64 (6-(List.length x.2.1.2.2.2:Int)))+1))<3) then (some ((decide ((wr .i64 (x.1-x.2.1.2.2.1))≥3),()),())) else (some ((decide ((wr .i64 (x.1-x.2.1.2.2.1))≥(wr .i64 ((wr .i64 (6-(List.length x.2.1.2.2.2:Int)))+1))),()),()))
noncomputable def c (K:Nat):Ctr:=⟨258,ps,rs,true,f K⟩
end Q87
end
end Go.Proofs.YthgnfidnmnkeaaaGreatEv
