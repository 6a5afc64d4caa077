/- The functions, on plain values. Printed by run3.py. -/
import Derived.Test.YthgnfidnmnkeaaaGreatProg
import Derived.Test.YthgnfidnmnkeaaaGreatE0
set_option linter.unusedVariables false
set_option maxRecDepth 100000
namespace Go.Proofs.YthgnfidnmnkeaaaGreatEv
open Go Go.Proofs
noncomputable section
@[reducible] def t0 : Ty := .pair (.int .i64) .bool
@[reducible] def t1 : Ty := .pair (.int .i64) t0
@[reducible] def t2 : Ty := .pair (.int .i64) t1
@[reducible] def t3 : Ty := .pair t2 (.int .i64)
@[reducible] def t4 : Ty := .pair (.int .i64) (.list true 3 (.int .i64))
@[reducible] def t5 : Ty := .pair (.int .i64) t4
@[reducible] def t6 : Ty := .pair (.int .i64) t5
@[reducible] def t7 : Ty := .pair (.int .i64) (.int .i64)
@[reducible] def t8 : Ty := .pair (.int .i64) t7
@[reducible] def t9 : Ty := .pair (.int .i64) t8
@[reducible] def t10 : Ty := .pair t9 (.list true 3 (.int .i64))
@[reducible] def t11 : Ty := .pair (.int .i64) t10
@[reducible] def t12 : Ty := .pair (.int .i64) (.list true 132 t2)
@[reducible] def t13 : Ty := .pair (.int .i64) (.list false 3 (.int .i64))
@[reducible] def t14 : Ty := .pair (.int .i64) t13
@[reducible] def t15 : Ty := .pair (.int .i64) t14
@[reducible] def t16 : Ty := .pair t9 (.list false 3 (.int .i64))
@[reducible] def t17 : Ty := .pair (.int .i64) t16
@[reducible] def t18 : Ty := .pair (.int .i64) (.list false 132 t2)
@[reducible] def t19 : Ty := .pair (.int .i64) (.list false 171 t2)
@[reducible] def t20 : Ty := .pair (.list false 165 t17) (.list false 168 t19)
@[reducible] def t21 : Ty := .pair t9 t20
@[reducible] def t22 : Ty := .pair (.list false 162 t15) t21
@[reducible] def t23 : Ty := .pair t2 t22
@[reducible] def t24 : Ty := .pair (.list false 176 t3) t23
@[reducible] def t25 : Ty := .pair (.list false 171 t2) t24
@[reducible] def t26 : Ty := .pair (.int .i64) t25
@[reducible] def t27 : Ty := .pair (.int .i64) t26
@[reducible] def t28 : Ty := .pair (.int .i64) t27
@[reducible] def t29 : Ty := .pair (.int .i64) t28
@[reducible] def t30 : Ty := .pair .bool t29
@[reducible] def t31 : Ty := .pair .bool t30
@[reducible] def t32 : Ty := .pair .bool t31
@[reducible] def t33 : Ty := .pair (.int .i64) t32
@[reducible] def t34 : Ty := .pair (.list true 94 t11) (.list true 119 t12)
@[reducible] def t35 : Ty := .pair t9 t34
@[reducible] def t36 : Ty := .pair (.list true 177 t6) t35
@[reducible] def t37 : Ty := .pair t2 t36
@[reducible] def t38 : Ty := .pair (.list true 173 t3) t37
@[reducible] def t39 : Ty := .pair (.list true 132 t2) t38
@[reducible] def t40 : Ty := .pair (.int .i64) t39
@[reducible] def t41 : Ty := .pair (.int .i64) t40
@[reducible] def t42 : Ty := .pair (.int .i64) t41
@[reducible] def t43 : Ty := .pair (.int .i64) t42
@[reducible] def t44 : Ty := .pair .bool t43
@[reducible] def t45 : Ty := .pair .bool t44
@[reducible] def t46 : Ty := .pair .bool t45
@[reducible] def t47 : Ty := .pair (.int .i64) t46
@[reducible] def t48 : Ty := .pair (.list false 94 t17) (.list false 119 t18)
@[reducible] def t49 : Ty := .pair t9 t48
@[reducible] def t50 : Ty := .pair (.list false 177 t15) t49
@[reducible] def t51 : Ty := .pair t2 t50
@[reducible] def t52 : Ty := .pair (.list false 173 t3) t51
@[reducible] def t53 : Ty := .pair (.list false 132 t2) t52
@[reducible] def t54 : Ty := .pair (.int .i64) t53
@[reducible] def t55 : Ty := .pair (.int .i64) t54
@[reducible] def t56 : Ty := .pair (.int .i64) t55
@[reducible] def t57 : Ty := .pair (.int .i64) t56
@[reducible] def t58 : Ty := .pair .bool t57
@[reducible] def t59 : Ty := .pair .bool t58
@[reducible] def t60 : Ty := .pair .bool t59
@[reducible] def t61 : Ty := .pair (.int .i64) t60
@[reducible] def t62 : Ty := .pair (.list true 94 t17) (.list true 119 t18)
@[reducible] def t63 : Ty := .pair t9 t62
@[reducible] def t64 : Ty := .pair (.list true 177 t15) t63
@[reducible] def t65 : Ty := .pair t2 t64
@[reducible] def t66 : Ty := .pair (.list true 173 t3) t65
@[reducible] def t67 : Ty := .pair (.list true 132 t2) t66
@[reducible] def t68 : Ty := .pair (.int .i64) t67
@[reducible] def t69 : Ty := .pair (.int .i64) t68
@[reducible] def t70 : Ty := .pair (.int .i64) t69
@[reducible] def t71 : Ty := .pair (.int .i64) t70
@[reducible] def t72 : Ty := .pair .bool t71
@[reducible] def t73 : Ty := .pair .bool t72
@[reducible] def t74 : Ty := .pair .bool t73
@[reducible] def t75 : Ty := .pair (.int .i64) t74
@[reducible] def t76 : Ty := .pair t9 (.list false 132 t2)
@[reducible] def t77 : Ty := .pair (.int .i64) t76
@[reducible] def t78 : Ty := .pair (.int .i64) t77
@[reducible] def t79 : Ty := .pair (.int .i64) t78
@[reducible] def t80 : Ty := .pair (.int .i64) t79
@[reducible] def t81 : Ty := .pair (.int .i64) t80
@[reducible] def t82 : Ty := .pair (.int .i64) t81
@[reducible] def t83 : Ty := .pair t9 (.list true 132 t2)
@[reducible] def t84 : Ty := .pair (.int .i64) t83
@[reducible] def t85 : Ty := .pair (.int .i64) t84
@[reducible] def t86 : Ty := .pair (.int .i64) t85
@[reducible] def t87 : Ty := .pair (.int .i64) t86
@[reducible] def t88 : Ty := .pair (.int .i64) t87
@[reducible] def t89 : Ty := .pair (.int .i64) t88
@[reducible] def t90 : Ty := .pair (.int .i64) (.list true 171 t2)
@[reducible] def t91 : Ty := .pair (.list true 165 t11) (.list true 168 t90)
@[reducible] def t92 : Ty := .pair t9 t91
@[reducible] def t93 : Ty := .pair (.list true 162 t6) t92
@[reducible] def t94 : Ty := .pair t2 t93
@[reducible] def t95 : Ty := .pair (.list true 176 t3) t94
@[reducible] def t96 : Ty := .pair (.list true 171 t2) t95
@[reducible] def t97 : Ty := .pair (.int .i64) t96
@[reducible] def t98 : Ty := .pair (.int .i64) t97
@[reducible] def t99 : Ty := .pair (.int .i64) t98
@[reducible] def t100 : Ty := .pair (.int .i64) t99
@[reducible] def t101 : Ty := .pair .bool t100
@[reducible] def t102 : Ty := .pair .bool t101
@[reducible] def t103 : Ty := .pair .bool t102
@[reducible] def t104 : Ty := .pair (.int .i64) t103
@[reducible] def ty_laws_Probe_D : Ty := t2
@[reducible] def ty_laws_Coord_D : Ty := t9
@[reducible] def ty_laws_Node_D : Ty := t104
@[reducible] def ty_impl_Probe_D : Ty := t2
@[reducible] def ty_impl_Coord_D : Ty := t9
@[reducible] def ty_impl_Node_D : Ty := t47
@[reducible] def ty_impl_Word_D : Ty := t89
@[reducible] def ty_impl_Place_D : Ty := t11
@[reducible] def ty_impl_Foreign_D : Ty := t12
@[reducible] def ty_impl_Fact_D : Ty := t2
@[reducible] def ty_laws_Doubt_D : Ty := t6
@[reducible] def ty_laws_Place_D : Ty := t11
@[reducible] def ty_laws_Foreign_D : Ty := t90
@[reducible] def ty_laws_Fact_D : Ty := t2
@[reducible] def ty_impl_Item_D : Ty := t3
@[reducible] def ty_laws_Item_D : Ty := t3
@[reducible] def ty_impl_Doubt_D : Ty := t6
@[reducible] def ty_laws_Probe_S : Ty := t2
@[reducible] def ty_laws_Coord_S : Ty := t9
@[reducible] def ty_laws_Node_S : Ty := t33
@[reducible] def ty_impl_Probe_S : Ty := t2
@[reducible] def ty_impl_Coord_S : Ty := t9
@[reducible] def ty_impl_Node_S : Ty := t61
@[reducible] def ty_impl_Word_S : Ty := t82
@[reducible] def ty_impl_Place_S : Ty := t17
@[reducible] def ty_impl_Foreign_S : Ty := t18
@[reducible] def ty_impl_Fact_S : Ty := t2
@[reducible] def ty_laws_Doubt_S : Ty := t15
@[reducible] def ty_laws_Place_S : Ty := t17
@[reducible] def ty_laws_Foreign_S : Ty := t19
@[reducible] def ty_laws_Fact_S : Ty := t2
@[reducible] def ty_impl_Item_S : Ty := t3
@[reducible] def ty_laws_Item_S : Ty := t3
@[reducible] def ty_impl_Doubt_S : Ty := t15
@[reducible] def ty_laws_Probe_NS : Ty := t2
@[reducible] def ty_laws_Coord_NS : Ty := t9
@[reducible] def ty_impl_Probe_NS : Ty := t2
@[reducible] def ty_impl_Coord_NS : Ty := t9
@[reducible] def ty_impl_Word_NS : Ty := t82
@[reducible] def ty_impl_Place_NS : Ty := t17
@[reducible] def ty_impl_Foreign_NS : Ty := t18
@[reducible] def ty_impl_Fact_NS : Ty := t2
@[reducible] def ty_laws_Doubt_NS : Ty := t15
@[reducible] def ty_laws_Place_NS : Ty := t17
@[reducible] def ty_laws_Foreign_NS : Ty := t19
@[reducible] def ty_laws_Fact_NS : Ty := t2
@[reducible] def ty_impl_Item_NS : Ty := t3
@[reducible] def ty_laws_Item_NS : Ty := t3
@[reducible] def ty_impl_Doubt_NS : Ty := t15
@[reducible] def ty_laws_Probe_ND : Ty := t2
@[reducible] def ty_laws_Coord_ND : Ty := t9
@[reducible] def ty_impl_Probe_ND : Ty := t2
@[reducible] def ty_impl_Coord_ND : Ty := t9
@[reducible] def ty_impl_Node_ND : Ty := t75
@[reducible] def ty_impl_Word_ND : Ty := t82
@[reducible] def ty_impl_Place_ND : Ty := t17
@[reducible] def ty_impl_Foreign_ND : Ty := t18
@[reducible] def ty_impl_Fact_ND : Ty := t2
@[reducible] def ty_laws_Doubt_ND : Ty := t15
@[reducible] def ty_laws_Place_ND : Ty := t17
@[reducible] def ty_laws_Foreign_ND : Ty := t19
@[reducible] def ty_laws_Fact_ND : Ty := t2
@[reducible] def ty_impl_Item_ND : Ty := t3
@[reducible] def ty_laws_Item_ND : Ty := t3
@[reducible] def ty_impl_Doubt_ND : Ty := t15
@[reducible] def ty_laws_Probe_WT : Ty := t2
@[reducible] def ty_laws_Coord_WT : Ty := t9
@[reducible] def ty_laws_Node_WT : Ty := t33
@[reducible] def ty_impl_Probe_WT : Ty := t2
@[reducible] def ty_impl_Coord_WT : Ty := t9
@[reducible] def ty_impl_Node_WT : Ty := t61
@[reducible] def ty_impl_Word_WT : Ty := t82
@[reducible] def ty_impl_Place_WT : Ty := t17
@[reducible] def ty_impl_Foreign_WT : Ty := t18
@[reducible] def ty_impl_Fact_WT : Ty := t2
@[reducible] def ty_laws_Doubt_WT : Ty := t15
@[reducible] def ty_laws_Place_WT : Ty := t17
@[reducible] def ty_laws_Foreign_WT : Ty := t19
@[reducible] def ty_laws_Fact_WT : Ty := t2
@[reducible] def ty_impl_Item_WT : Ty := t3
@[reducible] def ty_laws_Item_WT : Ty := t3
@[reducible] def ty_impl_Doubt_WT : Ty := t15
@[reducible] def ty_laws_Probe_WF : Ty := t2
@[reducible] def ty_laws_Coord_WF : Ty := t9
@[reducible] def ty_laws_Node_WF : Ty := t33
@[reducible] def ty_impl_Probe_WF : Ty := t2
@[reducible] def ty_impl_Coord_WF : Ty := t9
@[reducible] def ty_impl_Node_WF : Ty := t61
@[reducible] def ty_impl_Word_WF : Ty := t89
@[reducible] def ty_impl_Place_WF : Ty := t17
@[reducible] def ty_impl_Foreign_WF : Ty := t18
@[reducible] def ty_impl_Fact_WF : Ty := t2
@[reducible] def ty_laws_Doubt_WF : Ty := t15
@[reducible] def ty_laws_Place_WF : Ty := t17
@[reducible] def ty_laws_Foreign_WF : Ty := t19
@[reducible] def ty_laws_Fact_WF : Ty := t2
@[reducible] def ty_impl_Item_WF : Ty := t3
@[reducible] def ty_laws_Item_WF : Ty := t3
@[reducible] def ty_impl_Doubt_WF : Ty := t15
@[reducible] def ty_laws_Probe_NT : Ty := t2
@[reducible] def ty_laws_Coord_NT : Ty := t9
@[reducible] def ty_laws_Node_NT : Ty := t33
@[reducible] def ty_impl_Probe_NT : Ty := t2
@[reducible] def ty_impl_Coord_NT : Ty := t9
@[reducible] def ty_impl_Node_NT : Ty := t61
@[reducible] def ty_impl_Word_NT : Ty := t82
@[reducible] def ty_impl_Place_NT : Ty := t17
@[reducible] def ty_impl_Foreign_NT : Ty := t18
@[reducible] def ty_impl_Fact_NT : Ty := t2
@[reducible] def ty_laws_Doubt_NT : Ty := t15
@[reducible] def ty_laws_Place_NT : Ty := t17
@[reducible] def ty_laws_Foreign_NT : Ty := t19
@[reducible] def ty_laws_Fact_NT : Ty := t2
@[reducible] def ty_impl_Item_NT : Ty := t3
@[reducible] def ty_laws_Item_NT : Ty := t3
@[reducible] def ty_impl_Doubt_NT : Ty := t15
@[reducible] def ty_laws_Probe_NL : Ty := t2
@[reducible] def ty_laws_Coord_NL : Ty := t9
@[reducible] def ty_impl_Probe_NL : Ty := t2
@[reducible] def ty_impl_Coord_NL : Ty := t9
@[reducible] def ty_impl_Word_NL : Ty := t89
@[reducible] def ty_impl_Place_NL : Ty := t11
@[reducible] def ty_impl_Foreign_NL : Ty := t18
@[reducible] def ty_impl_Fact_NL : Ty := t2
@[reducible] def ty_laws_Doubt_NL : Ty := t6
@[reducible] def ty_laws_Place_NL : Ty := t11
@[reducible] def ty_laws_Foreign_NL : Ty := t19
@[reducible] def ty_laws_Fact_NL : Ty := t2
@[reducible] def ty_impl_Item_NL : Ty := t3
@[reducible] def ty_laws_Item_NL : Ty := t3
@[reducible] def ty_impl_Doubt_NL : Ty := t6
def Tl_D : List (TypeId × TI) := [(3, .int .i64), (4, .bool), (22, .slice 171 t2 32), (23, .slice 176 t3 40), (25, .struct t2 [(0, 1, false), (1, 1, false), (2, 1, false), (3, 1, false)]), (26, .slice 162 t6 48), (28, .struct t9 [(0, 1, false), (1, 1, false), (2, 1, false), (3, 1, false)]), (29, .slice 165 t11 64), (30, .slice 168 t90 32), (32, .struct t104 [(0, 1, false), (1, 1, false), (2, 1, false), (3, 1, false), (4, 1, false), (5, 1, false), (6, 1, false), (7, 1, false), (8, 1, false), (9, 1, false), (10, 4, true), (14, 1, false), (15, 4, true), (19, 1, false), (20, 1, false)]), (36, .slice 132 t2 32), (37, .slice 173 t3 40), (38, .struct t2 [(0, 1, false), (1, 1, false), (2, 1, false), (3, 1, false)]), (39, .slice 177 t6 48), (40, .struct t9 [(0, 1, false), (1, 1, false), (2, 1, false), (3, 1, false)]), (41, .slice 94 t11 64), (42, .slice 119 t12 32), (44, .struct t47 [(0, 1, false), (1, 1, false), (2, 1, false), (3, 1, false), (4, 1, false), (5, 1, false), (6, 1, false), (7, 1, false), (8, 1, false), (9, 1, false), (10, 4, true), (14, 1, false), (15, 4, true), (19, 1, false), (20, 1, false)]), (53, .struct t89 [(0, 1, false), (1, 1, false), (2, 1, false), (3, 1, false), (4, 1, false), (5, 1, false), (6, 4, true), (10, 1, false)]), (57, .slice 3 (.int .i64) 8), (75, .slice 53 t89 104), (94, .struct t11 [(0, 1, false), (1, 4, true), (5, 1, false)]), (113, .fn), (119, .struct t12 [(0, 1, false), (1, 1, false)]), (130, .fn), (132, .struct t2 [(0, 1, false), (1, 1, false), (2, 1, false), (3, 1, false)]), (150, .ptr), (152, .fn), (162, .struct t6 [(0, 1, false), (1, 1, false), (2, 1, false), (3, 1, false)]), (165, .struct t11 [(0, 1, false), (1, 4, true), (5, 1, false)]), (168, .struct t90 [(0, 1, false), (1, 1, false)]), (171, .struct t2 [(0, 1, false), (1, 1, false), (2, 1, false), (3, 1, false)]), (173, .struct t3 [(0, 4, true), (4, 1, false)]), (176, .struct t3 [(0, 4, true), (4, 1, false)]), (177, .struct t6 [(0, 1, false), (1, 1, false), (2, 1, false), (3, 1, false)]), (213, .fn), (221, .int .u64), (258, .fn)]
def T_D (t : TypeId) : TI := tlook Tl_D t
def Tl_ND : List (TypeId × TI) := [(3, .int .i64), (36, .slice 132 t2 32), (37, .slice 173 t3 40), (39, .slice 177 t15 48), (41, .slice 94 t17 64), (42, .slice 119 t18 32), (44, .struct t75 [(0, 1, false), (1, 1, false), (2, 1, false), (3, 1, false), (4, 1, false), (5, 1, false), (6, 1, false), (7, 1, false), (8, 1, false), (9, 1, false), (10, 4, true), (14, 1, false), (15, 4, true), (19, 1, false), (20, 1, false)]), (57, .slice 3 (.int .i64) 8), (94, .struct t17 [(0, 1, false), (1, 4, true), (5, 1, false)]), (119, .struct t18 [(0, 1, false), (1, 1, false)]), (177, .struct t15 [(0, 1, false), (1, 1, false), (2, 1, false), (3, 1, false)])]
def T_ND (t : TypeId) : TI := tlook Tl_ND t
def Tl_S : List (TypeId × TI) := [(3, .int .i64), (4, .bool), (36, .slice 132 t2 32), (37, .slice 173 t3 40), (38, .struct t2 [(0, 1, false), (1, 1, false), (2, 1, false), (3, 1, false)]), (39, .slice 177 t15 48), (40, .struct t9 [(0, 1, false), (1, 1, false), (2, 1, false), (3, 1, false)]), (41, .slice 94 t17 64), (42, .slice 119 t18 32), (44, .struct t61 [(0, 1, false), (1, 1, false), (2, 1, false), (3, 1, false), (4, 1, false), (5, 1, false), (6, 1, false), (7, 1, false), (8, 1, false), (9, 1, false), (10, 4, true), (14, 1, false), (15, 4, true), (19, 1, false), (20, 1, false)]), (53, .struct t82 [(0, 1, false), (1, 1, false), (2, 1, false), (3, 1, false), (4, 1, false), (5, 1, false), (6, 4, true), (10, 1, false)]), (57, .slice 3 (.int .i64) 8), (75, .slice 53 t82 104), (94, .struct t17 [(0, 1, false), (1, 4, true), (5, 1, false)]), (119, .struct t18 [(0, 1, false), (1, 1, false)]), (132, .struct t2 [(0, 1, false), (1, 1, false), (2, 1, false), (3, 1, false)]), (173, .struct t3 [(0, 4, true), (4, 1, false)]), (177, .struct t15 [(0, 1, false), (1, 1, false), (2, 1, false), (3, 1, false)])]
def T_S (t : TypeId) : TI := tlook Tl_S t
namespace m_slices_Clone_impl_Fact_impl_Fact
@[reducible] def ps : List PK := [.rd (.list false 132 t2)]
@[reducible] def rs : List RK := [.v (.list true 132 t2)]
abbrev Res := Ress rs × Outs ps
noncomputable def f (K : Nat) (x : Args ps) : Option Res := cloneM t2 32 x.1
noncomputable def c (K : Nat) : Ctr := ⟨201, ps, rs, true, f K⟩
end m_slices_Clone_impl_Fact_impl_Fact
namespace m_slices_Clone_int_int
@[reducible] def ps : List PK := [.rd (.list false 3 (.int .i64))]
@[reducible] def rs : List RK := [.v (.list true 3 (.int .i64))]
abbrev Res := Ress rs × Outs ps
noncomputable def f (K : Nat) (x : Args ps) : Option Res := cloneM (.int .i64) 8 x.1
noncomputable def c (K : Nat) : Ctr := ⟨195, ps, rs, true, f K⟩
end m_slices_Clone_int_int
namespace m_slices_Clone_impl_Item_impl_Item
@[reducible] def ps : List PK := [.rd (.list false 173 t3)]
@[reducible] def rs : List RK := [.v (.list true 173 t3)]
abbrev Res := Ress rs × Outs ps
noncomputable def f (K : Nat) (x : Args ps) : Option Res := cloneM t3 40 x.1
noncomputable def c (K : Nat) : Ctr := ⟨244, ps, rs, true, f K⟩
end m_slices_Clone_impl_Item_impl_Item
namespace laws_szFactS
@[reducible] def ps : List PK := [.rd (.list false 171 t2), .rd (.int .i64)]
@[reducible] def rs : List RK := [.v (.int .i64)]
abbrev Res := Ress rs × Outs ps
noncomputable def pre (K : Nat) (x : Args ps) : Option Res := bif decide ((wr .i64 (x.2.1 - (List.length x.1 : Int))) < 0) then (some (((-1), ()), ())) else (some ((wr .i64 (x.2.1 - (List.length x.1 : Int)), ()), ()))
noncomputable def f (K : Nat) (x : Args ps) : Option Res := pre K x
noncomputable def c (K : Nat) : Ctr := ⟨60, ps, rs, true, f K⟩
noncomputable def G (K : Nat) : List Ctr := []
noncomputable def L : List (Nat × List (Nat × List Coe)) := []
noncomputable def body : Code := bodyOf Tryz.f60
noncomputable abbrev ev (K : Nat) : Code → St → (Ex → St → Option Res) → Option Res := evK (G K) T_D L K
noncomputable abbrev fin : Ex → St → Option Res := finK T_D ps rs true Tryz.f60.results.toList
end laws_szFactS
namespace laws_szItemS
@[reducible] def ps : List PK := [.rd (.list false 176 t3), .rd (.int .i64)]
@[reducible] def rs : List RK := [.v (.int .i64)]
abbrev Res := Ress rs × Outs ps
noncomputable def pre (K : Nat) (x : Args ps) : Option Res := bif decide ((wr .i64 (x.2.1 - (List.length x.1 : Int))) < 0) then (some (((-1), ()), ())) else (some ((wr .i64 (x.2.1 - (List.length x.1 : Int)), ()), ()))
noncomputable def f (K : Nat) (x : Args ps) : Option Res := pre K x
noncomputable def c (K : Nat) : Ctr := ⟨61, ps, rs, true, f K⟩
noncomputable def G (K : Nat) : List Ctr := []
noncomputable def L : List (Nat × List (Nat × List Coe)) := []
noncomputable def body : Code := bodyOf Tryz.f61
noncomputable abbrev ev (K : Nat) : Code → St → (Ex → St → Option Res) → Option Res := evK (G K) T_D L K
noncomputable abbrev fin : Ex → St → Option Res := finK T_D ps rs true Tryz.f61.results.toList
end laws_szItemS
namespace laws_szIntS
@[reducible] def ps : List PK := [.rd (.list false 3 (.int .i64)), .rd (.int .i64)]
@[reducible] def rs : List RK := [.v (.int .i64)]
abbrev Res := Ress rs × Outs ps
noncomputable def pre (K : Nat) (x : Args ps) : Option Res := bif decide ((wr .i64 (x.2.1 - (List.length x.1 : Int))) < 0) then (some (((-1), ()), ())) else (some ((wr .i64 (x.2.1 - (List.length x.1 : Int)), ()), ()))
noncomputable def f (K : Nat) (x : Args ps) : Option Res := pre K x
noncomputable def c (K : Nat) : Ctr := ⟨102, ps, rs, true, f K⟩
noncomputable def G (K : Nat) : List Ctr := []
noncomputable def L : List (Nat × List (Nat × List Coe)) := []
noncomputable def body : Code := bodyOf Tryz.f102
noncomputable abbrev ev (K : Nat) : Code → St → (Ex → St → Option Res) → Option Res := evK (G K) T_D L K
noncomputable abbrev fin : Ex → St → Option Res := finK T_D ps rs true Tryz.f102.results.toList
end laws_szIntS
namespace laws_szDoubt
@[reducible] def ps : List PK := [.rd t15, .rd (.int .i64)]
@[reducible] def rs : List RK := [.v (.int .i64)]
abbrev Res := Ress rs × Outs ps
noncomputable def pre (K : Nat) (x : Args ps) : Option Res := (laws_szIntS.f K (x.1.2.2.2, x.2.1, ())).bind fun y1 => bif decide (y1.1.1 < 0) then (some (((-1), ()), ())) else (some ((y1.1.1, ()), ()))
noncomputable def f (K : Nat) (x : Args ps) : Option Res := pre K x
noncomputable def c (K : Nat) : Ctr := ⟨152, ps, rs, true, f K⟩
noncomputable def G (K : Nat) : List Ctr := [laws_szIntS.c K]
noncomputable def L : List (Nat × List (Nat × List Coe)) := []
noncomputable def body : Code := bodyOf Tryz.f152
noncomputable abbrev ev (K : Nat) : Code → St → (Ex → St → Option Res) → Option Res := evK (G K) T_D L K
noncomputable abbrev fin : Ex → St → Option Res := finK T_D ps rs true Tryz.f152.results.toList
end laws_szDoubt
namespace laws_szDoubtS
@[reducible] def ps : List PK := [.rd (.list false 162 t15), .rd (.int .i64)]
@[reducible] def rs : List RK := [.v (.int .i64)]
abbrev Res := Ress rs × Outs ps
abbrev A_l0 := Int × Int
noncomputable def l0.step (K : Nat) (x : Args ps) (rec_l0 : A_l0 → Option Res) (a : A_l0) : Option Res := bif decide (a.2 < (List.length x.1 : Int)) then ((idx x.1 a.2).bind fun y1 => (laws_szDoubt.f K (y1, a.1, ())).bind fun y2 => bif decide (y2.1.1 < 0) then (some (((-1), ()), ())) else (rec_l0 (y2.1.1, wr .i64 (a.2 + 1)))) else (some ((a.1, ()), ()))
noncomputable def l0 (K : Nat) (x : Args ps) : A_l0 → Option Res := iterate (fun rec_l0 a => l0.step K x rec_l0 a) K
noncomputable def pre (K : Nat) (N_l0 : A_l0 → Option Res) (x : Args ps) : Option Res := bif decide ((wr .i64 (x.2.1 - (List.length x.1 : Int))) < 0) then (some (((-1), ()), ())) else (N_l0 (wr .i64 (x.2.1 - (List.length x.1 : Int)), 0))
noncomputable def f (K : Nat) (x : Args ps) : Option Res := pre K (l0 K x) x
noncomputable def c (K : Nat) : Ctr := ⟨62, ps, rs, true, f K⟩
noncomputable def G (K : Nat) : List Ctr := [laws_szDoubt.c K]
noncomputable def live_l0 : List (Nat × List Coe) := [(0, [.ro true 162 t15]), (1, [.keep]), (5, [.keep])]
noncomputable def L : List (Nat × List (Nat × List Coe)) := [(6, live_l0)]
noncomputable def body : Code := bodyOf Tryz.f62
noncomputable abbrev ev (K : Nat) : Code → St → (Ex → St → Option Res) → Option Res := evK (G K) T_D L K
noncomputable abbrev fin : Ex → St → Option Res := finK T_D ps rs true Tryz.f62.results.toList
noncomputable def S_l0 (x : Args ps) (a : A_l0) : St := mkSt [(0, ⟨0, .one, [.ro true 162 t15 x.1]⟩), (1, ⟨0, .one, [.int .i64 a.1]⟩), (5, ⟨0, .one, [.int .i64 a.2]⟩)]
noncomputable def k_l0 (K : Nat) (x : Args ps) : Ex → St → Option Res := kAt (ev K) body [1, 1, 1, 0, 1, 0] fin
noncomputable def N_l0 (K : Nat) (x : Args ps) : A_l0 → Option Res := fun a => evLoop live_l0 (ev K (sub body [1, 1, 1, 0, 1, 0, 0])) K (S_l0 x a) (k_l0 K x)
end laws_szDoubtS
namespace laws_szPlace
@[reducible] def ps : List PK := [.rd t17, .rd (.int .i64)]
@[reducible] def rs : List RK := [.v (.int .i64)]
abbrev Res := Ress rs × Outs ps
noncomputable def pre (K : Nat) (x : Args ps) : Option Res := (laws_szIntS.f K (x.1.2.2, x.2.1, ())).bind fun y1 => bif decide (y1.1.1 < 0) then (some (((-1), ()), ())) else (some ((y1.1.1, ()), ()))
noncomputable def f (K : Nat) (x : Args ps) : Option Res := pre K x
noncomputable def c (K : Nat) : Ctr := ⟨153, ps, rs, true, f K⟩
noncomputable def G (K : Nat) : List Ctr := [laws_szIntS.c K]
noncomputable def L : List (Nat × List (Nat × List Coe)) := []
noncomputable def body : Code := bodyOf Tryz.f153
noncomputable abbrev ev (K : Nat) : Code → St → (Ex → St → Option Res) → Option Res := evK (G K) T_D L K
noncomputable abbrev fin : Ex → St → Option Res := finK T_D ps rs true Tryz.f153.results.toList
end laws_szPlace
namespace laws_szPlaceS
@[reducible] def ps : List PK := [.rd (.list false 165 t17), .rd (.int .i64)]
@[reducible] def rs : List RK := [.v (.int .i64)]
abbrev Res := Ress rs × Outs ps
abbrev A_l0 := Int × Int
noncomputable def l0.step (K : Nat) (x : Args ps) (rec_l0 : A_l0 → Option Res) (a : A_l0) : Option Res := bif decide (a.2 < (List.length x.1 : Int)) then ((idx x.1 a.2).bind fun y1 => (laws_szPlace.f K (y1, a.1, ())).bind fun y2 => bif decide (y2.1.1 < 0) then (some (((-1), ()), ())) else (rec_l0 (y2.1.1, wr .i64 (a.2 + 1)))) else (some ((a.1, ()), ()))
noncomputable def l0 (K : Nat) (x : Args ps) : A_l0 → Option Res := iterate (fun rec_l0 a => l0.step K x rec_l0 a) K
noncomputable def pre (K : Nat) (N_l0 : A_l0 → Option Res) (x : Args ps) : Option Res := bif decide ((wr .i64 (x.2.1 - (List.length x.1 : Int))) < 0) then (some (((-1), ()), ())) else (N_l0 (wr .i64 (x.2.1 - (List.length x.1 : Int)), 0))
noncomputable def f (K : Nat) (x : Args ps) : Option Res := pre K (l0 K x) x
noncomputable def c (K : Nat) : Ctr := ⟨63, ps, rs, true, f K⟩
noncomputable def G (K : Nat) : List Ctr := [laws_szPlace.c K]
noncomputable def live_l0 : List (Nat × List Coe) := [(0, [.ro true 165 t17]), (1, [.keep]), (5, [.keep])]
noncomputable def L : List (Nat × List (Nat × List Coe)) := [(6, live_l0)]
noncomputable def body : Code := bodyOf Tryz.f63
noncomputable abbrev ev (K : Nat) : Code → St → (Ex → St → Option Res) → Option Res := evK (G K) T_D L K
noncomputable abbrev fin : Ex → St → Option Res := finK T_D ps rs true Tryz.f63.results.toList
noncomputable def S_l0 (x : Args ps) (a : A_l0) : St := mkSt [(0, ⟨0, .one, [.ro true 165 t17 x.1]⟩), (1, ⟨0, .one, [.int .i64 a.1]⟩), (5, ⟨0, .one, [.int .i64 a.2]⟩)]
noncomputable def k_l0 (K : Nat) (x : Args ps) : Ex → St → Option Res := kAt (ev K) body [1, 1, 1, 0, 1, 0] fin
noncomputable def N_l0 (K : Nat) (x : Args ps) : A_l0 → Option Res := fun a => evLoop live_l0 (ev K (sub body [1, 1, 1, 0, 1, 0, 0])) K (S_l0 x a) (k_l0 K x)
end laws_szPlaceS
namespace laws_szForeign
@[reducible] def ps : List PK := [.rd t19, .rd (.int .i64)]
@[reducible] def rs : List RK := [.v (.int .i64)]
abbrev Res := Ress rs × Outs ps
noncomputable def pre (K : Nat) (x : Args ps) : Option Res := (laws_szFactS.f K (x.1.2, x.2.1, ())).bind fun y1 => bif decide (y1.1.1 < 0) then (some (((-1), ()), ())) else (some ((y1.1.1, ()), ()))
noncomputable def f (K : Nat) (x : Args ps) : Option Res := pre K x
noncomputable def c (K : Nat) : Ctr := ⟨154, ps, rs, true, f K⟩
noncomputable def G (K : Nat) : List Ctr := [laws_szFactS.c K]
noncomputable def L : List (Nat × List (Nat × List Coe)) := []
noncomputable def body : Code := bodyOf Tryz.f154
noncomputable abbrev ev (K : Nat) : Code → St → (Ex → St → Option Res) → Option Res := evK (G K) T_D L K
noncomputable abbrev fin : Ex → St → Option Res := finK T_D ps rs true Tryz.f154.results.toList
end laws_szForeign
namespace laws_szForeignS
@[reducible] def ps : List PK := [.rd (.list false 168 t19), .rd (.int .i64)]
@[reducible] def rs : List RK := [.v (.int .i64)]
abbrev Res := Ress rs × Outs ps
abbrev A_l0 := Int × Int
noncomputable def l0.step (K : Nat) (x : Args ps) (rec_l0 : A_l0 → Option Res) (a : A_l0) : Option Res := bif decide (a.2 < (List.length x.1 : Int)) then ((idx x.1 a.2).bind fun y1 => (laws_szForeign.f K (y1, a.1, ())).bind fun y2 => bif decide (y2.1.1 < 0) then (some (((-1), ()), ())) else (rec_l0 (y2.1.1, wr .i64 (a.2 + 1)))) else (some ((a.1, ()), ()))
noncomputable def l0 (K : Nat) (x : Args ps) : A_l0 → Option Res := iterate (fun rec_l0 a => l0.step K x rec_l0 a) K
noncomputable def pre (K : Nat) (N_l0 : A_l0 → Option Res) (x : Args ps) : Option Res := bif decide ((wr .i64 (x.2.1 - (List.length x.1 : Int))) < 0) then (some (((-1), ()), ())) else (N_l0 (wr .i64 (x.2.1 - (List.length x.1 : Int)), 0))
noncomputable def f (K : Nat) (x : Args ps) : Option Res := pre K (l0 K x) x
noncomputable def c (K : Nat) : Ctr := ⟨64, ps, rs, true, f K⟩
noncomputable def G (K : Nat) : List Ctr := [laws_szForeign.c K]
noncomputable def live_l0 : List (Nat × List Coe) := [(0, [.ro true 168 t19]), (1, [.keep]), (5, [.keep])]
noncomputable def L : List (Nat × List (Nat × List Coe)) := [(6, live_l0)]
noncomputable def body : Code := bodyOf Tryz.f64
noncomputable abbrev ev (K : Nat) : Code → St → (Ex → St → Option Res) → Option Res := evK (G K) T_D L K
noncomputable abbrev fin : Ex → St → Option Res := finK T_D ps rs true Tryz.f64.results.toList
noncomputable def S_l0 (x : Args ps) (a : A_l0) : St := mkSt [(0, ⟨0, .one, [.ro true 168 t19 x.1]⟩), (1, ⟨0, .one, [.int .i64 a.1]⟩), (5, ⟨0, .one, [.int .i64 a.2]⟩)]
noncomputable def k_l0 (K : Nat) (x : Args ps) : Ex → St → Option Res := kAt (ev K) body [1, 1, 1, 0, 1, 0] fin
noncomputable def N_l0 (K : Nat) (x : Args ps) : A_l0 → Option Res := fun a => evLoop live_l0 (ev K (sub body [1, 1, 1, 0, 1, 0, 0])) K (S_l0 x a) (k_l0 K x)
end laws_szForeignS
namespace laws_szNode
@[reducible] def ps : List PK := [.rd t33, .rd (.int .i64)]
@[reducible] def rs : List RK := [.v (.int .i64)]
abbrev Res := Ress rs × Outs ps
noncomputable def pre (K : Nat) (x : Args ps) : Option Res := (laws_szFactS.f K (x.1.2.2.2.2.2.2.2.2.1, x.2.1, ())).bind fun y1 => bif decide (y1.1.1 < 0) then (some (((-1), ()), ())) else ((laws_szItemS.f K (x.1.2.2.2.2.2.2.2.2.2.1, y1.1.1, ())).bind fun y2 => bif decide (y2.1.1 < 0) then (some (((-1), ()), ())) else ((laws_szDoubtS.f K (x.1.2.2.2.2.2.2.2.2.2.2.2.1, y2.1.1, ())).bind fun y3 => bif decide (y3.1.1 < 0) then (some (((-1), ()), ())) else ((laws_szPlaceS.f K (x.1.2.2.2.2.2.2.2.2.2.2.2.2.2.1, y3.1.1, ())).bind fun y4 => bif decide (y4.1.1 < 0) then (some (((-1), ()), ())) else ((laws_szForeignS.f K (x.1.2.2.2.2.2.2.2.2.2.2.2.2.2.2, y4.1.1, ())).bind fun y5 => bif decide (y5.1.1 < 0) then (some (((-1), ()), ())) else (some ((y5.1.1, ()), ()))))))
noncomputable def f (K : Nat) (x : Args ps) : Option Res := pre K x
noncomputable def c (K : Nat) : Ctr := ⟨15, ps, rs, true, f K⟩
noncomputable def G (K : Nat) : List Ctr := [laws_szFactS.c K, laws_szItemS.c K, laws_szDoubtS.c K, laws_szPlaceS.c K, laws_szForeignS.c K]
noncomputable def L : List (Nat × List (Nat × List Coe)) := []
noncomputable def body : Code := bodyOf Tryz.f15
noncomputable abbrev ev (K : Nat) : Code → St → (Ex → St → Option Res) → Option Res := evK (G K) T_D L K
noncomputable abbrev fin : Ex → St → Option Res := finK T_D ps rs true Tryz.f15.results.toList
end laws_szNode
namespace laws_toFact
@[reducible] def ps : List PK := [.rd t2]
@[reducible] def rs : List RK := [.v t2]
abbrev Res := Ress rs × Outs ps
noncomputable def pre (K : Nat) (x : Args ps) : Option Res := some ((x.1, ()), ())
noncomputable def f (K : Nat) (x : Args ps) : Option Res := pre K x
noncomputable def c (K : Nat) : Ctr := ⟨165, ps, rs, true, f K⟩
noncomputable def G (K : Nat) : List Ctr := []
noncomputable def L : List (Nat × List (Nat × List Coe)) := []
noncomputable def body : Code := bodyOf Tryz.f165
noncomputable abbrev ev (K : Nat) : Code → St → (Ex → St → Option Res) → Option Res := evK (G K) T_D L K
noncomputable abbrev fin : Ex → St → Option Res := finK T_D ps rs true Tryz.f165.results.toList
end laws_toFact
namespace laws_toFactS
@[reducible] def ps : List PK := [.rd (.list false 171 t2)]
@[reducible] def rs : List RK := [.v (.list true 132 t2)]
abbrev Res := Ress rs × Outs ps
abbrev A_l0 := List (Ty.den t2) × Int
noncomputable def l0.step (K : Nat) (x : Args ps) (rec_l0 : A_l0 → Option Res) (a : A_l0) : Option Res := bif decide (a.2 < (List.length x.1 : Int)) then ((idx x.1 a.2).bind fun y1 => (laws_toFact.f K (y1, ())).bind fun y2 => (idx a.1 a.2).bind fun _ => (idx a.1 (Int.toNat a.2 : Nat)).bind fun y4 => rec_l0 (a.1.set (Int.toNat a.2) y2.1.1, wr .i64 (a.2 + 1))) else (some ((a.1, ()), ()))
noncomputable def l0 (K : Nat) (x : Args ps) : A_l0 → Option Res := iterate (fun rec_l0 a => l0.step K x rec_l0 a) K
noncomputable def pre (K : Nat) (N_l0 : A_l0 → Option Res) (x : Args ps) : Option Res := bif decide (0 ≤ (List.length x.1 : Int)) && decide ((List.length x.1 : Int) = (List.length x.1 : Int)) && decide ((List.length x.1 : Int) * (32 : Nat) ≤ sizeK) then (N_l0 (List.replicate (Int.toNat (List.length x.1 : Int)) ((0, (0, (0, false))) : Ty.den t2), 0)) else none
noncomputable def f (K : Nat) (x : Args ps) : Option Res := pre K (l0 K x) x
noncomputable def c (K : Nat) : Ctr := ⟨67, ps, rs, true, f K⟩
noncomputable def G (K : Nat) : List Ctr := [laws_toFact.c K]
noncomputable def live_l0 : List (Nat × List Coe) := [(0, [.ro true 171 t2]), (3, [.own false 132 t2]), (4, [.keep])]
noncomputable def L : List (Nat × List (Nat × List Coe)) := [(4, live_l0)]
noncomputable def body : Code := bodyOf Tryz.f67
noncomputable abbrev ev (K : Nat) : Code → St → (Ex → St → Option Res) → Option Res := evK (G K) T_D L K
noncomputable abbrev fin : Ex → St → Option Res := finK T_D ps rs true Tryz.f67.results.toList
noncomputable def S_l0 (x : Args ps) (a : A_l0) : St := mkSt [(0, ⟨0, .one, [.ro true 171 t2 x.1]⟩), (3, ⟨0, .one, [.own false none 132 t2 a.1]⟩), (4, ⟨0, .one, [.int .i64 a.2]⟩)]
noncomputable def k_l0 (K : Nat) (x : Args ps) : Ex → St → Option Res := kAt (ev K) body [1, 1, 0, 1, 0] fin
noncomputable def N_l0 (K : Nat) (x : Args ps) : A_l0 → Option Res := fun a => evLoop live_l0 (ev K (sub body [1, 1, 0, 1, 0, 0])) K (S_l0 x a) (k_l0 K x)
end laws_toFactS
namespace laws_toItem
@[reducible] def ps : List PK := [.rd t3]
@[reducible] def rs : List RK := [.v t3]
abbrev Res := Ress rs × Outs ps
noncomputable def pre (K : Nat) (x : Args ps) : Option Res := (laws_toFact.f K (x.1.1, ())).bind fun y1 => some (((y1.1.1, x.1.2), ()), ())
noncomputable def f (K : Nat) (x : Args ps) : Option Res := pre K x
noncomputable def c (K : Nat) : Ctr := ⟨166, ps, rs, true, f K⟩
noncomputable def G (K : Nat) : List Ctr := [laws_toFact.c K]
noncomputable def L : List (Nat × List (Nat × List Coe)) := []
noncomputable def body : Code := bodyOf Tryz.f166
noncomputable abbrev ev (K : Nat) : Code → St → (Ex → St → Option Res) → Option Res := evK (G K) T_D L K
noncomputable abbrev fin : Ex → St → Option Res := finK T_D ps rs true Tryz.f166.results.toList
end laws_toItem
namespace laws_toItemS
@[reducible] def ps : List PK := [.rd (.list false 176 t3)]
@[reducible] def rs : List RK := [.v (.list true 173 t3)]
abbrev Res := Ress rs × Outs ps
abbrev A_l0 := List (Ty.den t3) × Int
noncomputable def l0.step (K : Nat) (x : Args ps) (rec_l0 : A_l0 → Option Res) (a : A_l0) : Option Res := bif decide (a.2 < (List.length x.1 : Int)) then ((idx x.1 a.2).bind fun y1 => (laws_toItem.f K (y1, ())).bind fun y2 => (idx a.1 a.2).bind fun _ => (idx a.1 (Int.toNat a.2 : Nat)).bind fun y4 => rec_l0 (a.1.set (Int.toNat a.2) y2.1.1, wr .i64 (a.2 + 1))) else (some ((a.1, ()), ()))
noncomputable def l0 (K : Nat) (x : Args ps) : A_l0 → Option Res := iterate (fun rec_l0 a => l0.step K x rec_l0 a) K
noncomputable def pre (K : Nat) (N_l0 : A_l0 → Option Res) (x : Args ps) : Option Res := bif decide (0 ≤ (List.length x.1 : Int)) && decide ((List.length x.1 : Int) = (List.length x.1 : Int)) && decide ((List.length x.1 : Int) * (40 : Nat) ≤ sizeK) then (N_l0 (List.replicate (Int.toNat (List.length x.1 : Int)) (((0, (0, (0, false))), 0) : Ty.den t3), 0)) else none
noncomputable def f (K : Nat) (x : Args ps) : Option Res := pre K (l0 K x) x
noncomputable def c (K : Nat) : Ctr := ⟨68, ps, rs, true, f K⟩
noncomputable def G (K : Nat) : List Ctr := [laws_toItem.c K]
noncomputable def live_l0 : List (Nat × List Coe) := [(0, [.ro true 176 t3]), (3, [.own false 173 t3]), (4, [.keep])]
noncomputable def L : List (Nat × List (Nat × List Coe)) := [(4, live_l0)]
noncomputable def body : Code := bodyOf Tryz.f68
noncomputable abbrev ev (K : Nat) : Code → St → (Ex → St → Option Res) → Option Res := evK (G K) T_D L K
noncomputable abbrev fin : Ex → St → Option Res := finK T_D ps rs true Tryz.f68.results.toList
noncomputable def S_l0 (x : Args ps) (a : A_l0) : St := mkSt [(0, ⟨0, .one, [.ro true 176 t3 x.1]⟩), (3, ⟨0, .one, [.own false none 173 t3 a.1]⟩), (4, ⟨0, .one, [.int .i64 a.2]⟩)]
noncomputable def k_l0 (K : Nat) (x : Args ps) : Ex → St → Option Res := kAt (ev K) body [1, 1, 0, 1, 0] fin
noncomputable def N_l0 (K : Nat) (x : Args ps) : A_l0 → Option Res := fun a => evLoop live_l0 (ev K (sub body [1, 1, 0, 1, 0, 0])) K (S_l0 x a) (k_l0 K x)
end laws_toItemS
namespace laws_toProbe
@[reducible] def ps : List PK := [.rd t2]
@[reducible] def rs : List RK := [.v t2]
abbrev Res := Ress rs × Outs ps
noncomputable def pre (K : Nat) (x : Args ps) : Option Res := some ((x.1, ()), ())
noncomputable def f (K : Nat) (x : Args ps) : Option Res := pre K x
noncomputable def c (K : Nat) : Ctr := ⟨69, ps, rs, true, f K⟩
noncomputable def G (K : Nat) : List Ctr := []
noncomputable def L : List (Nat × List (Nat × List Coe)) := []
noncomputable def body : Code := bodyOf Tryz.f69
noncomputable abbrev ev (K : Nat) : Code → St → (Ex → St → Option Res) → Option Res := evK (G K) T_D L K
noncomputable abbrev fin : Ex → St → Option Res := finK T_D ps rs true Tryz.f69.results.toList
end laws_toProbe
namespace laws_toIntS
@[reducible] def ps : List PK := [.rd (.list false 3 (.int .i64))]
@[reducible] def rs : List RK := [.v (.list true 3 (.int .i64))]
abbrev Res := Ress rs × Outs ps
abbrev A_l0 := List (Ty.den (.int .i64)) × Int
noncomputable def l0.step (K : Nat) (x : Args ps) (rec_l0 : A_l0 → Option Res) (a : A_l0) : Option Res := bif decide (a.2 < (List.length x.1 : Int)) then ((idx x.1 a.2).bind fun y1 => (idx a.1 a.2).bind fun _ => (idx a.1 (Int.toNat a.2 : Nat)).bind fun y3 => rec_l0 (a.1.set (Int.toNat a.2) y1, wr .i64 (a.2 + 1))) else (some ((a.1, ()), ()))
noncomputable def l0 (K : Nat) (x : Args ps) : A_l0 → Option Res := iterate (fun rec_l0 a => l0.step K x rec_l0 a) K
noncomputable def pre (K : Nat) (N_l0 : A_l0 → Option Res) (x : Args ps) : Option Res := bif decide (0 ≤ (List.length x.1 : Int)) && decide ((List.length x.1 : Int) = (List.length x.1 : Int)) && decide ((List.length x.1 : Int) * (8 : Nat) ≤ sizeK) then (N_l0 (List.replicate (Int.toNat (List.length x.1 : Int)) (0 : Ty.den (.int .i64)), 0)) else none
noncomputable def f (K : Nat) (x : Args ps) : Option Res := pre K (l0 K x) x
noncomputable def c (K : Nat) : Ctr := ⟨109, ps, rs, true, f K⟩
noncomputable def G (K : Nat) : List Ctr := []
noncomputable def live_l0 : List (Nat × List Coe) := [(0, [.ro true 3 (.int .i64)]), (3, [.own false 3 (.int .i64)]), (4, [.keep])]
noncomputable def L : List (Nat × List (Nat × List Coe)) := [(4, live_l0)]
noncomputable def body : Code := bodyOf Tryz.f109
noncomputable abbrev ev (K : Nat) : Code → St → (Ex → St → Option Res) → Option Res := evK (G K) T_D L K
noncomputable abbrev fin : Ex → St → Option Res := finK T_D ps rs true Tryz.f109.results.toList
noncomputable def S_l0 (x : Args ps) (a : A_l0) : St := mkSt [(0, ⟨0, .one, [.ro true 3 (.int .i64) x.1]⟩), (3, ⟨0, .one, [.own false none 3 (.int .i64) a.1]⟩), (4, ⟨0, .one, [.int .i64 a.2]⟩)]
noncomputable def k_l0 (K : Nat) (x : Args ps) : Ex → St → Option Res := kAt (ev K) body [1, 1, 0, 1, 0] fin
noncomputable def N_l0 (K : Nat) (x : Args ps) : A_l0 → Option Res := fun a => evLoop live_l0 (ev K (sub body [1, 1, 0, 1, 0, 0])) K (S_l0 x a) (k_l0 K x)
end laws_toIntS
namespace laws_toDoubt
@[reducible] def ps : List PK := [.rd t15]
@[reducible] def rs : List RK := [.v t6]
abbrev Res := Ress rs × Outs ps
noncomputable def pre (K : Nat) (x : Args ps) : Option Res := (laws_toIntS.f K (x.1.2.2.2, ())).bind fun y1 => some (((x.1.1, (x.1.2.1, (x.1.2.2.1, y1.1.1))), ()), ())
noncomputable def f (K : Nat) (x : Args ps) : Option Res := pre K x
noncomputable def c (K : Nat) : Ctr := ⟨167, ps, rs, true, f K⟩
noncomputable def G (K : Nat) : List Ctr := [laws_toIntS.c K]
noncomputable def L : List (Nat × List (Nat × List Coe)) := []
noncomputable def body : Code := bodyOf Tryz.f167
noncomputable abbrev ev (K : Nat) : Code → St → (Ex → St → Option Res) → Option Res := evK (G K) T_D L K
noncomputable abbrev fin : Ex → St → Option Res := finK T_D ps rs true Tryz.f167.results.toList
end laws_toDoubt
namespace laws_toDoubtS
@[reducible] def ps : List PK := [.rd (.list false 162 t15)]
@[reducible] def rs : List RK := [.v (.list true 177 t6)]
abbrev Res := Ress rs × Outs ps
abbrev A_l0 := List (Ty.den t6) × Int
noncomputable def l0.step (K : Nat) (x : Args ps) (rec_l0 : A_l0 → Option Res) (a : A_l0) : Option Res := bif decide (a.2 < (List.length x.1 : Int)) then ((idx x.1 a.2).bind fun y1 => (laws_toDoubt.f K (y1, ())).bind fun y2 => (idx a.1 a.2).bind fun _ => (idx a.1 (Int.toNat a.2 : Nat)).bind fun y4 => rec_l0 (a.1.set (Int.toNat a.2) y2.1.1, wr .i64 (a.2 + 1))) else (some ((a.1, ()), ()))
noncomputable def l0 (K : Nat) (x : Args ps) : A_l0 → Option Res := iterate (fun rec_l0 a => l0.step K x rec_l0 a) K
noncomputable def pre (K : Nat) (N_l0 : A_l0 → Option Res) (x : Args ps) : Option Res := bif decide (0 ≤ (List.length x.1 : Int)) && decide ((List.length x.1 : Int) = (List.length x.1 : Int)) && decide ((List.length x.1 : Int) * (48 : Nat) ≤ sizeK) then (N_l0 (List.replicate (Int.toNat (List.length x.1 : Int)) ((0, (0, (0, []))) : Ty.den t6), 0)) else none
noncomputable def f (K : Nat) (x : Args ps) : Option Res := pre K (l0 K x) x
noncomputable def c (K : Nat) : Ctr := ⟨70, ps, rs, true, f K⟩
noncomputable def G (K : Nat) : List Ctr := [laws_toDoubt.c K]
noncomputable def live_l0 : List (Nat × List Coe) := [(0, [.ro true 162 t15]), (3, [.own false 177 t6]), (4, [.keep])]
noncomputable def L : List (Nat × List (Nat × List Coe)) := [(4, live_l0)]
noncomputable def body : Code := bodyOf Tryz.f70
noncomputable abbrev ev (K : Nat) : Code → St → (Ex → St → Option Res) → Option Res := evK (G K) T_D L K
noncomputable abbrev fin : Ex → St → Option Res := finK T_D ps rs true Tryz.f70.results.toList
noncomputable def S_l0 (x : Args ps) (a : A_l0) : St := mkSt [(0, ⟨0, .one, [.ro true 162 t15 x.1]⟩), (3, ⟨0, .one, [.own false none 177 t6 a.1]⟩), (4, ⟨0, .one, [.int .i64 a.2]⟩)]
noncomputable def k_l0 (K : Nat) (x : Args ps) : Ex → St → Option Res := kAt (ev K) body [1, 1, 0, 1, 0] fin
noncomputable def N_l0 (K : Nat) (x : Args ps) : A_l0 → Option Res := fun a => evLoop live_l0 (ev K (sub body [1, 1, 0, 1, 0, 0])) K (S_l0 x a) (k_l0 K x)
end laws_toDoubtS
namespace laws_toCoord
@[reducible] def ps : List PK := [.rd t9]
@[reducible] def rs : List RK := [.v t9]
abbrev Res := Ress rs × Outs ps
noncomputable def pre (K : Nat) (x : Args ps) : Option Res := some ((x.1, ()), ())
noncomputable def f (K : Nat) (x : Args ps) : Option Res := pre K x
noncomputable def c (K : Nat) : Ctr := ⟨71, ps, rs, true, f K⟩
noncomputable def G (K : Nat) : List Ctr := []
noncomputable def L : List (Nat × List (Nat × List Coe)) := []
noncomputable def body : Code := bodyOf Tryz.f71
noncomputable abbrev ev (K : Nat) : Code → St → (Ex → St → Option Res) → Option Res := evK (G K) T_D L K
noncomputable abbrev fin : Ex → St → Option Res := finK T_D ps rs true Tryz.f71.results.toList
end laws_toCoord
namespace laws_toPlace
@[reducible] def ps : List PK := [.rd t17]
@[reducible] def rs : List RK := [.v t11]
abbrev Res := Ress rs × Outs ps
noncomputable def pre (K : Nat) (x : Args ps) : Option Res := (laws_toCoord.f K (x.1.2.1, ())).bind fun y1 => (laws_toIntS.f K (x.1.2.2, ())).bind fun y2 => some (((x.1.1, (y1.1.1, y2.1.1)), ()), ())
noncomputable def f (K : Nat) (x : Args ps) : Option Res := pre K x
noncomputable def c (K : Nat) : Ctr := ⟨168, ps, rs, true, f K⟩
noncomputable def G (K : Nat) : List Ctr := [laws_toCoord.c K, laws_toIntS.c K]
noncomputable def L : List (Nat × List (Nat × List Coe)) := []
noncomputable def body : Code := bodyOf Tryz.f168
noncomputable abbrev ev (K : Nat) : Code → St → (Ex → St → Option Res) → Option Res := evK (G K) T_D L K
noncomputable abbrev fin : Ex → St → Option Res := finK T_D ps rs true Tryz.f168.results.toList
end laws_toPlace
namespace laws_toPlaceS
@[reducible] def ps : List PK := [.rd (.list false 165 t17)]
@[reducible] def rs : List RK := [.v (.list true 94 t11)]
abbrev Res := Ress rs × Outs ps
abbrev A_l0 := List (Ty.den t11) × Int
noncomputable def l0.step (K : Nat) (x : Args ps) (rec_l0 : A_l0 → Option Res) (a : A_l0) : Option Res := bif decide (a.2 < (List.length x.1 : Int)) then ((idx x.1 a.2).bind fun y1 => (laws_toPlace.f K (y1, ())).bind fun y2 => (idx a.1 a.2).bind fun _ => (idx a.1 (Int.toNat a.2 : Nat)).bind fun y4 => rec_l0 (a.1.set (Int.toNat a.2) y2.1.1, wr .i64 (a.2 + 1))) else (some ((a.1, ()), ()))
noncomputable def l0 (K : Nat) (x : Args ps) : A_l0 → Option Res := iterate (fun rec_l0 a => l0.step K x rec_l0 a) K
noncomputable def pre (K : Nat) (N_l0 : A_l0 → Option Res) (x : Args ps) : Option Res := bif decide (0 ≤ (List.length x.1 : Int)) && decide ((List.length x.1 : Int) = (List.length x.1 : Int)) && decide ((List.length x.1 : Int) * (64 : Nat) ≤ sizeK) then (N_l0 (List.replicate (Int.toNat (List.length x.1 : Int)) ((0, ((0, (0, (0, 0))), [])) : Ty.den t11), 0)) else none
noncomputable def f (K : Nat) (x : Args ps) : Option Res := pre K (l0 K x) x
noncomputable def c (K : Nat) : Ctr := ⟨72, ps, rs, true, f K⟩
noncomputable def G (K : Nat) : List Ctr := [laws_toPlace.c K]
noncomputable def live_l0 : List (Nat × List Coe) := [(0, [.ro true 165 t17]), (3, [.own false 94 t11]), (4, [.keep])]
noncomputable def L : List (Nat × List (Nat × List Coe)) := [(4, live_l0)]
noncomputable def body : Code := bodyOf Tryz.f72
noncomputable abbrev ev (K : Nat) : Code → St → (Ex → St → Option Res) → Option Res := evK (G K) T_D L K
noncomputable abbrev fin : Ex → St → Option Res := finK T_D ps rs true Tryz.f72.results.toList
noncomputable def S_l0 (x : Args ps) (a : A_l0) : St := mkSt [(0, ⟨0, .one, [.ro true 165 t17 x.1]⟩), (3, ⟨0, .one, [.own false none 94 t11 a.1]⟩), (4, ⟨0, .one, [.int .i64 a.2]⟩)]
noncomputable def k_l0 (K : Nat) (x : Args ps) : Ex → St → Option Res := kAt (ev K) body [1, 1, 0, 1, 0] fin
noncomputable def N_l0 (K : Nat) (x : Args ps) : A_l0 → Option Res := fun a => evLoop live_l0 (ev K (sub body [1, 1, 0, 1, 0, 0])) K (S_l0 x a) (k_l0 K x)
end laws_toPlaceS
namespace laws_toForeign
@[reducible] def ps : List PK := [.rd t19]
@[reducible] def rs : List RK := [.v t12]
abbrev Res := Ress rs × Outs ps
noncomputable def pre (K : Nat) (x : Args ps) : Option Res := (laws_toFactS.f K (x.1.2, ())).bind fun y1 => some (((x.1.1, y1.1.1), ()), ())
noncomputable def f (K : Nat) (x : Args ps) : Option Res := pre K x
noncomputable def c (K : Nat) : Ctr := ⟨169, ps, rs, true, f K⟩
noncomputable def G (K : Nat) : List Ctr := [laws_toFactS.c K]
noncomputable def L : List (Nat × List (Nat × List Coe)) := []
noncomputable def body : Code := bodyOf Tryz.f169
noncomputable abbrev ev (K : Nat) : Code → St → (Ex → St → Option Res) → Option Res := evK (G K) T_D L K
noncomputable abbrev fin : Ex → St → Option Res := finK T_D ps rs true Tryz.f169.results.toList
end laws_toForeign
namespace laws_toForeignS
@[reducible] def ps : List PK := [.rd (.list false 168 t19)]
@[reducible] def rs : List RK := [.v (.list true 119 t12)]
abbrev Res := Ress rs × Outs ps
abbrev A_l0 := List (Ty.den t12) × Int
noncomputable def l0.step (K : Nat) (x : Args ps) (rec_l0 : A_l0 → Option Res) (a : A_l0) : Option Res := bif decide (a.2 < (List.length x.1 : Int)) then ((idx x.1 a.2).bind fun y1 => (laws_toForeign.f K (y1, ())).bind fun y2 => (idx a.1 a.2).bind fun _ => (idx a.1 (Int.toNat a.2 : Nat)).bind fun y4 => rec_l0 (a.1.set (Int.toNat a.2) y2.1.1, wr .i64 (a.2 + 1))) else (some ((a.1, ()), ()))
noncomputable def l0 (K : Nat) (x : Args ps) : A_l0 → Option Res := iterate (fun rec_l0 a => l0.step K x rec_l0 a) K
noncomputable def pre (K : Nat) (N_l0 : A_l0 → Option Res) (x : Args ps) : Option Res := bif decide (0 ≤ (List.length x.1 : Int)) && decide ((List.length x.1 : Int) = (List.length x.1 : Int)) && decide ((List.length x.1 : Int) * (32 : Nat) ≤ sizeK) then (N_l0 (List.replicate (Int.toNat (List.length x.1 : Int)) ((0, []) : Ty.den t12), 0)) else none
noncomputable def f (K : Nat) (x : Args ps) : Option Res := pre K (l0 K x) x
noncomputable def c (K : Nat) : Ctr := ⟨73, ps, rs, true, f K⟩
noncomputable def G (K : Nat) : List Ctr := [laws_toForeign.c K]
noncomputable def live_l0 : List (Nat × List Coe) := [(0, [.ro true 168 t19]), (3, [.own false 119 t12]), (4, [.keep])]
noncomputable def L : List (Nat × List (Nat × List Coe)) := [(4, live_l0)]
noncomputable def body : Code := bodyOf Tryz.f73
noncomputable abbrev ev (K : Nat) : Code → St → (Ex → St → Option Res) → Option Res := evK (G K) T_D L K
noncomputable abbrev fin : Ex → St → Option Res := finK T_D ps rs true Tryz.f73.results.toList
noncomputable def S_l0 (x : Args ps) (a : A_l0) : St := mkSt [(0, ⟨0, .one, [.ro true 168 t19 x.1]⟩), (3, ⟨0, .one, [.own false none 119 t12 a.1]⟩), (4, ⟨0, .one, [.int .i64 a.2]⟩)]
noncomputable def k_l0 (K : Nat) (x : Args ps) : Ex → St → Option Res := kAt (ev K) body [1, 1, 0, 1, 0] fin
noncomputable def N_l0 (K : Nat) (x : Args ps) : A_l0 → Option Res := fun a => evLoop live_l0 (ev K (sub body [1, 1, 0, 1, 0, 0])) K (S_l0 x a) (k_l0 K x)
end laws_toForeignS
namespace laws_toNode
@[reducible] def ps : List PK := [.rd t33]
@[reducible] def rs : List RK := [.v t47]
abbrev Res := Ress rs × Outs ps
noncomputable def pre (K : Nat) (x : Args ps) : Option Res := (laws_toFactS.f K (x.1.2.2.2.2.2.2.2.2.1, ())).bind fun y1 => (laws_toItemS.f K (x.1.2.2.2.2.2.2.2.2.2.1, ())).bind fun y2 => (laws_toProbe.f K (x.1.2.2.2.2.2.2.2.2.2.2.1, ())).bind fun y3 => (laws_toDoubtS.f K (x.1.2.2.2.2.2.2.2.2.2.2.2.1, ())).bind fun y4 => (laws_toCoord.f K (x.1.2.2.2.2.2.2.2.2.2.2.2.2.1, ())).bind fun y5 => (laws_toPlaceS.f K (x.1.2.2.2.2.2.2.2.2.2.2.2.2.2.1, ())).bind fun y6 => (laws_toForeignS.f K (x.1.2.2.2.2.2.2.2.2.2.2.2.2.2.2, ())).bind fun y7 => some (((x.1.1, (x.1.2.1, (x.1.2.2.1, (x.1.2.2.2.1, (x.1.2.2.2.2.1, (x.1.2.2.2.2.2.1, (x.1.2.2.2.2.2.2.1, (x.1.2.2.2.2.2.2.2.1, (y1.1.1, (y2.1.1, (y3.1.1, (y4.1.1, (y5.1.1, (y6.1.1, y7.1.1)))))))))))))), ()), ())
noncomputable def f (K : Nat) (x : Args ps) : Option Res := pre K x
noncomputable def c (K : Nat) : Ctr := ⟨17, ps, rs, true, f K⟩
noncomputable def G (K : Nat) : List Ctr := [laws_toFactS.c K, laws_toItemS.c K, laws_toProbe.c K, laws_toDoubtS.c K, laws_toCoord.c K, laws_toPlaceS.c K, laws_toForeignS.c K]
noncomputable def L : List (Nat × List (Nat × List Coe)) := []
noncomputable def body : Code := bodyOf Tryz.f17
noncomputable abbrev ev (K : Nat) : Code → St → (Ex → St → Option Res) → Option Res := evK (G K) T_D L K
noncomputable abbrev fin : Ex → St → Option Res := finK T_D ps rs true Tryz.f17.results.toList
end laws_toNode
namespace laws_eqFact
@[reducible] def ps : List PK := [.rd t2, .rd t2]
@[reducible] def rs : List RK := [.v .bool]
abbrev Res := Ress rs × Outs ps
noncomputable def pre (K : Nat) (x : Args ps) : Option Res := bif x.1.1 != x.2.1.1 then (some ((false, ()), ())) else (bif x.1.2.1 != x.2.1.2.1 then (some ((false, ()), ())) else (bif x.1.2.2.1 != x.2.1.2.2.1 then (some ((false, ()), ())) else (bif x.1.2.2.2 != x.2.1.2.2.2 then (some ((false, ()), ())) else (some ((true, ()), ())))))
noncomputable def f (K : Nat) (x : Args ps) : Option Res := pre K x
noncomputable def c (K : Nat) : Ctr := ⟨136, ps, rs, true, f K⟩
noncomputable def G (K : Nat) : List Ctr := []
noncomputable def L : List (Nat × List (Nat × List Coe)) := []
noncomputable def body : Code := bodyOf Tryz.f136
noncomputable abbrev ev (K : Nat) : Code → St → (Ex → St → Option Res) → Option Res := evK (G K) T_D L K
noncomputable abbrev fin : Ex → St → Option Res := finK T_D ps rs true Tryz.f136.results.toList
end laws_eqFact
namespace laws_eqFactS
@[reducible] def ps : List PK := [.rd (.list false 132 t2), .rd (.list false 132 t2)]
@[reducible] def rs : List RK := [.v .bool]
abbrev Res := Ress rs × Outs ps
abbrev A_l0 := Int
noncomputable def l0.step (K : Nat) (x : Args ps) (rec_l0 : A_l0 → Option Res) (a : A_l0) : Option Res := bif decide (a < (List.length x.1 : Int)) then ((idx x.1 a).bind fun y1 => (idx x.2.1 a).bind fun y2 => (laws_eqFact.f K (y1, y2, ())).bind fun y3 => bif !y3.1.1 then (some ((false, ()), ())) else (rec_l0 (wr .i64 (a + 1)))) else (some ((true, ()), ()))
noncomputable def l0 (K : Nat) (x : Args ps) : A_l0 → Option Res := iterate (fun rec_l0 a => l0.step K x rec_l0 a) K
noncomputable def pre (K : Nat) (N_l0 : A_l0 → Option Res) (x : Args ps) : Option Res := bif (List.length x.1 : Int) != (List.length x.2.1 : Int) then (some ((false, ()), ())) else (N_l0 0)
noncomputable def f (K : Nat) (x : Args ps) : Option Res := pre K (l0 K x) x
noncomputable def c (K : Nat) : Ctr := ⟨46, ps, rs, true, f K⟩
noncomputable def G (K : Nat) : List Ctr := [laws_eqFact.c K]
noncomputable def live_l0 : List (Nat × List Coe) := [(0, [.ro true 132 t2]), (1, [.ro true 132 t2]), (5, [.keep])]
noncomputable def L : List (Nat × List (Nat × List Coe)) := [(5, live_l0)]
noncomputable def body : Code := bodyOf Tryz.f46
noncomputable abbrev ev (K : Nat) : Code → St → (Ex → St → Option Res) → Option Res := evK (G K) T_D L K
noncomputable abbrev fin : Ex → St → Option Res := finK T_D ps rs true Tryz.f46.results.toList
noncomputable def S_l0 (x : Args ps) (a : A_l0) : St := mkSt [(0, ⟨0, .one, [.ro true 132 t2 x.1]⟩), (1, ⟨0, .one, [.ro true 132 t2 x.2.1]⟩), (5, ⟨0, .one, [.int .i64 a]⟩)]
noncomputable def k_l0 (K : Nat) (x : Args ps) : Ex → St → Option Res := kAt (ev K) body [1, 1, 0, 1, 0] fin
noncomputable def N_l0 (K : Nat) (x : Args ps) : A_l0 → Option Res := fun a => evLoop live_l0 (ev K (sub body [1, 1, 0, 1, 0, 0])) K (S_l0 x a) (k_l0 K x)
end laws_eqFactS
namespace laws_eqItem
@[reducible] def ps : List PK := [.rd t3, .rd t3]
@[reducible] def rs : List RK := [.v .bool]
abbrev Res := Ress rs × Outs ps
noncomputable def pre (K : Nat) (x : Args ps) : Option Res := (laws_eqFact.f K (x.1.1, x.2.1.1, ())).bind fun y1 => bif !y1.1.1 then (some ((false, ()), ())) else (bif x.1.2 != x.2.1.2 then (some ((false, ()), ())) else (some ((true, ()), ())))
noncomputable def f (K : Nat) (x : Args ps) : Option Res := pre K x
noncomputable def c (K : Nat) : Ctr := ⟨178, ps, rs, true, f K⟩
noncomputable def G (K : Nat) : List Ctr := [laws_eqFact.c K]
noncomputable def L : List (Nat × List (Nat × List Coe)) := []
noncomputable def body : Code := bodyOf Tryz.f178
noncomputable abbrev ev (K : Nat) : Code → St → (Ex → St → Option Res) → Option Res := evK (G K) T_D L K
noncomputable abbrev fin : Ex → St → Option Res := finK T_D ps rs true Tryz.f178.results.toList
end laws_eqItem
namespace laws_eqItemS
@[reducible] def ps : List PK := [.rd (.list false 173 t3), .rd (.list false 173 t3)]
@[reducible] def rs : List RK := [.v .bool]
abbrev Res := Ress rs × Outs ps
abbrev A_l0 := Int
noncomputable def l0.step (K : Nat) (x : Args ps) (rec_l0 : A_l0 → Option Res) (a : A_l0) : Option Res := bif decide (a < (List.length x.1 : Int)) then ((idx x.1 a).bind fun y1 => (idx x.2.1 a).bind fun y2 => (laws_eqItem.f K (y1, y2, ())).bind fun y3 => bif !y3.1.1 then (some ((false, ()), ())) else (rec_l0 (wr .i64 (a + 1)))) else (some ((true, ()), ()))
noncomputable def l0 (K : Nat) (x : Args ps) : A_l0 → Option Res := iterate (fun rec_l0 a => l0.step K x rec_l0 a) K
noncomputable def pre (K : Nat) (N_l0 : A_l0 → Option Res) (x : Args ps) : Option Res := bif (List.length x.1 : Int) != (List.length x.2.1 : Int) then (some ((false, ()), ())) else (N_l0 0)
noncomputable def f (K : Nat) (x : Args ps) : Option Res := pre K (l0 K x) x
noncomputable def c (K : Nat) : Ctr := ⟨78, ps, rs, true, f K⟩
noncomputable def G (K : Nat) : List Ctr := [laws_eqItem.c K]
noncomputable def live_l0 : List (Nat × List Coe) := [(0, [.ro true 173 t3]), (1, [.ro true 173 t3]), (5, [.keep])]
noncomputable def L : List (Nat × List (Nat × List Coe)) := [(5, live_l0)]
noncomputable def body : Code := bodyOf Tryz.f78
noncomputable abbrev ev (K : Nat) : Code → St → (Ex → St → Option Res) → Option Res := evK (G K) T_D L K
noncomputable abbrev fin : Ex → St → Option Res := finK T_D ps rs true Tryz.f78.results.toList
noncomputable def S_l0 (x : Args ps) (a : A_l0) : St := mkSt [(0, ⟨0, .one, [.ro true 173 t3 x.1]⟩), (1, ⟨0, .one, [.ro true 173 t3 x.2.1]⟩), (5, ⟨0, .one, [.int .i64 a]⟩)]
noncomputable def k_l0 (K : Nat) (x : Args ps) : Ex → St → Option Res := kAt (ev K) body [1, 1, 0, 1, 0] fin
noncomputable def N_l0 (K : Nat) (x : Args ps) : A_l0 → Option Res := fun a => evLoop live_l0 (ev K (sub body [1, 1, 0, 1, 0, 0])) K (S_l0 x a) (k_l0 K x)
end laws_eqItemS
namespace laws_eqProbe
@[reducible] def ps : List PK := [.rd t2, .rd t2]
@[reducible] def rs : List RK := [.v .bool]
abbrev Res := Ress rs × Outs ps
noncomputable def pre (K : Nat) (x : Args ps) : Option Res := bif x.1.1 != x.2.1.1 then (some ((false, ()), ())) else (bif x.1.2.1 != x.2.1.2.1 then (some ((false, ()), ())) else (bif x.1.2.2.1 != x.2.1.2.2.1 then (some ((false, ()), ())) else (bif x.1.2.2.2 != x.2.1.2.2.2 then (some ((false, ()), ())) else (some ((true, ()), ())))))
noncomputable def f (K : Nat) (x : Args ps) : Option Res := pre K x
noncomputable def c (K : Nat) : Ctr := ⟨79, ps, rs, true, f K⟩
noncomputable def G (K : Nat) : List Ctr := []
noncomputable def L : List (Nat × List (Nat × List Coe)) := []
noncomputable def body : Code := bodyOf Tryz.f79
noncomputable abbrev ev (K : Nat) : Code → St → (Ex → St → Option Res) → Option Res := evK (G K) T_D L K
noncomputable abbrev fin : Ex → St → Option Res := finK T_D ps rs true Tryz.f79.results.toList
end laws_eqProbe
namespace laws_eqIntS
@[reducible] def ps : List PK := [.rd (.list false 3 (.int .i64)), .rd (.list false 3 (.int .i64))]
@[reducible] def rs : List RK := [.v .bool]
abbrev Res := Ress rs × Outs ps
abbrev A_l0 := Int
noncomputable def l0.step (K : Nat) (x : Args ps) (rec_l0 : A_l0 → Option Res) (a : A_l0) : Option Res := bif decide (a < (List.length x.1 : Int)) then ((idx x.1 a).bind fun y1 => (idx x.2.1 a).bind fun y2 => bif y1 != y2 then (some ((false, ()), ())) else (rec_l0 (wr .i64 (a + 1)))) else (some ((true, ()), ()))
noncomputable def l0 (K : Nat) (x : Args ps) : A_l0 → Option Res := iterate (fun rec_l0 a => l0.step K x rec_l0 a) K
noncomputable def pre (K : Nat) (N_l0 : A_l0 → Option Res) (x : Args ps) : Option Res := bif (List.length x.1 : Int) != (List.length x.2.1 : Int) then (some ((false, ()), ())) else (N_l0 0)
noncomputable def f (K : Nat) (x : Args ps) : Option Res := pre K (l0 K x) x
noncomputable def c (K : Nat) : Ctr := ⟨27, ps, rs, true, f K⟩
noncomputable def G (K : Nat) : List Ctr := []
noncomputable def live_l0 : List (Nat × List Coe) := [(0, [.ro true 3 (.int .i64)]), (1, [.ro true 3 (.int .i64)]), (5, [.keep])]
noncomputable def L : List (Nat × List (Nat × List Coe)) := [(5, live_l0)]
noncomputable def body : Code := bodyOf Tryz.f27
noncomputable abbrev ev (K : Nat) : Code → St → (Ex → St → Option Res) → Option Res := evK (G K) T_D L K
noncomputable abbrev fin : Ex → St → Option Res := finK T_D ps rs true Tryz.f27.results.toList
noncomputable def S_l0 (x : Args ps) (a : A_l0) : St := mkSt [(0, ⟨0, .one, [.ro true 3 (.int .i64) x.1]⟩), (1, ⟨0, .one, [.ro true 3 (.int .i64) x.2.1]⟩), (5, ⟨0, .one, [.int .i64 a]⟩)]
noncomputable def k_l0 (K : Nat) (x : Args ps) : Ex → St → Option Res := kAt (ev K) body [1, 1, 0, 1, 0] fin
noncomputable def N_l0 (K : Nat) (x : Args ps) : A_l0 → Option Res := fun a => evLoop live_l0 (ev K (sub body [1, 1, 0, 1, 0, 0])) K (S_l0 x a) (k_l0 K x)
end laws_eqIntS
namespace laws_eqDoubt
@[reducible] def ps : List PK := [.rd t15, .rd t15]
@[reducible] def rs : List RK := [.v .bool]
abbrev Res := Ress rs × Outs ps
noncomputable def pre (K : Nat) (x : Args ps) : Option Res := bif x.1.1 != x.2.1.1 then (some ((false, ()), ())) else (bif x.1.2.1 != x.2.1.2.1 then (some ((false, ()), ())) else (bif x.1.2.2.1 != x.2.1.2.2.1 then (some ((false, ()), ())) else ((laws_eqIntS.f K (x.1.2.2.2, x.2.1.2.2.2, ())).bind fun y1 => bif !y1.1.1 then (some ((false, ()), ())) else (some ((true, ()), ())))))
noncomputable def f (K : Nat) (x : Args ps) : Option Res := pre K x
noncomputable def c (K : Nat) : Ctr := ⟨179, ps, rs, true, f K⟩
noncomputable def G (K : Nat) : List Ctr := [laws_eqIntS.c K]
noncomputable def L : List (Nat × List (Nat × List Coe)) := []
noncomputable def body : Code := bodyOf Tryz.f179
noncomputable abbrev ev (K : Nat) : Code → St → (Ex → St → Option Res) → Option Res := evK (G K) T_D L K
noncomputable abbrev fin : Ex → St → Option Res := finK T_D ps rs true Tryz.f179.results.toList
end laws_eqDoubt
namespace laws_eqDoubtS
@[reducible] def ps : List PK := [.rd (.list false 177 t15), .rd (.list false 177 t15)]
@[reducible] def rs : List RK := [.v .bool]
abbrev Res := Ress rs × Outs ps
abbrev A_l0 := Int
noncomputable def l0.step (K : Nat) (x : Args ps) (rec_l0 : A_l0 → Option Res) (a : A_l0) : Option Res := bif decide (a < (List.length x.1 : Int)) then ((idx x.1 a).bind fun y1 => (idx x.2.1 a).bind fun y2 => (laws_eqDoubt.f K (y1, y2, ())).bind fun y3 => bif !y3.1.1 then (some ((false, ()), ())) else (rec_l0 (wr .i64 (a + 1)))) else (some ((true, ()), ()))
noncomputable def l0 (K : Nat) (x : Args ps) : A_l0 → Option Res := iterate (fun rec_l0 a => l0.step K x rec_l0 a) K
noncomputable def pre (K : Nat) (N_l0 : A_l0 → Option Res) (x : Args ps) : Option Res := bif (List.length x.1 : Int) != (List.length x.2.1 : Int) then (some ((false, ()), ())) else (N_l0 0)
noncomputable def f (K : Nat) (x : Args ps) : Option Res := pre K (l0 K x) x
noncomputable def c (K : Nat) : Ctr := ⟨80, ps, rs, true, f K⟩
noncomputable def G (K : Nat) : List Ctr := [laws_eqDoubt.c K]
noncomputable def live_l0 : List (Nat × List Coe) := [(0, [.ro true 177 t15]), (1, [.ro true 177 t15]), (5, [.keep])]
noncomputable def L : List (Nat × List (Nat × List Coe)) := [(5, live_l0)]
noncomputable def body : Code := bodyOf Tryz.f80
noncomputable abbrev ev (K : Nat) : Code → St → (Ex → St → Option Res) → Option Res := evK (G K) T_D L K
noncomputable abbrev fin : Ex → St → Option Res := finK T_D ps rs true Tryz.f80.results.toList
noncomputable def S_l0 (x : Args ps) (a : A_l0) : St := mkSt [(0, ⟨0, .one, [.ro true 177 t15 x.1]⟩), (1, ⟨0, .one, [.ro true 177 t15 x.2.1]⟩), (5, ⟨0, .one, [.int .i64 a]⟩)]
noncomputable def k_l0 (K : Nat) (x : Args ps) : Ex → St → Option Res := kAt (ev K) body [1, 1, 0, 1, 0] fin
noncomputable def N_l0 (K : Nat) (x : Args ps) : A_l0 → Option Res := fun a => evLoop live_l0 (ev K (sub body [1, 1, 0, 1, 0, 0])) K (S_l0 x a) (k_l0 K x)
end laws_eqDoubtS
namespace laws_eqCoord
@[reducible] def ps : List PK := [.rd t9, .rd t9]
@[reducible] def rs : List RK := [.v .bool]
abbrev Res := Ress rs × Outs ps
noncomputable def pre (K : Nat) (x : Args ps) : Option Res := bif x.1.1 != x.2.1.1 then (some ((false, ()), ())) else (bif x.1.2.1 != x.2.1.2.1 then (some ((false, ()), ())) else (bif x.1.2.2.1 != x.2.1.2.2.1 then (some ((false, ()), ())) else (bif x.1.2.2.2 != x.2.1.2.2.2 then (some ((false, ()), ())) else (some ((true, ()), ())))))
noncomputable def f (K : Nat) (x : Args ps) : Option Res := pre K x
noncomputable def c (K : Nat) : Ctr := ⟨81, ps, rs, true, f K⟩
noncomputable def G (K : Nat) : List Ctr := []
noncomputable def L : List (Nat × List (Nat × List Coe)) := []
noncomputable def body : Code := bodyOf Tryz.f81
noncomputable abbrev ev (K : Nat) : Code → St → (Ex → St → Option Res) → Option Res := evK (G K) T_D L K
noncomputable abbrev fin : Ex → St → Option Res := finK T_D ps rs true Tryz.f81.results.toList
end laws_eqCoord
namespace laws_eqPlace
@[reducible] def ps : List PK := [.rd t17, .rd t17]
@[reducible] def rs : List RK := [.v .bool]
abbrev Res := Ress rs × Outs ps
noncomputable def pre (K : Nat) (x : Args ps) : Option Res := bif x.1.1 != x.2.1.1 then (some ((false, ()), ())) else ((laws_eqCoord.f K (x.1.2.1, x.2.1.2.1, ())).bind fun y1 => bif !y1.1.1 then (some ((false, ()), ())) else ((laws_eqIntS.f K (x.1.2.2, x.2.1.2.2, ())).bind fun y2 => bif !y2.1.1 then (some ((false, ()), ())) else (some ((true, ()), ()))))
noncomputable def f (K : Nat) (x : Args ps) : Option Res := pre K x
noncomputable def c (K : Nat) : Ctr := ⟨180, ps, rs, true, f K⟩
noncomputable def G (K : Nat) : List Ctr := [laws_eqIntS.c K, laws_eqCoord.c K]
noncomputable def L : List (Nat × List (Nat × List Coe)) := []
noncomputable def body : Code := bodyOf Tryz.f180
noncomputable abbrev ev (K : Nat) : Code → St → (Ex → St → Option Res) → Option Res := evK (G K) T_D L K
noncomputable abbrev fin : Ex → St → Option Res := finK T_D ps rs true Tryz.f180.results.toList
end laws_eqPlace
namespace laws_eqPlaceS
@[reducible] def ps : List PK := [.rd (.list false 94 t17), .rd (.list false 94 t17)]
@[reducible] def rs : List RK := [.v .bool]
abbrev Res := Ress rs × Outs ps
abbrev A_l0 := Int
noncomputable def l0.step (K : Nat) (x : Args ps) (rec_l0 : A_l0 → Option Res) (a : A_l0) : Option Res := bif decide (a < (List.length x.1 : Int)) then ((idx x.1 a).bind fun y1 => (idx x.2.1 a).bind fun y2 => (laws_eqPlace.f K (y1, y2, ())).bind fun y3 => bif !y3.1.1 then (some ((false, ()), ())) else (rec_l0 (wr .i64 (a + 1)))) else (some ((true, ()), ()))
noncomputable def l0 (K : Nat) (x : Args ps) : A_l0 → Option Res := iterate (fun rec_l0 a => l0.step K x rec_l0 a) K
noncomputable def pre (K : Nat) (N_l0 : A_l0 → Option Res) (x : Args ps) : Option Res := bif (List.length x.1 : Int) != (List.length x.2.1 : Int) then (some ((false, ()), ())) else (N_l0 0)
noncomputable def f (K : Nat) (x : Args ps) : Option Res := pre K (l0 K x) x
noncomputable def c (K : Nat) : Ctr := ⟨82, ps, rs, true, f K⟩
noncomputable def G (K : Nat) : List Ctr := [laws_eqPlace.c K]
noncomputable def live_l0 : List (Nat × List Coe) := [(0, [.ro true 94 t17]), (1, [.ro true 94 t17]), (5, [.keep])]
noncomputable def L : List (Nat × List (Nat × List Coe)) := [(5, live_l0)]
noncomputable def body : Code := bodyOf Tryz.f82
noncomputable abbrev ev (K : Nat) : Code → St → (Ex → St → Option Res) → Option Res := evK (G K) T_D L K
noncomputable abbrev fin : Ex → St → Option Res := finK T_D ps rs true Tryz.f82.results.toList
noncomputable def S_l0 (x : Args ps) (a : A_l0) : St := mkSt [(0, ⟨0, .one, [.ro true 94 t17 x.1]⟩), (1, ⟨0, .one, [.ro true 94 t17 x.2.1]⟩), (5, ⟨0, .one, [.int .i64 a]⟩)]
noncomputable def k_l0 (K : Nat) (x : Args ps) : Ex → St → Option Res := kAt (ev K) body [1, 1, 0, 1, 0] fin
noncomputable def N_l0 (K : Nat) (x : Args ps) : A_l0 → Option Res := fun a => evLoop live_l0 (ev K (sub body [1, 1, 0, 1, 0, 0])) K (S_l0 x a) (k_l0 K x)
end laws_eqPlaceS
namespace laws_eqForeign
@[reducible] def ps : List PK := [.rd t18, .rd t18]
@[reducible] def rs : List RK := [.v .bool]
abbrev Res := Ress rs × Outs ps
noncomputable def pre (K : Nat) (x : Args ps) : Option Res := bif x.1.1 != x.2.1.1 then (some ((false, ()), ())) else ((laws_eqFactS.f K (x.1.2, x.2.1.2, ())).bind fun y1 => bif !y1.1.1 then (some ((false, ()), ())) else (some ((true, ()), ())))
noncomputable def f (K : Nat) (x : Args ps) : Option Res := pre K x
noncomputable def c (K : Nat) : Ctr := ⟨181, ps, rs, true, f K⟩
noncomputable def G (K : Nat) : List Ctr := [laws_eqFactS.c K]
noncomputable def L : List (Nat × List (Nat × List Coe)) := []
noncomputable def body : Code := bodyOf Tryz.f181
noncomputable abbrev ev (K : Nat) : Code → St → (Ex → St → Option Res) → Option Res := evK (G K) T_D L K
noncomputable abbrev fin : Ex → St → Option Res := finK T_D ps rs true Tryz.f181.results.toList
end laws_eqForeign
namespace laws_eqForeignS
@[reducible] def ps : List PK := [.rd (.list false 119 t18), .rd (.list false 119 t18)]
@[reducible] def rs : List RK := [.v .bool]
abbrev Res := Ress rs × Outs ps
abbrev A_l0 := Int
noncomputable def l0.step (K : Nat) (x : Args ps) (rec_l0 : A_l0 → Option Res) (a : A_l0) : Option Res := bif decide (a < (List.length x.1 : Int)) then ((idx x.1 a).bind fun y1 => (idx x.2.1 a).bind fun y2 => (laws_eqForeign.f K (y1, y2, ())).bind fun y3 => bif !y3.1.1 then (some ((false, ()), ())) else (rec_l0 (wr .i64 (a + 1)))) else (some ((true, ()), ()))
noncomputable def l0 (K : Nat) (x : Args ps) : A_l0 → Option Res := iterate (fun rec_l0 a => l0.step K x rec_l0 a) K
noncomputable def pre (K : Nat) (N_l0 : A_l0 → Option Res) (x : Args ps) : Option Res := bif (List.length x.1 : Int) != (List.length x.2.1 : Int) then (some ((false, ()), ())) else (N_l0 0)
noncomputable def f (K : Nat) (x : Args ps) : Option Res := pre K (l0 K x) x
noncomputable def c (K : Nat) : Ctr := ⟨83, ps, rs, true, f K⟩
noncomputable def G (K : Nat) : List Ctr := [laws_eqForeign.c K]
noncomputable def live_l0 : List (Nat × List Coe) := [(0, [.ro true 119 t18]), (1, [.ro true 119 t18]), (5, [.keep])]
noncomputable def L : List (Nat × List (Nat × List Coe)) := [(5, live_l0)]
noncomputable def body : Code := bodyOf Tryz.f83
noncomputable abbrev ev (K : Nat) : Code → St → (Ex → St → Option Res) → Option Res := evK (G K) T_D L K
noncomputable abbrev fin : Ex → St → Option Res := finK T_D ps rs true Tryz.f83.results.toList
noncomputable def S_l0 (x : Args ps) (a : A_l0) : St := mkSt [(0, ⟨0, .one, [.ro true 119 t18 x.1]⟩), (1, ⟨0, .one, [.ro true 119 t18 x.2.1]⟩), (5, ⟨0, .one, [.int .i64 a]⟩)]
noncomputable def k_l0 (K : Nat) (x : Args ps) : Ex → St → Option Res := kAt (ev K) body [1, 1, 0, 1, 0] fin
noncomputable def N_l0 (K : Nat) (x : Args ps) : A_l0 → Option Res := fun a => evLoop live_l0 (ev K (sub body [1, 1, 0, 1, 0, 0])) K (S_l0 x a) (k_l0 K x)
end laws_eqForeignS
namespace laws_eqNode
@[reducible] def ps : List PK := [.rd t61, .rd t61]
@[reducible] def rs : List RK := [.v .bool]
abbrev Res := Ress rs × Outs ps
noncomputable def pre (K : Nat) (x : Args ps) : Option Res := bif x.1.1 != x.2.1.1 then (some ((false, ()), ())) else (bif x.1.2.1 != x.2.1.2.1 then (some ((false, ()), ())) else (bif x.1.2.2.1 != x.2.1.2.2.1 then (some ((false, ()), ())) else (bif x.1.2.2.2.1 != x.2.1.2.2.2.1 then (some ((false, ()), ())) else (bif x.1.2.2.2.2.1 != x.2.1.2.2.2.2.1 then (some ((false, ()), ())) else (bif x.1.2.2.2.2.2.1 != x.2.1.2.2.2.2.2.1 then (some ((false, ()), ())) else (bif x.1.2.2.2.2.2.2.1 != x.2.1.2.2.2.2.2.2.1 then (some ((false, ()), ())) else (bif x.1.2.2.2.2.2.2.2.1 != x.2.1.2.2.2.2.2.2.2.1 then (some ((false, ()), ())) else ((laws_eqFactS.f K (x.1.2.2.2.2.2.2.2.2.1, x.2.1.2.2.2.2.2.2.2.2.1, ())).bind fun y1 => bif !y1.1.1 then (some ((false, ()), ())) else ((laws_eqItemS.f K (x.1.2.2.2.2.2.2.2.2.2.1, x.2.1.2.2.2.2.2.2.2.2.2.1, ())).bind fun y2 => bif !y2.1.1 then (some ((false, ()), ())) else ((laws_eqProbe.f K (x.1.2.2.2.2.2.2.2.2.2.2.1, x.2.1.2.2.2.2.2.2.2.2.2.2.1, ())).bind fun y3 => bif !y3.1.1 then (some ((false, ()), ())) else ((laws_eqDoubtS.f K (x.1.2.2.2.2.2.2.2.2.2.2.2.1, x.2.1.2.2.2.2.2.2.2.2.2.2.2.1, ())).bind fun y4 => bif !y4.1.1 then (some ((false, ()), ())) else ((laws_eqCoord.f K (x.1.2.2.2.2.2.2.2.2.2.2.2.2.1, x.2.1.2.2.2.2.2.2.2.2.2.2.2.2.1, ())).bind fun y5 => bif !y5.1.1 then (some ((false, ()), ())) else ((laws_eqPlaceS.f K (x.1.2.2.2.2.2.2.2.2.2.2.2.2.2.1, x.2.1.2.2.2.2.2.2.2.2.2.2.2.2.2.1, ())).bind fun y6 => bif !y6.1.1 then (some ((false, ()), ())) else ((laws_eqForeignS.f K (x.1.2.2.2.2.2.2.2.2.2.2.2.2.2.2, x.2.1.2.2.2.2.2.2.2.2.2.2.2.2.2.2, ())).bind fun y7 => bif !y7.1.1 then (some ((false, ()), ())) else (some ((true, ()), ()))))))))))))))))
noncomputable def f (K : Nat) (x : Args ps) : Option Res := pre K x
noncomputable def c (K : Nat) : Ctr := ⟨19, ps, rs, true, f K⟩
noncomputable def G (K : Nat) : List Ctr := [laws_eqFactS.c K, laws_eqItemS.c K, laws_eqProbe.c K, laws_eqDoubtS.c K, laws_eqCoord.c K, laws_eqPlaceS.c K, laws_eqForeignS.c K]
noncomputable def L : List (Nat × List (Nat × List Coe)) := []
noncomputable def body : Code := bodyOf Tryz.f19
noncomputable abbrev ev (K : Nat) : Code → St → (Ex → St → Option Res) → Option Res := evK (G K) T_D L K
noncomputable abbrev fin : Ex → St → Option Res := finK T_D ps rs true Tryz.f19.results.toList
end laws_eqNode
namespace laws_markFactS
@[reducible] def ps : List PK := [.io (.list true 132 t2), .rd (.int .i64)]
@[reducible] def rs : List RK := [.v (.int .i64)]
abbrev Res := Ress rs × Outs ps
abbrev A_l0 := List (Ty.den t2) × Int × Int
noncomputable def l0.step (K : Nat) (x : Args ps) (rec_l0 : A_l0 → Option Res) (a : A_l0) : Option Res := bif decide (a.2.2 < (List.length a.1 : Int)) then ((idx a.1 a.2.2).bind fun _ => (idx a.1 (Int.toNat a.2.2 : Nat)).bind fun y2 => (idx (a.1.set (Int.toNat a.2.2) (a.2.1, y2.2)) a.2.2).bind fun _ => (idx (a.1.set (Int.toNat a.2.2) (a.2.1, y2.2)) (Int.toNat a.2.2 : Nat)).bind fun y4 => (idx ((a.1.set (Int.toNat a.2.2) (a.2.1, y2.2)).set (Int.toNat a.2.2) (y4.1, (wr .i64 (a.2.1 + 1), y4.2.2))) a.2.2).bind fun _ => (idx ((a.1.set (Int.toNat a.2.2) (a.2.1, y2.2)).set (Int.toNat a.2.2) (y4.1, (wr .i64 (a.2.1 + 1), y4.2.2))) (Int.toNat a.2.2 : Nat)).bind fun y6 => (idx (((a.1.set (Int.toNat a.2.2) (a.2.1, y2.2)).set (Int.toNat a.2.2) (y4.1, (wr .i64 (a.2.1 + 1), y4.2.2))).set (Int.toNat a.2.2) (y6.1, (y6.2.1, (wr .i64 ((wr .i64 (a.2.1 + 1)) + 1), y6.2.2.2)))) a.2.2).bind fun _ => (idx (((a.1.set (Int.toNat a.2.2) (a.2.1, y2.2)).set (Int.toNat a.2.2) (y4.1, (wr .i64 (a.2.1 + 1), y4.2.2))).set (Int.toNat a.2.2) (y6.1, (y6.2.1, (wr .i64 ((wr .i64 (a.2.1 + 1)) + 1), y6.2.2.2)))) (Int.toNat a.2.2 : Nat)).bind fun y8 => rec_l0 ((((a.1.set (Int.toNat a.2.2) (a.2.1, y2.2)).set (Int.toNat a.2.2) (y4.1, (wr .i64 (a.2.1 + 1), y4.2.2))).set (Int.toNat a.2.2) (y6.1, (y6.2.1, (wr .i64 ((wr .i64 (a.2.1 + 1)) + 1), y6.2.2.2)))).set (Int.toNat a.2.2) (y8.1, (y8.2.1, (y8.2.2.1, (Int.tmod (wr .i64 ((wr .i64 ((wr .i64 (a.2.1 + 1)) + 1)) + 1)) 3) == 0))), wr .i64 ((wr .i64 ((wr .i64 ((wr .i64 (a.2.1 + 1)) + 1)) + 1)) + 1), wr .i64 (a.2.2 + 1))) else (some ((a.2.1, ()), (a.1, ())))
noncomputable def l0 (K : Nat) (x : Args ps) : A_l0 → Option Res := iterate (fun rec_l0 a => l0.step K x rec_l0 a) K
noncomputable def pre (K : Nat) (N_l0 : A_l0 → Option Res) (x : Args ps) : Option Res := N_l0 (x.1, x.2.1, 0)
noncomputable def f (K : Nat) (x : Args ps) : Option Res := pre K (l0 K x) x
noncomputable def c (K : Nat) : Ctr := ⟨47, ps, rs, true, f K⟩
noncomputable def G (K : Nat) : List Ctr := []
noncomputable def live_l0 : List (Nat × List Coe) := [(0, [.own false 132 t2]), (1, [.keep]), (5, [.keep])]
noncomputable def L : List (Nat × List (Nat × List Coe)) := [(3, live_l0)]
noncomputable def body : Code := bodyOf Tryz.f47
noncomputable abbrev ev (K : Nat) : Code → St → (Ex → St → Option Res) → Option Res := evK (G K) T_D L K
noncomputable abbrev fin : Ex → St → Option Res := finK T_D ps rs true Tryz.f47.results.toList
noncomputable def S_l0 (x : Args ps) (a : A_l0) : St := mkSt [(0, ⟨0, .one, [.own false none 132 t2 a.1]⟩), (1, ⟨0, .one, [.int .i64 a.2.1]⟩), (5, ⟨0, .one, [.int .i64 a.2.2]⟩)]
noncomputable def k_l0 (K : Nat) (x : Args ps) : Ex → St → Option Res := kAt (ev K) body [1, 0, 1, 0] fin
noncomputable def N_l0 (K : Nat) (x : Args ps) : A_l0 → Option Res := fun a => evLoop live_l0 (ev K (sub body [1, 0, 1, 0, 0])) K (S_l0 x a) (k_l0 K x)
end laws_markFactS
namespace laws_markItemS
@[reducible] def ps : List PK := [.io (.list true 173 t3), .rd (.int .i64)]
@[reducible] def rs : List RK := [.v (.int .i64)]
abbrev Res := Ress rs × Outs ps
abbrev A_l0 := List (Ty.den t3) × Int × Int
noncomputable def l0.step (K : Nat) (x : Args ps) (rec_l0 : A_l0 → Option Res) (a : A_l0) : Option Res := bif decide (a.2.2 < (List.length a.1 : Int)) then ((idx a.1 a.2.2).bind fun _ => (idx a.1 (Int.toNat a.2.2 : Nat)).bind fun y2 => (idx (a.1.set (Int.toNat a.2.2) ((a.2.1, y2.1.2), y2.2)) a.2.2).bind fun _ => (idx (a.1.set (Int.toNat a.2.2) ((a.2.1, y2.1.2), y2.2)) (Int.toNat a.2.2 : Nat)).bind fun y4 => (idx ((a.1.set (Int.toNat a.2.2) ((a.2.1, y2.1.2), y2.2)).set (Int.toNat a.2.2) ((y4.1.1, (wr .i64 (a.2.1 + 1), y4.1.2.2)), y4.2)) a.2.2).bind fun _ => (idx ((a.1.set (Int.toNat a.2.2) ((a.2.1, y2.1.2), y2.2)).set (Int.toNat a.2.2) ((y4.1.1, (wr .i64 (a.2.1 + 1), y4.1.2.2)), y4.2)) (Int.toNat a.2.2 : Nat)).bind fun y6 => (idx (((a.1.set (Int.toNat a.2.2) ((a.2.1, y2.1.2), y2.2)).set (Int.toNat a.2.2) ((y4.1.1, (wr .i64 (a.2.1 + 1), y4.1.2.2)), y4.2)).set (Int.toNat a.2.2) ((y6.1.1, (y6.1.2.1, (wr .i64 ((wr .i64 (a.2.1 + 1)) + 1), y6.1.2.2.2))), y6.2)) a.2.2).bind fun _ => (idx (((a.1.set (Int.toNat a.2.2) ((a.2.1, y2.1.2), y2.2)).set (Int.toNat a.2.2) ((y4.1.1, (wr .i64 (a.2.1 + 1), y4.1.2.2)), y4.2)).set (Int.toNat a.2.2) ((y6.1.1, (y6.1.2.1, (wr .i64 ((wr .i64 (a.2.1 + 1)) + 1), y6.1.2.2.2))), y6.2)) (Int.toNat a.2.2 : Nat)).bind fun y8 => (idx ((((a.1.set (Int.toNat a.2.2) ((a.2.1, y2.1.2), y2.2)).set (Int.toNat a.2.2) ((y4.1.1, (wr .i64 (a.2.1 + 1), y4.1.2.2)), y4.2)).set (Int.toNat a.2.2) ((y6.1.1, (y6.1.2.1, (wr .i64 ((wr .i64 (a.2.1 + 1)) + 1), y6.1.2.2.2))), y6.2)).set (Int.toNat a.2.2) ((y8.1.1, (y8.1.2.1, (y8.1.2.2.1, (Int.tmod (wr .i64 ((wr .i64 ((wr .i64 (a.2.1 + 1)) + 1)) + 1)) 3) == 0))), y8.2)) a.2.2).bind fun _ => (idx ((((a.1.set (Int.toNat a.2.2) ((a.2.1, y2.1.2), y2.2)).set (Int.toNat a.2.2) ((y4.1.1, (wr .i64 (a.2.1 + 1), y4.1.2.2)), y4.2)).set (Int.toNat a.2.2) ((y6.1.1, (y6.1.2.1, (wr .i64 ((wr .i64 (a.2.1 + 1)) + 1), y6.1.2.2.2))), y6.2)).set (Int.toNat a.2.2) ((y8.1.1, (y8.1.2.1, (y8.1.2.2.1, (Int.tmod (wr .i64 ((wr .i64 ((wr .i64 (a.2.1 + 1)) + 1)) + 1)) 3) == 0))), y8.2)) (Int.toNat a.2.2 : Nat)).bind fun y10 => rec_l0 (((((a.1.set (Int.toNat a.2.2) ((a.2.1, y2.1.2), y2.2)).set (Int.toNat a.2.2) ((y4.1.1, (wr .i64 (a.2.1 + 1), y4.1.2.2)), y4.2)).set (Int.toNat a.2.2) ((y6.1.1, (y6.1.2.1, (wr .i64 ((wr .i64 (a.2.1 + 1)) + 1), y6.1.2.2.2))), y6.2)).set (Int.toNat a.2.2) ((y8.1.1, (y8.1.2.1, (y8.1.2.2.1, (Int.tmod (wr .i64 ((wr .i64 ((wr .i64 (a.2.1 + 1)) + 1)) + 1)) 3) == 0))), y8.2)).set (Int.toNat a.2.2) (y10.1, wr .i64 ((wr .i64 ((wr .i64 ((wr .i64 (a.2.1 + 1)) + 1)) + 1)) + 1)), wr .i64 ((wr .i64 ((wr .i64 ((wr .i64 ((wr .i64 (a.2.1 + 1)) + 1)) + 1)) + 1)) + 1), wr .i64 (a.2.2 + 1))) else (some ((a.2.1, ()), (a.1, ())))
noncomputable def l0 (K : Nat) (x : Args ps) : A_l0 → Option Res := iterate (fun rec_l0 a => l0.step K x rec_l0 a) K
noncomputable def pre (K : Nat) (N_l0 : A_l0 → Option Res) (x : Args ps) : Option Res := N_l0 (x.1, x.2.1, 0)
noncomputable def f (K : Nat) (x : Args ps) : Option Res := pre K (l0 K x) x
noncomputable def c (K : Nat) : Ctr := ⟨96, ps, rs, true, f K⟩
noncomputable def G (K : Nat) : List Ctr := []
noncomputable def live_l0 : List (Nat × List Coe) := [(0, [.own false 173 t3]), (1, [.keep]), (5, [.keep])]
noncomputable def L : List (Nat × List (Nat × List Coe)) := [(3, live_l0)]
noncomputable def body : Code := bodyOf Tryz.f96
noncomputable abbrev ev (K : Nat) : Code → St → (Ex → St → Option Res) → Option Res := evK (G K) T_D L K
noncomputable abbrev fin : Ex → St → Option Res := finK T_D ps rs true Tryz.f96.results.toList
noncomputable def S_l0 (x : Args ps) (a : A_l0) : St := mkSt [(0, ⟨0, .one, [.own false none 173 t3 a.1]⟩), (1, ⟨0, .one, [.int .i64 a.2.1]⟩), (5, ⟨0, .one, [.int .i64 a.2.2]⟩)]
noncomputable def k_l0 (K : Nat) (x : Args ps) : Ex → St → Option Res := kAt (ev K) body [1, 0, 1, 0] fin
noncomputable def N_l0 (K : Nat) (x : Args ps) : A_l0 → Option Res := fun a => evLoop live_l0 (ev K (sub body [1, 0, 1, 0, 0])) K (S_l0 x a) (k_l0 K x)
end laws_markItemS
namespace laws_markIntS
@[reducible] def ps : List PK := [.io (.list true 3 (.int .i64)), .rd (.int .i64)]
@[reducible] def rs : List RK := [.v (.int .i64)]
abbrev Res := Ress rs × Outs ps
abbrev A_l0 := List (Ty.den (.int .i64)) × Int × Int
noncomputable def l0.step (K : Nat) (x : Args ps) (rec_l0 : A_l0 → Option Res) (a : A_l0) : Option Res := bif decide (a.2.2 < (List.length a.1 : Int)) then ((idx a.1 a.2.2).bind fun _ => (idx a.1 (Int.toNat a.2.2 : Nat)).bind fun y2 => rec_l0 (a.1.set (Int.toNat a.2.2) a.2.1, wr .i64 (a.2.1 + 1), wr .i64 (a.2.2 + 1))) else (some ((a.2.1, ()), (a.1, ())))
noncomputable def l0 (K : Nat) (x : Args ps) : A_l0 → Option Res := iterate (fun rec_l0 a => l0.step K x rec_l0 a) K
noncomputable def pre (K : Nat) (N_l0 : A_l0 → Option Res) (x : Args ps) : Option Res := N_l0 (x.1, x.2.1, 0)
noncomputable def f (K : Nat) (x : Args ps) : Option Res := pre K (l0 K x) x
noncomputable def c (K : Nat) : Ctr := ⟨29, ps, rs, true, f K⟩
noncomputable def G (K : Nat) : List Ctr := []
noncomputable def live_l0 : List (Nat × List Coe) := [(0, [.own false 3 (.int .i64)]), (1, [.keep]), (5, [.keep])]
noncomputable def L : List (Nat × List (Nat × List Coe)) := [(3, live_l0)]
noncomputable def body : Code := bodyOf Tryz.f29
noncomputable abbrev ev (K : Nat) : Code → St → (Ex → St → Option Res) → Option Res := evK (G K) T_D L K
noncomputable abbrev fin : Ex → St → Option Res := finK T_D ps rs true Tryz.f29.results.toList
noncomputable def S_l0 (x : Args ps) (a : A_l0) : St := mkSt [(0, ⟨0, .one, [.own false none 3 (.int .i64) a.1]⟩), (1, ⟨0, .one, [.int .i64 a.2.1]⟩), (5, ⟨0, .one, [.int .i64 a.2.2]⟩)]
noncomputable def k_l0 (K : Nat) (x : Args ps) : Ex → St → Option Res := kAt (ev K) body [1, 0, 1, 0] fin
noncomputable def N_l0 (K : Nat) (x : Args ps) : A_l0 → Option Res := fun a => evLoop live_l0 (ev K (sub body [1, 0, 1, 0, 0])) K (S_l0 x a) (k_l0 K x)
end laws_markIntS
namespace laws_markDoubtS
@[reducible] def ps : List PK := [.io (.list true 177 t6), .rd (.int .i64)]
@[reducible] def rs : List RK := [.v (.int .i64)]
abbrev Res := Ress rs × Outs ps
abbrev A_l0 := List (Ty.den t6) × Int × Int
noncomputable def l0.step (K : Nat) (x : Args ps) (rec_l0 : A_l0 → Option Res) (a : A_l0) : Option Res := bif decide (a.2.2 < (List.length a.1 : Int)) then ((idx a.1 a.2.2).bind fun _ => (idx a.1 (Int.toNat a.2.2 : Nat)).bind fun y2 => (idx (a.1.set (Int.toNat a.2.2) (a.2.1, y2.2)) a.2.2).bind fun _ => (idx (a.1.set (Int.toNat a.2.2) (a.2.1, y2.2)) (Int.toNat a.2.2 : Nat)).bind fun y4 => (idx ((a.1.set (Int.toNat a.2.2) (a.2.1, y2.2)).set (Int.toNat a.2.2) (y4.1, (wr .i64 (a.2.1 + 1), y4.2.2))) a.2.2).bind fun _ => (idx ((a.1.set (Int.toNat a.2.2) (a.2.1, y2.2)).set (Int.toNat a.2.2) (y4.1, (wr .i64 (a.2.1 + 1), y4.2.2))) (Int.toNat a.2.2 : Nat)).bind fun y6 => (idx (((a.1.set (Int.toNat a.2.2) (a.2.1, y2.2)).set (Int.toNat a.2.2) (y4.1, (wr .i64 (a.2.1 + 1), y4.2.2))).set (Int.toNat a.2.2) (y6.1, (y6.2.1, (wr .i64 ((wr .i64 (a.2.1 + 1)) + 1), y6.2.2.2)))) a.2.2).bind fun _ => (idx (((a.1.set (Int.toNat a.2.2) (a.2.1, y2.2)).set (Int.toNat a.2.2) (y4.1, (wr .i64 (a.2.1 + 1), y4.2.2))).set (Int.toNat a.2.2) (y6.1, (y6.2.1, (wr .i64 ((wr .i64 (a.2.1 + 1)) + 1), y6.2.2.2)))) (Int.toNat a.2.2 : Nat)).bind fun y8 => (idx (((a.1.set (Int.toNat a.2.2) (a.2.1, y2.2)).set (Int.toNat a.2.2) (y4.1, (wr .i64 (a.2.1 + 1), y4.2.2))).set (Int.toNat a.2.2) (y6.1, (y6.2.1, (wr .i64 ((wr .i64 (a.2.1 + 1)) + 1), y6.2.2.2)))) (Int.toNat a.2.2 : Nat)).bind fun y9 => (laws_markIntS.f K (y9.2.2.2, wr .i64 ((wr .i64 ((wr .i64 (a.2.1 + 1)) + 1)) + 1), ())).bind fun y10 => (idx (((a.1.set (Int.toNat a.2.2) (a.2.1, y2.2)).set (Int.toNat a.2.2) (y4.1, (wr .i64 (a.2.1 + 1), y4.2.2))).set (Int.toNat a.2.2) (y6.1, (y6.2.1, (wr .i64 ((wr .i64 (a.2.1 + 1)) + 1), y6.2.2.2)))) (Int.toNat a.2.2 : Nat)).bind fun y11 => rec_l0 ((((a.1.set (Int.toNat a.2.2) (a.2.1, y2.2)).set (Int.toNat a.2.2) (y4.1, (wr .i64 (a.2.1 + 1), y4.2.2))).set (Int.toNat a.2.2) (y6.1, (y6.2.1, (wr .i64 ((wr .i64 (a.2.1 + 1)) + 1), y6.2.2.2)))).set (Int.toNat a.2.2) (y11.1, (y11.2.1, (y11.2.2.1, y10.2.1))), y10.1.1, wr .i64 (a.2.2 + 1))) else (some ((a.2.1, ()), (a.1, ())))
noncomputable def l0 (K : Nat) (x : Args ps) : A_l0 → Option Res := iterate (fun rec_l0 a => l0.step K x rec_l0 a) K
noncomputable def pre (K : Nat) (N_l0 : A_l0 → Option Res) (x : Args ps) : Option Res := N_l0 (x.1, x.2.1, 0)
noncomputable def f (K : Nat) (x : Args ps) : Option Res := pre K (l0 K x) x
noncomputable def c (K : Nat) : Ctr := ⟨97, ps, rs, true, f K⟩
noncomputable def G (K : Nat) : List Ctr := [laws_markIntS.c K]
noncomputable def live_l0 : List (Nat × List Coe) := [(0, [.own false 177 t6]), (1, [.keep]), (5, [.keep])]
noncomputable def L : List (Nat × List (Nat × List Coe)) := [(3, live_l0)]
noncomputable def body : Code := bodyOf Tryz.f97
noncomputable abbrev ev (K : Nat) : Code → St → (Ex → St → Option Res) → Option Res := evK (G K) T_D L K
noncomputable abbrev fin : Ex → St → Option Res := finK T_D ps rs true Tryz.f97.results.toList
noncomputable def S_l0 (x : Args ps) (a : A_l0) : St := mkSt [(0, ⟨0, .one, [.own false none 177 t6 a.1]⟩), (1, ⟨0, .one, [.int .i64 a.2.1]⟩), (5, ⟨0, .one, [.int .i64 a.2.2]⟩)]
noncomputable def k_l0 (K : Nat) (x : Args ps) : Ex → St → Option Res := kAt (ev K) body [1, 0, 1, 0] fin
noncomputable def N_l0 (K : Nat) (x : Args ps) : A_l0 → Option Res := fun a => evLoop live_l0 (ev K (sub body [1, 0, 1, 0, 0])) K (S_l0 x a) (k_l0 K x)
end laws_markDoubtS
namespace laws_markPlaceS
@[reducible] def ps : List PK := [.io (.list true 94 t11), .rd (.int .i64)]
@[reducible] def rs : List RK := [.v (.int .i64)]
abbrev Res := Ress rs × Outs ps
abbrev A_l0 := List (Ty.den t11) × Int × Int
noncomputable def l0.step (K : Nat) (x : Args ps) (rec_l0 : A_l0 → Option Res) (a : A_l0) : Option Res := bif decide (a.2.2 < (List.length a.1 : Int)) then ((idx a.1 a.2.2).bind fun _ => (idx a.1 (Int.toNat a.2.2 : Nat)).bind fun y2 => (idx (a.1.set (Int.toNat a.2.2) (a.2.1, y2.2)) a.2.2).bind fun _ => (idx (a.1.set (Int.toNat a.2.2) (a.2.1, y2.2)) (Int.toNat a.2.2 : Nat)).bind fun y4 => (idx ((a.1.set (Int.toNat a.2.2) (a.2.1, y2.2)).set (Int.toNat a.2.2) (y4.1, ((wr .i64 (a.2.1 + 1), y4.2.1.2), y4.2.2))) a.2.2).bind fun _ => (idx ((a.1.set (Int.toNat a.2.2) (a.2.1, y2.2)).set (Int.toNat a.2.2) (y4.1, ((wr .i64 (a.2.1 + 1), y4.2.1.2), y4.2.2))) (Int.toNat a.2.2 : Nat)).bind fun y6 => (idx (((a.1.set (Int.toNat a.2.2) (a.2.1, y2.2)).set (Int.toNat a.2.2) (y4.1, ((wr .i64 (a.2.1 + 1), y4.2.1.2), y4.2.2))).set (Int.toNat a.2.2) (y6.1, ((y6.2.1.1, (wr .i64 ((wr .i64 (a.2.1 + 1)) + 1), y6.2.1.2.2)), y6.2.2))) a.2.2).bind fun _ => (idx (((a.1.set (Int.toNat a.2.2) (a.2.1, y2.2)).set (Int.toNat a.2.2) (y4.1, ((wr .i64 (a.2.1 + 1), y4.2.1.2), y4.2.2))).set (Int.toNat a.2.2) (y6.1, ((y6.2.1.1, (wr .i64 ((wr .i64 (a.2.1 + 1)) + 1), y6.2.1.2.2)), y6.2.2))) (Int.toNat a.2.2 : Nat)).bind fun y8 => (idx ((((a.1.set (Int.toNat a.2.2) (a.2.1, y2.2)).set (Int.toNat a.2.2) (y4.1, ((wr .i64 (a.2.1 + 1), y4.2.1.2), y4.2.2))).set (Int.toNat a.2.2) (y6.1, ((y6.2.1.1, (wr .i64 ((wr .i64 (a.2.1 + 1)) + 1), y6.2.1.2.2)), y6.2.2))).set (Int.toNat a.2.2) (y8.1, ((y8.2.1.1, (y8.2.1.2.1, (wr .i64 ((wr .i64 ((wr .i64 (a.2.1 + 1)) + 1)) + 1), y8.2.1.2.2.2))), y8.2.2))) a.2.2).bind fun _ => (idx ((((a.1.set (Int.toNat a.2.2) (a.2.1, y2.2)).set (Int.toNat a.2.2) (y4.1, ((wr .i64 (a.2.1 + 1), y4.2.1.2), y4.2.2))).set (Int.toNat a.2.2) (y6.1, ((y6.2.1.1, (wr .i64 ((wr .i64 (a.2.1 + 1)) + 1), y6.2.1.2.2)), y6.2.2))).set (Int.toNat a.2.2) (y8.1, ((y8.2.1.1, (y8.2.1.2.1, (wr .i64 ((wr .i64 ((wr .i64 (a.2.1 + 1)) + 1)) + 1), y8.2.1.2.2.2))), y8.2.2))) (Int.toNat a.2.2 : Nat)).bind fun y10 => (idx (((((a.1.set (Int.toNat a.2.2) (a.2.1, y2.2)).set (Int.toNat a.2.2) (y4.1, ((wr .i64 (a.2.1 + 1), y4.2.1.2), y4.2.2))).set (Int.toNat a.2.2) (y6.1, ((y6.2.1.1, (wr .i64 ((wr .i64 (a.2.1 + 1)) + 1), y6.2.1.2.2)), y6.2.2))).set (Int.toNat a.2.2) (y8.1, ((y8.2.1.1, (y8.2.1.2.1, (wr .i64 ((wr .i64 ((wr .i64 (a.2.1 + 1)) + 1)) + 1), y8.2.1.2.2.2))), y8.2.2))).set (Int.toNat a.2.2) (y10.1, ((y10.2.1.1, (y10.2.1.2.1, (y10.2.1.2.2.1, wr .i64 ((wr .i64 ((wr .i64 ((wr .i64 (a.2.1 + 1)) + 1)) + 1)) + 1)))), y10.2.2))) a.2.2).bind fun _ => (idx (((((a.1.set (Int.toNat a.2.2) (a.2.1, y2.2)).set (Int.toNat a.2.2) (y4.1, ((wr .i64 (a.2.1 + 1), y4.2.1.2), y4.2.2))).set (Int.toNat a.2.2) (y6.1, ((y6.2.1.1, (wr .i64 ((wr .i64 (a.2.1 + 1)) + 1), y6.2.1.2.2)), y6.2.2))).set (Int.toNat a.2.2) (y8.1, ((y8.2.1.1, (y8.2.1.2.1, (wr .i64 ((wr .i64 ((wr .i64 (a.2.1 + 1)) + 1)) + 1), y8.2.1.2.2.2))), y8.2.2))).set (Int.toNat a.2.2) (y10.1, ((y10.2.1.1, (y10.2.1.2.1, (y10.2.1.2.2.1, wr .i64 ((wr .i64 ((wr .i64 ((wr .i64 (a.2.1 + 1)) + 1)) + 1)) + 1)))), y10.2.2))) (Int.toNat a.2.2 : Nat)).bind fun y12 => (idx (((((a.1.set (Int.toNat a.2.2) (a.2.1, y2.2)).set (Int.toNat a.2.2) (y4.1, ((wr .i64 (a.2.1 + 1), y4.2.1.2), y4.2.2))).set (Int.toNat a.2.2) (y6.1, ((y6.2.1.1, (wr .i64 ((wr .i64 (a.2.1 + 1)) + 1), y6.2.1.2.2)), y6.2.2))).set (Int.toNat a.2.2) (y8.1, ((y8.2.1.1, (y8.2.1.2.1, (wr .i64 ((wr .i64 ((wr .i64 (a.2.1 + 1)) + 1)) + 1), y8.2.1.2.2.2))), y8.2.2))).set (Int.toNat a.2.2) (y10.1, ((y10.2.1.1, (y10.2.1.2.1, (y10.2.1.2.2.1, wr .i64 ((wr .i64 ((wr .i64 ((wr .i64 (a.2.1 + 1)) + 1)) + 1)) + 1)))), y10.2.2))) (Int.toNat a.2.2 : Nat)).bind fun y13 => (laws_markIntS.f K (y13.2.2, wr .i64 ((wr .i64 ((wr .i64 ((wr .i64 ((wr .i64 (a.2.1 + 1)) + 1)) + 1)) + 1)) + 1), ())).bind fun y14 => (idx (((((a.1.set (Int.toNat a.2.2) (a.2.1, y2.2)).set (Int.toNat a.2.2) (y4.1, ((wr .i64 (a.2.1 + 1), y4.2.1.2), y4.2.2))).set (Int.toNat a.2.2) (y6.1, ((y6.2.1.1, (wr .i64 ((wr .i64 (a.2.1 + 1)) + 1), y6.2.1.2.2)), y6.2.2))).set (Int.toNat a.2.2) (y8.1, ((y8.2.1.1, (y8.2.1.2.1, (wr .i64 ((wr .i64 ((wr .i64 (a.2.1 + 1)) + 1)) + 1), y8.2.1.2.2.2))), y8.2.2))).set (Int.toNat a.2.2) (y10.1, ((y10.2.1.1, (y10.2.1.2.1, (y10.2.1.2.2.1, wr .i64 ((wr .i64 ((wr .i64 ((wr .i64 (a.2.1 + 1)) + 1)) + 1)) + 1)))), y10.2.2))) (Int.toNat a.2.2 : Nat)).bind fun y15 => rec_l0 ((((((a.1.set (Int.toNat a.2.2) (a.2.1, y2.2)).set (Int.toNat a.2.2) (y4.1, ((wr .i64 (a.2.1 + 1), y4.2.1.2), y4.2.2))).set (Int.toNat a.2.2) (y6.1, ((y6.2.1.1, (wr .i64 ((wr .i64 (a.2.1 + 1)) + 1), y6.2.1.2.2)), y6.2.2))).set (Int.toNat a.2.2) (y8.1, ((y8.2.1.1, (y8.2.1.2.1, (wr .i64 ((wr .i64 ((wr .i64 (a.2.1 + 1)) + 1)) + 1), y8.2.1.2.2.2))), y8.2.2))).set (Int.toNat a.2.2) (y10.1, ((y10.2.1.1, (y10.2.1.2.1, (y10.2.1.2.2.1, wr .i64 ((wr .i64 ((wr .i64 ((wr .i64 (a.2.1 + 1)) + 1)) + 1)) + 1)))), y10.2.2))).set (Int.toNat a.2.2) (y15.1, (y15.2.1, y14.2.1)), y14.1.1, wr .i64 (a.2.2 + 1))) else (some ((a.2.1, ()), (a.1, ())))
noncomputable def l0 (K : Nat) (x : Args ps) : A_l0 → Option Res := iterate (fun rec_l0 a => l0.step K x rec_l0 a) K
noncomputable def pre (K : Nat) (N_l0 : A_l0 → Option Res) (x : Args ps) : Option Res := N_l0 (x.1, x.2.1, 0)
noncomputable def f (K : Nat) (x : Args ps) : Option Res := pre K (l0 K x) x
noncomputable def c (K : Nat) : Ctr := ⟨98, ps, rs, true, f K⟩
noncomputable def G (K : Nat) : List Ctr := [laws_markIntS.c K]
noncomputable def live_l0 : List (Nat × List Coe) := [(0, [.own false 94 t11]), (1, [.keep]), (5, [.keep])]
noncomputable def L : List (Nat × List (Nat × List Coe)) := [(3, live_l0)]
noncomputable def body : Code := bodyOf Tryz.f98
noncomputable abbrev ev (K : Nat) : Code → St → (Ex → St → Option Res) → Option Res := evK (G K) T_D L K
noncomputable abbrev fin : Ex → St → Option Res := finK T_D ps rs true Tryz.f98.results.toList
noncomputable def S_l0 (x : Args ps) (a : A_l0) : St := mkSt [(0, ⟨0, .one, [.own false none 94 t11 a.1]⟩), (1, ⟨0, .one, [.int .i64 a.2.1]⟩), (5, ⟨0, .one, [.int .i64 a.2.2]⟩)]
noncomputable def k_l0 (K : Nat) (x : Args ps) : Ex → St → Option Res := kAt (ev K) body [1, 0, 1, 0] fin
noncomputable def N_l0 (K : Nat) (x : Args ps) : A_l0 → Option Res := fun a => evLoop live_l0 (ev K (sub body [1, 0, 1, 0, 0])) K (S_l0 x a) (k_l0 K x)
end laws_markPlaceS
namespace laws_markForeignS
@[reducible] def ps : List PK := [.io (.list true 119 t12), .rd (.int .i64)]
@[reducible] def rs : List RK := [.v (.int .i64)]
abbrev Res := Ress rs × Outs ps
abbrev A_l0 := List (Ty.den t12) × Int × Int
noncomputable def l0.step (K : Nat) (x : Args ps) (rec_l0 : A_l0 → Option Res) (a : A_l0) : Option Res := bif decide (a.2.2 < (List.length a.1 : Int)) then ((idx a.1 a.2.2).bind fun _ => (idx a.1 (Int.toNat a.2.2 : Nat)).bind fun y2 => (idx (a.1.set (Int.toNat a.2.2) (a.2.1, y2.2)) a.2.2).bind fun _ => (idx (a.1.set (Int.toNat a.2.2) (a.2.1, y2.2)) (Int.toNat a.2.2 : Nat)).bind fun y4 => (idx (a.1.set (Int.toNat a.2.2) (a.2.1, y2.2)) (Int.toNat a.2.2 : Nat)).bind fun y5 => (laws_markFactS.f K (y5.2, wr .i64 (a.2.1 + 1), ())).bind fun y6 => (idx (a.1.set (Int.toNat a.2.2) (a.2.1, y2.2)) (Int.toNat a.2.2 : Nat)).bind fun y7 => rec_l0 ((a.1.set (Int.toNat a.2.2) (a.2.1, y2.2)).set (Int.toNat a.2.2) (y7.1, y6.2.1), y6.1.1, wr .i64 (a.2.2 + 1))) else (some ((a.2.1, ()), (a.1, ())))
noncomputable def l0 (K : Nat) (x : Args ps) : A_l0 → Option Res := iterate (fun rec_l0 a => l0.step K x rec_l0 a) K
noncomputable def pre (K : Nat) (N_l0 : A_l0 → Option Res) (x : Args ps) : Option Res := N_l0 (x.1, x.2.1, 0)
noncomputable def f (K : Nat) (x : Args ps) : Option Res := pre K (l0 K x) x
noncomputable def c (K : Nat) : Ctr := ⟨99, ps, rs, true, f K⟩
noncomputable def G (K : Nat) : List Ctr := [laws_markFactS.c K]
noncomputable def live_l0 : List (Nat × List Coe) := [(0, [.own false 119 t12]), (1, [.keep]), (5, [.keep])]
noncomputable def L : List (Nat × List (Nat × List Coe)) := [(3, live_l0)]
noncomputable def body : Code := bodyOf Tryz.f99
noncomputable abbrev ev (K : Nat) : Code → St → (Ex → St → Option Res) → Option Res := evK (G K) T_D L K
noncomputable abbrev fin : Ex → St → Option Res := finK T_D ps rs true Tryz.f99.results.toList
noncomputable def S_l0 (x : Args ps) (a : A_l0) : St := mkSt [(0, ⟨0, .one, [.own false none 119 t12 a.1]⟩), (1, ⟨0, .one, [.int .i64 a.2.1]⟩), (5, ⟨0, .one, [.int .i64 a.2.2]⟩)]
noncomputable def k_l0 (K : Nat) (x : Args ps) : Ex → St → Option Res := kAt (ev K) body [1, 0, 1, 0] fin
noncomputable def N_l0 (K : Nat) (x : Args ps) : A_l0 → Option Res := fun a => evLoop live_l0 (ev K (sub body [1, 0, 1, 0, 0])) K (S_l0 x a) (k_l0 K x)
end laws_markForeignS
namespace laws_markNode
@[reducible] def ps : List PK := [.io t47, .rd (.int .i64)]
@[reducible] def rs : List RK := [.v (.int .i64)]
abbrev Res := Ress rs × Outs ps
noncomputable def pre (K : Nat) (x : Args ps) : Option Res := (laws_markFactS.f K (x.1.2.2.2.2.2.2.2.2.1, x.2.1, ())).bind fun y1 => (laws_markItemS.f K (x.1.2.2.2.2.2.2.2.2.2.1, y1.1.1, ())).bind fun y2 => (laws_markDoubtS.f K (x.1.2.2.2.2.2.2.2.2.2.2.2.1, y2.1.1, ())).bind fun y3 => (laws_markPlaceS.f K (x.1.2.2.2.2.2.2.2.2.2.2.2.2.2.1, y3.1.1, ())).bind fun y4 => (laws_markForeignS.f K (x.1.2.2.2.2.2.2.2.2.2.2.2.2.2.2, y4.1.1, ())).bind fun y5 => some ((y5.1.1, ()), ((x.1.1, (x.1.2.1, (x.1.2.2.1, (x.1.2.2.2.1, (x.1.2.2.2.2.1, (x.1.2.2.2.2.2.1, (x.1.2.2.2.2.2.2.1, (x.1.2.2.2.2.2.2.2.1, (y1.2.1, (y2.2.1, (x.1.2.2.2.2.2.2.2.2.2.2.1, (y3.2.1, (x.1.2.2.2.2.2.2.2.2.2.2.2.2.1, (y4.2.1, y5.2.1)))))))))))))), ()))
noncomputable def f (K : Nat) (x : Args ps) : Option Res := pre K x
noncomputable def c (K : Nat) : Ctr := ⟨28, ps, rs, true, f K⟩
noncomputable def G (K : Nat) : List Ctr := [laws_markFactS.c K, laws_markItemS.c K, laws_markDoubtS.c K, laws_markPlaceS.c K, laws_markForeignS.c K]
noncomputable def L : List (Nat × List (Nat × List Coe)) := []
noncomputable def body : Code := bodyOf Tryz.f28
noncomputable abbrev ev (K : Nat) : Code → St → (Ex → St → Option Res) → Option Res := evK (G K) T_D L K
noncomputable abbrev fin : Ex → St → Option Res := finK T_D ps rs true Tryz.f28.results.toList
end laws_markNode
namespace spec_l21Site
@[reducible] def ps : List PK := [.rd (.int .i64)]
@[reducible] def rs : List RK := [.v (.int .i64)]
abbrev Res := Ress rs × Outs ps
noncomputable def pre (K : Nat) (x : Args ps) : Option Res := some ((wr .i64 (Int.tdiv x.1 4), ()), ())
noncomputable def f (K : Nat) (x : Args ps) : Option Res := pre K x
noncomputable def c (K : Nat) : Ctr := ⟨92, ps, rs, true, f K⟩
noncomputable def G (K : Nat) : List Ctr := []
noncomputable def L : List (Nat × List (Nat × List Coe)) := []
noncomputable def body : Code := bodyOf Tryz.f92
noncomputable abbrev ev (K : Nat) : Code → St → (Ex → St → Option Res) → Option Res := evK (G K) T_S L K
noncomputable abbrev fin : Ex → St → Option Res := finK T_S ps rs true Tryz.f92.results.toList
end spec_l21Site
namespace spec_l1In
@[reducible] def ps : List PK := [.rd (.int .i64), .rd (.int .i64), .rd (.int .i64)]
@[reducible] def rs : List RK := [.v .bool]
abbrev Res := Ress rs × Outs ps
noncomputable def pre (K : Nat) (x : Args ps) : Option Res := bif decide (x.1 ≥ x.2.1) then (some ((decide (x.1 ≤ x.2.2.1), ()), ())) else (some ((false, ()), ()))
noncomputable def f (K : Nat) (x : Args ps) : Option Res := pre K x
noncomputable def c (K : Nat) : Ctr := ⟨104, ps, rs, true, f K⟩
noncomputable def G (K : Nat) : List Ctr := []
noncomputable def L : List (Nat × List (Nat × List Coe)) := []
noncomputable def body : Code := bodyOf Tryz.f104
noncomputable abbrev ev (K : Nat) : Code → St → (Ex → St → Option Res) → Option Res := evK (G K) T_S L K
noncomputable abbrev fin : Ex → St → Option Res := finK T_S ps rs true Tryz.f104.results.toList
end spec_l1In
namespace spec_FactOk
@[reducible] def ps : List PK := [.rd t2]
@[reducible] def rs : List RK := [.v .bool]
abbrev Res := Ress rs × Outs ps
noncomputable def pre (K : Nat) (x : Args ps) : Option Res := (spec_l1In.f K (x.1.1, 0, 7, ())).bind fun y1 => bif y1.1.1 then ((spec_l1In.f K (x.1.2.1, 0, 999, ())).bind fun y2 => bif y2.1.1 then ((spec_l1In.f K (x.1.2.2.1, 1, 4, ())).bind fun y3 => some ((y3.1.1, ()), ())) else (some ((false, ()), ()))) else (some ((false, ()), ()))
noncomputable def f (K : Nat) (x : Args ps) : Option Res := pre K x
noncomputable def c (K : Nat) : Ctr := ⟨105, ps, rs, true, f K⟩
noncomputable def G (K : Nat) : List Ctr := [spec_l1In.c K]
noncomputable def L : List (Nat × List (Nat × List Coe)) := []
noncomputable def body : Code := bodyOf Tryz.f105
noncomputable abbrev ev (K : Nat) : Code → St → (Ex → St → Option Res) → Option Res := evK (G K) T_S L K
noncomputable abbrev fin : Ex → St → Option Res := finK T_S ps rs true Tryz.f105.results.toList
end spec_FactOk
namespace spec_TableOk
@[reducible] def ps : List PK := [.rd (.list false 132 t2)]
@[reducible] def rs : List RK := [.v .bool]
abbrev Res := Ress rs × Outs ps
abbrev A_l0 := Int
noncomputable def l0.step (K : Nat) (x : Args ps) (rec_l0 : A_l0 → Option Res) (a : A_l0) : Option Res := bif decide (a < (List.length x.1 : Int)) then ((idx x.1 a).bind fun y1 => (spec_FactOk.f K (y1, ())).bind fun y2 => bif !y2.1.1 then (some ((false, ()), ())) else (bif decide (a > 0) then ((idx x.1 (wr .i64 (a - 1))).bind fun y3 => (idx x.1 a).bind fun y4 => bif decide (y3.1 ≥ y4.1) then (some ((false, ()), ())) else (rec_l0 (wr .i64 (a + 1)))) else (rec_l0 (wr .i64 (a + 1))))) else (some ((true, ()), ()))
noncomputable def l0 (K : Nat) (x : Args ps) : A_l0 → Option Res := iterate (fun rec_l0 a => l0.step K x rec_l0 a) K
noncomputable def pre (K : Nat) (N_l0 : A_l0 → Option Res) (x : Args ps) : Option Res := N_l0 0
noncomputable def f (K : Nat) (x : Args ps) : Option Res := pre K (l0 K x) x
noncomputable def c (K : Nat) : Ctr := ⟨155, ps, rs, true, f K⟩
noncomputable def G (K : Nat) : List Ctr := [spec_FactOk.c K]
noncomputable def live_l0 : List (Nat × List Coe) := [(0, [.ro true 132 t2]), (3, [.keep])]
noncomputable def L : List (Nat × List (Nat × List Coe)) := [(3, live_l0)]
noncomputable def body : Code := bodyOf Tryz.f155
noncomputable abbrev ev (K : Nat) : Code → St → (Ex → St → Option Res) → Option Res := evK (G K) T_S L K
noncomputable abbrev fin : Ex → St → Option Res := finK T_S ps rs true Tryz.f155.results.toList
noncomputable def S_l0 (x : Args ps) (a : A_l0) : St := mkSt [(0, ⟨0, .one, [.ro true 132 t2 x.1]⟩), (3, ⟨0, .one, [.int .i64 a]⟩)]
noncomputable def k_l0 (K : Nat) (x : Args ps) : Ex → St → Option Res := kAt (ev K) body [1, 0, 1, 0] fin
noncomputable def N_l0 (K : Nat) (x : Args ps) : A_l0 → Option Res := fun a => evLoop live_l0 (ev K (sub body [1, 0, 1, 0, 0])) K (S_l0 x a) (k_l0 K x)
end spec_TableOk
namespace spec_l4Site
@[reducible] def ps : List PK := [.rd (.list false 132 t2), .rd (.int .i64)]
@[reducible] def rs : List RK := [.v .bool]
abbrev Res := Ress rs × Outs ps
abbrev A_l0 := Int
noncomputable def l0.step (K : Nat) (x : Args ps) (rec_l0 : A_l0 → Option Res) (a : A_l0) : Option Res := bif decide (a < (List.length x.1 : Int)) then ((idx x.1 a).bind fun y1 => bif (wr .i64 (Int.tdiv y1.1 4)) != x.2.1 then (some ((false, ()), ())) else (rec_l0 (wr .i64 (a + 1)))) else (some ((true, ()), ()))
noncomputable def l0 (K : Nat) (x : Args ps) : A_l0 → Option Res := iterate (fun rec_l0 a => l0.step K x rec_l0 a) K
noncomputable def pre (K : Nat) (N_l0 : A_l0 → Option Res) (x : Args ps) : Option Res := N_l0 0
noncomputable def f (K : Nat) (x : Args ps) : Option Res := pre K (l0 K x) x
noncomputable def c (K : Nat) : Ctr := ⟨156, ps, rs, true, f K⟩
noncomputable def G (K : Nat) : List Ctr := []
noncomputable def live_l0 : List (Nat × List Coe) := [(0, [.ro true 132 t2]), (1, [.keep]), (5, [.keep])]
noncomputable def L : List (Nat × List (Nat × List Coe)) := [(3, live_l0)]
noncomputable def body : Code := bodyOf Tryz.f156
noncomputable abbrev ev (K : Nat) : Code → St → (Ex → St → Option Res) → Option Res := evK (G K) T_S L K
noncomputable abbrev fin : Ex → St → Option Res := finK T_S ps rs true Tryz.f156.results.toList
noncomputable def S_l0 (x : Args ps) (a : A_l0) : St := mkSt [(0, ⟨0, .one, [.ro true 132 t2 x.1]⟩), (1, ⟨0, .one, [.int .i64 x.2.1]⟩), (5, ⟨0, .one, [.int .i64 a]⟩)]
noncomputable def k_l0 (K : Nat) (x : Args ps) : Ex → St → Option Res := kAt (ev K) body [1, 0, 1, 0] fin
noncomputable def N_l0 (K : Nat) (x : Args ps) : A_l0 → Option Res := fun a => evLoop live_l0 (ev K (sub body [1, 0, 1, 0, 0])) K (S_l0 x a) (k_l0 K x)
end spec_l4Site
namespace spec_l3Find
@[reducible] def ps : List PK := [.rd (.list false 132 t2), .rd (.int .i64)]
@[reducible] def rs : List RK := [.v (.int .i64)]
abbrev Res := Ress rs × Outs ps
abbrev A_l0 := Int
noncomputable def l0.step (K : Nat) (x : Args ps) (rec_l0 : A_l0 → Option Res) (a : A_l0) : Option Res := bif decide (a < (List.length x.1 : Int)) then ((idx x.1 a).bind fun y1 => bif y1.1 == x.2.1 then (some ((a, ()), ())) else (rec_l0 (wr .i64 (a + 1)))) else (some (((-1), ()), ()))
noncomputable def l0 (K : Nat) (x : Args ps) : A_l0 → Option Res := iterate (fun rec_l0 a => l0.step K x rec_l0 a) K
noncomputable def pre (K : Nat) (N_l0 : A_l0 → Option Res) (x : Args ps) : Option Res := N_l0 0
noncomputable def f (K : Nat) (x : Args ps) : Option Res := pre K (l0 K x) x
noncomputable def c (K : Nat) : Ctr := ⟨119, ps, rs, true, f K⟩
noncomputable def G (K : Nat) : List Ctr := []
noncomputable def live_l0 : List (Nat × List Coe) := [(0, [.ro true 132 t2]), (1, [.keep]), (5, [.keep])]
noncomputable def L : List (Nat × List (Nat × List Coe)) := [(3, live_l0)]
noncomputable def body : Code := bodyOf Tryz.f119
noncomputable abbrev ev (K : Nat) : Code → St → (Ex → St → Option Res) → Option Res := evK (G K) T_S L K
noncomputable abbrev fin : Ex → St → Option Res := finK T_S ps rs true Tryz.f119.results.toList
noncomputable def S_l0 (x : Args ps) (a : A_l0) : St := mkSt [(0, ⟨0, .one, [.ro true 132 t2 x.1]⟩), (1, ⟨0, .one, [.int .i64 x.2.1]⟩), (5, ⟨0, .one, [.int .i64 a]⟩)]
noncomputable def k_l0 (K : Nat) (x : Args ps) : Ex → St → Option Res := kAt (ev K) body [1, 0, 1, 0] fin
noncomputable def N_l0 (K : Nat) (x : Args ps) : A_l0 → Option Res := fun a => evLoop live_l0 (ev K (sub body [1, 0, 1, 0, 0])) K (S_l0 x a) (k_l0 K x)
end spec_l3Find
namespace spec_l21Self
@[reducible] def ps : List PK := [.rd t61]
@[reducible] def rs : List RK := [.v .bool]
abbrev Res := Ress rs × Outs ps
noncomputable def pre (K : Nat) (x : Args ps) : Option Res := (spec_l3Find.f K (x.1.2.2.2.2.2.2.2.2.1, x.1.1, ())).bind fun y1 => bif decide (y1.1.1 < 0) then (some ((false, ()), ())) else ((idx x.1.2.2.2.2.2.2.2.2.1 y1.1.1).bind fun y2 => bif x.1.2.2.1 then (bif y2.2.1 == x.1.2.2.2.2.1 then (bif y2.2.2.1 == 4 then (some ((y2.2.2.2 == x.1.2.2.2.1, ()), ())) else (some ((false, ()), ()))) else (some ((false, ()), ()))) else (bif y2.2.1 == x.1.2.2.2.2.1 then (bif y2.2.2.1 == 1 then (some ((y2.2.2.2 == x.1.2.2.2.1, ()), ())) else (some ((false, ()), ()))) else (some ((false, ()), ()))))
noncomputable def f (K : Nat) (x : Args ps) : Option Res := pre K x
noncomputable def c (K : Nat) : Ctr := ⟨157, ps, rs, true, f K⟩
noncomputable def G (K : Nat) : List Ctr := [spec_l3Find.c K]
noncomputable def L : List (Nat × List (Nat × List Coe)) := []
noncomputable def body : Code := bodyOf Tryz.f157
noncomputable abbrev ev (K : Nat) : Code → St → (Ex → St → Option Res) → Option Res := evK (G K) T_S L K
noncomputable abbrev fin : Ex → St → Option Res := finK T_S ps rs true Tryz.f157.results.toList
end spec_l21Self
namespace spec_l3Over
@[reducible] def ps : List PK := [.rd t2, .rd t2]
@[reducible] def rs : List RK := [.v .bool]
abbrev Res := Ress rs × Outs ps
noncomputable def pre (K : Nat) (x : Args ps) : Option Res := bif x.1.2.1 != x.2.1.2.1 then (some ((decide (x.1.2.1 > x.2.1.2.1), ()), ())) else (bif x.1.2.2.1 != x.2.1.2.2.1 then (some ((decide (x.1.2.2.1 > x.2.1.2.2.1), ()), ())) else (bif x.1.2.2.2 then (some ((!x.2.1.2.2.2, ()), ())) else (some ((false, ()), ()))))
noncomputable def f (K : Nat) (x : Args ps) : Option Res := pre K x
noncomputable def c (K : Nat) : Ctr := ⟨187, ps, rs, true, f K⟩
noncomputable def G (K : Nat) : List Ctr := []
noncomputable def L : List (Nat × List (Nat × List Coe)) := []
noncomputable def body : Code := bodyOf Tryz.f187
noncomputable abbrev ev (K : Nat) : Code → St → (Ex → St → Option Res) → Option Res := evK (G K) T_S L K
noncomputable abbrev fin : Ex → St → Option Res := finK T_S ps rs true Tryz.f187.results.toList
end spec_l3Over
namespace spec_CastOk
@[reducible] def ps : List PK := [.rd (.list false 173 t3)]
@[reducible] def rs : List RK := [.v .bool]
abbrev Res := Ress rs × Outs ps
abbrev A_l0 := Int
noncomputable def l0.step (K : Nat) (x : Args ps) (rec_l0 : A_l0 → Option Res) (a : A_l0) : Option Res := bif decide (a < (List.length x.1 : Int)) then ((idx x.1 a).bind fun y1 => (spec_FactOk.f K (y1.1, ())).bind fun y2 => bif !y2.1.1 then (some ((false, ()), ())) else ((idx x.1 a).bind fun y3 => (spec_l1In.f K (y3.2, 1, 4, ())).bind fun y4 => bif !y4.1.1 then (some ((false, ()), ())) else (bif decide (a > 0) then ((idx x.1 (wr .i64 (a - 1))).bind fun y5 => (idx x.1 a).bind fun y6 => bif decide (y5.1.1 ≥ y6.1.1) then (some ((false, ()), ())) else (rec_l0 (wr .i64 (a + 1)))) else (rec_l0 (wr .i64 (a + 1)))))) else (some ((true, ()), ()))
noncomputable def l0 (K : Nat) (x : Args ps) : A_l0 → Option Res := iterate (fun rec_l0 a => l0.step K x rec_l0 a) K
noncomputable def pre (K : Nat) (N_l0 : A_l0 → Option Res) (x : Args ps) : Option Res := N_l0 0
noncomputable def f (K : Nat) (x : Args ps) : Option Res := pre K (l0 K x) x
noncomputable def c (K : Nat) : Ctr := ⟨230, ps, rs, true, f K⟩
noncomputable def G (K : Nat) : List Ctr := [spec_l1In.c K, spec_FactOk.c K]
noncomputable def live_l0 : List (Nat × List Coe) := [(0, [.ro true 173 t3]), (3, [.keep])]
noncomputable def L : List (Nat × List (Nat × List Coe)) := [(3, live_l0)]
noncomputable def body : Code := bodyOf Tryz.f230
noncomputable abbrev ev (K : Nat) : Code → St → (Ex → St → Option Res) → Option Res := evK (G K) T_S L K
noncomputable abbrev fin : Ex → St → Option Res := finK T_S ps rs true Tryz.f230.results.toList
noncomputable def S_l0 (x : Args ps) (a : A_l0) : St := mkSt [(0, ⟨0, .one, [.ro true 173 t3 x.1]⟩), (3, ⟨0, .one, [.int .i64 a]⟩)]
noncomputable def k_l0 (K : Nat) (x : Args ps) : Ex → St → Option Res := kAt (ev K) body [1, 0, 1, 0] fin
noncomputable def N_l0 (K : Nat) (x : Args ps) : A_l0 → Option Res := fun a => evLoop live_l0 (ev K (sub body [1, 0, 1, 0, 0])) K (S_l0 x a) (k_l0 K x)
end spec_CastOk
namespace spec_l21CastOk
@[reducible] def ps : List PK := [.rd t61]
@[reducible] def rs : List RK := [.v .bool]
abbrev Res := Ress rs × Outs ps
abbrev A_l0 := Int
noncomputable def l0.step (K : Nat) (x : Args ps) (rec_l0 : A_l0 → Option Res) (a : A_l0) : Option Res := bif decide (a < (List.length x.1.2.2.2.2.2.2.2.2.2.1 : Int)) then ((idx x.1.2.2.2.2.2.2.2.2.2.1 a).bind fun y2 => (spec_l3Find.f K (x.1.2.2.2.2.2.2.2.2.1, y2.1.1, ())).bind fun y3 => bif decide (y3.1.1 < 0) then (some ((false, ()), ())) else ((idx x.1.2.2.2.2.2.2.2.2.2.1 a).bind fun y4 => (idx x.1.2.2.2.2.2.2.2.2.1 y3.1.1).bind fun y5 => (spec_l3Over.f K (y4.1, y5, ())).bind fun y6 => bif y6.1.1 then (some ((false, ()), ())) else (rec_l0 (wr .i64 (a + 1))))) else (some ((true, ()), ()))
noncomputable def l0 (K : Nat) (x : Args ps) : A_l0 → Option Res := iterate (fun rec_l0 a => l0.step K x rec_l0 a) K
noncomputable def pre (K : Nat) (N_l0 : A_l0 → Option Res) (x : Args ps) : Option Res := (spec_CastOk.f K (x.1.2.2.2.2.2.2.2.2.2.1, ())).bind fun y1 => bif !y1.1.1 then (some ((false, ()), ())) else (N_l0 0)
noncomputable def f (K : Nat) (x : Args ps) : Option Res := pre K (l0 K x) x
noncomputable def c (K : Nat) : Ctr := ⟨158, ps, rs, true, f K⟩
noncomputable def G (K : Nat) : List Ctr := [spec_l3Find.c K, spec_l3Over.c K, spec_CastOk.c K]
noncomputable def live_l0 : List (Nat × List Coe) := [(1, [.keep]), (3, [.keep]), (100001, [.keep, .keep, .keep, .keep, .keep, .keep, .keep, .keep, .ro true 132 t2, .ro true 173 t3, .keep, .keep, .keep, .keep, .ro true 177 t15, .keep, .keep, .keep, .keep, .ro true 94 t17, .ro true 119 t18])]
noncomputable def L : List (Nat × List (Nat × List Coe)) := [(5, live_l0)]
noncomputable def body : Code := bodyOf Tryz.f158
noncomputable abbrev ev (K : Nat) : Code → St → (Ex → St → Option Res) → Option Res := evK (G K) T_S L K
noncomputable abbrev fin : Ex → St → Option Res := finK T_S ps rs true Tryz.f158.results.toList
noncomputable def S_l0 (x : Args ps) (a : A_l0) : St := mkSt [(1, ⟨0, .one, [.bp 100001 0]⟩), (3, ⟨0, .one, [.int .i64 a]⟩), (100001, ⟨0, .agg, [.int .i64 x.1.1, .bool x.1.2.1, .bool x.1.2.2.1, .bool x.1.2.2.2.1, .int .i64 x.1.2.2.2.2.1, .int .i64 x.1.2.2.2.2.2.1, .int .i64 x.1.2.2.2.2.2.2.1, .int .i64 x.1.2.2.2.2.2.2.2.1, .ro true 132 t2 x.1.2.2.2.2.2.2.2.2.1, .ro true 173 t3 x.1.2.2.2.2.2.2.2.2.2.1, .int .i64 x.1.2.2.2.2.2.2.2.2.2.2.1.1, .int .i64 x.1.2.2.2.2.2.2.2.2.2.2.1.2.1, .int .i64 x.1.2.2.2.2.2.2.2.2.2.2.1.2.2.1, .bool x.1.2.2.2.2.2.2.2.2.2.2.1.2.2.2, .ro true 177 t15 x.1.2.2.2.2.2.2.2.2.2.2.2.1, .int .i64 x.1.2.2.2.2.2.2.2.2.2.2.2.2.1.1, .int .i64 x.1.2.2.2.2.2.2.2.2.2.2.2.2.1.2.1, .int .i64 x.1.2.2.2.2.2.2.2.2.2.2.2.2.1.2.2.1, .int .i64 x.1.2.2.2.2.2.2.2.2.2.2.2.2.1.2.2.2, .ro true 94 t17 x.1.2.2.2.2.2.2.2.2.2.2.2.2.2.1, .ro true 119 t18 x.1.2.2.2.2.2.2.2.2.2.2.2.2.2.2]⟩)]
noncomputable def k_l0 (K : Nat) (x : Args ps) : Ex → St → Option Res := kAt (ev K) body [1, 1, 0, 1, 0] fin
noncomputable def N_l0 (K : Nat) (x : Args ps) : A_l0 → Option Res := fun a => evLoop live_l0 (ev K (sub body [1, 1, 0, 1, 0, 0])) K (S_l0 x a) (k_l0 K x)
end spec_l21CastOk
namespace spec_l21ProbeOk
@[reducible] def ps : List PK := [.rd t61]
@[reducible] def rs : List RK := [.v .bool]
abbrev Res := Ress rs × Outs ps
noncomputable def pre (K : Nat) (x : Args ps) : Option Res := bif x.1.2.2.2.2.2.2.2.2.2.2.1.1 == (-1) then (bif x.1.2.2.2.2.2.2.2.2.2.2.1.2.1 == 0 then (bif x.1.2.2.2.2.2.2.2.2.2.2.1.2.2.1 == 0 then (some ((!x.1.2.2.2.2.2.2.2.2.2.2.1.2.2.2, ()), ())) else (some ((false, ()), ()))) else (some ((false, ()), ()))) else (bif x.1.2.2.2.2.2.2.2.2.2.2.1.1 != x.1.1 then ((spec_l3Find.f K (x.1.2.2.2.2.2.2.2.2.1, x.1.2.2.2.2.2.2.2.2.2.2.1.1, ())).bind fun y1 => bif decide (y1.1.1 ≥ 0) then ((spec_l1In.f K (x.1.2.2.2.2.2.2.2.2.2.2.1.2.1, 0, x.1.2.2.2.2.2.1, ())).bind fun y2 => bif y2.1.1 then ((spec_l1In.f K (x.1.2.2.2.2.2.2.2.2.2.2.1.2.2.1, 1, x.1.2.2.2.2.2.2.1, ())).bind fun y3 => some ((y3.1.1, ()), ())) else (some ((false, ()), ()))) else (some ((false, ()), ()))) else (some ((false, ()), ())))
noncomputable def f (K : Nat) (x : Args ps) : Option Res := pre K x
noncomputable def c (K : Nat) : Ctr := ⟨159, ps, rs, true, f K⟩
noncomputable def G (K : Nat) : List Ctr := [spec_l1In.c K, spec_l3Find.c K]
noncomputable def L : List (Nat × List (Nat × List Coe)) := []
noncomputable def body : Code := bodyOf Tryz.f159
noncomputable abbrev ev (K : Nat) : Code → St → (Ex → St → Option Res) → Option Res := evK (G K) T_S L K
noncomputable abbrev fin : Ex → St → Option Res := finK T_S ps rs true Tryz.f159.results.toList
end spec_l21ProbeOk
namespace spec_l21DoubtsOk
@[reducible] def ps : List PK := [.rd t61]
@[reducible] def rs : List RK := [.v .bool]
abbrev Res := Ress rs × Outs ps
abbrev A_l1 := Int × Int × Int × Int × Int × List (Ty.den (.int .i64))
abbrev A_l2 := Int × Int
abbrev A_l0 := Int
noncomputable def l1.step (K : Nat) (x : Args ps) (rec_l0 : A_l0 → Option Res) (rec_l1 : A_l1 → Option Res) (a : A_l1) : Option Res := bif decide (a.2.1 < (List.length a.2.2.2.2.2 : Int)) then ((idx a.2.2.2.2.2 a.2.1).bind fun y7 => (spec_l1In.f K (y7, 0, 7, ())).bind fun y8 => bif !y8.1.1 then (some ((false, ()), ())) else ((idx a.2.2.2.2.2 a.2.1).bind fun y9 => (spec_l21Site.f K (y9, ())).bind fun y10 => (spec_l21Site.f K (x.1.1, ())).bind fun y11 => bif y10.1.1 != y11.1.1 then (some ((false, ()), ())) else (bif decide (a.2.1 > 0) then ((idx a.2.2.2.2.2 (wr .i64 (a.2.1 - 1))).bind fun y12 => (idx a.2.2.2.2.2 a.2.1).bind fun y13 => bif decide (y12 ≥ y13) then (some ((false, ()), ())) else (rec_l1 (a.1, wr .i64 (a.2.1 + 1), a.2.2.1, a.2.2.2.1, a.2.2.2.2.1, a.2.2.2.2.2))) else (rec_l1 (a.1, wr .i64 (a.2.1 + 1), a.2.2.1, a.2.2.2.1, a.2.2.2.2.1, a.2.2.2.2.2))))) else (rec_l0 (wr .i64 (a.1 + 1)))
noncomputable def l1 (K : Nat) (x : Args ps) (rec_l0 : A_l0 → Option Res) : A_l1 → Option Res := iterate (fun rec_l1 a => l1.step K x rec_l0 rec_l1 a) K
noncomputable def l2.step (K : Nat) (x : Args ps) (rec_l2 : A_l2 → Option Res) (a : A_l2) : Option Res := bif decide (a.2 < (List.length x.1.2.2.2.2.2.2.2.2.1 : Int)) then ((idx x.1.2.2.2.2.2.2.2.2.1 a.2).bind fun y17 => bif y17.2.2.1 == 2 then (rec_l2 (wr .i64 (a.1 + 1), wr .i64 (a.2 + 1))) else (rec_l2 (a.1, wr .i64 (a.2 + 1)))) else (some ((a.1 == (List.length x.1.2.2.2.2.2.2.2.2.2.2.2.1 : Int), ()), ()))
noncomputable def l2 (K : Nat) (x : Args ps) : A_l2 → Option Res := iterate (fun rec_l2 a => l2.step K x rec_l2 a) K
noncomputable def l0.step (K : Nat) (x : Args ps) (N_l1 : A_l1 → Option Res) (N_l2 : A_l2 → Option Res) (rec_l0 : A_l0 → Option Res) (a : A_l0) : Option Res := bif decide (a < (List.length x.1.2.2.2.2.2.2.2.2.2.2.2.1 : Int)) then ((idx x.1.2.2.2.2.2.2.2.2.2.2.2.1 a).bind fun y1 => (spec_l3Find.f K (x.1.2.2.2.2.2.2.2.2.1, y1.1, ())).bind fun y2 => bif decide (a > 0) then ((idx x.1.2.2.2.2.2.2.2.2.2.2.2.1 (wr .i64 (a - 1))).bind fun y3 => bif decide (y3.1 ≥ y1.1) then (some ((false, ()), ())) else (bif decide (y2.1.1 < 0) then (some ((false, ()), ())) else ((idx x.1.2.2.2.2.2.2.2.2.1 y2.1.1).bind fun y4 => bif y4.2.2.1 != 2 then (some ((false, ()), ())) else ((idx x.1.2.2.2.2.2.2.2.2.1 y2.1.1).bind fun y5 => bif y5.2.1 != y1.2.1 then (some ((false, ()), ())) else ((spec_l1In.f K (y1.2.2.1, 0, x.1.2.2.2.2.2.1, ())).bind fun y6 => bif !y6.1.1 then (some ((false, ()), ())) else (bif (List.length y1.2.2.2 : Int) == 0 then (some ((false, ()), ())) else (N_l1 (a, 0, y1.1, y1.2.1, y1.2.2.1, y1.2.2.2)))))))) else (bif decide (y2.1.1 < 0) then (some ((false, ()), ())) else ((idx x.1.2.2.2.2.2.2.2.2.1 y2.1.1).bind fun y14 => bif y14.2.2.1 != 2 then (some ((false, ()), ())) else ((idx x.1.2.2.2.2.2.2.2.2.1 y2.1.1).bind fun y15 => bif y15.2.1 != y1.2.1 then (some ((false, ()), ())) else ((spec_l1In.f K (y1.2.2.1, 0, x.1.2.2.2.2.2.1, ())).bind fun y16 => bif !y16.1.1 then (some ((false, ()), ())) else (bif (List.length y1.2.2.2 : Int) == 0 then (some ((false, ()), ())) else (N_l1 (a, 0, y1.1, y1.2.1, y1.2.2.1, y1.2.2.2)))))))) else (N_l2 (0, 0))
noncomputable def l0 (K : Nat) (x : Args ps) : A_l0 → Option Res := iterate (fun rec_l0 a => l0.step K x (l1 K x rec_l0) (l2 K x) rec_l0 a) K
noncomputable def pre (K : Nat) (N_l0 : A_l0 → Option Res) (x : Args ps) : Option Res := N_l0 0
noncomputable def f (K : Nat) (x : Args ps) : Option Res := pre K (l0 K x) x
noncomputable def c (K : Nat) : Ctr := ⟨160, ps, rs, true, f K⟩
noncomputable def G (K : Nat) : List Ctr := [spec_l21Site.c K, spec_l1In.c K, spec_l3Find.c K]
noncomputable def live_l1 : List (Nat × List Coe) := [(1, [.keep]), (3, [.keep]), (4, [.keep]), (6, [.keep]), (100001, [.keep, .keep, .keep, .keep, .keep, .keep, .keep, .keep, .ro true 132 t2, .ro true 173 t3, .keep, .keep, .keep, .keep, .ro true 177 t15, .keep, .keep, .keep, .keep, .ro true 94 t17, .ro true 119 t18]), (100004, [.keep, .keep, .keep, .ro true 3 (.int .i64)])]
noncomputable def live_l2 : List (Nat × List Coe) := [(1, [.keep]), (7, [.keep]), (8, [.keep]), (100001, [.keep, .keep, .keep, .keep, .keep, .keep, .keep, .keep, .ro true 132 t2, .ro true 173 t3, .keep, .keep, .keep, .keep, .ro true 177 t15, .keep, .keep, .keep, .keep, .ro true 94 t17, .ro true 119 t18])]
noncomputable def live_l0 : List (Nat × List Coe) := [(1, [.keep]), (3, [.keep]), (100001, [.keep, .keep, .keep, .keep, .keep, .keep, .keep, .keep, .ro true 132 t2, .ro true 173 t3, .keep, .keep, .keep, .keep, .ro true 177 t15, .keep, .keep, .keep, .keep, .ro true 94 t17, .ro true 119 t18])]
noncomputable def L : List (Nat × List (Nat × List Coe)) := [(10, live_l1), (16, live_l2), (3, live_l0)]
noncomputable def body : Code := bodyOf Tryz.f160
noncomputable abbrev ev (K : Nat) : Code → St → (Ex → St → Option Res) → Option Res := evK (G K) T_S L K
noncomputable abbrev fin : Ex → St → Option Res := finK T_S ps rs true Tryz.f160.results.toList
noncomputable def S_l0 (x : Args ps) (a : A_l0) : St := mkSt [(1, ⟨0, .one, [.bp 100001 0]⟩), (3, ⟨0, .one, [.int .i64 a]⟩), (100001, ⟨0, .agg, [.int .i64 x.1.1, .bool x.1.2.1, .bool x.1.2.2.1, .bool x.1.2.2.2.1, .int .i64 x.1.2.2.2.2.1, .int .i64 x.1.2.2.2.2.2.1, .int .i64 x.1.2.2.2.2.2.2.1, .int .i64 x.1.2.2.2.2.2.2.2.1, .ro true 132 t2 x.1.2.2.2.2.2.2.2.2.1, .ro true 173 t3 x.1.2.2.2.2.2.2.2.2.2.1, .int .i64 x.1.2.2.2.2.2.2.2.2.2.2.1.1, .int .i64 x.1.2.2.2.2.2.2.2.2.2.2.1.2.1, .int .i64 x.1.2.2.2.2.2.2.2.2.2.2.1.2.2.1, .bool x.1.2.2.2.2.2.2.2.2.2.2.1.2.2.2, .ro true 177 t15 x.1.2.2.2.2.2.2.2.2.2.2.2.1, .int .i64 x.1.2.2.2.2.2.2.2.2.2.2.2.2.1.1, .int .i64 x.1.2.2.2.2.2.2.2.2.2.2.2.2.1.2.1, .int .i64 x.1.2.2.2.2.2.2.2.2.2.2.2.2.1.2.2.1, .int .i64 x.1.2.2.2.2.2.2.2.2.2.2.2.2.1.2.2.2, .ro true 94 t17 x.1.2.2.2.2.2.2.2.2.2.2.2.2.2.1, .ro true 119 t18 x.1.2.2.2.2.2.2.2.2.2.2.2.2.2.2]⟩)]
noncomputable def S_l2 (x : Args ps) (a : A_l2) : St := mkSt [(1, ⟨0, .one, [.bp 100001 0]⟩), (7, ⟨0, .one, [.int .i64 a.1]⟩), (8, ⟨0, .one, [.int .i64 a.2]⟩), (100001, ⟨0, .agg, [.int .i64 x.1.1, .bool x.1.2.1, .bool x.1.2.2.1, .bool x.1.2.2.2.1, .int .i64 x.1.2.2.2.2.1, .int .i64 x.1.2.2.2.2.2.1, .int .i64 x.1.2.2.2.2.2.2.1, .int .i64 x.1.2.2.2.2.2.2.2.1, .ro true 132 t2 x.1.2.2.2.2.2.2.2.2.1, .ro true 173 t3 x.1.2.2.2.2.2.2.2.2.2.1, .int .i64 x.1.2.2.2.2.2.2.2.2.2.2.1.1, .int .i64 x.1.2.2.2.2.2.2.2.2.2.2.1.2.1, .int .i64 x.1.2.2.2.2.2.2.2.2.2.2.1.2.2.1, .bool x.1.2.2.2.2.2.2.2.2.2.2.1.2.2.2, .ro true 177 t15 x.1.2.2.2.2.2.2.2.2.2.2.2.1, .int .i64 x.1.2.2.2.2.2.2.2.2.2.2.2.2.1.1, .int .i64 x.1.2.2.2.2.2.2.2.2.2.2.2.2.1.2.1, .int .i64 x.1.2.2.2.2.2.2.2.2.2.2.2.2.1.2.2.1, .int .i64 x.1.2.2.2.2.2.2.2.2.2.2.2.2.1.2.2.2, .ro true 94 t17 x.1.2.2.2.2.2.2.2.2.2.2.2.2.2.1, .ro true 119 t18 x.1.2.2.2.2.2.2.2.2.2.2.2.2.2.2]⟩)]
noncomputable def S_l1 (x : Args ps) (a : A_l1) : St := mkSt [(1, ⟨0, .one, [.bp 100001 0]⟩), (3, ⟨0, .one, [.int .i64 a.1]⟩), (4, ⟨0, .one, [.bp 100004 0]⟩), (6, ⟨0, .one, [.int .i64 a.2.1]⟩), (100001, ⟨0, .agg, [.int .i64 x.1.1, .bool x.1.2.1, .bool x.1.2.2.1, .bool x.1.2.2.2.1, .int .i64 x.1.2.2.2.2.1, .int .i64 x.1.2.2.2.2.2.1, .int .i64 x.1.2.2.2.2.2.2.1, .int .i64 x.1.2.2.2.2.2.2.2.1, .ro true 132 t2 x.1.2.2.2.2.2.2.2.2.1, .ro true 173 t3 x.1.2.2.2.2.2.2.2.2.2.1, .int .i64 x.1.2.2.2.2.2.2.2.2.2.2.1.1, .int .i64 x.1.2.2.2.2.2.2.2.2.2.2.1.2.1, .int .i64 x.1.2.2.2.2.2.2.2.2.2.2.1.2.2.1, .bool x.1.2.2.2.2.2.2.2.2.2.2.1.2.2.2, .ro true 177 t15 x.1.2.2.2.2.2.2.2.2.2.2.2.1, .int .i64 x.1.2.2.2.2.2.2.2.2.2.2.2.2.1.1, .int .i64 x.1.2.2.2.2.2.2.2.2.2.2.2.2.1.2.1, .int .i64 x.1.2.2.2.2.2.2.2.2.2.2.2.2.1.2.2.1, .int .i64 x.1.2.2.2.2.2.2.2.2.2.2.2.2.1.2.2.2, .ro true 94 t17 x.1.2.2.2.2.2.2.2.2.2.2.2.2.2.1, .ro true 119 t18 x.1.2.2.2.2.2.2.2.2.2.2.2.2.2.2]⟩), (100004, ⟨0, .agg, [.int .i64 a.2.2.1, .int .i64 a.2.2.2.1, .int .i64 a.2.2.2.2.1, .ro true 3 (.int .i64) a.2.2.2.2.2]⟩)]
noncomputable def k_l0 (K : Nat) (x : Args ps) : Ex → St → Option Res := kAt (ev K) body [1, 0, 1, 0] fin
noncomputable def N_l0 (K : Nat) (x : Args ps) : A_l0 → Option Res := fun a => evLoop live_l0 (ev K (sub body [1, 0, 1, 0, 0])) K (S_l0 x a) (k_l0 K x)
noncomputable def k_l2 (K : Nat) (x : Args ps) : Ex → St → Option Res := kAt (ev K) body [1, 1, 1, 0, 1, 0] fin
noncomputable def N_l2 (K : Nat) (x : Args ps) : A_l2 → Option Res := fun a => evLoop live_l2 (ev K (sub body [1, 1, 1, 0, 1, 0, 0])) K (S_l2 x a) (k_l2 K x)
noncomputable def k_l1 (K : Nat) (x : Args ps) (r_l0 : St → Option Res) : Ex → St → Option Res := kAt (ev K) (sub body [1, 0, 1, 0, 0]) [1, 0, 0, 1, 1, 1, 1, 0] (kLoop live_l0 r_l0 (k_l0 K x))
noncomputable def N_l1 (K : Nat) (x : Args ps) (r_l0 : St → Option Res) : A_l1 → Option Res := fun a => evLoop live_l1 (ev K (sub body [1, 0, 1, 0, 0, 1, 0, 0, 1, 1, 1, 1, 0, 0])) K (S_l1 x a) (k_l1 K x r_l0)
end spec_l21DoubtsOk
namespace spec_CoordOk
@[reducible] def ps : List PK := [.rd t9]
@[reducible] def rs : List RK := [.v .bool]
abbrev Res := Ress rs × Outs ps
noncomputable def pre (K : Nat) (x : Args ps) : Option Res := (spec_l1In.f K (x.1.1, (-100000), 100000, ())).bind fun y1 => bif y1.1.1 then ((spec_l1In.f K (x.1.2.1, (-100000), 100000, ())).bind fun y2 => bif y2.1.1 then ((spec_l1In.f K (x.1.2.2.1, 0, 100000, ())).bind fun y3 => bif y3.1.1 then ((spec_l1In.f K (x.1.2.2.2, 1, 1500, ())).bind fun y4 => some ((y4.1.1, ()), ())) else (some ((false, ()), ()))) else (some ((false, ()), ()))) else (some ((false, ()), ()))
noncomputable def f (K : Nat) (x : Args ps) : Option Res := pre K x
noncomputable def c (K : Nat) : Ctr := ⟨161, ps, rs, true, f K⟩
noncomputable def G (K : Nat) : List Ctr := [spec_l1In.c K]
noncomputable def L : List (Nat × List (Nat × List Coe)) := []
noncomputable def body : Code := bodyOf Tryz.f161
noncomputable abbrev ev (K : Nat) : Code → St → (Ex → St → Option Res) → Option Res := evK (G K) T_S L K
noncomputable abbrev fin : Ex → St → Option Res := finK T_S ps rs true Tryz.f161.results.toList
end spec_CoordOk
namespace spec_l21PlacesOk
@[reducible] def ps : List PK := [.rd t61]
@[reducible] def rs : List RK := [.v .bool]
abbrev Res := Ress rs × Outs ps
abbrev A_l1 := Int × Int × Int × Int × Int × Int × Int × List (Ty.den (.int .i64))
abbrev A_l0 := Int
noncomputable def l1.step (K : Nat) (x : Args ps) (rec_l0 : A_l0 → Option Res) (rec_l1 : A_l1 → Option Res) (a : A_l1) : Option Res := bif decide (a.2.1 < (List.length a.2.2.2.2.2.2.2 : Int)) then ((idx a.2.2.2.2.2.2.2 a.2.1).bind fun y8 => (spec_l1In.f K (y8, 1, 60000, ())).bind fun y9 => bif !y9.1.1 then (some ((false, ()), ())) else (rec_l1 (a.1, wr .i64 (a.2.1 + 1), a.2.2.1, a.2.2.2.1, a.2.2.2.2.1, a.2.2.2.2.2.1, a.2.2.2.2.2.2.1, a.2.2.2.2.2.2.2))) else (rec_l0 (wr .i64 (a.1 + 1)))
noncomputable def l1 (K : Nat) (x : Args ps) (rec_l0 : A_l0 → Option Res) : A_l1 → Option Res := iterate (fun rec_l1 a => l1.step K x rec_l0 rec_l1 a) K
noncomputable def l0.step (K : Nat) (x : Args ps) (N_l1 : A_l1 → Option Res) (rec_l0 : A_l0 → Option Res) (a : A_l0) : Option Res := bif decide (a < (List.length x.1.2.2.2.2.2.2.2.2.2.2.2.2.2.1 : Int)) then ((idx x.1.2.2.2.2.2.2.2.2.2.2.2.2.2.1 a).bind fun y1 => (spec_l1In.f K (y1.1, 0, 7, ())).bind fun y2 => bif !y2.1.1 then (some ((false, ()), ())) else ((spec_l21Site.f K (y1.1, ())).bind fun y3 => (spec_l21Site.f K (x.1.1, ())).bind fun y4 => bif y3.1.1 != y4.1.1 then (some ((false, ()), ())) else (bif y1.1 == x.1.1 then (some ((false, ()), ())) else (bif decide (a > 0) then ((idx x.1.2.2.2.2.2.2.2.2.2.2.2.2.2.1 (wr .i64 (a - 1))).bind fun y5 => bif decide (y5.1 ≥ y1.1) then (some ((false, ()), ())) else ((spec_CoordOk.f K (y1.2.1, ())).bind fun y6 => bif !y6.1.1 then (some ((false, ()), ())) else ((spec_l1In.f K ((List.length y1.2.2 : Int), 1, 3, ())).bind fun y7 => bif !y7.1.1 then (some ((false, ()), ())) else (N_l1 (a, 0, y1.1, y1.2.1.1, y1.2.1.2.1, y1.2.1.2.2.1, y1.2.1.2.2.2, y1.2.2))))) else ((spec_CoordOk.f K (y1.2.1, ())).bind fun y10 => bif !y10.1.1 then (some ((false, ()), ())) else ((spec_l1In.f K ((List.length y1.2.2 : Int), 1, 3, ())).bind fun y11 => bif !y11.1.1 then (some ((false, ()), ())) else (N_l1 (a, 0, y1.1, y1.2.1.1, y1.2.1.2.1, y1.2.1.2.2.1, y1.2.1.2.2.2, y1.2.2)))))))) else (some ((true, ()), ()))
noncomputable def l0 (K : Nat) (x : Args ps) : A_l0 → Option Res := iterate (fun rec_l0 a => l0.step K x (l1 K x rec_l0) rec_l0 a) K
noncomputable def pre (K : Nat) (N_l0 : A_l0 → Option Res) (x : Args ps) : Option Res := N_l0 0
noncomputable def f (K : Nat) (x : Args ps) : Option Res := pre K (l0 K x) x
noncomputable def c (K : Nat) : Ctr := ⟨162, ps, rs, true, f K⟩
noncomputable def G (K : Nat) : List Ctr := [spec_l21Site.c K, spec_l1In.c K, spec_CoordOk.c K]
noncomputable def live_l1 : List (Nat × List Coe) := [(1, [.keep]), (3, [.keep]), (4, [.keep]), (5, [.keep]), (100001, [.keep, .keep, .keep, .keep, .keep, .keep, .keep, .keep, .ro true 132 t2, .ro true 173 t3, .keep, .keep, .keep, .keep, .ro true 177 t15, .keep, .keep, .keep, .keep, .ro true 94 t17, .ro true 119 t18]), (100004, [.keep, .keep, .keep, .keep, .keep, .ro true 3 (.int .i64)])]
noncomputable def live_l0 : List (Nat × List Coe) := [(1, [.keep]), (3, [.keep]), (100001, [.keep, .keep, .keep, .keep, .keep, .keep, .keep, .keep, .ro true 132 t2, .ro true 173 t3, .keep, .keep, .keep, .keep, .ro true 177 t15, .keep, .keep, .keep, .keep, .ro true 94 t17, .ro true 119 t18])]
noncomputable def L : List (Nat × List (Nat × List Coe)) := [(9, live_l1), (3, live_l0)]
noncomputable def body : Code := bodyOf Tryz.f162
noncomputable abbrev ev (K : Nat) : Code → St → (Ex → St → Option Res) → Option Res := evK (G K) T_S L K
noncomputable abbrev fin : Ex → St → Option Res := finK T_S ps rs true Tryz.f162.results.toList
noncomputable def S_l0 (x : Args ps) (a : A_l0) : St := mkSt [(1, ⟨0, .one, [.bp 100001 0]⟩), (3, ⟨0, .one, [.int .i64 a]⟩), (100001, ⟨0, .agg, [.int .i64 x.1.1, .bool x.1.2.1, .bool x.1.2.2.1, .bool x.1.2.2.2.1, .int .i64 x.1.2.2.2.2.1, .int .i64 x.1.2.2.2.2.2.1, .int .i64 x.1.2.2.2.2.2.2.1, .int .i64 x.1.2.2.2.2.2.2.2.1, .ro true 132 t2 x.1.2.2.2.2.2.2.2.2.1, .ro true 173 t3 x.1.2.2.2.2.2.2.2.2.2.1, .int .i64 x.1.2.2.2.2.2.2.2.2.2.2.1.1, .int .i64 x.1.2.2.2.2.2.2.2.2.2.2.1.2.1, .int .i64 x.1.2.2.2.2.2.2.2.2.2.2.1.2.2.1, .bool x.1.2.2.2.2.2.2.2.2.2.2.1.2.2.2, .ro true 177 t15 x.1.2.2.2.2.2.2.2.2.2.2.2.1, .int .i64 x.1.2.2.2.2.2.2.2.2.2.2.2.2.1.1, .int .i64 x.1.2.2.2.2.2.2.2.2.2.2.2.2.1.2.1, .int .i64 x.1.2.2.2.2.2.2.2.2.2.2.2.2.1.2.2.1, .int .i64 x.1.2.2.2.2.2.2.2.2.2.2.2.2.1.2.2.2, .ro true 94 t17 x.1.2.2.2.2.2.2.2.2.2.2.2.2.2.1, .ro true 119 t18 x.1.2.2.2.2.2.2.2.2.2.2.2.2.2.2]⟩)]
noncomputable def S_l1 (x : Args ps) (a : A_l1) : St := mkSt [(1, ⟨0, .one, [.bp 100001 0]⟩), (3, ⟨0, .one, [.int .i64 a.1]⟩), (4, ⟨0, .one, [.bp 100004 0]⟩), (5, ⟨0, .one, [.int .i64 a.2.1]⟩), (100001, ⟨0, .agg, [.int .i64 x.1.1, .bool x.1.2.1, .bool x.1.2.2.1, .bool x.1.2.2.2.1, .int .i64 x.1.2.2.2.2.1, .int .i64 x.1.2.2.2.2.2.1, .int .i64 x.1.2.2.2.2.2.2.1, .int .i64 x.1.2.2.2.2.2.2.2.1, .ro true 132 t2 x.1.2.2.2.2.2.2.2.2.1, .ro true 173 t3 x.1.2.2.2.2.2.2.2.2.2.1, .int .i64 x.1.2.2.2.2.2.2.2.2.2.2.1.1, .int .i64 x.1.2.2.2.2.2.2.2.2.2.2.1.2.1, .int .i64 x.1.2.2.2.2.2.2.2.2.2.2.1.2.2.1, .bool x.1.2.2.2.2.2.2.2.2.2.2.1.2.2.2, .ro true 177 t15 x.1.2.2.2.2.2.2.2.2.2.2.2.1, .int .i64 x.1.2.2.2.2.2.2.2.2.2.2.2.2.1.1, .int .i64 x.1.2.2.2.2.2.2.2.2.2.2.2.2.1.2.1, .int .i64 x.1.2.2.2.2.2.2.2.2.2.2.2.2.1.2.2.1, .int .i64 x.1.2.2.2.2.2.2.2.2.2.2.2.2.1.2.2.2, .ro true 94 t17 x.1.2.2.2.2.2.2.2.2.2.2.2.2.2.1, .ro true 119 t18 x.1.2.2.2.2.2.2.2.2.2.2.2.2.2.2]⟩), (100004, ⟨0, .agg, [.int .i64 a.2.2.1, .int .i64 a.2.2.2.1, .int .i64 a.2.2.2.2.1, .int .i64 a.2.2.2.2.2.1, .int .i64 a.2.2.2.2.2.2.1, .ro true 3 (.int .i64) a.2.2.2.2.2.2.2]⟩)]
noncomputable def k_l0 (K : Nat) (x : Args ps) : Ex → St → Option Res := kAt (ev K) body [1, 0, 1, 0] fin
noncomputable def N_l0 (K : Nat) (x : Args ps) : A_l0 → Option Res := fun a => evLoop live_l0 (ev K (sub body [1, 0, 1, 0, 0])) K (S_l0 x a) (k_l0 K x)
noncomputable def k_l1 (K : Nat) (x : Args ps) (r_l0 : St → Option Res) : Ex → St → Option Res := kAt (ev K) (sub body [1, 0, 1, 0, 0]) [1, 0, 0, 1, 1, 1, 0] (kLoop live_l0 r_l0 (k_l0 K x))
noncomputable def N_l1 (K : Nat) (x : Args ps) (r_l0 : St → Option Res) : A_l1 → Option Res := fun a => evLoop live_l1 (ev K (sub body [1, 0, 1, 0, 0, 1, 0, 0, 1, 1, 1, 0, 0])) K (S_l1 x a) (k_l1 K x r_l0)
end spec_l21PlacesOk
namespace spec_l21OthersOk
@[reducible] def ps : List PK := [.rd t61]
@[reducible] def rs : List RK := [.v .bool]
abbrev Res := Ress rs × Outs ps
abbrev A_l0 := Int
noncomputable def l0.step (K : Nat) (x : Args ps) (rec_l0 : A_l0 → Option Res) (a : A_l0) : Option Res := bif decide (a < (List.length x.1.2.2.2.2.2.2.2.2.2.2.2.2.2.2 : Int)) then ((idx x.1.2.2.2.2.2.2.2.2.2.2.2.2.2.2 a).bind fun y1 => (spec_l1In.f K (y1.1, 0, 1, ())).bind fun y2 => bif !y2.1.1 then (some ((false, ()), ())) else ((spec_l21Site.f K (x.1.1, ())).bind fun y3 => bif y1.1 == y3.1.1 then (some ((false, ()), ())) else (bif decide (a > 0) then ((idx x.1.2.2.2.2.2.2.2.2.2.2.2.2.2.2 (wr .i64 (a - 1))).bind fun y4 => bif decide (y4.1 ≥ y1.1) then (some ((false, ()), ())) else (bif (List.length y1.2 : Int) == 0 then (some ((false, ()), ())) else ((spec_TableOk.f K (y1.2, ())).bind fun y5 => bif !y5.1.1 then (some ((false, ()), ())) else ((spec_l4Site.f K (y1.2, y1.1, ())).bind fun y6 => bif !y6.1.1 then (some ((false, ()), ())) else (rec_l0 (wr .i64 (a + 1))))))) else (bif (List.length y1.2 : Int) == 0 then (some ((false, ()), ())) else ((spec_TableOk.f K (y1.2, ())).bind fun y7 => bif !y7.1.1 then (some ((false, ()), ())) else ((spec_l4Site.f K (y1.2, y1.1, ())).bind fun y8 => bif !y8.1.1 then (some ((false, ()), ())) else (rec_l0 (wr .i64 (a + 1))))))))) else (some ((true, ()), ()))
noncomputable def l0 (K : Nat) (x : Args ps) : A_l0 → Option Res := iterate (fun rec_l0 a => l0.step K x rec_l0 a) K
noncomputable def pre (K : Nat) (N_l0 : A_l0 → Option Res) (x : Args ps) : Option Res := N_l0 0
noncomputable def f (K : Nat) (x : Args ps) : Option Res := pre K (l0 K x) x
noncomputable def c (K : Nat) : Ctr := ⟨163, ps, rs, true, f K⟩
noncomputable def G (K : Nat) : List Ctr := [spec_l21Site.c K, spec_l1In.c K, spec_TableOk.c K, spec_l4Site.c K]
noncomputable def live_l0 : List (Nat × List Coe) := [(1, [.keep]), (3, [.keep]), (100001, [.keep, .keep, .keep, .keep, .keep, .keep, .keep, .keep, .ro true 132 t2, .ro true 173 t3, .keep, .keep, .keep, .keep, .ro true 177 t15, .keep, .keep, .keep, .keep, .ro true 94 t17, .ro true 119 t18])]
noncomputable def L : List (Nat × List (Nat × List Coe)) := [(3, live_l0)]
noncomputable def body : Code := bodyOf Tryz.f163
noncomputable abbrev ev (K : Nat) : Code → St → (Ex → St → Option Res) → Option Res := evK (G K) T_S L K
noncomputable abbrev fin : Ex → St → Option Res := finK T_S ps rs true Tryz.f163.results.toList
noncomputable def S_l0 (x : Args ps) (a : A_l0) : St := mkSt [(1, ⟨0, .one, [.bp 100001 0]⟩), (3, ⟨0, .one, [.int .i64 a]⟩), (100001, ⟨0, .agg, [.int .i64 x.1.1, .bool x.1.2.1, .bool x.1.2.2.1, .bool x.1.2.2.2.1, .int .i64 x.1.2.2.2.2.1, .int .i64 x.1.2.2.2.2.2.1, .int .i64 x.1.2.2.2.2.2.2.1, .int .i64 x.1.2.2.2.2.2.2.2.1, .ro true 132 t2 x.1.2.2.2.2.2.2.2.2.1, .ro true 173 t3 x.1.2.2.2.2.2.2.2.2.2.1, .int .i64 x.1.2.2.2.2.2.2.2.2.2.2.1.1, .int .i64 x.1.2.2.2.2.2.2.2.2.2.2.1.2.1, .int .i64 x.1.2.2.2.2.2.2.2.2.2.2.1.2.2.1, .bool x.1.2.2.2.2.2.2.2.2.2.2.1.2.2.2, .ro true 177 t15 x.1.2.2.2.2.2.2.2.2.2.2.2.1, .int .i64 x.1.2.2.2.2.2.2.2.2.2.2.2.2.1.1, .int .i64 x.1.2.2.2.2.2.2.2.2.2.2.2.2.1.2.1, .int .i64 x.1.2.2.2.2.2.2.2.2.2.2.2.2.1.2.2.1, .int .i64 x.1.2.2.2.2.2.2.2.2.2.2.2.2.1.2.2.2, .ro true 94 t17 x.1.2.2.2.2.2.2.2.2.2.2.2.2.2.1, .ro true 119 t18 x.1.2.2.2.2.2.2.2.2.2.2.2.2.2.2]⟩)]
noncomputable def k_l0 (K : Nat) (x : Args ps) : Ex → St → Option Res := kAt (ev K) body [1, 0, 1, 0] fin
noncomputable def N_l0 (K : Nat) (x : Args ps) : A_l0 → Option Res := fun a => evLoop live_l0 (ev K (sub body [1, 0, 1, 0, 0])) K (S_l0 x a) (k_l0 K x)
end spec_l21OthersOk
namespace spec_NodeOk
@[reducible] def ps : List PK := [.rd t61]
@[reducible] def rs : List RK := [.v .bool]
abbrev Res := Ress rs × Outs ps
noncomputable def pre (K : Nat) (x : Args ps) : Option Res := (spec_l1In.f K (x.1.1, 0, 7, ())).bind fun y1 => bif !y1.1.1 then (some ((false, ()), ())) else ((spec_l1In.f K (x.1.2.2.2.2.2.1, 0, 999999, ())).bind fun y2 => bif !y2.1.1 then (some ((false, ()), ())) else ((spec_l1In.f K (x.1.2.2.2.2.2.2.1, 0, 999999, ())).bind fun y3 => bif !y3.1.1 then (some ((false, ()), ())) else ((spec_l1In.f K (x.1.2.2.2.2.2.2.2.1, 0, 8, ())).bind fun y4 => bif !y4.1.1 then (some ((false, ()), ())) else ((spec_l1In.f K (x.1.2.2.2.2.1, 0, 999, ())).bind fun y5 => bif !y5.1.1 then (some ((false, ()), ())) else (bif !x.1.2.1 then (bif !x.1.2.2.1 then (bif x.1.2.2.2.2.1 == 0 then (bif x.1.2.2.2.2.2.1 == 0 then (bif x.1.2.2.2.2.2.2.1 == 0 then (bif x.1.2.2.2.2.2.2.2.1 == 0 then (bif (wr .i64 ((wr .i64 ((wr .i64 ((wr .i64 ((List.length x.1.2.2.2.2.2.2.2.2.1 : Int) + (List.length x.1.2.2.2.2.2.2.2.2.2.1 : Int))) + (List.length x.1.2.2.2.2.2.2.2.2.2.2.2.1 : Int))) + (List.length x.1.2.2.2.2.2.2.2.2.2.2.2.2.2.1 : Int))) + (List.length x.1.2.2.2.2.2.2.2.2.2.2.2.2.2.2 : Int))) == 0 then (bif x.1.2.2.2.2.2.2.2.2.2.2.1.1 == 0 then (bif x.1.2.2.2.2.2.2.2.2.2.2.1.2.1 == 0 then (bif x.1.2.2.2.2.2.2.2.2.2.2.1.2.2.1 == 0 then (bif !x.1.2.2.2.2.2.2.2.2.2.2.1.2.2.2 then (bif x.1.2.2.2.2.2.2.2.2.2.2.2.2.1.1 == 0 then (bif x.1.2.2.2.2.2.2.2.2.2.2.2.2.1.2.1 == 0 then (bif x.1.2.2.2.2.2.2.2.2.2.2.2.2.1.2.2.1 == 0 then (some ((x.1.2.2.2.2.2.2.2.2.2.2.2.2.1.2.2.2 == 0, ()), ())) else (some ((false, ()), ()))) else (some ((false, ()), ()))) else (some ((false, ()), ()))) else (some ((false, ()), ()))) else (some ((false, ()), ()))) else (some ((false, ()), ()))) else (some ((false, ()), ()))) else (some ((false, ()), ()))) else (some ((false, ()), ()))) else (some ((false, ()), ()))) else (some ((false, ()), ()))) else (some ((false, ()), ()))) else (some ((false, ()), ()))) else ((spec_TableOk.f K (x.1.2.2.2.2.2.2.2.2.1, ())).bind fun y6 => bif y6.1.1 then ((spec_l21Site.f K (x.1.1, ())).bind fun y7 => (spec_l4Site.f K (x.1.2.2.2.2.2.2.2.2.1, y7.1.1, ())).bind fun y8 => bif y8.1.1 then ((spec_l21Self.f K (x.1, ())).bind fun y9 => bif y9.1.1 then ((spec_l21CastOk.f K (x.1, ())).bind fun y10 => bif y10.1.1 then ((spec_l21ProbeOk.f K (x.1, ())).bind fun y11 => bif y11.1.1 then ((spec_l21DoubtsOk.f K (x.1, ())).bind fun y12 => bif y12.1.1 then ((spec_CoordOk.f K (x.1.2.2.2.2.2.2.2.2.2.2.2.2.1, ())).bind fun y13 => bif y13.1.1 then ((spec_l21PlacesOk.f K (x.1, ())).bind fun y14 => bif y14.1.1 then ((spec_l21OthersOk.f K (x.1, ())).bind fun y15 => some ((y15.1.1, ()), ())) else (some ((false, ()), ()))) else (some ((false, ()), ()))) else (some ((false, ()), ()))) else (some ((false, ()), ()))) else (some ((false, ()), ()))) else (some ((false, ()), ()))) else (some ((false, ()), ()))) else (some ((false, ()), ()))))))))
noncomputable def f (K : Nat) (x : Args ps) : Option Res := pre K x
noncomputable def c (K : Nat) : Ctr := ⟨65, ps, rs, true, f K⟩
noncomputable def G (K : Nat) : List Ctr := [spec_l21Site.c K, spec_l1In.c K, spec_TableOk.c K, spec_l4Site.c K, spec_l21Self.c K, spec_l21CastOk.c K, spec_l21ProbeOk.c K, spec_l21DoubtsOk.c K, spec_CoordOk.c K, spec_l21PlacesOk.c K, spec_l21OthersOk.c K]
noncomputable def L : List (Nat × List (Nat × List Coe)) := []
noncomputable def body : Code := bodyOf Tryz.f65
noncomputable abbrev ev (K : Nat) : Code → St → (Ex → St → Option Res) → Option Res := evK (G K) T_S L K
noncomputable abbrev fin : Ex → St → Option Res := finK T_S ps rs true Tryz.f65.results.toList
end spec_NodeOk
namespace spec_l21Copy
@[reducible] def ps : List PK := [.rd t61]
@[reducible] def rs : List RK := [.v t75]
abbrev Res := Ress rs × Outs ps
abbrev A_l2 := Int × List (Ty.den t15) × List (Ty.den t17) × List (Ty.den t18)
abbrev A_l1 := Int × List (Ty.den t15) × List (Ty.den t17)
abbrev A_l0 := Int × List (Ty.den t15)
noncomputable def l2.step (K : Nat) (x : Args ps) (rec_l2 : A_l2 → Option Res) (a : A_l2) : Option Res := bif decide (a.1 < (List.length x.1.2.2.2.2.2.2.2.2.2.2.2.2.2.2 : Int)) then ((idx x.1.2.2.2.2.2.2.2.2.2.2.2.2.2.2 a.1).bind fun y3 => bif decide ((List.length ([] : List (Ty.den t2)) + List.length y3.2) * 32 ≤ sizeK) then (bif decide ((List.length a.2.2.2 + List.length ([(y3.1, [] ++ y3.2)])) * 32 ≤ sizeK) then (rec_l2 (wr .i64 (a.1 + 1), a.2.1, a.2.2.1, a.2.2.2 ++ ([(y3.1, [] ++ y3.2)]))) else none) else none) else (some (((x.1.1, (x.1.2.1, (x.1.2.2.1, (x.1.2.2.2.1, (x.1.2.2.2.2.1, (x.1.2.2.2.2.2.1, (x.1.2.2.2.2.2.2.1, (x.1.2.2.2.2.2.2.2.1, ([] ++ x.1.2.2.2.2.2.2.2.2.1, ([] ++ x.1.2.2.2.2.2.2.2.2.2.1, (x.1.2.2.2.2.2.2.2.2.2.2.1, (a.2.1, (x.1.2.2.2.2.2.2.2.2.2.2.2.2.1, a.2.2))))))))))))), ()), ()))
noncomputable def l2 (K : Nat) (x : Args ps) : A_l2 → Option Res := iterate (fun rec_l2 a => l2.step K x rec_l2 a) K
noncomputable def l1.step (K : Nat) (x : Args ps) (N_l2 : A_l2 → Option Res) (rec_l1 : A_l1 → Option Res) (a : A_l1) : Option Res := bif decide (a.1 < (List.length x.1.2.2.2.2.2.2.2.2.2.2.2.2.2.1 : Int)) then ((idx x.1.2.2.2.2.2.2.2.2.2.2.2.2.2.1 a.1).bind fun y2 => bif decide ((List.length ([] : List (Ty.den (.int .i64))) + List.length y2.2.2) * 8 ≤ sizeK) then (bif decide ((List.length a.2.2 + List.length ([(y2.1, (y2.2.1, [] ++ y2.2.2))])) * 64 ≤ sizeK) then (rec_l1 (wr .i64 (a.1 + 1), a.2.1, a.2.2 ++ ([(y2.1, (y2.2.1, [] ++ y2.2.2))]))) else none) else none) else (N_l2 (0, a.2.1, a.2.2, []))
noncomputable def l1 (K : Nat) (x : Args ps) : A_l1 → Option Res := iterate (fun rec_l1 a => l1.step K x (l2 K x) rec_l1 a) K
noncomputable def l0.step (K : Nat) (x : Args ps) (N_l1 : A_l1 → Option Res) (rec_l0 : A_l0 → Option Res) (a : A_l0) : Option Res := bif decide (a.1 < (List.length x.1.2.2.2.2.2.2.2.2.2.2.2.1 : Int)) then ((idx x.1.2.2.2.2.2.2.2.2.2.2.2.1 a.1).bind fun y1 => bif decide ((List.length ([] : List (Ty.den (.int .i64))) + List.length y1.2.2.2) * 8 ≤ sizeK) then (bif decide ((List.length a.2 + List.length ([(y1.1, (y1.2.1, (y1.2.2.1, [] ++ y1.2.2.2)))])) * 48 ≤ sizeK) then (rec_l0 (wr .i64 (a.1 + 1), a.2 ++ ([(y1.1, (y1.2.1, (y1.2.2.1, [] ++ y1.2.2.2)))]))) else none) else none) else (N_l1 (0, a.2, []))
noncomputable def l0 (K : Nat) (x : Args ps) : A_l0 → Option Res := iterate (fun rec_l0 a => l0.step K x (l1 K x) rec_l0 a) K
noncomputable def pre (K : Nat) (N_l0 : A_l0 → Option Res) (x : Args ps) : Option Res := bif decide ((List.length ([] : List (Ty.den t2)) + List.length x.1.2.2.2.2.2.2.2.2.1) * 32 ≤ sizeK) then (bif decide ((List.length ([] : List (Ty.den t3)) + List.length x.1.2.2.2.2.2.2.2.2.2.1) * 40 ≤ sizeK) then (N_l0 (0, [])) else none) else none
noncomputable def f (K : Nat) (x : Args ps) : Option Res := pre K (l0 K x) x
noncomputable def c (K : Nat) : Ctr := ⟨126, ps, rs, true, f K⟩
noncomputable def G (K : Nat) : List Ctr := []
noncomputable def live_l2 : List (Nat × List Coe) := [(1, [.keep]), (2, [.keep]), (3, [.keep]), (8, [.keep]), (100001, [.keep, .keep, .keep, .keep, .keep, .keep, .keep, .keep, .ro true 132 t2, .ro true 173 t3, .keep, .keep, .keep, .keep, .ro true 177 t15, .keep, .keep, .keep, .keep, .ro true 94 t17, .ro true 119 t18]), (100002, [.keep, .keep, .keep, .keep, .keep, .keep, .keep, .keep, .keep, .keep, .keep, .keep, .keep, .keep, .keep, .keep, .keep, .keep, .keep, .keep, .keep]), (100003, [.keep, .keep, .keep, .keep, .keep, .keep, .keep, .keep, .own false 132 t2, .own false 173 t3, .keep, .keep, .keep, .keep, .own false 177 t15, .keep, .keep, .keep, .keep, .own false 94 t17, .own false 119 t18])]
noncomputable def live_l1 : List (Nat × List Coe) := [(1, [.keep]), (2, [.keep]), (3, [.keep]), (6, [.keep]), (100001, [.keep, .keep, .keep, .keep, .keep, .keep, .keep, .keep, .ro true 132 t2, .ro true 173 t3, .keep, .keep, .keep, .keep, .ro true 177 t15, .keep, .keep, .keep, .keep, .ro true 94 t17, .ro true 119 t18]), (100002, [.keep, .keep, .keep, .keep, .keep, .keep, .keep, .keep, .keep, .keep, .keep, .keep, .keep, .keep, .keep, .keep, .keep, .keep, .keep, .keep, .keep]), (100003, [.keep, .keep, .keep, .keep, .keep, .keep, .keep, .keep, .own false 132 t2, .own false 173 t3, .keep, .keep, .keep, .keep, .own false 177 t15, .keep, .keep, .keep, .keep, .own false 94 t17, .ro true 119 t18])]
noncomputable def live_l0 : List (Nat × List Coe) := [(1, [.keep]), (2, [.keep]), (3, [.keep]), (4, [.keep]), (100001, [.keep, .keep, .keep, .keep, .keep, .keep, .keep, .keep, .ro true 132 t2, .ro true 173 t3, .keep, .keep, .keep, .keep, .ro true 177 t15, .keep, .keep, .keep, .keep, .ro true 94 t17, .ro true 119 t18]), (100002, [.keep, .keep, .keep, .keep, .keep, .keep, .keep, .keep, .keep, .keep, .keep, .keep, .keep, .keep, .keep, .keep, .keep, .keep, .keep, .keep, .keep]), (100003, [.keep, .keep, .keep, .keep, .keep, .keep, .keep, .keep, .own false 132 t2, .own false 173 t3, .keep, .keep, .keep, .keep, .own false 177 t15, .keep, .keep, .keep, .keep, .ro true 94 t17, .ro true 119 t18])]
noncomputable def L : List (Nat × List (Nat × List Coe)) := [(21, live_l2), (14, live_l1), (7, live_l0)]
noncomputable def body : Code := bodyOf Tryz.f126
noncomputable abbrev ev (K : Nat) : Code → St → (Ex → St → Option Res) → Option Res := evK (G K) T_ND L K
noncomputable abbrev fin : Ex → St → Option Res := finK T_ND ps rs true Tryz.f126.results.toList
noncomputable def S_l0 (x : Args ps) (a : A_l0) : St := mkSt [(1, ⟨0, .one, [.bp 100001 0]⟩), (2, ⟨0, .one, [.bp 100002 0]⟩), (3, ⟨0, .one, [.bp 100003 0]⟩), (4, ⟨0, .one, [.int .i64 a.1]⟩), (100001, ⟨0, .agg, [.int .i64 x.1.1, .bool x.1.2.1, .bool x.1.2.2.1, .bool x.1.2.2.2.1, .int .i64 x.1.2.2.2.2.1, .int .i64 x.1.2.2.2.2.2.1, .int .i64 x.1.2.2.2.2.2.2.1, .int .i64 x.1.2.2.2.2.2.2.2.1, .ro true 132 t2 x.1.2.2.2.2.2.2.2.2.1, .ro true 173 t3 x.1.2.2.2.2.2.2.2.2.2.1, .int .i64 x.1.2.2.2.2.2.2.2.2.2.2.1.1, .int .i64 x.1.2.2.2.2.2.2.2.2.2.2.1.2.1, .int .i64 x.1.2.2.2.2.2.2.2.2.2.2.1.2.2.1, .bool x.1.2.2.2.2.2.2.2.2.2.2.1.2.2.2, .ro true 177 t15 x.1.2.2.2.2.2.2.2.2.2.2.2.1, .int .i64 x.1.2.2.2.2.2.2.2.2.2.2.2.2.1.1, .int .i64 x.1.2.2.2.2.2.2.2.2.2.2.2.2.1.2.1, .int .i64 x.1.2.2.2.2.2.2.2.2.2.2.2.2.1.2.2.1, .int .i64 x.1.2.2.2.2.2.2.2.2.2.2.2.2.1.2.2.2, .ro true 94 t17 x.1.2.2.2.2.2.2.2.2.2.2.2.2.2.1, .ro true 119 t18 x.1.2.2.2.2.2.2.2.2.2.2.2.2.2.2]⟩), (100002, ⟨0, .agg, [.int .i64 0, .bool false, .bool false, .bool false, .int .i64 0, .int .i64 0, .int .i64 0, .int .i64 0, .nil, .nil, .int .i64 0, .int .i64 0, .int .i64 0, .bool false, .nil, .int .i64 0, .int .i64 0, .int .i64 0, .int .i64 0, .nil, .nil]⟩), (100003, ⟨0, .agg, [.int .i64 x.1.1, .bool x.1.2.1, .bool x.1.2.2.1, .bool x.1.2.2.2.1, .int .i64 x.1.2.2.2.2.1, .int .i64 x.1.2.2.2.2.2.1, .int .i64 x.1.2.2.2.2.2.2.1, .int .i64 x.1.2.2.2.2.2.2.2.1, .own false none 132 t2 ([] ++ x.1.2.2.2.2.2.2.2.2.1), .own false none 173 t3 ([] ++ x.1.2.2.2.2.2.2.2.2.2.1), .int .i64 x.1.2.2.2.2.2.2.2.2.2.2.1.1, .int .i64 x.1.2.2.2.2.2.2.2.2.2.2.1.2.1, .int .i64 x.1.2.2.2.2.2.2.2.2.2.2.1.2.2.1, .bool x.1.2.2.2.2.2.2.2.2.2.2.1.2.2.2, .own false none 177 t15 a.2, .int .i64 x.1.2.2.2.2.2.2.2.2.2.2.2.2.1.1, .int .i64 x.1.2.2.2.2.2.2.2.2.2.2.2.2.1.2.1, .int .i64 x.1.2.2.2.2.2.2.2.2.2.2.2.2.1.2.2.1, .int .i64 x.1.2.2.2.2.2.2.2.2.2.2.2.2.1.2.2.2, .ro true 94 t17 x.1.2.2.2.2.2.2.2.2.2.2.2.2.2.1, .ro true 119 t18 x.1.2.2.2.2.2.2.2.2.2.2.2.2.2.2]⟩)]
noncomputable def S_l1 (x : Args ps) (a : A_l1) : St := mkSt [(1, ⟨0, .one, [.bp 100001 0]⟩), (2, ⟨0, .one, [.bp 100002 0]⟩), (3, ⟨0, .one, [.bp 100003 0]⟩), (6, ⟨0, .one, [.int .i64 a.1]⟩), (100001, ⟨0, .agg, [.int .i64 x.1.1, .bool x.1.2.1, .bool x.1.2.2.1, .bool x.1.2.2.2.1, .int .i64 x.1.2.2.2.2.1, .int .i64 x.1.2.2.2.2.2.1, .int .i64 x.1.2.2.2.2.2.2.1, .int .i64 x.1.2.2.2.2.2.2.2.1, .ro true 132 t2 x.1.2.2.2.2.2.2.2.2.1, .ro true 173 t3 x.1.2.2.2.2.2.2.2.2.2.1, .int .i64 x.1.2.2.2.2.2.2.2.2.2.2.1.1, .int .i64 x.1.2.2.2.2.2.2.2.2.2.2.1.2.1, .int .i64 x.1.2.2.2.2.2.2.2.2.2.2.1.2.2.1, .bool x.1.2.2.2.2.2.2.2.2.2.2.1.2.2.2, .ro true 177 t15 x.1.2.2.2.2.2.2.2.2.2.2.2.1, .int .i64 x.1.2.2.2.2.2.2.2.2.2.2.2.2.1.1, .int .i64 x.1.2.2.2.2.2.2.2.2.2.2.2.2.1.2.1, .int .i64 x.1.2.2.2.2.2.2.2.2.2.2.2.2.1.2.2.1, .int .i64 x.1.2.2.2.2.2.2.2.2.2.2.2.2.1.2.2.2, .ro true 94 t17 x.1.2.2.2.2.2.2.2.2.2.2.2.2.2.1, .ro true 119 t18 x.1.2.2.2.2.2.2.2.2.2.2.2.2.2.2]⟩), (100002, ⟨0, .agg, [.int .i64 0, .bool false, .bool false, .bool false, .int .i64 0, .int .i64 0, .int .i64 0, .int .i64 0, .nil, .nil, .int .i64 0, .int .i64 0, .int .i64 0, .bool false, .nil, .int .i64 0, .int .i64 0, .int .i64 0, .int .i64 0, .nil, .nil]⟩), (100003, ⟨0, .agg, [.int .i64 x.1.1, .bool x.1.2.1, .bool x.1.2.2.1, .bool x.1.2.2.2.1, .int .i64 x.1.2.2.2.2.1, .int .i64 x.1.2.2.2.2.2.1, .int .i64 x.1.2.2.2.2.2.2.1, .int .i64 x.1.2.2.2.2.2.2.2.1, .own false none 132 t2 ([] ++ x.1.2.2.2.2.2.2.2.2.1), .own false none 173 t3 ([] ++ x.1.2.2.2.2.2.2.2.2.2.1), .int .i64 x.1.2.2.2.2.2.2.2.2.2.2.1.1, .int .i64 x.1.2.2.2.2.2.2.2.2.2.2.1.2.1, .int .i64 x.1.2.2.2.2.2.2.2.2.2.2.1.2.2.1, .bool x.1.2.2.2.2.2.2.2.2.2.2.1.2.2.2, .own false none 177 t15 a.2.1, .int .i64 x.1.2.2.2.2.2.2.2.2.2.2.2.2.1.1, .int .i64 x.1.2.2.2.2.2.2.2.2.2.2.2.2.1.2.1, .int .i64 x.1.2.2.2.2.2.2.2.2.2.2.2.2.1.2.2.1, .int .i64 x.1.2.2.2.2.2.2.2.2.2.2.2.2.1.2.2.2, .own false none 94 t17 a.2.2, .ro true 119 t18 x.1.2.2.2.2.2.2.2.2.2.2.2.2.2.2]⟩)]
noncomputable def S_l2 (x : Args ps) (a : A_l2) : St := mkSt [(1, ⟨0, .one, [.bp 100001 0]⟩), (2, ⟨0, .one, [.bp 100002 0]⟩), (3, ⟨0, .one, [.bp 100003 0]⟩), (8, ⟨0, .one, [.int .i64 a.1]⟩), (100001, ⟨0, .agg, [.int .i64 x.1.1, .bool x.1.2.1, .bool x.1.2.2.1, .bool x.1.2.2.2.1, .int .i64 x.1.2.2.2.2.1, .int .i64 x.1.2.2.2.2.2.1, .int .i64 x.1.2.2.2.2.2.2.1, .int .i64 x.1.2.2.2.2.2.2.2.1, .ro true 132 t2 x.1.2.2.2.2.2.2.2.2.1, .ro true 173 t3 x.1.2.2.2.2.2.2.2.2.2.1, .int .i64 x.1.2.2.2.2.2.2.2.2.2.2.1.1, .int .i64 x.1.2.2.2.2.2.2.2.2.2.2.1.2.1, .int .i64 x.1.2.2.2.2.2.2.2.2.2.2.1.2.2.1, .bool x.1.2.2.2.2.2.2.2.2.2.2.1.2.2.2, .ro true 177 t15 x.1.2.2.2.2.2.2.2.2.2.2.2.1, .int .i64 x.1.2.2.2.2.2.2.2.2.2.2.2.2.1.1, .int .i64 x.1.2.2.2.2.2.2.2.2.2.2.2.2.1.2.1, .int .i64 x.1.2.2.2.2.2.2.2.2.2.2.2.2.1.2.2.1, .int .i64 x.1.2.2.2.2.2.2.2.2.2.2.2.2.1.2.2.2, .ro true 94 t17 x.1.2.2.2.2.2.2.2.2.2.2.2.2.2.1, .ro true 119 t18 x.1.2.2.2.2.2.2.2.2.2.2.2.2.2.2]⟩), (100002, ⟨0, .agg, [.int .i64 0, .bool false, .bool false, .bool false, .int .i64 0, .int .i64 0, .int .i64 0, .int .i64 0, .nil, .nil, .int .i64 0, .int .i64 0, .int .i64 0, .bool false, .nil, .int .i64 0, .int .i64 0, .int .i64 0, .int .i64 0, .nil, .nil]⟩), (100003, ⟨0, .agg, [.int .i64 x.1.1, .bool x.1.2.1, .bool x.1.2.2.1, .bool x.1.2.2.2.1, .int .i64 x.1.2.2.2.2.1, .int .i64 x.1.2.2.2.2.2.1, .int .i64 x.1.2.2.2.2.2.2.1, .int .i64 x.1.2.2.2.2.2.2.2.1, .own false none 132 t2 ([] ++ x.1.2.2.2.2.2.2.2.2.1), .own false none 173 t3 ([] ++ x.1.2.2.2.2.2.2.2.2.2.1), .int .i64 x.1.2.2.2.2.2.2.2.2.2.2.1.1, .int .i64 x.1.2.2.2.2.2.2.2.2.2.2.1.2.1, .int .i64 x.1.2.2.2.2.2.2.2.2.2.2.1.2.2.1, .bool x.1.2.2.2.2.2.2.2.2.2.2.1.2.2.2, .own false none 177 t15 a.2.1, .int .i64 x.1.2.2.2.2.2.2.2.2.2.2.2.2.1.1, .int .i64 x.1.2.2.2.2.2.2.2.2.2.2.2.2.1.2.1, .int .i64 x.1.2.2.2.2.2.2.2.2.2.2.2.2.1.2.2.1, .int .i64 x.1.2.2.2.2.2.2.2.2.2.2.2.2.1.2.2.2, .own false none 94 t17 a.2.2.1, .own false none 119 t18 a.2.2.2]⟩)]
noncomputable def k_l0 (K : Nat) (x : Args ps) : Ex → St → Option Res := kAt (ev K) body [1, 1, 1, 1, 1, 0, 1, 0] fin
noncomputable def N_l0 (K : Nat) (x : Args ps) : A_l0 → Option Res := fun a => evLoop live_l0 (ev K (sub body [1, 1, 1, 1, 1, 0, 1, 0, 0])) K (S_l0 x a) (k_l0 K x)
noncomputable def k_l1 (K : Nat) (x : Args ps) : Ex → St → Option Res := kAt (ev K) body [1, 1, 1, 1, 1, 1, 1, 0, 1, 0] fin
noncomputable def N_l1 (K : Nat) (x : Args ps) : A_l1 → Option Res := fun a => evLoop live_l1 (ev K (sub body [1, 1, 1, 1, 1, 1, 1, 0, 1, 0, 0])) K (S_l1 x a) (k_l1 K x)
noncomputable def k_l2 (K : Nat) (x : Args ps) : Ex → St → Option Res := kAt (ev K) body [1, 1, 1, 1, 1, 1, 1, 1, 1, 0, 1, 0] fin
noncomputable def N_l2 (K : Nat) (x : Args ps) : A_l2 → Option Res := fun a => evLoop live_l2 (ev K (sub body [1, 1, 1, 1, 1, 1, 1, 1, 1, 0, 1, 0, 0])) K (S_l2 x a) (k_l2 K x)
end spec_l21Copy
namespace spec_l21Word
@[reducible] def ps : List PK := [.rd t61, .rd (.int .i64), .rd (.int .i64), .rd (.int .i64), .rd (.int .i64), .rd (.list false 132 t2)]
@[reducible] def rs : List RK := [.v t82]
abbrev Res := Ress rs × Outs ps
noncomputable def pre (K : Nat) (x : Args ps) : Option Res := bif decide ((List.length ([] : List (Ty.den t2)) + List.length x.2.2.2.2.2.1) * 32 ≤ sizeK) then (some (((1, (x.2.1, (x.1.1, (x.2.2.1, (x.2.2.2.1, (x.2.2.2.2.1, (x.1.2.2.2.2.2.2.2.2.2.2.2.2.1, [] ++ x.2.2.2.2.2.1))))))), ()), ())) else none
noncomputable def f (K : Nat) (x : Args ps) : Option Res := pre K x
noncomputable def c (K : Nat) : Ctr := ⟨127, ps, rs, true, f K⟩
noncomputable def G (K : Nat) : List Ctr := []
noncomputable def L : List (Nat × List (Nat × List Coe)) := []
noncomputable def body : Code := bodyOf Tryz.f127
noncomputable abbrev ev (K : Nat) : Code → St → (Ex → St → Option Res) → Option Res := evK (G K) T_S L K
noncomputable abbrev fin : Ex → St → Option Res := finK T_S ps rs true Tryz.f127.results.toList
end spec_l21Word
namespace spec_NodeJoin
@[reducible] def ps : List PK := [.rd t61, .rd (.int .i64)]
@[reducible] def rs : List RK := [.v t75, .v (.list true 53 t82)]
abbrev Res := Ress rs × Outs ps
noncomputable def pre (K : Nat) (x : Args ps) : Option Res := (spec_NodeOk.f K (x.1, ())).bind fun y1 => bif !y1.1.1 then (some (((0, (false, (false, (false, (0, (0, (0, (0, ([], ([], ((0, (0, (0, false))), ([], ((0, (0, (0, 0))), ([], [])))))))))))))), [], ()), ())) else (bif !x.1.2.1 then ((spec_l21Copy.f K (x.1, ())).bind fun y2 => some ((y2.1.1, [], ()), ())) else (bif x.1.2.2.1 then ((spec_l21Copy.f K (x.1, ())).bind fun y3 => some ((y3.1.1, [], ()), ())) else ((spec_l1In.f K (x.2.1, 0, 7, ())).bind fun y4 => bif !y4.1.1 then ((spec_l21Copy.f K (x.1, ())).bind fun y5 => some ((y5.1.1, [], ()), ())) else (bif x.2.1 == x.1.1 then ((spec_l21Copy.f K (x.1, ())).bind fun y6 => some ((y6.1.1, [], ()), ())) else ((spec_l21Site.f K (x.2.1, ())).bind fun y7 => (spec_l21Site.f K (x.1.1, ())).bind fun y8 => bif y7.1.1 != y8.1.1 then ((spec_l21Copy.f K (x.1, ())).bind fun y9 => some ((y9.1.1, [], ()), ())) else ((spec_l21Copy.f K (x.1, ())).bind fun y10 => (spec_l21Word.f K (x.1, 4, x.2.1, 0, x.1.1, x.1.2.2.2.2.2.2.2.2.1, ())).bind fun y11 => some ((y10.1.1, [y11.1.1], ()), ())))))))
noncomputable def f (K : Nat) (x : Args ps) : Option Res := pre K x
noncomputable def c (K : Nat) : Ctr := ⟨38, ps, rs, true, f K⟩
noncomputable def G (K : Nat) : List Ctr := [spec_NodeOk.c K, spec_l21Site.c K, spec_l1In.c K, spec_l21Copy.c K, spec_l21Word.c K]
noncomputable def L : List (Nat × List (Nat × List Coe)) := []
noncomputable def body : Code := bodyOf Tryz.f38
noncomputable abbrev ev (K : Nat) : Code → St → (Ex → St → Option Res) → Option Res := evK (G K) T_S L K
noncomputable abbrev fin : Ex → St → Option Res := finK T_S ps rs true Tryz.f38.results.toList
end spec_NodeJoin
namespace impl_in
@[reducible] def ps : List PK := [.rd (.int .i64), .rd (.int .i64), .rd (.int .i64)]
@[reducible] def rs : List RK := [.v .bool]
abbrev Res := Ress rs × Outs ps
noncomputable def pre (K : Nat) (x : Args ps) : Option Res := bif decide (x.1 ≥ x.2.1) then (some ((decide (x.1 ≤ x.2.2.1), ()), ())) else (some ((false, ()), ()))
noncomputable def f (K : Nat) (x : Args ps) : Option Res := pre K x
noncomputable def c (K : Nat) : Ctr := ⟨111, ps, rs, true, f K⟩
noncomputable def G (K : Nat) : List Ctr := []
noncomputable def L : List (Nat × List (Nat × List Coe)) := []
noncomputable def body : Code := bodyOf Tryz.f111
noncomputable abbrev ev (K : Nat) : Code → St → (Ex → St → Option Res) → Option Res := evK (G K) T_D L K
noncomputable abbrev fin : Ex → St → Option Res := finK T_D ps rs true Tryz.f111.results.toList
end impl_in
namespace impl_isNode
@[reducible] def ps : List PK := [.rd (.int .i64)]
@[reducible] def rs : List RK := [.v .bool]
abbrev Res := Ress rs × Outs ps
noncomputable def pre (K : Nat) (x : Args ps) : Option Res := (impl_in.f K (x.1, 0, 7, ())).bind fun y1 => some ((y1.1.1, ()), ())
noncomputable def f (K : Nat) (x : Args ps) : Option Res := pre K x
noncomputable def c (K : Nat) : Ctr := ⟨116, ps, rs, true, f K⟩
noncomputable def G (K : Nat) : List Ctr := [impl_in.c K]
noncomputable def L : List (Nat × List (Nat × List Coe)) := []
noncomputable def body : Code := bodyOf Tryz.f116
noncomputable abbrev ev (K : Nat) : Code → St → (Ex → St → Option Res) → Option Res := evK (G K) T_D L K
noncomputable abbrev fin : Ex → St → Option Res := finK T_D ps rs true Tryz.f116.results.toList
end impl_isNode
namespace impl_Node_isDown
@[reducible] def ps : List PK := [.rd t61]
@[reducible] def rs : List RK := [.v .bool]
abbrev Res := Ress rs × Outs ps
noncomputable def pre (K : Nat) (x : Args ps) : Option Res := bif !x.1.2.2.1 then (bif x.1.2.2.2.2.1 == 0 then (bif x.1.2.2.2.2.2.1 == 0 then (bif x.1.2.2.2.2.2.2.1 == 0 then (bif x.1.2.2.2.2.2.2.2.1 == 0 then (bif (wr .i64 ((wr .i64 ((wr .i64 ((wr .i64 ((List.length x.1.2.2.2.2.2.2.2.2.1 : Int) + (List.length x.1.2.2.2.2.2.2.2.2.2.1 : Int))) + (List.length x.1.2.2.2.2.2.2.2.2.2.2.2.1 : Int))) + (List.length x.1.2.2.2.2.2.2.2.2.2.2.2.2.2.1 : Int))) + (List.length x.1.2.2.2.2.2.2.2.2.2.2.2.2.2.2 : Int))) == 0 then (bif Ty.eqv t2 x.1.2.2.2.2.2.2.2.2.2.2.1 (0, (0, (0, false))) then (some ((Ty.eqv t9 x.1.2.2.2.2.2.2.2.2.2.2.2.2.1 (0, (0, (0, 0))), ()), ())) else (some ((false, ()), ()))) else (some ((false, ()), ()))) else (some ((false, ()), ()))) else (some ((false, ()), ()))) else (some ((false, ()), ()))) else (some ((false, ()), ()))) else (some ((false, ()), ()))
noncomputable def f (K : Nat) (x : Args ps) : Option Res := pre K x
noncomputable def c (K : Nat) : Ctr := ⟨170, ps, rs, true, f K⟩
noncomputable def G (K : Nat) : List Ctr := []
noncomputable def L : List (Nat × List (Nat × List Coe)) := []
noncomputable def body : Code := bodyOf Tryz.f170
noncomputable abbrev ev (K : Nat) : Code → St → (Ex → St → Option Res) → Option Res := evK (G K) T_D L K
noncomputable abbrev fin : Ex → St → Option Res := finK T_D ps rs true Tryz.f170.results.toList
end impl_Node_isDown
namespace slices_IndexFunc_impl_Fact_impl_Fact
@[reducible] def ps : List PK := [.rd (.list false 132 t2), .fn [t2] .bool]
@[reducible] def rs : List RK := [.v (.int .i64)]
abbrev Res := Ress rs × Outs ps
abbrev A_l0 := Int
noncomputable def l0.step (K : Nat) (x : Args ps) (rec_l0 : A_l0 → Option Res) (a : A_l0) : Option Res := bif decide (a < (List.length x.1 : Int)) then ((idx x.1 a).bind fun y1 => (x.2.1 (y1, ())).bind fun y2 => bif y2 then (some ((a, ()), ())) else (rec_l0 (wr .i64 (a + 1)))) else (some (((-1), ()), ()))
noncomputable def l0 (K : Nat) (x : Args ps) : A_l0 → Option Res := iterate (fun rec_l0 a => l0.step K x rec_l0 a) K
noncomputable def pre (K : Nat) (N_l0 : A_l0 → Option Res) (x : Args ps) : Option Res := N_l0 0
noncomputable def f (K : Nat) (x : Args ps) : Option Res := pre K (l0 K x) x
noncomputable def c (K : Nat) : Ctr := ⟨206, ps, rs, true, f K⟩
noncomputable def G (K : Nat) : List Ctr := []
noncomputable def live_l0 : List (Nat × List Coe) := [(0, [.ro true 132 t2]), (1, [.keep]), (7, [.keep]), (8, [.keep])]
noncomputable def L : List (Nat × List (Nat × List Coe)) := [(3, live_l0)]
noncomputable def body : Code := bodyOf Tryz.f206
noncomputable abbrev ev (K : Nat) : Code → St → (Ex → St → Option Res) → Option Res := evK (G K) T_D L K
noncomputable abbrev fin : Ex → St → Option Res := finK T_D ps rs true Tryz.f206.results.toList
noncomputable def S_l0 (x : Args ps) (a : A_l0) : St := mkSt [(0, ⟨0, .one, [.ro true 132 t2 x.1]⟩), (1, ⟨0, .one, [.fn [t2] .bool x.2.1]⟩), (7, ⟨0, .one, [.int .i64 (List.length x.1 : Int)]⟩), (8, ⟨0, .one, [.int .i64 a]⟩)]
noncomputable def k_l0 (K : Nat) (x : Args ps) : Ex → St → Option Res := kAt (ev K) body [1, 0, 1, 0] fin
noncomputable def N_l0 (K : Nat) (x : Args ps) : A_l0 → Option Res := fun a => evLoop live_l0 (ev K (sub body [1, 0, 1, 0, 0])) K (S_l0 x a) (k_l0 K x)
end slices_IndexFunc_impl_Fact_impl_Fact
namespace slices_ContainsFunc_impl_Fact_impl_Fact
@[reducible] def ps : List PK := [.rd (.list false 132 t2), .fn [t2] .bool]
@[reducible] def rs : List RK := [.v .bool]
abbrev Res := Ress rs × Outs ps
noncomputable def pre (K : Nat) (x : Args ps) : Option Res := (slices_IndexFunc_impl_Fact_impl_Fact.f K (x.1, x.2.1, ())).bind fun y1 => some ((decide (y1.1.1 ≥ 0), ()), ())
noncomputable def f (K : Nat) (x : Args ps) : Option Res := pre K x
noncomputable def c (K : Nat) : Ctr := ⟨141, ps, rs, true, f K⟩
noncomputable def G (K : Nat) : List Ctr := [slices_IndexFunc_impl_Fact_impl_Fact.c K]
noncomputable def L : List (Nat × List (Nat × List Coe)) := []
noncomputable def body : Code := bodyOf Tryz.f141
noncomputable abbrev ev (K : Nat) : Code → St → (Ex → St → Option Res) → Option Res := evK (G K) T_D L K
noncomputable abbrev fin : Ex → St → Option Res := finK T_D ps rs true Tryz.f141.results.toList
end slices_ContainsFunc_impl_Fact_impl_Fact
namespace impl_siteOf
@[reducible] def ps : List PK := [.rd (.int .i64)]
@[reducible] def rs : List RK := [.v (.int .i64)]
abbrev Res := Ress rs × Outs ps
noncomputable def pre (K : Nat) (x : Args ps) : Option Res := some ((wr .i64 (Int.tdiv x.1 4), ()), ())
noncomputable def f (K : Nat) (x : Args ps) : Option Res := pre K x
noncomputable def c (K : Nat) : Ctr := ⟨91, ps, rs, true, f K⟩
noncomputable def G (K : Nat) : List Ctr := []
noncomputable def L : List (Nat × List (Nat × List Coe)) := []
noncomputable def body : Code := bodyOf Tryz.f91
noncomputable abbrev ev (K : Nat) : Code → St → (Ex → St → Option Res) → Option Res := evK (G K) T_D L K
noncomputable abbrev fin : Ex → St → Option Res := finK T_D ps rs true Tryz.f91.results.toList
end impl_siteOf
namespace impl_ofSite_1
@[reducible] def ps : List PK := [.rd t2, .rref (.int .i64)]
@[reducible] def rs : List RK := [.v .bool]
abbrev Res := Ress rs × Outs ps
noncomputable def pre (K : Nat) (x : Args ps) : Option Res := (impl_siteOf.f K (x.1.1, ())).bind fun y1 => some ((y1.1.1 != x.2.1, ()), ())
noncomputable def f (K : Nat) (x : Args ps) : Option Res := pre K x
noncomputable def c (K : Nat) : Ctr := ⟨183, ps, rs, true, f K⟩
noncomputable def G (K : Nat) : List Ctr := [impl_siteOf.c K]
noncomputable def L : List (Nat × List (Nat × List Coe)) := []
noncomputable def body : Code := bodyOf Tryz.f183
noncomputable abbrev ev (K : Nat) : Code → St → (Ex → St → Option Res) → Option Res := evK (G K) T_D L K
noncomputable abbrev fin : Ex → St → Option Res := finK T_D ps rs true Tryz.f183.results.toList
end impl_ofSite_1
namespace impl_ofSite
@[reducible] def ps : List PK := [.rd (.list false 132 t2), .rd (.int .i64)]
@[reducible] def rs : List RK := [.v .bool]
abbrev Res := Ress rs × Outs ps
noncomputable def pre (K : Nat) (x : Args ps) : Option Res := (slices_ContainsFunc_impl_Fact_impl_Fact.f K (x.1, fun y1 => (impl_ofSite_1.f K (y1.1, x.2.1, ())).map fun y => y.1.1, ())).bind fun y2 => some ((!y2.1.1, ()), ())
noncomputable def f (K : Nat) (x : Args ps) : Option Res := pre K x
noncomputable def c (K : Nat) : Ctr := ⟨89, ps, rs, true, f K⟩
noncomputable def G (K : Nat) : List Ctr := [slices_ContainsFunc_impl_Fact_impl_Fact.c K, impl_ofSite_1.c K]
noncomputable def L : List (Nat × List (Nat × List Coe)) := []
noncomputable def body : Code := bodyOf Tryz.f89
noncomputable abbrev ev (K : Nat) : Code → St → (Ex → St → Option Res) → Option Res := evK (G K) T_D L K
noncomputable abbrev fin : Ex → St → Option Res := finK T_D ps rs true Tryz.f89.results.toList
end impl_ofSite
namespace impl_Node_site
@[reducible] def ps : List PK := [.rd t61]
@[reducible] def rs : List RK := [.v (.int .i64)]
abbrev Res := Ress rs × Outs ps
noncomputable def pre (K : Nat) (x : Args ps) : Option Res := (impl_siteOf.f K (x.1.1, ())).bind fun y1 => some ((y1.1.1, ()), ())
noncomputable def f (K : Nat) (x : Args ps) : Option Res := pre K x
noncomputable def c (K : Nat) : Ctr := ⟨90, ps, rs, true, f K⟩
noncomputable def G (K : Nat) : List Ctr := [impl_siteOf.c K]
noncomputable def L : List (Nat × List (Nat × List Coe)) := []
noncomputable def body : Code := bodyOf Tryz.f90
noncomputable abbrev ev (K : Nat) : Code → St → (Ex → St → Option Res) → Option Res := evK (G K) T_D L K
noncomputable abbrev fin : Ex → St → Option Res := finK T_D ps rs true Tryz.f90.results.toList
end impl_Node_site
namespace impl_FactOk
@[reducible] def ps : List PK := [.rd t2]
@[reducible] def rs : List RK := [.v .bool]
abbrev Res := Ress rs × Outs ps
noncomputable def pre (K : Nat) (x : Args ps) : Option Res := (impl_isNode.f K (x.1.1, ())).bind fun y1 => bif y1.1.1 then ((impl_in.f K (x.1.2.1, 0, 999, ())).bind fun y2 => bif y2.1.1 then ((impl_in.f K (x.1.2.2.1, 1, 4, ())).bind fun y3 => some ((y3.1.1, ()), ())) else (some ((false, ()), ()))) else (some ((false, ()), ()))
noncomputable def f (K : Nat) (x : Args ps) : Option Res := pre K x
noncomputable def c (K : Nat) : Ctr := ⟨112, ps, rs, true, f K⟩
noncomputable def G (K : Nat) : List Ctr := [impl_in.c K, impl_isNode.c K]
noncomputable def L : List (Nat × List (Nat × List Coe)) := []
noncomputable def body : Code := bodyOf Tryz.f112
noncomputable abbrev ev (K : Nat) : Code → St → (Ex → St → Option Res) → Option Res := evK (G K) T_D L K
noncomputable abbrev fin : Ex → St → Option Res := finK T_D ps rs true Tryz.f112.results.toList
end impl_FactOk
namespace impl_TableOk
@[reducible] def ps : List PK := [.rd (.list false 132 t2)]
@[reducible] def rs : List RK := [.v .bool]
abbrev Res := Ress rs × Outs ps
abbrev A_l0 := Int
noncomputable def l0.step (K : Nat) (x : Args ps) (rec_l0 : A_l0 → Option Res) (a : A_l0) : Option Res := bif decide (a < (List.length x.1 : Int)) then ((idx x.1 a).bind fun y1 => (impl_FactOk.f K (y1, ())).bind fun y2 => bif !y2.1.1 then (some ((false, ()), ())) else (bif decide (a > 0) then ((idx x.1 (wr .i64 (a - 1))).bind fun y3 => bif decide (y1.1 ≤ y3.1) then (some ((false, ()), ())) else (rec_l0 (wr .i64 (a + 1)))) else (rec_l0 (wr .i64 (a + 1))))) else (some ((true, ()), ()))
noncomputable def l0 (K : Nat) (x : Args ps) : A_l0 → Option Res := iterate (fun rec_l0 a => l0.step K x rec_l0 a) K
noncomputable def pre (K : Nat) (N_l0 : A_l0 → Option Res) (x : Args ps) : Option Res := N_l0 0
noncomputable def f (K : Nat) (x : Args ps) : Option Res := pre K (l0 K x) x
noncomputable def c (K : Nat) : Ctr := ⟨182, ps, rs, true, f K⟩
noncomputable def G (K : Nat) : List Ctr := [impl_FactOk.c K]
noncomputable def live_l0 : List (Nat × List Coe) := [(0, [.ro true 132 t2]), (5, [.ro true 132 t2]), (6, [.keep]), (7, [.keep])]
noncomputable def L : List (Nat × List (Nat × List Coe)) := [(3, live_l0)]
noncomputable def body : Code := bodyOf Tryz.f182
noncomputable abbrev ev (K : Nat) : Code → St → (Ex → St → Option Res) → Option Res := evK (G K) T_D L K
noncomputable abbrev fin : Ex → St → Option Res := finK T_D ps rs true Tryz.f182.results.toList
noncomputable def S_l0 (x : Args ps) (a : A_l0) : St := mkSt [(0, ⟨0, .one, [.ro true 132 t2 x.1]⟩), (5, ⟨0, .one, [.ro true 132 t2 x.1]⟩), (6, ⟨0, .one, [.int .i64 (List.length x.1 : Int)]⟩), (7, ⟨0, .one, [.int .i64 a]⟩)]
noncomputable def k_l0 (K : Nat) (x : Args ps) : Ex → St → Option Res := kAt (ev K) body [1, 0, 1, 0] fin
noncomputable def N_l0 (K : Nat) (x : Args ps) : A_l0 → Option Res := fun a => evLoop live_l0 (ev K (sub body [1, 0, 1, 0, 0])) K (S_l0 x a) (k_l0 K x)
end impl_TableOk
namespace slices_BinarySearchFunc_impl_Fact_impl_Fact_int
@[reducible] def ps : List PK := [.rd (.list false 132 t2), .rd (.int .i64), .fn [t2, (.int .i64)] (.int .i64)]
@[reducible] def rs : List RK := [.v (.int .i64), .v .bool]
abbrev Res := Ress rs × Outs ps
abbrev A_l0 := Int × Int
noncomputable def l0.step (K : Nat) (x : Args ps) (rec_l0 : A_l0 → Option Res) (a : A_l0) : Option Res := bif decide (a.1 < a.2) then ((idx x.1 (wr .i64 (Int.fdiv (wr .u64 (wr .i64 (a.1 + a.2))) (2 ^ 1)))).bind fun y1 => (x.2.2.1 (y1, x.2.1, ())).bind fun y2 => bif decide (y2 < 0) then (rec_l0 (wr .i64 ((wr .i64 (Int.fdiv (wr .u64 (wr .i64 (a.1 + a.2))) (2 ^ 1))) + 1), a.2)) else (rec_l0 (a.1, wr .i64 (Int.fdiv (wr .u64 (wr .i64 (a.1 + a.2))) (2 ^ 1))))) else (bif decide (a.1 < (List.length x.1 : Int)) then ((idx x.1 a.1).bind fun y3 => (x.2.2.1 (y3, x.2.1, ())).bind fun y4 => some ((a.1, y4 == 0, ()), ())) else (some ((a.1, false, ()), ())))
noncomputable def l0 (K : Nat) (x : Args ps) : A_l0 → Option Res := iterate (fun rec_l0 a => l0.step K x rec_l0 a) K
noncomputable def pre (K : Nat) (N_l0 : A_l0 → Option Res) (x : Args ps) : Option Res := N_l0 (0, (List.length x.1 : Int))
noncomputable def f (K : Nat) (x : Args ps) : Option Res := pre K (l0 K x) x
noncomputable def c (K : Nat) : Ctr := ⟨293, ps, rs, true, f K⟩
noncomputable def G (K : Nat) : List Ctr := []
noncomputable def live_l0 : List (Nat × List Coe) := [(0, [.ro true 132 t2]), (1, [.keep]), (2, [.keep]), (8, [.keep]), (9, [.keep]), (10, [.keep])]
noncomputable def L : List (Nat × List (Nat × List Coe)) := [(4, live_l0)]
noncomputable def body : Code := bodyOf Tryz.f293
noncomputable abbrev ev (K : Nat) : Code → St → (Ex → St → Option Res) → Option Res := evK (G K) T_D L K
noncomputable abbrev fin : Ex → St → Option Res := finK T_D ps rs true Tryz.f293.results.toList
noncomputable def S_l0 (x : Args ps) (a : A_l0) : St := mkSt [(0, ⟨0, .one, [.ro true 132 t2 x.1]⟩), (1, ⟨0, .one, [.int .i64 x.2.1]⟩), (2, ⟨0, .one, [.fn [t2, (.int .i64)] (.int .i64) x.2.2.1]⟩), (8, ⟨0, .one, [.int .i64 (List.length x.1 : Int)]⟩), (9, ⟨0, .one, [.int .i64 a.1]⟩), (10, ⟨0, .one, [.int .i64 a.2]⟩)]
noncomputable def k_l0 (K : Nat) (x : Args ps) : Ex → St → Option Res := kAt (ev K) body [1, 1, 1, 0, 0] fin
noncomputable def N_l0 (K : Nat) (x : Args ps) : A_l0 → Option Res := fun a => evLoop live_l0 (ev K (sub body [1, 1, 1, 0, 0, 0])) K (S_l0 x a) (k_l0 K x)
end slices_BinarySearchFunc_impl_Fact_impl_Fact_int
namespace cmp_isNaN_int
@[reducible] def ps : List PK := [.rd (.int .i64)]
@[reducible] def rs : List RK := [.v .bool]
abbrev Res := Ress rs × Outs ps
noncomputable def pre (K : Nat) (x : Args ps) : Option Res := some ((x.1 != x.1, ()), ())
noncomputable def f (K : Nat) (x : Args ps) : Option Res := pre K x
noncomputable def c (K : Nat) : Ctr := ⟨193, ps, rs, true, f K⟩
noncomputable def G (K : Nat) : List Ctr := []
noncomputable def L : List (Nat × List (Nat × List Coe)) := []
noncomputable def body : Code := bodyOf Tryz.f193
noncomputable abbrev ev (K : Nat) : Code → St → (Ex → St → Option Res) → Option Res := evK (G K) T_D L K
noncomputable abbrev fin : Ex → St → Option Res := finK T_D ps rs true Tryz.f193.results.toList
end cmp_isNaN_int
namespace cmp_Compare_int
@[reducible] def ps : List PK := [.rd (.int .i64), .rd (.int .i64)]
@[reducible] def rs : List RK := [.v (.int .i64)]
abbrev Res := Ress rs × Outs ps
noncomputable def pre (K : Nat) (x : Args ps) : Option Res := (cmp_isNaN_int.f K (x.1, ())).bind fun y1 => (cmp_isNaN_int.f K (x.2.1, ())).bind fun y2 => bif y1.1.1 then (bif y2.1.1 then (some ((0, ()), ())) else (some (((-1), ()), ()))) else (bif y2.1.1 then (some ((1, ()), ())) else (bif decide (x.1 < x.2.1) then (some (((-1), ()), ())) else (bif decide (x.1 > x.2.1) then (some ((1, ()), ())) else (some ((0, ()), ())))))
noncomputable def f (K : Nat) (x : Args ps) : Option Res := pre K x
noncomputable def c (K : Nat) : Ctr := ⟨123, ps, rs, true, f K⟩
noncomputable def G (K : Nat) : List Ctr := [cmp_isNaN_int.c K]
noncomputable def L : List (Nat × List (Nat × List Coe)) := []
noncomputable def body : Code := bodyOf Tryz.f123
noncomputable abbrev ev (K : Nat) : Code → St → (Ex → St → Option Res) → Option Res := evK (G K) T_D L K
noncomputable abbrev fin : Ex → St → Option Res := finK T_D ps rs true Tryz.f123.results.toList
end cmp_Compare_int
namespace impl_find_1
@[reducible] def ps : List PK := [.rd t2, .rd (.int .i64)]
@[reducible] def rs : List RK := [.v (.int .i64)]
abbrev Res := Ress rs × Outs ps
noncomputable def pre (K : Nat) (x : Args ps) : Option Res := (cmp_Compare_int.f K (x.1.1, x.2.1, ())).bind fun y1 => some ((y1.1.1, ()), ())
noncomputable def f (K : Nat) (x : Args ps) : Option Res := pre K x
noncomputable def c (K : Nat) : Ctr := ⟨294, ps, rs, true, f K⟩
noncomputable def G (K : Nat) : List Ctr := [cmp_Compare_int.c K]
noncomputable def L : List (Nat × List (Nat × List Coe)) := []
noncomputable def body : Code := bodyOf Tryz.f294
noncomputable abbrev ev (K : Nat) : Code → St → (Ex → St → Option Res) → Option Res := evK (G K) T_D L K
noncomputable abbrev fin : Ex → St → Option Res := finK T_D ps rs true Tryz.f294.results.toList
end impl_find_1
namespace impl_find
@[reducible] def ps : List PK := [.rd (.list false 132 t2), .rd (.int .i64)]
@[reducible] def rs : List RK := [.v (.int .i64), .v .bool]
abbrev Res := Ress rs × Outs ps
noncomputable def pre (K : Nat) (x : Args ps) : Option Res := (slices_BinarySearchFunc_impl_Fact_impl_Fact_int.f K (x.1, x.2.1, fun y1 => (impl_find_1.f K (y1.1, y1.2.1, ())).map fun y => y.1.1, ())).bind fun y2 => some ((y2.1.1, y2.1.2.1, ()), ())
noncomputable def f (K : Nat) (x : Args ps) : Option Res := pre K x
noncomputable def c (K : Nat) : Ctr := ⟨243, ps, rs, true, f K⟩
noncomputable def G (K : Nat) : List Ctr := [slices_BinarySearchFunc_impl_Fact_impl_Fact_int.c K, impl_find_1.c K]
noncomputable def L : List (Nat × List (Nat × List Coe)) := []
noncomputable def body : Code := bodyOf Tryz.f243
noncomputable abbrev ev (K : Nat) : Code → St → (Ex → St → Option Res) → Option Res := evK (G K) T_D L K
noncomputable abbrev fin : Ex → St → Option Res := finK T_D ps rs true Tryz.f243.results.toList
end impl_find
namespace impl_TableOf
@[reducible] def ps : List PK := [.rd (.list false 132 t2), .rd (.int .i64)]
@[reducible] def rs : List RK := [.v t2, .v .bool]
abbrev Res := Ress rs × Outs ps
noncomputable def pre (K : Nat) (x : Args ps) : Option Res := (impl_TableOk.f K (x.1, ())).bind fun y1 => bif !y1.1.1 then (some (((0, (0, (0, false))), false, ()), ())) else ((impl_find.f K (x.1, x.2.1, ())).bind fun y2 => bif !y2.1.2.1 then (some (((0, (0, (0, false))), false, ()), ())) else ((idx x.1 y2.1.1).bind fun y3 => some ((y3, true, ()), ())))
noncomputable def f (K : Nat) (x : Args ps) : Option Res := pre K x
noncomputable def c (K : Nat) : Ctr := ⟨194, ps, rs, true, f K⟩
noncomputable def G (K : Nat) : List Ctr := [impl_TableOk.c K, impl_find.c K]
noncomputable def L : List (Nat × List (Nat × List Coe)) := []
noncomputable def body : Code := bodyOf Tryz.f194
noncomputable abbrev ev (K : Nat) : Code → St → (Ex → St → Option Res) → Option Res := evK (G K) T_D L K
noncomputable abbrev fin : Ex → St → Option Res := finK T_D ps rs true Tryz.f194.results.toList
end impl_TableOf
namespace slices_IndexFunc_impl_Item_impl_Item
@[reducible] def ps : List PK := [.rd (.list false 173 t3), .fn [t3] .bool]
@[reducible] def rs : List RK := [.v (.int .i64)]
abbrev Res := Ress rs × Outs ps
abbrev A_l0 := Int
noncomputable def l0.step (K : Nat) (x : Args ps) (rec_l0 : A_l0 → Option Res) (a : A_l0) : Option Res := bif decide (a < (List.length x.1 : Int)) then ((idx x.1 a).bind fun y1 => (x.2.1 (y1, ())).bind fun y2 => bif y2 then (some ((a, ()), ())) else (rec_l0 (wr .i64 (a + 1)))) else (some (((-1), ()), ()))
noncomputable def l0 (K : Nat) (x : Args ps) : A_l0 → Option Res := iterate (fun rec_l0 a => l0.step K x rec_l0 a) K
noncomputable def pre (K : Nat) (N_l0 : A_l0 → Option Res) (x : Args ps) : Option Res := N_l0 0
noncomputable def f (K : Nat) (x : Args ps) : Option Res := pre K (l0 K x) x
noncomputable def c (K : Nat) : Ctr := ⟨290, ps, rs, true, f K⟩
noncomputable def G (K : Nat) : List Ctr := []
noncomputable def live_l0 : List (Nat × List Coe) := [(0, [.ro true 173 t3]), (1, [.keep]), (7, [.keep]), (8, [.keep])]
noncomputable def L : List (Nat × List (Nat × List Coe)) := [(3, live_l0)]
noncomputable def body : Code := bodyOf Tryz.f290
noncomputable abbrev ev (K : Nat) : Code → St → (Ex → St → Option Res) → Option Res := evK (G K) T_D L K
noncomputable abbrev fin : Ex → St → Option Res := finK T_D ps rs true Tryz.f290.results.toList
noncomputable def S_l0 (x : Args ps) (a : A_l0) : St := mkSt [(0, ⟨0, .one, [.ro true 173 t3 x.1]⟩), (1, ⟨0, .one, [.fn [t3] .bool x.2.1]⟩), (7, ⟨0, .one, [.int .i64 (List.length x.1 : Int)]⟩), (8, ⟨0, .one, [.int .i64 a]⟩)]
noncomputable def k_l0 (K : Nat) (x : Args ps) : Ex → St → Option Res := kAt (ev K) body [1, 0, 1, 0] fin
noncomputable def N_l0 (K : Nat) (x : Args ps) : A_l0 → Option Res := fun a => evLoop live_l0 (ev K (sub body [1, 0, 1, 0, 0])) K (S_l0 x a) (k_l0 K x)
end slices_IndexFunc_impl_Item_impl_Item
namespace slices_ContainsFunc_impl_Item_impl_Item
@[reducible] def ps : List PK := [.rd (.list false 173 t3), .fn [t3] .bool]
@[reducible] def rs : List RK := [.v .bool]
abbrev Res := Ress rs × Outs ps
noncomputable def pre (K : Nat) (x : Args ps) : Option Res := (slices_IndexFunc_impl_Item_impl_Item.f K (x.1, x.2.1, ())).bind fun y1 => some ((decide (y1.1.1 ≥ 0), ()), ())
noncomputable def f (K : Nat) (x : Args ps) : Option Res := pre K x
noncomputable def c (K : Nat) : Ctr := ⟨234, ps, rs, true, f K⟩
noncomputable def G (K : Nat) : List Ctr := [slices_IndexFunc_impl_Item_impl_Item.c K]
noncomputable def L : List (Nat × List (Nat × List Coe)) := []
noncomputable def body : Code := bodyOf Tryz.f234
noncomputable abbrev ev (K : Nat) : Code → St → (Ex → St → Option Res) → Option Res := evK (G K) T_D L K
noncomputable abbrev fin : Ex → St → Option Res := finK T_D ps rs true Tryz.f234.results.toList
end slices_ContainsFunc_impl_Item_impl_Item
namespace impl_CastOk_1
@[reducible] def ps : List PK := [.rd t3]
@[reducible] def rs : List RK := [.v .bool]
abbrev Res := Ress rs × Outs ps
noncomputable def pre (K : Nat) (x : Args ps) : Option Res := (impl_in.f K (x.1.2, 1, 4, ())).bind fun y1 => some ((!y1.1.1, ()), ())
noncomputable def f (K : Nat) (x : Args ps) : Option Res := pre K x
noncomputable def c (K : Nat) : Ctr := ⟨288, ps, rs, true, f K⟩
noncomputable def G (K : Nat) : List Ctr := [impl_in.c K]
noncomputable def L : List (Nat × List (Nat × List Coe)) := []
noncomputable def body : Code := bodyOf Tryz.f288
noncomputable abbrev ev (K : Nat) : Code → St → (Ex → St → Option Res) → Option Res := evK (G K) T_D L K
noncomputable abbrev fin : Ex → St → Option Res := finK T_D ps rs true Tryz.f288.results.toList
end impl_CastOk_1
namespace impl_facts
@[reducible] def ps : List PK := [.rd (.list false 173 t3)]
@[reducible] def rs : List RK := [.v (.list true 132 t2)]
abbrev Res := Ress rs × Outs ps
abbrev A_l0 := List (Ty.den t2) × Int
noncomputable def l0.step (K : Nat) (x : Args ps) (rec_l0 : A_l0 → Option Res) (a : A_l0) : Option Res := bif decide (a.2 < (List.length x.1 : Int)) then ((idx x.1 a.2).bind fun y1 => bif decide ((List.length a.1 + List.length ([y1.1])) * 32 ≤ sizeK) then (rec_l0 (a.1 ++ ([y1.1]), wr .i64 (a.2 + 1))) else none) else (some ((a.1, ()), ()))
noncomputable def l0 (K : Nat) (x : Args ps) : A_l0 → Option Res := iterate (fun rec_l0 a => l0.step K x rec_l0 a) K
noncomputable def pre (K : Nat) (N_l0 : A_l0 → Option Res) (x : Args ps) : Option Res := N_l0 ([], 0)
noncomputable def f (K : Nat) (x : Args ps) : Option Res := pre K (l0 K x) x
noncomputable def c (K : Nat) : Ctr := ⟨289, ps, rs, true, f K⟩
noncomputable def G (K : Nat) : List Ctr := []
noncomputable def live_l0 : List (Nat × List Coe) := [(3, [.own false 132 t2]), (6, [.ro true 173 t3]), (7, [.keep]), (8, [.keep])]
noncomputable def L : List (Nat × List (Nat × List Coe)) := [(4, live_l0)]
noncomputable def body : Code := bodyOf Tryz.f289
noncomputable abbrev ev (K : Nat) : Code → St → (Ex → St → Option Res) → Option Res := evK (G K) T_D L K
noncomputable abbrev fin : Ex → St → Option Res := finK T_D ps rs true Tryz.f289.results.toList
noncomputable def S_l0 (x : Args ps) (a : A_l0) : St := mkSt [(3, ⟨0, .one, [.own false none 132 t2 a.1]⟩), (6, ⟨0, .one, [.ro true 173 t3 x.1]⟩), (7, ⟨0, .one, [.int .i64 (List.length x.1 : Int)]⟩), (8, ⟨0, .one, [.int .i64 a.2]⟩)]
noncomputable def k_l0 (K : Nat) (x : Args ps) : Ex → St → Option Res := kAt (ev K) body [1, 1, 0, 1, 0] fin
noncomputable def N_l0 (K : Nat) (x : Args ps) : A_l0 → Option Res := fun a => evLoop live_l0 (ev K (sub body [1, 1, 0, 1, 0, 0])) K (S_l0 x a) (k_l0 K x)
end impl_facts
namespace impl_CastOk
@[reducible] def ps : List PK := [.rd (.list false 173 t3)]
@[reducible] def rs : List RK := [.v .bool]
abbrev Res := Ress rs × Outs ps
noncomputable def pre (K : Nat) (x : Args ps) : Option Res := (impl_facts.f K (x.1, ())).bind fun y1 => (impl_TableOk.f K (y1.1.1, ())).bind fun y2 => bif y2.1.1 then ((slices_ContainsFunc_impl_Item_impl_Item.f K (x.1, fun y3 => (impl_CastOk_1.f K (y3.1, ())).map fun y => y.1.1, ())).bind fun y4 => some ((!y4.1.1, ()), ())) else (some ((false, ()), ()))
noncomputable def f (K : Nat) (x : Args ps) : Option Res := pre K x
noncomputable def c (K : Nat) : Ctr := ⟨233, ps, rs, true, f K⟩
noncomputable def G (K : Nat) : List Ctr := [impl_TableOk.c K, slices_ContainsFunc_impl_Item_impl_Item.c K, impl_CastOk_1.c K, impl_facts.c K]
noncomputable def L : List (Nat × List (Nat × List Coe)) := []
noncomputable def body : Code := bodyOf Tryz.f233
noncomputable abbrev ev (K : Nat) : Code → St → (Ex → St → Option Res) → Option Res := evK (G K) T_D L K
noncomputable abbrev fin : Ex → St → Option Res := finK T_D ps rs true Tryz.f233.results.toList
end impl_CastOk
namespace cmp_Or_int
@[reducible] def ps : List PK := [.rd (.list false 3 (.int .i64))]
@[reducible] def rs : List RK := [.v (.int .i64)]
abbrev Res := Ress rs × Outs ps
abbrev A_l0 := Int
noncomputable def l0.step (K : Nat) (x : Args ps) (rec_l0 : A_l0 → Option Res) (a : A_l0) : Option Res := bif decide (a < (List.length x.1 : Int)) then ((idx x.1 a).bind fun y1 => bif y1 != 0 then (some ((y1, ()), ())) else (rec_l0 (wr .i64 (a + 1)))) else (some ((0, ()), ()))
noncomputable def l0 (K : Nat) (x : Args ps) : A_l0 → Option Res := iterate (fun rec_l0 a => l0.step K x rec_l0 a) K
noncomputable def pre (K : Nat) (N_l0 : A_l0 → Option Res) (x : Args ps) : Option Res := N_l0 0
noncomputable def f (K : Nat) (x : Args ps) : Option Res := pre K (l0 K x) x
noncomputable def c (K : Nat) : Ctr := ⟨189, ps, rs, true, f K⟩
noncomputable def G (K : Nat) : List Ctr := []
noncomputable def live_l0 : List (Nat × List Coe) := [(3, [.keep]), (6, [.ro true 3 (.int .i64)]), (7, [.keep]), (8, [.keep])]
noncomputable def L : List (Nat × List (Nat × List Coe)) := [(4, live_l0)]
noncomputable def body : Code := bodyOf Tryz.f189
noncomputable abbrev ev (K : Nat) : Code → St → (Ex → St → Option Res) → Option Res := evK (G K) T_D L K
noncomputable abbrev fin : Ex → St → Option Res := finK T_D ps rs true Tryz.f189.results.toList
noncomputable def S_l0 (x : Args ps) (a : A_l0) : St := mkSt [(3, ⟨0, .one, [.int .i64 0]⟩), (6, ⟨0, .one, [.ro true 3 (.int .i64) x.1]⟩), (7, ⟨0, .one, [.int .i64 (List.length x.1 : Int)]⟩), (8, ⟨0, .one, [.int .i64 a]⟩)]
noncomputable def k_l0 (K : Nat) (x : Args ps) : Ex → St → Option Res := kAt (ev K) body [1, 1, 0, 1, 0] fin
noncomputable def N_l0 (K : Nat) (x : Args ps) : A_l0 → Option Res := fun a => evLoop live_l0 (ev K (sub body [1, 1, 0, 1, 0, 0])) K (S_l0 x a) (k_l0 K x)
end cmp_Or_int
namespace impl_Fact_compare
@[reducible] def ps : List PK := [.rd t2, .rd t2]
@[reducible] def rs : List RK := [.v (.int .i64)]
abbrev Res := Ress rs × Outs ps
noncomputable def pre (K : Nat) (x : Args ps) : Option Res := bif x.1.2.2.2 then (bif !x.2.1.2.2.2 then ((cmp_Compare_int.f K (x.1.1, x.2.1.1, ())).bind fun y1 => (cmp_Compare_int.f K (x.1.2.1, x.2.1.2.1, ())).bind fun y2 => (cmp_Compare_int.f K (x.1.2.2.1, x.2.1.2.2.1, ())).bind fun y3 => (cmp_Or_int.f K ([y1.1.1, y2.1.1, y3.1.1, 1], ())).bind fun y4 => some ((y4.1.1, ()), ())) else (bif x.2.1.2.2.2 then (bif !x.1.2.2.2 then ((cmp_Compare_int.f K (x.1.1, x.2.1.1, ())).bind fun y5 => (cmp_Compare_int.f K (x.1.2.1, x.2.1.2.1, ())).bind fun y6 => (cmp_Compare_int.f K (x.1.2.2.1, x.2.1.2.2.1, ())).bind fun y7 => (cmp_Or_int.f K ([y5.1.1, y6.1.1, y7.1.1, (-1)], ())).bind fun y8 => some ((y8.1.1, ()), ())) else ((cmp_Compare_int.f K (x.1.1, x.2.1.1, ())).bind fun y9 => (cmp_Compare_int.f K (x.1.2.1, x.2.1.2.1, ())).bind fun y10 => (cmp_Compare_int.f K (x.1.2.2.1, x.2.1.2.2.1, ())).bind fun y11 => (cmp_Or_int.f K ([y9.1.1, y10.1.1, y11.1.1, 0], ())).bind fun y12 => some ((y12.1.1, ()), ()))) else ((cmp_Compare_int.f K (x.1.1, x.2.1.1, ())).bind fun y13 => (cmp_Compare_int.f K (x.1.2.1, x.2.1.2.1, ())).bind fun y14 => (cmp_Compare_int.f K (x.1.2.2.1, x.2.1.2.2.1, ())).bind fun y15 => (cmp_Or_int.f K ([y13.1.1, y14.1.1, y15.1.1, 0], ())).bind fun y16 => some ((y16.1.1, ()), ())))) else (bif x.2.1.2.2.2 then (bif !x.1.2.2.2 then ((cmp_Compare_int.f K (x.1.1, x.2.1.1, ())).bind fun y17 => (cmp_Compare_int.f K (x.1.2.1, x.2.1.2.1, ())).bind fun y18 => (cmp_Compare_int.f K (x.1.2.2.1, x.2.1.2.2.1, ())).bind fun y19 => (cmp_Or_int.f K ([y17.1.1, y18.1.1, y19.1.1, (-1)], ())).bind fun y20 => some ((y20.1.1, ()), ())) else ((cmp_Compare_int.f K (x.1.1, x.2.1.1, ())).bind fun y21 => (cmp_Compare_int.f K (x.1.2.1, x.2.1.2.1, ())).bind fun y22 => (cmp_Compare_int.f K (x.1.2.2.1, x.2.1.2.2.1, ())).bind fun y23 => (cmp_Or_int.f K ([y21.1.1, y22.1.1, y23.1.1, 0], ())).bind fun y24 => some ((y24.1.1, ()), ()))) else ((cmp_Compare_int.f K (x.1.1, x.2.1.1, ())).bind fun y25 => (cmp_Compare_int.f K (x.1.2.1, x.2.1.2.1, ())).bind fun y26 => (cmp_Compare_int.f K (x.1.2.2.1, x.2.1.2.2.1, ())).bind fun y27 => (cmp_Or_int.f K ([y25.1.1, y26.1.1, y27.1.1, 0], ())).bind fun y28 => some ((y28.1.1, ()), ())))
noncomputable def f (K : Nat) (x : Args ps) : Option Res := pre K x
noncomputable def c (K : Nat) : Ctr := ⟨113, ps, rs, true, f K⟩
noncomputable def G (K : Nat) : List Ctr := [cmp_Compare_int.c K, cmp_Or_int.c K]
noncomputable def L : List (Nat × List (Nat × List Coe)) := []
noncomputable def body : Code := bodyOf Tryz.f113
noncomputable abbrev ev (K : Nat) : Code → St → (Ex → St → Option Res) → Option Res := evK (G K) T_D L K
noncomputable abbrev fin : Ex → St → Option Res := finK T_D ps rs true Tryz.f113.results.toList
end impl_Fact_compare
namespace impl_FactOver
@[reducible] def ps : List PK := [.rd t2, .rd t2]
@[reducible] def rs : List RK := [.v .bool]
abbrev Res := Ress rs × Outs ps
noncomputable def pre (K : Nat) (x : Args ps) : Option Res := (impl_FactOk.f K (x.1, ())).bind fun y1 => bif y1.1.1 then ((impl_FactOk.f K (x.2.1, ())).bind fun y2 => bif y2.1.1 then (bif x.1.1 == x.2.1.1 then ((impl_Fact_compare.f K (x.1, x.2.1, ())).bind fun y3 => some ((decide (y3.1.1 > 0), ()), ())) else (some ((false, ()), ()))) else (some ((false, ()), ()))) else (some ((false, ()), ()))
noncomputable def f (K : Nat) (x : Args ps) : Option Res := pre K x
noncomputable def c (K : Nat) : Ctr := ⟨236, ps, rs, true, f K⟩
noncomputable def G (K : Nat) : List Ctr := [impl_FactOk.c K, impl_Fact_compare.c K]
noncomputable def L : List (Nat × List (Nat × List Coe)) := []
noncomputable def body : Code := bodyOf Tryz.f236
noncomputable abbrev ev (K : Nat) : Code → St → (Ex → St → Option Res) → Option Res := evK (G K) T_D L K
noncomputable abbrev fin : Ex → St → Option Res := finK T_D ps rs true Tryz.f236.results.toList
end impl_FactOver
namespace impl_Node_tableOk_1
@[reducible] def ps : List PK := [.rd t3, .rref t61]
@[reducible] def rs : List RK := [.v .bool]
abbrev Res := Ress rs × Outs ps
noncomputable def pre (K : Nat) (x : Args ps) : Option Res := (impl_TableOf.f K (x.2.1.2.2.2.2.2.2.2.2.1, x.1.1.1, ())).bind fun y1 => bif !y1.1.2.1 then (some ((true, ()), ())) else ((impl_FactOver.f K (x.1.1, y1.1.1, ())).bind fun y2 => some ((y2.1.1, ()), ()))
noncomputable def f (K : Nat) (x : Args ps) : Option Res := pre K x
noncomputable def c (K : Nat) : Ctr := ⟨235, ps, rs, true, f K⟩
noncomputable def G (K : Nat) : List Ctr := [impl_TableOf.c K, impl_FactOver.c K]
noncomputable def L : List (Nat × List (Nat × List Coe)) := []
noncomputable def body : Code := bodyOf Tryz.f235
noncomputable abbrev ev (K : Nat) : Code → St → (Ex → St → Option Res) → Option Res := evK (G K) T_D L K
noncomputable abbrev fin : Ex → St → Option Res := finK T_D ps rs true Tryz.f235.results.toList
end impl_Node_tableOk_1
namespace impl_Node_tableOk
@[reducible] def ps : List PK := [.rd t61]
@[reducible] def rs : List RK := [.v .bool]
abbrev Res := Ress rs × Outs ps
noncomputable def pre (K : Nat) (x : Args ps) : Option Res := bif x.1.2.2.1 then ((impl_TableOf.f K (x.1.2.2.2.2.2.2.2.2.1, x.1.1, ())).bind fun y1 => bif !y1.1.2.1 then (some ((false, ()), ())) else (bif !Ty.eqv t2 y1.1.1 (x.1.1, (x.1.2.2.2.2.1, (4, x.1.2.2.2.1))) then (some ((false, ()), ())) else ((impl_Node_site.f K (x.1, ())).bind fun y2 => (impl_ofSite.f K (x.1.2.2.2.2.2.2.2.2.1, y2.1.1, ())).bind fun y3 => bif !y3.1.1 then (some ((false, ()), ())) else ((impl_CastOk.f K (x.1.2.2.2.2.2.2.2.2.2.1, ())).bind fun y4 => bif !y4.1.1 then (some ((false, ()), ())) else ((slices_ContainsFunc_impl_Item_impl_Item.f K (x.1.2.2.2.2.2.2.2.2.2.1, fun y5 => (impl_Node_tableOk_1.f K (y5.1, x.1, ())).map fun y => y.1.1, ())).bind fun y6 => some ((!y6.1.1, ()), ())))))) else ((impl_TableOf.f K (x.1.2.2.2.2.2.2.2.2.1, x.1.1, ())).bind fun y7 => bif !y7.1.2.1 then (some ((false, ()), ())) else (bif !Ty.eqv t2 y7.1.1 (x.1.1, (x.1.2.2.2.2.1, (1, x.1.2.2.2.1))) then (some ((false, ()), ())) else ((impl_Node_site.f K (x.1, ())).bind fun y8 => (impl_ofSite.f K (x.1.2.2.2.2.2.2.2.2.1, y8.1.1, ())).bind fun y9 => bif !y9.1.1 then (some ((false, ()), ())) else ((impl_CastOk.f K (x.1.2.2.2.2.2.2.2.2.2.1, ())).bind fun y10 => bif !y10.1.1 then (some ((false, ()), ())) else ((slices_ContainsFunc_impl_Item_impl_Item.f K (x.1.2.2.2.2.2.2.2.2.2.1, fun y11 => (impl_Node_tableOk_1.f K (y11.1, x.1, ())).map fun y => y.1.1, ())).bind fun y12 => some ((!y12.1.1, ()), ()))))))
noncomputable def f (K : Nat) (x : Args ps) : Option Res := pre K x
noncomputable def c (K : Nat) : Ctr := ⟨171, ps, rs, true, f K⟩
noncomputable def G (K : Nat) : List Ctr := [impl_ofSite.c K, impl_Node_site.c K, impl_TableOf.c K, impl_CastOk.c K, slices_ContainsFunc_impl_Item_impl_Item.c K, impl_Node_tableOk_1.c K]
noncomputable def L : List (Nat × List (Nat × List Coe)) := []
noncomputable def body : Code := bodyOf Tryz.f171
noncomputable abbrev ev (K : Nat) : Code → St → (Ex → St → Option Res) → Option Res := evK (G K) T_D L K
noncomputable abbrev fin : Ex → St → Option Res := finK T_D ps rs true Tryz.f171.results.toList
end impl_Node_tableOk
namespace impl_Node_probeOk
@[reducible] def ps : List PK := [.rd t61]
@[reducible] def rs : List RK := [.v .bool]
abbrev Res := Ress rs × Outs ps
noncomputable def pre (K : Nat) (x : Args ps) : Option Res := bif x.1.2.2.2.2.2.2.2.2.2.2.1.1 == (-1) then (some ((Ty.eqv t2 x.1.2.2.2.2.2.2.2.2.2.2.1 ((-1), (0, (0, false))), ()), ())) else ((impl_TableOf.f K (x.1.2.2.2.2.2.2.2.2.1, x.1.2.2.2.2.2.2.2.2.2.2.1.1, ())).bind fun y1 => bif y1.1.2.1 then (bif x.1.2.2.2.2.2.2.2.2.2.2.1.1 != x.1.1 then ((impl_in.f K (x.1.2.2.2.2.2.2.2.2.2.2.1.2.1, 0, x.1.2.2.2.2.2.1, ())).bind fun y2 => bif y2.1.1 then ((impl_in.f K (x.1.2.2.2.2.2.2.2.2.2.2.1.2.2.1, 1, x.1.2.2.2.2.2.2.1, ())).bind fun y3 => some ((y3.1.1, ()), ())) else (some ((false, ()), ()))) else (some ((false, ()), ()))) else (some ((false, ()), ())))
noncomputable def f (K : Nat) (x : Args ps) : Option Res := pre K x
noncomputable def c (K : Nat) : Ctr := ⟨172, ps, rs, true, f K⟩
noncomputable def G (K : Nat) : List Ctr := [impl_in.c K, impl_TableOf.c K]
noncomputable def L : List (Nat × List (Nat × List Coe)) := []
noncomputable def body : Code := bodyOf Tryz.f172
noncomputable abbrev ev (K : Nat) : Code → St → (Ex → St → Option Res) → Option Res := evK (G K) T_D L K
noncomputable abbrev fin : Ex → St → Option Res := finK T_D ps rs true Tryz.f172.results.toList
end impl_Node_probeOk
namespace impl_Node_near
@[reducible] def ps : List PK := [.rd t61, .rd (.int .i64)]
@[reducible] def rs : List RK := [.v .bool]
abbrev Res := Ress rs × Outs ps
noncomputable def pre (K : Nat) (x : Args ps) : Option Res := (impl_isNode.f K (x.2.1, ())).bind fun y1 => bif y1.1.1 then ((impl_siteOf.f K (x.2.1, ())).bind fun y2 => (impl_Node_site.f K (x.1, ())).bind fun y3 => some ((y2.1.1 == y3.1.1, ()), ())) else (some ((false, ()), ()))
noncomputable def f (K : Nat) (x : Args ps) : Option Res := pre K x
noncomputable def c (K : Nat) : Ctr := ⟨88, ps, rs, true, f K⟩
noncomputable def G (K : Nat) : List Ctr := [impl_Node_site.c K, impl_siteOf.c K, impl_isNode.c K]
noncomputable def L : List (Nat × List (Nat × List Coe)) := []
noncomputable def body : Code := bodyOf Tryz.f88
noncomputable abbrev ev (K : Nat) : Code → St → (Ex → St → Option Res) → Option Res := evK (G K) T_D L K
noncomputable abbrev fin : Ex → St → Option Res := finK T_D ps rs true Tryz.f88.results.toList
end impl_Node_near
namespace impl_Node_doubtsOk
@[reducible] def ps : List PK := [.rd t61]
@[reducible] def rs : List RK := [.v .bool]
abbrev Res := Ress rs × Outs ps
abbrev A_l2 := List (Ty.den t2) × Int × List (Ty.den (.int .i64)) × Int × Int × Int × Int × Int × List (Ty.den (.int .i64))
abbrev A_l1 := List (Ty.den t2) × Int
abbrev A_l0 := List (Ty.den t2) × Int
noncomputable def l2.step (K : Nat) (x : Args ps) (rec_l1 : A_l1 → Option Res) (rec_l2 : A_l2 → Option Res) (a : A_l2) : Option Res := bif decide (a.2.2.2.2.1 < a.2.2.2.1) then ((idx a.2.2.1 a.2.2.2.2.1).bind fun y8 => (impl_Node_near.f K (x.1, y8, ())).bind fun y9 => bif !y9.1.1 then (some ((false, ()), ())) else (bif decide (a.2.2.2.2.1 > 0) then ((idx a.2.2.2.2.2.2.2.2 (wr .i64 (a.2.2.2.2.1 - 1))).bind fun y10 => bif decide (y8 ≤ y10) then (some ((false, ()), ())) else (rec_l2 (a.1, a.2.1, a.2.2.1, a.2.2.2.1, wr .i64 (a.2.2.2.2.1 + 1), a.2.2.2.2.2.1, a.2.2.2.2.2.2.1, a.2.2.2.2.2.2.2.1, a.2.2.2.2.2.2.2.2))) else (rec_l2 (a.1, a.2.1, a.2.2.1, a.2.2.2.1, wr .i64 (a.2.2.2.2.1 + 1), a.2.2.2.2.2.1, a.2.2.2.2.2.2.1, a.2.2.2.2.2.2.2.1, a.2.2.2.2.2.2.2.2)))) else (rec_l1 (a.1, wr .i64 (a.2.1 + 1)))
noncomputable def l2 (K : Nat) (x : Args ps) (rec_l1 : A_l1 → Option Res) : A_l2 → Option Res := iterate (fun rec_l2 a => l2.step K x rec_l1 rec_l2 a) K
noncomputable def l1.step (K : Nat) (x : Args ps) (N_l2 : A_l2 → Option Res) (rec_l1 : A_l1 → Option Res) (a : A_l1) : Option Res := bif decide (a.2 < (List.length x.1.2.2.2.2.2.2.2.2.2.2.2.1 : Int)) then ((idx x.1.2.2.2.2.2.2.2.2.2.2.2.1 a.2).bind fun y2 => (idx a.1 a.2).bind fun _ => (idx a.1 (Int.toNat a.2 : Nat)).bind fun y4 => bif y2.1 != y4.1 then (some ((false, ()), ())) else ((idx a.1 a.2).bind fun _ => (idx a.1 (Int.toNat a.2 : Nat)).bind fun y6 => bif y2.2.1 != y6.2.1 then (some ((false, ()), ())) else ((impl_in.f K (y2.2.2.1, 0, x.1.2.2.2.2.2.1, ())).bind fun y7 => bif !y7.1.1 then (some ((false, ()), ())) else (bif (List.length y2.2.2.2 : Int) == 0 then (some ((false, ()), ())) else (N_l2 (a.1, a.2, y2.2.2.2, (List.length y2.2.2.2 : Int), 0, y2.1, y2.2.1, y2.2.2.1, y2.2.2.2)))))) else (some ((true, ()), ()))
noncomputable def l1 (K : Nat) (x : Args ps) : A_l1 → Option Res := iterate (fun rec_l1 a => l1.step K x (l2 K x rec_l1) rec_l1 a) K
noncomputable def l0.step (K : Nat) (x : Args ps) (N_l1 : A_l1 → Option Res) (rec_l0 : A_l0 → Option Res) (a : A_l0) : Option Res := bif decide (a.2 < (List.length x.1.2.2.2.2.2.2.2.2.1 : Int)) then ((idx x.1.2.2.2.2.2.2.2.2.1 a.2).bind fun y1 => bif y1.2.2.1 == 2 then (bif decide ((List.length a.1 + List.length ([y1])) * 32 ≤ sizeK) then (rec_l0 (a.1 ++ ([y1]), wr .i64 (a.2 + 1))) else none) else (rec_l0 (a.1, wr .i64 (a.2 + 1)))) else (bif (List.length x.1.2.2.2.2.2.2.2.2.2.2.2.1 : Int) != (List.length a.1 : Int) then (some ((false, ()), ())) else (N_l1 (a.1, 0)))
noncomputable def l0 (K : Nat) (x : Args ps) : A_l0 → Option Res := iterate (fun rec_l0 a => l0.step K x (l1 K x) rec_l0 a) K
noncomputable def pre (K : Nat) (N_l0 : A_l0 → Option Res) (x : Args ps) : Option Res := N_l0 ([], 0)
noncomputable def f (K : Nat) (x : Args ps) : Option Res := pre K (l0 K x) x
noncomputable def c (K : Nat) : Ctr := ⟨173, ps, rs, true, f K⟩
noncomputable def G (K : Nat) : List Ctr := [impl_Node_near.c K, impl_in.c K]
noncomputable def live_l2 : List (Nat × List Coe) := [(1, [.keep]), (3, [.own false 132 t2]), (7, [.keep]), (32, [.ro true 177 t15]), (33, [.keep]), (34, [.keep]), (72, [.ro true 3 (.int .i64)]), (73, [.keep]), (74, [.keep]), (100001, [.keep, .keep, .keep, .keep, .keep, .keep, .keep, .keep, .ro true 132 t2, .ro true 173 t3, .keep, .keep, .keep, .keep, .ro true 177 t15, .keep, .keep, .keep, .keep, .ro true 94 t17, .ro true 119 t18]), (100007, [.keep, .keep, .keep, .ro true 3 (.int .i64)])]
noncomputable def live_l1 : List (Nat × List Coe) := [(1, [.keep]), (3, [.own false 132 t2]), (32, [.ro true 177 t15]), (33, [.keep]), (34, [.keep]), (100001, [.keep, .keep, .keep, .keep, .keep, .keep, .keep, .keep, .ro true 132 t2, .ro true 173 t3, .keep, .keep, .keep, .keep, .ro true 177 t15, .keep, .keep, .keep, .keep, .ro true 94 t17, .ro true 119 t18])]
noncomputable def live_l0 : List (Nat × List Coe) := [(1, [.keep]), (3, [.own false 132 t2]), (11, [.ro true 132 t2]), (12, [.keep]), (13, [.keep]), (100001, [.keep, .keep, .keep, .keep, .keep, .keep, .keep, .keep, .ro true 132 t2, .ro true 173 t3, .keep, .keep, .keep, .keep, .ro true 177 t15, .keep, .keep, .keep, .keep, .ro true 94 t17, .ro true 119 t18])]
noncomputable def L : List (Nat × List (Nat × List Coe)) := [(17, live_l2), (12, live_l1), (4, live_l0)]
noncomputable def body : Code := bodyOf Tryz.f173
noncomputable abbrev ev (K : Nat) : Code → St → (Ex → St → Option Res) → Option Res := evK (G K) T_D L K
noncomputable abbrev fin : Ex → St → Option Res := finK T_D ps rs true Tryz.f173.results.toList
noncomputable def S_l0 (x : Args ps) (a : A_l0) : St := mkSt [(1, ⟨0, .one, [.bp 100001 0]⟩), (3, ⟨0, .one, [.own false none 132 t2 a.1]⟩), (11, ⟨0, .one, [.ro true 132 t2 x.1.2.2.2.2.2.2.2.2.1]⟩), (12, ⟨0, .one, [.int .i64 (List.length x.1.2.2.2.2.2.2.2.2.1 : Int)]⟩), (13, ⟨0, .one, [.int .i64 a.2]⟩), (100001, ⟨0, .agg, [.int .i64 x.1.1, .bool x.1.2.1, .bool x.1.2.2.1, .bool x.1.2.2.2.1, .int .i64 x.1.2.2.2.2.1, .int .i64 x.1.2.2.2.2.2.1, .int .i64 x.1.2.2.2.2.2.2.1, .int .i64 x.1.2.2.2.2.2.2.2.1, .ro true 132 t2 x.1.2.2.2.2.2.2.2.2.1, .ro true 173 t3 x.1.2.2.2.2.2.2.2.2.2.1, .int .i64 x.1.2.2.2.2.2.2.2.2.2.2.1.1, .int .i64 x.1.2.2.2.2.2.2.2.2.2.2.1.2.1, .int .i64 x.1.2.2.2.2.2.2.2.2.2.2.1.2.2.1, .bool x.1.2.2.2.2.2.2.2.2.2.2.1.2.2.2, .ro true 177 t15 x.1.2.2.2.2.2.2.2.2.2.2.2.1, .int .i64 x.1.2.2.2.2.2.2.2.2.2.2.2.2.1.1, .int .i64 x.1.2.2.2.2.2.2.2.2.2.2.2.2.1.2.1, .int .i64 x.1.2.2.2.2.2.2.2.2.2.2.2.2.1.2.2.1, .int .i64 x.1.2.2.2.2.2.2.2.2.2.2.2.2.1.2.2.2, .ro true 94 t17 x.1.2.2.2.2.2.2.2.2.2.2.2.2.2.1, .ro true 119 t18 x.1.2.2.2.2.2.2.2.2.2.2.2.2.2.2]⟩)]
noncomputable def S_l1 (x : Args ps) (a : A_l1) : St := mkSt [(1, ⟨0, .one, [.bp 100001 0]⟩), (3, ⟨0, .one, [.own false none 132 t2 a.1]⟩), (32, ⟨0, .one, [.ro true 177 t15 x.1.2.2.2.2.2.2.2.2.2.2.2.1]⟩), (33, ⟨0, .one, [.int .i64 (List.length x.1.2.2.2.2.2.2.2.2.2.2.2.1 : Int)]⟩), (34, ⟨0, .one, [.int .i64 a.2]⟩), (100001, ⟨0, .agg, [.int .i64 x.1.1, .bool x.1.2.1, .bool x.1.2.2.1, .bool x.1.2.2.2.1, .int .i64 x.1.2.2.2.2.1, .int .i64 x.1.2.2.2.2.2.1, .int .i64 x.1.2.2.2.2.2.2.1, .int .i64 x.1.2.2.2.2.2.2.2.1, .ro true 132 t2 x.1.2.2.2.2.2.2.2.2.1, .ro true 173 t3 x.1.2.2.2.2.2.2.2.2.2.1, .int .i64 x.1.2.2.2.2.2.2.2.2.2.2.1.1, .int .i64 x.1.2.2.2.2.2.2.2.2.2.2.1.2.1, .int .i64 x.1.2.2.2.2.2.2.2.2.2.2.1.2.2.1, .bool x.1.2.2.2.2.2.2.2.2.2.2.1.2.2.2, .ro true 177 t15 x.1.2.2.2.2.2.2.2.2.2.2.2.1, .int .i64 x.1.2.2.2.2.2.2.2.2.2.2.2.2.1.1, .int .i64 x.1.2.2.2.2.2.2.2.2.2.2.2.2.1.2.1, .int .i64 x.1.2.2.2.2.2.2.2.2.2.2.2.2.1.2.2.1, .int .i64 x.1.2.2.2.2.2.2.2.2.2.2.2.2.1.2.2.2, .ro true 94 t17 x.1.2.2.2.2.2.2.2.2.2.2.2.2.2.1, .ro true 119 t18 x.1.2.2.2.2.2.2.2.2.2.2.2.2.2.2]⟩)]
noncomputable def S_l2 (x : Args ps) (a : A_l2) : St := mkSt [(1, ⟨0, .one, [.bp 100001 0]⟩), (3, ⟨0, .one, [.own false none 132 t2 a.1]⟩), (7, ⟨0, .one, [.bp 100007 0]⟩), (32, ⟨0, .one, [.ro true 177 t15 x.1.2.2.2.2.2.2.2.2.2.2.2.1]⟩), (33, ⟨0, .one, [.int .i64 (List.length x.1.2.2.2.2.2.2.2.2.2.2.2.1 : Int)]⟩), (34, ⟨0, .one, [.int .i64 a.2.1]⟩), (72, ⟨0, .one, [.ro true 3 (.int .i64) a.2.2.1]⟩), (73, ⟨0, .one, [.int .i64 a.2.2.2.1]⟩), (74, ⟨0, .one, [.int .i64 a.2.2.2.2.1]⟩), (100001, ⟨0, .agg, [.int .i64 x.1.1, .bool x.1.2.1, .bool x.1.2.2.1, .bool x.1.2.2.2.1, .int .i64 x.1.2.2.2.2.1, .int .i64 x.1.2.2.2.2.2.1, .int .i64 x.1.2.2.2.2.2.2.1, .int .i64 x.1.2.2.2.2.2.2.2.1, .ro true 132 t2 x.1.2.2.2.2.2.2.2.2.1, .ro true 173 t3 x.1.2.2.2.2.2.2.2.2.2.1, .int .i64 x.1.2.2.2.2.2.2.2.2.2.2.1.1, .int .i64 x.1.2.2.2.2.2.2.2.2.2.2.1.2.1, .int .i64 x.1.2.2.2.2.2.2.2.2.2.2.1.2.2.1, .bool x.1.2.2.2.2.2.2.2.2.2.2.1.2.2.2, .ro true 177 t15 x.1.2.2.2.2.2.2.2.2.2.2.2.1, .int .i64 x.1.2.2.2.2.2.2.2.2.2.2.2.2.1.1, .int .i64 x.1.2.2.2.2.2.2.2.2.2.2.2.2.1.2.1, .int .i64 x.1.2.2.2.2.2.2.2.2.2.2.2.2.1.2.2.1, .int .i64 x.1.2.2.2.2.2.2.2.2.2.2.2.2.1.2.2.2, .ro true 94 t17 x.1.2.2.2.2.2.2.2.2.2.2.2.2.2.1, .ro true 119 t18 x.1.2.2.2.2.2.2.2.2.2.2.2.2.2.2]⟩), (100007, ⟨0, .agg, [.int .i64 a.2.2.2.2.2.1, .int .i64 a.2.2.2.2.2.2.1, .int .i64 a.2.2.2.2.2.2.2.1, .ro true 3 (.int .i64) a.2.2.2.2.2.2.2.2]⟩)]
noncomputable def k_l0 (K : Nat) (x : Args ps) : Ex → St → Option Res := kAt (ev K) body [1, 1, 0, 1, 0] fin
noncomputable def N_l0 (K : Nat) (x : Args ps) : A_l0 → Option Res := fun a => evLoop live_l0 (ev K (sub body [1, 1, 0, 1, 0, 0])) K (S_l0 x a) (k_l0 K x)
noncomputable def k_l1 (K : Nat) (x : Args ps) : Ex → St → Option Res := kAt (ev K) body [1, 1, 1, 1, 0, 1, 0] fin
noncomputable def N_l1 (K : Nat) (x : Args ps) : A_l1 → Option Res := fun a => evLoop live_l1 (ev K (sub body [1, 1, 1, 1, 0, 1, 0, 0])) K (S_l1 x a) (k_l1 K x)
noncomputable def k_l2 (K : Nat) (x : Args ps) (r_l1 : St → Option Res) : Ex → St → Option Res := kAt (ev K) (sub body [1, 1, 1, 1, 0, 1, 0, 0]) [1, 1, 0, 0, 1, 1, 1, 0] (kLoop live_l1 r_l1 (k_l1 K x))
noncomputable def N_l2 (K : Nat) (x : Args ps) (r_l1 : St → Option Res) : A_l2 → Option Res := fun a => evLoop live_l2 (ev K (sub body [1, 1, 1, 1, 0, 1, 0, 0, 1, 1, 0, 0, 1, 1, 1, 0, 0])) K (S_l2 x a) (k_l2 K x r_l1)
end impl_Node_doubtsOk
namespace impl_CoordOk
@[reducible] def ps : List PK := [.rd t9]
@[reducible] def rs : List RK := [.v .bool]
abbrev Res := Ress rs × Outs ps
noncomputable def pre (K : Nat) (x : Args ps) : Option Res := (impl_in.f K (x.1.1, (-100000), 100000, ())).bind fun y1 => bif y1.1.1 then ((impl_in.f K (x.1.2.1, (-100000), 100000, ())).bind fun y2 => bif y2.1.1 then ((impl_in.f K (x.1.2.2.1, 0, 100000, ())).bind fun y3 => bif y3.1.1 then ((impl_in.f K (x.1.2.2.2, 1, 1500, ())).bind fun y4 => some ((y4.1.1, ()), ())) else (some ((false, ()), ()))) else (some ((false, ()), ()))) else (some ((false, ()), ()))
noncomputable def f (K : Nat) (x : Args ps) : Option Res := pre K x
noncomputable def c (K : Nat) : Ctr := ⟨174, ps, rs, true, f K⟩
noncomputable def G (K : Nat) : List Ctr := [impl_in.c K]
noncomputable def L : List (Nat × List (Nat × List Coe)) := []
noncomputable def body : Code := bodyOf Tryz.f174
noncomputable abbrev ev (K : Nat) : Code → St → (Ex → St → Option Res) → Option Res := evK (G K) T_D L K
noncomputable abbrev fin : Ex → St → Option Res := finK T_D ps rs true Tryz.f174.results.toList
end impl_CoordOk
namespace impl_Node_other
@[reducible] def ps : List PK := [.rd t61, .rd (.int .i64)]
@[reducible] def rs : List RK := [.v .bool]
abbrev Res := Ress rs × Outs ps
noncomputable def pre (K : Nat) (x : Args ps) : Option Res := (impl_Node_near.f K (x.1, x.2.1, ())).bind fun y1 => bif y1.1.1 then (some ((x.2.1 != x.1.1, ()), ())) else (some ((false, ()), ()))
noncomputable def f (K : Nat) (x : Args ps) : Option Res := pre K x
noncomputable def c (K : Nat) : Ctr := ⟨199, ps, rs, true, f K⟩
noncomputable def G (K : Nat) : List Ctr := [impl_Node_near.c K]
noncomputable def L : List (Nat × List (Nat × List Coe)) := []
noncomputable def body : Code := bodyOf Tryz.f199
noncomputable abbrev ev (K : Nat) : Code → St → (Ex → St → Option Res) → Option Res := evK (G K) T_D L K
noncomputable abbrev fin : Ex → St → Option Res := finK T_D ps rs true Tryz.f199.results.toList
end impl_Node_other
namespace impl_Node_placesOk_1
@[reducible] def ps : List PK := [.rd (.int .i64)]
@[reducible] def rs : List RK := [.v .bool]
abbrev Res := Ress rs × Outs ps
noncomputable def pre (K : Nat) (x : Args ps) : Option Res := (impl_in.f K (x.1, 1, 60000, ())).bind fun y1 => some ((!y1.1.1, ()), ())
noncomputable def f (K : Nat) (x : Args ps) : Option Res := pre K x
noncomputable def c (K : Nat) : Ctr := ⟨237, ps, rs, true, f K⟩
noncomputable def G (K : Nat) : List Ctr := [impl_in.c K]
noncomputable def L : List (Nat × List (Nat × List Coe)) := []
noncomputable def body : Code := bodyOf Tryz.f237
noncomputable abbrev ev (K : Nat) : Code → St → (Ex → St → Option Res) → Option Res := evK (G K) T_D L K
noncomputable abbrev fin : Ex → St → Option Res := finK T_D ps rs true Tryz.f237.results.toList
end impl_Node_placesOk_1
namespace slices_IndexFunc_int_int
@[reducible] def ps : List PK := [.rd (.list false 3 (.int .i64)), .fn [(.int .i64)] .bool]
@[reducible] def rs : List RK := [.v (.int .i64)]
abbrev Res := Ress rs × Outs ps
abbrev A_l0 := Int
noncomputable def l0.step (K : Nat) (x : Args ps) (rec_l0 : A_l0 → Option Res) (a : A_l0) : Option Res := bif decide (a < (List.length x.1 : Int)) then ((idx x.1 a).bind fun y1 => (x.2.1 (y1, ())).bind fun y2 => bif y2 then (some ((a, ()), ())) else (rec_l0 (wr .i64 (a + 1)))) else (some (((-1), ()), ()))
noncomputable def l0 (K : Nat) (x : Args ps) : A_l0 → Option Res := iterate (fun rec_l0 a => l0.step K x rec_l0 a) K
noncomputable def pre (K : Nat) (N_l0 : A_l0 → Option Res) (x : Args ps) : Option Res := N_l0 0
noncomputable def f (K : Nat) (x : Args ps) : Option Res := pre K (l0 K x) x
noncomputable def c (K : Nat) : Ctr := ⟨291, ps, rs, true, f K⟩
noncomputable def G (K : Nat) : List Ctr := []
noncomputable def live_l0 : List (Nat × List Coe) := [(0, [.ro true 3 (.int .i64)]), (1, [.keep]), (7, [.keep]), (8, [.keep])]
noncomputable def L : List (Nat × List (Nat × List Coe)) := [(3, live_l0)]
noncomputable def body : Code := bodyOf Tryz.f291
noncomputable abbrev ev (K : Nat) : Code → St → (Ex → St → Option Res) → Option Res := evK (G K) T_D L K
noncomputable abbrev fin : Ex → St → Option Res := finK T_D ps rs true Tryz.f291.results.toList
noncomputable def S_l0 (x : Args ps) (a : A_l0) : St := mkSt [(0, ⟨0, .one, [.ro true 3 (.int .i64) x.1]⟩), (1, ⟨0, .one, [.fn [(.int .i64)] .bool x.2.1]⟩), (7, ⟨0, .one, [.int .i64 (List.length x.1 : Int)]⟩), (8, ⟨0, .one, [.int .i64 a]⟩)]
noncomputable def k_l0 (K : Nat) (x : Args ps) : Ex → St → Option Res := kAt (ev K) body [1, 0, 1, 0] fin
noncomputable def N_l0 (K : Nat) (x : Args ps) : A_l0 → Option Res := fun a => evLoop live_l0 (ev K (sub body [1, 0, 1, 0, 0])) K (S_l0 x a) (k_l0 K x)
end slices_IndexFunc_int_int
namespace slices_ContainsFunc_int_int
@[reducible] def ps : List PK := [.rd (.list false 3 (.int .i64)), .fn [(.int .i64)] .bool]
@[reducible] def rs : List RK := [.v .bool]
abbrev Res := Ress rs × Outs ps
noncomputable def pre (K : Nat) (x : Args ps) : Option Res := (slices_IndexFunc_int_int.f K (x.1, x.2.1, ())).bind fun y1 => some ((decide (y1.1.1 ≥ 0), ()), ())
noncomputable def f (K : Nat) (x : Args ps) : Option Res := pre K x
noncomputable def c (K : Nat) : Ctr := ⟨238, ps, rs, true, f K⟩
noncomputable def G (K : Nat) : List Ctr := [slices_IndexFunc_int_int.c K]
noncomputable def L : List (Nat × List (Nat × List Coe)) := []
noncomputable def body : Code := bodyOf Tryz.f238
noncomputable abbrev ev (K : Nat) : Code → St → (Ex → St → Option Res) → Option Res := evK (G K) T_D L K
noncomputable abbrev fin : Ex → St → Option Res := finK T_D ps rs true Tryz.f238.results.toList
end slices_ContainsFunc_int_int
namespace impl_Node_placesOk
@[reducible] def ps : List PK := [.rd t61]
@[reducible] def rs : List RK := [.v .bool]
abbrev Res := Ress rs × Outs ps
abbrev A_l0 := Int
noncomputable def l0.step (K : Nat) (x : Args ps) (rec_l0 : A_l0 → Option Res) (a : A_l0) : Option Res := bif decide (a < (List.length x.1.2.2.2.2.2.2.2.2.2.2.2.2.2.1 : Int)) then ((idx x.1.2.2.2.2.2.2.2.2.2.2.2.2.2.1 a).bind fun y1 => (impl_Node_other.f K (x.1, y1.1, ())).bind fun y2 => bif !y2.1.1 then (some ((false, ()), ())) else (bif decide (a > 0) then ((idx x.1.2.2.2.2.2.2.2.2.2.2.2.2.2.1 (wr .i64 (a - 1))).bind fun y3 => bif decide (y1.1 ≤ y3.1) then (some ((false, ()), ())) else ((impl_CoordOk.f K (y1.2.1, ())).bind fun y4 => bif !y4.1.1 then (some ((false, ()), ())) else ((impl_in.f K ((List.length y1.2.2 : Int), 1, 3, ())).bind fun y5 => bif !y5.1.1 then (some ((false, ()), ())) else ((slices_ContainsFunc_int_int.f K (y1.2.2, fun y6 => (impl_Node_placesOk_1.f K (y6.1, ())).map fun y => y.1.1, ())).bind fun y7 => bif y7.1.1 then (some ((false, ()), ())) else (rec_l0 (wr .i64 (a + 1))))))) else ((impl_CoordOk.f K (y1.2.1, ())).bind fun y8 => bif !y8.1.1 then (some ((false, ()), ())) else ((impl_in.f K ((List.length y1.2.2 : Int), 1, 3, ())).bind fun y9 => bif !y9.1.1 then (some ((false, ()), ())) else ((slices_ContainsFunc_int_int.f K (y1.2.2, fun y10 => (impl_Node_placesOk_1.f K (y10.1, ())).map fun y => y.1.1, ())).bind fun y11 => bif y11.1.1 then (some ((false, ()), ())) else (rec_l0 (wr .i64 (a + 1)))))))) else (some ((true, ()), ()))
noncomputable def l0 (K : Nat) (x : Args ps) : A_l0 → Option Res := iterate (fun rec_l0 a => l0.step K x rec_l0 a) K
noncomputable def pre (K : Nat) (N_l0 : A_l0 → Option Res) (x : Args ps) : Option Res := N_l0 0
noncomputable def f (K : Nat) (x : Args ps) : Option Res := pre K (l0 K x) x
noncomputable def c (K : Nat) : Ctr := ⟨175, ps, rs, true, f K⟩
noncomputable def G (K : Nat) : List Ctr := [impl_in.c K, impl_CoordOk.c K, impl_Node_other.c K, impl_Node_placesOk_1.c K, slices_ContainsFunc_int_int.c K]
noncomputable def live_l0 : List (Nat × List Coe) := [(1, [.keep]), (3, [.keep]), (7, [.ro true 94 t17]), (8, [.keep]), (9, [.keep]), (100001, [.keep, .keep, .keep, .keep, .keep, .keep, .keep, .keep, .ro true 132 t2, .ro true 173 t3, .keep, .keep, .keep, .keep, .ro true 177 t15, .keep, .keep, .keep, .keep, .ro true 94 t17, .ro true 119 t18])]
noncomputable def L : List (Nat × List (Nat × List Coe)) := [(4, live_l0)]
noncomputable def body : Code := bodyOf Tryz.f175
noncomputable abbrev ev (K : Nat) : Code → St → (Ex → St → Option Res) → Option Res := evK (G K) T_D L K
noncomputable abbrev fin : Ex → St → Option Res := finK T_D ps rs true Tryz.f175.results.toList
noncomputable def S_l0 (x : Args ps) (a : A_l0) : St := mkSt [(1, ⟨0, .one, [.bp 100001 0]⟩), (3, ⟨0, .one, [.clo 237 []]⟩), (7, ⟨0, .one, [.ro true 94 t17 x.1.2.2.2.2.2.2.2.2.2.2.2.2.2.1]⟩), (8, ⟨0, .one, [.int .i64 (List.length x.1.2.2.2.2.2.2.2.2.2.2.2.2.2.1 : Int)]⟩), (9, ⟨0, .one, [.int .i64 a]⟩), (100001, ⟨0, .agg, [.int .i64 x.1.1, .bool x.1.2.1, .bool x.1.2.2.1, .bool x.1.2.2.2.1, .int .i64 x.1.2.2.2.2.1, .int .i64 x.1.2.2.2.2.2.1, .int .i64 x.1.2.2.2.2.2.2.1, .int .i64 x.1.2.2.2.2.2.2.2.1, .ro true 132 t2 x.1.2.2.2.2.2.2.2.2.1, .ro true 173 t3 x.1.2.2.2.2.2.2.2.2.2.1, .int .i64 x.1.2.2.2.2.2.2.2.2.2.2.1.1, .int .i64 x.1.2.2.2.2.2.2.2.2.2.2.1.2.1, .int .i64 x.1.2.2.2.2.2.2.2.2.2.2.1.2.2.1, .bool x.1.2.2.2.2.2.2.2.2.2.2.1.2.2.2, .ro true 177 t15 x.1.2.2.2.2.2.2.2.2.2.2.2.1, .int .i64 x.1.2.2.2.2.2.2.2.2.2.2.2.2.1.1, .int .i64 x.1.2.2.2.2.2.2.2.2.2.2.2.2.1.2.1, .int .i64 x.1.2.2.2.2.2.2.2.2.2.2.2.2.1.2.2.1, .int .i64 x.1.2.2.2.2.2.2.2.2.2.2.2.2.1.2.2.2, .ro true 94 t17 x.1.2.2.2.2.2.2.2.2.2.2.2.2.2.1, .ro true 119 t18 x.1.2.2.2.2.2.2.2.2.2.2.2.2.2.2]⟩)]
noncomputable def k_l0 (K : Nat) (x : Args ps) : Ex → St → Option Res := kAt (ev K) body [1, 1, 0, 1, 0] fin
noncomputable def N_l0 (K : Nat) (x : Args ps) : A_l0 → Option Res := fun a => evLoop live_l0 (ev K (sub body [1, 1, 0, 1, 0, 0])) K (S_l0 x a) (k_l0 K x)
end impl_Node_placesOk
namespace impl_Node_othersOk
@[reducible] def ps : List PK := [.rd t61]
@[reducible] def rs : List RK := [.v .bool]
abbrev Res := Ress rs × Outs ps
abbrev A_l0 := Int
noncomputable def l0.step (K : Nat) (x : Args ps) (rec_l0 : A_l0 → Option Res) (a : A_l0) : Option Res := bif decide (a < (List.length x.1.2.2.2.2.2.2.2.2.2.2.2.2.2.2 : Int)) then ((idx x.1.2.2.2.2.2.2.2.2.2.2.2.2.2.2 a).bind fun y1 => (impl_siteOf.f K (7, ())).bind fun y2 => (impl_in.f K (y1.1, 0, y2.1.1, ())).bind fun y3 => bif !y3.1.1 then (some ((false, ()), ())) else ((impl_Node_site.f K (x.1, ())).bind fun y4 => bif y1.1 == y4.1.1 then (some ((false, ()), ())) else (bif decide (a > 0) then ((idx x.1.2.2.2.2.2.2.2.2.2.2.2.2.2.2 (wr .i64 (a - 1))).bind fun y5 => bif decide (y1.1 ≤ y5.1) then (some ((false, ()), ())) else (bif (List.length y1.2 : Int) == 0 then (some ((false, ()), ())) else ((impl_TableOk.f K (y1.2, ())).bind fun y6 => bif !y6.1.1 then (some ((false, ()), ())) else ((impl_ofSite.f K (y1.2, y1.1, ())).bind fun y7 => bif !y7.1.1 then (some ((false, ()), ())) else (rec_l0 (wr .i64 (a + 1))))))) else (bif (List.length y1.2 : Int) == 0 then (some ((false, ()), ())) else ((impl_TableOk.f K (y1.2, ())).bind fun y8 => bif !y8.1.1 then (some ((false, ()), ())) else ((impl_ofSite.f K (y1.2, y1.1, ())).bind fun y9 => bif !y9.1.1 then (some ((false, ()), ())) else (rec_l0 (wr .i64 (a + 1))))))))) else (some ((true, ()), ()))
noncomputable def l0 (K : Nat) (x : Args ps) : A_l0 → Option Res := iterate (fun rec_l0 a => l0.step K x rec_l0 a) K
noncomputable def pre (K : Nat) (N_l0 : A_l0 → Option Res) (x : Args ps) : Option Res := N_l0 0
noncomputable def f (K : Nat) (x : Args ps) : Option Res := pre K (l0 K x) x
noncomputable def c (K : Nat) : Ctr := ⟨176, ps, rs, true, f K⟩
noncomputable def G (K : Nat) : List Ctr := [impl_ofSite.c K, impl_Node_site.c K, impl_siteOf.c K, impl_in.c K, impl_TableOk.c K]
noncomputable def live_l0 : List (Nat × List Coe) := [(1, [.keep]), (6, [.ro true 119 t18]), (7, [.keep]), (8, [.keep]), (100001, [.keep, .keep, .keep, .keep, .keep, .keep, .keep, .keep, .ro true 132 t2, .ro true 173 t3, .keep, .keep, .keep, .keep, .ro true 177 t15, .keep, .keep, .keep, .keep, .ro true 94 t17, .ro true 119 t18])]
noncomputable def L : List (Nat × List (Nat × List Coe)) := [(3, live_l0)]
noncomputable def body : Code := bodyOf Tryz.f176
noncomputable abbrev ev (K : Nat) : Code → St → (Ex → St → Option Res) → Option Res := evK (G K) T_D L K
noncomputable abbrev fin : Ex → St → Option Res := finK T_D ps rs true Tryz.f176.results.toList
noncomputable def S_l0 (x : Args ps) (a : A_l0) : St := mkSt [(1, ⟨0, .one, [.bp 100001 0]⟩), (6, ⟨0, .one, [.ro true 119 t18 x.1.2.2.2.2.2.2.2.2.2.2.2.2.2.2]⟩), (7, ⟨0, .one, [.int .i64 (List.length x.1.2.2.2.2.2.2.2.2.2.2.2.2.2.2 : Int)]⟩), (8, ⟨0, .one, [.int .i64 a]⟩), (100001, ⟨0, .agg, [.int .i64 x.1.1, .bool x.1.2.1, .bool x.1.2.2.1, .bool x.1.2.2.2.1, .int .i64 x.1.2.2.2.2.1, .int .i64 x.1.2.2.2.2.2.1, .int .i64 x.1.2.2.2.2.2.2.1, .int .i64 x.1.2.2.2.2.2.2.2.1, .ro true 132 t2 x.1.2.2.2.2.2.2.2.2.1, .ro true 173 t3 x.1.2.2.2.2.2.2.2.2.2.1, .int .i64 x.1.2.2.2.2.2.2.2.2.2.2.1.1, .int .i64 x.1.2.2.2.2.2.2.2.2.2.2.1.2.1, .int .i64 x.1.2.2.2.2.2.2.2.2.2.2.1.2.2.1, .bool x.1.2.2.2.2.2.2.2.2.2.2.1.2.2.2, .ro true 177 t15 x.1.2.2.2.2.2.2.2.2.2.2.2.1, .int .i64 x.1.2.2.2.2.2.2.2.2.2.2.2.2.1.1, .int .i64 x.1.2.2.2.2.2.2.2.2.2.2.2.2.1.2.1, .int .i64 x.1.2.2.2.2.2.2.2.2.2.2.2.2.1.2.2.1, .int .i64 x.1.2.2.2.2.2.2.2.2.2.2.2.2.1.2.2.2, .ro true 94 t17 x.1.2.2.2.2.2.2.2.2.2.2.2.2.2.1, .ro true 119 t18 x.1.2.2.2.2.2.2.2.2.2.2.2.2.2.2]⟩)]
noncomputable def k_l0 (K : Nat) (x : Args ps) : Ex → St → Option Res := kAt (ev K) body [1, 0, 1, 0] fin
noncomputable def N_l0 (K : Nat) (x : Args ps) : A_l0 → Option Res := fun a => evLoop live_l0 (ev K (sub body [1, 0, 1, 0, 0])) K (S_l0 x a) (k_l0 K x)
end impl_Node_othersOk
namespace impl_NodeOk
@[reducible] def ps : List PK := [.rd t61]
@[reducible] def rs : List RK := [.v .bool]
abbrev Res := Ress rs × Outs ps
noncomputable def pre (K : Nat) (x : Args ps) : Option Res := (impl_isNode.f K (x.1.1, ())).bind fun y1 => bif !y1.1.1 then (some ((false, ()), ())) else ((impl_in.f K (x.1.2.2.2.2.2.1, 0, 999999, ())).bind fun y2 => bif !y2.1.1 then (some ((false, ()), ())) else ((impl_in.f K (x.1.2.2.2.2.2.2.1, 0, 999999, ())).bind fun y3 => bif !y3.1.1 then (some ((false, ()), ())) else ((impl_in.f K (x.1.2.2.2.2.2.2.2.1, 0, 8, ())).bind fun y4 => bif !y4.1.1 then (some ((false, ()), ())) else ((impl_in.f K (x.1.2.2.2.2.1, 0, 999, ())).bind fun y5 => bif !y5.1.1 then (some ((false, ()), ())) else (bif !x.1.2.1 then ((impl_Node_isDown.f K (x.1, ())).bind fun y6 => some ((y6.1.1, ()), ())) else ((impl_Node_tableOk.f K (x.1, ())).bind fun y7 => bif y7.1.1 then ((impl_Node_probeOk.f K (x.1, ())).bind fun y8 => bif y8.1.1 then ((impl_Node_doubtsOk.f K (x.1, ())).bind fun y9 => bif y9.1.1 then ((impl_CoordOk.f K (x.1.2.2.2.2.2.2.2.2.2.2.2.2.1, ())).bind fun y10 => bif y10.1.1 then ((impl_Node_placesOk.f K (x.1, ())).bind fun y11 => bif y11.1.1 then ((impl_Node_othersOk.f K (x.1, ())).bind fun y12 => some ((y12.1.1, ()), ())) else (some ((false, ()), ()))) else (some ((false, ()), ()))) else (some ((false, ()), ()))) else (some ((false, ()), ()))) else (some ((false, ()), ()))))))))
noncomputable def f (K : Nat) (x : Args ps) : Option Res := pre K x
noncomputable def c (K : Nat) : Ctr := ⟨76, ps, rs, true, f K⟩
noncomputable def G (K : Nat) : List Ctr := [impl_in.c K, impl_isNode.c K, impl_Node_isDown.c K, impl_Node_tableOk.c K, impl_Node_probeOk.c K, impl_Node_doubtsOk.c K, impl_CoordOk.c K, impl_Node_placesOk.c K, impl_Node_othersOk.c K]
noncomputable def L : List (Nat × List (Nat × List Coe)) := []
noncomputable def body : Code := bodyOf Tryz.f76
noncomputable abbrev ev (K : Nat) : Code → St → (Ex → St → Option Res) → Option Res := evK (G K) T_D L K
noncomputable abbrev fin : Ex → St → Option Res := finK T_D ps rs true Tryz.f76.results.toList
end impl_NodeOk
namespace impl_Node_active
@[reducible] def ps : List PK := [.rd t61]
@[reducible] def rs : List RK := [.v .bool]
abbrev Res := Ress rs × Outs ps
noncomputable def pre (K : Nat) (x : Args ps) : Option Res := bif x.1.2.1 then (some ((!x.1.2.2.1, ()), ())) else (some ((false, ()), ()))
noncomputable def f (K : Nat) (x : Args ps) : Option Res := pre K x
noncomputable def c (K : Nat) : Ctr := ⟨87, ps, rs, true, f K⟩
noncomputable def G (K : Nat) : List Ctr := []
noncomputable def L : List (Nat × List (Nat × List Coe)) := []
noncomputable def body : Code := bodyOf Tryz.f87
noncomputable abbrev ev (K : Nat) : Code → St → (Ex → St → Option Res) → Option Res := evK (G K) T_D L K
noncomputable abbrev fin : Ex → St → Option Res := finK T_D ps rs true Tryz.f87.results.toList
end impl_Node_active
namespace impl_Node_word
@[reducible] def ps : List PK := [.rref t61, .rd (.int .i64), .rd (.int .i64)]
@[reducible] def rs : List RK := [.v t89]
abbrev Res := Ress rs × Outs ps
noncomputable def pre (K : Nat) (x : Args ps) : Option Res := some (((1, (x.2.1, (x.1.1, (x.2.2.1, (0, (x.1.1, (x.1.2.2.2.2.2.2.2.2.2.2.2.2.1, []))))))), ()), ())
noncomputable def f (K : Nat) (x : Args ps) : Option Res := pre K x
noncomputable def c (K : Nat) : Ctr := ⟨245, ps, rs, true, f K⟩
noncomputable def G (K : Nat) : List Ctr := []
noncomputable def L : List (Nat × List (Nat × List Coe)) := []
noncomputable def body : Code := bodyOf Tryz.f245
noncomputable abbrev ev (K : Nat) : Code → St → (Ex → St → Option Res) → Option Res := evK (G K) T_D L K
noncomputable abbrev fin : Ex → St → Option Res := finK T_D ps rs true Tryz.f245.results.toList
end impl_Node_word
namespace impl_Node_whole
@[reducible] def ps : List PK := [.rref t61, .rd (.int .i64), .rd (.int .i64)]
@[reducible] def rs : List RK := [.v t89]
abbrev Res := Ress rs × Outs ps
noncomputable def pre (K : Nat) (x : Args ps) : Option Res := (impl_Node_word.f K (x.1, x.2.1, x.2.2.1, ())).bind fun y1 => (m_slices_Clone_impl_Fact_impl_Fact.f K (x.1.2.2.2.2.2.2.2.2.1, ())).bind fun y2 => some (((y1.1.1.1, (y1.1.1.2.1, (y1.1.1.2.2.1, (y1.1.1.2.2.2.1, (y1.1.1.2.2.2.2.1, (y1.1.1.2.2.2.2.2.1, (y1.1.1.2.2.2.2.2.2.1, y2.1.1))))))), ()), ())
noncomputable def f (K : Nat) (x : Args ps) : Option Res := pre K x
noncomputable def c (K : Nat) : Ctr := ⟨200, ps, rs, true, f K⟩
noncomputable def G (K : Nat) : List Ctr := [m_slices_Clone_impl_Fact_impl_Fact.c K, impl_Node_word.c K]
noncomputable def L : List (Nat × List (Nat × List Coe)) := []
noncomputable def body : Code := bodyOf Tryz.f200
noncomputable abbrev ev (K : Nat) : Code → St → (Ex → St → Option Res) → Option Res := evK (G K) T_D L K
noncomputable abbrev fin : Ex → St → Option Res := finK T_D ps rs true Tryz.f200.results.toList
end impl_Node_whole
namespace impl_Node_join
@[reducible] def ps : List PK := [.rref t61, .rd (.int .i64)]
@[reducible] def rs : List RK := [.v (.list true 53 t89)]
abbrev Res := Ress rs × Outs ps
noncomputable def pre (K : Nat) (x : Args ps) : Option Res := (impl_Node_active.f K (x.1, ())).bind fun y1 => bif !y1.1.1 then (some (([], ()), ())) else ((impl_Node_other.f K (x.1, x.2.1, ())).bind fun y2 => bif !y2.1.1 then (some (([], ()), ())) else ((impl_Node_whole.f K (x.1, 4, x.2.1, ())).bind fun y3 => some (([y3.1.1], ()), ())))
noncomputable def f (K : Nat) (x : Args ps) : Option Res := pre K x
noncomputable def c (K : Nat) : Ctr := ⟨130, ps, rs, true, f K⟩
noncomputable def G (K : Nat) : List Ctr := [impl_Node_active.c K, impl_Node_other.c K, impl_Node_whole.c K]
noncomputable def L : List (Nat × List (Nat × List Coe)) := []
noncomputable def body : Code := bodyOf Tryz.f130
noncomputable abbrev ev (K : Nat) : Code → St → (Ex → St → Option Res) → Option Res := evK (G K) T_D L K
noncomputable abbrev fin : Ex → St → Option Res := finK T_D ps rs true Tryz.f130.results.toList
end impl_Node_join
namespace impl_NodeJoin_1
@[reducible] def ps : List PK := [.rref t61, .rref (.int .i64)]
@[reducible] def rs : List RK := [.v (.list true 53 t89)]
abbrev Res := Ress rs × Outs ps
noncomputable def pre (K : Nat) (x : Args ps) : Option Res := (impl_Node_join.f K (x.1, x.2.1, ())).bind fun y1 => some ((y1.1.1, ()), ())
noncomputable def f (K : Nat) (x : Args ps) : Option Res := pre K x
noncomputable def c (K : Nat) : Ctr := ⟨129, ps, rs, true, f K⟩
noncomputable def G (K : Nat) : List Ctr := [impl_Node_join.c K]
noncomputable def L : List (Nat × List (Nat × List Coe)) := []
noncomputable def body : Code := bodyOf Tryz.f129
noncomputable abbrev ev (K : Nat) : Code → St → (Ex → St → Option Res) → Option Res := evK (G K) T_D L K
noncomputable abbrev fin : Ex → St → Option Res := finK T_D ps rs true Tryz.f129.results.toList
end impl_NodeJoin_1
namespace impl_Node_copied
@[reducible] def ps : List PK := [.rd t61]
@[reducible] def rs : List RK := [.v t47]
abbrev Res := Ress rs × Outs ps
abbrev A_l2 := List (Ty.den t6) × List (Ty.den t11) × List (Ty.den t12) × Int
abbrev A_l1 := List (Ty.den t6) × List (Ty.den t11) × Int
abbrev A_l0 := List (Ty.den t6) × Int
noncomputable def l2.step (K : Nat) (x : Args ps) (rec_l2 : A_l2 → Option Res) (a : A_l2) : Option Res := bif decide (a.2.2.2 < (List.length x.1.2.2.2.2.2.2.2.2.2.2.2.2.2.2 : Int)) then ((idx x.1.2.2.2.2.2.2.2.2.2.2.2.2.2.2 a.2.2.2).bind fun y5 => (m_slices_Clone_impl_Fact_impl_Fact.f K (y5.2, ())).bind fun y6 => bif decide ((List.length a.2.2.1 + List.length ([(y5.1, y6.1.1)])) * 32 ≤ sizeK) then (rec_l2 (a.1, a.2.1, a.2.2.1 ++ ([(y5.1, y6.1.1)]), wr .i64 (a.2.2.2 + 1))) else none) else ((m_slices_Clone_impl_Fact_impl_Fact.f K (x.1.2.2.2.2.2.2.2.2.1, ())).bind fun y7 => (m_slices_Clone_impl_Item_impl_Item.f K (x.1.2.2.2.2.2.2.2.2.2.1, ())).bind fun y8 => some (((x.1.1, (x.1.2.1, (x.1.2.2.1, (x.1.2.2.2.1, (x.1.2.2.2.2.1, (x.1.2.2.2.2.2.1, (x.1.2.2.2.2.2.2.1, (x.1.2.2.2.2.2.2.2.1, (y7.1.1, (y8.1.1, (x.1.2.2.2.2.2.2.2.2.2.2.1, (a.1, (x.1.2.2.2.2.2.2.2.2.2.2.2.2.1, (a.2.1, a.2.2.1)))))))))))))), ()), ()))
noncomputable def l2 (K : Nat) (x : Args ps) : A_l2 → Option Res := iterate (fun rec_l2 a => l2.step K x rec_l2 a) K
noncomputable def l1.step (K : Nat) (x : Args ps) (N_l2 : A_l2 → Option Res) (rec_l1 : A_l1 → Option Res) (a : A_l1) : Option Res := bif decide (a.2.2 < (List.length x.1.2.2.2.2.2.2.2.2.2.2.2.2.2.1 : Int)) then ((idx x.1.2.2.2.2.2.2.2.2.2.2.2.2.2.1 a.2.2).bind fun y3 => (m_slices_Clone_int_int.f K (y3.2.2, ())).bind fun y4 => bif decide ((List.length a.2.1 + List.length ([(y3.1, (y3.2.1, y4.1.1))])) * 64 ≤ sizeK) then (rec_l1 (a.1, a.2.1 ++ ([(y3.1, (y3.2.1, y4.1.1))]), wr .i64 (a.2.2 + 1))) else none) else (N_l2 (a.1, a.2.1, [], 0))
noncomputable def l1 (K : Nat) (x : Args ps) : A_l1 → Option Res := iterate (fun rec_l1 a => l1.step K x (l2 K x) rec_l1 a) K
noncomputable def l0.step (K : Nat) (x : Args ps) (N_l1 : A_l1 → Option Res) (rec_l0 : A_l0 → Option Res) (a : A_l0) : Option Res := bif decide (a.2 < (List.length x.1.2.2.2.2.2.2.2.2.2.2.2.1 : Int)) then ((idx x.1.2.2.2.2.2.2.2.2.2.2.2.1 a.2).bind fun y1 => (m_slices_Clone_int_int.f K (y1.2.2.2, ())).bind fun y2 => bif decide ((List.length a.1 + List.length ([(y1.1, (y1.2.1, (y1.2.2.1, y2.1.1)))])) * 48 ≤ sizeK) then (rec_l0 (a.1 ++ ([(y1.1, (y1.2.1, (y1.2.2.1, y2.1.1)))]), wr .i64 (a.2 + 1))) else none) else (N_l1 (a.1, [], 0))
noncomputable def l0 (K : Nat) (x : Args ps) : A_l0 → Option Res := iterate (fun rec_l0 a => l0.step K x (l1 K x) rec_l0 a) K
noncomputable def pre (K : Nat) (N_l0 : A_l0 → Option Res) (x : Args ps) : Option Res := N_l0 ([], 0)
noncomputable def f (K : Nat) (x : Args ps) : Option Res := pre K (l0 K x) x
noncomputable def c (K : Nat) : Ctr := ⟨197, ps, rs, true, f K⟩
noncomputable def G (K : Nat) : List Ctr := [m_slices_Clone_int_int.c K, m_slices_Clone_impl_Fact_impl_Fact.c K, m_slices_Clone_impl_Item_impl_Item.c K]
noncomputable def live_l2 : List (Nat × List Coe) := [(1, [.keep]), (2, [.keep]), (3, [.own false 177 t6]), (6, [.own false 94 t11]), (9, [.own false 119 t12]), (45, [.ro true 119 t18]), (46, [.keep]), (47, [.keep]), (100001, [.keep, .keep, .keep, .keep, .keep, .keep, .keep, .keep, .ro true 132 t2, .ro true 173 t3, .keep, .keep, .keep, .keep, .ro true 177 t15, .keep, .keep, .keep, .keep, .ro true 94 t17, .ro true 119 t18]), (100002, [.keep, .keep, .keep, .keep, .keep, .keep, .keep, .keep, .keep, .keep, .keep, .keep, .keep, .keep, .keep, .keep, .keep, .keep, .keep, .keep, .keep])]
noncomputable def live_l1 : List (Nat × List Coe) := [(1, [.keep]), (2, [.keep]), (3, [.own false 177 t6]), (6, [.own false 94 t11]), (29, [.ro true 94 t17]), (30, [.keep]), (31, [.keep]), (100001, [.keep, .keep, .keep, .keep, .keep, .keep, .keep, .keep, .ro true 132 t2, .ro true 173 t3, .keep, .keep, .keep, .keep, .ro true 177 t15, .keep, .keep, .keep, .keep, .ro true 94 t17, .ro true 119 t18]), (100002, [.keep, .keep, .keep, .keep, .keep, .keep, .keep, .keep, .keep, .keep, .keep, .keep, .keep, .keep, .keep, .keep, .keep, .keep, .keep, .keep, .keep])]
noncomputable def live_l0 : List (Nat × List Coe) := [(1, [.keep]), (2, [.keep]), (3, [.own false 177 t6]), (13, [.ro true 177 t15]), (14, [.keep]), (15, [.keep]), (100001, [.keep, .keep, .keep, .keep, .keep, .keep, .keep, .keep, .ro true 132 t2, .ro true 173 t3, .keep, .keep, .keep, .keep, .ro true 177 t15, .keep, .keep, .keep, .keep, .ro true 94 t17, .ro true 119 t18]), (100002, [.keep, .keep, .keep, .keep, .keep, .keep, .keep, .keep, .keep, .keep, .keep, .keep, .keep, .keep, .keep, .keep, .keep, .keep, .keep, .keep, .keep])]
noncomputable def L : List (Nat × List (Nat × List Coe)) := [(18, live_l2), (11, live_l1), (4, live_l0)]
noncomputable def body : Code := bodyOf Tryz.f197
noncomputable abbrev ev (K : Nat) : Code → St → (Ex → St → Option Res) → Option Res := evK (G K) T_D L K
noncomputable abbrev fin : Ex → St → Option Res := finK T_D ps rs true Tryz.f197.results.toList
noncomputable def S_l0 (x : Args ps) (a : A_l0) : St := mkSt [(1, ⟨0, .one, [.bp 100001 0]⟩), (2, ⟨0, .one, [.bp 100002 0]⟩), (3, ⟨0, .one, [.own false none 177 t6 a.1]⟩), (13, ⟨0, .one, [.ro true 177 t15 x.1.2.2.2.2.2.2.2.2.2.2.2.1]⟩), (14, ⟨0, .one, [.int .i64 (List.length x.1.2.2.2.2.2.2.2.2.2.2.2.1 : Int)]⟩), (15, ⟨0, .one, [.int .i64 a.2]⟩), (100001, ⟨0, .agg, [.int .i64 x.1.1, .bool x.1.2.1, .bool x.1.2.2.1, .bool x.1.2.2.2.1, .int .i64 x.1.2.2.2.2.1, .int .i64 x.1.2.2.2.2.2.1, .int .i64 x.1.2.2.2.2.2.2.1, .int .i64 x.1.2.2.2.2.2.2.2.1, .ro true 132 t2 x.1.2.2.2.2.2.2.2.2.1, .ro true 173 t3 x.1.2.2.2.2.2.2.2.2.2.1, .int .i64 x.1.2.2.2.2.2.2.2.2.2.2.1.1, .int .i64 x.1.2.2.2.2.2.2.2.2.2.2.1.2.1, .int .i64 x.1.2.2.2.2.2.2.2.2.2.2.1.2.2.1, .bool x.1.2.2.2.2.2.2.2.2.2.2.1.2.2.2, .ro true 177 t15 x.1.2.2.2.2.2.2.2.2.2.2.2.1, .int .i64 x.1.2.2.2.2.2.2.2.2.2.2.2.2.1.1, .int .i64 x.1.2.2.2.2.2.2.2.2.2.2.2.2.1.2.1, .int .i64 x.1.2.2.2.2.2.2.2.2.2.2.2.2.1.2.2.1, .int .i64 x.1.2.2.2.2.2.2.2.2.2.2.2.2.1.2.2.2, .ro true 94 t17 x.1.2.2.2.2.2.2.2.2.2.2.2.2.2.1, .ro true 119 t18 x.1.2.2.2.2.2.2.2.2.2.2.2.2.2.2]⟩), (100002, ⟨0, .agg, [.int .i64 0, .bool false, .bool false, .bool false, .int .i64 0, .int .i64 0, .int .i64 0, .int .i64 0, .nil, .nil, .int .i64 0, .int .i64 0, .int .i64 0, .bool false, .nil, .int .i64 0, .int .i64 0, .int .i64 0, .int .i64 0, .nil, .nil]⟩)]
noncomputable def S_l1 (x : Args ps) (a : A_l1) : St := mkSt [(1, ⟨0, .one, [.bp 100001 0]⟩), (2, ⟨0, .one, [.bp 100002 0]⟩), (3, ⟨0, .one, [.own false none 177 t6 a.1]⟩), (6, ⟨0, .one, [.own false none 94 t11 a.2.1]⟩), (29, ⟨0, .one, [.ro true 94 t17 x.1.2.2.2.2.2.2.2.2.2.2.2.2.2.1]⟩), (30, ⟨0, .one, [.int .i64 (List.length x.1.2.2.2.2.2.2.2.2.2.2.2.2.2.1 : Int)]⟩), (31, ⟨0, .one, [.int .i64 a.2.2]⟩), (100001, ⟨0, .agg, [.int .i64 x.1.1, .bool x.1.2.1, .bool x.1.2.2.1, .bool x.1.2.2.2.1, .int .i64 x.1.2.2.2.2.1, .int .i64 x.1.2.2.2.2.2.1, .int .i64 x.1.2.2.2.2.2.2.1, .int .i64 x.1.2.2.2.2.2.2.2.1, .ro true 132 t2 x.1.2.2.2.2.2.2.2.2.1, .ro true 173 t3 x.1.2.2.2.2.2.2.2.2.2.1, .int .i64 x.1.2.2.2.2.2.2.2.2.2.2.1.1, .int .i64 x.1.2.2.2.2.2.2.2.2.2.2.1.2.1, .int .i64 x.1.2.2.2.2.2.2.2.2.2.2.1.2.2.1, .bool x.1.2.2.2.2.2.2.2.2.2.2.1.2.2.2, .ro true 177 t15 x.1.2.2.2.2.2.2.2.2.2.2.2.1, .int .i64 x.1.2.2.2.2.2.2.2.2.2.2.2.2.1.1, .int .i64 x.1.2.2.2.2.2.2.2.2.2.2.2.2.1.2.1, .int .i64 x.1.2.2.2.2.2.2.2.2.2.2.2.2.1.2.2.1, .int .i64 x.1.2.2.2.2.2.2.2.2.2.2.2.2.1.2.2.2, .ro true 94 t17 x.1.2.2.2.2.2.2.2.2.2.2.2.2.2.1, .ro true 119 t18 x.1.2.2.2.2.2.2.2.2.2.2.2.2.2.2]⟩), (100002, ⟨0, .agg, [.int .i64 0, .bool false, .bool false, .bool false, .int .i64 0, .int .i64 0, .int .i64 0, .int .i64 0, .nil, .nil, .int .i64 0, .int .i64 0, .int .i64 0, .bool false, .nil, .int .i64 0, .int .i64 0, .int .i64 0, .int .i64 0, .nil, .nil]⟩)]
noncomputable def S_l2 (x : Args ps) (a : A_l2) : St := mkSt [(1, ⟨0, .one, [.bp 100001 0]⟩), (2, ⟨0, .one, [.bp 100002 0]⟩), (3, ⟨0, .one, [.own false none 177 t6 a.1]⟩), (6, ⟨0, .one, [.own false none 94 t11 a.2.1]⟩), (9, ⟨0, .one, [.own false none 119 t12 a.2.2.1]⟩), (45, ⟨0, .one, [.ro true 119 t18 x.1.2.2.2.2.2.2.2.2.2.2.2.2.2.2]⟩), (46, ⟨0, .one, [.int .i64 (List.length x.1.2.2.2.2.2.2.2.2.2.2.2.2.2.2 : Int)]⟩), (47, ⟨0, .one, [.int .i64 a.2.2.2]⟩), (100001, ⟨0, .agg, [.int .i64 x.1.1, .bool x.1.2.1, .bool x.1.2.2.1, .bool x.1.2.2.2.1, .int .i64 x.1.2.2.2.2.1, .int .i64 x.1.2.2.2.2.2.1, .int .i64 x.1.2.2.2.2.2.2.1, .int .i64 x.1.2.2.2.2.2.2.2.1, .ro true 132 t2 x.1.2.2.2.2.2.2.2.2.1, .ro true 173 t3 x.1.2.2.2.2.2.2.2.2.2.1, .int .i64 x.1.2.2.2.2.2.2.2.2.2.2.1.1, .int .i64 x.1.2.2.2.2.2.2.2.2.2.2.1.2.1, .int .i64 x.1.2.2.2.2.2.2.2.2.2.2.1.2.2.1, .bool x.1.2.2.2.2.2.2.2.2.2.2.1.2.2.2, .ro true 177 t15 x.1.2.2.2.2.2.2.2.2.2.2.2.1, .int .i64 x.1.2.2.2.2.2.2.2.2.2.2.2.2.1.1, .int .i64 x.1.2.2.2.2.2.2.2.2.2.2.2.2.1.2.1, .int .i64 x.1.2.2.2.2.2.2.2.2.2.2.2.2.1.2.2.1, .int .i64 x.1.2.2.2.2.2.2.2.2.2.2.2.2.1.2.2.2, .ro true 94 t17 x.1.2.2.2.2.2.2.2.2.2.2.2.2.2.1, .ro true 119 t18 x.1.2.2.2.2.2.2.2.2.2.2.2.2.2.2]⟩), (100002, ⟨0, .agg, [.int .i64 0, .bool false, .bool false, .bool false, .int .i64 0, .int .i64 0, .int .i64 0, .int .i64 0, .nil, .nil, .int .i64 0, .int .i64 0, .int .i64 0, .bool false, .nil, .int .i64 0, .int .i64 0, .int .i64 0, .int .i64 0, .nil, .nil]⟩)]
noncomputable def k_l0 (K : Nat) (x : Args ps) : Ex → St → Option Res := kAt (ev K) body [1, 1, 0, 1, 0] fin
noncomputable def N_l0 (K : Nat) (x : Args ps) : A_l0 → Option Res := fun a => evLoop live_l0 (ev K (sub body [1, 1, 0, 1, 0, 0])) K (S_l0 x a) (k_l0 K x)
noncomputable def k_l1 (K : Nat) (x : Args ps) : Ex → St → Option Res := kAt (ev K) body [1, 1, 1, 1, 0, 1, 0] fin
noncomputable def N_l1 (K : Nat) (x : Args ps) : A_l1 → Option Res := fun a => evLoop live_l1 (ev K (sub body [1, 1, 1, 1, 0, 1, 0, 0])) K (S_l1 x a) (k_l1 K x)
noncomputable def k_l2 (K : Nat) (x : Args ps) : Ex → St → Option Res := kAt (ev K) body [1, 1, 1, 1, 1, 1, 0, 1, 0] fin
noncomputable def N_l2 (K : Nat) (x : Args ps) : A_l2 → Option Res := fun a => evLoop live_l2 (ev K (sub body [1, 1, 1, 1, 1, 1, 0, 1, 0, 0])) K (S_l2 x a) (k_l2 K x)
end impl_Node_copied
namespace slices_Clip_impl_Word_impl_Word
@[reducible] def ps : List PK := [.own (.list true 53 t89)]
@[reducible] def rs : List RK := [.v (.list true 53 t89)]
abbrev Res := Ress rs × Outs ps
noncomputable def pre (K : Nat) (x : Args ps) : Option Res := bif true && decide ((List.length x.1 : Int) = (List.length x.1 : Int)) && decide ((List.length x.1 : Int) = (List.length x.1 : Int)) && true then (some ((x.1, ()), ())) else none
noncomputable def f (K : Nat) (x : Args ps) : Option Res := pre K x
noncomputable def c (K : Nat) : Ctr := ⟨198, ps, rs, true, f K⟩
noncomputable def G (K : Nat) : List Ctr := []
noncomputable def L : List (Nat × List (Nat × List Coe)) := []
noncomputable def body : Code := bodyOf Tryz.f198
noncomputable abbrev ev (K : Nat) : Code → St → (Ex → St → Option Res) → Option Res := evK (G K) T_D L K
noncomputable abbrev fin : Ex → St → Option Res := finK T_D ps rs true Tryz.f198.results.toList
end slices_Clip_impl_Word_impl_Word
namespace impl_does
@[reducible] def ps : List PK := [.rd t61, .clo 129 [(false, (.int .i64))]]
@[reducible] def rs : List RK := [.v t47, .v (.list true 53 t89)]
abbrev Res := Ress rs × Outs ps
noncomputable def pre (K : Nat) (x : Args ps) : Option Res := (impl_NodeOk.f K (x.1, ())).bind fun y1 => bif !y1.1.1 then (some (((0, (false, (false, (false, (0, (0, (0, (0, ([], ([], ((0, (0, (0, false))), ([], ((0, (0, (0, 0))), ([], [])))))))))))))), [], ()), ())) else ((impl_Node_copied.f K (x.1, ())).bind fun y2 => (impl_NodeJoin_1.f K (y2.1.1, x.2.1.1, ())).bind fun y3 => (slices_Clip_impl_Word_impl_Word.f K (y3.1.1, ())).bind fun y4 => some ((y2.1.1, y4.1.1, ()), ()))
noncomputable def f (K : Nat) (x : Args ps) : Option Res := pre K x
noncomputable def c (K : Nat) : Ctr := ⟨128, ps, rs, true, f K⟩
noncomputable def G (K : Nat) : List Ctr := [impl_NodeOk.c K, impl_NodeJoin_1.c K, impl_Node_copied.c K, slices_Clip_impl_Word_impl_Word.c K]
noncomputable def L : List (Nat × List (Nat × List Coe)) := []
noncomputable def body : Code := bodyOf Tryz.f128
noncomputable abbrev ev (K : Nat) : Code → St → (Ex → St → Option Res) → Option Res := evK (G K) T_D L K
noncomputable abbrev fin : Ex → St → Option Res := finK T_D ps rs true Tryz.f128.results.toList
end impl_does
namespace impl_NodeJoin
@[reducible] def ps : List PK := [.rd t61, .rd (.int .i64)]
@[reducible] def rs : List RK := [.v t47, .v (.list true 53 t89)]
abbrev Res := Ress rs × Outs ps
noncomputable def pre (K : Nat) (x : Args ps) : Option Res := (impl_does.f K (x.1, (x.2.1, ()), ())).bind fun y1 => some ((y1.1.1, y1.1.2.1, ()), ())
noncomputable def f (K : Nat) (x : Args ps) : Option Res := pre K x
noncomputable def c (K : Nat) : Ctr := ⟨39, ps, rs, true, f K⟩
noncomputable def G (K : Nat) : List Ctr := [impl_does.c K]
noncomputable def L : List (Nat × List (Nat × List Coe)) := []
noncomputable def body : Code := bodyOf Tryz.f39
noncomputable abbrev ev (K : Nat) : Code → St → (Ex → St → Option Res) → Option Res := evK (G K) T_D L K
noncomputable abbrev fin : Ex → St → Option Res := finK T_D ps rs true Tryz.f39.results.toList
end impl_NodeJoin
namespace laws_eqWord
@[reducible] def ps : List PK := [.rd t82, .rd t82]
@[reducible] def rs : List RK := [.v .bool]
abbrev Res := Ress rs × Outs ps
noncomputable def pre (K : Nat) (x : Args ps) : Option Res := bif x.1.1 != x.2.1.1 then (some ((false, ()), ())) else (bif x.1.2.1 != x.2.1.2.1 then (some ((false, ()), ())) else (bif x.1.2.2.1 != x.2.1.2.2.1 then (some ((false, ()), ())) else (bif x.1.2.2.2.1 != x.2.1.2.2.2.1 then (some ((false, ()), ())) else (bif x.1.2.2.2.2.1 != x.2.1.2.2.2.2.1 then (some ((false, ()), ())) else (bif x.1.2.2.2.2.2.1 != x.2.1.2.2.2.2.2.1 then (some ((false, ()), ())) else ((laws_eqCoord.f K (x.1.2.2.2.2.2.2.1, x.2.1.2.2.2.2.2.2.1, ())).bind fun y1 => bif !y1.1.1 then (some ((false, ()), ())) else ((laws_eqFactS.f K (x.1.2.2.2.2.2.2.2, x.2.1.2.2.2.2.2.2.2, ())).bind fun y2 => bif !y2.1.1 then (some ((false, ()), ())) else (some ((true, ()), ())))))))))
noncomputable def f (K : Nat) (x : Args ps) : Option Res := pre K x
noncomputable def c (K : Nat) : Ctr := ⟨24, ps, rs, true, f K⟩
noncomputable def G (K : Nat) : List Ctr := [laws_eqFactS.c K, laws_eqCoord.c K]
noncomputable def L : List (Nat × List (Nat × List Coe)) := []
noncomputable def body : Code := bodyOf Tryz.f24
noncomputable abbrev ev (K : Nat) : Code → St → (Ex → St → Option Res) → Option Res := evK (G K) T_D L K
noncomputable abbrev fin : Ex → St → Option Res := finK T_D ps rs true Tryz.f24.results.toList
end laws_eqWord
namespace laws_eqWordS
@[reducible] def ps : List PK := [.rd (.list false 53 t82), .rd (.list false 53 t82)]
@[reducible] def rs : List RK := [.v .bool]
abbrev Res := Ress rs × Outs ps
abbrev A_l0 := Int
noncomputable def l0.step (K : Nat) (x : Args ps) (rec_l0 : A_l0 → Option Res) (a : A_l0) : Option Res := bif decide (a < (List.length x.1 : Int)) then ((idx x.1 a).bind fun y1 => (idx x.2.1 a).bind fun y2 => (laws_eqWord.f K (y1, y2, ())).bind fun y3 => bif !y3.1.1 then (some ((false, ()), ())) else (rec_l0 (wr .i64 (a + 1)))) else (some ((true, ()), ()))
noncomputable def l0 (K : Nat) (x : Args ps) : A_l0 → Option Res := iterate (fun rec_l0 a => l0.step K x rec_l0 a) K
noncomputable def pre (K : Nat) (N_l0 : A_l0 → Option Res) (x : Args ps) : Option Res := bif (List.length x.1 : Int) != (List.length x.2.1 : Int) then (some ((false, ()), ())) else (N_l0 0)
noncomputable def f (K : Nat) (x : Args ps) : Option Res := pre K (l0 K x) x
noncomputable def c (K : Nat) : Ctr := ⟨40, ps, rs, true, f K⟩
noncomputable def G (K : Nat) : List Ctr := [laws_eqWord.c K]
noncomputable def live_l0 : List (Nat × List Coe) := [(0, [.ro true 53 t82]), (1, [.ro true 53 t82]), (5, [.keep])]
noncomputable def L : List (Nat × List (Nat × List Coe)) := [(5, live_l0)]
noncomputable def body : Code := bodyOf Tryz.f40
noncomputable abbrev ev (K : Nat) : Code → St → (Ex → St → Option Res) → Option Res := evK (G K) T_D L K
noncomputable abbrev fin : Ex → St → Option Res := finK T_D ps rs true Tryz.f40.results.toList
noncomputable def S_l0 (x : Args ps) (a : A_l0) : St := mkSt [(0, ⟨0, .one, [.ro true 53 t82 x.1]⟩), (1, ⟨0, .one, [.ro true 53 t82 x.2.1]⟩), (5, ⟨0, .one, [.int .i64 a]⟩)]
noncomputable def k_l0 (K : Nat) (x : Args ps) : Ex → St → Option Res := kAt (ev K) body [1, 1, 0, 1, 0] fin
noncomputable def N_l0 (K : Nat) (x : Args ps) : A_l0 → Option Res := fun a => evLoop live_l0 (ev K (sub body [1, 1, 0, 1, 0, 0])) K (S_l0 x a) (k_l0 K x)
end laws_eqWordS
namespace laws_markWordS
@[reducible] def ps : List PK := [.io (.list true 53 t89), .rd (.int .i64)]
@[reducible] def rs : List RK := [.v (.int .i64)]
abbrev Res := Ress rs × Outs ps
abbrev A_l0 := List (Ty.den t89) × Int × Int
noncomputable def l0.step (K : Nat) (x : Args ps) (rec_l0 : A_l0 → Option Res) (a : A_l0) : Option Res := bif decide (a.2.2 < (List.length a.1 : Int)) then ((idx a.1 a.2.2).bind fun _ => (idx a.1 (Int.toNat a.2.2 : Nat)).bind fun y2 => (idx (a.1.set (Int.toNat a.2.2) (a.2.1, y2.2)) a.2.2).bind fun _ => (idx (a.1.set (Int.toNat a.2.2) (a.2.1, y2.2)) (Int.toNat a.2.2 : Nat)).bind fun y4 => (idx ((a.1.set (Int.toNat a.2.2) (a.2.1, y2.2)).set (Int.toNat a.2.2) (y4.1, (wr .i64 (a.2.1 + 1), y4.2.2))) a.2.2).bind fun _ => (idx ((a.1.set (Int.toNat a.2.2) (a.2.1, y2.2)).set (Int.toNat a.2.2) (y4.1, (wr .i64 (a.2.1 + 1), y4.2.2))) (Int.toNat a.2.2 : Nat)).bind fun y6 => (idx (((a.1.set (Int.toNat a.2.2) (a.2.1, y2.2)).set (Int.toNat a.2.2) (y4.1, (wr .i64 (a.2.1 + 1), y4.2.2))).set (Int.toNat a.2.2) (y6.1, (y6.2.1, (wr .i64 ((wr .i64 (a.2.1 + 1)) + 1), y6.2.2.2)))) a.2.2).bind fun _ => (idx (((a.1.set (Int.toNat a.2.2) (a.2.1, y2.2)).set (Int.toNat a.2.2) (y4.1, (wr .i64 (a.2.1 + 1), y4.2.2))).set (Int.toNat a.2.2) (y6.1, (y6.2.1, (wr .i64 ((wr .i64 (a.2.1 + 1)) + 1), y6.2.2.2)))) (Int.toNat a.2.2 : Nat)).bind fun y8 => (idx ((((a.1.set (Int.toNat a.2.2) (a.2.1, y2.2)).set (Int.toNat a.2.2) (y4.1, (wr .i64 (a.2.1 + 1), y4.2.2))).set (Int.toNat a.2.2) (y6.1, (y6.2.1, (wr .i64 ((wr .i64 (a.2.1 + 1)) + 1), y6.2.2.2)))).set (Int.toNat a.2.2) (y8.1, (y8.2.1, (y8.2.2.1, (wr .i64 ((wr .i64 ((wr .i64 (a.2.1 + 1)) + 1)) + 1), y8.2.2.2.2))))) a.2.2).bind fun _ => (idx ((((a.1.set (Int.toNat a.2.2) (a.2.1, y2.2)).set (Int.toNat a.2.2) (y4.1, (wr .i64 (a.2.1 + 1), y4.2.2))).set (Int.toNat a.2.2) (y6.1, (y6.2.1, (wr .i64 ((wr .i64 (a.2.1 + 1)) + 1), y6.2.2.2)))).set (Int.toNat a.2.2) (y8.1, (y8.2.1, (y8.2.2.1, (wr .i64 ((wr .i64 ((wr .i64 (a.2.1 + 1)) + 1)) + 1), y8.2.2.2.2))))) (Int.toNat a.2.2 : Nat)).bind fun y10 => (idx (((((a.1.set (Int.toNat a.2.2) (a.2.1, y2.2)).set (Int.toNat a.2.2) (y4.1, (wr .i64 (a.2.1 + 1), y4.2.2))).set (Int.toNat a.2.2) (y6.1, (y6.2.1, (wr .i64 ((wr .i64 (a.2.1 + 1)) + 1), y6.2.2.2)))).set (Int.toNat a.2.2) (y8.1, (y8.2.1, (y8.2.2.1, (wr .i64 ((wr .i64 ((wr .i64 (a.2.1 + 1)) + 1)) + 1), y8.2.2.2.2))))).set (Int.toNat a.2.2) (y10.1, (y10.2.1, (y10.2.2.1, (y10.2.2.2.1, (wr .i64 ((wr .i64 ((wr .i64 ((wr .i64 (a.2.1 + 1)) + 1)) + 1)) + 1), y10.2.2.2.2.2)))))) a.2.2).bind fun _ => (idx (((((a.1.set (Int.toNat a.2.2) (a.2.1, y2.2)).set (Int.toNat a.2.2) (y4.1, (wr .i64 (a.2.1 + 1), y4.2.2))).set (Int.toNat a.2.2) (y6.1, (y6.2.1, (wr .i64 ((wr .i64 (a.2.1 + 1)) + 1), y6.2.2.2)))).set (Int.toNat a.2.2) (y8.1, (y8.2.1, (y8.2.2.1, (wr .i64 ((wr .i64 ((wr .i64 (a.2.1 + 1)) + 1)) + 1), y8.2.2.2.2))))).set (Int.toNat a.2.2) (y10.1, (y10.2.1, (y10.2.2.1, (y10.2.2.2.1, (wr .i64 ((wr .i64 ((wr .i64 ((wr .i64 (a.2.1 + 1)) + 1)) + 1)) + 1), y10.2.2.2.2.2)))))) (Int.toNat a.2.2 : Nat)).bind fun y12 => (idx ((((((a.1.set (Int.toNat a.2.2) (a.2.1, y2.2)).set (Int.toNat a.2.2) (y4.1, (wr .i64 (a.2.1 + 1), y4.2.2))).set (Int.toNat a.2.2) (y6.1, (y6.2.1, (wr .i64 ((wr .i64 (a.2.1 + 1)) + 1), y6.2.2.2)))).set (Int.toNat a.2.2) (y8.1, (y8.2.1, (y8.2.2.1, (wr .i64 ((wr .i64 ((wr .i64 (a.2.1 + 1)) + 1)) + 1), y8.2.2.2.2))))).set (Int.toNat a.2.2) (y10.1, (y10.2.1, (y10.2.2.1, (y10.2.2.2.1, (wr .i64 ((wr .i64 ((wr .i64 ((wr .i64 (a.2.1 + 1)) + 1)) + 1)) + 1), y10.2.2.2.2.2)))))).set (Int.toNat a.2.2) (y12.1, (y12.2.1, (y12.2.2.1, (y12.2.2.2.1, (y12.2.2.2.2.1, (wr .i64 ((wr .i64 ((wr .i64 ((wr .i64 ((wr .i64 (a.2.1 + 1)) + 1)) + 1)) + 1)) + 1), y12.2.2.2.2.2.2))))))) a.2.2).bind fun _ => (idx ((((((a.1.set (Int.toNat a.2.2) (a.2.1, y2.2)).set (Int.toNat a.2.2) (y4.1, (wr .i64 (a.2.1 + 1), y4.2.2))).set (Int.toNat a.2.2) (y6.1, (y6.2.1, (wr .i64 ((wr .i64 (a.2.1 + 1)) + 1), y6.2.2.2)))).set (Int.toNat a.2.2) (y8.1, (y8.2.1, (y8.2.2.1, (wr .i64 ((wr .i64 ((wr .i64 (a.2.1 + 1)) + 1)) + 1), y8.2.2.2.2))))).set (Int.toNat a.2.2) (y10.1, (y10.2.1, (y10.2.2.1, (y10.2.2.2.1, (wr .i64 ((wr .i64 ((wr .i64 ((wr .i64 (a.2.1 + 1)) + 1)) + 1)) + 1), y10.2.2.2.2.2)))))).set (Int.toNat a.2.2) (y12.1, (y12.2.1, (y12.2.2.1, (y12.2.2.2.1, (y12.2.2.2.2.1, (wr .i64 ((wr .i64 ((wr .i64 ((wr .i64 ((wr .i64 (a.2.1 + 1)) + 1)) + 1)) + 1)) + 1), y12.2.2.2.2.2.2))))))) (Int.toNat a.2.2 : Nat)).bind fun y14 => (idx (((((((a.1.set (Int.toNat a.2.2) (a.2.1, y2.2)).set (Int.toNat a.2.2) (y4.1, (wr .i64 (a.2.1 + 1), y4.2.2))).set (Int.toNat a.2.2) (y6.1, (y6.2.1, (wr .i64 ((wr .i64 (a.2.1 + 1)) + 1), y6.2.2.2)))).set (Int.toNat a.2.2) (y8.1, (y8.2.1, (y8.2.2.1, (wr .i64 ((wr .i64 ((wr .i64 (a.2.1 + 1)) + 1)) + 1), y8.2.2.2.2))))).set (Int.toNat a.2.2) (y10.1, (y10.2.1, (y10.2.2.1, (y10.2.2.2.1, (wr .i64 ((wr .i64 ((wr .i64 ((wr .i64 (a.2.1 + 1)) + 1)) + 1)) + 1), y10.2.2.2.2.2)))))).set (Int.toNat a.2.2) (y12.1, (y12.2.1, (y12.2.2.1, (y12.2.2.2.1, (y12.2.2.2.2.1, (wr .i64 ((wr .i64 ((wr .i64 ((wr .i64 ((wr .i64 (a.2.1 + 1)) + 1)) + 1)) + 1)) + 1), y12.2.2.2.2.2.2))))))).set (Int.toNat a.2.2) (y14.1, (y14.2.1, (y14.2.2.1, (y14.2.2.2.1, (y14.2.2.2.2.1, (y14.2.2.2.2.2.1, ((wr .i64 ((wr .i64 ((wr .i64 ((wr .i64 ((wr .i64 ((wr .i64 (a.2.1 + 1)) + 1)) + 1)) + 1)) + 1)) + 1), y14.2.2.2.2.2.2.1.2), y14.2.2.2.2.2.2.2)))))))) a.2.2).bind fun _ => (idx (((((((a.1.set (Int.toNat a.2.2) (a.2.1, y2.2)).set (Int.toNat a.2.2) (y4.1, (wr .i64 (a.2.1 + 1), y4.2.2))).set (Int.toNat a.2.2) (y6.1, (y6.2.1, (wr .i64 ((wr .i64 (a.2.1 + 1)) + 1), y6.2.2.2)))).set (Int.toNat a.2.2) (y8.1, (y8.2.1, (y8.2.2.1, (wr .i64 ((wr .i64 ((wr .i64 (a.2.1 + 1)) + 1)) + 1), y8.2.2.2.2))))).set (Int.toNat a.2.2) (y10.1, (y10.2.1, (y10.2.2.1, (y10.2.2.2.1, (wr .i64 ((wr .i64 ((wr .i64 ((wr .i64 (a.2.1 + 1)) + 1)) + 1)) + 1), y10.2.2.2.2.2)))))).set (Int.toNat a.2.2) (y12.1, (y12.2.1, (y12.2.2.1, (y12.2.2.2.1, (y12.2.2.2.2.1, (wr .i64 ((wr .i64 ((wr .i64 ((wr .i64 ((wr .i64 (a.2.1 + 1)) + 1)) + 1)) + 1)) + 1), y12.2.2.2.2.2.2))))))).set (Int.toNat a.2.2) (y14.1, (y14.2.1, (y14.2.2.1, (y14.2.2.2.1, (y14.2.2.2.2.1, (y14.2.2.2.2.2.1, ((wr .i64 ((wr .i64 ((wr .i64 ((wr .i64 ((wr .i64 ((wr .i64 (a.2.1 + 1)) + 1)) + 1)) + 1)) + 1)) + 1), y14.2.2.2.2.2.2.1.2), y14.2.2.2.2.2.2.2)))))))) (Int.toNat a.2.2 : Nat)).bind fun y16 => (idx ((((((((a.1.set (Int.toNat a.2.2) (a.2.1, y2.2)).set (Int.toNat a.2.2) (y4.1, (wr .i64 (a.2.1 + 1), y4.2.2))).set (Int.toNat a.2.2) (y6.1, (y6.2.1, (wr .i64 ((wr .i64 (a.2.1 + 1)) + 1), y6.2.2.2)))).set (Int.toNat a.2.2) (y8.1, (y8.2.1, (y8.2.2.1, (wr .i64 ((wr .i64 ((wr .i64 (a.2.1 + 1)) + 1)) + 1), y8.2.2.2.2))))).set (Int.toNat a.2.2) (y10.1, (y10.2.1, (y10.2.2.1, (y10.2.2.2.1, (wr .i64 ((wr .i64 ((wr .i64 ((wr .i64 (a.2.1 + 1)) + 1)) + 1)) + 1), y10.2.2.2.2.2)))))).set (Int.toNat a.2.2) (y12.1, (y12.2.1, (y12.2.2.1, (y12.2.2.2.1, (y12.2.2.2.2.1, (wr .i64 ((wr .i64 ((wr .i64 ((wr .i64 ((wr .i64 (a.2.1 + 1)) + 1)) + 1)) + 1)) + 1), y12.2.2.2.2.2.2))))))).set (Int.toNat a.2.2) (y14.1, (y14.2.1, (y14.2.2.1, (y14.2.2.2.1, (y14.2.2.2.2.1, (y14.2.2.2.2.2.1, ((wr .i64 ((wr .i64 ((wr .i64 ((wr .i64 ((wr .i64 ((wr .i64 (a.2.1 + 1)) + 1)) + 1)) + 1)) + 1)) + 1), y14.2.2.2.2.2.2.1.2), y14.2.2.2.2.2.2.2)))))))).set (Int.toNat a.2.2) (y16.1, (y16.2.1, (y16.2.2.1, (y16.2.2.2.1, (y16.2.2.2.2.1, (y16.2.2.2.2.2.1, ((y16.2.2.2.2.2.2.1.1, (wr .i64 ((wr .i64 ((wr .i64 ((wr .i64 ((wr .i64 ((wr .i64 ((wr .i64 (a.2.1 + 1)) + 1)) + 1)) + 1)) + 1)) + 1)) + 1), y16.2.2.2.2.2.2.1.2.2)), y16.2.2.2.2.2.2.2)))))))) a.2.2).bind fun _ => (idx ((((((((a.1.set (Int.toNat a.2.2) (a.2.1, y2.2)).set (Int.toNat a.2.2) (y4.1, (wr .i64 (a.2.1 + 1), y4.2.2))).set (Int.toNat a.2.2) (y6.1, (y6.2.1, (wr .i64 ((wr .i64 (a.2.1 + 1)) + 1), y6.2.2.2)))).set (Int.toNat a.2.2) (y8.1, (y8.2.1, (y8.2.2.1, (wr .i64 ((wr .i64 ((wr .i64 (a.2.1 + 1)) + 1)) + 1), y8.2.2.2.2))))).set (Int.toNat a.2.2) (y10.1, (y10.2.1, (y10.2.2.1, (y10.2.2.2.1, (wr .i64 ((wr .i64 ((wr .i64 ((wr .i64 (a.2.1 + 1)) + 1)) + 1)) + 1), y10.2.2.2.2.2)))))).set (Int.toNat a.2.2) (y12.1, (y12.2.1, (y12.2.2.1, (y12.2.2.2.1, (y12.2.2.2.2.1, (wr .i64 ((wr .i64 ((wr .i64 ((wr .i64 ((wr .i64 (a.2.1 + 1)) + 1)) + 1)) + 1)) + 1), y12.2.2.2.2.2.2))))))).set (Int.toNat a.2.2) (y14.1, (y14.2.1, (y14.2.2.1, (y14.2.2.2.1, (y14.2.2.2.2.1, (y14.2.2.2.2.2.1, ((wr .i64 ((wr .i64 ((wr .i64 ((wr .i64 ((wr .i64 ((wr .i64 (a.2.1 + 1)) + 1)) + 1)) + 1)) + 1)) + 1), y14.2.2.2.2.2.2.1.2), y14.2.2.2.2.2.2.2)))))))).set (Int.toNat a.2.2) (y16.1, (y16.2.1, (y16.2.2.1, (y16.2.2.2.1, (y16.2.2.2.2.1, (y16.2.2.2.2.2.1, ((y16.2.2.2.2.2.2.1.1, (wr .i64 ((wr .i64 ((wr .i64 ((wr .i64 ((wr .i64 ((wr .i64 ((wr .i64 (a.2.1 + 1)) + 1)) + 1)) + 1)) + 1)) + 1)) + 1), y16.2.2.2.2.2.2.1.2.2)), y16.2.2.2.2.2.2.2)))))))) (Int.toNat a.2.2 : Nat)).bind fun y18 => (idx (((((((((a.1.set (Int.toNat a.2.2) (a.2.1, y2.2)).set (Int.toNat a.2.2) (y4.1, (wr .i64 (a.2.1 + 1), y4.2.2))).set (Int.toNat a.2.2) (y6.1, (y6.2.1, (wr .i64 ((wr .i64 (a.2.1 + 1)) + 1), y6.2.2.2)))).set (Int.toNat a.2.2) (y8.1, (y8.2.1, (y8.2.2.1, (wr .i64 ((wr .i64 ((wr .i64 (a.2.1 + 1)) + 1)) + 1), y8.2.2.2.2))))).set (Int.toNat a.2.2) (y10.1, (y10.2.1, (y10.2.2.1, (y10.2.2.2.1, (wr .i64 ((wr .i64 ((wr .i64 ((wr .i64 (a.2.1 + 1)) + 1)) + 1)) + 1), y10.2.2.2.2.2)))))).set (Int.toNat a.2.2) (y12.1, (y12.2.1, (y12.2.2.1, (y12.2.2.2.1, (y12.2.2.2.2.1, (wr .i64 ((wr .i64 ((wr .i64 ((wr .i64 ((wr .i64 (a.2.1 + 1)) + 1)) + 1)) + 1)) + 1), y12.2.2.2.2.2.2))))))).set (Int.toNat a.2.2) (y14.1, (y14.2.1, (y14.2.2.1, (y14.2.2.2.1, (y14.2.2.2.2.1, (y14.2.2.2.2.2.1, ((wr .i64 ((wr .i64 ((wr .i64 ((wr .i64 ((wr .i64 ((wr .i64 (a.2.1 + 1)) + 1)) + 1)) + 1)) + 1)) + 1), y14.2.2.2.2.2.2.1.2), y14.2.2.2.2.2.2.2)))))))).set (Int.toNat a.2.2) (y16.1, (y16.2.1, (y16.2.2.1, (y16.2.2.2.1, (y16.2.2.2.2.1, (y16.2.2.2.2.2.1, ((y16.2.2.2.2.2.2.1.1, (wr .i64 ((wr .i64 ((wr .i64 ((wr .i64 ((wr .i64 ((wr .i64 ((wr .i64 (a.2.1 + 1)) + 1)) + 1)) + 1)) + 1)) + 1)) + 1), y16.2.2.2.2.2.2.1.2.2)), y16.2.2.2.2.2.2.2)))))))).set (Int.toNat a.2.2) (y18.1, (y18.2.1, (y18.2.2.1, (y18.2.2.2.1, (y18.2.2.2.2.1, (y18.2.2.2.2.2.1, ((y18.2.2.2.2.2.2.1.1, (y18.2.2.2.2.2.2.1.2.1, (wr .i64 ((wr .i64 ((wr .i64 ((wr .i64 ((wr .i64 ((wr .i64 ((wr .i64 ((wr .i64 (a.2.1 + 1)) + 1)) + 1)) + 1)) + 1)) + 1)) + 1)) + 1), y18.2.2.2.2.2.2.1.2.2.2))), y18.2.2.2.2.2.2.2)))))))) a.2.2).bind fun _ => (idx (((((((((a.1.set (Int.toNat a.2.2) (a.2.1, y2.2)).set (Int.toNat a.2.2) (y4.1, (wr .i64 (a.2.1 + 1), y4.2.2))).set (Int.toNat a.2.2) (y6.1, (y6.2.1, (wr .i64 ((wr .i64 (a.2.1 + 1)) + 1), y6.2.2.2)))).set (Int.toNat a.2.2) (y8.1, (y8.2.1, (y8.2.2.1, (wr .i64 ((wr .i64 ((wr .i64 (a.2.1 + 1)) + 1)) + 1), y8.2.2.2.2))))).set (Int.toNat a.2.2) (y10.1, (y10.2.1, (y10.2.2.1, (y10.2.2.2.1, (wr .i64 ((wr .i64 ((wr .i64 ((wr .i64 (a.2.1 + 1)) + 1)) + 1)) + 1), y10.2.2.2.2.2)))))).set (Int.toNat a.2.2) (y12.1, (y12.2.1, (y12.2.2.1, (y12.2.2.2.1, (y12.2.2.2.2.1, (wr .i64 ((wr .i64 ((wr .i64 ((wr .i64 ((wr .i64 (a.2.1 + 1)) + 1)) + 1)) + 1)) + 1), y12.2.2.2.2.2.2))))))).set (Int.toNat a.2.2) (y14.1, (y14.2.1, (y14.2.2.1, (y14.2.2.2.1, (y14.2.2.2.2.1, (y14.2.2.2.2.2.1, ((wr .i64 ((wr .i64 ((wr .i64 ((wr .i64 ((wr .i64 ((wr .i64 (a.2.1 + 1)) + 1)) + 1)) + 1)) + 1)) + 1), y14.2.2.2.2.2.2.1.2), y14.2.2.2.2.2.2.2)))))))).set (Int.toNat a.2.2) (y16.1, (y16.2.1, (y16.2.2.1, (y16.2.2.2.1, (y16.2.2.2.2.1, (y16.2.2.2.2.2.1, ((y16.2.2.2.2.2.2.1.1, (wr .i64 ((wr .i64 ((wr .i64 ((wr .i64 ((wr .i64 ((wr .i64 ((wr .i64 (a.2.1 + 1)) + 1)) + 1)) + 1)) + 1)) + 1)) + 1), y16.2.2.2.2.2.2.1.2.2)), y16.2.2.2.2.2.2.2)))))))).set (Int.toNat a.2.2) (y18.1, (y18.2.1, (y18.2.2.1, (y18.2.2.2.1, (y18.2.2.2.2.1, (y18.2.2.2.2.2.1, ((y18.2.2.2.2.2.2.1.1, (y18.2.2.2.2.2.2.1.2.1, (wr .i64 ((wr .i64 ((wr .i64 ((wr .i64 ((wr .i64 ((wr .i64 ((wr .i64 ((wr .i64 (a.2.1 + 1)) + 1)) + 1)) + 1)) + 1)) + 1)) + 1)) + 1), y18.2.2.2.2.2.2.1.2.2.2))), y18.2.2.2.2.2.2.2)))))))) (Int.toNat a.2.2 : Nat)).bind fun y20 => (idx ((((((((((a.1.set (Int.toNat a.2.2) (a.2.1, y2.2)).set (Int.toNat a.2.2) (y4.1, (wr .i64 (a.2.1 + 1), y4.2.2))).set (Int.toNat a.2.2) (y6.1, (y6.2.1, (wr .i64 ((wr .i64 (a.2.1 + 1)) + 1), y6.2.2.2)))).set (Int.toNat a.2.2) (y8.1, (y8.2.1, (y8.2.2.1, (wr .i64 ((wr .i64 ((wr .i64 (a.2.1 + 1)) + 1)) + 1), y8.2.2.2.2))))).set (Int.toNat a.2.2) (y10.1, (y10.2.1, (y10.2.2.1, (y10.2.2.2.1, (wr .i64 ((wr .i64 ((wr .i64 ((wr .i64 (a.2.1 + 1)) + 1)) + 1)) + 1), y10.2.2.2.2.2)))))).set (Int.toNat a.2.2) (y12.1, (y12.2.1, (y12.2.2.1, (y12.2.2.2.1, (y12.2.2.2.2.1, (wr .i64 ((wr .i64 ((wr .i64 ((wr .i64 ((wr .i64 (a.2.1 + 1)) + 1)) + 1)) + 1)) + 1), y12.2.2.2.2.2.2))))))).set (Int.toNat a.2.2) (y14.1, (y14.2.1, (y14.2.2.1, (y14.2.2.2.1, (y14.2.2.2.2.1, (y14.2.2.2.2.2.1, ((wr .i64 ((wr .i64 ((wr .i64 ((wr .i64 ((wr .i64 ((wr .i64 (a.2.1 + 1)) + 1)) + 1)) + 1)) + 1)) + 1), y14.2.2.2.2.2.2.1.2), y14.2.2.2.2.2.2.2)))))))).set (Int.toNat a.2.2) (y16.1, (y16.2.1, (y16.2.2.1, (y16.2.2.2.1, (y16.2.2.2.2.1, (y16.2.2.2.2.2.1, ((y16.2.2.2.2.2.2.1.1, (wr .i64 ((wr .i64 ((wr .i64 ((wr .i64 ((wr .i64 ((wr .i64 ((wr .i64 (a.2.1 + 1)) + 1)) + 1)) + 1)) + 1)) + 1)) + 1), y16.2.2.2.2.2.2.1.2.2)), y16.2.2.2.2.2.2.2)))))))).set (Int.toNat a.2.2) (y18.1, (y18.2.1, (y18.2.2.1, (y18.2.2.2.1, (y18.2.2.2.2.1, (y18.2.2.2.2.2.1, ((y18.2.2.2.2.2.2.1.1, (y18.2.2.2.2.2.2.1.2.1, (wr .i64 ((wr .i64 ((wr .i64 ((wr .i64 ((wr .i64 ((wr .i64 ((wr .i64 ((wr .i64 (a.2.1 + 1)) + 1)) + 1)) + 1)) + 1)) + 1)) + 1)) + 1), y18.2.2.2.2.2.2.1.2.2.2))), y18.2.2.2.2.2.2.2)))))))).set (Int.toNat a.2.2) (y20.1, (y20.2.1, (y20.2.2.1, (y20.2.2.2.1, (y20.2.2.2.2.1, (y20.2.2.2.2.2.1, ((y20.2.2.2.2.2.2.1.1, (y20.2.2.2.2.2.2.1.2.1, (y20.2.2.2.2.2.2.1.2.2.1, wr .i64 ((wr .i64 ((wr .i64 ((wr .i64 ((wr .i64 ((wr .i64 ((wr .i64 ((wr .i64 ((wr .i64 (a.2.1 + 1)) + 1)) + 1)) + 1)) + 1)) + 1)) + 1)) + 1)) + 1)))), y20.2.2.2.2.2.2.2)))))))) a.2.2).bind fun _ => (idx ((((((((((a.1.set (Int.toNat a.2.2) (a.2.1, y2.2)).set (Int.toNat a.2.2) (y4.1, (wr .i64 (a.2.1 + 1), y4.2.2))).set (Int.toNat a.2.2) (y6.1, (y6.2.1, (wr .i64 ((wr .i64 (a.2.1 + 1)) + 1), y6.2.2.2)))).set (Int.toNat a.2.2) (y8.1, (y8.2.1, (y8.2.2.1, (wr .i64 ((wr .i64 ((wr .i64 (a.2.1 + 1)) + 1)) + 1), y8.2.2.2.2))))).set (Int.toNat a.2.2) (y10.1, (y10.2.1, (y10.2.2.1, (y10.2.2.2.1, (wr .i64 ((wr .i64 ((wr .i64 ((wr .i64 (a.2.1 + 1)) + 1)) + 1)) + 1), y10.2.2.2.2.2)))))).set (Int.toNat a.2.2) (y12.1, (y12.2.1, (y12.2.2.1, (y12.2.2.2.1, (y12.2.2.2.2.1, (wr .i64 ((wr .i64 ((wr .i64 ((wr .i64 ((wr .i64 (a.2.1 + 1)) + 1)) + 1)) + 1)) + 1), y12.2.2.2.2.2.2))))))).set (Int.toNat a.2.2) (y14.1, (y14.2.1, (y14.2.2.1, (y14.2.2.2.1, (y14.2.2.2.2.1, (y14.2.2.2.2.2.1, ((wr .i64 ((wr .i64 ((wr .i64 ((wr .i64 ((wr .i64 ((wr .i64 (a.2.1 + 1)) + 1)) + 1)) + 1)) + 1)) + 1), y14.2.2.2.2.2.2.1.2), y14.2.2.2.2.2.2.2)))))))).set (Int.toNat a.2.2) (y16.1, (y16.2.1, (y16.2.2.1, (y16.2.2.2.1, (y16.2.2.2.2.1, (y16.2.2.2.2.2.1, ((y16.2.2.2.2.2.2.1.1, (wr .i64 ((wr .i64 ((wr .i64 ((wr .i64 ((wr .i64 ((wr .i64 ((wr .i64 (a.2.1 + 1)) + 1)) + 1)) + 1)) + 1)) + 1)) + 1), y16.2.2.2.2.2.2.1.2.2)), y16.2.2.2.2.2.2.2)))))))).set (Int.toNat a.2.2) (y18.1, (y18.2.1, (y18.2.2.1, (y18.2.2.2.1, (y18.2.2.2.2.1, (y18.2.2.2.2.2.1, ((y18.2.2.2.2.2.2.1.1, (y18.2.2.2.2.2.2.1.2.1, (wr .i64 ((wr .i64 ((wr .i64 ((wr .i64 ((wr .i64 ((wr .i64 ((wr .i64 ((wr .i64 (a.2.1 + 1)) + 1)) + 1)) + 1)) + 1)) + 1)) + 1)) + 1), y18.2.2.2.2.2.2.1.2.2.2))), y18.2.2.2.2.2.2.2)))))))).set (Int.toNat a.2.2) (y20.1, (y20.2.1, (y20.2.2.1, (y20.2.2.2.1, (y20.2.2.2.2.1, (y20.2.2.2.2.2.1, ((y20.2.2.2.2.2.2.1.1, (y20.2.2.2.2.2.2.1.2.1, (y20.2.2.2.2.2.2.1.2.2.1, wr .i64 ((wr .i64 ((wr .i64 ((wr .i64 ((wr .i64 ((wr .i64 ((wr .i64 ((wr .i64 ((wr .i64 (a.2.1 + 1)) + 1)) + 1)) + 1)) + 1)) + 1)) + 1)) + 1)) + 1)))), y20.2.2.2.2.2.2.2)))))))) (Int.toNat a.2.2 : Nat)).bind fun y22 => (idx ((((((((((a.1.set (Int.toNat a.2.2) (a.2.1, y2.2)).set (Int.toNat a.2.2) (y4.1, (wr .i64 (a.2.1 + 1), y4.2.2))).set (Int.toNat a.2.2) (y6.1, (y6.2.1, (wr .i64 ((wr .i64 (a.2.1 + 1)) + 1), y6.2.2.2)))).set (Int.toNat a.2.2) (y8.1, (y8.2.1, (y8.2.2.1, (wr .i64 ((wr .i64 ((wr .i64 (a.2.1 + 1)) + 1)) + 1), y8.2.2.2.2))))).set (Int.toNat a.2.2) (y10.1, (y10.2.1, (y10.2.2.1, (y10.2.2.2.1, (wr .i64 ((wr .i64 ((wr .i64 ((wr .i64 (a.2.1 + 1)) + 1)) + 1)) + 1), y10.2.2.2.2.2)))))).set (Int.toNat a.2.2) (y12.1, (y12.2.1, (y12.2.2.1, (y12.2.2.2.1, (y12.2.2.2.2.1, (wr .i64 ((wr .i64 ((wr .i64 ((wr .i64 ((wr .i64 (a.2.1 + 1)) + 1)) + 1)) + 1)) + 1), y12.2.2.2.2.2.2))))))).set (Int.toNat a.2.2) (y14.1, (y14.2.1, (y14.2.2.1, (y14.2.2.2.1, (y14.2.2.2.2.1, (y14.2.2.2.2.2.1, ((wr .i64 ((wr .i64 ((wr .i64 ((wr .i64 ((wr .i64 ((wr .i64 (a.2.1 + 1)) + 1)) + 1)) + 1)) + 1)) + 1), y14.2.2.2.2.2.2.1.2), y14.2.2.2.2.2.2.2)))))))).set (Int.toNat a.2.2) (y16.1, (y16.2.1, (y16.2.2.1, (y16.2.2.2.1, (y16.2.2.2.2.1, (y16.2.2.2.2.2.1, ((y16.2.2.2.2.2.2.1.1, (wr .i64 ((wr .i64 ((wr .i64 ((wr .i64 ((wr .i64 ((wr .i64 ((wr .i64 (a.2.1 + 1)) + 1)) + 1)) + 1)) + 1)) + 1)) + 1), y16.2.2.2.2.2.2.1.2.2)), y16.2.2.2.2.2.2.2)))))))).set (Int.toNat a.2.2) (y18.1, (y18.2.1, (y18.2.2.1, (y18.2.2.2.1, (y18.2.2.2.2.1, (y18.2.2.2.2.2.1, ((y18.2.2.2.2.2.2.1.1, (y18.2.2.2.2.2.2.1.2.1, (wr .i64 ((wr .i64 ((wr .i64 ((wr .i64 ((wr .i64 ((wr .i64 ((wr .i64 ((wr .i64 (a.2.1 + 1)) + 1)) + 1)) + 1)) + 1)) + 1)) + 1)) + 1), y18.2.2.2.2.2.2.1.2.2.2))), y18.2.2.2.2.2.2.2)))))))).set (Int.toNat a.2.2) (y20.1, (y20.2.1, (y20.2.2.1, (y20.2.2.2.1, (y20.2.2.2.2.1, (y20.2.2.2.2.2.1, ((y20.2.2.2.2.2.2.1.1, (y20.2.2.2.2.2.2.1.2.1, (y20.2.2.2.2.2.2.1.2.2.1, wr .i64 ((wr .i64 ((wr .i64 ((wr .i64 ((wr .i64 ((wr .i64 ((wr .i64 ((wr .i64 ((wr .i64 (a.2.1 + 1)) + 1)) + 1)) + 1)) + 1)) + 1)) + 1)) + 1)) + 1)))), y20.2.2.2.2.2.2.2)))))))) (Int.toNat a.2.2 : Nat)).bind fun y23 => (laws_markFactS.f K (y23.2.2.2.2.2.2.2, wr .i64 ((wr .i64 ((wr .i64 ((wr .i64 ((wr .i64 ((wr .i64 ((wr .i64 ((wr .i64 ((wr .i64 ((wr .i64 (a.2.1 + 1)) + 1)) + 1)) + 1)) + 1)) + 1)) + 1)) + 1)) + 1)) + 1), ())).bind fun y24 => (idx ((((((((((a.1.set (Int.toNat a.2.2) (a.2.1, y2.2)).set (Int.toNat a.2.2) (y4.1, (wr .i64 (a.2.1 + 1), y4.2.2))).set (Int.toNat a.2.2) (y6.1, (y6.2.1, (wr .i64 ((wr .i64 (a.2.1 + 1)) + 1), y6.2.2.2)))).set (Int.toNat a.2.2) (y8.1, (y8.2.1, (y8.2.2.1, (wr .i64 ((wr .i64 ((wr .i64 (a.2.1 + 1)) + 1)) + 1), y8.2.2.2.2))))).set (Int.toNat a.2.2) (y10.1, (y10.2.1, (y10.2.2.1, (y10.2.2.2.1, (wr .i64 ((wr .i64 ((wr .i64 ((wr .i64 (a.2.1 + 1)) + 1)) + 1)) + 1), y10.2.2.2.2.2)))))).set (Int.toNat a.2.2) (y12.1, (y12.2.1, (y12.2.2.1, (y12.2.2.2.1, (y12.2.2.2.2.1, (wr .i64 ((wr .i64 ((wr .i64 ((wr .i64 ((wr .i64 (a.2.1 + 1)) + 1)) + 1)) + 1)) + 1), y12.2.2.2.2.2.2))))))).set (Int.toNat a.2.2) (y14.1, (y14.2.1, (y14.2.2.1, (y14.2.2.2.1, (y14.2.2.2.2.1, (y14.2.2.2.2.2.1, ((wr .i64 ((wr .i64 ((wr .i64 ((wr .i64 ((wr .i64 ((wr .i64 (a.2.1 + 1)) + 1)) + 1)) + 1)) + 1)) + 1), y14.2.2.2.2.2.2.1.2), y14.2.2.2.2.2.2.2)))))))).set (Int.toNat a.2.2) (y16.1, (y16.2.1, (y16.2.2.1, (y16.2.2.2.1, (y16.2.2.2.2.1, (y16.2.2.2.2.2.1, ((y16.2.2.2.2.2.2.1.1, (wr .i64 ((wr .i64 ((wr .i64 ((wr .i64 ((wr .i64 ((wr .i64 ((wr .i64 (a.2.1 + 1)) + 1)) + 1)) + 1)) + 1)) + 1)) + 1), y16.2.2.2.2.2.2.1.2.2)), y16.2.2.2.2.2.2.2)))))))).set (Int.toNat a.2.2) (y18.1, (y18.2.1, (y18.2.2.1, (y18.2.2.2.1, (y18.2.2.2.2.1, (y18.2.2.2.2.2.1, ((y18.2.2.2.2.2.2.1.1, (y18.2.2.2.2.2.2.1.2.1, (wr .i64 ((wr .i64 ((wr .i64 ((wr .i64 ((wr .i64 ((wr .i64 ((wr .i64 ((wr .i64 (a.2.1 + 1)) + 1)) + 1)) + 1)) + 1)) + 1)) + 1)) + 1), y18.2.2.2.2.2.2.1.2.2.2))), y18.2.2.2.2.2.2.2)))))))).set (Int.toNat a.2.2) (y20.1, (y20.2.1, (y20.2.2.1, (y20.2.2.2.1, (y20.2.2.2.2.1, (y20.2.2.2.2.2.1, ((y20.2.2.2.2.2.2.1.1, (y20.2.2.2.2.2.2.1.2.1, (y20.2.2.2.2.2.2.1.2.2.1, wr .i64 ((wr .i64 ((wr .i64 ((wr .i64 ((wr .i64 ((wr .i64 ((wr .i64 ((wr .i64 ((wr .i64 (a.2.1 + 1)) + 1)) + 1)) + 1)) + 1)) + 1)) + 1)) + 1)) + 1)))), y20.2.2.2.2.2.2.2)))))))) (Int.toNat a.2.2 : Nat)).bind fun y25 => rec_l0 (((((((((((a.1.set (Int.toNat a.2.2) (a.2.1, y2.2)).set (Int.toNat a.2.2) (y4.1, (wr .i64 (a.2.1 + 1), y4.2.2))).set (Int.toNat a.2.2) (y6.1, (y6.2.1, (wr .i64 ((wr .i64 (a.2.1 + 1)) + 1), y6.2.2.2)))).set (Int.toNat a.2.2) (y8.1, (y8.2.1, (y8.2.2.1, (wr .i64 ((wr .i64 ((wr .i64 (a.2.1 + 1)) + 1)) + 1), y8.2.2.2.2))))).set (Int.toNat a.2.2) (y10.1, (y10.2.1, (y10.2.2.1, (y10.2.2.2.1, (wr .i64 ((wr .i64 ((wr .i64 ((wr .i64 (a.2.1 + 1)) + 1)) + 1)) + 1), y10.2.2.2.2.2)))))).set (Int.toNat a.2.2) (y12.1, (y12.2.1, (y12.2.2.1, (y12.2.2.2.1, (y12.2.2.2.2.1, (wr .i64 ((wr .i64 ((wr .i64 ((wr .i64 ((wr .i64 (a.2.1 + 1)) + 1)) + 1)) + 1)) + 1), y12.2.2.2.2.2.2))))))).set (Int.toNat a.2.2) (y14.1, (y14.2.1, (y14.2.2.1, (y14.2.2.2.1, (y14.2.2.2.2.1, (y14.2.2.2.2.2.1, ((wr .i64 ((wr .i64 ((wr .i64 ((wr .i64 ((wr .i64 ((wr .i64 (a.2.1 + 1)) + 1)) + 1)) + 1)) + 1)) + 1), y14.2.2.2.2.2.2.1.2), y14.2.2.2.2.2.2.2)))))))).set (Int.toNat a.2.2) (y16.1, (y16.2.1, (y16.2.2.1, (y16.2.2.2.1, (y16.2.2.2.2.1, (y16.2.2.2.2.2.1, ((y16.2.2.2.2.2.2.1.1, (wr .i64 ((wr .i64 ((wr .i64 ((wr .i64 ((wr .i64 ((wr .i64 ((wr .i64 (a.2.1 + 1)) + 1)) + 1)) + 1)) + 1)) + 1)) + 1), y16.2.2.2.2.2.2.1.2.2)), y16.2.2.2.2.2.2.2)))))))).set (Int.toNat a.2.2) (y18.1, (y18.2.1, (y18.2.2.1, (y18.2.2.2.1, (y18.2.2.2.2.1, (y18.2.2.2.2.2.1, ((y18.2.2.2.2.2.2.1.1, (y18.2.2.2.2.2.2.1.2.1, (wr .i64 ((wr .i64 ((wr .i64 ((wr .i64 ((wr .i64 ((wr .i64 ((wr .i64 ((wr .i64 (a.2.1 + 1)) + 1)) + 1)) + 1)) + 1)) + 1)) + 1)) + 1), y18.2.2.2.2.2.2.1.2.2.2))), y18.2.2.2.2.2.2.2)))))))).set (Int.toNat a.2.2) (y20.1, (y20.2.1, (y20.2.2.1, (y20.2.2.2.1, (y20.2.2.2.2.1, (y20.2.2.2.2.2.1, ((y20.2.2.2.2.2.2.1.1, (y20.2.2.2.2.2.2.1.2.1, (y20.2.2.2.2.2.2.1.2.2.1, wr .i64 ((wr .i64 ((wr .i64 ((wr .i64 ((wr .i64 ((wr .i64 ((wr .i64 ((wr .i64 ((wr .i64 (a.2.1 + 1)) + 1)) + 1)) + 1)) + 1)) + 1)) + 1)) + 1)) + 1)))), y20.2.2.2.2.2.2.2)))))))).set (Int.toNat a.2.2) (y25.1, (y25.2.1, (y25.2.2.1, (y25.2.2.2.1, (y25.2.2.2.2.1, (y25.2.2.2.2.2.1, (y25.2.2.2.2.2.2.1, y24.2.1))))))), y24.1.1, wr .i64 (a.2.2 + 1))) else (some ((a.2.1, ()), (a.1, ())))
noncomputable def l0 (K : Nat) (x : Args ps) : A_l0 → Option Res := iterate (fun rec_l0 a => l0.step K x rec_l0 a) K
noncomputable def pre (K : Nat) (N_l0 : A_l0 → Option Res) (x : Args ps) : Option Res := N_l0 (x.1, x.2.1, 0)
noncomputable def f (K : Nat) (x : Args ps) : Option Res := pre K (l0 K x) x
noncomputable def c (K : Nat) : Ctr := ⟨41, ps, rs, true, f K⟩
noncomputable def G (K : Nat) : List Ctr := [laws_markFactS.c K]
noncomputable def live_l0 : List (Nat × List Coe) := [(0, [.own false 53 t89]), (1, [.keep]), (5, [.keep])]
noncomputable def L : List (Nat × List (Nat × List Coe)) := [(3, live_l0)]
noncomputable def body : Code := bodyOf Tryz.f41
noncomputable abbrev ev (K : Nat) : Code → St → (Ex → St → Option Res) → Option Res := evK (G K) T_D L K
noncomputable abbrev fin : Ex → St → Option Res := finK T_D ps rs true Tryz.f41.results.toList
noncomputable def S_l0 (x : Args ps) (a : A_l0) : St := mkSt [(0, ⟨0, .one, [.own false none 53 t89 a.1]⟩), (1, ⟨0, .one, [.int .i64 a.2.1]⟩), (5, ⟨0, .one, [.int .i64 a.2.2]⟩)]
noncomputable def k_l0 (K : Nat) (x : Args ps) : Ex → St → Option Res := kAt (ev K) body [1, 0, 1, 0] fin
noncomputable def N_l0 (K : Nat) (x : Args ps) : A_l0 → Option Res := fun a => evLoop live_l0 (ev K (sub body [1, 0, 1, 0, 0])) K (S_l0 x a) (k_l0 K x)
end laws_markWordS
namespace laws_heldFactS
@[reducible] def ps : List PK := [.rd (.list false 132 t2), .rd (.int .i64)]
@[reducible] def rs : List RK := [.v (.int .i64)]
abbrev Res := Ress rs × Outs ps
abbrev A_l0 := Int × Int
noncomputable def l0.step (K : Nat) (x : Args ps) (rec_l0 : A_l0 → Option Res) (a : A_l0) : Option Res := bif decide (a.2 < (List.length x.1 : Int)) then ((idx x.1 a.2).bind fun y1 => bif y1.1 != a.1 then (some (((-1), ()), ())) else ((idx x.1 a.2).bind fun y2 => bif y2.2.1 != (wr .i64 (a.1 + 1)) then (some (((-1), ()), ())) else ((idx x.1 a.2).bind fun y3 => bif y3.2.2.1 != (wr .i64 ((wr .i64 (a.1 + 1)) + 1)) then (some (((-1), ()), ())) else ((idx x.1 a.2).bind fun y4 => bif y4.2.2.2 != ((Int.tmod (wr .i64 ((wr .i64 ((wr .i64 (a.1 + 1)) + 1)) + 1)) 3) == 0) then (some (((-1), ()), ())) else (rec_l0 (wr .i64 ((wr .i64 ((wr .i64 ((wr .i64 (a.1 + 1)) + 1)) + 1)) + 1), wr .i64 (a.2 + 1))))))) else (some ((a.1, ()), ()))
noncomputable def l0 (K : Nat) (x : Args ps) : A_l0 → Option Res := iterate (fun rec_l0 a => l0.step K x rec_l0 a) K
noncomputable def pre (K : Nat) (N_l0 : A_l0 → Option Res) (x : Args ps) : Option Res := N_l0 (x.2.1, 0)
noncomputable def f (K : Nat) (x : Args ps) : Option Res := pre K (l0 K x) x
noncomputable def c (K : Nat) : Ctr := ⟨48, ps, rs, true, f K⟩
noncomputable def G (K : Nat) : List Ctr := []
noncomputable def live_l0 : List (Nat × List Coe) := [(0, [.ro true 132 t2]), (1, [.keep]), (5, [.keep])]
noncomputable def L : List (Nat × List (Nat × List Coe)) := [(3, live_l0)]
noncomputable def body : Code := bodyOf Tryz.f48
noncomputable abbrev ev (K : Nat) : Code → St → (Ex → St → Option Res) → Option Res := evK (G K) T_D L K
noncomputable abbrev fin : Ex → St → Option Res := finK T_D ps rs true Tryz.f48.results.toList
noncomputable def S_l0 (x : Args ps) (a : A_l0) : St := mkSt [(0, ⟨0, .one, [.ro true 132 t2 x.1]⟩), (1, ⟨0, .one, [.int .i64 a.1]⟩), (5, ⟨0, .one, [.int .i64 a.2]⟩)]
noncomputable def k_l0 (K : Nat) (x : Args ps) : Ex → St → Option Res := kAt (ev K) body [1, 0, 1, 0] fin
noncomputable def N_l0 (K : Nat) (x : Args ps) : A_l0 → Option Res := fun a => evLoop live_l0 (ev K (sub body [1, 0, 1, 0, 0])) K (S_l0 x a) (k_l0 K x)
end laws_heldFactS
namespace laws_heldItemS
@[reducible] def ps : List PK := [.rd (.list false 173 t3), .rd (.int .i64)]
@[reducible] def rs : List RK := [.v (.int .i64)]
abbrev Res := Ress rs × Outs ps
abbrev A_l0 := Int × Int
noncomputable def l0.step (K : Nat) (x : Args ps) (rec_l0 : A_l0 → Option Res) (a : A_l0) : Option Res := bif decide (a.2 < (List.length x.1 : Int)) then ((idx x.1 a.2).bind fun y1 => bif y1.1.1 != a.1 then (some (((-1), ()), ())) else ((idx x.1 a.2).bind fun y2 => bif y2.1.2.1 != (wr .i64 (a.1 + 1)) then (some (((-1), ()), ())) else ((idx x.1 a.2).bind fun y3 => bif y3.1.2.2.1 != (wr .i64 ((wr .i64 (a.1 + 1)) + 1)) then (some (((-1), ()), ())) else ((idx x.1 a.2).bind fun y4 => bif y4.1.2.2.2 != ((Int.tmod (wr .i64 ((wr .i64 ((wr .i64 (a.1 + 1)) + 1)) + 1)) 3) == 0) then (some (((-1), ()), ())) else ((idx x.1 a.2).bind fun y5 => bif y5.2 != (wr .i64 ((wr .i64 ((wr .i64 ((wr .i64 (a.1 + 1)) + 1)) + 1)) + 1)) then (some (((-1), ()), ())) else (rec_l0 (wr .i64 ((wr .i64 ((wr .i64 ((wr .i64 ((wr .i64 (a.1 + 1)) + 1)) + 1)) + 1)) + 1), wr .i64 (a.2 + 1)))))))) else (some ((a.1, ()), ()))
noncomputable def l0 (K : Nat) (x : Args ps) : A_l0 → Option Res := iterate (fun rec_l0 a => l0.step K x rec_l0 a) K
noncomputable def pre (K : Nat) (N_l0 : A_l0 → Option Res) (x : Args ps) : Option Res := N_l0 (x.2.1, 0)
noncomputable def f (K : Nat) (x : Args ps) : Option Res := pre K (l0 K x) x
noncomputable def c (K : Nat) : Ctr := ⟨131, ps, rs, true, f K⟩
noncomputable def G (K : Nat) : List Ctr := []
noncomputable def live_l0 : List (Nat × List Coe) := [(0, [.ro true 173 t3]), (1, [.keep]), (5, [.keep])]
noncomputable def L : List (Nat × List (Nat × List Coe)) := [(3, live_l0)]
noncomputable def body : Code := bodyOf Tryz.f131
noncomputable abbrev ev (K : Nat) : Code → St → (Ex → St → Option Res) → Option Res := evK (G K) T_D L K
noncomputable abbrev fin : Ex → St → Option Res := finK T_D ps rs true Tryz.f131.results.toList
noncomputable def S_l0 (x : Args ps) (a : A_l0) : St := mkSt [(0, ⟨0, .one, [.ro true 173 t3 x.1]⟩), (1, ⟨0, .one, [.int .i64 a.1]⟩), (5, ⟨0, .one, [.int .i64 a.2]⟩)]
noncomputable def k_l0 (K : Nat) (x : Args ps) : Ex → St → Option Res := kAt (ev K) body [1, 0, 1, 0] fin
noncomputable def N_l0 (K : Nat) (x : Args ps) : A_l0 → Option Res := fun a => evLoop live_l0 (ev K (sub body [1, 0, 1, 0, 0])) K (S_l0 x a) (k_l0 K x)
end laws_heldItemS
namespace laws_heldIntS
@[reducible] def ps : List PK := [.rd (.list false 3 (.int .i64)), .rd (.int .i64)]
@[reducible] def rs : List RK := [.v (.int .i64)]
abbrev Res := Ress rs × Outs ps
abbrev A_l0 := Int × Int
noncomputable def l0.step (K : Nat) (x : Args ps) (rec_l0 : A_l0 → Option Res) (a : A_l0) : Option Res := bif decide (a.2 < (List.length x.1 : Int)) then ((idx x.1 a.2).bind fun y1 => bif y1 != a.1 then (some (((-1), ()), ())) else (rec_l0 (wr .i64 (a.1 + 1), wr .i64 (a.2 + 1)))) else (some ((a.1, ()), ()))
noncomputable def l0 (K : Nat) (x : Args ps) : A_l0 → Option Res := iterate (fun rec_l0 a => l0.step K x rec_l0 a) K
noncomputable def pre (K : Nat) (N_l0 : A_l0 → Option Res) (x : Args ps) : Option Res := N_l0 (x.2.1, 0)
noncomputable def f (K : Nat) (x : Args ps) : Option Res := pre K (l0 K x) x
noncomputable def c (K : Nat) : Ctr := ⟨30, ps, rs, true, f K⟩
noncomputable def G (K : Nat) : List Ctr := []
noncomputable def live_l0 : List (Nat × List Coe) := [(0, [.ro true 3 (.int .i64)]), (1, [.keep]), (5, [.keep])]
noncomputable def L : List (Nat × List (Nat × List Coe)) := [(3, live_l0)]
noncomputable def body : Code := bodyOf Tryz.f30
noncomputable abbrev ev (K : Nat) : Code → St → (Ex → St → Option Res) → Option Res := evK (G K) T_D L K
noncomputable abbrev fin : Ex → St → Option Res := finK T_D ps rs true Tryz.f30.results.toList
noncomputable def S_l0 (x : Args ps) (a : A_l0) : St := mkSt [(0, ⟨0, .one, [.ro true 3 (.int .i64) x.1]⟩), (1, ⟨0, .one, [.int .i64 a.1]⟩), (5, ⟨0, .one, [.int .i64 a.2]⟩)]
noncomputable def k_l0 (K : Nat) (x : Args ps) : Ex → St → Option Res := kAt (ev K) body [1, 0, 1, 0] fin
noncomputable def N_l0 (K : Nat) (x : Args ps) : A_l0 → Option Res := fun a => evLoop live_l0 (ev K (sub body [1, 0, 1, 0, 0])) K (S_l0 x a) (k_l0 K x)
end laws_heldIntS
namespace laws_heldDoubtS
@[reducible] def ps : List PK := [.rd (.list false 177 t15), .rd (.int .i64)]
@[reducible] def rs : List RK := [.v (.int .i64)]
abbrev Res := Ress rs × Outs ps
abbrev A_l0 := Int × Int
noncomputable def l0.step (K : Nat) (x : Args ps) (rec_l0 : A_l0 → Option Res) (a : A_l0) : Option Res := bif decide (a.2 < (List.length x.1 : Int)) then ((idx x.1 a.2).bind fun y1 => bif y1.1 != a.1 then (some (((-1), ()), ())) else ((idx x.1 a.2).bind fun y2 => bif y2.2.1 != (wr .i64 (a.1 + 1)) then (some (((-1), ()), ())) else ((idx x.1 a.2).bind fun y3 => bif y3.2.2.1 != (wr .i64 ((wr .i64 (a.1 + 1)) + 1)) then (some (((-1), ()), ())) else ((idx x.1 a.2).bind fun y4 => (laws_heldIntS.f K (y4.2.2.2, wr .i64 ((wr .i64 ((wr .i64 (a.1 + 1)) + 1)) + 1), ())).bind fun y5 => bif decide (y5.1.1 < 0) then (some (((-1), ()), ())) else (rec_l0 (y5.1.1, wr .i64 (a.2 + 1))))))) else (some ((a.1, ()), ()))
noncomputable def l0 (K : Nat) (x : Args ps) : A_l0 → Option Res := iterate (fun rec_l0 a => l0.step K x rec_l0 a) K
noncomputable def pre (K : Nat) (N_l0 : A_l0 → Option Res) (x : Args ps) : Option Res := N_l0 (x.2.1, 0)
noncomputable def f (K : Nat) (x : Args ps) : Option Res := pre K (l0 K x) x
noncomputable def c (K : Nat) : Ctr := ⟨132, ps, rs, true, f K⟩
noncomputable def G (K : Nat) : List Ctr := [laws_heldIntS.c K]
noncomputable def live_l0 : List (Nat × List Coe) := [(0, [.ro true 177 t15]), (1, [.keep]), (5, [.keep])]
noncomputable def L : List (Nat × List (Nat × List Coe)) := [(3, live_l0)]
noncomputable def body : Code := bodyOf Tryz.f132
noncomputable abbrev ev (K : Nat) : Code → St → (Ex → St → Option Res) → Option Res := evK (G K) T_D L K
noncomputable abbrev fin : Ex → St → Option Res := finK T_D ps rs true Tryz.f132.results.toList
noncomputable def S_l0 (x : Args ps) (a : A_l0) : St := mkSt [(0, ⟨0, .one, [.ro true 177 t15 x.1]⟩), (1, ⟨0, .one, [.int .i64 a.1]⟩), (5, ⟨0, .one, [.int .i64 a.2]⟩)]
noncomputable def k_l0 (K : Nat) (x : Args ps) : Ex → St → Option Res := kAt (ev K) body [1, 0, 1, 0] fin
noncomputable def N_l0 (K : Nat) (x : Args ps) : A_l0 → Option Res := fun a => evLoop live_l0 (ev K (sub body [1, 0, 1, 0, 0])) K (S_l0 x a) (k_l0 K x)
end laws_heldDoubtS
namespace laws_heldPlaceS
@[reducible] def ps : List PK := [.rd (.list false 94 t17), .rd (.int .i64)]
@[reducible] def rs : List RK := [.v (.int .i64)]
abbrev Res := Ress rs × Outs ps
abbrev A_l0 := Int × Int
noncomputable def l0.step (K : Nat) (x : Args ps) (rec_l0 : A_l0 → Option Res) (a : A_l0) : Option Res := bif decide (a.2 < (List.length x.1 : Int)) then ((idx x.1 a.2).bind fun y1 => bif y1.1 != a.1 then (some (((-1), ()), ())) else ((idx x.1 a.2).bind fun y2 => bif y2.2.1.1 != (wr .i64 (a.1 + 1)) then (some (((-1), ()), ())) else ((idx x.1 a.2).bind fun y3 => bif y3.2.1.2.1 != (wr .i64 ((wr .i64 (a.1 + 1)) + 1)) then (some (((-1), ()), ())) else ((idx x.1 a.2).bind fun y4 => bif y4.2.1.2.2.1 != (wr .i64 ((wr .i64 ((wr .i64 (a.1 + 1)) + 1)) + 1)) then (some (((-1), ()), ())) else ((idx x.1 a.2).bind fun y5 => bif y5.2.1.2.2.2 != (wr .i64 ((wr .i64 ((wr .i64 ((wr .i64 (a.1 + 1)) + 1)) + 1)) + 1)) then (some (((-1), ()), ())) else ((idx x.1 a.2).bind fun y6 => (laws_heldIntS.f K (y6.2.2, wr .i64 ((wr .i64 ((wr .i64 ((wr .i64 ((wr .i64 (a.1 + 1)) + 1)) + 1)) + 1)) + 1), ())).bind fun y7 => bif decide (y7.1.1 < 0) then (some (((-1), ()), ())) else (rec_l0 (y7.1.1, wr .i64 (a.2 + 1))))))))) else (some ((a.1, ()), ()))
noncomputable def l0 (K : Nat) (x : Args ps) : A_l0 → Option Res := iterate (fun rec_l0 a => l0.step K x rec_l0 a) K
noncomputable def pre (K : Nat) (N_l0 : A_l0 → Option Res) (x : Args ps) : Option Res := N_l0 (x.2.1, 0)
noncomputable def f (K : Nat) (x : Args ps) : Option Res := pre K (l0 K x) x
noncomputable def c (K : Nat) : Ctr := ⟨133, ps, rs, true, f K⟩
noncomputable def G (K : Nat) : List Ctr := [laws_heldIntS.c K]
noncomputable def live_l0 : List (Nat × List Coe) := [(0, [.ro true 94 t17]), (1, [.keep]), (5, [.keep])]
noncomputable def L : List (Nat × List (Nat × List Coe)) := [(3, live_l0)]
noncomputable def body : Code := bodyOf Tryz.f133
noncomputable abbrev ev (K : Nat) : Code → St → (Ex → St → Option Res) → Option Res := evK (G K) T_D L K
noncomputable abbrev fin : Ex → St → Option Res := finK T_D ps rs true Tryz.f133.results.toList
noncomputable def S_l0 (x : Args ps) (a : A_l0) : St := mkSt [(0, ⟨0, .one, [.ro true 94 t17 x.1]⟩), (1, ⟨0, .one, [.int .i64 a.1]⟩), (5, ⟨0, .one, [.int .i64 a.2]⟩)]
noncomputable def k_l0 (K : Nat) (x : Args ps) : Ex → St → Option Res := kAt (ev K) body [1, 0, 1, 0] fin
noncomputable def N_l0 (K : Nat) (x : Args ps) : A_l0 → Option Res := fun a => evLoop live_l0 (ev K (sub body [1, 0, 1, 0, 0])) K (S_l0 x a) (k_l0 K x)
end laws_heldPlaceS
namespace laws_heldForeignS
@[reducible] def ps : List PK := [.rd (.list false 119 t18), .rd (.int .i64)]
@[reducible] def rs : List RK := [.v (.int .i64)]
abbrev Res := Ress rs × Outs ps
abbrev A_l0 := Int × Int
noncomputable def l0.step (K : Nat) (x : Args ps) (rec_l0 : A_l0 → Option Res) (a : A_l0) : Option Res := bif decide (a.2 < (List.length x.1 : Int)) then ((idx x.1 a.2).bind fun y1 => bif y1.1 != a.1 then (some (((-1), ()), ())) else ((idx x.1 a.2).bind fun y2 => (laws_heldFactS.f K (y2.2, wr .i64 (a.1 + 1), ())).bind fun y3 => bif decide (y3.1.1 < 0) then (some (((-1), ()), ())) else (rec_l0 (y3.1.1, wr .i64 (a.2 + 1))))) else (some ((a.1, ()), ()))
noncomputable def l0 (K : Nat) (x : Args ps) : A_l0 → Option Res := iterate (fun rec_l0 a => l0.step K x rec_l0 a) K
noncomputable def pre (K : Nat) (N_l0 : A_l0 → Option Res) (x : Args ps) : Option Res := N_l0 (x.2.1, 0)
noncomputable def f (K : Nat) (x : Args ps) : Option Res := pre K (l0 K x) x
noncomputable def c (K : Nat) : Ctr := ⟨134, ps, rs, true, f K⟩
noncomputable def G (K : Nat) : List Ctr := [laws_heldFactS.c K]
noncomputable def live_l0 : List (Nat × List Coe) := [(0, [.ro true 119 t18]), (1, [.keep]), (5, [.keep])]
noncomputable def L : List (Nat × List (Nat × List Coe)) := [(3, live_l0)]
noncomputable def body : Code := bodyOf Tryz.f134
noncomputable abbrev ev (K : Nat) : Code → St → (Ex → St → Option Res) → Option Res := evK (G K) T_D L K
noncomputable abbrev fin : Ex → St → Option Res := finK T_D ps rs true Tryz.f134.results.toList
noncomputable def S_l0 (x : Args ps) (a : A_l0) : St := mkSt [(0, ⟨0, .one, [.ro true 119 t18 x.1]⟩), (1, ⟨0, .one, [.int .i64 a.1]⟩), (5, ⟨0, .one, [.int .i64 a.2]⟩)]
noncomputable def k_l0 (K : Nat) (x : Args ps) : Ex → St → Option Res := kAt (ev K) body [1, 0, 1, 0] fin
noncomputable def N_l0 (K : Nat) (x : Args ps) : A_l0 → Option Res := fun a => evLoop live_l0 (ev K (sub body [1, 0, 1, 0, 0])) K (S_l0 x a) (k_l0 K x)
end laws_heldForeignS
namespace laws_heldNode
@[reducible] def ps : List PK := [.rd t61, .rd (.int .i64)]
@[reducible] def rs : List RK := [.v (.int .i64)]
abbrev Res := Ress rs × Outs ps
noncomputable def pre (K : Nat) (x : Args ps) : Option Res := (laws_heldFactS.f K (x.1.2.2.2.2.2.2.2.2.1, x.2.1, ())).bind fun y1 => bif decide (y1.1.1 < 0) then (some (((-1), ()), ())) else ((laws_heldItemS.f K (x.1.2.2.2.2.2.2.2.2.2.1, y1.1.1, ())).bind fun y2 => bif decide (y2.1.1 < 0) then (some (((-1), ()), ())) else ((laws_heldDoubtS.f K (x.1.2.2.2.2.2.2.2.2.2.2.2.1, y2.1.1, ())).bind fun y3 => bif decide (y3.1.1 < 0) then (some (((-1), ()), ())) else ((laws_heldPlaceS.f K (x.1.2.2.2.2.2.2.2.2.2.2.2.2.2.1, y3.1.1, ())).bind fun y4 => bif decide (y4.1.1 < 0) then (some (((-1), ()), ())) else ((laws_heldForeignS.f K (x.1.2.2.2.2.2.2.2.2.2.2.2.2.2.2, y4.1.1, ())).bind fun y5 => bif decide (y5.1.1 < 0) then (some (((-1), ()), ())) else (some ((y5.1.1, ()), ()))))))
noncomputable def f (K : Nat) (x : Args ps) : Option Res := pre K x
noncomputable def c (K : Nat) : Ctr := ⟨42, ps, rs, true, f K⟩
noncomputable def G (K : Nat) : List Ctr := [laws_heldFactS.c K, laws_heldItemS.c K, laws_heldDoubtS.c K, laws_heldPlaceS.c K, laws_heldForeignS.c K]
noncomputable def L : List (Nat × List (Nat × List Coe)) := []
noncomputable def body : Code := bodyOf Tryz.f42
noncomputable abbrev ev (K : Nat) : Code → St → (Ex → St → Option Res) → Option Res := evK (G K) T_D L K
noncomputable abbrev fin : Ex → St → Option Res := finK T_D ps rs true Tryz.f42.results.toList
end laws_heldNode
namespace laws_heldWordS
@[reducible] def ps : List PK := [.rd (.list false 53 t82), .rd (.int .i64)]
@[reducible] def rs : List RK := [.v (.int .i64)]
abbrev Res := Ress rs × Outs ps
abbrev A_l0 := Int × Int
noncomputable def l0.step (K : Nat) (x : Args ps) (rec_l0 : A_l0 → Option Res) (a : A_l0) : Option Res := bif decide (a.2 < (List.length x.1 : Int)) then ((idx x.1 a.2).bind fun y1 => bif y1.1 != a.1 then (some (((-1), ()), ())) else ((idx x.1 a.2).bind fun y2 => bif y2.2.1 != (wr .i64 (a.1 + 1)) then (some (((-1), ()), ())) else ((idx x.1 a.2).bind fun y3 => bif y3.2.2.1 != (wr .i64 ((wr .i64 (a.1 + 1)) + 1)) then (some (((-1), ()), ())) else ((idx x.1 a.2).bind fun y4 => bif y4.2.2.2.1 != (wr .i64 ((wr .i64 ((wr .i64 (a.1 + 1)) + 1)) + 1)) then (some (((-1), ()), ())) else ((idx x.1 a.2).bind fun y5 => bif y5.2.2.2.2.1 != (wr .i64 ((wr .i64 ((wr .i64 ((wr .i64 (a.1 + 1)) + 1)) + 1)) + 1)) then (some (((-1), ()), ())) else ((idx x.1 a.2).bind fun y6 => bif y6.2.2.2.2.2.1 != (wr .i64 ((wr .i64 ((wr .i64 ((wr .i64 ((wr .i64 (a.1 + 1)) + 1)) + 1)) + 1)) + 1)) then (some (((-1), ()), ())) else ((idx x.1 a.2).bind fun y7 => bif y7.2.2.2.2.2.2.1.1 != (wr .i64 ((wr .i64 ((wr .i64 ((wr .i64 ((wr .i64 ((wr .i64 (a.1 + 1)) + 1)) + 1)) + 1)) + 1)) + 1)) then (some (((-1), ()), ())) else ((idx x.1 a.2).bind fun y8 => bif y8.2.2.2.2.2.2.1.2.1 != (wr .i64 ((wr .i64 ((wr .i64 ((wr .i64 ((wr .i64 ((wr .i64 ((wr .i64 (a.1 + 1)) + 1)) + 1)) + 1)) + 1)) + 1)) + 1)) then (some (((-1), ()), ())) else ((idx x.1 a.2).bind fun y9 => bif y9.2.2.2.2.2.2.1.2.2.1 != (wr .i64 ((wr .i64 ((wr .i64 ((wr .i64 ((wr .i64 ((wr .i64 ((wr .i64 ((wr .i64 (a.1 + 1)) + 1)) + 1)) + 1)) + 1)) + 1)) + 1)) + 1)) then (some (((-1), ()), ())) else ((idx x.1 a.2).bind fun y10 => bif y10.2.2.2.2.2.2.1.2.2.2 != (wr .i64 ((wr .i64 ((wr .i64 ((wr .i64 ((wr .i64 ((wr .i64 ((wr .i64 ((wr .i64 ((wr .i64 (a.1 + 1)) + 1)) + 1)) + 1)) + 1)) + 1)) + 1)) + 1)) + 1)) then (some (((-1), ()), ())) else ((idx x.1 a.2).bind fun y11 => (laws_heldFactS.f K (y11.2.2.2.2.2.2.2, wr .i64 ((wr .i64 ((wr .i64 ((wr .i64 ((wr .i64 ((wr .i64 ((wr .i64 ((wr .i64 ((wr .i64 ((wr .i64 (a.1 + 1)) + 1)) + 1)) + 1)) + 1)) + 1)) + 1)) + 1)) + 1)) + 1), ())).bind fun y12 => bif decide (y12.1.1 < 0) then (some (((-1), ()), ())) else (rec_l0 (y12.1.1, wr .i64 (a.2 + 1)))))))))))))) else (some ((a.1, ()), ()))
noncomputable def l0 (K : Nat) (x : Args ps) : A_l0 → Option Res := iterate (fun rec_l0 a => l0.step K x rec_l0 a) K
noncomputable def pre (K : Nat) (N_l0 : A_l0 → Option Res) (x : Args ps) : Option Res := N_l0 (x.2.1, 0)
noncomputable def f (K : Nat) (x : Args ps) : Option Res := pre K (l0 K x) x
noncomputable def c (K : Nat) : Ctr := ⟨43, ps, rs, true, f K⟩
noncomputable def G (K : Nat) : List Ctr := [laws_heldFactS.c K]
noncomputable def live_l0 : List (Nat × List Coe) := [(0, [.ro true 53 t82]), (1, [.keep]), (5, [.keep])]
noncomputable def L : List (Nat × List (Nat × List Coe)) := [(3, live_l0)]
noncomputable def body : Code := bodyOf Tryz.f43
noncomputable abbrev ev (K : Nat) : Code → St → (Ex → St → Option Res) → Option Res := evK (G K) T_D L K
noncomputable abbrev fin : Ex → St → Option Res := finK T_D ps rs true Tryz.f43.results.toList
noncomputable def S_l0 (x : Args ps) (a : A_l0) : St := mkSt [(0, ⟨0, .one, [.ro true 53 t82 x.1]⟩), (1, ⟨0, .one, [.int .i64 a.1]⟩), (5, ⟨0, .one, [.int .i64 a.2]⟩)]
noncomputable def k_l0 (K : Nat) (x : Args ps) : Ex → St → Option Res := kAt (ev K) body [1, 0, 1, 0] fin
noncomputable def N_l0 (K : Nat) (x : Args ps) : A_l0 → Option Res := fun a => evLoop live_l0 (ev K (sub body [1, 0, 1, 0, 0])) K (S_l0 x a) (k_l0 K x)
end laws_heldWordS
namespace laws_FnExactNodeJoin
@[reducible] def ps : List PK := [.rd t33, .rd (.int .i64)]
@[reducible] def rs : List RK := [.v .bool]
abbrev Res := Ress rs × Outs ps
noncomputable def pre (K : Nat) (x : Args ps) : Option Res := (laws_szNode.f K (x.1, 1048576, ())).bind fun y1 => bif decide (y1.1.1 < 0) then (some ((true, ()), ())) else ((laws_toNode.f K (x.1, ())).bind fun y2 => (spec_NodeJoin.f K (y2.1.1, x.2.1, ())).bind fun y3 => (laws_toNode.f K (x.1, ())).bind fun y4 => (impl_NodeJoin.f K (y4.1.1, x.2.1, ())).bind fun y5 => (laws_eqNode.f K (y5.1.1, y3.1.1, ())).bind fun y6 => bif !y6.1.1 then (some ((false, ()), ())) else ((laws_eqWordS.f K (y5.1.2.1, y3.1.2.1, ())).bind fun y7 => bif !y7.1.1 then (some ((false, ()), ())) else ((laws_toNode.f K (x.1, ())).bind fun y8 => (laws_eqNode.f K (y4.1.1, y8.1.1, ())).bind fun y9 => bif !y9.1.1 then (some ((false, ()), ())) else ((laws_markNode.f K (y4.1.1, 1, ())).bind fun y10 => bif decide (y10.1.1 < 0) then (some ((false, ()), ())) else ((laws_eqNode.f K (y5.1.1, y3.1.1, ())).bind fun y11 => bif !y11.1.1 then (some ((false, ()), ())) else ((laws_eqWordS.f K (y5.1.2.1, y3.1.2.1, ())).bind fun y12 => bif !y12.1.1 then (some ((false, ()), ())) else ((laws_markNode.f K (y5.1.1, 1, ())).bind fun y13 => (laws_markWordS.f K (y5.1.2.1, y13.1.1, ())).bind fun y14 => (laws_heldNode.f K ((y5.1.1.1, (y5.1.1.2.1, (y5.1.1.2.2.1, (y5.1.1.2.2.2.1, (y5.1.1.2.2.2.2.1, (y5.1.1.2.2.2.2.2.1, (y5.1.1.2.2.2.2.2.2.1, (y5.1.1.2.2.2.2.2.2.2.1, (y13.2.1.2.2.2.2.2.2.2.2.1, (y13.2.1.2.2.2.2.2.2.2.2.2.1, (y5.1.1.2.2.2.2.2.2.2.2.2.2.1, (y13.2.1.2.2.2.2.2.2.2.2.2.2.2.1, (y5.1.1.2.2.2.2.2.2.2.2.2.2.2.2.1, y13.2.1.2.2.2.2.2.2.2.2.2.2.2.2.2))))))))))))), 1, ())).bind fun y15 => bif decide (y15.1.1 < 0) then (some ((false, ()), ())) else ((laws_heldWordS.f K (y14.2.1, y15.1.1, ())).bind fun y16 => bif decide (y16.1.1 < 0) then (some ((false, ()), ())) else (bif y16.1.1 != y14.1.1 then (some ((false, ()), ())) else ((laws_toNode.f K (x.1, ())).bind fun y17 => (impl_NodeJoin.f K (y17.1.1, x.2.1, ())).bind fun y18 => (laws_eqNode.f K (y18.1.1, y3.1.1, ())).bind fun y19 => bif !y19.1.1 then (some ((false, ()), ())) else ((laws_eqWordS.f K (y18.1.2.1, y3.1.2.1, ())).bind fun y20 => bif !y20.1.1 then (some ((false, ()), ())) else ((laws_heldNode.f K ((y5.1.1.1, (y5.1.1.2.1, (y5.1.1.2.2.1, (y5.1.1.2.2.2.1, (y5.1.1.2.2.2.2.1, (y5.1.1.2.2.2.2.2.1, (y5.1.1.2.2.2.2.2.2.1, (y5.1.1.2.2.2.2.2.2.2.1, (y13.2.1.2.2.2.2.2.2.2.2.1, (y13.2.1.2.2.2.2.2.2.2.2.2.1, (y5.1.1.2.2.2.2.2.2.2.2.2.2.1, (y13.2.1.2.2.2.2.2.2.2.2.2.2.2.1, (y5.1.1.2.2.2.2.2.2.2.2.2.2.2.2.1, y13.2.1.2.2.2.2.2.2.2.2.2.2.2.2.2))))))))))))), 1, ())).bind fun y21 => bif decide (y21.1.1 < 0) then (some ((false, ()), ())) else ((laws_heldWordS.f K (y14.2.1, y21.1.1, ())).bind fun y22 => bif decide (y22.1.1 < 0) then (some ((false, ()), ())) else (bif y22.1.1 != y14.1.1 then (some ((false, ()), ())) else (some ((true, ()), ()))))))))))))))))
noncomputable def f (K : Nat) (x : Args ps) : Option Res := pre K x
noncomputable def c (K : Nat) : Ctr := ⟨8, ps, rs, true, f K⟩
noncomputable def G (K : Nat) : List Ctr := [laws_szNode.c K, laws_toNode.c K, laws_eqNode.c K, laws_markNode.c K, spec_NodeJoin.c K, impl_NodeJoin.c K, laws_eqWordS.c K, laws_markWordS.c K, laws_heldNode.c K, laws_heldWordS.c K]
noncomputable def L : List (Nat × List (Nat × List Coe)) := []
noncomputable def body : Code := bodyOf Tryz.f8
noncomputable abbrev ev (K : Nat) : Code → St → (Ex → St → Option Res) → Option Res := evK (G K) T_D L K
noncomputable abbrev fin : Ex → St → Option Res := finK T_D ps rs true Tryz.f8.results.toList
end laws_FnExactNodeJoin
end
end Go.Proofs.YthgnfidnmnkeaaaGreatEv
