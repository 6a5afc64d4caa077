/- The functions, on plain values. Printed by run3.py. -/
import Derived.Test.YtmibehbhnkeaiaaGreatProg
import Derived.Test.YtmibehbhnkeaiaaGreatE0
set_option linter.unusedVariables false
set_option maxRecDepth 100000
set_option linter.unusedVariables false
set_option linter.unusedSimpArgs false
open Int renaming toNat->FK,tdiv->FL,tmod->FM,fdiv->FN
open List renaming length->FJ
namespace Go.Proofs.YtmibehbhnkeaiaaGreatEv
open Go Go.Proofs
noncomputable section
variable (K:Nat)
abbrev I6:Ty:=.int .i64
abbrev t0:Ty:=.pair I6 .bool
abbrev t1:Ty:=.pair I6 t0
abbrev t2:Ty:=.pair I6 t1
abbrev t3:Ty:=.pair t2 I6
abbrev t4:Ty:=.pair I6 (.list false 3 I6)
abbrev t5:Ty:=.pair I6 t4
abbrev t6:Ty:=.pair I6 t5
abbrev t7:Ty:=.pair I6 I6
abbrev t8:Ty:=.pair I6 t7
abbrev t9:Ty:=.pair I6 t8
abbrev t10:Ty:=.pair t9 (.list false 3 I6)
abbrev t11:Ty:=.pair I6 t10
abbrev t12:Ty:=.pair I6 (.list false 46 t2)
abbrev t13:Ty:=.pair (.list false 89 t11) (.list false 91 t12)
abbrev t14:Ty:=.pair t9 t13
abbrev t15:Ty:=.pair (.list false 86 t6) t14
abbrev t16:Ty:=.pair t2 t15
abbrev t17:Ty:=.pair (.list false 133 t3) t16
abbrev t18:Ty:=.pair (.list false 46 t2) t17
abbrev t19:Ty:=.pair I6 t18
abbrev t20:Ty:=.pair I6 t19
abbrev t21:Ty:=.pair I6 t20
abbrev t22:Ty:=.pair I6 t21
abbrev t23:Ty:=.pair .bool t22
abbrev t24:Ty:=.pair .bool t23
abbrev t25:Ty:=.pair .bool t24
abbrev t26:Ty:=.pair I6 t25
abbrev t27:Ty:=.pair (.list true 86 t6) t14
abbrev t28:Ty:=.pair t2 t27
abbrev t29:Ty:=.pair (.list false 133 t3) t28
abbrev t30:Ty:=.pair (.list false 46 t2) t29
abbrev t31:Ty:=.pair I6 t30
abbrev t32:Ty:=.pair I6 t31
abbrev t33:Ty:=.pair I6 t32
abbrev t34:Ty:=.pair I6 t33
abbrev t35:Ty:=.pair .bool t34
abbrev t36:Ty:=.pair .bool t35
abbrev t37:Ty:=.pair .bool t36
abbrev t38:Ty:=.pair I6 t37
abbrev t39:Ty:=.pair .str .bool
abbrev t40:Ty:=.pair I6 t39
abbrev t41:Ty:=.pair t9 (.list false 46 t2)
abbrev t42:Ty:=.pair I6 t41
abbrev t43:Ty:=.pair I6 t42
abbrev t44:Ty:=.pair I6 t43
abbrev t45:Ty:=.pair I6 t44
abbrev t46:Ty:=.pair I6 t45
abbrev t47:Ty:=.pair I6 t46
abbrev t48:Ty:=.pair I6 (.list true 3 I6)
abbrev t49:Ty:=.pair I6 t48
abbrev t50:Ty:=.pair I6 t49
abbrev t51:Ty:=.pair t9 (.list true 3 I6)
abbrev t52:Ty:=.pair I6 t51
abbrev t53:Ty:=.pair t9 (.list true 46 t2)
abbrev t54:Ty:=.pair I6 t53
abbrev t55:Ty:=.pair I6 t54
abbrev t56:Ty:=.pair I6 t55
abbrev t57:Ty:=.pair I6 t56
abbrev t58:Ty:=.pair I6 t57
abbrev t59:Ty:=.pair I6 t58
abbrev t60:Ty:=.pair (.list false 5 (.int .u8)) I6
abbrev t61:Ty:=.pair (.list false 3 I6) (.list false 46 t2)
abbrev t62:Ty:=.pair (.list false 121 t40) t61
abbrev t63:Ty:=.pair (.list false 33 t26) t62
abbrev t64:Ty:=.pair (.list true 3 I6) (.list false 46 t2)
abbrev t65:Ty:=.pair (.list true 121 t40) t64
abbrev t66:Ty:=.pair (.list true 33 t38) t65
abbrev t67:Ty:=.pair (.list true 33 t26) t65
abbrev t68:Ty:=.pair (.list true 89 t11) (.list true 91 t12)
abbrev t69:Ty:=.pair t9 t68
abbrev t70:Ty:=.pair (.list true 86 t6) t69
abbrev t71:Ty:=.pair t2 t70
abbrev t72:Ty:=.pair (.list true 133 t3) t71
abbrev t73:Ty:=.pair (.list true 46 t2) t72
abbrev t74:Ty:=.pair I6 t73
abbrev t75:Ty:=.pair I6 t74
abbrev t76:Ty:=.pair I6 t75
abbrev t77:Ty:=.pair I6 t76
abbrev t78:Ty:=.pair .bool t77
abbrev t79:Ty:=.pair .bool t78
abbrev t80:Ty:=.pair .bool t79
abbrev t81:Ty:=.pair I6 t80
abbrev t82:Ty:=.pair (.list true 89 t52) (.list true 91 t12)
abbrev t83:Ty:=.pair t9 t82
abbrev t84:Ty:=.pair (.list true 86 t50) t83
abbrev t85:Ty:=.pair t2 t84
abbrev t86:Ty:=.pair (.list true 133 t3) t85
abbrev t87:Ty:=.pair (.list true 46 t2) t86
abbrev t88:Ty:=.pair I6 t87
abbrev t89:Ty:=.pair I6 t88
abbrev t90:Ty:=.pair I6 t89
abbrev t91:Ty:=.pair I6 t90
abbrev t92:Ty:=.pair .bool t91
abbrev t93:Ty:=.pair .bool t92
abbrev t94:Ty:=.pair .bool t93
abbrev t95:Ty:=.pair I6 t94
abbrev ty_impl_Coord_D:Ty:=t9
abbrev ty_impl_Fact_D:Ty:=t2
def Tl_D:List (TypeId×TI):=[(38,.slice 35 t59 104)]
def T_D (t:TypeId):TI:=gJ Tl_D t
def Tl_ND:List (TypeId×TI):=[(3,.int .i64),(23,.slice 46 t2 32),(24,.slice 133 t3 40),(27,.slice 86 t6 48),(30,.slice 89 t11 64),(31,.slice 91 t12 32),(33,.struct t81 [(0,1,false),(1,1,false),(2,1,false),(3,1,false),(4,1,false),(5,1,false),(6,1,false),(7,1,false),(8,1,false),(9,1,false),(10,4,true),(14,1,false),(15,4,true),(19,1,false),(20,1,false)]),(67,.slice 3 I6 8),(86,.struct t6 [(0,1,false),(1,1,false),(2,1,false),(3,1,false)]),(89,.struct t11 [(0,1,false),(1,4,true),(5,1,false)]),(91,.struct t12 [(0,1,false),(1,1,false)])]
def T_ND (t:TypeId):TI:=gJ Tl_ND t
def Tl_NL:List (TypeId×TI):=[(3,.int .i64),(4,.bool),(22,.slice 5 (.int .u8) 1),(23,.slice 46 t2 32),(24,.slice 133 t3 40),(26,.struct t2 [(0,1,false),(1,1,false),(2,1,false),(3,1,false)]),(27,.slice 86 t50 48),(29,.struct t9 [(0,1,false),(1,1,false),(2,1,false),(3,1,false)]),(30,.slice 89 t52 64),(31,.slice 91 t12 32),(33,.struct t95 [(0,1,false),(1,1,false),(2,1,false),(3,1,false),(4,1,false),(5,1,false),(6,1,false),(7,1,false),(8,1,false),(9,1,false),(10,4,true),(14,1,false),(15,4,true),(19,1,false),(20,1,false)]),(35,.struct t59 [(0,1,false),(1,1,false),(2,1,false),(3,1,false),(4,1,false),(5,1,false),(6,4,true),(10,1,false)]),(38,.slice 35 t59 104),(46,.struct t2 [(0,1,false),(1,1,false),(2,1,false),(3,1,false)]),(67,.slice 3 I6 8),(75,.ptr),(77,.fn),(81,.fn),(86,.struct t50 [(0,1,false),(1,1,false),(2,1,false),(3,1,false)]),(89,.struct t52 [(0,1,false),(1,4,true),(5,1,false)]),(91,.struct t12 [(0,1,false),(1,1,false)]),(131,.fn),(133,.struct t3 [(0,4,true),(4,1,false)]),(138,.fn),(143,.fn),(190,.int .u64),(204,.fn),(206,.fn)]
def T_NL (t:TypeId):TI:=gJ Tl_NL t
def Tl_NS:List (TypeId×TI):=[(3,.int .i64),(4,.bool),(5,.int .u8),(9,.str),(22,.slice 5 (.int .u8) 1),(23,.slice 46 t2 32),(24,.slice 133 t3 40),(26,.struct t2 [(0,1,false),(1,1,false),(2,1,false),(3,1,false)]),(27,.slice 86 t6 48),(29,.struct t9 [(0,1,false),(1,1,false),(2,1,false),(3,1,false)]),(30,.slice 89 t11 64),(31,.slice 91 t12 32),(33,.struct t38 [(0,1,false),(1,1,false),(2,1,false),(3,1,false),(4,1,false),(5,1,false),(6,1,false),(7,1,false),(8,1,false),(9,1,false),(10,4,true),(14,1,false),(15,4,true),(19,1,false),(20,1,false)]),(35,.struct t47 [(0,1,false),(1,1,false),(2,1,false),(3,1,false),(4,1,false),(5,1,false),(6,4,true),(10,1,false)]),(38,.slice 35 t47 104),(46,.struct t2 [(0,1,false),(1,1,false),(2,1,false),(3,1,false)]),(65,.slice 33 t38 232),(66,.slice 121 t40 32),(67,.slice 3 I6 8),(69,.struct t66 [(0,1,false),(1,1,false),(2,1,false),(3,1,false)]),(86,.struct t6 [(0,1,false),(1,1,false),(2,1,false),(3,1,false)]),(89,.struct t11 [(0,1,false),(1,4,true),(5,1,false)]),(91,.struct t12 [(0,1,false),(1,1,false)]),(121,.struct t40 [(0,1,false),(1,1,false),(2,1,false)]),(151,.struct t2 [(0,1,false),(1,1,false),(2,1,false),(3,1,false)])]
def T_NS (t:TypeId):TI:=gJ Tl_NS t
def Tl_NT:List (TypeId×TI):=[(3,.int .i64),(4,.bool),(23,.slice 46 t2 32),(33,.struct t26 [(0,1,false),(1,1,false),(2,1,false),(3,1,false),(4,1,false),(5,1,false),(6,1,false),(7,1,false),(8,1,false),(9,1,false),(10,4,true),(14,1,false),(15,4,true),(19,1,false),(20,1,false)]),(38,.slice 35 t47 104),(46,.struct t2 [(0,1,false),(1,1,false),(2,1,false),(3,1,false)]),(65,.slice 33 t26 232),(67,.slice 3 I6 8),(69,.struct t67 [(0,1,false),(1,1,false),(2,1,false),(3,1,false)]),(151,.struct t2 [(0,1,false),(1,1,false),(2,1,false),(3,1,false)])]
def T_NT (t:TypeId):TI:=gJ Tl_NT t
def Tl_S:List (TypeId×TI):=[(3,.int .i64),(4,.bool),(5,.int .u8),(9,.str),(22,.slice 5 (.int .u8) 1),(23,.slice 46 t2 32),(24,.slice 133 t3 40),(26,.struct t2 [(0,1,false),(1,1,false),(2,1,false),(3,1,false)]),(27,.slice 86 t6 48),(29,.struct t9 [(0,1,false),(1,1,false),(2,1,false),(3,1,false)]),(30,.slice 89 t11 64),(31,.slice 91 t12 32),(33,.struct t26 [(0,1,false),(1,1,false),(2,1,false),(3,1,false),(4,1,false),(5,1,false),(6,1,false),(7,1,false),(8,1,false),(9,1,false),(10,4,true),(14,1,false),(15,4,true),(19,1,false),(20,1,false)]),(35,.struct t47 [(0,1,false),(1,1,false),(2,1,false),(3,1,false),(4,1,false),(5,1,false),(6,4,true),(10,1,false)]),(38,.slice 35 t47 104),(46,.struct t2 [(0,1,false),(1,1,false),(2,1,false),(3,1,false)]),(59,.slice 4 .bool 1),(63,.ptr),(65,.slice 33 t26 232),(66,.slice 121 t40 32),(67,.slice 3 I6 8),(69,.struct t63 [(0,1,false),(1,1,false),(2,1,false),(3,1,false)]),(86,.struct t6 [(0,1,false),(1,1,false),(2,1,false),(3,1,false)]),(89,.struct t11 [(0,1,false),(1,4,true),(5,1,false)]),(91,.struct t12 [(0,1,false),(1,1,false)]),(111,.struct t60 [(0,1,false),(1,1,false)]),(112,.slice 151 t2 32),(121,.struct t40 [(0,1,false),(1,1,false),(2,1,false)]),(133,.struct t3 [(0,4,true),(4,1,false)]),(151,.struct t2 [(0,1,false),(1,1,false),(2,1,false),(3,1,false)]),(160,.slice 9 .str 16)]
def T_S (t:TypeId):TI:=gJ Tl_S t
def Tl_WF:List (TypeId×TI):=[(3,.int .i64),(23,.slice 46 t2 32),(29,.struct t9 [(0,1,false),(1,1,false),(2,1,false),(3,1,false)]),(35,.struct t59 [(0,1,false),(1,1,false),(2,1,false),(3,1,false),(4,1,false),(5,1,false),(6,4,true),(10,1,false)]),(63,.ptr),(67,.slice 3 I6 8)]
def T_WF (t:TypeId):TI:=gJ Tl_WF t
def w0 (n:Ty.den t2):List Leaf:=[.int .i64 n.1,.int .i64 n.2.1,.int .i64 n.2.2.1,.bool n.2.2.2]
def w1 (n:Ty.den t26):List Leaf:=[.int .i64 n.1,.bool n.2.1,.bool n.2.2.1,.bool n.2.2.2.1,.int .i64 n.2.2.2.2.1,.int .i64 n.2.2.2.2.2.1,.int .i64 n.2.2.2.2.2.2.1,.int .i64 n.2.2.2.2.2.2.2.1,.ro true 46 t2 n.2.2.2.2.2.2.2.2.1,.ro true 133 t3 n.2.2.2.2.2.2.2.2.2.1,.int .i64 n.2.2.2.2.2.2.2.2.2.2.1.1,.int .i64 n.2.2.2.2.2.2.2.2.2.2.1.2.1,.int .i64 n.2.2.2.2.2.2.2.2.2.2.1.2.2.1,.bool n.2.2.2.2.2.2.2.2.2.2.1.2.2.2,.ro true 86 t6 n.2.2.2.2.2.2.2.2.2.2.2.1,.int .i64 n.2.2.2.2.2.2.2.2.2.2.2.2.1.1,.int .i64 n.2.2.2.2.2.2.2.2.2.2.2.2.1.2.1,.int .i64 n.2.2.2.2.2.2.2.2.2.2.2.2.1.2.2.1,.int .i64 n.2.2.2.2.2.2.2.2.2.2.2.2.1.2.2.2,.ro true 89 t11 n.2.2.2.2.2.2.2.2.2.2.2.2.2.1,.ro true 91 t12 n.2.2.2.2.2.2.2.2.2.2.2.2.2.2]
def w2 (n:Ty.den t26):List Leaf:=[.int .i64 n.1,.bool n.2.1,.bool n.2.2.1,.bool n.2.2.2.1,.int .i64 n.2.2.2.2.1,.int .i64 n.2.2.2.2.2.1,.int .i64 n.2.2.2.2.2.2.1,.int .i64 n.2.2.2.2.2.2.2.1,.ro true 46 t2 n.2.2.2.2.2.2.2.2.1,.ro true 133 t3 n.2.2.2.2.2.2.2.2.2.1,.int .i64 n.2.2.2.2.2.2.2.2.2.2.1.1,.int .i64 n.2.2.2.2.2.2.2.2.2.2.1.2.1,.int .i64 n.2.2.2.2.2.2.2.2.2.2.1.2.2.1,.bool n.2.2.2.2.2.2.2.2.2.2.1.2.2.2,.own true none 86 t6 n.2.2.2.2.2.2.2.2.2.2.2.1,.int .i64 n.2.2.2.2.2.2.2.2.2.2.2.2.1.1,.int .i64 n.2.2.2.2.2.2.2.2.2.2.2.2.1.2.1,.int .i64 n.2.2.2.2.2.2.2.2.2.2.2.2.1.2.2.1,.int .i64 n.2.2.2.2.2.2.2.2.2.2.2.2.1.2.2.2,.ro true 89 t11 n.2.2.2.2.2.2.2.2.2.2.2.2.2.1,.ro true 91 t12 n.2.2.2.2.2.2.2.2.2.2.2.2.2.2]
def w3 (n:Ty.den t47):List Leaf:=[.int .i64 n.1,.int .i64 n.2.1,.int .i64 n.2.2.1,.int .i64 n.2.2.2.1,.int .i64 n.2.2.2.2.1,.int .i64 n.2.2.2.2.2.1,.int .i64 n.2.2.2.2.2.2.1.1,.int .i64 n.2.2.2.2.2.2.1.2.1,.int .i64 n.2.2.2.2.2.2.1.2.2.1,.int .i64 n.2.2.2.2.2.2.1.2.2.2,.ro true 46 t2 n.2.2.2.2.2.2.2]
def w4 (n:Ty.den t63):List Leaf:=[.ro true 33 t26 n.1,.ro true 121 t40 n.2.1,.ro true 3 I6 n.2.2.1,.ro true 46 t2 n.2.2.2]
def wa0 (n:Int×Int×Int×List (Ty.den I6)):List Leaf:=[.int .i64 n.1,.int .i64 n.2.1,.int .i64 n.2.2.1,.ro true 3 I6 n.2.2.2]
def wa5 (n:List (Ty.den t26)×List (Ty.den t40)×List (Ty.den I6)×List (Ty.den t2)):List Leaf:=[.ro false 33 t26 n.1,.ro false 121 t40 n.2.1,.ro false 3 I6 n.2.2.1,.ro false 46 t2 n.2.2.2]
theorem evl {A R:Type}{live:List (Nat×List Coe)}{e:St->(Ex->St->Option R)->Option R}{k:Ex->St->Option R}{S:A->St}{step:(A->Option R)->A->Option R}{K:Nat}(h:∀ r a,e (S a) (iq live r k)=step (λa=>r (S a)) a):(λa=>aY live e K (S a) k)=ae step K:=funext λa=>lK live e k S step h K a
abbrev zc286a0 {A0 A1 A2 A3 A4 A5 A6 A7 A8 A9 A10 A11 A12 A13 A14 A15 A16 A17 A18 A19 R:Type}(a:A0×A1×A2×A3×A4×A5×A6×A7×A8×A9×A10×A11×A12×A13×A14×A15×A16×A17×A18×A19)(r:R):=((a.1,a.2.1,a.2.2.1,a.2.2.2.1,a.2.2.2.2.1,a.2.2.2.2.2.1,a.2.2.2.2.2.2.1,a.2.2.2.2.2.2.2.1,a.2.2.2.2.2.2.2.2.1,a.2.2.2.2.2.2.2.2.2.1,(a.2.2.2.2.2.2.2.2.2.2.1,a.2.2.2.2.2.2.2.2.2.2.2.1,a.2.2.2.2.2.2.2.2.2.2.2.2.1,a.2.2.2.2.2.2.2.2.2.2.2.2.2.1),a.2.2.2.2.2.2.2.2.2.2.2.2.2.2.1,(a.2.2.2.2.2.2.2.2.2.2.2.2.2.2.2.1,a.2.2.2.2.2.2.2.2.2.2.2.2.2.2.2.2.1,a.2.2.2.2.2.2.2.2.2.2.2.2.2.2.2.2.2.1,a.2.2.2.2.2.2.2.2.2.2.2.2.2.2.2.2.2.2.1),a.2.2.2.2.2.2.2.2.2.2.2.2.2.2.2.2.2.2.2),r)
abbrev zc43b32 {A0 A1 A2 A3 A4 A5 A6 A7 A8 A9 A10 A11 A12 A13 A14 A15 A16 A17 A18 A19:Type}(a:A0×A1×A2×A3×A4×A5×A6×A7×A8×A9×A10×A11×A12×A13×A14×A15×A16×A17×A18×A19):=(a.1,a.2.1,a.2.2.1,a.2.2.2.1,a.2.2.2.2.1,a.2.2.2.2.2.1,a.2.2.2.2.2.2.1,a.2.2.2.2.2.2.2.1,a.2.2.2.2.2.2.2.2.1,a.2.2.2.2.2.2.2.2.2.1,(a.2.2.2.2.2.2.2.2.2.2.1,a.2.2.2.2.2.2.2.2.2.2.2.1,a.2.2.2.2.2.2.2.2.2.2.2.2.1,a.2.2.2.2.2.2.2.2.2.2.2.2.2.1),a.2.2.2.2.2.2.2.2.2.2.2.2.2.2.1,(a.2.2.2.2.2.2.2.2.2.2.2.2.2.2.2.1,a.2.2.2.2.2.2.2.2.2.2.2.2.2.2.2.2.1,a.2.2.2.2.2.2.2.2.2.2.2.2.2.2.2.2.2.1,a.2.2.2.2.2.2.2.2.2.2.2.2.2.2.2.2.2.2.1),a.2.2.2.2.2.2.2.2.2.2.2.2.2.2.2.2.2.2.2)
abbrev zc3ec45 {A0 A1 A2 A3 A4 A5 A6 A7 A8 A9 A10 A11 A12 A13 A14 A15 A16 A17 A18 A19:Type}(a:A0×A1×A2×A3×A4×A5×A6×A7×A8×A9×(A10×A11×A12×A13)×A14×(A15×A16×A17×A18)×A19):=(a.1,a.2.1,a.2.2.1,a.2.2.2.1,a.2.2.2.2.1,a.2.2.2.2.2.1,a.2.2.2.2.2.2.1,a.2.2.2.2.2.2.2.1,a.2.2.2.2.2.2.2.2.1,a.2.2.2.2.2.2.2.2.2.1,a.2.2.2.2.2.2.2.2.2.2.1.1,a.2.2.2.2.2.2.2.2.2.2.1.2.1,a.2.2.2.2.2.2.2.2.2.2.1.2.2.1,a.2.2.2.2.2.2.2.2.2.2.1.2.2.2,a.2.2.2.2.2.2.2.2.2.2.2.1,a.2.2.2.2.2.2.2.2.2.2.2.2.1.1,a.2.2.2.2.2.2.2.2.2.2.2.2.1.2.1,a.2.2.2.2.2.2.2.2.2.2.2.2.1.2.2.1,a.2.2.2.2.2.2.2.2.2.2.2.2.1.2.2.2,a.2.2.2.2.2.2.2.2.2.2.2.2.2)
abbrev zceae5f {A0 A1 A2 A3 A4 A5 A6 A7 A8 A9 A10 A11 A12 A13 A14 A15 A16:Type}(a:A0×A1×A2×A3×A4×A5×A6×A7×A8×A9×A10×A11×A12×A13×A14×A15×A16):=(a.1,a.2.1,a.2.2.1,a.2.2.2.1,a.2.2.2.2.1,a.2.2.2.2.2.1,a.2.2.2.2.2.2.1,(a.2.2.2.2.2.2.2.1,a.2.2.2.2.2.2.2.2.1,a.2.2.2.2.2.2.2.2.2.1,a.2.2.2.2.2.2.2.2.2.2.1),a.2.2.2.2.2.2.2.2.2.2.2.1,(a.2.2.2.2.2.2.2.2.2.2.2.2.1,a.2.2.2.2.2.2.2.2.2.2.2.2.2.1,a.2.2.2.2.2.2.2.2.2.2.2.2.2.2.1,a.2.2.2.2.2.2.2.2.2.2.2.2.2.2.2.1),a.2.2.2.2.2.2.2.2.2.2.2.2.2.2.2.2)
abbrev zc8f7ea {A0 A1 A2 A3 A4 A5 A6 A7 A8 A9 A10 A11 A12 A13 A14 A15 A16 A17 A18 A19:Type}(a:A0×A1×A2×A3×A4×A5×A6×A7×A8×A9×(A10×A11×A12×A13)×A14×(A15×A16×A17×A18)×A19):=(a.1,a.2.1,a.2.2.2.1,a.2.2.2.2.1,a.2.2.2.2.2.1,a.2.2.2.2.2.2.1,a.2.2.2.2.2.2.2.1,a.2.2.2.2.2.2.2.2.1,a.2.2.2.2.2.2.2.2.2.1,a.2.2.2.2.2.2.2.2.2.2.1.1,a.2.2.2.2.2.2.2.2.2.2.1.2.1,a.2.2.2.2.2.2.2.2.2.2.1.2.2.1,a.2.2.2.2.2.2.2.2.2.2.1.2.2.2,a.2.2.2.2.2.2.2.2.2.2.2.1,a.2.2.2.2.2.2.2.2.2.2.2.2.1.1,a.2.2.2.2.2.2.2.2.2.2.2.2.1.2.1,a.2.2.2.2.2.2.2.2.2.2.2.2.1.2.2.1,a.2.2.2.2.2.2.2.2.2.2.2.2.1.2.2.2,a.2.2.2.2.2.2.2.2.2.2.2.2.2)
abbrev zc00556 {A0 A1 A2 A3 R:Type}(a:A0×A1×A2×A3)(r:R):=(a.1,a.2.1,a.2.2.1,a.2.2.2,r)
abbrev zcp4 {A0 A1 A2 A3 A4 R:Type}(a:A0×A1×A2×A3×A4)(r:R):=(a.1,a.2.1,a.2.2.1,a.2.2.2.1,r)
abbrev zcp8 {A0 A1 A2 A3 A4 A5 A6 A7 A8 R:Type}(a:A0×A1×A2×A3×A4×A5×A6×A7×A8)(r:R):=(a.1,a.2.1,a.2.2.1,a.2.2.2.1,a.2.2.2.2.1,a.2.2.2.2.2.1,a.2.2.2.2.2.2.1,a.2.2.2.2.2.2.2.1,r)
abbrev Kc0:List Coe:=[.keep,.keep,.keep,.keep,.keep,.keep,.keep,.keep,.ro true 46 t2,.ro true 133 t3,.keep,.keep,.keep,.keep,.ro true 86 t6,.keep,.keep,.keep,.keep,.ro true 89 t11,.ro true 91 t12]
abbrev Kc1:List Coe:=[.keep,.keep,.keep,.keep]
abbrev Kc2:List Coe:=[.keep,.keep,.keep,.keep,.keep,.keep,.keep,.keep,.keep,.keep,.keep,.keep,.keep,.keep,.keep,.keep,.keep,.keep,.keep,.keep,.keep]
abbrev Kc3:List Coe:=[.keep,.keep,.keep,.keep,.keep,.keep,.keep,.keep,.ro true 46 t2,.ro true 133 t3,.keep,.keep,.keep,.keep,.own true 86 t6,.keep,.keep,.keep,.keep,.ro true 89 t11,.ro true 91 t12]
abbrev Kc4:List Coe:=[.keep,.keep,.keep,.keep,.keep,.keep,.keep,.keep,.keep,.keep,.keep]
abbrev Kc5:List Coe:=[.keep,.keep,.keep,.ro true 3 I6]
abbrev Kc6:List Coe:=[.keep,.keep,.keep,.keep,.keep,.ro true 3 I6]
namespace Q0
abbrev ps:List PK:=[.rd I6]
abbrev rs:List RK:=[.v .str]
abbrev R:=Option (ai rs×ag ps)
def step (g:ab ps->R)(x:ab ps):R:=bif decide (x.1<(-9223372036854775807)) then (some (((ByteArray.mk #[45,57,50,50,51,51,55,50,48,51,54,56,53,52,55,55,53,56,48,56]),()),())) else (bif decide (x.1<0) then ((g (wr .i64 (0-x.1),())).bind λy1=>aX (ByteArray.mk #[45]) y1.1.1 λy2=>some ((y2,()),())) else (bif decide (x.1<10) then (some ((ip ([wr .u8 (wr .i64 (48+x.1))]),()),())) else ((g (wr .i64 (FL x.1 10),())).bind λy3=>aX y3.1.1 (ip ([wr .u8 (wr .i64 (48+(FM x.1 10)))])) λy4=>some ((y4,()),()))))
def f (x:ab ps):R:=Nat.rec (motive:=λ_=>ab ps->R) (λ_=>none) (λ_ g x=>step g x) K x
def c:Ctr:=⟨280,ps,rs,true,f K⟩
end Q0
namespace Q1
abbrev ps:List PK:=[.rd (.list false 46 t2)]
abbrev rs:List RK:=[.v (.list true 46 t2)]
abbrev R:=Option (ai rs×ag ps)
def f (K:Nat)(x:ab ps):R:=gx t2 32 x.1
def c:Ctr:=⟨62,ps,rs,true,f K⟩
end Q1
namespace Q2
abbrev ps:List PK:=[.rd (.list false 3 I6)]
abbrev rs:List RK:=[.v (.list true 3 I6)]
abbrev R:=Option (ai rs×ag ps)
def f (K:Nat)(x:ab ps):R:=gx I6 8 x.1
def c:Ctr:=⟨167,ps,rs,true,f K⟩
end Q2
namespace Q3
abbrev ps:List PK:=[.rd (.list false 133 t3)]
abbrev rs:List RK:=[.v (.list true 133 t3)]
abbrev R:=Option (ai rs×ag ps)
def f (K:Nat)(x:ab ps):R:=gx t3 40 x.1
def c:Ctr:=⟨168,ps,rs,true,f K⟩
end Q3
namespace Q4
abbrev ps:List PK:=[.own (.list true 46 t2),.rd I6,.own (.list true 46 t2)]
abbrev rs:List RK:=[.v (.list true 46 t2)]
abbrev R:=Option (ai rs×ag ps)
def f (K:Nat)(x:ab ps):R:=fQ t2 32 x.1 x.2.1 x.2.2.1
def c:Ctr:=⟨120,ps,rs,true,f K⟩
end Q4
namespace Q5
abbrev ps:List PK:=[.own (.list true 133 t3),.rd I6,.own (.list true 133 t3)]
abbrev rs:List RK:=[.v (.list true 133 t3)]
abbrev R:=Option (ai rs×ag ps)
def f (K:Nat)(x:ab ps):R:=fQ t3 40 x.1 x.2.1 x.2.2.1
def c:Ctr:=⟨271,ps,rs,true,f K⟩
end Q5
namespace Q6
abbrev ps:List PK:=[.own (.list true 86 t50),.fn [t6] .bool]
abbrev rs:List RK:=[.v (.list true 86 t50)]
abbrev R:=Option (ai rs×ag ps)
def f (K:Nat)(x:ab ps):R:=ir t50 x.1 x.2.1
def c:Ctr:=⟨215,ps,rs,true,f K⟩
end Q6
namespace Q7
abbrev ps:List PK:=[.own (.list true 86 t50),.rd I6,.own (.list true 86 t50)]
abbrev rs:List RK:=[.v (.list true 86 t50)]
abbrev R:=Option (ai rs×ag ps)
def f (K:Nat)(x:ab ps):R:=fQ t50 48 x.1 x.2.1 x.2.2.1
def c:Ctr:=⟨219,ps,rs,true,f K⟩
end Q7
namespace Q8
abbrev ps:List PK:=[.rd (.list false 5 (.int .u8))]
abbrev rs:List RK:=[.box t60]
abbrev R:=Option (ai rs×ag ps)
def f (K:Nat)(x:ab ps):R:=bif decide ((FJ x.1:Int)>2000) then (bif decide (0<=0)&&decide (0<=2000)&&decide (2000<=(FJ x.1:Int))&&true then (some ((((x.1.take (FK 2000)).drop (FK 0),0),()),())) else none) else (some (((x.1,0),()),()))
def c:Ctr:=⟨40,ps,rs,false,f K⟩
end Q8
namespace Q9
abbrev ps:List PK:=[.iop t60,.rd I6]
abbrev rs:List RK:=[.v I6]
abbrev R:=Option (ai rs×ag ps)
def f (K:Nat)(x:ab ps):R:=let j4:=(x.1.1,wr .i64 (x.1.2+1));bif decide (x.2.1<1) then (some ((0,()),j4,())) else (let j3:=(FJ x.1.1:Int);bif j3==0 then (some ((0,()),j4,())) else (let j2:=wr .i64 ((wr .i64 (x.1.2+1))-1);bif decide (j2<j3) then ((idx x.1.1 j2).bind λy1=>bif decide (x.2.1=0) then none else (some ((FM (wr .i64 y1) x.2.1,()),j4,()))) else (bif decide (j3=0) then none else ((idx x.1.1 (FM j2 j3)).bind λy2=>bif decide (j3=0) then none else ((idx x.1.1 (FM (wr .i64 ((wr .i64 (j2*7))+3)) j3)).bind λy3=>bif decide (j3=0) then none else (bif decide (x.2.1=0) then none else (some ((FM (let j1:=(wr .i64 ((wr .i64 ((wr .i64 ((wr .i64 ((wr .i64 y2)*131))+(wr .i64 ((wr .i64 y3)*1117))))+(wr .i64 (j2*29))))+(wr .i64 ((wr .i64 (FL j2 j3))*53))));rD .i64 j1 (wr .i64 (FL j1 64))) x.2.1,()),j4,()))))))))
def c:Ctr:=⟨42,ps,rs,false,f K⟩
end Q9
namespace Q10
abbrev ps:List PK:=[.rd I6,.rd I6,.rd I6]
abbrev rs:List RK:=[.v .bool]
abbrev R:=Option (ai rs×ag ps)
def f (K:Nat)(x:ab ps):R:=bif decide (x.1>=x.2.1) then (some ((decide (x.1<=x.2.2.1),()),())) else (some ((false,()),()))
def c:Ctr:=⟨65,ps,rs,true,f K⟩
end Q10
namespace Q11
abbrev ps:List PK:=[]
abbrev rs:List RK:=[.v t9]
abbrev R:=Option (ai rs×ag ps)
def f (K:Nat)(x:ab ps):R:=some (((0,0,0,1500),()),())
def c:Ctr:=⟨232,ps,rs,true,f K⟩
end Q11
namespace Q12
abbrev ps:List PK:=[.rd I6,.rd .bool]
abbrev rs:List RK:=[.v t26]
abbrev R:=Option (ai rs×ag ps)
def f (x:ab ps):R:=(Q10.f K (x.1,0,7,())).bind λy1=>bif !y1.1.1 then (some (((0,false,false,false,0,0,0,0,[],[],(0,0,0,false),[],(0,0,0,0),[],[]),()),())) else ((Q11.f K ()).bind λy2=>some (((x.1,true,false,x.2.1,0,0,0,0,[(x.1,0,1,x.2.1)],[],((-1),0,0,false),[],y2.1.1,[],[]),()),()))
def c:Ctr:=⟨224,ps,rs,true,f K⟩
end Q12
namespace Q13
abbrev ps:List PK:=[.rd I6]
abbrev rs:List RK:=[.v .bool]
abbrev R:=Option (ai rs×ag ps)
def f (K:Nat)(x:ab ps):R:=some ((decide ((FM x.1 4)<3),()),())
def c:Ctr:=⟨225,ps,rs,true,f K⟩
end Q13
namespace Q14
abbrev ps:List PK:=[]
abbrev rs:List RK:=[.v t63]
abbrev R:=Option (ai rs×ag ps)
abbrev A0:=Int×List (Ty.den t26)×List (Ty.den I6)×List (Ty.den t2)
def s0 (x:ab ps)(r0:A0->R)(a:A0):R:=bif decide (a.1<=7) then ((Q13.f K (a.1,())).bind λy1=>(Q12.f K (a.1,y1.1.1,())).bind λy2=>bif decide ((FJ a.2.1+FJ ([y2.1.1]))*232<=am) then (bif decide ((FJ a.2.2.1+FJ ([0]))*8<=am) then ((idx y2.1.1.2.2.2.2.2.2.2.2.1 0).bind λy3=>bif decide ((FJ a.2.2.2+FJ ([y3]))*32<=am) then (r0 (wr .i64 (a.1+1),a.2.1++([y2.1.1]),a.2.2.1++([0]),a.2.2.2++([y3]))) else none) else none) else none) else (some (((a.2.1,[],a.2.2),()),()))
def l0 (x:ab ps):A0->R:=ae (s0 K x) K
def pre (K:Nat)(N0:A0->R)(x:ab ps):R:=N0 (0,[],[],[])
def f (x:ab ps):R:=pre K (l0 K x) x
def c:Ctr:=⟨151,ps,rs,true,f K⟩
end Q14
namespace Q15
abbrev ps:List PK:=[.rd t2]
abbrev rs:List RK:=[.v .bool]
abbrev R:=Option (ai rs×ag ps)
def f (x:ab ps):R:=(Q10.f K (x.1.1,0,7,())).bind λy1=>bif y1.1.1 then ((Q10.f K (x.1.2.1,0,999,())).bind λy2=>bif y2.1.1 then ((Q10.f K (x.1.2.2.1,1,4,())).bind λy3=>some ((y3.1.1,()),())) else (some ((false,()),()))) else (some ((false,()),()))
def c:Ctr:=⟨125,ps,rs,true,f K⟩
end Q15
namespace Q16
abbrev ps:List PK:=[.rd (.list false 46 t2)]
abbrev rs:List RK:=[.v .bool]
abbrev R:=Option (ai rs×ag ps)
abbrev A0:=Int
def s0 (x:ab ps)(r0:A0->R)(a:A0):R:=bif decide (a<(FJ x.1:Int)) then ((idx x.1 a).bind λy1=>(Q15.f K (y1,())).bind λy2=>bif !y2.1.1 then (some ((false,()),())) else (bif decide (a>0) then ((idx x.1 (wr .i64 (a-1))).bind λy3=>(idx x.1 a).bind λy4=>bif decide (y3.1>=y4.1) then (some ((false,()),())) else (r0 (wr .i64 (a+1)))) else (r0 (wr .i64 (a+1))))) else (some ((true,()),()))
def l0 (x:ab ps):A0->R:=ae (s0 K x) K
def pre (K:Nat)(N0:A0->R)(x:ab ps):R:=N0 0
def f (x:ab ps):R:=pre K (l0 K x) x
def c:Ctr:=⟨66,ps,rs,true,f K⟩
end Q16
namespace Q17
abbrev ps:List PK:=[.rd (.list false 46 t2),.rd I6]
abbrev rs:List RK:=[.v .bool]
abbrev R:=Option (ai rs×ag ps)
abbrev A0:=Int
def s0 (K:Nat)(x:ab ps)(r0:A0->R)(a:A0):R:=bif decide (a<(FJ x.1:Int)) then ((idx x.1 a).bind λy1=>bif (wr .i64 (FL y1.1 4)) != x.2.1 then (some ((false,()),())) else (r0 (wr .i64 (a+1)))) else (some ((true,()),()))
def l0 (x:ab ps):A0->R:=ae (s0 K x) K
def pre (K:Nat)(N0:A0->R)(x:ab ps):R:=N0 0
def f (x:ab ps):R:=pre K (l0 K x) x
def c:Ctr:=⟨67,ps,rs,true,f K⟩
end Q17
namespace Q18
abbrev ps:List PK:=[.rd t9]
abbrev rs:List RK:=[.v .bool]
abbrev R:=Option (ai rs×ag ps)
def f (x:ab ps):R:=(Q10.f K (x.1.1,(-100000),100000,())).bind λy1=>let j1:R:=some ((false,()),());bif y1.1.1 then ((Q10.f K (x.1.2.1,(-100000),100000,())).bind λy2=>bif y2.1.1 then ((Q10.f K (x.1.2.2.1,0,100000,())).bind λy3=>bif y3.1.1 then ((Q10.f K (x.1.2.2.2,1,1500,())).bind λy4=>some ((y4.1.1,()),())) else j1) else j1) else j1
def c:Ctr:=⟨73,ps,rs,true,f K⟩
end Q18
namespace Q19
abbrev ps:List PK:=[.rd t47]
abbrev rs:List RK:=[.v .bool]
abbrev R:=Option (ai rs×ag ps)
def f (x:ab ps):R:=let b1:=x.1.2.2.2.2.2;(Q10.f K (x.1.1,1,2,())).bind λy1=>let j1:R:=some ((false,()),());bif !y1.1.1 then j1 else ((Q10.f K (x.1.2.1,1,6,())).bind λy2=>bif !y2.1.1 then j1 else ((Q10.f K (x.1.2.2.1,0,7,())).bind λy3=>bif !y3.1.1 then j1 else ((Q10.f K (x.1.2.2.2.1,0,7,())).bind λy4=>bif !y4.1.1 then j1 else ((Q10.f K (x.1.2.2.2.2.1,0,999999,())).bind λy5=>bif !y5.1.1 then j1 else ((Q10.f K (b1.1,0,7,())).bind λy6=>bif !y6.1.1 then j1 else ((Q18.f K (b1.2.1,())).bind λy7=>bif !y7.1.1 then j1 else ((Q16.f K (b1.2.2,())).bind λy8=>bif !y8.1.1 then j1 else (bif x.1.2.1==6 then (bif decide ((FJ b1.2.2:Int)>0) then ((idx b1.2.2 0).bind λy9=>(Q17.f K (b1.2.2,wr .i64 (FL y9.1 4),())).bind λy10=>some ((y10.1.1,()),())) else j1) else ((Q17.f K (b1.2.2,wr .i64 (FL x.1.2.2.1 4),())).bind λy11=>some ((y11.1.1,()),()))))))))))
def c:Ctr:=⟨59,ps,rs,true,f K⟩
end Q19
namespace Q20
abbrev ps:List PK:=[.rd I6]
abbrev rs:List RK:=[.v I6]
abbrev R:=Option (ai rs×ag ps)
def f (K:Nat)(x:ab ps):R:=some ((wr .i64 (FL x.1 4),()),())
def c:Ctr:=⟨68,ps,rs,true,f K⟩
end Q20
namespace Q21
abbrev ps:List PK:=[.rd t26,.rd t47]
abbrev rs:List RK:=[.v .bool]
abbrev R:=Option (ai rs×ag ps)
def f (x:ab ps):R:=let b1:=x.2.1.2.2;let j1:R:=some ((false,()),());bif !x.1.2.1 then j1 else (bif x.1.2.2.1 then j1 else (bif b1.2.1 != x.1.1 then j1 else (bif b1.1==x.1.1 then j1 else ((Q20.f K (x.1.1,())).bind λy1=>let j2:=(b1.2.2.2.2.2,y1.1.1,());bif x.2.1.1==2 then (bif x.2.1.2.1==6 then ((Q20.f K (b1.1,())).bind λy2=>bif y2.1.1 != y1.1.1 then ((Q17.f K j2).bind λy3=>bif y3.1.1 then (some ((true,()),())) else ((Q20.f K (b1.1,())).bind λy4=>(Q17.f K (b1.2.2.2.2.2,y4.1.1,())).bind λy5=>some ((y5.1.1,()),()))) else j1) else j1) else ((Q20.f K (b1.1,())).bind λy6=>bif y6.1.1==y1.1.1 then (bif x.2.1.2.1 != 6 then (some ((true,()),())) else ((Q17.f K j2).bind λy7=>some ((!y7.1.1,()),()))) else j1)))))
def c:Ctr:=⟨60,ps,rs,true,f K⟩
end Q21
namespace Q22
abbrev ps:List PK:=[.rd t26,.rd I6,.rd I6,.rd I6,.rd I6,.rd (.list false 46 t2)]
abbrev rs:List RK:=[.v t47]
abbrev R:=Option (ai rs×ag ps)
def f (K:Nat)(x:ab ps):R:=bif decide ((FJ ([]:List (Ty.den t2))+FJ x.2.2.2.2.2.1)*32<=am) then (some (((1,x.2.1,x.1.1,x.2.2.1,x.2.2.2.1,x.2.2.2.2.1,x.1.2.2.2.2.2.2.2.2.2.2.2.2.1,[]++x.2.2.2.2.2.1),()),())) else none
def c:Ctr:=⟨98,ps,rs,true,f K⟩
end Q22
namespace Q23
abbrev ps:List PK:=[.rd (.list false 46 t2),.rd I6]
abbrev rs:List RK:=[.v I6]
abbrev R:=Option (ai rs×ag ps)
abbrev A0:=Int
def s0 (K:Nat)(x:ab ps)(r0:A0->R)(a:A0):R:=bif decide (a<(FJ x.1:Int)) then ((idx x.1 a).bind λy1=>bif y1.1==x.2.1 then (some ((a,()),())) else (r0 (wr .i64 (a+1)))) else (some (((-1),()),()))
def l0 (x:ab ps):A0->R:=ae (s0 K x) K
def pre (K:Nat)(N0:A0->R)(x:ab ps):R:=N0 0
def f (x:ab ps):R:=pre K (l0 K x) x
def c:Ctr:=⟨99,ps,rs,true,f K⟩
end Q23
namespace Q24
abbrev ps:List PK:=[.rd t2,.rd t2]
abbrev rs:List RK:=[.v .bool]
abbrev R:=Option (ai rs×ag ps)
def f (K:Nat)(x:ab ps):R:=bif x.1.2.1 != x.2.1.2.1 then (some ((decide (x.1.2.1>x.2.1.2.1),()),())) else (bif x.1.2.2.1 != x.2.1.2.2.1 then (some ((decide (x.1.2.2.1>x.2.1.2.2.1),()),())) else (bif x.1.2.2.2 then (some ((!x.2.1.2.2.2,()),())) else (some ((false,()),()))))
def c:Ctr:=⟨127,ps,rs,true,f K⟩
end Q24
namespace Q25
abbrev ps:List PK:=[.rd (.list false 46 t2),.rd t2]
abbrev rs:List RK:=[.v (.list false 46 t2),.v .bool]
abbrev R:=Option (ai rs×ag ps)
abbrev A0:=Int
def s0 (K:Nat)(x:ab ps)(r0:A0->R)(a:A0):R:=let j1:R:=bif decide (0<=0)&&decide (0<=a)&&decide (a<=(FJ x.1:Int))&&true then (let j2:=(x.1.take (FK a)).drop (FK 0);bif decide ((FJ ([]:List (Ty.den t2))+FJ j2)*32<=am) then (bif decide ((FJ ([]++j2)+FJ ([x.2.1]))*32<=am) then (bif decide (0<=a)&&decide (a<=(FJ x.1:Int))&&decide ((FJ x.1:Int)<=(FJ x.1:Int))&&true then (let j3:=((x.1.take (FK (FJ x.1:Int))).drop (FK a));bif decide ((FJ (([]++j2)++([x.2.1]))+FJ j3)*32<=am) then (some (((([]++j2)++([x.2.1]))++j3,true,()),())) else none) else none) else none) else none) else none;bif decide (a<(FJ x.1:Int)) then ((idx x.1 a).bind λy6=>bif decide (y6.1<x.2.1.1) then (r0 (wr .i64 (a+1))) else j1) else j1
def l0 (x:ab ps):A0->R:=ae (s0 K x) K
def pre (N0:A0->R)(x:ab ps):R:=(Q23.f K (x.1,x.2.1.1,())).bind λy1=>bif decide (y1.1.1>=0) then ((idx x.1 y1.1.1).bind λy2=>(Q24.f K (x.2.1,y2,())).bind λy3=>bif !y3.1.1 then (some ((x.1,false,()),())) else (bif decide ((FJ ([]:List (Ty.den t2))+FJ x.1)*32<=am) then ((idx ([]++x.1) y1.1.1).bind λ_=>(idx ([]++x.1) (FK y1.1.1:Nat)).bind λy5=>some ((([]++x.1).set (FK y1.1.1) x.2.1,true,()),())) else none)) else (N0 0)
def f (x:ab ps):R:=pre K (l0 K x) x
def c:Ctr:=⟨221,ps,rs,false,f K⟩
end Q25
namespace Q26
abbrev ps:List PK:=[.rd (.list false 133 t3),.rd t2]
abbrev rs:List RK:=[.v (.list false 133 t3)]
abbrev R:=Option (ai rs×ag ps)
abbrev A0:=List (Ty.den t3)×Bool×Int
def s0 (x:ab ps)(r0:A0->R)(a:A0):R:=let j3:=FJ a.1+FJ ([(x.2.1,4)]);bif decide (a.2.2<(FJ x.1:Int)) then ((idx x.1 a.2.2).bind λy1=>let j2:R:=bif y1.1.1 != x.2.1.1 then ((idx x.1 a.2.2).bind λy4=>bif decide ((FJ a.1+FJ ([y4]))*40<=am) then (r0 (a.1++([y4]),a.2.1,wr .i64 (a.2.2+1))) else none) else (r0 (a.1,a.2.1,wr .i64 (a.2.2+1)));let j1:R:=bif !a.2.1 then (bif decide (y1.1.1>=x.2.1.1) then (bif decide (j3*40<=am) then (bif y1.1.1 != x.2.1.1 then ((idx x.1 a.2.2).bind λy3=>bif decide ((FJ (a.1++([(x.2.1,4)]))+FJ ([y3]))*40<=am) then (r0 ((a.1++([(x.2.1,4)]))++([y3]),true,wr .i64 (a.2.2+1))) else none) else (r0 (a.1++([(x.2.1,4)]),true,wr .i64 (a.2.2+1)))) else none) else j2) else j2;bif y1.1.1==x.2.1.1 then ((Q24.f K (x.2.1,y1.1,())).bind λy2=>bif !y2.1.1 then (some ((x.1,()),())) else j1) else j1) else (bif !a.2.1 then (bif decide (j3*40<=am) then (some ((a.1++([(x.2.1,4)]),()),())) else none) else (some ((a.1,()),())))
def l0 (x:ab ps):A0->R:=ae (s0 K x) K
def pre (K:Nat)(N0:A0->R)(x:ab ps):R:=N0 ([],false,0)
def f (x:ab ps):R:=pre K (l0 K x) x
def c:Ctr:=⟨222,ps,rs,false,f K⟩
end Q26
namespace Q27
abbrev ps:List PK:=[.rd t26,.rd t2,.rd I6]
abbrev rs:List RK:=[.v (.list true 86 t6)]
abbrev R:=Option (ai rs×ag ps)
abbrev A0:=List (Ty.den t6)×Bool×Int
def s0 (K:Nat)(x:ab ps)(r0:A0->R)(a:A0):R:=let j1:=[(x.2.1.1,x.2.1.2.1,x.1.2.2.2.2.2.1,[x.2.2.1])];let j3:=FJ a.1+FJ j1;bif decide (a.2.2<(FJ x.1.2.2.2.2.2.2.2.2.2.2.2.1:Int)) then ((idx x.1.2.2.2.2.2.2.2.2.2.2.2.1 a.2.2).bind λy1=>let j2:R:=bif y1.1 != x.2.1.1 then (bif decide ((FJ a.1+FJ ([y1]))*48<=am) then (r0 (a.1++([y1]),a.2.1,wr .i64 (a.2.2+1))) else none) else (r0 (a.1,a.2.1,wr .i64 (a.2.2+1)));bif !a.2.1 then (bif decide (y1.1>=x.2.1.1) then (bif decide (j3*48<=am) then (bif y1.1 != x.2.1.1 then (bif decide ((FJ (a.1++j1)+FJ ([y1]))*48<=am) then (r0 ((a.1++j1)++([y1]),true,wr .i64 (a.2.2+1))) else none) else (r0 (a.1++j1,true,wr .i64 (a.2.2+1)))) else none) else j2) else j2) else (bif !a.2.1 then (bif decide (j3*48<=am) then (some ((a.1++j1,()),())) else none) else (some ((a.1,()),())))
def l0 (x:ab ps):A0->R:=ae (s0 K x) K
def pre (K:Nat)(N0:A0->R)(x:ab ps):R:=N0 ([],x.2.1.2.2.1 != 2,0)
def f (x:ab ps):R:=pre K (l0 K x) x
def c:Ctr:=⟨223,ps,rs,false,f K⟩
end Q27
namespace Q28
abbrev ps:List PK:=[.own t38,.rd t2,.rd I6]
abbrev rs:List RK:=[.v t38]
abbrev R:=Option (ai rs×ag ps)
def f (x:ab ps):R:=let b1:=x.1.2.2.2.2.2.2.2.2;(Q25.f K (b1.1,x.2.1,())).bind λy1=>bif !y1.1.2.1 then (some ((x.1,()),())) else ((Q23.f K (b1.1,x.2.1.1,())).bind λy2=>let j3:=(b1.2.1,x.2.1,());let j1:R:=(Q26.f K j3).bind λy7=>(Q27.f K ((zcp8 x.1 (y1.1.1,y7.1.1,b1.2.2)),x.2.1,x.2.2.1,())).bind λy8=>some (((zcp8 x.1 (y1.1.1,y7.1.1,b1.2.2.1,y8.1.1,b1.2.2.2.2)),()),());bif decide (y2.1.1>=0) then ((idx b1.1 y2.1.1).bind λy3=>bif y3.2.1==x.2.1.2.1 then ((idx b1.1 y2.1.1).bind λy4=>(Q26.f K j3).bind λy5=>let j2:=(zcp8 x.1 (y1.1.1,y5.1.1,b1.2.2));bif !(y4.2.2.1==x.2.1.2.2.1) then ((Q27.f K (j2,x.2.1,x.2.2.1,())).bind λy6=>some (((zcp8 x.1 (y1.1.1,y5.1.1,b1.2.2.1,y6.1.1,b1.2.2.2.2)),()),())) else (some ((j2,()),()))) else j1) else j1)
def c:Ctr:=⟨149,ps,rs,false,f K⟩
end Q28
namespace Q29
abbrev ps:List PK:=[.own t38,.rd t2]
abbrev rs:List RK:=[.v t38]
abbrev R:=Option (ai rs×ag ps)
def f (x:ab ps):R:=(Q23.f K (x.1.2.2.2.2.2.2.2.2.1,x.1.1,())).bind λy1=>(idx x.1.2.2.2.2.2.2.2.2.1 y1.1.1).bind λy2=>(Q24.f K (x.2.1,y2,())).bind λy3=>bif !y3.1.1 then (some ((x.1,()),())) else (bif decide (x.2.1.2.1>=999) then (some ((x.1,()),())) else ((Q28.f K ((zcp4 x.1 (wr .i64 (x.2.1.2.1+1),x.1.2.2.2.2.2)),(x.1.1,wr .i64 (x.2.1.2.1+1),1,x.1.2.2.2.1),x.1.1,())).bind λy4=>some ((y4.1.1,()),())))
def c:Ctr:=⟨188,ps,rs,false,f K⟩
end Q29
namespace Q30
abbrev ps:List PK:=[.own t38,.rd t2,.rd I6]
abbrev rs:List RK:=[.v t38]
abbrev R:=Option (ai rs×ag ps)
abbrev A1:=Int×Int×List (Ty.den t6)×Int×Int×Int×List (Ty.den I6)
abbrev A0:=Int×List (Ty.den t6)
def s1 (K:Nat)(x:ab ps)(r0:A0->R)(r1:A1->R)(a:A1):R:=let b1:=a.2.2.2.2.2;let j2:=(FJ b1.2:Int);let j1:R:=bif decide (0<=0)&&decide (0<=a.2.1)&&decide (a.2.1<=j2)&&true then (let j3:=(b1.2.take (FK a.2.1)).drop (FK 0);bif decide ((FJ ([]:List (Ty.den I6))+FJ j3)*8<=am) then (bif decide ((FJ ([]++j3)+FJ ([x.2.2.1]))*8<=am) then (bif decide (0<=a.2.1)&&decide (a.2.1<=j2)&&decide (j2<=j2)&&true then (let j5:=(b1.2.take (FK j2)).drop (FK a.2.1);bif decide ((FJ (([]++j3)++([x.2.2.1]))+FJ j5)*8<=am) then ((idx a.2.2.1 a.1).bind λ_=>(idx a.2.2.1 (FK a.1:Nat)).bind λy5=>r0 (wr .i64 (a.1+1),a.2.2.1.set (FK a.1) (a.2.2.2.1,a.2.2.2.2.1,b1.1,(([]++j3)++([x.2.2.1]))++j5))) else none) else none) else none) else none) else none;let j4:R:=bif a.2.1==j2 then j1 else ((idx b1.2 a.2.1).bind λy6=>bif y6 != x.2.2.1 then j1 else (r0 (wr .i64 (a.1+1),a.2.2.1)));bif decide (a.2.1<j2) then ((idx b1.2 a.2.1).bind λy3=>bif decide (y3<x.2.2.1) then (r1 (a.1,wr .i64 (a.2.1+1),a.2.2)) else j4) else j4
def l1 (x:ab ps)(r0:A0->R):A1->R:=ae (s1 K x r0) K
def s0 (K:Nat)(x:ab ps)(N1:A1->R)(r0:A0->R)(a:A0):R:=let b1:=x.1.2.2.2.2.2.2.2.2;bif decide (a.1<(FJ a.2:Int)) then ((idx a.2 a.1).bind λ_=>(idx a.2 (FK a.1:Nat)).bind λy2=>let j1:R:=r0 (wr .i64 (a.1+1),a.2);bif y2.1 != x.2.1.1 then j1 else (bif y2.2.1 != x.2.1.2.1 then j1 else (bif x.2.1.2.2.1 != 2 then j1 else (N1 (a.1,0,a.2,y2))))) else (some (((zcp8 x.1 (b1.1,b1.2.1,b1.2.2.1,a.2,b1.2.2.2.2)),()),()))
def l0 (x:ab ps):A0->R:=ae (λr0 a=>s0 K x (l1 K x r0) r0 a) K
def pre (K:Nat)(N0:A0->R)(x:ab ps):R:=N0 (0,x.1.2.2.2.2.2.2.2.2.2.2.2.1)
def f (x:ab ps):R:=pre K (l0 K x) x
def c:Ctr:=⟨189,ps,rs,false,f K⟩
def G (K:Nat):List Ctr:=[]
def v1:List (Nat×List Coe):=[(2,[.keep]),(3,[.keep]),(4,[.keep]),(6,[.keep]),(7,[.keep]),(8,[.keep]),(9,[.keep]),(100003,Kc3),(100004,Kc1),(100006,Kc2),(100008,Kc5)]
def v0:List (Nat×List Coe):=[(2,[.keep]),(3,[.keep]),(4,[.keep]),(6,[.keep]),(7,[.keep]),(100003,Kc3),(100004,Kc1),(100006,Kc2)]
def L:List (Nat×List (Nat×List Coe)):=[(8,v1),(3,v0)]
def body:Code:=cY Tryz.f189
abbrev ev:Code->St->(Ex->St->R)->R:=evK (G K) T_NS L K
abbrev fin:Ex->St->R:=du T_NS ps rs false Tryz.f189.results.toList
def S0 (x:ab ps)(a:A0):St:=av [(2,⟨0,.one,[.int .i64 x.2.2.1]⟩),(3,⟨0,.one,[.bp 100003 0]⟩),(4,⟨0,.one,[.bp 100004 0]⟩),(6,⟨0,.one,[.bp 100006 0]⟩),(7,⟨0,.one,[.int .i64 a.1]⟩),(100003,⟨0,.agg,[.int .i64 x.1.1,.bool x.1.2.1,.bool x.1.2.2.1,.bool x.1.2.2.2.1,.int .i64 x.1.2.2.2.2.1,.int .i64 x.1.2.2.2.2.2.1,.int .i64 x.1.2.2.2.2.2.2.1,.int .i64 x.1.2.2.2.2.2.2.2.1,.ro true 46 t2 x.1.2.2.2.2.2.2.2.2.1,.ro true 133 t3 x.1.2.2.2.2.2.2.2.2.2.1,.int .i64 x.1.2.2.2.2.2.2.2.2.2.2.1.1,.int .i64 x.1.2.2.2.2.2.2.2.2.2.2.1.2.1,.int .i64 x.1.2.2.2.2.2.2.2.2.2.2.1.2.2.1,.bool x.1.2.2.2.2.2.2.2.2.2.2.1.2.2.2,.own true none 86 t6 a.2,.int .i64 x.1.2.2.2.2.2.2.2.2.2.2.2.2.1.1,.int .i64 x.1.2.2.2.2.2.2.2.2.2.2.2.2.1.2.1,.int .i64 x.1.2.2.2.2.2.2.2.2.2.2.2.2.1.2.2.1,.int .i64 x.1.2.2.2.2.2.2.2.2.2.2.2.2.1.2.2.2,.ro true 89 t11 x.1.2.2.2.2.2.2.2.2.2.2.2.2.2.1,.ro true 91 t12 x.1.2.2.2.2.2.2.2.2.2.2.2.2.2.2]⟩),(100004,⟨0,.agg,(w0 x.2.1)⟩),(100006,⟨0,.agg,[.int .i64 0,.bool false,.bool false,.bool false,.int .i64 0,.int .i64 0,.int .i64 0,.int .i64 0,.nil,.nil,.int .i64 0,.int .i64 0,.int .i64 0,.bool false,.nil,.int .i64 0,.int .i64 0,.int .i64 0,.int .i64 0,.nil,.nil]⟩)]
def S1 (x:ab ps)(a:A1):St:=av [(2,⟨0,.one,[.int .i64 x.2.2.1]⟩),(3,⟨0,.one,[.bp 100003 0]⟩),(4,⟨0,.one,[.bp 100004 0]⟩),(6,⟨0,.one,[.bp 100006 0]⟩),(7,⟨0,.one,[.int .i64 a.1]⟩),(8,⟨0,.one,[.bp 100008 0]⟩),(9,⟨0,.one,[.int .i64 a.2.1]⟩),(100003,⟨0,.agg,[.int .i64 x.1.1,.bool x.1.2.1,.bool x.1.2.2.1,.bool x.1.2.2.2.1,.int .i64 x.1.2.2.2.2.1,.int .i64 x.1.2.2.2.2.2.1,.int .i64 x.1.2.2.2.2.2.2.1,.int .i64 x.1.2.2.2.2.2.2.2.1,.ro true 46 t2 x.1.2.2.2.2.2.2.2.2.1,.ro true 133 t3 x.1.2.2.2.2.2.2.2.2.2.1,.int .i64 x.1.2.2.2.2.2.2.2.2.2.2.1.1,.int .i64 x.1.2.2.2.2.2.2.2.2.2.2.1.2.1,.int .i64 x.1.2.2.2.2.2.2.2.2.2.2.1.2.2.1,.bool x.1.2.2.2.2.2.2.2.2.2.2.1.2.2.2,.own true none 86 t6 a.2.2.1,.int .i64 x.1.2.2.2.2.2.2.2.2.2.2.2.2.1.1,.int .i64 x.1.2.2.2.2.2.2.2.2.2.2.2.2.1.2.1,.int .i64 x.1.2.2.2.2.2.2.2.2.2.2.2.2.1.2.2.1,.int .i64 x.1.2.2.2.2.2.2.2.2.2.2.2.2.1.2.2.2,.ro true 89 t11 x.1.2.2.2.2.2.2.2.2.2.2.2.2.2.1,.ro true 91 t12 x.1.2.2.2.2.2.2.2.2.2.2.2.2.2.2]⟩),(100004,⟨0,.agg,(w0 x.2.1)⟩),(100006,⟨0,.agg,[.int .i64 0,.bool false,.bool false,.bool false,.int .i64 0,.int .i64 0,.int .i64 0,.int .i64 0,.nil,.nil,.int .i64 0,.int .i64 0,.int .i64 0,.bool false,.nil,.int .i64 0,.int .i64 0,.int .i64 0,.int .i64 0,.nil,.nil]⟩),(100008,⟨0,.agg,(wa0 a.2.2.2)⟩)]
def k0 (x:ab ps):Ex->St->R:=kAt (ev K) body [1,0,1,0] fin
def N0 (x:ab ps):A0->R:=λa=>aY v0 (ev K (sub body [1,0,1,0,0])) K (S0 x a) (k0 K x)
def k1 (x:ab ps)(q0:St->R):Ex->St->R:=kAt (ev K) (sub body [1,0,1,0,0]) [1,0,0,1,1,1,0,0] (iq v0 q0 (k0 K x))
def N1 (x:ab ps)(q0:St->R):A1->R:=λa=>aY v1 (ev K (sub body [1,0,1,0,0,1,0,0,1,1,1,0,0,0])) K (S1 x a) (k1 K x q0)
end Q30
namespace Q31
abbrev ps:List PK:=[.own t38,.rd (.list false 46 t2),.rd I6]
abbrev rs:List RK:=[.v t38]
abbrev R:=Option (ai rs×ag ps)
abbrev A0:=Int×Int×Bool×Bool×Bool×Int×Int×Int×Int×List (Ty.den t2)×List (Ty.den t3)×Int×Int×Int×Bool×List (Ty.den t6)×Int×Int×Int×Int×List (Ty.den t11)×List (Ty.den t12)
def s0 (x:ab ps)(r0:A0->R)(a:A0):R:=bif decide (a.1<(FJ x.2.1:Int)) then ((idx x.2.1 a.1).bind λy1=>bif y1.1==a.2.1 then ((Q29.f K (zc286a0 a.2 (y1,()))).bind λy2=>r0 (wr .i64 (a.1+1),(zc3ec45 y2.1.1))) else ((Q28.f K (zc286a0 a.2 (y1,x.2.2.1,()))).bind λy3=>(Q30.f K (y3.1.1,y1,x.2.2.1,())).bind λy4=>r0 (wr .i64 (a.1+1),(zc3ec45 y4.1.1)))) else (some ((zc286a0 a.2 ()),()))
def l0 (x:ab ps):A0->R:=ae (s0 K x) K
def pre (K:Nat)(N0:A0->R)(x:ab ps):R:=N0 (0,(zc3ec45 x.1))
def f (x:ab ps):R:=pre K (l0 K x) x
def c:Ctr:=⟨116,ps,rs,false,f K⟩
end Q31
namespace Q32
abbrev ps:List PK:=[.own (.list true 46 t2),.rd t2]
abbrev rs:List RK:=[.v (.list true 46 t2),.v .bool]
abbrev R:=Option (ai rs×ag ps)
abbrev A0:=Int
def s0 (K:Nat)(x:ab ps)(r0:A0->R)(a:A0):R:=let j1:R:=bif decide (0<=0)&&decide (0<=a)&&decide (a<=(FJ x.1:Int))&&true then (let j2:=(x.1.take (FK a)).drop (FK 0);bif decide ((FJ ([]:List (Ty.den t2))+FJ j2)*32<=am) then (bif decide ((FJ ([]++j2)+FJ ([x.2.1]))*32<=am) then (bif decide (0<=a)&&decide (a<=(FJ x.1:Int))&&decide ((FJ x.1:Int)<=(FJ x.1:Int))&&true then (let j3:=((x.1.take (FK (FJ x.1:Int))).drop (FK a));bif decide ((FJ (([]++j2)++([x.2.1]))+FJ j3)*32<=am) then (some (((([]++j2)++([x.2.1]))++j3,true,()),())) else none) else none) else none) else none) else none;bif decide (a<(FJ x.1:Int)) then ((idx x.1 a).bind λ_=>(idx x.1 (FK a:Nat)).bind λy8=>bif decide (y8.1<x.2.1.1) then (r0 (wr .i64 (a+1))) else j1) else j1
def l0 (x:ab ps):A0->R:=ae (s0 K x) K
def pre (N0:A0->R)(x:ab ps):R:=(Q23.f K (x.1,x.2.1.1,())).bind λy1=>bif decide (y1.1.1>=0) then ((idx x.1 y1.1.1).bind λ_=>(idx x.1 (FK y1.1.1:Nat)).bind λy3=>(Q24.f K (x.2.1,y3,())).bind λy4=>bif !y4.1.1 then (some ((x.1,false,()),())) else (bif decide ((FJ ([]:List (Ty.den t2))+FJ x.1)*32<=am) then ((idx ([]++x.1) y1.1.1).bind λ_=>(idx ([]++x.1) (FK y1.1.1:Nat)).bind λy6=>some ((([]++x.1).set (FK y1.1.1) x.2.1,true,()),())) else none)) else (N0 0)
def f (x:ab ps):R:=pre K (l0 K x) x
def c:Ctr:=⟨221,ps,rs,true,f K⟩
end Q32
namespace Q33
abbrev ps:List PK:=[.rd (.list false 46 t2),.rd (.list false 46 t2)]
abbrev rs:List RK:=[.v (.list true 46 t2)]
abbrev R:=Option (ai rs×ag ps)
abbrev A0:=List (Ty.den t2)×Int
def s0 (x:ab ps)(r0:A0->R)(a:A0):R:=bif decide (a.2<(FJ x.2.1:Int)) then ((idx x.2.1 a.2).bind λy3=>(Q32.f K (a.1,y3,())).bind λy4=>r0 (y4.1.1,wr .i64 (a.2+1))) else (some ((a.1,()),()))
def l0 (x:ab ps):A0->R:=ae (s0 K x) K
def pre (N0:A0->R)(x:ab ps):R:=(Q16.f K (x.1,())).bind λy1=>bif !y1.1.1 then (some (([],()),())) else ((Q16.f K (x.2.1,())).bind λy2=>bif !y2.1.1 then (some (([],()),())) else (bif decide ((FJ ([]:List (Ty.den t2))+FJ x.1)*32<=am) then (N0 ([]++x.1,0)) else none))
def f (x:ab ps):R:=pre K (l0 K x) x
def c:Ctr:=⟨250,ps,rs,true,f K⟩
end Q33
namespace Q34
abbrev ps:List PK:=[.rd t26,.rd I6,.rd (.list false 46 t2)]
abbrev rs:List RK:=[.v (.list true 46 t2)]
abbrev R:=Option (ai rs×ag ps)
abbrev A0:=Int
def s0 (x:ab ps)(r0:A0->R)(a:A0):R:=let b1:=x.1.2.2.2.2.2.2.2.2.2.2.2.2.2.2;bif decide (a<(FJ b1:Int)) then ((idx b1 a).bind λy1=>bif y1.1==x.2.1 then ((idx b1 a).bind λy2=>(Q33.f K (y2.2,x.2.2.1,())).bind λy3=>some ((y3.1.1,()),())) else (r0 (wr .i64 (a+1)))) else (bif decide ((FJ ([]:List (Ty.den t2))+FJ x.2.2.1)*32<=am) then (some (([]++x.2.2.1,()),())) else none)
def l0 (x:ab ps):A0->R:=ae (s0 K x) K
def pre (K:Nat)(N0:A0->R)(x:ab ps):R:=N0 0
def f (x:ab ps):R:=pre K (l0 K x) x
def c:Ctr:=⟨183,ps,rs,true,f K⟩
end Q34
namespace Q35
abbrev ps:List PK:=[.own t38,.rd I6,.rd (.list false 46 t2)]
abbrev rs:List RK:=[.v t38]
abbrev R:=Option (ai rs×ag ps)
abbrev A0:=List (Ty.den t12)×Bool×Int
def s0 (K:Nat)(x:ab ps)(r0:A0->R)(a:A0):R:=let b2:=x.1.2.2.2.2.2.2.2.2;let b1:=b2.2.2.2.2;let j2:=FJ a.1+FJ ([(x.2.1,x.2.2.1)]);bif decide (a.2.2<(FJ b1.2.2:Int)) then ((idx b1.2.2 a.2.2).bind λy1=>let j1:R:=bif y1.1 != x.2.1 then (bif decide ((FJ a.1+FJ ([y1]))*32<=am) then (r0 (a.1++([y1]),a.2.1,wr .i64 (a.2.2+1))) else none) else (r0 (a.1,a.2.1,wr .i64 (a.2.2+1)));bif !a.2.1 then (bif decide (y1.1>=x.2.1) then (bif decide (j2*32<=am) then (bif y1.1 != x.2.1 then (let j3:=a.1++([(x.2.1,x.2.2.1)]);bif decide ((FJ j3+FJ ([y1]))*32<=am) then (r0 (j3++([y1]),true,wr .i64 (a.2.2+1))) else none) else (r0 (a.1++([(x.2.1,x.2.2.1)]),true,wr .i64 (a.2.2+1)))) else none) else j1) else j1) else (bif !a.2.1 then (bif decide (j2*32<=am) then (some (((zcp8 x.1 (zcp4 b2 (b1.1,b1.2.1,a.1++([(x.2.1,x.2.2.1)])))),()),())) else none) else (some (((zcp8 x.1 (zcp4 b2 (b1.1,b1.2.1,a.1))),()),())))
def l0 (x:ab ps):A0->R:=ae (s0 K x) K
def pre (K:Nat)(N0:A0->R)(x:ab ps):R:=N0 ([],false,0)
def f (x:ab ps):R:=pre K (l0 K x) x
def c:Ctr:=⟨184,ps,rs,false,f K⟩
end Q35
namespace Q36
abbrev ps:List PK:=[.rd (.list false 46 t2),.rd (.list false 46 t2)]
abbrev rs:List RK:=[.v .bool]
abbrev R:=Option (ai rs×ag ps)
abbrev A0:=Int
def s0 (K:Nat)(x:ab ps)(r0:A0->R)(a:A0):R:=bif decide (a<(FJ x.1:Int)) then ((idx x.1 a).bind λy1=>(idx x.2.1 a).bind λy2=>bif !Ty.eqv t2 y1 y2 then (some ((true,()),())) else (r0 (wr .i64 (a+1)))) else (some ((false,()),()))
def l0 (x:ab ps):A0->R:=ae (s0 K x) K
def pre (K:Nat)(N0:A0->R)(x:ab ps):R:=bif (FJ x.1:Int) != (FJ x.2.1:Int) then (some ((true,()),())) else (N0 0)
def f (x:ab ps):R:=pre K (l0 K x) x
def c:Ctr:=⟨185,ps,rs,true,f K⟩
end Q36
namespace Q37
abbrev ps:List PK:=[.own t38,.rd t47]
abbrev rs:List RK:=[.v t38,.v (.list true 35 t47)]
abbrev R:=Option (ai rs×ag ps)
def f (x:ab ps):R:=let b1:=x.2.1.2.2.2.2.2.2.2;(Q20.f K (x.1.1,())).bind λy1=>(Q17.f K (b1,y1.1.1,())).bind λy2=>bif y2.1.1 then ((Q31.f K (x.1,b1,x.1.1,())).bind λy3=>some ((y3.1.1,[],()),())) else ((idx b1 0).bind λy4=>(Q20.f K (y4.1,())).bind λy5=>(Q34.f K (x.1,y5.1.1,b1,())).bind λy6=>(Q35.f K (x.1,y5.1.1,y6.1.1,())).bind λy7=>bif x.2.1.1==2 then ((Q36.f K (b1,y6.1.1,())).bind λy8=>bif y8.1.1 then ((Q22.f K (y7.1.1,6,x.2.1.2.2.1,0,x.1.1,y6.1.1,())).bind λy9=>some ((y7.1.1,[(2,y9.1.1.2)],()),())) else (some ((y7.1.1,[],()),()))) else (some ((y7.1.1,[],()),())))
def c:Ctr:=⟨114,ps,rs,false,f K⟩
end Q37
namespace Q38
abbrev ps:List PK:=[.rd (.list false 133 t3),.rd (.list false 4 .bool)]
abbrev rs:List RK:=[.v I6]
abbrev R:=Option (ai rs×ag ps)
abbrev A0:=Int×Int
def s0 (K:Nat)(x:ab ps)(r0:A0->R)(a:A0):R:=bif decide (a.2<(FJ x.1:Int)) then ((idx x.2.1 a.2).bind λy1=>bif !y1 then (bif decide (a.1<0) then (r0 (a.2,wr .i64 (a.2+1))) else ((idx x.1 a.2).bind λy2=>(idx x.1 a.1).bind λy3=>bif decide (y2.2>y3.2) then (r0 (a.2,wr .i64 (a.2+1))) else (r0 (a.1,wr .i64 (a.2+1))))) else (r0 (a.1,wr .i64 (a.2+1)))) else (some ((a.1,()),()))
def l0 (x:ab ps):A0->R:=ae (s0 K x) K
def pre (K:Nat)(N0:A0->R)(x:ab ps):R:=N0 ((-1),0)
def f (x:ab ps):R:=pre K (l0 K x) x
def c:Ctr:=⟨293,ps,rs,true,f K⟩
end Q38
namespace Q39
abbrev ps:List PK:=[.rd (.list false 133 t3),.rd I6]
abbrev rs:List RK:=[.v (.list true 46 t2),.v (.list true 133 t3)]
abbrev R:=Option (ai rs×ag ps)
abbrev A1:=List (Ty.den .bool)×List (Ty.den t2)×List (Ty.den t3)×Int
abbrev A0:=List (Ty.den .bool)×Int
def s1 (K:Nat)(x:ab ps)(r1:A1->R)(a:A1):R:=let b2:=a.2.2.1;let b1:=a.2.2.2;bif decide (b1<(FJ x.1:Int)) then ((idx x.1 b1).bind λy2=>(idx a.1 b1).bind λ_=>(idx a.1 (FK b1:Nat)).bind λy4=>bif y4 then (bif decide ((FJ a.2.1+FJ ([y2.1]))*32<=am) then (bif decide ((wr .i64 (y2.2-1))>0) then (let j1:=[(y2.1,wr .i64 (y2.2-1))];bif decide ((FJ b2+FJ j1)*40<=am) then (r1 (a.1,a.2.1++([y2.1]),b2++j1,wr .i64 (b1+1))) else none) else (r1 (a.1,a.2.1++([y2.1]),b2,wr .i64 (b1+1)))) else none) else (bif decide (y2.2>0) then (bif decide ((FJ b2+FJ ([y2]))*40<=am) then (r1 (a.1,a.2.1,b2++([y2]),wr .i64 (b1+1))) else none) else (r1 (a.1,a.2.1,b2,wr .i64 (b1+1))))) else (some ((a.2.1,b2,()),()))
def l1 (x:ab ps):A1->R:=ae (s1 K x) K
def s0 (x:ab ps)(N1:A1->R)(r0:A0->R)(a:A0):R:=bif decide (a.2<x.2.1) then ((Q38.f K (x.1,a.1,())).bind λy1=>bif decide (y1.1.1<0) then (N1 (a.1,[],[],0)) else ((idx a.1 y1.1.1).bind λ_=>(idx a.1 (FK y1.1.1:Nat)).bind λy6=>r0 (a.1.set (FK y1.1.1) true,wr .i64 (a.2+1)))) else (N1 (a.1,[],[],0))
def l0 (x:ab ps):A0->R:=ae (s0 K x (l1 K x)) K
def pre (K:Nat)(N0:A0->R)(x:ab ps):R:=bif decide (0<=(FJ x.1:Int))&&decide ((FJ x.1:Int)=(FJ x.1:Int))&&decide ((FJ x.1:Int)*(1:Nat)<=am) then (N0 (List.replicate (FK (FJ x.1:Int)) (false:Ty.den .bool),0)) else none
def f (x:ab ps):R:=pre K (l0 K x) x
def c:Ctr:=⟨251,ps,rs,true,f K⟩
def G:List Ctr:=[Q38.c K]
def v1:List (Nat×List Coe):=[(0,[.ro true 133 t3]),(6,[.own false 4 .bool]),(9,[.own false 46 t2]),(10,[.own false 133 t3]),(11,[.keep])]
def v0:List (Nat×List Coe):=[(0,[.ro true 133 t3]),(1,[.keep]),(6,[.own false 4 .bool]),(7,[.keep])]
def L:List (Nat×List (Nat×List Coe)):=[(12,v1),(4,v0)]
def body:Code:=cY Tryz.f251
abbrev ev:Code->St->(Ex->St->R)->R:=evK (G K) T_S L K
abbrev fin:Ex->St->R:=du T_S ps rs true Tryz.f251.results.toList
def S0 (x:ab ps)(a:A0):St:=av [(0,⟨0,.one,[.ro true 133 t3 x.1]⟩),(1,⟨0,.one,[.int .i64 x.2.1]⟩),(6,⟨0,.one,[.own false none 4 .bool a.1]⟩),(7,⟨0,.one,[.int .i64 a.2]⟩)]
def S1 (x:ab ps)(a:A1):St:=av [(0,⟨0,.one,[.ro true 133 t3 x.1]⟩),(6,⟨0,.one,[.own false none 4 .bool a.1]⟩),(9,⟨0,.one,[.own false none 46 t2 a.2.1]⟩),(10,⟨0,.one,[.own false none 133 t3 a.2.2.1]⟩),(11,⟨0,.one,[.int .i64 a.2.2.2]⟩)]
def k0 (x:ab ps):Ex->St->R:=kAt (ev K) body [1,1,0,1,0] fin
def N0 (x:ab ps):A0->R:=λa=>aY v0 (ev K (sub body [1,1,0,1,0,0])) K (S0 x a) (k0 K x)
def k1 (x:ab ps):Ex->St->R:=kAt (ev K) body [1,1,1,1,1,0,1,0] fin
def N1 (x:ab ps):A1->R:=λa=>aY v1 (ev K (sub body [1,1,1,1,1,0,1,0,0])) K (S1 x a) (k1 K x)
end Q39
namespace Q40
abbrev ps:List PK:=[.own t38,.rd I6]
abbrev rs:List RK:=[.v (.list true 46 t2),.v t38]
abbrev R:=Option (ai rs×ag ps)
def f (x:ab ps):R:=let b1:=x.1.2.2.2.2.2.2.2.2;(Q39.f K (b1.2.1,3,())).bind λy1=>(Q23.f K (b1.1,x.2.1,())).bind λy2=>let j1:=(zcp8 x.1 (b1.1,y1.1.2.1,b1.2.2));bif decide (y2.1.1>=0) then ((idx b1.1 y2.1.1).bind λy3=>bif y3.2.2.1==2 then ((idx b1.1 y2.1.1).bind λy4=>(Q32.f K (y1.1.1,y4,())).bind λy5=>some ((y5.1.1,j1,()),())) else (some ((y1.1.1,j1,()),()))) else (some ((y1.1.1,j1,()),()))
def c:Ctr:=⟨186,ps,rs,false,f K⟩
end Q40
namespace Q41
abbrev ps:List PK:=[.rd I6,.rd I6,.rd I6]
abbrev rs:List RK:=[.v I6]
abbrev R:=Option (ai rs×ag ps)
def f (K:Nat)(x:ab ps):R:=bif decide (x.1<x.2.1) then (some ((x.2.1,()),())) else (bif decide (x.1>x.2.2.1) then (some ((x.2.2.1,()),())) else (some ((x.1,()),())))
def c:Ctr:=⟨252,ps,rs,true,f K⟩
end Q41
namespace Q42
abbrev ps:List PK:=[.rd (.list false 3 I6),.rd I6]
abbrev rs:List RK:=[.v (.list false 3 I6)]
abbrev R:=Option (ai rs×ag ps)
def f (K:Nat)(x:ab ps):R:=bif decide ((FJ ([]:List (Ty.den I6))+FJ x.1)*8<=am) then (bif decide ((FJ ([]++x.1)+FJ ([x.2.1]))*8<=am) then (bif decide ((FJ (([]++x.1)++([x.2.1])):Int)>3) then (bif decide (0<=(wr .i64 ((FJ (([]++x.1)++([x.2.1])):Int)-3)))&&decide ((wr .i64 ((FJ (([]++x.1)++([x.2.1])):Int)-3))<=(FJ (([]++x.1)++([x.2.1])):Int))&&decide ((FJ (([]++x.1)++([x.2.1])):Int)<=(FJ (([]++x.1)++([x.2.1])):Int))&&true then (some ((((([]++x.1)++([x.2.1])).take (FK (FJ (([]++x.1)++([x.2.1])):Int))).drop (FK (wr .i64 ((FJ (([]++x.1)++([x.2.1])):Int)-3))),()),())) else none) else (some ((([]++x.1)++([x.2.1]),()),()))) else none) else none
def c:Ctr:=⟨294,ps,rs,true,f K⟩
end Q42
namespace Q43
abbrev ps:List PK:=[.rd (.list false 89 t11),.rd I6,.rd t9,.rd I6]
abbrev rs:List RK:=[.v (.list true 89 t11)]
abbrev R:=Option (ai rs×ag ps)
abbrev A0:=List (Ty.den t11)×Bool×Int×List (Ty.den I6)
def s0 (x:ab ps)(r0:A0->R)(a:A0):R:=let b1:=a.2.2.1;bif decide (b1<(FJ x.1:Int)) then ((idx x.1 b1).bind λy1=>let j5:=FJ a.1+FJ ([y1]);bif y1.1==x.2.1 then (let j2:R:=bif y1.1 != x.2.1 then (bif decide (j5*64<=am) then (r0 (a.1++([y1]),a.2.1,wr .i64 (b1+1),y1.2.2)) else none) else (r0 (a.1,a.2.1,wr .i64 (b1+1),y1.2.2));bif !a.2.1 then (bif decide (y1.1>=x.2.1) then ((Q42.f K (y1.2.2,x.2.2.2.1,())).bind λy2=>let j3:=[(x.2.1,x.2.2.1,y2.1.1)];bif decide ((FJ a.1+FJ j3)*64<=am) then (bif y1.1 != x.2.1 then (bif decide ((FJ (a.1++j3)+FJ ([y1]))*64<=am) then (r0 ((a.1++j3)++([y1]),true,wr .i64 (b1+1),y2.1.1)) else none) else (r0 (a.1++j3,true,wr .i64 (b1+1),y2.1.1))) else none) else j2) else j2) else (let j1:R:=bif y1.1 != x.2.1 then (bif decide (j5*64<=am) then (r0 (a.1++([y1]),a.2.1,wr .i64 (b1+1),a.2.2.2)) else none) else (r0 (a.1,a.2.1,wr .i64 (b1+1),a.2.2.2));bif !a.2.1 then (bif decide (y1.1>=x.2.1) then ((Q42.f K (a.2.2.2,x.2.2.2.1,())).bind λy3=>let j4:=[(x.2.1,x.2.2.1,y3.1.1)];bif decide ((FJ a.1+FJ j4)*64<=am) then (bif y1.1 != x.2.1 then (bif decide ((FJ (a.1++j4)+FJ ([y1]))*64<=am) then (r0 ((a.1++j4)++([y1]),true,wr .i64 (b1+1),y3.1.1)) else none) else (r0 (a.1++j4,true,wr .i64 (b1+1),y3.1.1))) else none) else j1) else j1)) else (bif !a.2.1 then ((Q42.f K (a.2.2.2,x.2.2.2.1,())).bind λy4=>let j6:=[(x.2.1,x.2.2.1,y4.1.1)];bif decide ((FJ a.1+FJ j6)*64<=am) then (some ((a.1++j6,()),())) else none) else (some ((a.1,()),())))
def l0 (x:ab ps):A0->R:=ae (s0 K x) K
def pre (K:Nat)(N0:A0->R)(x:ab ps):R:=N0 ([],false,0,[])
def f (x:ab ps):R:=pre K (l0 K x) x
def c:Ctr:=⟨253,ps,rs,false,f K⟩
end Q43
namespace Q44
abbrev ps:List PK:=[.rd I6]
abbrev rs:List RK:=[.v I6]
abbrev R:=Option (ai rs×ag ps)
def f (x:ab ps):R:=(Q41.f K (x.1,(-1000000000),1000000000,())).bind λy1=>some ((y1.1.1,()),())
def c:Ctr:=⟨322,ps,rs,true,f K⟩
end Q44
namespace Q45
abbrev ps:List PK:=[.rd I6]
abbrev rs:List RK:=[.v I6]
abbrev R:=Option (ai rs×ag ps)
abbrev A0:=Int×Int
def s0 (K:Nat)(x:ab ps)(r0:A0->R)(a:A0):R:=bif decide (a.1<a.2) then (let j1:=FL (wr .i64 ((wr .i64 (a.1+a.2))+1)) 2;bif decide (wr .i64 j1=0) then none else (bif decide ((wr .i64 j1)<=(wr .i64 (FL x.1 (wr .i64 j1)))) then (r0 (wr .i64 j1,a.2)) else (r0 (a.1,wr .i64 ((wr .i64 j1)-1))))) else (some ((a.1,()),()))
def l0 (x:ab ps):A0->R:=ae (s0 K x) K
def pre (K:Nat)(N0:A0->R)(x:ab ps):R:=N0 (0,1500000000)
def f (x:ab ps):R:=pre K (l0 K x) x
def c:Ctr:=⟨323,ps,rs,true,f K⟩
end Q45
namespace Q46
abbrev ps:List PK:=[.rd I6,.rd I6]
abbrev rs:List RK:=[.v I6]
abbrev R:=Option (ai rs×ag ps)
def f (x:ab ps):R:=(Q44.f K (x.1,())).bind λy1=>(Q44.f K (x.2.1,())).bind λy2=>(Q45.f K (wr .i64 ((wr .i64 (y1.1.1*y1.1.1))+(wr .i64 (y2.1.1*y2.1.1))),())).bind λy3=>(Q44.f K (y3.1.1,())).bind λy4=>some ((y4.1.1,()),())
def c:Ctr:=⟨297,ps,rs,true,f K⟩
end Q46
namespace Q47
abbrev ps:List PK:=[.rd t9,.rd t9]
abbrev rs:List RK:=[.v I6]
abbrev R:=Option (ai rs×ag ps)
def f (x:ab ps):R:=(Q18.f K (x.1,())).bind λy1=>bif !y1.1.1 then (some ((0,()),())) else ((Q18.f K (x.2.1,())).bind λy2=>bif !y2.1.1 then (some ((0,()),())) else ((Q46.f K (wr .i64 (x.1.1-x.2.1.1),wr .i64 (x.1.2.1-x.2.1.2.1),())).bind λy3=>some ((wr .i64 ((wr .i64 (y3.1.1+x.1.2.2.1))+x.2.1.2.2.1),()),())))
def c:Ctr:=⟨295,ps,rs,true,f K⟩
end Q47
namespace Q48
abbrev ps:List PK:=[.rd t9,.rd t9,.rd I6]
abbrev rs:List RK:=[.v I6]
abbrev R:=Option (ai rs×ag ps)
def f (K:Nat)(x:ab ps):R:=bif decide (wr .i64 (x.1.2.2.2+x.2.1.2.2.2)=0) then none else (some ((wr .i64 (FL (wr .i64 (FL (wr .i64 (x.2.2.1*x.1.2.2.2)) (wr .i64 (x.1.2.2.2+x.2.1.2.2.2)))) 4),()),()))
def c:Ctr:=⟨296,ps,rs,true,f K⟩
end Q48
namespace Q49
abbrev ps:List PK:=[.rd I6]
abbrev rs:List RK:=[.v I6,.v I6]
abbrev R:=Option (ai rs×ag ps)
def f (K:Nat)(x:ab ps):R:=bif (bz .i64 x.1 3)==0 then (some ((1,0,()),())) else (bif (bz .i64 x.1 3)==1 then (some ((0,1,()),())) else (bif (bz .i64 x.1 3)==2 then (some (((-1),0,()),())) else (some ((0,(-1),()),()))))
def c:Ctr:=⟨298,ps,rs,true,f K⟩
end Q49
namespace Q50
abbrev ps:List PK:=[.rd I6]
abbrev rs:List RK:=[.v I6]
abbrev R:=Option (ai rs×ag ps)
def f (K:Nat)(x:ab ps):R:=bif decide (x.1<0) then (some ((wr .i64 (0-x.1),()),())) else (some ((x.1,()),()))
def c:Ctr:=⟨324,ps,rs,true,f K⟩
end Q50
namespace Q51
abbrev ps:List PK:=[.rd t9,.rd t9,.rd I6,.rd I6]
abbrev rs:List RK:=[.v I6]
abbrev R:=Option (ai rs×ag ps)
def f (x:ab ps):R:=let b1:=x.1.2.2.2;(Q50.f K (x.2.2.1,())).bind λy1=>bif decide (x.2.2.2.1=0) then none else ((Q41.f K (wr .i64 (FL (wr .i64 (y1.1.1*1000)) x.2.2.2.1),0,1500,())).bind λy2=>bif decide (wr .i64 (b1+x.2.1.2.2.2)=0) then none else ((Q41.f K (wr .i64 (b1+(wr .i64 (FL (wr .i64 (FL (wr .i64 ((wr .i64 (y2.1.1-b1))*b1)) (wr .i64 (b1+x.2.1.2.2.2)))) 4))),1,1500,())).bind λy3=>some ((y3.1.1,()),())))
def c:Ctr:=⟨299,ps,rs,true,f K⟩
end Q51
namespace Q52
abbrev ps:List PK:=[.rd t9,.rd t9,.rd I6,.rd I6]
abbrev rs:List RK:=[.v t9]
abbrev R:=Option (ai rs×ag ps)
def f (x:ab ps):R:=(Q18.f K (x.1,())).bind λy1=>bif !y1.1.1 then (some (((0,0,0,0),()),())) else ((Q18.f K (x.2.1,())).bind λy2=>bif !y2.1.1 then (some ((x.1,()),())) else ((Q10.f K (x.2.2.1,1,60000,())).bind λy3=>bif !y3.1.1 then (some ((x.1,()),())) else ((Q47.f K (x.1,x.2.1,())).bind λy4=>(Q48.f K (x.1,x.2.1,wr .i64 (x.2.2.1-y4.1.1),())).bind λy5=>(Q46.f K (wr .i64 (x.1.1-x.2.1.1),wr .i64 (x.1.2.1-x.2.1.2.1),())).bind λy6=>let j1:=(x.1,x.2.1,wr .i64 (x.2.2.1-y4.1.1),x.2.2.1,());let j2:=(wr .i64 (x.1.2.2.1+(wr .i64 (FL y5.1.1 4))),0,100000,());bif y6.1.1==0 then ((Q49.f K (x.2.2.2.1,())).bind λy7=>bif decide (y5.1.1<0) then (let j3:=wr .i64 (FL (wr .i64 (y5.1.1*0)) 1);(Q41.f K (wr .i64 (x.1.1+j3),(-100000),100000,())).bind λy8=>(Q41.f K (wr .i64 (x.1.2.1+j3),(-100000),100000,())).bind λy9=>(Q41.f K j2).bind λy10=>(Q51.f K j1).bind λy11=>some (((y8.1.1,y9.1.1,y10.1.1,y11.1.1),()),())) else ((Q41.f K (wr .i64 (x.1.1+(wr .i64 (FL (wr .i64 (y5.1.1*y7.1.1)) 1))),(-100000),100000,())).bind λy12=>(Q41.f K (wr .i64 (x.1.2.1+(wr .i64 (FL (wr .i64 (y5.1.1*y7.1.2.1)) 1))),(-100000),100000,())).bind λy13=>(Q41.f K j2).bind λy14=>(Q51.f K j1).bind λy15=>some (((y12.1.1,y13.1.1,y14.1.1,y15.1.1),()),()))) else (let j4:=wr .i64 (x.1.2.1-x.2.1.2.1);let j5:=wr .i64 (x.1.1-x.2.1.1);bif decide (y5.1.1<(wr .i64 (0-y6.1.1))) then (bif decide (y6.1.1=0) then none else ((Q41.f K (wr .i64 (x.1.1+(wr .i64 (FL (wr .i64 ((wr .i64 (0-y6.1.1))*j5)) y6.1.1))),(-100000),100000,())).bind λy16=>bif decide (y6.1.1=0) then none else ((Q41.f K (wr .i64 (x.1.2.1+(wr .i64 (FL (wr .i64 ((wr .i64 (0-y6.1.1))*j4)) y6.1.1))),(-100000),100000,())).bind λy17=>(Q41.f K (wr .i64 (x.1.2.2.1+(wr .i64 (FL (wr .i64 (0-y6.1.1)) 4))),0,100000,())).bind λy18=>(Q51.f K j1).bind λy19=>some (((y16.1.1,y17.1.1,y18.1.1,y19.1.1),()),())))) else (bif decide (y6.1.1=0) then none else ((Q41.f K (wr .i64 (x.1.1+(wr .i64 (FL (wr .i64 (y5.1.1*j5)) y6.1.1))),(-100000),100000,())).bind λy20=>bif decide (y6.1.1=0) then none else ((Q41.f K (wr .i64 (x.1.2.1+(wr .i64 (FL (wr .i64 (y5.1.1*j4)) y6.1.1))),(-100000),100000,())).bind λy21=>(Q41.f K j2).bind λy22=>(Q51.f K j1).bind λy23=>some (((y20.1.1,y21.1.1,y22.1.1,y23.1.1),()),()))))))))
def c:Ctr:=⟨254,ps,rs,true,f K⟩
end Q52
namespace Q53
abbrev ps:List PK:=[.rd (.list false 3 I6)]
abbrev rs:List RK:=[.v I6]
abbrev R:=Option (ai rs×ag ps)
abbrev A1:=List (Ty.den I6)×List (Ty.den I6)×Int×Int
abbrev A0:=List (Ty.den I6)×List (Ty.den I6)×Int
def s1 (K:Nat)(x:ab ps)(r0:A0->R)(r1:A1->R)(a:A1):R:=let b1:=a.2.2.2;let j3:=(FJ a.2.1:Int);let j1:R:=bif decide (0<=0)&&decide (0<=b1)&&decide (b1<=j3)&&true then (let j2:=(a.2.1.take (FK b1)).drop (FK 0);bif decide ((FJ ([]:List (Ty.den I6))+FJ j2)*8<=am) then ((idx a.1 a.2.2.1).bind λy3=>bif decide ((FJ ([]++j2)+FJ ([y3]))*8<=am) then (bif decide (0<=b1)&&decide (b1<=j3)&&decide (j3<=j3)&&true then (let j4:=(a.2.1.take (FK j3)).drop (FK b1);bif decide ((FJ (([]++j2)++([y3]))+FJ j4)*8<=am) then (r0 (a.1,(([]++j2)++([y3]))++j4,wr .i64 (a.2.2.1+1))) else none) else none) else none) else none) else none;bif decide (b1<j3) then ((idx a.2.1 b1).bind λy1=>(idx a.1 a.2.2.1).bind λy2=>bif decide (y1<=y2) then (r1 (a.1,a.2.1,a.2.2.1,wr .i64 (b1+1))) else j1) else j1
def l1 (x:ab ps)(r0:A0->R):A1->R:=ae (s1 K x r0) K
def s0 (K:Nat)(x:ab ps)(N1:A1->R)(r0:A0->R)(a:A0):R:=bif decide (a.2.2<(FJ a.1:Int)) then (N1 (a.1,a.2.1,a.2.2,0)) else (bif (FJ a.2.1:Int)==0 then (some ((0,()),())) else ((idx a.2.1 (wr .i64 (FL (wr .i64 ((FJ a.2.1:Int)-1)) 2))).bind λy5=>some ((y5,()),())))
def l0 (x:ab ps):A0->R:=ae (λr0 a=>s0 K x (l1 K x r0) r0 a) K
def pre (K:Nat)(N0:A0->R)(x:ab ps):R:=bif decide ((FJ x.1:Int)>3) then (let j1:=(wr .i64 ((FJ x.1:Int)-3));bif decide (0<=j1)&&decide (j1<=(FJ x.1:Int))&&decide ((FJ x.1:Int)<=(FJ x.1:Int))&&true then (N0 ((x.1.take (FK (FJ x.1:Int))).drop (FK j1),[],0)) else none) else (N0 (x.1,[],0))
def f (x:ab ps):R:=pre K (l0 K x) x
def c:Ctr:=⟨255,ps,rs,true,f K⟩
def G (K:Nat):List Ctr:=[]
def v1:List (Nat×List Coe):=[(3,[.ro true 3 I6]),(4,[.ro false 3 I6]),(5,[.keep]),(6,[.keep])]
def v0:List (Nat×List Coe):=[(3,[.ro true 3 I6]),(4,[.ro false 3 I6]),(5,[.keep])]
def L:List (Nat×List (Nat×List Coe)):=[(10,v1),(7,v0)]
def body:Code:=cY Tryz.f255
abbrev ev:Code->St->(Ex->St->R)->R:=evK (G K) T_S L K
abbrev fin:Ex->St->R:=du T_S ps rs true Tryz.f255.results.toList
def S0 (x:ab ps)(a:A0):St:=av [(3,⟨0,.one,[.ro true 3 I6 a.1]⟩),(4,⟨0,.one,[.ro false 3 I6 a.2.1]⟩),(5,⟨0,.one,[.int .i64 a.2.2]⟩)]
def S1 (x:ab ps)(a:A1):St:=av [(3,⟨0,.one,[.ro true 3 I6 a.1]⟩),(4,⟨0,.one,[.ro false 3 I6 a.2.1]⟩),(5,⟨0,.one,[.int .i64 a.2.2.1]⟩),(6,⟨0,.one,[.int .i64 a.2.2.2]⟩)]
def k0 (x:ab ps):Ex->St->R:=kAt (ev K) body [1,1,1,1,0,1,0] fin
def N0 (x:ab ps):A0->R:=λa=>aY v0 (ev K (sub body [1,1,1,1,0,1,0,0])) K (S0 x a) (k0 K x)
def k1 (x:ab ps)(q0:St->R):Ex->St->R:=kAt (ev K) (sub body [1,1,1,1,0,1,0,0]) [1,0,0,1,0,0] (iq v0 q0 (k0 K x))
def N1 (x:ab ps)(q0:St->R):A1->R:=λa=>aY v1 (ev K (sub body [1,1,1,1,0,1,0,0,1,0,0,1,0,0,0])) K (S1 x a) (k1 K x q0)
end Q53
namespace Q54
abbrev ps:List PK:=[.own t38,.rd t47]
abbrev rs:List RK:=[.v t38]
abbrev R:=Option (ai rs×ag ps)
abbrev A0:=Int×Int×Int×Int×Int×List (Ty.den t11)
def s0 (x:ab ps)(r0:A0->R)(a:A0):R:=let b2:=x.1.2.2.2.2.2.2.2.2;let b1:=a.2.2.2.2.2;let j1:=(a.2.1,a.2.2.1,a.2.2.2.1,a.2.2.2.2.1);bif decide (a.1<(FJ b1:Int)) then ((idx b1 a.1).bind λ_=>(idx b1 (FK a.1:Nat)).bind λy4=>bif y4.1==x.2.1.2.2.1 then ((idx b1 a.1).bind λ_=>(idx b1 (FK a.1:Nat)).bind λy6=>(Q53.f K (y6.2.2,())).bind λy7=>(Q52.f K (j1,x.2.1.2.2.2.2.2.2.1,y7.1.1,x.2.1.2.2.2.2.1,())).bind λy8=>r0 (wr .i64 (a.1+1),(zc00556 y8.1.1 b1))) else (r0 (wr .i64 (a.1+1),a.2))) else (some (((zcp8 x.1 (b2.1,b2.2.1,((-1),0,0,false),b2.2.2.2.1,j1,b1,b2.2.2.2.2.2.2)),()),()))
def l0 (x:ab ps):A0->R:=ae (s0 K x) K
def pre (N0:A0->R)(x:ab ps):R:=let b2:=x.2.1.2.2;let b1:=x.1.2.2.2.2.2.2.2.2.2.2;bif decide (b1.1.1<0) then (some ((x.1,()),())) else (bif b1.1.1 != b2.1 then (some ((x.1,()),())) else (bif b1.1.2.2.1 != b2.2.2.1 then (some ((x.1,()),())) else (bif b2.2.2.2.1 != b2.1 then (some ((x.1,()),())) else ((Q41.f K (wr .i64 ((wr .i64 ((wr .i64 (x.1.2.2.2.2.2.1-b1.1.2.1))*1000))+500),1,60000,())).bind λy1=>(Q43.f K (b1.2.2.2.1,b2.1,b2.2.2.2.2.1,y1.1.1,())).bind λy2=>N0 (0,(zc00556 b1.2.2.1 y2.1.1))))))
def f (x:ab ps):R:=pre K (l0 K x) x
def c:Ctr:=⟨187,ps,rs,false,f K⟩
end Q54
namespace Q55
abbrev ps:List PK:=[.own t38,.rd t47]
abbrev rs:List RK:=[.v t38,.v (.list true 35 t47)]
abbrev R:=Option (ai rs×ag ps)
def f (x:ab ps):R:=let b2:=x.2.1.2;let b1:=b2.2.2.2.2.1;(Q20.f K (x.1.1,())).bind λy1=>let j1:R:=some ((x.1,[],()),());let j2:=(x.1,b1,());bif b2.1==1 then ((Q20.f K (b1,())).bind λy2=>bif y2.1.1 != y1.1.1 then j1 else (bif b1==x.1.1 then j1 else ((Q40.f K j2).bind λy3=>(Q22.f K (y3.1.2.1,2,b1,b2.2.2.2.1,x.1.1,y3.1.1,())).bind λy4=>some ((y3.1.2.1,[y4.1.1],()),())))) else (bif b2.1==3 then ((Q20.f K (b1,())).bind λy5=>bif y5.1.1 != y1.1.1 then j1 else (bif b1==x.1.1 then j1 else (bif b1==b2.2.1 then j1 else ((Q40.f K j2).bind λy6=>(Q22.f K (y6.1.2.1,1,b1,b2.2.2.2.1,b2.2.1,y6.1.1,())).bind λy7=>some ((y6.1.2.1,[y7.1.1],()),()))))) else (bif b2.1==4 then ((Q22.f K (x.1,5,b2.2.1,0,x.1.1,x.1.2.2.2.2.2.2.2.2.1,())).bind λy8=>some ((x.1,[y8.1.1],()),())) else (bif b2.1==2 then ((Q54.f K (x.1,x.2.1,())).bind λy9=>some ((y9.1.1,[],()),())) else j1)))
def c:Ctr:=⟨115,ps,rs,false,f K⟩
end Q55
namespace Q56
abbrev ps:List PK:=[.own t38,.rd t47]
abbrev rs:List RK:=[.v t38,.v (.list true 35 t47)]
abbrev R:=Option (ai rs×ag ps)
def f (x:ab ps):R:=(Q19.f K (x.2.1,())).bind λy1=>bif !y1.1.1 then (some ((x.1,[],()),())) else ((Q21.f K (x.1,x.2.1,())).bind λy2=>bif !y2.1.1 then (some ((x.1,[],()),())) else (bif x.2.1.2.1==6 then ((Q37.f K (x.1,x.2.1,())).bind λy3=>some ((y3.1.1,y3.1.2.1,()),())) else ((Q31.f K (x.1,x.2.1.2.2.2.2.2.2.2,x.2.1.2.2.1,())).bind λy4=>(Q55.f K (y4.1.1,x.2.1,())).bind λy5=>some ((y5.1.1,y5.1.2.1,()),()))))
def c:Ctr:=⟨48,ps,rs,false,f K⟩
end Q56
namespace Q57
abbrev ps:List PK:=[.rd .str,.rd (.int .u8)]
abbrev rs:List RK:=[.v (.list true 9 .str)]
abbrev R:=Option (ai rs×ag ps)
abbrev A0:=List (Ty.den .str)×Int×Int
def s0 (K:Nat)(x:ab ps)(r0:A0->R)(a:A0):R:=bif decide (a.2.2<(x.1.size:Int)) then ((idx x.1.data.toList a.2.2).bind λy1=>bif (y1.toNat:Int)==x.2.1 then (bif decide (0<=a.2.1)&&decide (a.2.1<=a.2.2)&&decide (a.2.2<=(x.1.size:Int)) then (let j2:=[x.1.extract (FK a.2.1) (FK a.2.2)];bif decide ((FJ a.1+FJ j2)*16<=am) then (r0 (a.1++j2,wr .i64 (a.2.2+1),wr .i64 (a.2.2+1))) else none) else none) else (r0 (a.1,a.2.1,wr .i64 (a.2.2+1)))) else (bif decide (0<=a.2.1)&&decide (a.2.1<=(x.1.size:Int))&&decide ((x.1.size:Int)<=(x.1.size:Int)) then (let j1:=([x.1.extract (FK a.2.1) (FK (x.1.size:Int))]);bif decide ((FJ a.1+FJ j1)*16<=am) then (some ((a.1++j1,()),())) else none) else none)
def l0 (x:ab ps):A0->R:=ae (s0 K x) K
def pre (K:Nat)(N0:A0->R)(x:ab ps):R:=N0 ([],0,0)
def f (x:ab ps):R:=pre K (l0 K x) x
def c:Ctr:=⟨160,ps,rs,true,f K⟩
end Q57
namespace Q58
abbrev ps:List PK:=[.rd I6]
abbrev rs:List RK:=[.v .str]
abbrev R:=Option (ai rs×ag ps)
def f (K:Nat)(x:ab ps):R:=let j1:=ByteArray.mk #[112,105,110,103];let j2:=ByteArray.mk #[115,121,110,99];let j3:=ByteArray.mk #[98,97,99,107];let j4:=ByteArray.mk #[115,117,109];let j5:=ByteArray.mk #[97,115,107];let j6:=ByteArray.mk #[97,99,107];(idx ([(ByteArray.mk #[]),j1,j6,j5,j2,j3,j4]) x.1).bind λ_=>(idx ([(ByteArray.mk #[]),j1,j6,j5,j2,j3,j4]) (FK x.1:Nat)).bind λy2=>some ((y2,()),())
def c:Ctr:=⟨161,ps,rs,true,f K⟩
end Q58
namespace Q59
abbrev ps:List PK:=[.rd .str]
abbrev rs:List RK:=[.v I6]
abbrev R:=Option (ai rs×ag ps)
abbrev A0:=Int×Int
def s0 (K:Nat)(x:ab ps)(r0:A0->R)(a:A0):R:=bif decide (a.2<(x.1.size:Int)) then ((idx x.1.data.toList a.2).bind λy3=>bif decide ((y3.toNat:Int)<48) then (some (((-1),()),())) else ((idx x.1.data.toList a.2).bind λy4=>bif decide ((y4.toNat:Int)>57) then (some (((-1),()),())) else ((idx x.1.data.toList a.2).bind λy5=>r0 (wr .i64 ((wr .i64 (a.1*10))+(wr .i64 (wr .u8 ((y5.toNat:Int)-48)))),wr .i64 (a.2+1))))) else (some ((a.1,()),()))
def l0 (x:ab ps):A0->R:=ae (s0 K x) K
def pre (N0:A0->R)(x:ab ps):R:=(Q10.f K ((x.1.size:Int),1,6,())).bind λy1=>bif !y1.1.1 then (some (((-1),()),())) else (bif decide ((x.1.size:Int)>1) then ((idx x.1.data.toList 0).bind λy2=>bif (y2.toNat:Int)==48 then (some (((-1),()),())) else (N0 (0,0))) else (N0 (0,0)))
def f (x:ab ps):R:=pre K (l0 K x) x
def c:Ctr:=⟨162,ps,rs,true,f K⟩
end Q59
namespace Q60
abbrev ps:List PK:=[.rd .str]
abbrev rs:List RK:=[.v I6,.v .bool]
abbrev R:=Option (ai rs×ag ps)
def f (x:ab ps):R:=let j2:R:=some (((-1),false,()),());bif decide ((x.1.size:Int)<2) then j2 else ((idx x.1.data.toList 0).bind λy1=>let j1:R:=bif decide (0<=1)&&decide (1<=(x.1.size:Int))&&decide ((x.1.size:Int)<=(x.1.size:Int)) then ((Q59.f K (x.1.extract (FK 1) (FK (x.1.size:Int)),())).bind λy3=>bif decide (y3.1.1<0) then j2 else (bif x.1.toList==(ByteArray.mk #[45,48]).toList then j2 else ((idx x.1.data.toList 0).bind λy4=>bif (y4.toNat:Int)==45 then (some ((wr .i64 (0-y3.1.1),true,()),())) else (some ((y3.1.1,true,()),()))))) else none;bif (y1.toNat:Int) != 43 then ((idx x.1.data.toList 0).bind λy2=>bif (y2.toNat:Int) != 45 then j2 else j1) else j1)
def c:Ctr:=⟨163,ps,rs,true,f K⟩
end Q60
namespace Q61
abbrev ps:List PK:=[.rd I6]
abbrev rs:List RK:=[.v .str]
abbrev R:=Option (ai rs×ag ps)
def f (K:Nat)(x:ab ps):R:=let j1:=ByteArray.mk #[115,117,115,112,101,99,116];let j2:=ByteArray.mk #[97,108,105,118,101];let j3:=ByteArray.mk #[108,101,102,116];let j4:=ByteArray.mk #[100,101,97,100];(idx ([(ByteArray.mk #[]),j2,j1,j4,j3]) x.1).bind λ_=>(idx ([(ByteArray.mk #[]),j2,j1,j4,j3]) (FK x.1:Nat)).bind λy2=>some ((y2,()),())
def c:Ctr:=⟨315,ps,rs,true,f K⟩
end Q61
namespace Q62
abbrev ps:List PK:=[.rd .str]
abbrev rs:List RK:=[.v t2,.v .bool]
abbrev R:=Option (ai rs×ag ps)
abbrev A0:=List (Ty.den .str)×Int×Int×Int×Int×Bool
def s0 (x:ab ps)(r0:A0->R)(a:A0):R:=bif decide (a.2.1<=4) then ((Q61.f K (a.2.1,())).bind λy9=>(idx a.1 2).bind λ_=>(idx a.1 (FK 2:Nat)).bind λy11=>bif y9.1.1.toList==y11.toList then (r0 (a.1,wr .i64 (a.2.1+1),a.2.2.1,a.2.2.2.1,a.2.1,a.2.2.2.2.2)) else (r0 (a.1,wr .i64 (a.2.1+1),a.2.2))) else ((Q15.f K (a.2.2,())).bind λy12=>some ((a.2.2,y12.1.1,()),()))
def l0 (x:ab ps):A0->R:=ae (s0 K x) K
def pre (N0:A0->R)(x:ab ps):R:=let j1:R:=(Q57.f K (x.1,58,())).bind λy13=>bif (FJ y13.1.1:Int) != 3 then (some (((0,0,0,false),false,()),())) else ((idx y13.1.1 0).bind λ_=>(idx y13.1.1 (FK 0:Nat)).bind λy15=>(Q59.f K (y15,())).bind λy16=>(idx y13.1.1 1).bind λ_=>(idx y13.1.1 (FK 1:Nat)).bind λy18=>(Q59.f K (y18,())).bind λy19=>N0 (y13.1.1,1,y16.1.1,y19.1.1,0,false));bif decide ((x.1.size:Int)>0) then (let j2:=(wr .i64 ((x.1.size:Int)-1));(idx x.1.data.toList j2).bind λy1=>bif (y1.toNat:Int)==42 then (bif decide (0<=0)&&decide (0<=j2)&&decide (j2<=(x.1.size:Int)) then ((Q57.f K (x.1.extract (FK 0) (FK j2),58,())).bind λy2=>bif (FJ y2.1.1:Int) != 3 then (some (((0,0,0,true),false,()),())) else ((idx y2.1.1 0).bind λ_=>(idx y2.1.1 (FK 0:Nat)).bind λy4=>(Q59.f K (y4,())).bind λy5=>(idx y2.1.1 1).bind λ_=>(idx y2.1.1 (FK 1:Nat)).bind λy7=>(Q59.f K (y7,())).bind λy8=>N0 (y2.1.1,1,y5.1.1,y8.1.1,0,true))) else none) else j1) else j1
def f (x:ab ps):R:=pre K (l0 K x) x
def c:Ctr:=⟨278,ps,rs,true,f K⟩
end Q62
namespace Q63
abbrev ps:List PK:=[.rd .str]
abbrev rs:List RK:=[.v (.list true 46 t2),.v .bool]
abbrev R:=Option (ai rs×ag ps)
abbrev A0:=List (Ty.den t2)×List (Ty.den .str)×Int
def s0 (x:ab ps)(r0:A0->R)(a:A0):R:=bif decide (a.2.2<(FJ a.2.1:Int)) then ((idx a.2.1 a.2.2).bind λ_=>(idx a.2.1 (FK a.2.2:Nat)).bind λy3=>(Q62.f K (y3,())).bind λy4=>bif !y4.1.2.1 then (some (([],false,()),())) else (bif decide ((FJ a.1+FJ ([y4.1.1]))*32<=am) then (r0 (a.1++([y4.1.1]),a.2.1,wr .i64 (a.2.2+1))) else none)) else (some ((a.1,true,()),()))
def l0 (x:ab ps):A0->R:=ae (s0 K x) K
def pre (N0:A0->R)(x:ab ps):R:=bif x.1.toList==(ByteArray.mk #[45]).toList then (some (([],true,()),())) else ((Q57.f K (x.1,44,())).bind λy1=>N0 ([],y1.1.1,0))
def f (x:ab ps):R:=pre K (l0 K x) x
def c:Ctr:=⟨233,ps,rs,true,f K⟩
end Q63
namespace Q64
abbrev ps:List PK:=[.rd (.list false 46 t2)]
abbrev rs:List RK:=[.v .str]
abbrev R:=Option (ai rs×ag ps)
abbrev A0:=ByteArray×Int
def s0 (x:ab ps)(r0:A0->R)(a:A0):R:=bif decide (a.2<(FJ x.1:Int)) then (bif decide (a.2>0) then (aX a.1 (ByteArray.mk #[44]) λy1=>(idx x.1 a.2).bind λy2=>(Q0.f K (y2.1,())).bind λy3=>aX y1 y3.1.1 λy4=>aX y4 (ByteArray.mk #[58]) λy5=>(idx x.1 a.2).bind λy6=>(Q0.f K (y6.2.1,())).bind λy7=>aX y5 y7.1.1 λy8=>aX y8 (ByteArray.mk #[58]) λy9=>(idx x.1 a.2).bind λy10=>(Q61.f K (y10.2.2.1,())).bind λy11=>aX y9 y11.1.1 λy12=>(idx x.1 a.2).bind λy13=>bif y13.2.2.2 then (aX y12 (ByteArray.mk #[42]) λy14=>r0 (y14,wr .i64 (a.2+1))) else (r0 (y12,wr .i64 (a.2+1)))) else ((idx x.1 a.2).bind λy15=>(Q0.f K (y15.1,())).bind λy16=>aX a.1 y16.1.1 λy17=>aX y17 (ByteArray.mk #[58]) λy18=>(idx x.1 a.2).bind λy19=>(Q0.f K (y19.2.1,())).bind λy20=>aX y18 y20.1.1 λy21=>aX y21 (ByteArray.mk #[58]) λy22=>(idx x.1 a.2).bind λy23=>(Q61.f K (y23.2.2.1,())).bind λy24=>aX y22 y24.1.1 λy25=>(idx x.1 a.2).bind λy26=>bif y26.2.2.2 then (aX y25 (ByteArray.mk #[42]) λy27=>r0 (y27,wr .i64 (a.2+1))) else (r0 (y25,wr .i64 (a.2+1))))) else (some ((a.1,()),()))
def l0 (x:ab ps):A0->R:=ae (s0 K x) K
def pre (K:Nat)(N0:A0->R)(x:ab ps):R:=N0 ((ByteArray.mk #[]),0)
def f (x:ab ps):R:=pre K (l0 K x) x
def c:Ctr:=⟨279,ps,rs,true,f K⟩
end Q64
namespace Q65
abbrev ps:List PK:=[.rd (.list false 46 t2)]
abbrev rs:List RK:=[.v .str]
abbrev R:=Option (ai rs×ag ps)
def f (x:ab ps):R:=(Q16.f K (x.1,())).bind λy1=>bif !y1.1.1 then (some (((ByteArray.mk #[]),()),())) else (bif (FJ x.1:Int)==0 then (some (((ByteArray.mk #[45]),()),())) else ((Q64.f K (x.1,())).bind λy2=>some ((y2.1.1,()),())))
def c:Ctr:=⟨234,ps,rs,true,f K⟩
end Q65
namespace Q66
abbrev ps:List PK:=[.rd .str]
abbrev rs:List RK:=[.v (.list true 46 t2),.v .bool]
abbrev R:=Option (ai rs×ag ps)
def f (x:ab ps):R:=(Q63.f K (x.1,())).bind λy1=>bif !y1.1.2.1 then (some (([],false,()),())) else ((Q65.f K (y1.1.1,())).bind λy2=>bif y2.1.1.toList != x.1.toList then (some (([],false,()),())) else (some ((y1.1.1,true,()),())))
def c:Ctr:=⟨164,ps,rs,true,f K⟩
end Q66
namespace Q67
abbrev ps:List PK:=[.rd I6]
abbrev rs:List RK:=[.v .str]
abbrev R:=Option (ai rs×ag ps)
def f (x:ab ps):R:=bif decide (x.1<0) then ((Q0.f K (wr .i64 (0-x.1),())).bind λy1=>aX (ByteArray.mk #[45]) y1.1.1 λy2=>some ((y2,()),())) else ((Q0.f K (x.1,())).bind λy3=>aX (ByteArray.mk #[43]) y3.1.1 λy4=>some ((y4,()),()))
def c:Ctr:=⟨281,ps,rs,true,f K⟩
end Q67
namespace Q68
abbrev ps:List PK:=[.rd t47]
abbrev rs:List RK:=[.v .str]
abbrev R:=Option (ai rs×ag ps)
def f (x:ab ps):R:=let b1:=x.1.2.2.2.2;let j1:=(b1.2.2.1.2.2.1,());let j2:=(b1.2.2.1.2.2.2,());let j3:=(b1.2.2.1.2.1,());bif x.1.1==2 then (aX (ByteArray.mk #[119,97,110]) (ByteArray.mk #[32]) λy1=>(Q58.f K (x.1.2.1,())).bind λy2=>aX y1 y2.1.1 λy3=>aX y3 (ByteArray.mk #[32]) λy4=>(Q0.f K (x.1.2.2.1,())).bind λy5=>aX y4 y5.1.1 λy6=>aX y6 (ByteArray.mk #[32]) λy7=>(Q0.f K (x.1.2.2.2.1,())).bind λy8=>aX y7 y8.1.1 λy9=>aX y9 (ByteArray.mk #[32]) λy10=>(Q0.f K (b1.1,())).bind λy11=>aX y10 y11.1.1 λy12=>aX y12 (ByteArray.mk #[32]) λy13=>(Q0.f K (b1.2.1,())).bind λy14=>aX y13 y14.1.1 λy15=>aX y15 (ByteArray.mk #[32]) λy16=>(Q67.f K (b1.2.2.1.1,())).bind λy17=>aX y16 y17.1.1 λy18=>aX y18 (ByteArray.mk #[32]) λy19=>(Q67.f K j3).bind λy20=>aX y19 y20.1.1 λy21=>aX y21 (ByteArray.mk #[32]) λy22=>(Q0.f K j1).bind λy23=>aX y22 y23.1.1 λy24=>aX y24 (ByteArray.mk #[32]) λy25=>(Q0.f K j2).bind λy26=>aX y25 y26.1.1 λy27=>aX y27 (ByteArray.mk #[32]) λy28=>(Q65.f K (b1.2.2.2,())).bind λy29=>aX y28 y29.1.1 λy30=>some ((y30,()),())) else (aX (ByteArray.mk #[108,97,110]) (ByteArray.mk #[32]) λy31=>(Q58.f K (x.1.2.1,())).bind λy32=>aX y31 y32.1.1 λy33=>aX y33 (ByteArray.mk #[32]) λy34=>(Q0.f K (x.1.2.2.1,())).bind λy35=>aX y34 y35.1.1 λy36=>aX y36 (ByteArray.mk #[32]) λy37=>(Q0.f K (x.1.2.2.2.1,())).bind λy38=>aX y37 y38.1.1 λy39=>aX y39 (ByteArray.mk #[32]) λy40=>(Q0.f K (b1.1,())).bind λy41=>aX y40 y41.1.1 λy42=>aX y42 (ByteArray.mk #[32]) λy43=>(Q0.f K (b1.2.1,())).bind λy44=>aX y43 y44.1.1 λy45=>aX y45 (ByteArray.mk #[32]) λy46=>(Q67.f K (b1.2.2.1.1,())).bind λy47=>aX y46 y47.1.1 λy48=>aX y48 (ByteArray.mk #[32]) λy49=>(Q67.f K j3).bind λy50=>aX y49 y50.1.1 λy51=>aX y51 (ByteArray.mk #[32]) λy52=>(Q0.f K j1).bind λy53=>aX y52 y53.1.1 λy54=>aX y54 (ByteArray.mk #[32]) λy55=>(Q0.f K j2).bind λy56=>aX y55 y56.1.1 λy57=>aX y57 (ByteArray.mk #[32]) λy58=>(Q65.f K (b1.2.2.2,())).bind λy59=>aX y58 y59.1.1 λy60=>some ((y60,()),()))
def c:Ctr:=⟨235,ps,rs,true,f K⟩
end Q68
namespace Q69
abbrev ps:List PK:=[.rd I6]
abbrev rs:List RK:=[.v .str]
abbrev R:=Option (ai rs×ag ps)
abbrev A0:=List (Ty.den (.int .u8))×Int
def s0 (K:Nat)(x:ab ps)(r0:A0->R)(a:A0):R:=bif decide (a.2>=0) then (bif decide ((wr .i64 (4*a.2))<0) then none else ((idx (ByteArray.mk #[48,49,50,51,52,53,54,55,56,57,97,98,99,100,101,102]).data.toList (bz .i64 (FN x.1 (2 ^ (min (FK (wr .i64 (4*a.2))) 64))) 15)).bind λy1=>bif decide ((FJ a.1+FJ ([(y1.toNat:Int)]))*1<=am) then (r0 (a.1++([(y1.toNat:Int)]),wr .i64 (a.2-1))) else none)) else (some ((ip a.1,()),()))
def l0 (x:ab ps):A0->R:=ae (s0 K x) K
def pre (K:Nat)(N0:A0->R)(x:ab ps):R:=N0 ([],7)
def f (x:ab ps):R:=pre K (l0 K x) x
def c:Ctr:=⟨236,ps,rs,true,f K⟩
end Q69
namespace Q70
abbrev ps:List PK:=[.rd I6]
abbrev rs:List RK:=[.v I6]
abbrev R:=Option (ai rs×ag ps)
abbrev A0:=Int×Int
def s0 (K:Nat)(x:ab ps)(r0:A0->R)(a:A0):R:=bif decide (a.2<8) then (bif (bz .i64 a.1 1)==1 then (r0 (rD .i64 (FN a.1 (2 ^ 1)) 3988292384,wr .i64 (a.2+1))) else (r0 (FN a.1 (2 ^ 1),wr .i64 (a.2+1)))) else (some ((a.1,()),()))
def l0 (x:ab ps):A0->R:=ae (s0 K x) K
def pre (K:Nat)(N0:A0->R)(x:ab ps):R:=N0 (x.1,0)
def f (x:ab ps):R:=pre K (l0 K x) x
def c:Ctr:=⟨282,ps,rs,true,f K⟩
end Q70
namespace Q71
abbrev ps:List PK:=[.rd .str]
abbrev rs:List RK:=[.v I6]
abbrev R:=Option (ai rs×ag ps)
abbrev A0:=Int×Int
def s0 (x:ab ps)(r0:A0->R)(a:A0):R:=bif decide (a.2<(x.1.size:Int)) then ((idx x.1.data.toList a.2).bind λy1=>(Q70.f K (rD .i64 a.1 (wr .i64 (y1.toNat:Int)),())).bind λy2=>r0 (y2.1.1,wr .i64 (a.2+1))) else (some ((rD .i64 a.1 4294967295,()),()))
def l0 (x:ab ps):A0->R:=ae (s0 K x) K
def pre (K:Nat)(N0:A0->R)(x:ab ps):R:=N0 (4294967295,0)
def f (x:ab ps):R:=pre K (l0 K x) x
def c:Ctr:=⟨237,ps,rs,true,f K⟩
end Q71
namespace Q72
abbrev ps:List PK:=[.rd t47]
abbrev rs:List RK:=[.v .str]
abbrev R:=Option (ai rs×ag ps)
def f (x:ab ps):R:=(Q19.f K (x.1,())).bind λy1=>bif !y1.1.1 then (some (((ByteArray.mk #[]),()),())) else ((Q68.f K (x.1,())).bind λy2=>aX y2.1.1 (ByteArray.mk #[32]) λy3=>(Q71.f K (y2.1.1,())).bind λy4=>(Q69.f K (y4.1.1,())).bind λy5=>aX y3 y5.1.1 λy6=>some ((y6,()),()))
def c:Ctr:=⟨165,ps,rs,true,f K⟩
end Q72
namespace Q73
abbrev ps:List PK:=[.rd .str]
abbrev rs:List RK:=[.v t59,.v .bool]
abbrev R:=Option (ai rs×ag ps)
abbrev A0:=List (Ty.den .str)×Int×Int×Int
def s0 (x:ab ps)(r0:A0->R)(a:A0):R:=bif decide (a.2.1<=6) then ((Q58.f K (a.2.1,())).bind λy4=>(idx a.1 1).bind λ_=>(idx a.1 (FK 1:Nat)).bind λy6=>bif y4.1.1.toList==y6.toList then (r0 (a.1,wr .i64 (a.2.1+1),a.2.2.1,a.2.1)) else (r0 (a.1,wr .i64 (a.2.1+1),a.2.2))) else ((idx a.1 2).bind λ_=>(idx a.1 (FK 2:Nat)).bind λy8=>(Q59.f K (y8,())).bind λy9=>(idx a.1 3).bind λ_=>(idx a.1 (FK 3:Nat)).bind λy11=>(Q59.f K (y11,())).bind λy12=>(idx a.1 4).bind λ_=>(idx a.1 (FK 4:Nat)).bind λy14=>(Q59.f K (y14,())).bind λy15=>(idx a.1 5).bind λ_=>(idx a.1 (FK 5:Nat)).bind λy17=>(Q59.f K (y17,())).bind λy18=>(idx a.1 6).bind λ_=>(idx a.1 (FK 6:Nat)).bind λy20=>(Q60.f K (y20,())).bind λy21=>(idx a.1 7).bind λ_=>(idx a.1 (FK 7:Nat)).bind λy23=>(Q60.f K (y23,())).bind λy24=>(idx a.1 10).bind λ_=>(idx a.1 (FK 10:Nat)).bind λy26=>(Q66.f K (y26,())).bind λy27=>(idx a.1 8).bind λ_=>(idx a.1 (FK 8:Nat)).bind λy29=>(Q59.f K (y29,())).bind λy30=>(idx a.1 9).bind λ_=>(idx a.1 (FK 9:Nat)).bind λy32=>(Q59.f K (y32,())).bind λy33=>let j1:R:=some (((0,0,0,0,0,0,(0,0,0,0),[]),false,()),());bif !y21.1.2.1 then j1 else (bif !y24.1.2.1 then j1 else (bif !y27.1.2.1 then j1 else (let j2:=(a.2.2.1,a.2.2.2,y9.1.1,y12.1.1,y15.1.1,y18.1.1,(y21.1.1,y24.1.1,y30.1.1,y33.1.1),y27.1.1);(Q72.f K (j2,())).bind λy34=>bif y34.1.1.toList != x.1.toList then j1 else (some ((j2,true,()),()))))))
def l0 (x:ab ps):A0->R:=ae (s0 K x) K
def pre (N0:A0->R)(x:ab ps):R:=(Q57.f K (x.1,32,())).bind λy1=>let j1:R:=some (((0,0,0,0,0,0,(0,0,0,0),[]),false,()),());bif decide ((x.1.size:Int)>300) then j1 else (bif (FJ y1.1.1:Int) != 12 then j1 else ((idx y1.1.1 0).bind λ_=>(idx y1.1.1 (FK 0:Nat)).bind λy3=>bif y3.toList==(ByteArray.mk #[119,97,110]).toList then (N0 (y1.1.1,1,2,0)) else (N0 (y1.1.1,1,1,0))))
def f (x:ab ps):R:=pre K (l0 K x) x
def c:Ctr:=⟨104,ps,rs,true,f K⟩
end Q73
namespace Q74
abbrev ps:List PK:=[.rd (.list false 121 t40),.rd I6]
abbrev rs:List RK:=[.v (.list true 121 t40)]
abbrev R:=Option (ai rs×ag ps)
def f (K:Nat)(x:ab ps):R:=bif decide (0<=0)&&decide (0<=x.2.1)&&decide (x.2.1<=(FJ x.1:Int))&&true then (let j1:=(x.1.take (FK x.2.1)).drop (FK 0);bif decide ((FJ ([]:List (Ty.den t40))+FJ j1)*32<=am) then (bif decide (0<=(wr .i64 (x.2.1+1)))&&decide ((wr .i64 (x.2.1+1))<=(FJ x.1:Int))&&decide ((FJ x.1:Int)<=(FJ x.1:Int))&&true then (let j2:=((x.1.take (FK (FJ x.1:Int))).drop (FK (wr .i64 (x.2.1+1))));bif decide ((FJ ([]++j1)+FJ j2)*32<=am) then (some ((([]++j1)++j2,()),())) else none) else none) else none) else none
def c:Ctr:=⟨229,ps,rs,true,f K⟩
end Q74
namespace Q75
abbrev ps:List PK:=[.rd t63,.rd I6,.rd (.list false 35 t47)]
abbrev rs:List RK:=[.v t63]
abbrev R:=Option (ai rs×ag ps)
abbrev A0:=Int×List (Ty.den t40)
def s0 (x:ab ps)(r0:A0->R)(a:A0):R:=bif decide (a.1<(FJ x.2.2.1:Int)) then (bif decide ((FJ a.2:Int)<60) then ((idx x.1.2.2.1 x.2.1).bind λy1=>(idx x.2.2.1 a.1).bind λy2=>(idx x.1.2.2.1 y2.2.2.2.1).bind λy3=>bif y1==y3 then (bif decide ((FJ ([]:List (Ty.den t40))+FJ a.2)*32<=am) then ((idx x.2.2.1 a.1).bind λy4=>(idx x.2.2.1 a.1).bind λy5=>(Q72.f K (y5,())).bind λy6=>let j1:=[(y4.2.2.2.1,y6.1.1,false)];bif decide ((FJ ([]++a.2)+FJ j1)*32<=am) then (r0 (wr .i64 (a.1+1),([]++a.2)++j1)) else none) else none) else (r0 (wr .i64 (a.1+1),a.2))) else (r0 (wr .i64 (a.1+1),a.2))) else (some (((x.1.1,a.2,x.1.2.2),()),()))
def l0 (x:ab ps):A0->R:=ae (s0 K x) K
def pre (K:Nat)(N0:A0->R)(x:ab ps):R:=N0 (0,x.1.2.1)
def f (x:ab ps):R:=pre K (l0 K x) x
def c:Ctr:=⟨312,ps,rs,false,f K⟩
end Q75
namespace Q76
abbrev ps:List PK:=[.rd t2,.rd t2]
abbrev rs:List RK:=[.v .bool]
abbrev R:=Option (ai rs×ag ps)
def f (x:ab ps):R:=bif x.1.1 != x.2.1.1 then (some ((decide (x.1.1<x.2.1.1),()),())) else ((Q24.f K (x.2.1,x.1,())).bind λy1=>some ((y1.1.1,()),()))
def c:Ctr:=⟨329,ps,rs,true,f K⟩
end Q76
namespace Q77
abbrev ps:List PK:=[.rd (.list false 46 t2),.rd t2]
abbrev rs:List RK:=[.v (.list false 46 t2)]
abbrev R:=Option (ai rs×ag ps)
abbrev A0:=Int
def s0 (x:ab ps)(r0:A0->R)(a:A0):R:=let j1:R:=bif decide (0<=0)&&decide (0<=a)&&decide (a<=(FJ x.1:Int))&&true then (let j3:=(x.1.take (FK a)).drop (FK 0);bif decide ((FJ ([]:List (Ty.den t2))+FJ j3)*32<=am) then (bif decide ((FJ ([]++j3)+FJ ([x.2.1]))*32<=am) then (bif decide (0<=a)&&decide (a<=(FJ x.1:Int))&&decide ((FJ x.1:Int)<=(FJ x.1:Int))&&true then (let j4:=((x.1.take (FK (FJ x.1:Int))).drop (FK a));bif decide ((FJ (([]++j3)++([x.2.1]))+FJ j4)*32<=am) then (some (((([]++j3)++([x.2.1]))++j4,()),())) else none) else none) else none) else none) else none;let j2:R:=bif decide (a<(FJ x.1:Int)) then ((idx x.1 a).bind λy3=>bif Ty.eqv t2 y3 x.2.1 then (some ((x.1,()),())) else j1) else j1;bif decide (a<(FJ x.1:Int)) then ((idx x.1 a).bind λy1=>(Q76.f K (y1,x.2.1,())).bind λy2=>bif y2.1.1 then (r0 (wr .i64 (a+1))) else j2) else j2
def l0 (x:ab ps):A0->R:=ae (s0 K x) K
def pre (K:Nat)(N0:A0->R)(x:ab ps):R:=N0 0
def f (x:ab ps):R:=pre K (l0 K x) x
def c:Ctr:=⟨314,ps,rs,false,f K⟩
end Q77
namespace Q78
abbrev ps:List PK:=[.rd (.list false 46 t2),.rd t2]
abbrev rs:List RK:=[.v .bool]
abbrev R:=Option (ai rs×ag ps)
abbrev A0:=Int
def s0 (K:Nat)(x:ab ps)(r0:A0->R)(a:A0):R:=bif decide (a<(FJ x.1:Int)) then ((idx x.1 a).bind λy1=>bif Ty.eqv t2 y1 x.2.1 then (some ((true,()),())) else (r0 (wr .i64 (a+1)))) else (some ((false,()),()))
def l0 (x:ab ps):A0->R:=ae (s0 K x) K
def pre (K:Nat)(N0:A0->R)(x:ab ps):R:=N0 0
def f (x:ab ps):R:=pre K (l0 K x) x
def c:Ctr:=⟨328,ps,rs,true,f K⟩
end Q78
namespace Q79
abbrev ps:List PK:=[.rd t63,.rd (.list false 46 t2),.rd (.list false 46 t2),.rd (.list false 46 t2)]
abbrev rs:List RK:=[.v t63]
abbrev R:=Option (ai rs×ag ps)
abbrev A0:=Int×List (Ty.den t2)
def s0 (x:ab ps)(r0:A0->R)(a:A0):R:=bif decide (a.1<(FJ x.2.2.2.1:Int)) then ((idx x.2.2.2.1 a.1).bind λy1=>(Q78.f K (x.2.1,y1,())).bind λy2=>bif !y2.1.1 then ((idx x.2.2.2.1 a.1).bind λy3=>(Q78.f K (x.2.2.1,y3,())).bind λy4=>bif !y4.1.1 then ((idx x.2.2.2.1 a.1).bind λy5=>(Q77.f K (a.2,y5,())).bind λy6=>r0 (wr .i64 (a.1+1),y6.1.1)) else (r0 (wr .i64 (a.1+1),a.2))) else (r0 (wr .i64 (a.1+1),a.2))) else (some (((x.1.1,x.1.2.1,x.1.2.2.1,a.2),()),()))
def l0 (x:ab ps):A0->R:=ae (s0 K x) K
def pre (K:Nat)(N0:A0->R)(x:ab ps):R:=N0 (0,x.1.2.2.2)
def f (x:ab ps):R:=pre K (l0 K x) x
def c:Ctr:=⟨313,ps,rs,false,f K⟩
end Q79
namespace Q80
abbrev ps:List PK:=[.hol t66 0 14,.own t38,.rd (.list false 35 t47),.rd (.list false 46 t2)]
abbrev rs:List RK:=[.v t63]
abbrev R:=Option (ai rs×ag ps)
def f (x:ab ps):R:=let b1:=x.2.1.1;(idx x.1.1.1 b1).bind λ_=>(idx x.1.1.1 (FK b1:Nat)).bind λy2=>(idx x.1.1.1 b1).bind λ_=>(idx x.1.1.1 (FK b1:Nat)).bind λy4=>bif Nat.beq (FK b1) x.1.2 then ((Q79.f K ((x.1.1.1.set (FK b1) x.2.1,x.1.1.2),y2.2.2.2.2.2.2.2.2.1,x.2.2.2.1,x.2.1.2.2.2.2.2.2.2.2.1,())).bind λy5=>(Q75.f K (y5.1.1,b1,x.2.2.1,())).bind λy6=>some ((y6.1.1,()),())) else none
def c:Ctr:=⟨275,ps,rs,false,f K⟩
end Q80
namespace Q81
abbrev ps:List PK:=[.own t66,.rd I6,.rd .bool]
abbrev rs:List RK:=[.v t63]
abbrev R:=Option (ai rs×ag ps)
def f (x:ab ps):R:=let b3:=x.1.2.2.1;(idx x.1.2.1 x.2.1).bind λ_=>(idx x.1.2.1 (FK x.2.1:Nat)).bind λy2=>bif !x.2.2.1 then ((Q74.f K (x.1.2.1,x.2.1,())).bind λy3=>(Q73.f K (y2.2.1,())).bind λy4=>let j1:R:=some (((x.1.1,y3.1.1,x.1.2.2),()),());bif !y4.1.2.1 then j1 else ((idx b3 y4.1.1.2.2.1).bind λ_=>(idx b3 (FK y4.1.1.2.2.1:Nat)).bind λy6=>(idx b3 y2.1).bind λ_=>(idx b3 (FK y2.1:Nat)).bind λy8=>bif y6 != y8 then j1 else (bif y4.1.1.2.2.2.1 != y2.1 then j1 else ((idx x.1.1 y2.1).bind λ_=>(idx x.1.1 (FK y2.1:Nat)).bind λy10=>let b1:=y10.2.2.2.2.2.2.2.2;(idx x.1.1 (FK y2.1:Nat)).bind λy11=>(Q56.f K ((zcp8 y10 (b1.1,b1.2.1,b1.2.2.1,y11.2.2.2.2.2.2.2.2.2.2.2.1,b1.2.2.2.2)),y4.1.1,())).bind λy12=>(Q80.f K (((x.1.1,y3.1.1,x.1.2.2),FK y2.1),y12.1.1,y12.1.2.1,y4.1.1.2.2.2.2.2.2.2,())).bind λy13=>some ((y13.1.1,()),()))))) else ((Q73.f K (y2.2.1,())).bind λy14=>let b4:=y14.1.1.2.2;bif !y14.1.2.1 then (some ((x.1,()),())) else ((idx b3 b4.1).bind λ_=>(idx b3 (FK b4.1:Nat)).bind λy16=>(idx b3 y2.1).bind λ_=>(idx b3 (FK y2.1:Nat)).bind λy18=>bif y16 != y18 then (some ((x.1,()),())) else (bif b4.2.1 != y2.1 then (some ((x.1,()),())) else ((idx x.1.1 y2.1).bind λ_=>(idx x.1.1 (FK y2.1:Nat)).bind λy20=>let b2:=y20.2.2.2.2.2.2.2.2;(idx x.1.1 (FK y2.1:Nat)).bind λy21=>(Q56.f K ((zcp8 y20 (b2.1,b2.2.1,b2.2.2.1,y21.2.2.2.2.2.2.2.2.2.2.2.1,b2.2.2.2.2)),y14.1.1,())).bind λy22=>(Q80.f K ((x.1,FK y2.1),y22.1.1,y22.1.2.1,b4.2.2.2.2.2,())).bind λy23=>some ((y23.1.1,()),())))))
def c:Ctr:=⟨227,ps,rs,false,f K⟩
end Q81
namespace Q82
abbrev ps:List PK:=[.own t66,.rd I6,.rd I6]
abbrev rs:List RK:=[.v t63,.v .bool]
abbrev R:=Option (ai rs×ag ps)
def f (K:Nat)(x:ab ps):R:=(idx x.1.2.1 x.2.1).bind λ_=>(idx x.1.2.1 (FK x.2.1:Nat)).bind λy2=>bif y2.2.2 then (some ((x.1,false,()),())) else (bif (y2.2.1.size:Int)==0 then (some ((x.1,false,()),())) else (bif decide ((y2.2.1.size:Int)=0) then none else (let j1:=(FM (bz .i64 x.2.2.1 4095) (y2.2.1.size:Int));(idx (eS y2.2.1) j1).bind λ_=>(idx (eS y2.2.1) (FK j1:Nat)).bind λy4=>(idx (eS y2.2.1) j1).bind λ_=>(idx (eS y2.2.1) (FK j1:Nat)).bind λy6=>(idx x.1.2.1 x.2.1).bind λ_=>(idx x.1.2.1 (FK x.2.1:Nat)).bind λy8=>some (((x.1.1,x.1.2.1.set (FK x.2.1) (y2.1,ip ((eS y2.2.1).set (FK j1) (rD .u8 y4 (wr .u8 (wr .i64 (1+(bz .i64 (FN x.2.2.1 (2 ^ 12)) 127)))))),true),x.1.2.2),true,()),()))))
def c:Ctr:=⟨228,ps,rs,false,f K⟩
end Q82
namespace Q83
abbrev ps:List PK:=[.rd t26,.rd t2,.rd I6]
abbrev rs:List RK:=[.v t26]
abbrev R:=Option (ai rs×ag ps)
def f (x:ab ps):R:=let b1:=x.1.2.2.2.2.2.2.2.2;(Q25.f K (b1.1,x.2.1,())).bind λy1=>bif !y1.1.2.1 then (some ((x.1,()),())) else ((Q23.f K (b1.1,x.2.1.1,())).bind λy2=>let j3:=(b1.2.1,x.2.1,());let j1:R:=(Q26.f K j3).bind λy7=>(Q27.f K ((zcp8 x.1 (y1.1.1,y7.1.1,b1.2.2)),x.2.1,x.2.2.1,())).bind λy8=>some (((zcp8 x.1 (y1.1.1,y7.1.1,b1.2.2.1,y8.1.1,b1.2.2.2.2)),()),());bif decide (y2.1.1>=0) then ((idx b1.1 y2.1.1).bind λy3=>bif y3.2.1==x.2.1.2.1 then ((idx b1.1 y2.1.1).bind λy4=>(Q26.f K j3).bind λy5=>let j2:=(zcp8 x.1 (y1.1.1,y5.1.1,b1.2.2));bif !(y4.2.2.1==x.2.1.2.2.1) then ((Q27.f K (j2,x.2.1,x.2.2.1,())).bind λy6=>some (((zcp8 x.1 (y1.1.1,y5.1.1,b1.2.2.1,y6.1.1,b1.2.2.2.2)),()),())) else (some ((j2,()),()))) else j1) else j1)
def c:Ctr:=⟨149,ps,rs,false,f K⟩
end Q83
namespace Q84
abbrev ps:List PK:=[.rd I6,.rd t6]
abbrev rs:List RK:=[.v .bool]
abbrev R:=Option (ai rs×ag ps)
def f (K:Nat)(x:ab ps):R:=let j1:=(wr .i64 ((wr .i64 (6-(FJ x.2.1.2.2.2:Int)))+1));let j2:=wr .i64 (x.1-x.2.1.2.2.1);bif decide (j1<3) then (some ((decide (j2>=3),()),())) else (some ((decide (j2>=j1),()),()))
def c:Ctr:=⟨207,ps,rs,true,f K⟩
end Q84
namespace Q85
abbrev ps:List PK:=[.rd t26]
abbrev rs:List RK:=[.v t26]
abbrev R:=Option (ai rs×ag ps)
abbrev A0:=Int×Int×Bool×Bool×Bool×Int×Int×Int×Int×List (Ty.den t2)×List (Ty.den t3)×Int×Int×Int×Bool×List (Ty.den t6)×Int×Int×Int×Int×List (Ty.den t11)×List (Ty.den t12)
def s0 (x:ab ps)(r0:A0->R)(a:A0):R:=let b1:=x.1.2.2.2.2.2.2.2.2.2.2.2.1;bif decide (a.1<(FJ b1:Int)) then ((idx b1 a.1).bind λy1=>(Q84.f K (a.2.2.2.2.2.2.1,y1,())).bind λy2=>bif y2.1.1 then ((idx b1 a.1).bind λy3=>(Q23.f K (a.2.2.2.2.2.2.2.2.2.1,y3.1,())).bind λy4=>(idx a.2.2.2.2.2.2.2.2.2.1 y4.1.1).bind λy5=>(Q83.f K (zc286a0 a.2 ((y5.1,y5.2.1,3,y5.2.2.2),a.2.1,()))).bind λy6=>r0 (wr .i64 (a.1+1),(zc3ec45 y6.1.1))) else (r0 (wr .i64 (a.1+1),a.2))) else (some ((zc286a0 a.2 ()),()))
def l0 (x:ab ps):A0->R:=ae (s0 K x) K
def pre (K:Nat)(N0:A0->R)(x:ab ps):R:=N0 (0,(zc3ec45 x.1))
def f (x:ab ps):R:=pre K (l0 K x) x
def c:Ctr:=⟨140,ps,rs,false,f K⟩
end Q85
namespace Q86
abbrev ps:List PK:=[.rd (.list false 46 t2),.rd I6]
abbrev rs:List RK:=[.v .bool]
abbrev R:=Option (ai rs×ag ps)
def f (x:ab ps):R:=(Q23.f K (x.1,x.2.1,())).bind λy1=>bif decide (y1.1.1>=0) then ((idx x.1 y1.1.1).bind λy2=>bif y2.2.2.1==1 then (some ((true,()),())) else ((idx x.1 y1.1.1).bind λy3=>some ((y3.2.2.1==2,()),()))) else (some ((false,()),()))
def c:Ctr:=⟨150,ps,rs,true,f K⟩
end Q86
namespace Q87
abbrev ps:List PK:=[.rd t26]
abbrev rs:List RK:=[.v (.list true 3 I6)]
abbrev R:=Option (ai rs×ag ps)
abbrev A0:=List (Ty.den I6)×Int
def s0 (K:Nat)(x:ab ps)(r0:A0->R)(a:A0):R:=let b1:=x.1.2.2.2.2.2.2.2.2;bif decide (a.2<(FJ b1.1:Int)) then (bif decide ((FJ a.1:Int)<2) then ((idx b1.1 a.2).bind λy1=>let j1:R:=r0 (a.1,wr .i64 (a.2+1));bif y1.1 != x.1.1 then (bif y1.1 != b1.2.2.1.1 then (bif y1.2.2.1==1 then (bif decide ((FJ a.1+FJ ([y1.1]))*8<=am) then (r0 (a.1++([y1.1]),wr .i64 (a.2+1))) else none) else j1) else j1) else j1) else (some ((a.1,()),()))) else (some ((a.1,()),()))
def l0 (x:ab ps):A0->R:=ae (s0 K x) K
def pre (K:Nat)(N0:A0->R)(x:ab ps):R:=N0 ([],0)
def f (x:ab ps):R:=pre K (l0 K x) x
def c:Ctr:=⟨208,ps,rs,true,f K⟩
end Q87
namespace Q88
abbrev ps:List PK:=[.rd t26]
abbrev rs:List RK:=[.v t26,.v (.list true 35 t47)]
abbrev R:=Option (ai rs×ag ps)
abbrev A0:=List (Ty.den t47)×List (Ty.den I6)×Int
def s0 (x:ab ps)(r0:A0->R)(a:A0):R:=let b1:=x.1.2.2.2.2.2.2.2.2;let j1:=(zcp8 x.1 (b1.1,b1.2.1,(b1.2.2.1.1,b1.2.2.1.2.1,b1.2.2.1.2.2.1,true),b1.2.2.2));bif decide (a.2.2<(FJ a.2.1:Int)) then ((idx a.2.1 a.2.2).bind λ_=>(idx a.2.1 (FK a.2.2:Nat)).bind λy7=>(Q22.f K (j1,3,y7,b1.2.2.1.2.2.1,b1.2.2.1.1,[],())).bind λy8=>bif decide ((FJ a.1+FJ ([y8.1.1]))*104<=am) then (r0 (a.1++([y8.1.1]),a.2.1,wr .i64 (a.2.2+1))) else none) else (some ((j1,a.1,()),()))
def l0 (x:ab ps):A0->R:=ae (s0 K x) K
def pre (N0:A0->R)(x:ab ps):R:=let b1:=x.1.2.2.2.2.2.2.2.2;let b2:=b1.2.2.1;let j3:=(b1.1,b2.1,());(Q86.f K j3).bind λy1=>let j1:=(zcp8 x.1 (b1.1,b1.2.1,((-1),0,0,false),b1.2.2.2));bif !y1.1.1 then (some ((j1,[],()),())) else (let j2:=wr .i64 (x.1.2.2.2.2.2.1-b2.2.1);bif decide (j2>=4) then ((Q23.f K j3).bind λy2=>(idx b1.1 y2.1.1).bind λy3=>bif y3.2.2.1==1 then ((Q83.f K (j1,(y3.1,y3.2.1,2,y3.2.2.2),x.1.1,())).bind λy4=>some ((y4.1.1,[],()),())) else (some ((j1,[],()),()))) else (bif decide (j2>=2) then (bif !b2.2.2.2 then ((Q87.f K ((zcp8 x.1 (b1.1,b1.2.1,(b2.1,b2.2.1,b2.2.2.1,true),b1.2.2.2)),())).bind λy5=>N0 ([],y5.1.1,0)) else (some ((x.1,[],()),()))) else (some ((x.1,[],()),()))))
def f (x:ab ps):R:=pre K (l0 K x) x
def c:Ctr:=⟨141,ps,rs,false,f K⟩
end Q88
namespace Q89
abbrev ps:List PK:=[.rd t26,.rd I6]
abbrev rs:List RK:=[.v (.list true 46 t2),.v t26]
abbrev R:=Option (ai rs×ag ps)
def f (x:ab ps):R:=let b1:=x.1.2.2.2.2.2.2.2.2;(Q39.f K (b1.2.1,3,())).bind λy1=>(Q23.f K (b1.1,x.2.1,())).bind λy2=>let j1:=(zcp8 x.1 (b1.1,y1.1.2.1,b1.2.2));bif decide (y2.1.1>=0) then ((idx b1.1 y2.1.1).bind λy3=>bif y3.2.2.1==2 then ((idx b1.1 y2.1.1).bind λy4=>(Q32.f K (y1.1.1,y4,())).bind λy5=>some ((y5.1.1,j1,()),())) else (some ((y1.1.1,j1,()),()))) else (some ((y1.1.1,j1,()),()))
def c:Ctr:=⟨186,ps,rs,false,f K⟩
end Q89
namespace Q90
abbrev ps:List PK:=[.rd t26]
abbrev rs:List RK:=[.v I6]
abbrev R:=Option (ai rs×ag ps)
abbrev A0:=Int
def s0 (x:ab ps)(r0:A0->R)(a:A0):R:=bif decide (a<=7) then (let j1:=wr .i64 (x.1.2.2.2.2.2.2.2.1+a);bif (FM j1 8) != x.1.1 then ((Q86.f K (x.1.2.2.2.2.2.2.2.2.1,FM j1 8,())).bind λy1=>bif y1.1.1 then (some ((FM j1 8,()),())) else (r0 (wr .i64 (a+1)))) else (r0 (wr .i64 (a+1)))) else (some (((-1),()),()))
def l0 (x:ab ps):A0->R:=ae (s0 K x) K
def pre (K:Nat)(N0:A0->R)(x:ab ps):R:=N0 0
def f (x:ab ps):R:=pre K (l0 K x) x
def c:Ctr:=⟨209,ps,rs,true,f K⟩
end Q90
namespace Q91
abbrev ps:List PK:=[.rd t26]
abbrev rs:List RK:=[.v t26,.v (.list true 35 t47)]
abbrev R:=Option (ai rs×ag ps)
def f (x:ab ps):R:=(Q90.f K (x.1,())).bind λy1=>bif decide (y1.1.1<0) then (some ((x.1,[],()),())) else (bif decide (x.1.2.2.2.2.2.2.1>=999999) then (some ((x.1,[],()),())) else ((Q89.f K (x.1,y1.1.1,())).bind λy2=>let b1:=y2.1.2.1.2.2.2.2;let j2:=b1.2.2.1+1;let j1:=(zcp4 y2.1.2.1 (b1.1,b1.2.1,wr .i64 j2,wr .i64 (y1.1.1+1),b1.2.2.2.2.1,b1.2.2.2.2.2.1,(y1.1.1,b1.2.1,wr .i64 j2,false),b1.2.2.2.2.2.2.2));(Q22.f K (j1,1,y1.1.1,wr .i64 j2,y2.1.2.1.1,y2.1.1,())).bind λy3=>some ((j1,[y3.1.1],()),())))
def c:Ctr:=⟨142,ps,rs,false,f K⟩
end Q91
namespace Q92
abbrev ps:List PK:=[.rd t26,.rd I6]
abbrev rs:List RK:=[.v I6]
abbrev R:=Option (ai rs×ag ps)
abbrev A0:=List (Ty.den I6)×Int
def s0 (K:Nat)(x:ab ps)(r0:A0->R)(a:A0):R:=let b1:=x.1.2.2.2.2.2.2.2.2.1;bif decide (a.2<(FJ b1:Int)) then ((idx b1 a.2).bind λy1=>bif y1.1 != x.1.1 then ((idx b1 a.2).bind λy2=>bif y2.2.2.1 != 4 then ((idx b1 a.2).bind λy3=>bif decide ((FJ a.1+FJ ([y3.1]))*8<=am) then (r0 (a.1++([y3.1]),wr .i64 (a.2+1))) else none) else (r0 (a.1,wr .i64 (a.2+1)))) else (r0 (a.1,wr .i64 (a.2+1)))) else (bif (FJ a.1:Int)==0 then (some (((-1),()),())) else (bif decide ((FJ a.1:Int)=0) then none else (let j1:=(FM (bz .i64 x.2.1 255) (FJ a.1:Int));(idx a.1 j1).bind λ_=>(idx a.1 (FK j1:Nat)).bind λy5=>some ((y5,()),()))))
def l0 (x:ab ps):A0->R:=ae (s0 K x) K
def pre (K:Nat)(N0:A0->R)(x:ab ps):R:=N0 ([],0)
def f (x:ab ps):R:=pre K (l0 K x) x
def c:Ctr:=⟨210,ps,rs,true,f K⟩
end Q92
namespace Q93
abbrev ps:List PK:=[.rd (.list false 46 t2),.rd I6]
abbrev rs:List RK:=[.v (.list true 3 I6)]
abbrev R:=Option (ai rs×ag ps)
abbrev A0:=List (Ty.den I6)×Int
def s0 (K:Nat)(x:ab ps)(r0:A0->R)(a:A0):R:=bif decide (a.2<(FJ x.1:Int)) then (bif decide ((FJ a.1:Int)<x.2.1) then ((idx x.1 a.2).bind λy1=>bif y1.2.2.2 then ((idx x.1 a.2).bind λy2=>bif y2.2.2.1==1 then ((idx x.1 a.2).bind λy3=>bif decide ((FJ a.1+FJ ([y3.1]))*8<=am) then (r0 (a.1++([y3.1]),wr .i64 (a.2+1))) else none) else (r0 (a.1,wr .i64 (a.2+1)))) else (r0 (a.1,wr .i64 (a.2+1)))) else (some ((a.1,()),()))) else (some ((a.1,()),()))
def l0 (x:ab ps):A0->R:=ae (s0 K x) K
def pre (K:Nat)(N0:A0->R)(x:ab ps):R:=N0 ([],0)
def f (x:ab ps):R:=pre K (l0 K x) x
def c:Ctr:=⟨308,ps,rs,true,f K⟩
end Q93
namespace Q94
abbrev ps:List PK:=[.rd t26]
abbrev rs:List RK:=[.v .bool]
abbrev R:=Option (ai rs×ag ps)
abbrev A0:=List (Ty.den I6)×Int
def s0 (K:Nat)(x:ab ps)(r0:A0->R)(a:A0):R:=bif decide (a.2<(FJ a.1:Int)) then ((idx a.1 a.2).bind λ_=>(idx a.1 (FK a.2:Nat)).bind λy3=>bif y3==x.1.1 then (some ((true,()),())) else (r0 (a.1,wr .i64 (a.2+1)))) else (some ((false,()),()))
def l0 (x:ab ps):A0->R:=ae (s0 K x) K
def pre (N0:A0->R)(x:ab ps):R:=(Q93.f K (x.1.2.2.2.2.2.2.2.2.1,2,())).bind λy1=>N0 (y1.1.1,0)
def f (x:ab ps):R:=pre K (l0 K x) x
def c:Ctr:=⟨269,ps,rs,true,f K⟩
end Q94
namespace Q95
abbrev ps:List PK:=[.rd t26,.rd I6,.rd I6]
abbrev rs:List RK:=[.v I6]
abbrev R:=Option (ai rs×ag ps)
abbrev A0:=Int
def s0 (x:ab ps)(r0:A0->R)(a:A0):R:=let b1:=x.1.2.2.2.2.2.2.2.2.2.2.2.2.2.2;bif decide (a<(FJ b1:Int)) then ((idx b1 a).bind λy1=>let j3:R:=r0 (wr .i64 (a+1));bif y1.1==x.2.1 then ((idx b1 a).bind λy2=>(Q93.f K (y2.2,2,())).bind λy3=>let j2:=(FJ y3.1.1:Int);bif decide (j2>0) then (bif (bz .i64 x.2.2.1 4)==0 then (bif decide (j2=0) then none else (let j1:=(FM (bz .i64 (FN x.2.2.1 (2 ^ 3)) 255) j2);(idx y3.1.1 j1).bind λ_=>(idx y3.1.1 (FK j1:Nat)).bind λy5=>some ((y5,()),()))) else j3) else j3) else j3) else (some ((wr .i64 ((wr .i64 (x.2.1*4))+(bz .i64 (FN x.2.2.1 (2 ^ 3)) 3)),()),()))
def l0 (x:ab ps):A0->R:=ae (s0 K x) K
def pre (K:Nat)(N0:A0->R)(x:ab ps):R:=N0 0
def f (x:ab ps):R:=pre K (l0 K x) x
def c:Ctr:=⟨270,ps,rs,true,f K⟩
end Q95
namespace Q96
abbrev ps:List PK:=[.rd t26,.rd I6]
abbrev rs:List RK:=[.v (.list true 35 t47)]
abbrev R:=Option (ai rs×ag ps)
abbrev A0:=List (Ty.den t47)×Int
def s0 (x:ab ps)(r0:A0->R)(a:A0):R:=bif decide (a.2<=1) then ((Q20.f K (x.1.1,())).bind λy2=>bif a.2 != y2.1.1 then ((Q95.f K (x.1,a.2,x.2.1,())).bind λy3=>(Q22.f K (x.1,6,y3.1.1,0,x.1.1,x.1.2.2.2.2.2.2.2.2.1,())).bind λy4=>bif decide ((FJ a.1+FJ ([(2,y4.1.1.2)]))*104<=am) then (r0 (a.1++([(2,y4.1.1.2)]),wr .i64 (a.2+1))) else none) else (r0 (a.1,wr .i64 (a.2+1)))) else (some ((a.1,()),()))
def l0 (x:ab ps):A0->R:=ae (s0 K x) K
def pre (N0:A0->R)(x:ab ps):R:=(Q94.f K (x.1,())).bind λy1=>bif !y1.1.1 then (some (([],()),())) else (N0 ([],0))
def f (x:ab ps):R:=pre K (l0 K x) x
def c:Ctr:=⟨211,ps,rs,true,f K⟩
end Q96
namespace Q97
abbrev ps:List PK:=[.rd t26,.rd I6]
abbrev rs:List RK:=[.v (.list true 35 t47)]
abbrev R:=Option (ai rs×ag ps)
def f (x:ab ps):R:=let b1:=x.1.2.2.2.2.2.2.2.2;let j3:=(x.1,FN x.2.1 (2 ^ 2),());(Q92.f K j3).bind λy1=>let j1:R:=bif (bz .i64 x.2.1 3)==1 then ((Q96.f K j3).bind λy3=>some ((y3.1.1,()),())) else (bif (bz .i64 x.2.1 3)==2 then (bif decide (y1.1.1>=0) then (let j2:=(FJ b1.2.2.2.2.2.2:Int);bif decide (j2>0) then (bif decide (j2=0) then none else ((idx b1.2.2.2.2.2.2 (FM (bz .i64 (FN x.2.1 (2 ^ 10)) 255) j2)).bind λy4=>(Q22.f K (x.1,6,y1.1.1,0,x.1.1,y4.2,())).bind λy5=>some (([y5.1.1],()),()))) else (some (([],()),()))) else (some (([],()),()))) else (some (([],()),())));bif (bz .i64 x.2.1 3)==0 then (bif decide (y1.1.1>=0) then ((Q22.f K (x.1,4,y1.1.1,0,x.1.1,b1.1,())).bind λy2=>some (([y2.1.1],()),())) else j1) else j1
def c:Ctr:=⟨143,ps,rs,true,f K⟩
end Q97
namespace Q98
abbrev ps:List PK:=[.rd t26,.rd I6]
abbrev rs:List RK:=[.v t26,.v (.list true 35 t47)]
abbrev R:=Option (ai rs×ag ps)
def f (x:ab ps):R:=let b2:=x.1.2.2.2.2;let j1:R:=some ((x.1,[],()),());bif !x.1.2.1 then j1 else (bif x.1.2.2.1 then j1 else (bif decide (b2.2.1>=999999) then j1 else ((Q85.f K ((zcp4 x.1 (b2.1,wr .i64 (b2.2.1+1),b2.2.2)),())).bind λy1=>let b1:=y1.1.1.2.2.2.2.2.2.2.2.2.2.1.1;bif decide (b1>=0) then ((Q88.f K (y1.1.1,())).bind λy2=>bif decide (y2.1.1.2.2.2.2.2.2.2.2.2.2.1.1<0) then ((Q91.f K (y2.1.1,())).bind λy3=>bif decide ((FJ y2.1.2.1+FJ y3.1.2.1)*104<=am) then ((Q97.f K (y3.1.1,x.2.1,())).bind λy4=>bif decide ((FJ (y2.1.2.1++y3.1.2.1)+FJ y4.1.1)*104<=am) then (some ((y3.1.1,(y2.1.2.1++y3.1.2.1)++y4.1.1,()),())) else none) else none) else ((Q97.f K (y2.1.1,x.2.1,())).bind λy5=>bif decide ((FJ y2.1.2.1+FJ y5.1.1)*104<=am) then (some ((y2.1.1,y2.1.2.1++y5.1.1,()),())) else none)) else (bif decide (b1<0) then ((Q91.f K (y1.1.1,())).bind λy6=>bif decide ((FJ ([]:List (Ty.den t47))+FJ y6.1.2.1)*104<=am) then ((Q97.f K (y6.1.1,x.2.1,())).bind λy7=>bif decide ((FJ ([]++y6.1.2.1)+FJ y7.1.1)*104<=am) then (some ((y6.1.1,([]++y6.1.2.1)++y7.1.1,()),())) else none) else none) else ((Q97.f K (y1.1.1,x.2.1,())).bind λy8=>bif decide ((FJ ([]:List (Ty.den t47))+FJ y8.1.1)*104<=am) then (some ((y1.1.1,[]++y8.1.1,()),())) else none)))))
def c:Ctr:=⟨89,ps,rs,false,f K⟩
end Q98
namespace Q99
abbrev ps:List PK:=[.rd t26]
abbrev rs:List RK:=[.v t26,.v (.list true 35 t47)]
abbrev R:=Option (ai rs×ag ps)
abbrev A0:=List (Ty.den t47)×Int×Int×Bool×Bool×Int×Int×Int×Int×List (Ty.den t2)×List (Ty.den t3)×Int×Int×Int×Bool×List (Ty.den t6)×Int×Int×Int×Int×List (Ty.den t11)×List (Ty.den t12)
def s0 (x:ab ps)(r0:A0->R)(a:A0):R:=let b1:=a.2.2.2.2.2.2.2.2.2.1;let j1:=(a.2.2.1,a.2.2.2.1,true,(zceae5f a.2.2.2.2));bif decide (a.2.1<(FJ b1:Int)) then ((idx b1 a.2.1).bind λy2=>let j2:=(a.1,wr .i64 (a.2.1+1),a.2.2);bif y2.1 != a.2.2.1 then ((idx b1 a.2.1).bind λy3=>(Q86.f K (b1,y3.1,())).bind λy4=>bif y4.1.1 then ((idx b1 a.2.1).bind λy5=>(Q22.f K (j1,5,y5.1,0,a.2.2.1,b1,())).bind λy6=>bif decide ((FJ a.1+FJ ([y6.1.1]))*104<=am) then (r0 (a.1++([y6.1.1]),wr .i64 (a.2.1+1),a.2.2)) else none) else (r0 j2)) else (r0 j2)) else (some ((j1,a.1,()),()))
def l0 (x:ab ps):A0->R:=ae (s0 K x) K
def pre (N0:A0->R)(x:ab ps):R:=bif !x.1.2.1 then (some ((x.1,[],()),())) else (bif x.1.2.2.1 then (some ((x.1,[],()),())) else ((Q83.f K (x.1,(x.1.1,x.1.2.2.2.2.1,4,x.1.2.2.2.1),x.1.1,())).bind λy1=>N0 ([],0,(zc8f7ea y1.1.1))))
def f (x:ab ps):R:=pre K (l0 K x) x
def c:Ctr:=⟨95,ps,rs,false,f K⟩
end Q99
namespace Q100
abbrev ps:List PK:=[.own t67,.rd t26,.rd (.list false 35 t47),.rd (.list false 46 t2)]
abbrev rs:List RK:=[.v t63]
abbrev R:=Option (ai rs×ag ps)
def f (x:ab ps):R:=(idx x.1.1 x.2.1.1).bind λ_=>(idx x.1.1 (FK x.2.1.1:Nat)).bind λy2=>(idx x.1.1 x.2.1.1).bind λ_=>(idx x.1.1 (FK x.2.1.1:Nat)).bind λy4=>(Q79.f K ((x.1.1.set (FK x.2.1.1) x.2.1,x.1.2),y2.2.2.2.2.2.2.2.2.1,x.2.2.2.1,x.2.1.2.2.2.2.2.2.2.2.1,())).bind λy5=>(Q75.f K (y5.1.1,x.2.1.1,x.2.2.1,())).bind λy6=>some ((y6.1.1,()),())
def c:Ctr:=⟨275,ps,rs,false,f K⟩
end Q100
namespace Q101
abbrev ps:List PK:=[.rd I6,.rd .bool]
abbrev rs:List RK:=[.v t26]
abbrev R:=Option (ai rs×ag ps)
def f (K:Nat)(x:ab ps):R:=some (((x.1,false,false,x.2.1,0,0,0,0,[],[],(0,0,0,false),[],(0,0,0,0),[],[]),()),())
def c:Ctr:=⟨276,ps,rs,true,f K⟩
end Q101
namespace Q102
abbrev ps:List PK:=[.own t67,.rd I6]
abbrev rs:List RK:=[.v t63]
abbrev R:=Option (ai rs×ag ps)
def f (x:ab ps):R:=(Q13.f K (x.2.1,())).bind λy1=>(Q12.f K (x.2.1,y1.1.1,())).bind λy2=>(idx x.1.1 x.2.1).bind λ_=>(idx x.1.1 (FK x.2.1:Nat)).bind λy4=>(idx y2.1.1.2.2.2.2.2.2.2.2.1 0).bind λy5=>(Q77.f K (x.1.2.2.2,y5,())).bind λy6=>some (((x.1.1.set (FK x.2.1) y2.1.1,x.1.2.1,x.1.2.2.1,y6.1.1),()),())
def c:Ctr:=⟨277,ps,rs,false,f K⟩
end Q102
namespace Q103
abbrev ps:List PK:=[.own t67,.rd t2]
abbrev rs:List RK:=[.v t63,.v .bool]
abbrev R:=Option (ai rs×ag ps)
def f (x:ab ps):R:=let b1:=x.2.1.2;(idx x.1.1 b1.1).bind λ_=>let j2:=(FK b1.1:Nat);(idx x.1.1 j2).bind λy2=>bif x.2.1.1==5 then ((Q41.f K (b1.2.1,0,2,())).bind λy3=>(idx x.1.2.2.1 b1.1).bind λ_=>(idx x.1.2.2.1 j2).bind λy5=>some (((x.1.1,x.1.2.1,x.1.2.2.1.set (FK b1.1) y3.1.1,x.1.2.2.2),true,()),())) else (bif x.2.1.1==6 then ((Q101.f K (y2.1,y2.2.2.2.1,())).bind λy6=>(idx x.1.1 b1.1).bind λ_=>(idx x.1.1 j2).bind λy8=>some (((x.1.1.set (FK b1.1) y6.1.1,x.1.2),y2.2.1,()),())) else (let j1:R:=some ((x.1,false,()),());bif x.2.1.1==7 then (bif y2.2.1 then j1 else ((Q102.f K (x.1,b1.1,())).bind λy9=>some ((y9.1.1,true,()),()))) else (bif !y2.2.1 then j1 else (bif y2.2.2.1 then j1 else (bif x.2.1.1==1 then (bif decide (y2.2.2.2.2.2.1>=999999) then j1 else ((Q98.f K (y2,b1.2.1,())).bind λy10=>(Q100.f K (x.1,y10.1.1,y10.1.2.1,[],())).bind λy11=>some ((y11.1.1,true,()),()))) else (bif x.2.1.1==8 then ((Q99.f K (y2,())).bind λy12=>(Q100.f K (x.1,y12.1.1,y12.1.2.1,[],())).bind λy13=>some ((y13.1.1,true,()),())) else (bif x.2.1.1==9 then ((Q10.f K (b1.2.1,0,7,())).bind λy14=>bif !y14.1.1 then j1 else (bif b1.2.1==y2.1 then j1 else ((Q20.f K (b1.2.1,())).bind λy15=>(Q20.f K (y2.1,())).bind λy16=>bif y15.1.1 != y16.1.1 then j1 else ((Q22.f K (y2,4,b1.2.1,0,y2.1,y2.2.2.2.2.2.2.2.2.1,())).bind λy17=>(Q100.f K (x.1,y2,[y17.1.1],[],())).bind λy18=>some ((y18.1.1,true,()),()))))) else j1)))))))
def c:Ctr:=⟨230,ps,rs,false,f K⟩
end Q103
namespace Q104
abbrev ps:List PK:=[.own t66,.rd t2]
def c:Ctr:=⟨230,ps,Q103.rs,false,Q103.f K⟩
end Q104
namespace Q105
abbrev ps:List PK:=[.own t66,.rd t2]
abbrev rs:List RK:=[.v t63,.v .bool]
abbrev R:=Option (ai rs×ag ps)
def f (x:ab ps):R:=let b1:=x.2.1.2;let j1:R:=(Q10.f K (b1.1,0,wr .i64 ((FJ x.1.2.1:Int)-1),())).bind λy1=>bif !y1.1.1 then (some ((x.1,false,()),())) else (bif x.2.1.1==2 then ((Q81.f K (x.1,b1.1,b1.2.2,())).bind λy2=>some ((y2.1.1,true,()),())) else (bif x.2.1.1==4 then ((Q82.f K (x.1,b1.1,b1.2.1,())).bind λy3=>some ((y3.1.1,y3.1.2.1,()),())) else ((Q74.f K (x.1.2.1,b1.1,())).bind λy4=>some (((x.1.1,y4.1.1,x.1.2.2),true,()),()))));bif x.2.1.1==2 then j1 else (bif x.2.1.1==3 then j1 else (bif x.2.1.1==4 then j1 else ((Q10.f K (b1.1,0,7,())).bind λy13=>bif !y13.1.1 then (some ((x.1,false,()),())) else ((Q103.f K (x.1,x.2.1,())).bind λy14=>some ((y14.1.1,y14.1.2.1,()),())))))
def c:Ctr:=⟨154,ps,rs,false,f K⟩
end Q105
namespace Q106
abbrev ps:List PK:=[.rd t26]
abbrev rs:List RK:=[.v t81]
abbrev R:=Option (ai rs×ag ps)
abbrev A2:=Int×List (Ty.den t6)×List (Ty.den t11)×List (Ty.den t12)
abbrev A1:=Int×List (Ty.den t6)×List (Ty.den t11)
abbrev A0:=Int×List (Ty.den t6)
def s2 (K:Nat)(x:ab ps)(r2:A2->R)(a:A2):R:=let b1:=x.1.2.2.2.2.2.2.2.2;bif decide (a.1<(FJ b1.2.2.2.2.2.2:Int)) then ((idx b1.2.2.2.2.2.2 a.1).bind λy3=>bif decide ((FJ ([]:List (Ty.den t2))+FJ y3.2)*32<=am) then (bif decide ((FJ a.2.2.2+FJ ([(y3.1,[]++y3.2)]))*32<=am) then (r2 (wr .i64 (a.1+1),a.2.1,a.2.2.1,a.2.2.2++([(y3.1,[]++y3.2)]))) else none) else none) else (some (((zcp8 x.1 ([]++b1.1,[]++b1.2.1,b1.2.2.1,a.2.1,b1.2.2.2.2.1,a.2.2)),()),()))
def l2 (x:ab ps):A2->R:=ae (s2 K x) K
def s1 (K:Nat)(x:ab ps)(N2:A2->R)(r1:A1->R)(a:A1):R:=let b1:=x.1.2.2.2.2.2.2.2.2.2.2.2.2.2.1;bif decide (a.1<(FJ b1:Int)) then ((idx b1 a.1).bind λy2=>bif decide ((FJ ([]:List (Ty.den I6))+FJ y2.2.2)*8<=am) then (bif decide ((FJ a.2.2+FJ ([(y2.1,y2.2.1,[]++y2.2.2)]))*64<=am) then (r1 (wr .i64 (a.1+1),a.2.1,a.2.2++([(y2.1,y2.2.1,[]++y2.2.2)]))) else none) else none) else (N2 (0,a.2.1,a.2.2,[]))
def l1 (x:ab ps):A1->R:=ae (s1 K x (l2 K x)) K
def s0 (K:Nat)(x:ab ps)(N1:A1->R)(r0:A0->R)(a:A0):R:=bif decide (a.1<(FJ x.1.2.2.2.2.2.2.2.2.2.2.2.1:Int)) then ((idx x.1.2.2.2.2.2.2.2.2.2.2.2.1 a.1).bind λy1=>bif decide ((FJ ([]:List (Ty.den I6))+FJ y1.2.2.2)*8<=am) then (bif decide ((FJ a.2+FJ ([(y1.1,y1.2.1,y1.2.2.1,[]++y1.2.2.2)]))*48<=am) then (r0 (wr .i64 (a.1+1),a.2++([(y1.1,y1.2.1,y1.2.2.1,[]++y1.2.2.2)]))) else none) else none) else (N1 (0,a.2,[]))
def l0 (x:ab ps):A0->R:=ae (s0 K x (l1 K x)) K
def pre (K:Nat)(N0:A0->R)(x:ab ps):R:=bif decide ((FJ ([]:List (Ty.den t2))+FJ x.1.2.2.2.2.2.2.2.2.1)*32<=am) then (bif decide ((FJ ([]:List (Ty.den t3))+FJ x.1.2.2.2.2.2.2.2.2.2.1)*40<=am) then (N0 (0,[])) else none) else none
def f (x:ab ps):R:=pre K (l0 K x) x
def c:Ctr:=⟨49,ps,rs,true,f K⟩
def G (K:Nat):List Ctr:=[]
def v2:List (Nat×List Coe):=[(1,[.keep]),(2,[.keep]),(3,[.keep]),(8,[.keep]),(100001,Kc0),(100002,Kc2),(100003,[.keep,.keep,.keep,.keep,.keep,.keep,.keep,.keep,.own false 46 t2,.own false 133 t3,.keep,.keep,.keep,.keep,.own false 86 t6,.keep,.keep,.keep,.keep,.own false 89 t11,.own false 91 t12])]
def v1:List (Nat×List Coe):=[(1,[.keep]),(2,[.keep]),(3,[.keep]),(6,[.keep]),(100001,Kc0),(100002,Kc2),(100003,[.keep,.keep,.keep,.keep,.keep,.keep,.keep,.keep,.own false 46 t2,.own false 133 t3,.keep,.keep,.keep,.keep,.own false 86 t6,.keep,.keep,.keep,.keep,.own false 89 t11,.ro true 91 t12])]
def v0:List (Nat×List Coe):=[(1,[.keep]),(2,[.keep]),(3,[.keep]),(4,[.keep]),(100001,Kc0),(100002,Kc2),(100003,[.keep,.keep,.keep,.keep,.keep,.keep,.keep,.keep,.own false 46 t2,.own false 133 t3,.keep,.keep,.keep,.keep,.own false 86 t6,.keep,.keep,.keep,.keep,.ro true 89 t11,.ro true 91 t12])]
def L:List (Nat×List (Nat×List Coe)):=[(21,v2),(14,v1),(7,v0)]
def body:Code:=cY Tryz.f49
abbrev ev:Code->St->(Ex->St->R)->R:=evK (G K) T_ND L K
abbrev fin:Ex->St->R:=du T_ND ps rs true Tryz.f49.results.toList
def S0 (x:ab ps)(a:A0):St:=av [(1,⟨0,.one,[.bp 100001 0]⟩),(2,⟨0,.one,[.bp 100002 0]⟩),(3,⟨0,.one,[.bp 100003 0]⟩),(4,⟨0,.one,[.int .i64 a.1]⟩),(100001,⟨0,.agg,(w1 x.1)⟩),(100002,⟨0,.agg,[.int .i64 0,.bool false,.bool false,.bool false,.int .i64 0,.int .i64 0,.int .i64 0,.int .i64 0,.nil,.nil,.int .i64 0,.int .i64 0,.int .i64 0,.bool false,.nil,.int .i64 0,.int .i64 0,.int .i64 0,.int .i64 0,.nil,.nil]⟩),(100003,⟨0,.agg,[.int .i64 x.1.1,.bool x.1.2.1,.bool x.1.2.2.1,.bool x.1.2.2.2.1,.int .i64 x.1.2.2.2.2.1,.int .i64 x.1.2.2.2.2.2.1,.int .i64 x.1.2.2.2.2.2.2.1,.int .i64 x.1.2.2.2.2.2.2.2.1,.own false none 46 t2 ([]++x.1.2.2.2.2.2.2.2.2.1),.own false none 133 t3 ([]++x.1.2.2.2.2.2.2.2.2.2.1),.int .i64 x.1.2.2.2.2.2.2.2.2.2.2.1.1,.int .i64 x.1.2.2.2.2.2.2.2.2.2.2.1.2.1,.int .i64 x.1.2.2.2.2.2.2.2.2.2.2.1.2.2.1,.bool x.1.2.2.2.2.2.2.2.2.2.2.1.2.2.2,.own false none 86 t6 a.2,.int .i64 x.1.2.2.2.2.2.2.2.2.2.2.2.2.1.1,.int .i64 x.1.2.2.2.2.2.2.2.2.2.2.2.2.1.2.1,.int .i64 x.1.2.2.2.2.2.2.2.2.2.2.2.2.1.2.2.1,.int .i64 x.1.2.2.2.2.2.2.2.2.2.2.2.2.1.2.2.2,.ro true 89 t11 x.1.2.2.2.2.2.2.2.2.2.2.2.2.2.1,.ro true 91 t12 x.1.2.2.2.2.2.2.2.2.2.2.2.2.2.2]⟩)]
def S1 (x:ab ps)(a:A1):St:=av [(1,⟨0,.one,[.bp 100001 0]⟩),(2,⟨0,.one,[.bp 100002 0]⟩),(3,⟨0,.one,[.bp 100003 0]⟩),(6,⟨0,.one,[.int .i64 a.1]⟩),(100001,⟨0,.agg,(w1 x.1)⟩),(100002,⟨0,.agg,[.int .i64 0,.bool false,.bool false,.bool false,.int .i64 0,.int .i64 0,.int .i64 0,.int .i64 0,.nil,.nil,.int .i64 0,.int .i64 0,.int .i64 0,.bool false,.nil,.int .i64 0,.int .i64 0,.int .i64 0,.int .i64 0,.nil,.nil]⟩),(100003,⟨0,.agg,[.int .i64 x.1.1,.bool x.1.2.1,.bool x.1.2.2.1,.bool x.1.2.2.2.1,.int .i64 x.1.2.2.2.2.1,.int .i64 x.1.2.2.2.2.2.1,.int .i64 x.1.2.2.2.2.2.2.1,.int .i64 x.1.2.2.2.2.2.2.2.1,.own false none 46 t2 ([]++x.1.2.2.2.2.2.2.2.2.1),.own false none 133 t3 ([]++x.1.2.2.2.2.2.2.2.2.2.1),.int .i64 x.1.2.2.2.2.2.2.2.2.2.2.1.1,.int .i64 x.1.2.2.2.2.2.2.2.2.2.2.1.2.1,.int .i64 x.1.2.2.2.2.2.2.2.2.2.2.1.2.2.1,.bool x.1.2.2.2.2.2.2.2.2.2.2.1.2.2.2,.own false none 86 t6 a.2.1,.int .i64 x.1.2.2.2.2.2.2.2.2.2.2.2.2.1.1,.int .i64 x.1.2.2.2.2.2.2.2.2.2.2.2.2.1.2.1,.int .i64 x.1.2.2.2.2.2.2.2.2.2.2.2.2.1.2.2.1,.int .i64 x.1.2.2.2.2.2.2.2.2.2.2.2.2.1.2.2.2,.own false none 89 t11 a.2.2,.ro true 91 t12 x.1.2.2.2.2.2.2.2.2.2.2.2.2.2.2]⟩)]
def S2 (x:ab ps)(a:A2):St:=av [(1,⟨0,.one,[.bp 100001 0]⟩),(2,⟨0,.one,[.bp 100002 0]⟩),(3,⟨0,.one,[.bp 100003 0]⟩),(8,⟨0,.one,[.int .i64 a.1]⟩),(100001,⟨0,.agg,(w1 x.1)⟩),(100002,⟨0,.agg,[.int .i64 0,.bool false,.bool false,.bool false,.int .i64 0,.int .i64 0,.int .i64 0,.int .i64 0,.nil,.nil,.int .i64 0,.int .i64 0,.int .i64 0,.bool false,.nil,.int .i64 0,.int .i64 0,.int .i64 0,.int .i64 0,.nil,.nil]⟩),(100003,⟨0,.agg,[.int .i64 x.1.1,.bool x.1.2.1,.bool x.1.2.2.1,.bool x.1.2.2.2.1,.int .i64 x.1.2.2.2.2.1,.int .i64 x.1.2.2.2.2.2.1,.int .i64 x.1.2.2.2.2.2.2.1,.int .i64 x.1.2.2.2.2.2.2.2.1,.own false none 46 t2 ([]++x.1.2.2.2.2.2.2.2.2.1),.own false none 133 t3 ([]++x.1.2.2.2.2.2.2.2.2.2.1),.int .i64 x.1.2.2.2.2.2.2.2.2.2.2.1.1,.int .i64 x.1.2.2.2.2.2.2.2.2.2.2.1.2.1,.int .i64 x.1.2.2.2.2.2.2.2.2.2.2.1.2.2.1,.bool x.1.2.2.2.2.2.2.2.2.2.2.1.2.2.2,.own false none 86 t6 a.2.1,.int .i64 x.1.2.2.2.2.2.2.2.2.2.2.2.2.1.1,.int .i64 x.1.2.2.2.2.2.2.2.2.2.2.2.2.1.2.1,.int .i64 x.1.2.2.2.2.2.2.2.2.2.2.2.2.1.2.2.1,.int .i64 x.1.2.2.2.2.2.2.2.2.2.2.2.2.1.2.2.2,.own false none 89 t11 a.2.2.1,.own false none 91 t12 a.2.2.2]⟩)]
def k0 (x:ab ps):Ex->St->R:=kAt (ev K) body [1,1,1,1,1,0,1,0] fin
def N0 (x:ab ps):A0->R:=λa=>aY v0 (ev K (sub body [1,1,1,1,1,0,1,0,0])) K (S0 x a) (k0 K x)
def k1 (x:ab ps):Ex->St->R:=kAt (ev K) body [1,1,1,1,1,1,1,0,1,0] fin
def N1 (x:ab ps):A1->R:=λa=>aY v1 (ev K (sub body [1,1,1,1,1,1,1,0,1,0,0])) K (S1 x a) (k1 K x)
def k2 (x:ab ps):Ex->St->R:=kAt (ev K) body [1,1,1,1,1,1,1,1,1,0,1,0] fin
def N2 (x:ab ps):A2->R:=λa=>aY v2 (ev K (sub body [1,1,1,1,1,1,1,1,1,0,1,0,0])) K (S2 x a) (k2 K x)
end Q106
namespace Q107
abbrev ps:List PK:=[.rd t63]
abbrev rs:List RK:=[.v t66]
abbrev R:=Option (ai rs×ag ps)
abbrev A0:=Int×List (Ty.den t38)
def s0 (x:ab ps)(r0:A0->R)(a:A0):R:=bif decide (a.1<(FJ x.1.1:Int)) then ((idx x.1.1 a.1).bind λy1=>(Q106.f K (y1,())).bind λy2=>bif decide ((FJ a.2+FJ ([y2.1.1]))*232<=am) then (r0 (wr .i64 (a.1+1),a.2++([y2.1.1]))) else none) else (some (((a.2,[]++x.1.2.1,[]++x.1.2.2.1,[]++x.1.2.2.2),()),()))
def l0 (x:ab ps):A0->R:=ae (s0 K x) K
def pre (K:Nat)(N0:A0->R)(x:ab ps):R:=bif decide ((FJ ([]:List (Ty.den t40))+FJ x.1.2.1)*32<=am) then (bif decide ((FJ ([]:List (Ty.den I6))+FJ x.1.2.2.1)*8<=am) then (bif decide ((FJ ([]:List (Ty.den t2))+FJ x.1.2.2.2)*32<=am) then (N0 (0,[])) else none) else none) else none
def f (x:ab ps):R:=pre K (l0 K x) x
def c:Ctr:=⟨155,ps,rs,true,f K⟩
end Q107
namespace Q108
abbrev ps:List PK:=[.rd t63,.io (.list true 151 t2)]
abbrev rs:List RK:=[.v t63]
abbrev R:=Option (ai rs×ag ps)
abbrev A0:=Int×List (Ty.den t26)×List (Ty.den t40)×List (Ty.den I6)×List (Ty.den t2)
def s0 (x:ab ps)(r0:A0->R)(a:A0):R:=bif decide (a.1<(FJ x.2.1:Int)) then ((Q107.f K (a.2,())).bind λy1=>(idx x.2.1 a.1).bind λ_=>(idx x.2.1 (FK a.1:Nat)).bind λy3=>(Q105.f K (y1.1.1,y3,())).bind λy4=>bif y4.1.2.1 then (r0 (wr .i64 (a.1+1),y4.1.1)) else (r0 (wr .i64 (a.1+1),a.2))) else (some ((a.2,()),x.2.1,()))
def l0 (x:ab ps):A0->R:=ae (s0 K x) K
def pre (K:Nat)(N0:A0->R)(x:ab ps):R:=N0 (0,x.1)
def f (x:ab ps):R:=pre K (l0 K x) x
def c:Ctr:=⟨152,ps,rs,false,f K⟩
end Q108
namespace Q109
abbrev ps:List PK:=[.iop t60,.rd t63]
abbrev rs:List RK:=[.v I6]
abbrev R:=Option (ai rs×ag ps)
def f (x:ab ps):R:=let j2:=(FJ x.2.1.2.1:Int);bif j2==0 then (some ((0,()),x.1,())) else ((Q9.f K (x.1,3,())).bind λy1=>let j1:R:=(Q9.f K (y1.2.1,j2,())).bind λy3=>some ((y3.1.1,()),y3.2.1,());bif decide (y1.1.1>0) then (bif decide (j2>4) then ((Q9.f K (y1.2.1,4,())).bind λy2=>some ((y2.1.1,()),y2.2.1,())) else j1) else j1)
def c:Ctr:=⟨226,ps,rs,false,f K⟩
end Q109
namespace Q110
abbrev ps:List PK:=[.iop t60,.rd t63]
abbrev rs:List RK:=[.v t2]
abbrev R:=Option (ai rs×ag ps)
def f (x:ab ps):R:=(Q9.f K (x.1,8,())).bind λy1=>(Q9.f K (y1.2.1,256,())).bind λy2=>(Q9.f K (y2.2.1,16,())).bind λy3=>(Q9.f K (y3.2.1,40,())).bind λy4=>let j5:R:=(Q109.f K (y4.2.1,x.2.1,())).bind λy5=>some (((3,y5.1.1,0,false),()),y5.2.1,());bif y4.1.1==0 then j5 else (bif y4.1.1==1 then j5 else (let j7:=(wr .i64 (y2.1.1*16))+y3.1.1;bif y4.1.1==2 then ((Q109.f K (y4.2.1,x.2.1,())).bind λy7=>(Q9.f K (y7.2.1,128,())).bind λy8=>some (((4,y7.1.1,wr .i64 ((wr .i64 ((wr .i64 j7)*16))+(wr .i64 (y8.1.1*4096))),false),()),y8.2.1,())) else (let j4:R:=(Q9.f K (y4.2.1,3,())).bind λy9=>some (((5,y1.1.1,y9.1.1,false),()),y9.2.1,());bif y4.1.1==3 then j4 else (bif y4.1.1==4 then j4 else (bif y4.1.1==5 then (some (((6,y1.1.1,0,false),()),y4.2.1,())) else (let j6:=(((7,y1.1.1,0,false),()),y4.2.1,());bif y4.1.1==6 then (some j6) else (bif y4.1.1==7 then (some j6) else (let j3:=((1,y1.1.1,wr .i64 j7,false),());bif y4.1.1==8 then ((Q9.f K (y4.2.1,3,())).bind λy11=>bif y11.1.1==0 then (some (((8,y1.1.1,0,false),()),y11.2.1,())) else (some (j3,y11.2.1,()))) else (let j2:R:=(Q9.f K (y4.2.1,4,())).bind λy12=>some (((9,y1.1.1,wr .i64 ((wr .i64 ((wr .i64 (FL y1.1.1 4))*4))+y12.1.1),false),()),y12.2.1,());bif y4.1.1==9 then j2 else (bif y4.1.1==10 then j2 else (bif y4.1.1==11 then j2 else (let j1:R:=bif decide ((FJ x.2.1.2.1:Int)>0) then ((Q109.f K (y4.2.1,x.2.1,())).bind λy15=>(Q9.f K (y15.2.1,10,())).bind λy16=>some (((2,y15.1.1,0,y16.1.1==0),()),y16.2.1,())) else (some (j3,y4.2.1,()));bif y4.1.1==12 then j1 else (bif y4.1.1==13 then j1 else (bif y4.1.1==14 then j1 else (bif y4.1.1==15 then j1 else (bif y4.1.1==16 then j1 else (bif y4.1.1==17 then j1 else (bif y4.1.1==18 then j1 else (bif y4.1.1==19 then j1 else (bif y4.1.1==20 then j1 else (bif y4.1.1==21 then j1 else (bif y4.1.1==22 then j1 else (bif y4.1.1==23 then j1 else (bif y4.1.1==24 then j1 else (bif y4.1.1==25 then j1 else (bif y4.1.1==26 then j1 else (bif y4.1.1==27 then j1 else (some (j3,y4.2.1,())))))))))))))))))))))))))))))
def c:Ctr:=⟨153,ps,rs,false,f K⟩
end Q110
namespace Q111
abbrev ps:List PK:=[.iop t60,.rd I6]
abbrev rs:List RK:=[.v (.list false 151 t2),.v t63]
abbrev R:=Option (ai rs×ag ps)
abbrev A1:=List (Ty.den t2)×Int×List (Ty.den (.int .u8))×Int×List (Ty.den t26)×List (Ty.den t40)×List (Ty.den I6)×List (Ty.den t2)
abbrev A0:=List (Ty.den t2)×Int×List (Ty.den (.int .u8))×Int×List (Ty.den t26)×List (Ty.den t40)×List (Ty.den I6)×List (Ty.den t2)
def s1 (x:ab ps)(r1:A1->R)(a:A1):R:=bif decide (a.2.1>0) then ((Q110.f K ((a.2.2.1,a.2.2.2.1),a.2.2.2.2,())).bind λy5=>bif decide ((FJ a.1+FJ ([y5.1.1]))*32<=am) then ((Q107.f K (a.2.2.2.2,())).bind λy6=>(Q105.f K (y6.1.1,y5.1.1,())).bind λy7=>bif y7.1.2.1 then (r1 (a.1++([y5.1.1]),wr .i64 (a.2.1-1),y5.2.1.1,y5.2.1.2,y7.1.1)) else (r1 (a.1++([y5.1.1]),wr .i64 (a.2.1-1),y5.2.1.1,y5.2.1.2,a.2.2.2.2))) else none) else ((Q107.f K (a.2.2.2.2,())).bind λy8=>some ((a.1,y8.1.1,()),(a.2.2.1,a.2.2.2.1),()))
def l1 (x:ab ps):A1->R:=ae (s1 K x) K
def s0 (x:ab ps)(N1:A1->R)(r0:A0->R)(a:A0):R:=bif decide (a.2.1<=7) then (bif decide ((FM a.2.1 4)>0) then (let j1:=[(9,a.2.1,wr .i64 ((wr .i64 (FL a.2.1 4))*4),false)];bif decide ((FJ a.1+FJ j1)*32<=am) then (let j2:=[(2,0,0,false),(2,0,0,false)];bif decide ((FJ (a.1++j1)+FJ j2)*32<=am) then (r0 ((a.1++j1)++j2,wr .i64 (a.2.1+1),a.2.2)) else none) else none) else (r0 (a.1,wr .i64 (a.2.1+1),a.2.2))) else ((Q108.f K (a.2.2.2.2,a.1,())).bind λy3=>(Q9.f K ((a.2.2.1,a.2.2.2.1),x.2.1,())).bind λy4=>N1 (y3.2.1,y4.1.1,y4.2.1.1,y4.2.1.2,y3.1.1))
def l0 (x:ab ps):A0->R:=ae (s0 K x (l1 K x)) K
def pre (N0:A0->R)(N1:A1->R)(x:ab ps):R:=(Q14.f K ()).bind λy1=>(Q9.f K (x.1,3,())).bind λy2=>bif decide (y2.1.1>0) then (N0 ([],0,y2.2.1.1,y2.2.1.2,y1.1.1)) else ((Q9.f K (y2.2.1,x.2.1,())).bind λy9=>N1 ([],y9.1.1,y9.2.1.1,y9.2.1.2,y1.1.1))
def f (x:ab ps):R:=pre K (l0 K x) (l1 K x) x
def c:Ctr:=⟨100,ps,rs,false,f K⟩
def G:List Ctr:=[Q9.c K,Q14.c K,Q108.c K,Q110.c K,Q105.c K,Q107.c K]
def v1:List (Nat×List Coe):=[(0,[.keep]),(5,[.keep]),(6,[.keep]),(7,[.own false 151 t2]),(9,[.keep]),(100000,[.ro true 5 (.int .u8),.keep]),(100005,Kc1),(100006,[.ro false 33 t26,.ro false 121 t40,.ro false 3 I6,.ro false 46 t2])]
def v0:List (Nat×List Coe):=[(0,[.keep]),(1,[.keep]),(5,[.keep]),(6,[.keep]),(7,[.own false 151 t2]),(8,[.keep]),(100000,[.ro true 5 (.int .u8),.keep]),(100005,Kc1),(100006,[.ro false 33 t26,.ro false 121 t40,.ro false 3 I6,.ro false 46 t2])]
def L:List (Nat×List (Nat×List Coe)):=[(13,v1),(6,v0)]
def body:Code:=cY Tryz.f100
abbrev ev:Code->St->(Ex->St->R)->R:=evK (G K) T_S L K
abbrev fin:Ex->St->R:=du T_S ps rs false Tryz.f100.results.toList
def S0 (x:ab ps)(a:A0):St:=av [(0,⟨0,.one,[.bp 100000 0]⟩),(1,⟨0,.one,[.int .i64 x.2.1]⟩),(5,⟨0,.one,[.bp 100005 0]⟩),(6,⟨0,.one,[.bp 100006 0]⟩),(7,⟨0,.one,[.own false none 151 t2 a.1]⟩),(8,⟨0,.one,[.int .i64 a.2.1]⟩),(100000,⟨0,.agg,[.ro true 5 (.int .u8) a.2.2.1,.int .i64 a.2.2.2.1]⟩),(100005,⟨0,.agg,[.nil,.nil,.nil,.nil]⟩),(100006,⟨0,.agg,(wa5 a.2.2.2.2)⟩)]
def S1 (x:ab ps)(a:A1):St:=av [(0,⟨0,.one,[.bp 100000 0]⟩),(5,⟨0,.one,[.bp 100005 0]⟩),(6,⟨0,.one,[.bp 100006 0]⟩),(7,⟨0,.one,[.own false none 151 t2 a.1]⟩),(9,⟨0,.one,[.int .i64 a.2.1]⟩),(100000,⟨0,.agg,[.ro true 5 (.int .u8) a.2.2.1,.int .i64 a.2.2.2.1]⟩),(100005,⟨0,.agg,[.nil,.nil,.nil,.nil]⟩),(100006,⟨0,.agg,(wa5 a.2.2.2.2)⟩)]
def k1 (x:ab ps):Ex->St->R:=kAt (ev K) body [1,1,1,1,0,1,0] fin
def N1 (x:ab ps):A1->R:=λa=>aY v1 (ev K (sub body [1,1,1,1,0,1,0,0])) K (S1 x a) (k1 K x)
def k0 (x:ab ps):Ex->St->R:=kAt (ev K) body [1,1,1,0,1,0,0,1,0] fin
def N0 (x:ab ps):A0->R:=λa=>aY v0 (ev K (sub body [1,1,1,0,1,0,0,1,0,0])) K (S0 x a) (k0 K x)
end Q111
namespace Q112
abbrev ps:List PK:=[.iop t60]
abbrev rs:List RK:=[.v t63]
abbrev R:=Option (ai rs×ag ps)
def f (x:ab ps):R:=(Q111.f K (x.1,100,())).bind λy1=>some ((y1.1.2.1,()),y1.2.1,())
def c:Ctr:=⟨41,ps,rs,false,f K⟩
end Q112
namespace Q113
abbrev ps:List PK:=[.iop t60,.rd I6]
abbrev rs:List RK:=[.v t2]
abbrev R:=Option (ai rs×ag ps)
def f (x:ab ps):R:=(Q9.f K (x.1,4,())).bind λy1=>(Q9.f K (y1.2.1,3,())).bind λy2=>(Q9.f K (y2.2.1,12,())).bind λy3=>(Q9.f K (y3.2.1,3,())).bind λy4=>(idx ([y2.1.1,y3.1.1,999]) y4.1.1).bind λ_=>(idx ([y2.1.1,y3.1.1,999]) (FK y4.1.1:Nat)).bind λy6=>(Q9.f K (y4.2.1,4,())).bind λy7=>let j1:=(wr .i64 (x.2.1*4))+y1.1.1;(Q13.f K (wr .i64 j1,())).bind λy8=>some (((wr .i64 j1,y6,wr .i64 (1+y7.1.1),y8.1.1),()),y7.2.1,())
def c:Ctr:=⟨231,ps,rs,false,f K⟩
end Q113
namespace Q114
abbrev ps:List PK:=[.iop t60,.rd I6]
abbrev rs:List RK:=[.v (.list true 46 t2)]
abbrev R:=Option (ai rs×ag ps)
abbrev A0:=List (Ty.den t2)×Int×List (Ty.den (.int .u8))×Int
def s0 (x:ab ps)(r0:A0->R)(a:A0):R:=bif decide (a.2.1>0) then (bif decide (x.2.1<0) then ((Q9.f K (a.2.2,2,())).bind λy2=>(Q113.f K (y2.2.1,y2.1.1,())).bind λy3=>(Q32.f K (a.1,y3.1.1,())).bind λy4=>r0 (y4.1.1,wr .i64 (a.2.1-1),y3.2.1)) else ((Q113.f K (a.2.2,x.2.1,())).bind λy5=>(Q32.f K (a.1,y5.1.1,())).bind λy6=>r0 (y6.1.1,wr .i64 (a.2.1-1),y5.2.1))) else (some ((a.1,()),a.2.2,()))
def l0 (x:ab ps):A0->R:=ae (s0 K x) K
def pre (N0:A0->R)(x:ab ps):R:=(Q9.f K (x.1,6,())).bind λy1=>N0 ([],y1.1.1,y1.2.1)
def f (x:ab ps):R:=pre K (l0 K x) x
def c:Ctr:=⟨156,ps,rs,false,f K⟩
end Q114
namespace Q115
abbrev ps:List PK:=[.iop t60]
abbrev rs:List RK:=[.v t2]
abbrev R:=Option (ai rs×ag ps)
def f (x:ab ps):R:=(Q9.f K (x.1,2,())).bind λy1=>(Q113.f K (y1.2.1,y1.1.1,())).bind λy2=>let b1:=y2.1.1.2;(Q9.f K (y2.2.1,12,())).bind λy3=>bif y3.1.1==0 then ((Q9.f K (y3.2.1,2,())).bind λy4=>(idx ([(-1),8]:List (Int)) y4.1.1).bind λ_=>(idx ([(-1),8]:List (Int)) (FK y4.1.1:Nat)).bind λy6=>some (((y6,b1),()),y4.2.1,())) else (bif y3.1.1==1 then ((Q9.f K (y3.2.1,2,())).bind λy7=>let j1:=([(-1),1000]:List (Int));(idx j1 y7.1.1).bind λ_=>(idx j1 (FK y7.1.1:Nat)).bind λy9=>some (((y2.1.1.1,y9,b1.2),()),y7.2.1,())) else (bif y3.1.1==2 then ((Q9.f K (y3.2.1,2,())).bind λy10=>(idx ([0,5]:List (Int)) y10.1.1).bind λ_=>(idx ([0,5]:List (Int)) (FK y10.1.1:Nat)).bind λy12=>some (((y2.1.1.1,b1.1,y12,b1.2.2),()),y10.2.1,())) else (bif y3.1.1==3 then (some (((y2.1.1.1,b1.1,b1.2.1,!b1.2.2),()),y3.2.1,())) else (some ((y2.1.1,()),y3.2.1,())))))
def c:Ctr:=⟨157,ps,rs,false,f K⟩
end Q115
namespace Q116
abbrev ps:List PK:=[.iop t60]
abbrev rs:List RK:=[.v (.list true 46 t2)]
abbrev R:=Option (ai rs×ag ps)
def f (x:ab ps):R:=(Q114.f K (x.1,(-1),())).bind λy1=>bif decide ((FJ y1.1.1:Int)>0) then ((Q9.f K (y1.2.1,12,())).bind λy2=>bif y2.1.1==0 then ((Q9.f K (y2.2.1,(FJ y1.1.1:Int),())).bind λy3=>(Q9.f K (y3.2.1,3,())).bind λy4=>let j1:=(FK y3.1.1:Nat);bif y4.1.1==0 then ((Q115.f K (y4.2.1,())).bind λy5=>(idx y1.1.1 y3.1.1).bind λ_=>(idx y1.1.1 j1).bind λy7=>some ((y1.1.1.set (FK y3.1.1) y5.1.1,()),y5.2.1,())) else (bif y4.1.1==1 then ((idx y1.1.1 y3.1.1).bind λ_=>(idx y1.1.1 j1).bind λy9=>bif decide ((FJ y1.1.1+FJ ([y9]))*32<=am) then (some ((y1.1.1++([y9]),()),y4.2.1,())) else none) else ((idx y1.1.1 y3.1.1).bind λ_=>(idx y1.1.1 j1).bind λy11=>some ((y1.1.1.set (FK y3.1.1) (y11.1,y11.2.1,0,y11.2.2.2),()),y4.2.1,())))) else (some ((y1.1.1,()),y2.2.1,()))) else (some ((y1.1.1,()),y1.2.1,()))
def c:Ctr:=⟨101,ps,rs,false,f K⟩
end Q116
namespace Q117
abbrev ps:List PK:=[.iop t60,.rd I6]
abbrev rs:List RK:=[.v (.list true 133 t3)]
abbrev R:=Option (ai rs×ag ps)
abbrev A0:=List (Ty.den t3)×List (Ty.den t2)×Int×List (Ty.den (.int .u8))×Int
def s0 (x:ab ps)(r0:A0->R)(a:A0):R:=bif decide (a.2.2.1<(FJ a.2.1:Int)) then ((idx a.2.1 a.2.2.1).bind λ_=>(idx a.2.1 (FK a.2.2.1:Nat)).bind λy3=>(Q9.f K (a.2.2.2,4,())).bind λy4=>let j1:=[(y3,wr .i64 (1+y4.1.1))];bif decide ((FJ a.1+FJ j1)*40<=am) then (r0 (a.1++j1,a.2.1,wr .i64 (a.2.2.1+1),y4.2.1)) else none) else (some ((a.1,()),a.2.2.2,()))
def l0 (x:ab ps):A0->R:=ae (s0 K x) K
def pre (N0:A0->R)(x:ab ps):R:=(Q114.f K (x.1,x.2.1,())).bind λy1=>N0 ([],y1.1.1,0,y1.2.1)
def f (x:ab ps):R:=pre K (l0 K x) x
def c:Ctr:=⟨158,ps,rs,false,f K⟩
end Q117
namespace Q118
abbrev ps:List PK:=[.iop t60]
abbrev rs:List RK:=[.v (.list true 133 t3)]
abbrev R:=Option (ai rs×ag ps)
def f (x:ab ps):R:=(Q117.f K (x.1,(-1),())).bind λy1=>bif decide ((FJ y1.1.1:Int)>0) then ((Q9.f K (y1.2.1,10,())).bind λy2=>bif y2.1.1==0 then ((Q9.f K (y2.2.1,(FJ y1.1.1:Int),())).bind λy3=>(Q9.f K (y3.2.1,3,())).bind λy4=>let j1:=(FK y3.1.1:Nat);bif y4.1.1==0 then ((Q9.f K (y4.2.1,2,())).bind λy5=>(idx ([0,5]:List (Int)) y5.1.1).bind λ_=>(idx ([0,5]:List (Int)) (FK y5.1.1:Nat)).bind λy7=>(idx y1.1.1 y3.1.1).bind λ_=>(idx y1.1.1 j1).bind λy9=>some ((y1.1.1.set (FK y3.1.1) (y9.1,y7),()),y5.2.1,())) else (bif y4.1.1==1 then ((Q115.f K (y4.2.1,())).bind λy10=>(idx y1.1.1 y3.1.1).bind λ_=>(idx y1.1.1 j1).bind λy12=>some ((y1.1.1.set (FK y3.1.1) (y10.1.1,y12.2),()),y10.2.1,())) else ((idx y1.1.1 y3.1.1).bind λ_=>(idx y1.1.1 j1).bind λy14=>bif decide ((FJ y1.1.1+FJ ([y14]))*40<=am) then (some ((y1.1.1++([y14]),()),y4.2.1,())) else none))) else (some ((y1.1.1,()),y2.2.1,()))) else (some ((y1.1.1,()),y1.2.1,()))
def c:Ctr:=⟨102,ps,rs,false,f K⟩
end Q118
namespace Q119
abbrev ps:List PK:=[.iop t60]
abbrev rs:List RK:=[.v t9]
abbrev R:=Option (ai rs×ag ps)
def f (x:ab ps):R:=(Q9.f K (x.1,6,())).bind λy1=>bif y1.1.1==0 then ((Q11.f K ()).bind λy2=>some ((y2.1.1,()),y1.2.1,())) else ((Q9.f K (y1.2.1,3,())).bind λy3=>let j1:=([10,1000,100000]:List (Int));(idx j1 y3.1.1).bind λ_=>(idx j1 (FK y3.1.1:Nat)).bind λy5=>(Q9.f K (y3.2.1,wr .i64 ((wr .i64 (2*y5))+1),())).bind λy6=>(Q9.f K (y6.2.1,wr .i64 ((wr .i64 (2*y5))+1),())).bind λy7=>(Q9.f K (y7.2.1,wr .i64 (y5+1),())).bind λy8=>(Q9.f K (y8.2.1,1500,())).bind λy9=>some (((wr .i64 (y6.1.1-y5),wr .i64 (y7.1.1-y5),y8.1.1,wr .i64 (1+y9.1.1)),()),y9.2.1,()))
def c:Ctr:=⟨159,ps,rs,false,f K⟩
end Q119
namespace Q120
abbrev ps:List PK:=[.iop t60]
abbrev rs:List RK:=[.v t9]
abbrev R:=Option (ai rs×ag ps)
def f (x:ab ps):R:=(Q119.f K (x.1,())).bind λy1=>(Q9.f K (y1.2.1,16,())).bind λy2=>bif y2.1.1==0 then ((Q9.f K (y2.2.1,3,())).bind λy3=>let j1:=([100000,100001,(-100001)]:List (Int));(idx j1 y3.1.1).bind λ_=>(idx j1 (FK y3.1.1:Nat)).bind λy5=>some (((y5,y1.1.1.2),()),y3.2.1,())) else (bif y2.1.1==1 then ((Q9.f K (y2.2.1,2,())).bind λy6=>let j2:=([(-1),100001]:List (Int));(idx j2 y6.1.1).bind λ_=>(idx j2 (FK y6.1.1:Nat)).bind λy8=>some (((y1.1.1.1,y1.1.1.2.1,y8,y1.1.1.2.2.2),()),y6.2.1,())) else (bif y2.1.1==2 then ((Q9.f K (y2.2.1,2,())).bind λy9=>(idx ([0,1501]:List (Int)) y9.1.1).bind λ_=>(idx ([0,1501]:List (Int)) (FK y9.1.1:Nat)).bind λy11=>some (((y1.1.1.1,y1.1.1.2.1,y1.1.1.2.2.1,y11),()),y9.2.1,())) else (some ((y1.1.1,()),y2.2.1,()))))
def c:Ctr:=⟨103,ps,rs,false,f K⟩
end Q120
namespace Q121
abbrev ps:List PK:=[.iop t60,.rd t26]
abbrev rs:List RK:=[.v t26]
abbrev R:=Option (ai rs×ag ps)
def f (x:ab ps):R:=(Q106.f K (x.2.1,())).bind λy1=>let b3:=y1.1.1.2;let b1:=b3.2.2.2.2.2.2.2;let b2:=b1.2.2.2;(Q9.f K (x.1,12,())).bind λy2=>bif y2.1.1==0 then ((Q116.f K (y2.2.1,())).bind λy3=>some (((zcp8 y1.1.1 (y3.1.1,b1.2)),()),y3.2.1,())) else (bif y2.1.1==1 then ((Q118.f K (y2.2.1,())).bind λy4=>some (((zcp8 y1.1.1 (b1.1,y4.1.1,b1.2.2)),()),y4.2.1,())) else (bif y2.1.1==2 then (some (((zcp4 y1.1.1 (wr .i64 (b3.2.2.2.1+1),b3.2.2.2.2)),()),y2.2.1,())) else (bif y2.1.1==3 then ((Q9.f K (y2.2.1,9,())).bind λy5=>(Q9.f K (y5.2.1,3,())).bind λy6=>(Q9.f K (y6.2.1,3,())).bind λy7=>(Q9.f K (y7.2.1,2,())).bind λy8=>some (((zcp8 y1.1.1 (b1.1,b1.2.1,(wr .i64 (y5.1.1-1),y6.1.1,y7.1.1,y8.1.1==0),b2)),()),y8.2.1,())) else (bif y2.1.1==4 then ((Q9.f K (y2.2.1,8,())).bind λy9=>(Q9.f K (y9.2.1,8,())).bind λy10=>let j3:=[(y9.1.1,0,0,[y10.1.1])];bif decide ((FJ b2.1+FJ j3)*48<=am) then (some (((zcp8 y1.1.1 (b1.1,b1.2.1,b1.2.2.1,b2.1++j3,b2.2)),()),y10.2.1,())) else none) else (bif y2.1.1==5 then ((Q120.f K (y2.2.1,())).bind λy11=>some (((zcp8 y1.1.1 (zcp4 b1 (y11.1.1,b2.2.2))),()),y11.2.1,())) else (bif y2.1.1==6 then ((Q9.f K (y2.2.1,9,())).bind λy12=>(Q120.f K (y12.2.1,())).bind λy13=>(Q9.f K (y13.2.1,3,())).bind λy14=>let j2:=[(y12.1.1,y13.1.1,[y14.1.1])];bif decide ((FJ b2.2.2.1+FJ j2)*64<=am) then (some (((zcp8 y1.1.1 (zcp4 b1 (b2.2.1,b2.2.2.1++j2,b2.2.2.2))),()),y14.2.1,())) else none) else (bif y2.1.1==7 then ((Q9.f K (y2.2.1,3,())).bind λy15=>(Q116.f K (y15.2.1,())).bind λy16=>bif decide ((FJ b2.2.2.2+FJ ([(y15.1.1,y16.1.1)]))*32<=am) then (some (((zcp8 y1.1.1 (zcp4 b1 (b2.2.1,b2.2.2.1,b2.2.2.2++([(y15.1.1,y16.1.1)])))),()),y16.2.1,())) else none) else (bif y2.1.1==8 then (some (((y1.1.1.1,!b3.1,b3.2),()),y2.2.1,())) else (bif y2.1.1==9 then (some (((y1.1.1.1,b3.1,!b3.2.1,b3.2.2),()),y2.2.1,())) else (bif y2.1.1==10 then ((Q9.f K (y2.2.1,3,())).bind λy17=>let j1:=([(-1),999999,1000000]:List (Int));(idx j1 y17.1.1).bind λ_=>(idx j1 (FK y17.1.1:Nat)).bind λy19=>some (((zcp4 y1.1.1 (b3.2.2.2.1,y19,b3.2.2.2.2.2)),()),y17.2.1,())) else ((Q9.f K (y2.2.1,8,())).bind λy20=>(Q9.f K (y20.2.1,3,())).bind λy21=>(idx ([(-1),8,y20.1.1]) y21.1.1).bind λ_=>(idx ([(-1),8,y20.1.1]) (FK y21.1.1:Nat)).bind λy23=>some (((y23,b3),()),y21.2.1,()))))))))))))
def c:Ctr:=⟨43,ps,rs,false,f K⟩
end Q121
namespace Q122
abbrev ps:List PK:=[.iop t60]
abbrev rs:List RK:=[.v t59]
abbrev R:=Option (ai rs×ag ps)
def f (x:ab ps):R:=(Q9.f K (x.1,8,())).bind λy1=>(Q9.f K (y1.2.1,6,())).bind λy2=>(Q9.f K (y2.2.1,4,())).bind λy3=>(Q9.f K (y3.2.1,9,())).bind λy4=>(Q9.f K (y4.2.1,3,())).bind λy5=>(idx ([y4.1.1,999999,0]) y5.1.1).bind λ_=>(idx ([y4.1.1,999999,0]) (FK y5.1.1:Nat)).bind λy7=>(Q9.f K (y5.2.1,4,())).bind λy8=>(Q119.f K (y8.2.1,())).bind λy9=>(Q114.f K (y9.2.1,wr .i64 (FL y1.1.1 4),())).bind λy10=>let j2:=wr .i64 (FL y1.1.1 4);let j1:=wr .i64 (j2*4);bif (wr .i64 (1+y2.1.1))==6 then ((Q9.f K (y10.2.1,2,())).bind λy11=>(Q114.f K (y11.2.1,y11.1.1,())).bind λy12=>(Q9.f K (y12.2.1,2,())).bind λy13=>bif y13.1.1==0 then ((Q9.f K (y13.2.1,4,())).bind λy14=>some (((2,wr .i64 (1+y2.1.1),y1.1.1,wr .i64 ((wr .i64 ((wr .i64 (1-j2))*4))+y14.1.1),y7,wr .i64 (j1+y8.1.1),y9.1.1,y12.1.1),()),y14.2.1,())) else (some (((1,wr .i64 (1+y2.1.1),y1.1.1,wr .i64 (j1+y3.1.1),y7,wr .i64 (j1+y8.1.1),y9.1.1,y12.1.1),()),y13.2.1,()))) else (some (((1,wr .i64 (1+y2.1.1),y1.1.1,wr .i64 (j1+y3.1.1),y7,wr .i64 (j1+y8.1.1),y9.1.1,y10.1.1),()),y10.2.1,()))
def c:Ctr:=⟨166,ps,rs,false,f K⟩
end Q122
namespace Q123
abbrev ps:List PK:=[.iop t60]
abbrev rs:List RK:=[.v t59]
abbrev R:=Option (ai rs×ag ps)
def f (x:ab ps):R:=(Q122.f K (x.1,())).bind λy1=>let b1:=y1.1.1.2.2.2.2;(Q9.f K (y1.2.1,16,())).bind λy2=>bif y2.1.1==0 then ((Q9.f K (y2.2.1,2,())).bind λy3=>(idx ([0,7]:List (Int)) y3.1.1).bind λ_=>(idx ([0,7]:List (Int)) (FK y3.1.1:Nat)).bind λy5=>some (((y1.1.1.1,y5,y1.1.1.2.2),()),y3.2.1,())) else (bif y2.1.1==1 then ((Q9.f K (y2.2.1,4,())).bind λy6=>some (((y6.1.1,y1.1.1.2),()),y6.2.1,())) else (bif y2.1.1==2 then ((Q120.f K (y2.2.1,())).bind λy7=>some (((zcp4 y1.1.1 (b1.1,b1.2.1,y7.1.1,b1.2.2.2)),()),y7.2.1,())) else (bif y2.1.1==3 then ((Q115.f K (y2.2.1,())).bind λy8=>bif decide ((FJ b1.2.2.2+FJ ([y8.1.1]))*32<=am) then (some (((zcp4 y1.1.1 (b1.1,b1.2.1,b1.2.2.1,b1.2.2.2++([y8.1.1]))),()),y8.2.1,())) else none) else (bif y2.1.1==4 then ((Q9.f K (y2.2.1,2,())).bind λy9=>(idx ([(-1),8]:List (Int)) y9.1.1).bind λ_=>(idx ([(-1),8]:List (Int)) (FK y9.1.1:Nat)).bind λy11=>some (((y1.1.1.1,y1.1.1.2.1,y11,y1.1.1.2.2.2),()),y9.2.1,())) else (bif y2.1.1==5 then ((Q9.f K (y2.2.1,2,())).bind λy12=>let j1:=([(-1),1000000]:List (Int));(idx j1 y12.1.1).bind λ_=>(idx j1 (FK y12.1.1:Nat)).bind λy14=>some (((zcp4 y1.1.1 (y14,b1.2)),()),y12.2.1,())) else (some ((y1.1.1,()),y2.2.1,())))))))
def c:Ctr:=⟨105,ps,rs,false,f K⟩
end Q123
namespace Q124
abbrev ps:List PK:=[.iop t60,.rd t63,.rd t26]
abbrev rs:List RK:=[.v t47]
abbrev R:=Option (ai rs×ag ps)
abbrev A0:=Int×List (Ty.den (.int .u8))×Int
def s0 (x:ab ps)(r0:A0->R)(a:A0):R:=let j1:R:=(Q123.f K (a.2,())).bind λy6=>(Q9.f K (y6.2.1,10,())).bind λy7=>bif decide (y7.1.1>0) then (some (((y6.1.1.1,y6.1.1.2.1,y6.1.1.2.2.1,x.2.2.1.1,y6.1.1.2.2.2.2),()),y7.2.1,())) else (some ((y6.1.1,()),y7.2.1,()));bif decide (a.1<3) then (let j3:=(FJ x.2.1.2.1:Int);bif decide (j3>0) then ((Q9.f K (a.2,j3,())).bind λy1=>(idx x.2.1.2.1 y1.1.1).bind λy2=>(Q73.f K (y2.2.1,())).bind λy3=>let j2:R:=r0 (wr .i64 (a.1+1),y1.2.1);bif y3.1.2.1 then ((Q20.f K (y3.1.1.2.2.2.1,())).bind λy4=>(Q20.f K (x.2.2.1.1,())).bind λy5=>bif y4.1.1==y5.1.1 then (bif y3.1.1.2.2.1 != x.2.2.1.1 then (some (((y3.1.1.1,y3.1.1.2.1,y3.1.1.2.2.1,x.2.2.1.1,y3.1.1.2.2.2.2),()),y1.2.1,())) else j2) else j2) else j2) else j1) else j1
def l0 (x:ab ps):A0->R:=ae (s0 K x) K
def pre (K:Nat)(N0:A0->R)(x:ab ps):R:=N0 (0,x.1)
def f (x:ab ps):R:=pre K (l0 K x) x
def c:Ctr:=⟨44,ps,rs,false,f K⟩
end Q124
namespace Q125
abbrev ps:List PK:=[.rd (.list false 5 (.int .u8))]
abbrev rs:List RK:=[.v t26,.v t47]
abbrev R:=Option (ai rs×ag ps)
def f (x:ab ps):R:=(Q8.f K (x.1,())).bind λy1=>(Q112.f K (y1.1.1,())).bind λy2=>(Q9.f K (y2.2.1,(FJ y2.1.1.1:Int),())).bind λy3=>(idx y2.1.1.1 y3.1.1).bind λy4=>(Q9.f K (y3.2.1,24,())).bind λy5=>bif y5.1.1==0 then ((Q121.f K (y5.2.1,y4,())).bind λy6=>(Q124.f K (y6.2.1,y2.1.1,y6.1.1,())).bind λy7=>some ((y6.1.1,y7.1.1,()),())) else ((Q124.f K (y5.2.1,y2.1.1,y4,())).bind λy8=>some ((y4,y8.1.1,()),()))
def c:Ctr:=⟨12,ps,rs,false,f K⟩
end Q125
namespace Q126
abbrev ps:List PK:=[.rd I6,.rd I6,.rd I6]
abbrev rs:List RK:=[.v .bool]
abbrev R:=Option (ai rs×ag ps)
def f (K:Nat)(x:ab ps):R:=bif decide (x.1>=x.2.1) then (some ((decide (x.1<=x.2.2.1),()),())) else (some ((false,()),()))
def c:Ctr:=⟨80,ps,rs,true,f K⟩
end Q126
namespace Q127
abbrev ps:List PK:=[.rd I6]
abbrev rs:List RK:=[.v .bool]
abbrev R:=Option (ai rs×ag ps)
def f (x:ab ps):R:=(Q126.f K (x.1,0,7,())).bind λy1=>some ((y1.1.1,()),())
def c:Ctr:=⟨79,ps,rs,true,f K⟩
end Q127
namespace Q128
abbrev ps:List PK:=[.rd t26]
abbrev rs:List RK:=[.v .bool]
abbrev R:=Option (ai rs×ag ps)
def f (K:Nat)(x:ab ps):R:=let b2:=x.1.2.2.2.2;let b1:=b2.2.2.2;let j1:R:=some ((false,()),());bif !x.1.2.2.1 then (bif b2.1==0 then (bif b2.2.1==0 then (bif b2.2.2.1==0 then (bif b1.1==0 then (bif (wr .i64 ((wr .i64 ((wr .i64 ((wr .i64 ((FJ b1.2.1:Int)+(FJ b1.2.2.1:Int)))+(FJ b1.2.2.2.2.1:Int)))+(FJ b1.2.2.2.2.2.2.1:Int)))+(FJ b1.2.2.2.2.2.2.2:Int)))==0 then (bif Ty.eqv t2 b1.2.2.2.1 (0,0,0,false) then (some ((Ty.eqv t9 b1.2.2.2.2.2.1 (0,0,0,0),()),())) else j1) else j1) else j1) else j1) else j1) else j1) else j1
def c:Ctr:=⟨81,ps,rs,true,f K⟩
end Q128
namespace Q129
abbrev ps:List PK:=[.rd t2]
abbrev rs:List RK:=[.v .bool]
abbrev R:=Option (ai rs×ag ps)
def f (x:ab ps):R:=(Q127.f K (x.1.1,())).bind λy1=>bif y1.1.1 then ((Q126.f K (x.1.2.1,0,999,())).bind λy2=>bif y2.1.1 then ((Q126.f K (x.1.2.2.1,1,4,())).bind λy3=>some ((y3.1.1,()),())) else (some ((false,()),()))) else (some ((false,()),()))
def c:Ctr:=⟨119,ps,rs,true,f K⟩
end Q129
namespace Q130
abbrev ps:List PK:=[.rd (.list false 46 t2)]
abbrev rs:List RK:=[.v .bool]
abbrev R:=Option (ai rs×ag ps)
abbrev A0:=Int
def s0 (x:ab ps)(r0:A0->R)(a:A0):R:=bif decide (a<(FJ x.1:Int)) then ((idx x.1 a).bind λy1=>(Q129.f K (y1,())).bind λy2=>bif !y2.1.1 then (some ((false,()),())) else (bif decide (a>0) then ((idx x.1 (wr .i64 (a-1))).bind λy3=>bif decide (y1.1<=y3.1) then (some ((false,()),())) else (r0 (wr .i64 (a+1)))) else (r0 (wr .i64 (a+1))))) else (some ((true,()),()))
def l0 (x:ab ps):A0->R:=ae (s0 K x) K
def pre (K:Nat)(N0:A0->R)(x:ab ps):R:=N0 0
def f (x:ab ps):R:=pre K (l0 K x) x
def c:Ctr:=⟨61,ps,rs,true,f K⟩
end Q130
namespace Q131
abbrev ps:List PK:=[.rd (.list false 46 t2),.rd I6,.fn [t2,I6] I6]
abbrev rs:List RK:=[.v I6,.v .bool]
abbrev R:=Option (ai rs×ag ps)
abbrev A0:=Int×Int
def s0 (K:Nat)(x:ab ps)(r0:A0->R)(a:A0):R:=bif decide (a.1<a.2) then (let j1:=FN (wr .u64 (wr .i64 (a.1+a.2))) (2 ^ 1);(idx x.1 (wr .i64 j1)).bind λy1=>(x.2.2.1 (y1,x.2.1,())).bind λy2=>bif decide (y2<0) then (r0 (wr .i64 ((wr .i64 j1)+1),a.2)) else (r0 (a.1,wr .i64 j1))) else (bif decide (a.1<(FJ x.1:Int)) then ((idx x.1 a.1).bind λy3=>(x.2.2.1 (y3,x.2.1,())).bind λy4=>some ((a.1,y4==0,()),())) else (some ((a.1,false,()),())))
def l0 (x:ab ps):A0->R:=ae (s0 K x) K
def pre (K:Nat)(N0:A0->R)(x:ab ps):R:=N0 (0,(FJ x.1:Int))
def f (x:ab ps):R:=pre K (l0 K x) x
def c:Ctr:=⟨122,ps,rs,true,f K⟩
end Q131
namespace Q132
abbrev ps:List PK:=[.rd I6]
abbrev rs:List RK:=[.v .bool]
abbrev R:=Option (ai rs×ag ps)
def f (K:Nat)(x:ab ps):R:=some ((x.1 != x.1,()),())
def c:Ctr:=⟨194,ps,rs,true,f K⟩
end Q132
namespace Q133
abbrev ps:List PK:=[.rd I6,.rd I6]
abbrev rs:List RK:=[.v I6]
abbrev R:=Option (ai rs×ag ps)
def f (x:ab ps):R:=(Q132.f K (x.1,())).bind λy1=>(Q132.f K (x.2.1,())).bind λy2=>bif y1.1.1 then (bif y2.1.1 then (some ((0,()),())) else (some (((-1),()),()))) else (bif y2.1.1 then (some ((1,()),())) else (bif decide (x.1<x.2.1) then (some (((-1),()),())) else (bif decide (x.1>x.2.1) then (some ((1,()),())) else (some ((0,()),())))))
def c:Ctr:=⟨124,ps,rs,true,f K⟩
end Q133
namespace Q134
abbrev ps:List PK:=[.rd t2,.rd I6]
abbrev rs:List RK:=[.v I6]
abbrev R:=Option (ai rs×ag ps)
def f (x:ab ps):R:=(Q133.f K (x.1.1,x.2.1,())).bind λy1=>some ((y1.1.1,()),())
def c:Ctr:=⟨123,ps,rs,true,f K⟩
end Q134
namespace Q135
abbrev ps:List PK:=[.rd (.list false 46 t2),.rd I6]
abbrev rs:List RK:=[.v I6,.v .bool]
abbrev R:=Option (ai rs×ag ps)
def f (x:ab ps):R:=(Q131.f K (x.1,x.2.1,λy1=>(Q134.f K (y1.1,y1.2.1,())).map λy=>y.1.1,())).bind λy2=>some ((y2.1.1,y2.1.2.1,()),())
def c:Ctr:=⟨64,ps,rs,true,f K⟩
end Q135
namespace Q136
abbrev ps:List PK:=[.rd (.list false 46 t2),.rd I6]
abbrev rs:List RK:=[.v t2,.v .bool]
abbrev R:=Option (ai rs×ag ps)
def f (x:ab ps):R:=(Q130.f K (x.1,())).bind λy1=>let j1:=(((0,0,0,false),false,()),());bif !y1.1.1 then (some j1) else ((Q135.f K (x.1,x.2.1,())).bind λy2=>bif !y2.1.2.1 then (some j1) else ((idx x.1 y2.1.1).bind λy3=>some ((y3,true,()),())))
def c:Ctr:=⟨20,ps,rs,true,f K⟩
end Q136
namespace Q137
abbrev ps:List PK:=[.rd (.list false 46 t2),.fn [t2] .bool]
abbrev rs:List RK:=[.v I6]
abbrev R:=Option (ai rs×ag ps)
abbrev A0:=Int
def s0 (K:Nat)(x:ab ps)(r0:A0->R)(a:A0):R:=bif decide (a<(FJ x.1:Int)) then ((idx x.1 a).bind λy1=>(x.2.1 (y1,())).bind λy2=>bif y2 then (some ((a,()),())) else (r0 (wr .i64 (a+1)))) else (some (((-1),()),()))
def l0 (x:ab ps):A0->R:=ae (s0 K x) K
def pre (K:Nat)(N0:A0->R)(x:ab ps):R:=N0 0
def f (x:ab ps):R:=pre K (l0 K x) x
def c:Ctr:=⟨190,ps,rs,true,f K⟩
end Q137
namespace Q138
abbrev ps:List PK:=[.rd (.list false 46 t2),.fn [t2] .bool]
abbrev rs:List RK:=[.v .bool]
abbrev R:=Option (ai rs×ag ps)
def f (x:ab ps):R:=(Q137.f K (x.1,x.2.1,())).bind λy1=>some ((decide (y1.1.1>=0),()),())
def c:Ctr:=⟨117,ps,rs,true,f K⟩
end Q138
namespace Q139
abbrev ps:List PK:=[.rd I6]
abbrev rs:List RK:=[.v I6]
abbrev R:=Option (ai rs×ag ps)
def f (K:Nat)(x:ab ps):R:=some ((wr .i64 (FL x.1 4),()),())
def c:Ctr:=⟨55,ps,rs,true,f K⟩
end Q139
namespace Q140
abbrev ps:List PK:=[.rd t2,.rref I6]
abbrev rs:List RK:=[.v .bool]
abbrev R:=Option (ai rs×ag ps)
def f (x:ab ps):R:=(Q139.f K (x.1.1,())).bind λy1=>some ((y1.1.1 != x.2.1,()),())
def c:Ctr:=⟨118,ps,rs,true,f K⟩
end Q140
namespace Q141
abbrev ps:List PK:=[.rd (.list false 46 t2),.rd I6]
abbrev rs:List RK:=[.v .bool]
abbrev R:=Option (ai rs×ag ps)
def f (x:ab ps):R:=(Q138.f K (x.1,λy1=>(Q140.f K (y1.1,x.2.1,())).map λy=>y.1.1,())).bind λy2=>some ((!y2.1.1,()),())
def c:Ctr:=⟨53,ps,rs,true,f K⟩
end Q141
namespace Q142
abbrev ps:List PK:=[.rd t26]
abbrev rs:List RK:=[.v I6]
abbrev R:=Option (ai rs×ag ps)
def f (x:ab ps):R:=(Q139.f K (x.1.1,())).bind λy1=>some ((y1.1.1,()),())
def c:Ctr:=⟨54,ps,rs,true,f K⟩
end Q142
namespace Q143
abbrev ps:List PK:=[.rd (.list false 133 t3),.fn [t3] .bool]
abbrev rs:List RK:=[.v I6]
abbrev R:=Option (ai rs×ag ps)
abbrev A0:=Int
def s0 (K:Nat)(x:ab ps)(r0:A0->R)(a:A0):R:=bif decide (a<(FJ x.1:Int)) then ((idx x.1 a).bind λy1=>(x.2.1 (y1,())).bind λy2=>bif y2 then (some ((a,()),())) else (r0 (wr .i64 (a+1)))) else (some (((-1),()),()))
def l0 (x:ab ps):A0->R:=ae (s0 K x) K
def pre (K:Nat)(N0:A0->R)(x:ab ps):R:=N0 0
def f (x:ab ps):R:=pre K (l0 K x) x
def c:Ctr:=⟨205,ps,rs,true,f K⟩
end Q143
namespace Q144
abbrev ps:List PK:=[.rd (.list false 133 t3),.fn [t3] .bool]
abbrev rs:List RK:=[.v .bool]
abbrev R:=Option (ai rs×ag ps)
def f (x:ab ps):R:=(Q143.f K (x.1,x.2.1,())).bind λy1=>some ((decide (y1.1.1>=0),()),())
def c:Ctr:=⟨135,ps,rs,true,f K⟩
end Q144
namespace Q145
abbrev ps:List PK:=[.rd t3]
abbrev rs:List RK:=[.v .bool]
abbrev R:=Option (ai rs×ag ps)
def f (x:ab ps):R:=(Q126.f K (x.1.2,1,4,())).bind λy1=>some ((!y1.1.1,()),())
def c:Ctr:=⟨203,ps,rs,true,f K⟩
end Q145
namespace Q146
abbrev ps:List PK:=[.rd (.list false 133 t3)]
abbrev rs:List RK:=[.v (.list true 46 t2)]
abbrev R:=Option (ai rs×ag ps)
abbrev A0:=List (Ty.den t2)×Int
def s0 (K:Nat)(x:ab ps)(r0:A0->R)(a:A0):R:=bif decide (a.2<(FJ x.1:Int)) then ((idx x.1 a.2).bind λy1=>bif decide ((FJ a.1+FJ ([y1.1]))*32<=am) then (r0 (a.1++([y1.1]),wr .i64 (a.2+1))) else none) else (some ((a.1,()),()))
def l0 (x:ab ps):A0->R:=ae (s0 K x) K
def pre (K:Nat)(N0:A0->R)(x:ab ps):R:=N0 ([],0)
def f (x:ab ps):R:=pre K (l0 K x) x
def c:Ctr:=⟨204,ps,rs,true,f K⟩
end Q146
namespace Q147
abbrev ps:List PK:=[.rd (.list false 133 t3)]
abbrev rs:List RK:=[.v .bool]
abbrev R:=Option (ai rs×ag ps)
def f (x:ab ps):R:=(Q146.f K (x.1,())).bind λy1=>(Q130.f K (y1.1.1,())).bind λy2=>bif y2.1.1 then ((Q144.f K (x.1,λy3=>(Q145.f K (y3.1,())).map λy=>y.1.1,())).bind λy4=>some ((!y4.1.1,()),())) else (some ((false,()),()))
def c:Ctr:=⟨134,ps,rs,true,f K⟩
end Q147
namespace Q148
abbrev ps:List PK:=[.rd (.list false 3 I6)]
abbrev rs:List RK:=[.v I6]
abbrev R:=Option (ai rs×ag ps)
abbrev A0:=Int
def s0 (K:Nat)(x:ab ps)(r0:A0->R)(a:A0):R:=bif decide (a<(FJ x.1:Int)) then ((idx x.1 a).bind λy1=>bif y1 != 0 then (some ((y1,()),())) else (r0 (wr .i64 (a+1)))) else (some ((0,()),()))
def l0 (x:ab ps):A0->R:=ae (s0 K x) K
def pre (K:Nat)(N0:A0->R)(x:ab ps):R:=N0 0
def f (x:ab ps):R:=pre K (l0 K x) x
def c:Ctr:=⟨193,ps,rs,true,f K⟩
end Q148
namespace Q149
abbrev ps:List PK:=[.rd t2,.rd t2]
abbrev rs:List RK:=[.v I6]
abbrev R:=Option (ai rs×ag ps)
def f (x:ab ps):R:=let j3:=(x.1.2.2.1,x.2.1.2.2.1,());let j4:=(x.1.2.1,x.2.1.2.1,());let j2:R:=(Q133.f K (x.1.1,x.2.1.1,())).bind λy9=>(Q133.f K j4).bind λy10=>(Q133.f K j3).bind λy11=>(Q148.f K ([y9.1.1,y10.1.1,y11.1.1,0],())).bind λy12=>some ((y12.1.1,()),());let j1:R:=bif x.2.1.2.2.2 then (bif !x.1.2.2.2 then ((Q133.f K (x.1.1,x.2.1.1,())).bind λy5=>(Q133.f K j4).bind λy6=>(Q133.f K j3).bind λy7=>(Q148.f K ([y5.1.1,y6.1.1,y7.1.1,(-1)],())).bind λy8=>some ((y8.1.1,()),())) else j2) else j2;bif x.1.2.2.2 then (bif !x.2.1.2.2.2 then ((Q133.f K (x.1.1,x.2.1.1,())).bind λy1=>(Q133.f K j4).bind λy2=>(Q133.f K j3).bind λy3=>(Q148.f K ([y1.1.1,y2.1.1,y3.1.1,1],())).bind λy4=>some ((y4.1.1,()),())) else j1) else j1
def c:Ctr:=⟨121,ps,rs,true,f K⟩
end Q149
namespace Q150
abbrev ps:List PK:=[.rd t2,.rd t2]
abbrev rs:List RK:=[.v .bool]
abbrev R:=Option (ai rs×ag ps)
def f (x:ab ps):R:=(Q129.f K (x.1,())).bind λy1=>let j1:R:=some ((false,()),());bif y1.1.1 then ((Q129.f K (x.2.1,())).bind λy2=>bif y2.1.1 then (bif x.1.1==x.2.1.1 then ((Q149.f K (x.1,x.2.1,())).bind λy3=>some ((decide (y3.1.1>0),()),())) else j1) else j1) else j1
def c:Ctr:=⟨93,ps,rs,true,f K⟩
end Q150
namespace Q151
abbrev ps:List PK:=[.rd t3,.rref t26]
abbrev rs:List RK:=[.v .bool]
abbrev R:=Option (ai rs×ag ps)
def f (x:ab ps):R:=(Q136.f K (x.2.1.2.2.2.2.2.2.2.2.1,x.1.1.1,())).bind λy1=>bif !y1.1.2.1 then (some ((true,()),())) else ((Q150.f K (x.1.1,y1.1.1,())).bind λy2=>some ((y2.1.1,()),()))
def c:Ctr:=⟨136,ps,rs,true,f K⟩
end Q151
namespace Q152
abbrev ps:List PK:=[.rd t26]
abbrev rs:List RK:=[.v .bool]
abbrev R:=Option (ai rs×ag ps)
def f (x:ab ps):R:=let b2:=x.1.2.2.2;let b1:=b2.2.2.2.2.2;let j2:R:=some ((false,()),());let j1:R:=(Q142.f K (x.1,())).bind λy2=>(Q141.f K (b1.1,y2.1.1,())).bind λy3=>bif !y3.1.1 then j2 else ((Q147.f K (b1.2.1,())).bind λy4=>bif !y4.1.1 then j2 else ((Q144.f K (b1.2.1,λy5=>(Q151.f K (y5.1,x.1,())).map λy=>y.1.1,())).bind λy6=>some ((!y6.1.1,()),())));let j3:=(b1.1,x.1.1,());bif x.1.2.2.1 then ((Q136.f K j3).bind λy1=>bif !y1.1.2.1 then j2 else (bif !Ty.eqv t2 y1.1.1 (x.1.1,b2.2.1,4,b2.1) then j2 else j1)) else ((Q136.f K j3).bind λy7=>bif !y7.1.2.1 then j2 else (bif !Ty.eqv t2 y7.1.1 (x.1.1,b2.2.1,1,b2.1) then j2 else j1))
def c:Ctr:=⟨82,ps,rs,true,f K⟩
end Q152
namespace Q153
abbrev ps:List PK:=[.rd t26]
abbrev rs:List RK:=[.v .bool]
abbrev R:=Option (ai rs×ag ps)
def f (x:ab ps):R:=let b2:=x.1.2.2.2.2.2;let b1:=b2.2.2.2.2.2.1;bif b1.1==(-1) then (some ((Ty.eqv t2 b1 ((-1),0,0,false),()),())) else ((Q136.f K (b2.2.2.2.1,b1.1,())).bind λy1=>let j1:R:=some ((false,()),());bif y1.1.2.1 then (bif b1.1 != x.1.1 then ((Q126.f K (b1.2.1,0,b2.1,())).bind λy2=>bif y2.1.1 then ((Q126.f K (b1.2.2.1,1,b2.2.1,())).bind λy3=>some ((y3.1.1,()),())) else j1) else j1) else j1)
def c:Ctr:=⟨83,ps,rs,true,f K⟩
end Q153
namespace Q154
abbrev ps:List PK:=[.rd t26,.rd I6]
abbrev rs:List RK:=[.v .bool]
abbrev R:=Option (ai rs×ag ps)
def f (x:ab ps):R:=(Q127.f K (x.2.1,())).bind λy1=>bif y1.1.1 then ((Q139.f K (x.2.1,())).bind λy2=>(Q142.f K (x.1,())).bind λy3=>some ((y2.1.1==y3.1.1,()),())) else (some ((false,()),()))
def c:Ctr:=⟨52,ps,rs,true,f K⟩
end Q154
namespace Q155
abbrev ps:List PK:=[.rd t26]
abbrev rs:List RK:=[.v .bool]
abbrev R:=Option (ai rs×ag ps)
abbrev A2:=List (Ty.den t2)×Int×List (Ty.den I6)×Int×Int×Int×Int×Int×List (Ty.den I6)
abbrev A1:=List (Ty.den t2)×Int
abbrev A0:=List (Ty.den t2)×Int
def s2 (x:ab ps)(r1:A1->R)(r2:A2->R)(a:A2):R:=let b1:=a.2.2.2.2;bif decide (b1.1<a.2.2.2.1) then ((idx a.2.2.1 b1.1).bind λy8=>(Q154.f K (x.1,y8,())).bind λy9=>bif !y9.1.1 then (some ((false,()),())) else (let j1:=(zcp4 a (wr .i64 (b1.1+1),b1.2));bif decide (b1.1>0) then ((idx b1.2.2.2.2 (wr .i64 (b1.1-1))).bind λy10=>bif decide (y8<=y10) then (some ((false,()),())) else (r2 j1)) else (r2 j1))) else (r1 (a.1,wr .i64 (a.2.1+1)))
def l2 (x:ab ps)(r1:A1->R):A2->R:=ae (s2 K x r1) K
def s1 (x:ab ps)(N2:A2->R)(r1:A1->R)(a:A1):R:=bif decide (a.2<(FJ x.1.2.2.2.2.2.2.2.2.2.2.2.1:Int)) then ((idx x.1.2.2.2.2.2.2.2.2.2.2.2.1 a.2).bind λy2=>(idx a.1 a.2).bind λ_=>(idx a.1 (FK a.2:Nat)).bind λy4=>let j1:R:=some ((false,()),());bif y2.1 != y4.1 then j1 else ((idx a.1 a.2).bind λ_=>(idx a.1 (FK a.2:Nat)).bind λy6=>bif y2.2.1 != y6.2.1 then j1 else ((Q126.f K (y2.2.2.1,0,x.1.2.2.2.2.2.1,())).bind λy7=>bif !y7.1.1 then j1 else (let j2:=(FJ y2.2.2.2:Int);bif j2==0 then j1 else (N2 (a.1,a.2,y2.2.2.2,j2,0,y2)))))) else (some ((true,()),()))
def l1 (x:ab ps):A1->R:=ae (λr1 a=>s1 K x (l2 K x r1) r1 a) K
def s0 (K:Nat)(x:ab ps)(N1:A1->R)(r0:A0->R)(a:A0):R:=let b1:=x.1.2.2.2.2.2.2.2.2;bif decide (a.2<(FJ b1.1:Int)) then ((idx b1.1 a.2).bind λy1=>bif y1.2.2.1==2 then (bif decide ((FJ a.1+FJ ([y1]))*32<=am) then (r0 (a.1++([y1]),wr .i64 (a.2+1))) else none) else (r0 (a.1,wr .i64 (a.2+1)))) else (bif (FJ b1.2.2.2.1:Int) != (FJ a.1:Int) then (some ((false,()),())) else (N1 (a.1,0)))
def l0 (x:ab ps):A0->R:=ae (s0 K x (l1 K x)) K
def pre (K:Nat)(N0:A0->R)(x:ab ps):R:=N0 ([],0)
def f (x:ab ps):R:=pre K (l0 K x) x
def c:Ctr:=⟨84,ps,rs,true,f K⟩
def G:List Ctr:=[Q154.c K,Q126.c K]
def v2:List (Nat×List Coe):=[(1,[.keep]),(3,[.own false 46 t2]),(7,[.keep]),(32,[.ro true 86 t6]),(33,[.keep]),(34,[.keep]),(72,[.ro true 3 I6]),(73,[.keep]),(74,[.keep]),(100001,Kc0),(100007,Kc5)]
def v1:List (Nat×List Coe):=[(1,[.keep]),(3,[.own false 46 t2]),(32,[.ro true 86 t6]),(33,[.keep]),(34,[.keep]),(100001,Kc0)]
def v0:List (Nat×List Coe):=[(1,[.keep]),(3,[.own false 46 t2]),(11,[.ro true 46 t2]),(12,[.keep]),(13,[.keep]),(100001,Kc0)]
def L:List (Nat×List (Nat×List Coe)):=[(17,v2),(12,v1),(4,v0)]
def body:Code:=cY Tryz.f84
abbrev ev:Code->St->(Ex->St->R)->R:=evK (G K) T_NL L K
abbrev fin:Ex->St->R:=du T_NL ps rs true Tryz.f84.results.toList
def S0 (x:ab ps)(a:A0):St:=av [(1,⟨0,.one,[.bp 100001 0]⟩),(3,⟨0,.one,[.own false none 46 t2 a.1]⟩),(11,⟨0,.one,[.ro true 46 t2 x.1.2.2.2.2.2.2.2.2.1]⟩),(12,⟨0,.one,[.int .i64 (FJ x.1.2.2.2.2.2.2.2.2.1:Int)]⟩),(13,⟨0,.one,[.int .i64 a.2]⟩),(100001,⟨0,.agg,(w1 x.1)⟩)]
def S1 (x:ab ps)(a:A1):St:=av [(1,⟨0,.one,[.bp 100001 0]⟩),(3,⟨0,.one,[.own false none 46 t2 a.1]⟩),(32,⟨0,.one,[.ro true 86 t6 x.1.2.2.2.2.2.2.2.2.2.2.2.1]⟩),(33,⟨0,.one,[.int .i64 (FJ x.1.2.2.2.2.2.2.2.2.2.2.2.1:Int)]⟩),(34,⟨0,.one,[.int .i64 a.2]⟩),(100001,⟨0,.agg,(w1 x.1)⟩)]
def S2 (x:ab ps)(a:A2):St:=av [(1,⟨0,.one,[.bp 100001 0]⟩),(3,⟨0,.one,[.own false none 46 t2 a.1]⟩),(7,⟨0,.one,[.bp 100007 0]⟩),(32,⟨0,.one,[.ro true 86 t6 x.1.2.2.2.2.2.2.2.2.2.2.2.1]⟩),(33,⟨0,.one,[.int .i64 (FJ x.1.2.2.2.2.2.2.2.2.2.2.2.1:Int)]⟩),(34,⟨0,.one,[.int .i64 a.2.1]⟩),(72,⟨0,.one,[.ro true 3 I6 a.2.2.1]⟩),(73,⟨0,.one,[.int .i64 a.2.2.2.1]⟩),(74,⟨0,.one,[.int .i64 a.2.2.2.2.1]⟩),(100001,⟨0,.agg,(w1 x.1)⟩),(100007,⟨0,.agg,(wa0 a.2.2.2.2.2)⟩)]
def k0 (x:ab ps):Ex->St->R:=kAt (ev K) body [1,1,0,1,0] fin
def N0 (x:ab ps):A0->R:=λa=>aY v0 (ev K (sub body [1,1,0,1,0,0])) K (S0 x a) (k0 K x)
def k1 (x:ab ps):Ex->St->R:=kAt (ev K) body [1,1,1,1,0,1,0] fin
def N1 (x:ab ps):A1->R:=λa=>aY v1 (ev K (sub body [1,1,1,1,0,1,0,0])) K (S1 x a) (k1 K x)
def k2 (x:ab ps)(q1:St->R):Ex->St->R:=kAt (ev K) (sub body [1,1,1,1,0,1,0,0]) [1,1,0,0,1,1,1,0] (iq v1 q1 (k1 K x))
def N2 (x:ab ps)(q1:St->R):A2->R:=λa=>aY v2 (ev K (sub body [1,1,1,1,0,1,0,0,1,1,0,0,1,1,1,0,0])) K (S2 x a) (k2 K x q1)
end Q155
namespace Q156
abbrev ps:List PK:=[.rd t9]
abbrev rs:List RK:=[.v .bool]
abbrev R:=Option (ai rs×ag ps)
def f (x:ab ps):R:=(Q126.f K (x.1.1,(-100000),100000,())).bind λy1=>let j1:R:=some ((false,()),());bif y1.1.1 then ((Q126.f K (x.1.2.1,(-100000),100000,())).bind λy2=>bif y2.1.1 then ((Q126.f K (x.1.2.2.1,0,100000,())).bind λy3=>bif y3.1.1 then ((Q126.f K (x.1.2.2.2,1,1500,())).bind λy4=>some ((y4.1.1,()),())) else j1) else j1) else j1
def c:Ctr:=⟨85,ps,rs,true,f K⟩
end Q156
namespace Q157
abbrev ps:List PK:=[.rd t26,.rd I6]
abbrev rs:List RK:=[.v .bool]
abbrev R:=Option (ai rs×ag ps)
def f (x:ab ps):R:=(Q154.f K (x.1,x.2.1,())).bind λy1=>bif y1.1.1 then (some ((x.2.1 != x.1.1,()),())) else (some ((false,()),()))
def c:Ctr:=⟨110,ps,rs,true,f K⟩
end Q157
namespace Q158
abbrev ps:List PK:=[.rd I6]
abbrev rs:List RK:=[.v .bool]
abbrev R:=Option (ai rs×ag ps)
def f (x:ab ps):R:=(Q126.f K (x.1,1,60000,())).bind λy1=>some ((!y1.1.1,()),())
def c:Ctr:=⟨137,ps,rs,true,f K⟩
end Q158
namespace Q159
abbrev ps:List PK:=[.rd (.list false 3 I6),.fn [I6] .bool]
abbrev rs:List RK:=[.v I6]
abbrev R:=Option (ai rs×ag ps)
abbrev A0:=Int
def s0 (K:Nat)(x:ab ps)(r0:A0->R)(a:A0):R:=bif decide (a<(FJ x.1:Int)) then ((idx x.1 a).bind λy1=>(x.2.1 (y1,())).bind λy2=>bif y2 then (some ((a,()),())) else (r0 (wr .i64 (a+1)))) else (some (((-1),()),()))
def l0 (x:ab ps):A0->R:=ae (s0 K x) K
def pre (K:Nat)(N0:A0->R)(x:ab ps):R:=N0 0
def f (x:ab ps):R:=pre K (l0 K x) x
def c:Ctr:=⟨206,ps,rs,true,f K⟩
end Q159
namespace Q160
abbrev ps:List PK:=[.rd (.list false 3 I6),.fn [I6] .bool]
abbrev rs:List RK:=[.v .bool]
abbrev R:=Option (ai rs×ag ps)
def f (x:ab ps):R:=(Q159.f K (x.1,x.2.1,())).bind λy1=>some ((decide (y1.1.1>=0),()),())
def c:Ctr:=⟨138,ps,rs,true,f K⟩
end Q160
namespace Q161
abbrev ps:List PK:=[.rd t26]
abbrev rs:List RK:=[.v .bool]
abbrev R:=Option (ai rs×ag ps)
abbrev A0:=Int
def s0 (x:ab ps)(r0:A0->R)(a:A0):R:=let b1:=x.1.2.2.2.2.2.2.2.2.2.2.2.2.2.1;bif decide (a<(FJ b1:Int)) then ((idx b1 a).bind λy1=>(Q157.f K (x.1,y1.1,())).bind λy2=>let j2:R:=some ((false,()),());bif !y2.1.1 then j2 else (let j1:R:=(Q156.f K (y1.2.1,())).bind λy4=>bif !y4.1.1 then j2 else ((Q126.f K ((FJ y1.2.2:Int),1,3,())).bind λy5=>bif !y5.1.1 then j2 else ((Q160.f K (y1.2.2,λy6=>(Q158.f K (y6.1,())).map λy=>y.1.1,())).bind λy7=>bif y7.1.1 then j2 else (r0 (wr .i64 (a+1)))));bif decide (a>0) then ((idx b1 (wr .i64 (a-1))).bind λy3=>bif decide (y1.1<=y3.1) then j2 else j1) else j1)) else (some ((true,()),()))
def l0 (x:ab ps):A0->R:=ae (s0 K x) K
def pre (K:Nat)(N0:A0->R)(x:ab ps):R:=N0 0
def f (x:ab ps):R:=pre K (l0 K x) x
def c:Ctr:=⟨86,ps,rs,true,f K⟩
end Q161
namespace Q162
abbrev ps:List PK:=[.rd t26]
abbrev rs:List RK:=[.v .bool]
abbrev R:=Option (ai rs×ag ps)
abbrev A0:=Int
def s0 (x:ab ps)(r0:A0->R)(a:A0):R:=let b1:=x.1.2.2.2.2.2.2.2.2.2.2.2.2.2.2;bif decide (a<(FJ b1:Int)) then ((idx b1 a).bind λy1=>(Q139.f K (7,())).bind λy2=>(Q126.f K (y1.1,0,y2.1.1,())).bind λy3=>let j2:R:=some ((false,()),());bif !y3.1.1 then j2 else ((Q142.f K (x.1,())).bind λy4=>bif y1.1==y4.1.1 then j2 else (let j1:R:=bif (FJ y1.2:Int)==0 then j2 else ((Q130.f K (y1.2,())).bind λy6=>bif !y6.1.1 then j2 else ((Q141.f K (y1.2,y1.1,())).bind λy7=>bif !y7.1.1 then j2 else (r0 (wr .i64 (a+1)))));bif decide (a>0) then ((idx b1 (wr .i64 (a-1))).bind λy5=>bif decide (y1.1<=y5.1) then j2 else j1) else j1))) else (some ((true,()),()))
def l0 (x:ab ps):A0->R:=ae (s0 K x) K
def pre (K:Nat)(N0:A0->R)(x:ab ps):R:=N0 0
def f (x:ab ps):R:=pre K (l0 K x) x
def c:Ctr:=⟨87,ps,rs,true,f K⟩
end Q162
namespace Q163
abbrev ps:List PK:=[.rd t26]
abbrev rs:List RK:=[.v .bool]
abbrev R:=Option (ai rs×ag ps)
def f (x:ab ps):R:=let b1:=x.1.2.2.2.2;(Q127.f K (x.1.1,())).bind λy1=>let j1:R:=some ((false,()),());bif !y1.1.1 then j1 else ((Q126.f K (b1.2.1,0,999999,())).bind λy2=>bif !y2.1.1 then j1 else ((Q126.f K (b1.2.2.1,0,999999,())).bind λy3=>bif !y3.1.1 then j1 else ((Q126.f K (b1.2.2.2.1,0,8,())).bind λy4=>bif !y4.1.1 then j1 else ((Q126.f K (b1.1,0,999,())).bind λy5=>bif !y5.1.1 then j1 else (bif !x.1.2.1 then ((Q128.f K (x.1,())).bind λy6=>some ((y6.1.1,()),())) else ((Q152.f K (x.1,())).bind λy7=>bif y7.1.1 then ((Q153.f K (x.1,())).bind λy8=>bif y8.1.1 then ((Q155.f K (x.1,())).bind λy9=>bif y9.1.1 then ((Q156.f K (b1.2.2.2.2.2.2.2.2.1,())).bind λy10=>bif y10.1.1 then ((Q161.f K (x.1,())).bind λy11=>bif y11.1.1 then ((Q162.f K (x.1,())).bind λy12=>some ((y12.1.1,()),())) else j1) else j1) else j1) else j1) else j1))))))
def c:Ctr:=⟨26,ps,rs,true,f K⟩
end Q163
namespace Q164
abbrev ps:List PK:=[.rd t47]
abbrev rs:List RK:=[.v .bool]
abbrev R:=Option (ai rs×ag ps)
def f (x:ab ps):R:=let b1:=x.1.2.2.2.2.2;(Q126.f K (x.1.1,1,2,())).bind λy1=>let j1:R:=some ((false,()),());bif !y1.1.1 then j1 else ((Q126.f K (x.1.2.1,1,6,())).bind λy2=>bif !y2.1.1 then j1 else ((Q127.f K (x.1.2.2.1,())).bind λy3=>bif !y3.1.1 then j1 else ((Q127.f K (x.1.2.2.2.1,())).bind λy4=>bif !y4.1.1 then j1 else ((Q127.f K (b1.1,())).bind λy5=>bif !y5.1.1 then j1 else ((Q126.f K (x.1.2.2.2.2.1,0,999999,())).bind λy6=>bif !y6.1.1 then j1 else ((Q156.f K (b1.2.1,())).bind λy7=>bif !y7.1.1 then j1 else ((Q130.f K (b1.2.2,())).bind λy8=>bif !y8.1.1 then j1 else (bif x.1.2.1==6 then (bif decide ((FJ b1.2.2:Int)>0) then ((idx b1.2.2 0).bind λy9=>(Q139.f K (y9.1,())).bind λy10=>(Q141.f K (b1.2.2,y10.1.1,())).bind λy11=>some ((y11.1.1,()),())) else j1) else ((Q139.f K (x.1.2.2.1,())).bind λy12=>(Q141.f K (b1.2.2,y12.1.1,())).bind λy13=>some ((y13.1.1,()),()))))))))))
def c:Ctr:=⟨50,ps,rs,true,f K⟩
end Q164
namespace Q165
abbrev ps:List PK:=[.rd t26]
abbrev rs:List RK:=[.v .bool]
abbrev R:=Option (ai rs×ag ps)
def f (K:Nat)(x:ab ps):R:=bif x.1.2.1 then (some ((!x.1.2.2.1,()),())) else (some ((false,()),()))
def c:Ctr:=⟨51,ps,rs,true,f K⟩
end Q165
namespace Q166
abbrev ps:List PK:=[.rd t26,.rd t47]
abbrev rs:List RK:=[.v .bool]
abbrev R:=Option (ai rs×ag ps)
def f (x:ab ps):R:=let b1:=x.2.1.2.2;(Q163.f K (x.1,())).bind λy1=>let j1:R:=some ((false,()),());bif !y1.1.1 then j1 else ((Q164.f K (x.2.1,())).bind λy2=>bif !y2.1.1 then j1 else ((Q165.f K (x.1,())).bind λy3=>bif !y3.1.1 then j1 else (bif b1.2.1 != x.1.1 then j1 else (bif b1.1==x.1.1 then j1 else (bif x.2.1.1==1 then ((Q154.f K (x.1,b1.1,())).bind λy4=>bif y4.1.1 then (bif x.2.1.2.1 != 6 then (some ((true,()),())) else ((Q142.f K (x.1,())).bind λy5=>(Q141.f K (b1.2.2.2.2.2,y5.1.1,())).bind λy6=>some ((!y6.1.1,()),()))) else j1) else (bif x.2.1.2.1==6 then ((Q154.f K (x.1,b1.1,())).bind λy7=>bif !y7.1.1 then ((Q139.f K (b1.1,())).bind λy8=>(Q141.f K (b1.2.2.2.2.2,y8.1.1,())).bind λy9=>bif y9.1.1 then (some ((true,()),())) else ((Q142.f K (x.1,())).bind λy10=>(Q141.f K (b1.2.2.2.2.2,y10.1.1,())).bind λy11=>some ((y11.1.1,()),()))) else j1) else j1))))))
def c:Ctr:=⟨15,ps,rs,true,f K⟩
end Q166
namespace Q167
abbrev ps:List PK:=[.rref t26,.rref t26,.rref t47]
abbrev rs:List RK:=[.v (.list true 35 t59)]
abbrev R:=Option (ai rs×ag ps)
def f (x:ab ps):R:=(Q166.f K (x.2.1,x.2.2.1,())).bind λy1=>bif !y1.1.1 then (some (([],()),())) else none
def c:Ctr:=⟨46,ps,rs,true,f K⟩
end Q167
namespace Q168
abbrev ps:List PK:=[.rd t26]
abbrev rs:List RK:=[.v t95]
abbrev R:=Option (ai rs×ag ps)
abbrev A2:=List (Ty.den t50)×List (Ty.den t52)×List (Ty.den t12)×Int
abbrev A1:=List (Ty.den t50)×List (Ty.den t52)×Int
abbrev A0:=List (Ty.den t50)×Int
def s2 (x:ab ps)(r2:A2->R)(a:A2):R:=let b1:=x.1.2.2.2.2.2.2.2.2;bif decide (a.2.2.2<(FJ b1.2.2.2.2.2.2:Int)) then ((idx b1.2.2.2.2.2.2 a.2.2.2).bind λy5=>(Q1.f K (y5.2,())).bind λy6=>bif decide ((FJ a.2.2.1+FJ ([(y5.1,y6.1.1)]))*32<=am) then (r2 (a.1,a.2.1,a.2.2.1++([(y5.1,y6.1.1)]),wr .i64 (a.2.2.2+1))) else none) else ((Q1.f K (b1.1,())).bind λy7=>(Q3.f K (b1.2.1,())).bind λy8=>some (((zcp8 x.1 (y7.1.1,y8.1.1,b1.2.2.1,a.1,b1.2.2.2.2.1,a.2.1,a.2.2.1)),()),()))
def l2 (x:ab ps):A2->R:=ae (s2 K x) K
def s1 (x:ab ps)(N2:A2->R)(r1:A1->R)(a:A1):R:=let b1:=x.1.2.2.2.2.2.2.2.2.2.2.2.2.2.1;bif decide (a.2.2<(FJ b1:Int)) then ((idx b1 a.2.2).bind λy3=>(Q2.f K (y3.2.2,())).bind λy4=>bif decide ((FJ a.2.1+FJ ([(y3.1,y3.2.1,y4.1.1)]))*64<=am) then (r1 (a.1,a.2.1++([(y3.1,y3.2.1,y4.1.1)]),wr .i64 (a.2.2+1))) else none) else (N2 (a.1,a.2.1,[],0))
def l1 (x:ab ps):A1->R:=ae (s1 K x (l2 K x)) K
def s0 (x:ab ps)(N1:A1->R)(r0:A0->R)(a:A0):R:=bif decide (a.2<(FJ x.1.2.2.2.2.2.2.2.2.2.2.2.1:Int)) then ((idx x.1.2.2.2.2.2.2.2.2.2.2.2.1 a.2).bind λy1=>(Q2.f K (y1.2.2.2,())).bind λy2=>let j1:=[(y1.1,y1.2.1,y1.2.2.1,y2.1.1)];bif decide ((FJ a.1+FJ j1)*48<=am) then (r0 (a.1++j1,wr .i64 (a.2+1))) else none) else (N1 (a.1,[],0))
def l0 (x:ab ps):A0->R:=ae (s0 K x (l1 K x)) K
def pre (K:Nat)(N0:A0->R)(x:ab ps):R:=N0 ([],0)
def f (x:ab ps):R:=pre K (l0 K x) x
def c:Ctr:=⟨106,ps,rs,true,f K⟩
def G:List Ctr:=[Q1.c K,Q2.c K,Q3.c K]
def v2:List (Nat×List Coe):=[(1,[.keep]),(2,[.keep]),(3,[.own false 86 t50]),(6,[.own false 89 t52]),(9,[.own false 91 t12]),(45,[.ro true 91 t12]),(46,[.keep]),(47,[.keep]),(100001,Kc0),(100002,Kc2)]
def v1:List (Nat×List Coe):=[(1,[.keep]),(2,[.keep]),(3,[.own false 86 t50]),(6,[.own false 89 t52]),(29,[.ro true 89 t11]),(30,[.keep]),(31,[.keep]),(100001,Kc0),(100002,Kc2)]
def v0:List (Nat×List Coe):=[(1,[.keep]),(2,[.keep]),(3,[.own false 86 t50]),(13,[.ro true 86 t6]),(14,[.keep]),(15,[.keep]),(100001,Kc0),(100002,Kc2)]
def L:List (Nat×List (Nat×List Coe)):=[(18,v2),(11,v1),(4,v0)]
def body:Code:=cY Tryz.f106
abbrev ev:Code->St->(Ex->St->R)->R:=evK (G K) T_NL L K
abbrev fin:Ex->St->R:=du T_NL ps rs true Tryz.f106.results.toList
def S0 (x:ab ps)(a:A0):St:=av [(1,⟨0,.one,[.bp 100001 0]⟩),(2,⟨0,.one,[.bp 100002 0]⟩),(3,⟨0,.one,[.own false none 86 t50 a.1]⟩),(13,⟨0,.one,[.ro true 86 t6 x.1.2.2.2.2.2.2.2.2.2.2.2.1]⟩),(14,⟨0,.one,[.int .i64 (FJ x.1.2.2.2.2.2.2.2.2.2.2.2.1:Int)]⟩),(15,⟨0,.one,[.int .i64 a.2]⟩),(100001,⟨0,.agg,(w1 x.1)⟩),(100002,⟨0,.agg,[.int .i64 0,.bool false,.bool false,.bool false,.int .i64 0,.int .i64 0,.int .i64 0,.int .i64 0,.nil,.nil,.int .i64 0,.int .i64 0,.int .i64 0,.bool false,.nil,.int .i64 0,.int .i64 0,.int .i64 0,.int .i64 0,.nil,.nil]⟩)]
def S1 (x:ab ps)(a:A1):St:=av [(1,⟨0,.one,[.bp 100001 0]⟩),(2,⟨0,.one,[.bp 100002 0]⟩),(3,⟨0,.one,[.own false none 86 t50 a.1]⟩),(6,⟨0,.one,[.own false none 89 t52 a.2.1]⟩),(29,⟨0,.one,[.ro true 89 t11 x.1.2.2.2.2.2.2.2.2.2.2.2.2.2.1]⟩),(30,⟨0,.one,[.int .i64 (FJ x.1.2.2.2.2.2.2.2.2.2.2.2.2.2.1:Int)]⟩),(31,⟨0,.one,[.int .i64 a.2.2]⟩),(100001,⟨0,.agg,(w1 x.1)⟩),(100002,⟨0,.agg,[.int .i64 0,.bool false,.bool false,.bool false,.int .i64 0,.int .i64 0,.int .i64 0,.int .i64 0,.nil,.nil,.int .i64 0,.int .i64 0,.int .i64 0,.bool false,.nil,.int .i64 0,.int .i64 0,.int .i64 0,.int .i64 0,.nil,.nil]⟩)]
def S2 (x:ab ps)(a:A2):St:=av [(1,⟨0,.one,[.bp 100001 0]⟩),(2,⟨0,.one,[.bp 100002 0]⟩),(3,⟨0,.one,[.own false none 86 t50 a.1]⟩),(6,⟨0,.one,[.own false none 89 t52 a.2.1]⟩),(9,⟨0,.one,[.own false none 91 t12 a.2.2.1]⟩),(45,⟨0,.one,[.ro true 91 t12 x.1.2.2.2.2.2.2.2.2.2.2.2.2.2.2]⟩),(46,⟨0,.one,[.int .i64 (FJ x.1.2.2.2.2.2.2.2.2.2.2.2.2.2.2:Int)]⟩),(47,⟨0,.one,[.int .i64 a.2.2.2]⟩),(100001,⟨0,.agg,(w1 x.1)⟩),(100002,⟨0,.agg,[.int .i64 0,.bool false,.bool false,.bool false,.int .i64 0,.int .i64 0,.int .i64 0,.int .i64 0,.nil,.nil,.int .i64 0,.int .i64 0,.int .i64 0,.bool false,.nil,.int .i64 0,.int .i64 0,.int .i64 0,.int .i64 0,.nil,.nil]⟩)]
def k0 (x:ab ps):Ex->St->R:=kAt (ev K) body [1,1,0,1,0] fin
def N0 (x:ab ps):A0->R:=λa=>aY v0 (ev K (sub body [1,1,0,1,0,0])) K (S0 x a) (k0 K x)
def k1 (x:ab ps):Ex->St->R:=kAt (ev K) body [1,1,1,1,0,1,0] fin
def N1 (x:ab ps):A1->R:=λa=>aY v1 (ev K (sub body [1,1,1,1,0,1,0,0])) K (S1 x a) (k1 K x)
def k2 (x:ab ps):Ex->St->R:=kAt (ev K) body [1,1,1,1,1,1,0,1,0] fin
def N2 (x:ab ps):A2->R:=λa=>aY v2 (ev K (sub body [1,1,1,1,1,1,0,1,0,0])) K (S2 x a) (k2 K x)
end Q168
namespace Q169
abbrev ps:List PK:=[.own (.list true 35 t59)]
abbrev rs:List RK:=[.v (.list true 35 t59)]
abbrev R:=Option (ai rs×ag ps)
def f (K:Nat)(x:ab ps):R:=bif true&&decide ((FJ x.1:Int)=(FJ x.1:Int))&&decide ((FJ x.1:Int)=(FJ x.1:Int))&&true then (some ((x.1,()),())) else none
def c:Ctr:=⟨107,ps,rs,true,f K⟩
end Q169
namespace Q170
abbrev ps:List PK:=[.rd t26,.clo 46 [(false,t26),(false,t47)]]
abbrev rs:List RK:=[.v t95,.v (.list true 35 t59)]
abbrev R:=Option (ai rs×ag ps)
def f (x:ab ps):R:=(Q163.f K (x.1,())).bind λy1=>bif !y1.1.1 then (some (((0,false,false,false,0,0,0,0,[],[],(0,0,0,false),[],(0,0,0,0),[],[]),[],()),())) else ((Q168.f K (x.1,())).bind λy2=>(Q167.f K (y2.1.1,x.2.1.1,x.2.1.2.1,())).bind λy3=>(Q169.f K (y3.1.1,())).bind λy4=>some ((y2.1.1,y4.1.1,()),()))
def c:Ctr:=⟨45,ps,rs,true,f K⟩
end Q170
namespace Q171
abbrev ps:List PK:=[.rd t26,.rd t47]
abbrev rs:List RK:=[.v t95,.v (.list true 35 t59)]
abbrev R:=Option (ai rs×ag ps)
def f (x:ab ps):R:=(Q170.f K (x.1,(x.1,x.2.1,()),())).bind λy1=>some ((y1.1.1,y1.1.2.1,()),())
def c:Ctr:=⟨13,ps,rs,true,f K⟩
end Q171
namespace Q172
abbrev ps:List PK:=[.rd (.list false 46 t2),.rd (.list false 46 t2)]
abbrev rs:List RK:=[.v .bool]
abbrev R:=Option (ai rs×ag ps)
abbrev A0:=Int
def s0 (K:Nat)(x:ab ps)(r0:A0->R)(a:A0):R:=bif decide (a<(FJ x.1:Int)) then ((idx x.1 a).bind λy1=>(idx x.2.1 a).bind λy2=>bif !Ty.eqv t2 y1 y2 then (some ((false,()),())) else (r0 (wr .i64 (a+1)))) else (some ((true,()),()))
def l0 (x:ab ps):A0->R:=ae (s0 K x) K
def pre (K:Nat)(N0:A0->R)(x:ab ps):R:=bif (FJ x.1:Int) != (FJ x.2.1:Int) then (some ((false,()),())) else (N0 0)
def f (x:ab ps):R:=pre K (l0 K x) x
def c:Ctr:=⟨23,ps,rs,true,f K⟩
end Q172
namespace Q173
abbrev ps:List PK:=[.rd (.list false 133 t3),.rd (.list false 133 t3)]
abbrev rs:List RK:=[.v .bool]
abbrev R:=Option (ai rs×ag ps)
abbrev A0:=Int
def s0 (K:Nat)(x:ab ps)(r0:A0->R)(a:A0):R:=bif decide (a<(FJ x.1:Int)) then ((idx x.1 a).bind λy1=>(idx x.2.1 a).bind λy2=>bif !Ty.eqv t3 y1 y2 then (some ((false,()),())) else (r0 (wr .i64 (a+1)))) else (some ((true,()),()))
def l0 (x:ab ps):A0->R:=ae (s0 K x) K
def pre (K:Nat)(N0:A0->R)(x:ab ps):R:=bif (FJ x.1:Int) != (FJ x.2.1:Int) then (some ((false,()),())) else (N0 0)
def f (x:ab ps):R:=pre K (l0 K x) x
def c:Ctr:=⟨56,ps,rs,true,f K⟩
end Q173
namespace Q174
abbrev ps:List PK:=[.rd (.list false 3 I6),.rd (.list false 3 I6)]
abbrev rs:List RK:=[.v .bool]
abbrev R:=Option (ai rs×ag ps)
abbrev A0:=Int
def s0 (K:Nat)(x:ab ps)(r0:A0->R)(a:A0):R:=bif decide (a<(FJ x.1:Int)) then ((idx x.1 a).bind λy1=>(idx x.2.1 a).bind λy2=>bif y1 != y2 then (some ((false,()),())) else (r0 (wr .i64 (a+1)))) else (some ((true,()),()))
def l0 (x:ab ps):A0->R:=ae (s0 K x) K
def pre (K:Nat)(N0:A0->R)(x:ab ps):R:=bif (FJ x.1:Int) != (FJ x.2.1:Int) then (some ((false,()),())) else (N0 0)
def f (x:ab ps):R:=pre K (l0 K x) x
def c:Ctr:=⟨57,ps,rs,true,f K⟩
end Q174
namespace Q175
abbrev ps:List PK:=[.rd t26,.rd t26]
abbrev rs:List RK:=[.v .bool]
abbrev R:=Option (ai rs×ag ps)
abbrev A2:=Int
abbrev A1:=Int
abbrev A0:=Int
def s2 (x:ab ps)(r2:A2->R)(a:A2):R:=let b2:=x.2.1.2.2.2.2.2.2.2.2.2.2.2.2.2.2;let b1:=x.1.2.2.2.2.2.2.2.2.2.2.2.2.2.2;bif decide (a<(FJ b1:Int)) then ((idx b1 a).bind λy13=>(idx b2 a).bind λy14=>bif y13.1 != y14.1 then (some ((false,()),())) else ((idx b1 a).bind λy15=>(idx b2 a).bind λy16=>(Q172.f K (y15.2,y16.2,())).bind λy17=>bif !y17.1.1 then (some ((false,()),())) else (r2 (wr .i64 (a+1))))) else (some ((true,()),()))
def l2 (x:ab ps):A2->R:=ae (s2 K x) K
def s1 (x:ab ps)(N2:A2->R)(r1:A1->R)(a:A1):R:=let b2:=x.2.1.2.2.2.2.2.2.2.2.2.2.2.2.2.1;let b1:=x.1.2.2.2.2.2.2.2.2.2.2.2.2.2.1;bif decide (a<(FJ b1:Int)) then ((idx b1 a).bind λy6=>(idx b2 a).bind λy7=>let j1:R:=some ((false,()),());bif y6.1 != y7.1 then j1 else ((idx b1 a).bind λy8=>(idx b2 a).bind λy9=>bif !Ty.eqv t9 y8.2.1 y9.2.1 then j1 else ((idx b1 a).bind λy10=>(idx b2 a).bind λy11=>(Q174.f K (y10.2.2,y11.2.2,())).bind λy12=>bif !y12.1.1 then j1 else (r1 (wr .i64 (a+1)))))) else (N2 0)
def l1 (x:ab ps):A1->R:=ae (s1 K x (l2 K x)) K
def s0 (x:ab ps)(N1:A1->R)(r0:A0->R)(a:A0):R:=bif decide (a<(FJ x.1.2.2.2.2.2.2.2.2.2.2.2.1:Int)) then ((idx x.1.2.2.2.2.2.2.2.2.2.2.2.1 a).bind λy3=>(idx x.2.1.2.2.2.2.2.2.2.2.2.2.2.1 a).bind λy4=>let j1:R:=some ((false,()),());bif y3.1 != y4.1 then j1 else (bif y3.2.1 != y4.2.1 then j1 else (bif y3.2.2.1 != y4.2.2.1 then j1 else ((Q174.f K (y3.2.2.2,y4.2.2.2,())).bind λy5=>bif !y5.1.1 then j1 else (r0 (wr .i64 (a+1))))))) else (N1 0)
def l0 (x:ab ps):A0->R:=ae (s0 K x (l1 K x)) K
def pre (N0:A0->R)(x:ab ps):R:=let b5:=x.2.1.2.2;let b4:=x.1.2.2.2;let b2:=b4.2.2.2.2;let b1:=b5.2.2.2.2;let b3:=b1.2.2.2.2;let j1:R:=some ((false,()),());bif x.1.1 != x.2.1.1 then j1 else (bif x.1.2.1 != x.2.1.2.1 then j1 else (bif x.1.2.2.1 != b5.1 then j1 else (bif b4.1 != b5.2.1 then j1 else (bif b4.2.1 != b5.2.2.1 then j1 else (bif b4.2.2.1 != b5.2.2.2.1 then j1 else (bif b4.2.2.2.1 != b1.1 then j1 else (bif b2.1 != b1.2.1 then j1 else ((Q172.f K (b2.2.1,b1.2.2.1,())).bind λy1=>bif !y1.1.1 then j1 else ((Q173.f K (b2.2.2.1,b1.2.2.2.1,())).bind λy2=>bif !y2.1.1 then j1 else (bif !Ty.eqv t2 b2.2.2.2.1 b3.1 then j1 else (bif !Ty.eqv t9 b2.2.2.2.2.2.1 b3.2.2.1 then j1 else (bif (FJ b2.2.2.2.2.1:Int) != (FJ b3.2.1:Int) then j1 else (bif (FJ b2.2.2.2.2.2.2.1:Int) != (FJ b3.2.2.2.1:Int) then j1 else (bif (FJ b2.2.2.2.2.2.2.2:Int) != (FJ b3.2.2.2.2:Int) then j1 else (N0 0)))))))))))))))
def f (x:ab ps):R:=pre K (l0 K x) x
def c:Ctr:=⟨16,ps,rs,true,f K⟩
def G:List Ctr:=[Q172.c K,Q173.c K,Q174.c K]
def v2:List (Nat×List Coe):=[(2,[.keep]),(3,[.keep]),(9,[.keep]),(100002,Kc0),(100003,Kc0)]
def v1:List (Nat×List Coe):=[(2,[.keep]),(3,[.keep]),(8,[.keep]),(100002,Kc0),(100003,Kc0)]
def v0:List (Nat×List Coe):=[(2,[.keep]),(3,[.keep]),(5,[.keep]),(100002,Kc0),(100003,Kc0)]
def L:List (Nat×List (Nat×List Coe)):=[(17,v2),(12,v1),(5,v0)]
def body:Code:=cY Tryz.f16
abbrev ev:Code->St->(Ex->St->R)->R:=evK (G K) T_NL L K
abbrev fin:Ex->St->R:=du T_NL ps rs true Tryz.f16.results.toList
def S0 (x:ab ps)(a:A0):St:=av [(2,⟨0,.one,[.bp 100002 0]⟩),(3,⟨0,.one,[.bp 100003 0]⟩),(5,⟨0,.one,[.int .i64 a]⟩),(100002,⟨0,.agg,(w1 x.1)⟩),(100003,⟨0,.agg,(w1 x.2.1)⟩)]
def S1 (x:ab ps)(a:A1):St:=av [(2,⟨0,.one,[.bp 100002 0]⟩),(3,⟨0,.one,[.bp 100003 0]⟩),(8,⟨0,.one,[.int .i64 a]⟩),(100002,⟨0,.agg,(w1 x.1)⟩),(100003,⟨0,.agg,(w1 x.2.1)⟩)]
def S2 (x:ab ps)(a:A2):St:=av [(2,⟨0,.one,[.bp 100002 0]⟩),(3,⟨0,.one,[.bp 100003 0]⟩),(9,⟨0,.one,[.int .i64 a]⟩),(100002,⟨0,.agg,(w1 x.1)⟩),(100003,⟨0,.agg,(w1 x.2.1)⟩)]
def k0 (x:ab ps):Ex->St->R:=kAt (ev K) body [1,1,0,1,0] fin
def N0 (x:ab ps):A0->R:=λa=>aY v0 (ev K (sub body [1,1,0,1,0,0])) K (S0 x a) (k0 K x)
def k1 (x:ab ps):Ex->St->R:=kAt (ev K) body [1,1,1,0,1,0] fin
def N1 (x:ab ps):A1->R:=λa=>aY v1 (ev K (sub body [1,1,1,0,1,0,0])) K (S1 x a) (k1 K x)
def k2 (x:ab ps):Ex->St->R:=kAt (ev K) body [1,1,1,1,0,1,0] fin
def N2 (x:ab ps):A2->R:=λa=>aY v2 (ev K (sub body [1,1,1,1,0,1,0,0])) K (S2 x a) (k2 K x)
end Q175
namespace Q176
abbrev ps:List PK:=[.rd t47,.rd t47]
abbrev rs:List RK:=[.v .bool]
abbrev R:=Option (ai rs×ag ps)
def f (x:ab ps):R:=let b2:=x.1.2.2.2;let b1:=x.2.1.2.2.2;let j1:R:=some ((false,()),());bif x.1.1==x.2.1.1 then (bif x.1.2.1==x.2.1.2.1 then (bif x.1.2.2.1==x.2.1.2.2.1 then (bif b2.1==b1.1 then (bif b2.2.1==b1.2.1 then (bif b2.2.2.1==b1.2.2.1 then (bif Ty.eqv t9 b2.2.2.2.1 b1.2.2.2.1 then ((Q172.f K (b2.2.2.2.2,b1.2.2.2.2,())).bind λy1=>some ((y1.1.1,()),())) else j1) else j1) else j1) else j1) else j1) else j1) else j1
def c:Ctr:=⟨58,ps,rs,true,f K⟩
end Q176
namespace Q177
abbrev ps:List PK:=[.rd (.list false 35 t47),.rd (.list false 35 t47)]
abbrev rs:List RK:=[.v .bool]
abbrev R:=Option (ai rs×ag ps)
abbrev A0:=Int
def s0 (x:ab ps)(r0:A0->R)(a:A0):R:=bif decide (a<(FJ x.1:Int)) then ((idx x.1 a).bind λy1=>(idx x.2.1 a).bind λy2=>(Q176.f K (y1,y2,())).bind λy3=>bif !y3.1.1 then (some ((false,()),())) else (r0 (wr .i64 (a+1)))) else (some ((true,()),()))
def l0 (x:ab ps):A0->R:=ae (s0 K x) K
def pre (K:Nat)(N0:A0->R)(x:ab ps):R:=bif (FJ x.1:Int) != (FJ x.2.1:Int) then (some ((false,()),())) else (N0 0)
def f (x:ab ps):R:=pre K (l0 K x) x
def c:Ctr:=⟨17,ps,rs,true,f K⟩
end Q177
namespace Q178
abbrev ps:List PK:=[.rd t26]
abbrev rs:List RK:=[.v .bool]
abbrev R:=Option (ai rs×ag ps)
def f (x:ab ps):R:=let b1:=x.1.2.2.2;(Q23.f K (b1.2.2.2.2.2.1,x.1.1,())).bind λy1=>let j1:R:=some ((false,()),());bif decide (y1.1.1<0) then j1 else ((idx b1.2.2.2.2.2.1 y1.1.1).bind λy2=>let j2:=((y2.2.2.2==b1.1,()),());bif x.1.2.2.1 then (bif y2.2.1==b1.2.1 then (bif y2.2.2.1==4 then (some j2) else j1) else j1) else (bif y2.2.1==b1.2.1 then (bif y2.2.2.1==1 then (some j2) else j1) else j1))
def c:Ctr:=⟨69,ps,rs,true,f K⟩
end Q178
namespace Q179
abbrev ps:List PK:=[.rd (.list false 133 t3)]
abbrev rs:List RK:=[.v .bool]
abbrev R:=Option (ai rs×ag ps)
abbrev A0:=Int
def s0 (x:ab ps)(r0:A0->R)(a:A0):R:=bif decide (a<(FJ x.1:Int)) then ((idx x.1 a).bind λy1=>(Q15.f K (y1.1,())).bind λy2=>let j1:R:=some ((false,()),());bif !y2.1.1 then j1 else ((idx x.1 a).bind λy3=>(Q10.f K (y3.2,1,4,())).bind λy4=>bif !y4.1.1 then j1 else (bif decide (a>0) then ((idx x.1 (wr .i64 (a-1))).bind λy5=>(idx x.1 a).bind λy6=>bif decide (y5.1.1>=y6.1.1) then j1 else (r0 (wr .i64 (a+1)))) else (r0 (wr .i64 (a+1)))))) else (some ((true,()),()))
def l0 (x:ab ps):A0->R:=ae (s0 K x) K
def pre (K:Nat)(N0:A0->R)(x:ab ps):R:=N0 0
def f (x:ab ps):R:=pre K (l0 K x) x
def c:Ctr:=⟨126,ps,rs,true,f K⟩
end Q179
namespace Q180
abbrev ps:List PK:=[.rd t26]
abbrev rs:List RK:=[.v .bool]
abbrev R:=Option (ai rs×ag ps)
abbrev A0:=Int
def s0 (x:ab ps)(r0:A0->R)(a:A0):R:=let b1:=x.1.2.2.2.2.2.2.2.2;bif decide (a<(FJ b1.2.1:Int)) then ((idx b1.2.1 a).bind λy2=>(Q23.f K (b1.1,y2.1.1,())).bind λy3=>bif decide (y3.1.1<0) then (some ((false,()),())) else ((idx b1.2.1 a).bind λy4=>(idx b1.1 y3.1.1).bind λy5=>(Q24.f K (y4.1,y5,())).bind λy6=>bif y6.1.1 then (some ((false,()),())) else (r0 (wr .i64 (a+1))))) else (some ((true,()),()))
def l0 (x:ab ps):A0->R:=ae (s0 K x) K
def pre (N0:A0->R)(x:ab ps):R:=(Q179.f K (x.1.2.2.2.2.2.2.2.2.2.1,())).bind λy1=>bif !y1.1.1 then (some ((false,()),())) else (N0 0)
def f (x:ab ps):R:=pre K (l0 K x) x
def c:Ctr:=⟨70,ps,rs,true,f K⟩
end Q180
namespace Q181
abbrev ps:List PK:=[.rd t26]
abbrev rs:List RK:=[.v .bool]
abbrev R:=Option (ai rs×ag ps)
def f (x:ab ps):R:=let b2:=x.1.2.2.2.2.2;let b1:=b2.2.2.2.2.2.1;let j1:R:=some ((false,()),());bif b1.1==(-1) then (bif b1.2.1==0 then (bif b1.2.2.1==0 then (some ((!b1.2.2.2,()),())) else j1) else j1) else (bif b1.1 != x.1.1 then ((Q23.f K (b2.2.2.2.1,b1.1,())).bind λy1=>bif decide (y1.1.1>=0) then ((Q10.f K (b1.2.1,0,b2.1,())).bind λy2=>bif y2.1.1 then ((Q10.f K (b1.2.2.1,1,b2.2.1,())).bind λy3=>some ((y3.1.1,()),())) else j1) else j1) else j1)
def c:Ctr:=⟨71,ps,rs,true,f K⟩
end Q181
namespace Q182
abbrev ps:List PK:=[.rd t26]
abbrev rs:List RK:=[.v .bool]
abbrev R:=Option (ai rs×ag ps)
abbrev A1:=Int×Int×Int×Int×Int×List (Ty.den I6)
abbrev A2:=Int×Int
abbrev A0:=Int
def s1 (x:ab ps)(r0:A0->R)(r1:A1->R)(a:A1):R:=let b1:=a.2.2.2.2.2;bif decide (a.2.1<(FJ b1:Int)) then ((idx b1 a.2.1).bind λy7=>(Q10.f K (y7,0,7,())).bind λy8=>let j1:R:=some ((false,()),());bif !y8.1.1 then j1 else ((idx b1 a.2.1).bind λy9=>(Q20.f K (y9,())).bind λy10=>(Q20.f K (x.1.1,())).bind λy11=>bif y10.1.1 != y11.1.1 then j1 else (let j2:=(a.1,wr .i64 (a.2.1+1),a.2.2);bif decide (a.2.1>0) then ((idx b1 (wr .i64 (a.2.1-1))).bind λy12=>(idx b1 a.2.1).bind λy13=>bif decide (y12>=y13) then j1 else (r1 j2)) else (r1 j2)))) else (r0 (wr .i64 (a.1+1)))
def l1 (x:ab ps)(r0:A0->R):A1->R:=ae (s1 K x r0) K
def s2 (K:Nat)(x:ab ps)(r2:A2->R)(a:A2):R:=let b1:=x.1.2.2.2.2.2.2.2.2;bif decide (a.2<(FJ b1.1:Int)) then ((idx b1.1 a.2).bind λy17=>bif y17.2.2.1==2 then (r2 (wr .i64 (a.1+1),wr .i64 (a.2+1))) else (r2 (a.1,wr .i64 (a.2+1)))) else (some ((a.1==(FJ b1.2.2.2.1:Int),()),()))
def l2 (x:ab ps):A2->R:=ae (s2 K x) K
def s0 (x:ab ps)(N1:A1->R)(N2:A2->R)(r0:A0->R)(a:A0):R:=let b1:=x.1.2.2.2.2.2.2.2.2;bif decide (a<(FJ b1.2.2.2.1:Int)) then ((idx b1.2.2.2.1 a).bind λy1=>(Q23.f K (b1.1,y1.1,())).bind λy2=>let j2:R:=some ((false,()),());let j1:R:=bif decide (y2.1.1<0) then j2 else ((idx b1.1 y2.1.1).bind λy4=>bif y4.2.2.1 != 2 then j2 else ((idx b1.1 y2.1.1).bind λy5=>bif y5.2.1 != y1.2.1 then j2 else ((Q10.f K (y1.2.2.1,0,x.1.2.2.2.2.2.1,())).bind λy6=>bif !y6.1.1 then j2 else (bif (FJ y1.2.2.2:Int)==0 then j2 else (N1 (a,0,y1))))));bif decide (a>0) then ((idx b1.2.2.2.1 (wr .i64 (a-1))).bind λy3=>bif decide (y3.1>=y1.1) then j2 else j1) else j1) else (N2 (0,0))
def l0 (x:ab ps):A0->R:=ae (λr0 a=>s0 K x (l1 K x r0) (l2 K x) r0 a) K
def pre (K:Nat)(N0:A0->R)(x:ab ps):R:=N0 0
def f (x:ab ps):R:=pre K (l0 K x) x
def c:Ctr:=⟨72,ps,rs,true,f K⟩
def G:List Ctr:=[Q10.c K,Q20.c K,Q23.c K]
def v1:List (Nat×List Coe):=[(1,[.keep]),(3,[.keep]),(4,[.keep]),(6,[.keep]),(100001,Kc0),(100004,Kc5)]
def v2:List (Nat×List Coe):=[(1,[.keep]),(7,[.keep]),(8,[.keep]),(100001,Kc0)]
def v0:List (Nat×List Coe):=[(1,[.keep]),(3,[.keep]),(100001,Kc0)]
def L:List (Nat×List (Nat×List Coe)):=[(10,v1),(16,v2),(3,v0)]
def body:Code:=cY Tryz.f72
abbrev ev:Code->St->(Ex->St->R)->R:=evK (G K) T_S L K
abbrev fin:Ex->St->R:=du T_S ps rs true Tryz.f72.results.toList
def S0 (x:ab ps)(a:A0):St:=av [(1,⟨0,.one,[.bp 100001 0]⟩),(3,⟨0,.one,[.int .i64 a]⟩),(100001,⟨0,.agg,(w1 x.1)⟩)]
def S2 (x:ab ps)(a:A2):St:=av [(1,⟨0,.one,[.bp 100001 0]⟩),(7,⟨0,.one,[.int .i64 a.1]⟩),(8,⟨0,.one,[.int .i64 a.2]⟩),(100001,⟨0,.agg,(w1 x.1)⟩)]
def S1 (x:ab ps)(a:A1):St:=av [(1,⟨0,.one,[.bp 100001 0]⟩),(3,⟨0,.one,[.int .i64 a.1]⟩),(4,⟨0,.one,[.bp 100004 0]⟩),(6,⟨0,.one,[.int .i64 a.2.1]⟩),(100001,⟨0,.agg,(w1 x.1)⟩),(100004,⟨0,.agg,(wa0 a.2.2)⟩)]
def k0 (x:ab ps):Ex->St->R:=kAt (ev K) body [1,0,1,0] fin
def N0 (x:ab ps):A0->R:=λa=>aY v0 (ev K (sub body [1,0,1,0,0])) K (S0 x a) (k0 K x)
def k2 (x:ab ps):Ex->St->R:=kAt (ev K) body [1,1,1,0,1,0] fin
def N2 (x:ab ps):A2->R:=λa=>aY v2 (ev K (sub body [1,1,1,0,1,0,0])) K (S2 x a) (k2 K x)
def k1 (x:ab ps)(q0:St->R):Ex->St->R:=kAt (ev K) (sub body [1,0,1,0,0]) [1,0,0,1,1,1,1,0] (iq v0 q0 (k0 K x))
def N1 (x:ab ps)(q0:St->R):A1->R:=λa=>aY v1 (ev K (sub body [1,0,1,0,0,1,0,0,1,1,1,1,0,0])) K (S1 x a) (k1 K x q0)
end Q182
namespace Q183
abbrev ps:List PK:=[.rd t26]
abbrev rs:List RK:=[.v .bool]
abbrev R:=Option (ai rs×ag ps)
abbrev A1:=Int×Int×Int×Int×Int×Int×Int×List (Ty.den I6)
abbrev A0:=Int
def s1 (x:ab ps)(r0:A0->R)(r1:A1->R)(a:A1):R:=bif decide (a.2.1<(FJ a.2.2.2.2.2.2.2:Int)) then ((idx a.2.2.2.2.2.2.2 a.2.1).bind λy8=>(Q10.f K (y8,1,60000,())).bind λy9=>bif !y9.1.1 then (some ((false,()),())) else (r1 (a.1,wr .i64 (a.2.1+1),a.2.2))) else (r0 (wr .i64 (a.1+1)))
def l1 (x:ab ps)(r0:A0->R):A1->R:=ae (s1 K x r0) K
def s0 (x:ab ps)(N1:A1->R)(r0:A0->R)(a:A0):R:=let b1:=x.1.2.2.2.2.2.2.2.2.2.2.2.2.2.1;bif decide (a<(FJ b1:Int)) then ((idx b1 a).bind λy1=>(Q10.f K (y1.1,0,7,())).bind λy2=>let j2:R:=some ((false,()),());bif !y2.1.1 then j2 else ((Q20.f K (y1.1,())).bind λy3=>(Q20.f K (x.1.1,())).bind λy4=>bif y3.1.1 != y4.1.1 then j2 else (bif y1.1==x.1.1 then j2 else (let j1:R:=(Q18.f K (y1.2.1,())).bind λy6=>bif !y6.1.1 then j2 else ((Q10.f K ((FJ y1.2.2:Int),1,3,())).bind λy7=>bif !y7.1.1 then j2 else (N1 (a,0,y1.1,y1.2.1.1,y1.2.1.2.1,y1.2.1.2.2.1,y1.2.1.2.2.2,y1.2.2)));bif decide (a>0) then ((idx b1 (wr .i64 (a-1))).bind λy5=>bif decide (y5.1>=y1.1) then j2 else j1) else j1)))) else (some ((true,()),()))
def l0 (x:ab ps):A0->R:=ae (λr0 a=>s0 K x (l1 K x r0) r0 a) K
def pre (K:Nat)(N0:A0->R)(x:ab ps):R:=N0 0
def f (x:ab ps):R:=pre K (l0 K x) x
def c:Ctr:=⟨74,ps,rs,true,f K⟩
def G:List Ctr:=[Q10.c K,Q20.c K,Q18.c K]
def v1:List (Nat×List Coe):=[(1,[.keep]),(3,[.keep]),(4,[.keep]),(5,[.keep]),(100001,Kc0),(100004,Kc6)]
def v0:List (Nat×List Coe):=[(1,[.keep]),(3,[.keep]),(100001,Kc0)]
def L:List (Nat×List (Nat×List Coe)):=[(9,v1),(3,v0)]
def body:Code:=cY Tryz.f74
abbrev ev:Code->St->(Ex->St->R)->R:=evK (G K) T_S L K
abbrev fin:Ex->St->R:=du T_S ps rs true Tryz.f74.results.toList
def S0 (x:ab ps)(a:A0):St:=av [(1,⟨0,.one,[.bp 100001 0]⟩),(3,⟨0,.one,[.int .i64 a]⟩),(100001,⟨0,.agg,(w1 x.1)⟩)]
def S1 (x:ab ps)(a:A1):St:=av [(1,⟨0,.one,[.bp 100001 0]⟩),(3,⟨0,.one,[.int .i64 a.1]⟩),(4,⟨0,.one,[.bp 100004 0]⟩),(5,⟨0,.one,[.int .i64 a.2.1]⟩),(100001,⟨0,.agg,(w1 x.1)⟩),(100004,⟨0,.agg,[.int .i64 a.2.2.1,.int .i64 a.2.2.2.1,.int .i64 a.2.2.2.2.1,.int .i64 a.2.2.2.2.2.1,.int .i64 a.2.2.2.2.2.2.1,.ro true 3 I6 a.2.2.2.2.2.2.2]⟩)]
def k0 (x:ab ps):Ex->St->R:=kAt (ev K) body [1,0,1,0] fin
def N0 (x:ab ps):A0->R:=λa=>aY v0 (ev K (sub body [1,0,1,0,0])) K (S0 x a) (k0 K x)
def k1 (x:ab ps)(q0:St->R):Ex->St->R:=kAt (ev K) (sub body [1,0,1,0,0]) [1,0,0,1,1,1,0] (iq v0 q0 (k0 K x))
def N1 (x:ab ps)(q0:St->R):A1->R:=λa=>aY v1 (ev K (sub body [1,0,1,0,0,1,0,0,1,1,1,0,0])) K (S1 x a) (k1 K x q0)
end Q183
namespace Q184
abbrev ps:List PK:=[.rd t26]
abbrev rs:List RK:=[.v .bool]
abbrev R:=Option (ai rs×ag ps)
abbrev A0:=Int
def s0 (x:ab ps)(r0:A0->R)(a:A0):R:=let b1:=x.1.2.2.2.2.2.2.2.2.2.2.2.2.2.2;bif decide (a<(FJ b1:Int)) then ((idx b1 a).bind λy1=>(Q10.f K (y1.1,0,1,())).bind λy2=>let j2:R:=some ((false,()),());bif !y2.1.1 then j2 else ((Q20.f K (x.1.1,())).bind λy3=>bif y1.1==y3.1.1 then j2 else (let j1:R:=bif (FJ y1.2:Int)==0 then j2 else ((Q16.f K (y1.2,())).bind λy5=>bif !y5.1.1 then j2 else ((Q17.f K (y1.2,y1.1,())).bind λy6=>bif !y6.1.1 then j2 else (r0 (wr .i64 (a+1)))));bif decide (a>0) then ((idx b1 (wr .i64 (a-1))).bind λy4=>bif decide (y4.1>=y1.1) then j2 else j1) else j1))) else (some ((true,()),()))
def l0 (x:ab ps):A0->R:=ae (s0 K x) K
def pre (K:Nat)(N0:A0->R)(x:ab ps):R:=N0 0
def f (x:ab ps):R:=pre K (l0 K x) x
def c:Ctr:=⟨75,ps,rs,true,f K⟩
end Q184
namespace Q185
abbrev ps:List PK:=[.rd t26]
abbrev rs:List RK:=[.v .bool]
abbrev R:=Option (ai rs×ag ps)
def f (x:ab ps):R:=let b3:=x.1.2.2.2.2;let b1:=b3.2.2.2;let b2:=b1.2.2.2;(Q10.f K (x.1.1,0,7,())).bind λy1=>let j1:R:=some ((false,()),());bif !y1.1.1 then j1 else ((Q10.f K (b3.2.1,0,999999,())).bind λy2=>bif !y2.1.1 then j1 else ((Q10.f K (b3.2.2.1,0,999999,())).bind λy3=>bif !y3.1.1 then j1 else ((Q10.f K (b1.1,0,8,())).bind λy4=>bif !y4.1.1 then j1 else ((Q10.f K (b3.1,0,999,())).bind λy5=>bif !y5.1.1 then j1 else (bif !x.1.2.1 then (bif !x.1.2.2.1 then (bif b3.1==0 then (bif b3.2.1==0 then (bif b3.2.2.1==0 then (bif b1.1==0 then (bif (wr .i64 ((wr .i64 ((wr .i64 ((wr .i64 ((FJ b1.2.1:Int)+(FJ b1.2.2.1:Int)))+(FJ b2.2.1:Int)))+(FJ b2.2.2.2.1:Int)))+(FJ b2.2.2.2.2:Int)))==0 then (bif b2.1.1==0 then (bif b2.1.2.1==0 then (bif b2.1.2.2.1==0 then (bif !b2.1.2.2.2 then (bif b2.2.2.1.1==0 then (bif b2.2.2.1.2.1==0 then (bif b2.2.2.1.2.2.1==0 then (some ((b2.2.2.1.2.2.2==0,()),())) else j1) else j1) else j1) else j1) else j1) else j1) else j1) else j1) else j1) else j1) else j1) else j1) else j1) else ((Q16.f K (b1.2.1,())).bind λy6=>bif y6.1.1 then ((Q20.f K (x.1.1,())).bind λy7=>(Q17.f K (b1.2.1,y7.1.1,())).bind λy8=>bif y8.1.1 then ((Q178.f K (x.1,())).bind λy9=>bif y9.1.1 then ((Q180.f K (x.1,())).bind λy10=>bif y10.1.1 then ((Q181.f K (x.1,())).bind λy11=>bif y11.1.1 then ((Q182.f K (x.1,())).bind λy12=>bif y12.1.1 then ((Q18.f K (b2.2.2.1,())).bind λy13=>bif y13.1.1 then ((Q183.f K (x.1,())).bind λy14=>bif y14.1.1 then ((Q184.f K (x.1,())).bind λy15=>some ((y15.1.1,()),())) else j1) else j1) else j1) else j1) else j1) else j1) else j1) else j1))))))
def c:Ctr:=⟨22,ps,rs,true,f K⟩
end Q185
namespace Q186
abbrev ps:List PK:=[.iop t95,.rd I6]
abbrev rs:List RK:=[.v (.list true 35 t59)]
abbrev R:=Option (ai rs×ag ps)
def f (x:ab ps):R:=(Q165.f K (x.1,())).bind λy1=>bif !y1.1.1 then (some (([],()),x.1,())) else (bif decide (x.1.2.2.2.2.2.1>=999999) then (some (([],()),x.1,())) else none)
def c:Ctr:=⟨78,ps,rs,false,f K⟩
end Q186
namespace Q187
abbrev ps:List PK:=[.iop t95,.rref I6]
abbrev rs:List RK:=[.v (.list true 35 t59)]
abbrev R:=Option (ai rs×ag ps)
def f (x:ab ps):R:=(Q186.f K (x.1,x.2.1,())).bind λy1=>some ((y1.1.1,()),y1.2.1,())
def c:Ctr:=⟨77,ps,rs,false,f K⟩
end Q187
namespace Q188
abbrev ps:List PK:=[.rd t26,.clo 77 [(false,I6)]]
abbrev rs:List RK:=[.v t95,.v (.list true 35 t59)]
abbrev R:=Option (ai rs×ag ps)
def f (x:ab ps):R:=(Q163.f K (x.1,())).bind λy1=>bif !y1.1.1 then (some (((0,false,false,false,0,0,0,0,[],[],(0,0,0,false),[],(0,0,0,0),[],[]),[],()),())) else ((Q168.f K (x.1,())).bind λy2=>(Q187.f K (y2.1.1,x.2.1.1,())).bind λy3=>(Q169.f K (y3.1.1,())).bind λy4=>some ((y3.2.1,y4.1.1,()),()))
def c:Ctr:=⟨45,ps,rs,true,f K⟩
end Q188
namespace Q189
abbrev ps:List PK:=[.rd t26,.rd I6]
abbrev rs:List RK:=[.v t95,.v (.list true 35 t59)]
abbrev R:=Option (ai rs×ag ps)
def f (x:ab ps):R:=(Q188.f K (x.1,(x.2.1,()),())).bind λy1=>some ((y1.1.1,y1.1.2.1,()),())
def c:Ctr:=⟨25,ps,rs,true,f K⟩
end Q189
namespace Q190
abbrev ps:List PK:=[.iop t60]
abbrev rs:List RK:=[.v t26]
abbrev R:=Option (ai rs×ag ps)
def f (x:ab ps):R:=(Q112.f K (x.1,())).bind λy1=>(Q9.f K (y1.2.1,(FJ y1.1.1.1:Int),())).bind λy2=>(idx y1.1.1.1 y2.1.1).bind λy3=>some ((y3,()),y2.2.1,())
def c:Ctr:=⟨139,ps,rs,false,f K⟩
end Q190
namespace Q191
abbrev ps:List PK:=[.iop t60]
abbrev rs:List RK:=[.v t26]
abbrev R:=Option (ai rs×ag ps)
def f (x:ab ps):R:=(Q190.f K (x.1,())).bind λy1=>(Q9.f K (y1.2.1,20,())).bind λy2=>bif y2.1.1==0 then ((Q121.f K (y2.2.1,y1.1.1,())).bind λy3=>some ((y3.1.1,()),y3.2.1,())) else (some ((y1.1.1,()),y2.2.1,()))
def c:Ctr:=⟨88,ps,rs,false,f K⟩
end Q191
namespace Q192
abbrev ps:List PK:=[.rd (.list false 5 (.int .u8))]
abbrev rs:List RK:=[.v t26]
abbrev R:=Option (ai rs×ag ps)
def f (x:ab ps):R:=(Q8.f K (x.1,())).bind λy1=>(Q191.f K (y1.1.1,())).bind λy2=>some ((y2.1.1,()),())
def c:Ctr:=⟨32,ps,rs,false,f K⟩
end Q192
namespace Q193
abbrev ps:List PK:=[.rref t26,.rd I6,.rd I6]
abbrev rs:List RK:=[.v t59]
abbrev R:=Option (ai rs×ag ps)
def f (K:Nat)(x:ab ps):R:=some (((1,x.2.1,x.1.1,x.2.2.1,0,x.1.1,x.1.2.2.2.2.2.2.2.2.2.2.2.2.1,[]),()),())
def c:Ctr:=⟨174,ps,rs,true,f K⟩
end Q193
namespace Q194
abbrev ps:List PK:=[.rref t26,.rd I6,.rd I6]
abbrev rs:List RK:=[.v t59]
abbrev R:=Option (ai rs×ag ps)
def f (x:ab ps):R:=(Q193.f K (x.1,x.2.1,x.2.2.1,())).bind λy1=>(Q1.f K (x.1.2.2.2.2.2.2.2.2.1,())).bind λy2=>some (((zcp4 y1.1.1 (y1.1.1.2.2.2.2.1,y1.1.1.2.2.2.2.2.1,y1.1.1.2.2.2.2.2.2.1,y2.1.1)),()),())
def c:Ctr:=⟨112,ps,rs,true,f K⟩
end Q194
namespace Q195
abbrev ps:List PK:=[.rd (.list false 46 t2),.rd t2]
abbrev rs:List RK:=[.v (.list true 46 t2),.v .bool]
abbrev R:=Option (ai rs×ag ps)
def f (x:ab ps):R:=(Q1.f K (x.1,())).bind λy1=>(Q135.f K (y1.1.1,x.2.1.1,())).bind λy2=>bif !y2.1.2.1 then ((Q4.f K (y1.1.1,y2.1.1,[x.2.1],())).bind λy3=>some ((y3.1.1,true,()),())) else ((idx y1.1.1 y2.1.1).bind λ_=>(idx y1.1.1 (FK y2.1.1:Nat)).bind λy5=>(Q149.f K (x.2.1,y5,())).bind λy6=>bif decide (y6.1.1>0) then ((idx y1.1.1 y2.1.1).bind λ_=>(idx y1.1.1 (FK y2.1.1:Nat)).bind λy8=>some ((y1.1.1.set (FK y2.1.1) x.2.1,true,()),())) else (some ((y1.1.1,false,()),())))
def c:Ctr:=⟨63,ps,rs,true,f K⟩
end Q195
namespace Q196
abbrev ps:List PK:=[.rd (.list false 133 t3),.rd t2]
abbrev rs:List RK:=[.v (.list true 133 t3)]
abbrev R:=Option (ai rs×ag ps)
def f (x:ab ps):R:=(Q147.f K (x.1,())).bind λy1=>bif !y1.1.1 then (some (([],()),())) else ((Q129.f K (x.2.1,())).bind λy2=>bif !y2.1.1 then (some (([],()),())) else ((Q3.f K (x.1,())).bind λy3=>(Q146.f K (y3.1.1,())).bind λy4=>(Q135.f K (y4.1.1,x.2.1.1,())).bind λy5=>bif !y5.1.2.1 then ((Q5.f K (y3.1.1,y5.1.1,[(x.2.1,4)],())).bind λy6=>some ((y6.1.1,()),())) else ((idx y3.1.1 y5.1.1).bind λ_=>(idx y3.1.1 (FK y5.1.1:Nat)).bind λy8=>(Q149.f K (x.2.1,y8.1,())).bind λy9=>bif decide (y9.1.1>0) then ((idx y3.1.1 y5.1.1).bind λ_=>(idx y3.1.1 (FK y5.1.1:Nat)).bind λy11=>some ((y3.1.1.set (FK y5.1.1) (x.2.1,4),()),())) else (some ((y3.1.1,()),())))))
def c:Ctr:=⟨214,ps,rs,true,f K⟩
end Q196
namespace Q197
abbrev ps:List PK:=[.rd (.list false 86 t6),.fn [t6] .bool]
abbrev rs:List RK:=[.v I6]
abbrev R:=Option (ai rs×ag ps)
abbrev A0:=Int
def s0 (K:Nat)(x:ab ps)(r0:A0->R)(a:A0):R:=bif decide (a<(FJ x.1:Int)) then ((idx x.1 a).bind λy1=>(x.2.1 (y1,())).bind λy2=>bif y2 then (some ((a,()),())) else (r0 (wr .i64 (a+1)))) else (some (((-1),()),()))
def l0 (x:ab ps):A0->R:=ae (s0 K x) K
def pre (K:Nat)(N0:A0->R)(x:ab ps):R:=N0 0
def f (x:ab ps):R:=pre K (l0 K x) x
def c:Ctr:=⟨272,ps,rs,true,f K⟩
end Q197
namespace Q198
abbrev ps:List PK:=[.rd t6,.rref t2]
abbrev rs:List RK:=[.v .bool]
abbrev R:=Option (ai rs×ag ps)
def f (K:Nat)(x:ab ps):R:=some ((x.1.1==x.2.1.1,()),())
def c:Ctr:=⟨216,ps,rs,true,f K⟩
end Q198
namespace Q199
abbrev ps:List PK:=[.rd (.list false 86 t6),.rd I6,.fn [t6,I6] I6]
abbrev rs:List RK:=[.v I6,.v .bool]
abbrev R:=Option (ai rs×ag ps)
abbrev A0:=Int×Int
def s0 (K:Nat)(x:ab ps)(r0:A0->R)(a:A0):R:=bif decide (a.1<a.2) then (let j1:=FN (wr .u64 (wr .i64 (a.1+a.2))) (2 ^ 1);(idx x.1 (wr .i64 j1)).bind λy1=>(x.2.2.1 (y1,x.2.1,())).bind λy2=>bif decide (y2<0) then (r0 (wr .i64 ((wr .i64 j1)+1),a.2)) else (r0 (a.1,wr .i64 j1))) else (bif decide (a.1<(FJ x.1:Int)) then ((idx x.1 a.1).bind λy3=>(x.2.2.1 (y3,x.2.1,())).bind λy4=>some ((a.1,y4==0,()),())) else (some ((a.1,false,()),())))
def l0 (x:ab ps):A0->R:=ae (s0 K x) K
def pre (K:Nat)(N0:A0->R)(x:ab ps):R:=N0 (0,(FJ x.1:Int))
def f (x:ab ps):R:=pre K (l0 K x) x
def c:Ctr:=⟨217,ps,rs,true,f K⟩
end Q199
namespace Q200
abbrev ps:List PK:=[.rd t6,.rd I6]
abbrev rs:List RK:=[.v I6]
abbrev R:=Option (ai rs×ag ps)
def f (K:Nat)(x:ab ps):R:=some ((wr .i64 (x.1.1-x.2.1),()),())
def c:Ctr:=⟨218,ps,rs,true,f K⟩
end Q200
namespace Q201
abbrev ps:List PK:=[.iop t95,.rd t2,.rd I6]
abbrev rs:List RK:=[]
abbrev R:=Option (ai rs×ag ps)
def f (x:ab ps):R:=let b1:=x.1.2.2.2.2.2.2.2.2;(Q136.f K (b1.1,x.2.1.1,())).bind λy1=>(Q195.f K (b1.1,x.2.1,())).bind λy2=>bif !y2.1.2.1 then (some ((),x.1,())) else ((Q196.f K (b1.2.1,x.2.1,())).bind λy3=>let j1:R:=(Q6.f K (b1.2.2.2.1,λy4=>(Q198.f K (y4.1,x.2.1,())).map λy=>y.1.1,())).bind λy5=>bif x.2.1.2.2.1==2 then ((Q199.f K (y5.1.1,x.2.1.1,λy6=>(Q200.f K (y6.1,y6.2.1,())).map λy=>y.1.1,())).bind λy7=>(Q7.f K (y5.1.1,y7.1.1,[(x.2.1.1,x.2.1.2.1,x.1.2.2.2.2.2.1,[x.2.2.1])],())).bind λy8=>some ((),(zcp8 x.1 (y2.1.1,y3.1.1,b1.2.2.1,y8.1.1,b1.2.2.2.2)),())) else (some ((),(zcp8 x.1 (y2.1.1,y3.1.1,b1.2.2.1,y5.1.1,b1.2.2.2.2)),()));bif y1.1.1.2.2.1==x.2.1.2.2.1 then (bif y1.1.1.2.1==x.2.1.2.1 then (some ((),(zcp8 x.1 (y2.1.1,y3.1.1,b1.2.2)),())) else j1) else j1)
def c:Ctr:=⟨145,ps,rs,false,f K⟩
end Q201
namespace Q202
abbrev ps:List PK:=[.rd (.list false 46 t2),.fn [t2] .bool]
abbrev rs:List RK:=[.v (.list true 3 I6)]
abbrev R:=Option (ai rs×ag ps)
abbrev A0:=List (Ty.den I6)×Int
def s0 (K:Nat)(x:ab ps)(r0:A0->R)(a:A0):R:=bif decide (a.2<(FJ x.1:Int)) then ((idx x.1 a.2).bind λy1=>(x.2.1 (y1,())).bind λy2=>bif y2 then (bif decide ((FJ a.1+FJ ([y1.1]))*8<=am) then (r0 (a.1++([y1.1]),wr .i64 (a.2+1))) else none) else (r0 (a.1,wr .i64 (a.2+1)))) else (some ((a.1,()),()))
def l0 (x:ab ps):A0->R:=ae (s0 K x) K
def pre (K:Nat)(N0:A0->R)(x:ab ps):R:=N0 ([],0)
def f (x:ab ps):R:=pre K (l0 K x) x
def c:Ctr:=⟨146,ps,rs,true,f K⟩
end Q202
namespace Q203
abbrev ps:List PK:=[.rref t26,.rd I6]
abbrev rs:List RK:=[.v I6]
abbrev R:=Option (ai rs×ag ps)
def f (x:ab ps):R:=(Q136.f K (x.1.2.2.2.2.2.2.2.2.1,x.2.1,())).bind λy1=>some ((y1.1.1.2.2.1,()),())
def c:Ctr:=⟨220,ps,rs,true,f K⟩
end Q203
namespace Q204
abbrev ps:List PK:=[.rref t26,.rd I6]
abbrev rs:List RK:=[.v .bool]
abbrev R:=Option (ai rs×ag ps)
def f (x:ab ps):R:=(Q203.f K (x.1,x.2.1,())).bind λy1=>(Q126.f K (y1.1.1,1,2,())).bind λy2=>some ((y2.1.1,()),())
def c:Ctr:=⟨148,ps,rs,true,f K⟩
end Q204
namespace Q205
abbrev ps:List PK:=[.rd t2,.rref2 t26]
abbrev rs:List RK:=[.v .bool]
abbrev R:=Option (ai rs×ag ps)
def f (x:ab ps):R:=bif x.1.1 != x.2.1.1 then ((Q204.f K (x.2.1,x.1.1,())).bind λy1=>some ((y1.1.1,()),())) else (some ((false,()),()))
def c:Ctr:=⟨147,ps,rs,true,f K⟩
end Q205
namespace Q206
abbrev ps:List PK:=[.iop t95]
abbrev rs:List RK:=[.v (.list true 35 t59)]
abbrev R:=Option (ai rs×ag ps)
abbrev A0:=List (Ty.den t59)×List (Ty.den I6)×Int×Int×Int×Bool×Bool×Int×Int×Int×Int×List (Ty.den t2)×List (Ty.den t3)×Int×Int×Int×Bool×List (Ty.den t50)×Int×Int×Int×Int×List (Ty.den t52)×List (Ty.den t12)
def s0 (x:ab ps)(r0:A0->R)(a:A0):R:=let b1:=a.2.2.2;let j1:=(b1.2.1,b1.2.2.1,true,(zceae5f b1.2.2.2));bif decide (b1.1<a.2.2.1) then ((idx a.2.1 b1.1).bind λ_=>(idx a.2.1 (FK b1.1:Nat)).bind λy6=>(Q194.f K (j1,5,y6,())).bind λy7=>bif decide ((FJ a.1+FJ ([y7.1.1]))*104<=am) then (r0 (a.1++([y7.1.1]),a.2.1,a.2.2.1,wr .i64 (b1.1+1),b1.2)) else none) else (some ((a.1,()),j1,()))
def l0 (x:ab ps):A0->R:=ae (s0 K x) K
def pre (N0:A0->R)(x:ab ps):R:=(Q165.f K (x.1,())).bind λy1=>bif !y1.1.1 then (some (([],()),x.1,())) else ((Q201.f K (x.1,(x.1.1,x.1.2.2.2.2.1,4,x.1.2.2.2.1),x.1.1,())).bind λy2=>(Q202.f K (y2.2.1.2.2.2.2.2.2.2.2.1,λy3=>(Q205.f K (y3.1,(y2.2.1.1,y2.2.1.2.1,true,y2.2.1.2.2.2),())).map λy=>y.1.1,())).bind λy4=>N0 ([],y4.1.1,(FJ y4.1.1:Int),0,(zc8f7ea y2.2.1)))
def f (x:ab ps):R:=pre K (l0 K x) x
def c:Ctr:=⟨94,ps,rs,false,f K⟩
end Q206
namespace Q207
abbrev ps:List PK:=[.rd t26,.clo 94 []]
abbrev rs:List RK:=[.v t95,.v (.list true 35 t59)]
abbrev R:=Option (ai rs×ag ps)
def f (x:ab ps):R:=(Q163.f K (x.1,())).bind λy1=>bif !y1.1.1 then (some (((0,false,false,false,0,0,0,0,[],[],(0,0,0,false),[],(0,0,0,0),[],[]),[],()),())) else ((Q168.f K (x.1,())).bind λy2=>(Q206.f K (y2.1.1,())).bind λy3=>(Q169.f K (y3.1.1,())).bind λy4=>some ((y3.2.1,y4.1.1,()),()))
def c:Ctr:=⟨45,ps,rs,true,f K⟩
end Q207
namespace Q208
abbrev ps:List PK:=[.rd t26]
abbrev rs:List RK:=[.v t95,.v (.list true 35 t59)]
abbrev R:=Option (ai rs×ag ps)
def f (x:ab ps):R:=(Q207.f K (x.1,(),())).bind λy1=>some ((y1.1.1,y1.1.2.1,()),())
def c:Ctr:=⟨33,ps,rs,true,f K⟩
end Q208
namespace Q209
abbrev ps:List PK:=[.rd t26]
abbrev rs:List RK:=[.v t81,.v (.list true 35 t47)]
abbrev R:=Option (ai rs×ag ps)
def f (x:ab ps):R:=(Q185.f K (x.1,())).bind λy1=>bif !y1.1.1 then (some (((0,false,false,false,0,0,0,0,[],[],(0,0,0,false),[],(0,0,0,0),[],[]),[],()),())) else ((Q106.f K (x.1,())).bind λy2=>(Q99.f K (y2.1.1,())).bind λy3=>(Q106.f K (y3.1.1,())).bind λy4=>some ((y4.1.1,y3.1.2.1,()),()))
def c:Ctr:=⟨34,ps,rs,true,f K⟩
end Q209
namespace Q210
abbrev ps:List PK:=[.rd (.list false 5 (.int .u8)),.rd (.list false 5 (.int .u8))]
abbrev rs:List RK:=[.v .bool]
abbrev R:=Option (ai rs×ag ps)
abbrev A0:=List (Ty.den t59)×Int×Int×Bool×Bool×Bool×Int×Int×Int×Int×List (Ty.den t2)×List (Ty.den t3)×Int×Int×Int×Bool×List (Ty.den t6)×Int×Int×Int×Int×List (Ty.den t11)×List (Ty.den t12)×Int×Bool×Bool×Bool×Int×Int×Int×Int×List (Ty.den t2)×List (Ty.den t3)×Int×Int×Int×Bool×List (Ty.den t50)×Int×Int×Int×Int×List (Ty.den t52)×List (Ty.den t12)
def s0 (x:ab ps)(r0:A0->R)(a:A0):R:=let b1:=a.2.2.2.2.2.2.2.2.2.2.2.2.2.2.2.2.2.2.2.2.2.2.2;let j1:R:=some ((false,()),());bif decide (a.2.1<(FJ a.1:Int)) then ((idx a.1 a.2.1).bind λ_=>(idx a.1 (FK a.2.1:Nat)).bind λy10=>(Q136.f K (y10.2.2.2.2.2.2.2,a.2.2.1,())).bind λy11=>bif !y11.1.2.1 then j1 else (bif y11.1.1.2.2.1 != 4 then j1 else (r0 (a.1,wr .i64 (a.2.1+1),a.2.2)))) else ((Q125.f K (x.2.1,())).bind λy12=>(Q189.f K (zc286a0 b1 ((FJ x.2.1:Int),()))).bind λy13=>(Q171.f K (zc286a0 b1 (y12.1.2.1,()))).bind λy14=>bif b1.2.2.1 then (let j2:=zc286a0 b1 ();(Q175.f K (y13.1.1,j2)).bind λy15=>bif y15.1.1 then (bif (FJ y13.1.2.1:Int)==0 then ((Q175.f K (y14.1.1,j2)).bind λy16=>bif y16.1.1 then (some (((FJ y14.1.2.1:Int)==0,()),())) else j1) else j1) else j1) else j1)
def l0 (x:ab ps):A0->R:=ae (s0 K x) K
def pre (N0:A0->R)(x:ab ps):R:=bif decide ((FJ x.1:Int)>1048576) then (some ((true,()),())) else (bif decide ((FJ x.2.1:Int)>1048576) then (some ((true,()),())) else ((Q192.f K (x.1,())).bind λy1=>let b2:=y1.1.1.2.2.2;let b1:=b2.2.2.2.2.2.2;let b3:=b1.2.2.2;(Q208.f K (y1.1.1,())).bind λy2=>(Q209.f K (y1.1.1,())).bind λy3=>(Q175.f K (y2.1.1,y3.1.1,())).bind λy4=>let j2:R:=some ((false,()),());bif !y4.1.1 then j2 else ((Q177.f K (y2.1.2.1,y3.1.2.1,())).bind λy5=>bif !y5.1.1 then j2 else ((Q163.f K (y1.1.1,())).bind λy6=>(Q185.f K (y1.1.1,())).bind λy7=>bif y6.1.1 != y7.1.1 then j2 else ((Q185.f K (y1.1.1,())).bind λy8=>let j1:=(((FJ y2.1.2.1:Int)==0,()),());bif !y8.1.1 then (some j1) else (bif !y1.1.1.2.1 then (some j1) else (N0 (y2.1.2.1,0,y1.1.1.1,y1.1.1.2.1,y1.1.1.2.2.1,b2.1,b2.2.1,b2.2.2.1,b2.2.2.2.1,b2.2.2.2.2.1,b2.2.2.2.2.2.1,b1.1,b1.2.1.1,b1.2.1.2.1,b1.2.1.2.2.1,b1.2.1.2.2.2,b1.2.2.1,b3.1.1,b3.1.2.1,b3.1.2.2.1,b3.1.2.2.2,b3.2.1,b3.2.2,(zc3ec45 y2.1.1)))))))))
def f (x:ab ps):R:=pre K (l0 K x) x
def c:Ctr:=⟨10,ps,rs,true,f K⟩
end Q210
end
end Go.Proofs.YtmibehbhnkeaiaaGreatEv
