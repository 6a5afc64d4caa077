/- The functions, on plain values. Printed by run3.py. -/
import Derived.Test.YtmibehbhnkeaiaaGreatProg
import Derived.Test.YtmibehbhnkeaiaaGreatE0
set_option linter.unusedVariables false
set_option maxRecDepth 100000
set_option linter.unusedVariables false
set_option linter.unusedSimpArgs false
open Int renaming toNat->FK,tdiv->FL,fdiv->FM
open List renaming length->FJ,replicate->FN
namespace Go.Proofs.YtmibehbhnkeaiaaGreatEv
open Go Go.Proofs
noncomputable section
variable (K:Nat)
abbrev I6:Ty:=.int .i64
abbrev t0:Ty:=.pair I6 .bool
abbrev t1:Ty:=.pair I6 t0
abbrev t2:Ty:=.pair I6 t1
abbrev t3:Ty:=.pair t2 I6
abbrev t4:Ty:=.pair I6 (.list false 3 I6)
abbrev t5:Ty:=.pair I6 t4
abbrev t6:Ty:=.pair I6 t5
abbrev t7:Ty:=.pair I6 I6
abbrev t8:Ty:=.pair I6 t7
abbrev t9:Ty:=.pair I6 t8
abbrev t10:Ty:=.pair t9 (.list false 3 I6)
abbrev t11:Ty:=.pair I6 t10
abbrev t12:Ty:=.pair I6 (.list false 46 t2)
abbrev t13:Ty:=.pair (.list false 89 t11) (.list false 91 t12)
abbrev t14:Ty:=.pair t9 t13
abbrev t15:Ty:=.pair (.list false 86 t6) t14
abbrev t16:Ty:=.pair t2 t15
abbrev t17:Ty:=.pair (.list false 133 t3) t16
abbrev t18:Ty:=.pair (.list false 46 t2) t17
abbrev t19:Ty:=.pair I6 t18
abbrev t20:Ty:=.pair I6 t19
abbrev t21:Ty:=.pair I6 t20
abbrev t22:Ty:=.pair I6 t21
abbrev t23:Ty:=.pair .bool t22
abbrev t24:Ty:=.pair .bool t23
abbrev t25:Ty:=.pair .bool t24
abbrev t26:Ty:=.pair I6 t25
abbrev t27:Ty:=.pair (.list true 86 t6) t14
abbrev t28:Ty:=.pair t2 t27
abbrev t29:Ty:=.pair (.list false 133 t3) t28
abbrev t30:Ty:=.pair (.list false 46 t2) t29
abbrev t31:Ty:=.pair I6 t30
abbrev t32:Ty:=.pair I6 t31
abbrev t33:Ty:=.pair I6 t32
abbrev t34:Ty:=.pair I6 t33
abbrev t35:Ty:=.pair .bool t34
abbrev t36:Ty:=.pair .bool t35
abbrev t37:Ty:=.pair .bool t36
abbrev t38:Ty:=.pair I6 t37
abbrev t39:Ty:=.pair .str .bool
abbrev t40:Ty:=.pair I6 t39
abbrev t41:Ty:=.pair t9 (.list false 46 t2)
abbrev t42:Ty:=.pair I6 t41
abbrev t43:Ty:=.pair I6 t42
abbrev t44:Ty:=.pair I6 t43
abbrev t45:Ty:=.pair I6 t44
abbrev t46:Ty:=.pair I6 t45
abbrev t47:Ty:=.pair I6 t46
abbrev t48:Ty:=.pair I6 (.list true 3 I6)
abbrev t49:Ty:=.pair I6 t48
abbrev t50:Ty:=.pair I6 t49
abbrev t51:Ty:=.pair t9 (.list true 3 I6)
abbrev t52:Ty:=.pair I6 t51
abbrev t53:Ty:=.pair t9 (.list true 46 t2)
abbrev t54:Ty:=.pair I6 t53
abbrev t55:Ty:=.pair I6 t54
abbrev t56:Ty:=.pair I6 t55
abbrev t57:Ty:=.pair I6 t56
abbrev t58:Ty:=.pair I6 t57
abbrev t59:Ty:=.pair I6 t58
abbrev t60:Ty:=.pair I6 .hdr
abbrev t61:Ty:=.pair I6 t60
abbrev t62:Ty:=.pair I6 t61
abbrev t63:Ty:=.pair (.list true 89 t52) (.list true 91 t12)
abbrev t64:Ty:=.pair t9 t63
abbrev t65:Ty:=.pair (.list true 86 t50) t64
abbrev t66:Ty:=.pair t2 t65
abbrev t67:Ty:=.pair (.list true 133 t3) t66
abbrev t68:Ty:=.pair (.list true 46 t2) t67
abbrev t69:Ty:=.pair I6 t68
abbrev t70:Ty:=.pair I6 t69
abbrev t71:Ty:=.pair I6 t70
abbrev t72:Ty:=.pair I6 t71
abbrev t73:Ty:=.pair .bool t72
abbrev t74:Ty:=.pair .bool t73
abbrev t75:Ty:=.pair .bool t74
abbrev t76:Ty:=.pair I6 t75
abbrev t77:Ty:=.pair (.list false 5 (.int .u8)) I6
abbrev t78:Ty:=.pair (.list true 89 t11) (.list true 91 t12)
abbrev t79:Ty:=.pair t9 t78
abbrev t80:Ty:=.pair (.list true 86 t6) t79
abbrev t81:Ty:=.pair t2 t80
abbrev t82:Ty:=.pair (.list true 133 t3) t81
abbrev t83:Ty:=.pair (.list true 46 t2) t82
abbrev t84:Ty:=.pair I6 t83
abbrev t85:Ty:=.pair I6 t84
abbrev t86:Ty:=.pair I6 t85
abbrev t87:Ty:=.pair I6 t86
abbrev t88:Ty:=.pair .bool t87
abbrev t89:Ty:=.pair .bool t88
abbrev t90:Ty:=.pair .bool t89
abbrev t91:Ty:=.pair I6 t90
abbrev t92:Ty:=.pair (.list false 3 I6) (.list false 46 t2)
abbrev t93:Ty:=.pair (.list false 121 t40) t92
abbrev t94:Ty:=.pair (.list false 33 t26) t93
abbrev t95:Ty:=.pair (.list true 3 I6) (.list false 46 t2)
abbrev t96:Ty:=.pair (.list true 121 t40) t95
abbrev t97:Ty:=.pair (.list true 33 t38) t96
abbrev t98:Ty:=.pair (.list true 33 t26) t96
abbrev ty_impl_Coord_D:Ty:=t9
abbrev ty_impl_Fact_D:Ty:=t2
def Tl_D:List (TypeId×TI):=[(38,.slice 35 t59 104)]
def T_D (t:TypeId):TI:=gJ Tl_D t
def Tl_ND:List (TypeId×TI):=[(3,.int .i64),(23,.slice 46 t2 32),(24,.slice 133 t3 40),(27,.slice 86 t6 48),(30,.slice 89 t11 64),(31,.slice 91 t12 32),(33,.struct t91 [(0,1,false),(1,1,false),(2,1,false),(3,1,false),(4,1,false),(5,1,false),(6,1,false),(7,1,false),(8,1,false),(9,1,false),(10,4,true),(14,1,false),(15,4,true),(19,1,false),(20,1,false)]),(67,.slice 3 I6 8),(86,.struct t6 [(0,1,false),(1,1,false),(2,1,false),(3,1,false)]),(89,.struct t11 [(0,1,false),(1,4,true),(5,1,false)]),(91,.struct t12 [(0,1,false),(1,1,false)])]
def T_ND (t:TypeId):TI:=gJ Tl_ND t
def Tl_NL:List (TypeId×TI):=[(3,.int .i64),(4,.bool),(5,.int .u8),(9,.str),(22,.slice 5 (.int .u8) 1),(23,.slice 46 t2 32),(24,.slice 133 t3 40),(26,.struct t2 [(0,1,false),(1,1,false),(2,1,false),(3,1,false)]),(27,.slice 86 t50 48),(29,.struct t9 [(0,1,false),(1,1,false),(2,1,false),(3,1,false)]),(30,.slice 89 t52 64),(31,.slice 91 t12 32),(33,.struct t76 [(0,1,false),(1,1,false),(2,1,false),(3,1,false),(4,1,false),(5,1,false),(6,1,false),(7,1,false),(8,1,false),(9,1,false),(10,4,true),(14,1,false),(15,4,true),(19,1,false),(20,1,false)]),(35,.struct t59 [(0,1,false),(1,1,false),(2,1,false),(3,1,false),(4,1,false),(5,1,false),(6,4,true),(10,1,false)]),(38,.slice 35 t59 104),(46,.struct t2 [(0,1,false),(1,1,false),(2,1,false),(3,1,false)]),(67,.slice 3 I6 8),(75,.ptr),(77,.fn),(81,.fn),(86,.struct t50 [(0,1,false),(1,1,false),(2,1,false),(3,1,false)]),(89,.struct t52 [(0,1,false),(1,4,true),(5,1,false)]),(91,.struct t12 [(0,1,false),(1,1,false)]),(104,.fn),(131,.fn),(133,.struct t3 [(0,4,true),(4,1,false)]),(137,.fn),(138,.fn),(143,.fn),(177,.fn),(190,.int .u64),(204,.fn),(206,.fn),(224,.arr I6 2),(225,.arr t7 4),(240,.int .u32),(242,.int .u64),(266,.ptr)]
def T_NL (t:TypeId):TI:=gJ Tl_NL t
def Tl_NS:List (TypeId×TI):=[(3,.int .i64),(4,.bool),(5,.int .u8),(9,.str),(22,.slice 5 (.int .u8) 1),(23,.slice 46 t2 32),(24,.slice 133 t3 40),(26,.struct t2 [(0,1,false),(1,1,false),(2,1,false),(3,1,false)]),(27,.slice 86 t6 48),(29,.struct t9 [(0,1,false),(1,1,false),(2,1,false),(3,1,false)]),(30,.slice 89 t11 64),(31,.slice 91 t12 32),(33,.struct t38 [(0,1,false),(1,1,false),(2,1,false),(3,1,false),(4,1,false),(5,1,false),(6,1,false),(7,1,false),(8,1,false),(9,1,false),(10,4,true),(14,1,false),(15,4,true),(19,1,false),(20,1,false)]),(35,.struct t47 [(0,1,false),(1,1,false),(2,1,false),(3,1,false),(4,1,false),(5,1,false),(6,4,true),(10,1,false)]),(38,.slice 35 t47 104),(46,.struct t2 [(0,1,false),(1,1,false),(2,1,false),(3,1,false)]),(65,.slice 33 t38 232),(66,.slice 121 t40 32),(67,.slice 3 I6 8),(69,.struct t97 [(0,1,false),(1,1,false),(2,1,false),(3,1,false)]),(86,.struct t6 [(0,1,false),(1,1,false),(2,1,false),(3,1,false)]),(89,.struct t11 [(0,1,false),(1,4,true),(5,1,false)]),(91,.struct t12 [(0,1,false),(1,1,false)]),(121,.struct t40 [(0,1,false),(1,1,false),(2,1,false)]),(151,.struct t2 [(0,1,false),(1,1,false),(2,1,false),(3,1,false)])]
def T_NS (t:TypeId):TI:=gJ Tl_NS t
def Tl_NT:List (TypeId×TI):=[(3,.int .i64),(4,.bool),(23,.slice 46 t2 32),(33,.struct t26 [(0,1,false),(1,1,false),(2,1,false),(3,1,false),(4,1,false),(5,1,false),(6,1,false),(7,1,false),(8,1,false),(9,1,false),(10,4,true),(14,1,false),(15,4,true),(19,1,false),(20,1,false)]),(38,.slice 35 t47 104),(46,.struct t2 [(0,1,false),(1,1,false),(2,1,false),(3,1,false)]),(65,.slice 33 t26 232),(67,.slice 3 I6 8),(69,.struct t98 [(0,1,false),(1,1,false),(2,1,false),(3,1,false)]),(151,.struct t2 [(0,1,false),(1,1,false),(2,1,false),(3,1,false)])]
def T_NT (t:TypeId):TI:=gJ Tl_NT t
def Tl_S:List (TypeId×TI):=[(3,.int .i64),(4,.bool),(5,.int .u8),(9,.str),(22,.slice 5 (.int .u8) 1),(23,.slice 46 t2 32),(24,.slice 133 t3 40),(26,.struct t2 [(0,1,false),(1,1,false),(2,1,false),(3,1,false)]),(27,.slice 86 t6 48),(29,.struct t9 [(0,1,false),(1,1,false),(2,1,false),(3,1,false)]),(30,.slice 89 t11 64),(31,.slice 91 t12 32),(33,.struct t26 [(0,1,false),(1,1,false),(2,1,false),(3,1,false),(4,1,false),(5,1,false),(6,1,false),(7,1,false),(8,1,false),(9,1,false),(10,4,true),(14,1,false),(15,4,true),(19,1,false),(20,1,false)]),(35,.struct t47 [(0,1,false),(1,1,false),(2,1,false),(3,1,false),(4,1,false),(5,1,false),(6,4,true),(10,1,false)]),(38,.slice 35 t47 104),(46,.struct t2 [(0,1,false),(1,1,false),(2,1,false),(3,1,false)]),(59,.slice 4 .bool 1),(63,.ptr),(65,.slice 33 t26 232),(66,.slice 121 t40 32),(67,.slice 3 I6 8),(69,.struct t94 [(0,1,false),(1,1,false),(2,1,false),(3,1,false)]),(86,.struct t6 [(0,1,false),(1,1,false),(2,1,false),(3,1,false)]),(89,.struct t11 [(0,1,false),(1,4,true),(5,1,false)]),(91,.struct t12 [(0,1,false),(1,1,false)]),(111,.struct t77 [(0,1,false),(1,1,false)]),(112,.slice 151 t2 32),(121,.struct t40 [(0,1,false),(1,1,false),(2,1,false)]),(133,.struct t3 [(0,4,true),(4,1,false)]),(137,.fn),(151,.struct t2 [(0,1,false),(1,1,false),(2,1,false),(3,1,false)]),(160,.slice 9 .str 16),(190,.int .u64),(233,.int .i64)]
def T_S (t:TypeId):TI:=gJ Tl_S t
def w0 (n:Ty.den t26):List Leaf:=[.int .i64 n.1,.bool n.2.1,.bool n.2.2.1,.bool n.2.2.2.1,.int .i64 n.2.2.2.2.1,.int .i64 n.2.2.2.2.2.1,.int .i64 n.2.2.2.2.2.2.1,.int .i64 n.2.2.2.2.2.2.2.1,.ro true 46 t2 n.2.2.2.2.2.2.2.2.1,.ro true 133 t3 n.2.2.2.2.2.2.2.2.2.1,.int .i64 n.2.2.2.2.2.2.2.2.2.2.1.1,.int .i64 n.2.2.2.2.2.2.2.2.2.2.1.2.1,.int .i64 n.2.2.2.2.2.2.2.2.2.2.1.2.2.1,.bool n.2.2.2.2.2.2.2.2.2.2.1.2.2.2,.ro true 86 t6 n.2.2.2.2.2.2.2.2.2.2.2.1,.int .i64 n.2.2.2.2.2.2.2.2.2.2.2.2.1.1,.int .i64 n.2.2.2.2.2.2.2.2.2.2.2.2.1.2.1,.int .i64 n.2.2.2.2.2.2.2.2.2.2.2.2.1.2.2.1,.int .i64 n.2.2.2.2.2.2.2.2.2.2.2.2.1.2.2.2,.ro true 89 t11 n.2.2.2.2.2.2.2.2.2.2.2.2.2.1,.ro true 91 t12 n.2.2.2.2.2.2.2.2.2.2.2.2.2.2]
def w1 (n:Ty.den t2):List Leaf:=[.int .i64 n.1,.int .i64 n.2.1,.int .i64 n.2.2.1,.bool n.2.2.2]
def w2 (n:Ty.den t76):List Leaf:=[.int .i64 n.1,.bool n.2.1,.bool n.2.2.1,.bool n.2.2.2.1,.int .i64 n.2.2.2.2.1,.int .i64 n.2.2.2.2.2.1,.int .i64 n.2.2.2.2.2.2.1,.int .i64 n.2.2.2.2.2.2.2.1,.own false none 46 t2 n.2.2.2.2.2.2.2.2.1,.own false none 133 t3 n.2.2.2.2.2.2.2.2.2.1,.int .i64 n.2.2.2.2.2.2.2.2.2.2.1.1,.int .i64 n.2.2.2.2.2.2.2.2.2.2.1.2.1,.int .i64 n.2.2.2.2.2.2.2.2.2.2.1.2.2.1,.bool n.2.2.2.2.2.2.2.2.2.2.1.2.2.2,.own false none 86 t50 n.2.2.2.2.2.2.2.2.2.2.2.1,.int .i64 n.2.2.2.2.2.2.2.2.2.2.2.2.1.1,.int .i64 n.2.2.2.2.2.2.2.2.2.2.2.2.1.2.1,.int .i64 n.2.2.2.2.2.2.2.2.2.2.2.2.1.2.2.1,.int .i64 n.2.2.2.2.2.2.2.2.2.2.2.2.1.2.2.2,.own false none 89 t52 n.2.2.2.2.2.2.2.2.2.2.2.2.2.1,.own true none 91 t12 n.2.2.2.2.2.2.2.2.2.2.2.2.2.2]
def w3 (n:Ty.den t26):List Leaf:=[.int .i64 n.1,.bool n.2.1,.bool n.2.2.1,.bool n.2.2.2.1,.int .i64 n.2.2.2.2.1,.int .i64 n.2.2.2.2.2.1,.int .i64 n.2.2.2.2.2.2.1,.int .i64 n.2.2.2.2.2.2.2.1,.ro true 46 t2 n.2.2.2.2.2.2.2.2.1,.ro true 133 t3 n.2.2.2.2.2.2.2.2.2.1,.int .i64 n.2.2.2.2.2.2.2.2.2.2.1.1,.int .i64 n.2.2.2.2.2.2.2.2.2.2.1.2.1,.int .i64 n.2.2.2.2.2.2.2.2.2.2.1.2.2.1,.bool n.2.2.2.2.2.2.2.2.2.2.1.2.2.2,.own true none 86 t6 n.2.2.2.2.2.2.2.2.2.2.2.1,.int .i64 n.2.2.2.2.2.2.2.2.2.2.2.2.1.1,.int .i64 n.2.2.2.2.2.2.2.2.2.2.2.2.1.2.1,.int .i64 n.2.2.2.2.2.2.2.2.2.2.2.2.1.2.2.1,.int .i64 n.2.2.2.2.2.2.2.2.2.2.2.2.1.2.2.2,.ro true 89 t11 n.2.2.2.2.2.2.2.2.2.2.2.2.2.1,.ro true 91 t12 n.2.2.2.2.2.2.2.2.2.2.2.2.2.2]
def w4 (n:Ty.den t47):List Leaf:=[.int .i64 n.1,.int .i64 n.2.1,.int .i64 n.2.2.1,.int .i64 n.2.2.2.1,.int .i64 n.2.2.2.2.1,.int .i64 n.2.2.2.2.2.1,.int .i64 n.2.2.2.2.2.2.1.1,.int .i64 n.2.2.2.2.2.2.1.2.1,.int .i64 n.2.2.2.2.2.2.1.2.2.1,.int .i64 n.2.2.2.2.2.2.1.2.2.2,.ro true 46 t2 n.2.2.2.2.2.2.2]
def w5 (n:Ty.den t94):List Leaf:=[.ro true 33 t26 n.1,.ro true 121 t40 n.2.1,.ro true 3 I6 n.2.2.1,.ro true 46 t2 n.2.2.2]
def wa0 (n:Int×Int×Int×List (Ty.den I6)):List Leaf:=[.int .i64 n.1,.int .i64 n.2.1,.int .i64 n.2.2.1,.ro true 3 I6 n.2.2.2]
def wa1 (n:Int×Bool×Bool×Bool×Int×Int×Int×Int×List (Ty.den t2)×List (Ty.den t3)×Int×Int×Int×Bool×List (Ty.den t50)×Int×Int×Int×Int×List (Ty.den t52)×List (Ty.den t12)):List Leaf:=[.int .i64 n.1,.bool n.2.1,.bool n.2.2.1,.bool n.2.2.2.1,.int .i64 n.2.2.2.2.1,.int .i64 n.2.2.2.2.2.1,.int .i64 n.2.2.2.2.2.2.1,.int .i64 n.2.2.2.2.2.2.2.1,.own false none 46 t2 n.2.2.2.2.2.2.2.2.1,.own false none 133 t3 n.2.2.2.2.2.2.2.2.2.1,.int .i64 n.2.2.2.2.2.2.2.2.2.2.1,.int .i64 n.2.2.2.2.2.2.2.2.2.2.2.1,.int .i64 n.2.2.2.2.2.2.2.2.2.2.2.2.1,.bool n.2.2.2.2.2.2.2.2.2.2.2.2.2.1,.own false none 86 t50 n.2.2.2.2.2.2.2.2.2.2.2.2.2.2.1,.int .i64 n.2.2.2.2.2.2.2.2.2.2.2.2.2.2.2.1,.int .i64 n.2.2.2.2.2.2.2.2.2.2.2.2.2.2.2.2.1,.int .i64 n.2.2.2.2.2.2.2.2.2.2.2.2.2.2.2.2.2.1,.int .i64 n.2.2.2.2.2.2.2.2.2.2.2.2.2.2.2.2.2.2.1,.own false none 89 t52 n.2.2.2.2.2.2.2.2.2.2.2.2.2.2.2.2.2.2.2.1,.own true none 91 t12 n.2.2.2.2.2.2.2.2.2.2.2.2.2.2.2.2.2.2.2.2]
def wa3 (n:Int×Int×Int×Bool):List Leaf:=[.int .i64 n.1,.int .i64 n.2.1,.int .i64 n.2.2.1,.bool n.2.2.2]
def wa8 (n:List (Ty.den t26)×List (Ty.den t40)×List (Ty.den I6)×List (Ty.den t2)):List Leaf:=[.ro false 33 t26 n.1,.ro false 121 t40 n.2.1,.ro false 3 I6 n.2.2.1,.ro false 46 t2 n.2.2.2]
theorem evl {A R:Type}{live:List (Nat×List Coe)}{e:St->(Ex->St->Option R)->Option R}{k:Ex->St->Option R}{S:A->St}{step:(A->Option R)->A->Option R}{K:Nat}(h:∀ r a,e (S a) (iq live r k)=step (λa=>r (S a)) a):(λa=>aY live e K (S a) k)=ae step K:=funext λa=>lK live e k S step h K a
abbrev zc286a0 {A0 A1 A2 A3 A4 A5 A6 A7 A8 A9 A10 A11 A12 A13 A14 A15 A16 A17 A18 A19 R:Type}(a:A0×A1×A2×A3×A4×A5×A6×A7×A8×A9×A10×A11×A12×A13×A14×A15×A16×A17×A18×A19)(r:R):=((a.1,a.2.1,a.2.2.1,a.2.2.2.1,a.2.2.2.2.1,a.2.2.2.2.2.1,a.2.2.2.2.2.2.1,a.2.2.2.2.2.2.2.1,a.2.2.2.2.2.2.2.2.1,a.2.2.2.2.2.2.2.2.2.1,(a.2.2.2.2.2.2.2.2.2.2.1,a.2.2.2.2.2.2.2.2.2.2.2.1,a.2.2.2.2.2.2.2.2.2.2.2.2.1,a.2.2.2.2.2.2.2.2.2.2.2.2.2.1),a.2.2.2.2.2.2.2.2.2.2.2.2.2.2.1,(a.2.2.2.2.2.2.2.2.2.2.2.2.2.2.2.1,a.2.2.2.2.2.2.2.2.2.2.2.2.2.2.2.2.1,a.2.2.2.2.2.2.2.2.2.2.2.2.2.2.2.2.2.1,a.2.2.2.2.2.2.2.2.2.2.2.2.2.2.2.2.2.2.1),a.2.2.2.2.2.2.2.2.2.2.2.2.2.2.2.2.2.2.2),r)
abbrev zc43b32 {A0 A1 A2 A3 A4 A5 A6 A7 A8 A9 A10 A11 A12 A13 A14 A15 A16 A17 A18 A19:Type}(a:A0×A1×A2×A3×A4×A5×A6×A7×A8×A9×A10×A11×A12×A13×A14×A15×A16×A17×A18×A19):=(a.1,a.2.1,a.2.2.1,a.2.2.2.1,a.2.2.2.2.1,a.2.2.2.2.2.1,a.2.2.2.2.2.2.1,a.2.2.2.2.2.2.2.1,a.2.2.2.2.2.2.2.2.1,a.2.2.2.2.2.2.2.2.2.1,(a.2.2.2.2.2.2.2.2.2.2.1,a.2.2.2.2.2.2.2.2.2.2.2.1,a.2.2.2.2.2.2.2.2.2.2.2.2.1,a.2.2.2.2.2.2.2.2.2.2.2.2.2.1),a.2.2.2.2.2.2.2.2.2.2.2.2.2.2.1,(a.2.2.2.2.2.2.2.2.2.2.2.2.2.2.2.1,a.2.2.2.2.2.2.2.2.2.2.2.2.2.2.2.2.1,a.2.2.2.2.2.2.2.2.2.2.2.2.2.2.2.2.2.1,a.2.2.2.2.2.2.2.2.2.2.2.2.2.2.2.2.2.2.1),a.2.2.2.2.2.2.2.2.2.2.2.2.2.2.2.2.2.2.2)
abbrev zc3ec45 {A0 A1 A2 A3 A4 A5 A6 A7 A8 A9 A10 A11 A12 A13 A14 A15 A16 A17 A18 A19:Type}(a:A0×A1×A2×A3×A4×A5×A6×A7×A8×A9×(A10×A11×A12×A13)×A14×(A15×A16×A17×A18)×A19):=(a.1,a.2.1,a.2.2.1,a.2.2.2.1,a.2.2.2.2.1,a.2.2.2.2.2.1,a.2.2.2.2.2.2.1,a.2.2.2.2.2.2.2.1,a.2.2.2.2.2.2.2.2.1,a.2.2.2.2.2.2.2.2.2.1,a.2.2.2.2.2.2.2.2.2.2.1.1,a.2.2.2.2.2.2.2.2.2.2.1.2.1,a.2.2.2.2.2.2.2.2.2.2.1.2.2.1,a.2.2.2.2.2.2.2.2.2.2.1.2.2.2,a.2.2.2.2.2.2.2.2.2.2.2.1,a.2.2.2.2.2.2.2.2.2.2.2.2.1.1,a.2.2.2.2.2.2.2.2.2.2.2.2.1.2.1,a.2.2.2.2.2.2.2.2.2.2.2.2.1.2.2.1,a.2.2.2.2.2.2.2.2.2.2.2.2.1.2.2.2,a.2.2.2.2.2.2.2.2.2.2.2.2.2)
abbrev zceae5f {A0 A1 A2 A3 A4 A5 A6 A7 A8 A9 A10 A11 A12 A13 A14 A15 A16:Type}(a:A0×A1×A2×A3×A4×A5×A6×A7×A8×A9×A10×A11×A12×A13×A14×A15×A16):=(a.1,a.2.1,a.2.2.1,a.2.2.2.1,a.2.2.2.2.1,a.2.2.2.2.2.1,a.2.2.2.2.2.2.1,(a.2.2.2.2.2.2.2.1,a.2.2.2.2.2.2.2.2.1,a.2.2.2.2.2.2.2.2.2.1,a.2.2.2.2.2.2.2.2.2.2.1),a.2.2.2.2.2.2.2.2.2.2.2.1,(a.2.2.2.2.2.2.2.2.2.2.2.2.1,a.2.2.2.2.2.2.2.2.2.2.2.2.2.1,a.2.2.2.2.2.2.2.2.2.2.2.2.2.2.1,a.2.2.2.2.2.2.2.2.2.2.2.2.2.2.2.1),a.2.2.2.2.2.2.2.2.2.2.2.2.2.2.2.2)
abbrev zc00556 {A0 A1 A2 A3 R:Type}(a:A0×A1×A2×A3)(r:R):=(a.1,a.2.1,a.2.2.1,a.2.2.2,r)
abbrev zcp4 {A0 A1 A2 A3 A4 R:Type}(a:A0×A1×A2×A3×A4)(r:R):=(a.1,a.2.1,a.2.2.1,a.2.2.2.1,r)
abbrev zcp8 {A0 A1 A2 A3 A4 A5 A6 A7 A8 R:Type}(a:A0×A1×A2×A3×A4×A5×A6×A7×A8)(r:R):=(a.1,a.2.1,a.2.2.1,a.2.2.2.1,a.2.2.2.2.1,a.2.2.2.2.2.1,a.2.2.2.2.2.2.1,a.2.2.2.2.2.2.2.1,r)
abbrev Kc0:List Coe:=[.keep,.keep,.keep,.keep,.keep,.keep,.keep,.keep,.ro true 46 t2,.ro true 133 t3,.keep,.keep,.keep,.keep,.ro true 86 t6,.keep,.keep,.keep,.keep,.ro true 89 t11,.ro true 91 t12]
abbrev Kc1:List Coe:=[.keep,.keep,.keep,.keep]
abbrev Kc2:List Coe:=[.keep,.keep,.keep,.keep,.keep,.keep,.keep,.keep,.keep,.keep,.keep,.keep,.keep,.keep,.keep,.keep,.keep,.keep,.keep,.keep,.keep]
abbrev Kc3:List Coe:=[.keep,.keep,.keep,.keep,.keep,.keep,.keep,.keep,.own false 46 t2,.own false 133 t3,.keep,.keep,.keep,.keep,.own false 86 t50,.keep,.keep,.keep,.keep,.own false 89 t52,.own true 91 t12]
abbrev Kc4:List Coe:=[.keep,.keep,.keep,.keep,.keep,.keep,.keep,.keep,.ro true 46 t2,.ro true 133 t3,.keep,.keep,.keep,.keep,.own true 86 t6,.keep,.keep,.keep,.keep,.ro true 89 t11,.ro true 91 t12]
abbrev Kc5:List Coe:=[.keep,.keep,.keep,.ro true 3 I6]
abbrev Kc6:List Coe:=[.keep,.keep,.keep,.keep,.keep,.ro true 3 I6]
abbrev Kc7:List Coe:=[.keep,.keep,.keep,.keep,.keep,.keep,.keep,.keep,.keep,.keep,.keep]
namespace Q0
abbrev ps:List PK:=[.rd (.list false 46 t2)]
abbrev rs:List RK:=[.v (.list true 46 t2)]
abbrev R:=Option (ai rs×ag ps)
def f (K:Nat)(x:ab ps):R:=gx t2 32 x.1
def c:Ctr:=⟨62,ps,rs,true,f K⟩
end Q0
namespace Q1
abbrev ps:List PK:=[.own (.list true 46 t2),.rd I6,.own (.list true 46 t2)]
abbrev rs:List RK:=[.v (.list true 46 t2)]
abbrev R:=Option (ai rs×ag ps)
def f (K:Nat)(x:ab ps):R:=fQ t2 32 x.1 x.2.1 x.2.2.1
def c:Ctr:=⟨120,ps,rs,true,f K⟩
end Q1
namespace Q2
abbrev ps:List PK:=[.rd (.list false 133 t3)]
abbrev rs:List RK:=[.v (.list true 133 t3)]
abbrev R:=Option (ai rs×ag ps)
def f (K:Nat)(x:ab ps):R:=gx t3 40 x.1
def c:Ctr:=⟨168,ps,rs,true,f K⟩
end Q2
namespace Q3
abbrev ps:List PK:=[.own (.list true 133 t3),.rd I6,.own (.list true 133 t3)]
abbrev rs:List RK:=[.v (.list true 133 t3)]
abbrev R:=Option (ai rs×ag ps)
def f (K:Nat)(x:ab ps):R:=fQ t3 40 x.1 x.2.1 x.2.2.1
def c:Ctr:=⟨271,ps,rs,true,f K⟩
end Q3
namespace Q4
abbrev ps:List PK:=[.own (.list true 86 t50),.fn [t6] .bool]
abbrev rs:List RK:=[.v (.list true 86 t50)]
abbrev R:=Option (ai rs×ag ps)
def f (K:Nat)(x:ab ps):R:=ir t50 x.1 x.2.1
def c:Ctr:=⟨215,ps,rs,true,f K⟩
end Q4
namespace Q5
abbrev ps:List PK:=[.own (.list true 86 t50),.rd I6,.own (.list true 86 t50)]
abbrev rs:List RK:=[.v (.list true 86 t50)]
abbrev R:=Option (ai rs×ag ps)
def f (K:Nat)(x:ab ps):R:=fQ t50 48 x.1 x.2.1 x.2.2.1
def c:Ctr:=⟨219,ps,rs,true,f K⟩
end Q5
namespace Q6
abbrev ps:List PK:=[.own (.list true 3 I6),.rd I6,.own (.list true 3 I6)]
abbrev rs:List RK:=[.v (.list true 3 I6)]
abbrev R:=Option (ai rs×ag ps)
def f (K:Nat)(x:ab ps):R:=fQ I6 8 x.1 x.2.1 x.2.2.1
def c:Ctr:=⟨176,ps,rs,true,f K⟩
end Q6
namespace Q7
abbrev ps:List PK:=[.rd (.list false 3 I6)]
abbrev rs:List RK:=[.v (.list true 3 I6)]
abbrev R:=Option (ai rs×ag ps)
def f (K:Nat)(x:ab ps):R:=gx I6 8 x.1
def c:Ctr:=⟨167,ps,rs,true,f K⟩
end Q7
namespace Q8
abbrev ps:List PK:=[.own (.list true 89 t52),.rd I6,.own (.list true 89 t52)]
abbrev rs:List RK:=[.v (.list true 89 t52)]
abbrev R:=Option (ai rs×ag ps)
def f (K:Nat)(x:ab ps):R:=fQ t52 64 x.1 x.2.1 x.2.2.1
def c:Ctr:=⟨180,ps,rs,true,f K⟩
end Q8
namespace Q9
abbrev ps:List PK:=[.rd (.list false 86 t6)]
abbrev rs:List RK:=[.v (.list true 86 t6)]
abbrev R:=Option (ai rs×ag ps)
def f (K:Nat)(x:ab ps):R:=gx t6 48 x.1
def c:Ctr:=⟨197,ps,rs,false,f K⟩
end Q9
namespace Q10
abbrev ps:List PK:=[.rd (.list false 86 t6)]
abbrev rs:List RK:=[.v (.list true 86 t62)]
abbrev R:=Option (ai rs×ag ps)
def f (K:Nat)(x:ab ps):R:=Bl t6 48 x.1
def c:Ctr:=⟨197,ps,rs,true,f K⟩
end Q10
namespace Q11
abbrev ps:List PK:=[.own (.list true 133 t3),.fn [t3] .bool]
abbrev rs:List RK:=[.v (.list true 133 t3)]
abbrev R:=Option (ai rs×ag ps)
def f (K:Nat)(x:ab ps):R:=ir t3 x.1 x.2.1
def c:Ctr:=⟨288,ps,rs,true,f K⟩
end Q11
namespace Q12
abbrev ps:List PK:=[.rd I6]
abbrev rs:List RK:=[.v .str]
abbrev R:=Option (ai rs×ag ps)
def step (g:ab ps->R)(x:ab ps):R:=bif decide (x.1<(-9223372036854775807)) then (some (((ByteArray.mk #[45,57,50,50,51,51,55,50,48,51,54,56,53,52,55,55,53,56,48,56]),()),())) else (bif decide (x.1<0) then ((g (wr .i64 (0-x.1),())).bind λy1=>aX (ByteArray.mk #[45]) y1.1.1 λy2=>some ((y2,()),())) else (bif decide (x.1<10) then (some ((ip ([wr .u8 (wr .i64 (48+x.1))]),()),())) else ((g (wr .i64 (FL x.1 10),())).bind λy3=>aX y3.1.1 (ip ([wr .u8 (wr .i64 (48+(Int.tmod x.1 10)))])) λy4=>some ((y4,()),()))))
def f (x:ab ps):R:=Nat.rec (motive:=λ_=>ab ps->R) (λ_=>none) (λ_ g x=>step g x) K x
def c:Ctr:=⟨280,ps,rs,true,f K⟩
end Q12
namespace Q13
abbrev ps:List PK:=[.rd I6,.rd I6,.rd I6]
abbrev rs:List RK:=[.v .bool]
abbrev R:=Option (ai rs×ag ps)
def f (K:Nat)(x:ab ps):R:=bif decide (x.1>=x.2.1) then (some ((decide (x.1<=x.2.2.1),()),())) else (some ((false,()),()))
def c:Ctr:=⟨80,ps,rs,true,f K⟩
end Q13
namespace Q14
abbrev ps:List PK:=[.rd I6]
abbrev rs:List RK:=[.v .bool]
abbrev R:=Option (ai rs×ag ps)
def f (x:ab ps):R:=(Q13.f K (x.1,0,7,())).bind λy1=>some ((y1.1.1,()),())
def c:Ctr:=⟨79,ps,rs,true,f K⟩
end Q14
namespace Q15
abbrev ps:List PK:=[.rd t26]
abbrev rs:List RK:=[.v .bool]
abbrev R:=Option (ai rs×ag ps)
def f (K:Nat)(x:ab ps):R:=let b2:=x.1.2.2.2.2;let b1:=b2.2.2.2;let j1:R:=some ((false,()),());bif !x.1.2.2.1 then (bif b2.1==0 then (bif b2.2.1==0 then (bif b2.2.2.1==0 then (bif b1.1==0 then (bif (wr .i64 ((wr .i64 ((wr .i64 ((wr .i64 ((FJ b1.2.1:Int)+(FJ b1.2.2.1:Int)))+(FJ b1.2.2.2.2.1:Int)))+(FJ b1.2.2.2.2.2.2.1:Int)))+(FJ b1.2.2.2.2.2.2.2:Int)))==0 then (bif Ty.eqv t2 b1.2.2.2.1 (0,0,0,false) then (some ((Ty.eqv t9 b1.2.2.2.2.2.1 (0,0,0,0),()),())) else j1) else j1) else j1) else j1) else j1) else j1) else j1
def c:Ctr:=⟨81,ps,rs,true,f K⟩
end Q15
namespace Q16
abbrev ps:List PK:=[.rd t2]
abbrev rs:List RK:=[.v .bool]
abbrev R:=Option (ai rs×ag ps)
def f (x:ab ps):R:=(Q14.f K (x.1.1,())).bind λy1=>bif y1.1.1 then ((Q13.f K (x.1.2.1,0,999,())).bind λy2=>bif y2.1.1 then ((Q13.f K (x.1.2.2.1,1,4,())).bind λy3=>some ((y3.1.1,()),())) else (some ((false,()),()))) else (some ((false,()),()))
def c:Ctr:=⟨119,ps,rs,true,f K⟩
end Q16
namespace Q17
abbrev ps:List PK:=[.rd (.list false 46 t2)]
abbrev rs:List RK:=[.v .bool]
abbrev R:=Option (ai rs×ag ps)
abbrev A0:=Int
def s0 (x:ab ps)(r0:A0->R)(a:A0):R:=bif decide (a<(FJ x.1:Int)) then ((idx x.1 a).bind λy1=>(Q16.f K (y1,())).bind λy2=>bif !y2.1.1 then (some ((false,()),())) else (bif decide (a>0) then ((idx x.1 (wr .i64 (a-1))).bind λy3=>bif decide (y1.1<=y3.1) then (some ((false,()),())) else (r0 (wr .i64 (a+1)))) else (r0 (wr .i64 (a+1))))) else (some ((true,()),()))
def l0 (x:ab ps):A0->R:=ae (s0 K x) K
def pre (K:Nat)(N0:A0->R)(x:ab ps):R:=N0 0
def f (x:ab ps):R:=pre K (l0 K x) x
def c:Ctr:=⟨61,ps,rs,true,f K⟩
end Q17
namespace Q18
abbrev ps:List PK:=[.rd (.list false 46 t2),.rd I6,.fn [t2,I6] I6]
abbrev rs:List RK:=[.v I6,.v .bool]
abbrev R:=Option (ai rs×ag ps)
abbrev A0:=Int×Int
def s0 (K:Nat)(x:ab ps)(r0:A0->R)(a:A0):R:=bif decide (a.1<a.2) then (let j1:=FM (wr .u64 (wr .i64 (a.1+a.2))) (2 ^ 1);(idx x.1 (wr .i64 j1)).bind λy1=>(x.2.2.1 (y1,x.2.1,())).bind λy2=>bif decide (y2<0) then (r0 (wr .i64 ((wr .i64 j1)+1),a.2)) else (r0 (a.1,wr .i64 j1))) else (bif decide (a.1<(FJ x.1:Int)) then ((idx x.1 a.1).bind λy3=>(x.2.2.1 (y3,x.2.1,())).bind λy4=>some ((a.1,y4==0,()),())) else (some ((a.1,false,()),())))
def l0 (x:ab ps):A0->R:=ae (s0 K x) K
def pre (K:Nat)(N0:A0->R)(x:ab ps):R:=N0 (0,(FJ x.1:Int))
def f (x:ab ps):R:=pre K (l0 K x) x
def c:Ctr:=⟨122,ps,rs,true,f K⟩
end Q18
namespace Q19
abbrev ps:List PK:=[.rd I6]
abbrev rs:List RK:=[.v .bool]
abbrev R:=Option (ai rs×ag ps)
def f (K:Nat)(x:ab ps):R:=some ((x.1 != x.1,()),())
def c:Ctr:=⟨194,ps,rs,true,f K⟩
end Q19
namespace Q20
abbrev ps:List PK:=[.rd I6,.rd I6]
abbrev rs:List RK:=[.v I6]
abbrev R:=Option (ai rs×ag ps)
def f (x:ab ps):R:=(Q19.f K (x.1,())).bind λy1=>(Q19.f K (x.2.1,())).bind λy2=>bif y1.1.1 then (bif y2.1.1 then (some ((0,()),())) else (some (((-1),()),()))) else (bif y2.1.1 then (some ((1,()),())) else (bif decide (x.1<x.2.1) then (some (((-1),()),())) else (bif decide (x.1>x.2.1) then (some ((1,()),())) else (some ((0,()),())))))
def c:Ctr:=⟨124,ps,rs,true,f K⟩
end Q20
namespace Q21
abbrev ps:List PK:=[.rd t2,.rd I6]
abbrev rs:List RK:=[.v I6]
abbrev R:=Option (ai rs×ag ps)
def f (x:ab ps):R:=(Q20.f K (x.1.1,x.2.1,())).bind λy1=>some ((y1.1.1,()),())
def c:Ctr:=⟨123,ps,rs,true,f K⟩
end Q21
namespace Q22
abbrev ps:List PK:=[.rd (.list false 46 t2),.rd I6]
abbrev rs:List RK:=[.v I6,.v .bool]
abbrev R:=Option (ai rs×ag ps)
def f (x:ab ps):R:=(Q18.f K (x.1,x.2.1,λy1=>(Q21.f K (y1.1,y1.2.1,())).map λy=>y.1.1,())).bind λy2=>some ((y2.1.1,y2.1.2.1,()),())
def c:Ctr:=⟨64,ps,rs,true,f K⟩
end Q22
namespace Q23
abbrev ps:List PK:=[.rd (.list false 46 t2),.rd I6]
abbrev rs:List RK:=[.v t2,.v .bool]
abbrev R:=Option (ai rs×ag ps)
def f (x:ab ps):R:=(Q17.f K (x.1,())).bind λy1=>let j1:=(((0,0,0,false),false,()),());bif !y1.1.1 then (some j1) else ((Q22.f K (x.1,x.2.1,())).bind λy2=>bif !y2.1.2.1 then (some j1) else ((idx x.1 y2.1.1).bind λy3=>some ((y3,true,()),())))
def c:Ctr:=⟨20,ps,rs,true,f K⟩
end Q23
namespace Q24
abbrev ps:List PK:=[.rd (.list false 46 t2),.fn [t2] .bool]
abbrev rs:List RK:=[.v I6]
abbrev R:=Option (ai rs×ag ps)
abbrev A0:=Int
def s0 (K:Nat)(x:ab ps)(r0:A0->R)(a:A0):R:=bif decide (a<(FJ x.1:Int)) then ((idx x.1 a).bind λy1=>(x.2.1 (y1,())).bind λy2=>bif y2 then (some ((a,()),())) else (r0 (wr .i64 (a+1)))) else (some (((-1),()),()))
def l0 (x:ab ps):A0->R:=ae (s0 K x) K
def pre (K:Nat)(N0:A0->R)(x:ab ps):R:=N0 0
def f (x:ab ps):R:=pre K (l0 K x) x
def c:Ctr:=⟨190,ps,rs,true,f K⟩
end Q24
namespace Q25
abbrev ps:List PK:=[.rd (.list false 46 t2),.fn [t2] .bool]
abbrev rs:List RK:=[.v .bool]
abbrev R:=Option (ai rs×ag ps)
def f (x:ab ps):R:=(Q24.f K (x.1,x.2.1,())).bind λy1=>some ((decide (y1.1.1>=0),()),())
def c:Ctr:=⟨117,ps,rs,true,f K⟩
end Q25
namespace Q26
abbrev ps:List PK:=[.rd I6]
abbrev rs:List RK:=[.v I6]
abbrev R:=Option (ai rs×ag ps)
def f (K:Nat)(x:ab ps):R:=some ((wr .i64 (FL x.1 4),()),())
def c:Ctr:=⟨55,ps,rs,true,f K⟩
end Q26
namespace Q27
abbrev ps:List PK:=[.rd t2,.rref I6]
abbrev rs:List RK:=[.v .bool]
abbrev R:=Option (ai rs×ag ps)
def f (x:ab ps):R:=(Q26.f K (x.1.1,())).bind λy1=>some ((y1.1.1 != x.2.1,()),())
def c:Ctr:=⟨118,ps,rs,true,f K⟩
end Q27
namespace Q28
abbrev ps:List PK:=[.rd (.list false 46 t2),.rd I6]
abbrev rs:List RK:=[.v .bool]
abbrev R:=Option (ai rs×ag ps)
def f (x:ab ps):R:=(Q25.f K (x.1,λy1=>(Q27.f K (y1.1,x.2.1,())).map λy=>y.1.1,())).bind λy2=>some ((!y2.1.1,()),())
def c:Ctr:=⟨53,ps,rs,true,f K⟩
end Q28
namespace Q29
abbrev ps:List PK:=[.rd t26]
abbrev rs:List RK:=[.v I6]
abbrev R:=Option (ai rs×ag ps)
def f (x:ab ps):R:=(Q26.f K (x.1.1,())).bind λy1=>some ((y1.1.1,()),())
def c:Ctr:=⟨54,ps,rs,true,f K⟩
end Q29
namespace Q30
abbrev ps:List PK:=[.rd (.list false 133 t3),.fn [t3] .bool]
abbrev rs:List RK:=[.v I6]
abbrev R:=Option (ai rs×ag ps)
abbrev A0:=Int
def s0 (K:Nat)(x:ab ps)(r0:A0->R)(a:A0):R:=bif decide (a<(FJ x.1:Int)) then ((idx x.1 a).bind λy1=>(x.2.1 (y1,())).bind λy2=>bif y2 then (some ((a,()),())) else (r0 (wr .i64 (a+1)))) else (some (((-1),()),()))
def l0 (x:ab ps):A0->R:=ae (s0 K x) K
def pre (K:Nat)(N0:A0->R)(x:ab ps):R:=N0 0
def f (x:ab ps):R:=pre K (l0 K x) x
def c:Ctr:=⟨205,ps,rs,true,f K⟩
end Q30
namespace Q31
abbrev ps:List PK:=[.rd (.list false 133 t3),.fn [t3] .bool]
abbrev rs:List RK:=[.v .bool]
abbrev R:=Option (ai rs×ag ps)
def f (x:ab ps):R:=(Q30.f K (x.1,x.2.1,())).bind λy1=>some ((decide (y1.1.1>=0),()),())
def c:Ctr:=⟨135,ps,rs,true,f K⟩
end Q31
namespace Q32
abbrev ps:List PK:=[.rd t3]
abbrev rs:List RK:=[.v .bool]
abbrev R:=Option (ai rs×ag ps)
def f (x:ab ps):R:=(Q13.f K (x.1.2,1,4,())).bind λy1=>some ((!y1.1.1,()),())
def c:Ctr:=⟨203,ps,rs,true,f K⟩
end Q32
namespace Q33
abbrev ps:List PK:=[.rd (.list false 133 t3)]
abbrev rs:List RK:=[.v (.list true 46 t2)]
abbrev R:=Option (ai rs×ag ps)
abbrev A0:=List (Ty.den t2)×Int
def s0 (K:Nat)(x:ab ps)(r0:A0->R)(a:A0):R:=bif decide (a.2<(FJ x.1:Int)) then ((idx x.1 a.2).bind λy1=>bif decide ((FJ a.1+FJ ([y1.1]))*32<=am) then (r0 (a.1++([y1.1]),wr .i64 (a.2+1))) else none) else (some ((a.1,()),()))
def l0 (x:ab ps):A0->R:=ae (s0 K x) K
def pre (K:Nat)(N0:A0->R)(x:ab ps):R:=N0 ([],0)
def f (x:ab ps):R:=pre K (l0 K x) x
def c:Ctr:=⟨204,ps,rs,true,f K⟩
end Q33
namespace Q34
abbrev ps:List PK:=[.rd (.list false 133 t3)]
abbrev rs:List RK:=[.v .bool]
abbrev R:=Option (ai rs×ag ps)
def f (x:ab ps):R:=(Q33.f K (x.1,())).bind λy1=>(Q17.f K (y1.1.1,())).bind λy2=>bif y2.1.1 then ((Q31.f K (x.1,λy3=>(Q32.f K (y3.1,())).map λy=>y.1.1,())).bind λy4=>some ((!y4.1.1,()),())) else (some ((false,()),()))
def c:Ctr:=⟨134,ps,rs,true,f K⟩
end Q34
namespace Q35
abbrev ps:List PK:=[.rd (.list false 3 I6)]
abbrev rs:List RK:=[.v I6]
abbrev R:=Option (ai rs×ag ps)
abbrev A0:=Int
def s0 (K:Nat)(x:ab ps)(r0:A0->R)(a:A0):R:=bif decide (a<(FJ x.1:Int)) then ((idx x.1 a).bind λy1=>bif y1 != 0 then (some ((y1,()),())) else (r0 (wr .i64 (a+1)))) else (some ((0,()),()))
def l0 (x:ab ps):A0->R:=ae (s0 K x) K
def pre (K:Nat)(N0:A0->R)(x:ab ps):R:=N0 0
def f (x:ab ps):R:=pre K (l0 K x) x
def c:Ctr:=⟨193,ps,rs,true,f K⟩
end Q35
namespace Q36
abbrev ps:List PK:=[.rd t2,.rd t2]
abbrev rs:List RK:=[.v I6]
abbrev R:=Option (ai rs×ag ps)
def f (x:ab ps):R:=let j3:=(x.1.2.2.1,x.2.1.2.2.1,());let j4:=(x.1.2.1,x.2.1.2.1,());let j2:R:=(Q20.f K (x.1.1,x.2.1.1,())).bind λy9=>(Q20.f K j4).bind λy10=>(Q20.f K j3).bind λy11=>(Q35.f K ([y9.1.1,y10.1.1,y11.1.1,0],())).bind λy12=>some ((y12.1.1,()),());let j1:R:=bif x.2.1.2.2.2 then (bif !x.1.2.2.2 then ((Q20.f K (x.1.1,x.2.1.1,())).bind λy5=>(Q20.f K j4).bind λy6=>(Q20.f K j3).bind λy7=>(Q35.f K ([y5.1.1,y6.1.1,y7.1.1,(-1)],())).bind λy8=>some ((y8.1.1,()),())) else j2) else j2;bif x.1.2.2.2 then (bif !x.2.1.2.2.2 then ((Q20.f K (x.1.1,x.2.1.1,())).bind λy1=>(Q20.f K j4).bind λy2=>(Q20.f K j3).bind λy3=>(Q35.f K ([y1.1.1,y2.1.1,y3.1.1,1],())).bind λy4=>some ((y4.1.1,()),())) else j1) else j1
def c:Ctr:=⟨121,ps,rs,true,f K⟩
end Q36
namespace Q37
abbrev ps:List PK:=[.rd t2,.rd t2]
abbrev rs:List RK:=[.v .bool]
abbrev R:=Option (ai rs×ag ps)
def f (x:ab ps):R:=(Q16.f K (x.1,())).bind λy1=>let j1:R:=some ((false,()),());bif y1.1.1 then ((Q16.f K (x.2.1,())).bind λy2=>bif y2.1.1 then (bif x.1.1==x.2.1.1 then ((Q36.f K (x.1,x.2.1,())).bind λy3=>some ((decide (y3.1.1>0),()),())) else j1) else j1) else j1
def c:Ctr:=⟨93,ps,rs,true,f K⟩
end Q37
namespace Q38
abbrev ps:List PK:=[.rd t3,.rref t26]
abbrev rs:List RK:=[.v .bool]
abbrev R:=Option (ai rs×ag ps)
def f (x:ab ps):R:=(Q23.f K (x.2.1.2.2.2.2.2.2.2.2.1,x.1.1.1,())).bind λy1=>bif !y1.1.2.1 then (some ((true,()),())) else ((Q37.f K (x.1.1,y1.1.1,())).bind λy2=>some ((y2.1.1,()),()))
def c:Ctr:=⟨136,ps,rs,true,f K⟩
end Q38
namespace Q39
abbrev ps:List PK:=[.rd t26]
abbrev rs:List RK:=[.v .bool]
abbrev R:=Option (ai rs×ag ps)
def f (x:ab ps):R:=let b2:=x.1.2.2.2;let b1:=b2.2.2.2.2.2;let j2:R:=some ((false,()),());let j1:R:=(Q29.f K (x.1,())).bind λy2=>(Q28.f K (b1.1,y2.1.1,())).bind λy3=>bif !y3.1.1 then j2 else ((Q34.f K (b1.2.1,())).bind λy4=>bif !y4.1.1 then j2 else ((Q31.f K (b1.2.1,λy5=>(Q38.f K (y5.1,x.1,())).map λy=>y.1.1,())).bind λy6=>some ((!y6.1.1,()),())));let j3:=(b1.1,x.1.1,());bif x.1.2.2.1 then ((Q23.f K j3).bind λy1=>bif !y1.1.2.1 then j2 else (bif !Ty.eqv t2 y1.1.1 (x.1.1,b2.2.1,4,b2.1) then j2 else j1)) else ((Q23.f K j3).bind λy7=>bif !y7.1.2.1 then j2 else (bif !Ty.eqv t2 y7.1.1 (x.1.1,b2.2.1,1,b2.1) then j2 else j1))
def c:Ctr:=⟨82,ps,rs,true,f K⟩
end Q39
namespace Q40
abbrev ps:List PK:=[.rd t26]
abbrev rs:List RK:=[.v .bool]
abbrev R:=Option (ai rs×ag ps)
def f (x:ab ps):R:=let b2:=x.1.2.2.2.2.2;let b1:=b2.2.2.2.2.2.1;bif b1.1==(-1) then (some ((Ty.eqv t2 b1 ((-1),0,0,false),()),())) else ((Q23.f K (b2.2.2.2.1,b1.1,())).bind λy1=>let j1:R:=some ((false,()),());bif y1.1.2.1 then (bif b1.1 != x.1.1 then ((Q13.f K (b1.2.1,0,b2.1,())).bind λy2=>bif y2.1.1 then ((Q13.f K (b1.2.2.1,1,b2.2.1,())).bind λy3=>some ((y3.1.1,()),())) else j1) else j1) else j1)
def c:Ctr:=⟨83,ps,rs,true,f K⟩
end Q40
namespace Q41
abbrev ps:List PK:=[.rd t26,.rd I6]
abbrev rs:List RK:=[.v .bool]
abbrev R:=Option (ai rs×ag ps)
def f (x:ab ps):R:=(Q14.f K (x.2.1,())).bind λy1=>bif y1.1.1 then ((Q26.f K (x.2.1,())).bind λy2=>(Q29.f K (x.1,())).bind λy3=>some ((y2.1.1==y3.1.1,()),())) else (some ((false,()),()))
def c:Ctr:=⟨52,ps,rs,true,f K⟩
end Q41
namespace Q42
abbrev ps:List PK:=[.rd t26]
abbrev rs:List RK:=[.v .bool]
abbrev R:=Option (ai rs×ag ps)
abbrev A2:=List (Ty.den t2)×Int×List (Ty.den I6)×Int×Int×Int×Int×Int×List (Ty.den I6)
abbrev A1:=List (Ty.den t2)×Int
abbrev A0:=List (Ty.den t2)×Int
def s2 (x:ab ps)(r1:A1->R)(r2:A2->R)(a:A2):R:=let b1:=a.2.2.2.2;bif decide (b1.1<a.2.2.2.1) then ((idx a.2.2.1 b1.1).bind λy8=>(Q41.f K (x.1,y8,())).bind λy9=>bif !y9.1.1 then (some ((false,()),())) else (let j1:=(zcp4 a (wr .i64 (b1.1+1),b1.2));bif decide (b1.1>0) then ((idx b1.2.2.2.2 (wr .i64 (b1.1-1))).bind λy10=>bif decide (y8<=y10) then (some ((false,()),())) else (r2 j1)) else (r2 j1))) else (r1 (a.1,wr .i64 (a.2.1+1)))
def l2 (x:ab ps)(r1:A1->R):A2->R:=ae (s2 K x r1) K
def s1 (x:ab ps)(N2:A2->R)(r1:A1->R)(a:A1):R:=bif decide (a.2<(FJ x.1.2.2.2.2.2.2.2.2.2.2.2.1:Int)) then ((idx x.1.2.2.2.2.2.2.2.2.2.2.2.1 a.2).bind λy2=>(idx a.1 a.2).bind λ_=>(idx a.1 (FK a.2:Nat)).bind λy4=>let j1:R:=some ((false,()),());bif y2.1 != y4.1 then j1 else ((idx a.1 a.2).bind λ_=>(idx a.1 (FK a.2:Nat)).bind λy6=>bif y2.2.1 != y6.2.1 then j1 else ((Q13.f K (y2.2.2.1,0,x.1.2.2.2.2.2.1,())).bind λy7=>bif !y7.1.1 then j1 else (let j2:=(FJ y2.2.2.2:Int);bif j2==0 then j1 else (N2 (a.1,a.2,y2.2.2.2,j2,0,y2)))))) else (some ((true,()),()))
def l1 (x:ab ps):A1->R:=ae (λr1 a=>s1 K x (l2 K x r1) r1 a) K
def s0 (K:Nat)(x:ab ps)(N1:A1->R)(r0:A0->R)(a:A0):R:=let b1:=x.1.2.2.2.2.2.2.2.2;bif decide (a.2<(FJ b1.1:Int)) then ((idx b1.1 a.2).bind λy1=>bif y1.2.2.1==2 then (bif decide ((FJ a.1+FJ ([y1]))*32<=am) then (r0 (a.1++([y1]),wr .i64 (a.2+1))) else none) else (r0 (a.1,wr .i64 (a.2+1)))) else (bif (FJ b1.2.2.2.1:Int) != (FJ a.1:Int) then (some ((false,()),())) else (N1 (a.1,0)))
def l0 (x:ab ps):A0->R:=ae (s0 K x (l1 K x)) K
def pre (K:Nat)(N0:A0->R)(x:ab ps):R:=N0 ([],0)
def f (x:ab ps):R:=pre K (l0 K x) x
def c:Ctr:=⟨84,ps,rs,true,f K⟩
def G:List Ctr:=[Q41.c K,Q13.c K]
def v2:List (Nat×List Coe):=[(1,[.keep]),(3,[.own false 46 t2]),(7,[.keep]),(32,[.ro true 86 t6]),(33,[.keep]),(34,[.keep]),(72,[.ro true 3 I6]),(73,[.keep]),(74,[.keep]),(100001,Kc0),(100007,Kc5)]
def v1:List (Nat×List Coe):=[(1,[.keep]),(3,[.own false 46 t2]),(32,[.ro true 86 t6]),(33,[.keep]),(34,[.keep]),(100001,Kc0)]
def v0:List (Nat×List Coe):=[(1,[.keep]),(3,[.own false 46 t2]),(11,[.ro true 46 t2]),(12,[.keep]),(13,[.keep]),(100001,Kc0)]
def L:List (Nat×List (Nat×List Coe)):=[(17,v2),(12,v1),(4,v0)]
def body:Code:=cY Tryz.f84
abbrev ev:Code->St->(Ex->St->R)->R:=evK (G K) T_NL L K
abbrev fin:Ex->St->R:=du T_NL ps rs true Tryz.f84.results.toList
def S0 (x:ab ps)(a:A0):St:=av [(1,⟨0,.one,[.bp 100001 0]⟩),(3,⟨0,.one,[.own false none 46 t2 a.1]⟩),(11,⟨0,.one,[.ro true 46 t2 x.1.2.2.2.2.2.2.2.2.1]⟩),(12,⟨0,.one,[.int .i64 (FJ x.1.2.2.2.2.2.2.2.2.1:Int)]⟩),(13,⟨0,.one,[.int .i64 a.2]⟩),(100001,⟨0,.agg,(w0 x.1)⟩)]
def S1 (x:ab ps)(a:A1):St:=av [(1,⟨0,.one,[.bp 100001 0]⟩),(3,⟨0,.one,[.own false none 46 t2 a.1]⟩),(32,⟨0,.one,[.ro true 86 t6 x.1.2.2.2.2.2.2.2.2.2.2.2.1]⟩),(33,⟨0,.one,[.int .i64 (FJ x.1.2.2.2.2.2.2.2.2.2.2.2.1:Int)]⟩),(34,⟨0,.one,[.int .i64 a.2]⟩),(100001,⟨0,.agg,(w0 x.1)⟩)]
def S2 (x:ab ps)(a:A2):St:=av [(1,⟨0,.one,[.bp 100001 0]⟩),(3,⟨0,.one,[.own false none 46 t2 a.1]⟩),(7,⟨0,.one,[.bp 100007 0]⟩),(32,⟨0,.one,[.ro true 86 t6 x.1.2.2.2.2.2.2.2.2.2.2.2.1]⟩),(33,⟨0,.one,[.int .i64 (FJ x.1.2.2.2.2.2.2.2.2.2.2.2.1:Int)]⟩),(34,⟨0,.one,[.int .i64 a.2.1]⟩),(72,⟨0,.one,[.ro true 3 I6 a.2.2.1]⟩),(73,⟨0,.one,[.int .i64 a.2.2.2.1]⟩),(74,⟨0,.one,[.int .i64 a.2.2.2.2.1]⟩),(100001,⟨0,.agg,(w0 x.1)⟩),(100007,⟨0,.agg,(wa0 a.2.2.2.2.2)⟩)]
def k0 (x:ab ps):Ex->St->R:=kAt (ev K) body [1,1,0,1,0] fin
def N0 (x:ab ps):A0->R:=λa=>aY v0 (ev K (sub body [1,1,0,1,0,0])) K (S0 x a) (k0 K x)
def k1 (x:ab ps):Ex->St->R:=kAt (ev K) body [1,1,1,1,0,1,0] fin
def N1 (x:ab ps):A1->R:=λa=>aY v1 (ev K (sub body [1,1,1,1,0,1,0,0])) K (S1 x a) (k1 K x)
def k2 (x:ab ps)(q1:St->R):Ex->St->R:=kAt (ev K) (sub body [1,1,1,1,0,1,0,0]) [1,1,0,0,1,1,1,0] (iq v1 q1 (k1 K x))
def N2 (x:ab ps)(q1:St->R):A2->R:=λa=>aY v2 (ev K (sub body [1,1,1,1,0,1,0,0,1,1,0,0,1,1,1,0,0])) K (S2 x a) (k2 K x q1)
end Q42
namespace Q43
abbrev ps:List PK:=[.rd t9]
abbrev rs:List RK:=[.v .bool]
abbrev R:=Option (ai rs×ag ps)
def f (x:ab ps):R:=(Q13.f K (x.1.1,(-100000),100000,())).bind λy1=>let j1:R:=some ((false,()),());bif y1.1.1 then ((Q13.f K (x.1.2.1,(-100000),100000,())).bind λy2=>bif y2.1.1 then ((Q13.f K (x.1.2.2.1,0,100000,())).bind λy3=>bif y3.1.1 then ((Q13.f K (x.1.2.2.2,1,1500,())).bind λy4=>some ((y4.1.1,()),())) else j1) else j1) else j1
def c:Ctr:=⟨85,ps,rs,true,f K⟩
end Q43
namespace Q44
abbrev ps:List PK:=[.rd t26,.rd I6]
abbrev rs:List RK:=[.v .bool]
abbrev R:=Option (ai rs×ag ps)
def f (x:ab ps):R:=(Q41.f K (x.1,x.2.1,())).bind λy1=>bif y1.1.1 then (some ((x.2.1 != x.1.1,()),())) else (some ((false,()),()))
def c:Ctr:=⟨110,ps,rs,true,f K⟩
end Q44
namespace Q45
abbrev ps:List PK:=[.rd I6]
abbrev rs:List RK:=[.v .bool]
abbrev R:=Option (ai rs×ag ps)
def f (x:ab ps):R:=(Q13.f K (x.1,1,60000,())).bind λy1=>some ((!y1.1.1,()),())
def c:Ctr:=⟨137,ps,rs,true,f K⟩
end Q45
namespace Q46
abbrev ps:List PK:=[.rd (.list false 3 I6),.fn [I6] .bool]
abbrev rs:List RK:=[.v I6]
abbrev R:=Option (ai rs×ag ps)
abbrev A0:=Int
def s0 (K:Nat)(x:ab ps)(r0:A0->R)(a:A0):R:=bif decide (a<(FJ x.1:Int)) then ((idx x.1 a).bind λy1=>(x.2.1 (y1,())).bind λy2=>bif y2 then (some ((a,()),())) else (r0 (wr .i64 (a+1)))) else (some (((-1),()),()))
def l0 (x:ab ps):A0->R:=ae (s0 K x) K
def pre (K:Nat)(N0:A0->R)(x:ab ps):R:=N0 0
def f (x:ab ps):R:=pre K (l0 K x) x
def c:Ctr:=⟨206,ps,rs,true,f K⟩
end Q46
namespace Q47
abbrev ps:List PK:=[.rd (.list false 3 I6),.fn [I6] .bool]
abbrev rs:List RK:=[.v .bool]
abbrev R:=Option (ai rs×ag ps)
def f (x:ab ps):R:=(Q46.f K (x.1,x.2.1,())).bind λy1=>some ((decide (y1.1.1>=0),()),())
def c:Ctr:=⟨138,ps,rs,true,f K⟩
end Q47
namespace Q48
abbrev ps:List PK:=[.rd t26]
abbrev rs:List RK:=[.v .bool]
abbrev R:=Option (ai rs×ag ps)
abbrev A0:=Int
def s0 (x:ab ps)(r0:A0->R)(a:A0):R:=let b1:=x.1.2.2.2.2.2.2.2.2.2.2.2.2.2.1;bif decide (a<(FJ b1:Int)) then ((idx b1 a).bind λy1=>(Q44.f K (x.1,y1.1,())).bind λy2=>let j2:R:=some ((false,()),());bif !y2.1.1 then j2 else (let j1:R:=(Q43.f K (y1.2.1,())).bind λy4=>bif !y4.1.1 then j2 else ((Q13.f K ((FJ y1.2.2:Int),1,3,())).bind λy5=>bif !y5.1.1 then j2 else ((Q47.f K (y1.2.2,λy6=>(Q45.f K (y6.1,())).map λy=>y.1.1,())).bind λy7=>bif y7.1.1 then j2 else (r0 (wr .i64 (a+1)))));bif decide (a>0) then ((idx b1 (wr .i64 (a-1))).bind λy3=>bif decide (y1.1<=y3.1) then j2 else j1) else j1)) else (some ((true,()),()))
def l0 (x:ab ps):A0->R:=ae (s0 K x) K
def pre (K:Nat)(N0:A0->R)(x:ab ps):R:=N0 0
def f (x:ab ps):R:=pre K (l0 K x) x
def c:Ctr:=⟨86,ps,rs,true,f K⟩
end Q48
namespace Q49
abbrev ps:List PK:=[.rd t26]
abbrev rs:List RK:=[.v .bool]
abbrev R:=Option (ai rs×ag ps)
abbrev A0:=Int
def s0 (x:ab ps)(r0:A0->R)(a:A0):R:=let b1:=x.1.2.2.2.2.2.2.2.2.2.2.2.2.2.2;bif decide (a<(FJ b1:Int)) then ((idx b1 a).bind λy1=>(Q26.f K (7,())).bind λy2=>(Q13.f K (y1.1,0,y2.1.1,())).bind λy3=>let j2:R:=some ((false,()),());bif !y3.1.1 then j2 else ((Q29.f K (x.1,())).bind λy4=>bif y1.1==y4.1.1 then j2 else (let j1:R:=bif (FJ y1.2:Int)==0 then j2 else ((Q17.f K (y1.2,())).bind λy6=>bif !y6.1.1 then j2 else ((Q28.f K (y1.2,y1.1,())).bind λy7=>bif !y7.1.1 then j2 else (r0 (wr .i64 (a+1)))));bif decide (a>0) then ((idx b1 (wr .i64 (a-1))).bind λy5=>bif decide (y1.1<=y5.1) then j2 else j1) else j1))) else (some ((true,()),()))
def l0 (x:ab ps):A0->R:=ae (s0 K x) K
def pre (K:Nat)(N0:A0->R)(x:ab ps):R:=N0 0
def f (x:ab ps):R:=pre K (l0 K x) x
def c:Ctr:=⟨87,ps,rs,true,f K⟩
end Q49
namespace Q50
abbrev ps:List PK:=[.rd t26]
abbrev rs:List RK:=[.v .bool]
abbrev R:=Option (ai rs×ag ps)
def f (x:ab ps):R:=let b1:=x.1.2.2.2.2;(Q14.f K (x.1.1,())).bind λy1=>let j1:R:=some ((false,()),());bif !y1.1.1 then j1 else ((Q13.f K (b1.2.1,0,999999,())).bind λy2=>bif !y2.1.1 then j1 else ((Q13.f K (b1.2.2.1,0,999999,())).bind λy3=>bif !y3.1.1 then j1 else ((Q13.f K (b1.2.2.2.1,0,8,())).bind λy4=>bif !y4.1.1 then j1 else ((Q13.f K (b1.1,0,999,())).bind λy5=>bif !y5.1.1 then j1 else (bif !x.1.2.1 then ((Q15.f K (x.1,())).bind λy6=>some ((y6.1.1,()),())) else ((Q39.f K (x.1,())).bind λy7=>bif y7.1.1 then ((Q40.f K (x.1,())).bind λy8=>bif y8.1.1 then ((Q42.f K (x.1,())).bind λy9=>bif y9.1.1 then ((Q43.f K (b1.2.2.2.2.2.2.2.2.1,())).bind λy10=>bif y10.1.1 then ((Q48.f K (x.1,())).bind λy11=>bif y11.1.1 then ((Q49.f K (x.1,())).bind λy12=>some ((y12.1.1,()),())) else j1) else j1) else j1) else j1) else j1))))))
def c:Ctr:=⟨26,ps,rs,true,f K⟩
end Q50
namespace Q51
abbrev ps:List PK:=[.rd t47]
abbrev rs:List RK:=[.v .bool]
abbrev R:=Option (ai rs×ag ps)
def f (x:ab ps):R:=let b1:=x.1.2.2.2.2.2;(Q13.f K (x.1.1,1,2,())).bind λy1=>let j1:R:=some ((false,()),());bif !y1.1.1 then j1 else ((Q13.f K (x.1.2.1,1,6,())).bind λy2=>bif !y2.1.1 then j1 else ((Q14.f K (x.1.2.2.1,())).bind λy3=>bif !y3.1.1 then j1 else ((Q14.f K (x.1.2.2.2.1,())).bind λy4=>bif !y4.1.1 then j1 else ((Q14.f K (b1.1,())).bind λy5=>bif !y5.1.1 then j1 else ((Q13.f K (x.1.2.2.2.2.1,0,999999,())).bind λy6=>bif !y6.1.1 then j1 else ((Q43.f K (b1.2.1,())).bind λy7=>bif !y7.1.1 then j1 else ((Q17.f K (b1.2.2,())).bind λy8=>bif !y8.1.1 then j1 else (bif x.1.2.1==6 then (bif decide ((FJ b1.2.2:Int)>0) then ((idx b1.2.2 0).bind λy9=>(Q26.f K (y9.1,())).bind λy10=>(Q28.f K (b1.2.2,y10.1.1,())).bind λy11=>some ((y11.1.1,()),())) else j1) else ((Q26.f K (x.1.2.2.1,())).bind λy12=>(Q28.f K (b1.2.2,y12.1.1,())).bind λy13=>some ((y13.1.1,()),()))))))))))
def c:Ctr:=⟨50,ps,rs,true,f K⟩
end Q51
namespace Q52
abbrev ps:List PK:=[.rd t26]
abbrev rs:List RK:=[.v .bool]
abbrev R:=Option (ai rs×ag ps)
def f (K:Nat)(x:ab ps):R:=bif x.1.2.1 then (some ((!x.1.2.2.1,()),())) else (some ((false,()),()))
def c:Ctr:=⟨51,ps,rs,true,f K⟩
end Q52
namespace Q53
abbrev ps:List PK:=[.rd t26,.rd t47]
abbrev rs:List RK:=[.v .bool]
abbrev R:=Option (ai rs×ag ps)
def f (x:ab ps):R:=let b1:=x.2.1.2.2;(Q50.f K (x.1,())).bind λy1=>let j1:R:=some ((false,()),());bif !y1.1.1 then j1 else ((Q51.f K (x.2.1,())).bind λy2=>bif !y2.1.1 then j1 else ((Q52.f K (x.1,())).bind λy3=>bif !y3.1.1 then j1 else (bif b1.2.1 != x.1.1 then j1 else (bif b1.1==x.1.1 then j1 else (bif x.2.1.1==1 then ((Q41.f K (x.1,b1.1,())).bind λy4=>bif y4.1.1 then (bif x.2.1.2.1 != 6 then (some ((true,()),())) else ((Q29.f K (x.1,())).bind λy5=>(Q28.f K (b1.2.2.2.2.2,y5.1.1,())).bind λy6=>some ((!y6.1.1,()),()))) else j1) else (bif x.2.1.2.1==6 then ((Q41.f K (x.1,b1.1,())).bind λy7=>bif !y7.1.1 then ((Q26.f K (b1.1,())).bind λy8=>(Q28.f K (b1.2.2.2.2.2,y8.1.1,())).bind λy9=>bif y9.1.1 then (some ((true,()),())) else ((Q29.f K (x.1,())).bind λy10=>(Q28.f K (b1.2.2.2.2.2,y10.1.1,())).bind λy11=>some ((y11.1.1,()),()))) else j1) else j1))))))
def c:Ctr:=⟨15,ps,rs,true,f K⟩
end Q53
namespace Q54
abbrev ps:List PK:=[.rd (.list false 46 t2),.rd t2]
abbrev rs:List RK:=[.v (.list true 46 t2),.v .bool]
abbrev R:=Option (ai rs×ag ps)
def f (x:ab ps):R:=(Q0.f K (x.1,())).bind λy1=>(Q22.f K (y1.1.1,x.2.1.1,())).bind λy2=>bif !y2.1.2.1 then ((Q1.f K (y1.1.1,y2.1.1,[x.2.1],())).bind λy3=>some ((y3.1.1,true,()),())) else ((idx y1.1.1 y2.1.1).bind λ_=>(idx y1.1.1 (FK y2.1.1:Nat)).bind λy5=>(Q36.f K (x.2.1,y5,())).bind λy6=>bif decide (y6.1.1>0) then ((idx y1.1.1 y2.1.1).bind λ_=>(idx y1.1.1 (FK y2.1.1:Nat)).bind λy8=>some ((y1.1.1.set (FK y2.1.1) x.2.1,true,()),())) else (some ((y1.1.1,false,()),())))
def c:Ctr:=⟨63,ps,rs,true,f K⟩
end Q54
namespace Q55
abbrev ps:List PK:=[.rd (.list false 133 t3),.rd t2]
abbrev rs:List RK:=[.v (.list true 133 t3)]
abbrev R:=Option (ai rs×ag ps)
def f (x:ab ps):R:=(Q34.f K (x.1,())).bind λy1=>bif !y1.1.1 then (some (([],()),())) else ((Q16.f K (x.2.1,())).bind λy2=>bif !y2.1.1 then (some (([],()),())) else ((Q2.f K (x.1,())).bind λy3=>(Q33.f K (y3.1.1,())).bind λy4=>(Q22.f K (y4.1.1,x.2.1.1,())).bind λy5=>bif !y5.1.2.1 then ((Q3.f K (y3.1.1,y5.1.1,[(x.2.1,4)],())).bind λy6=>some ((y6.1.1,()),())) else ((idx y3.1.1 y5.1.1).bind λ_=>(idx y3.1.1 (FK y5.1.1:Nat)).bind λy8=>(Q36.f K (x.2.1,y8.1,())).bind λy9=>bif decide (y9.1.1>0) then ((idx y3.1.1 y5.1.1).bind λ_=>(idx y3.1.1 (FK y5.1.1:Nat)).bind λy11=>some ((y3.1.1.set (FK y5.1.1) (x.2.1,4),()),())) else (some ((y3.1.1,()),())))))
def c:Ctr:=⟨214,ps,rs,true,f K⟩
end Q55
namespace Q56
abbrev ps:List PK:=[.rd (.list false 86 t6),.fn [t6] .bool]
abbrev rs:List RK:=[.v I6]
abbrev R:=Option (ai rs×ag ps)
abbrev A0:=Int
def s0 (K:Nat)(x:ab ps)(r0:A0->R)(a:A0):R:=bif decide (a<(FJ x.1:Int)) then ((idx x.1 a).bind λy1=>(x.2.1 (y1,())).bind λy2=>bif y2 then (some ((a,()),())) else (r0 (wr .i64 (a+1)))) else (some (((-1),()),()))
def l0 (x:ab ps):A0->R:=ae (s0 K x) K
def pre (K:Nat)(N0:A0->R)(x:ab ps):R:=N0 0
def f (x:ab ps):R:=pre K (l0 K x) x
def c:Ctr:=⟨272,ps,rs,true,f K⟩
end Q56
namespace Q57
abbrev ps:List PK:=[.rd t6,.rref t2]
abbrev rs:List RK:=[.v .bool]
abbrev R:=Option (ai rs×ag ps)
def f (K:Nat)(x:ab ps):R:=some ((x.1.1==x.2.1.1,()),())
def c:Ctr:=⟨216,ps,rs,true,f K⟩
end Q57
namespace Q58
abbrev ps:List PK:=[.rd (.list false 86 t6),.rd I6,.fn [t6,I6] I6]
abbrev rs:List RK:=[.v I6,.v .bool]
abbrev R:=Option (ai rs×ag ps)
abbrev A0:=Int×Int
def s0 (K:Nat)(x:ab ps)(r0:A0->R)(a:A0):R:=bif decide (a.1<a.2) then (let j1:=FM (wr .u64 (wr .i64 (a.1+a.2))) (2 ^ 1);(idx x.1 (wr .i64 j1)).bind λy1=>(x.2.2.1 (y1,x.2.1,())).bind λy2=>bif decide (y2<0) then (r0 (wr .i64 ((wr .i64 j1)+1),a.2)) else (r0 (a.1,wr .i64 j1))) else (bif decide (a.1<(FJ x.1:Int)) then ((idx x.1 a.1).bind λy3=>(x.2.2.1 (y3,x.2.1,())).bind λy4=>some ((a.1,y4==0,()),())) else (some ((a.1,false,()),())))
def l0 (x:ab ps):A0->R:=ae (s0 K x) K
def pre (K:Nat)(N0:A0->R)(x:ab ps):R:=N0 (0,(FJ x.1:Int))
def f (x:ab ps):R:=pre K (l0 K x) x
def c:Ctr:=⟨217,ps,rs,true,f K⟩
end Q58
namespace Q59
abbrev ps:List PK:=[.rd t6,.rd I6]
abbrev rs:List RK:=[.v I6]
abbrev R:=Option (ai rs×ag ps)
def f (K:Nat)(x:ab ps):R:=some ((wr .i64 (x.1.1-x.2.1),()),())
def c:Ctr:=⟨218,ps,rs,true,f K⟩
end Q59
namespace Q60
abbrev ps:List PK:=[.iop t76,.rd t2,.rd I6]
abbrev rs:List RK:=[]
abbrev R:=Option (ai rs×ag ps)
def f (x:ab ps):R:=let b1:=x.1.2.2.2.2.2.2.2.2;(Q23.f K (b1.1,x.2.1.1,())).bind λy1=>(Q54.f K (b1.1,x.2.1,())).bind λy2=>bif !y2.1.2.1 then (some ((),x.1,())) else ((Q55.f K (b1.2.1,x.2.1,())).bind λy3=>let j1:R:=(Q4.f K (b1.2.2.2.1,λy4=>(Q57.f K (y4.1,x.2.1,())).map λy=>y.1.1,())).bind λy5=>bif x.2.1.2.2.1==2 then ((Q58.f K (y5.1.1,x.2.1.1,λy6=>(Q59.f K (y6.1,y6.2.1,())).map λy=>y.1.1,())).bind λy7=>(Q5.f K (y5.1.1,y7.1.1,[(x.2.1.1,x.2.1.2.1,x.1.2.2.2.2.2.1,[x.2.2.1])],())).bind λy8=>some ((),(zcp8 x.1 (y2.1.1,y3.1.1,b1.2.2.1,y8.1.1,b1.2.2.2.2)),())) else (some ((),(zcp8 x.1 (y2.1.1,y3.1.1,b1.2.2.1,y5.1.1,b1.2.2.2.2)),()));bif y1.1.1.2.2.1==x.2.1.2.2.1 then (bif y1.1.1.2.1==x.2.1.2.1 then (some ((),(zcp8 x.1 (y2.1.1,y3.1.1,b1.2.2)),())) else j1) else j1)
def c:Ctr:=⟨145,ps,rs,false,f K⟩
end Q60
namespace Q61
abbrev ps:List PK:=[.rd I6,.rd I6]
abbrev rs:List RK:=[.v .bool]
abbrev R:=Option (ai rs×ag ps)
def f (x:ab ps):R:=(Q19.f K (x.1,())).bind λy1=>let j1:=((decide (x.1<x.2.1),()),());bif y1.1.1 then ((Q19.f K (x.2.1,())).bind λy2=>bif !y2.1.1 then (some ((true,()),())) else (some j1)) else (some j1)
def c:Ctr:=⟨240,ps,rs,true,f K⟩
end Q61
namespace Q62
abbrev ps:List PK:=[.rd I6]
abbrev rs:List RK:=[.v .bool]
abbrev R:=Option (ai rs×ag ps)
def f (K:Nat)(x:ab ps):R:=some ((x.1 != x.1,()),())
def c:Ctr:=⟨241,ps,rs,true,f K⟩
end Q62
namespace Q63
abbrev ps:List PK:=[.rd (.list false 3 I6),.rd I6]
abbrev rs:List RK:=[.v I6,.v .bool]
abbrev R:=Option (ai rs×ag ps)
abbrev A0:=Int×Int
def s0 (x:ab ps)(r0:A0->R)(a:A0):R:=bif decide (a.1<a.2) then (let j1:=FM (wr .u64 (wr .i64 (a.1+a.2))) (2 ^ 1);(idx x.1 (wr .i64 j1)).bind λy1=>(Q61.f K (y1,x.2.1,())).bind λy2=>bif y2.1.1 then (r0 (wr .i64 ((wr .i64 j1)+1),a.2)) else (r0 (a.1,wr .i64 j1))) else (bif decide (a.1<(FJ x.1:Int)) then ((idx x.1 a.1).bind λy3=>bif y3==x.2.1 then (some ((a.1,true,()),())) else ((idx x.1 a.1).bind λy4=>(Q62.f K (y4,())).bind λy5=>bif y5.1.1 then ((Q62.f K (x.2.1,())).bind λy6=>some ((a.1,y6.1.1,()),())) else (some ((a.1,false,()),())))) else (some ((a.1,false,()),())))
def l0 (x:ab ps):A0->R:=ae (s0 K x) K
def pre (K:Nat)(N0:A0->R)(x:ab ps):R:=N0 (0,(FJ x.1:Int))
def f (x:ab ps):R:=pre K (l0 K x) x
def c:Ctr:=⟨175,ps,rs,true,f K⟩
end Q63
namespace Q64
abbrev ps:List PK:=[.iop t76,.rd (.list false 46 t2),.rd I6]
abbrev rs:List RK:=[]
abbrev R:=Option (ai rs×ag ps)
abbrev A1:=Int×Int×Int×Int×Bool×Bool×Bool×Int×Int×Int×Int×List (Ty.den t2)×List (Ty.den t3)×Int×Int×Int×Bool×List (Ty.den t50)×Int×Int×Int×Int×List (Ty.den t52)×List (Ty.den t12)×Int×Int×Int×Bool
abbrev A0:=Int×Int×Bool×Bool×Bool×Int×Int×Int×Int×List (Ty.den t2)×List (Ty.den t3)×Int×Int×Int×Bool×List (Ty.den t50)×Int×Int×Int×Int×List (Ty.den t52)×List (Ty.den t12)
def s1 (x:ab ps)(r0:A0->R)(r1:A1->R)(a:A1):R:=let b5:=a.2.2.1;let b3:=a.2.2.2.2.2.2.2.2.2.2.2;let b1:=b3.2.2.2.2;let b4:=b1.2.2.1;let b2:=b1.2.2.2.2.2.2.2.2;bif decide (b5<a.2.1) then ((idx b4 b5).bind λ_=>let j1:R:=r1 (a.1,a.2.1,wr .i64 (b5+1),a.2.2.2);bif b2.2.2.2.1 != 2 then j1 else (let j2:=(FK b5:Nat);(idx b4 j2).bind λy7=>bif y7.1 != b2.2.1 then j1 else ((idx b4 j2).bind λy8=>bif y8.2.1 != b2.2.2.1 then j1 else ((idx b4 j2).bind λy9=>(Q63.f K (y9.2.2.2,x.2.2.1,())).bind λy10=>bif !y10.1.2.1 then ((idx b4 j2).bind λy11=>(idx b4 j2).bind λy12=>(Q6.f K (y12.2.2.2,y10.1.1,[x.2.2.1],())).bind λy13=>(idx b4 j2).bind λy14=>bif Nat.beq (FK b5) (FK b5) then (r1 (a.1,a.2.1,wr .i64 (b5+1),(zcp8 a.2.2.2 (zcp4 b3 (b1.1,b1.2.1,b4.set (FK b5) (y14.1,y14.2.1,y14.2.2.1,y13.1.1),b1.2.2.2))))) else none) else j1)))) else (r0 (wr .i64 (a.1+1),(zcp8 a.2.2.2 (zcp8 b3 (zcp4 b1.2.2.2.2 b2.1)))))
def l1 (x:ab ps)(r0:A0->R):A1->R:=ae (s1 K x r0) K
def s0 (x:ab ps)(N1:A1->R)(r0:A0->R)(a:A0):R:=let b5:=a.2.2.2.2.2.2;let b2:=b5.2.2.2;let b3:=b2.2.2.2.2.2;bif decide (a.1<(FJ x.2.1:Int)) then ((idx x.2.1 a.1).bind λy1=>bif y1.1==a.2.1 then ((Q23.f K (b2.1,a.2.1,())).bind λy2=>(Q37.f K (y1,y2.1.1,())).bind λy3=>bif y3.1.1 then (bif decide (y1.2.1<999) then ((Q60.f K ((zcp4 a.2 (wr .i64 (y1.2.1+1),b5.1,b5.2.1,b5.2.2.1,b2.1,b2.2.1,(b2.2.2.1,b2.2.2.2.1,b2.2.2.2.2.1,b3.1),b3.2.1,(b3.2.2.1,b3.2.2.2.1,b3.2.2.2.2.1,b3.2.2.2.2.2.1),b3.2.2.2.2.2.2)),(a.2.1,wr .i64 (y1.2.1+1),1,a.2.2.2.2.1),a.2.1,())).bind λy4=>r0 (wr .i64 (a.1+1),(zc3ec45 y4.2.1))) else (r0 (wr .i64 (a.1+1),a.2))) else (r0 (wr .i64 (a.1+1),a.2))) else ((Q60.f K (zc286a0 a.2 (y1,x.2.2.1,()))).bind λy5=>let b4:=y5.2.1.2.2.2;let b1:=b4.2.2.2.2.2.2;let b6:=b1.2.2.2;N1 (a.1,(FJ b1.2.2.1:Int),0,y5.2.1.1,y5.2.1.2.1,y5.2.1.2.2.1,b4.1,b4.2.1,b4.2.2.1,b4.2.2.2.1,b4.2.2.2.2.1,b4.2.2.2.2.2.1,b1.1,b1.2.1.1,b1.2.1.2.1,b1.2.1.2.2.1,b1.2.1.2.2.2,b1.2.2.1,b6.1.1,b6.1.2.1,b6.1.2.2.1,b6.1.2.2.2,b6.2.1,b6.2.2,y1))) else (some ((),(zc286a0 a.2 ())))
def l0 (x:ab ps):A0->R:=ae (λr0 a=>s0 K x (l1 K x r0) r0 a) K
def pre (K:Nat)(N0:A0->R)(x:ab ps):R:=N0 (0,(zc3ec45 x.1))
def f (x:ab ps):R:=pre K (l0 K x) x
def c:Ctr:=⟨109,ps,rs,false,f K⟩
def G:List Ctr:=[Q23.c K,Q37.c K,Q60.c K,Q63.c K,Q6.c K]
def v1:List (Nat×List Coe):=[(0,[.keep]),(2,[.keep]),(7,[.keep]),(14,[.ro true 46 t2]),(15,[.keep]),(16,[.keep]),(80,[.keep]),(81,[.keep]),(100000,Kc3),(100007,Kc1)]
def v0:List (Nat×List Coe):=[(0,[.keep]),(2,[.keep]),(14,[.ro true 46 t2]),(15,[.keep]),(16,[.keep]),(100000,Kc3)]
def L:List (Nat×List (Nat×List Coe)):=[(11,v1),(2,v0)]
def body:Code:=cY Tryz.f109
abbrev ev:Code->St->(Ex->St->R)->R:=evK (G K) T_NL L K
abbrev fin:Ex->St->R:=du T_NL ps rs false Tryz.f109.results.toList
def S0 (x:ab ps)(a:A0):St:=av [(0,⟨0,.one,[.bp 100000 0]⟩),(2,⟨0,.one,[.int .i64 x.2.2.1]⟩),(14,⟨0,.one,[.ro true 46 t2 x.2.1]⟩),(15,⟨0,.one,[.int .i64 (FJ x.2.1:Int)]⟩),(16,⟨0,.one,[.int .i64 a.1]⟩),(100000,⟨0,.agg,(wa1 a.2)⟩)]
def S1 (x:ab ps)(a:A1):St:=av [(0,⟨0,.one,[.bp 100000 0]⟩),(2,⟨0,.one,[.int .i64 x.2.2.1]⟩),(7,⟨0,.one,[.bp 100007 0]⟩),(14,⟨0,.one,[.ro true 46 t2 x.2.1]⟩),(15,⟨0,.one,[.int .i64 (FJ x.2.1:Int)]⟩),(16,⟨0,.one,[.int .i64 a.1]⟩),(80,⟨0,.one,[.int .i64 a.2.1]⟩),(81,⟨0,.one,[.int .i64 a.2.2.1]⟩),(100000,⟨0,.agg,[.int .i64 a.2.2.2.1,.bool a.2.2.2.2.1,.bool a.2.2.2.2.2.1,.bool a.2.2.2.2.2.2.1,.int .i64 a.2.2.2.2.2.2.2.1,.int .i64 a.2.2.2.2.2.2.2.2.1,.int .i64 a.2.2.2.2.2.2.2.2.2.1,.int .i64 a.2.2.2.2.2.2.2.2.2.2.1,.own false none 46 t2 a.2.2.2.2.2.2.2.2.2.2.2.1,.own false none 133 t3 a.2.2.2.2.2.2.2.2.2.2.2.2.1,.int .i64 a.2.2.2.2.2.2.2.2.2.2.2.2.2.1,.int .i64 a.2.2.2.2.2.2.2.2.2.2.2.2.2.2.1,.int .i64 a.2.2.2.2.2.2.2.2.2.2.2.2.2.2.2.1,.bool a.2.2.2.2.2.2.2.2.2.2.2.2.2.2.2.2.1,.own false none 86 t50 a.2.2.2.2.2.2.2.2.2.2.2.2.2.2.2.2.2.1,.int .i64 a.2.2.2.2.2.2.2.2.2.2.2.2.2.2.2.2.2.2.1,.int .i64 a.2.2.2.2.2.2.2.2.2.2.2.2.2.2.2.2.2.2.2.1,.int .i64 a.2.2.2.2.2.2.2.2.2.2.2.2.2.2.2.2.2.2.2.2.1,.int .i64 a.2.2.2.2.2.2.2.2.2.2.2.2.2.2.2.2.2.2.2.2.2.1,.own false none 89 t52 a.2.2.2.2.2.2.2.2.2.2.2.2.2.2.2.2.2.2.2.2.2.2.1,.own true none 91 t12 a.2.2.2.2.2.2.2.2.2.2.2.2.2.2.2.2.2.2.2.2.2.2.2.1]⟩),(100007,⟨0,.agg,(wa3 a.2.2.2.2.2.2.2.2.2.2.2.2.2.2.2.2.2.2.2.2.2.2.2.2)⟩)]
def k0 (x:ab ps):Ex->St->R:=kAt (ev K) body [1,0] fin
def N0 (x:ab ps):A0->R:=λa=>aY v0 (ev K (sub body [1,0,0])) K (S0 x a) (k0 K x)
def k1 (x:ab ps)(q0:St->R):Ex->St->R:=kAt (ev K) (sub body [1,0,0]) [1,1,0,0,1,1,1,1,0] (iq v0 q0 (k0 K x))
def N1 (x:ab ps)(q0:St->R):A1->R:=λa=>aY v1 (ev K (sub body [1,0,0,1,1,0,0,1,1,1,1,0,0])) K (S1 x a) (k1 K x q0)
end Q64
namespace Q65
abbrev ps:List PK:=[.rref t26,.rd I6,.rd I6]
abbrev rs:List RK:=[.v t59]
abbrev R:=Option (ai rs×ag ps)
def f (K:Nat)(x:ab ps):R:=some (((1,x.2.1,x.1.1,x.2.2.1,0,x.1.1,x.1.2.2.2.2.2.2.2.2.2.2.2.2.1,[]),()),())
def c:Ctr:=⟨174,ps,rs,true,f K⟩
end Q65
namespace Q66
abbrev ps:List PK:=[.rref t26,.rd I6,.rd I6]
abbrev rs:List RK:=[.v t59]
abbrev R:=Option (ai rs×ag ps)
def f (x:ab ps):R:=(Q65.f K (x.1,x.2.1,x.2.2.1,())).bind λy1=>(Q0.f K (x.1.2.2.2.2.2.2.2.2.1,())).bind λy2=>some (((zcp4 y1.1.1 (y1.1.1.2.2.2.2.1,y1.1.1.2.2.2.2.2.1,y1.1.1.2.2.2.2.2.2.1,y2.1.1)),()),())
def c:Ctr:=⟨112,ps,rs,true,f K⟩
end Q66
namespace Q67
abbrev ps:List PK:=[.rd (.list false 89 t11),.rd I6,.fn [t11,I6] I6]
abbrev rs:List RK:=[.v I6,.v .bool]
abbrev R:=Option (ai rs×ag ps)
abbrev A0:=Int×Int
def s0 (K:Nat)(x:ab ps)(r0:A0->R)(a:A0):R:=bif decide (a.1<a.2) then (let j1:=FM (wr .u64 (wr .i64 (a.1+a.2))) (2 ^ 1);(idx x.1 (wr .i64 j1)).bind λy1=>(x.2.2.1 (y1,x.2.1,())).bind λy2=>bif decide (y2<0) then (r0 (wr .i64 ((wr .i64 j1)+1),a.2)) else (r0 (a.1,wr .i64 j1))) else (bif decide (a.1<(FJ x.1:Int)) then ((idx x.1 a.1).bind λy3=>(x.2.2.1 (y3,x.2.1,())).bind λy4=>some ((a.1,y4==0,()),())) else (some ((a.1,false,()),())))
def l0 (x:ab ps):A0->R:=ae (s0 K x) K
def pre (K:Nat)(N0:A0->R)(x:ab ps):R:=N0 (0,(FJ x.1:Int))
def f (x:ab ps):R:=pre K (l0 K x) x
def c:Ctr:=⟨178,ps,rs,true,f K⟩
end Q67
namespace Q68
abbrev ps:List PK:=[.rd t11,.rd I6]
abbrev rs:List RK:=[.v I6]
abbrev R:=Option (ai rs×ag ps)
def f (K:Nat)(x:ab ps):R:=some ((wr .i64 (x.1.1-x.2.1),()),())
def c:Ctr:=⟨179,ps,rs,true,f K⟩
end Q68
namespace Q69
abbrev ps:List PK:=[.rd I6,.rd I6,.rd I6]
abbrev rs:List RK:=[.v I6]
abbrev R:=Option (ai rs×ag ps)
def f (K:Nat)(x:ab ps):R:=some ((bif decide (x.2.1<(bif decide (x.2.2.1<x.1) then x.2.2.1 else x.1)) then bif decide (x.2.2.1<x.1) then x.2.2.1 else x.1 else x.2.1,()),())
def c:Ctr:=⟨247,ps,rs,true,f K⟩
end Q69
namespace Q70
abbrev ps:List PK:=[.rd I6]
abbrev rs:List RK:=[.v I6]
abbrev R:=Option (ai rs×ag ps)
def f (x:ab ps):R:=(Q69.f K (x.1,(-1000000000),1000000000,())).bind λy1=>some ((y1.1.1,()),())
def c:Ctr:=⟨212,ps,rs,true,f K⟩
end Q70
namespace Q71
abbrev ps:List PK:=[.rd I6]
abbrev rs:List RK:=[.v I6]
abbrev R:=Option (ai rs×ag ps)
abbrev A0:=Int×Int
def s0 (K:Nat)(x:ab ps)(r0:A0->R)(a:A0):R:=bif decide ((wr .i64 (a.2-a.1))>1) then (let j1:=FL (wr .i64 (a.1+a.2)) 2;bif decide ((wr .i64 ((wr .i64 j1)*(wr .i64 j1)))<=x.1) then (r0 (wr .i64 j1,a.2)) else (r0 (a.1,wr .i64 j1))) else (some ((a.1,()),()))
def l0 (x:ab ps):A0->R:=ae (s0 K x) K
def pre (K:Nat)(N0:A0->R)(x:ab ps):R:=N0 (0,2147483648)
def f (x:ab ps):R:=pre K (l0 K x) x
def c:Ctr:=⟨213,ps,rs,true,f K⟩
end Q71
namespace Q72
abbrev ps:List PK:=[.rd I6,.rd I6]
abbrev rs:List RK:=[.v I6]
abbrev R:=Option (ai rs×ag ps)
def f (x:ab ps):R:=(Q70.f K (x.1,())).bind λy1=>(Q70.f K (x.2.1,())).bind λy2=>(Q71.f K (wr .i64 ((wr .i64 (y1.1.1*y1.1.1))+(wr .i64 (y2.1.1*y2.1.1))),())).bind λy3=>(Q70.f K (y3.1.1,())).bind λy4=>some ((y4.1.1,()),())
def c:Ctr:=⟨144,ps,rs,true,f K⟩
end Q72
namespace Q73
abbrev ps:List PK:=[.rd t9,.rd t9]
abbrev rs:List RK:=[.v I6]
abbrev R:=Option (ai rs×ag ps)
def f (x:ab ps):R:=(Q43.f K (x.1,())).bind λy1=>bif !y1.1.1 then (some ((0,()),())) else ((Q43.f K (x.2.1,())).bind λy2=>bif !y2.1.1 then (some ((0,()),())) else ((Q72.f K (wr .i64 (x.1.1-x.2.1.1),wr .i64 (x.1.2.1-x.2.1.2.1),())).bind λy3=>some ((wr .i64 ((wr .i64 (y3.1.1+x.1.2.2.1))+x.2.1.2.2.1),()),())))
def c:Ctr:=⟨92,ps,rs,true,f K⟩
end Q73
namespace Q74
abbrev ps:List PK:=[.rd t9,.rd t9,.rd I6,.rd I6]
abbrev rs:List RK:=[.v t9]
abbrev R:=Option (ai rs×ag ps)
def f (x:ab ps):R:=let b2:=x.1.2.2;let b1:=x.2.2.1;(Q43.f K (x.1,())).bind λy1=>bif !y1.1.1 then (some (((0,0,0,0),()),())) else ((Q43.f K (x.2.1,())).bind λy2=>bif !y2.1.1 then (some ((x.1,()),())) else ((Q13.f K (b1,1,60000,())).bind λy3=>bif !y3.1.1 then (some ((x.1,()),())) else ((Q73.f K (x.1,x.2.1,())).bind λy4=>let j4:=b2.2+x.2.1.2.2.2;bif decide (wr .i64 j4=0) then none else ((Q72.f K (wr .i64 (x.1.1-x.2.1.1),wr .i64 (x.1.2.1-x.2.1.2.1),())).bind λy5=>let j5:=wr .i64 (b1-y4.1.1);let j1:=FL (wr .i64 (FL (wr .i64 (j5*b2.2)) (wr .i64 j4))) 4;let j2:=(wr .i64 (b2.2+(wr .i64 (FL (wr .i64 (FL (wr .i64 ((wr .i64 ((let j3:=FL (wr .i64 ((bif decide (j5<(wr .i64 (0-j5))) then wr .i64 (0-j5) else wr .i64 (b1-y4.1.1))*1000)) b1;bif decide (1500<(wr .i64 j3)) then 1500 else wr .i64 j3)-b2.2))*b2.2)) (wr .i64 j4))) 4))),1,1500,());let j7:=wr .i64 (x.1.2.1-x.2.1.2.1);let j8:=wr .i64 (x.1.1-x.2.1.1);bif decide (y5.1.1>0) then (bif decide (b1=0) then none else (bif decide (y5.1.1=0) then none else ((Q69.f K (wr .i64 (x.1.1+(wr .i64 (FL (wr .i64 ((bif decide ((wr .i64 j1)<(wr .i64 (0-y5.1.1))) then wr .i64 (0-y5.1.1) else wr .i64 j1)*j8)) y5.1.1))),(-100000),100000,())).bind λy6=>bif decide (y5.1.1=0) then none else ((Q69.f K (wr .i64 (x.1.2.1+(wr .i64 (FL (wr .i64 ((bif decide ((wr .i64 j1)<(wr .i64 (0-y5.1.1))) then wr .i64 (0-y5.1.1) else wr .i64 j1)*j7)) y5.1.1))),(-100000),100000,())).bind λy7=>(Q69.f K (wr .i64 (b2.1+(wr .i64 (FL (bif decide ((wr .i64 j1)<(wr .i64 (0-y5.1.1))) then wr .i64 (0-y5.1.1) else wr .i64 j1) 4))),0,100000,())).bind λy8=>bif decide (wr .i64 j4=0) then none else ((Q69.f K j2).bind λy9=>some (((y6.1.1,y7.1.1,y8.1.1,y9.1.1),()),())))))) else (let j6:=(wr .i64 (b2.1+(wr .i64 (FL (wr .i64 j1) 4))),0,100000,());bif decide ((wr .i64 j1)>=0) then ((idx [(1,0),(0,1),((-1),0),(0,(-1))] (bz .i64 x.2.2.2.1 3)).bind λy10=>bif decide (b1=0) then none else ((Q69.f K (wr .i64 (x.1.1+(wr .i64 (FL (wr .i64 ((wr .i64 j1)*y10.1)) 1))),(-100000),100000,())).bind λy11=>(Q69.f K (wr .i64 (x.1.2.1+(wr .i64 (FL (wr .i64 ((wr .i64 j1)*y10.2)) 1))),(-100000),100000,())).bind λy12=>(Q69.f K j6).bind λy13=>bif decide (wr .i64 j4=0) then none else ((Q69.f K j2).bind λy14=>some (((y11.1.1,y12.1.1,y13.1.1,y14.1.1),()),())))) else (bif decide (b1=0) then none else ((Q69.f K (wr .i64 (x.1.1+(wr .i64 (FL (wr .i64 ((wr .i64 j1)*j8)) 1))),(-100000),100000,())).bind λy15=>(Q69.f K (wr .i64 (x.1.2.1+(wr .i64 (FL (wr .i64 ((wr .i64 j1)*j7)) 1))),(-100000),100000,())).bind λy16=>(Q69.f K j6).bind λy17=>bif decide (wr .i64 j4=0) then none else ((Q69.f K j2).bind λy18=>some (((y15.1.1,y16.1.1,y17.1.1,y18.1.1),()),())))))))))
def c:Ctr:=⟨181,ps,rs,true,f K⟩
end Q74
namespace Q75
abbrev ps:List PK:=[.rd (.int .u64)]
abbrev rs:List RK:=[.v I6]
abbrev R:=Option (ai rs×ag ps)
def f (K:Nat)(x:ab ps):R:=let j1:=ByteArray.mk #[0,1,2,2,3,3,3,3,4,4,4,4,4,4,4,4,5,5,5,5,5,5,5,5,5,5,5,5,5,5,5,5,6,6,6,6,6,6,6,6,6,6,6,6,6,6,6,6,6,6,6,6,6,6,6,6,6,6,6,6,6,6,6,6,7,7,7,7,7,7,7,7,7,7,7,7,7,7,7,7,7,7,7,7,7,7,7,7,7,7,7,7,7,7,7,7,7,7,7,7,7,7,7,7,7,7,7,7,7,7,7,7,7,7,7,7,7,7,7,7,7,7,7,7,7,7,7,7,8,8,8,8,8,8,8,8,8,8,8,8,8,8,8,8,8,8,8,8,8,8,8,8,8,8,8,8,8,8,8,8,8,8,8,8,8,8,8,8,8,8,8,8,8,8,8,8,8,8,8,8,8,8,8,8,8,8,8,8,8,8,8,8,8,8,8,8,8,8,8,8,8,8,8,8,8,8,8,8,8,8,8,8,8,8,8,8,8,8,8,8,8,8,8,8,8,8,8,8,8,8,8,8,8,8,8,8,8,8,8,8,8,8,8,8,8,8,8,8,8,8,8,8,8,8,8,8];bif decide (x.1>=4294967296) then (bif decide ((FM x.1 (2 ^ 32))>=65536) then (let j2:=FM (FM x.1 (2 ^ 32)) (2 ^ 16);bif decide (j2>=256) then ((idx j1.data.toList (wr .u8 (FM j2 (2 ^ 8)))).bind λy1=>some ((wr .i64 ((wr .i64 ((wr .i64 (32+16))+8))+(wr .i64 (y1.toNat:Int))),()),())) else ((idx j1.data.toList (wr .u8 j2)).bind λy2=>some ((wr .i64 ((wr .i64 (32+16))+(wr .i64 (y2.toNat:Int))),()),()))) else (bif decide ((FM x.1 (2 ^ 32))>=256) then ((idx j1.data.toList (wr .u8 (FM (FM x.1 (2 ^ 32)) (2 ^ 8)))).bind λy3=>some ((wr .i64 ((wr .i64 (32+8))+(wr .i64 (y3.toNat:Int))),()),())) else ((idx j1.data.toList (wr .u8 (FM x.1 (2 ^ 32)))).bind λy4=>some ((wr .i64 (32+(wr .i64 (y4.toNat:Int))),()),())))) else (bif decide (x.1>=65536) then (bif decide ((FM x.1 (2 ^ 16))>=256) then ((idx j1.data.toList (wr .u8 (FM (FM x.1 (2 ^ 16)) (2 ^ 8)))).bind λy5=>some ((wr .i64 ((wr .i64 ((wr .i64 (0+16))+8))+(wr .i64 (y5.toNat:Int))),()),())) else ((idx j1.data.toList (wr .u8 (FM x.1 (2 ^ 16)))).bind λy6=>some ((wr .i64 ((wr .i64 (0+16))+(wr .i64 (y6.toNat:Int))),()),()))) else (bif decide (x.1>=256) then ((idx j1.data.toList (wr .u8 (FM x.1 (2 ^ 8)))).bind λy7=>some ((wr .i64 ((wr .i64 (0+8))+(wr .i64 (y7.toNat:Int))),()),())) else ((idx j1.data.toList (wr .u8 x.1)).bind λy8=>some ((wr .i64 (0+(wr .i64 (y8.toNat:Int))),()),()))))
def c:Ctr:=⟨266,ps,rs,true,f K⟩
end Q75
namespace Q76
abbrev ps:List PK:=[.rd (.int .u64)]
abbrev rs:List RK:=[.v I6]
abbrev R:=Option (ai rs×ag ps)
def f (x:ab ps):R:=(Q75.f K (x.1,())).bind λy1=>some ((y1.1.1,()),())
def c:Ctr:=⟨196,ps,rs,true,f K⟩
end Q76
namespace Q77
abbrev ps:List PK:=[.io (.list true 3 I6),.rd I6,.rd I6]
abbrev rs:List RK:=[]
abbrev R:=Option (ai rs×ag ps)
abbrev A1:=List (Ty.den I6)×Int×Int
abbrev A0:=List (Ty.den I6)×Int
def s1 (x:ab ps)(r0:A0->R)(r1:A1->R)(a:A1):R:=bif decide (a.2.2>x.2.1) then ((idx a.1 a.2.2).bind λ_=>(idx a.1 (FK a.2.2:Nat)).bind λy2=>(idx a.1 (wr .i64 (a.2.2-1))).bind λ_=>let j1:=(FK (wr .i64 (a.2.2-1)):Nat);(idx a.1 j1).bind λy4=>(Q61.f K (y2,y4,())).bind λy5=>bif y5.1.1 then ((idx a.1 (wr .i64 (a.2.2-1))).bind λ_=>(idx a.1 j1).bind λy7=>(idx a.1 a.2.2).bind λ_=>(idx a.1 (FK a.2.2:Nat)).bind λy9=>(idx a.1 a.2.2).bind λ_=>(idx a.1 (FK a.2.2:Nat)).bind λy11=>let j2:=a.1.set (FK a.2.2) y7;(idx j2 (wr .i64 (a.2.2-1))).bind λ_=>(idx j2 j1).bind λy13=>r1 (j2.set (FK (wr .i64 (a.2.2-1))) y9,a.2.1,wr .i64 (a.2.2-1))) else (r0 (a.1,wr .i64 (a.2.1+1)))) else (r0 (a.1,wr .i64 (a.2.1+1)))
def l1 (x:ab ps)(r0:A0->R):A1->R:=ae (s1 K x r0) K
def s0 (K:Nat)(x:ab ps)(N1:A1->R)(r0:A0->R)(a:A0):R:=bif decide (a.2<x.2.2.1) then (N1 (a.1,a.2,a.2)) else (some ((),a.1,()))
def l0 (x:ab ps):A0->R:=ae (λr0 a=>s0 K x (l1 K x r0) r0 a) K
def pre (K:Nat)(N0:A0->R)(x:ab ps):R:=N0 (x.1,wr .i64 (x.2.1+1))
def f (x:ab ps):R:=pre K (l0 K x) x
def c:Ctr:=⟨332,ps,rs,true,f K⟩
def G:List Ctr:=[Q61.c K]
def v1:List (Nat×List Coe):=[(0,[.own false 3 I6]),(1,[.keep]),(2,[.keep]),(6,[.keep]),(7,[.keep])]
def v0:List (Nat×List Coe):=[(0,[.own false 3 I6]),(1,[.keep]),(2,[.keep]),(6,[.keep])]
def L:List (Nat×List (Nat×List Coe)):=[(5,v1),(2,v0)]
def body:Code:=cY Tryz.f332
abbrev ev:Code->St->(Ex->St->R)->R:=evK (G K) T_S L K
abbrev fin:Ex->St->R:=du T_S ps rs true Tryz.f332.results.toList
def S0 (x:ab ps)(a:A0):St:=av [(0,⟨0,.one,[.own false none 3 I6 a.1]⟩),(1,⟨0,.one,[.int .i64 x.2.1]⟩),(2,⟨0,.one,[.int .i64 x.2.2.1]⟩),(6,⟨0,.one,[.int .i64 a.2]⟩)]
def S1 (x:ab ps)(a:A1):St:=av [(0,⟨0,.one,[.own false none 3 I6 a.1]⟩),(1,⟨0,.one,[.int .i64 x.2.1]⟩),(2,⟨0,.one,[.int .i64 x.2.2.1]⟩),(6,⟨0,.one,[.int .i64 a.2.1]⟩),(7,⟨0,.one,[.int .i64 a.2.2]⟩)]
def k0 (x:ab ps):Ex->St->R:=kAt (ev K) body [1,0] fin
def N0 (x:ab ps):A0->R:=λa=>aY v0 (ev K (sub body [1,0,0])) K (S0 x a) (k0 K x)
def k1 (x:ab ps)(q0:St->R):Ex->St->R:=kAt (ev K) (sub body [1,0,0]) [1,0,0,1,0] (iq v0 q0 (k0 K x))
def N1 (x:ab ps)(q0:St->R):A1->R:=λa=>aY v1 (ev K (sub body [1,0,0,1,0,0,1,0,0])) K (S1 x a) (k1 K x q0)
end Q77
namespace Q78
abbrev ps:List PK:=[.rd (.list false 3 I6),.rd I6,.rd I6,.iop I6]
abbrev rs:List RK:=[.v I6,.v I6]
abbrev R:=Option (ai rs×ag ps)
def f (x:ab ps):R:=(idx x.1 x.2.2.1).bind λy1=>(idx x.1 x.2.1).bind λy2=>(Q61.f K (y1,y2,())).bind λy3=>bif y3.1.1 then (some ((x.2.2.1,x.2.1,()),wr .i64 (x.2.2.2.1+1),())) else (some ((x.2.1,x.2.2.1,()),x.2.2.2.1,()))
def c:Ctr:=⟨346,ps,rs,true,f K⟩
end Q78
namespace Q79
abbrev ps:List PK:=[.rd (.list false 3 I6),.rd I6,.rd I6,.rd I6,.iop I6]
abbrev rs:List RK:=[.v I6]
abbrev R:=Option (ai rs×ag ps)
def f (x:ab ps):R:=(Q78.f K (x.1,x.2.1,x.2.2.1,x.2.2.2.2.1,())).bind λy1=>(Q78.f K (x.1,y1.1.2.1,x.2.2.2.1,y1.2.1,())).bind λy2=>(Q78.f K (x.1,y1.1.1,y2.1.1,y2.2.1,())).bind λy3=>some ((y3.1.2.1,()),y3.2.1,())
def c:Ctr:=⟨344,ps,rs,true,f K⟩
end Q79
namespace Q80
abbrev ps:List PK:=[.rd (.list false 3 I6),.rd I6,.iop I6]
abbrev rs:List RK:=[.v I6]
abbrev R:=Option (ai rs×ag ps)
def f (x:ab ps):R:=(Q79.f K (x.1,wr .i64 (x.2.1-1),x.2.1,wr .i64 (x.2.1+1),x.2.2.1,())).bind λy1=>some ((y1.1.1,()),y1.2.1,())
def c:Ctr:=⟨343,ps,rs,true,f K⟩
end Q80
namespace Q81
abbrev ps:List PK:=[.rd (.list false 3 I6),.rd I6,.rd I6]
abbrev rs:List RK:=[.v I6,.v I6]
abbrev R:=Option (ai rs×ag ps)
def f (x:ab ps):R:=let j3:=wr .i64 (x.2.2.1-x.2.1);let j1:=wr .i64 (FL j3 4);let j2:=x.2.1+(wr .i64 (j1*2));bif decide (j3>=8) then (let j4:=x.2.1+(wr .i64 (j1*1));let j5:=x.2.1+(wr .i64 (j1*3));bif decide (j3>=50) then ((Q80.f K (x.1,wr .i64 j4,0,())).bind λy1=>(Q80.f K (x.1,wr .i64 j2,y1.2.1,())).bind λy2=>(Q80.f K (x.1,wr .i64 j5,y2.2.1,())).bind λy3=>(Q79.f K (x.1,y1.1.1,y2.1.1,y3.1.1,y3.2.1,())).bind λy4=>bif y4.2.1==0 then (some ((y4.1.1,1,()),())) else (bif y4.2.1==12 then (some ((y4.1.1,2,()),())) else (some ((y4.1.1,0,()),())))) else ((Q79.f K (x.1,wr .i64 j4,wr .i64 j2,wr .i64 j5,0,())).bind λy5=>bif y5.2.1==0 then (some ((y5.1.1,1,()),())) else (bif y5.2.1==12 then (some ((y5.1.1,2,()),())) else (some ((y5.1.1,0,()),()))))) else (some ((wr .i64 j2,1,()),()))
def c:Ctr:=⟨335,ps,rs,true,f K⟩
end Q81
namespace Q82
abbrev ps:List PK:=[.io (.list true 3 I6),.rd I6,.rd I6,.rd I6]
abbrev rs:List RK:=[]
abbrev Res:=ai rs×ag ps
abbrev R:=Option Res
abbrev A0:=Unit
def s0 (x:ab ps)(r0:A0->R)(a:A0):R:=bif decide ((wr .i64 (x.2.2.1-x.2.1))<=12) then ((Q77.f K (x.1,x.2.1,x.2.2.1,())).bind λy1=>some ((),y1.2.1,())) else (bif x.2.2.2.1==0 then none else ((Q81.f K (x.1,x.2.1,x.2.2.1,())).bind λy2=>bif y2.1.2.1==2 then none else (bif y2.1.2.1==1 then none else (bif decide (x.2.1>0) then ((idx x.1 (wr .i64 (x.2.1-1))).bind λ_=>(idx x.1 (FK (wr .i64 (x.2.1-1)):Nat)).bind λy4=>(idx x.1 y2.1.1).bind λ_=>(idx x.1 (FK y2.1.1:Nat)).bind λy6=>(Q61.f K (y4,y6,())).bind λy7=>bif !y7.1.1 then none else none) else none))))
def l0 (x:ab ps):A0->R:=ae (s0 K x) K
def pre (K:Nat)(N0:A0->R)(x:ab ps):R:=N0 ()
def f (x:ab ps):R:=pre K (l0 K x) x
def c:Ctr:=⟨319,ps,rs,true,f K⟩
end Q82
namespace Q83
abbrev ps:List PK:=[.io (.list true 3 I6)]
abbrev rs:List RK:=[]
abbrev Res:=ai rs×ag ps
abbrev R:=Option Res
def f (x:ab ps):R:=(Q76.f K (wr .u64 (FJ x.1:Int),())).bind λy1=>(Q82.f K (x.1,0,(FJ x.1:Int),y1.1.1,())).bind λy2=>some ((),y2.2.1,())
def c:Ctr:=⟨287,ps,rs,true,f K⟩
end Q83
namespace Q84
abbrev ps:List PK:=[.rd (.list false 3 I6)]
abbrev rs:List RK:=[.v I6]
abbrev R:=Option (ai rs×ag ps)
def f (x:ab ps):R:=bif decide (FJ x.1<=3) then ((Q83.f K (x.1,())).map λy=>y.2.1).bind λys=>some ((ys.getD ((ys.length-1) / 2) 0,()),()) else none
def c:Ctr:=⟨182,ps,rs,true,f K⟩
end Q84
namespace Q85
abbrev ps:List PK:=[.iop t76,.rd t47]
abbrev rs:List RK:=[]
abbrev R:=Option (ai rs×ag ps)
def f (x:ab ps):R:=let b3:=x.2.1.2.2.2.2;let b1:=x.1.2.2.2.2.2.2.2.2;let b2:=b1.2.2.2.2;(Q67.f K (b2.2.1,x.2.1.2.2.1,λy1=>(Q68.f K (y1.1,y1.2.1,())).map λy=>y.1.1,())).bind λy2=>let j7:=(wr .i64 ((wr .i64 (x.1.2.2.2.2.2.1-b1.2.2.1.2.1))*1000))+500;let j1:=[bif decide (60000<(wr .i64 j7)) then 60000 else wr .i64 j7];let j4:=(FK y2.1.1:Nat);bif !y2.1.2.1 then ((Q8.f K (b2.2.1,y2.1.1,[(x.2.1.2.2.1,(0,0,0,0),[])],())).bind λy3=>(idx y3.1.1 y2.1.1).bind λ_=>(idx y3.1.1 j4).bind λy5=>(idx y3.1.1 j4).bind λy6=>bif decide ((FJ y6.2.2+FJ j1)*8<=am) then (let j3:=(FJ (y6.2.2++j1):Int);bif decide (0<=(bif decide ((wr .i64 (j3-3))<0) then 0 else wr .i64 (j3-3)))&&decide ((bif decide ((wr .i64 (j3-3))<0) then 0 else wr .i64 (j3-3))<=j3)&&decide (j3<=j3)&&true then ((Q7.f K (((y6.2.2++j1).take (FK j3)).drop (FK (bif decide ((wr .i64 (j3-3))<0) then 0 else wr .i64 (j3-3))),())).bind λy7=>(idx y3.1.1 j4).bind λy8=>let j6:=(y3.1.1.set (FK y2.1.1) (y8.1,b3.2.2.1,y8.2.2));(idx j6 j4).bind λy9=>bif Nat.beq (FK y2.1.1) (FK y2.1.1) then ((idx (j6.set (FK y2.1.1) (y9.1,y9.2.1,y7.1.1)) j4).bind λy10=>(Q84.f K (y10.2.2,())).bind λy11=>(Q74.f K (b2.1,b3.2.2.1,y11.1.1,b3.1,())).bind λy12=>some ((),(zcp8 x.1 (b1.1,b1.2.1,((-1),0,0,false),b1.2.2.2.1,y12.1.1,j6.set (FK y2.1.1) (y9.1,y9.2.1,y7.1.1),b2.2.2)),())) else none) else none) else none) else ((idx b2.2.1 y2.1.1).bind λ_=>(idx b2.2.1 j4).bind λy14=>(idx b2.2.1 j4).bind λy15=>bif decide ((FJ y15.2.2+FJ j1)*8<=am) then (let j2:=(FJ (y15.2.2++j1):Int);bif decide (0<=(bif decide ((wr .i64 (j2-3))<0) then 0 else wr .i64 (j2-3)))&&decide ((bif decide ((wr .i64 (j2-3))<0) then 0 else wr .i64 (j2-3))<=j2)&&decide (j2<=j2)&&true then ((Q7.f K (((y15.2.2++j1).take (FK j2)).drop (FK (bif decide ((wr .i64 (j2-3))<0) then 0 else wr .i64 (j2-3))),())).bind λy16=>(idx b2.2.1 j4).bind λy17=>let j5:=(b2.2.1.set (FK y2.1.1) (y17.1,b3.2.2.1,y17.2.2));(idx j5 j4).bind λy18=>bif Nat.beq (FK y2.1.1) (FK y2.1.1) then ((idx (j5.set (FK y2.1.1) (y18.1,y18.2.1,y16.1.1)) j4).bind λy19=>(Q84.f K (y19.2.2,())).bind λy20=>(Q74.f K (b2.1,b3.2.2.1,y20.1.1,b3.1,())).bind λy21=>some ((),(zcp8 x.1 (b1.1,b1.2.1,((-1),0,0,false),b1.2.2.2.1,y21.1.1,j5.set (FK y2.1.1) (y18.1,y18.2.1,y16.1.1),b2.2.2)),())) else none) else none) else none)
def c:Ctr:=⟨113,ps,rs,false,f K⟩
end Q85
namespace Q86
abbrev ps:List PK:=[.iop t76,.rd t47]
abbrev rs:List RK:=[.v (.list true 35 t59)]
abbrev R:=Option (ai rs×ag ps)
def f (x:ab ps):R:=let b1:=x.2.1.2;bif b1.1==6 then none else ((Q64.f K (x.1,b1.2.2.2.2.2.2,b1.2.1,())).bind λy1=>let b2:=y1.2.1.2.2.2.2.2.2.2.2.2.2.1;let j1:R:=some (([],()),y1.2.1,());let j2:=(y1.2.1,b1.2.2.2.2.1,());bif b1.1==1 then ((Q44.f K j2).bind λy2=>bif y2.1.1 then none else j1) else (bif b1.1==3 then ((Q44.f K j2).bind λy3=>bif y3.1.1 then (bif b1.2.2.2.2.1 != b1.2.1 then none else j1) else j1) else (bif b1.1==4 then ((Q66.f K (y1.2.1,5,b1.2.1,())).bind λy4=>some (([y4.1.1],()),y1.2.1,())) else (bif b1.1==2 then (bif b2.1==b1.2.1 then (bif b2.2.2.1==b1.2.2.2.1 then (bif b1.2.2.2.2.1==b1.2.1 then ((Q85.f K (y1.2.1,x.2.1,())).bind λy5=>some (([],()),y5.2.1,())) else j1) else j1) else j1) else j1))))
def c:Ctr:=⟨47,ps,rs,false,f K⟩
end Q86
namespace Q87
abbrev ps:List PK:=[.iop t76,.rref t26,.rref t47]
abbrev rs:List RK:=[.v (.list true 35 t59)]
abbrev R:=Option (ai rs×ag ps)
def f (x:ab ps):R:=(Q53.f K (x.2.1,x.2.2.1,())).bind λy1=>bif !y1.1.1 then (some (([],()),x.1,())) else ((Q86.f K (x.1,x.2.2.1,())).bind λy2=>some ((y2.1.1,()),y2.2.1,()))
def c:Ctr:=⟨46,ps,rs,false,f K⟩
end Q87
namespace Q88
abbrev ps:List PK:=[.rd t26]
abbrev rs:List RK:=[.v t76]
abbrev R:=Option (ai rs×ag ps)
abbrev A2:=List (Ty.den t50)×List (Ty.den t52)×List (Ty.den t12)×Int
abbrev A1:=List (Ty.den t50)×List (Ty.den t52)×Int
abbrev A0:=List (Ty.den t50)×Int
def s2 (x:ab ps)(r2:A2->R)(a:A2):R:=let b1:=x.1.2.2.2.2.2.2.2.2;bif decide (a.2.2.2<(FJ b1.2.2.2.2.2.2:Int)) then ((idx b1.2.2.2.2.2.2 a.2.2.2).bind λy5=>(Q0.f K (y5.2,())).bind λy6=>bif decide ((FJ a.2.2.1+FJ ([(y5.1,y6.1.1)]))*32<=am) then (r2 (a.1,a.2.1,a.2.2.1++([(y5.1,y6.1.1)]),wr .i64 (a.2.2.2+1))) else none) else ((Q0.f K (b1.1,())).bind λy7=>(Q2.f K (b1.2.1,())).bind λy8=>some (((zcp8 x.1 (y7.1.1,y8.1.1,b1.2.2.1,a.1,b1.2.2.2.2.1,a.2.1,a.2.2.1)),()),()))
def l2 (x:ab ps):A2->R:=ae (s2 K x) K
def s1 (x:ab ps)(N2:A2->R)(r1:A1->R)(a:A1):R:=let b1:=x.1.2.2.2.2.2.2.2.2.2.2.2.2.2.1;bif decide (a.2.2<(FJ b1:Int)) then ((idx b1 a.2.2).bind λy3=>(Q7.f K (y3.2.2,())).bind λy4=>bif decide ((FJ a.2.1+FJ ([(y3.1,y3.2.1,y4.1.1)]))*64<=am) then (r1 (a.1,a.2.1++([(y3.1,y3.2.1,y4.1.1)]),wr .i64 (a.2.2+1))) else none) else (N2 (a.1,a.2.1,[],0))
def l1 (x:ab ps):A1->R:=ae (s1 K x (l2 K x)) K
def s0 (x:ab ps)(N1:A1->R)(r0:A0->R)(a:A0):R:=bif decide (a.2<(FJ x.1.2.2.2.2.2.2.2.2.2.2.2.1:Int)) then ((idx x.1.2.2.2.2.2.2.2.2.2.2.2.1 a.2).bind λy1=>(Q7.f K (y1.2.2.2,())).bind λy2=>let j1:=[(y1.1,y1.2.1,y1.2.2.1,y2.1.1)];bif decide ((FJ a.1+FJ j1)*48<=am) then (r0 (a.1++j1,wr .i64 (a.2+1))) else none) else (N1 (a.1,[],0))
def l0 (x:ab ps):A0->R:=ae (s0 K x (l1 K x)) K
def pre (K:Nat)(N0:A0->R)(x:ab ps):R:=N0 ([],0)
def f (x:ab ps):R:=pre K (l0 K x) x
def c:Ctr:=⟨106,ps,rs,true,f K⟩
def G:List Ctr:=[Q0.c K,Q7.c K,Q2.c K]
def v2:List (Nat×List Coe):=[(1,[.keep]),(2,[.keep]),(3,[.own false 86 t50]),(6,[.own false 89 t52]),(9,[.own false 91 t12]),(45,[.ro true 91 t12]),(46,[.keep]),(47,[.keep]),(100001,Kc0),(100002,Kc2)]
def v1:List (Nat×List Coe):=[(1,[.keep]),(2,[.keep]),(3,[.own false 86 t50]),(6,[.own false 89 t52]),(29,[.ro true 89 t11]),(30,[.keep]),(31,[.keep]),(100001,Kc0),(100002,Kc2)]
def v0:List (Nat×List Coe):=[(1,[.keep]),(2,[.keep]),(3,[.own false 86 t50]),(13,[.ro true 86 t6]),(14,[.keep]),(15,[.keep]),(100001,Kc0),(100002,Kc2)]
def L:List (Nat×List (Nat×List Coe)):=[(18,v2),(11,v1),(4,v0)]
def body:Code:=cY Tryz.f106
abbrev ev:Code->St->(Ex->St->R)->R:=evK (G K) T_NL L K
abbrev fin:Ex->St->R:=du T_NL ps rs true Tryz.f106.results.toList
def S0 (x:ab ps)(a:A0):St:=av [(1,⟨0,.one,[.bp 100001 0]⟩),(2,⟨0,.one,[.bp 100002 0]⟩),(3,⟨0,.one,[.own false none 86 t50 a.1]⟩),(13,⟨0,.one,[.ro true 86 t6 x.1.2.2.2.2.2.2.2.2.2.2.2.1]⟩),(14,⟨0,.one,[.int .i64 (FJ x.1.2.2.2.2.2.2.2.2.2.2.2.1:Int)]⟩),(15,⟨0,.one,[.int .i64 a.2]⟩),(100001,⟨0,.agg,(w0 x.1)⟩),(100002,⟨0,.agg,[.int .i64 0,.bool false,.bool false,.bool false,.int .i64 0,.int .i64 0,.int .i64 0,.int .i64 0,.nil,.nil,.int .i64 0,.int .i64 0,.int .i64 0,.bool false,.nil,.int .i64 0,.int .i64 0,.int .i64 0,.int .i64 0,.nil,.nil]⟩)]
def S1 (x:ab ps)(a:A1):St:=av [(1,⟨0,.one,[.bp 100001 0]⟩),(2,⟨0,.one,[.bp 100002 0]⟩),(3,⟨0,.one,[.own false none 86 t50 a.1]⟩),(6,⟨0,.one,[.own false none 89 t52 a.2.1]⟩),(29,⟨0,.one,[.ro true 89 t11 x.1.2.2.2.2.2.2.2.2.2.2.2.2.2.1]⟩),(30,⟨0,.one,[.int .i64 (FJ x.1.2.2.2.2.2.2.2.2.2.2.2.2.2.1:Int)]⟩),(31,⟨0,.one,[.int .i64 a.2.2]⟩),(100001,⟨0,.agg,(w0 x.1)⟩),(100002,⟨0,.agg,[.int .i64 0,.bool false,.bool false,.bool false,.int .i64 0,.int .i64 0,.int .i64 0,.int .i64 0,.nil,.nil,.int .i64 0,.int .i64 0,.int .i64 0,.bool false,.nil,.int .i64 0,.int .i64 0,.int .i64 0,.int .i64 0,.nil,.nil]⟩)]
def S2 (x:ab ps)(a:A2):St:=av [(1,⟨0,.one,[.bp 100001 0]⟩),(2,⟨0,.one,[.bp 100002 0]⟩),(3,⟨0,.one,[.own false none 86 t50 a.1]⟩),(6,⟨0,.one,[.own false none 89 t52 a.2.1]⟩),(9,⟨0,.one,[.own false none 91 t12 a.2.2.1]⟩),(45,⟨0,.one,[.ro true 91 t12 x.1.2.2.2.2.2.2.2.2.2.2.2.2.2.2]⟩),(46,⟨0,.one,[.int .i64 (FJ x.1.2.2.2.2.2.2.2.2.2.2.2.2.2.2:Int)]⟩),(47,⟨0,.one,[.int .i64 a.2.2.2]⟩),(100001,⟨0,.agg,(w0 x.1)⟩),(100002,⟨0,.agg,[.int .i64 0,.bool false,.bool false,.bool false,.int .i64 0,.int .i64 0,.int .i64 0,.int .i64 0,.nil,.nil,.int .i64 0,.int .i64 0,.int .i64 0,.bool false,.nil,.int .i64 0,.int .i64 0,.int .i64 0,.int .i64 0,.nil,.nil]⟩)]
def k0 (x:ab ps):Ex->St->R:=kAt (ev K) body [1,1,0,1,0] fin
def N0 (x:ab ps):A0->R:=λa=>aY v0 (ev K (sub body [1,1,0,1,0,0])) K (S0 x a) (k0 K x)
def k1 (x:ab ps):Ex->St->R:=kAt (ev K) body [1,1,1,1,0,1,0] fin
def N1 (x:ab ps):A1->R:=λa=>aY v1 (ev K (sub body [1,1,1,1,0,1,0,0])) K (S1 x a) (k1 K x)
def k2 (x:ab ps):Ex->St->R:=kAt (ev K) body [1,1,1,1,1,1,0,1,0] fin
def N2 (x:ab ps):A2->R:=λa=>aY v2 (ev K (sub body [1,1,1,1,1,1,0,1,0,0])) K (S2 x a) (k2 K x)
end Q88
namespace Q89
abbrev ps:List PK:=[.own (.list true 35 t59)]
abbrev rs:List RK:=[.v (.list true 35 t59)]
abbrev R:=Option (ai rs×ag ps)
def f (K:Nat)(x:ab ps):R:=bif true&&decide ((FJ x.1:Int)=(FJ x.1:Int))&&decide ((FJ x.1:Int)=(FJ x.1:Int))&&true then (some ((x.1,()),())) else none
def c:Ctr:=⟨107,ps,rs,true,f K⟩
end Q89
namespace Q90
abbrev ps:List PK:=[.rd t26,.clo 46 [(false,t26),(false,t47)]]
abbrev rs:List RK:=[.v t76,.v (.list true 35 t59)]
abbrev R:=Option (ai rs×ag ps)
def f (x:ab ps):R:=(Q50.f K (x.1,())).bind λy1=>bif !y1.1.1 then (some (((0,false,false,false,0,0,0,0,[],[],(0,0,0,false),[],(0,0,0,0),[],[]),[],()),())) else ((Q88.f K (x.1,())).bind λy2=>(Q87.f K (y2.1.1,x.2.1.1,x.2.1.2.1,())).bind λy3=>(Q89.f K (y3.1.1,())).bind λy4=>some ((y3.2.1,y4.1.1,()),()))
def c:Ctr:=⟨45,ps,rs,false,f K⟩
end Q90
namespace Q91
abbrev ps:List PK:=[.rd t26,.rd t47]
abbrev rs:List RK:=[.v t76,.v (.list true 35 t59)]
abbrev R:=Option (ai rs×ag ps)
def f (x:ab ps):R:=(Q90.f K (x.1,(x.1,x.2.1,()),())).bind λy1=>some ((y1.1.1,y1.1.2.1,()),())
def c:Ctr:=⟨13,ps,rs,false,f K⟩
end Q91
namespace Q92
abbrev ps:List PK:=[.rd (.list false 46 t2),.rd (.list false 46 t2)]
abbrev rs:List RK:=[.v .bool]
abbrev R:=Option (ai rs×ag ps)
abbrev A0:=Int
def s0 (K:Nat)(x:ab ps)(r0:A0->R)(a:A0):R:=bif decide (a<(FJ x.1:Int)) then ((idx x.1 a).bind λy1=>(idx x.2.1 a).bind λy2=>bif !Ty.eqv t2 y1 y2 then (some ((false,()),())) else (r0 (wr .i64 (a+1)))) else (some ((true,()),()))
def l0 (x:ab ps):A0->R:=ae (s0 K x) K
def pre (K:Nat)(N0:A0->R)(x:ab ps):R:=bif (FJ x.1:Int) != (FJ x.2.1:Int) then (some ((false,()),())) else (N0 0)
def f (x:ab ps):R:=pre K (l0 K x) x
def c:Ctr:=⟨23,ps,rs,true,f K⟩
end Q92
namespace Q93
abbrev ps:List PK:=[.rd (.list false 133 t3),.rd (.list false 133 t3)]
abbrev rs:List RK:=[.v .bool]
abbrev R:=Option (ai rs×ag ps)
abbrev A0:=Int
def s0 (K:Nat)(x:ab ps)(r0:A0->R)(a:A0):R:=bif decide (a<(FJ x.1:Int)) then ((idx x.1 a).bind λy1=>(idx x.2.1 a).bind λy2=>bif !Ty.eqv t3 y1 y2 then (some ((false,()),())) else (r0 (wr .i64 (a+1)))) else (some ((true,()),()))
def l0 (x:ab ps):A0->R:=ae (s0 K x) K
def pre (K:Nat)(N0:A0->R)(x:ab ps):R:=bif (FJ x.1:Int) != (FJ x.2.1:Int) then (some ((false,()),())) else (N0 0)
def f (x:ab ps):R:=pre K (l0 K x) x
def c:Ctr:=⟨56,ps,rs,true,f K⟩
end Q93
namespace Q94
abbrev ps:List PK:=[.rd (.list false 3 I6),.rd (.list false 3 I6)]
abbrev rs:List RK:=[.v .bool]
abbrev R:=Option (ai rs×ag ps)
abbrev A0:=Int
def s0 (K:Nat)(x:ab ps)(r0:A0->R)(a:A0):R:=bif decide (a<(FJ x.1:Int)) then ((idx x.1 a).bind λy1=>(idx x.2.1 a).bind λy2=>bif y1 != y2 then (some ((false,()),())) else (r0 (wr .i64 (a+1)))) else (some ((true,()),()))
def l0 (x:ab ps):A0->R:=ae (s0 K x) K
def pre (K:Nat)(N0:A0->R)(x:ab ps):R:=bif (FJ x.1:Int) != (FJ x.2.1:Int) then (some ((false,()),())) else (N0 0)
def f (x:ab ps):R:=pre K (l0 K x) x
def c:Ctr:=⟨57,ps,rs,true,f K⟩
end Q94
namespace Q95
abbrev ps:List PK:=[.rd t26,.rd t26]
abbrev rs:List RK:=[.v .bool]
abbrev R:=Option (ai rs×ag ps)
abbrev A2:=Int
abbrev A1:=Int
abbrev A0:=Int
def s2 (x:ab ps)(r2:A2->R)(a:A2):R:=let b2:=x.2.1.2.2.2.2.2.2.2.2.2.2.2.2.2.2;let b1:=x.1.2.2.2.2.2.2.2.2.2.2.2.2.2.2;bif decide (a<(FJ b1:Int)) then ((idx b1 a).bind λy13=>(idx b2 a).bind λy14=>bif y13.1 != y14.1 then (some ((false,()),())) else ((idx b1 a).bind λy15=>(idx b2 a).bind λy16=>(Q92.f K (y15.2,y16.2,())).bind λy17=>bif !y17.1.1 then (some ((false,()),())) else (r2 (wr .i64 (a+1))))) else (some ((true,()),()))
def l2 (x:ab ps):A2->R:=ae (s2 K x) K
def s1 (x:ab ps)(N2:A2->R)(r1:A1->R)(a:A1):R:=let b2:=x.2.1.2.2.2.2.2.2.2.2.2.2.2.2.2.1;let b1:=x.1.2.2.2.2.2.2.2.2.2.2.2.2.2.1;bif decide (a<(FJ b1:Int)) then ((idx b1 a).bind λy6=>(idx b2 a).bind λy7=>let j1:R:=some ((false,()),());bif y6.1 != y7.1 then j1 else ((idx b1 a).bind λy8=>(idx b2 a).bind λy9=>bif !Ty.eqv t9 y8.2.1 y9.2.1 then j1 else ((idx b1 a).bind λy10=>(idx b2 a).bind λy11=>(Q94.f K (y10.2.2,y11.2.2,())).bind λy12=>bif !y12.1.1 then j1 else (r1 (wr .i64 (a+1)))))) else (N2 0)
def l1 (x:ab ps):A1->R:=ae (s1 K x (l2 K x)) K
def s0 (x:ab ps)(N1:A1->R)(r0:A0->R)(a:A0):R:=bif decide (a<(FJ x.1.2.2.2.2.2.2.2.2.2.2.2.1:Int)) then ((idx x.1.2.2.2.2.2.2.2.2.2.2.2.1 a).bind λy3=>(idx x.2.1.2.2.2.2.2.2.2.2.2.2.2.1 a).bind λy4=>let j1:R:=some ((false,()),());bif y3.1 != y4.1 then j1 else (bif y3.2.1 != y4.2.1 then j1 else (bif y3.2.2.1 != y4.2.2.1 then j1 else ((Q94.f K (y3.2.2.2,y4.2.2.2,())).bind λy5=>bif !y5.1.1 then j1 else (r0 (wr .i64 (a+1))))))) else (N1 0)
def l0 (x:ab ps):A0->R:=ae (s0 K x (l1 K x)) K
def pre (N0:A0->R)(x:ab ps):R:=let b5:=x.2.1.2.2;let b4:=x.1.2.2.2;let b2:=b4.2.2.2.2;let b1:=b5.2.2.2.2;let b3:=b1.2.2.2.2;let j1:R:=some ((false,()),());bif x.1.1 != x.2.1.1 then j1 else (bif x.1.2.1 != x.2.1.2.1 then j1 else (bif x.1.2.2.1 != b5.1 then j1 else (bif b4.1 != b5.2.1 then j1 else (bif b4.2.1 != b5.2.2.1 then j1 else (bif b4.2.2.1 != b5.2.2.2.1 then j1 else (bif b4.2.2.2.1 != b1.1 then j1 else (bif b2.1 != b1.2.1 then j1 else ((Q92.f K (b2.2.1,b1.2.2.1,())).bind λy1=>bif !y1.1.1 then j1 else ((Q93.f K (b2.2.2.1,b1.2.2.2.1,())).bind λy2=>bif !y2.1.1 then j1 else (bif !Ty.eqv t2 b2.2.2.2.1 b3.1 then j1 else (bif !Ty.eqv t9 b2.2.2.2.2.2.1 b3.2.2.1 then j1 else (bif (FJ b2.2.2.2.2.1:Int) != (FJ b3.2.1:Int) then j1 else (bif (FJ b2.2.2.2.2.2.2.1:Int) != (FJ b3.2.2.2.1:Int) then j1 else (bif (FJ b2.2.2.2.2.2.2.2:Int) != (FJ b3.2.2.2.2:Int) then j1 else (N0 0)))))))))))))))
def f (x:ab ps):R:=pre K (l0 K x) x
def c:Ctr:=⟨16,ps,rs,true,f K⟩
def G:List Ctr:=[Q92.c K,Q93.c K,Q94.c K]
def v2:List (Nat×List Coe):=[(2,[.keep]),(3,[.keep]),(9,[.keep]),(100002,Kc0),(100003,Kc0)]
def v1:List (Nat×List Coe):=[(2,[.keep]),(3,[.keep]),(8,[.keep]),(100002,Kc0),(100003,Kc0)]
def v0:List (Nat×List Coe):=[(2,[.keep]),(3,[.keep]),(5,[.keep]),(100002,Kc0),(100003,Kc0)]
def L:List (Nat×List (Nat×List Coe)):=[(17,v2),(12,v1),(5,v0)]
def body:Code:=cY Tryz.f16
abbrev ev:Code->St->(Ex->St->R)->R:=evK (G K) T_NL L K
abbrev fin:Ex->St->R:=du T_NL ps rs true Tryz.f16.results.toList
def S0 (x:ab ps)(a:A0):St:=av [(2,⟨0,.one,[.bp 100002 0]⟩),(3,⟨0,.one,[.bp 100003 0]⟩),(5,⟨0,.one,[.int .i64 a]⟩),(100002,⟨0,.agg,(w0 x.1)⟩),(100003,⟨0,.agg,(w0 x.2.1)⟩)]
def S1 (x:ab ps)(a:A1):St:=av [(2,⟨0,.one,[.bp 100002 0]⟩),(3,⟨0,.one,[.bp 100003 0]⟩),(8,⟨0,.one,[.int .i64 a]⟩),(100002,⟨0,.agg,(w0 x.1)⟩),(100003,⟨0,.agg,(w0 x.2.1)⟩)]
def S2 (x:ab ps)(a:A2):St:=av [(2,⟨0,.one,[.bp 100002 0]⟩),(3,⟨0,.one,[.bp 100003 0]⟩),(9,⟨0,.one,[.int .i64 a]⟩),(100002,⟨0,.agg,(w0 x.1)⟩),(100003,⟨0,.agg,(w0 x.2.1)⟩)]
def k0 (x:ab ps):Ex->St->R:=kAt (ev K) body [1,1,0,1,0] fin
def N0 (x:ab ps):A0->R:=λa=>aY v0 (ev K (sub body [1,1,0,1,0,0])) K (S0 x a) (k0 K x)
def k1 (x:ab ps):Ex->St->R:=kAt (ev K) body [1,1,1,0,1,0] fin
def N1 (x:ab ps):A1->R:=λa=>aY v1 (ev K (sub body [1,1,1,0,1,0,0])) K (S1 x a) (k1 K x)
def k2 (x:ab ps):Ex->St->R:=kAt (ev K) body [1,1,1,1,0,1,0] fin
def N2 (x:ab ps):A2->R:=λa=>aY v2 (ev K (sub body [1,1,1,1,0,1,0,0])) K (S2 x a) (k2 K x)
end Q95
namespace Q96
abbrev ps:List PK:=[.rd t47,.rd t47]
abbrev rs:List RK:=[.v .bool]
abbrev R:=Option (ai rs×ag ps)
def f (x:ab ps):R:=let b2:=x.1.2.2.2;let b1:=x.2.1.2.2.2;let j1:R:=some ((false,()),());bif x.1.1==x.2.1.1 then (bif x.1.2.1==x.2.1.2.1 then (bif x.1.2.2.1==x.2.1.2.2.1 then (bif b2.1==b1.1 then (bif b2.2.1==b1.2.1 then (bif b2.2.2.1==b1.2.2.1 then (bif Ty.eqv t9 b2.2.2.2.1 b1.2.2.2.1 then ((Q92.f K (b2.2.2.2.2,b1.2.2.2.2,())).bind λy1=>some ((y1.1.1,()),())) else j1) else j1) else j1) else j1) else j1) else j1) else j1
def c:Ctr:=⟨58,ps,rs,true,f K⟩
end Q96
namespace Q97
abbrev ps:List PK:=[.rd (.list false 35 t47),.rd (.list false 35 t47)]
abbrev rs:List RK:=[.v .bool]
abbrev R:=Option (ai rs×ag ps)
abbrev A0:=Int
def s0 (x:ab ps)(r0:A0->R)(a:A0):R:=bif decide (a<(FJ x.1:Int)) then ((idx x.1 a).bind λy1=>(idx x.2.1 a).bind λy2=>(Q96.f K (y1,y2,())).bind λy3=>bif !y3.1.1 then (some ((false,()),())) else (r0 (wr .i64 (a+1)))) else (some ((true,()),()))
def l0 (x:ab ps):A0->R:=ae (s0 K x) K
def pre (K:Nat)(N0:A0->R)(x:ab ps):R:=bif (FJ x.1:Int) != (FJ x.2.1:Int) then (some ((false,()),())) else (N0 0)
def f (x:ab ps):R:=pre K (l0 K x) x
def c:Ctr:=⟨17,ps,rs,true,f K⟩
end Q97
namespace Q98
abbrev ps:List PK:=[.rd I6,.rd I6,.rd I6]
abbrev rs:List RK:=[.v .bool]
abbrev R:=Option (ai rs×ag ps)
def f (K:Nat)(x:ab ps):R:=bif decide (x.1>=x.2.1) then (some ((decide (x.1<=x.2.2.1),()),())) else (some ((false,()),()))
def c:Ctr:=⟨65,ps,rs,true,f K⟩
end Q98
namespace Q99
abbrev ps:List PK:=[.rd t2]
abbrev rs:List RK:=[.v .bool]
abbrev R:=Option (ai rs×ag ps)
def f (x:ab ps):R:=(Q98.f K (x.1.1,0,7,())).bind λy1=>bif y1.1.1 then ((Q98.f K (x.1.2.1,0,999,())).bind λy2=>bif y2.1.1 then ((Q98.f K (x.1.2.2.1,1,4,())).bind λy3=>some ((y3.1.1,()),())) else (some ((false,()),()))) else (some ((false,()),()))
def c:Ctr:=⟨125,ps,rs,true,f K⟩
end Q99
namespace Q100
abbrev ps:List PK:=[.rd (.list false 46 t2)]
abbrev rs:List RK:=[.v .bool]
abbrev R:=Option (ai rs×ag ps)
abbrev A0:=Int
def s0 (x:ab ps)(r0:A0->R)(a:A0):R:=bif decide (a<(FJ x.1:Int)) then ((idx x.1 a).bind λy1=>(Q99.f K (y1,())).bind λy2=>bif !y2.1.1 then (some ((false,()),())) else (bif decide (a>0) then ((idx x.1 (wr .i64 (a-1))).bind λy3=>(idx x.1 a).bind λy4=>bif decide (y3.1>=y4.1) then (some ((false,()),())) else (r0 (wr .i64 (a+1)))) else (r0 (wr .i64 (a+1))))) else (some ((true,()),()))
def l0 (x:ab ps):A0->R:=ae (s0 K x) K
def pre (K:Nat)(N0:A0->R)(x:ab ps):R:=N0 0
def f (x:ab ps):R:=pre K (l0 K x) x
def c:Ctr:=⟨66,ps,rs,true,f K⟩
end Q100
namespace Q101
abbrev ps:List PK:=[.rd (.list false 46 t2),.rd I6]
abbrev rs:List RK:=[.v .bool]
abbrev R:=Option (ai rs×ag ps)
abbrev A0:=Int
def s0 (K:Nat)(x:ab ps)(r0:A0->R)(a:A0):R:=bif decide (a<(FJ x.1:Int)) then ((idx x.1 a).bind λy1=>bif (wr .i64 (FL y1.1 4)) != x.2.1 then (some ((false,()),())) else (r0 (wr .i64 (a+1)))) else (some ((true,()),()))
def l0 (x:ab ps):A0->R:=ae (s0 K x) K
def pre (K:Nat)(N0:A0->R)(x:ab ps):R:=N0 0
def f (x:ab ps):R:=pre K (l0 K x) x
def c:Ctr:=⟨67,ps,rs,true,f K⟩
end Q101
namespace Q102
abbrev ps:List PK:=[.rd I6]
abbrev rs:List RK:=[.v I6]
abbrev R:=Option (ai rs×ag ps)
def f (K:Nat)(x:ab ps):R:=some ((wr .i64 (FL x.1 4),()),())
def c:Ctr:=⟨68,ps,rs,true,f K⟩
end Q102
namespace Q103
abbrev ps:List PK:=[.rd (.list false 46 t2),.rd I6]
abbrev rs:List RK:=[.v I6]
abbrev R:=Option (ai rs×ag ps)
abbrev A0:=Int
def s0 (K:Nat)(x:ab ps)(r0:A0->R)(a:A0):R:=bif decide (a<(FJ x.1:Int)) then ((idx x.1 a).bind λy1=>bif y1.1==x.2.1 then (some ((a,()),())) else (r0 (wr .i64 (a+1)))) else (some (((-1),()),()))
def l0 (x:ab ps):A0->R:=ae (s0 K x) K
def pre (K:Nat)(N0:A0->R)(x:ab ps):R:=N0 0
def f (x:ab ps):R:=pre K (l0 K x) x
def c:Ctr:=⟨99,ps,rs,true,f K⟩
end Q103
namespace Q104
abbrev ps:List PK:=[.rd t26]
abbrev rs:List RK:=[.v .bool]
abbrev R:=Option (ai rs×ag ps)
def f (x:ab ps):R:=let b1:=x.1.2.2.2;(Q103.f K (b1.2.2.2.2.2.1,x.1.1,())).bind λy1=>let j1:R:=some ((false,()),());bif decide (y1.1.1<0) then j1 else ((idx b1.2.2.2.2.2.1 y1.1.1).bind λy2=>let j2:=((y2.2.2.2==b1.1,()),());bif x.1.2.2.1 then (bif y2.2.1==b1.2.1 then (bif y2.2.2.1==4 then (some j2) else j1) else j1) else (bif y2.2.1==b1.2.1 then (bif y2.2.2.1==1 then (some j2) else j1) else j1))
def c:Ctr:=⟨69,ps,rs,true,f K⟩
end Q104
namespace Q105
abbrev ps:List PK:=[.rd (.list false 133 t3)]
abbrev rs:List RK:=[.v .bool]
abbrev R:=Option (ai rs×ag ps)
abbrev A0:=Int
def s0 (x:ab ps)(r0:A0->R)(a:A0):R:=bif decide (a<(FJ x.1:Int)) then ((idx x.1 a).bind λy1=>(Q99.f K (y1.1,())).bind λy2=>let j1:R:=some ((false,()),());bif !y2.1.1 then j1 else ((idx x.1 a).bind λy3=>(Q98.f K (y3.2,1,4,())).bind λy4=>bif !y4.1.1 then j1 else (bif decide (a>0) then ((idx x.1 (wr .i64 (a-1))).bind λy5=>(idx x.1 a).bind λy6=>bif decide (y5.1.1>=y6.1.1) then j1 else (r0 (wr .i64 (a+1)))) else (r0 (wr .i64 (a+1)))))) else (some ((true,()),()))
def l0 (x:ab ps):A0->R:=ae (s0 K x) K
def pre (K:Nat)(N0:A0->R)(x:ab ps):R:=N0 0
def f (x:ab ps):R:=pre K (l0 K x) x
def c:Ctr:=⟨126,ps,rs,true,f K⟩
end Q105
namespace Q106
abbrev ps:List PK:=[.rd t2,.rd t2]
abbrev rs:List RK:=[.v .bool]
abbrev R:=Option (ai rs×ag ps)
def f (K:Nat)(x:ab ps):R:=bif x.1.2.1 != x.2.1.2.1 then (some ((decide (x.1.2.1>x.2.1.2.1),()),())) else (bif x.1.2.2.1 != x.2.1.2.2.1 then (some ((decide (x.1.2.2.1>x.2.1.2.2.1),()),())) else (bif x.1.2.2.2 then (some ((!x.2.1.2.2.2,()),())) else (some ((false,()),()))))
def c:Ctr:=⟨127,ps,rs,true,f K⟩
end Q106
namespace Q107
abbrev ps:List PK:=[.rd t26]
abbrev rs:List RK:=[.v .bool]
abbrev R:=Option (ai rs×ag ps)
abbrev A0:=Int
def s0 (x:ab ps)(r0:A0->R)(a:A0):R:=let b1:=x.1.2.2.2.2.2.2.2.2;bif decide (a<(FJ b1.2.1:Int)) then ((idx b1.2.1 a).bind λy2=>(Q103.f K (b1.1,y2.1.1,())).bind λy3=>bif decide (y3.1.1<0) then (some ((false,()),())) else ((idx b1.2.1 a).bind λy4=>(idx b1.1 y3.1.1).bind λy5=>(Q106.f K (y4.1,y5,())).bind λy6=>bif y6.1.1 then (some ((false,()),())) else (r0 (wr .i64 (a+1))))) else (some ((true,()),()))
def l0 (x:ab ps):A0->R:=ae (s0 K x) K
def pre (N0:A0->R)(x:ab ps):R:=(Q105.f K (x.1.2.2.2.2.2.2.2.2.2.1,())).bind λy1=>bif !y1.1.1 then (some ((false,()),())) else (N0 0)
def f (x:ab ps):R:=pre K (l0 K x) x
def c:Ctr:=⟨70,ps,rs,true,f K⟩
end Q107
namespace Q108
abbrev ps:List PK:=[.rd t26]
abbrev rs:List RK:=[.v .bool]
abbrev R:=Option (ai rs×ag ps)
def f (x:ab ps):R:=let b2:=x.1.2.2.2.2.2;let b1:=b2.2.2.2.2.2.1;let j1:R:=some ((false,()),());bif b1.1==(-1) then (bif b1.2.1==0 then (bif b1.2.2.1==0 then (some ((!b1.2.2.2,()),())) else j1) else j1) else (bif b1.1 != x.1.1 then ((Q103.f K (b2.2.2.2.1,b1.1,())).bind λy1=>bif decide (y1.1.1>=0) then ((Q98.f K (b1.2.1,0,b2.1,())).bind λy2=>bif y2.1.1 then ((Q98.f K (b1.2.2.1,1,b2.2.1,())).bind λy3=>some ((y3.1.1,()),())) else j1) else j1) else j1)
def c:Ctr:=⟨71,ps,rs,true,f K⟩
end Q108
namespace Q109
abbrev ps:List PK:=[.rd t26]
abbrev rs:List RK:=[.v .bool]
abbrev R:=Option (ai rs×ag ps)
abbrev A1:=Int×Int×Int×Int×Int×List (Ty.den I6)
abbrev A2:=Int×Int
abbrev A0:=Int
def s1 (x:ab ps)(r0:A0->R)(r1:A1->R)(a:A1):R:=let b1:=a.2.2.2.2.2;bif decide (a.2.1<(FJ b1:Int)) then ((idx b1 a.2.1).bind λy7=>(Q98.f K (y7,0,7,())).bind λy8=>let j1:R:=some ((false,()),());bif !y8.1.1 then j1 else ((idx b1 a.2.1).bind λy9=>(Q102.f K (y9,())).bind λy10=>(Q102.f K (x.1.1,())).bind λy11=>bif y10.1.1 != y11.1.1 then j1 else (let j2:=(a.1,wr .i64 (a.2.1+1),a.2.2);bif decide (a.2.1>0) then ((idx b1 (wr .i64 (a.2.1-1))).bind λy12=>(idx b1 a.2.1).bind λy13=>bif decide (y12>=y13) then j1 else (r1 j2)) else (r1 j2)))) else (r0 (wr .i64 (a.1+1)))
def l1 (x:ab ps)(r0:A0->R):A1->R:=ae (s1 K x r0) K
def s2 (K:Nat)(x:ab ps)(r2:A2->R)(a:A2):R:=let b1:=x.1.2.2.2.2.2.2.2.2;bif decide (a.2<(FJ b1.1:Int)) then ((idx b1.1 a.2).bind λy17=>bif y17.2.2.1==2 then (r2 (wr .i64 (a.1+1),wr .i64 (a.2+1))) else (r2 (a.1,wr .i64 (a.2+1)))) else (some ((a.1==(FJ b1.2.2.2.1:Int),()),()))
def l2 (x:ab ps):A2->R:=ae (s2 K x) K
def s0 (x:ab ps)(N1:A1->R)(N2:A2->R)(r0:A0->R)(a:A0):R:=let b1:=x.1.2.2.2.2.2.2.2.2;bif decide (a<(FJ b1.2.2.2.1:Int)) then ((idx b1.2.2.2.1 a).bind λy1=>(Q103.f K (b1.1,y1.1,())).bind λy2=>let j2:R:=some ((false,()),());let j1:R:=bif decide (y2.1.1<0) then j2 else ((idx b1.1 y2.1.1).bind λy4=>bif y4.2.2.1 != 2 then j2 else ((idx b1.1 y2.1.1).bind λy5=>bif y5.2.1 != y1.2.1 then j2 else ((Q98.f K (y1.2.2.1,0,x.1.2.2.2.2.2.1,())).bind λy6=>bif !y6.1.1 then j2 else (bif (FJ y1.2.2.2:Int)==0 then j2 else (N1 (a,0,y1))))));bif decide (a>0) then ((idx b1.2.2.2.1 (wr .i64 (a-1))).bind λy3=>bif decide (y3.1>=y1.1) then j2 else j1) else j1) else (N2 (0,0))
def l0 (x:ab ps):A0->R:=ae (λr0 a=>s0 K x (l1 K x r0) (l2 K x) r0 a) K
def pre (K:Nat)(N0:A0->R)(x:ab ps):R:=N0 0
def f (x:ab ps):R:=pre K (l0 K x) x
def c:Ctr:=⟨72,ps,rs,true,f K⟩
def G:List Ctr:=[Q98.c K,Q102.c K,Q103.c K]
def v1:List (Nat×List Coe):=[(1,[.keep]),(3,[.keep]),(4,[.keep]),(6,[.keep]),(100001,Kc0),(100004,Kc5)]
def v2:List (Nat×List Coe):=[(1,[.keep]),(7,[.keep]),(8,[.keep]),(100001,Kc0)]
def v0:List (Nat×List Coe):=[(1,[.keep]),(3,[.keep]),(100001,Kc0)]
def L:List (Nat×List (Nat×List Coe)):=[(10,v1),(16,v2),(3,v0)]
def body:Code:=cY Tryz.f72
abbrev ev:Code->St->(Ex->St->R)->R:=evK (G K) T_S L K
abbrev fin:Ex->St->R:=du T_S ps rs true Tryz.f72.results.toList
def S0 (x:ab ps)(a:A0):St:=av [(1,⟨0,.one,[.bp 100001 0]⟩),(3,⟨0,.one,[.int .i64 a]⟩),(100001,⟨0,.agg,(w0 x.1)⟩)]
def S2 (x:ab ps)(a:A2):St:=av [(1,⟨0,.one,[.bp 100001 0]⟩),(7,⟨0,.one,[.int .i64 a.1]⟩),(8,⟨0,.one,[.int .i64 a.2]⟩),(100001,⟨0,.agg,(w0 x.1)⟩)]
def S1 (x:ab ps)(a:A1):St:=av [(1,⟨0,.one,[.bp 100001 0]⟩),(3,⟨0,.one,[.int .i64 a.1]⟩),(4,⟨0,.one,[.bp 100004 0]⟩),(6,⟨0,.one,[.int .i64 a.2.1]⟩),(100001,⟨0,.agg,(w0 x.1)⟩),(100004,⟨0,.agg,(wa0 a.2.2)⟩)]
def k0 (x:ab ps):Ex->St->R:=kAt (ev K) body [1,0,1,0] fin
def N0 (x:ab ps):A0->R:=λa=>aY v0 (ev K (sub body [1,0,1,0,0])) K (S0 x a) (k0 K x)
def k2 (x:ab ps):Ex->St->R:=kAt (ev K) body [1,1,1,0,1,0] fin
def N2 (x:ab ps):A2->R:=λa=>aY v2 (ev K (sub body [1,1,1,0,1,0,0])) K (S2 x a) (k2 K x)
def k1 (x:ab ps)(q0:St->R):Ex->St->R:=kAt (ev K) (sub body [1,0,1,0,0]) [1,0,0,1,1,1,1,0] (iq v0 q0 (k0 K x))
def N1 (x:ab ps)(q0:St->R):A1->R:=λa=>aY v1 (ev K (sub body [1,0,1,0,0,1,0,0,1,1,1,1,0,0])) K (S1 x a) (k1 K x q0)
end Q109
namespace Q110
abbrev ps:List PK:=[.rd t9]
abbrev rs:List RK:=[.v .bool]
abbrev R:=Option (ai rs×ag ps)
def f (x:ab ps):R:=(Q98.f K (x.1.1,(-100000),100000,())).bind λy1=>let j1:R:=some ((false,()),());bif y1.1.1 then ((Q98.f K (x.1.2.1,(-100000),100000,())).bind λy2=>bif y2.1.1 then ((Q98.f K (x.1.2.2.1,0,100000,())).bind λy3=>bif y3.1.1 then ((Q98.f K (x.1.2.2.2,1,1500,())).bind λy4=>some ((y4.1.1,()),())) else j1) else j1) else j1
def c:Ctr:=⟨73,ps,rs,true,f K⟩
end Q110
namespace Q111
abbrev ps:List PK:=[.rd t26]
abbrev rs:List RK:=[.v .bool]
abbrev R:=Option (ai rs×ag ps)
abbrev A1:=Int×Int×Int×Int×Int×Int×Int×List (Ty.den I6)
abbrev A0:=Int
def s1 (x:ab ps)(r0:A0->R)(r1:A1->R)(a:A1):R:=bif decide (a.2.1<(FJ a.2.2.2.2.2.2.2:Int)) then ((idx a.2.2.2.2.2.2.2 a.2.1).bind λy8=>(Q98.f K (y8,1,60000,())).bind λy9=>bif !y9.1.1 then (some ((false,()),())) else (r1 (a.1,wr .i64 (a.2.1+1),a.2.2))) else (r0 (wr .i64 (a.1+1)))
def l1 (x:ab ps)(r0:A0->R):A1->R:=ae (s1 K x r0) K
def s0 (x:ab ps)(N1:A1->R)(r0:A0->R)(a:A0):R:=let b1:=x.1.2.2.2.2.2.2.2.2.2.2.2.2.2.1;bif decide (a<(FJ b1:Int)) then ((idx b1 a).bind λy1=>(Q98.f K (y1.1,0,7,())).bind λy2=>let j2:R:=some ((false,()),());bif !y2.1.1 then j2 else ((Q102.f K (y1.1,())).bind λy3=>(Q102.f K (x.1.1,())).bind λy4=>bif y3.1.1 != y4.1.1 then j2 else (bif y1.1==x.1.1 then j2 else (let j1:R:=(Q110.f K (y1.2.1,())).bind λy6=>bif !y6.1.1 then j2 else ((Q98.f K ((FJ y1.2.2:Int),1,3,())).bind λy7=>bif !y7.1.1 then j2 else (N1 (a,0,y1.1,y1.2.1.1,y1.2.1.2.1,y1.2.1.2.2.1,y1.2.1.2.2.2,y1.2.2)));bif decide (a>0) then ((idx b1 (wr .i64 (a-1))).bind λy5=>bif decide (y5.1>=y1.1) then j2 else j1) else j1)))) else (some ((true,()),()))
def l0 (x:ab ps):A0->R:=ae (λr0 a=>s0 K x (l1 K x r0) r0 a) K
def pre (K:Nat)(N0:A0->R)(x:ab ps):R:=N0 0
def f (x:ab ps):R:=pre K (l0 K x) x
def c:Ctr:=⟨74,ps,rs,true,f K⟩
def G:List Ctr:=[Q98.c K,Q102.c K,Q110.c K]
def v1:List (Nat×List Coe):=[(1,[.keep]),(3,[.keep]),(4,[.keep]),(5,[.keep]),(100001,Kc0),(100004,Kc6)]
def v0:List (Nat×List Coe):=[(1,[.keep]),(3,[.keep]),(100001,Kc0)]
def L:List (Nat×List (Nat×List Coe)):=[(9,v1),(3,v0)]
def body:Code:=cY Tryz.f74
abbrev ev:Code->St->(Ex->St->R)->R:=evK (G K) T_S L K
abbrev fin:Ex->St->R:=du T_S ps rs true Tryz.f74.results.toList
def S0 (x:ab ps)(a:A0):St:=av [(1,⟨0,.one,[.bp 100001 0]⟩),(3,⟨0,.one,[.int .i64 a]⟩),(100001,⟨0,.agg,(w0 x.1)⟩)]
def S1 (x:ab ps)(a:A1):St:=av [(1,⟨0,.one,[.bp 100001 0]⟩),(3,⟨0,.one,[.int .i64 a.1]⟩),(4,⟨0,.one,[.bp 100004 0]⟩),(5,⟨0,.one,[.int .i64 a.2.1]⟩),(100001,⟨0,.agg,(w0 x.1)⟩),(100004,⟨0,.agg,[.int .i64 a.2.2.1,.int .i64 a.2.2.2.1,.int .i64 a.2.2.2.2.1,.int .i64 a.2.2.2.2.2.1,.int .i64 a.2.2.2.2.2.2.1,.ro true 3 I6 a.2.2.2.2.2.2.2]⟩)]
def k0 (x:ab ps):Ex->St->R:=kAt (ev K) body [1,0,1,0] fin
def N0 (x:ab ps):A0->R:=λa=>aY v0 (ev K (sub body [1,0,1,0,0])) K (S0 x a) (k0 K x)
def k1 (x:ab ps)(q0:St->R):Ex->St->R:=kAt (ev K) (sub body [1,0,1,0,0]) [1,0,0,1,1,1,0] (iq v0 q0 (k0 K x))
def N1 (x:ab ps)(q0:St->R):A1->R:=λa=>aY v1 (ev K (sub body [1,0,1,0,0,1,0,0,1,1,1,0,0])) K (S1 x a) (k1 K x q0)
end Q111
namespace Q112
abbrev ps:List PK:=[.rd t26]
abbrev rs:List RK:=[.v .bool]
abbrev R:=Option (ai rs×ag ps)
abbrev A0:=Int
def s0 (x:ab ps)(r0:A0->R)(a:A0):R:=let b1:=x.1.2.2.2.2.2.2.2.2.2.2.2.2.2.2;bif decide (a<(FJ b1:Int)) then ((idx b1 a).bind λy1=>(Q98.f K (y1.1,0,1,())).bind λy2=>let j2:R:=some ((false,()),());bif !y2.1.1 then j2 else ((Q102.f K (x.1.1,())).bind λy3=>bif y1.1==y3.1.1 then j2 else (let j1:R:=bif (FJ y1.2:Int)==0 then j2 else ((Q100.f K (y1.2,())).bind λy5=>bif !y5.1.1 then j2 else ((Q101.f K (y1.2,y1.1,())).bind λy6=>bif !y6.1.1 then j2 else (r0 (wr .i64 (a+1)))));bif decide (a>0) then ((idx b1 (wr .i64 (a-1))).bind λy4=>bif decide (y4.1>=y1.1) then j2 else j1) else j1))) else (some ((true,()),()))
def l0 (x:ab ps):A0->R:=ae (s0 K x) K
def pre (K:Nat)(N0:A0->R)(x:ab ps):R:=N0 0
def f (x:ab ps):R:=pre K (l0 K x) x
def c:Ctr:=⟨75,ps,rs,true,f K⟩
end Q112
namespace Q113
abbrev ps:List PK:=[.rd t26]
abbrev rs:List RK:=[.v .bool]
abbrev R:=Option (ai rs×ag ps)
def f (x:ab ps):R:=let b3:=x.1.2.2.2.2;let b1:=b3.2.2.2;let b2:=b1.2.2.2;(Q98.f K (x.1.1,0,7,())).bind λy1=>let j1:R:=some ((false,()),());bif !y1.1.1 then j1 else ((Q98.f K (b3.2.1,0,999999,())).bind λy2=>bif !y2.1.1 then j1 else ((Q98.f K (b3.2.2.1,0,999999,())).bind λy3=>bif !y3.1.1 then j1 else ((Q98.f K (b1.1,0,8,())).bind λy4=>bif !y4.1.1 then j1 else ((Q98.f K (b3.1,0,999,())).bind λy5=>bif !y5.1.1 then j1 else (bif !x.1.2.1 then (bif !x.1.2.2.1 then (bif b3.1==0 then (bif b3.2.1==0 then (bif b3.2.2.1==0 then (bif b1.1==0 then (bif (wr .i64 ((wr .i64 ((wr .i64 ((wr .i64 ((FJ b1.2.1:Int)+(FJ b1.2.2.1:Int)))+(FJ b2.2.1:Int)))+(FJ b2.2.2.2.1:Int)))+(FJ b2.2.2.2.2:Int)))==0 then (bif b2.1.1==0 then (bif b2.1.2.1==0 then (bif b2.1.2.2.1==0 then (bif !b2.1.2.2.2 then (bif b2.2.2.1.1==0 then (bif b2.2.2.1.2.1==0 then (bif b2.2.2.1.2.2.1==0 then (some ((b2.2.2.1.2.2.2==0,()),())) else j1) else j1) else j1) else j1) else j1) else j1) else j1) else j1) else j1) else j1) else j1) else j1) else j1) else ((Q100.f K (b1.2.1,())).bind λy6=>bif y6.1.1 then ((Q102.f K (x.1.1,())).bind λy7=>(Q101.f K (b1.2.1,y7.1.1,())).bind λy8=>bif y8.1.1 then ((Q104.f K (x.1,())).bind λy9=>bif y9.1.1 then ((Q107.f K (x.1,())).bind λy10=>bif y10.1.1 then ((Q108.f K (x.1,())).bind λy11=>bif y11.1.1 then ((Q109.f K (x.1,())).bind λy12=>bif y12.1.1 then ((Q110.f K (b2.2.2.1,())).bind λy13=>bif y13.1.1 then ((Q111.f K (x.1,())).bind λy14=>bif y14.1.1 then ((Q112.f K (x.1,())).bind λy15=>some ((y15.1.1,()),())) else j1) else j1) else j1) else j1) else j1) else j1) else j1) else j1))))))
def c:Ctr:=⟨22,ps,rs,true,f K⟩
end Q113
namespace Q114
abbrev ps:List PK:=[.rd t62]
abbrev rs:List RK:=[.v I6]
abbrev R:=Option (ai rs×ag ps)
def f (K:Nat)(x:ab ps):R:=some ((let j1:=((wr .i64 (6-((x.1.2.2.2:Nat):Int)))+1);bif decide ((wr .i64 j1)<3) then 3 else wr .i64 j1,()),())
def c:Ctr:=⟨198,ps,rs,true,f K⟩
end Q114
namespace Q115
abbrev ps:List PK:=[.iop t76]
abbrev rs:List RK:=[]
abbrev R:=Option (ai rs×ag ps)
abbrev A0:=List (Ty.den t62)×Int×Int×Int×Bool×Bool×Bool×Int×Int×Int×Int×List (Ty.den t2)×List (Ty.den t3)×Int×Int×Int×Bool×List (Ty.den t50)×Int×Int×Int×Int×List (Ty.den t52)×List (Ty.den t12)
def s0 (x:ab ps)(r0:A0->R)(a:A0):R:=bif decide (a.2.2.1<a.2.1) then ((idx a.1 a.2.2.1).bind λ_=>(idx a.1 (FK a.2.2.1:Nat)).bind λy3=>(Q114.f K (y3,())).bind λy4=>bif decide ((wr .i64 (a.2.2.2.2.2.2.2.2.1-y3.2.2.1))<y4.1.1) then (r0 (a.1,a.2.1,wr .i64 (a.2.2.1+1),a.2.2.2)) else ((Q23.f K (a.2.2.2.2.2.2.2.2.2.2.2.1,y3.1,())).bind λy5=>(Q60.f K (zc286a0 a.2.2.2 ((y5.1.1.1,y5.1.1.2.1,3,y5.1.1.2.2.2),a.2.2.2.1,()))).bind λy6=>r0 (a.1,a.2.1,wr .i64 (a.2.2.1+1),(zc3ec45 y6.2.1)))) else (some ((),(zc286a0 a.2.2.2 ())))
def l0 (x:ab ps):A0->R:=ae (s0 K x) K
def pre (N0:A0->R)(x:ab ps):R:=(Q10.f K (x.1.2.2.2.2.2.2.2.2.2.2.2.1,())).bind λy1=>N0 (y1.1.1,(FJ y1.1.1:Int),0,(zc3ec45 x.1))
def f (x:ab ps):R:=pre K (l0 K x) x
def c:Ctr:=⟨130,ps,rs,false,f K⟩
end Q115
namespace Q116
abbrev ps:List PK:=[.rd (.list false 46 t2),.fn [t2] .bool]
abbrev rs:List RK:=[.v (.list true 3 I6)]
abbrev R:=Option (ai rs×ag ps)
abbrev A0:=List (Ty.den I6)×Int
def s0 (K:Nat)(x:ab ps)(r0:A0->R)(a:A0):R:=bif decide (a.2<(FJ x.1:Int)) then ((idx x.1 a.2).bind λy1=>(x.2.1 (y1,())).bind λy2=>bif y2 then (bif decide ((FJ a.1+FJ ([y1.1]))*8<=am) then (r0 (a.1++([y1.1]),wr .i64 (a.2+1))) else none) else (r0 (a.1,wr .i64 (a.2+1)))) else (some ((a.1,()),()))
def l0 (x:ab ps):A0->R:=ae (s0 K x) K
def pre (K:Nat)(N0:A0->R)(x:ab ps):R:=N0 ([],0)
def f (x:ab ps):R:=pre K (l0 K x) x
def c:Ctr:=⟨146,ps,rs,true,f K⟩
end Q116
namespace Q117
abbrev ps:List PK:=[.rref t26,.rd I6]
abbrev rs:List RK:=[.v I6]
abbrev R:=Option (ai rs×ag ps)
def f (x:ab ps):R:=(Q23.f K (x.1.2.2.2.2.2.2.2.2.1,x.2.1,())).bind λy1=>some ((y1.1.1.2.2.1,()),())
def c:Ctr:=⟨220,ps,rs,true,f K⟩
end Q117
namespace Q118
abbrev ps:List PK:=[.rref t26,.rd I6]
abbrev rs:List RK:=[.v .bool]
abbrev R:=Option (ai rs×ag ps)
def f (x:ab ps):R:=(Q117.f K (x.1,x.2.1,())).bind λy1=>(Q13.f K (y1.1.1,1,2,())).bind λy2=>some ((y2.1.1,()),())
def c:Ctr:=⟨148,ps,rs,true,f K⟩
end Q118
namespace Q119
abbrev ps:List PK:=[.rd t2,.rref2 t26,.rref t2]
abbrev rs:List RK:=[.v .bool]
abbrev R:=Option (ai rs×ag ps)
def f (K:Nat)(x:ab ps):R:=bif x.1.2.2.1==1 then (bif x.1.1 != x.2.1.1 then (some ((x.1.1 != x.2.2.1.1,()),())) else (some ((false,()),()))) else (some ((false,()),()))
def c:Ctr:=⟨199,ps,rs,true,f K⟩
end Q119
namespace Q120
abbrev ps:List PK:=[.rd (.list false 3 I6),.rd I6]
abbrev rs:List RK:=[.v (.list true 3 I6)]
abbrev R:=Option (ai rs×ag ps)
def f (x:ab ps):R:=(Q69.f K (x.2.1,0,(FJ x.1:Int),())).bind λy1=>bif decide (0<=0)&&decide (0<=y1.1.1)&&decide (y1.1.1<=(FJ x.1:Int))&&true then ((Q7.f K ((x.1.take (FK y1.1.1)).drop (FK 0),())).bind λy2=>some ((y2.1.1,()),())) else none
def c:Ctr:=⟨200,ps,rs,true,f K⟩
end Q120
namespace Q121
abbrev ps:List PK:=[.iop t76]
abbrev rs:List RK:=[.v (.list true 35 t59)]
abbrev R:=Option (ai rs×ag ps)
abbrev A0:=List (Ty.den t59)×List (Ty.den I6)×Int×Int
def s0 (x:ab ps)(r0:A0->R)(a:A0):R:=let b1:=x.1.2.2.2.2.2.2.2.2;let j1:=(zcp8 x.1 (b1.1,b1.2.1,(b1.2.2.1.1,b1.2.2.1.2.1,b1.2.2.1.2.2.1,true),b1.2.2.2));bif decide (a.2.2.2<a.2.2.1) then ((idx a.2.1 a.2.2.2).bind λ_=>(idx a.2.1 (FK a.2.2.2:Nat)).bind λy8=>(Q65.f K (j1,3,y8,())).bind λy9=>let j2:=[(zcp4 y9.1.1 (b1.2.2.1.2.2.1,b1.2.2.1.1,y9.1.1.2.2.2.2.2.2))];bif decide ((FJ a.1+FJ j2)*104<=am) then (r0 (a.1++j2,a.2.1,a.2.2.1,wr .i64 (a.2.2.2+1))) else none) else (some ((a.1,()),j1,()))
def l0 (x:ab ps):A0->R:=ae (s0 K x) K
def pre (N0:A0->R)(x:ab ps):R:=let b1:=x.1.2.2.2.2.2.2.2.2;let b2:=b1.2.2.1;(Q23.f K (b1.1,b2.1,())).bind λy1=>let j3:R:=some (([],()),x.1,());bif b2.1==(-1) then j3 else ((Q118.f K (x.1,b2.1,())).bind λy2=>let j1:=(zcp8 x.1 (b1.1,b1.2.1,((-1),0,0,false),b1.2.2.2));bif !y2.1.1 then (some (([],()),j1,())) else (let j2:=wr .i64 (x.1.2.2.2.2.2.1-b2.2.1);bif decide (j2>=4) then (bif y1.1.1.2.2.1==1 then ((Q60.f K (j1,(y1.1.1.1,y1.1.1.2.1,2,y1.1.1.2.2.2),x.1.1,())).bind λy3=>some (([],()),y3.2.1,())) else (some (([],()),j1,()))) else (bif decide (j2>=2) then (bif !b2.2.2.2 then ((Q116.f K (b1.1,λy4=>(Q119.f K (y4.1,(zcp8 x.1 (b1.1,b1.2.1,(b2.1,b2.2.1,b2.2.2.1,true),b1.2.2.2)),b2,())).map λy=>y.1.1,())).bind λy5=>(Q120.f K (y5.1.1,2,())).bind λy6=>N0 ([],y6.1.1,(FJ y6.1.1:Int),0)) else j3) else j3)))
def f (x:ab ps):R:=pre K (l0 K x) x
def c:Ctr:=⟨131,ps,rs,false,f K⟩
end Q121
namespace Q122
abbrev ps:List PK:=[.io (.list true 3 I6),.rd I6,.rd I6,.fn [I6,I6] I6]
abbrev rs:List RK:=[]
abbrev R:=Option (ai rs×ag ps)
abbrev A1:=List (Ty.den I6)×Int×Int
abbrev A0:=List (Ty.den I6)×Int
def s1 (K:Nat)(x:ab ps)(r0:A0->R)(r1:A1->R)(a:A1):R:=bif decide (a.2.2>x.2.1) then ((idx a.1 a.2.2).bind λ_=>(idx a.1 (FK a.2.2:Nat)).bind λy2=>(idx a.1 (wr .i64 (a.2.2-1))).bind λ_=>let j1:=(FK (wr .i64 (a.2.2-1)):Nat);(idx a.1 j1).bind λy4=>(x.2.2.2.1 (y2,y4,())).bind λy5=>bif decide (y5<0) then ((idx a.1 (wr .i64 (a.2.2-1))).bind λ_=>(idx a.1 j1).bind λy7=>(idx a.1 a.2.2).bind λ_=>(idx a.1 (FK a.2.2:Nat)).bind λy9=>(idx a.1 a.2.2).bind λ_=>(idx a.1 (FK a.2.2:Nat)).bind λy11=>let j2:=a.1.set (FK a.2.2) y7;(idx j2 (wr .i64 (a.2.2-1))).bind λ_=>(idx j2 j1).bind λy13=>r1 (j2.set (FK (wr .i64 (a.2.2-1))) y9,a.2.1,wr .i64 (a.2.2-1))) else (r0 (a.1,wr .i64 (a.2.1+1)))) else (r0 (a.1,wr .i64 (a.2.1+1)))
def l1 (x:ab ps)(r0:A0->R):A1->R:=ae (s1 K x r0) K
def s0 (K:Nat)(x:ab ps)(N1:A1->R)(r0:A0->R)(a:A0):R:=bif decide (a.2<x.2.2.1) then (N1 (a.1,a.2,a.2)) else (some ((),a.1,()))
def l0 (x:ab ps):A0->R:=ae (λr0 a=>s0 K x (l1 K x r0) r0 a) K
def pre (K:Nat)(N0:A0->R)(x:ab ps):R:=N0 (x.1,wr .i64 (x.2.1+1))
def f (x:ab ps):R:=pre K (l0 K x) x
def c:Ctr:=⟨330,ps,rs,true,f K⟩
def G (K:Nat):List Ctr:=[]
def v1:List (Nat×List Coe):=[(0,[.own false 3 I6]),(1,[.keep]),(2,[.keep]),(3,[.keep]),(8,[.keep]),(9,[.keep])]
def v0:List (Nat×List Coe):=[(0,[.own false 3 I6]),(1,[.keep]),(2,[.keep]),(3,[.keep]),(8,[.keep])]
def L:List (Nat×List (Nat×List Coe)):=[(5,v1),(2,v0)]
def body:Code:=cY Tryz.f330
abbrev ev:Code->St->(Ex->St->R)->R:=evK (G K) T_S L K
abbrev fin:Ex->St->R:=du T_S ps rs true Tryz.f330.results.toList
def S0 (x:ab ps)(a:A0):St:=av [(0,⟨0,.one,[.own false none 3 I6 a.1]⟩),(1,⟨0,.one,[.int .i64 x.2.1]⟩),(2,⟨0,.one,[.int .i64 x.2.2.1]⟩),(3,⟨0,.one,[.fn [I6,I6] I6 x.2.2.2.1]⟩),(8,⟨0,.one,[.int .i64 a.2]⟩)]
def S1 (x:ab ps)(a:A1):St:=av [(0,⟨0,.one,[.own false none 3 I6 a.1]⟩),(1,⟨0,.one,[.int .i64 x.2.1]⟩),(2,⟨0,.one,[.int .i64 x.2.2.1]⟩),(3,⟨0,.one,[.fn [I6,I6] I6 x.2.2.2.1]⟩),(8,⟨0,.one,[.int .i64 a.2.1]⟩),(9,⟨0,.one,[.int .i64 a.2.2]⟩)]
def k0 (x:ab ps):Ex->St->R:=kAt (ev K) body [1,0] fin
def N0 (x:ab ps):A0->R:=λa=>aY v0 (ev K (sub body [1,0,0])) K (S0 x a) (k0 K x)
def k1 (x:ab ps)(q0:St->R):Ex->St->R:=kAt (ev K) (sub body [1,0,0]) [1,0,0,1,0] (iq v0 q0 (k0 K x))
def N1 (x:ab ps)(q0:St->R):A1->R:=λa=>aY v1 (ev K (sub body [1,0,0,1,0,0,1,0,0])) K (S1 x a) (k1 K x q0)
end Q122
namespace Q123
abbrev ps:List PK:=[.io (.list true 3 I6),.rd I6,.fn [I6,I6] I6]
abbrev rs:List RK:=[]
abbrev Res:=ai rs×ag ps
abbrev R:=Option Res
abbrev A2:=List (Ty.den I6)×Int×Int
abbrev A1:=List (Ty.den I6)×Int
abbrev A0:=List (Ty.den I6)×Int×Int
def s2 (K:Nat)(x:ab ps)(r1:A1->R)(r2:A2->R)(a:A2):R:=bif decide (a.2.2<=x.2.1) then none else (bif decide ((wr .i64 (0+a.2.1))<x.2.1) then none else (r1 (a.1,wr .i64 (a.2.1*2))))
def l2 (x:ab ps)(r1:A1->R):A2->R:=ae (s2 K x r1) K
def s1 (K:Nat)(x:ab ps)(N2:A2->R)(r1:A1->R)(a:A1):R:=bif decide (a.2<x.2.1) then (N2 (a.1,a.2,wr .i64 (2*a.2))) else (some ((),a.1,()))
def l1 (x:ab ps):A1->R:=ae (λr1 a=>s1 K x (l2 K x r1) r1 a) K
def s0 (x:ab ps)(N1:A1->R)(r0:A0->R)(a:A0):R:=bif decide (a.2.2<=x.2.1) then ((Q122.f K (a.1,a.2.1,a.2.2,x.2.2.1,())).bind λy1=>r0 (y1.2.1,a.2.2,wr .i64 (a.2.2+20))) else ((Q122.f K (a.1,a.2.1,x.2.1,x.2.2.1,())).bind λy2=>N1 (y2.2.1,20))
def l0 (x:ab ps):A0->R:=ae (s0 K x (l1 K x)) K
def pre (K:Nat)(N0:A0->R)(x:ab ps):R:=N0 (x.1,0,20)
def f (x:ab ps):R:=pre K (l0 K x) x
def c:Ctr:=⟨318,ps,rs,true,f K⟩
def G:List Ctr:=[Q122.c K]
def v2:List (Nat×List Coe):=[(0,[.own false 3 I6]),(1,[.keep]),(2,[.keep]),(6,[.keep]),(7,[.keep]),(8,[.keep])]
def v1:List (Nat×List Coe):=[(0,[.own false 3 I6]),(1,[.keep]),(2,[.keep]),(6,[.keep])]
def v0:List (Nat×List Coe):=[(0,[.own false 3 I6]),(1,[.keep]),(2,[.keep]),(6,[.keep]),(7,[.keep]),(8,[.keep])]
def L:List (Nat×List (Nat×List Coe)):=[(10,v2),(8,v1),(3,v0)]
def body:Code:=cY Tryz.f318
abbrev ev:Code->St->(Ex->St->R)->R:=evK (G K) T_S L K
abbrev fin:Ex->St->R:=du T_S ps rs true Tryz.f318.results.toList
def S0 (x:ab ps)(a:A0):St:=av [(0,⟨0,.one,[.own false none 3 I6 a.1]⟩),(1,⟨0,.one,[.int .i64 x.2.1]⟩),(2,⟨0,.one,[.fn [I6,I6] I6 x.2.2.1]⟩),(6,⟨0,.one,[.int .i64 20]⟩),(7,⟨0,.one,[.int .i64 a.2.1]⟩),(8,⟨0,.one,[.int .i64 a.2.2]⟩)]
def S1 (x:ab ps)(a:A1):St:=av [(0,⟨0,.one,[.own false none 3 I6 a.1]⟩),(1,⟨0,.one,[.int .i64 x.2.1]⟩),(2,⟨0,.one,[.fn [I6,I6] I6 x.2.2.1]⟩),(6,⟨0,.one,[.int .i64 a.2]⟩)]
def S2 (x:ab ps)(a:A2):St:=av [(0,⟨0,.one,[.own false none 3 I6 a.1]⟩),(1,⟨0,.one,[.int .i64 x.2.1]⟩),(2,⟨0,.one,[.fn [I6,I6] I6 x.2.2.1]⟩),(6,⟨0,.one,[.int .i64 a.2.1]⟩),(7,⟨0,.one,[.int .i64 0]⟩),(8,⟨0,.one,[.int .i64 a.2.2]⟩)]
def k0 (x:ab ps):Ex->St->R:=kAt (ev K) body [1,1,0,0] fin
def N0 (x:ab ps):A0->R:=λa=>aY v0 (ev K (sub body [1,1,0,0,0])) K (S0 x a) (k0 K x)
def k1 (x:ab ps):Ex->St->R:=kAt (ev K) body [1,1,1,1,0] fin
def N1 (x:ab ps):A1->R:=λa=>aY v1 (ev K (sub body [1,1,1,1,0,0])) K (S1 x a) (k1 K x)
def k2 (x:ab ps)(q1:St->R):Ex->St->R:=kAt (ev K) (sub body [1,1,1,1,0,0]) [1,0,1,0,0] (iq v1 q1 (k1 K x))
def N2 (x:ab ps)(q1:St->R):A2->R:=λa=>aY v2 (ev K (sub body [1,1,1,1,0,0,1,0,1,0,0,0])) K (S2 x a) (k2 K x q1)
end Q123
namespace Q124
abbrev ps:List PK:=[.io (.list true 3 I6),.fn [I6,I6] I6]
abbrev rs:List RK:=[]
abbrev R:=Option (ai rs×ag ps)
def f (x:ab ps):R:=(Q123.f K (x.1,(FJ x.1:Int),x.2.1,())).bind λy1=>some ((),y1.2.1,())
def c:Ctr:=⟨285,ps,rs,true,f K⟩
end Q124
namespace Q125
abbrev ps:List PK:=[.rd I6,.rd I6,.rref (.list false 133 t3)]
abbrev rs:List RK:=[.v I6]
abbrev R:=Option (ai rs×ag ps)
def f (K:Nat)(x:ab ps):R:=(idx x.2.2.1 x.2.1).bind λy1=>(idx x.2.2.1 x.1).bind λy2=>some ((wr .i64 (y1.2-y2.2),()),())
def c:Ctr:=⟨286,ps,rs,true,f K⟩
end Q125
namespace Q126
abbrev ps:List PK:=[.rd t3]
abbrev rs:List RK:=[.v .bool]
abbrev R:=Option (ai rs×ag ps)
def f (K:Nat)(x:ab ps):R:=some ((x.1.2==0,()),())
def c:Ctr:=⟨289,ps,rs,true,f K⟩
end Q126
namespace Q127
abbrev ps:List PK:=[.rd (.list false 133 t3),.rd I6]
abbrev rs:List RK:=[.v (.list true 46 t2),.v (.list true 133 t3)]
abbrev R:=Option (ai rs×ag ps)
abbrev A1:=List (Ty.den t3)×List (Ty.den I6)×List (Ty.den t2)×Int×Int
abbrev A0:=List (Ty.den I6)×Int
def s1 (x:ab ps)(r1:A1->R)(a:A1):R:=bif decide (a.2.2.2.2<a.2.2.2.1) then ((idx a.2.1 a.2.2.2.2).bind λ_=>(idx a.2.1 (FK a.2.2.2.2:Nat)).bind λy10=>(idx a.1 y10).bind λ_=>(idx a.1 (FK y10:Nat)).bind λy12=>bif decide ((FJ a.2.2.1+FJ ([y12.1]))*32<=am) then ((idx a.1 y10).bind λ_=>(idx a.1 (FK y10:Nat)).bind λy14=>(idx a.1 y10).bind λ_=>(idx a.1 (FK y10:Nat)).bind λy16=>r1 (a.1.set (FK y10) (y16.1,wr .i64 (y14.2-1)),a.2.1,a.2.2.1++([y12.1]),a.2.2.2.1,wr .i64 (a.2.2.2.2+1))) else none) else ((Q11.f K (a.1,λy17=>(Q126.f K (y17.1,())).map λy=>y.1.1,())).bind λy18=>some ((a.2.2.1,y18.1.1,()),()))
def l1 (x:ab ps):A1->R:=ae (s1 K x) K
def s0 (x:ab ps)(N1:A1->R)(r0:A0->R)(a:A0):R:=bif decide (a.2<(FJ (FN (FK (FJ x.1:Int)) (0:Ty.den I6)):Int)) then ((idx a.1 a.2).bind λ_=>(idx a.1 (FK a.2:Nat)).bind λy3=>r0 (a.1.set (FK a.2) a.2,wr .i64 (a.2+1))) else ((Q124.f K (a.1,λy4=>(Q125.f K (y4.1,y4.2.1,x.1,())).map λy=>y.1.1,())).bind λy5=>(Q2.f K (x.1,())).bind λy6=>(Q120.f K (y5.2.1,x.2.1,())).bind λy7=>(Q83.f K (y7.1.1,())).bind λy8=>N1 (y6.1.1,y8.2.1,[],(FJ y8.2.1:Int),0))
def l0 (x:ab ps):A0->R:=ae (s0 K x (l1 K x)) K
def pre (N0:A0->R)(x:ab ps):R:=(Q34.f K (x.1,())).bind λy1=>bif !y1.1.1 then (some (([],[],()),())) else (bif decide (0<=(FJ x.1:Int))&&decide ((FJ x.1:Int)=(FJ x.1:Int))&&decide ((FJ x.1:Int)*(8:Nat)<=am) then (N0 (FN (FK (FJ x.1:Int)) (0:Ty.den I6),0)) else none)
def f (x:ab ps):R:=pre K (l0 K x) x
def c:Ctr:=⟨244,ps,rs,true,f K⟩
def G:List Ctr:=[Q34.c K,Q2.c K,Q120.c K,Q124.c K,Q125.c K,Q83.c K,Q11.c K,Q126.c K]
def v1:List (Nat×List Coe):=[(8,[.own false 133 t3]),(9,[.own false 3 I6]),(10,[.own false 46 t2]),(39,[.keep]),(40,[.keep]),(41,[.keep])]
def v0:List (Nat×List Coe):=[(1,[.keep]),(2,[.keep]),(6,[.own false 3 I6]),(20,[.keep]),(21,[.keep]),(100002,[.ro true 133 t3])]
def L:List (Nat×List (Nat×List Coe)):=[(16,v1),(6,v0)]
def body:Code:=cY Tryz.f244
abbrev ev:Code->St->(Ex->St->R)->R:=evK (G K) T_NL L K
abbrev fin:Ex->St->R:=du T_NL ps rs true Tryz.f244.results.toList
def S0 (x:ab ps)(a:A0):St:=av [(1,⟨0,.one,[.int .i64 x.2.1]⟩),(2,⟨0,.one,[.bp 100002 0]⟩),(6,⟨0,.one,[.own false none 3 I6 a.1]⟩),(20,⟨0,.one,[.int .i64 (FJ (FN (FK (FJ x.1:Int)) (0:Ty.den I6)):Int)]⟩),(21,⟨0,.one,[.int .i64 a.2]⟩),(100002,⟨0,.agg,[.ro true 133 t3 x.1]⟩)]
def S1 (x:ab ps)(a:A1):St:=av [(8,⟨0,.one,[.own false none 133 t3 a.1]⟩),(9,⟨0,.one,[.own false none 3 I6 a.2.1]⟩),(10,⟨0,.one,[.own false none 46 t2 a.2.2.1]⟩),(39,⟨0,.one,[.al 9 0 0]⟩),(40,⟨0,.one,[.int .i64 a.2.2.2.1]⟩),(41,⟨0,.one,[.int .i64 a.2.2.2.2]⟩)]
def k0 (x:ab ps):Ex->St->R:=kAt (ev K) body [1,1,1,0,1,0] fin
def N0 (x:ab ps):A0->R:=λa=>aY v0 (ev K (sub body [1,1,1,0,1,0,0])) K (S0 x a) (k0 K x)
def k1 (x:ab ps):Ex->St->R:=kAt (ev K) body [1,1,1,1,1,1,1,1,1,0,1,0] fin
def N1 (x:ab ps):A1->R:=λa=>aY v1 (ev K (sub body [1,1,1,1,1,1,1,1,1,0,1,0,0])) K (S1 x a) (k1 K x)
end Q127
end
end Go.Proofs.YtmibehbhnkeaiaaGreatEv
