import Derived.Test.YtmibehbhnkeaiaaGreatProg
import Derived.Test.YtmibehbhnkeaiaaGreatE0
set_option linter.unusedVariables false
set_option maxRecDepth 100000
set_option linter.unusedSimpArgs false
open Int renaming toNat->FK,tdiv->FL,fdiv->FM
open List renaming length->FJ,replicate->FN
namespace Go.Proofs.YtmibehbhnkeaiaaGreatEv
open Go Go.Proofs
noncomputable section
variable (K:Nat)
abbrev I6:Ty:=.int .i64
abbrev t0:Ty:=.pair I6 .bool
abbrev t1:Ty:=.pair I6 t0
abbrev t2:Ty:=.pair I6 t1
abbrev t3:Ty:=.pair t2 I6
abbrev t4:Ty:=.pair I6 (.list false 3 I6)
abbrev t5:Ty:=.pair I6 t4
abbrev t6:Ty:=.pair I6 t5
abbrev t7:Ty:=.pair I6 I6
abbrev t8:Ty:=.pair I6 t7
abbrev t9:Ty:=.pair I6 t8
abbrev t10:Ty:=.pair t9 (.list false 3 I6)
abbrev t11:Ty:=.pair I6 t10
abbrev t12:Ty:=.pair I6 (.list false 46 t2)
abbrev t13:Ty:=.pair (.list false 89 t11) (.list false 91 t12)
abbrev t14:Ty:=.pair t9 t13
abbrev t15:Ty:=.pair (.list false 86 t6) t14
abbrev t16:Ty:=.pair t2 t15
abbrev t17:Ty:=.pair (.list false 133 t3) t16
abbrev t18:Ty:=.pair (.list false 46 t2) t17
abbrev t19:Ty:=.pair I6 t18
abbrev t20:Ty:=.pair I6 t19
abbrev t21:Ty:=.pair I6 t20
abbrev t22:Ty:=.pair I6 t21
abbrev t23:Ty:=.pair .bool t22
abbrev t24:Ty:=.pair .bool t23
abbrev t25:Ty:=.pair .bool t24
abbrev t26:Ty:=.pair I6 t25
abbrev t27:Ty:=.pair (.list true 86 t6) t14
abbrev t28:Ty:=.pair t2 t27
abbrev t29:Ty:=.pair (.list false 133 t3) t28
abbrev t30:Ty:=.pair (.list false 46 t2) t29
abbrev t31:Ty:=.pair I6 t30
abbrev t32:Ty:=.pair I6 t31
abbrev t33:Ty:=.pair I6 t32
abbrev t34:Ty:=.pair I6 t33
abbrev t35:Ty:=.pair .bool t34
abbrev t36:Ty:=.pair .bool t35
abbrev t37:Ty:=.pair .bool t36
abbrev t38:Ty:=.pair I6 t37
abbrev t39:Ty:=.pair .str .bool
abbrev t40:Ty:=.pair I6 t39
abbrev t41:Ty:=.pair t9 (.list false 46 t2)
abbrev t42:Ty:=.pair I6 t41
abbrev t43:Ty:=.pair I6 t42
abbrev t44:Ty:=.pair I6 t43
abbrev t45:Ty:=.pair I6 t44
abbrev t46:Ty:=.pair I6 t45
abbrev t47:Ty:=.pair I6 t46
abbrev t48:Ty:=.pair I6 (.list true 3 I6)
abbrev t49:Ty:=.pair I6 t48
abbrev t50:Ty:=.pair I6 t49
abbrev t51:Ty:=.pair t9 (.list true 3 I6)
abbrev t52:Ty:=.pair I6 t51
abbrev t53:Ty:=.pair (.list true 89 t52) (.list true 91 t12)
abbrev t54:Ty:=.pair t9 t53
abbrev t55:Ty:=.pair (.list true 86 t50) t54
abbrev t56:Ty:=.pair t2 t55
abbrev t57:Ty:=.pair (.list true 133 t3) t56
abbrev t58:Ty:=.pair (.list true 46 t2) t57
abbrev t59:Ty:=.pair I6 t58
abbrev t60:Ty:=.pair I6 t59
abbrev t61:Ty:=.pair I6 t60
abbrev t62:Ty:=.pair I6 t61
abbrev t63:Ty:=.pair .bool t62
abbrev t64:Ty:=.pair .bool t63
abbrev t65:Ty:=.pair .bool t64
abbrev t66:Ty:=.pair I6 t65
abbrev t67:Ty:=.pair t9 (.list true 46 t2)
abbrev t68:Ty:=.pair I6 t67
abbrev t69:Ty:=.pair I6 t68
abbrev t70:Ty:=.pair I6 t69
abbrev t71:Ty:=.pair I6 t70
abbrev t72:Ty:=.pair I6 t71
abbrev t73:Ty:=.pair I6 t72
abbrev t74:Ty:=.pair (.list false 5 (.int .u8)) I6
abbrev t75:Ty:=.pair (.list true 89 t11) (.list true 91 t12)
abbrev t76:Ty:=.pair t9 t75
abbrev t77:Ty:=.pair (.list true 86 t6) t76
abbrev t78:Ty:=.pair t2 t77
abbrev t79:Ty:=.pair (.list true 133 t3) t78
abbrev t80:Ty:=.pair (.list true 46 t2) t79
abbrev t81:Ty:=.pair I6 t80
abbrev t82:Ty:=.pair I6 t81
abbrev t83:Ty:=.pair I6 t82
abbrev t84:Ty:=.pair I6 t83
abbrev t85:Ty:=.pair .bool t84
abbrev t86:Ty:=.pair .bool t85
abbrev t87:Ty:=.pair .bool t86
abbrev t88:Ty:=.pair I6 t87
abbrev t89:Ty:=.pair (.list false 3 I6) (.list false 46 t2)
abbrev t90:Ty:=.pair (.list false 121 t40) t89
abbrev t91:Ty:=.pair (.list false 33 t26) t90
abbrev t92:Ty:=.pair (.list true 3 I6) (.list false 46 t2)
abbrev t93:Ty:=.pair (.list true 121 t40) t92
abbrev t94:Ty:=.pair (.list true 33 t38) t93
abbrev t95:Ty:=.pair (.list true 33 t26) t93
abbrev ty_impl_Coord_D:Ty:=t9
abbrev ty_impl_Fact_D:Ty:=t2
def Tl_D:List (TypeId×TI):=[(38,.slice 35 t73 104)]
def T_D (t:TypeId):TI:=gJ Tl_D t
def Tl_ND:List (TypeId×TI):=[(3,.int .i64),(23,.slice 46 t2 32),(24,.slice 133 t3 40),(27,.slice 86 t6 48),(30,.slice 89 t11 64),(31,.slice 91 t12 32),(33,.struct t88 [(0,1,false),(1,1,false),(2,1,false),(3,1,false),(4,1,false),(5,1,false),(6,1,false),(7,1,false),(8,1,false),(9,1,false),(10,4,true),(14,1,false),(15,4,true),(19,1,false),(20,1,false)]),(67,.slice 3 I6 8),(86,.struct t6 [(0,1,false),(1,1,false),(2,1,false),(3,1,false)]),(89,.struct t11 [(0,1,false),(1,4,true),(5,1,false)]),(91,.struct t12 [(0,1,false),(1,1,false)])]
def T_ND (t:TypeId):TI:=gJ Tl_ND t
def Tl_NL:List (TypeId×TI):=[(3,.int .i64),(4,.bool),(5,.int .u8),(9,.str),(22,.slice 5 (.int .u8) 1),(23,.slice 46 t2 32),(24,.slice 133 t3 40),(26,.struct t2 [(0,1,false),(1,1,false),(2,1,false),(3,1,false)]),(27,.slice 86 t50 48),(29,.struct t9 [(0,1,false),(1,1,false),(2,1,false),(3,1,false)]),(30,.slice 89 t52 64),(31,.slice 91 t12 32),(33,.struct t66 [(0,1,false),(1,1,false),(2,1,false),(3,1,false),(4,1,false),(5,1,false),(6,1,false),(7,1,false),(8,1,false),(9,1,false),(10,4,true),(14,1,false),(15,4,true),(19,1,false),(20,1,false)]),(35,.struct t73 [(0,1,false),(1,1,false),(2,1,false),(3,1,false),(4,1,false),(5,1,false),(6,4,true),(10,1,false)]),(38,.slice 35 t73 104),(46,.struct t2 [(0,1,false),(1,1,false),(2,1,false),(3,1,false)]),(67,.slice 3 I6 8),(75,.ptr),(77,.fn),(81,.fn),(86,.struct t50 [(0,1,false),(1,1,false),(2,1,false),(3,1,false)]),(89,.struct t52 [(0,1,false),(1,4,true),(5,1,false)]),(91,.struct t12 [(0,1,false),(1,1,false)]),(131,.fn),(133,.struct t3 [(0,4,true),(4,1,false)]),(137,.fn),(138,.fn),(143,.fn),(171,.fn),(177,.fn),(190,.int .u64),(204,.fn),(206,.fn),(224,.arr I6 2),(225,.arr t7 4),(240,.int .u32),(242,.int .u64),(266,.ptr)]
def T_NL (t:TypeId):TI:=gJ Tl_NL t
def Tl_NS:List (TypeId×TI):=[(3,.int .i64),(4,.bool),(5,.int .u8),(9,.str),(22,.slice 5 (.int .u8) 1),(23,.slice 46 t2 32),(24,.slice 133 t3 40),(26,.struct t2 [(0,1,false),(1,1,false),(2,1,false),(3,1,false)]),(27,.slice 86 t6 48),(29,.struct t9 [(0,1,false),(1,1,false),(2,1,false),(3,1,false)]),(30,.slice 89 t11 64),(31,.slice 91 t12 32),(33,.struct t38 [(0,1,false),(1,1,false),(2,1,false),(3,1,false),(4,1,false),(5,1,false),(6,1,false),(7,1,false),(8,1,false),(9,1,false),(10,4,true),(14,1,false),(15,4,true),(19,1,false),(20,1,false)]),(35,.struct t47 [(0,1,false),(1,1,false),(2,1,false),(3,1,false),(4,1,false),(5,1,false),(6,4,true),(10,1,false)]),(38,.slice 35 t47 104),(46,.struct t2 [(0,1,false),(1,1,false),(2,1,false),(3,1,false)]),(65,.slice 33 t38 232),(66,.slice 121 t40 32),(67,.slice 3 I6 8),(69,.struct t94 [(0,1,false),(1,1,false),(2,1,false),(3,1,false)]),(86,.struct t6 [(0,1,false),(1,1,false),(2,1,false),(3,1,false)]),(89,.struct t11 [(0,1,false),(1,4,true),(5,1,false)]),(91,.struct t12 [(0,1,false),(1,1,false)]),(121,.struct t40 [(0,1,false),(1,1,false),(2,1,false)]),(151,.struct t2 [(0,1,false),(1,1,false),(2,1,false),(3,1,false)])]
def T_NS (t:TypeId):TI:=gJ Tl_NS t
def Tl_NT:List (TypeId×TI):=[(3,.int .i64),(4,.bool),(23,.slice 46 t2 32),(33,.struct t26 [(0,1,false),(1,1,false),(2,1,false),(3,1,false),(4,1,false),(5,1,false),(6,1,false),(7,1,false),(8,1,false),(9,1,false),(10,4,true),(14,1,false),(15,4,true),(19,1,false),(20,1,false)]),(38,.slice 35 t47 104),(46,.struct t2 [(0,1,false),(1,1,false),(2,1,false),(3,1,false)]),(65,.slice 33 t26 232),(67,.slice 3 I6 8),(69,.struct t95 [(0,1,false),(1,1,false),(2,1,false),(3,1,false)]),(151,.struct t2 [(0,1,false),(1,1,false),(2,1,false),(3,1,false)])]
def T_NT (t:TypeId):TI:=gJ Tl_NT t
def Tl_S:List (TypeId×TI):=[(3,.int .i64),(4,.bool),(5,.int .u8),(9,.str),(22,.slice 5 (.int .u8) 1),(23,.slice 46 t2 32),(24,.slice 133 t3 40),(26,.struct t2 [(0,1,false),(1,1,false),(2,1,false),(3,1,false)]),(27,.slice 86 t6 48),(29,.struct t9 [(0,1,false),(1,1,false),(2,1,false),(3,1,false)]),(30,.slice 89 t11 64),(31,.slice 91 t12 32),(33,.struct t26 [(0,1,false),(1,1,false),(2,1,false),(3,1,false),(4,1,false),(5,1,false),(6,1,false),(7,1,false),(8,1,false),(9,1,false),(10,4,true),(14,1,false),(15,4,true),(19,1,false),(20,1,false)]),(35,.struct t47 [(0,1,false),(1,1,false),(2,1,false),(3,1,false),(4,1,false),(5,1,false),(6,4,true),(10,1,false)]),(38,.slice 35 t47 104),(46,.struct t2 [(0,1,false),(1,1,false),(2,1,false),(3,1,false)]),(59,.slice 4 .bool 1),(63,.ptr),(65,.slice 33 t26 232),(66,.slice 121 t40 32),(67,.slice 3 I6 8),(69,.struct t91 [(0,1,false),(1,1,false),(2,1,false),(3,1,false)]),(86,.struct t6 [(0,1,false),(1,1,false),(2,1,false),(3,1,false)]),(89,.struct t11 [(0,1,false),(1,4,true),(5,1,false)]),(91,.struct t12 [(0,1,false),(1,1,false)]),(111,.struct t74 [(0,1,false),(1,1,false)]),(112,.slice 151 t2 32),(121,.struct t40 [(0,1,false),(1,1,false),(2,1,false)]),(133,.struct t3 [(0,4,true),(4,1,false)]),(137,.fn),(151,.struct t2 [(0,1,false),(1,1,false),(2,1,false),(3,1,false)]),(160,.slice 9 .str 16),(190,.int .u64),(233,.int .i64)]
def T_S (t:TypeId):TI:=gJ Tl_S t
def w0 (n:Ty.den t26):List Leaf:=[.int .i64 n.1,.bool n.2.1,.bool n.2.2.1,.bool n.2.2.2.1,.int .i64 n.2.2.2.2.1,.int .i64 n.2.2.2.2.2.1,.int .i64 n.2.2.2.2.2.2.1,.int .i64 n.2.2.2.2.2.2.2.1,.ro true 46 t2 n.2.2.2.2.2.2.2.2.1,.ro true 133 t3 n.2.2.2.2.2.2.2.2.2.1,.int .i64 n.2.2.2.2.2.2.2.2.2.2.1.1,.int .i64 n.2.2.2.2.2.2.2.2.2.2.1.2.1,.int .i64 n.2.2.2.2.2.2.2.2.2.2.1.2.2.1,.bool n.2.2.2.2.2.2.2.2.2.2.1.2.2.2,.ro true 86 t6 n.2.2.2.2.2.2.2.2.2.2.2.1,.int .i64 n.2.2.2.2.2.2.2.2.2.2.2.2.1.1,.int .i64 n.2.2.2.2.2.2.2.2.2.2.2.2.1.2.1,.int .i64 n.2.2.2.2.2.2.2.2.2.2.2.2.1.2.2.1,.int .i64 n.2.2.2.2.2.2.2.2.2.2.2.2.1.2.2.2,.ro true 89 t11 n.2.2.2.2.2.2.2.2.2.2.2.2.2.1,.ro true 91 t12 n.2.2.2.2.2.2.2.2.2.2.2.2.2.2]
def w1 (n:Ty.den t2):List Leaf:=[.int .i64 n.1,.int .i64 n.2.1,.int .i64 n.2.2.1,.bool n.2.2.2]
def w2 (n:Ty.den t26):List Leaf:=[.int .i64 n.1,.bool n.2.1,.bool n.2.2.1,.bool n.2.2.2.1,.int .i64 n.2.2.2.2.1,.int .i64 n.2.2.2.2.2.1,.int .i64 n.2.2.2.2.2.2.1,.int .i64 n.2.2.2.2.2.2.2.1,.ro true 46 t2 n.2.2.2.2.2.2.2.2.1,.ro true 133 t3 n.2.2.2.2.2.2.2.2.2.1,.int .i64 n.2.2.2.2.2.2.2.2.2.2.1.1,.int .i64 n.2.2.2.2.2.2.2.2.2.2.1.2.1,.int .i64 n.2.2.2.2.2.2.2.2.2.2.1.2.2.1,.bool n.2.2.2.2.2.2.2.2.2.2.1.2.2.2,.own true none 86 t6 n.2.2.2.2.2.2.2.2.2.2.2.1,.int .i64 n.2.2.2.2.2.2.2.2.2.2.2.2.1.1,.int .i64 n.2.2.2.2.2.2.2.2.2.2.2.2.1.2.1,.int .i64 n.2.2.2.2.2.2.2.2.2.2.2.2.1.2.2.1,.int .i64 n.2.2.2.2.2.2.2.2.2.2.2.2.1.2.2.2,.ro true 89 t11 n.2.2.2.2.2.2.2.2.2.2.2.2.2.1,.ro true 91 t12 n.2.2.2.2.2.2.2.2.2.2.2.2.2.2]
def w3 (n:Ty.den t47):List Leaf:=[.int .i64 n.1,.int .i64 n.2.1,.int .i64 n.2.2.1,.int .i64 n.2.2.2.1,.int .i64 n.2.2.2.2.1,.int .i64 n.2.2.2.2.2.1,.int .i64 n.2.2.2.2.2.2.1.1,.int .i64 n.2.2.2.2.2.2.1.2.1,.int .i64 n.2.2.2.2.2.2.1.2.2.1,.int .i64 n.2.2.2.2.2.2.1.2.2.2,.ro true 46 t2 n.2.2.2.2.2.2.2]
def w4 (n:Ty.den t91):List Leaf:=[.ro true 33 t26 n.1,.ro true 121 t40 n.2.1,.ro true 3 I6 n.2.2.1,.ro true 46 t2 n.2.2.2]
def wa0 (n:Int×Int×Int×List (Ty.den I6)):List Leaf:=[.int .i64 n.1,.int .i64 n.2.1,.int .i64 n.2.2.1,.ro true 3 I6 n.2.2.2]
def wa2 {R:Type}(n:Int×Bool×Bool×Bool×Int×Int×Int×Int×List (Ty.den t2)×List (Ty.den t3)×Int×Int×Int×Bool×List (Ty.den t50)×Int×Int×Int×Int×List (Ty.den t52)×List (Ty.den t12)×R):List Leaf:=[.int .i64 n.1,.bool n.2.1,.bool n.2.2.1,.bool n.2.2.2.1,.int .i64 n.2.2.2.2.1,.int .i64 n.2.2.2.2.2.1,.int .i64 n.2.2.2.2.2.2.1,.int .i64 n.2.2.2.2.2.2.2.1,.own false none 46 t2 n.2.2.2.2.2.2.2.2.1,.own false none 133 t3 n.2.2.2.2.2.2.2.2.2.1,.int .i64 n.2.2.2.2.2.2.2.2.2.2.1,.int .i64 n.2.2.2.2.2.2.2.2.2.2.2.1,.int .i64 n.2.2.2.2.2.2.2.2.2.2.2.2.1,.bool n.2.2.2.2.2.2.2.2.2.2.2.2.2.1,.own false none 86 t50 n.2.2.2.2.2.2.2.2.2.2.2.2.2.2.1,.int .i64 n.2.2.2.2.2.2.2.2.2.2.2.2.2.2.2.1,.int .i64 n.2.2.2.2.2.2.2.2.2.2.2.2.2.2.2.2.1,.int .i64 n.2.2.2.2.2.2.2.2.2.2.2.2.2.2.2.2.2.1,.int .i64 n.2.2.2.2.2.2.2.2.2.2.2.2.2.2.2.2.2.2.1,.own false none 89 t52 n.2.2.2.2.2.2.2.2.2.2.2.2.2.2.2.2.2.2.2.1,.own true none 91 t12 n.2.2.2.2.2.2.2.2.2.2.2.2.2.2.2.2.2.2.2.2.1]
def wa3 (n:Int×Int×Int×Bool):List Leaf:=[.int .i64 n.1,.int .i64 n.2.1,.int .i64 n.2.2.1,.bool n.2.2.2]
def wa8 (n:List (Ty.den t26)×List (Ty.den t40)×List (Ty.den I6)×List (Ty.den t2)):List Leaf:=[.ro false 33 t26 n.1,.ro false 121 t40 n.2.1,.ro false 3 I6 n.2.2.1,.ro false 46 t2 n.2.2.2]
theorem evl {A R:Type}{live:List (Nat×List Coe)}{e:St->(Ex->St->Option R)->Option R}{k:Ex->St->Option R}{S:A->St}{step:(A->Option R)->A->Option R}{K:Nat}(h:∀ r a,e (S a) (iq live r k)=step (λa=>r (S a)) a):(λa=>aY live e K (S a) k)=ae step K:=funext λa=>lK live e k S step h K a
abbrev zc3ec45 {A0 A1 A2 A3 A4 A5 A6 A7 A8 A9 A10 A11 A12 A13 A14 A15 A16 A17 A18 A19:Type}(a:A0×A1×A2×A3×A4×A5×A6×A7×A8×A9×(A10×A11×A12×A13)×A14×(A15×A16×A17×A18)×A19):=(a.1,a.2.1,a.2.2.1,a.2.2.2.1,a.2.2.2.2.1,a.2.2.2.2.2.1,a.2.2.2.2.2.2.1,a.2.2.2.2.2.2.2.1,a.2.2.2.2.2.2.2.2.1,a.2.2.2.2.2.2.2.2.2.1,a.2.2.2.2.2.2.2.2.2.2.1.1,a.2.2.2.2.2.2.2.2.2.2.1.2.1,a.2.2.2.2.2.2.2.2.2.2.1.2.2.1,a.2.2.2.2.2.2.2.2.2.2.1.2.2.2,a.2.2.2.2.2.2.2.2.2.2.2.1,a.2.2.2.2.2.2.2.2.2.2.2.2.1.1,a.2.2.2.2.2.2.2.2.2.2.2.2.1.2.1,a.2.2.2.2.2.2.2.2.2.2.2.2.1.2.2.1,a.2.2.2.2.2.2.2.2.2.2.2.2.1.2.2.2,a.2.2.2.2.2.2.2.2.2.2.2.2.2)
abbrev zc286a0 {A0 A1 A2 A3 A4 A5 A6 A7 A8 A9 A10 A11 A12 A13 A14 A15 A16 A17 A18 A19 R:Type}(a:A0×A1×A2×A3×A4×A5×A6×A7×A8×A9×A10×A11×A12×A13×A14×A15×A16×A17×A18×A19)(r:R):=((a.1,a.2.1,a.2.2.1,a.2.2.2.1,a.2.2.2.2.1,a.2.2.2.2.2.1,a.2.2.2.2.2.2.1,a.2.2.2.2.2.2.2.1,a.2.2.2.2.2.2.2.2.1,a.2.2.2.2.2.2.2.2.2.1,(a.2.2.2.2.2.2.2.2.2.2.1,a.2.2.2.2.2.2.2.2.2.2.2.1,a.2.2.2.2.2.2.2.2.2.2.2.2.1,a.2.2.2.2.2.2.2.2.2.2.2.2.2.1),a.2.2.2.2.2.2.2.2.2.2.2.2.2.2.1,(a.2.2.2.2.2.2.2.2.2.2.2.2.2.2.2.1,a.2.2.2.2.2.2.2.2.2.2.2.2.2.2.2.2.1,a.2.2.2.2.2.2.2.2.2.2.2.2.2.2.2.2.2.1,a.2.2.2.2.2.2.2.2.2.2.2.2.2.2.2.2.2.2.1),a.2.2.2.2.2.2.2.2.2.2.2.2.2.2.2.2.2.2.2),r)
abbrev zc43b32 {A0 A1 A2 A3 A4 A5 A6 A7 A8 A9 A10 A11 A12 A13 A14 A15 A16 A17 A18 A19:Type}(a:A0×A1×A2×A3×A4×A5×A6×A7×A8×A9×A10×A11×A12×A13×A14×A15×A16×A17×A18×A19):=(a.1,a.2.1,a.2.2.1,a.2.2.2.1,a.2.2.2.2.1,a.2.2.2.2.2.1,a.2.2.2.2.2.2.1,a.2.2.2.2.2.2.2.1,a.2.2.2.2.2.2.2.2.1,a.2.2.2.2.2.2.2.2.2.1,(a.2.2.2.2.2.2.2.2.2.2.1,a.2.2.2.2.2.2.2.2.2.2.2.1,a.2.2.2.2.2.2.2.2.2.2.2.2.1,a.2.2.2.2.2.2.2.2.2.2.2.2.2.1),a.2.2.2.2.2.2.2.2.2.2.2.2.2.2.1,(a.2.2.2.2.2.2.2.2.2.2.2.2.2.2.2.1,a.2.2.2.2.2.2.2.2.2.2.2.2.2.2.2.2.1,a.2.2.2.2.2.2.2.2.2.2.2.2.2.2.2.2.2.1,a.2.2.2.2.2.2.2.2.2.2.2.2.2.2.2.2.2.2.1),a.2.2.2.2.2.2.2.2.2.2.2.2.2.2.2.2.2.2.2)
abbrev zcf8680 {A0 A1 A2 A3 A4 A5 A6 A7 A8 A9 A10 A11 A12 A13 A14 A15 A16 A17 A18 A19 A20 R:Type}(a:A0×A1×A2×A3×A4×A5×A6×A7×A8×A9×(A10×A11×A12×A13)×A14×(A15×A16×A17×A18)×A19×A20)(r:R):=(a.1,a.2.1,a.2.2.1,a.2.2.2.1,a.2.2.2.2.1,a.2.2.2.2.2.1,a.2.2.2.2.2.2.1,a.2.2.2.2.2.2.2.1,a.2.2.2.2.2.2.2.2.1,a.2.2.2.2.2.2.2.2.2.1,a.2.2.2.2.2.2.2.2.2.2.1.1,a.2.2.2.2.2.2.2.2.2.2.1.2.1,a.2.2.2.2.2.2.2.2.2.2.1.2.2.1,a.2.2.2.2.2.2.2.2.2.2.1.2.2.2,a.2.2.2.2.2.2.2.2.2.2.2.1,a.2.2.2.2.2.2.2.2.2.2.2.2.1.1,a.2.2.2.2.2.2.2.2.2.2.2.2.1.2.1,a.2.2.2.2.2.2.2.2.2.2.2.2.1.2.2.1,a.2.2.2.2.2.2.2.2.2.2.2.2.1.2.2.2,a.2.2.2.2.2.2.2.2.2.2.2.2.2.1,a.2.2.2.2.2.2.2.2.2.2.2.2.2.2,r)
abbrev zceae5f {A0 A1 A2 A3 A4 A5 A6 A7 A8 A9 A10 A11 A12 A13 A14 A15 A16:Type}(a:A0×A1×A2×A3×A4×A5×A6×A7×A8×A9×A10×A11×A12×A13×A14×A15×A16):=(a.1,a.2.1,a.2.2.1,a.2.2.2.1,a.2.2.2.2.1,a.2.2.2.2.2.1,a.2.2.2.2.2.2.1,(a.2.2.2.2.2.2.2.1,a.2.2.2.2.2.2.2.2.1,a.2.2.2.2.2.2.2.2.2.1,a.2.2.2.2.2.2.2.2.2.2.1),a.2.2.2.2.2.2.2.2.2.2.2.1,(a.2.2.2.2.2.2.2.2.2.2.2.2.1,a.2.2.2.2.2.2.2.2.2.2.2.2.2.1,a.2.2.2.2.2.2.2.2.2.2.2.2.2.2.1,a.2.2.2.2.2.2.2.2.2.2.2.2.2.2.2.1),a.2.2.2.2.2.2.2.2.2.2.2.2.2.2.2.2)
abbrev zc00556 {A0 A1 A2 A3 R:Type}(a:A0×A1×A2×A3)(r:R):=(a.1,a.2.1,a.2.2.1,a.2.2.2,r)
abbrev zcp4 {A0 A1 A2 A3 A4 R:Type}(a:A0×A1×A2×A3×A4)(r:R):=(a.1,a.2.1,a.2.2.1,a.2.2.2.1,r)
abbrev zcp8 {A0 A1 A2 A3 A4 A5 A6 A7 A8 R:Type}(a:A0×A1×A2×A3×A4×A5×A6×A7×A8)(r:R):=(a.1,a.2.1,a.2.2.1,a.2.2.2.1,a.2.2.2.2.1,a.2.2.2.2.2.1,a.2.2.2.2.2.2.1,a.2.2.2.2.2.2.2.1,r)
abbrev Kc0:List Coe:=[.keep,.keep,.keep,.keep,.keep,.keep,.keep,.keep,.ro true 46 t2,.ro true 133 t3,.keep,.keep,.keep,.keep,.ro true 86 t6,.keep,.keep,.keep,.keep,.ro true 89 t11,.ro true 91 t12]
abbrev Kc1:List Coe:=[.keep,.keep,.keep,.keep]
abbrev Kc2:List Coe:=[.keep,.keep,.keep,.keep,.keep,.keep,.keep,.keep,.keep,.keep,.keep,.keep,.keep,.keep,.keep,.keep,.keep,.keep,.keep,.keep,.keep]
abbrev Kc3:List Coe:=[.keep,.keep,.keep,.keep,.keep,.keep,.keep,.keep,.ro true 46 t2,.ro true 133 t3,.keep,.keep,.keep,.keep,.own true 86 t6,.keep,.keep,.keep,.keep,.ro true 89 t11,.ro true 91 t12]
abbrev Kc4:List Coe:=[.keep,.keep,.keep,.ro true 3 I6]
abbrev Kc5:List Coe:=[.keep,.keep,.keep,.keep,.keep,.keep,.keep,.keep,.own false 46 t2,.own false 133 t3,.keep,.keep,.keep,.keep,.own false 86 t50,.keep,.keep,.keep,.keep,.own false 89 t52,.own true 91 t12]
abbrev Kc6:List Coe:=[.keep,.keep,.keep,.keep,.keep,.ro true 3 I6]
abbrev Kc7:List Coe:=[.keep,.keep,.keep,.keep,.keep,.keep,.keep,.keep,.keep,.keep,.keep]
abbrev Rr (r:List RK)(p:List PK):=Option (ai r×ag p)
abbrev Pz:=List PK
abbrev Rq:=List RK
abbrev Z0 {p:List PK}{r:List RK}(i:Nat)(d:ab p->Option (ai r×ag p)):Ctr:=⟨i,p,r,false,d⟩
abbrev Z1 {p:List PK}{r:List RK}(i:Nat)(d:ab p->Option (ai r×ag p)):Ctr:=⟨i,p,r,true,d⟩
namespace Q0
abbrev ps:Pz:=[.rd (.list false 46 t2)]
abbrev rs:Rq:=[.v (.list true 46 t2)]
abbrev R:=Rr rs ps
def f (K:Nat)(x:ab ps):R:=gx t2 32 x.1
def c:=Z1 62 (f K)
end Q0
namespace Q1
abbrev ps:Pz:=[.own (.list true 46 t2),.rd I6,.own (.list true 46 t2)]
abbrev rs:Rq:=[.v (.list true 46 t2)]
abbrev R:=Rr rs ps
def f (K:Nat)(x:ab ps):R:=fQ t2 32 x.1 x.2.1 x.2.2.1
def c:=Z1 120 (f K)
end Q1
namespace Q2
abbrev ps:Pz:=[.rd (.list false 133 t3)]
abbrev rs:Rq:=[.v (.list true 133 t3)]
abbrev R:=Rr rs ps
def f (K:Nat)(x:ab ps):R:=gx t3 40 x.1
def c:=Z1 168 (f K)
end Q2
namespace Q3
abbrev ps:Pz:=[.own (.list true 133 t3),.rd I6,.own (.list true 133 t3)]
abbrev rs:Rq:=[.v (.list true 133 t3)]
abbrev R:=Rr rs ps
def f (K:Nat)(x:ab ps):R:=fQ t3 40 x.1 x.2.1 x.2.2.1
def c:=Z1 271 (f K)
end Q3
namespace Q4
abbrev ps:Pz:=[.own (.list true 86 t50),.fn [t6] .bool]
abbrev rs:Rq:=[.v (.list true 86 t50)]
abbrev R:=Rr rs ps
def f (K:Nat)(x:ab ps):R:=ir t50 x.1 x.2.1
def c:=Z1 215 (f K)
end Q4
namespace Q5
abbrev ps:Pz:=[.own (.list true 86 t50),.rd I6,.own (.list true 86 t50)]
abbrev rs:Rq:=[.v (.list true 86 t50)]
abbrev R:=Rr rs ps
def f (K:Nat)(x:ab ps):R:=fQ t50 48 x.1 x.2.1 x.2.2.1
def c:=Z1 219 (f K)
end Q5
namespace Q6
abbrev ps:Pz:=[.own (.list true 3 I6),.rd I6,.own (.list true 3 I6)]
abbrev rs:Rq:=[.v (.list true 3 I6)]
abbrev R:=Rr rs ps
def f (K:Nat)(x:ab ps):R:=fQ I6 8 x.1 x.2.1 x.2.2.1
def c:=Z1 176 (f K)
end Q6
namespace Q7
abbrev ps:Pz:=[.own (.list true 91 t12),.rd I6,.own (.list true 91 t12)]
abbrev rs:Rq:=[.v (.list true 91 t12)]
abbrev R:=Rr rs ps
def f (K:Nat)(x:ab ps):R:=fQ t12 32 x.1 x.2.1 x.2.2.1
def c:=Z0 172 (f K)
end Q7
namespace Q8
abbrev ps:Pz:=[.rd (.list false 3 I6)]
abbrev rs:Rq:=[.v (.list true 3 I6)]
abbrev R:=Rr rs ps
def f (K:Nat)(x:ab ps):R:=gx I6 8 x.1
def c:=Z1 167 (f K)
end Q8
namespace Q9
abbrev ps:Pz:=[.own (.list true 133 t3),.fn [t3] .bool]
abbrev rs:Rq:=[.v (.list true 133 t3)]
abbrev R:=Rr rs ps
def f (K:Nat)(x:ab ps):R:=ir t3 x.1 x.2.1
def c:=Z1 288 (f K)
end Q9
namespace Q10
abbrev ps:Pz:=[.own (.list true 89 t52),.rd I6,.own (.list true 89 t52)]
abbrev rs:Rq:=[.v (.list true 89 t52)]
abbrev R:=Rr rs ps
def f (K:Nat)(x:ab ps):R:=fQ t52 64 x.1 x.2.1 x.2.2.1
def c:=Z1 180 (f K)
end Q10
namespace Q11
abbrev ps:Pz:=[.rd I6]
abbrev rs:Rq:=[.v .str]
abbrev R:=Rr rs ps
def step (g:ab ps->R)(x:ab ps):R:=bif decide (x.1<(-9223372036854775807)) then (some (((ByteArray.mk #[45,57,50,50,51,51,55,50,48,51,54,56,53,52,55,55,53,56,48,56]),()),())) else (bif decide (x.1<0) then ((g (wr .i64 (0-x.1),())).bind λy1=>aX (ByteArray.mk #[45]) y1.1.1 λy2=>some ((y2,()),())) else (bif decide (x.1<10) then (some ((ip ([wr .u8 (wr .i64 (48+x.1))]),()),())) else ((g (wr .i64 (FL x.1 10),())).bind λy3=>aX y3.1.1 (ip ([wr .u8 (wr .i64 (48+(Int.tmod x.1 10)))])) λy4=>some ((y4,()),()))))
def f (x:ab ps):R:=Nat.rec (motive:=λ_=>ab ps->R) (λ_=>none) (λ_ g x=>step g x) K x
def c:=Z1 280 (f K)
end Q11
namespace Q12
abbrev ps:Pz:=[.rd I6,.rd I6,.rd I6]
abbrev rs:Rq:=[.v .bool]
abbrev R:=Rr rs ps
def f (K:Nat)(x:ab ps):R:=bif decide (x.1>=x.2.1) then (some ((decide (x.1<=x.2.2.1),()),())) else (some ((false,()),()))
def c:=Z1 80 (f K)
end Q12
namespace Q13
abbrev ps:Pz:=[.rd I6]
abbrev rs:Rq:=[.v .bool]
abbrev R:=Rr rs ps
def f (x:ab ps):R:=(Q12.f K (x.1,0,7,())).bind λy1=>some ((y1.1.1,()),())
def c:=Z1 79 (f K)
end Q13
namespace Q14
abbrev ps:Pz:=[.rd t26]
abbrev rs:Rq:=[.v .bool]
abbrev R:=Rr rs ps
def f (K:Nat)(x:ab ps):R:=let b2:=x.1.2.2.2.2;let b1:=b2.2.2.2;let j1:R:=some ((false,()),());bif !x.1.2.2.1 then (bif b2.1==0 then (bif b2.2.1==0 then (bif b2.2.2.1==0 then (bif b1.1==0 then (bif (wr .i64 ((wr .i64 ((wr .i64 ((wr .i64 ((FJ b1.2.1:Int)+(FJ b1.2.2.1:Int)))+(FJ b1.2.2.2.2.1:Int)))+(FJ b1.2.2.2.2.2.2.1:Int)))+(FJ b1.2.2.2.2.2.2.2:Int)))==0 then (bif Ty.eqv t2 b1.2.2.2.1 (0,0,0,false) then (some ((Ty.eqv t9 b1.2.2.2.2.2.1 (0,0,0,0),()),())) else j1) else j1) else j1) else j1) else j1) else j1) else j1
def c:=Z1 81 (f K)
end Q14
namespace Q15
abbrev ps:Pz:=[.rd t2]
abbrev rs:Rq:=[.v .bool]
abbrev R:=Rr rs ps
def f (x:ab ps):R:=(Q13.f K (x.1.1,())).bind λy1=>bif y1.1.1 then ((Q12.f K (x.1.2.1,0,999,())).bind λy2=>bif y2.1.1 then ((Q12.f K (x.1.2.2.1,1,4,())).bind λy3=>some ((y3.1.1,()),())) else (some ((false,()),()))) else (some ((false,()),()))
def c:=Z1 119 (f K)
end Q15
namespace Q16
abbrev ps:Pz:=[.rd (.list false 46 t2)]
abbrev rs:Rq:=[.v .bool]
abbrev R:=Rr rs ps
abbrev A0:=Int
def s0 (x:ab ps)(r0:A0->R)(a:A0):R:=bif decide (a<(FJ x.1:Int)) then ((idx x.1 a).bind λy1=>(Q15.f K (y1,())).bind λy2=>bif !y2.1.1 then (some ((false,()),())) else (bif decide (a>0) then ((idx x.1 (wr .i64 (a-1))).bind λy3=>bif decide (y1.1<=y3.1) then (some ((false,()),())) else (r0 (wr .i64 (a+1)))) else (r0 (wr .i64 (a+1))))) else (some ((true,()),()))
def l0 (x:ab ps):A0->R:=ae (s0 K x) K
def pre (K:Nat)(N0:A0->R)(x:ab ps):R:=N0 0
def f (x:ab ps):R:=pre K (l0 K x) x
def c:=Z1 61 (f K)
end Q16
namespace Q17
abbrev ps:Pz:=[.rd (.list false 46 t2),.rd I6,.fn [t2,I6] I6]
abbrev rs:Rq:=[.v I6,.v .bool]
abbrev R:=Rr rs ps
abbrev A0:=Int×Int
def s0 (K:Nat)(x:ab ps)(r0:A0->R)(a:A0):R:=bif decide (a.1<a.2) then (let j1:=FM (wr .u64 (wr .i64 (a.1+a.2))) (2 ^ 1);(idx x.1 (wr .i64 j1)).bind λy1=>(x.2.2.1 (y1,x.2.1,())).bind λy2=>bif decide (y2<0) then (r0 (wr .i64 ((wr .i64 j1)+1),a.2)) else (r0 (a.1,wr .i64 j1))) else (bif decide (a.1<(FJ x.1:Int)) then ((idx x.1 a.1).bind λy3=>(x.2.2.1 (y3,x.2.1,())).bind λy4=>some ((a.1,y4==0,()),())) else (some ((a.1,false,()),())))
def l0 (x:ab ps):A0->R:=ae (s0 K x) K
def pre (K:Nat)(N0:A0->R)(x:ab ps):R:=N0 (0,(FJ x.1:Int))
def f (x:ab ps):R:=pre K (l0 K x) x
def c:=Z1 122 (f K)
end Q17
namespace Q18
abbrev ps:Pz:=[.rd I6]
abbrev rs:Rq:=[.v .bool]
abbrev R:=Rr rs ps
def f (K:Nat)(x:ab ps):R:=some ((x.1 != x.1,()),())
def c:=Z1 194 (f K)
end Q18
namespace Q19
abbrev ps:Pz:=[.rd I6,.rd I6]
abbrev rs:Rq:=[.v I6]
abbrev R:=Rr rs ps
def f (x:ab ps):R:=(Q18.f K (x.1,())).bind λy1=>(Q18.f K (x.2.1,())).bind λy2=>bif y1.1.1 then (bif y2.1.1 then (some ((0,()),())) else (some (((-1),()),()))) else (bif y2.1.1 then (some ((1,()),())) else (bif decide (x.1<x.2.1) then (some (((-1),()),())) else (bif decide (x.1>x.2.1) then (some ((1,()),())) else (some ((0,()),())))))
def c:=Z1 124 (f K)
end Q19
namespace Q20
abbrev ps:Pz:=[.rd t2,.rd I6]
abbrev rs:Rq:=[.v I6]
abbrev R:=Rr rs ps
def f (x:ab ps):R:=(Q19.f K (x.1.1,x.2.1,())).bind λy1=>some ((y1.1.1,()),())
def c:=Z1 123 (f K)
end Q20
namespace Q21
abbrev ps:Pz:=[.rd (.list false 46 t2),.rd I6]
abbrev rs:Rq:=[.v I6,.v .bool]
abbrev R:=Rr rs ps
def f (x:ab ps):R:=(Q17.f K (x.1,x.2.1,λy1=>(Q20.f K (y1.1,y1.2.1,())).map λy=>y.1.1,())).bind λy2=>some ((y2.1.1,y2.1.2.1,()),())
def c:=Z1 64 (f K)
end Q21
namespace Q22
abbrev ps:Pz:=[.rd (.list false 46 t2),.rd I6]
abbrev rs:Rq:=[.v t2,.v .bool]
abbrev R:=Rr rs ps
def f (x:ab ps):R:=(Q16.f K (x.1,())).bind λy1=>let j1:=(((0,0,0,false),false,()),());bif !y1.1.1 then (some j1) else ((Q21.f K (x.1,x.2.1,())).bind λy2=>bif !y2.1.2.1 then (some j1) else ((idx x.1 y2.1.1).bind λy3=>some ((y3,true,()),())))
def c:=Z1 20 (f K)
end Q22
namespace Q23
abbrev ps:Pz:=[.rd (.list false 46 t2),.fn [t2] .bool]
abbrev rs:Rq:=[.v I6]
abbrev R:=Rr rs ps
abbrev A0:=Int
def s0 (K:Nat)(x:ab ps)(r0:A0->R)(a:A0):R:=bif decide (a<(FJ x.1:Int)) then ((idx x.1 a).bind λy1=>(x.2.1 (y1,())).bind λy2=>bif y2 then (some ((a,()),())) else (r0 (wr .i64 (a+1)))) else (some (((-1),()),()))
def l0 (x:ab ps):A0->R:=ae (s0 K x) K
def pre (K:Nat)(N0:A0->R)(x:ab ps):R:=N0 0
def f (x:ab ps):R:=pre K (l0 K x) x
def c:=Z1 190 (f K)
end Q23
namespace Q24
abbrev ps:Pz:=[.rd (.list false 46 t2),.fn [t2] .bool]
abbrev rs:Rq:=[.v .bool]
abbrev R:=Rr rs ps
def f (x:ab ps):R:=(Q23.f K (x.1,x.2.1,())).bind λy1=>some ((decide (y1.1.1>=0),()),())
def c:=Z1 117 (f K)
end Q24
namespace Q25
abbrev ps:Pz:=[.rd I6]
abbrev rs:Rq:=[.v I6]
abbrev R:=Rr rs ps
def f (K:Nat)(x:ab ps):R:=some ((wr .i64 (FL x.1 4),()),())
def c:=Z1 55 (f K)
end Q25
namespace Q26
abbrev ps:Pz:=[.rd t2,.rref I6]
abbrev rs:Rq:=[.v .bool]
abbrev R:=Rr rs ps
def f (x:ab ps):R:=(Q25.f K (x.1.1,())).bind λy1=>some ((y1.1.1 != x.2.1,()),())
def c:=Z1 118 (f K)
end Q26
namespace Q27
abbrev ps:Pz:=[.rd (.list false 46 t2),.rd I6]
abbrev rs:Rq:=[.v .bool]
abbrev R:=Rr rs ps
def f (x:ab ps):R:=(Q24.f K (x.1,λy1=>(Q26.f K (y1.1,x.2.1,())).map λy=>y.1.1,())).bind λy2=>some ((!y2.1.1,()),())
def c:=Z1 53 (f K)
end Q27
namespace Q28
abbrev ps:Pz:=[.rd t26]
abbrev rs:Rq:=[.v I6]
abbrev R:=Rr rs ps
def f (x:ab ps):R:=(Q25.f K (x.1.1,())).bind λy1=>some ((y1.1.1,()),())
def c:=Z1 54 (f K)
end Q28
namespace Q29
abbrev ps:Pz:=[.rd (.list false 133 t3),.fn [t3] .bool]
abbrev rs:Rq:=[.v I6]
abbrev R:=Rr rs ps
abbrev A0:=Int
def s0 (K:Nat)(x:ab ps)(r0:A0->R)(a:A0):R:=bif decide (a<(FJ x.1:Int)) then ((idx x.1 a).bind λy1=>(x.2.1 (y1,())).bind λy2=>bif y2 then (some ((a,()),())) else (r0 (wr .i64 (a+1)))) else (some (((-1),()),()))
def l0 (x:ab ps):A0->R:=ae (s0 K x) K
def pre (K:Nat)(N0:A0->R)(x:ab ps):R:=N0 0
def f (x:ab ps):R:=pre K (l0 K x) x
def c:=Z1 205 (f K)
end Q29
namespace Q30
abbrev ps:Pz:=[.rd (.list false 133 t3),.fn [t3] .bool]
abbrev rs:Rq:=[.v .bool]
abbrev R:=Rr rs ps
def f (x:ab ps):R:=(Q29.f K (x.1,x.2.1,())).bind λy1=>some ((decide (y1.1.1>=0),()),())
def c:=Z1 135 (f K)
end Q30
namespace Q31
abbrev ps:Pz:=[.rd t3]
abbrev rs:Rq:=[.v .bool]
abbrev R:=Rr rs ps
def f (x:ab ps):R:=(Q12.f K (x.1.2,1,4,())).bind λy1=>some ((!y1.1.1,()),())
def c:=Z1 203 (f K)
end Q31
namespace Q32
abbrev ps:Pz:=[.rd (.list false 133 t3)]
abbrev rs:Rq:=[.v (.list true 46 t2)]
abbrev R:=Rr rs ps
abbrev A0:=List (Ty.den t2)×Int
def s0 (K:Nat)(x:ab ps)(r0:A0->R)(a:A0):R:=bif decide (a.2<(FJ x.1:Int)) then ((idx x.1 a.2).bind λy1=>bif decide ((FJ a.1+FJ ([y1.1]))*32<=am) then (r0 (a.1++([y1.1]),wr .i64 (a.2+1))) else none) else (some ((a.1,()),()))
def l0 (x:ab ps):A0->R:=ae (s0 K x) K
def pre (K:Nat)(N0:A0->R)(x:ab ps):R:=N0 ([],0)
def f (x:ab ps):R:=pre K (l0 K x) x
def c:=Z1 204 (f K)
end Q32
namespace Q33
abbrev ps:Pz:=[.rd (.list false 133 t3)]
abbrev rs:Rq:=[.v .bool]
abbrev R:=Rr rs ps
def f (x:ab ps):R:=(Q32.f K (x.1,())).bind λy1=>(Q16.f K (y1.1.1,())).bind λy2=>bif y2.1.1 then ((Q30.f K (x.1,λy3=>(Q31.f K (y3.1,())).map λy=>y.1.1,())).bind λy4=>some ((!y4.1.1,()),())) else (some ((false,()),()))
def c:=Z1 134 (f K)
end Q33
namespace Q34
abbrev ps:Pz:=[.rd (.list false 3 I6)]
abbrev rs:Rq:=[.v I6]
abbrev R:=Rr rs ps
abbrev A0:=Int
def s0 (K:Nat)(x:ab ps)(r0:A0->R)(a:A0):R:=bif decide (a<(FJ x.1:Int)) then ((idx x.1 a).bind λy1=>bif y1 != 0 then (some ((y1,()),())) else (r0 (wr .i64 (a+1)))) else (some ((0,()),()))
def l0 (x:ab ps):A0->R:=ae (s0 K x) K
def pre (K:Nat)(N0:A0->R)(x:ab ps):R:=N0 0
def f (x:ab ps):R:=pre K (l0 K x) x
def c:=Z1 193 (f K)
end Q34
namespace Q35
abbrev ps:Pz:=[.rd t2,.rd t2]
abbrev rs:Rq:=[.v I6]
abbrev R:=Rr rs ps
def f (x:ab ps):R:=let j3:=(x.1.2.2.1,x.2.1.2.2.1,());let j4:=(x.1.2.1,x.2.1.2.1,());let j2:R:=(Q19.f K (x.1.1,x.2.1.1,())).bind λy9=>(Q19.f K j4).bind λy10=>(Q19.f K j3).bind λy11=>(Q34.f K ([y9.1.1,y10.1.1,y11.1.1,0],())).bind λy12=>some ((y12.1.1,()),());let j1:R:=bif x.2.1.2.2.2 then (bif !x.1.2.2.2 then ((Q19.f K (x.1.1,x.2.1.1,())).bind λy5=>(Q19.f K j4).bind λy6=>(Q19.f K j3).bind λy7=>(Q34.f K ([y5.1.1,y6.1.1,y7.1.1,(-1)],())).bind λy8=>some ((y8.1.1,()),())) else j2) else j2;bif x.1.2.2.2 then (bif !x.2.1.2.2.2 then ((Q19.f K (x.1.1,x.2.1.1,())).bind λy1=>(Q19.f K j4).bind λy2=>(Q19.f K j3).bind λy3=>(Q34.f K ([y1.1.1,y2.1.1,y3.1.1,1],())).bind λy4=>some ((y4.1.1,()),())) else j1) else j1
def c:=Z1 121 (f K)
end Q35
namespace Q36
abbrev ps:Pz:=[.rd t2,.rd t2]
abbrev rs:Rq:=[.v .bool]
abbrev R:=Rr rs ps
def f (x:ab ps):R:=(Q15.f K (x.1,())).bind λy1=>let j1:R:=some ((false,()),());bif y1.1.1 then ((Q15.f K (x.2.1,())).bind λy2=>bif y2.1.1 then (bif x.1.1==x.2.1.1 then ((Q35.f K (x.1,x.2.1,())).bind λy3=>some ((decide (y3.1.1>0),()),())) else j1) else j1) else j1
def c:=Z1 93 (f K)
end Q36
namespace Q37
abbrev ps:Pz:=[.rd t3,.rref t26]
abbrev rs:Rq:=[.v .bool]
abbrev R:=Rr rs ps
def f (x:ab ps):R:=(Q22.f K (x.2.1.2.2.2.2.2.2.2.2.1,x.1.1.1,())).bind λy1=>bif !y1.1.2.1 then (some ((true,()),())) else ((Q36.f K (x.1.1,y1.1.1,())).bind λy2=>some ((y2.1.1,()),()))
def c:=Z1 136 (f K)
end Q37
namespace Q38
abbrev ps:Pz:=[.rd t26]
abbrev rs:Rq:=[.v .bool]
abbrev R:=Rr rs ps
def f (x:ab ps):R:=let b2:=x.1.2.2.2;let b1:=b2.2.2.2.2.2;let j2:R:=some ((false,()),());let j1:R:=(Q28.f K (x.1,())).bind λy2=>(Q27.f K (b1.1,y2.1.1,())).bind λy3=>bif !y3.1.1 then j2 else ((Q33.f K (b1.2.1,())).bind λy4=>bif !y4.1.1 then j2 else ((Q30.f K (b1.2.1,λy5=>(Q37.f K (y5.1,x.1,())).map λy=>y.1.1,())).bind λy6=>some ((!y6.1.1,()),())));let j3:=(b1.1,x.1.1,());bif x.1.2.2.1 then ((Q22.f K j3).bind λy1=>bif !y1.1.2.1 then j2 else (bif !Ty.eqv t2 y1.1.1 (x.1.1,b2.2.1,4,b2.1) then j2 else j1)) else ((Q22.f K j3).bind λy7=>bif !y7.1.2.1 then j2 else (bif !Ty.eqv t2 y7.1.1 (x.1.1,b2.2.1,1,b2.1) then j2 else j1))
def c:=Z1 82 (f K)
end Q38
namespace Q39
abbrev ps:Pz:=[.rd t26]
abbrev rs:Rq:=[.v .bool]
abbrev R:=Rr rs ps
def f (x:ab ps):R:=let b2:=x.1.2.2.2.2.2;let b1:=b2.2.2.2.2.2.1;bif b1.1==(-1) then (some ((Ty.eqv t2 b1 ((-1),0,0,false),()),())) else ((Q22.f K (b2.2.2.2.1,b1.1,())).bind λy1=>let j1:R:=some ((false,()),());bif y1.1.2.1 then (bif b1.1 != x.1.1 then ((Q12.f K (b1.2.1,0,b2.1,())).bind λy2=>bif y2.1.1 then ((Q12.f K (b1.2.2.1,1,b2.2.1,())).bind λy3=>some ((y3.1.1,()),())) else j1) else j1) else j1)
def c:=Z1 83 (f K)
end Q39
namespace Q40
abbrev ps:Pz:=[.rd t26,.rd I6]
abbrev rs:Rq:=[.v .bool]
abbrev R:=Rr rs ps
def f (x:ab ps):R:=(Q13.f K (x.2.1,())).bind λy1=>bif y1.1.1 then ((Q25.f K (x.2.1,())).bind λy2=>(Q28.f K (x.1,())).bind λy3=>some ((y2.1.1==y3.1.1,()),())) else (some ((false,()),()))
def c:=Z1 52 (f K)
end Q40
namespace Q41
abbrev ps:Pz:=[.rd t26]
abbrev rs:Rq:=[.v .bool]
abbrev R:=Rr rs ps
abbrev A2:=List (Ty.den t2)×Int×List (Ty.den I6)×Int×Int×Int×Int×Int×List (Ty.den I6)
abbrev A1:=List (Ty.den t2)×Int
abbrev A0:=List (Ty.den t2)×Int
def s2 (x:ab ps)(r1:A1->R)(r2:A2->R)(a:A2):R:=let b1:=a.2.2.2.2;bif decide (b1.1<a.2.2.2.1) then ((idx a.2.2.1 b1.1).bind λy8=>(Q40.f K (x.1,y8,())).bind λy9=>bif !y9.1.1 then (some ((false,()),())) else (let j1:=(zcp4 a (wr .i64 (b1.1+1),b1.2));bif decide (b1.1>0) then ((idx b1.2.2.2.2 (wr .i64 (b1.1-1))).bind λy10=>bif decide (y8<=y10) then (some ((false,()),())) else (r2 j1)) else (r2 j1))) else (r1 (a.1,wr .i64 (a.2.1+1)))
def l2 (x:ab ps)(r1:A1->R):A2->R:=ae (s2 K x r1) K
def s1 (x:ab ps)(N2:A2->R)(r1:A1->R)(a:A1):R:=bif decide (a.2<(FJ x.1.2.2.2.2.2.2.2.2.2.2.2.1:Int)) then ((idx x.1.2.2.2.2.2.2.2.2.2.2.2.1 a.2).bind λy2=>(idx a.1 a.2).bind λ_=>(idx a.1 (FK a.2:Nat)).bind λy4=>let j1:R:=some ((false,()),());bif y2.1 != y4.1 then j1 else ((idx a.1 a.2).bind λ_=>(idx a.1 (FK a.2:Nat)).bind λy6=>bif y2.2.1 != y6.2.1 then j1 else ((Q12.f K (y2.2.2.1,0,x.1.2.2.2.2.2.1,())).bind λy7=>bif !y7.1.1 then j1 else (let j2:=(FJ y2.2.2.2:Int);bif j2==0 then j1 else (N2 (a.1,a.2,y2.2.2.2,j2,0,y2)))))) else (some ((true,()),()))
def l1 (x:ab ps):A1->R:=ae (λr1 a=>s1 K x (l2 K x r1) r1 a) K
def s0 (K:Nat)(x:ab ps)(N1:A1->R)(r0:A0->R)(a:A0):R:=let b1:=x.1.2.2.2.2.2.2.2.2;bif decide (a.2<(FJ b1.1:Int)) then ((idx b1.1 a.2).bind λy1=>bif y1.2.2.1==2 then (bif decide ((FJ a.1+FJ ([y1]))*32<=am) then (r0 (a.1++([y1]),wr .i64 (a.2+1))) else none) else (r0 (a.1,wr .i64 (a.2+1)))) else (bif (FJ b1.2.2.2.1:Int) != (FJ a.1:Int) then (some ((false,()),())) else (N1 (a.1,0)))
def l0 (x:ab ps):A0->R:=ae (s0 K x (l1 K x)) K
def pre (K:Nat)(N0:A0->R)(x:ab ps):R:=N0 ([],0)
def f (x:ab ps):R:=pre K (l0 K x) x
def c:=Z1 84 (f K)
def G:List Ctr:=[Q40.c K,Q12.c K]
def v2:List (Nat×List Coe):=[(1,[.keep]),(3,[.own false 46 t2]),(7,[.keep]),(32,[.ro true 86 t6]),(33,[.keep]),(34,[.keep]),(72,[.ro true 3 I6]),(73,[.keep]),(74,[.keep]),(100001,Kc0),(100007,Kc4)]
def v1:List (Nat×List Coe):=[(1,[.keep]),(3,[.own false 46 t2]),(32,[.ro true 86 t6]),(33,[.keep]),(34,[.keep]),(100001,Kc0)]
def v0:List (Nat×List Coe):=[(1,[.keep]),(3,[.own false 46 t2]),(11,[.ro true 46 t2]),(12,[.keep]),(13,[.keep]),(100001,Kc0)]
def L:List (Nat×List (Nat×List Coe)):=[(17,v2),(12,v1),(4,v0)]
def body:Code:=cY Tryz.f84
abbrev ev:Code->St->(Ex->St->R)->R:=evK (G K) T_NL L K
abbrev fin:Ex->St->R:=du T_NL ps rs true Tryz.f84.results.toList
def S0 (x:ab ps)(a:A0):St:=av [(1,⟨0,.one,[.bp 100001 0]⟩),(3,⟨0,.one,[.own false none 46 t2 a.1]⟩),(11,⟨0,.one,[.ro true 46 t2 x.1.2.2.2.2.2.2.2.2.1]⟩),(12,⟨0,.one,[.int .i64 (FJ x.1.2.2.2.2.2.2.2.2.1:Int)]⟩),(13,⟨0,.one,[.int .i64 a.2]⟩),(100001,⟨0,.agg,(w0 x.1)⟩)]
def S1 (x:ab ps)(a:A1):St:=av [(1,⟨0,.one,[.bp 100001 0]⟩),(3,⟨0,.one,[.own false none 46 t2 a.1]⟩),(32,⟨0,.one,[.ro true 86 t6 x.1.2.2.2.2.2.2.2.2.2.2.2.1]⟩),(33,⟨0,.one,[.int .i64 (FJ x.1.2.2.2.2.2.2.2.2.2.2.2.1:Int)]⟩),(34,⟨0,.one,[.int .i64 a.2]⟩),(100001,⟨0,.agg,(w0 x.1)⟩)]
def S2 (x:ab ps)(a:A2):St:=av [(1,⟨0,.one,[.bp 100001 0]⟩),(3,⟨0,.one,[.own false none 46 t2 a.1]⟩),(7,⟨0,.one,[.bp 100007 0]⟩),(32,⟨0,.one,[.ro true 86 t6 x.1.2.2.2.2.2.2.2.2.2.2.2.1]⟩),(33,⟨0,.one,[.int .i64 (FJ x.1.2.2.2.2.2.2.2.2.2.2.2.1:Int)]⟩),(34,⟨0,.one,[.int .i64 a.2.1]⟩),(72,⟨0,.one,[.ro true 3 I6 a.2.2.1]⟩),(73,⟨0,.one,[.int .i64 a.2.2.2.1]⟩),(74,⟨0,.one,[.int .i64 a.2.2.2.2.1]⟩),(100001,⟨0,.agg,(w0 x.1)⟩),(100007,⟨0,.agg,(wa0 a.2.2.2.2.2)⟩)]
def k0 (x:ab ps):Ex->St->R:=kAt (ev K) body [1,1,0,1,0] fin
def N0 (x:ab ps):A0->R:=λa=>aY v0 (ev K (sub body [1,1,0,1,0,0])) K (S0 x a) (k0 K x)
def k1 (x:ab ps):Ex->St->R:=kAt (ev K) body [1,1,1,1,0,1,0] fin
def N1 (x:ab ps):A1->R:=λa=>aY v1 (ev K (sub body [1,1,1,1,0,1,0,0])) K (S1 x a) (k1 K x)
def k2 (x:ab ps)(q1:St->R):Ex->St->R:=kAt (ev K) (sub body [1,1,1,1,0,1,0,0]) [1,1,0,0,1,1,1,0] (iq v1 q1 (k1 K x))
def N2 (x:ab ps)(q1:St->R):A2->R:=λa=>aY v2 (ev K (sub body [1,1,1,1,0,1,0,0,1,1,0,0,1,1,1,0,0])) K (S2 x a) (k2 K x q1)
end Q41
namespace Q42
abbrev ps:Pz:=[.rd t9]
abbrev rs:Rq:=[.v .bool]
abbrev R:=Rr rs ps
def f (x:ab ps):R:=(Q12.f K (x.1.1,(-100000),100000,())).bind λy1=>let j1:R:=some ((false,()),());bif y1.1.1 then ((Q12.f K (x.1.2.1,(-100000),100000,())).bind λy2=>bif y2.1.1 then ((Q12.f K (x.1.2.2.1,0,100000,())).bind λy3=>bif y3.1.1 then ((Q12.f K (x.1.2.2.2,1,1500,())).bind λy4=>some ((y4.1.1,()),())) else j1) else j1) else j1
def c:=Z1 85 (f K)
end Q42
namespace Q43
abbrev ps:Pz:=[.rd t26,.rd I6]
abbrev rs:Rq:=[.v .bool]
abbrev R:=Rr rs ps
def f (x:ab ps):R:=(Q40.f K (x.1,x.2.1,())).bind λy1=>bif y1.1.1 then (some ((x.2.1 != x.1.1,()),())) else (some ((false,()),()))
def c:=Z1 110 (f K)
end Q43
namespace Q44
abbrev ps:Pz:=[.rd I6]
abbrev rs:Rq:=[.v .bool]
abbrev R:=Rr rs ps
def f (x:ab ps):R:=(Q12.f K (x.1,1,60000,())).bind λy1=>some ((!y1.1.1,()),())
def c:=Z1 137 (f K)
end Q44
namespace Q45
abbrev ps:Pz:=[.rd (.list false 3 I6),.fn [I6] .bool]
abbrev rs:Rq:=[.v I6]
abbrev R:=Rr rs ps
abbrev A0:=Int
def s0 (K:Nat)(x:ab ps)(r0:A0->R)(a:A0):R:=bif decide (a<(FJ x.1:Int)) then ((idx x.1 a).bind λy1=>(x.2.1 (y1,())).bind λy2=>bif y2 then (some ((a,()),())) else (r0 (wr .i64 (a+1)))) else (some (((-1),()),()))
def l0 (x:ab ps):A0->R:=ae (s0 K x) K
def pre (K:Nat)(N0:A0->R)(x:ab ps):R:=N0 0
def f (x:ab ps):R:=pre K (l0 K x) x
def c:=Z1 206 (f K)
end Q45
namespace Q46
abbrev ps:Pz:=[.rd (.list false 3 I6),.fn [I6] .bool]
abbrev rs:Rq:=[.v .bool]
abbrev R:=Rr rs ps
def f (x:ab ps):R:=(Q45.f K (x.1,x.2.1,())).bind λy1=>some ((decide (y1.1.1>=0),()),())
def c:=Z1 138 (f K)
end Q46
namespace Q47
abbrev ps:Pz:=[.rd t26]
abbrev rs:Rq:=[.v .bool]
abbrev R:=Rr rs ps
abbrev A0:=Int
def s0 (x:ab ps)(r0:A0->R)(a:A0):R:=let b1:=x.1.2.2.2.2.2.2.2.2.2.2.2.2.2.1;bif decide (a<(FJ b1:Int)) then ((idx b1 a).bind λy1=>(Q43.f K (x.1,y1.1,())).bind λy2=>let j2:R:=some ((false,()),());bif !y2.1.1 then j2 else (let j1:R:=(Q42.f K (y1.2.1,())).bind λy4=>bif !y4.1.1 then j2 else ((Q12.f K ((FJ y1.2.2:Int),1,3,())).bind λy5=>bif !y5.1.1 then j2 else ((Q46.f K (y1.2.2,λy6=>(Q44.f K (y6.1,())).map λy=>y.1.1,())).bind λy7=>bif y7.1.1 then j2 else (r0 (wr .i64 (a+1)))));bif decide (a>0) then ((idx b1 (wr .i64 (a-1))).bind λy3=>bif decide (y1.1<=y3.1) then j2 else j1) else j1)) else (some ((true,()),()))
def l0 (x:ab ps):A0->R:=ae (s0 K x) K
def pre (K:Nat)(N0:A0->R)(x:ab ps):R:=N0 0
def f (x:ab ps):R:=pre K (l0 K x) x
def c:=Z1 86 (f K)
end Q47
namespace Q48
abbrev ps:Pz:=[.rd t26]
abbrev rs:Rq:=[.v .bool]
abbrev R:=Rr rs ps
abbrev A0:=Int
def s0 (x:ab ps)(r0:A0->R)(a:A0):R:=let b1:=x.1.2.2.2.2.2.2.2.2.2.2.2.2.2.2;bif decide (a<(FJ b1:Int)) then ((idx b1 a).bind λy1=>(Q25.f K (7,())).bind λy2=>(Q12.f K (y1.1,0,y2.1.1,())).bind λy3=>let j2:R:=some ((false,()),());bif !y3.1.1 then j2 else ((Q28.f K (x.1,())).bind λy4=>bif y1.1==y4.1.1 then j2 else (let j1:R:=bif (FJ y1.2:Int)==0 then j2 else ((Q16.f K (y1.2,())).bind λy6=>bif !y6.1.1 then j2 else ((Q27.f K (y1.2,y1.1,())).bind λy7=>bif !y7.1.1 then j2 else (r0 (wr .i64 (a+1)))));bif decide (a>0) then ((idx b1 (wr .i64 (a-1))).bind λy5=>bif decide (y1.1<=y5.1) then j2 else j1) else j1))) else (some ((true,()),()))
def l0 (x:ab ps):A0->R:=ae (s0 K x) K
def pre (K:Nat)(N0:A0->R)(x:ab ps):R:=N0 0
def f (x:ab ps):R:=pre K (l0 K x) x
def c:=Z1 87 (f K)
end Q48
namespace Q49
abbrev ps:Pz:=[.rd t26]
abbrev rs:Rq:=[.v .bool]
abbrev R:=Rr rs ps
def f (x:ab ps):R:=let b1:=x.1.2.2.2.2;(Q13.f K (x.1.1,())).bind λy1=>let j1:R:=some ((false,()),());bif !y1.1.1 then j1 else ((Q12.f K (b1.2.1,0,999999,())).bind λy2=>bif !y2.1.1 then j1 else ((Q12.f K (b1.2.2.1,0,999999,())).bind λy3=>bif !y3.1.1 then j1 else ((Q12.f K (b1.2.2.2.1,0,8,())).bind λy4=>bif !y4.1.1 then j1 else ((Q12.f K (b1.1,0,999,())).bind λy5=>bif !y5.1.1 then j1 else (bif !x.1.2.1 then ((Q14.f K (x.1,())).bind λy6=>some ((y6.1.1,()),())) else ((Q38.f K (x.1,())).bind λy7=>bif y7.1.1 then ((Q39.f K (x.1,())).bind λy8=>bif y8.1.1 then ((Q41.f K (x.1,())).bind λy9=>bif y9.1.1 then ((Q42.f K (b1.2.2.2.2.2.2.2.2.1,())).bind λy10=>bif y10.1.1 then ((Q47.f K (x.1,())).bind λy11=>bif y11.1.1 then ((Q48.f K (x.1,())).bind λy12=>some ((y12.1.1,()),())) else j1) else j1) else j1) else j1) else j1))))))
def c:=Z1 26 (f K)
end Q49
namespace Q50
abbrev ps:Pz:=[.rd t47]
abbrev rs:Rq:=[.v .bool]
abbrev R:=Rr rs ps
def f (x:ab ps):R:=let b1:=x.1.2.2.2.2.2;(Q12.f K (x.1.1,1,2,())).bind λy1=>let j1:R:=some ((false,()),());bif !y1.1.1 then j1 else ((Q12.f K (x.1.2.1,1,6,())).bind λy2=>bif !y2.1.1 then j1 else ((Q13.f K (x.1.2.2.1,())).bind λy3=>bif !y3.1.1 then j1 else ((Q13.f K (x.1.2.2.2.1,())).bind λy4=>bif !y4.1.1 then j1 else ((Q13.f K (b1.1,())).bind λy5=>bif !y5.1.1 then j1 else ((Q12.f K (x.1.2.2.2.2.1,0,999999,())).bind λy6=>bif !y6.1.1 then j1 else ((Q42.f K (b1.2.1,())).bind λy7=>bif !y7.1.1 then j1 else ((Q16.f K (b1.2.2,())).bind λy8=>bif !y8.1.1 then j1 else (bif x.1.2.1==6 then (bif decide ((FJ b1.2.2:Int)>0) then ((idx b1.2.2 0).bind λy9=>(Q25.f K (y9.1,())).bind λy10=>(Q27.f K (b1.2.2,y10.1.1,())).bind λy11=>some ((y11.1.1,()),())) else j1) else ((Q25.f K (x.1.2.2.1,())).bind λy12=>(Q27.f K (b1.2.2,y12.1.1,())).bind λy13=>some ((y13.1.1,()),()))))))))))
def c:=Z1 50 (f K)
end Q50
namespace Q51
abbrev ps:Pz:=[.rd t26]
abbrev rs:Rq:=[.v .bool]
abbrev R:=Rr rs ps
def f (K:Nat)(x:ab ps):R:=bif x.1.2.1 then (some ((!x.1.2.2.1,()),())) else (some ((false,()),()))
def c:=Z1 51 (f K)
end Q51
namespace Q52
abbrev ps:Pz:=[.rd t26,.rd t47]
abbrev rs:Rq:=[.v .bool]
abbrev R:=Rr rs ps
def f (x:ab ps):R:=let b1:=x.2.1.2.2;(Q49.f K (x.1,())).bind λy1=>let j1:R:=some ((false,()),());bif !y1.1.1 then j1 else ((Q50.f K (x.2.1,())).bind λy2=>bif !y2.1.1 then j1 else ((Q51.f K (x.1,())).bind λy3=>bif !y3.1.1 then j1 else (bif b1.2.1 != x.1.1 then j1 else (bif b1.1==x.1.1 then j1 else (bif x.2.1.1==1 then ((Q40.f K (x.1,b1.1,())).bind λy4=>bif y4.1.1 then (bif x.2.1.2.1 != 6 then (some ((true,()),())) else ((Q28.f K (x.1,())).bind λy5=>(Q27.f K (b1.2.2.2.2.2,y5.1.1,())).bind λy6=>some ((!y6.1.1,()),()))) else j1) else (bif x.2.1.2.1==6 then ((Q40.f K (x.1,b1.1,())).bind λy7=>bif !y7.1.1 then ((Q25.f K (b1.1,())).bind λy8=>(Q27.f K (b1.2.2.2.2.2,y8.1.1,())).bind λy9=>bif y9.1.1 then (some ((true,()),())) else ((Q28.f K (x.1,())).bind λy10=>(Q27.f K (b1.2.2.2.2.2,y10.1.1,())).bind λy11=>some ((y11.1.1,()),()))) else j1) else j1))))))
def c:=Z1 15 (f K)
end Q52
namespace Q53
abbrev ps:Pz:=[.rd (.list false 46 t2),.rd t2]
abbrev rs:Rq:=[.v (.list true 46 t2),.v .bool]
abbrev R:=Rr rs ps
def f (x:ab ps):R:=(Q0.f K (x.1,())).bind λy1=>(Q21.f K (y1.1.1,x.2.1.1,())).bind λy2=>bif !y2.1.2.1 then ((Q1.f K (y1.1.1,y2.1.1,[x.2.1],())).bind λy3=>some ((y3.1.1,true,()),())) else ((idx y1.1.1 y2.1.1).bind λ_=>(idx y1.1.1 (FK y2.1.1:Nat)).bind λy5=>(Q35.f K (x.2.1,y5,())).bind λy6=>bif decide (y6.1.1>0) then ((idx y1.1.1 y2.1.1).bind λ_=>(idx y1.1.1 (FK y2.1.1:Nat)).bind λy8=>some ((y1.1.1.set (FK y2.1.1) x.2.1,true,()),())) else (some ((y1.1.1,false,()),())))
def c:=Z1 63 (f K)
end Q53
namespace Q54
abbrev ps:Pz:=[.rd (.list false 46 t2),.rd (.list false 46 t2)]
abbrev rs:Rq:=[.v (.list true 46 t2)]
abbrev R:=Rr rs ps
abbrev A0:=List (Ty.den t2)×Int
def s0 (x:ab ps)(r0:A0->R)(a:A0):R:=bif decide (a.2<(FJ x.2.1:Int)) then ((idx x.2.1 a.2).bind λy4=>(Q53.f K (a.1,y4,())).bind λy5=>r0 (y5.1.1,wr .i64 (a.2+1))) else (some ((a.1,()),()))
def l0 (x:ab ps):A0->R:=ae (s0 K x) K
def pre (N0:A0->R)(x:ab ps):R:=(Q16.f K (x.1,())).bind λy1=>bif !y1.1.1 then (some (([],()),())) else ((Q16.f K (x.2.1,())).bind λy2=>bif !y2.1.1 then (some (([],()),())) else ((Q0.f K (x.1,())).bind λy3=>N0 (y3.1.1,0)))
def f (x:ab ps):R:=pre K (l0 K x) x
def c:=Z1 19 (f K)
end Q54
namespace Q55
abbrev ps:Pz:=[.rd (.list false 133 t3),.rd t2]
abbrev rs:Rq:=[.v (.list true 133 t3)]
abbrev R:=Rr rs ps
def f (x:ab ps):R:=(Q33.f K (x.1,())).bind λy1=>bif !y1.1.1 then (some (([],()),())) else ((Q15.f K (x.2.1,())).bind λy2=>bif !y2.1.1 then (some (([],()),())) else ((Q2.f K (x.1,())).bind λy3=>(Q32.f K (y3.1.1,())).bind λy4=>(Q21.f K (y4.1.1,x.2.1.1,())).bind λy5=>bif !y5.1.2.1 then ((Q3.f K (y3.1.1,y5.1.1,[(x.2.1,4)],())).bind λy6=>some ((y6.1.1,()),())) else ((idx y3.1.1 y5.1.1).bind λ_=>(idx y3.1.1 (FK y5.1.1:Nat)).bind λy8=>(Q35.f K (x.2.1,y8.1,())).bind λy9=>bif decide (y9.1.1>0) then ((idx y3.1.1 y5.1.1).bind λ_=>(idx y3.1.1 (FK y5.1.1:Nat)).bind λy11=>some ((y3.1.1.set (FK y5.1.1) (x.2.1,4),()),())) else (some ((y3.1.1,()),())))))
def c:=Z1 214 (f K)
end Q55
namespace Q56
abbrev ps:Pz:=[.rd (.list false 86 t6),.fn [t6] .bool]
abbrev rs:Rq:=[.v I6]
abbrev R:=Rr rs ps
abbrev A0:=Int
def s0 (K:Nat)(x:ab ps)(r0:A0->R)(a:A0):R:=bif decide (a<(FJ x.1:Int)) then ((idx x.1 a).bind λy1=>(x.2.1 (y1,())).bind λy2=>bif y2 then (some ((a,()),())) else (r0 (wr .i64 (a+1)))) else (some (((-1),()),()))
def l0 (x:ab ps):A0->R:=ae (s0 K x) K
def pre (K:Nat)(N0:A0->R)(x:ab ps):R:=N0 0
def f (x:ab ps):R:=pre K (l0 K x) x
def c:=Z1 272 (f K)
end Q56
namespace Q57
abbrev ps:Pz:=[.rd t6,.rref t2]
abbrev rs:Rq:=[.v .bool]
abbrev R:=Rr rs ps
def f (K:Nat)(x:ab ps):R:=some ((x.1.1==x.2.1.1,()),())
def c:=Z1 216 (f K)
end Q57
namespace Q58
abbrev ps:Pz:=[.rd (.list false 86 t6),.rd I6,.fn [t6,I6] I6]
abbrev rs:Rq:=[.v I6,.v .bool]
abbrev R:=Rr rs ps
abbrev A0:=Int×Int
def s0 (K:Nat)(x:ab ps)(r0:A0->R)(a:A0):R:=bif decide (a.1<a.2) then (let j1:=FM (wr .u64 (wr .i64 (a.1+a.2))) (2 ^ 1);(idx x.1 (wr .i64 j1)).bind λy1=>(x.2.2.1 (y1,x.2.1,())).bind λy2=>bif decide (y2<0) then (r0 (wr .i64 ((wr .i64 j1)+1),a.2)) else (r0 (a.1,wr .i64 j1))) else (bif decide (a.1<(FJ x.1:Int)) then ((idx x.1 a.1).bind λy3=>(x.2.2.1 (y3,x.2.1,())).bind λy4=>some ((a.1,y4==0,()),())) else (some ((a.1,false,()),())))
def l0 (x:ab ps):A0->R:=ae (s0 K x) K
def pre (K:Nat)(N0:A0->R)(x:ab ps):R:=N0 (0,(FJ x.1:Int))
def f (x:ab ps):R:=pre K (l0 K x) x
def c:=Z1 217 (f K)
end Q58
namespace Q59
abbrev ps:Pz:=[.rd t6,.rd I6]
abbrev rs:Rq:=[.v I6]
abbrev R:=Rr rs ps
def f (K:Nat)(x:ab ps):R:=some ((wr .i64 (x.1.1-x.2.1),()),())
def c:=Z1 218 (f K)
end Q59
namespace Q60
abbrev ps:Pz:=[.iop t66,.rd t2,.rd I6]
abbrev rs:Rq:=[]
abbrev R:=Rr rs ps
def f (x:ab ps):R:=let b1:=x.1.2.2.2.2.2.2.2.2;(Q22.f K (b1.1,x.2.1.1,())).bind λy1=>(Q53.f K (b1.1,x.2.1,())).bind λy2=>bif !y2.1.2.1 then (some ((),x.1,())) else ((Q55.f K (b1.2.1,x.2.1,())).bind λy3=>let j1:R:=(Q4.f K (b1.2.2.2.1,λy4=>(Q57.f K (y4.1,x.2.1,())).map λy=>y.1.1,())).bind λy5=>bif x.2.1.2.2.1==2 then ((Q58.f K (y5.1.1,x.2.1.1,λy6=>(Q59.f K (y6.1,y6.2.1,())).map λy=>y.1.1,())).bind λy7=>(Q5.f K (y5.1.1,y7.1.1,[(x.2.1.1,x.2.1.2.1,x.1.2.2.2.2.2.1,[x.2.2.1])],())).bind λy8=>some ((),(zcp8 x.1 (y2.1.1,y3.1.1,b1.2.2.1,y8.1.1,b1.2.2.2.2)),())) else (some ((),(zcp8 x.1 (y2.1.1,y3.1.1,b1.2.2.1,y5.1.1,b1.2.2.2.2)),()));bif y1.1.1.2.2.1==x.2.1.2.2.1 then (bif y1.1.1.2.1==x.2.1.2.1 then (some ((),(zcp8 x.1 (y2.1.1,y3.1.1,b1.2.2)),())) else j1) else j1)
def c:=Z0 145 (f K)
end Q60
namespace Q61
abbrev ps:Pz:=[.rd I6,.rd I6]
abbrev rs:Rq:=[.v .bool]
abbrev R:=Rr rs ps
def f (x:ab ps):R:=(Q18.f K (x.1,())).bind λy1=>let j1:=((decide (x.1<x.2.1),()),());bif y1.1.1 then ((Q18.f K (x.2.1,())).bind λy2=>bif !y2.1.1 then (some ((true,()),())) else (some j1)) else (some j1)
def c:=Z1 240 (f K)
end Q61
namespace Q62
abbrev ps:Pz:=[.rd I6]
abbrev rs:Rq:=[.v .bool]
abbrev R:=Rr rs ps
def f (K:Nat)(x:ab ps):R:=some ((x.1 != x.1,()),())
def c:=Z1 241 (f K)
end Q62
namespace Q63
abbrev ps:Pz:=[.rd (.list false 3 I6),.rd I6]
abbrev rs:Rq:=[.v I6,.v .bool]
abbrev R:=Rr rs ps
abbrev A0:=Int×Int
def s0 (x:ab ps)(r0:A0->R)(a:A0):R:=bif decide (a.1<a.2) then (let j1:=FM (wr .u64 (wr .i64 (a.1+a.2))) (2 ^ 1);(idx x.1 (wr .i64 j1)).bind λy1=>(Q61.f K (y1,x.2.1,())).bind λy2=>bif y2.1.1 then (r0 (wr .i64 ((wr .i64 j1)+1),a.2)) else (r0 (a.1,wr .i64 j1))) else (bif decide (a.1<(FJ x.1:Int)) then ((idx x.1 a.1).bind λy3=>bif y3==x.2.1 then (some ((a.1,true,()),())) else ((idx x.1 a.1).bind λy4=>(Q62.f K (y4,())).bind λy5=>bif y5.1.1 then ((Q62.f K (x.2.1,())).bind λy6=>some ((a.1,y6.1.1,()),())) else (some ((a.1,false,()),())))) else (some ((a.1,false,()),())))
def l0 (x:ab ps):A0->R:=ae (s0 K x) K
def pre (K:Nat)(N0:A0->R)(x:ab ps):R:=N0 (0,(FJ x.1:Int))
def f (x:ab ps):R:=pre K (l0 K x) x
def c:=Z1 175 (f K)
end Q63
namespace Q64
abbrev ps:Pz:=[.iop t66,.rd (.list false 46 t2),.rd I6]
abbrev rs:Rq:=[]
abbrev Res:=ai rs×ag ps
abbrev R:=Option Res
abbrev A1:=Int×Int×Int×Int×Bool×Bool×Bool×Int×Int×Int×Int×List (Ty.den t2)×List (Ty.den t3)×Int×Int×Int×Bool×List (Ty.den t50)×Int×Int×Int×Int×List (Ty.den t52)×List (Ty.den t12)×Int×Int×Int×Bool
abbrev A0:=Int×Int×Bool×Bool×Bool×Int×Int×Int×Int×List (Ty.den t2)×List (Ty.den t3)×Int×Int×Int×Bool×List (Ty.den t50)×Int×Int×Int×Int×List (Ty.den t52)×List (Ty.den t12)
def s1 (x:ab ps)(r0:A0->R)(r1:A1->R)(a:A1):R:=let b5:=a.2.2.1;let b3:=a.2.2.2.2.2.2.2.2.2.2.2;let b1:=b3.2.2.2.2;let b4:=b1.2.2.1;let b2:=b1.2.2.2.2.2.2.2.2;bif decide (b5<a.2.1) then ((idx b4 b5).bind λ_=>let j1:R:=r1 (a.1,a.2.1,wr .i64 (b5+1),a.2.2.2);bif b2.2.2.2.1 != 2 then j1 else (let j2:=(FK b5:Nat);(idx b4 j2).bind λy7=>bif y7.1 != b2.2.1 then j1 else ((idx b4 j2).bind λy8=>bif y8.2.1 != b2.2.2.1 then j1 else ((idx b4 j2).bind λy9=>(Q63.f K (y9.2.2.2,x.2.2.1,())).bind λy10=>bif !y10.1.2.1 then ((idx b4 j2).bind λy11=>(idx b4 j2).bind λy12=>(Q6.f K (y12.2.2.2,y10.1.1,[x.2.2.1],())).bind λy13=>(idx b4 j2).bind λy14=>bif Nat.beq (FK b5) (FK b5) then (r1 (a.1,a.2.1,wr .i64 (b5+1),(zcp8 a.2.2.2 (zcp4 b3 (b1.1,b1.2.1,b4.set (FK b5) (y14.1,y14.2.1,y14.2.2.1,y13.1.1),b1.2.2.2))))) else none) else j1)))) else (r0 (wr .i64 (a.1+1),(zcp8 a.2.2.2 (zcp8 b3 (zcp4 b1.2.2.2.2 b2.1)))))
def l1 (x:ab ps)(r0:A0->R):A1->R:=ae (s1 K x r0) K
def s0 (x:ab ps)(N1:A1->R)(r0:A0->R)(a:A0):R:=let b3:=a.2.2.2.2.2.2;let b1:=b3.2.2.2;let b2:=b1.2.2.2.2.2;bif decide (a.1<(FJ x.2.1:Int)) then ((idx x.2.1 a.1).bind λy1=>bif y1.1==a.2.1 then ((Q22.f K (b1.1,a.2.1,())).bind λy2=>(Q36.f K (y1,y2.1.1,())).bind λy3=>bif y3.1.1 then (bif decide (y1.2.1<999) then ((Q60.f K ((zcp4 a.2 (wr .i64 (y1.2.1+1),b3.1,b3.2.1,b3.2.2.1,b1.1,b1.2.1,(b1.2.2.1,b1.2.2.2.1,b1.2.2.2.2.1,b2.1),b2.2.1,(b2.2.2.1,b2.2.2.2.1,b2.2.2.2.2.1,b2.2.2.2.2.2.1),b2.2.2.2.2.2.2)),(a.2.1,wr .i64 (y1.2.1+1),1,a.2.2.2.2.1),a.2.1,())).bind λy4=>r0 (wr .i64 (a.1+1),(zc3ec45 y4.2.1))) else (r0 (wr .i64 (a.1+1),a.2))) else (r0 (wr .i64 (a.1+1),a.2))) else ((Q60.f K (zc286a0 a.2 (y1,x.2.2.1,()))).bind λy5=>N1 (a.1,(FJ y5.2.1.2.2.2.2.2.2.2.2.2.2.2.1:Int),0,(zcf8680 y5.2.1 y1)))) else (some ((),(zc286a0 a.2 ())))
def l0 (x:ab ps):A0->R:=ae (λr0 a=>s0 K x (l1 K x r0) r0 a) K
def pre (K:Nat)(N0:A0->R)(x:ab ps):R:=N0 (0,(zc3ec45 x.1))
def f (x:ab ps):R:=pre K (l0 K x) x
def c:=Z0 109 (f K)
def G:List Ctr:=[Q22.c K,Q36.c K,Q60.c K,Q63.c K,Q6.c K]
def v1:List (Nat×List Coe):=[(0,[.keep]),(2,[.keep]),(7,[.keep]),(14,[.ro true 46 t2]),(15,[.keep]),(16,[.keep]),(80,[.keep]),(81,[.keep]),(100000,Kc5),(100007,Kc1)]
def v0:List (Nat×List Coe):=[(0,[.keep]),(2,[.keep]),(14,[.ro true 46 t2]),(15,[.keep]),(16,[.keep]),(100000,Kc5)]
def L:List (Nat×List (Nat×List Coe)):=[(11,v1),(2,v0)]
def body:Code:=cY Tryz.f109
abbrev ev:Code->St->(Ex->St->R)->R:=evK (G K) T_NL L K
abbrev fin:Ex->St->R:=du T_NL ps rs false Tryz.f109.results.toList
def S0 (x:ab ps)(a:A0):St:=av [(0,⟨0,.one,[.bp 100000 0]⟩),(2,⟨0,.one,[.int .i64 x.2.2.1]⟩),(14,⟨0,.one,[.ro true 46 t2 x.2.1]⟩),(15,⟨0,.one,[.int .i64 (FJ x.2.1:Int)]⟩),(16,⟨0,.one,[.int .i64 a.1]⟩),(100000,⟨0,.agg,[.int .i64 a.2.1,.bool a.2.2.1,.bool a.2.2.2.1,.bool a.2.2.2.2.1,.int .i64 a.2.2.2.2.2.1,.int .i64 a.2.2.2.2.2.2.1,.int .i64 a.2.2.2.2.2.2.2.1,.int .i64 a.2.2.2.2.2.2.2.2.1,.own false none 46 t2 a.2.2.2.2.2.2.2.2.2.1,.own false none 133 t3 a.2.2.2.2.2.2.2.2.2.2.1,.int .i64 a.2.2.2.2.2.2.2.2.2.2.2.1,.int .i64 a.2.2.2.2.2.2.2.2.2.2.2.2.1,.int .i64 a.2.2.2.2.2.2.2.2.2.2.2.2.2.1,.bool a.2.2.2.2.2.2.2.2.2.2.2.2.2.2.1,.own false none 86 t50 a.2.2.2.2.2.2.2.2.2.2.2.2.2.2.2.1,.int .i64 a.2.2.2.2.2.2.2.2.2.2.2.2.2.2.2.2.1,.int .i64 a.2.2.2.2.2.2.2.2.2.2.2.2.2.2.2.2.2.1,.int .i64 a.2.2.2.2.2.2.2.2.2.2.2.2.2.2.2.2.2.2.1,.int .i64 a.2.2.2.2.2.2.2.2.2.2.2.2.2.2.2.2.2.2.2.1,.own false none 89 t52 a.2.2.2.2.2.2.2.2.2.2.2.2.2.2.2.2.2.2.2.2.1,.own true none 91 t12 a.2.2.2.2.2.2.2.2.2.2.2.2.2.2.2.2.2.2.2.2.2]⟩)]
def S1 (x:ab ps)(a:A1):St:=av [(0,⟨0,.one,[.bp 100000 0]⟩),(2,⟨0,.one,[.int .i64 x.2.2.1]⟩),(7,⟨0,.one,[.bp 100007 0]⟩),(14,⟨0,.one,[.ro true 46 t2 x.2.1]⟩),(15,⟨0,.one,[.int .i64 (FJ x.2.1:Int)]⟩),(16,⟨0,.one,[.int .i64 a.1]⟩),(80,⟨0,.one,[.int .i64 a.2.1]⟩),(81,⟨0,.one,[.int .i64 a.2.2.1]⟩),(100000,⟨0,.agg,(wa2 a.2.2.2)⟩),(100007,⟨0,.agg,(wa3 a.2.2.2.2.2.2.2.2.2.2.2.2.2.2.2.2.2.2.2.2.2.2.2.2)⟩)]
def k0 (x:ab ps):Ex->St->R:=kAt (ev K) body [1,0] fin
def N0 (x:ab ps):A0->R:=λa=>aY v0 (ev K (sub body [1,0,0])) K (S0 x a) (k0 K x)
def k1 (x:ab ps)(q0:St->R):Ex->St->R:=kAt (ev K) (sub body [1,0,0]) [1,1,0,0,1,1,1,1,0] (iq v0 q0 (k0 K x))
def N1 (x:ab ps)(q0:St->R):A1->R:=λa=>aY v1 (ev K (sub body [1,0,0,1,1,0,0,1,1,1,1,0,0])) K (S1 x a) (k1 K x q0)
end Q64
namespace Q65
abbrev ps:Pz:=[.rref t26,.rd I6]
abbrev rs:Rq:=[.bv (.list false 46 t2)]
abbrev R:=Rr rs ps
abbrev A0:=Int
def s0 (K:Nat)(x:ab ps)(r0:A0->R)(a:A0):R:=let b1:=x.1.2.2.2.2.2.2.2.2.2.2.2.2.2.2;bif decide (a<(FJ b1:Int)) then ((idx b1 a).bind λy1=>bif y1.1==x.2.1 then (some ((y1.2,()),())) else (r0 (wr .i64 (a+1)))) else (some (([],()),()))
def l0 (x:ab ps):A0->R:=ae (s0 K x) K
def pre (K:Nat)(N0:A0->R)(x:ab ps):R:=N0 0
def f (x:ab ps):R:=pre K (l0 K x) x
def c:=Z1 169 (f K)
end Q65
namespace Q66
abbrev ps:Pz:=[.rd (.list false 91 t12),.rd I6,.fn [t12,I6] I6]
abbrev rs:Rq:=[.v I6,.v .bool]
abbrev R:=Rr rs ps
abbrev A0:=Int×Int
def s0 (K:Nat)(x:ab ps)(r0:A0->R)(a:A0):R:=bif decide (a.1<a.2) then (let j1:=FM (wr .u64 (wr .i64 (a.1+a.2))) (2 ^ 1);(idx x.1 (wr .i64 j1)).bind λy1=>(x.2.2.1 (y1,x.2.1,())).bind λy2=>bif decide (y2<0) then (r0 (wr .i64 ((wr .i64 j1)+1),a.2)) else (r0 (a.1,wr .i64 j1))) else (bif decide (a.1<(FJ x.1:Int)) then ((idx x.1 a.1).bind λy3=>(x.2.2.1 (y3,x.2.1,())).bind λy4=>some ((a.1,y4==0,()),())) else (some ((a.1,false,()),())))
def l0 (x:ab ps):A0->R:=ae (s0 K x) K
def pre (K:Nat)(N0:A0->R)(x:ab ps):R:=N0 (0,(FJ x.1:Int))
def f (x:ab ps):R:=pre K (l0 K x) x
def c:=Z1 170 (f K)
end Q66
namespace Q67
abbrev ps:Pz:=[.rd t12,.rd I6]
abbrev rs:Rq:=[.v I6]
abbrev R:=Rr rs ps
def f (K:Nat)(x:ab ps):R:=some ((wr .i64 (x.1.1-x.2.1),()),())
def c:=Z1 171 (f K)
end Q67
namespace Q68
abbrev ps:Pz:=[.rd (.list false 46 t2),.rd (.list false 46 t2)]
abbrev rs:Rq:=[.v .bool]
abbrev R:=Rr rs ps
abbrev A0:=Int
def s0 (K:Nat)(x:ab ps)(r0:A0->R)(a:A0):R:=bif decide (a<(FJ x.1:Int)) then ((idx x.1 a).bind λy1=>(idx x.2.1 a).bind λy2=>bif !Ty.eqv t2 y1 y2 then (some ((false,()),())) else (r0 (wr .i64 (a+1)))) else (some ((true,()),()))
def l0 (x:ab ps):A0->R:=ae (s0 K x) K
def pre (K:Nat)(N0:A0->R)(x:ab ps):R:=bif (FJ x.1:Int) != (FJ x.2.1:Int) then (some ((false,()),())) else (N0 0)
def f (x:ab ps):R:=pre K (l0 K x) x
def c:=Z1 173 (f K)
end Q68
namespace Q69
abbrev ps:Pz:=[.rref t26,.rd I6,.rd I6]
abbrev rs:Rq:=[.v t73]
abbrev R:=Rr rs ps
def f (K:Nat)(x:ab ps):R:=some (((1,x.2.1,x.1.1,x.2.2.1,0,x.1.1,x.1.2.2.2.2.2.2.2.2.2.2.2.2.1,[]),()),())
def c:=Z1 174 (f K)
end Q69
namespace Q70
abbrev ps:Pz:=[.iop t66,.rd t47]
abbrev rs:Rq:=[.v (.list true 35 t73)]
abbrev R:=Rr rs ps
def f (x:ab ps):R:=let b3:=x.1.2.2.2.2.2.2.2.2;let b2:=x.2.1.2.2.2.2.2.2.2;let b1:=b3.2.2.2.2;(idx b2 0).bind λy1=>(Q25.f K (y1.1,())).bind λy2=>(Q28.f K (x.1,())).bind λy3=>bif y2.1.1==y3.1.1 then ((Q64.f K (x.1,b2,x.1.1,())).bind λy4=>some (([],()),y4.2.1,())) else ((Q65.f K (x.1,y2.1.1,())).bind λy5=>(Q54.f K (y5.1.1,b2,())).bind λy6=>(Q66.f K (b1.2.2,y2.1.1,λy7=>(Q67.f K (y7.1,y7.2.1,())).map λy=>y.1.1,())).bind λy8=>let j3:=(y6.1.1,b2,());bif y8.1.2.1 then ((idx b1.2.2 y8.1.1).bind λ_=>(idx b1.2.2 (FK y8.1.1:Nat)).bind λy10=>let j1:=(zcp8 x.1 (zcp4 b3 (b1.1,b1.2.1,b1.2.2.set (FK y8.1.1) (y10.1,y6.1.1))));bif x.2.1.1==1 then (some (([],()),j1,())) else ((Q68.f K j3).bind λy11=>bif y11.1.1 then (some (([],()),j1,())) else ((Q69.f K (j1,6,x.2.1.2.2.1,())).bind λy12=>(Q0.f K (y6.1.1,())).bind λy13=>some (([(2,(zcp4 y12.1.1.2 (y12.1.1.2.2.2.2.2.1,y12.1.1.2.2.2.2.2.2.1,y13.1.1)))],()),j1,())))) else ((Q7.f K (b1.2.2,y8.1.1,[(y2.1.1,y6.1.1)],())).bind λy14=>let j2:=(zcp8 x.1 (zcp4 b3 (b1.1,b1.2.1,y14.1.1)));bif x.2.1.1==1 then (some (([],()),j2,())) else ((Q68.f K j3).bind λy15=>bif y15.1.1 then (some (([],()),j2,())) else ((Q69.f K (j2,6,x.2.1.2.2.1,())).bind λy16=>(Q0.f K (y6.1.1,())).bind λy17=>some (([(2,(zcp4 y16.1.1.2 (y16.1.1.2.2.2.2.2.1,y16.1.1.2.2.2.2.2.2.1,y17.1.1)))],()),j2,())))))
def c:=Z0 108 (f K)
end Q70
namespace Q71
abbrev ps:Pz:=[.rd I6,.rd I6,.rd I6]
abbrev rs:Rq:=[.v I6]
abbrev R:=Rr rs ps
def f (K:Nat)(x:ab ps):R:=some ((bif decide (x.2.1<(bif decide (x.2.2.1<x.1) then x.2.2.1 else x.1)) then bif decide (x.2.2.1<x.1) then x.2.2.1 else x.1 else x.2.1,()),())
def c:=Z1 247 (f K)
end Q71
namespace Q72
abbrev ps:Pz:=[.rd (.list false 3 I6),.rd I6]
abbrev rs:Rq:=[.v (.list true 3 I6)]
abbrev R:=Rr rs ps
def f (x:ab ps):R:=(Q71.f K (x.2.1,0,(FJ x.1:Int),())).bind λy1=>bif decide (0<=0)&&decide (0<=y1.1.1)&&decide (y1.1.1<=(FJ x.1:Int))&&true then ((Q8.f K ((x.1.take (FK y1.1.1)).drop (FK 0),())).bind λy2=>some ((y2.1.1,()),())) else none
def c:=Z1 200 (f K)
end Q72
namespace Q73
abbrev ps:Pz:=[.io (.list true 3 I6),.rd I6,.rd I6,.fn [I6,I6] I6]
abbrev rs:Rq:=[]
abbrev R:=Rr rs ps
abbrev A1:=List (Ty.den I6)×Int×Int
abbrev A0:=List (Ty.den I6)×Int
def s1 (K:Nat)(x:ab ps)(r0:A0->R)(r1:A1->R)(a:A1):R:=bif decide (a.2.2>x.2.1) then ((idx a.1 a.2.2).bind λ_=>(idx a.1 (FK a.2.2:Nat)).bind λy2=>(idx a.1 (wr .i64 (a.2.2-1))).bind λ_=>let j1:=(FK (wr .i64 (a.2.2-1)):Nat);(idx a.1 j1).bind λy4=>(x.2.2.2.1 (y2,y4,())).bind λy5=>bif decide (y5<0) then ((idx a.1 (wr .i64 (a.2.2-1))).bind λ_=>(idx a.1 j1).bind λy7=>(idx a.1 a.2.2).bind λ_=>(idx a.1 (FK a.2.2:Nat)).bind λy9=>(idx a.1 a.2.2).bind λ_=>(idx a.1 (FK a.2.2:Nat)).bind λy11=>let j2:=a.1.set (FK a.2.2) y7;(idx j2 (wr .i64 (a.2.2-1))).bind λ_=>(idx j2 j1).bind λy13=>r1 (j2.set (FK (wr .i64 (a.2.2-1))) y9,a.2.1,wr .i64 (a.2.2-1))) else (r0 (a.1,wr .i64 (a.2.1+1)))) else (r0 (a.1,wr .i64 (a.2.1+1)))
def l1 (x:ab ps)(r0:A0->R):A1->R:=ae (s1 K x r0) K
def s0 (K:Nat)(x:ab ps)(N1:A1->R)(r0:A0->R)(a:A0):R:=bif decide (a.2<x.2.2.1) then (N1 (a.1,a.2,a.2)) else (some ((),a.1,()))
def l0 (x:ab ps):A0->R:=ae (λr0 a=>s0 K x (l1 K x r0) r0 a) K
def pre (K:Nat)(N0:A0->R)(x:ab ps):R:=N0 (x.1,wr .i64 (x.2.1+1))
def f (x:ab ps):R:=pre K (l0 K x) x
def c:=Z1 330 (f K)
def G (K:Nat):List Ctr:=[]
def v1:List (Nat×List Coe):=[(0,[.own false 3 I6]),(1,[.keep]),(2,[.keep]),(3,[.keep]),(8,[.keep]),(9,[.keep])]
def v0:List (Nat×List Coe):=[(0,[.own false 3 I6]),(1,[.keep]),(2,[.keep]),(3,[.keep]),(8,[.keep])]
def L:List (Nat×List (Nat×List Coe)):=[(5,v1),(2,v0)]
def body:Code:=cY Tryz.f330
abbrev ev:Code->St->(Ex->St->R)->R:=evK (G K) T_S L K
abbrev fin:Ex->St->R:=du T_S ps rs true Tryz.f330.results.toList
def S0 (x:ab ps)(a:A0):St:=av [(0,⟨0,.one,[.own false none 3 I6 a.1]⟩),(1,⟨0,.one,[.int .i64 x.2.1]⟩),(2,⟨0,.one,[.int .i64 x.2.2.1]⟩),(3,⟨0,.one,[.fn [I6,I6] I6 x.2.2.2.1]⟩),(8,⟨0,.one,[.int .i64 a.2]⟩)]
def S1 (x:ab ps)(a:A1):St:=av [(0,⟨0,.one,[.own false none 3 I6 a.1]⟩),(1,⟨0,.one,[.int .i64 x.2.1]⟩),(2,⟨0,.one,[.int .i64 x.2.2.1]⟩),(3,⟨0,.one,[.fn [I6,I6] I6 x.2.2.2.1]⟩),(8,⟨0,.one,[.int .i64 a.2.1]⟩),(9,⟨0,.one,[.int .i64 a.2.2]⟩)]
def k0 (x:ab ps):Ex->St->R:=kAt (ev K) body [1,0] fin
def N0 (x:ab ps):A0->R:=λa=>aY v0 (ev K (sub body [1,0,0])) K (S0 x a) (k0 K x)
def k1 (x:ab ps)(q0:St->R):Ex->St->R:=kAt (ev K) (sub body [1,0,0]) [1,0,0,1,0] (iq v0 q0 (k0 K x))
def N1 (x:ab ps)(q0:St->R):A1->R:=λa=>aY v1 (ev K (sub body [1,0,0,1,0,0,1,0,0])) K (S1 x a) (k1 K x q0)
end Q73
namespace Q74
abbrev ps:Pz:=[.io (.list true 3 I6),.rd I6,.fn [I6,I6] I6]
abbrev rs:Rq:=[]
abbrev Res:=ai rs×ag ps
abbrev R:=Option Res
abbrev A2:=List (Ty.den I6)×Int×Int
abbrev A1:=List (Ty.den I6)×Int
abbrev A0:=List (Ty.den I6)×Int×Int
def s2 (K:Nat)(x:ab ps)(r1:A1->R)(r2:A2->R)(a:A2):R:=bif decide (a.2.2<=x.2.1) then none else (bif decide ((wr .i64 (0+a.2.1))<x.2.1) then none else (r1 (a.1,wr .i64 (a.2.1*2))))
def l2 (x:ab ps)(r1:A1->R):A2->R:=ae (s2 K x r1) K
def s1 (K:Nat)(x:ab ps)(N2:A2->R)(r1:A1->R)(a:A1):R:=bif decide (a.2<x.2.1) then (N2 (a.1,a.2,wr .i64 (2*a.2))) else (some ((),a.1,()))
def l1 (x:ab ps):A1->R:=ae (λr1 a=>s1 K x (l2 K x r1) r1 a) K
def s0 (x:ab ps)(N1:A1->R)(r0:A0->R)(a:A0):R:=bif decide (a.2.2<=x.2.1) then ((Q73.f K (a.1,a.2.1,a.2.2,x.2.2.1,())).bind λy1=>r0 (y1.2.1,a.2.2,wr .i64 (a.2.2+20))) else ((Q73.f K (a.1,a.2.1,x.2.1,x.2.2.1,())).bind λy2=>N1 (y2.2.1,20))
def l0 (x:ab ps):A0->R:=ae (s0 K x (l1 K x)) K
def pre (K:Nat)(N0:A0->R)(x:ab ps):R:=N0 (x.1,0,20)
def f (x:ab ps):R:=pre K (l0 K x) x
def c:=Z1 318 (f K)
def G:List Ctr:=[Q73.c K]
def v2:List (Nat×List Coe):=[(0,[.own false 3 I6]),(1,[.keep]),(2,[.keep]),(6,[.keep]),(7,[.keep]),(8,[.keep])]
def v1:List (Nat×List Coe):=[(0,[.own false 3 I6]),(1,[.keep]),(2,[.keep]),(6,[.keep])]
def v0:List (Nat×List Coe):=[(0,[.own false 3 I6]),(1,[.keep]),(2,[.keep]),(6,[.keep]),(7,[.keep]),(8,[.keep])]
def L:List (Nat×List (Nat×List Coe)):=[(10,v2),(8,v1),(3,v0)]
def body:Code:=cY Tryz.f318
abbrev ev:Code->St->(Ex->St->R)->R:=evK (G K) T_S L K
abbrev fin:Ex->St->R:=du T_S ps rs true Tryz.f318.results.toList
def S0 (x:ab ps)(a:A0):St:=av [(0,⟨0,.one,[.own false none 3 I6 a.1]⟩),(1,⟨0,.one,[.int .i64 x.2.1]⟩),(2,⟨0,.one,[.fn [I6,I6] I6 x.2.2.1]⟩),(6,⟨0,.one,[.int .i64 20]⟩),(7,⟨0,.one,[.int .i64 a.2.1]⟩),(8,⟨0,.one,[.int .i64 a.2.2]⟩)]
def S1 (x:ab ps)(a:A1):St:=av [(0,⟨0,.one,[.own false none 3 I6 a.1]⟩),(1,⟨0,.one,[.int .i64 x.2.1]⟩),(2,⟨0,.one,[.fn [I6,I6] I6 x.2.2.1]⟩),(6,⟨0,.one,[.int .i64 a.2]⟩)]
def S2 (x:ab ps)(a:A2):St:=av [(0,⟨0,.one,[.own false none 3 I6 a.1]⟩),(1,⟨0,.one,[.int .i64 x.2.1]⟩),(2,⟨0,.one,[.fn [I6,I6] I6 x.2.2.1]⟩),(6,⟨0,.one,[.int .i64 a.2.1]⟩),(7,⟨0,.one,[.int .i64 0]⟩),(8,⟨0,.one,[.int .i64 a.2.2]⟩)]
def k0 (x:ab ps):Ex->St->R:=kAt (ev K) body [1,1,0,0] fin
def N0 (x:ab ps):A0->R:=λa=>aY v0 (ev K (sub body [1,1,0,0,0])) K (S0 x a) (k0 K x)
def k1 (x:ab ps):Ex->St->R:=kAt (ev K) body [1,1,1,1,0] fin
def N1 (x:ab ps):A1->R:=λa=>aY v1 (ev K (sub body [1,1,1,1,0,0])) K (S1 x a) (k1 K x)
def k2 (x:ab ps)(q1:St->R):Ex->St->R:=kAt (ev K) (sub body [1,1,1,1,0,0]) [1,0,1,0,0] (iq v1 q1 (k1 K x))
def N2 (x:ab ps)(q1:St->R):A2->R:=λa=>aY v2 (ev K (sub body [1,1,1,1,0,0,1,0,1,0,0,0])) K (S2 x a) (k2 K x q1)
end Q74
namespace Q75
abbrev ps:Pz:=[.io (.list true 3 I6),.fn [I6,I6] I6]
abbrev rs:Rq:=[]
abbrev R:=Rr rs ps
def f (x:ab ps):R:=(Q74.f K (x.1,(FJ x.1:Int),x.2.1,())).bind λy1=>some ((),y1.2.1,())
def c:=Z1 285 (f K)
end Q75
namespace Q76
abbrev ps:Pz:=[.rd I6,.rd I6,.rref (.list false 133 t3)]
abbrev rs:Rq:=[.v I6]
abbrev R:=Rr rs ps
def f (K:Nat)(x:ab ps):R:=(idx x.2.2.1 x.2.1).bind λy1=>(idx x.2.2.1 x.1).bind λy2=>some ((wr .i64 (y1.2-y2.2),()),())
def c:=Z1 286 (f K)
end Q76
namespace Q77
abbrev ps:Pz:=[.rd (.int .u64)]
abbrev rs:Rq:=[.v I6]
abbrev R:=Rr rs ps
def f (K:Nat)(x:ab ps):R:=let j1:=ByteArray.mk #[0,1,2,2,3,3,3,3,4,4,4,4,4,4,4,4,5,5,5,5,5,5,5,5,5,5,5,5,5,5,5,5,6,6,6,6,6,6,6,6,6,6,6,6,6,6,6,6,6,6,6,6,6,6,6,6,6,6,6,6,6,6,6,6,7,7,7,7,7,7,7,7,7,7,7,7,7,7,7,7,7,7,7,7,7,7,7,7,7,7,7,7,7,7,7,7,7,7,7,7,7,7,7,7,7,7,7,7,7,7,7,7,7,7,7,7,7,7,7,7,7,7,7,7,7,7,7,7,8,8,8,8,8,8,8,8,8,8,8,8,8,8,8,8,8,8,8,8,8,8,8,8,8,8,8,8,8,8,8,8,8,8,8,8,8,8,8,8,8,8,8,8,8,8,8,8,8,8,8,8,8,8,8,8,8,8,8,8,8,8,8,8,8,8,8,8,8,8,8,8,8,8,8,8,8,8,8,8,8,8,8,8,8,8,8,8,8,8,8,8,8,8,8,8,8,8,8,8,8,8,8,8,8,8,8,8,8,8,8,8,8,8,8,8,8,8,8,8,8,8,8,8,8,8,8,8];bif decide (x.1>=4294967296) then (bif decide ((FM x.1 (2 ^ 32))>=65536) then (let j2:=FM (FM x.1 (2 ^ 32)) (2 ^ 16);bif decide (j2>=256) then ((idx j1.data.toList (wr .u8 (FM j2 (2 ^ 8)))).bind λy1=>some ((wr .i64 ((wr .i64 ((wr .i64 (32+16))+8))+(wr .i64 (y1.toNat:Int))),()),())) else ((idx j1.data.toList (wr .u8 j2)).bind λy2=>some ((wr .i64 ((wr .i64 (32+16))+(wr .i64 (y2.toNat:Int))),()),()))) else (bif decide ((FM x.1 (2 ^ 32))>=256) then ((idx j1.data.toList (wr .u8 (FM (FM x.1 (2 ^ 32)) (2 ^ 8)))).bind λy3=>some ((wr .i64 ((wr .i64 (32+8))+(wr .i64 (y3.toNat:Int))),()),())) else ((idx j1.data.toList (wr .u8 (FM x.1 (2 ^ 32)))).bind λy4=>some ((wr .i64 (32+(wr .i64 (y4.toNat:Int))),()),())))) else (bif decide (x.1>=65536) then (bif decide ((FM x.1 (2 ^ 16))>=256) then ((idx j1.data.toList (wr .u8 (FM (FM x.1 (2 ^ 16)) (2 ^ 8)))).bind λy5=>some ((wr .i64 ((wr .i64 ((wr .i64 (0+16))+8))+(wr .i64 (y5.toNat:Int))),()),())) else ((idx j1.data.toList (wr .u8 (FM x.1 (2 ^ 16)))).bind λy6=>some ((wr .i64 ((wr .i64 (0+16))+(wr .i64 (y6.toNat:Int))),()),()))) else (bif decide (x.1>=256) then ((idx j1.data.toList (wr .u8 (FM x.1 (2 ^ 8)))).bind λy7=>some ((wr .i64 ((wr .i64 (0+8))+(wr .i64 (y7.toNat:Int))),()),())) else ((idx j1.data.toList (wr .u8 x.1)).bind λy8=>some ((wr .i64 (0+(wr .i64 (y8.toNat:Int))),()),()))))
def c:=Z1 266 (f K)
end Q77
namespace Q78
abbrev ps:Pz:=[.rd (.int .u64)]
abbrev rs:Rq:=[.v I6]
abbrev R:=Rr rs ps
def f (x:ab ps):R:=(Q77.f K (x.1,())).bind λy1=>some ((y1.1.1,()),())
def c:=Z1 196 (f K)
end Q78
namespace Q79
abbrev ps:Pz:=[.io (.list true 3 I6),.rd I6,.rd I6]
abbrev rs:Rq:=[]
abbrev R:=Rr rs ps
abbrev A1:=List (Ty.den I6)×Int×Int
abbrev A0:=List (Ty.den I6)×Int
def s1 (x:ab ps)(r0:A0->R)(r1:A1->R)(a:A1):R:=bif decide (a.2.2>x.2.1) then ((idx a.1 a.2.2).bind λ_=>(idx a.1 (FK a.2.2:Nat)).bind λy2=>(idx a.1 (wr .i64 (a.2.2-1))).bind λ_=>let j1:=(FK (wr .i64 (a.2.2-1)):Nat);(idx a.1 j1).bind λy4=>(Q61.f K (y2,y4,())).bind λy5=>bif y5.1.1 then ((idx a.1 (wr .i64 (a.2.2-1))).bind λ_=>(idx a.1 j1).bind λy7=>(idx a.1 a.2.2).bind λ_=>(idx a.1 (FK a.2.2:Nat)).bind λy9=>(idx a.1 a.2.2).bind λ_=>(idx a.1 (FK a.2.2:Nat)).bind λy11=>let j2:=a.1.set (FK a.2.2) y7;(idx j2 (wr .i64 (a.2.2-1))).bind λ_=>(idx j2 j1).bind λy13=>r1 (j2.set (FK (wr .i64 (a.2.2-1))) y9,a.2.1,wr .i64 (a.2.2-1))) else (r0 (a.1,wr .i64 (a.2.1+1)))) else (r0 (a.1,wr .i64 (a.2.1+1)))
def l1 (x:ab ps)(r0:A0->R):A1->R:=ae (s1 K x r0) K
def s0 (K:Nat)(x:ab ps)(N1:A1->R)(r0:A0->R)(a:A0):R:=bif decide (a.2<x.2.2.1) then (N1 (a.1,a.2,a.2)) else (some ((),a.1,()))
def l0 (x:ab ps):A0->R:=ae (λr0 a=>s0 K x (l1 K x r0) r0 a) K
def pre (K:Nat)(N0:A0->R)(x:ab ps):R:=N0 (x.1,wr .i64 (x.2.1+1))
def f (x:ab ps):R:=pre K (l0 K x) x
def c:=Z1 332 (f K)
def G:List Ctr:=[Q61.c K]
def v1:List (Nat×List Coe):=[(0,[.own false 3 I6]),(1,[.keep]),(2,[.keep]),(6,[.keep]),(7,[.keep])]
def v0:List (Nat×List Coe):=[(0,[.own false 3 I6]),(1,[.keep]),(2,[.keep]),(6,[.keep])]
def L:List (Nat×List (Nat×List Coe)):=[(5,v1),(2,v0)]
def body:Code:=cY Tryz.f332
abbrev ev:Code->St->(Ex->St->R)->R:=evK (G K) T_S L K
abbrev fin:Ex->St->R:=du T_S ps rs true Tryz.f332.results.toList
def S0 (x:ab ps)(a:A0):St:=av [(0,⟨0,.one,[.own false none 3 I6 a.1]⟩),(1,⟨0,.one,[.int .i64 x.2.1]⟩),(2,⟨0,.one,[.int .i64 x.2.2.1]⟩),(6,⟨0,.one,[.int .i64 a.2]⟩)]
def S1 (x:ab ps)(a:A1):St:=av [(0,⟨0,.one,[.own false none 3 I6 a.1]⟩),(1,⟨0,.one,[.int .i64 x.2.1]⟩),(2,⟨0,.one,[.int .i64 x.2.2.1]⟩),(6,⟨0,.one,[.int .i64 a.2.1]⟩),(7,⟨0,.one,[.int .i64 a.2.2]⟩)]
def k0 (x:ab ps):Ex->St->R:=kAt (ev K) body [1,0] fin
def N0 (x:ab ps):A0->R:=λa=>aY v0 (ev K (sub body [1,0,0])) K (S0 x a) (k0 K x)
def k1 (x:ab ps)(q0:St->R):Ex->St->R:=kAt (ev K) (sub body [1,0,0]) [1,0,0,1,0] (iq v0 q0 (k0 K x))
def N1 (x:ab ps)(q0:St->R):A1->R:=λa=>aY v1 (ev K (sub body [1,0,0,1,0,0,1,0,0])) K (S1 x a) (k1 K x q0)
end Q79
namespace Q80
abbrev ps:Pz:=[.rd (.list false 3 I6),.rd I6,.rd I6,.iop I6]
abbrev rs:Rq:=[.v I6,.v I6]
abbrev R:=Rr rs ps
def f (x:ab ps):R:=(idx x.1 x.2.2.1).bind λy1=>(idx x.1 x.2.1).bind λy2=>(Q61.f K (y1,y2,())).bind λy3=>bif y3.1.1 then (some ((x.2.2.1,x.2.1,()),wr .i64 (x.2.2.2.1+1),())) else (some ((x.2.1,x.2.2.1,()),x.2.2.2.1,()))
def c:=Z1 346 (f K)
end Q80
namespace Q81
abbrev ps:Pz:=[.rd (.list false 3 I6),.rd I6,.rd I6,.rd I6,.iop I6]
abbrev rs:Rq:=[.v I6]
abbrev R:=Rr rs ps
def f (x:ab ps):R:=(Q80.f K (x.1,x.2.1,x.2.2.1,x.2.2.2.2.1,())).bind λy1=>(Q80.f K (x.1,y1.1.2.1,x.2.2.2.1,y1.2.1,())).bind λy2=>(Q80.f K (x.1,y1.1.1,y2.1.1,y2.2.1,())).bind λy3=>some ((y3.1.2.1,()),y3.2.1,())
def c:=Z1 344 (f K)
end Q81
namespace Q82
abbrev ps:Pz:=[.rd (.list false 3 I6),.rd I6,.iop I6]
abbrev rs:Rq:=[.v I6]
abbrev R:=Rr rs ps
def f (x:ab ps):R:=(Q81.f K (x.1,wr .i64 (x.2.1-1),x.2.1,wr .i64 (x.2.1+1),x.2.2.1,())).bind λy1=>some ((y1.1.1,()),y1.2.1,())
def c:=Z1 343 (f K)
end Q82
namespace Q83
abbrev ps:Pz:=[.rd (.list false 3 I6),.rd I6,.rd I6]
abbrev rs:Rq:=[.v I6,.v I6]
abbrev R:=Rr rs ps
def f (x:ab ps):R:=let j3:=wr .i64 (x.2.2.1-x.2.1);let j1:=wr .i64 (FL j3 4);let j2:=x.2.1+(wr .i64 (j1*2));bif decide (j3>=8) then (let j4:=x.2.1+(wr .i64 (j1*1));let j5:=x.2.1+(wr .i64 (j1*3));bif decide (j3>=50) then ((Q82.f K (x.1,wr .i64 j4,0,())).bind λy1=>(Q82.f K (x.1,wr .i64 j2,y1.2.1,())).bind λy2=>(Q82.f K (x.1,wr .i64 j5,y2.2.1,())).bind λy3=>(Q81.f K (x.1,y1.1.1,y2.1.1,y3.1.1,y3.2.1,())).bind λy4=>bif y4.2.1==0 then (some ((y4.1.1,1,()),())) else (bif y4.2.1==12 then (some ((y4.1.1,2,()),())) else (some ((y4.1.1,0,()),())))) else ((Q81.f K (x.1,wr .i64 j4,wr .i64 j2,wr .i64 j5,0,())).bind λy5=>bif y5.2.1==0 then (some ((y5.1.1,1,()),())) else (bif y5.2.1==12 then (some ((y5.1.1,2,()),())) else (some ((y5.1.1,0,()),()))))) else (some ((wr .i64 j2,1,()),()))
def c:=Z1 335 (f K)
end Q83
namespace Q84
abbrev ps:Pz:=[.io (.list true 3 I6),.rd I6,.rd I6,.rd I6]
abbrev rs:Rq:=[]
abbrev Res:=ai rs×ag ps
abbrev R:=Option Res
abbrev A0:=Unit
def s0 (x:ab ps)(r0:A0->R)(a:A0):R:=bif decide ((wr .i64 (x.2.2.1-x.2.1))<=12) then ((Q79.f K (x.1,x.2.1,x.2.2.1,())).bind λy1=>some ((),y1.2.1,())) else (bif x.2.2.2.1==0 then none else ((Q83.f K (x.1,x.2.1,x.2.2.1,())).bind λy2=>bif y2.1.2.1==2 then none else (bif y2.1.2.1==1 then none else (bif decide (x.2.1>0) then ((idx x.1 (wr .i64 (x.2.1-1))).bind λ_=>(idx x.1 (FK (wr .i64 (x.2.1-1)):Nat)).bind λy4=>(idx x.1 y2.1.1).bind λ_=>(idx x.1 (FK y2.1.1:Nat)).bind λy6=>(Q61.f K (y4,y6,())).bind λy7=>bif !y7.1.1 then none else none) else none))))
def l0 (x:ab ps):A0->R:=ae (s0 K x) K
def pre (K:Nat)(N0:A0->R)(x:ab ps):R:=N0 ()
def f (x:ab ps):R:=pre K (l0 K x) x
def c:=Z1 319 (f K)
end Q84
namespace Q85
abbrev ps:Pz:=[.io (.list true 3 I6)]
abbrev rs:Rq:=[]
abbrev Res:=ai rs×ag ps
abbrev R:=Option Res
def f (x:ab ps):R:=(Q78.f K (wr .u64 (FJ x.1:Int),())).bind λy1=>(Q84.f K (x.1,0,(FJ x.1:Int),y1.1.1,())).bind λy2=>some ((),y2.2.1,())
def c:=Z1 287 (f K)
end Q85
namespace Q86
abbrev ps:Pz:=[.rd t3]
abbrev rs:Rq:=[.v .bool]
abbrev R:=Rr rs ps
def f (K:Nat)(x:ab ps):R:=some ((x.1.2==0,()),())
def c:=Z1 289 (f K)
end Q86
namespace Q87
abbrev ps:Pz:=[.rd (.list false 133 t3),.rd I6]
abbrev rs:Rq:=[.v (.list true 46 t2),.v (.list true 133 t3)]
abbrev R:=Rr rs ps
abbrev A1:=List (Ty.den t3)×List (Ty.den I6)×List (Ty.den t2)×Int×Int
abbrev A0:=List (Ty.den I6)×Int
def s1 (x:ab ps)(r1:A1->R)(a:A1):R:=bif decide (a.2.2.2.2<a.2.2.2.1) then ((idx a.2.1 a.2.2.2.2).bind λ_=>(idx a.2.1 (FK a.2.2.2.2:Nat)).bind λy10=>(idx a.1 y10).bind λ_=>(idx a.1 (FK y10:Nat)).bind λy12=>bif decide ((FJ a.2.2.1+FJ ([y12.1]))*32<=am) then ((idx a.1 y10).bind λ_=>(idx a.1 (FK y10:Nat)).bind λy14=>(idx a.1 y10).bind λ_=>(idx a.1 (FK y10:Nat)).bind λy16=>r1 (a.1.set (FK y10) (y16.1,wr .i64 (y14.2-1)),a.2.1,a.2.2.1++([y12.1]),a.2.2.2.1,wr .i64 (a.2.2.2.2+1))) else none) else ((Q9.f K (a.1,λy17=>(Q86.f K (y17.1,())).map λy=>y.1.1,())).bind λy18=>some ((a.2.2.1,y18.1.1,()),()))
def l1 (x:ab ps):A1->R:=ae (s1 K x) K
def s0 (x:ab ps)(N1:A1->R)(r0:A0->R)(a:A0):R:=bif decide (a.2<(FJ (FN (FK (FJ x.1:Int)) (0:Ty.den I6)):Int)) then ((idx a.1 a.2).bind λ_=>(idx a.1 (FK a.2:Nat)).bind λy3=>r0 (a.1.set (FK a.2) a.2,wr .i64 (a.2+1))) else ((Q75.f K (a.1,λy4=>(Q76.f K (y4.1,y4.2.1,x.1,())).map λy=>y.1.1,())).bind λy5=>(Q2.f K (x.1,())).bind λy6=>(Q72.f K (y5.2.1,x.2.1,())).bind λy7=>(Q85.f K (y7.1.1,())).bind λy8=>N1 (y6.1.1,y8.2.1,[],(FJ y8.2.1:Int),0))
def l0 (x:ab ps):A0->R:=ae (s0 K x (l1 K x)) K
def pre (N0:A0->R)(x:ab ps):R:=(Q33.f K (x.1,())).bind λy1=>bif !y1.1.1 then (some (([],[],()),())) else (bif decide (0<=(FJ x.1:Int))&&decide ((FJ x.1:Int)=(FJ x.1:Int))&&decide ((FJ x.1:Int)*(8:Nat)<=am) then (N0 (FN (FK (FJ x.1:Int)) (0:Ty.den I6),0)) else none)
def f (x:ab ps):R:=pre K (l0 K x) x
def c:=Z1 244 (f K)
def G:List Ctr:=[Q33.c K,Q2.c K,Q72.c K,Q75.c K,Q76.c K,Q85.c K,Q9.c K,Q86.c K]
def v1:List (Nat×List Coe):=[(8,[.own false 133 t3]),(9,[.own false 3 I6]),(10,[.own false 46 t2]),(39,[.keep]),(40,[.keep]),(41,[.keep])]
def v0:List (Nat×List Coe):=[(1,[.keep]),(2,[.keep]),(6,[.own false 3 I6]),(20,[.keep]),(21,[.keep]),(100002,[.ro true 133 t3])]
def L:List (Nat×List (Nat×List Coe)):=[(16,v1),(6,v0)]
def body:Code:=cY Tryz.f244
abbrev ev:Code->St->(Ex->St->R)->R:=evK (G K) T_NL L K
abbrev fin:Ex->St->R:=du T_NL ps rs true Tryz.f244.results.toList
def S0 (x:ab ps)(a:A0):St:=av [(1,⟨0,.one,[.int .i64 x.2.1]⟩),(2,⟨0,.one,[.bp 100002 0]⟩),(6,⟨0,.one,[.own false none 3 I6 a.1]⟩),(20,⟨0,.one,[.int .i64 (FJ (FN (FK (FJ x.1:Int)) (0:Ty.den I6)):Int)]⟩),(21,⟨0,.one,[.int .i64 a.2]⟩),(100002,⟨0,.agg,[.ro true 133 t3 x.1]⟩)]
def S1 (x:ab ps)(a:A1):St:=av [(8,⟨0,.one,[.own false none 133 t3 a.1]⟩),(9,⟨0,.one,[.own false none 3 I6 a.2.1]⟩),(10,⟨0,.one,[.own false none 46 t2 a.2.2.1]⟩),(39,⟨0,.one,[.al 9 0 0]⟩),(40,⟨0,.one,[.int .i64 a.2.2.2.1]⟩),(41,⟨0,.one,[.int .i64 a.2.2.2.2]⟩)]
def k0 (x:ab ps):Ex->St->R:=kAt (ev K) body [1,1,1,0,1,0] fin
def N0 (x:ab ps):A0->R:=λa=>aY v0 (ev K (sub body [1,1,1,0,1,0,0])) K (S0 x a) (k0 K x)
def k1 (x:ab ps):Ex->St->R:=kAt (ev K) body [1,1,1,1,1,1,1,1,1,0,1,0] fin
def N1 (x:ab ps):A1->R:=λa=>aY v1 (ev K (sub body [1,1,1,1,1,1,1,1,1,0,1,0,0])) K (S1 x a) (k1 K x)
end Q87
namespace Q88
abbrev ps:Pz:=[.iop t66,.rd I6]
abbrev rs:Rq:=[.v (.list true 46 t2)]
abbrev R:=Rr rs ps
def f (x:ab ps):R:=let b1:=x.1.2.2.2.2.2.2.2.2;(Q87.f K (b1.2.1,3,())).bind λy1=>(Q22.f K (b1.1,x.2.1,())).bind λy2=>let j1:=(zcp8 x.1 (b1.1,y1.1.2.1,b1.2.2));bif y2.1.1.2.2.1==2 then ((Q53.f K (y1.1.1,y2.1.1,())).bind λy3=>some ((y3.1.1,()),j1,())) else (some ((y1.1.1,()),j1,()))
def c:=Z0 177 (f K)
end Q88
namespace Q89
abbrev ps:Pz:=[.iop t66,.rd I6,.rd t47]
abbrev rs:Rq:=[.v t73]
abbrev R:=Rr rs ps
def f (x:ab ps):R:=let b1:=x.2.2.1.2.2.2.2;(Q88.f K (x.1,b1.2.1,())).bind λy1=>(Q69.f K (y1.2.1,x.2.1,b1.2.1,())).bind λy2=>some (((zcp4 y2.1.1 (b1.1,y2.1.1.2.2.2.2.2.1,y2.1.1.2.2.2.2.2.2.1,y1.1.1)),()),y1.2.1,())
def c:=Z0 111 (f K)
end Q89
namespace Q90
abbrev ps:Pz:=[.rref t26,.rd I6,.rd I6]
abbrev rs:Rq:=[.v t73]
abbrev R:=Rr rs ps
def f (x:ab ps):R:=(Q69.f K (x.1,x.2.1,x.2.2.1,())).bind λy1=>(Q0.f K (x.1.2.2.2.2.2.2.2.2.1,())).bind λy2=>some (((zcp4 y1.1.1 (y1.1.1.2.2.2.2.1,y1.1.1.2.2.2.2.2.1,y1.1.1.2.2.2.2.2.2.1,y2.1.1)),()),())
def c:=Z1 112 (f K)
end Q90
namespace Q91
abbrev ps:Pz:=[.rd (.list false 89 t11),.rd I6,.fn [t11,I6] I6]
abbrev rs:Rq:=[.v I6,.v .bool]
abbrev R:=Rr rs ps
abbrev A0:=Int×Int
def s0 (K:Nat)(x:ab ps)(r0:A0->R)(a:A0):R:=bif decide (a.1<a.2) then (let j1:=FM (wr .u64 (wr .i64 (a.1+a.2))) (2 ^ 1);(idx x.1 (wr .i64 j1)).bind λy1=>(x.2.2.1 (y1,x.2.1,())).bind λy2=>bif decide (y2<0) then (r0 (wr .i64 ((wr .i64 j1)+1),a.2)) else (r0 (a.1,wr .i64 j1))) else (bif decide (a.1<(FJ x.1:Int)) then ((idx x.1 a.1).bind λy3=>(x.2.2.1 (y3,x.2.1,())).bind λy4=>some ((a.1,y4==0,()),())) else (some ((a.1,false,()),())))
def l0 (x:ab ps):A0->R:=ae (s0 K x) K
def pre (K:Nat)(N0:A0->R)(x:ab ps):R:=N0 (0,(FJ x.1:Int))
def f (x:ab ps):R:=pre K (l0 K x) x
def c:=Z1 178 (f K)
end Q91
namespace Q92
abbrev ps:Pz:=[.rd t11,.rd I6]
abbrev rs:Rq:=[.v I6]
abbrev R:=Rr rs ps
def f (K:Nat)(x:ab ps):R:=some ((wr .i64 (x.1.1-x.2.1),()),())
def c:=Z1 179 (f K)
end Q92
namespace Q93
abbrev ps:Pz:=[.rd I6]
abbrev rs:Rq:=[.v I6]
abbrev R:=Rr rs ps
def f (x:ab ps):R:=(Q71.f K (x.1,(-1000000000),1000000000,())).bind λy1=>some ((y1.1.1,()),())
def c:=Z1 212 (f K)
end Q93
namespace Q94
abbrev ps:Pz:=[.rd I6]
abbrev rs:Rq:=[.v I6]
abbrev R:=Rr rs ps
abbrev A0:=Int×Int
def s0 (K:Nat)(x:ab ps)(r0:A0->R)(a:A0):R:=bif decide ((wr .i64 (a.2-a.1))>1) then (let j1:=FL (wr .i64 (a.1+a.2)) 2;bif decide ((wr .i64 ((wr .i64 j1)*(wr .i64 j1)))<=x.1) then (r0 (wr .i64 j1,a.2)) else (r0 (a.1,wr .i64 j1))) else (some ((a.1,()),()))
def l0 (x:ab ps):A0->R:=ae (s0 K x) K
def pre (K:Nat)(N0:A0->R)(x:ab ps):R:=N0 (0,2147483648)
def f (x:ab ps):R:=pre K (l0 K x) x
def c:=Z1 213 (f K)
end Q94
namespace Q95
abbrev ps:Pz:=[.rd I6,.rd I6]
abbrev rs:Rq:=[.v I6]
abbrev R:=Rr rs ps
def f (x:ab ps):R:=(Q93.f K (x.1,())).bind λy1=>(Q93.f K (x.2.1,())).bind λy2=>(Q94.f K (wr .i64 ((wr .i64 (y1.1.1*y1.1.1))+(wr .i64 (y2.1.1*y2.1.1))),())).bind λy3=>(Q93.f K (y3.1.1,())).bind λy4=>some ((y4.1.1,()),())
def c:=Z1 144 (f K)
end Q95
namespace Q96
abbrev ps:Pz:=[.rd t9,.rd t9]
abbrev rs:Rq:=[.v I6]
abbrev R:=Rr rs ps
def f (x:ab ps):R:=(Q42.f K (x.1,())).bind λy1=>bif !y1.1.1 then (some ((0,()),())) else ((Q42.f K (x.2.1,())).bind λy2=>bif !y2.1.1 then (some ((0,()),())) else ((Q95.f K (wr .i64 (x.1.1-x.2.1.1),wr .i64 (x.1.2.1-x.2.1.2.1),())).bind λy3=>some ((wr .i64 ((wr .i64 (y3.1.1+x.1.2.2.1))+x.2.1.2.2.1),()),())))
def c:=Z1 92 (f K)
end Q96
namespace Q97
abbrev ps:Pz:=[.rd t9,.rd t9,.rd I6,.rd I6]
abbrev rs:Rq:=[.v t9]
abbrev R:=Rr rs ps
def f (x:ab ps):R:=let b2:=x.1.2.2;let b1:=x.2.2.1;(Q42.f K (x.1,())).bind λy1=>bif !y1.1.1 then (some (((0,0,0,0),()),())) else ((Q42.f K (x.2.1,())).bind λy2=>bif !y2.1.1 then (some ((x.1,()),())) else ((Q12.f K (b1,1,60000,())).bind λy3=>bif !y3.1.1 then (some ((x.1,()),())) else ((Q96.f K (x.1,x.2.1,())).bind λy4=>let j4:=b2.2+x.2.1.2.2.2;bif decide (wr .i64 j4=0) then none else ((Q95.f K (wr .i64 (x.1.1-x.2.1.1),wr .i64 (x.1.2.1-x.2.1.2.1),())).bind λy5=>let j5:=wr .i64 (b1-y4.1.1);let j1:=FL (wr .i64 (FL (wr .i64 (j5*b2.2)) (wr .i64 j4))) 4;let j2:=(wr .i64 (b2.2+(wr .i64 (FL (wr .i64 (FL (wr .i64 ((wr .i64 ((let j3:=FL (wr .i64 ((bif decide (j5<(wr .i64 (0-j5))) then wr .i64 (0-j5) else wr .i64 (b1-y4.1.1))*1000)) b1;bif decide (1500<(wr .i64 j3)) then 1500 else wr .i64 j3)-b2.2))*b2.2)) (wr .i64 j4))) 4))),1,1500,());let j7:=wr .i64 (x.1.2.1-x.2.1.2.1);let j8:=wr .i64 (x.1.1-x.2.1.1);bif decide (y5.1.1>0) then (bif decide (b1=0) then none else (bif decide (y5.1.1=0) then none else ((Q71.f K (wr .i64 (x.1.1+(wr .i64 (FL (wr .i64 ((bif decide ((wr .i64 j1)<(wr .i64 (0-y5.1.1))) then wr .i64 (0-y5.1.1) else wr .i64 j1)*j8)) y5.1.1))),(-100000),100000,())).bind λy6=>bif decide (y5.1.1=0) then none else ((Q71.f K (wr .i64 (x.1.2.1+(wr .i64 (FL (wr .i64 ((bif decide ((wr .i64 j1)<(wr .i64 (0-y5.1.1))) then wr .i64 (0-y5.1.1) else wr .i64 j1)*j7)) y5.1.1))),(-100000),100000,())).bind λy7=>(Q71.f K (wr .i64 (b2.1+(wr .i64 (FL (bif decide ((wr .i64 j1)<(wr .i64 (0-y5.1.1))) then wr .i64 (0-y5.1.1) else wr .i64 j1) 4))),0,100000,())).bind λy8=>bif decide (wr .i64 j4=0) then none else ((Q71.f K j2).bind λy9=>some (((y6.1.1,y7.1.1,y8.1.1,y9.1.1),()),())))))) else (let j6:=(wr .i64 (b2.1+(wr .i64 (FL (wr .i64 j1) 4))),0,100000,());bif decide ((wr .i64 j1)>=0) then ((idx [(1,0),(0,1),((-1),0),(0,(-1))] (bz .i64 x.2.2.2.1 3)).bind λy10=>bif decide (b1=0) then none else ((Q71.f K (wr .i64 (x.1.1+(wr .i64 (FL (wr .i64 ((wr .i64 j1)*y10.1)) 1))),(-100000),100000,())).bind λy11=>(Q71.f K (wr .i64 (x.1.2.1+(wr .i64 (FL (wr .i64 ((wr .i64 j1)*y10.2)) 1))),(-100000),100000,())).bind λy12=>(Q71.f K j6).bind λy13=>bif decide (wr .i64 j4=0) then none else ((Q71.f K j2).bind λy14=>some (((y11.1.1,y12.1.1,y13.1.1,y14.1.1),()),())))) else (bif decide (b1=0) then none else ((Q71.f K (wr .i64 (x.1.1+(wr .i64 (FL (wr .i64 ((wr .i64 j1)*j8)) 1))),(-100000),100000,())).bind λy15=>(Q71.f K (wr .i64 (x.1.2.1+(wr .i64 (FL (wr .i64 ((wr .i64 j1)*j7)) 1))),(-100000),100000,())).bind λy16=>(Q71.f K j6).bind λy17=>bif decide (wr .i64 j4=0) then none else ((Q71.f K j2).bind λy18=>some (((y15.1.1,y16.1.1,y17.1.1,y18.1.1),()),())))))))))
def c:=Z1 181 (f K)
end Q97
namespace Q98
abbrev ps:Pz:=[.rd (.list false 3 I6)]
abbrev rs:Rq:=[.v I6]
abbrev R:=Rr rs ps
def f (x:ab ps):R:=bif decide (FJ x.1<=3) then ((Q85.f K (x.1,())).map λy=>y.2.1).bind λys=>some ((ys.getD ((ys.length-1) / 2) 0,()),()) else none
def c:=Z1 182 (f K)
end Q98
namespace Q99
abbrev ps:Pz:=[.iop t66,.rd t47]
abbrev rs:Rq:=[]
abbrev R:=Rr rs ps
def f (x:ab ps):R:=let b3:=x.2.1.2.2.2.2;let b1:=x.1.2.2.2.2.2.2.2.2;let b2:=b1.2.2.2.2;(Q91.f K (b2.2.1,x.2.1.2.2.1,λy1=>(Q92.f K (y1.1,y1.2.1,())).map λy=>y.1.1,())).bind λy2=>let j7:=(wr .i64 ((wr .i64 (x.1.2.2.2.2.2.1-b1.2.2.1.2.1))*1000))+500;let j1:=[bif decide (60000<(wr .i64 j7)) then 60000 else wr .i64 j7];let j4:=(FK y2.1.1:Nat);bif !y2.1.2.1 then ((Q10.f K (b2.2.1,y2.1.1,[(x.2.1.2.2.1,(0,0,0,0),[])],())).bind λy3=>(idx y3.1.1 y2.1.1).bind λ_=>(idx y3.1.1 j4).bind λy5=>(idx y3.1.1 j4).bind λy6=>bif decide ((FJ y6.2.2+FJ j1)*8<=am) then (let j3:=(FJ (y6.2.2++j1):Int);bif decide (0<=(bif decide ((wr .i64 (j3-3))<0) then 0 else wr .i64 (j3-3)))&&decide ((bif decide ((wr .i64 (j3-3))<0) then 0 else wr .i64 (j3-3))<=j3)&&decide (j3<=j3)&&true then ((Q8.f K (((y6.2.2++j1).take (FK j3)).drop (FK (bif decide ((wr .i64 (j3-3))<0) then 0 else wr .i64 (j3-3))),())).bind λy7=>(idx y3.1.1 j4).bind λy8=>let j6:=(y3.1.1.set (FK y2.1.1) (y8.1,b3.2.2.1,y8.2.2));(idx j6 j4).bind λy9=>bif Nat.beq (FK y2.1.1) (FK y2.1.1) then ((idx (j6.set (FK y2.1.1) (y9.1,y9.2.1,y7.1.1)) j4).bind λy10=>(Q98.f K (y10.2.2,())).bind λy11=>(Q97.f K (b2.1,b3.2.2.1,y11.1.1,b3.1,())).bind λy12=>some ((),(zcp8 x.1 (b1.1,b1.2.1,((-1),0,0,false),b1.2.2.2.1,y12.1.1,j6.set (FK y2.1.1) (y9.1,y9.2.1,y7.1.1),b2.2.2)),())) else none) else none) else none) else ((idx b2.2.1 y2.1.1).bind λ_=>(idx b2.2.1 j4).bind λy14=>(idx b2.2.1 j4).bind λy15=>bif decide ((FJ y15.2.2+FJ j1)*8<=am) then (let j2:=(FJ (y15.2.2++j1):Int);bif decide (0<=(bif decide ((wr .i64 (j2-3))<0) then 0 else wr .i64 (j2-3)))&&decide ((bif decide ((wr .i64 (j2-3))<0) then 0 else wr .i64 (j2-3))<=j2)&&decide (j2<=j2)&&true then ((Q8.f K (((y15.2.2++j1).take (FK j2)).drop (FK (bif decide ((wr .i64 (j2-3))<0) then 0 else wr .i64 (j2-3))),())).bind λy16=>(idx b2.2.1 j4).bind λy17=>let j5:=(b2.2.1.set (FK y2.1.1) (y17.1,b3.2.2.1,y17.2.2));(idx j5 j4).bind λy18=>bif Nat.beq (FK y2.1.1) (FK y2.1.1) then ((idx (j5.set (FK y2.1.1) (y18.1,y18.2.1,y16.1.1)) j4).bind λy19=>(Q98.f K (y19.2.2,())).bind λy20=>(Q97.f K (b2.1,b3.2.2.1,y20.1.1,b3.1,())).bind λy21=>some ((),(zcp8 x.1 (b1.1,b1.2.1,((-1),0,0,false),b1.2.2.2.1,y21.1.1,j5.set (FK y2.1.1) (y18.1,y18.2.1,y16.1.1),b2.2.2)),())) else none) else none) else none)
def c:=Z0 113 (f K)
end Q99
namespace Q100
abbrev ps:Pz:=[.iop t66,.rd t47]
abbrev rs:Rq:=[.v (.list true 35 t73)]
abbrev R:=Rr rs ps
def f (x:ab ps):R:=let b1:=x.2.1.2;bif b1.1==6 then ((Q70.f K (x.1,x.2.1,())).bind λy1=>some ((y1.1.1,()),y1.2.1,())) else ((Q64.f K (x.1,b1.2.2.2.2.2.2,b1.2.1,())).bind λy2=>let b2:=y2.2.1.2.2.2.2.2.2.2.2.2.2.1;let j1:R:=some (([],()),y2.2.1,());let j2:=(y2.2.1,b1.2.2.2.2.1,());bif b1.1==1 then ((Q43.f K j2).bind λy3=>bif y3.1.1 then ((Q89.f K (y2.2.1,2,x.2.1,())).bind λy4=>some (([y4.1.1],()),y4.2.1,())) else j1) else (bif b1.1==3 then ((Q43.f K j2).bind λy5=>bif y5.1.1 then (bif b1.2.2.2.2.1 != b1.2.1 then ((Q89.f K (y2.2.1,1,x.2.1,())).bind λy6=>some (([(zcp4 y6.1.1 (y6.1.1.2.2.2.2.1,b1.2.1,y6.1.1.2.2.2.2.2.2))],()),y6.2.1,())) else j1) else j1) else (bif b1.1==4 then ((Q90.f K (y2.2.1,5,b1.2.1,())).bind λy7=>some (([y7.1.1],()),y2.2.1,())) else (bif b1.1==2 then (bif b2.1==b1.2.1 then (bif b2.2.2.1==b1.2.2.2.1 then (bif b1.2.2.2.2.1==b1.2.1 then ((Q99.f K (y2.2.1,x.2.1,())).bind λy8=>some (([],()),y8.2.1,())) else j1) else j1) else j1) else j1))))
def c:=Z0 47 (f K)
end Q100
namespace Q101
abbrev ps:Pz:=[.iop t66,.rref t26,.rref t47]
abbrev rs:Rq:=[.v (.list true 35 t73)]
abbrev R:=Rr rs ps
def f (x:ab ps):R:=(Q52.f K (x.2.1,x.2.2.1,())).bind λy1=>bif !y1.1.1 then (some (([],()),x.1,())) else ((Q100.f K (x.1,x.2.2.1,())).bind λy2=>some ((y2.1.1,()),y2.2.1,()))
def c:=Z0 46 (f K)
end Q101
namespace Q102
abbrev ps:Pz:=[.rd t26]
abbrev rs:Rq:=[.v t66]
abbrev R:=Rr rs ps
abbrev A2:=List (Ty.den t50)×List (Ty.den t52)×List (Ty.den t12)×Int
abbrev A1:=List (Ty.den t50)×List (Ty.den t52)×Int
abbrev A0:=List (Ty.den t50)×Int
def s2 (x:ab ps)(r2:A2->R)(a:A2):R:=let b1:=x.1.2.2.2.2.2.2.2.2;bif decide (a.2.2.2<(FJ b1.2.2.2.2.2.2:Int)) then ((idx b1.2.2.2.2.2.2 a.2.2.2).bind λy5=>(Q0.f K (y5.2,())).bind λy6=>bif decide ((FJ a.2.2.1+FJ ([(y5.1,y6.1.1)]))*32<=am) then (r2 (a.1,a.2.1,a.2.2.1++([(y5.1,y6.1.1)]),wr .i64 (a.2.2.2+1))) else none) else ((Q0.f K (b1.1,())).bind λy7=>(Q2.f K (b1.2.1,())).bind λy8=>some (((zcp8 x.1 (y7.1.1,y8.1.1,b1.2.2.1,a.1,b1.2.2.2.2.1,a.2.1,a.2.2.1)),()),()))
def l2 (x:ab ps):A2->R:=ae (s2 K x) K
def s1 (x:ab ps)(N2:A2->R)(r1:A1->R)(a:A1):R:=let b1:=x.1.2.2.2.2.2.2.2.2.2.2.2.2.2.1;bif decide (a.2.2<(FJ b1:Int)) then ((idx b1 a.2.2).bind λy3=>(Q8.f K (y3.2.2,())).bind λy4=>bif decide ((FJ a.2.1+FJ ([(y3.1,y3.2.1,y4.1.1)]))*64<=am) then (r1 (a.1,a.2.1++([(y3.1,y3.2.1,y4.1.1)]),wr .i64 (a.2.2+1))) else none) else (N2 (a.1,a.2.1,[],0))
def l1 (x:ab ps):A1->R:=ae (s1 K x (l2 K x)) K
def s0 (x:ab ps)(N1:A1->R)(r0:A0->R)(a:A0):R:=bif decide (a.2<(FJ x.1.2.2.2.2.2.2.2.2.2.2.2.1:Int)) then ((idx x.1.2.2.2.2.2.2.2.2.2.2.2.1 a.2).bind λy1=>(Q8.f K (y1.2.2.2,())).bind λy2=>let j1:=[(y1.1,y1.2.1,y1.2.2.1,y2.1.1)];bif decide ((FJ a.1+FJ j1)*48<=am) then (r0 (a.1++j1,wr .i64 (a.2+1))) else none) else (N1 (a.1,[],0))
def l0 (x:ab ps):A0->R:=ae (s0 K x (l1 K x)) K
def pre (K:Nat)(N0:A0->R)(x:ab ps):R:=N0 ([],0)
def f (x:ab ps):R:=pre K (l0 K x) x
def c:=Z1 106 (f K)
def G:List Ctr:=[Q0.c K,Q8.c K,Q2.c K]
def v2:List (Nat×List Coe):=[(1,[.keep]),(2,[.keep]),(3,[.own false 86 t50]),(6,[.own false 89 t52]),(9,[.own false 91 t12]),(45,[.ro true 91 t12]),(46,[.keep]),(47,[.keep]),(100001,Kc0),(100002,Kc2)]
def v1:List (Nat×List Coe):=[(1,[.keep]),(2,[.keep]),(3,[.own false 86 t50]),(6,[.own false 89 t52]),(29,[.ro true 89 t11]),(30,[.keep]),(31,[.keep]),(100001,Kc0),(100002,Kc2)]
def v0:List (Nat×List Coe):=[(1,[.keep]),(2,[.keep]),(3,[.own false 86 t50]),(13,[.ro true 86 t6]),(14,[.keep]),(15,[.keep]),(100001,Kc0),(100002,Kc2)]
def L:List (Nat×List (Nat×List Coe)):=[(18,v2),(11,v1),(4,v0)]
def body:Code:=cY Tryz.f106
abbrev ev:Code->St->(Ex->St->R)->R:=evK (G K) T_NL L K
abbrev fin:Ex->St->R:=du T_NL ps rs true Tryz.f106.results.toList
def S0 (x:ab ps)(a:A0):St:=av [(1,⟨0,.one,[.bp 100001 0]⟩),(2,⟨0,.one,[.bp 100002 0]⟩),(3,⟨0,.one,[.own false none 86 t50 a.1]⟩),(13,⟨0,.one,[.ro true 86 t6 x.1.2.2.2.2.2.2.2.2.2.2.2.1]⟩),(14,⟨0,.one,[.int .i64 (FJ x.1.2.2.2.2.2.2.2.2.2.2.2.1:Int)]⟩),(15,⟨0,.one,[.int .i64 a.2]⟩),(100001,⟨0,.agg,(w0 x.1)⟩),(100002,⟨0,.agg,[.int .i64 0,.bool false,.bool false,.bool false,.int .i64 0,.int .i64 0,.int .i64 0,.int .i64 0,.nil,.nil,.int .i64 0,.int .i64 0,.int .i64 0,.bool false,.nil,.int .i64 0,.int .i64 0,.int .i64 0,.int .i64 0,.nil,.nil]⟩)]
def S1 (x:ab ps)(a:A1):St:=av [(1,⟨0,.one,[.bp 100001 0]⟩),(2,⟨0,.one,[.bp 100002 0]⟩),(3,⟨0,.one,[.own false none 86 t50 a.1]⟩),(6,⟨0,.one,[.own false none 89 t52 a.2.1]⟩),(29,⟨0,.one,[.ro true 89 t11 x.1.2.2.2.2.2.2.2.2.2.2.2.2.2.1]⟩),(30,⟨0,.one,[.int .i64 (FJ x.1.2.2.2.2.2.2.2.2.2.2.2.2.2.1:Int)]⟩),(31,⟨0,.one,[.int .i64 a.2.2]⟩),(100001,⟨0,.agg,(w0 x.1)⟩),(100002,⟨0,.agg,[.int .i64 0,.bool false,.bool false,.bool false,.int .i64 0,.int .i64 0,.int .i64 0,.int .i64 0,.nil,.nil,.int .i64 0,.int .i64 0,.int .i64 0,.bool false,.nil,.int .i64 0,.int .i64 0,.int .i64 0,.int .i64 0,.nil,.nil]⟩)]
def S2 (x:ab ps)(a:A2):St:=av [(1,⟨0,.one,[.bp 100001 0]⟩),(2,⟨0,.one,[.bp 100002 0]⟩),(3,⟨0,.one,[.own false none 86 t50 a.1]⟩),(6,⟨0,.one,[.own false none 89 t52 a.2.1]⟩),(9,⟨0,.one,[.own false none 91 t12 a.2.2.1]⟩),(45,⟨0,.one,[.ro true 91 t12 x.1.2.2.2.2.2.2.2.2.2.2.2.2.2.2]⟩),(46,⟨0,.one,[.int .i64 (FJ x.1.2.2.2.2.2.2.2.2.2.2.2.2.2.2:Int)]⟩),(47,⟨0,.one,[.int .i64 a.2.2.2]⟩),(100001,⟨0,.agg,(w0 x.1)⟩),(100002,⟨0,.agg,[.int .i64 0,.bool false,.bool false,.bool false,.int .i64 0,.int .i64 0,.int .i64 0,.int .i64 0,.nil,.nil,.int .i64 0,.int .i64 0,.int .i64 0,.bool false,.nil,.int .i64 0,.int .i64 0,.int .i64 0,.int .i64 0,.nil,.nil]⟩)]
def k0 (x:ab ps):Ex->St->R:=kAt (ev K) body [1,1,0,1,0] fin
def N0 (x:ab ps):A0->R:=λa=>aY v0 (ev K (sub body [1,1,0,1,0,0])) K (S0 x a) (k0 K x)
def k1 (x:ab ps):Ex->St->R:=kAt (ev K) body [1,1,1,1,0,1,0] fin
def N1 (x:ab ps):A1->R:=λa=>aY v1 (ev K (sub body [1,1,1,1,0,1,0,0])) K (S1 x a) (k1 K x)
def k2 (x:ab ps):Ex->St->R:=kAt (ev K) body [1,1,1,1,1,1,0,1,0] fin
def N2 (x:ab ps):A2->R:=λa=>aY v2 (ev K (sub body [1,1,1,1,1,1,0,1,0,0])) K (S2 x a) (k2 K x)
end Q102
namespace Q103
abbrev ps:Pz:=[.own (.list true 35 t73)]
abbrev rs:Rq:=[.v (.list true 35 t73)]
abbrev R:=Rr rs ps
def f (K:Nat)(x:ab ps):R:=bif true&&decide ((FJ x.1:Int)=(FJ x.1:Int))&&decide ((FJ x.1:Int)=(FJ x.1:Int))&&true then (some ((x.1,()),())) else none
def c:=Z1 107 (f K)
end Q103
namespace Q104
abbrev ps:Pz:=[.rd t26,.clo 46 [(false,t26),(false,t47)]]
abbrev rs:Rq:=[.v t66,.v (.list true 35 t73)]
abbrev R:=Rr rs ps
def f (x:ab ps):R:=(Q49.f K (x.1,())).bind λy1=>bif !y1.1.1 then (some (((0,false,false,false,0,0,0,0,[],[],(0,0,0,false),[],(0,0,0,0),[],[]),[],()),())) else ((Q102.f K (x.1,())).bind λy2=>(Q101.f K (y2.1.1,x.2.1.1,x.2.1.2.1,())).bind λy3=>(Q103.f K (y3.1.1,())).bind λy4=>some ((y3.2.1,y4.1.1,()),()))
def c:=Z0 45 (f K)
end Q104
namespace Q105
abbrev ps:Pz:=[.rd t26,.rd t47]
abbrev rs:Rq:=[.v t66,.v (.list true 35 t73)]
abbrev R:=Rr rs ps
def f (x:ab ps):R:=(Q104.f K (x.1,(x.1,x.2.1,()),())).bind λy1=>some ((y1.1.1,y1.1.2.1,()),())
def c:=Z0 13 (f K)
end Q105
namespace Q106
abbrev ps:Pz:=[.rd (.list false 46 t2),.rd (.list false 46 t2)]
abbrev rs:Rq:=[.v .bool]
abbrev R:=Rr rs ps
abbrev A0:=Int
def s0 (K:Nat)(x:ab ps)(r0:A0->R)(a:A0):R:=bif decide (a<(FJ x.1:Int)) then ((idx x.1 a).bind λy1=>(idx x.2.1 a).bind λy2=>bif !Ty.eqv t2 y1 y2 then (some ((false,()),())) else (r0 (wr .i64 (a+1)))) else (some ((true,()),()))
def l0 (x:ab ps):A0->R:=ae (s0 K x) K
def pre (K:Nat)(N0:A0->R)(x:ab ps):R:=bif (FJ x.1:Int) != (FJ x.2.1:Int) then (some ((false,()),())) else (N0 0)
def f (x:ab ps):R:=pre K (l0 K x) x
def c:=Z1 23 (f K)
end Q106
namespace Q107
abbrev ps:Pz:=[.rd (.list false 133 t3),.rd (.list false 133 t3)]
abbrev rs:Rq:=[.v .bool]
abbrev R:=Rr rs ps
abbrev A0:=Int
def s0 (K:Nat)(x:ab ps)(r0:A0->R)(a:A0):R:=bif decide (a<(FJ x.1:Int)) then ((idx x.1 a).bind λy1=>(idx x.2.1 a).bind λy2=>bif !Ty.eqv t3 y1 y2 then (some ((false,()),())) else (r0 (wr .i64 (a+1)))) else (some ((true,()),()))
def l0 (x:ab ps):A0->R:=ae (s0 K x) K
def pre (K:Nat)(N0:A0->R)(x:ab ps):R:=bif (FJ x.1:Int) != (FJ x.2.1:Int) then (some ((false,()),())) else (N0 0)
def f (x:ab ps):R:=pre K (l0 K x) x
def c:=Z1 56 (f K)
end Q107
namespace Q108
abbrev ps:Pz:=[.rd (.list false 3 I6),.rd (.list false 3 I6)]
abbrev rs:Rq:=[.v .bool]
abbrev R:=Rr rs ps
abbrev A0:=Int
def s0 (K:Nat)(x:ab ps)(r0:A0->R)(a:A0):R:=bif decide (a<(FJ x.1:Int)) then ((idx x.1 a).bind λy1=>(idx x.2.1 a).bind λy2=>bif y1 != y2 then (some ((false,()),())) else (r0 (wr .i64 (a+1)))) else (some ((true,()),()))
def l0 (x:ab ps):A0->R:=ae (s0 K x) K
def pre (K:Nat)(N0:A0->R)(x:ab ps):R:=bif (FJ x.1:Int) != (FJ x.2.1:Int) then (some ((false,()),())) else (N0 0)
def f (x:ab ps):R:=pre K (l0 K x) x
def c:=Z1 57 (f K)
end Q108
namespace Q109
abbrev ps:Pz:=[.rd t26,.rd t26]
abbrev rs:Rq:=[.v .bool]
abbrev R:=Rr rs ps
abbrev A2:=Int
abbrev A1:=Int
abbrev A0:=Int
def s2 (x:ab ps)(r2:A2->R)(a:A2):R:=let b2:=x.2.1.2.2.2.2.2.2.2.2.2.2.2.2.2.2;let b1:=x.1.2.2.2.2.2.2.2.2.2.2.2.2.2.2;bif decide (a<(FJ b1:Int)) then ((idx b1 a).bind λy13=>(idx b2 a).bind λy14=>bif y13.1 != y14.1 then (some ((false,()),())) else ((idx b1 a).bind λy15=>(idx b2 a).bind λy16=>(Q106.f K (y15.2,y16.2,())).bind λy17=>bif !y17.1.1 then (some ((false,()),())) else (r2 (wr .i64 (a+1))))) else (some ((true,()),()))
def l2 (x:ab ps):A2->R:=ae (s2 K x) K
def s1 (x:ab ps)(N2:A2->R)(r1:A1->R)(a:A1):R:=let b2:=x.2.1.2.2.2.2.2.2.2.2.2.2.2.2.2.1;let b1:=x.1.2.2.2.2.2.2.2.2.2.2.2.2.2.1;bif decide (a<(FJ b1:Int)) then ((idx b1 a).bind λy6=>(idx b2 a).bind λy7=>let j1:R:=some ((false,()),());bif y6.1 != y7.1 then j1 else ((idx b1 a).bind λy8=>(idx b2 a).bind λy9=>bif !Ty.eqv t9 y8.2.1 y9.2.1 then j1 else ((idx b1 a).bind λy10=>(idx b2 a).bind λy11=>(Q108.f K (y10.2.2,y11.2.2,())).bind λy12=>bif !y12.1.1 then j1 else (r1 (wr .i64 (a+1)))))) else (N2 0)
def l1 (x:ab ps):A1->R:=ae (s1 K x (l2 K x)) K
def s0 (x:ab ps)(N1:A1->R)(r0:A0->R)(a:A0):R:=bif decide (a<(FJ x.1.2.2.2.2.2.2.2.2.2.2.2.1:Int)) then ((idx x.1.2.2.2.2.2.2.2.2.2.2.2.1 a).bind λy3=>(idx x.2.1.2.2.2.2.2.2.2.2.2.2.2.1 a).bind λy4=>let j1:R:=some ((false,()),());bif y3.1 != y4.1 then j1 else (bif y3.2.1 != y4.2.1 then j1 else (bif y3.2.2.1 != y4.2.2.1 then j1 else ((Q108.f K (y3.2.2.2,y4.2.2.2,())).bind λy5=>bif !y5.1.1 then j1 else (r0 (wr .i64 (a+1))))))) else (N1 0)
def l0 (x:ab ps):A0->R:=ae (s0 K x (l1 K x)) K
def pre (N0:A0->R)(x:ab ps):R:=let b5:=x.2.1.2.2;let b4:=x.1.2.2.2;let b2:=b4.2.2.2.2;let b1:=b5.2.2.2.2;let b3:=b1.2.2.2.2;let j1:R:=some ((false,()),());bif x.1.1 != x.2.1.1 then j1 else (bif x.1.2.1 != x.2.1.2.1 then j1 else (bif x.1.2.2.1 != b5.1 then j1 else (bif b4.1 != b5.2.1 then j1 else (bif b4.2.1 != b5.2.2.1 then j1 else (bif b4.2.2.1 != b5.2.2.2.1 then j1 else (bif b4.2.2.2.1 != b1.1 then j1 else (bif b2.1 != b1.2.1 then j1 else ((Q106.f K (b2.2.1,b1.2.2.1,())).bind λy1=>bif !y1.1.1 then j1 else ((Q107.f K (b2.2.2.1,b1.2.2.2.1,())).bind λy2=>bif !y2.1.1 then j1 else (bif !Ty.eqv t2 b2.2.2.2.1 b3.1 then j1 else (bif !Ty.eqv t9 b2.2.2.2.2.2.1 b3.2.2.1 then j1 else (bif (FJ b2.2.2.2.2.1:Int) != (FJ b3.2.1:Int) then j1 else (bif (FJ b2.2.2.2.2.2.2.1:Int) != (FJ b3.2.2.2.1:Int) then j1 else (bif (FJ b2.2.2.2.2.2.2.2:Int) != (FJ b3.2.2.2.2:Int) then j1 else (N0 0)))))))))))))))
def f (x:ab ps):R:=pre K (l0 K x) x
def c:=Z1 16 (f K)
def G:List Ctr:=[Q106.c K,Q107.c K,Q108.c K]
def v2:List (Nat×List Coe):=[(2,[.keep]),(3,[.keep]),(9,[.keep]),(100002,Kc0),(100003,Kc0)]
def v1:List (Nat×List Coe):=[(2,[.keep]),(3,[.keep]),(8,[.keep]),(100002,Kc0),(100003,Kc0)]
def v0:List (Nat×List Coe):=[(2,[.keep]),(3,[.keep]),(5,[.keep]),(100002,Kc0),(100003,Kc0)]
def L:List (Nat×List (Nat×List Coe)):=[(17,v2),(12,v1),(5,v0)]
def body:Code:=cY Tryz.f16
abbrev ev:Code->St->(Ex->St->R)->R:=evK (G K) T_NL L K
abbrev fin:Ex->St->R:=du T_NL ps rs true Tryz.f16.results.toList
def S0 (x:ab ps)(a:A0):St:=av [(2,⟨0,.one,[.bp 100002 0]⟩),(3,⟨0,.one,[.bp 100003 0]⟩),(5,⟨0,.one,[.int .i64 a]⟩),(100002,⟨0,.agg,(w0 x.1)⟩),(100003,⟨0,.agg,(w0 x.2.1)⟩)]
def S1 (x:ab ps)(a:A1):St:=av [(2,⟨0,.one,[.bp 100002 0]⟩),(3,⟨0,.one,[.bp 100003 0]⟩),(8,⟨0,.one,[.int .i64 a]⟩),(100002,⟨0,.agg,(w0 x.1)⟩),(100003,⟨0,.agg,(w0 x.2.1)⟩)]
def S2 (x:ab ps)(a:A2):St:=av [(2,⟨0,.one,[.bp 100002 0]⟩),(3,⟨0,.one,[.bp 100003 0]⟩),(9,⟨0,.one,[.int .i64 a]⟩),(100002,⟨0,.agg,(w0 x.1)⟩),(100003,⟨0,.agg,(w0 x.2.1)⟩)]
def k0 (x:ab ps):Ex->St->R:=kAt (ev K) body [1,1,0,1,0] fin
def N0 (x:ab ps):A0->R:=λa=>aY v0 (ev K (sub body [1,1,0,1,0,0])) K (S0 x a) (k0 K x)
def k1 (x:ab ps):Ex->St->R:=kAt (ev K) body [1,1,1,0,1,0] fin
def N1 (x:ab ps):A1->R:=λa=>aY v1 (ev K (sub body [1,1,1,0,1,0,0])) K (S1 x a) (k1 K x)
def k2 (x:ab ps):Ex->St->R:=kAt (ev K) body [1,1,1,1,0,1,0] fin
def N2 (x:ab ps):A2->R:=λa=>aY v2 (ev K (sub body [1,1,1,1,0,1,0,0])) K (S2 x a) (k2 K x)
end Q109
namespace Q110
abbrev ps:Pz:=[.rd t47,.rd t47]
abbrev rs:Rq:=[.v .bool]
abbrev R:=Rr rs ps
def f (x:ab ps):R:=let b2:=x.1.2.2.2;let b1:=x.2.1.2.2.2;let j1:R:=some ((false,()),());bif x.1.1==x.2.1.1 then (bif x.1.2.1==x.2.1.2.1 then (bif x.1.2.2.1==x.2.1.2.2.1 then (bif b2.1==b1.1 then (bif b2.2.1==b1.2.1 then (bif b2.2.2.1==b1.2.2.1 then (bif Ty.eqv t9 b2.2.2.2.1 b1.2.2.2.1 then ((Q106.f K (b2.2.2.2.2,b1.2.2.2.2,())).bind λy1=>some ((y1.1.1,()),())) else j1) else j1) else j1) else j1) else j1) else j1) else j1
def c:=Z1 58 (f K)
end Q110
namespace Q111
abbrev ps:Pz:=[.rd (.list false 35 t47),.rd (.list false 35 t47)]
abbrev rs:Rq:=[.v .bool]
abbrev R:=Rr rs ps
abbrev A0:=Int
def s0 (x:ab ps)(r0:A0->R)(a:A0):R:=bif decide (a<(FJ x.1:Int)) then ((idx x.1 a).bind λy1=>(idx x.2.1 a).bind λy2=>(Q110.f K (y1,y2,())).bind λy3=>bif !y3.1.1 then (some ((false,()),())) else (r0 (wr .i64 (a+1)))) else (some ((true,()),()))
def l0 (x:ab ps):A0->R:=ae (s0 K x) K
def pre (K:Nat)(N0:A0->R)(x:ab ps):R:=bif (FJ x.1:Int) != (FJ x.2.1:Int) then (some ((false,()),())) else (N0 0)
def f (x:ab ps):R:=pre K (l0 K x) x
def c:=Z1 17 (f K)
end Q111
namespace Q112
abbrev ps:Pz:=[.rd I6,.rd I6,.rd I6]
abbrev rs:Rq:=[.v .bool]
abbrev R:=Rr rs ps
def f (K:Nat)(x:ab ps):R:=bif decide (x.1>=x.2.1) then (some ((decide (x.1<=x.2.2.1),()),())) else (some ((false,()),()))
def c:=Z1 65 (f K)
end Q112
namespace Q113
abbrev ps:Pz:=[.rd t2]
abbrev rs:Rq:=[.v .bool]
abbrev R:=Rr rs ps
def f (x:ab ps):R:=(Q112.f K (x.1.1,0,7,())).bind λy1=>bif y1.1.1 then ((Q112.f K (x.1.2.1,0,999,())).bind λy2=>bif y2.1.1 then ((Q112.f K (x.1.2.2.1,1,4,())).bind λy3=>some ((y3.1.1,()),())) else (some ((false,()),()))) else (some ((false,()),()))
def c:=Z1 125 (f K)
end Q113
namespace Q114
abbrev ps:Pz:=[.rd (.list false 46 t2)]
abbrev rs:Rq:=[.v .bool]
abbrev R:=Rr rs ps
abbrev A0:=Int
def s0 (x:ab ps)(r0:A0->R)(a:A0):R:=bif decide (a<(FJ x.1:Int)) then ((idx x.1 a).bind λy1=>(Q113.f K (y1,())).bind λy2=>bif !y2.1.1 then (some ((false,()),())) else (bif decide (a>0) then ((idx x.1 (wr .i64 (a-1))).bind λy3=>(idx x.1 a).bind λy4=>bif decide (y3.1>=y4.1) then (some ((false,()),())) else (r0 (wr .i64 (a+1)))) else (r0 (wr .i64 (a+1))))) else (some ((true,()),()))
def l0 (x:ab ps):A0->R:=ae (s0 K x) K
def pre (K:Nat)(N0:A0->R)(x:ab ps):R:=N0 0
def f (x:ab ps):R:=pre K (l0 K x) x
def c:=Z1 66 (f K)
end Q114
namespace Q115
abbrev ps:Pz:=[.rd (.list false 46 t2),.rd I6]
abbrev rs:Rq:=[.v .bool]
abbrev R:=Rr rs ps
abbrev A0:=Int
def s0 (K:Nat)(x:ab ps)(r0:A0->R)(a:A0):R:=bif decide (a<(FJ x.1:Int)) then ((idx x.1 a).bind λy1=>bif (wr .i64 (FL y1.1 4)) != x.2.1 then (some ((false,()),())) else (r0 (wr .i64 (a+1)))) else (some ((true,()),()))
def l0 (x:ab ps):A0->R:=ae (s0 K x) K
def pre (K:Nat)(N0:A0->R)(x:ab ps):R:=N0 0
def f (x:ab ps):R:=pre K (l0 K x) x
def c:=Z1 67 (f K)
end Q115
namespace Q116
abbrev ps:Pz:=[.rd I6]
abbrev rs:Rq:=[.v I6]
abbrev R:=Rr rs ps
def f (K:Nat)(x:ab ps):R:=some ((wr .i64 (FL x.1 4),()),())
def c:=Z1 68 (f K)
end Q116
namespace Q117
abbrev ps:Pz:=[.rd (.list false 46 t2),.rd I6]
abbrev rs:Rq:=[.v I6]
abbrev R:=Rr rs ps
abbrev A0:=Int
def s0 (K:Nat)(x:ab ps)(r0:A0->R)(a:A0):R:=bif decide (a<(FJ x.1:Int)) then ((idx x.1 a).bind λy1=>bif y1.1==x.2.1 then (some ((a,()),())) else (r0 (wr .i64 (a+1)))) else (some (((-1),()),()))
def l0 (x:ab ps):A0->R:=ae (s0 K x) K
def pre (K:Nat)(N0:A0->R)(x:ab ps):R:=N0 0
def f (x:ab ps):R:=pre K (l0 K x) x
def c:=Z1 99 (f K)
end Q117
namespace Q118
abbrev ps:Pz:=[.rd t26]
abbrev rs:Rq:=[.v .bool]
abbrev R:=Rr rs ps
def f (x:ab ps):R:=let b1:=x.1.2.2.2;(Q117.f K (b1.2.2.2.2.2.1,x.1.1,())).bind λy1=>let j1:R:=some ((false,()),());bif decide (y1.1.1<0) then j1 else ((idx b1.2.2.2.2.2.1 y1.1.1).bind λy2=>let j2:=((y2.2.2.2==b1.1,()),());bif x.1.2.2.1 then (bif y2.2.1==b1.2.1 then (bif y2.2.2.1==4 then (some j2) else j1) else j1) else (bif y2.2.1==b1.2.1 then (bif y2.2.2.1==1 then (some j2) else j1) else j1))
def c:=Z1 69 (f K)
end Q118
namespace Q119
abbrev ps:Pz:=[.rd (.list false 133 t3)]
abbrev rs:Rq:=[.v .bool]
abbrev R:=Rr rs ps
abbrev A0:=Int
def s0 (x:ab ps)(r0:A0->R)(a:A0):R:=bif decide (a<(FJ x.1:Int)) then ((idx x.1 a).bind λy1=>(Q113.f K (y1.1,())).bind λy2=>let j1:R:=some ((false,()),());bif !y2.1.1 then j1 else ((idx x.1 a).bind λy3=>(Q112.f K (y3.2,1,4,())).bind λy4=>bif !y4.1.1 then j1 else (bif decide (a>0) then ((idx x.1 (wr .i64 (a-1))).bind λy5=>(idx x.1 a).bind λy6=>bif decide (y5.1.1>=y6.1.1) then j1 else (r0 (wr .i64 (a+1)))) else (r0 (wr .i64 (a+1)))))) else (some ((true,()),()))
def l0 (x:ab ps):A0->R:=ae (s0 K x) K
def pre (K:Nat)(N0:A0->R)(x:ab ps):R:=N0 0
def f (x:ab ps):R:=pre K (l0 K x) x
def c:=Z1 126 (f K)
end Q119
namespace Q120
abbrev ps:Pz:=[.rd t2,.rd t2]
abbrev rs:Rq:=[.v .bool]
abbrev R:=Rr rs ps
def f (K:Nat)(x:ab ps):R:=bif x.1.2.1 != x.2.1.2.1 then (some ((decide (x.1.2.1>x.2.1.2.1),()),())) else (bif x.1.2.2.1 != x.2.1.2.2.1 then (some ((decide (x.1.2.2.1>x.2.1.2.2.1),()),())) else (bif x.1.2.2.2 then (some ((!x.2.1.2.2.2,()),())) else (some ((false,()),()))))
def c:=Z1 127 (f K)
end Q120
namespace Q121
abbrev ps:Pz:=[.rd t26]
abbrev rs:Rq:=[.v .bool]
abbrev R:=Rr rs ps
abbrev A0:=Int
def s0 (x:ab ps)(r0:A0->R)(a:A0):R:=let b1:=x.1.2.2.2.2.2.2.2.2;bif decide (a<(FJ b1.2.1:Int)) then ((idx b1.2.1 a).bind λy2=>(Q117.f K (b1.1,y2.1.1,())).bind λy3=>bif decide (y3.1.1<0) then (some ((false,()),())) else ((idx b1.2.1 a).bind λy4=>(idx b1.1 y3.1.1).bind λy5=>(Q120.f K (y4.1,y5,())).bind λy6=>bif y6.1.1 then (some ((false,()),())) else (r0 (wr .i64 (a+1))))) else (some ((true,()),()))
def l0 (x:ab ps):A0->R:=ae (s0 K x) K
def pre (N0:A0->R)(x:ab ps):R:=(Q119.f K (x.1.2.2.2.2.2.2.2.2.2.1,())).bind λy1=>bif !y1.1.1 then (some ((false,()),())) else (N0 0)
def f (x:ab ps):R:=pre K (l0 K x) x
def c:=Z1 70 (f K)
end Q121
namespace Q122
abbrev ps:Pz:=[.rd t26]
abbrev rs:Rq:=[.v .bool]
abbrev R:=Rr rs ps
def f (x:ab ps):R:=let b2:=x.1.2.2.2.2.2;let b1:=b2.2.2.2.2.2.1;let j1:R:=some ((false,()),());bif b1.1==(-1) then (bif b1.2.1==0 then (bif b1.2.2.1==0 then (some ((!b1.2.2.2,()),())) else j1) else j1) else (bif b1.1 != x.1.1 then ((Q117.f K (b2.2.2.2.1,b1.1,())).bind λy1=>bif decide (y1.1.1>=0) then ((Q112.f K (b1.2.1,0,b2.1,())).bind λy2=>bif y2.1.1 then ((Q112.f K (b1.2.2.1,1,b2.2.1,())).bind λy3=>some ((y3.1.1,()),())) else j1) else j1) else j1)
def c:=Z1 71 (f K)
end Q122
namespace Q123
abbrev ps:Pz:=[.rd t26]
abbrev rs:Rq:=[.v .bool]
abbrev R:=Rr rs ps
abbrev A1:=Int×Int×Int×Int×Int×List (Ty.den I6)
abbrev A2:=Int×Int
abbrev A0:=Int
def s1 (x:ab ps)(r0:A0->R)(r1:A1->R)(a:A1):R:=let b1:=a.2.2.2.2.2;bif decide (a.2.1<(FJ b1:Int)) then ((idx b1 a.2.1).bind λy7=>(Q112.f K (y7,0,7,())).bind λy8=>let j1:R:=some ((false,()),());bif !y8.1.1 then j1 else ((idx b1 a.2.1).bind λy9=>(Q116.f K (y9,())).bind λy10=>(Q116.f K (x.1.1,())).bind λy11=>bif y10.1.1 != y11.1.1 then j1 else (let j2:=(a.1,wr .i64 (a.2.1+1),a.2.2);bif decide (a.2.1>0) then ((idx b1 (wr .i64 (a.2.1-1))).bind λy12=>(idx b1 a.2.1).bind λy13=>bif decide (y12>=y13) then j1 else (r1 j2)) else (r1 j2)))) else (r0 (wr .i64 (a.1+1)))
def l1 (x:ab ps)(r0:A0->R):A1->R:=ae (s1 K x r0) K
def s2 (K:Nat)(x:ab ps)(r2:A2->R)(a:A2):R:=let b1:=x.1.2.2.2.2.2.2.2.2;bif decide (a.2<(FJ b1.1:Int)) then ((idx b1.1 a.2).bind λy17=>bif y17.2.2.1==2 then (r2 (wr .i64 (a.1+1),wr .i64 (a.2+1))) else (r2 (a.1,wr .i64 (a.2+1)))) else (some ((a.1==(FJ b1.2.2.2.1:Int),()),()))
def l2 (x:ab ps):A2->R:=ae (s2 K x) K
def s0 (x:ab ps)(N1:A1->R)(N2:A2->R)(r0:A0->R)(a:A0):R:=let b1:=x.1.2.2.2.2.2.2.2.2;bif decide (a<(FJ b1.2.2.2.1:Int)) then ((idx b1.2.2.2.1 a).bind λy1=>(Q117.f K (b1.1,y1.1,())).bind λy2=>let j2:R:=some ((false,()),());let j1:R:=bif decide (y2.1.1<0) then j2 else ((idx b1.1 y2.1.1).bind λy4=>bif y4.2.2.1 != 2 then j2 else ((idx b1.1 y2.1.1).bind λy5=>bif y5.2.1 != y1.2.1 then j2 else ((Q112.f K (y1.2.2.1,0,x.1.2.2.2.2.2.1,())).bind λy6=>bif !y6.1.1 then j2 else (bif (FJ y1.2.2.2:Int)==0 then j2 else (N1 (a,0,y1))))));bif decide (a>0) then ((idx b1.2.2.2.1 (wr .i64 (a-1))).bind λy3=>bif decide (y3.1>=y1.1) then j2 else j1) else j1) else (N2 (0,0))
def l0 (x:ab ps):A0->R:=ae (λr0 a=>s0 K x (l1 K x r0) (l2 K x) r0 a) K
def pre (K:Nat)(N0:A0->R)(x:ab ps):R:=N0 0
def f (x:ab ps):R:=pre K (l0 K x) x
def c:=Z1 72 (f K)
def G:List Ctr:=[Q112.c K,Q116.c K,Q117.c K]
def v1:List (Nat×List Coe):=[(1,[.keep]),(3,[.keep]),(4,[.keep]),(6,[.keep]),(100001,Kc0),(100004,Kc4)]
def v2:List (Nat×List Coe):=[(1,[.keep]),(7,[.keep]),(8,[.keep]),(100001,Kc0)]
def v0:List (Nat×List Coe):=[(1,[.keep]),(3,[.keep]),(100001,Kc0)]
def L:List (Nat×List (Nat×List Coe)):=[(10,v1),(16,v2),(3,v0)]
def body:Code:=cY Tryz.f72
abbrev ev:Code->St->(Ex->St->R)->R:=evK (G K) T_S L K
abbrev fin:Ex->St->R:=du T_S ps rs true Tryz.f72.results.toList
def S0 (x:ab ps)(a:A0):St:=av [(1,⟨0,.one,[.bp 100001 0]⟩),(3,⟨0,.one,[.int .i64 a]⟩),(100001,⟨0,.agg,(w0 x.1)⟩)]
def S2 (x:ab ps)(a:A2):St:=av [(1,⟨0,.one,[.bp 100001 0]⟩),(7,⟨0,.one,[.int .i64 a.1]⟩),(8,⟨0,.one,[.int .i64 a.2]⟩),(100001,⟨0,.agg,(w0 x.1)⟩)]
def S1 (x:ab ps)(a:A1):St:=av [(1,⟨0,.one,[.bp 100001 0]⟩),(3,⟨0,.one,[.int .i64 a.1]⟩),(4,⟨0,.one,[.bp 100004 0]⟩),(6,⟨0,.one,[.int .i64 a.2.1]⟩),(100001,⟨0,.agg,(w0 x.1)⟩),(100004,⟨0,.agg,(wa0 a.2.2)⟩)]
def k0 (x:ab ps):Ex->St->R:=kAt (ev K) body [1,0,1,0] fin
def N0 (x:ab ps):A0->R:=λa=>aY v0 (ev K (sub body [1,0,1,0,0])) K (S0 x a) (k0 K x)
def k2 (x:ab ps):Ex->St->R:=kAt (ev K) body [1,1,1,0,1,0] fin
def N2 (x:ab ps):A2->R:=λa=>aY v2 (ev K (sub body [1,1,1,0,1,0,0])) K (S2 x a) (k2 K x)
def k1 (x:ab ps)(q0:St->R):Ex->St->R:=kAt (ev K) (sub body [1,0,1,0,0]) [1,0,0,1,1,1,1,0] (iq v0 q0 (k0 K x))
def N1 (x:ab ps)(q0:St->R):A1->R:=λa=>aY v1 (ev K (sub body [1,0,1,0,0,1,0,0,1,1,1,1,0,0])) K (S1 x a) (k1 K x q0)
end Q123
namespace Q124
abbrev ps:Pz:=[.rd t9]
abbrev rs:Rq:=[.v .bool]
abbrev R:=Rr rs ps
def f (x:ab ps):R:=(Q112.f K (x.1.1,(-100000),100000,())).bind λy1=>let j1:R:=some ((false,()),());bif y1.1.1 then ((Q112.f K (x.1.2.1,(-100000),100000,())).bind λy2=>bif y2.1.1 then ((Q112.f K (x.1.2.2.1,0,100000,())).bind λy3=>bif y3.1.1 then ((Q112.f K (x.1.2.2.2,1,1500,())).bind λy4=>some ((y4.1.1,()),())) else j1) else j1) else j1
def c:=Z1 73 (f K)
end Q124
namespace Q125
abbrev ps:Pz:=[.rd t26]
abbrev rs:Rq:=[.v .bool]
abbrev R:=Rr rs ps
abbrev A1:=Int×Int×Int×Int×Int×Int×Int×List (Ty.den I6)
abbrev A0:=Int
def s1 (x:ab ps)(r0:A0->R)(r1:A1->R)(a:A1):R:=bif decide (a.2.1<(FJ a.2.2.2.2.2.2.2:Int)) then ((idx a.2.2.2.2.2.2.2 a.2.1).bind λy8=>(Q112.f K (y8,1,60000,())).bind λy9=>bif !y9.1.1 then (some ((false,()),())) else (r1 (a.1,wr .i64 (a.2.1+1),a.2.2))) else (r0 (wr .i64 (a.1+1)))
def l1 (x:ab ps)(r0:A0->R):A1->R:=ae (s1 K x r0) K
def s0 (x:ab ps)(N1:A1->R)(r0:A0->R)(a:A0):R:=let b1:=x.1.2.2.2.2.2.2.2.2.2.2.2.2.2.1;bif decide (a<(FJ b1:Int)) then ((idx b1 a).bind λy1=>(Q112.f K (y1.1,0,7,())).bind λy2=>let j2:R:=some ((false,()),());bif !y2.1.1 then j2 else ((Q116.f K (y1.1,())).bind λy3=>(Q116.f K (x.1.1,())).bind λy4=>bif y3.1.1 != y4.1.1 then j2 else (bif y1.1==x.1.1 then j2 else (let j1:R:=(Q124.f K (y1.2.1,())).bind λy6=>bif !y6.1.1 then j2 else ((Q112.f K ((FJ y1.2.2:Int),1,3,())).bind λy7=>bif !y7.1.1 then j2 else (N1 (a,0,y1.1,y1.2.1.1,y1.2.1.2.1,y1.2.1.2.2.1,y1.2.1.2.2.2,y1.2.2)));bif decide (a>0) then ((idx b1 (wr .i64 (a-1))).bind λy5=>bif decide (y5.1>=y1.1) then j2 else j1) else j1)))) else (some ((true,()),()))
def l0 (x:ab ps):A0->R:=ae (λr0 a=>s0 K x (l1 K x r0) r0 a) K
def pre (K:Nat)(N0:A0->R)(x:ab ps):R:=N0 0
def f (x:ab ps):R:=pre K (l0 K x) x
def c:=Z1 74 (f K)
def G:List Ctr:=[Q112.c K,Q116.c K,Q124.c K]
def v1:List (Nat×List Coe):=[(1,[.keep]),(3,[.keep]),(4,[.keep]),(5,[.keep]),(100001,Kc0),(100004,Kc6)]
def v0:List (Nat×List Coe):=[(1,[.keep]),(3,[.keep]),(100001,Kc0)]
def L:List (Nat×List (Nat×List Coe)):=[(9,v1),(3,v0)]
def body:Code:=cY Tryz.f74
abbrev ev:Code->St->(Ex->St->R)->R:=evK (G K) T_S L K
abbrev fin:Ex->St->R:=du T_S ps rs true Tryz.f74.results.toList
def S0 (x:ab ps)(a:A0):St:=av [(1,⟨0,.one,[.bp 100001 0]⟩),(3,⟨0,.one,[.int .i64 a]⟩),(100001,⟨0,.agg,(w0 x.1)⟩)]
def S1 (x:ab ps)(a:A1):St:=av [(1,⟨0,.one,[.bp 100001 0]⟩),(3,⟨0,.one,[.int .i64 a.1]⟩),(4,⟨0,.one,[.bp 100004 0]⟩),(5,⟨0,.one,[.int .i64 a.2.1]⟩),(100001,⟨0,.agg,(w0 x.1)⟩),(100004,⟨0,.agg,[.int .i64 a.2.2.1,.int .i64 a.2.2.2.1,.int .i64 a.2.2.2.2.1,.int .i64 a.2.2.2.2.2.1,.int .i64 a.2.2.2.2.2.2.1,.ro true 3 I6 a.2.2.2.2.2.2.2]⟩)]
def k0 (x:ab ps):Ex->St->R:=kAt (ev K) body [1,0,1,0] fin
def N0 (x:ab ps):A0->R:=λa=>aY v0 (ev K (sub body [1,0,1,0,0])) K (S0 x a) (k0 K x)
def k1 (x:ab ps)(q0:St->R):Ex->St->R:=kAt (ev K) (sub body [1,0,1,0,0]) [1,0,0,1,1,1,0] (iq v0 q0 (k0 K x))
def N1 (x:ab ps)(q0:St->R):A1->R:=λa=>aY v1 (ev K (sub body [1,0,1,0,0,1,0,0,1,1,1,0,0])) K (S1 x a) (k1 K x q0)
end Q125
end
end Go.Proofs.YtmibehbhnkeaiaaGreatEv
