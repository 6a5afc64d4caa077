/- slices.Insert, walked; its contracts are sound. Printed by insert.py. -/
import Derived.Test.YtmibehbhnkeaiaaGreatFns
import Derived.Test.YtmibehbhnkeaiaaGreatInsG
set_option linter.unusedVariables false
set_option maxRecDepth 100000
set_option linter.unusedVariables false
set_option linter.unusedSimpArgs false
open Go.Act renaming eval->FO,put->FQ
open Go.Addr renaming add_lit->FJ
open Go.Value renaming ownBlock->FN
open Go.World renaming shape?->FK
open List renaming nil_append->FM
open Nat renaming mul_one->FL,zero_add->FP
namespace Go.Proofs.YtmibehbhnkeaiaaGreatEv
open Go Go.Proofs Go.Shelf Go.RowKit Go.Lib
namespace Q1
set_option maxHeartbeats 4000000 in
theorem ins_end:InsEnd Tryz.prog 120 46 4 32:=by
 intro w g n R H i z Z hz hs Y O I a0 vb m vc J hl y X hm M r;obtain⟨v',w',hr,r1,r2,r3⟩:=bQ (P:=Tryz.prog) w 23 23 46 i z 4 32 (by kernel_rfl) Z hz hs Y O _ n H I ⟨vb,0,none⟩ m vc J hl (λj u hj=>by rw[FJ];exact y j u hj) X M r;have a1:¬ ((m:Int)=0):=by omega
 go_enter Tryz.func120,Tryz.ntmps120
 go_wp2_with (at_builtin;refine Lib.wpList_append_run _ rfl _ _ _ _ rfl _ _ rfl rfl _ _ hr ?_)
 all_goals (go_ret;exact⟨v',rfl,r1,r2,r3⟩)
set_option maxHeartbeats 4000000 in
theorem ins_nil:InsNil Tryz.prog 120 46 4 32:=by
 intro w i z hi hz hs Z I vb m vc y hl r X hm Y H;obtain⟨O,w',hr,J,r2,r3⟩:=bQ (P:=Tryz.prog) w 23 23 46 i z 4 32 (by kernel_rfl) hi hz hs Z I _ 0 [] (Row.nil w 46 4) ⟨vb,0,none⟩ m vc y hl (λj u hj=>by rw[FJ];exact r j u hj) X (by omega) (by omega);have a0:¬ ((m:Int)=0):=by omega
 have M:O.ownBlock=some w.heap.size:=by
  rcases r3 with h|h
  ·exfalso;rcases J.2 with ⟨_,h0⟩|⟨g,c,R,mk,e,_⟩
   ·omega
   ·rw[e]at h;simp[FN]at h
  ·exact h
 rw[FP,FM]at J
 go_enter Tryz.func120,Tryz.ntmps120
 go_wp2_with (at_builtin;refine Lib.wpList_append_run _ rfl _ _ _ _ rfl _ _ rfl rfl _ _ hr ?_)
 all_goals (go_ret;exact⟨O,rfl,J,r2,M⟩)
set_option maxHeartbeats 4000000 in
theorem ins_shift:InsShift Tryz.prog 120 46 4 32:=shift_p (S:=23) Tryz.underlying23 (by decide) λw g n a2 i J b1 H m vc r Y Z hi hs hg z R hm a8 O a9 az b0 a0 aw ay a3 ad a1 a5 a4 a7 a6 u y=>by
 have t39:Tryz.prog.underlying 23=some (.slice 46):=Tryz.underlying23;have mixed:Tryz.prog.follows .mixedOrders=true:=by kernel_rfl
 have M:∀ o X I,(callFunc 191 #[.slice (some ⟨H,0,none⟩) m vc,.slice (some ⟨g,o,none⟩) X I]).run Tryz.prog w=.ok (.value (.bool false)) w:=λo X I=>by
  rw[run_callFunc_extern Tryz.func191 (by kernel_rfl) (by kernel_rfl) (by kernel_rfl) (e:=Extern.SlicesOverlaps.overlaps #[23,23] #[4]) (by kernel_rfl),
   Lib.run_overlaps_apart w 23 4 46 t39 4 (λw=>by simp[sizeOf,typeInfo,hi,hs]) ⟨H,0,none⟩ ⟨g,o,none⟩ m vc X I R 46 46 r.size J.size (by simp[FK,z]) (by simp[FK,hg]) (by omega) (frozen_of_row w H 0 r 46 z) (frozen_of_row w H r.size r 46 z)]
  rfl
 try simp only[FL]at u y
 go_enter Tryz.func120,Tryz.ntmps120
 go_wp2_with (simp only[M])
 go_region_law_o (refine step_copy_runI rfl _ _ 23 23 rfl _ _ (by simp[FO,FQ]) (by simp[FO,FQ]) (u _ _ _) ?_)
 go_wp2_with (at_builtin;refine wpList_copy_runI _ rfl _ _ 23 23 rfl _ _ rfl rfl (y _ _) ?_)
 go_ret
 exact⟨rfl,rfl⟩
set_option maxHeartbeats 4000000 in
theorem ins_grow:InsGrow Tryz.prog 120 46 4 32:=grow_p (S:=23) Tryz.underlying23 Tryz.underlying3 (by decide) λw g n O i vb m vc G ROW y z hm a3 a4 r Z a9 ad aw H I Y J a2 a6 a7 a8 a0 M a5 a1 u R X=>by
 have t39:Tryz.prog.underlying 23=some (.slice 46):=Tryz.underlying23;have t3:Tryz.prog.underlying 3=some (.int .i64):=Tryz.underlying3;try simp only[FL]at R X
 have mixed:Tryz.prog.follows .mixedOrders=true:=by kernel_rfl
 go_enter Tryz.func120,Tryz.ntmps120
 go_wp2_with (at_builtin;refine Lib.wpList_append_run _ rfl _ _ _ _ rfl _ _ rfl rfl _ _ (u _) ?_)
 go_region
 go_wp2
 go_ret
 exact⟨rfl,rfl⟩
theorem walk:jr Tryz.prog 120 46 4 32:=ins_walk (by kernel_rfl) (by kernel_rfl) (by kernel_rfl) (by kernel_rfl) (by decide) (by decide) (by decide) ins_nil ins_end ins_shift ins_grow
end Q1
theorem Q1.o (K:Nat):bI Tryz.prog (Q1.c K):=gf (c7 Tryz.func120 (by kernel_rfl) rfl) (.inl (by kernel_rfl)) Q1.walk
namespace Q3
set_option maxHeartbeats 4000000 in
theorem ins_end:InsEnd Tryz.prog 271 133 5 40:=by
 intro w g n R H i z Z hz hs Y O I a0 vb m vc J hl y X hm M r;obtain⟨v',w',hr,r1,r2,r3⟩:=bQ (P:=Tryz.prog) w 24 24 133 i z 5 40 (by kernel_rfl) Z hz hs Y O _ n H I ⟨vb,0,none⟩ m vc J hl (λj u hj=>by rw[FJ];exact y j u hj) X M r;have a1:¬ ((m:Int)=0):=by omega
 go_enter Tryz.func271,Tryz.ntmps271
 go_wp2_with (at_builtin;refine Lib.wpList_append_run _ rfl _ _ _ _ rfl _ _ rfl rfl _ _ hr ?_)
 all_goals (go_ret;exact⟨v',rfl,r1,r2,r3⟩)
set_option maxHeartbeats 4000000 in
theorem ins_nil:InsNil Tryz.prog 271 133 5 40:=by
 intro w i z hi hz hs Z I vb m vc y hl r X hm Y H;obtain⟨O,w',hr,J,r2,r3⟩:=bQ (P:=Tryz.prog) w 24 24 133 i z 5 40 (by kernel_rfl) hi hz hs Z I _ 0 [] (Row.nil w 133 5) ⟨vb,0,none⟩ m vc y hl (λj u hj=>by rw[FJ];exact r j u hj) X (by omega) (by omega);have a0:¬ ((m:Int)=0):=by omega
 have M:O.ownBlock=some w.heap.size:=by
  rcases r3 with h|h
  ·exfalso;rcases J.2 with ⟨_,h0⟩|⟨g,c,R,mk,e,_⟩
   ·omega
   ·rw[e]at h;simp[FN]at h
  ·exact h
 rw[FP,FM]at J
 go_enter Tryz.func271,Tryz.ntmps271
 go_wp2_with (at_builtin;refine Lib.wpList_append_run _ rfl _ _ _ _ rfl _ _ rfl rfl _ _ hr ?_)
 all_goals (go_ret;exact⟨O,rfl,J,r2,M⟩)
set_option maxHeartbeats 4000000 in
theorem ins_shift:InsShift Tryz.prog 271 133 5 40:=shift_p (S:=24) Tryz.underlying24 (by decide) λw g n a2 i J b1 H m vc r Y Z hi hs hg z R hm a8 O a9 az b0 a0 aw ay a3 ad a1 a5 a4 a7 a6 u y=>by
 have t39:Tryz.prog.underlying 24=some (.slice 133):=Tryz.underlying24;have mixed:Tryz.prog.follows .mixedOrders=true:=by kernel_rfl
 have M:∀ o X I,(callFunc 309 #[.slice (some ⟨H,0,none⟩) m vc,.slice (some ⟨g,o,none⟩) X I]).run Tryz.prog w=.ok (.value (.bool false)) w:=λo X I=>by
  rw[run_callFunc_extern Tryz.func309 (by kernel_rfl) (by kernel_rfl) (by kernel_rfl) (e:=Extern.SlicesOverlaps.overlaps #[24,24] #[4]) (by kernel_rfl),
   Lib.run_overlaps_apart w 24 4 133 t39 5 (λw=>by simp[sizeOf,typeInfo,hi,hs]) ⟨H,0,none⟩ ⟨g,o,none⟩ m vc X I R 133 133 r.size J.size (by simp[FK,z]) (by simp[FK,hg]) (by omega) (frozen_of_row w H 0 r 133 z) (frozen_of_row w H r.size r 133 z)]
  rfl
 try simp only[FL]at u y
 go_enter Tryz.func271,Tryz.ntmps271
 go_wp2_with (simp only[M])
 go_region_law_o (refine step_copy_runI rfl _ _ 24 24 rfl _ _ (by simp[FO,FQ]) (by simp[FO,FQ]) (u _ _ _) ?_)
 go_wp2_with (at_builtin;refine wpList_copy_runI _ rfl _ _ 24 24 rfl _ _ rfl rfl (y _ _) ?_)
 go_ret
 exact⟨rfl,rfl⟩
set_option maxHeartbeats 4000000 in
theorem ins_grow:InsGrow Tryz.prog 271 133 5 40:=grow_p (S:=24) Tryz.underlying24 Tryz.underlying3 (by decide) λw g n O i vb m vc G ROW y z hm a3 a4 r Z a9 ad aw H I Y J a2 a6 a7 a8 a0 M a5 a1 u R X=>by
 have t39:Tryz.prog.underlying 24=some (.slice 133):=Tryz.underlying24;have t3:Tryz.prog.underlying 3=some (.int .i64):=Tryz.underlying3;try simp only[FL]at R X
 have mixed:Tryz.prog.follows .mixedOrders=true:=by kernel_rfl
 go_enter Tryz.func271,Tryz.ntmps271
 go_wp2_with (at_builtin;refine Lib.wpList_append_run _ rfl _ _ _ _ rfl _ _ rfl rfl _ _ (u _) ?_)
 go_region
 go_wp2
 go_ret
 exact⟨rfl,rfl⟩
theorem walk:jr Tryz.prog 271 133 5 40:=ins_walk (by kernel_rfl) (by kernel_rfl) (by kernel_rfl) (by kernel_rfl) (by decide) (by decide) (by decide) ins_nil ins_end ins_shift ins_grow
end Q3
theorem Q3.o (K:Nat):bI Tryz.prog (Q3.c K):=gf (c7 Tryz.func271 (by kernel_rfl) rfl) (.inl (by kernel_rfl)) Q3.walk
namespace Q5
set_option maxHeartbeats 4000000 in
theorem ins_end:InsEnd Tryz.prog 219 86 4 48:=by
 intro w g n R H i z Z hz hs Y O I a0 vb m vc J hl y X hm M r;obtain⟨v',w',hr,r1,r2,r3⟩:=bQ (P:=Tryz.prog) w 27 27 86 i z 4 48 (by kernel_rfl) Z hz hs Y O _ n H I ⟨vb,0,none⟩ m vc J hl (λj u hj=>by rw[FJ];exact y j u hj) X M r;have a1:¬ ((m:Int)=0):=by omega
 go_enter Tryz.func219,Tryz.ntmps219
 go_wp2_with (at_builtin;refine Lib.wpList_append_run _ rfl _ _ _ _ rfl _ _ rfl rfl _ _ hr ?_)
 all_goals (go_ret;exact⟨v',rfl,r1,r2,r3⟩)
set_option maxHeartbeats 4000000 in
theorem ins_nil:InsNil Tryz.prog 219 86 4 48:=by
 intro w i z hi hz hs Z I vb m vc y hl r X hm Y H;obtain⟨O,w',hr,J,r2,r3⟩:=bQ (P:=Tryz.prog) w 27 27 86 i z 4 48 (by kernel_rfl) hi hz hs Z I _ 0 [] (Row.nil w 86 4) ⟨vb,0,none⟩ m vc y hl (λj u hj=>by rw[FJ];exact r j u hj) X (by omega) (by omega);have a0:¬ ((m:Int)=0):=by omega
 have M:O.ownBlock=some w.heap.size:=by
  rcases r3 with h|h
  ·exfalso;rcases J.2 with ⟨_,h0⟩|⟨g,c,R,mk,e,_⟩
   ·omega
   ·rw[e]at h;simp[FN]at h
  ·exact h
 rw[FP,FM]at J
 go_enter Tryz.func219,Tryz.ntmps219
 go_wp2_with (at_builtin;refine Lib.wpList_append_run _ rfl _ _ _ _ rfl _ _ rfl rfl _ _ hr ?_)
 all_goals (go_ret;exact⟨O,rfl,J,r2,M⟩)
set_option maxHeartbeats 4000000 in
theorem ins_shift:InsShift Tryz.prog 219 86 4 48:=shift_p (S:=27) Tryz.underlying27 (by decide) λw g n a2 i J b1 H m vc r Y Z hi hs hg z R hm a8 O a9 az b0 a0 aw ay a3 ad a1 a5 a4 a7 a6 u y=>by
 have t39:Tryz.prog.underlying 27=some (.slice 86):=Tryz.underlying27;have mixed:Tryz.prog.follows .mixedOrders=true:=by kernel_rfl
 have M:∀ o X I,(callFunc 273 #[.slice (some ⟨H,0,none⟩) m vc,.slice (some ⟨g,o,none⟩) X I]).run Tryz.prog w=.ok (.value (.bool false)) w:=λo X I=>by
  rw[run_callFunc_extern Tryz.func273 (by kernel_rfl) (by kernel_rfl) (by kernel_rfl) (e:=Extern.SlicesOverlaps.overlaps #[27,27] #[4]) (by kernel_rfl),
   Lib.run_overlaps_apart w 27 4 86 t39 4 (λw=>by simp[sizeOf,typeInfo,hi,hs]) ⟨H,0,none⟩ ⟨g,o,none⟩ m vc X I R 86 86 r.size J.size (by simp[FK,z]) (by simp[FK,hg]) (by omega) (frozen_of_row w H 0 r 86 z) (frozen_of_row w H r.size r 86 z)]
  rfl
 try simp only[FL]at u y
 go_enter Tryz.func219,Tryz.ntmps219
 go_wp2_with (simp only[M])
 go_region_law_o (refine step_copy_runI rfl _ _ 27 27 rfl _ _ (by simp[FO,FQ]) (by simp[FO,FQ]) (u _ _ _) ?_)
 go_wp2_with (at_builtin;refine wpList_copy_runI _ rfl _ _ 27 27 rfl _ _ rfl rfl (y _ _) ?_)
 go_ret
 exact⟨rfl,rfl⟩
set_option maxHeartbeats 4000000 in
theorem ins_grow:InsGrow Tryz.prog 219 86 4 48:=grow_p (S:=27) Tryz.underlying27 Tryz.underlying3 (by decide) λw g n O i vb m vc G ROW y z hm a3 a4 r Z a9 ad aw H I Y J a2 a6 a7 a8 a0 M a5 a1 u R X=>by
 have t39:Tryz.prog.underlying 27=some (.slice 86):=Tryz.underlying27;have t3:Tryz.prog.underlying 3=some (.int .i64):=Tryz.underlying3;try simp only[FL]at R X
 have mixed:Tryz.prog.follows .mixedOrders=true:=by kernel_rfl
 go_enter Tryz.func219,Tryz.ntmps219
 go_wp2_with (at_builtin;refine Lib.wpList_append_run _ rfl _ _ _ _ rfl _ _ rfl rfl _ _ (u _) ?_)
 go_region
 go_wp2
 go_ret
 exact⟨rfl,rfl⟩
theorem walk:jr Tryz.prog 219 86 4 48:=ins_walk (by kernel_rfl) (by kernel_rfl) (by kernel_rfl) (by kernel_rfl) (by decide) (by decide) (by decide) ins_nil ins_end ins_shift ins_grow
end Q5
theorem Q5.o (K:Nat):bI Tryz.prog (Q5.c K):=gf (c7 Tryz.func219 (by kernel_rfl) rfl) (.inl (by kernel_rfl)) Q5.walk
namespace Q6
set_option maxHeartbeats 4000000 in
theorem ins_end:InsEnd Tryz.prog 176 3 1 8:=by
 intro w g n R H i z Z hz hs Y O I a0 vb m vc J hl y X hm M r;obtain⟨v',w',hr,r1,r2,r3⟩:=bQ (P:=Tryz.prog) w 67 67 3 i z 1 8 (by kernel_rfl) Z hz hs Y O _ n H I ⟨vb,0,none⟩ m vc J hl (λj u hj=>by rw[FJ];exact y j u hj) X M r;have a1:¬ ((m:Int)=0):=by omega
 go_enter Tryz.func176,Tryz.ntmps176
 go_wp2_with (at_builtin;refine Lib.wpList_append_run _ rfl _ _ _ _ rfl _ _ rfl rfl _ _ hr ?_)
 all_goals (go_ret;exact⟨v',rfl,r1,r2,r3⟩)
set_option maxHeartbeats 4000000 in
theorem ins_nil:InsNil Tryz.prog 176 3 1 8:=by
 intro w i z hi hz hs Z I vb m vc y hl r X hm Y H;obtain⟨O,w',hr,J,r2,r3⟩:=bQ (P:=Tryz.prog) w 67 67 3 i z 1 8 (by kernel_rfl) hi hz hs Z I _ 0 [] (Row.nil w 3 1) ⟨vb,0,none⟩ m vc y hl (λj u hj=>by rw[FJ];exact r j u hj) X (by omega) (by omega);have a0:¬ ((m:Int)=0):=by omega
 have M:O.ownBlock=some w.heap.size:=by
  rcases r3 with h|h
  ·exfalso;rcases J.2 with ⟨_,h0⟩|⟨g,c,R,mk,e,_⟩
   ·omega
   ·rw[e]at h;simp[FN]at h
  ·exact h
 rw[FP,FM]at J
 go_enter Tryz.func176,Tryz.ntmps176
 go_wp2_with (at_builtin;refine Lib.wpList_append_run _ rfl _ _ _ _ rfl _ _ rfl rfl _ _ hr ?_)
 all_goals (go_ret;exact⟨O,rfl,J,r2,M⟩)
set_option maxHeartbeats 4000000 in
theorem ins_shift:InsShift Tryz.prog 176 3 1 8:=shift_p (S:=67) Tryz.underlying67 (by decide) λw g n a2 i J b1 H m vc r Y Z hi hs hg z R hm a8 O a9 az b0 a0 aw ay a3 ad a1 a5 a4 a7 a6 u y=>by
 have t39:Tryz.prog.underlying 67=some (.slice 3):=Tryz.underlying67;have mixed:Tryz.prog.follows .mixedOrders=true:=by kernel_rfl
 have M:∀ o X I,(callFunc 242 #[.slice (some ⟨H,0,none⟩) m vc,.slice (some ⟨g,o,none⟩) X I]).run Tryz.prog w=.ok (.value (.bool false)) w:=λo X I=>by
  rw[run_callFunc_extern Tryz.func242 (by kernel_rfl) (by kernel_rfl) (by kernel_rfl) (e:=Extern.SlicesOverlaps.overlaps #[67,67] #[4]) (by kernel_rfl),
   Lib.run_overlaps_apart w 67 4 3 t39 1 (λw=>by simp[sizeOf,typeInfo,hi,hs]) ⟨H,0,none⟩ ⟨g,o,none⟩ m vc X I R 3 3 r.size J.size (by simp[FK,z]) (by simp[FK,hg]) (by omega) (frozen_of_row w H 0 r 3 z) (frozen_of_row w H r.size r 3 z)]
  rfl
 try simp only[FL]at u y
 go_enter Tryz.func176,Tryz.ntmps176
 go_wp2_with (simp only[M])
 go_region_law_o (refine step_copy_runI rfl _ _ 67 67 rfl _ _ (by simp[FO,FQ]) (by simp[FO,FQ]) (u _ _ _) ?_)
 go_wp2_with (at_builtin;refine wpList_copy_runI _ rfl _ _ 67 67 rfl _ _ rfl rfl (y _ _) ?_)
 go_ret
 exact⟨rfl,rfl⟩
set_option maxHeartbeats 4000000 in
theorem ins_grow:InsGrow Tryz.prog 176 3 1 8:=grow_p (S:=67) Tryz.underlying67 Tryz.underlying3 (by decide) λw g n O i vb m vc G ROW y z hm a3 a4 r Z a9 ad aw H I Y J a2 a6 a7 a8 a0 M a5 a1 u R X=>by
 have t39:Tryz.prog.underlying 67=some (.slice 3):=Tryz.underlying67;have t3:Tryz.prog.underlying 3=some (.int .i64):=Tryz.underlying3;try simp only[FL]at R X
 have mixed:Tryz.prog.follows .mixedOrders=true:=by kernel_rfl
 go_enter Tryz.func176,Tryz.ntmps176
 go_wp2_with (at_builtin;refine Lib.wpList_append_run _ rfl _ _ _ _ rfl _ _ rfl rfl _ _ (u _) ?_)
 go_region
 go_wp2
 go_ret
 exact⟨rfl,rfl⟩
theorem walk:jr Tryz.prog 176 3 1 8:=ins_walk (by kernel_rfl) (by kernel_rfl) (by kernel_rfl) (by kernel_rfl) (by decide) (by decide) (by decide) ins_nil ins_end ins_shift ins_grow
end Q6
theorem Q6.o (K:Nat):bI Tryz.prog (Q6.c K):=gf (c7 Tryz.func176 (by kernel_rfl) rfl) (.inl (by kernel_rfl)) Q6.walk
namespace Q8
set_option maxHeartbeats 4000000 in
theorem ins_end:InsEnd Tryz.prog 180 89 6 64:=by
 intro w g n R H i z Z hz hs Y O I a0 vb m vc J hl y X hm M r;obtain⟨v',w',hr,r1,r2,r3⟩:=bQ (P:=Tryz.prog) w 30 30 89 i z 6 64 (by kernel_rfl) Z hz hs Y O _ n H I ⟨vb,0,none⟩ m vc J hl (λj u hj=>by rw[FJ];exact y j u hj) X M r;have a1:¬ ((m:Int)=0):=by omega
 go_enter Tryz.func180,Tryz.ntmps180
 go_wp2_with (at_builtin;refine Lib.wpList_append_run _ rfl _ _ _ _ rfl _ _ rfl rfl _ _ hr ?_)
 all_goals (go_ret;exact⟨v',rfl,r1,r2,r3⟩)
set_option maxHeartbeats 4000000 in
theorem ins_nil:InsNil Tryz.prog 180 89 6 64:=by
 intro w i z hi hz hs Z I vb m vc y hl r X hm Y H;obtain⟨O,w',hr,J,r2,r3⟩:=bQ (P:=Tryz.prog) w 30 30 89 i z 6 64 (by kernel_rfl) hi hz hs Z I _ 0 [] (Row.nil w 89 6) ⟨vb,0,none⟩ m vc y hl (λj u hj=>by rw[FJ];exact r j u hj) X (by omega) (by omega);have a0:¬ ((m:Int)=0):=by omega
 have M:O.ownBlock=some w.heap.size:=by
  rcases r3 with h|h
  ·exfalso;rcases J.2 with ⟨_,h0⟩|⟨g,c,R,mk,e,_⟩
   ·omega
   ·rw[e]at h;simp[FN]at h
  ·exact h
 rw[FP,FM]at J
 go_enter Tryz.func180,Tryz.ntmps180
 go_wp2_with (at_builtin;refine Lib.wpList_append_run _ rfl _ _ _ _ rfl _ _ rfl rfl _ _ hr ?_)
 all_goals (go_ret;exact⟨O,rfl,J,r2,M⟩)
set_option maxHeartbeats 4000000 in
theorem ins_shift:InsShift Tryz.prog 180 89 6 64:=shift_p (S:=30) Tryz.underlying30 (by decide) λw g n a2 i J b1 H m vc r Y Z hi hs hg z R hm a8 O a9 az b0 a0 aw ay a3 ad a1 a5 a4 a7 a6 u y=>by
 have t39:Tryz.prog.underlying 30=some (.slice 89):=Tryz.underlying30;have mixed:Tryz.prog.follows .mixedOrders=true:=by kernel_rfl
 have M:∀ o X I,(callFunc 245 #[.slice (some ⟨H,0,none⟩) m vc,.slice (some ⟨g,o,none⟩) X I]).run Tryz.prog w=.ok (.value (.bool false)) w:=λo X I=>by
  rw[run_callFunc_extern Tryz.func245 (by kernel_rfl) (by kernel_rfl) (by kernel_rfl) (e:=Extern.SlicesOverlaps.overlaps #[30,30] #[4]) (by kernel_rfl),
   Lib.run_overlaps_apart w 30 4 89 t39 6 (λw=>by simp[sizeOf,typeInfo,hi,hs]) ⟨H,0,none⟩ ⟨g,o,none⟩ m vc X I R 89 89 r.size J.size (by simp[FK,z]) (by simp[FK,hg]) (by omega) (frozen_of_row w H 0 r 89 z) (frozen_of_row w H r.size r 89 z)]
  rfl
 try simp only[FL]at u y
 go_enter Tryz.func180,Tryz.ntmps180
 go_wp2_with (simp only[M])
 go_region_law_o (refine step_copy_runI rfl _ _ 30 30 rfl _ _ (by simp[FO,FQ]) (by simp[FO,FQ]) (u _ _ _) ?_)
 go_wp2_with (at_builtin;refine wpList_copy_runI _ rfl _ _ 30 30 rfl _ _ rfl rfl (y _ _) ?_)
 go_ret
 exact⟨rfl,rfl⟩
set_option maxHeartbeats 4000000 in
theorem ins_grow:InsGrow Tryz.prog 180 89 6 64:=grow_p (S:=30) Tryz.underlying30 Tryz.underlying3 (by decide) λw g n O i vb m vc G ROW y z hm a3 a4 r Z a9 ad aw H I Y J a2 a6 a7 a8 a0 M a5 a1 u R X=>by
 have t39:Tryz.prog.underlying 30=some (.slice 89):=Tryz.underlying30;have t3:Tryz.prog.underlying 3=some (.int .i64):=Tryz.underlying3;try simp only[FL]at R X
 have mixed:Tryz.prog.follows .mixedOrders=true:=by kernel_rfl
 go_enter Tryz.func180,Tryz.ntmps180
 go_wp2_with (at_builtin;refine Lib.wpList_append_run _ rfl _ _ _ _ rfl _ _ rfl rfl _ _ (u _) ?_)
 go_region
 go_wp2
 go_ret
 exact⟨rfl,rfl⟩
theorem walk:jr Tryz.prog 180 89 6 64:=ins_walk (by kernel_rfl) (by kernel_rfl) (by kernel_rfl) (by kernel_rfl) (by decide) (by decide) (by decide) ins_nil ins_end ins_shift ins_grow
end Q8
theorem Q8.o (K:Nat):bI Tryz.prog (Q8.c K):=gf (c7 Tryz.func180 (by kernel_rfl) rfl) (.inl (by kernel_rfl)) Q8.walk
end Go.Proofs.YtmibehbhnkeaiaaGreatEv
