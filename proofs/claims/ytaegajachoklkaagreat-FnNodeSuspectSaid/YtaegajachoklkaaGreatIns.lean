/- slices.Insert, walked; its contracts are sound. Printed by insert.py. -/
import Derived.Test.YtaegajachoklkaaGreatFns
import Derived.Test.YtaegajachoklkaaGreatInsG
set_option linter.unusedVariables false
set_option maxRecDepth 100000
set_option linter.unusedVariables false
set_option linter.unusedSimpArgs false
open Go.Act renaming eval->BH,put->BJ
open Go.Addr renaming add_lit->BD
open Go.Value renaming ownBlock->BG
open Go.World renaming shape?->BE
open List renaming nil_append->BF
open Nat renaming zero_add->BI
namespace Go.Proofs.YtaegajachoklkaaGreatEv
open Go Go.Proofs Go.Shelf Go.RowKit Go.Lib
namespace Q1
set_option maxHeartbeats 4000000 in
theorem ins_end:InsEnd Tryz.prog 217 55 4 32:=by
 intro w g n a1 H i z Z hz hs hb M I a2 vb m Y J R y h1 hm O r;obtain⟨X,w',hr,r1,r2,r3⟩:=dE (P:=Tryz.prog) w 23 23 55 i z 4 32 (by kernel_rfl) Z hz hs hb M _ n H I ⟨vb,0,none⟩ m Y J R (λj u hj=>by rw[BD];exact y j u hj) h1 O r;have a0:¬ ((m:Int)=0):=by omega
 go_enter Tryz.func217,Tryz.ntmps217
 go_wp2_with (at_builtin;refine Lib.wpList_append_run _ rfl _ _ _ _ rfl _ _ rfl rfl _ _ hr ?_)
 all_goals (go_ret;exact⟨X,rfl,r1,r2,r3⟩)
set_option maxHeartbeats 4000000 in
theorem ins_nil:InsNil Tryz.prog 217 55 4 32:=by
 intro w i z Y hz hs hb I vb m X y R r h1 hm a2 H;obtain⟨O,w',hr,J,Z,r3⟩:=dE (P:=Tryz.prog) w 23 23 55 i z 4 32 (by kernel_rfl) Y hz hs hb I _ 0 [] (Row.nil w 55 4) ⟨vb,0,none⟩ m X y R (λj u hj=>by rw[BD];exact r j u hj) h1 (by omega) (by omega);have a0:¬ ((m:Int)=0):=by omega
 have M:O.ownBlock=some w.heap.size:=by
  rcases r3 with h|h
  ·exfalso;rcases J.2 with ⟨_,h0⟩|⟨g,c,a1,mk,e,_⟩
   ·omega
   ·rw[e]at h;simp[BG]at h
  ·exact h
 rw[BI,BF]at J
 go_enter Tryz.func217,Tryz.ntmps217
 go_wp2_with (at_builtin;refine Lib.wpList_append_run _ rfl _ _ _ _ rfl _ _ rfl rfl _ _ hr ?_)
 all_goals (go_ret;exact⟨O,rfl,J,Z,M⟩)
set_option maxHeartbeats 4000000 in
theorem ins_shift:InsShift Tryz.prog 217 55 4 32:=shift_p (S:=23) Tryz.underlying23 (by decide) λw g n b3 i J a6 H m vc r a1 a0 hi hs hg u O hm b0 I b2 ad b9 Z a9 a4 a3 b4 Y a5 a2 b5 b1 y z=>by
 have t39:Tryz.prog.underlying 23=some (.slice 55):=Tryz.underlying23;have mixed:Tryz.prog.follows .mixedOrders=true:=by kernel_rfl
 have X:∀ o M R,(callFunc 249 #[.slice (some ⟨H,0,none⟩) m vc,.slice (some ⟨g,o,none⟩) M R]).run Tryz.prog w=.ok (.value (.bool false)) w:=λo M R=>by
  rw[run_callFunc_extern Tryz.func249 (by kernel_rfl) (by kernel_rfl) (by kernel_rfl) (e:=Extern.SlicesOverlaps.overlaps #[23,23] #[4]) (by kernel_rfl),
   Lib.run_overlaps_apart w 23 4 55 t39 4 (λw=>by simp[sizeOf,typeInfo,hi,hs]) ⟨H,0,none⟩ ⟨g,o,none⟩ m vc M R O 55 55 r.size J.size (by simp[BE,u]) (by simp[BE,hg]) (by omega) (frozen_of_row w H 0 r 55 u) (frozen_of_row w H r.size r 55 u)]
  rfl
 go_enter Tryz.func217,Tryz.ntmps217
 go_wp2_with (simp only[X])
 go_region_law_o (refine step_copy_runI rfl _ _ 23 23 rfl _ _ (by simp[BH,BJ]) (by simp[BH,BJ]) (y _ _ _) ?_)
 go_wp2_with (at_builtin;refine wpList_copy_runI _ rfl _ _ 23 23 rfl _ _ rfl rfl (z _ _) ?_)
 go_ret
 exact⟨rfl,rfl⟩
set_option maxHeartbeats 4000000 in
theorem ins_grow:InsGrow Tryz.prog 217 55 4 32:=grow_p (S:=23) Tryz.underlying23 Tryz.underlying3 (by decide) λw g n a6 i vb m vc G ROW J H hm a2 a9 r a3 a1 b0 Z I y a5 M a4 a0 R Y O z ad X u hA hB=>by
 have t39:Tryz.prog.underlying 23=some (.slice 55):=Tryz.underlying23;have t3:Tryz.prog.underlying 3=some (.int .i64):=Tryz.underlying3;have mixed:Tryz.prog.follows .mixedOrders=true:=by kernel_rfl
 go_enter Tryz.func217,Tryz.ntmps217
 go_wp2_with (at_builtin;refine Lib.wpList_append_run _ rfl _ _ _ _ rfl _ _ rfl rfl _ _ (u _) ?_)
 go_region
 go_wp2
 go_ret
 exact⟨rfl,rfl⟩
theorem walk:lR Tryz.prog 217 55 4 32:=ins_walk (by kernel_rfl) (by kernel_rfl) (by kernel_rfl) (by kernel_rfl) (by decide) (by decide) ins_nil ins_end ins_shift ins_grow
end Q1
theorem Q1.o (K:Nat):bO Tryz.prog (Q1.c K):=kI (dZ Tryz.func217 (by kernel_rfl) rfl) (.inl (by kernel_rfl)) Q1.walk
namespace Q3
set_option maxHeartbeats 4000000 in
theorem ins_end:InsEnd Tryz.prog 218 126 5 40:=by
 intro w g n a1 H i z Z hz hs hb M I a2 vb m Y J R y h1 hm O r;obtain⟨X,w',hr,r1,r2,r3⟩:=dE (P:=Tryz.prog) w 24 24 126 i z 5 40 (by kernel_rfl) Z hz hs hb M _ n H I ⟨vb,0,none⟩ m Y J R (λj u hj=>by rw[BD];exact y j u hj) h1 O r;have a0:¬ ((m:Int)=0):=by omega
 go_enter Tryz.func218,Tryz.ntmps218
 go_wp2_with (at_builtin;refine Lib.wpList_append_run _ rfl _ _ _ _ rfl _ _ rfl rfl _ _ hr ?_)
 all_goals (go_ret;exact⟨X,rfl,r1,r2,r3⟩)
set_option maxHeartbeats 4000000 in
theorem ins_nil:InsNil Tryz.prog 218 126 5 40:=by
 intro w i z Y hz hs hb I vb m X y R r h1 hm a2 H;obtain⟨O,w',hr,J,Z,r3⟩:=dE (P:=Tryz.prog) w 24 24 126 i z 5 40 (by kernel_rfl) Y hz hs hb I _ 0 [] (Row.nil w 126 5) ⟨vb,0,none⟩ m X y R (λj u hj=>by rw[BD];exact r j u hj) h1 (by omega) (by omega);have a0:¬ ((m:Int)=0):=by omega
 have M:O.ownBlock=some w.heap.size:=by
  rcases r3 with h|h
  ·exfalso;rcases J.2 with ⟨_,h0⟩|⟨g,c,a1,mk,e,_⟩
   ·omega
   ·rw[e]at h;simp[BG]at h
  ·exact h
 rw[BI,BF]at J
 go_enter Tryz.func218,Tryz.ntmps218
 go_wp2_with (at_builtin;refine Lib.wpList_append_run _ rfl _ _ _ _ rfl _ _ rfl rfl _ _ hr ?_)
 all_goals (go_ret;exact⟨O,rfl,J,Z,M⟩)
set_option maxHeartbeats 4000000 in
theorem ins_shift:InsShift Tryz.prog 218 126 5 40:=shift_p (S:=24) Tryz.underlying24 (by decide) λw g n b3 i J a6 H m vc r a1 a0 hi hs hg u O hm b0 I b2 ad b9 Z a9 a4 a3 b4 Y a5 a2 b5 b1 y z=>by
 have t39:Tryz.prog.underlying 24=some (.slice 126):=Tryz.underlying24;have mixed:Tryz.prog.follows .mixedOrders=true:=by kernel_rfl
 have X:∀ o M R,(callFunc 251 #[.slice (some ⟨H,0,none⟩) m vc,.slice (some ⟨g,o,none⟩) M R]).run Tryz.prog w=.ok (.value (.bool false)) w:=λo M R=>by
  rw[run_callFunc_extern Tryz.func251 (by kernel_rfl) (by kernel_rfl) (by kernel_rfl) (e:=Extern.SlicesOverlaps.overlaps #[24,24] #[4]) (by kernel_rfl),
   Lib.run_overlaps_apart w 24 4 126 t39 5 (λw=>by simp[sizeOf,typeInfo,hi,hs]) ⟨H,0,none⟩ ⟨g,o,none⟩ m vc M R O 126 126 r.size J.size (by simp[BE,u]) (by simp[BE,hg]) (by omega) (frozen_of_row w H 0 r 126 u) (frozen_of_row w H r.size r 126 u)]
  rfl
 go_enter Tryz.func218,Tryz.ntmps218
 go_wp2_with (simp only[X])
 go_region_law_o (refine step_copy_runI rfl _ _ 24 24 rfl _ _ (by simp[BH,BJ]) (by simp[BH,BJ]) (y _ _ _) ?_)
 go_wp2_with (at_builtin;refine wpList_copy_runI _ rfl _ _ 24 24 rfl _ _ rfl rfl (z _ _) ?_)
 go_ret
 exact⟨rfl,rfl⟩
set_option maxHeartbeats 4000000 in
theorem ins_grow:InsGrow Tryz.prog 218 126 5 40:=grow_p (S:=24) Tryz.underlying24 Tryz.underlying3 (by decide) λw g n a6 i vb m vc G ROW J H hm a2 a9 r a3 a1 b0 Z I y a5 M a4 a0 R Y O z ad X u hA hB=>by
 have t39:Tryz.prog.underlying 24=some (.slice 126):=Tryz.underlying24;have t3:Tryz.prog.underlying 3=some (.int .i64):=Tryz.underlying3;have mixed:Tryz.prog.follows .mixedOrders=true:=by kernel_rfl
 go_enter Tryz.func218,Tryz.ntmps218
 go_wp2_with (at_builtin;refine Lib.wpList_append_run _ rfl _ _ _ _ rfl _ _ rfl rfl _ _ (u _) ?_)
 go_region
 go_wp2
 go_ret
 exact⟨rfl,rfl⟩
theorem walk:lR Tryz.prog 218 126 5 40:=ins_walk (by kernel_rfl) (by kernel_rfl) (by kernel_rfl) (by kernel_rfl) (by decide) (by decide) ins_nil ins_end ins_shift ins_grow
end Q3
theorem Q3.o (K:Nat):bO Tryz.prog (Q3.c K):=kI (dZ Tryz.func218 (by kernel_rfl) rfl) (.inl (by kernel_rfl)) Q3.walk
namespace Q5
set_option maxHeartbeats 4000000 in
theorem ins_end:InsEnd Tryz.prog 177 61 4 48:=by
 intro w g n a1 H i z Z hz hs hb M I a2 vb m Y J R y h1 hm O r;obtain⟨X,w',hr,r1,r2,r3⟩:=dE (P:=Tryz.prog) w 27 27 61 i z 4 48 (by kernel_rfl) Z hz hs hb M _ n H I ⟨vb,0,none⟩ m Y J R (λj u hj=>by rw[BD];exact y j u hj) h1 O r;have a0:¬ ((m:Int)=0):=by omega
 go_enter Tryz.func177,Tryz.ntmps177
 go_wp2_with (at_builtin;refine Lib.wpList_append_run _ rfl _ _ _ _ rfl _ _ rfl rfl _ _ hr ?_)
 all_goals (go_ret;exact⟨X,rfl,r1,r2,r3⟩)
set_option maxHeartbeats 4000000 in
theorem ins_nil:InsNil Tryz.prog 177 61 4 48:=by
 intro w i z Y hz hs hb I vb m X y R r h1 hm a2 H;obtain⟨O,w',hr,J,Z,r3⟩:=dE (P:=Tryz.prog) w 27 27 61 i z 4 48 (by kernel_rfl) Y hz hs hb I _ 0 [] (Row.nil w 61 4) ⟨vb,0,none⟩ m X y R (λj u hj=>by rw[BD];exact r j u hj) h1 (by omega) (by omega);have a0:¬ ((m:Int)=0):=by omega
 have M:O.ownBlock=some w.heap.size:=by
  rcases r3 with h|h
  ·exfalso;rcases J.2 with ⟨_,h0⟩|⟨g,c,a1,mk,e,_⟩
   ·omega
   ·rw[e]at h;simp[BG]at h
  ·exact h
 rw[BI,BF]at J
 go_enter Tryz.func177,Tryz.ntmps177
 go_wp2_with (at_builtin;refine Lib.wpList_append_run _ rfl _ _ _ _ rfl _ _ rfl rfl _ _ hr ?_)
 all_goals (go_ret;exact⟨O,rfl,J,Z,M⟩)
set_option maxHeartbeats 4000000 in
theorem ins_shift:InsShift Tryz.prog 177 61 4 48:=shift_p (S:=27) Tryz.underlying27 (by decide) λw g n b3 i J a6 H m vc r a1 a0 hi hs hg u O hm b0 I b2 ad b9 Z a9 a4 a3 b4 Y a5 a2 b5 b1 y z=>by
 have t39:Tryz.prog.underlying 27=some (.slice 61):=Tryz.underlying27;have mixed:Tryz.prog.follows .mixedOrders=true:=by kernel_rfl
 have X:∀ o M R,(callFunc 219 #[.slice (some ⟨H,0,none⟩) m vc,.slice (some ⟨g,o,none⟩) M R]).run Tryz.prog w=.ok (.value (.bool false)) w:=λo M R=>by
  rw[run_callFunc_extern Tryz.func219 (by kernel_rfl) (by kernel_rfl) (by kernel_rfl) (e:=Extern.SlicesOverlaps.overlaps #[27,27] #[4]) (by kernel_rfl),
   Lib.run_overlaps_apart w 27 4 61 t39 4 (λw=>by simp[sizeOf,typeInfo,hi,hs]) ⟨H,0,none⟩ ⟨g,o,none⟩ m vc M R O 61 61 r.size J.size (by simp[BE,u]) (by simp[BE,hg]) (by omega) (frozen_of_row w H 0 r 61 u) (frozen_of_row w H r.size r 61 u)]
  rfl
 go_enter Tryz.func177,Tryz.ntmps177
 go_wp2_with (simp only[X])
 go_region_law_o (refine step_copy_runI rfl _ _ 27 27 rfl _ _ (by simp[BH,BJ]) (by simp[BH,BJ]) (y _ _ _) ?_)
 go_wp2_with (at_builtin;refine wpList_copy_runI _ rfl _ _ 27 27 rfl _ _ rfl rfl (z _ _) ?_)
 go_ret
 exact⟨rfl,rfl⟩
set_option maxHeartbeats 4000000 in
theorem ins_grow:InsGrow Tryz.prog 177 61 4 48:=grow_p (S:=27) Tryz.underlying27 Tryz.underlying3 (by decide) λw g n a6 i vb m vc G ROW J H hm a2 a9 r a3 a1 b0 Z I y a5 M a4 a0 R Y O z ad X u hA hB=>by
 have t39:Tryz.prog.underlying 27=some (.slice 61):=Tryz.underlying27;have t3:Tryz.prog.underlying 3=some (.int .i64):=Tryz.underlying3;have mixed:Tryz.prog.follows .mixedOrders=true:=by kernel_rfl
 go_enter Tryz.func177,Tryz.ntmps177
 go_wp2_with (at_builtin;refine Lib.wpList_append_run _ rfl _ _ _ _ rfl _ _ rfl rfl _ _ (u _) ?_)
 go_region
 go_wp2
 go_ret
 exact⟨rfl,rfl⟩
theorem walk:lR Tryz.prog 177 61 4 48:=ins_walk (by kernel_rfl) (by kernel_rfl) (by kernel_rfl) (by kernel_rfl) (by decide) (by decide) ins_nil ins_end ins_shift ins_grow
end Q5
theorem Q5.o (K:Nat):bO Tryz.prog (Q5.c K):=kI (dZ Tryz.func177 (by kernel_rfl) rfl) (.inl (by kernel_rfl)) Q5.walk
end Go.Proofs.YtaegajachoklkaaGreatEv
