/- slices.Insert, walked; its contracts are sound. Printed by insert.py. -/
import Derived.Test.YtaegajachoklkaaGreatFns
import Derived.Test.YtaegajachoklkaaGreatInsG
set_option linter.unusedVariables false
set_option maxRecDepth 100000
set_option linter.unusedVariables false
set_option linter.unusedSimpArgs false
open Go.Act renaming eval->BO,put->BQ
open Go.Addr renaming add_lit->BK
open Go.Value renaming ownBlock->BN
open Go.World renaming shape?->BL
open List renaming nil_append->BM
open Nat renaming zero_add->BP
namespace Go.Proofs.YtaegajachoklkaaGreatEv
open Go Go.Proofs Go.Shelf Go.RowKit Go.Lib
namespace Q1
set_option maxHeartbeats 4000000 in
theorem ins_end:InsEnd Tryz.prog 217 55 4 32:=by
 intro w g n R J i z hi Y hs hb O I a0 vb m Z H hl y h1 hm M r;obtain⟨X,w',hr,r1,r2,r3⟩:=dF (P:=Tryz.prog) w 23 23 55 i z 4 32 (by kernel_rfl) hi Y hs hb O _ n J I ⟨vb,0,none⟩ m Z H hl (λj u hj=>by rw[BK];exact y j u hj) h1 M r;have a1:¬ ((m:Int)=0):=by omega
 go_enter Tryz.func217,Tryz.ntmps217
 go_wp2_with (at_builtin;refine Lib.wpList_append_run _ rfl _ _ _ _ rfl _ _ rfl rfl _ _ hr ?_)
 all_goals (go_ret;exact⟨X,rfl,r1,r2,r3⟩)
set_option maxHeartbeats 4000000 in
theorem ins_nil:InsNil Tryz.prog 217 55 4 32:=by
 intro w i z hi R hs hb I vb m Y y hl r h1 hm X H;obtain⟨O,w',hr,J,r2,r3⟩:=dF (P:=Tryz.prog) w 23 23 55 i z 4 32 (by kernel_rfl) hi R hs hb I _ 0 [] (Row.nil w 55 4) ⟨vb,0,none⟩ m Y y hl (λj u hj=>by rw[BK];exact r j u hj) h1 (by omega) (by omega);have a0:¬ ((m:Int)=0):=by omega
 have M:O.ownBlock=some w.heap.size:=by
  rcases r3 with h|h
  ·exfalso;rcases J.2 with ⟨_,h0⟩|⟨g,c,Z,mk,e,_⟩
   ·omega
   ·rw[e]at h;simp[BN]at h
  ·exact h
 rw[BP,BM]at J
 go_enter Tryz.func217,Tryz.ntmps217
 go_wp2_with (at_builtin;refine Lib.wpList_append_run _ rfl _ _ _ _ rfl _ _ rfl rfl _ _ hr ?_)
 all_goals (go_ret;exact⟨O,rfl,J,r2,M⟩)
set_option maxHeartbeats 4000000 in
theorem ins_shift:InsShift Tryz.prog 217 55 4 32:=shift_p (S:=23) Tryz.underlying23 (by decide) λw g n a3 i M ad H m vc r a0 Y hi hs hg u J hm a2 X b9 b3 a4 Z a9 b0 b4 b2 a1 a6 b1 b5 a5 z y=>by
 have t39:Tryz.prog.underlying 23=some (.slice 55):=Tryz.underlying23;have mixed:Tryz.prog.follows .mixedOrders=true:=by kernel_rfl
 have I:∀ o O R,(callFunc 249 #[.slice (some ⟨H,0,none⟩) m vc,.slice (some ⟨g,o,none⟩) O R]).run Tryz.prog w=.ok (.value (.bool false)) w:=λo O R=>by
  rw[run_callFunc_extern Tryz.func249 (by kernel_rfl) (by kernel_rfl) (by kernel_rfl) (e:=Extern.SlicesOverlaps.overlaps #[23,23] #[4]) (by kernel_rfl),
   Lib.run_overlaps_apart w 23 4 55 t39 4 (λw=>by simp[sizeOf,typeInfo,hi,hs]) ⟨H,0,none⟩ ⟨g,o,none⟩ m vc O R J 55 55 r.size M.size (by simp[BL,u]) (by simp[BL,hg]) (by omega) (frozen_of_row w H 0 r 55 u) (frozen_of_row w H r.size r 55 u)]
  rfl
 go_enter Tryz.func217,Tryz.ntmps217
 go_wp2_with (simp only[I])
 go_region_law_o (refine step_copy_runI rfl _ _ 23 23 rfl _ _ (by simp[BO,BQ]) (by simp[BO,BQ]) (z _ _ _) ?_)
 go_wp2_with (at_builtin;refine wpList_copy_runI _ rfl _ _ 23 23 rfl _ _ rfl rfl (y _ _) ?_)
 go_ret
 exact⟨rfl,rfl⟩
set_option maxHeartbeats 4000000 in
theorem ins_grow:InsGrow Tryz.prog 217 55 4 32:=grow_p (S:=23) Tryz.underlying23 Tryz.underlying3 (by decide) λw g n Y i vb m vc G ROW H z hm X a0 u R a9 Z a6 J y a4 I O a2 b0 a3 ad M a5 a1 r hA hB=>by
 have t39:Tryz.prog.underlying 23=some (.slice 55):=Tryz.underlying23;have t3:Tryz.prog.underlying 3=some (.int .i64):=Tryz.underlying3;have mixed:Tryz.prog.follows .mixedOrders=true:=by kernel_rfl
 go_enter Tryz.func217,Tryz.ntmps217
 go_wp2_with (at_builtin;refine Lib.wpList_append_run _ rfl _ _ _ _ rfl _ _ rfl rfl _ _ (r _) ?_)
 go_region
 go_wp2
 go_ret
 exact⟨rfl,rfl⟩
theorem walk:lS Tryz.prog 217 55 4 32:=ins_walk (by kernel_rfl) (by kernel_rfl) (by kernel_rfl) (by kernel_rfl) (by decide) (by decide) ins_nil ins_end ins_shift ins_grow
end Q1
theorem Q1.o (K:Nat):bO Tryz.prog (Q1.c K):=kK (dZ Tryz.func217 (by kernel_rfl) rfl) (.inl (by kernel_rfl)) Q1.walk
namespace Q3
set_option maxHeartbeats 4000000 in
theorem ins_end:InsEnd Tryz.prog 218 126 5 40:=by
 intro w g n R J i z hi Y hs hb O I a0 vb m Z H hl y h1 hm M r;obtain⟨X,w',hr,r1,r2,r3⟩:=dF (P:=Tryz.prog) w 24 24 126 i z 5 40 (by kernel_rfl) hi Y hs hb O _ n J I ⟨vb,0,none⟩ m Z H hl (λj u hj=>by rw[BK];exact y j u hj) h1 M r;have a1:¬ ((m:Int)=0):=by omega
 go_enter Tryz.func218,Tryz.ntmps218
 go_wp2_with (at_builtin;refine Lib.wpList_append_run _ rfl _ _ _ _ rfl _ _ rfl rfl _ _ hr ?_)
 all_goals (go_ret;exact⟨X,rfl,r1,r2,r3⟩)
set_option maxHeartbeats 4000000 in
theorem ins_nil:InsNil Tryz.prog 218 126 5 40:=by
 intro w i z hi R hs hb I vb m Y y hl r h1 hm X H;obtain⟨O,w',hr,J,r2,r3⟩:=dF (P:=Tryz.prog) w 24 24 126 i z 5 40 (by kernel_rfl) hi R hs hb I _ 0 [] (Row.nil w 126 5) ⟨vb,0,none⟩ m Y y hl (λj u hj=>by rw[BK];exact r j u hj) h1 (by omega) (by omega);have a0:¬ ((m:Int)=0):=by omega
 have M:O.ownBlock=some w.heap.size:=by
  rcases r3 with h|h
  ·exfalso;rcases J.2 with ⟨_,h0⟩|⟨g,c,Z,mk,e,_⟩
   ·omega
   ·rw[e]at h;simp[BN]at h
  ·exact h
 rw[BP,BM]at J
 go_enter Tryz.func218,Tryz.ntmps218
 go_wp2_with (at_builtin;refine Lib.wpList_append_run _ rfl _ _ _ _ rfl _ _ rfl rfl _ _ hr ?_)
 all_goals (go_ret;exact⟨O,rfl,J,r2,M⟩)
set_option maxHeartbeats 4000000 in
theorem ins_shift:InsShift Tryz.prog 218 126 5 40:=shift_p (S:=24) Tryz.underlying24 (by decide) λw g n a3 i M ad H m vc r a0 Y hi hs hg u J hm a2 X b9 b3 a4 Z a9 b0 b4 b2 a1 a6 b1 b5 a5 z y=>by
 have t39:Tryz.prog.underlying 24=some (.slice 126):=Tryz.underlying24;have mixed:Tryz.prog.follows .mixedOrders=true:=by kernel_rfl
 have I:∀ o O R,(callFunc 251 #[.slice (some ⟨H,0,none⟩) m vc,.slice (some ⟨g,o,none⟩) O R]).run Tryz.prog w=.ok (.value (.bool false)) w:=λo O R=>by
  rw[run_callFunc_extern Tryz.func251 (by kernel_rfl) (by kernel_rfl) (by kernel_rfl) (e:=Extern.SlicesOverlaps.overlaps #[24,24] #[4]) (by kernel_rfl),
   Lib.run_overlaps_apart w 24 4 126 t39 5 (λw=>by simp[sizeOf,typeInfo,hi,hs]) ⟨H,0,none⟩ ⟨g,o,none⟩ m vc O R J 126 126 r.size M.size (by simp[BL,u]) (by simp[BL,hg]) (by omega) (frozen_of_row w H 0 r 126 u) (frozen_of_row w H r.size r 126 u)]
  rfl
 go_enter Tryz.func218,Tryz.ntmps218
 go_wp2_with (simp only[I])
 go_region_law_o (refine step_copy_runI rfl _ _ 24 24 rfl _ _ (by simp[BO,BQ]) (by simp[BO,BQ]) (z _ _ _) ?_)
 go_wp2_with (at_builtin;refine wpList_copy_runI _ rfl _ _ 24 24 rfl _ _ rfl rfl (y _ _) ?_)
 go_ret
 exact⟨rfl,rfl⟩
set_option maxHeartbeats 4000000 in
theorem ins_grow:InsGrow Tryz.prog 218 126 5 40:=grow_p (S:=24) Tryz.underlying24 Tryz.underlying3 (by decide) λw g n Y i vb m vc G ROW H z hm X a0 u R a9 Z a6 J y a4 I O a2 b0 a3 ad M a5 a1 r hA hB=>by
 have t39:Tryz.prog.underlying 24=some (.slice 126):=Tryz.underlying24;have t3:Tryz.prog.underlying 3=some (.int .i64):=Tryz.underlying3;have mixed:Tryz.prog.follows .mixedOrders=true:=by kernel_rfl
 go_enter Tryz.func218,Tryz.ntmps218
 go_wp2_with (at_builtin;refine Lib.wpList_append_run _ rfl _ _ _ _ rfl _ _ rfl rfl _ _ (r _) ?_)
 go_region
 go_wp2
 go_ret
 exact⟨rfl,rfl⟩
theorem walk:lS Tryz.prog 218 126 5 40:=ins_walk (by kernel_rfl) (by kernel_rfl) (by kernel_rfl) (by kernel_rfl) (by decide) (by decide) ins_nil ins_end ins_shift ins_grow
end Q3
theorem Q3.o (K:Nat):bO Tryz.prog (Q3.c K):=kK (dZ Tryz.func218 (by kernel_rfl) rfl) (.inl (by kernel_rfl)) Q3.walk
namespace Q5
set_option maxHeartbeats 4000000 in
theorem ins_end:InsEnd Tryz.prog 177 61 4 48:=by
 intro w g n R J i z hi Y hs hb O I a0 vb m Z H hl y h1 hm M r;obtain⟨X,w',hr,r1,r2,r3⟩:=dF (P:=Tryz.prog) w 27 27 61 i z 4 48 (by kernel_rfl) hi Y hs hb O _ n J I ⟨vb,0,none⟩ m Z H hl (λj u hj=>by rw[BK];exact y j u hj) h1 M r;have a1:¬ ((m:Int)=0):=by omega
 go_enter Tryz.func177,Tryz.ntmps177
 go_wp2_with (at_builtin;refine Lib.wpList_append_run _ rfl _ _ _ _ rfl _ _ rfl rfl _ _ hr ?_)
 all_goals (go_ret;exact⟨X,rfl,r1,r2,r3⟩)
set_option maxHeartbeats 4000000 in
theorem ins_nil:InsNil Tryz.prog 177 61 4 48:=by
 intro w i z hi R hs hb I vb m Y y hl r h1 hm X H;obtain⟨O,w',hr,J,r2,r3⟩:=dF (P:=Tryz.prog) w 27 27 61 i z 4 48 (by kernel_rfl) hi R hs hb I _ 0 [] (Row.nil w 61 4) ⟨vb,0,none⟩ m Y y hl (λj u hj=>by rw[BK];exact r j u hj) h1 (by omega) (by omega);have a0:¬ ((m:Int)=0):=by omega
 have M:O.ownBlock=some w.heap.size:=by
  rcases r3 with h|h
  ·exfalso;rcases J.2 with ⟨_,h0⟩|⟨g,c,Z,mk,e,_⟩
   ·omega
   ·rw[e]at h;simp[BN]at h
  ·exact h
 rw[BP,BM]at J
 go_enter Tryz.func177,Tryz.ntmps177
 go_wp2_with (at_builtin;refine Lib.wpList_append_run _ rfl _ _ _ _ rfl _ _ rfl rfl _ _ hr ?_)
 all_goals (go_ret;exact⟨O,rfl,J,r2,M⟩)
set_option maxHeartbeats 4000000 in
theorem ins_shift:InsShift Tryz.prog 177 61 4 48:=shift_p (S:=27) Tryz.underlying27 (by decide) λw g n a3 i M ad H m vc r a0 Y hi hs hg u J hm a2 X b9 b3 a4 Z a9 b0 b4 b2 a1 a6 b1 b5 a5 z y=>by
 have t39:Tryz.prog.underlying 27=some (.slice 61):=Tryz.underlying27;have mixed:Tryz.prog.follows .mixedOrders=true:=by kernel_rfl
 have I:∀ o O R,(callFunc 219 #[.slice (some ⟨H,0,none⟩) m vc,.slice (some ⟨g,o,none⟩) O R]).run Tryz.prog w=.ok (.value (.bool false)) w:=λo O R=>by
  rw[run_callFunc_extern Tryz.func219 (by kernel_rfl) (by kernel_rfl) (by kernel_rfl) (e:=Extern.SlicesOverlaps.overlaps #[27,27] #[4]) (by kernel_rfl),
   Lib.run_overlaps_apart w 27 4 61 t39 4 (λw=>by simp[sizeOf,typeInfo,hi,hs]) ⟨H,0,none⟩ ⟨g,o,none⟩ m vc O R J 61 61 r.size M.size (by simp[BL,u]) (by simp[BL,hg]) (by omega) (frozen_of_row w H 0 r 61 u) (frozen_of_row w H r.size r 61 u)]
  rfl
 go_enter Tryz.func177,Tryz.ntmps177
 go_wp2_with (simp only[I])
 go_region_law_o (refine step_copy_runI rfl _ _ 27 27 rfl _ _ (by simp[BO,BQ]) (by simp[BO,BQ]) (z _ _ _) ?_)
 go_wp2_with (at_builtin;refine wpList_copy_runI _ rfl _ _ 27 27 rfl _ _ rfl rfl (y _ _) ?_)
 go_ret
 exact⟨rfl,rfl⟩
set_option maxHeartbeats 4000000 in
theorem ins_grow:InsGrow Tryz.prog 177 61 4 48:=grow_p (S:=27) Tryz.underlying27 Tryz.underlying3 (by decide) λw g n Y i vb m vc G ROW H z hm X a0 u R a9 Z a6 J y a4 I O a2 b0 a3 ad M a5 a1 r hA hB=>by
 have t39:Tryz.prog.underlying 27=some (.slice 61):=Tryz.underlying27;have t3:Tryz.prog.underlying 3=some (.int .i64):=Tryz.underlying3;have mixed:Tryz.prog.follows .mixedOrders=true:=by kernel_rfl
 go_enter Tryz.func177,Tryz.ntmps177
 go_wp2_with (at_builtin;refine Lib.wpList_append_run _ rfl _ _ _ _ rfl _ _ rfl rfl _ _ (r _) ?_)
 go_region
 go_wp2
 go_ret
 exact⟨rfl,rfl⟩
theorem walk:lS Tryz.prog 177 61 4 48:=ins_walk (by kernel_rfl) (by kernel_rfl) (by kernel_rfl) (by kernel_rfl) (by decide) (by decide) ins_nil ins_end ins_shift ins_grow
end Q5
theorem Q5.o (K:Nat):bO Tryz.prog (Q5.c K):=kK (dZ Tryz.func177 (by kernel_rfl) rfl) (.inl (by kernel_rfl)) Q5.walk
end Go.Proofs.YtaegajachoklkaaGreatEv
