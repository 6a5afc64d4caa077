/- slices.Insert, walked; its contracts are sound. Printed by insert.py. -/
import Derived.Test.YtaegajachoklkabGreatFns
import Derived.Test.YtaegajachoklkabGreatInsG
set_option linter.unusedVariables false
set_option maxRecDepth 100000
set_option linter.unusedVariables false
set_option linter.unusedSimpArgs false
open Go.Act renaming eval->BK,put->BM
open Go.Addr renaming add_lit->BG
open Go.Value renaming ownBlock->BJ
open Go.World renaming shape?->BH
open List renaming nil_append->BI
open Nat renaming zero_add->BL
namespace Go.Proofs.YtaegajachoklkabGreatEv
open Go Go.Proofs Go.Shelf Go.RowKit Go.Lib
namespace Q4
set_option maxHeartbeats 4000000 in
theorem ins_end:InsEnd Tryz.prog 146 71 4 32:=by
 intro w g n a1 J i z hi R hs hb O I a2 vb m vc H hl y X hm M r;obtain⟨v',w',hr,r1,r2,Z⟩:=dC (P:=Tryz.prog) w 23 23 71 i z 4 32 (by kernel_rfl) hi R hs hb O _ n J I ⟨vb,0,none⟩ m vc H hl (λj u Y=>by rw[BG];exact y j u Y) X M r;have a0:¬ ((m:Int)=0):=by omega
 go_enter Tryz.func146,Tryz.ntmps146
 go_wp2_with (at_builtin;refine Lib.wpList_append_run _ rfl _ _ _ _ rfl _ _ rfl rfl _ _ hr ?_)
 all_goals (go_ret;exact⟨v',rfl,r1,r2,Z⟩)
set_option maxHeartbeats 4000000 in
theorem ins_nil:InsNil Tryz.prog 146 71 4 32:=by
 intro w i z hi R hs hb J vb m vc y hl r X hm Y H;obtain⟨O,w',hr,M,r2,r3⟩:=dC (P:=Tryz.prog) w 23 23 71 i z 4 32 (by kernel_rfl) hi R hs hb J _ 0 [] (Row.nil w 71 4) ⟨vb,0,none⟩ m vc y hl (λj u Z=>by rw[BG];exact r j u Z) X (by omega) (by omega);have a1:¬ ((m:Int)=0):=by omega
 have I:O.ownBlock=some w.heap.size:=by
  rcases r3 with h|h
  ·exfalso;rcases M.2 with ⟨_,h0⟩|⟨g,c,a0,mk,e,_⟩
   ·omega
   ·rw[e]at h;simp[BJ]at h
  ·exact h
 rw[BL,BI]at M
 go_enter Tryz.func146,Tryz.ntmps146
 go_wp2_with (at_builtin;refine Lib.wpList_append_run _ rfl _ _ _ _ rfl _ _ rfl rfl _ _ hr ?_)
 all_goals (go_ret;exact⟨O,rfl,M,r2,I⟩)
set_option maxHeartbeats 4000000 in
theorem ins_shift:InsShift Tryz.prog 146 71 4 32:=shift_p (S:=23) Tryz.underlying23 (by decide) λw g n ad i M b1 H m vc r a0 a1 hi hs hg u I hm a3 J b2 a5 a2 Y b3 b9 b5 b4 Z a9 a6 a4 b0 z y=>by
 have t39:Tryz.prog.underlying 23=some (.slice 71):=Tryz.underlying23;have mixed:Tryz.prog.follows .mixedOrders=true:=by kernel_rfl
 have R:∀ o O X,(callFunc 169 #[.slice (some ⟨H,0,none⟩) m vc,.slice (some ⟨g,o,none⟩) O X]).run Tryz.prog w=.ok (.value (.bool false)) w:=λo O X=>by
  rw[run_callFunc_extern Tryz.func169 (by kernel_rfl) (by kernel_rfl) (by kernel_rfl) (e:=Extern.SlicesOverlaps.overlaps #[23,23] #[4]) (by kernel_rfl),
   Lib.run_overlaps_apart w 23 4 71 t39 4 (λw=>by simp[sizeOf,typeInfo,hi,hs]) ⟨H,0,none⟩ ⟨g,o,none⟩ m vc O X I 71 71 r.size M.size (by simp[BH,u]) (by simp[BH,hg]) (by omega) (frozen_of_row w H 0 r 71 u) (frozen_of_row w H r.size r 71 u)]
  rfl
 go_enter Tryz.func146,Tryz.ntmps146
 go_wp2_with (simp only[R])
 go_region_law_o (refine step_copy_runI rfl _ _ 23 23 rfl _ _ (by simp[BK,BM]) (by simp[BK,BM]) (z _ _ _) ?_)
 go_wp2_with (at_builtin;refine wpList_copy_runI _ rfl _ _ 23 23 rfl _ _ rfl rfl (y _ _) ?_)
 go_ret
 exact⟨rfl,rfl⟩
set_option maxHeartbeats 4000000 in
theorem ins_grow:InsGrow Tryz.prog 146 71 4 32:=grow_p (S:=23) Tryz.underlying23 Tryz.underlying3 (by decide) λw g n a3 i vb m vc G ROW I M hm R a5 r Y a0 O Z J y a2 z a4 a6 b0 X ad H a9 a1 u hA hB=>by
 have t39:Tryz.prog.underlying 23=some (.slice 71):=Tryz.underlying23;have t3:Tryz.prog.underlying 3=some (.int .i64):=Tryz.underlying3;have mixed:Tryz.prog.follows .mixedOrders=true:=by kernel_rfl
 go_enter Tryz.func146,Tryz.ntmps146
 go_wp2_with (at_builtin;refine Lib.wpList_append_run _ rfl _ _ _ _ rfl _ _ rfl rfl _ _ (u _) ?_)
 go_region
 go_wp2
 go_ret
 exact⟨rfl,rfl⟩
theorem walk:lP Tryz.prog 146 71 4 32:=ins_walk (by kernel_rfl) (by kernel_rfl) (by kernel_rfl) (by kernel_rfl) (by decide) (by decide) ins_nil ins_end ins_shift ins_grow
end Q4
theorem Q4.o (K:Nat):bN Tryz.prog (Q4.c K):=kI (dW Tryz.func146 (by kernel_rfl) rfl) (.inl (by kernel_rfl)) Q4.walk
namespace Q6
set_option maxHeartbeats 4000000 in
theorem ins_end:InsEnd Tryz.prog 147 85 5 40:=by
 intro w g n a1 J i z hi R hs hb O I a2 vb m vc H hl y X hm M r;obtain⟨v',w',hr,r1,r2,Z⟩:=dC (P:=Tryz.prog) w 24 24 85 i z 5 40 (by kernel_rfl) hi R hs hb O _ n J I ⟨vb,0,none⟩ m vc H hl (λj u Y=>by rw[BG];exact y j u Y) X M r;have a0:¬ ((m:Int)=0):=by omega
 go_enter Tryz.func147,Tryz.ntmps147
 go_wp2_with (at_builtin;refine Lib.wpList_append_run _ rfl _ _ _ _ rfl _ _ rfl rfl _ _ hr ?_)
 all_goals (go_ret;exact⟨v',rfl,r1,r2,Z⟩)
set_option maxHeartbeats 4000000 in
theorem ins_nil:InsNil Tryz.prog 147 85 5 40:=by
 intro w i z hi R hs hb J vb m vc y hl r X hm Y H;obtain⟨O,w',hr,M,r2,r3⟩:=dC (P:=Tryz.prog) w 24 24 85 i z 5 40 (by kernel_rfl) hi R hs hb J _ 0 [] (Row.nil w 85 5) ⟨vb,0,none⟩ m vc y hl (λj u Z=>by rw[BG];exact r j u Z) X (by omega) (by omega);have a1:¬ ((m:Int)=0):=by omega
 have I:O.ownBlock=some w.heap.size:=by
  rcases r3 with h|h
  ·exfalso;rcases M.2 with ⟨_,h0⟩|⟨g,c,a0,mk,e,_⟩
   ·omega
   ·rw[e]at h;simp[BJ]at h
  ·exact h
 rw[BL,BI]at M
 go_enter Tryz.func147,Tryz.ntmps147
 go_wp2_with (at_builtin;refine Lib.wpList_append_run _ rfl _ _ _ _ rfl _ _ rfl rfl _ _ hr ?_)
 all_goals (go_ret;exact⟨O,rfl,M,r2,I⟩)
set_option maxHeartbeats 4000000 in
theorem ins_shift:InsShift Tryz.prog 147 85 5 40:=shift_p (S:=24) Tryz.underlying24 (by decide) λw g n ad i M b1 H m vc r a0 a1 hi hs hg u I hm a3 J b2 a5 a2 Y b3 b9 b5 b4 Z a9 a6 a4 b0 z y=>by
 have t39:Tryz.prog.underlying 24=some (.slice 85):=Tryz.underlying24;have mixed:Tryz.prog.follows .mixedOrders=true:=by kernel_rfl
 have R:∀ o O X,(callFunc 171 #[.slice (some ⟨H,0,none⟩) m vc,.slice (some ⟨g,o,none⟩) O X]).run Tryz.prog w=.ok (.value (.bool false)) w:=λo O X=>by
  rw[run_callFunc_extern Tryz.func171 (by kernel_rfl) (by kernel_rfl) (by kernel_rfl) (e:=Extern.SlicesOverlaps.overlaps #[24,24] #[4]) (by kernel_rfl),
   Lib.run_overlaps_apart w 24 4 85 t39 5 (λw=>by simp[sizeOf,typeInfo,hi,hs]) ⟨H,0,none⟩ ⟨g,o,none⟩ m vc O X I 85 85 r.size M.size (by simp[BH,u]) (by simp[BH,hg]) (by omega) (frozen_of_row w H 0 r 85 u) (frozen_of_row w H r.size r 85 u)]
  rfl
 go_enter Tryz.func147,Tryz.ntmps147
 go_wp2_with (simp only[R])
 go_region_law_o (refine step_copy_runI rfl _ _ 24 24 rfl _ _ (by simp[BK,BM]) (by simp[BK,BM]) (z _ _ _) ?_)
 go_wp2_with (at_builtin;refine wpList_copy_runI _ rfl _ _ 24 24 rfl _ _ rfl rfl (y _ _) ?_)
 go_ret
 exact⟨rfl,rfl⟩
set_option maxHeartbeats 4000000 in
theorem ins_grow:InsGrow Tryz.prog 147 85 5 40:=grow_p (S:=24) Tryz.underlying24 Tryz.underlying3 (by decide) λw g n a3 i vb m vc G ROW I M hm R a5 r Y a0 O Z J y a2 z a4 a6 b0 X ad H a9 a1 u hA hB=>by
 have t39:Tryz.prog.underlying 24=some (.slice 85):=Tryz.underlying24;have t3:Tryz.prog.underlying 3=some (.int .i64):=Tryz.underlying3;have mixed:Tryz.prog.follows .mixedOrders=true:=by kernel_rfl
 go_enter Tryz.func147,Tryz.ntmps147
 go_wp2_with (at_builtin;refine Lib.wpList_append_run _ rfl _ _ _ _ rfl _ _ rfl rfl _ _ (u _) ?_)
 go_region
 go_wp2
 go_ret
 exact⟨rfl,rfl⟩
theorem walk:lP Tryz.prog 147 85 5 40:=ins_walk (by kernel_rfl) (by kernel_rfl) (by kernel_rfl) (by kernel_rfl) (by decide) (by decide) ins_nil ins_end ins_shift ins_grow
end Q6
theorem Q6.o (K:Nat):bN Tryz.prog (Q6.c K):=kI (dW Tryz.func147 (by kernel_rfl) rfl) (.inl (by kernel_rfl)) Q6.walk
namespace Q8
set_option maxHeartbeats 4000000 in
theorem ins_end:InsEnd Tryz.prog 119 59 4 48:=by
 intro w g n a1 J i z hi R hs hb O I a2 vb m vc H hl y X hm M r;obtain⟨v',w',hr,r1,r2,Z⟩:=dC (P:=Tryz.prog) w 27 27 59 i z 4 48 (by kernel_rfl) hi R hs hb O _ n J I ⟨vb,0,none⟩ m vc H hl (λj u Y=>by rw[BG];exact y j u Y) X M r;have a0:¬ ((m:Int)=0):=by omega
 go_enter Tryz.func119,Tryz.ntmps119
 go_wp2_with (at_builtin;refine Lib.wpList_append_run _ rfl _ _ _ _ rfl _ _ rfl rfl _ _ hr ?_)
 all_goals (go_ret;exact⟨v',rfl,r1,r2,Z⟩)
set_option maxHeartbeats 4000000 in
theorem ins_nil:InsNil Tryz.prog 119 59 4 48:=by
 intro w i z hi R hs hb J vb m vc y hl r X hm Y H;obtain⟨O,w',hr,M,r2,r3⟩:=dC (P:=Tryz.prog) w 27 27 59 i z 4 48 (by kernel_rfl) hi R hs hb J _ 0 [] (Row.nil w 59 4) ⟨vb,0,none⟩ m vc y hl (λj u Z=>by rw[BG];exact r j u Z) X (by omega) (by omega);have a1:¬ ((m:Int)=0):=by omega
 have I:O.ownBlock=some w.heap.size:=by
  rcases r3 with h|h
  ·exfalso;rcases M.2 with ⟨_,h0⟩|⟨g,c,a0,mk,e,_⟩
   ·omega
   ·rw[e]at h;simp[BJ]at h
  ·exact h
 rw[BL,BI]at M
 go_enter Tryz.func119,Tryz.ntmps119
 go_wp2_with (at_builtin;refine Lib.wpList_append_run _ rfl _ _ _ _ rfl _ _ rfl rfl _ _ hr ?_)
 all_goals (go_ret;exact⟨O,rfl,M,r2,I⟩)
set_option maxHeartbeats 4000000 in
theorem ins_shift:InsShift Tryz.prog 119 59 4 48:=shift_p (S:=27) Tryz.underlying27 (by decide) λw g n ad i M b1 H m vc r a0 a1 hi hs hg u I hm a3 J b2 a5 a2 Y b3 b9 b5 b4 Z a9 a6 a4 b0 z y=>by
 have t39:Tryz.prog.underlying 27=some (.slice 59):=Tryz.underlying27;have mixed:Tryz.prog.follows .mixedOrders=true:=by kernel_rfl
 have R:∀ o O X,(callFunc 149 #[.slice (some ⟨H,0,none⟩) m vc,.slice (some ⟨g,o,none⟩) O X]).run Tryz.prog w=.ok (.value (.bool false)) w:=λo O X=>by
  rw[run_callFunc_extern Tryz.func149 (by kernel_rfl) (by kernel_rfl) (by kernel_rfl) (e:=Extern.SlicesOverlaps.overlaps #[27,27] #[4]) (by kernel_rfl),
   Lib.run_overlaps_apart w 27 4 59 t39 4 (λw=>by simp[sizeOf,typeInfo,hi,hs]) ⟨H,0,none⟩ ⟨g,o,none⟩ m vc O X I 59 59 r.size M.size (by simp[BH,u]) (by simp[BH,hg]) (by omega) (frozen_of_row w H 0 r 59 u) (frozen_of_row w H r.size r 59 u)]
  rfl
 go_enter Tryz.func119,Tryz.ntmps119
 go_wp2_with (simp only[R])
 go_region_law_o (refine step_copy_runI rfl _ _ 27 27 rfl _ _ (by simp[BK,BM]) (by simp[BK,BM]) (z _ _ _) ?_)
 go_wp2_with (at_builtin;refine wpList_copy_runI _ rfl _ _ 27 27 rfl _ _ rfl rfl (y _ _) ?_)
 go_ret
 exact⟨rfl,rfl⟩
set_option maxHeartbeats 4000000 in
theorem ins_grow:InsGrow Tryz.prog 119 59 4 48:=grow_p (S:=27) Tryz.underlying27 Tryz.underlying3 (by decide) λw g n a3 i vb m vc G ROW I M hm R a5 r Y a0 O Z J y a2 z a4 a6 b0 X ad H a9 a1 u hA hB=>by
 have t39:Tryz.prog.underlying 27=some (.slice 59):=Tryz.underlying27;have t3:Tryz.prog.underlying 3=some (.int .i64):=Tryz.underlying3;have mixed:Tryz.prog.follows .mixedOrders=true:=by kernel_rfl
 go_enter Tryz.func119,Tryz.ntmps119
 go_wp2_with (at_builtin;refine Lib.wpList_append_run _ rfl _ _ _ _ rfl _ _ rfl rfl _ _ (u _) ?_)
 go_region
 go_wp2
 go_ret
 exact⟨rfl,rfl⟩
theorem walk:lP Tryz.prog 119 59 4 48:=ins_walk (by kernel_rfl) (by kernel_rfl) (by kernel_rfl) (by kernel_rfl) (by decide) (by decide) ins_nil ins_end ins_shift ins_grow
end Q8
theorem Q8.o (K:Nat):bN Tryz.prog (Q8.c K):=kI (dW Tryz.func119 (by kernel_rfl) rfl) (.inl (by kernel_rfl)) Q8.walk
end Go.Proofs.YtaegajachoklkabGreatEv
