/- slices.Insert, walked; its contracts are sound. Printed by insert.py. -/
import Derived.Test.YtaegajachoklkaaGreatFns
import Derived.Test.YtaegajachoklkaaGreatInsG
set_option linter.unusedVariables false
set_option maxRecDepth 100000
set_option linter.unusedVariables false
set_option linter.unusedSimpArgs false
open Go.Act renaming eval->AY,put->BA
open Go.Addr renaming add_lit->AT
open Go.Value renaming ownBlock->AX
open Go.World renaming shape?->AU
open List renaming nil_append->AW
open Nat renaming mul_one->AV,zero_add->AZ
namespace Go.Proofs.YtaegajachoklkaaGreatEv
open Go Go.Proofs Go.Shelf Go.RowKit Go.Lib
namespace Q4
set_option maxHeartbeats 4000000 in
theorem ins_end:InsEnd Tryz.prog 217 55 4 32:=by
 intro w g n R H i z hi Z hs hb O I Y vb m vc J hl y h1 hm M r;obtain⟨v',w',hr,r1,r2,r3⟩:=dr (P:=Tryz.prog) w 23 23 55 i z 4 32 (by kernel_rfl) hi Z hs hb O _ n H I ⟨vb,0,none⟩ m vc J hl (λj u hj=>by rw[AT];exact y j u hj) h1 M r;have X:¬ ((m:Int)=0):=by omega
 go_enter Tryz.func217,Tryz.ntmps217
 go_wp2_with (at_builtin;refine Lib.wpList_append_run _ rfl _ _ _ _ rfl _ _ rfl rfl _ _ hr ?_)
 all_goals (go_ret;exact⟨v',rfl,r1,r2,r3⟩)
set_option maxHeartbeats 4000000 in
theorem ins_nil:InsNil Tryz.prog 217 55 4 32:=by
 intro w i z hi X hs hb J vb m vc y hl r h1 hm Y H;obtain⟨O,w',hr,M,r2,Z⟩:=dr (P:=Tryz.prog) w 23 23 55 i z 4 32 (by kernel_rfl) hi X hs hb J _ 0 [] (Row.nil w 55 4) ⟨vb,0,none⟩ m vc y hl (λj u hj=>by rw[AT];exact r j u hj) h1 (by omega) (by omega);have R:¬ ((m:Int)=0):=by omega
 have I:O.ownBlock=some w.heap.size:=by
  rcases Z with h|h
  ·exfalso;rcases M.2 with ⟨_,h0⟩|⟨g,c,a0,mk,e,_⟩
   ·omega
   ·rw[e]at h;simp[AX]at h
  ·exact h
 rw[AZ,AW]at M
 go_enter Tryz.func217,Tryz.ntmps217
 go_wp2_with (at_builtin;refine Lib.wpList_append_run _ rfl _ _ _ _ rfl _ _ rfl rfl _ _ hr ?_)
 all_goals (go_ret;exact⟨O,rfl,M,r2,I⟩)
set_option maxHeartbeats 4000000 in
theorem ins_shift:InsShift Tryz.prog 217 55 4 32:=shift_p (S:=23) Tryz.underlying23 (by decide) λw g n a3 i X a4 H m vc r a1 a0 hi hs hg z O hm b9 I b0 a5 ad Z b5 a2 b4 a9 Y b3 b1 a6 b2 y u=>by
 have t39:Tryz.prog.underlying 23=some (.slice 55):=Tryz.underlying23;have mixed:Tryz.prog.follows .mixedOrders=true:=by kernel_rfl
 have J:∀ o R M,(callFunc 249 #[.slice (some ⟨H,0,none⟩) m vc,.slice (some ⟨g,o,none⟩) R M]).run Tryz.prog w=.ok (.value (.bool false)) w:=λo R M=>by
  rw[run_callFunc_extern Tryz.func249 (by kernel_rfl) (by kernel_rfl) (by kernel_rfl) (e:=Extern.SlicesOverlaps.overlaps #[23,23] #[4]) (by kernel_rfl),
   Lib.run_overlaps_apart w 23 4 55 t39 4 (λw=>by simp[sizeOf,typeInfo,hi,hs]) ⟨H,0,none⟩ ⟨g,o,none⟩ m vc R M O 55 55 r.size X.size (by simp[AU,z]) (by simp[AU,hg]) (by omega) (frozen_of_row w H 0 r 55 z) (frozen_of_row w H r.size r 55 z)]
  rfl
 try simp only[AV]at y u
 go_enter Tryz.func217,Tryz.ntmps217
 go_wp2_with (simp only[J])
 go_region_law_o (refine step_copy_runI rfl _ _ 23 23 rfl _ _ (by simp[AY,BA]) (by simp[AY,BA]) (y _ _ _) ?_)
 go_wp2_with (at_builtin;refine wpList_copy_runI _ rfl _ _ 23 23 rfl _ _ rfl rfl (u _ _) ?_)
 go_ret
 exact⟨rfl,rfl⟩
set_option maxHeartbeats 4000000 in
theorem ins_grow:InsGrow Tryz.prog 217 55 4 32:=grow_p (S:=23) Tryz.underlying23 Tryz.underlying3 (by decide) λw g n R i vb m vc G ROW M H hm ad Y r a2 X a1 a3 I J b1 z a4 a9 O b0 a6 y a0 a5 u hA Z=>by
 have t39:Tryz.prog.underlying 23=some (.slice 55):=Tryz.underlying23;have t3:Tryz.prog.underlying 3=some (.int .i64):=Tryz.underlying3;try simp only[AV]at hA Z
 have mixed:Tryz.prog.follows .mixedOrders=true:=by kernel_rfl
 go_enter Tryz.func217,Tryz.ntmps217
 go_wp2_with (at_builtin;refine Lib.wpList_append_run _ rfl _ _ _ _ rfl _ _ rfl rfl _ _ (u _) ?_)
 go_region
 go_wp2
 go_ret
 exact⟨rfl,rfl⟩
theorem walk:lx Tryz.prog 217 55 4 32:=ins_walk (by kernel_rfl) (by kernel_rfl) (by kernel_rfl) (by kernel_rfl) (by decide) (by decide) (by decide) ins_nil ins_end ins_shift ins_grow
end Q4
theorem Q4.o (K:Nat):bT Tryz.prog (Q4.c K):=kf (fC Tryz.func217 (by kernel_rfl) rfl) (.inl (by kernel_rfl)) Q4.walk
namespace Q5
set_option maxHeartbeats 4000000 in
theorem ins_end:InsEnd Tryz.prog 218 126 5 40:=by
 intro w g n R H i z hi Z hs hb O I Y vb m vc J hl y h1 hm M r;obtain⟨v',w',hr,r1,r2,r3⟩:=dr (P:=Tryz.prog) w 24 24 126 i z 5 40 (by kernel_rfl) hi Z hs hb O _ n H I ⟨vb,0,none⟩ m vc J hl (λj u hj=>by rw[AT];exact y j u hj) h1 M r;have X:¬ ((m:Int)=0):=by omega
 go_enter Tryz.func218,Tryz.ntmps218
 go_wp2_with (at_builtin;refine Lib.wpList_append_run _ rfl _ _ _ _ rfl _ _ rfl rfl _ _ hr ?_)
 all_goals (go_ret;exact⟨v',rfl,r1,r2,r3⟩)
set_option maxHeartbeats 4000000 in
theorem ins_nil:InsNil Tryz.prog 218 126 5 40:=by
 intro w i z hi X hs hb J vb m vc y hl r h1 hm Y H;obtain⟨O,w',hr,M,r2,Z⟩:=dr (P:=Tryz.prog) w 24 24 126 i z 5 40 (by kernel_rfl) hi X hs hb J _ 0 [] (Row.nil w 126 5) ⟨vb,0,none⟩ m vc y hl (λj u hj=>by rw[AT];exact r j u hj) h1 (by omega) (by omega);have R:¬ ((m:Int)=0):=by omega
 have I:O.ownBlock=some w.heap.size:=by
  rcases Z with h|h
  ·exfalso;rcases M.2 with ⟨_,h0⟩|⟨g,c,a0,mk,e,_⟩
   ·omega
   ·rw[e]at h;simp[AX]at h
  ·exact h
 rw[AZ,AW]at M
 go_enter Tryz.func218,Tryz.ntmps218
 go_wp2_with (at_builtin;refine Lib.wpList_append_run _ rfl _ _ _ _ rfl _ _ rfl rfl _ _ hr ?_)
 all_goals (go_ret;exact⟨O,rfl,M,r2,I⟩)
set_option maxHeartbeats 4000000 in
theorem ins_shift:InsShift Tryz.prog 218 126 5 40:=shift_p (S:=24) Tryz.underlying24 (by decide) λw g n a3 i X a4 H m vc r a1 a0 hi hs hg z O hm b9 I b0 a5 ad Z b5 a2 b4 a9 Y b3 b1 a6 b2 y u=>by
 have t39:Tryz.prog.underlying 24=some (.slice 126):=Tryz.underlying24;have mixed:Tryz.prog.follows .mixedOrders=true:=by kernel_rfl
 have J:∀ o R M,(callFunc 251 #[.slice (some ⟨H,0,none⟩) m vc,.slice (some ⟨g,o,none⟩) R M]).run Tryz.prog w=.ok (.value (.bool false)) w:=λo R M=>by
  rw[run_callFunc_extern Tryz.func251 (by kernel_rfl) (by kernel_rfl) (by kernel_rfl) (e:=Extern.SlicesOverlaps.overlaps #[24,24] #[4]) (by kernel_rfl),
   Lib.run_overlaps_apart w 24 4 126 t39 5 (λw=>by simp[sizeOf,typeInfo,hi,hs]) ⟨H,0,none⟩ ⟨g,o,none⟩ m vc R M O 126 126 r.size X.size (by simp[AU,z]) (by simp[AU,hg]) (by omega) (frozen_of_row w H 0 r 126 z) (frozen_of_row w H r.size r 126 z)]
  rfl
 try simp only[AV]at y u
 go_enter Tryz.func218,Tryz.ntmps218
 go_wp2_with (simp only[J])
 go_region_law_o (refine step_copy_runI rfl _ _ 24 24 rfl _ _ (by simp[AY,BA]) (by simp[AY,BA]) (y _ _ _) ?_)
 go_wp2_with (at_builtin;refine wpList_copy_runI _ rfl _ _ 24 24 rfl _ _ rfl rfl (u _ _) ?_)
 go_ret
 exact⟨rfl,rfl⟩
set_option maxHeartbeats 4000000 in
theorem ins_grow:InsGrow Tryz.prog 218 126 5 40:=grow_p (S:=24) Tryz.underlying24 Tryz.underlying3 (by decide) λw g n R i vb m vc G ROW M H hm ad Y r a2 X a1 a3 I J b1 z a4 a9 O b0 a6 y a0 a5 u hA Z=>by
 have t39:Tryz.prog.underlying 24=some (.slice 126):=Tryz.underlying24;have t3:Tryz.prog.underlying 3=some (.int .i64):=Tryz.underlying3;try simp only[AV]at hA Z
 have mixed:Tryz.prog.follows .mixedOrders=true:=by kernel_rfl
 go_enter Tryz.func218,Tryz.ntmps218
 go_wp2_with (at_builtin;refine Lib.wpList_append_run _ rfl _ _ _ _ rfl _ _ rfl rfl _ _ (u _) ?_)
 go_region
 go_wp2
 go_ret
 exact⟨rfl,rfl⟩
theorem walk:lx Tryz.prog 218 126 5 40:=ins_walk (by kernel_rfl) (by kernel_rfl) (by kernel_rfl) (by kernel_rfl) (by decide) (by decide) (by decide) ins_nil ins_end ins_shift ins_grow
end Q5
theorem Q5.o (K:Nat):bT Tryz.prog (Q5.c K):=kf (fC Tryz.func218 (by kernel_rfl) rfl) (.inl (by kernel_rfl)) Q5.walk
namespace Q7
set_option maxHeartbeats 4000000 in
theorem ins_end:InsEnd Tryz.prog 177 61 4 48:=by
 intro w g n R H i z hi Z hs hb O I Y vb m vc J hl y h1 hm M r;obtain⟨v',w',hr,r1,r2,r3⟩:=dr (P:=Tryz.prog) w 27 27 61 i z 4 48 (by kernel_rfl) hi Z hs hb O _ n H I ⟨vb,0,none⟩ m vc J hl (λj u hj=>by rw[AT];exact y j u hj) h1 M r;have X:¬ ((m:Int)=0):=by omega
 go_enter Tryz.func177,Tryz.ntmps177
 go_wp2_with (at_builtin;refine Lib.wpList_append_run _ rfl _ _ _ _ rfl _ _ rfl rfl _ _ hr ?_)
 all_goals (go_ret;exact⟨v',rfl,r1,r2,r3⟩)
set_option maxHeartbeats 4000000 in
theorem ins_nil:InsNil Tryz.prog 177 61 4 48:=by
 intro w i z hi X hs hb J vb m vc y hl r h1 hm Y H;obtain⟨O,w',hr,M,r2,Z⟩:=dr (P:=Tryz.prog) w 27 27 61 i z 4 48 (by kernel_rfl) hi X hs hb J _ 0 [] (Row.nil w 61 4) ⟨vb,0,none⟩ m vc y hl (λj u hj=>by rw[AT];exact r j u hj) h1 (by omega) (by omega);have R:¬ ((m:Int)=0):=by omega
 have I:O.ownBlock=some w.heap.size:=by
  rcases Z with h|h
  ·exfalso;rcases M.2 with ⟨_,h0⟩|⟨g,c,a0,mk,e,_⟩
   ·omega
   ·rw[e]at h;simp[AX]at h
  ·exact h
 rw[AZ,AW]at M
 go_enter Tryz.func177,Tryz.ntmps177
 go_wp2_with (at_builtin;refine Lib.wpList_append_run _ rfl _ _ _ _ rfl _ _ rfl rfl _ _ hr ?_)
 all_goals (go_ret;exact⟨O,rfl,M,r2,I⟩)
set_option maxHeartbeats 4000000 in
theorem ins_shift:InsShift Tryz.prog 177 61 4 48:=shift_p (S:=27) Tryz.underlying27 (by decide) λw g n a3 i X a4 H m vc r a1 a0 hi hs hg z O hm b9 I b0 a5 ad Z b5 a2 b4 a9 Y b3 b1 a6 b2 y u=>by
 have t39:Tryz.prog.underlying 27=some (.slice 61):=Tryz.underlying27;have mixed:Tryz.prog.follows .mixedOrders=true:=by kernel_rfl
 have J:∀ o R M,(callFunc 219 #[.slice (some ⟨H,0,none⟩) m vc,.slice (some ⟨g,o,none⟩) R M]).run Tryz.prog w=.ok (.value (.bool false)) w:=λo R M=>by
  rw[run_callFunc_extern Tryz.func219 (by kernel_rfl) (by kernel_rfl) (by kernel_rfl) (e:=Extern.SlicesOverlaps.overlaps #[27,27] #[4]) (by kernel_rfl),
   Lib.run_overlaps_apart w 27 4 61 t39 4 (λw=>by simp[sizeOf,typeInfo,hi,hs]) ⟨H,0,none⟩ ⟨g,o,none⟩ m vc R M O 61 61 r.size X.size (by simp[AU,z]) (by simp[AU,hg]) (by omega) (frozen_of_row w H 0 r 61 z) (frozen_of_row w H r.size r 61 z)]
  rfl
 try simp only[AV]at y u
 go_enter Tryz.func177,Tryz.ntmps177
 go_wp2_with (simp only[J])
 go_region_law_o (refine step_copy_runI rfl _ _ 27 27 rfl _ _ (by simp[AY,BA]) (by simp[AY,BA]) (y _ _ _) ?_)
 go_wp2_with (at_builtin;refine wpList_copy_runI _ rfl _ _ 27 27 rfl _ _ rfl rfl (u _ _) ?_)
 go_ret
 exact⟨rfl,rfl⟩
set_option maxHeartbeats 4000000 in
theorem ins_grow:InsGrow Tryz.prog 177 61 4 48:=grow_p (S:=27) Tryz.underlying27 Tryz.underlying3 (by decide) λw g n R i vb m vc G ROW M H hm ad Y r a2 X a1 a3 I J b1 z a4 a9 O b0 a6 y a0 a5 u hA Z=>by
 have t39:Tryz.prog.underlying 27=some (.slice 61):=Tryz.underlying27;have t3:Tryz.prog.underlying 3=some (.int .i64):=Tryz.underlying3;try simp only[AV]at hA Z
 have mixed:Tryz.prog.follows .mixedOrders=true:=by kernel_rfl
 go_enter Tryz.func177,Tryz.ntmps177
 go_wp2_with (at_builtin;refine Lib.wpList_append_run _ rfl _ _ _ _ rfl _ _ rfl rfl _ _ (u _) ?_)
 go_region
 go_wp2
 go_ret
 exact⟨rfl,rfl⟩
theorem walk:lx Tryz.prog 177 61 4 48:=ins_walk (by kernel_rfl) (by kernel_rfl) (by kernel_rfl) (by kernel_rfl) (by decide) (by decide) (by decide) ins_nil ins_end ins_shift ins_grow
end Q7
theorem Q7.o (K:Nat):bT Tryz.prog (Q7.c K):=kf (fC Tryz.func177 (by kernel_rfl) rfl) (.inl (by kernel_rfl)) Q7.walk
end Go.Proofs.YtaegajachoklkaaGreatEv
