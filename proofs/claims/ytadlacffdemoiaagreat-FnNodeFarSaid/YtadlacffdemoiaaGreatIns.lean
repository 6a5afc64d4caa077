/- slices.Insert, walked; its contracts are sound. Printed by insert.py. -/
import Derived.Test.YtadlacffdemoiaaGreatFns
import Derived.Test.YtadlacffdemoiaaGreatInsG
set_option linter.unusedVariables false
set_option maxRecDepth 100000
set_option linter.unusedVariables false
set_option linter.unusedSimpArgs false
open Go.Act renaming eval->B3,put->B5
open Go.Addr renaming add_lit->BV
open Go.Value renaming ownBlock->BZ
open Go.World renaming shape?->BW
open List renaming nil_append->BY
open Nat renaming mul_one->BX,zero_add->B4
namespace Go.Proofs.YtadlacffdemoiaaGreatEv
open Go Go.Proofs Go.Shelf Go.RowKit Go.Lib
namespace Q2
set_option maxHeartbeats 4000000 in
theorem ins_end:InsEnd Tryz.prog 114 40 4 32:=by
 intro w g n a2 I i z hi Y hs hb O J a1 vb m Z H hl y h1 hm M r;obtain⟨R,w',hr,r1,r2,r3⟩:=cf (P:=Tryz.prog) w 23 23 40 i z 4 32 (by kernel_rfl) hi Y hs hb O _ n I J ⟨vb,0,none⟩ m Z H hl (λj u X=>by rw[BV];exact y j u X) h1 M r;have a0:¬ ((m:Int)=0):=by omega
 go_enter Tryz.func114,Tryz.ntmps114
 go_wp2_with (at_builtin;refine Lib.wpList_append_run _ rfl _ _ _ _ rfl _ _ rfl rfl _ _ hr ?_)
 all_goals (go_ret;exact⟨R,rfl,r1,r2,r3⟩)
set_option maxHeartbeats 4000000 in
theorem ins_nil:InsNil Tryz.prog 114 40 4 32:=by
 intro w i z hi Y hs hb M vb m Z y hl r h1 hm a1 H;obtain⟨O,w',hr,J,r2,r3⟩:=cf (P:=Tryz.prog) w 23 23 40 i z 4 32 (by kernel_rfl) hi Y hs hb M _ 0 [] (Row.nil w 40 4) ⟨vb,0,none⟩ m Z y hl (λj u X=>by rw[BV];exact r j u X) h1 (by omega) (by omega);have a0:¬ ((m:Int)=0):=by omega
 have I:O.ownBlock=some w.heap.size:=by
  rcases r3 with h|h
  ·exfalso;rcases J.2 with ⟨_,h0⟩|⟨g,c,R,mk,e,_⟩
   ·omega
   ·rw[e]at h;simp[BZ]at h
  ·exact h
 rw[B4,BY]at J
 go_enter Tryz.func114,Tryz.ntmps114
 go_wp2_with (at_builtin;refine Lib.wpList_append_run _ rfl _ _ _ _ rfl _ _ rfl rfl _ _ hr ?_)
 all_goals (go_ret;exact⟨O,rfl,J,r2,I⟩)
set_option maxHeartbeats 4000000 in
theorem ins_shift:InsShift Tryz.prog 114 40 4 32:=shift_p (S:=23) Tryz.underlying23 (by decide) λw g n ba i I a9 H m Z r a2 a0 hi hs hg z O hm b9 X b1 a4 b0 a1 b4 a5 a6 b2 Y a3 b3 b5 ad u y=>by
 have t39:Tryz.prog.underlying 23=some (.slice 40):=Tryz.underlying23;have mixed:Tryz.prog.follows .mixedOrders=true:=by kernel_rfl
 have J:∀ o M R,(callFunc 169 #[.slice (some ⟨H,0,none⟩) m Z,.slice (some ⟨g,o,none⟩) M R]).run Tryz.prog w=.ok (.value (.bool false)) w:=λo M R=>by
  rw[run_callFunc_extern Tryz.func169 (by kernel_rfl) (by kernel_rfl) (by kernel_rfl) (e:=Extern.SlicesOverlaps.overlaps #[23,23] #[4]) (by kernel_rfl),
   Lib.run_overlaps_apart w 23 4 40 t39 4 (λw=>by simp[sizeOf,typeInfo,hi,hs]) ⟨H,0,none⟩ ⟨g,o,none⟩ m Z M R O 40 40 r.size I.size (by simp[BW,z]) (by simp[BW,hg]) (by omega) (frozen_of_row w H 0 r 40 z) (frozen_of_row w H r.size r 40 z)]
  rfl
 try simp only[BX]at u y
 go_enter Tryz.func114,Tryz.ntmps114
 go_wp2_with (simp only[J])
 go_region_law_o (refine step_copy_runI rfl _ _ 23 23 rfl _ _ (by simp[B3,B5]) (by simp[B3,B5]) (u _ _ _) ?_)
 go_wp2_with (at_builtin;refine wpList_copy_runI _ rfl _ _ 23 23 rfl _ _ rfl rfl (y _ _) ?_)
 go_ret
 exact⟨rfl,rfl⟩
set_option maxHeartbeats 4000000 in
theorem ins_grow:InsGrow Tryz.prog 114 40 4 32:=grow_p (S:=23) Tryz.underlying23 Tryz.underlying3 (by decide) λw g n b0 i vb m vc G ROW M z hm ad a1 r a6 Y a4 O y I a2 H a3 a9 Z X a0 J a5 R u hA hB=>by
 have t39:Tryz.prog.underlying 23=some (.slice 40):=Tryz.underlying23;have t3:Tryz.prog.underlying 3=some (.int .i64):=Tryz.underlying3;try simp only[BX]at hA hB
 have mixed:Tryz.prog.follows .mixedOrders=true:=by kernel_rfl
 go_enter Tryz.func114,Tryz.ntmps114
 go_wp2_with (at_builtin;refine Lib.wpList_append_run _ rfl _ _ _ _ rfl _ _ rfl rfl _ _ (u _) ?_)
 go_region
 go_wp2
 go_ret
 exact⟨rfl,rfl⟩
theorem walk:jq Tryz.prog 114 40 4 32:=ins_walk (by kernel_rfl) (by kernel_rfl) (by kernel_rfl) (by kernel_rfl) (by decide) (by decide) (by decide) ins_nil ins_end ins_shift ins_grow
end Q2
theorem Q2.o (K:Nat):bR Tryz.prog (Q2.c K):=gJ (dn Tryz.func114 (by kernel_rfl) rfl) (.inl (by kernel_rfl)) Q2.walk
namespace Q4
set_option maxHeartbeats 4000000 in
theorem ins_end:InsEnd Tryz.prog 238 50 5 40:=by
 intro w g n a2 I i z hi Y hs hb O J a1 vb m Z H hl y h1 hm M r;obtain⟨R,w',hr,r1,r2,r3⟩:=cf (P:=Tryz.prog) w 24 24 50 i z 5 40 (by kernel_rfl) hi Y hs hb O _ n I J ⟨vb,0,none⟩ m Z H hl (λj u X=>by rw[BV];exact y j u X) h1 M r;have a0:¬ ((m:Int)=0):=by omega
 go_enter Tryz.func238,Tryz.ntmps238
 go_wp2_with (at_builtin;refine Lib.wpList_append_run _ rfl _ _ _ _ rfl _ _ rfl rfl _ _ hr ?_)
 all_goals (go_ret;exact⟨R,rfl,r1,r2,r3⟩)
set_option maxHeartbeats 4000000 in
theorem ins_nil:InsNil Tryz.prog 238 50 5 40:=by
 intro w i z hi Y hs hb M vb m Z y hl r h1 hm a1 H;obtain⟨O,w',hr,J,r2,r3⟩:=cf (P:=Tryz.prog) w 24 24 50 i z 5 40 (by kernel_rfl) hi Y hs hb M _ 0 [] (Row.nil w 50 5) ⟨vb,0,none⟩ m Z y hl (λj u X=>by rw[BV];exact r j u X) h1 (by omega) (by omega);have a0:¬ ((m:Int)=0):=by omega
 have I:O.ownBlock=some w.heap.size:=by
  rcases r3 with h|h
  ·exfalso;rcases J.2 with ⟨_,h0⟩|⟨g,c,R,mk,e,_⟩
   ·omega
   ·rw[e]at h;simp[BZ]at h
  ·exact h
 rw[B4,BY]at J
 go_enter Tryz.func238,Tryz.ntmps238
 go_wp2_with (at_builtin;refine Lib.wpList_append_run _ rfl _ _ _ _ rfl _ _ rfl rfl _ _ hr ?_)
 all_goals (go_ret;exact⟨O,rfl,J,r2,I⟩)
set_option maxHeartbeats 4000000 in
theorem ins_shift:InsShift Tryz.prog 238 50 5 40:=shift_p (S:=24) Tryz.underlying24 (by decide) λw g n ba i I a9 H m Z r a2 a0 hi hs hg z O hm b9 X b1 a4 b0 a1 b4 a5 a6 b2 Y a3 b3 b5 ad u y=>by
 have t39:Tryz.prog.underlying 24=some (.slice 50):=Tryz.underlying24;have mixed:Tryz.prog.follows .mixedOrders=true:=by kernel_rfl
 have J:∀ o M R,(callFunc 272 #[.slice (some ⟨H,0,none⟩) m Z,.slice (some ⟨g,o,none⟩) M R]).run Tryz.prog w=.ok (.value (.bool false)) w:=λo M R=>by
  rw[run_callFunc_extern Tryz.func272 (by kernel_rfl) (by kernel_rfl) (by kernel_rfl) (e:=Extern.SlicesOverlaps.overlaps #[24,24] #[4]) (by kernel_rfl),
   Lib.run_overlaps_apart w 24 4 50 t39 5 (λw=>by simp[sizeOf,typeInfo,hi,hs]) ⟨H,0,none⟩ ⟨g,o,none⟩ m Z M R O 50 50 r.size I.size (by simp[BW,z]) (by simp[BW,hg]) (by omega) (frozen_of_row w H 0 r 50 z) (frozen_of_row w H r.size r 50 z)]
  rfl
 try simp only[BX]at u y
 go_enter Tryz.func238,Tryz.ntmps238
 go_wp2_with (simp only[J])
 go_region_law_o (refine step_copy_runI rfl _ _ 24 24 rfl _ _ (by simp[B3,B5]) (by simp[B3,B5]) (u _ _ _) ?_)
 go_wp2_with (at_builtin;refine wpList_copy_runI _ rfl _ _ 24 24 rfl _ _ rfl rfl (y _ _) ?_)
 go_ret
 exact⟨rfl,rfl⟩
set_option maxHeartbeats 4000000 in
theorem ins_grow:InsGrow Tryz.prog 238 50 5 40:=grow_p (S:=24) Tryz.underlying24 Tryz.underlying3 (by decide) λw g n b0 i vb m vc G ROW M z hm ad a1 r a6 Y a4 O y I a2 H a3 a9 Z X a0 J a5 R u hA hB=>by
 have t39:Tryz.prog.underlying 24=some (.slice 50):=Tryz.underlying24;have t3:Tryz.prog.underlying 3=some (.int .i64):=Tryz.underlying3;try simp only[BX]at hA hB
 have mixed:Tryz.prog.follows .mixedOrders=true:=by kernel_rfl
 go_enter Tryz.func238,Tryz.ntmps238
 go_wp2_with (at_builtin;refine Lib.wpList_append_run _ rfl _ _ _ _ rfl _ _ rfl rfl _ _ (u _) ?_)
 go_region
 go_wp2
 go_ret
 exact⟨rfl,rfl⟩
theorem walk:jq Tryz.prog 238 50 5 40:=ins_walk (by kernel_rfl) (by kernel_rfl) (by kernel_rfl) (by kernel_rfl) (by decide) (by decide) (by decide) ins_nil ins_end ins_shift ins_grow
end Q4
theorem Q4.o (K:Nat):bR Tryz.prog (Q4.c K):=gJ (dn Tryz.func238 (by kernel_rfl) rfl) (.inl (by kernel_rfl)) Q4.walk
namespace Q6
set_option maxHeartbeats 4000000 in
theorem ins_end:InsEnd Tryz.prog 202 83 4 48:=by
 intro w g n a2 I i z hi Y hs hb O J a1 vb m Z H hl y h1 hm M r;obtain⟨R,w',hr,r1,r2,r3⟩:=cf (P:=Tryz.prog) w 27 27 83 i z 4 48 (by kernel_rfl) hi Y hs hb O _ n I J ⟨vb,0,none⟩ m Z H hl (λj u X=>by rw[BV];exact y j u X) h1 M r;have a0:¬ ((m:Int)=0):=by omega
 go_enter Tryz.func202,Tryz.ntmps202
 go_wp2_with (at_builtin;refine Lib.wpList_append_run _ rfl _ _ _ _ rfl _ _ rfl rfl _ _ hr ?_)
 all_goals (go_ret;exact⟨R,rfl,r1,r2,r3⟩)
set_option maxHeartbeats 4000000 in
theorem ins_nil:InsNil Tryz.prog 202 83 4 48:=by
 intro w i z hi Y hs hb M vb m Z y hl r h1 hm a1 H;obtain⟨O,w',hr,J,r2,r3⟩:=cf (P:=Tryz.prog) w 27 27 83 i z 4 48 (by kernel_rfl) hi Y hs hb M _ 0 [] (Row.nil w 83 4) ⟨vb,0,none⟩ m Z y hl (λj u X=>by rw[BV];exact r j u X) h1 (by omega) (by omega);have a0:¬ ((m:Int)=0):=by omega
 have I:O.ownBlock=some w.heap.size:=by
  rcases r3 with h|h
  ·exfalso;rcases J.2 with ⟨_,h0⟩|⟨g,c,R,mk,e,_⟩
   ·omega
   ·rw[e]at h;simp[BZ]at h
  ·exact h
 rw[B4,BY]at J
 go_enter Tryz.func202,Tryz.ntmps202
 go_wp2_with (at_builtin;refine Lib.wpList_append_run _ rfl _ _ _ _ rfl _ _ rfl rfl _ _ hr ?_)
 all_goals (go_ret;exact⟨O,rfl,J,r2,I⟩)
set_option maxHeartbeats 4000000 in
theorem ins_shift:InsShift Tryz.prog 202 83 4 48:=shift_p (S:=27) Tryz.underlying27 (by decide) λw g n ba i I a9 H m Z r a2 a0 hi hs hg z O hm b9 X b1 a4 b0 a1 b4 a5 a6 b2 Y a3 b3 b5 ad u y=>by
 have t39:Tryz.prog.underlying 27=some (.slice 83):=Tryz.underlying27;have mixed:Tryz.prog.follows .mixedOrders=true:=by kernel_rfl
 have J:∀ o M R,(callFunc 239 #[.slice (some ⟨H,0,none⟩) m Z,.slice (some ⟨g,o,none⟩) M R]).run Tryz.prog w=.ok (.value (.bool false)) w:=λo M R=>by
  rw[run_callFunc_extern Tryz.func239 (by kernel_rfl) (by kernel_rfl) (by kernel_rfl) (e:=Extern.SlicesOverlaps.overlaps #[27,27] #[4]) (by kernel_rfl),
   Lib.run_overlaps_apart w 27 4 83 t39 4 (λw=>by simp[sizeOf,typeInfo,hi,hs]) ⟨H,0,none⟩ ⟨g,o,none⟩ m Z M R O 83 83 r.size I.size (by simp[BW,z]) (by simp[BW,hg]) (by omega) (frozen_of_row w H 0 r 83 z) (frozen_of_row w H r.size r 83 z)]
  rfl
 try simp only[BX]at u y
 go_enter Tryz.func202,Tryz.ntmps202
 go_wp2_with (simp only[J])
 go_region_law_o (refine step_copy_runI rfl _ _ 27 27 rfl _ _ (by simp[B3,B5]) (by simp[B3,B5]) (u _ _ _) ?_)
 go_wp2_with (at_builtin;refine wpList_copy_runI _ rfl _ _ 27 27 rfl _ _ rfl rfl (y _ _) ?_)
 go_ret
 exact⟨rfl,rfl⟩
set_option maxHeartbeats 4000000 in
theorem ins_grow:InsGrow Tryz.prog 202 83 4 48:=grow_p (S:=27) Tryz.underlying27 Tryz.underlying3 (by decide) λw g n b0 i vb m vc G ROW M z hm ad a1 r a6 Y a4 O y I a2 H a3 a9 Z X a0 J a5 R u hA hB=>by
 have t39:Tryz.prog.underlying 27=some (.slice 83):=Tryz.underlying27;have t3:Tryz.prog.underlying 3=some (.int .i64):=Tryz.underlying3;try simp only[BX]at hA hB
 have mixed:Tryz.prog.follows .mixedOrders=true:=by kernel_rfl
 go_enter Tryz.func202,Tryz.ntmps202
 go_wp2_with (at_builtin;refine Lib.wpList_append_run _ rfl _ _ _ _ rfl _ _ rfl rfl _ _ (u _) ?_)
 go_region
 go_wp2
 go_ret
 exact⟨rfl,rfl⟩
theorem walk:jq Tryz.prog 202 83 4 48:=ins_walk (by kernel_rfl) (by kernel_rfl) (by kernel_rfl) (by kernel_rfl) (by decide) (by decide) (by decide) ins_nil ins_end ins_shift ins_grow
end Q6
theorem Q6.o (K:Nat):bR Tryz.prog (Q6.c K):=gJ (dn Tryz.func202 (by kernel_rfl) rfl) (.inl (by kernel_rfl)) Q6.walk
namespace Q7
set_option maxHeartbeats 4000000 in
theorem ins_end:InsEnd Tryz.prog 148 3 1 8:=by
 intro w g n a2 I i z hi Y hs hb O J a1 vb m Z H hl y h1 hm M r;obtain⟨R,w',hr,r1,r2,r3⟩:=cf (P:=Tryz.prog) w 69 69 3 i z 1 8 (by kernel_rfl) hi Y hs hb O _ n I J ⟨vb,0,none⟩ m Z H hl (λj u X=>by rw[BV];exact y j u X) h1 M r;have a0:¬ ((m:Int)=0):=by omega
 go_enter Tryz.func148,Tryz.ntmps148
 go_wp2_with (at_builtin;refine Lib.wpList_append_run _ rfl _ _ _ _ rfl _ _ rfl rfl _ _ hr ?_)
 all_goals (go_ret;exact⟨R,rfl,r1,r2,r3⟩)
set_option maxHeartbeats 4000000 in
theorem ins_nil:InsNil Tryz.prog 148 3 1 8:=by
 intro w i z hi Y hs hb M vb m Z y hl r h1 hm a1 H;obtain⟨O,w',hr,J,r2,r3⟩:=cf (P:=Tryz.prog) w 69 69 3 i z 1 8 (by kernel_rfl) hi Y hs hb M _ 0 [] (Row.nil w 3 1) ⟨vb,0,none⟩ m Z y hl (λj u X=>by rw[BV];exact r j u X) h1 (by omega) (by omega);have a0:¬ ((m:Int)=0):=by omega
 have I:O.ownBlock=some w.heap.size:=by
  rcases r3 with h|h
  ·exfalso;rcases J.2 with ⟨_,h0⟩|⟨g,c,R,mk,e,_⟩
   ·omega
   ·rw[e]at h;simp[BZ]at h
  ·exact h
 rw[B4,BY]at J
 go_enter Tryz.func148,Tryz.ntmps148
 go_wp2_with (at_builtin;refine Lib.wpList_append_run _ rfl _ _ _ _ rfl _ _ rfl rfl _ _ hr ?_)
 all_goals (go_ret;exact⟨O,rfl,J,r2,I⟩)
set_option maxHeartbeats 4000000 in
theorem ins_shift:InsShift Tryz.prog 148 3 1 8:=shift_p (S:=69) Tryz.underlying69 (by decide) λw g n ba i I a9 H m Z r a2 a0 hi hs hg z O hm b9 X b1 a4 b0 a1 b4 a5 a6 b2 Y a3 b3 b5 ad u y=>by
 have t39:Tryz.prog.underlying 69=some (.slice 3):=Tryz.underlying69;have mixed:Tryz.prog.follows .mixedOrders=true:=by kernel_rfl
 have J:∀ o M R,(callFunc 205 #[.slice (some ⟨H,0,none⟩) m Z,.slice (some ⟨g,o,none⟩) M R]).run Tryz.prog w=.ok (.value (.bool false)) w:=λo M R=>by
  rw[run_callFunc_extern Tryz.func205 (by kernel_rfl) (by kernel_rfl) (by kernel_rfl) (e:=Extern.SlicesOverlaps.overlaps #[69,69] #[4]) (by kernel_rfl),
   Lib.run_overlaps_apart w 69 4 3 t39 1 (λw=>by simp[sizeOf,typeInfo,hi,hs]) ⟨H,0,none⟩ ⟨g,o,none⟩ m Z M R O 3 3 r.size I.size (by simp[BW,z]) (by simp[BW,hg]) (by omega) (frozen_of_row w H 0 r 3 z) (frozen_of_row w H r.size r 3 z)]
  rfl
 try simp only[BX]at u y
 go_enter Tryz.func148,Tryz.ntmps148
 go_wp2_with (simp only[J])
 go_region_law_o (refine step_copy_runI rfl _ _ 69 69 rfl _ _ (by simp[B3,B5]) (by simp[B3,B5]) (u _ _ _) ?_)
 go_wp2_with (at_builtin;refine wpList_copy_runI _ rfl _ _ 69 69 rfl _ _ rfl rfl (y _ _) ?_)
 go_ret
 exact⟨rfl,rfl⟩
set_option maxHeartbeats 4000000 in
theorem ins_grow:InsGrow Tryz.prog 148 3 1 8:=grow_p (S:=69) Tryz.underlying69 Tryz.underlying3 (by decide) λw g n b0 i vb m vc G ROW M z hm ad a1 r a6 Y a4 O y I a2 H a3 a9 Z X a0 J a5 R u hA hB=>by
 have t39:Tryz.prog.underlying 69=some (.slice 3):=Tryz.underlying69;have t3:Tryz.prog.underlying 3=some (.int .i64):=Tryz.underlying3;try simp only[BX]at hA hB
 have mixed:Tryz.prog.follows .mixedOrders=true:=by kernel_rfl
 go_enter Tryz.func148,Tryz.ntmps148
 go_wp2_with (at_builtin;refine Lib.wpList_append_run _ rfl _ _ _ _ rfl _ _ rfl rfl _ _ (u _) ?_)
 go_region
 go_wp2
 go_ret
 exact⟨rfl,rfl⟩
theorem walk:jq Tryz.prog 148 3 1 8:=ins_walk (by kernel_rfl) (by kernel_rfl) (by kernel_rfl) (by kernel_rfl) (by decide) (by decide) (by decide) ins_nil ins_end ins_shift ins_grow
end Q7
theorem Q7.o (K:Nat):bR Tryz.prog (Q7.c K):=gJ (dn Tryz.func148 (by kernel_rfl) rfl) (.inl (by kernel_rfl)) Q7.walk
namespace Q8
set_option maxHeartbeats 4000000 in
theorem ins_end:InsEnd Tryz.prog 143 55 2 32:=by
 intro w g n a2 I i z hi Y hs hb O J a1 vb m Z H hl y h1 hm M r;obtain⟨R,w',hr,r1,r2,r3⟩:=cf (P:=Tryz.prog) w 31 31 55 i z 2 32 (by kernel_rfl) hi Y hs hb O _ n I J ⟨vb,0,none⟩ m Z H hl (λj u X=>by rw[BV];exact y j u X) h1 M r;have a0:¬ ((m:Int)=0):=by omega
 go_enter Tryz.func143,Tryz.ntmps143
 go_wp2_with (at_builtin;refine Lib.wpList_append_run _ rfl _ _ _ _ rfl _ _ rfl rfl _ _ hr ?_)
 all_goals (go_ret;exact⟨R,rfl,r1,r2,r3⟩)
set_option maxHeartbeats 4000000 in
theorem ins_nil:InsNil Tryz.prog 143 55 2 32:=by
 intro w i z hi Y hs hb M vb m Z y hl r h1 hm a1 H;obtain⟨O,w',hr,J,r2,r3⟩:=cf (P:=Tryz.prog) w 31 31 55 i z 2 32 (by kernel_rfl) hi Y hs hb M _ 0 [] (Row.nil w 55 2) ⟨vb,0,none⟩ m Z y hl (λj u X=>by rw[BV];exact r j u X) h1 (by omega) (by omega);have a0:¬ ((m:Int)=0):=by omega
 have I:O.ownBlock=some w.heap.size:=by
  rcases r3 with h|h
  ·exfalso;rcases J.2 with ⟨_,h0⟩|⟨g,c,R,mk,e,_⟩
   ·omega
   ·rw[e]at h;simp[BZ]at h
  ·exact h
 rw[B4,BY]at J
 go_enter Tryz.func143,Tryz.ntmps143
 go_wp2_with (at_builtin;refine Lib.wpList_append_run _ rfl _ _ _ _ rfl _ _ rfl rfl _ _ hr ?_)
 all_goals (go_ret;exact⟨O,rfl,J,r2,I⟩)
set_option maxHeartbeats 4000000 in
theorem ins_shift:InsShift Tryz.prog 143 55 2 32:=shift_p (S:=31) Tryz.underlying31 (by decide) λw g n ba i I a9 H m Z r a2 a0 hi hs hg z O hm b9 X b1 a4 b0 a1 b4 a5 a6 b2 Y a3 b3 b5 ad u y=>by
 have t39:Tryz.prog.underlying 31=some (.slice 55):=Tryz.underlying31;have mixed:Tryz.prog.follows .mixedOrders=true:=by kernel_rfl
 have J:∀ o M R,(callFunc 195 #[.slice (some ⟨H,0,none⟩) m Z,.slice (some ⟨g,o,none⟩) M R]).run Tryz.prog w=.ok (.value (.bool false)) w:=λo M R=>by
  rw[run_callFunc_extern Tryz.func195 (by kernel_rfl) (by kernel_rfl) (by kernel_rfl) (e:=Extern.SlicesOverlaps.overlaps #[31,31] #[4]) (by kernel_rfl),
   Lib.run_overlaps_apart w 31 4 55 t39 2 (λw=>by simp[sizeOf,typeInfo,hi,hs]) ⟨H,0,none⟩ ⟨g,o,none⟩ m Z M R O 55 55 r.size I.size (by simp[BW,z]) (by simp[BW,hg]) (by omega) (frozen_of_row w H 0 r 55 z) (frozen_of_row w H r.size r 55 z)]
  rfl
 try simp only[BX]at u y
 go_enter Tryz.func143,Tryz.ntmps143
 go_wp2_with (simp only[J])
 go_region_law_o (refine step_copy_runI rfl _ _ 31 31 rfl _ _ (by simp[B3,B5]) (by simp[B3,B5]) (u _ _ _) ?_)
 go_wp2_with (at_builtin;refine wpList_copy_runI _ rfl _ _ 31 31 rfl _ _ rfl rfl (y _ _) ?_)
 go_ret
 exact⟨rfl,rfl⟩
set_option maxHeartbeats 4000000 in
theorem ins_grow:InsGrow Tryz.prog 143 55 2 32:=grow_p (S:=31) Tryz.underlying31 Tryz.underlying3 (by decide) λw g n b0 i vb m vc G ROW M z hm ad a1 r a6 Y a4 O y I a2 H a3 a9 Z X a0 J a5 R u hA hB=>by
 have t39:Tryz.prog.underlying 31=some (.slice 55):=Tryz.underlying31;have t3:Tryz.prog.underlying 3=some (.int .i64):=Tryz.underlying3;try simp only[BX]at hA hB
 have mixed:Tryz.prog.follows .mixedOrders=true:=by kernel_rfl
 go_enter Tryz.func143,Tryz.ntmps143
 go_wp2_with (at_builtin;refine Lib.wpList_append_run _ rfl _ _ _ _ rfl _ _ rfl rfl _ _ (u _) ?_)
 go_region
 go_wp2
 go_ret
 exact⟨rfl,rfl⟩
theorem walk:jq Tryz.prog 143 55 2 32:=ins_walk (by kernel_rfl) (by kernel_rfl) (by kernel_rfl) (by kernel_rfl) (by decide) (by decide) (by decide) ins_nil ins_end ins_shift ins_grow
end Q8
theorem Q8.o (K:Nat):bR Tryz.prog (Q8.c K):=gJ (dn Tryz.func143 (by kernel_rfl) rfl) (.inr rfl) Q8.walk
end Go.Proofs.YtadlacffdemoiaaGreatEv
