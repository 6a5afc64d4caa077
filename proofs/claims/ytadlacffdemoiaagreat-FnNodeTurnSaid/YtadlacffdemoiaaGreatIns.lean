/- slices.Insert, walked; its contracts are sound. Printed by insert.py. -/
import Derived.Test.YtadlacffdemoiaaGreatFns
import Derived.Test.YtadlacffdemoiaaGreatInsG
set_option linter.unusedVariables false
set_option maxRecDepth 100000
set_option linter.unusedVariables false
set_option linter.unusedSimpArgs false
open Go.Act renaming eval->BV,put->BX
open Go.Addr renaming add_lit->BQ
open Go.Value renaming ownBlock->BU
open Go.World renaming shape?->BR
open List renaming nil_append->BT
open Nat renaming mul_one->BS,zero_add->BW
namespace Go.Proofs.YtadlacffdemoiaaGreatEv
open Go Go.Proofs Go.Shelf Go.RowKit Go.Lib
namespace Q2
set_option maxHeartbeats 4000000 in
theorem ins_end:InsEnd Tryz.prog 114 40 4 32:=by
 intro w g n a0 H i z hi hz hs R O I a2 X m vc J hl y Y hm M r;obtain⟨v',w',hr,Z,r2,r3⟩:=cg (P:=Tryz.prog) w 23 23 40 i z 4 32 (by kernel_rfl) hi hz hs R O _ n H I ⟨X,0,none⟩ m vc J hl (λj u hj=>by rw[BQ];exact y j u hj) Y M r;have a1:¬ ((m:Int)=0):=by omega
 go_enter Tryz.func114,Tryz.ntmps114
 go_wp2_with (at_builtin;refine Lib.wpList_append_run _ rfl _ _ _ _ rfl _ _ rfl rfl _ _ hr ?_)
 all_goals (go_ret;exact⟨v',rfl,Z,r2,r3⟩)
set_option maxHeartbeats 4000000 in
theorem ins_nil:InsNil Tryz.prog 114 40 4 32:=by
 intro w i z hi hz hs R M X m vc y Z r Y hm a0 H;obtain⟨O,w',hr,I,r2,r3⟩:=cg (P:=Tryz.prog) w 23 23 40 i z 4 32 (by kernel_rfl) hi hz hs R M _ 0 [] (Row.nil w 40 4) ⟨X,0,none⟩ m vc y Z (λj u hj=>by rw[BQ];exact r j u hj) Y (by omega) (by omega);have a1:¬ ((m:Int)=0):=by omega
 have J:O.ownBlock=some w.heap.size:=by
  rcases r3 with h|h
  ·exfalso;rcases I.2 with ⟨_,h0⟩|⟨g,c,a2,mk,e,_⟩
   ·omega
   ·rw[e]at h;simp[BU]at h
  ·exact h
 rw[BW,BT]at I
 go_enter Tryz.func114,Tryz.ntmps114
 go_wp2_with (at_builtin;refine Lib.wpList_append_run _ rfl _ _ _ _ rfl _ _ rfl rfl _ _ hr ?_)
 all_goals (go_ret;exact⟨O,rfl,I,r2,J⟩)
set_option maxHeartbeats 4000000 in
theorem ins_shift:InsShift Tryz.prog 114 40 4 32:=shift_p (S:=23) Tryz.underlying23 (by decide) λw g n a9 i X a3 H m vc r a1 a0 hi hs hg z R hm a2 J b5 b3 b6 Y b1 a5 b0 ad Z a4 a6 b4 b2 u y=>by
 have t39:Tryz.prog.underlying 23=some (.slice 40):=Tryz.underlying23;have mixed:Tryz.prog.follows .mixedOrders=true:=by kernel_rfl
 have I:∀ o M O,(callFunc 169 #[.slice (some ⟨H,0,none⟩) m vc,.slice (some ⟨g,o,none⟩) M O]).run Tryz.prog w=.ok (.value (.bool false)) w:=λo M O=>by
  rw[run_callFunc_extern Tryz.func169 (by kernel_rfl) (by kernel_rfl) (by kernel_rfl) (e:=Extern.SlicesOverlaps.overlaps #[23,23] #[4]) (by kernel_rfl),
   Lib.run_overlaps_apart w 23 4 40 t39 4 (λw=>by simp[sizeOf,typeInfo,hi,hs]) ⟨H,0,none⟩ ⟨g,o,none⟩ m vc M O R 40 40 r.size X.size (by simp[BR,z]) (by simp[BR,hg]) (by omega) (frozen_of_row w H 0 r 40 z) (frozen_of_row w H r.size r 40 z)]
  rfl
 try simp only[BS]at u y
 go_enter Tryz.func114,Tryz.ntmps114
 go_wp2_with (simp only[I])
 go_region_law_o (refine step_copy_runI rfl _ _ 23 23 rfl _ _ (by simp[BV,BX]) (by simp[BV,BX]) (u _ _ _) ?_)
 go_wp2_with (at_builtin;refine wpList_copy_runI _ rfl _ _ 23 23 rfl _ _ rfl rfl (y _ _) ?_)
 go_ret
 exact⟨rfl,rfl⟩
set_option maxHeartbeats 4000000 in
theorem ins_grow:InsGrow Tryz.prog 114 40 4 32:=grow_p (S:=23) Tryz.underlying23 Tryz.underlying3 (by decide) λw g n a0 i vb m vc G ROW I H hm O b0 r b1 a6 ad a5 M y a3 J R a4 Z a9 a2 z a1 Y u hA X=>by
 have t39:Tryz.prog.underlying 23=some (.slice 40):=Tryz.underlying23;have t3:Tryz.prog.underlying 3=some (.int .i64):=Tryz.underlying3;try simp only[BS]at hA X
 have mixed:Tryz.prog.follows .mixedOrders=true:=by kernel_rfl
 go_enter Tryz.func114,Tryz.ntmps114
 go_wp2_with (at_builtin;refine Lib.wpList_append_run _ rfl _ _ _ _ rfl _ _ rfl rfl _ _ (u _) ?_)
 go_region
 go_wp2
 go_ret
 exact⟨rfl,rfl⟩
theorem walk:jo Tryz.prog 114 40 4 32:=ins_walk (by kernel_rfl) (by kernel_rfl) (by kernel_rfl) (by kernel_rfl) (by decide) (by decide) (by decide) ins_nil ins_end ins_shift ins_grow
end Q2
theorem Q2.o (K:Nat):bP Tryz.prog (Q2.c K):=gJ (dr Tryz.func114 (by kernel_rfl) rfl) (.inl (by kernel_rfl)) Q2.walk
namespace Q4
set_option maxHeartbeats 4000000 in
theorem ins_end:InsEnd Tryz.prog 238 50 5 40:=by
 intro w g n a0 H i z hi hz hs R O I a2 X m vc J hl y Y hm M r;obtain⟨v',w',hr,Z,r2,r3⟩:=cg (P:=Tryz.prog) w 24 24 50 i z 5 40 (by kernel_rfl) hi hz hs R O _ n H I ⟨X,0,none⟩ m vc J hl (λj u hj=>by rw[BQ];exact y j u hj) Y M r;have a1:¬ ((m:Int)=0):=by omega
 go_enter Tryz.func238,Tryz.ntmps238
 go_wp2_with (at_builtin;refine Lib.wpList_append_run _ rfl _ _ _ _ rfl _ _ rfl rfl _ _ hr ?_)
 all_goals (go_ret;exact⟨v',rfl,Z,r2,r3⟩)
set_option maxHeartbeats 4000000 in
theorem ins_nil:InsNil Tryz.prog 238 50 5 40:=by
 intro w i z hi hz hs R M X m vc y Z r Y hm a0 H;obtain⟨O,w',hr,I,r2,r3⟩:=cg (P:=Tryz.prog) w 24 24 50 i z 5 40 (by kernel_rfl) hi hz hs R M _ 0 [] (Row.nil w 50 5) ⟨X,0,none⟩ m vc y Z (λj u hj=>by rw[BQ];exact r j u hj) Y (by omega) (by omega);have a1:¬ ((m:Int)=0):=by omega
 have J:O.ownBlock=some w.heap.size:=by
  rcases r3 with h|h
  ·exfalso;rcases I.2 with ⟨_,h0⟩|⟨g,c,a2,mk,e,_⟩
   ·omega
   ·rw[e]at h;simp[BU]at h
  ·exact h
 rw[BW,BT]at I
 go_enter Tryz.func238,Tryz.ntmps238
 go_wp2_with (at_builtin;refine Lib.wpList_append_run _ rfl _ _ _ _ rfl _ _ rfl rfl _ _ hr ?_)
 all_goals (go_ret;exact⟨O,rfl,I,r2,J⟩)
set_option maxHeartbeats 4000000 in
theorem ins_shift:InsShift Tryz.prog 238 50 5 40:=shift_p (S:=24) Tryz.underlying24 (by decide) λw g n a9 i X a3 H m vc r a1 a0 hi hs hg z R hm a2 J b5 b3 b6 Y b1 a5 b0 ad Z a4 a6 b4 b2 u y=>by
 have t39:Tryz.prog.underlying 24=some (.slice 50):=Tryz.underlying24;have mixed:Tryz.prog.follows .mixedOrders=true:=by kernel_rfl
 have I:∀ o M O,(callFunc 272 #[.slice (some ⟨H,0,none⟩) m vc,.slice (some ⟨g,o,none⟩) M O]).run Tryz.prog w=.ok (.value (.bool false)) w:=λo M O=>by
  rw[run_callFunc_extern Tryz.func272 (by kernel_rfl) (by kernel_rfl) (by kernel_rfl) (e:=Extern.SlicesOverlaps.overlaps #[24,24] #[4]) (by kernel_rfl),
   Lib.run_overlaps_apart w 24 4 50 t39 5 (λw=>by simp[sizeOf,typeInfo,hi,hs]) ⟨H,0,none⟩ ⟨g,o,none⟩ m vc M O R 50 50 r.size X.size (by simp[BR,z]) (by simp[BR,hg]) (by omega) (frozen_of_row w H 0 r 50 z) (frozen_of_row w H r.size r 50 z)]
  rfl
 try simp only[BS]at u y
 go_enter Tryz.func238,Tryz.ntmps238
 go_wp2_with (simp only[I])
 go_region_law_o (refine step_copy_runI rfl _ _ 24 24 rfl _ _ (by simp[BV,BX]) (by simp[BV,BX]) (u _ _ _) ?_)
 go_wp2_with (at_builtin;refine wpList_copy_runI _ rfl _ _ 24 24 rfl _ _ rfl rfl (y _ _) ?_)
 go_ret
 exact⟨rfl,rfl⟩
set_option maxHeartbeats 4000000 in
theorem ins_grow:InsGrow Tryz.prog 238 50 5 40:=grow_p (S:=24) Tryz.underlying24 Tryz.underlying3 (by decide) λw g n a0 i vb m vc G ROW I H hm O b0 r b1 a6 ad a5 M y a3 J R a4 Z a9 a2 z a1 Y u hA X=>by
 have t39:Tryz.prog.underlying 24=some (.slice 50):=Tryz.underlying24;have t3:Tryz.prog.underlying 3=some (.int .i64):=Tryz.underlying3;try simp only[BS]at hA X
 have mixed:Tryz.prog.follows .mixedOrders=true:=by kernel_rfl
 go_enter Tryz.func238,Tryz.ntmps238
 go_wp2_with (at_builtin;refine Lib.wpList_append_run _ rfl _ _ _ _ rfl _ _ rfl rfl _ _ (u _) ?_)
 go_region
 go_wp2
 go_ret
 exact⟨rfl,rfl⟩
theorem walk:jo Tryz.prog 238 50 5 40:=ins_walk (by kernel_rfl) (by kernel_rfl) (by kernel_rfl) (by kernel_rfl) (by decide) (by decide) (by decide) ins_nil ins_end ins_shift ins_grow
end Q4
theorem Q4.o (K:Nat):bP Tryz.prog (Q4.c K):=gJ (dr Tryz.func238 (by kernel_rfl) rfl) (.inl (by kernel_rfl)) Q4.walk
namespace Q6
set_option maxHeartbeats 4000000 in
theorem ins_end:InsEnd Tryz.prog 202 83 4 48:=by
 intro w g n a0 H i z hi hz hs R O I a2 X m vc J hl y Y hm M r;obtain⟨v',w',hr,Z,r2,r3⟩:=cg (P:=Tryz.prog) w 27 27 83 i z 4 48 (by kernel_rfl) hi hz hs R O _ n H I ⟨X,0,none⟩ m vc J hl (λj u hj=>by rw[BQ];exact y j u hj) Y M r;have a1:¬ ((m:Int)=0):=by omega
 go_enter Tryz.func202,Tryz.ntmps202
 go_wp2_with (at_builtin;refine Lib.wpList_append_run _ rfl _ _ _ _ rfl _ _ rfl rfl _ _ hr ?_)
 all_goals (go_ret;exact⟨v',rfl,Z,r2,r3⟩)
set_option maxHeartbeats 4000000 in
theorem ins_nil:InsNil Tryz.prog 202 83 4 48:=by
 intro w i z hi hz hs R M X m vc y Z r Y hm a0 H;obtain⟨O,w',hr,I,r2,r3⟩:=cg (P:=Tryz.prog) w 27 27 83 i z 4 48 (by kernel_rfl) hi hz hs R M _ 0 [] (Row.nil w 83 4) ⟨X,0,none⟩ m vc y Z (λj u hj=>by rw[BQ];exact r j u hj) Y (by omega) (by omega);have a1:¬ ((m:Int)=0):=by omega
 have J:O.ownBlock=some w.heap.size:=by
  rcases r3 with h|h
  ·exfalso;rcases I.2 with ⟨_,h0⟩|⟨g,c,a2,mk,e,_⟩
   ·omega
   ·rw[e]at h;simp[BU]at h
  ·exact h
 rw[BW,BT]at I
 go_enter Tryz.func202,Tryz.ntmps202
 go_wp2_with (at_builtin;refine Lib.wpList_append_run _ rfl _ _ _ _ rfl _ _ rfl rfl _ _ hr ?_)
 all_goals (go_ret;exact⟨O,rfl,I,r2,J⟩)
set_option maxHeartbeats 4000000 in
theorem ins_shift:InsShift Tryz.prog 202 83 4 48:=shift_p (S:=27) Tryz.underlying27 (by decide) λw g n a9 i X a3 H m vc r a1 a0 hi hs hg z R hm a2 J b5 b3 b6 Y b1 a5 b0 ad Z a4 a6 b4 b2 u y=>by
 have t39:Tryz.prog.underlying 27=some (.slice 83):=Tryz.underlying27;have mixed:Tryz.prog.follows .mixedOrders=true:=by kernel_rfl
 have I:∀ o M O,(callFunc 239 #[.slice (some ⟨H,0,none⟩) m vc,.slice (some ⟨g,o,none⟩) M O]).run Tryz.prog w=.ok (.value (.bool false)) w:=λo M O=>by
  rw[run_callFunc_extern Tryz.func239 (by kernel_rfl) (by kernel_rfl) (by kernel_rfl) (e:=Extern.SlicesOverlaps.overlaps #[27,27] #[4]) (by kernel_rfl),
   Lib.run_overlaps_apart w 27 4 83 t39 4 (λw=>by simp[sizeOf,typeInfo,hi,hs]) ⟨H,0,none⟩ ⟨g,o,none⟩ m vc M O R 83 83 r.size X.size (by simp[BR,z]) (by simp[BR,hg]) (by omega) (frozen_of_row w H 0 r 83 z) (frozen_of_row w H r.size r 83 z)]
  rfl
 try simp only[BS]at u y
 go_enter Tryz.func202,Tryz.ntmps202
 go_wp2_with (simp only[I])
 go_region_law_o (refine step_copy_runI rfl _ _ 27 27 rfl _ _ (by simp[BV,BX]) (by simp[BV,BX]) (u _ _ _) ?_)
 go_wp2_with (at_builtin;refine wpList_copy_runI _ rfl _ _ 27 27 rfl _ _ rfl rfl (y _ _) ?_)
 go_ret
 exact⟨rfl,rfl⟩
set_option maxHeartbeats 4000000 in
theorem ins_grow:InsGrow Tryz.prog 202 83 4 48:=grow_p (S:=27) Tryz.underlying27 Tryz.underlying3 (by decide) λw g n a0 i vb m vc G ROW I H hm O b0 r b1 a6 ad a5 M y a3 J R a4 Z a9 a2 z a1 Y u hA X=>by
 have t39:Tryz.prog.underlying 27=some (.slice 83):=Tryz.underlying27;have t3:Tryz.prog.underlying 3=some (.int .i64):=Tryz.underlying3;try simp only[BS]at hA X
 have mixed:Tryz.prog.follows .mixedOrders=true:=by kernel_rfl
 go_enter Tryz.func202,Tryz.ntmps202
 go_wp2_with (at_builtin;refine Lib.wpList_append_run _ rfl _ _ _ _ rfl _ _ rfl rfl _ _ (u _) ?_)
 go_region
 go_wp2
 go_ret
 exact⟨rfl,rfl⟩
theorem walk:jo Tryz.prog 202 83 4 48:=ins_walk (by kernel_rfl) (by kernel_rfl) (by kernel_rfl) (by kernel_rfl) (by decide) (by decide) (by decide) ins_nil ins_end ins_shift ins_grow
end Q6
theorem Q6.o (K:Nat):bP Tryz.prog (Q6.c K):=gJ (dr Tryz.func202 (by kernel_rfl) rfl) (.inl (by kernel_rfl)) Q6.walk
namespace Q7
set_option maxHeartbeats 4000000 in
theorem ins_end:InsEnd Tryz.prog 148 3 1 8:=by
 intro w g n a0 H i z hi hz hs R O I a2 X m vc J hl y Y hm M r;obtain⟨v',w',hr,Z,r2,r3⟩:=cg (P:=Tryz.prog) w 69 69 3 i z 1 8 (by kernel_rfl) hi hz hs R O _ n H I ⟨X,0,none⟩ m vc J hl (λj u hj=>by rw[BQ];exact y j u hj) Y M r;have a1:¬ ((m:Int)=0):=by omega
 go_enter Tryz.func148,Tryz.ntmps148
 go_wp2_with (at_builtin;refine Lib.wpList_append_run _ rfl _ _ _ _ rfl _ _ rfl rfl _ _ hr ?_)
 all_goals (go_ret;exact⟨v',rfl,Z,r2,r3⟩)
set_option maxHeartbeats 4000000 in
theorem ins_nil:InsNil Tryz.prog 148 3 1 8:=by
 intro w i z hi hz hs R M X m vc y Z r Y hm a0 H;obtain⟨O,w',hr,I,r2,r3⟩:=cg (P:=Tryz.prog) w 69 69 3 i z 1 8 (by kernel_rfl) hi hz hs R M _ 0 [] (Row.nil w 3 1) ⟨X,0,none⟩ m vc y Z (λj u hj=>by rw[BQ];exact r j u hj) Y (by omega) (by omega);have a1:¬ ((m:Int)=0):=by omega
 have J:O.ownBlock=some w.heap.size:=by
  rcases r3 with h|h
  ·exfalso;rcases I.2 with ⟨_,h0⟩|⟨g,c,a2,mk,e,_⟩
   ·omega
   ·rw[e]at h;simp[BU]at h
  ·exact h
 rw[BW,BT]at I
 go_enter Tryz.func148,Tryz.ntmps148
 go_wp2_with (at_builtin;refine Lib.wpList_append_run _ rfl _ _ _ _ rfl _ _ rfl rfl _ _ hr ?_)
 all_goals (go_ret;exact⟨O,rfl,I,r2,J⟩)
set_option maxHeartbeats 4000000 in
theorem ins_shift:InsShift Tryz.prog 148 3 1 8:=shift_p (S:=69) Tryz.underlying69 (by decide) λw g n a9 i X a3 H m vc r a1 a0 hi hs hg z R hm a2 J b5 b3 b6 Y b1 a5 b0 ad Z a4 a6 b4 b2 u y=>by
 have t39:Tryz.prog.underlying 69=some (.slice 3):=Tryz.underlying69;have mixed:Tryz.prog.follows .mixedOrders=true:=by kernel_rfl
 have I:∀ o M O,(callFunc 205 #[.slice (some ⟨H,0,none⟩) m vc,.slice (some ⟨g,o,none⟩) M O]).run Tryz.prog w=.ok (.value (.bool false)) w:=λo M O=>by
  rw[run_callFunc_extern Tryz.func205 (by kernel_rfl) (by kernel_rfl) (by kernel_rfl) (e:=Extern.SlicesOverlaps.overlaps #[69,69] #[4]) (by kernel_rfl),
   Lib.run_overlaps_apart w 69 4 3 t39 1 (λw=>by simp[sizeOf,typeInfo,hi,hs]) ⟨H,0,none⟩ ⟨g,o,none⟩ m vc M O R 3 3 r.size X.size (by simp[BR,z]) (by simp[BR,hg]) (by omega) (frozen_of_row w H 0 r 3 z) (frozen_of_row w H r.size r 3 z)]
  rfl
 try simp only[BS]at u y
 go_enter Tryz.func148,Tryz.ntmps148
 go_wp2_with (simp only[I])
 go_region_law_o (refine step_copy_runI rfl _ _ 69 69 rfl _ _ (by simp[BV,BX]) (by simp[BV,BX]) (u _ _ _) ?_)
 go_wp2_with (at_builtin;refine wpList_copy_runI _ rfl _ _ 69 69 rfl _ _ rfl rfl (y _ _) ?_)
 go_ret
 exact⟨rfl,rfl⟩
set_option maxHeartbeats 4000000 in
theorem ins_grow:InsGrow Tryz.prog 148 3 1 8:=grow_p (S:=69) Tryz.underlying69 Tryz.underlying3 (by decide) λw g n a0 i vb m vc G ROW I H hm O b0 r b1 a6 ad a5 M y a3 J R a4 Z a9 a2 z a1 Y u hA X=>by
 have t39:Tryz.prog.underlying 69=some (.slice 3):=Tryz.underlying69;have t3:Tryz.prog.underlying 3=some (.int .i64):=Tryz.underlying3;try simp only[BS]at hA X
 have mixed:Tryz.prog.follows .mixedOrders=true:=by kernel_rfl
 go_enter Tryz.func148,Tryz.ntmps148
 go_wp2_with (at_builtin;refine Lib.wpList_append_run _ rfl _ _ _ _ rfl _ _ rfl rfl _ _ (u _) ?_)
 go_region
 go_wp2
 go_ret
 exact⟨rfl,rfl⟩
theorem walk:jo Tryz.prog 148 3 1 8:=ins_walk (by kernel_rfl) (by kernel_rfl) (by kernel_rfl) (by kernel_rfl) (by decide) (by decide) (by decide) ins_nil ins_end ins_shift ins_grow
end Q7
theorem Q7.o (K:Nat):bP Tryz.prog (Q7.c K):=gJ (dr Tryz.func148 (by kernel_rfl) rfl) (.inl (by kernel_rfl)) Q7.walk
namespace Q8
set_option maxHeartbeats 4000000 in
theorem ins_end:InsEnd Tryz.prog 143 55 2 32:=by
 intro w g n a0 H i z hi hz hs R O I a2 X m vc J hl y Y hm M r;obtain⟨v',w',hr,Z,r2,r3⟩:=cg (P:=Tryz.prog) w 31 31 55 i z 2 32 (by kernel_rfl) hi hz hs R O _ n H I ⟨X,0,none⟩ m vc J hl (λj u hj=>by rw[BQ];exact y j u hj) Y M r;have a1:¬ ((m:Int)=0):=by omega
 go_enter Tryz.func143,Tryz.ntmps143
 go_wp2_with (at_builtin;refine Lib.wpList_append_run _ rfl _ _ _ _ rfl _ _ rfl rfl _ _ hr ?_)
 all_goals (go_ret;exact⟨v',rfl,Z,r2,r3⟩)
set_option maxHeartbeats 4000000 in
theorem ins_nil:InsNil Tryz.prog 143 55 2 32:=by
 intro w i z hi hz hs R M X m vc y Z r Y hm a0 H;obtain⟨O,w',hr,I,r2,r3⟩:=cg (P:=Tryz.prog) w 31 31 55 i z 2 32 (by kernel_rfl) hi hz hs R M _ 0 [] (Row.nil w 55 2) ⟨X,0,none⟩ m vc y Z (λj u hj=>by rw[BQ];exact r j u hj) Y (by omega) (by omega);have a1:¬ ((m:Int)=0):=by omega
 have J:O.ownBlock=some w.heap.size:=by
  rcases r3 with h|h
  ·exfalso;rcases I.2 with ⟨_,h0⟩|⟨g,c,a2,mk,e,_⟩
   ·omega
   ·rw[e]at h;simp[BU]at h
  ·exact h
 rw[BW,BT]at I
 go_enter Tryz.func143,Tryz.ntmps143
 go_wp2_with (at_builtin;refine Lib.wpList_append_run _ rfl _ _ _ _ rfl _ _ rfl rfl _ _ hr ?_)
 all_goals (go_ret;exact⟨O,rfl,I,r2,J⟩)
set_option maxHeartbeats 4000000 in
theorem ins_shift:InsShift Tryz.prog 143 55 2 32:=shift_p (S:=31) Tryz.underlying31 (by decide) λw g n a9 i X a3 H m vc r a1 a0 hi hs hg z R hm a2 J b5 b3 b6 Y b1 a5 b0 ad Z a4 a6 b4 b2 u y=>by
 have t39:Tryz.prog.underlying 31=some (.slice 55):=Tryz.underlying31;have mixed:Tryz.prog.follows .mixedOrders=true:=by kernel_rfl
 have I:∀ o M O,(callFunc 195 #[.slice (some ⟨H,0,none⟩) m vc,.slice (some ⟨g,o,none⟩) M O]).run Tryz.prog w=.ok (.value (.bool false)) w:=λo M O=>by
  rw[run_callFunc_extern Tryz.func195 (by kernel_rfl) (by kernel_rfl) (by kernel_rfl) (e:=Extern.SlicesOverlaps.overlaps #[31,31] #[4]) (by kernel_rfl),
   Lib.run_overlaps_apart w 31 4 55 t39 2 (λw=>by simp[sizeOf,typeInfo,hi,hs]) ⟨H,0,none⟩ ⟨g,o,none⟩ m vc M O R 55 55 r.size X.size (by simp[BR,z]) (by simp[BR,hg]) (by omega) (frozen_of_row w H 0 r 55 z) (frozen_of_row w H r.size r 55 z)]
  rfl
 try simp only[BS]at u y
 go_enter Tryz.func143,Tryz.ntmps143
 go_wp2_with (simp only[I])
 go_region_law_o (refine step_copy_runI rfl _ _ 31 31 rfl _ _ (by simp[BV,BX]) (by simp[BV,BX]) (u _ _ _) ?_)
 go_wp2_with (at_builtin;refine wpList_copy_runI _ rfl _ _ 31 31 rfl _ _ rfl rfl (y _ _) ?_)
 go_ret
 exact⟨rfl,rfl⟩
set_option maxHeartbeats 4000000 in
theorem ins_grow:InsGrow Tryz.prog 143 55 2 32:=grow_p (S:=31) Tryz.underlying31 Tryz.underlying3 (by decide) λw g n a0 i vb m vc G ROW I H hm O b0 r b1 a6 ad a5 M y a3 J R a4 Z a9 a2 z a1 Y u hA X=>by
 have t39:Tryz.prog.underlying 31=some (.slice 55):=Tryz.underlying31;have t3:Tryz.prog.underlying 3=some (.int .i64):=Tryz.underlying3;try simp only[BS]at hA X
 have mixed:Tryz.prog.follows .mixedOrders=true:=by kernel_rfl
 go_enter Tryz.func143,Tryz.ntmps143
 go_wp2_with (at_builtin;refine Lib.wpList_append_run _ rfl _ _ _ _ rfl _ _ rfl rfl _ _ (u _) ?_)
 go_region
 go_wp2
 go_ret
 exact⟨rfl,rfl⟩
theorem walk:jo Tryz.prog 143 55 2 32:=ins_walk (by kernel_rfl) (by kernel_rfl) (by kernel_rfl) (by kernel_rfl) (by decide) (by decide) (by decide) ins_nil ins_end ins_shift ins_grow
end Q8
theorem Q8.o (K:Nat):bP Tryz.prog (Q8.c K):=gJ (dr Tryz.func143 (by kernel_rfl) rfl) (.inr rfl) Q8.walk
end Go.Proofs.YtadlacffdemoiaaGreatEv
