/- slices.Insert, walked; its contracts are sound. Printed by insert.py. -/
import Derived.Test.YtaelpfghkndliaaGreatFns
import Derived.Test.YtaelpfghkndliaaGreatInsG
set_option linter.unusedVariables false
set_option maxRecDepth 100000
set_option linter.unusedVariables false
set_option linter.unusedSimpArgs false
open Go.Act renaming eval->BF,put->BH
open Go.Addr renaming add_lit->BA
open Go.Value renaming ownBlock->BE
open Go.World renaming shape?->BB
open List renaming nil_append->BD
open Nat renaming mul_one->BC,zero_add->BG
namespace Go.Proofs.YtaelpfghkndliaaGreatEv
open Go Go.Proofs Go.Shelf Go.RowKit Go.Lib
namespace Q1
set_option maxHeartbeats 4000000 in
theorem ins_end:InsEnd Tryz.prog 143 68 4 32:=by
 intro w g n a2 J i z hi Z hs hb O I a0 R m vc H hl y h1 hm M r;obtain⟨v',w',hr,X,r2,Y⟩:=cf (P:=Tryz.prog) w 37 37 68 i z 4 32 (by kernel_rfl) hi Z hs hb O _ n J I ⟨R,0,none⟩ m vc H hl (λj u hj=>by rw[BA];exact y j u hj) h1 M r;have a1:¬ ((m:Int)=0):=by omega
 go_enter Tryz.func143,Tryz.ntmps143
 go_wp2_with (at_builtin;refine Lib.wpList_append_run _ rfl _ _ _ _ rfl _ _ rfl rfl _ _ hr ?_)
 all_goals (go_ret;exact⟨v',rfl,X,r2,Y⟩)
set_option maxHeartbeats 4000000 in
theorem ins_nil:InsNil Tryz.prog 143 68 4 32:=by
 intro w i z hi Y hs Z M R m vc y hl r h1 hm a1 H;obtain⟨O,w',hr,I,r2,X⟩:=cf (P:=Tryz.prog) w 37 37 68 i z 4 32 (by kernel_rfl) hi Y hs Z M _ 0 [] (Row.nil w 68 4) ⟨R,0,none⟩ m vc y hl (λj u hj=>by rw[BA];exact r j u hj) h1 (by omega) (by omega);have a2:¬ ((m:Int)=0):=by omega
 have J:O.ownBlock=some w.heap.size:=by
  rcases X with h|h
  ·exfalso;rcases I.2 with ⟨_,h0⟩|⟨g,c,a0,mk,e,_⟩
   ·omega
   ·rw[e]at h;simp[BE]at h
  ·exact h
 rw[BG,BD]at I
 go_enter Tryz.func143,Tryz.ntmps143
 go_wp2_with (at_builtin;refine Lib.wpList_append_run _ rfl _ _ _ _ rfl _ _ rfl rfl _ _ hr ?_)
 all_goals (go_ret;exact⟨O,rfl,I,r2,J⟩)
set_option maxHeartbeats 4000000 in
theorem ins_shift:InsShift Tryz.prog 143 68 4 32:=shift_p (S:=37) Tryz.underlying37 (by decide) λw g n b6 i O a6 H m vc r Z a0 hi hs hg z R hm b3 I b0 b5 a5 a1 b1 a2 ad b4 Y b2 a4 a3 a9 u y=>by
 have t39:Tryz.prog.underlying 37=some (.slice 68):=Tryz.underlying37;have mixed:Tryz.prog.follows .mixedOrders=true:=by kernel_rfl
 have J:∀ o X M,(callFunc 204 #[.slice (some ⟨H,0,none⟩) m vc,.slice (some ⟨g,o,none⟩) X M]).run Tryz.prog w=.ok (.value (.bool false)) w:=λo X M=>by
  rw[run_callFunc_extern Tryz.func204 (by kernel_rfl) (by kernel_rfl) (by kernel_rfl) (e:=Extern.SlicesOverlaps.overlaps #[37,37] #[4]) (by kernel_rfl),
   Lib.run_overlaps_apart w 37 4 68 t39 4 (λw=>by simp[sizeOf,typeInfo,hi,hs]) ⟨H,0,none⟩ ⟨g,o,none⟩ m vc X M R 68 68 r.size O.size (by simp[BB,z]) (by simp[BB,hg]) (by omega) (frozen_of_row w H 0 r 68 z) (frozen_of_row w H r.size r 68 z)]
  rfl
 try simp only[BC]at u y
 go_enter Tryz.func143,Tryz.ntmps143
 go_wp2_with (simp only[J])
 go_region_law_o (refine step_copy_runI rfl _ _ 37 37 rfl _ _ (by simp[BF,BH]) (by simp[BF,BH]) (u _ _ _) ?_)
 go_wp2_with (at_builtin;refine wpList_copy_runI _ rfl _ _ 37 37 rfl _ _ rfl rfl (y _ _) ?_)
 go_ret
 exact⟨rfl,rfl⟩
set_option maxHeartbeats 4000000 in
theorem ins_grow:InsGrow Tryz.prog 143 68 4 32:=grow_p (S:=37) Tryz.underlying37 Tryz.underlying3 (by decide) λw g n b2 i vb m vc G ROW z H hm a9 a6 r a3 b1 Y a1 J y ad M Z a4 X a0 a2 I b0 a5 u O R=>by
 have t39:Tryz.prog.underlying 37=some (.slice 68):=Tryz.underlying37;have t3:Tryz.prog.underlying 3=some (.int .i64):=Tryz.underlying3;try simp only[BC]at O R
 have mixed:Tryz.prog.follows .mixedOrders=true:=by kernel_rfl
 go_enter Tryz.func143,Tryz.ntmps143
 go_wp2_with (at_builtin;refine Lib.wpList_append_run _ rfl _ _ _ _ rfl _ _ rfl rfl _ _ (u _) ?_)
 go_region
 go_wp2
 go_ret
 exact⟨rfl,rfl⟩
theorem walk:ji Tryz.prog 143 68 4 32:=ins_walk (by kernel_rfl) (by kernel_rfl) (by kernel_rfl) (by kernel_rfl) (by decide) (by decide) (by decide) ins_nil ins_end ins_shift ins_grow
end Q1
theorem Q1.o (K:Nat):bO Tryz.prog (Q1.c K):=gB (dm Tryz.func143 (by kernel_rfl) rfl) (.inl (by kernel_rfl)) Q1.walk
namespace Q3
set_option maxHeartbeats 4000000 in
theorem ins_end:InsEnd Tryz.prog 264 143 5 40:=by
 intro w g n a2 J i z hi Z hs hb O I a0 R m vc H hl y h1 hm M r;obtain⟨v',w',hr,X,r2,Y⟩:=cf (P:=Tryz.prog) w 38 38 143 i z 5 40 (by kernel_rfl) hi Z hs hb O _ n J I ⟨R,0,none⟩ m vc H hl (λj u hj=>by rw[BA];exact y j u hj) h1 M r;have a1:¬ ((m:Int)=0):=by omega
 go_enter Tryz.func264,Tryz.ntmps264
 go_wp2_with (at_builtin;refine Lib.wpList_append_run _ rfl _ _ _ _ rfl _ _ rfl rfl _ _ hr ?_)
 all_goals (go_ret;exact⟨v',rfl,X,r2,Y⟩)
set_option maxHeartbeats 4000000 in
theorem ins_nil:InsNil Tryz.prog 264 143 5 40:=by
 intro w i z hi Y hs Z M R m vc y hl r h1 hm a1 H;obtain⟨O,w',hr,I,r2,X⟩:=cf (P:=Tryz.prog) w 38 38 143 i z 5 40 (by kernel_rfl) hi Y hs Z M _ 0 [] (Row.nil w 143 5) ⟨R,0,none⟩ m vc y hl (λj u hj=>by rw[BA];exact r j u hj) h1 (by omega) (by omega);have a2:¬ ((m:Int)=0):=by omega
 have J:O.ownBlock=some w.heap.size:=by
  rcases X with h|h
  ·exfalso;rcases I.2 with ⟨_,h0⟩|⟨g,c,a0,mk,e,_⟩
   ·omega
   ·rw[e]at h;simp[BE]at h
  ·exact h
 rw[BG,BD]at I
 go_enter Tryz.func264,Tryz.ntmps264
 go_wp2_with (at_builtin;refine Lib.wpList_append_run _ rfl _ _ _ _ rfl _ _ rfl rfl _ _ hr ?_)
 all_goals (go_ret;exact⟨O,rfl,I,r2,J⟩)
set_option maxHeartbeats 4000000 in
theorem ins_shift:InsShift Tryz.prog 264 143 5 40:=shift_p (S:=38) Tryz.underlying38 (by decide) λw g n b6 i O a6 H m vc r Z a0 hi hs hg z R hm b3 I b0 b5 a5 a1 b1 a2 ad b4 Y b2 a4 a3 a9 u y=>by
 have t39:Tryz.prog.underlying 38=some (.slice 143):=Tryz.underlying38;have mixed:Tryz.prog.follows .mixedOrders=true:=by kernel_rfl
 have J:∀ o X M,(callFunc 295 #[.slice (some ⟨H,0,none⟩) m vc,.slice (some ⟨g,o,none⟩) X M]).run Tryz.prog w=.ok (.value (.bool false)) w:=λo X M=>by
  rw[run_callFunc_extern Tryz.func295 (by kernel_rfl) (by kernel_rfl) (by kernel_rfl) (e:=Extern.SlicesOverlaps.overlaps #[38,38] #[4]) (by kernel_rfl),
   Lib.run_overlaps_apart w 38 4 143 t39 5 (λw=>by simp[sizeOf,typeInfo,hi,hs]) ⟨H,0,none⟩ ⟨g,o,none⟩ m vc X M R 143 143 r.size O.size (by simp[BB,z]) (by simp[BB,hg]) (by omega) (frozen_of_row w H 0 r 143 z) (frozen_of_row w H r.size r 143 z)]
  rfl
 try simp only[BC]at u y
 go_enter Tryz.func264,Tryz.ntmps264
 go_wp2_with (simp only[J])
 go_region_law_o (refine step_copy_runI rfl _ _ 38 38 rfl _ _ (by simp[BF,BH]) (by simp[BF,BH]) (u _ _ _) ?_)
 go_wp2_with (at_builtin;refine wpList_copy_runI _ rfl _ _ 38 38 rfl _ _ rfl rfl (y _ _) ?_)
 go_ret
 exact⟨rfl,rfl⟩
set_option maxHeartbeats 4000000 in
theorem ins_grow:InsGrow Tryz.prog 264 143 5 40:=grow_p (S:=38) Tryz.underlying38 Tryz.underlying3 (by decide) λw g n b2 i vb m vc G ROW z H hm a9 a6 r a3 b1 Y a1 J y ad M Z a4 X a0 a2 I b0 a5 u O R=>by
 have t39:Tryz.prog.underlying 38=some (.slice 143):=Tryz.underlying38;have t3:Tryz.prog.underlying 3=some (.int .i64):=Tryz.underlying3;try simp only[BC]at O R
 have mixed:Tryz.prog.follows .mixedOrders=true:=by kernel_rfl
 go_enter Tryz.func264,Tryz.ntmps264
 go_wp2_with (at_builtin;refine Lib.wpList_append_run _ rfl _ _ _ _ rfl _ _ rfl rfl _ _ (u _) ?_)
 go_region
 go_wp2
 go_ret
 exact⟨rfl,rfl⟩
theorem walk:ji Tryz.prog 264 143 5 40:=ins_walk (by kernel_rfl) (by kernel_rfl) (by kernel_rfl) (by kernel_rfl) (by decide) (by decide) (by decide) ins_nil ins_end ins_shift ins_grow
end Q3
theorem Q3.o (K:Nat):bO Tryz.prog (Q3.c K):=gB (dm Tryz.func264 (by kernel_rfl) rfl) (.inl (by kernel_rfl)) Q3.walk
namespace Q5
set_option maxHeartbeats 4000000 in
theorem ins_end:InsEnd Tryz.prog 224 112 4 48:=by
 intro w g n a2 J i z hi Z hs hb O I a0 R m vc H hl y h1 hm M r;obtain⟨v',w',hr,X,r2,Y⟩:=cf (P:=Tryz.prog) w 40 40 112 i z 4 48 (by kernel_rfl) hi Z hs hb O _ n J I ⟨R,0,none⟩ m vc H hl (λj u hj=>by rw[BA];exact y j u hj) h1 M r;have a1:¬ ((m:Int)=0):=by omega
 go_enter Tryz.func224,Tryz.ntmps224
 go_wp2_with (at_builtin;refine Lib.wpList_append_run _ rfl _ _ _ _ rfl _ _ rfl rfl _ _ hr ?_)
 all_goals (go_ret;exact⟨v',rfl,X,r2,Y⟩)
set_option maxHeartbeats 4000000 in
theorem ins_nil:InsNil Tryz.prog 224 112 4 48:=by
 intro w i z hi Y hs Z M R m vc y hl r h1 hm a1 H;obtain⟨O,w',hr,I,r2,X⟩:=cf (P:=Tryz.prog) w 40 40 112 i z 4 48 (by kernel_rfl) hi Y hs Z M _ 0 [] (Row.nil w 112 4) ⟨R,0,none⟩ m vc y hl (λj u hj=>by rw[BA];exact r j u hj) h1 (by omega) (by omega);have a2:¬ ((m:Int)=0):=by omega
 have J:O.ownBlock=some w.heap.size:=by
  rcases X with h|h
  ·exfalso;rcases I.2 with ⟨_,h0⟩|⟨g,c,a0,mk,e,_⟩
   ·omega
   ·rw[e]at h;simp[BE]at h
  ·exact h
 rw[BG,BD]at I
 go_enter Tryz.func224,Tryz.ntmps224
 go_wp2_with (at_builtin;refine Lib.wpList_append_run _ rfl _ _ _ _ rfl _ _ rfl rfl _ _ hr ?_)
 all_goals (go_ret;exact⟨O,rfl,I,r2,J⟩)
set_option maxHeartbeats 4000000 in
theorem ins_shift:InsShift Tryz.prog 224 112 4 48:=shift_p (S:=40) Tryz.underlying40 (by decide) λw g n b6 i O a6 H m vc r Z a0 hi hs hg z R hm b3 I b0 b5 a5 a1 b1 a2 ad b4 Y b2 a4 a3 a9 u y=>by
 have t39:Tryz.prog.underlying 40=some (.slice 112):=Tryz.underlying40;have mixed:Tryz.prog.follows .mixedOrders=true:=by kernel_rfl
 have J:∀ o X M,(callFunc 266 #[.slice (some ⟨H,0,none⟩) m vc,.slice (some ⟨g,o,none⟩) X M]).run Tryz.prog w=.ok (.value (.bool false)) w:=λo X M=>by
  rw[run_callFunc_extern Tryz.func266 (by kernel_rfl) (by kernel_rfl) (by kernel_rfl) (e:=Extern.SlicesOverlaps.overlaps #[40,40] #[4]) (by kernel_rfl),
   Lib.run_overlaps_apart w 40 4 112 t39 4 (λw=>by simp[sizeOf,typeInfo,hi,hs]) ⟨H,0,none⟩ ⟨g,o,none⟩ m vc X M R 112 112 r.size O.size (by simp[BB,z]) (by simp[BB,hg]) (by omega) (frozen_of_row w H 0 r 112 z) (frozen_of_row w H r.size r 112 z)]
  rfl
 try simp only[BC]at u y
 go_enter Tryz.func224,Tryz.ntmps224
 go_wp2_with (simp only[J])
 go_region_law_o (refine step_copy_runI rfl _ _ 40 40 rfl _ _ (by simp[BF,BH]) (by simp[BF,BH]) (u _ _ _) ?_)
 go_wp2_with (at_builtin;refine wpList_copy_runI _ rfl _ _ 40 40 rfl _ _ rfl rfl (y _ _) ?_)
 go_ret
 exact⟨rfl,rfl⟩
set_option maxHeartbeats 4000000 in
theorem ins_grow:InsGrow Tryz.prog 224 112 4 48:=grow_p (S:=40) Tryz.underlying40 Tryz.underlying3 (by decide) λw g n b2 i vb m vc G ROW z H hm a9 a6 r a3 b1 Y a1 J y ad M Z a4 X a0 a2 I b0 a5 u O R=>by
 have t39:Tryz.prog.underlying 40=some (.slice 112):=Tryz.underlying40;have t3:Tryz.prog.underlying 3=some (.int .i64):=Tryz.underlying3;try simp only[BC]at O R
 have mixed:Tryz.prog.follows .mixedOrders=true:=by kernel_rfl
 go_enter Tryz.func224,Tryz.ntmps224
 go_wp2_with (at_builtin;refine Lib.wpList_append_run _ rfl _ _ _ _ rfl _ _ rfl rfl _ _ (u _) ?_)
 go_region
 go_wp2
 go_ret
 exact⟨rfl,rfl⟩
theorem walk:ji Tryz.prog 224 112 4 48:=ins_walk (by kernel_rfl) (by kernel_rfl) (by kernel_rfl) (by kernel_rfl) (by decide) (by decide) (by decide) ins_nil ins_end ins_shift ins_grow
end Q5
theorem Q5.o (K:Nat):bO Tryz.prog (Q5.c K):=gB (dm Tryz.func224 (by kernel_rfl) rfl) (.inl (by kernel_rfl)) Q5.walk
namespace Q6
set_option maxHeartbeats 4000000 in
theorem ins_end:InsEnd Tryz.prog 174 3 1 8:=by
 intro w g n a2 J i z hi Z hs hb O I a0 R m vc H hl y h1 hm M r;obtain⟨v',w',hr,X,r2,Y⟩:=cf (P:=Tryz.prog) w 104 104 3 i z 1 8 (by kernel_rfl) hi Z hs hb O _ n J I ⟨R,0,none⟩ m vc H hl (λj u hj=>by rw[BA];exact y j u hj) h1 M r;have a1:¬ ((m:Int)=0):=by omega
 go_enter Tryz.func174,Tryz.ntmps174
 go_wp2_with (at_builtin;refine Lib.wpList_append_run _ rfl _ _ _ _ rfl _ _ rfl rfl _ _ hr ?_)
 all_goals (go_ret;exact⟨v',rfl,X,r2,Y⟩)
set_option maxHeartbeats 4000000 in
theorem ins_nil:InsNil Tryz.prog 174 3 1 8:=by
 intro w i z hi Y hs Z M R m vc y hl r h1 hm a1 H;obtain⟨O,w',hr,I,r2,X⟩:=cf (P:=Tryz.prog) w 104 104 3 i z 1 8 (by kernel_rfl) hi Y hs Z M _ 0 [] (Row.nil w 3 1) ⟨R,0,none⟩ m vc y hl (λj u hj=>by rw[BA];exact r j u hj) h1 (by omega) (by omega);have a2:¬ ((m:Int)=0):=by omega
 have J:O.ownBlock=some w.heap.size:=by
  rcases X with h|h
  ·exfalso;rcases I.2 with ⟨_,h0⟩|⟨g,c,a0,mk,e,_⟩
   ·omega
   ·rw[e]at h;simp[BE]at h
  ·exact h
 rw[BG,BD]at I
 go_enter Tryz.func174,Tryz.ntmps174
 go_wp2_with (at_builtin;refine Lib.wpList_append_run _ rfl _ _ _ _ rfl _ _ rfl rfl _ _ hr ?_)
 all_goals (go_ret;exact⟨O,rfl,I,r2,J⟩)
set_option maxHeartbeats 4000000 in
theorem ins_shift:InsShift Tryz.prog 174 3 1 8:=shift_p (S:=104) Tryz.underlying104 (by decide) λw g n b6 i O a6 H m vc r Z a0 hi hs hg z R hm b3 I b0 b5 a5 a1 b1 a2 ad b4 Y b2 a4 a3 a9 u y=>by
 have t39:Tryz.prog.underlying 104=some (.slice 3):=Tryz.underlying104;have mixed:Tryz.prog.follows .mixedOrders=true:=by kernel_rfl
 have J:∀ o X M,(callFunc 227 #[.slice (some ⟨H,0,none⟩) m vc,.slice (some ⟨g,o,none⟩) X M]).run Tryz.prog w=.ok (.value (.bool false)) w:=λo X M=>by
  rw[run_callFunc_extern Tryz.func227 (by kernel_rfl) (by kernel_rfl) (by kernel_rfl) (e:=Extern.SlicesOverlaps.overlaps #[104,104] #[4]) (by kernel_rfl),
   Lib.run_overlaps_apart w 104 4 3 t39 1 (λw=>by simp[sizeOf,typeInfo,hi,hs]) ⟨H,0,none⟩ ⟨g,o,none⟩ m vc X M R 3 3 r.size O.size (by simp[BB,z]) (by simp[BB,hg]) (by omega) (frozen_of_row w H 0 r 3 z) (frozen_of_row w H r.size r 3 z)]
  rfl
 try simp only[BC]at u y
 go_enter Tryz.func174,Tryz.ntmps174
 go_wp2_with (simp only[J])
 go_region_law_o (refine step_copy_runI rfl _ _ 104 104 rfl _ _ (by simp[BF,BH]) (by simp[BF,BH]) (u _ _ _) ?_)
 go_wp2_with (at_builtin;refine wpList_copy_runI _ rfl _ _ 104 104 rfl _ _ rfl rfl (y _ _) ?_)
 go_ret
 exact⟨rfl,rfl⟩
set_option maxHeartbeats 4000000 in
theorem ins_grow:InsGrow Tryz.prog 174 3 1 8:=grow_p (S:=104) Tryz.underlying104 Tryz.underlying3 (by decide) λw g n b2 i vb m vc G ROW z H hm a9 a6 r a3 b1 Y a1 J y ad M Z a4 X a0 a2 I b0 a5 u O R=>by
 have t39:Tryz.prog.underlying 104=some (.slice 3):=Tryz.underlying104;have t3:Tryz.prog.underlying 3=some (.int .i64):=Tryz.underlying3;try simp only[BC]at O R
 have mixed:Tryz.prog.follows .mixedOrders=true:=by kernel_rfl
 go_enter Tryz.func174,Tryz.ntmps174
 go_wp2_with (at_builtin;refine Lib.wpList_append_run _ rfl _ _ _ _ rfl _ _ rfl rfl _ _ (u _) ?_)
 go_region
 go_wp2
 go_ret
 exact⟨rfl,rfl⟩
theorem walk:ji Tryz.prog 174 3 1 8:=ins_walk (by kernel_rfl) (by kernel_rfl) (by kernel_rfl) (by kernel_rfl) (by decide) (by decide) (by decide) ins_nil ins_end ins_shift ins_grow
end Q6
theorem Q6.o (K:Nat):bO Tryz.prog (Q6.c K):=gB (dm Tryz.func174 (by kernel_rfl) rfl) (.inl (by kernel_rfl)) Q6.walk
namespace Q7
set_option maxHeartbeats 4000000 in
theorem ins_end:InsEnd Tryz.prog 168 117 2 32:=by
 intro w g n a2 J i z hi Z hs hb O I a0 R m vc H hl y h1 hm M r;obtain⟨v',w',hr,X,r2,Y⟩:=cf (P:=Tryz.prog) w 43 43 117 i z 2 32 (by kernel_rfl) hi Z hs hb O _ n J I ⟨R,0,none⟩ m vc H hl (λj u hj=>by rw[BA];exact y j u hj) h1 M r;have a1:¬ ((m:Int)=0):=by omega
 go_enter Tryz.func168,Tryz.ntmps168
 go_wp2_with (at_builtin;refine Lib.wpList_append_run _ rfl _ _ _ _ rfl _ _ rfl rfl _ _ hr ?_)
 all_goals (go_ret;exact⟨v',rfl,X,r2,Y⟩)
set_option maxHeartbeats 4000000 in
theorem ins_nil:InsNil Tryz.prog 168 117 2 32:=by
 intro w i z hi Y hs Z M R m vc y hl r h1 hm a1 H;obtain⟨O,w',hr,I,r2,X⟩:=cf (P:=Tryz.prog) w 43 43 117 i z 2 32 (by kernel_rfl) hi Y hs Z M _ 0 [] (Row.nil w 117 2) ⟨R,0,none⟩ m vc y hl (λj u hj=>by rw[BA];exact r j u hj) h1 (by omega) (by omega);have a2:¬ ((m:Int)=0):=by omega
 have J:O.ownBlock=some w.heap.size:=by
  rcases X with h|h
  ·exfalso;rcases I.2 with ⟨_,h0⟩|⟨g,c,a0,mk,e,_⟩
   ·omega
   ·rw[e]at h;simp[BE]at h
  ·exact h
 rw[BG,BD]at I
 go_enter Tryz.func168,Tryz.ntmps168
 go_wp2_with (at_builtin;refine Lib.wpList_append_run _ rfl _ _ _ _ rfl _ _ rfl rfl _ _ hr ?_)
 all_goals (go_ret;exact⟨O,rfl,I,r2,J⟩)
set_option maxHeartbeats 4000000 in
theorem ins_shift:InsShift Tryz.prog 168 117 2 32:=shift_p (S:=43) Tryz.underlying43 (by decide) λw g n b6 i O a6 H m vc r Z a0 hi hs hg z R hm b3 I b0 b5 a5 a1 b1 a2 ad b4 Y b2 a4 a3 a9 u y=>by
 have t39:Tryz.prog.underlying 43=some (.slice 117):=Tryz.underlying43;have mixed:Tryz.prog.follows .mixedOrders=true:=by kernel_rfl
 have J:∀ o X M,(callFunc 217 #[.slice (some ⟨H,0,none⟩) m vc,.slice (some ⟨g,o,none⟩) X M]).run Tryz.prog w=.ok (.value (.bool false)) w:=λo X M=>by
  rw[run_callFunc_extern Tryz.func217 (by kernel_rfl) (by kernel_rfl) (by kernel_rfl) (e:=Extern.SlicesOverlaps.overlaps #[43,43] #[4]) (by kernel_rfl),
   Lib.run_overlaps_apart w 43 4 117 t39 2 (λw=>by simp[sizeOf,typeInfo,hi,hs]) ⟨H,0,none⟩ ⟨g,o,none⟩ m vc X M R 117 117 r.size O.size (by simp[BB,z]) (by simp[BB,hg]) (by omega) (frozen_of_row w H 0 r 117 z) (frozen_of_row w H r.size r 117 z)]
  rfl
 try simp only[BC]at u y
 go_enter Tryz.func168,Tryz.ntmps168
 go_wp2_with (simp only[J])
 go_region_law_o (refine step_copy_runI rfl _ _ 43 43 rfl _ _ (by simp[BF,BH]) (by simp[BF,BH]) (u _ _ _) ?_)
 go_wp2_with (at_builtin;refine wpList_copy_runI _ rfl _ _ 43 43 rfl _ _ rfl rfl (y _ _) ?_)
 go_ret
 exact⟨rfl,rfl⟩
set_option maxHeartbeats 4000000 in
theorem ins_grow:InsGrow Tryz.prog 168 117 2 32:=grow_p (S:=43) Tryz.underlying43 Tryz.underlying3 (by decide) λw g n b2 i vb m vc G ROW z H hm a9 a6 r a3 b1 Y a1 J y ad M Z a4 X a0 a2 I b0 a5 u O R=>by
 have t39:Tryz.prog.underlying 43=some (.slice 117):=Tryz.underlying43;have t3:Tryz.prog.underlying 3=some (.int .i64):=Tryz.underlying3;try simp only[BC]at O R
 have mixed:Tryz.prog.follows .mixedOrders=true:=by kernel_rfl
 go_enter Tryz.func168,Tryz.ntmps168
 go_wp2_with (at_builtin;refine Lib.wpList_append_run _ rfl _ _ _ _ rfl _ _ rfl rfl _ _ (u _) ?_)
 go_region
 go_wp2
 go_ret
 exact⟨rfl,rfl⟩
theorem walk:ji Tryz.prog 168 117 2 32:=ins_walk (by kernel_rfl) (by kernel_rfl) (by kernel_rfl) (by kernel_rfl) (by decide) (by decide) (by decide) ins_nil ins_end ins_shift ins_grow
end Q7
theorem Q7.o (K:Nat):bO Tryz.prog (Q7.c K):=gB (dm Tryz.func168 (by kernel_rfl) rfl) (.inr rfl) Q7.walk
end Go.Proofs.YtaelpfghkndliaaGreatEv
