/-
  An order, a plan and numbers that are drawn: the reference's walks.
-/
import Derived.Test.YtioijfplbgpjpaaGreatKu43
import Derived.Test.YtioijfplbgpjpaaGreatKu36
import Derived.Deep.RegionHeld3
import Derived.Deep.DeepCutAuto
import Derived.Deep.RegionLaw
import Derived.Deep.RegionWith
import Derived.StillTailTactics
namespace Go.Proofs.YtioijfplbgpjpaaGreat
set_option linter.unusedVariables false
set_option linter.unusedSimpArgs false
set_option maxRecDepth 100000
open Go.RowKit Go.WideShapes Go.ChangeShapes Go.ChangeAt Go.Deep
set_option maxRecDepth 100000 in
set_option maxHeartbeats 40000000 in
theorem DrawTop_any (v:Value) (xs:List Int) (w W:World) (L:List Fact) (hS:Sit w W L) (hx:RBytes w w.heap.size v xs):Calls Tryz.prog 65 #[v] W fun e w'=>∃ (u:Value) (r:Request) (fp:List Nat) (vc vs:Value) (x:Plan) (fq:List Nat) (n0:Int),e=.returned (.tuple #[u,.agg #[vc,vs],.int .i64 n0])∧Sit w w' (fRq u r fp::fRp vc vs x fq::L)∧r.bulk≤80∧PlanSmall x:=by
 have HB:=Lib.hid hx
 have SN:=Lib.hid ((hS.alloc cZ 41).alloc #[.slice none 0 0,.slice none 0 0] 46)
 simp only [World.size_alloc] at SN
 clear hS hx
 go_enter Tryz.func65,Tryz.ntmps65
 go_upto_region 1 with fail
 generalize hW1:(W.alloc (.cells cZ 41)).alloc (.cells #[.slice none 0 0,.slice none 0 0] 46)=W1 at SN ⊢
 clear hW1
 go_wp2_with fail
 refine (l21Raised_any v xs _ _ _ SN.out HB.out).mono ?_
 rintro e w2 ⟨u,r,fp,vc,vs,x,fq,rfl,SN1,hbk,hsx⟩
 obtain ⟨vp,vt,vi,rfl,⟨A1,c1,rfl,_⟩,⟨A2,c2,rfl,_⟩,⟨A3,c3,rfl,_⟩⟩:=SN1.on _ (.head _)
 obtain ⟨zs2,hz2,⟨A7,c7,rfl,_⟩,_,⟨A8,c8,rfl,_⟩⟩:=RpOn.open (SN1.on _ (.tail _ (.head _)))
 have HZ2:=Lib.hid hz2
 have hbt:=SN1.boxlt (.tail _ (.tail _ (.head _)))
 clear hz2
 have SQ:=Lib.hid ((SN1.alloc (cR r A1 c1 A2 c2 A3 c3) 41).alloc #[.slice A7 zs2.length c7,.slice A8 x.spots.length c8] 46)
 simp only [World.size_alloc] at SQ
 obtain ⟨b4,hb4⟩:∃ b,w2.heap.size=b:=⟨_,rfl⟩
 rw [hb4] at SQ hbt
 clear SN SN1
 have SN:=SQ
 clear SQ
 go_upto_region 2 with fail
 generalize (w2.alloc (.cells (cR r A1 c1 A2 c2 A3 c3) 41)).alloc (.cells #[.slice A7 zs2.length c7,.slice A8 x.spots.length c8] 46)=W3 at SN ⊢
 clear hb4
 have hn1 : ¬ (b4=W.heap.size):=(by omega);have hn2 : ¬ (b4=W.heap.size + 1):=(by omega);have hn3 : ¬ (b4 + 1=W.heap.size):=(by omega);have hn4 : ¬ (b4 + 1=W.heap.size + 1):=(by omega);have hn5 : ¬ (W.heap.size=b4):=(by omega);have hn6 : ¬ (W.heap.size + 1=b4):=(by omega);have hn7 : ¬ (W.heap.size=b4 + 1):=(by omega);have hn8 : ¬ (W.heap.size + 1=b4 + 1):=(by omega);have hn9 : ¬ (b4=b4 + 1):=(by omega);have hn10 : ¬ (b4 + 1=b4):=(by omega)
 have k4:=SN.out.box (g:=b4) (cs:=(cR r A1 c1 A2 c2 A3 c3)) (t:=41) mq;have k5:=SN.out.box (g:=b4 + 1) (cs:=#[.slice A7 zs2.length c7,.slice A8 x.spots.length c8]) (t:=46) mq;have k2:=SN.out.box (g:=W.heap.size) (cs:=cZ) (t:=41) mq;have f2:=SN.out.free (g:=W.heap.size) (cs:=cZ) (t:=41) mq;have k3:=SN.out.box (g:=W.heap.size + 1) (cs:=#[.slice none 0 0,.slice none 0 0]) (t:=46) mq;have f3:=SN.out.free (g:=W.heap.size + 1) (cs:=#[.slice none 0 0,.slice none 0 0]) (t:=46) mq;have m40:=k4 0;have m41:=k4 1;have m42:=k4 2;have m43:=k4 3;have m44:=k4 4;have m45:=k4 5;have m46:=k4 6;have m47:=k4 7;have m48:=k4 8;have m49:=k4 9;have m50:=k5 0;have m51:=k5 1;simp at m40 m41 m42 m43 m44 m45 m46 m47 m48 m49 m50 m51;clear k4 k5
 go_wp2_with fail
 refine regu (S:=(fun W'=>(cS10 (W') (b4) (r) (.slice A1 r.pairs.length c1) (.slice A2 r.types.length c2) (.slice A3 r.items.length c3))∧W'.cell? ⟨b4 + 1,0,none⟩=some (.slice A7 zs2.length c7)∧W'.cell? ⟨b4 + 1,1,none⟩=some (.slice A8 x.spots.length c8))) (by kernel_rfl) (fun _ _ _ _ _=>id) ?_ fun hHeld=>?_
 ·go_keep
 refine tku (b:=?_) [0,1,2] (by kernel_rfl) hHeld ?_ ?_
 rotate_left
 ·repeat first
  |exact .nil
  |refine .yes (v:=?_) rfl (by rfl) ?_ ?_
   rotate_left
   ·intro w9 hSw;(try dsimp only at hSw);go_simp;(try with_reducible rfl)
   (try simp only [aP,aZ,aS,aG,aH,aI])
 refine onu 3 rfl (by kernel_rfl) fun K hK=>?_
 go_simp
 ((go_at_call 134;refine Sit.cs SN.out fun SN0=>?_;(try simp only [World.size_alloc,World.size_drew] at SN0);refine (new_sit SN0 HB.out).mono ?_;rintro e w1 ⟨g,rfl,SN1⟩;clear m40 m41 m42 m43 m44 m45 m46 m47 m48 m49 m50 m51 k2 f2 k3 f3;have SN2:=Lib.hid SN1;clear SN SN0 SN1;have SN:=SN2;clear SN2;have k4:=SN.out.box (g:=b4) (cs:=(cR r A1 c1 A2 c2 A3 c3)) (t:=41) mq;have k5:=SN.out.box (g:=b4 + 1) (cs:=#[.slice A7 zs2.length c7,.slice A8 x.spots.length c8]) (t:=46) mq;have k2:=SN.out.box (g:=W.heap.size) (cs:=cZ) (t:=41) mq;have f2:=SN.out.free (g:=W.heap.size) (cs:=cZ) (t:=41) mq;have k3:=SN.out.box (g:=W.heap.size + 1) (cs:=#[.slice none 0 0,.slice none 0 0]) (t:=46) mq;have f3:=SN.out.free (g:=W.heap.size + 1) (cs:=#[.slice none 0 0,.slice none 0 0]) (t:=46) mq;have m40:=k4 0;have m41:=k4 1;have m42:=k4 2;have m43:=k4 3;have m44:=k4 4;have m45:=k4 5;have m46:=k4 6;have m47:=k4 7;have m48:=k4 8;have m49:=k4 9;have m50:=k5 0;have m51:=k5 1;simp at m40 m41 m42 m43 m44 m45 m46 m47 m48 m49 m50 m51;clear k4 k5))
 refine hK.out _ _ ?_ (fun hHeld=>?_)
 ·go_keep
 clear hK K
 (try simp only [aP,aZ,aS,aG,aH,aI])
 refine onu 4 rfl (by kernel_rfl) fun K hK=>?_
 go_simp
 ((go_at_call 133;refine Sit.cs SN.out fun SN0=>?_;(try simp only [World.size_alloc,World.size_drew] at SN0);refine (below_sit SN0 HB.out (by repeat first | with_reducible exact List.mem_cons_self | with_reducible exact .head _ | refine .tail _ ?_) _ (by omega)).mono ?_;rintro e w1 ⟨y,rfl,hy,SN1,T1⟩;clear hy;clear m40 m41 m42 m43 m44 m45 m46 m47 m48 m49 m50 m51 k2 f2 k3 f3;have SN2:=Lib.hid SN1;clear SN SN0 SN1 T1;have SN:=SN2;clear SN2;have k4:=SN.out.box (g:=b4) (cs:=(cR r A1 c1 A2 c2 A3 c3)) (t:=41) mq;have k5:=SN.out.box (g:=b4 + 1) (cs:=#[.slice A7 zs2.length c7,.slice A8 x.spots.length c8]) (t:=46) mq;have k2:=SN.out.box (g:=W.heap.size) (cs:=cZ) (t:=41) mq;have f2:=SN.out.free (g:=W.heap.size) (cs:=cZ) (t:=41) mq;have k3:=SN.out.box (g:=W.heap.size + 1) (cs:=#[.slice none 0 0,.slice none 0 0]) (t:=46) mq;have f3:=SN.out.free (g:=W.heap.size + 1) (cs:=#[.slice none 0 0,.slice none 0 0]) (t:=46) mq;have m40:=k4 0;have m41:=k4 1;have m42:=k4 2;have m43:=k4 3;have m44:=k4 4;have m45:=k4 5;have m46:=k4 6;have m47:=k4 7;have m48:=k4 8;have m49:=k4 9;have m50:=k5 0;have m51:=k5 1;simp at m40 m41 m42 m43 m44 m45 m46 m47 m48 m49 m50 m51;clear k4 k5))
 refine hK.out _ _ ?_ (fun hHeld=>?_)
 ·go_keep
 clear hK K
 (try simp only [aP,aZ,aS,aG,aH,aI])
 refine tku (b:=?_) [5] (by kernel_rfl) hHeld ?_ ?_
 rotate_left
 ·repeat first
  |exact .nil
  |refine .yes (v:=?_) rfl (by rfl) ?_ ?_
   rotate_left
   ·intro w9 hSw;(try dsimp only at hSw);go_simp;(try with_reducible rfl)
   (try simp only [aP,aZ,aS,aG,aH,aI])
 refine onu 6 rfl (by kernel_rfl) fun K hK=>?_
 go_simp
 refine hK.out _ _ ?_ (fun hHeld=>?_)
 ·go_keep
 clear hK K
 (try simp only [aP,aZ,aS,aG,aH,aI])
 refine onu 7 rfl (by kernel_rfl) fun K hK=>?_
 go_simp
 refine hK.out _ _ ?_ (fun hHeld=>?_)
 ·go_keep
 clear hK K
 (try simp only [aP,aZ,aS,aG,aH,aI])
 refine lsu 8 rfl (by kernel_rfl) fun K hK=>?_
 go_simp
 refine hK.out _ _ ?_
 clear hK K
 (try simp only [aP,aZ,aS,aG,aH,aI])
 go_wp2_with fail
 refine bodyPost_ret (v:=.tuple #[.agg (cR r A1 c1 A2 c2 A3 c3),.agg #[.slice A7 zs2.length c7,.slice A8 x.spots.length c8],.int .i64 (IntKind.i64.wrap (y - 1))]) (by simp [results,Tryz.results65,go_sem,k2,f2,k3,f3]) rfl ?_
 exact ⟨_,r,fp,_,_,x,_,_,rfl,(((((SN.out.up6).up6.rot2).sub (.cons_cons _ (.cons_cons _ (.cons _ (.cons _ (.cons _ ((.cons_cons _ (.cons_cons _ (List.Sublist.refl _)))))))))).overL [.int .i64 r.way,.int .i64 r.pallet.w,.int .i64 r.pallet.d,.int .i64 r.pallet.h,.int .i64 r.pallet.gram,.int .i64 r.classes,.slice A1 r.pairs.length c1,.slice A2 r.types.length c2,.int .i64 r.master,.slice A3 r.items.length c3] 0).rot2.overL [.slice A7 zs2.length c7,.slice A8 x.spots.length c8] 0).drop.drop,hbk,hsx⟩
set_option maxRecDepth 100000 in
set_option maxHeartbeats 40000000 in
theorem l24Four_any (v:Value) (xs:List Int) (w W:World) (L:List Fact) (hS:Sit w W L) (hx:RBytes w w.heap.size v xs):Calls Tryz.prog 140 #[v] W fun e w'=>∃ (u:Value) (r:Request) (fp:List Nat) (vc vs:Value) (x:Plan) (fq:List Nat) (n0 n1:Int),e=.returned (.tuple #[u,.agg #[vc,vs],.int .i64 n0,.int .i64 n1])∧Sit w w' (fRq u r fp::fRp vc vs x fq::L)∧r.bulk≤80∧PlanSmall x:=by
 have HB:=Lib.hid hx
 have SN:=Lib.hid ((hS.alloc cZ 41).alloc #[.slice none 0 0,.slice none 0 0] 46)
 simp only [World.size_alloc] at SN
 clear hS hx
 go_enter Tryz.func140,Tryz.ntmps140
 go_upto_region 1 with fail
 generalize hW1:(W.alloc (.cells cZ 41)).alloc (.cells #[.slice none 0 0,.slice none 0 0] 46)=W1 at SN ⊢
 clear hW1
 go_wp2_with fail
 refine (l21Raised_any v xs _ _ _ SN.out HB.out).mono ?_
 rintro e w2 ⟨u,r,fp,vc,vs,x,fq,rfl,SN1,hbk,hsx⟩
 obtain ⟨vp,vt,vi,rfl,⟨A1,c1,rfl,_⟩,⟨A2,c2,rfl,_⟩,⟨A3,c3,rfl,_⟩⟩:=SN1.on _ (.head _)
 obtain ⟨zs2,hz2,⟨A7,c7,rfl,_⟩,_,⟨A8,c8,rfl,_⟩⟩:=RpOn.open (SN1.on _ (.tail _ (.head _)))
 have HZ2:=Lib.hid hz2
 have hbt:=SN1.boxlt (.tail _ (.tail _ (.head _)))
 clear hz2
 have SQ:=Lib.hid ((SN1.alloc (cR r A1 c1 A2 c2 A3 c3) 41).alloc #[.slice A7 zs2.length c7,.slice A8 x.spots.length c8] 46)
 simp only [World.size_alloc] at SQ
 obtain ⟨b4,hb4⟩:∃ b,w2.heap.size=b:=⟨_,rfl⟩
 rw [hb4] at SQ hbt
 clear SN SN1
 have SN:=SQ
 clear SQ
 go_upto_region 2 with fail
 generalize (w2.alloc (.cells (cR r A1 c1 A2 c2 A3 c3) 41)).alloc (.cells #[.slice A7 zs2.length c7,.slice A8 x.spots.length c8] 46)=W3 at SN ⊢
 clear hb4
 have hn1 : ¬ (b4=W.heap.size):=(by omega);have hn2 : ¬ (b4=W.heap.size + 1):=(by omega);have hn3 : ¬ (b4 + 1=W.heap.size):=(by omega);have hn4 : ¬ (b4 + 1=W.heap.size + 1):=(by omega);have hn5 : ¬ (W.heap.size=b4):=(by omega);have hn6 : ¬ (W.heap.size + 1=b4):=(by omega);have hn7 : ¬ (W.heap.size=b4 + 1):=(by omega);have hn8 : ¬ (W.heap.size + 1=b4 + 1):=(by omega);have hn9 : ¬ (b4=b4 + 1):=(by omega);have hn10 : ¬ (b4 + 1=b4):=(by omega)
 go_wp2_with fail
 refine (new_sit SN.out HB.out).mono ?_
 rintro e1 w6 ⟨g,rfl,SN1⟩
 have SN2:=Lib.hid SN1
 clear SN SN1
 have SN:=SN2
 clear SN2
 have k4:=SN.out.box (g:=b4) (cs:=(cR r A1 c1 A2 c2 A3 c3)) (t:=41) mq;have k5:=SN.out.box (g:=b4 + 1) (cs:=#[.slice A7 zs2.length c7,.slice A8 x.spots.length c8]) (t:=46) mq;have k2:=SN.out.box (g:=W.heap.size) (cs:=cZ) (t:=41) mq;have f2:=SN.out.free (g:=W.heap.size) (cs:=cZ) (t:=41) mq;have k3:=SN.out.box (g:=W.heap.size + 1) (cs:=#[.slice none 0 0,.slice none 0 0]) (t:=46) mq;have f3:=SN.out.free (g:=W.heap.size + 1) (cs:=#[.slice none 0 0,.slice none 0 0]) (t:=46) mq;have m40:=k4 0;have m41:=k4 1;have m42:=k4 2;have m43:=k4 3;have m44:=k4 4;have m45:=k4 5;have m46:=k4 6;have m47:=k4 7;have m48:=k4 8;have m49:=k4 9;have m50:=k5 0;have m51:=k5 1;simp at m40 m41 m42 m43 m44 m45 m46 m47 m48 m49 m50 m51;clear k4 k5
 go_wp2_with fail
 refine regu (S:=(fun W'=>(cS10 (W') (b4) (r) (.slice A1 r.pairs.length c1) (.slice A2 r.types.length c2) (.slice A3 r.items.length c3))∧W'.cell? ⟨b4 + 1,0,none⟩=some (.slice A7 zs2.length c7)∧W'.cell? ⟨b4 + 1,1,none⟩=some (.slice A8 x.spots.length c8))) (by kernel_rfl) (fun _ _ _ _ _=>id) ?_ fun hHeld=>?_
 ·go_keep
 refine tku (b:=?_) [0,1,2,5] (by kernel_rfl) hHeld ?_ ?_
 rotate_left
 ·repeat first
  |exact .nil
  |refine .yes (v:=?_) rfl (by rfl) ?_ ?_
   rotate_left
   ·intro w9 hSw;(try dsimp only at hSw);go_simp;(try with_reducible rfl)
   (try simp only [aP,aZ,aS,aG,aH,aI])
 refine smu [3,6] (by kernel_rfl) ?_
 refine .cons rfl (by kernel_rfl) (fun K hK=>?_) ?_
 ·go_simp
  ((go_at_call 133;refine Sit.cs SN.out fun SN0=>?_;(try simp only [World.size_alloc,World.size_drew] at SN0);refine (below_sit SN0 HB.out (by repeat first | with_reducible exact List.mem_cons_self | with_reducible exact .head _ | refine .tail _ ?_) _ (by omega)).mono ?_;rintro e w1 ⟨y,rfl,hy,SN1,T1⟩;clear hy;clear m40 m41 m42 m43 m44 m45 m46 m47 m48 m49 m50 m51 k2 f2 k3 f3;have SN2:=Lib.hid SN1;clear SN SN0 SN1 T1;have SN:=SN2;clear SN2;have k4:=SN.out.box (g:=b4) (cs:=(cR r A1 c1 A2 c2 A3 c3)) (t:=41) mq;have k5:=SN.out.box (g:=b4 + 1) (cs:=#[.slice A7 zs2.length c7,.slice A8 x.spots.length c8]) (t:=46) mq;have k2:=SN.out.box (g:=W.heap.size) (cs:=cZ) (t:=41) mq;have f2:=SN.out.free (g:=W.heap.size) (cs:=cZ) (t:=41) mq;have k3:=SN.out.box (g:=W.heap.size + 1) (cs:=#[.slice none 0 0,.slice none 0 0]) (t:=46) mq;have f3:=SN.out.free (g:=W.heap.size + 1) (cs:=#[.slice none 0 0,.slice none 0 0]) (t:=46) mq;have m40:=k4 0;have m41:=k4 1;have m42:=k4 2;have m43:=k4 3;have m44:=k4 4;have m45:=k4 5;have m46:=k4 6;have m47:=k4 7;have m48:=k4 8;have m49:=k4 9;have m50:=k5 0;have m51:=k5 1;simp at m40 m41 m42 m43 m44 m45 m46 m47 m48 m49 m50 m51;clear k4 k5))
  refine hK.out _ _ ?_ (fun hHeld=>?_)
  ·go_keep
  clear hK K
  (try simp only [aP,aZ,aS,aG,aH,aI])
  refine tku (b:=?_) [4] (by kernel_rfl) hHeld ?_ ?_
  rotate_left
  ·repeat first
   |exact .nil
   |refine .yes (v:=?_) rfl (by rfl) ?_ ?_
    rotate_left
    ·intro w9 hSw;(try dsimp only at hSw);go_simp;(try with_reducible rfl)
    (try simp only [aP,aZ,aS,aG,aH,aI])
  refine onu 6 rfl (by kernel_rfl) fun K hK=>?_
  go_simp
  refine hK.out _ _ ?_ (fun hHeld=>?_)
  ·go_keep
  clear hK K
  (try simp only [aP,aZ,aS,aG,aH,aI])
  refine onu 7 rfl (by kernel_rfl) fun K hK=>?_
  go_simp
  ((go_at_call 156;refine Sit.cs SN.out fun SN0=>?_;(try simp only [World.size_alloc,World.size_drew] at SN0);refine (pick_sit SN0 HB.out (by repeat first | with_reducible exact List.mem_cons_self | with_reducible exact .head _ | refine .tail _ ?_) (by repeat first | with_reducible exact List.mem_cons_self | with_reducible exact .head _ | refine .tail _ ?_) _ _ (by rfl) (by decide) (by decide) (by simp)).mono ?_;rintro e w1 ⟨p,rfl,SN1,T1⟩;clear m40 m41 m42 m43 m44 m45 m46 m47 m48 m49 m50 m51 k2 f2 k3 f3;have SN2:=Lib.hid SN1;clear SN SN0 SN1 T1;have SN:=SN2;clear SN2;have k4:=SN.out.box (g:=b4) (cs:=(cR r A1 c1 A2 c2 A3 c3)) (t:=41) mq;have k5:=SN.out.box (g:=b4 + 1) (cs:=#[.slice A7 zs2.length c7,.slice A8 x.spots.length c8]) (t:=46) mq;have k2:=SN.out.box (g:=W.heap.size) (cs:=cZ) (t:=41) mq;have f2:=SN.out.free (g:=W.heap.size) (cs:=cZ) (t:=41) mq;have k3:=SN.out.box (g:=W.heap.size + 1) (cs:=#[.slice none 0 0,.slice none 0 0]) (t:=46) mq;have f3:=SN.out.free (g:=W.heap.size + 1) (cs:=#[.slice none 0 0,.slice none 0 0]) (t:=46) mq;have m40:=k4 0;have m41:=k4 1;have m42:=k4 2;have m43:=k4 3;have m44:=k4 4;have m45:=k4 5;have m46:=k4 6;have m47:=k4 7;have m48:=k4 8;have m49:=k4 9;have m50:=k5 0;have m51:=k5 1;simp at m40 m41 m42 m43 m44 m45 m46 m47 m48 m49 m50 m51;clear k4 k5))
  refine hK.out _ _ ?_ (fun hHeld=>?_)
  ·go_keep
  clear hK K
  (try simp only [aP,aZ,aS,aG,aH,aI])
  refine onu 8 rfl (by kernel_rfl) fun K hK=>?_
  go_simp
  refine hK.out _ _ ?_ (fun hHeld=>?_)
  ·go_keep
  clear hK K
  (try simp only [aP,aZ,aS,aG,aH,aI])
  refine onu 9 rfl (by kernel_rfl) fun K hK=>?_
  go_simp
  refine hK.out _ _ ?_ (fun hHeld=>?_)
  ·go_keep
  clear hK K
  (try simp only [aP,aZ,aS,aG,aH,aI])
  refine onu 10 rfl (by kernel_rfl) fun K hK=>?_
  go_simp
  refine hK.out _ _ ?_ (fun hHeld=>?_)
  ·go_keep
  clear hK K
  (try simp only [aP,aZ,aS,aG,aH,aI])
  refine lsu 11 rfl (by kernel_rfl) fun K hK=>?_
  go_simp
  refine hK.out _ _ ?_
  clear hK K
  (try simp only [aP,aZ,aS,aG,aH,aI])
  go_wp2_with fail
  refine bodyPost_ret (v:=.tuple #[.agg (cR r A1 c1 A2 c2 A3 c3),.agg #[.slice A7 zs2.length c7,.slice A8 x.spots.length c8],.int .i64 (IntKind.i64.wrap (y - 1)),.int .i64 (p)]) (by simp [results,Tryz.results140,go_sem,k2,f2,k3,f3]) rfl ?_
  exact ⟨_,r,fp,_,_,x,_,_,_,rfl,(((((SN.out.up7).up7.rot2).sub (.cons_cons _ (.cons_cons _ (.cons _ (.cons _ (.cons _ (.cons _ ((.cons_cons _ (.cons_cons _ (List.Sublist.refl _))))))))))).overL [.int .i64 r.way,.int .i64 r.pallet.w,.int .i64 r.pallet.d,.int .i64 r.pallet.h,.int .i64 r.pallet.gram,.int .i64 r.classes,.slice A1 r.pairs.length c1,.slice A2 r.types.length c2,.int .i64 r.master,.slice A3 r.items.length c3] 0).rot2.overL [.slice A7 zs2.length c7,.slice A8 x.spots.length c8] 0).drop.drop,hbk,hsx⟩
 refine .cons rfl (by kernel_rfl) (fun K hK=>?_) ?_
 ·go_simp
  refine hK.out _ _ ?_ (fun hHeld=>?_)
  ·go_keep
  clear hK K
  (try simp only [aP,aZ,aS,aG,aH,aI])
  refine onu 3 rfl (by kernel_rfl) fun K hK=>?_
  go_simp
  ((go_at_call 133;refine Sit.cs SN.out fun SN0=>?_;(try simp only [World.size_alloc,World.size_drew] at SN0);refine (below_sit SN0 HB.out (by repeat first | with_reducible exact List.mem_cons_self | with_reducible exact .head _ | refine .tail _ ?_) _ (by omega)).mono ?_;rintro e w1 ⟨y,rfl,hy,SN1,T1⟩;clear hy;clear m40 m41 m42 m43 m44 m45 m46 m47 m48 m49 m50 m51 k2 f2 k3 f3;have SN2:=Lib.hid SN1;clear SN SN0 SN1 T1;have SN:=SN2;clear SN2;have k4:=SN.out.box (g:=b4) (cs:=(cR r A1 c1 A2 c2 A3 c3)) (t:=41) mq;have k5:=SN.out.box (g:=b4 + 1) (cs:=#[.slice A7 zs2.length c7,.slice A8 x.spots.length c8]) (t:=46) mq;have k2:=SN.out.box (g:=W.heap.size) (cs:=cZ) (t:=41) mq;have f2:=SN.out.free (g:=W.heap.size) (cs:=cZ) (t:=41) mq;have k3:=SN.out.box (g:=W.heap.size + 1) (cs:=#[.slice none 0 0,.slice none 0 0]) (t:=46) mq;have f3:=SN.out.free (g:=W.heap.size + 1) (cs:=#[.slice none 0 0,.slice none 0 0]) (t:=46) mq;have m40:=k4 0;have m41:=k4 1;have m42:=k4 2;have m43:=k4 3;have m44:=k4 4;have m45:=k4 5;have m46:=k4 6;have m47:=k4 7;have m48:=k4 8;have m49:=k4 9;have m50:=k5 0;have m51:=k5 1;simp at m40 m41 m42 m43 m44 m45 m46 m47 m48 m49 m50 m51;clear k4 k5))
  refine hK.out _ _ ?_ (fun hHeld=>?_)
  ·go_keep
  clear hK K
  (try simp only [aP,aZ,aS,aG,aH,aI])
  refine tku (b:=?_) [4] (by kernel_rfl) hHeld ?_ ?_
  rotate_left
  ·repeat first
   |exact .nil
   |refine .yes (v:=?_) rfl (by rfl) ?_ ?_
    rotate_left
    ·intro w9 hSw;(try dsimp only at hSw);go_simp;(try with_reducible rfl)
    (try simp only [aP,aZ,aS,aG,aH,aI])
  refine onu 7 rfl (by kernel_rfl) fun K hK=>?_
  go_simp
  ((go_at_call 156;refine Sit.cs SN.out fun SN0=>?_;(try simp only [World.size_alloc,World.size_drew] at SN0);refine (pick_sit SN0 HB.out (by repeat first | with_reducible exact List.mem_cons_self | with_reducible exact .head _ | refine .tail _ ?_) (by repeat first | with_reducible exact List.mem_cons_self | with_reducible exact .head _ | refine .tail _ ?_) _ _ (by rfl) (by decide) (by decide) (by simp)).mono ?_;rintro e w1 ⟨p,rfl,SN1,T1⟩;clear m40 m41 m42 m43 m44 m45 m46 m47 m48 m49 m50 m51 k2 f2 k3 f3;have SN2:=Lib.hid SN1;clear SN SN0 SN1 T1;have SN:=SN2;clear SN2;have k4:=SN.out.box (g:=b4) (cs:=(cR r A1 c1 A2 c2 A3 c3)) (t:=41) mq;have k5:=SN.out.box (g:=b4 + 1) (cs:=#[.slice A7 zs2.length c7,.slice A8 x.spots.length c8]) (t:=46) mq;have k2:=SN.out.box (g:=W.heap.size) (cs:=cZ) (t:=41) mq;have f2:=SN.out.free (g:=W.heap.size) (cs:=cZ) (t:=41) mq;have k3:=SN.out.box (g:=W.heap.size + 1) (cs:=#[.slice none 0 0,.slice none 0 0]) (t:=46) mq;have f3:=SN.out.free (g:=W.heap.size + 1) (cs:=#[.slice none 0 0,.slice none 0 0]) (t:=46) mq;have m40:=k4 0;have m41:=k4 1;have m42:=k4 2;have m43:=k4 3;have m44:=k4 4;have m45:=k4 5;have m46:=k4 6;have m47:=k4 7;have m48:=k4 8;have m49:=k4 9;have m50:=k5 0;have m51:=k5 1;simp at m40 m41 m42 m43 m44 m45 m46 m47 m48 m49 m50 m51;clear k4 k5))
  refine hK.out _ _ ?_ (fun hHeld=>?_)
  ·go_keep
  clear hK K
  (try simp only [aP,aZ,aS,aG,aH,aI])
  refine onu 8 rfl (by kernel_rfl) fun K hK=>?_
  go_simp
  refine hK.out _ _ ?_ (fun hHeld=>?_)
  ·go_keep
  clear hK K
  (try simp only [aP,aZ,aS,aG,aH,aI])
  refine onu 9 rfl (by kernel_rfl) fun K hK=>?_
  go_simp
  refine hK.out _ _ ?_ (fun hHeld=>?_)
  ·go_keep
  clear hK K
  (try simp only [aP,aZ,aS,aG,aH,aI])
  refine onu 10 rfl (by kernel_rfl) fun K hK=>?_
  go_simp
  refine hK.out _ _ ?_ (fun hHeld=>?_)
  ·go_keep
  clear hK K
  (try simp only [aP,aZ,aS,aG,aH,aI])
  refine lsu 11 rfl (by kernel_rfl) fun K hK=>?_
  go_simp
  refine hK.out _ _ ?_
  clear hK K
  (try simp only [aP,aZ,aS,aG,aH,aI])
  go_wp2_with fail
  refine bodyPost_ret (v:=.tuple #[.agg (cR r A1 c1 A2 c2 A3 c3),.agg #[.slice A7 zs2.length c7,.slice A8 x.spots.length c8],.int .i64 (IntKind.i64.wrap (y - 1)),.int .i64 (p)]) (by simp [results,Tryz.results140,go_sem,k2,f2,k3,f3]) rfl ?_
  exact ⟨_,r,fp,_,_,x,_,_,_,rfl,(((((SN.out.up7).up7.rot2).sub (.cons_cons _ (.cons_cons _ (.cons _ (.cons _ (.cons _ (.cons _ ((.cons_cons _ (.cons_cons _ (List.Sublist.refl _))))))))))).overL [.int .i64 r.way,.int .i64 r.pallet.w,.int .i64 r.pallet.d,.int .i64 r.pallet.h,.int .i64 r.pallet.gram,.int .i64 r.classes,.slice A1 r.pairs.length c1,.slice A2 r.types.length c2,.int .i64 r.master,.slice A3 r.items.length c3] 0).rot2.overL [.slice A7 zs2.length c7,.slice A8 x.spots.length c8] 0).drop.drop,hbk,hsx⟩
 exact .nil
set_option maxRecDepth 100000 in
set_option maxHeartbeats 40000000 in
theorem DrawHeights_any (v:Value) (xs:List Int) (w W:World) (L:List Fact) (hS:Sit w W L) (hx:RBytes w w.heap.size v xs):Calls Tryz.prog 71 #[v] W fun e w'=>∃ (u:Value) (r:Request) (fp:List Nat) (vc vs:Value) (x:Plan) (fq:List Nat) (n0:Int),e=.returned (.tuple #[u,.agg #[vc,vs],.int .i64 n0])∧Sit w w' (fRq u r fp::fRp vc vs x fq::L)∧r.bulk≤80∧PlanSmall x:=by
 have HB:=Lib.hid hx
 have SN:=Lib.hid ((hS.alloc cZ 41).alloc #[.slice none 0 0,.slice none 0 0] 46)
 simp only [World.size_alloc] at SN
 clear hS hx
 go_enter Tryz.func71,Tryz.ntmps71
 go_upto_region 1 with fail
 generalize hW1:(W.alloc (.cells cZ 41)).alloc (.cells #[.slice none 0 0,.slice none 0 0] 46)=W1 at SN ⊢
 clear hW1
 go_wp2_with fail
 refine (l24Four_any v xs _ _ _ SN.out HB.out).mono ?_
 rintro e w2 ⟨u,r,fp,vc,vs,x,fq,m0,m1,rfl,SN1,hbk,hsx⟩
 obtain ⟨vp,vt,vi,rfl,⟨A1,c1,rfl,_⟩,⟨A2,c2,rfl,_⟩,⟨A3,c3,rfl,_⟩⟩:=SN1.on _ (.head _)
 obtain ⟨zs2,hz2,⟨A7,c7,rfl,_⟩,_,⟨A8,c8,rfl,_⟩⟩:=RpOn.open (SN1.on _ (.tail _ (.head _)))
 have HZ2:=Lib.hid hz2
 have hbt:=SN1.boxlt (.tail _ (.tail _ (.head _)))
 clear hz2
 have SQ:=Lib.hid ((SN1.alloc (cR r A1 c1 A2 c2 A3 c3) 41).alloc #[.slice A7 zs2.length c7,.slice A8 x.spots.length c8] 46)
 simp only [World.size_alloc] at SQ
 obtain ⟨b4,hb4⟩:∃ b,w2.heap.size=b:=⟨_,rfl⟩
 rw [hb4] at SQ hbt
 clear SN SN1
 have SN:=SQ
 clear SQ
 go_upto_region 2 with fail
 generalize (w2.alloc (.cells (cR r A1 c1 A2 c2 A3 c3) 41)).alloc (.cells #[.slice A7 zs2.length c7,.slice A8 x.spots.length c8] 46)=W3 at SN ⊢
 clear hb4
 have hn1 : ¬ (b4=W.heap.size):=(by omega);have hn2 : ¬ (b4=W.heap.size + 1):=(by omega);have hn3 : ¬ (b4 + 1=W.heap.size):=(by omega);have hn4 : ¬ (b4 + 1=W.heap.size + 1):=(by omega);have hn5 : ¬ (W.heap.size=b4):=(by omega);have hn6 : ¬ (W.heap.size + 1=b4):=(by omega);have hn7 : ¬ (W.heap.size=b4 + 1):=(by omega);have hn8 : ¬ (W.heap.size + 1=b4 + 1):=(by omega);have hn9 : ¬ (b4=b4 + 1):=(by omega);have hn10 : ¬ (b4 + 1=b4):=(by omega)
 have k4:=SN.out.box (g:=b4) (cs:=(cR r A1 c1 A2 c2 A3 c3)) (t:=41) mq;have k5:=SN.out.box (g:=b4 + 1) (cs:=#[.slice A7 zs2.length c7,.slice A8 x.spots.length c8]) (t:=46) mq;have k2:=SN.out.box (g:=W.heap.size) (cs:=cZ) (t:=41) mq;have f2:=SN.out.free (g:=W.heap.size) (cs:=cZ) (t:=41) mq;have k3:=SN.out.box (g:=W.heap.size + 1) (cs:=#[.slice none 0 0,.slice none 0 0]) (t:=46) mq;have f3:=SN.out.free (g:=W.heap.size + 1) (cs:=#[.slice none 0 0,.slice none 0 0]) (t:=46) mq;have m40:=k4 0;have m41:=k4 1;have m42:=k4 2;have m43:=k4 3;have m44:=k4 4;have m45:=k4 5;have m46:=k4 6;have m47:=k4 7;have m48:=k4 8;have m49:=k4 9;have m50:=k5 0;have m51:=k5 1;simp at m40 m41 m42 m43 m44 m45 m46 m47 m48 m49 m50 m51;clear k4 k5
 go_wp2_with fail
 refine regu (S:=(fun W'=>(cS10 (W') (b4) (r) (.slice A1 r.pairs.length c1) (.slice A2 r.types.length c2) (.slice A3 r.items.length c3))∧W'.cell? ⟨b4 + 1,0,none⟩=some (.slice A7 zs2.length c7)∧W'.cell? ⟨b4 + 1,1,none⟩=some (.slice A8 x.spots.length c8))) (by kernel_rfl) (fun _ _ _ _ _=>id) ?_ fun hHeld=>?_
 ·go_keep
 refine tku (b:=?_) [0,1,2] (by kernel_rfl) hHeld ?_ ?_
 rotate_left
 ·repeat first
  |exact .nil
  |refine .yes (v:=?_) rfl (by rfl) ?_ ?_
   rotate_left
   ·intro w9 hSw;(try dsimp only at hSw);go_simp;(try with_reducible rfl)
   (try simp only [aP,aZ,aS,aG,aH,aI])
 refine onu 3 rfl (by kernel_rfl) fun K hK=>?_
 go_simp
 refine hK.out _ _ ?_ (fun hHeld=>?_)
 ·go_keep
 clear hK K
 (try simp only [aP,aZ,aS,aG,aH,aI])
 refine onu 4 rfl (by kernel_rfl) fun K hK=>?_
 go_simp
 refine hK.out _ _ ?_ (fun hHeld=>?_)
 ·go_keep
 clear hK K
 (try simp only [aP,aZ,aS,aG,aH,aI])
 refine lsu 5 rfl (by kernel_rfl) fun K hK=>?_
 go_simp
 refine hK.out _ _ ?_
 clear hK K
 (try simp only [aP,aZ,aS,aG,aH,aI])
 go_wp2_with fail
 refine bodyPost_ret (v:=.tuple #[.agg (cR r A1 c1 A2 c2 A3 c3),.agg #[.slice A7 zs2.length c7,.slice A8 x.spots.length c8],.int .i64 (m0)]) (by simp [results,Tryz.results71,go_sem,k2,f2,k3,f3]) rfl ?_
 exact ⟨_,r,fp,_,_,x,_,_,rfl,(((((SN.out.up5).up5.rot2).sub (.cons_cons _ (.cons_cons _ (.cons _ (.cons _ ((.cons_cons _ (.cons_cons _ (List.Sublist.refl _))))))))).overL [.int .i64 r.way,.int .i64 r.pallet.w,.int .i64 r.pallet.d,.int .i64 r.pallet.h,.int .i64 r.pallet.gram,.int .i64 r.classes,.slice A1 r.pairs.length c1,.slice A2 r.types.length c2,.int .i64 r.master,.slice A3 r.items.length c3] 0).rot2.overL [.slice A7 zs2.length c7,.slice A8 x.spots.length c8] 0).drop.drop.drew,hbk,hsx⟩
set_option maxRecDepth 100000 in
set_option maxHeartbeats 40000000 in
theorem DrawPicture_any (v:Value) (xs:List Int) (w W:World) (L:List Fact) (hS:Sit w W L) (hx:RBytes w w.heap.size v xs):Calls Tryz.prog 54 #[v] W fun e w'=>∃ (u:Value) (r:Request) (fp:List Nat) (vc vs:Value) (x:Plan) (fq:List Nat) (n0 n1:Int),e=.returned (.tuple #[u,.agg #[vc,vs],.int .i64 n0,.int .i64 n1])∧Sit w w' (fRq u r fp::fRp vc vs x fq::L)∧r.bulk≤80∧PlanSmall x:=by
 have HB:=Lib.hid hx
 have SN:=Lib.hid ((hS.alloc cZ 41).alloc #[.slice none 0 0,.slice none 0 0] 46)
 simp only [World.size_alloc] at SN
 clear hS hx
 go_enter Tryz.func54,Tryz.ntmps54
 go_upto_region 1 with fail
 generalize hW1:(W.alloc (.cells cZ 41)).alloc (.cells #[.slice none 0 0,.slice none 0 0] 46)=W1 at SN ⊢
 clear hW1
 go_wp2_with fail
 refine (l24Four_any v xs _ _ _ SN.out HB.out).mono ?_
 rintro e w2 ⟨u,r,fp,vc,vs,x,fq,m0,m1,rfl,SN1,hbk,hsx⟩
 obtain ⟨vp,vt,vi,rfl,⟨A1,c1,rfl,_⟩,⟨A2,c2,rfl,_⟩,⟨A3,c3,rfl,_⟩⟩:=SN1.on _ (.head _)
 obtain ⟨zs2,hz2,⟨A7,c7,rfl,_⟩,_,⟨A8,c8,rfl,_⟩⟩:=RpOn.open (SN1.on _ (.tail _ (.head _)))
 have HZ2:=Lib.hid hz2
 have hbt:=SN1.boxlt (.tail _ (.tail _ (.head _)))
 clear hz2
 have k2:=SN1.box (g:=W.heap.size) (cs:=cZ) (t:=41) mq
 have f2:=SN1.free (g:=W.heap.size) (cs:=cZ) (t:=41) mq
 have k3:=SN1.box (g:=W.heap.size + 1) (cs:=#[.slice none 0 0,.slice none 0 0]) (t:=46) mq
 have f3:=SN1.free (g:=W.heap.size + 1) (cs:=#[.slice none 0 0,.slice none 0 0]) (t:=46) mq
 have SF:=Lib.hid ((((((SN1.rot4).rot4).rot2).overL [.int .i64 r.way,.int .i64 r.pallet.w,.int .i64 r.pallet.d,.int .i64 r.pallet.h,.int .i64 r.pallet.gram,.int .i64 r.classes,.slice A1 r.pairs.length c1,.slice A2 r.types.length c2,.int .i64 r.master,.slice A3 r.items.length c3] 0).rot2.overL [.slice A7 zs2.length c7,.slice A8 x.spots.length c8] 0))
 go_wp2_with fail
 refine bodyPost_ret (v:=.tuple #[.agg (cR r A1 c1 A2 c2 A3 c3),.agg #[.slice A7 zs2.length c7,.slice A8 x.spots.length c8],.int .i64 m0,.int .i64 m1]) (by simp [results,Tryz.results54,go_sem,k2,f2,k3,f3]) rfl ?_
 exact ⟨_,r,fp,_,_,x,_,_,_,rfl,SF.out.drop.drop,hbk,hsx⟩
end Go.Proofs.YtioijfplbgpjpaaGreat
