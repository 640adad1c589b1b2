/-
  The law FnFound: whatever the drawn bytes: a unit is in the carton that is told, with those that are told, and nowhere else in a right plan.
-/
import Derived.Test.YtioijfplbgpjpaaGreatKf00
import Derived.Deep.RegionHeld3
import Derived.Deep.DeepCutAuto
namespace Go.Proofs.YtioijfplbgpjpaaGreat
set_option linter.unusedVariables false
set_option linter.unusedSimpArgs false
set_option maxRecDepth 100000
open Go.RowKit Go.WideShapes Go.ChangeShapes Go.ChangeAt Go.Deep
open Go.ChangeMaps (open_string shut_string)
theorem mov_self (a:Plan):mov a a=[]:=by
 refine List.eq_nil_iff_forall_not_mem.2 fun u hu=>?_
 exact (mov_mem.1 hu).2 rfl
set_option maxRecDepth 100000 in
set_option maxHeartbeats 40000000 in
theorem FnFound_walk (v:Value) (w:World) (h:∃ xs,RByts 9223372036854775807 w v xs):Calls Tryz.prog 14 #[v] w fun e w'=>e=.returned (.bool true)∧Below w.heap.size w w':=by
 obtain ⟨xs,h⟩:=h
 have HV:=Lib.hid h
 clear h
 obtain ⟨bg,hbg⟩:∃ b,decide (1048576 < xs.length)=b:=⟨_,rfl⟩
 have HG:=Lib.hid hbg
 clear hbg
 go_enter Tryz.func14,Tryz.ntmps14
 go_wp2_with fail
 refine (big_any v xs _ HV.out).mono ?_
 rintro e w' ⟨rfl,rfl⟩
 rw [HG.out]
 cases bg
 case true =>
  go_wp2_with fail
  go_ret
  exact ⟨rfl,Below.refl _ _⟩
 have HB:=Lib.hid (HV.out.plain (by have:=HG.out;simp at this;omega))
 go_wp2_with fail
 refine (DrawCheck_any v xs _ _ _ (Sit.here w) HB.out).mono ?_
 rintro e w1 ⟨u,r,fp,vc,vs,x,fq,rfl,SN1,hbk,hsx⟩
 obtain ⟨vp,vt,vi,rfl,⟨A1,c1,rfl,_⟩,⟨A2,c2,rfl,_⟩,⟨A3,c3,rfl,_⟩⟩:=SN1.on _ (.head _)
 obtain ⟨zs2,hz2,⟨A7,c7,rfl,_⟩,_,⟨A8,c8,rfl,_⟩⟩:=RpOn.open (SN1.on _ (.tail _ (.head _)))
 have HZL:=Lib.hid (show zs2.length=x.cartons.length from map_fst_len hz2)
 have hL:x.bulk≤16777216:=Nat.le_trans hsx.bulk (by decide)
 have SN:=Lib.hid ((SN1.alloc (cR r A1 c1 A2 c2 A3 c3) 41).alloc #[.slice A7 zs2.length c7,.slice A8 x.spots.length c8] 46)
 simp only [World.size_alloc] at SN
 obtain ⟨b3,hb3⟩:∃ b,w1.heap.size=b:=⟨_,rfl⟩
 rw [hb3] at SN
 clear SN1 hz2
 go_upto_region 4 with fail
 (try rw [hb3])
 generalize (w1.alloc (.cells (cR r A1 c1 A2 c2 A3 c3) 41)).alloc (.cells #[.slice A7 zs2.length c7,.slice A8 x.spots.length c8] 46)=W2 at SN ⊢
 clear hb3
 have HR:=Lib.hid (SN.out.rq (v:=.agg (cR r A1 c1 A2 c2 A3 c3)) (r:=r) (fp:=fp) (.tail _ (.tail _ (.head _))) (by omega))
 have HX:=Lib.hid (SN.out.rp (vc:=.slice A7 zs2.length c7) (vs:=.slice A8 x.spots.length c8) (x:=x) (fp:=fq) (.tail _ (.tail _ (.tail _ (.head _)))) (by have:=hsx.cartons;omega) (fun c hc=>by have:=hsx.units c hc;omega) (by have:=hsx.spots;omega))
 have HLW:=Lib.hid SN.out.low
 have K3:=Lib.hid (show ∀ X:World,Below W2.heap.size W2 X→(cS10 (X) (b3) (r) (.slice A1 r.pairs.length c1) (.slice A2 r.types.length c2) (.slice A3 r.items.length c3))∧X.cell? ⟨b3 + 1,0,none⟩=some (.slice A7 zs2.length c7)∧X.cell? ⟨b3 + 1,1,none⟩=some (.slice A8 x.spots.length c8) from fun X hX=>by
  have c0:=(SN.out.next hX).box (g:=b3) (cs:=(cR r A1 c1 A2 c2 A3 c3)) (t:=41) mq
  have c1:=(SN.out.next hX).box (g:=b3 + 1) (cs:=#[.slice A7 zs2.length c7,.slice A8 x.spots.length c8]) (t:=46) mq
  exact ⟨⟨c0 0,c0 1,c0 2,c0 3,c0 4,c0 5,c0 6,c0 7,c0 8,c0 9⟩,c1 0,c1 1⟩)
 clear SN
 have SN:=Lib.hid (Sit.here W2)
 obtain ⟨q,hq⟩:∃ q,feasible r x=q:=⟨_,rfl⟩
 have HQ:=Lib.hid hq
 have hqq:(q != q)=false:=by cases q <;> rfl
 clear hq
 refine regu (S:=(fun X=>(cS10 (X) (b3) (r) (.slice A1 r.pairs.length c1) (.slice A2 r.types.length c2) (.slice A3 r.items.length c3))∧X.cell? ⟨b3 + 1,0,none⟩=some (.slice A7 zs2.length c7)∧X.cell? ⟨b3 + 1,1,none⟩=some (.slice A8 x.spots.length c8))) (by kernel_rfl) (fun _ _ _ _ _=>id) ?_ fun hHeld=>?_
 ·(first | (refine K3.out _ ?_;(repeat' with_reducible first | assumption | exact bR | apply bD | apply bA | apply bC | apply bW | omega | simp <;> omega);done) | go_keep)
 refine tku (b:=?_) [0,1,3,4] (by kernel_rfl) hHeld ?_ ?_
 rotate_left
 ·repeat first
  |exact .nil
  |refine .yes (v:=?_) rfl (by rfl) ?_ ?_
   rotate_left
   ·intro w9 hSw;(try dsimp only at hSw);go_simp;(try with_reducible rfl)
   (try simp only [aP,aZ,aS,aG,aH,aI])
 refine onu 2 rfl (by kernel_rfl) fun K hK=>?_
 go_simp
 ((go_at_call 62;refine (iFeasible_any _ _ r x _ (HR.out.next (SN.out.next (by (repeat' with_reducible first | assumption | exact bR | apply bD | apply bA | apply bC | apply bW | omega | simp <;> omega))).low) (HX.out.next (SN.out.next (by (repeat' with_reducible first | assumption | exact bR | apply bD | apply bA | apply bC | apply bW | omega | simp <;> omega))).low) hL).mono ?_;rintro e w3 ⟨rfl,hb3⟩;rw [HQ.out];have hn3:=bstep (a:=W2) (by (repeat' with_reducible first | assumption | exact bR | apply bD | apply bA | apply bC | apply bW | omega | simp <;> omega)) hb3))
 refine hK.out _ _ ?_ (fun hHeld=>?_)
 ·(first | (refine K3.out _ ?_;(repeat' with_reducible first | assumption | exact bR | apply bD | apply bA | apply bC | apply bW | omega | simp <;> omega);done) | go_keep)
 clear hK K
 (try simp only [aP,aZ,aS,aG,aH,aI])
 refine onu 5 rfl (by kernel_rfl) fun K hK=>?_
 go_simp
 ((go_at_call 51;refine (sFeasible_any _ _ r x _ (HR.out.next (SN.out.next (by (repeat' with_reducible first | assumption | exact bR | apply bD | apply bA | apply bC | apply bW | omega | simp <;> omega))).low) (HX.out.next (SN.out.next (by (repeat' with_reducible first | assumption | exact bR | apply bD | apply bA | apply bC | apply bW | omega | simp <;> omega))).low) hL).mono ?_;rintro e w4 ⟨rfl,hb4⟩;rw [HQ.out];have hn4:=bstep (a:=W2) (by (repeat' with_reducible first | assumption | exact bR | apply bD | apply bA | apply bC | apply bW | omega | simp <;> omega)) hb4))
 refine hK.out _ _ ?_ (fun hHeld=>?_)
 ·(first | (refine K3.out _ ?_;(repeat' with_reducible first | assumption | exact bR | apply bD | apply bA | apply bC | apply bW | omega | simp <;> omega);done) | go_keep)
 clear hK K
 (try simp only [aP,aZ,aS,aG,aH,aI])
 refine lsu 6 rfl (by kernel_rfl) fun K hK=>?_
 go_simp
 refine hK.out _ _ ?_
 clear hK K
 (try simp only [aP,aZ,aS,aG,aH,aI])
 skip
 have hlow:=(SN.out.next hn4).low
 have HB2:=Lib.hid ((HV.out.next (bstep HLW.out hlow)).plain (by have:=HG.out;simp at this;omega))
 clear hn3 hn4 hb3 hb4 hqq SN
 go_wp2_with fail
 refine (DrawTogether_any v xs _ _ _ (Sit.here w4) HB2.out).mono ?_
 rintro e w5 ⟨vd,vt2,y,fy,u0,rfl,SN2,hsy⟩
 obtain ⟨zs3,hz3,⟨A9,c9,rfl,_⟩,_,⟨A0,c0,rfl,_⟩⟩:=RpOn.open (SN2.on _ (.head _))
 have HZL3:=Lib.hid (show zs3.length=y.cartons.length from map_fst_len hz3)
 have hL5:y.bulk≤16777216:=Nat.le_trans hsy.bulk (by decide)
 have SQ:=Lib.hid (SN2.alloc #[.slice A9 zs3.length c9,.slice A0 y.spots.length c0] 46)
 obtain ⟨b5,hb5⟩:∃ b,w5.heap.size=b:=⟨_,rfl⟩
 rw [hb5] at SQ
 clear SN2 hz3
 go_upto_region 7 with fail
 (try rw [hb5])
 generalize w5.alloc (.cells #[.slice A9 zs3.length c9,.slice A0 y.spots.length c0] 46)=W6 at SQ ⊢
 clear hb5
 have hl6:=bstep hlow SQ.out.low
 have HR6:=Lib.hid (HR.out.next hl6)
 have HX6:=Lib.hid (HX.out.next hl6)
 have HY:=Lib.hid (SQ.out.rp (vc:=.slice A9 zs3.length c9) (vs:=.slice A0 y.spots.length c0) (x:=y) (fp:=fy) (.tail _ (.head _)) (by have:=hsy.cartons;omega) (fun c hc=>by have:=hsy.units c hc;omega) (by have:=hsy.spots;omega))
 have HLW6:=Lib.hid (bstep HLW.out hl6)
 have K4:=Lib.hid (show ∀ X:World,Below W6.heap.size W6 X→((cS10 (X) (b3) (r) (.slice A1 r.pairs.length c1) (.slice A2 r.types.length c2) (.slice A3 r.items.length c3))∧X.cell? ⟨b3 + 1,0,none⟩=some (.slice A7 zs2.length c7)∧X.cell? ⟨b3 + 1,1,none⟩=some (.slice A8 x.spots.length c8))∧X.cell? ⟨b5,0,none⟩=some (.slice A9 zs3.length c9)∧X.cell? ⟨b5,1,none⟩=some (.slice A0 y.spots.length c0) from fun X hX=>by
  have c1:=(SQ.out.next hX).box (g:=b5) (cs:=#[.slice A9 zs3.length c9,.slice A0 y.spots.length c0]) (t:=46) mq
  exact ⟨K3.out X (bstep hl6 hX),c1 0,c1 1⟩)
 clear SQ hlow hl6 K3 HR HX HLW
 have HR:=HR6
 have HX:=HX6
 have HLW:=HLW6
 clear HR6 HX6 HLW6
 have SN:=Lib.hid (Sit.here W6)
 obtain ⟨T,hT⟩:∃ T,tog y u0=T:=⟨_,rfl⟩
 have HT:=Lib.hid hT
 have htl:T.length≤16777216:=by rw [← hT];exact Nat.le_trans (tog_len y u0) hL5
 obtain ⟨cw0,hcw0⟩:∃ c,cwith y.cartons u0=c:=⟨_,rfl⟩
 have HCW:=Lib.hid hcw0
 have hcc:(cw0 != cw0)=false:=by simp
 clear hT hcw0
 obtain ⟨⟨⟨k0,k1,k2,k3,k4,k5,k6,k7,k8,k9⟩,p0,p1⟩,y0,y1⟩:=K4.out _ SN.out.low
 go_wp2_with fail
 refine (iTogether_any _ y u0 _ (HY.out.next SN.out.low) hL5).mono ?_
 intro e1 w7 hm
 rw [HT.out] at hm
 obtain ⟨v6,f6,rfl,SN1⟩:=SN.out.gotInts hm
 obtain ⟨A6,c6,rfl,_⟩:=(SN1.list (.head _)).form
 have SQ:=Lib.hid SN1
 clear SN SN1 hm
 clear k0 k1 k2 k3 k4 k5 k6 k7 k8 k9 p0 p1 y0 y1
 have SN:=SQ
 clear SQ
 have HCC:=Lib.hid (show ∀ X:World,Below w7.heap.size w7 X→((cS10 (X) (b3) (r) (.slice A1 r.pairs.length c1) (.slice A2 r.types.length c2) (.slice A3 r.items.length c3))∧X.cell? ⟨b3 + 1,0,none⟩=some (.slice A7 zs2.length c7)∧X.cell? ⟨b3 + 1,1,none⟩=some (.slice A8 x.spots.length c8))∧X.cell? ⟨b5,0,none⟩=some (.slice A9 zs3.length c9)∧X.cell? ⟨b5,1,none⟩=some (.slice A0 y.spots.length c0) from fun X hX=>K4.out X (SN.out.next hX).low)
 go_wp2_with fail
 refine regu (S:=(fun X=>((cS10 (X) (b3) (r) (.slice A1 r.pairs.length c1) (.slice A2 r.types.length c2) (.slice A3 r.items.length c3))∧X.cell? ⟨b3 + 1,0,none⟩=some (.slice A7 zs2.length c7)∧X.cell? ⟨b3 + 1,1,none⟩=some (.slice A8 x.spots.length c8))∧X.cell? ⟨b5,0,none⟩=some (.slice A9 zs3.length c9)∧X.cell? ⟨b5,1,none⟩=some (.slice A0 y.spots.length c0))) (by kernel_rfl) (fun _ _ _ _ _=>id) ?_ fun hHeld=>?_
 ·(first | (refine HCC.out _ ?_;(repeat' with_reducible first | assumption | exact bR | apply bD | apply bA | apply bC | apply bW | omega | simp <;> omega);done) | go_keep)
 refine tku (b:=?_) [0,1,2] (by kernel_rfl) hHeld ?_ ?_
 rotate_left
 ·repeat first
  |exact .nil
  |refine .yes (v:=?_) rfl (by rfl) ?_ ?_
   rotate_left
   ·intro w9 hSw;(try dsimp only at hSw);go_simp;(try with_reducible rfl)
   (try simp only [aP,aZ,aS,aG,aH,aI])
 refine onu 3 rfl (by kernel_rfl) fun K hK=>?_
 go_simp
 ((go_at_call 69;refine (sTogether_any _ y u0 _ (HY.out.next (SN.out.next (by (repeat' with_reducible first | assumption | exact bR | apply bD | apply bA | apply bC | apply bW | omega | simp <;> omega))).low) hL5).mono ?_;intro e w8 hm;rw [HT.out] at hm;obtain ⟨u9,f9,hu9,ho9,hb4⟩:=id hm;have hn4:=bstep (a:=w7) (by (repeat' with_reducible first | assumption | exact bR | apply bD | apply bA | apply bC | apply bW | omega | simp <;> omega)) hb4;clear ho9 hu9;obtain ⟨v7,f7,rfl,hS7⟩:=(SN.out.next (by (repeat' with_reducible first | assumption | exact bR | apply bD | apply bA | apply bC | apply bW | omega | simp <;> omega))).gotInts hm;obtain ⟨A7',c7',rfl,_⟩:=(hS7.list (.head _)).form;have SF:=Lib.hid hS7;clear hS7 hm))
 refine hK.out _ _ ?_ (fun hHeld=>?_)
 ·(first | (refine HCC.out _ ?_;(repeat' with_reducible first | assumption | exact bR | apply bD | apply bA | apply bC | apply bW | omega | simp <;> omega);done) | go_keep)
 clear hK K
 (try simp only [aP,aZ,aS,aG,aH,aI])
 refine onu 4 rfl (by kernel_rfl) fun K hK=>?_
 go_simp
 ((go_at_call 46;refine (sameInts_any _ _ T T _ (OInts.read ((SN.out.next (by (repeat' with_reducible first | assumption | exact bR | apply bD | apply bA | apply bC | apply bW | omega | simp <;> omega))).list (.head _)) (by omega)) (OInts.read ((SF.out.next (by (repeat' with_reducible first | assumption | exact bR | apply bD | apply bA | apply bC | apply bW | omega | simp <;> omega))).list (.head _)) (by omega))).mono ?_;rintro e w9 ⟨rfl,hb5⟩;rw [show decide (T=T)=true from decide_eq_true rfl];have hn5:=bstep (a:=w7) (by (repeat' with_reducible first | assumption | exact bR | apply bD | apply bA | apply bC | apply bW | omega | simp <;> omega)) hb5))
 refine hK.out _ _ ?_ (fun hHeld=>?_)
 ·(first | (refine HCC.out _ ?_;(repeat' with_reducible first | assumption | exact bR | apply bD | apply bA | apply bC | apply bW | omega | simp <;> omega);done) | go_keep)
 clear hK K
 (try simp only [aP,aZ,aS,aG,aH,aI])
 refine tku (b:=?_) [5,6,7,8,10,11] (by kernel_rfl) hHeld ?_ ?_
 rotate_left
 ·repeat first
  |exact .nil
  |refine .yes (v:=?_) rfl (by rfl) ?_ ?_
   rotate_left
   ·intro w9 hSw;(try dsimp only at hSw);go_simp;(try with_reducible rfl)
   (try simp only [aP,aZ,aS,aG,aH,aI])
 refine onu 9 rfl (by kernel_rfl) fun K hK=>?_
 go_simp
 ((go_at_call 49;refine (iCartonWith_any _ y u0 _ (HY.out.next (SN.out.next (by (repeat' with_reducible first | assumption | exact bR | apply bD | apply bA | apply bC | apply bW | omega | simp <;> omega))).low)).mono ?_;rintro e w10 ⟨rfl,hb6⟩;rw [HCW.out];have hn6:=bstep (a:=w7) (by (repeat' with_reducible first | assumption | exact bR | apply bD | apply bA | apply bC | apply bW | omega | simp <;> omega)) hb6))
 refine hK.out _ _ ?_ (fun hHeld=>?_)
 ·(first | (refine HCC.out _ ?_;(repeat' with_reducible first | assumption | exact bR | apply bD | apply bA | apply bC | apply bW | omega | simp <;> omega);done) | go_keep)
 clear hK K
 (try simp only [aP,aZ,aS,aG,aH,aI])
 refine onu 12 rfl (by kernel_rfl) fun K hK=>?_
 go_simp
 ((go_at_call 70;refine (sCartonWith_any _ y u0 _ (HY.out.next (SN.out.next (by (repeat' with_reducible first | assumption | exact bR | apply bD | apply bA | apply bC | apply bW | omega | simp <;> omega))).low)).mono ?_;rintro e w11 ⟨rfl,hb7⟩;rw [HCW.out];have hn7:=bstep (a:=w7) (by (repeat' with_reducible first | assumption | exact bR | apply bD | apply bA | apply bC | apply bW | omega | simp <;> omega)) hb7))
 refine hK.out _ _ ?_ (fun hHeld=>?_)
 ·(first | (refine HCC.out _ ?_;(repeat' with_reducible first | assumption | exact bR | apply bD | apply bA | apply bC | apply bW | omega | simp <;> omega);done) | go_keep)
 clear hK K
 (try simp only [aP,aZ,aS,aG,aH,aI])
 refine tku (b:=?_) [13] (by kernel_rfl) hHeld ?_ ?_
 rotate_left
 ·repeat first
  |exact .nil
  |refine .yes (v:=?_) rfl (by rfl) ?_ ?_
   rotate_left
   ·intro w9 hSw;(try dsimp only at hSw);go_simp;(try with_reducible rfl)
   (try simp only [aP,aZ,aS,aG,aH,aI])
 refine lsu 14 rfl (by kernel_rfl) fun K hK=>?_
 go_simp
 refine hK.out _ _ ?_
 clear hK K
 (try simp only [aP,aZ,aS,aG,aH,aI])
 skip
 have SN:=Lib.hid (SN.out.next hn7)
 clear SF HCC hn4 hn5 hn6 hn7 hb4 hb5 hb6 hb7 hcc
 obtain ⟨⟨⟨k0,k1,k2,k3,k4,k5,k6,k7,k8,k9⟩,p0,p1⟩,y0,y1⟩:=K4.out _ SN.out.low
 go_wp2_with fail
 refine (sFeasible_any _ _ r x _ (HR.out.next SN.out.low) (HX.out.next SN.out.low) hL).mono ?_
 rintro e2 w12 ⟨rfl,hb⟩
 rw [HQ.out]
 have SN:=Lib.hid (SN.out.next hb)
 clear hb
 clear k0 k1 k2 k3 k4 k5 k6 k7 k8 k9 p0 p1 y0 y1
 cases q
 ·go_wp2
  go_ret
  exact ⟨rfl,bstep HLW.out SN.out.low⟩
 obtain ⟨⟨⟨k0,k1,k2,k3,k4,k5,k6,k7,k8,k9⟩,p0,p1⟩,y0,y1⟩:=K4.out _ SN.out.low
 go_wp2_with fail
 refine (iUnits_any _ r _ (HR.out.next SN.out.low)).mono ?_
 intro e3 w13 hm
 obtain ⟨v8,f8,rfl,hS⟩:=SN.out.gotInts hm
 obtain ⟨AU,aU,rfl,_⟩:=(hS.list (.head _)).form
 have SN:=Lib.hid hS.rot2
 clear hS hm
 clear k0 k1 k2 k3 k4 k5 k6 k7 k8 k9 p0 p1 y0 y1
 obtain ⟨n,hn⟩:∃ n,(unitsC r).length=n:=⟨_,rfl⟩
 have HN:=Lib.hid (show (unitsR r).length=n by rw [← unitsC_sound HQ.out,hn])
 have hul:=unitsC_le r
 rw [hn] at SN hul ⊢
 clear hn
 go_wp2
 go_loopw [9] (fun i wr=>∃ j:Nat,j≤n∧i=.int .i64 j∧Hid (Sit W6 wr [fOF cI 3 1 W6.heap.size (.slice A6 T.length c6) T f6,fOF cI 3 1 W6.heap.size (.slice AU n aU) (unitsC r) f8])) (fun i _=>n - (intOf i).toNat)
 case atStart=>exact ⟨0,Nat.zero_le _,rfl,SN⟩
 case round =>
  clear SN
  obtain ⟨j,hj,rfl,SN⟩:=hrel
  by_cases hlt:j < n
  ·obtain ⟨m,c,hm1,hm2,hm3,hm4⟩:=found HQ.out (u:=(j:Int)) ⟨by omega,by rw [HN.out];omega⟩
   have hmlt:=(List.getElem?_eq_some_iff.1 hm2).1
   obtain ⟨PA,ca,PB,cb,heq,HPA,HPB,hla,hlb⟩:=HX.out.opn
   have e1:Value.slice A7 zs2.length c7=.slice PA x.cartons.length ca:=by injection heq with h1;exact (List.cons.inj (congrArg Array.toList h1)).1
   injection e1 with e11 e12 e13
   subst e11 e13
   clear e12
   obtain ⟨b,off,c',U,cu,rfl,hb,hc,HU,HC⟩:=HPA.out.one m hmlt
   obtain rfl:c=c':=Option.some.inj (hm2.symm.trans hc)
   have HM1:=Lib.hid hm1
   have HM3:=Lib.hid hm3
   obtain ⟨TG,hTG⟩:∃ T,tog x (j:Int)=T:=⟨_,rfl⟩
   have HTG:=Lib.hid hTG
   rw [hTG] at hm4
   have hu100:=hsx.units c (List.mem_of_getElem? hm2)
   have hwu:IntKind.i64.wrap ((c.units.length:Int) - 1)=(TG.length:Int):=by rw [wrapE];unfold wrap64;omega
   have hwt:((TG.length:Int) != (TG.length:Int))=false:=by simp
   have hmz:m < zs2.length:=by have:=HZL.out;omega
   have hmi:(m:Int) < (zs2.length:Int):=by omega
   have hmd:decide ((zs2.length:Int)≤(m:Int))=false:=decide_eq_false (by omega)
   have hmn : ¬ zs2.length≤m:=by omega
   have hmn2:decide (zs2.length≤m)=false:=decide_eq_false hmn
   have hmn3 : ¬ (zs2.length:Int)≤(m:Int):=by omega
   have hwu2:wrap64 ((c.units.length:Int) - 1)=(TG.length:Int):=by unfold wrap64;omega
   have hm0:decide ((m:Int) < 0)=false:=decide_eq_false (by omega)
   have h11:(((1:Nat):Int) != 1)=false:=rfl
   have HCC:=Lib.hid (show ∀ X:World,Below wr.heap.size wr X→(X.cell? ⟨b3 + 1,0,none⟩=some (.slice (some ⟨b,off,none⟩) zs2.length c7)∧X.cell? ⟨b3 + 1,1,none⟩=some (.slice A8 x.spots.length c8))∧cC3 (X) (b) (off) (m) (c) (.slice U c.units.length cu) from fun X hX=>by
    have hX:=SN.out.next hX
    obtain ⟨⟨_,q2,q3⟩,_⟩:=K4.out X hX.low
    exact ⟨⟨q2,q3⟩,HC.out X hX.low⟩)
   clear hm1 hm2 hm3 hc hTG heq HPA HPB hla hlb
   obtain ⟨⟨⟨k0,k1,k2,k3,k4,k5,k6,k7,k8,k9⟩,p0,p1⟩,y0,y1⟩:=K4.out _ SN.out.low
   go_wp2_with fail
   refine (iCartonWith_any _ x (j:Int) _ (HX.out.next SN.out.low)).mono ?_
   rintro e4 w14 ⟨rfl,hb14⟩
   rw [HM1.out]
   have hn14:=bstep (a:=wr) (Below.refl _ _) hb14
   clear k0 k1 k2 k3 k4 k5 k6 k7 k8 k9 p0 p1 y0 y1
   go_wp2_with fail
   refine regu (S:=(fun X=>(X.cell? ⟨b3 + 1,0,none⟩=some (.slice (some ⟨b,off,none⟩) zs2.length c7)∧X.cell? ⟨b3 + 1,1,none⟩=some (.slice A8 x.spots.length c8))∧cC3 (X) (b) (off) (m) (c) (.slice U c.units.length cu))) (by kernel_rfl) (fun _ _ _ _ _=>id) ?_ fun hHeld=>?_
   ·(first | (refine HCC.out _ ?_;(repeat' with_reducible first | assumption | exact bR | apply bD | apply bA | apply bC | apply bW | omega | simp <;> omega);done) | go_keep)
   refine tku (b:=?_) [0,1,2,3,4,5,6,7,8,9,10,11,14,15,16,17,18,19,20,21] (by kernel_rfl) hHeld ?_ ?_
   rotate_left
   ·repeat first
    |exact .nil
    |refine .yes (v:=?_) rfl (by rfl) ?_ ?_
     rotate_left
     ·intro w9 hSw;(try dsimp only at hSw);go_simp;(try with_reducible rfl)
     (try simp only [aP,aZ,aS,aG,aH,aI])
   refine onu 12 rfl (by kernel_rfl) fun K hK=>?_
   go_simp
   ((go_at_call 48;refine (iTogether_any _ x (j:Int) _ (HX.out.next (SN.out.next (by (repeat' with_reducible first | assumption | exact bR | apply bD | apply bA | apply bC | apply bW | omega | simp <;> omega))).low) hL).mono ?_;intro e w15 hm;rw [HTG.out] at hm;obtain ⟨u9,f9,hu9,ho9,hb15⟩:=id hm;have hn15:=bstep (a:=wr) (by (repeat' with_reducible first | assumption | exact bR | apply bD | apply bA | apply bC | apply bW | omega | simp <;> omega)) hb15;clear ho9 hu9;obtain ⟨v7,f7,rfl,hS7⟩:=(SN.out.next (by (repeat' with_reducible first | assumption | exact bR | apply bD | apply bA | apply bC | apply bW | omega | simp <;> omega))).gotInts hm;obtain ⟨A7',c7',rfl,_⟩:=(hS7.list (.head _)).form;clear hS7 hm))
   refine hK.out _ _ ?_ (fun hHeld=>?_)
   ·(first | (refine HCC.out _ ?_;(repeat' with_reducible first | assumption | exact bR | apply bD | apply bA | apply bC | apply bW | omega | simp <;> omega);done) | go_keep)
   clear hK K
   (try simp only [aP,aZ,aS,aG,aH,aI])
   refine tku (b:=?_) [13,22,23,24,25,26,27,28,29,30,31] (by kernel_rfl) hHeld ?_ ?_
   rotate_left
   ·repeat first
    |exact .nil
    |refine .yes (v:=?_) rfl (by rfl) ?_ ?_
     rotate_left
     ·intro w9 hSw;(try dsimp only at hSw);go_simp;(try with_reducible rfl)
     (try simp only [aP,aZ,aS,aG,aH,aI])
   refine onu 32 rfl (by kernel_rfl) fun K hK=>?_
   go_simp
   ((go_at_call 64;refine (times_any _ c.units (j:Int) _ (HU.out.next (flat_mono _) (SN.out.next (by (repeat' with_reducible first | assumption | exact bR | apply bD | apply bA | apply bC | apply bW | omega | simp <;> omega))).low)).mono ?_;rintro e w16 ⟨rfl,rfl⟩;rw [HM3.out]))
   refine hK.out _ _ ?_ (fun hHeld=>?_)
   ·(first | (refine HCC.out _ ?_;(repeat' with_reducible first | assumption | exact bR | apply bD | apply bA | apply bC | apply bW | omega | simp <;> omega);done) | go_keep)
   clear hK K
   (try simp only [aP,aZ,aS,aG,aH,aI])
   refine tku (b:=?_) [33] (by kernel_rfl) hHeld ?_ ?_
   rotate_left
   ·repeat first
    |exact .nil
    |refine .yes (v:=?_) rfl (by rfl) ?_ ?_
     rotate_left
     ·intro w9 hSw;(try dsimp only at hSw);go_simp;(try with_reducible rfl)
     (try simp only [aP,aZ,aS,aG,aH,aI])
   refine lsu 34 rfl (by kernel_rfl) fun K hK=>?_
   go_simp
   refine hK.out _ _ ?_
   clear hK K
   (try simp only [aP,aZ,aS,aG,aH,aI])
   go_wp2
   go_roundw
   case rel=>exact ⟨j + 1,hlt,by go_num,Lib.hid (SN.out.next (by (repeat' with_reducible first | assumption | exact bR | apply bD | apply bA | apply bC | apply bW | omega | simp <;> omega)))⟩
   case measure=>simp [intOf] <;> omega
  ·obtain rfl:j=n:=by omega
   have hcn:cwith x.cartons (j:Int) = -1:=by rw [← HN.out];exact found_not HQ.out
   have HCN:=Lib.hid hcn
   have h00:(((0:Nat):Int) == 0)=true:=rfl
   clear hcn
   obtain ⟨⟨⟨k0,k1,k2,k3,k4,k5,k6,k7,k8,k9⟩,p0,p1⟩,y0,y1⟩:=K4.out _ SN.out.low
   go_wp2_with fail
   refine (iCartonWith_any _ x (j:Int) _ (HX.out.next SN.out.low)).mono ?_
   rintro e4 w14 ⟨rfl,hb14⟩
   rw [HCN.out]
   have SN:=Lib.hid (SN.out.next hb14)
   clear hb14
   clear k0 k1 k2 k3 k4 k5 k6 k7 k8 k9 p0 p1 y0 y1
   obtain ⟨⟨⟨k0,k1,k2,k3,k4,k5,k6,k7,k8,k9⟩,p0,p1⟩,y0,y1⟩:=K4.out _ SN.out.low
   go_wp2_with fail
   refine (iMoved_any _ _ x x _ (HX.out.next SN.out.low) (HX.out.next SN.out.low) hL hL).mono ?_
   intro e5 w15 hm
   rw [mov_self] at hm
   obtain ⟨v7,f7,rfl,hS⟩:=SN.out.gotInts hm
   obtain ⟨A7',c7',rfl,_⟩:=(hS.list (.head _)).form
   have SN:=Lib.hid hS
   clear hS hm
   clear k0 k1 k2 k3 k4 k5 k6 k7 k8 k9 p0 p1 y0 y1
   go_wp2
   go_ret
   exact ⟨rfl,bstep HLW.out SN.out.low⟩
set_option maxRecDepth 100000 in
theorem FnFound_lifted (os:Os) (started:os.Started) (H:Type) (enc:TypeId×Value→H) :
  ReturnsInHanded {} Tryz.checked os 14 .any (Rows.fnFoundSpec.pre6 enc Tryz.prog Tryz.f14 Rows.fnFoundRow.domain false) (Rows.fnFoundSpec.post enc Tryz.prog Tryz.f14 false true false false):=by
 refine returnsInHanded_of_change (C:=Tryz.checked) own_ started (by kernel_rfl) Tryz.func14
  (ChangeSpec.witness6 (enc:=enc) (C:=Tryz.checked) false ⟨#[],#[.slice none 0 0],[]⟩ 8 (by kernel_rfl) (by kernel_rfl) (by kernel_rfl) (by kernel_rfl)) ?_
 intro W base args ds gs before hval0 hW hcnd _
 have hval:∀ (j:Nat) t v,Tryz.f14.params[j]? = some t→args[j]? = some v→Value.okWide Tryz.prog W .any base t v:=hval0
 have hW':=hW
 obtain ⟨p,q,hA0,hV,rfl,hfz,hnd⟩:=hW
 have hA:DataW.TrodAll enc Tryz.prog W 0 (fun _=>true) true Tryz.f14.params.toList args.toList ds p:=hA0
 rw [Tryz.params14] at hA hval
 obtain ⟨v0,vs0,d0,ds0,p0,q0,hargs,rfl,rfl,h0,r0⟩:=trodAll_cons hA
 obtain ⟨rfl,rfl,rfl⟩:=trodAll_nil r0
 obtain rfl:args = #[v0]:=by cases args;simp_all
 obtain ⟨rfl,rfl⟩:=trodVars_none hV
 clear hA0 hval0 hA
 simp only [List.append_nil] at hW'
 have hlt:∀ x∈p0,x.block < W.heap.size:=fun x hx=>hW'.lt x (by simpa using hx)
 have k0:=h0
 have w0:=read_Bytes (hval 0 63 v0 rfl rfl) h0 (fun x hx=>hlt x (by simp [hx]))
 refine (FnFound_walk v0 W w0).mono fun e W' ⟨he,hb⟩=>?_
 subst he
 exact ⟨_,rfl,post_of_below (pa:=p0 ++ []) (pv:=[]) hW' (fun _ _ _=>(trodAll_cons_mk (shut_bool Tryz.underlying4 _) trodAll_mk0)) (fun sp hsp=>(trodAll_cons_mk (stays laidOut_ (by kernel_rfl) (of_decide_eq_true (by kernel_rfl)) k0 hb (fun x hx=>hlt x (by simp [hx])) (fun x hx=>hsp x (by simp [hx]))) trodAll_mk0)) (fun _ _=>rfl) (by simp) hb
  (ok_one (by kernel_rfl) rfl (okWide_bool_mk Tryz.underlying4 _))⟩
theorem FnFound_inPlace:(Rows.fnFoundRow.inPlace == Tryz.prog.inPlace 14)=true:=by kernel_rfl
theorem FnFound_unfollowed:(Rows.fnFoundRow.unfollowed == Tryz.prog.unfollowed 14)=true:=by kernel_rfl
theorem FnFound_recurses:(Rows.fnFoundRow.recurses == Tryz.prog.recurses 14)=true:=by kernel_rfl
theorem FnFound_named:(Rows.fnFoundRow.named == Tryz.prog.varsNamed 14)=true:=by kernel_rfl
theorem FnFound_closed:joinedFacts Tryz.prog 14 Tryz.f14 Rows.fnFoundSpec Rows.fnFoundRow=true:=by
 unfold joinedFacts
 rw [laidOut_,fx_maps,fx_stops,fx_stopKnobs,fx_plain,fx_heard,fx_may,fx_lift,FnFound_inPlace,FnFound_unfollowed,FnFound_recurses,FnFound_named]
 kernel_rfl
theorem FnFound_over:Rows.fnFoundRow.holds Tryz.pinned (OpenSpec.ofChange Rows.fnFoundSpec) :=
 OpenClaim.holds_of_wide 14 Tryz.f14 rfl rfl rfl rfl rfl rfl rfl ⟨rfl,rfl,rfl,rfl,rfl⟩ rfl rfl rfl rfl rfl (by kernel_rfl) Tryz.func14 FnFound_closed
  (of_decide_eq_true (by kernel_rfl)) (by unfold Func.isWrapper;first | (rw [if_pos (by decide +kernel)];kernel_rfl) | (rw [if_neg (by decide +kernel)];exact ⟨rfl,rfl⟩))
  (fun os started H enc _=>FnFound_lifted os started H enc)
theorem FnFound_proved:Rows.FnFoundSaid:=FnFound_over
end Go.Proofs.YtioijfplbgpjpaaGreat
