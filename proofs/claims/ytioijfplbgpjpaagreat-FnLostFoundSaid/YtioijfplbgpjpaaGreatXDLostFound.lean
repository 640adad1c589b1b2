/-
  The law FnLostFound: whatever the drawn bytes: what is lost is in no carton; what is not lost is in one; a plan that has lost something is not right.
-/
import Derived.Test.YtioijfplbgpjpaaGreatKl00
import Derived.Deep.RegionHeld3
import Derived.Deep.DeepCutAuto
namespace Go.Proofs.YtioijfplbgpjpaaGreat
set_option linter.unusedVariables false
set_option linter.unusedSimpArgs false
set_option maxRecDepth 100000
open Go.RowKit Go.WideShapes Go.ChangeShapes Go.ChangeAt Go.Deep
open Go.ChangeMaps (open_string shut_string)
set_option maxRecDepth 100000 in
set_option maxHeartbeats 40000000 in
theorem FnLostFound_walk (v:Value) (w:World) (h:∃ xs,RByts 9223372036854775807 w v xs):Calls Tryz.prog 12 #[v] w fun e w'=>e=.returned (.bool true)∧Below w.heap.size w w':=by
 obtain ⟨xs,h⟩:=h
 have HV:=Lib.hid h
 clear h
 obtain ⟨bg,hbg⟩:∃ b,decide (1048576 < xs.length)=b:=⟨_,rfl⟩
 have HG:=Lib.hid hbg
 clear hbg
 go_enter Tryz.func12,Tryz.ntmps12
 go_wp2_with fail
 refine (big_any v xs _ HV.out).mono ?_
 rintro e w' ⟨rfl,rfl⟩
 rw [HG.out]
 cases bg
 case true =>
  go_wp2_with fail
  go_ret
  exact ⟨rfl,Below.refl _ _⟩
 have HB:=Lib.hid (HV.out.plain (by have:=HG.out;simp at this;omega))
 go_wp2_with fail
 refine (DrawLost_any v xs _ _ _ (Sit.here w) HB.out).mono ?_
 rintro e w1 ⟨u,r,fp,vc,vs,x,fq,rfl,SN1,hbk,hsx⟩
 obtain ⟨vp,vt,vi,rfl,⟨A1,c1,rfl,_⟩,⟨A2,c2,rfl,_⟩,⟨A3,c3,rfl,_⟩⟩:=SN1.on _ (.head _)
 obtain ⟨zs2,hz2,⟨A7,c7,rfl,_⟩,_,⟨A8,c8,rfl,_⟩⟩:=RpOn.open (SN1.on _ (.tail _ (.head _)))
 have HZL:=Lib.hid (show zs2.length=x.cartons.length from map_fst_len hz2)
 have hL:x.bulk≤16777216:=Nat.le_trans hsx.bulk (by decide)
 have SN:=Lib.hid ((SN1.alloc (cR r A1 c1 A2 c2 A3 c3) 41).alloc #[.slice A7 zs2.length c7,.slice A8 x.spots.length c8] 46)
 simp only [World.size_alloc] at SN
 obtain ⟨b3,hb3⟩:∃ b,w1.heap.size=b:=⟨_,rfl⟩
 rw [hb3] at SN
 clear SN1 hz2
 go_upto_region 4 with fail
 (try rw [hb3])
 generalize (w1.alloc (.cells (cR r A1 c1 A2 c2 A3 c3) 41)).alloc (.cells #[.slice A7 zs2.length c7,.slice A8 x.spots.length c8] 46)=W2 at SN ⊢
 clear hb3
 have HR:=Lib.hid (SN.out.rq (v:=.agg (cR r A1 c1 A2 c2 A3 c3)) (r:=r) (fp:=fp) (.tail _ (.tail _ (.head _))) (by omega))
 have HX:=Lib.hid (SN.out.rp (vc:=.slice A7 zs2.length c7) (vs:=.slice A8 x.spots.length c8) (x:=x) (fp:=fq) (.tail _ (.tail _ (.tail _ (.head _)))) (by have:=hsx.cartons;omega) (fun c hc=>by have:=hsx.units c hc;omega) (by have:=hsx.spots;omega))
 have HLW:=Lib.hid SN.out.low
 have K3:=Lib.hid (show ∀ X:World,Below W2.heap.size W2 X→(cS10 (X) (b3) (r) (.slice A1 r.pairs.length c1) (.slice A2 r.types.length c2) (.slice A3 r.items.length c3))∧X.cell? ⟨b3 + 1,0,none⟩=some (.slice A7 zs2.length c7)∧X.cell? ⟨b3 + 1,1,none⟩=some (.slice A8 x.spots.length c8) from fun X hX=>by
  have c0:=(SN.out.next hX).box (g:=b3) (cs:=(cR r A1 c1 A2 c2 A3 c3)) (t:=41) mq
  have c1:=(SN.out.next hX).box (g:=b3 + 1) (cs:=#[.slice A7 zs2.length c7,.slice A8 x.spots.length c8]) (t:=46) mq
  exact ⟨⟨c0 0,c0 1,c0 2,c0 3,c0 4,c0 5,c0 6,c0 7,c0 8,c0 9⟩,c1 0,c1 1⟩)
 clear SN
 have SN:=Lib.hid (Sit.here W2)
 obtain ⟨q,hq⟩:∃ q,feasible r x=q:=⟨_,rfl⟩
 have HQ:=Lib.hid hq
 obtain ⟨M,hM⟩:∃ M,lostR r x=M:=⟨_,rfl⟩
 have HM:=Lib.hid hM
 have hml:M.length≤(unitsC r).length:=by rw [← hM];exact lost_len
 have hul:=unitsC_le r
 have hmq:M.length=0 ∨ (M.length ≠ 0∧q=false):=by
  rcases Nat.eq_zero_or_pos M.length with h | h
  ·exact .inl h
  ·refine .inr ⟨by omega,?_⟩
   cases q
   ·rfl
   ·rw [← hM,lost_none hq] at h;simp at h
 clear hM hq
 obtain ⟨⟨k0,k1,k2,k3,k4,k5,k6,k7,k8,k9⟩,p0,p1⟩:=K3.out _ SN.out.low
 go_wp2_with fail
 refine (iLost_any _ _ r x _ (HR.out.next SN.out.low) (HX.out.next SN.out.low) hL).mono ?_
 intro e1 w3 hm
 rw [HM.out] at hm
 obtain ⟨v6,f6,rfl,SN1⟩:=SN.out.gotInts hm
 obtain ⟨A6,c6,rfl,_⟩:=(SN1.list (.head _)).form
 have SQ:=Lib.hid SN1
 clear SN SN1 hm
 clear k0 k1 k2 k3 k4 k5 k6 k7 k8 k9 p0 p1
 have SN:=SQ
 clear SQ
 have HCC:=Lib.hid (show ∀ X:World,Below w3.heap.size w3 X→(cS10 (X) (b3) (r) (.slice A1 r.pairs.length c1) (.slice A2 r.types.length c2) (.slice A3 r.items.length c3))∧X.cell? ⟨b3 + 1,0,none⟩=some (.slice A7 zs2.length c7)∧X.cell? ⟨b3 + 1,1,none⟩=some (.slice A8 x.spots.length c8) from fun X hX=>K3.out X (SN.out.next hX).low)
 have hqq:(q != q)=false:=by cases q <;> rfl
 rcases hmq with hm0 | ⟨hm0,rfl⟩
 have hmd:decide ((0:Int) < (M.length:Int))=false:=decide_eq_false (by omega)
 have hmi : ¬ (0:Int) < (M.length:Int):=by omega
 have hmn : ¬ 0 < M.length:=by omega
 have hme:M=[]:=List.eq_nil_of_length_eq_zero hm0
 have HME:=Lib.hid hme
 have hmdn:decide (0 < M.length)=false:=decide_eq_false hmn
 have hmt:(!decide (0 < M.length))=true:=by rw [hmdn];rfl
 clear hme
 clear hm0
 go_wp2_with fail
 refine regu (S:=(fun X=>(cS10 (X) (b3) (r) (.slice A1 r.pairs.length c1) (.slice A2 r.types.length c2) (.slice A3 r.items.length c3))∧X.cell? ⟨b3 + 1,0,none⟩=some (.slice A7 zs2.length c7)∧X.cell? ⟨b3 + 1,1,none⟩=some (.slice A8 x.spots.length c8))) (by kernel_rfl) (fun _ _ _ _ _=>id) ?_ fun hHeld=>?_
 ·(first | (refine HCC.out _ ?_;(repeat' with_reducible first | assumption | exact bR | apply bD | apply bA | apply bC | apply bW | omega | simp <;> omega);done) | go_keep)
 refine tku (b:=?_) [0,1,2] (by kernel_rfl) hHeld ?_ ?_
 rotate_left
 ·repeat first
  |exact .nil
  |refine .yes (v:=?_) rfl (by rfl) ?_ ?_
   rotate_left
   ·intro w9 hSw;(try dsimp only at hSw);go_simp;(try with_reducible rfl)
   (try simp only [aP,aZ,aS,aG,aH,aI])
 refine onu 3 rfl (by kernel_rfl) fun K hK=>?_
 go_simp
 ((go_at_call 61;refine (sLost_any _ _ r x _ (HR.out.next (SN.out.next (by (repeat' with_reducible first | assumption | exact bR | apply bD | apply bA | apply bC | apply bW | omega | simp <;> omega))).low) (HX.out.next (SN.out.next (by (repeat' with_reducible first | assumption | exact bR | apply bD | apply bA | apply bC | apply bW | omega | simp <;> omega))).low) hL).mono ?_;intro e w4 hm;rw [HM.out] at hm;obtain ⟨u9,f9,hu9,ho9,hb4⟩:=id hm;have hn4:=bstep (a:=w3) (by (repeat' with_reducible first | assumption | exact bR | apply bD | apply bA | apply bC | apply bW | omega | simp <;> omega)) hb4;clear ho9 hu9;obtain ⟨v7,f7,rfl,hS7⟩:=(SN.out.next (by (repeat' with_reducible first | assumption | exact bR | apply bD | apply bA | apply bC | apply bW | omega | simp <;> omega))).gotInts hm;obtain ⟨A7',c7',rfl,_⟩:=(hS7.list (.head _)).form;have SF:=Lib.hid hS7;clear hS7 hm))
 refine hK.out _ _ ?_ (fun hHeld=>?_)
 ·(first | (refine HCC.out _ ?_;(repeat' with_reducible first | assumption | exact bR | apply bD | apply bA | apply bC | apply bW | omega | simp <;> omega);done) | go_keep)
 clear hK K
 (try simp only [aP,aZ,aS,aG,aH,aI])
 refine onu 4 rfl (by kernel_rfl) fun K hK=>?_
 go_simp
 ((go_at_call 46;refine (sameInts_any _ _ M M _ (OInts.read ((SN.out.next (by (repeat' with_reducible first | assumption | exact bR | apply bD | apply bA | apply bC | apply bW | omega | simp <;> omega))).list (.head _)) (by omega)) (OInts.read ((SF.out.next (by (repeat' with_reducible first | assumption | exact bR | apply bD | apply bA | apply bC | apply bW | omega | simp <;> omega))).list (.head _)) (by omega))).mono ?_;rintro e w5 ⟨rfl,hb5⟩;rw [show decide (M=M)=true from decide_eq_true rfl];have hn5:=bstep (a:=w3) (by (repeat' with_reducible first | assumption | exact bR | apply bD | apply bA | apply bC | apply bW | omega | simp <;> omega)) hb5))
 refine hK.out _ _ ?_ (fun hHeld=>?_)
 ·(first | (refine HCC.out _ ?_;(repeat' with_reducible first | assumption | exact bR | apply bD | apply bA | apply bC | apply bW | omega | simp <;> omega);done) | go_keep)
 clear hK K
 (try simp only [aP,aZ,aS,aG,aH,aI])
 refine tku (b:=?_) [5,6,7,8,9,10] (by kernel_rfl) hHeld ?_ ?_
 rotate_left
 ·repeat first
  |exact .nil
  |refine .yes (v:=?_) rfl (by rfl) ?_ ?_
   rotate_left
   ·intro w9 hSw;(try dsimp only at hSw);go_simp;(try with_reducible rfl)
   (try simp only [aP,aZ,aS,aG,aH,aI])
 refine tku (b:=?_) [11,12] (by kernel_rfl) hHeld ?_ ?_
 rotate_left
 ·repeat first
  |exact .nil
  |refine .no rfl (by rfl) ?_
   (try simp only [aP,aZ,aS,aG,aH,aI])
 refine onu 13 rfl (by kernel_rfl) fun K hK=>?_
 go_simp
 (skip)
 refine hK.out _ _ ?_ (fun hHeld=>?_)
 ·(first | (refine HCC.out _ ?_;(repeat' with_reducible first | assumption | exact bR | apply bD | apply bA | apply bC | apply bW | omega | simp <;> omega);done) | go_keep)
 clear hK K
 (try simp only [aP,aZ,aS,aG,aH,aI])
 refine tku (b:=?_) [14,15,16,17,18,20,21] (by kernel_rfl) hHeld ?_ ?_
 rotate_left
 ·repeat first
  |exact .nil
  |refine .yes (v:=?_) rfl (by rfl) ?_ ?_
   rotate_left
   ·intro w9 hSw;(try dsimp only at hSw);go_simp;(try with_reducible rfl)
   (try simp only [aP,aZ,aS,aG,aH,aI])
 refine onu 19 rfl (by kernel_rfl) fun K hK=>?_
 go_simp
 ((go_at_call 62;refine (iFeasible_any _ _ r x _ (HR.out.next (SN.out.next (by (repeat' with_reducible first | assumption | exact bR | apply bD | apply bA | apply bC | apply bW | omega | simp <;> omega))).low) (HX.out.next (SN.out.next (by (repeat' with_reducible first | assumption | exact bR | apply bD | apply bA | apply bC | apply bW | omega | simp <;> omega))).low) hL).mono ?_;rintro e w6 ⟨rfl,hb6⟩;rw [HQ.out];have hn6:=bstep (a:=w3) (by (repeat' with_reducible first | assumption | exact bR | apply bD | apply bA | apply bC | apply bW | omega | simp <;> omega)) hb6))
 refine hK.out _ _ ?_ (fun hHeld=>?_)
 ·(first | (refine HCC.out _ ?_;(repeat' with_reducible first | assumption | exact bR | apply bD | apply bA | apply bC | apply bW | omega | simp <;> omega);done) | go_keep)
 clear hK K
 (try simp only [aP,aZ,aS,aG,aH,aI])
 refine onu 22 rfl (by kernel_rfl) fun K hK=>?_
 go_simp
 ((go_at_call 51;refine (sFeasible_any _ _ r x _ (HR.out.next (SN.out.next (by (repeat' with_reducible first | assumption | exact bR | apply bD | apply bA | apply bC | apply bW | omega | simp <;> omega))).low) (HX.out.next (SN.out.next (by (repeat' with_reducible first | assumption | exact bR | apply bD | apply bA | apply bC | apply bW | omega | simp <;> omega))).low) hL).mono ?_;rintro e w7 ⟨rfl,hb7⟩;rw [HQ.out];have hn7:=bstep (a:=w3) (by (repeat' with_reducible first | assumption | exact bR | apply bD | apply bA | apply bC | apply bW | omega | simp <;> omega)) hb7))
 refine hK.out _ _ ?_ (fun hHeld=>?_)
 ·(first | (refine HCC.out _ ?_;(repeat' with_reducible first | assumption | exact bR | apply bD | apply bA | apply bC | apply bW | omega | simp <;> omega);done) | go_keep)
 clear hK K
 (try simp only [aP,aZ,aS,aG,aH,aI])
 refine tku (b:=?_) [23] (by kernel_rfl) hHeld ?_ ?_
 rotate_left
 ·repeat first
  |exact .nil
  |refine .yes (v:=?_) rfl (by rfl) ?_ ?_
   rotate_left
   ·intro w9 hSw;(try dsimp only at hSw);go_simp;(try with_reducible rfl)
   (try simp only [aP,aZ,aS,aG,aH,aI])
 refine lsu 24 rfl (by kernel_rfl) fun K hK=>?_
 go_simp
 refine hK.out _ _ ?_
 clear hK K
 (try simp only [aP,aZ,aS,aG,aH,aI])
 skip
 rotate_left
 have hmd:decide ((0:Int) < (M.length:Int))=true:=decide_eq_true (by omega)
 have hmi:(0:Int) < (M.length:Int):=by omega
 have hmn:0 < M.length:=by omega
 have hmdn:decide (0 < M.length)=true:=decide_eq_true hmn
 clear hm0
 go_wp2_with fail
 refine regu (S:=(fun X=>(cS10 (X) (b3) (r) (.slice A1 r.pairs.length c1) (.slice A2 r.types.length c2) (.slice A3 r.items.length c3))∧X.cell? ⟨b3 + 1,0,none⟩=some (.slice A7 zs2.length c7)∧X.cell? ⟨b3 + 1,1,none⟩=some (.slice A8 x.spots.length c8))) (by kernel_rfl) (fun _ _ _ _ _=>id) ?_ fun hHeld=>?_
 ·(first | (refine HCC.out _ ?_;(repeat' with_reducible first | assumption | exact bR | apply bD | apply bA | apply bC | apply bW | omega | simp <;> omega);done) | go_keep)
 refine tku (b:=?_) [0,1,2] (by kernel_rfl) hHeld ?_ ?_
 rotate_left
 ·repeat first
  |exact .nil
  |refine .yes (v:=?_) rfl (by rfl) ?_ ?_
   rotate_left
   ·intro w9 hSw;(try dsimp only at hSw);go_simp;(try with_reducible rfl)
   (try simp only [aP,aZ,aS,aG,aH,aI])
 refine onu 3 rfl (by kernel_rfl) fun K hK=>?_
 go_simp
 ((go_at_call 61;refine (sLost_any _ _ r x _ (HR.out.next (SN.out.next (by (repeat' with_reducible first | assumption | exact bR | apply bD | apply bA | apply bC | apply bW | omega | simp <;> omega))).low) (HX.out.next (SN.out.next (by (repeat' with_reducible first | assumption | exact bR | apply bD | apply bA | apply bC | apply bW | omega | simp <;> omega))).low) hL).mono ?_;intro e w4 hm;rw [HM.out] at hm;obtain ⟨u9,f9,hu9,ho9,hb4⟩:=id hm;have hn4:=bstep (a:=w3) (by (repeat' with_reducible first | assumption | exact bR | apply bD | apply bA | apply bC | apply bW | omega | simp <;> omega)) hb4;clear ho9 hu9;obtain ⟨v7,f7,rfl,hS7⟩:=(SN.out.next (by (repeat' with_reducible first | assumption | exact bR | apply bD | apply bA | apply bC | apply bW | omega | simp <;> omega))).gotInts hm;obtain ⟨A7',c7',rfl,_⟩:=(hS7.list (.head _)).form;have SF:=Lib.hid hS7;clear hS7 hm))
 refine hK.out _ _ ?_ (fun hHeld=>?_)
 ·(first | (refine HCC.out _ ?_;(repeat' with_reducible first | assumption | exact bR | apply bD | apply bA | apply bC | apply bW | omega | simp <;> omega);done) | go_keep)
 clear hK K
 (try simp only [aP,aZ,aS,aG,aH,aI])
 refine onu 4 rfl (by kernel_rfl) fun K hK=>?_
 go_simp
 ((go_at_call 46;refine (sameInts_any _ _ M M _ (OInts.read ((SN.out.next (by (repeat' with_reducible first | assumption | exact bR | apply bD | apply bA | apply bC | apply bW | omega | simp <;> omega))).list (.head _)) (by omega)) (OInts.read ((SF.out.next (by (repeat' with_reducible first | assumption | exact bR | apply bD | apply bA | apply bC | apply bW | omega | simp <;> omega))).list (.head _)) (by omega))).mono ?_;rintro e w5 ⟨rfl,hb5⟩;rw [show decide (M=M)=true from decide_eq_true rfl];have hn5:=bstep (a:=w3) (by (repeat' with_reducible first | assumption | exact bR | apply bD | apply bA | apply bC | apply bW | omega | simp <;> omega)) hb5))
 refine hK.out _ _ ?_ (fun hHeld=>?_)
 ·(first | (refine HCC.out _ ?_;(repeat' with_reducible first | assumption | exact bR | apply bD | apply bA | apply bC | apply bW | omega | simp <;> omega);done) | go_keep)
 clear hK K
 (try simp only [aP,aZ,aS,aG,aH,aI])
 refine tku (b:=?_) [5,6,7,8,9,10,11,12] (by kernel_rfl) hHeld ?_ ?_
 rotate_left
 ·repeat first
  |exact .nil
  |refine .yes (v:=?_) rfl (by rfl) ?_ ?_
   rotate_left
   ·intro w9 hSw;(try dsimp only at hSw);go_simp;(try with_reducible rfl)
   (try simp only [aP,aZ,aS,aG,aH,aI])
 refine onu 13 rfl (by kernel_rfl) fun K hK=>?_
 go_simp
 ((go_at_call 62;refine (iFeasible_any _ _ r x _ (HR.out.next (SN.out.next (by (repeat' with_reducible first | assumption | exact bR | apply bD | apply bA | apply bC | apply bW | omega | simp <;> omega))).low) (HX.out.next (SN.out.next (by (repeat' with_reducible first | assumption | exact bR | apply bD | apply bA | apply bC | apply bW | omega | simp <;> omega))).low) hL).mono ?_;rintro e w8 ⟨rfl,hb8⟩;rw [HQ.out];have hn8:=bstep (a:=w3) (by (repeat' with_reducible first | assumption | exact bR | apply bD | apply bA | apply bC | apply bW | omega | simp <;> omega)) hb8))
 refine hK.out _ _ ?_ (fun hHeld=>?_)
 ·(first | (refine HCC.out _ ?_;(repeat' with_reducible first | assumption | exact bR | apply bD | apply bA | apply bC | apply bW | omega | simp <;> omega);done) | go_keep)
 clear hK K
 (try simp only [aP,aZ,aS,aG,aH,aI])
 refine tku (b:=?_) [14,15,16,17,18,20,21] (by kernel_rfl) hHeld ?_ ?_
 rotate_left
 ·repeat first
  |exact .nil
  |refine .yes (v:=?_) rfl (by rfl) ?_ ?_
   rotate_left
   ·intro w9 hSw;(try dsimp only at hSw);go_simp;(try with_reducible rfl)
   (try simp only [aP,aZ,aS,aG,aH,aI])
 refine onu 19 rfl (by kernel_rfl) fun K hK=>?_
 go_simp
 ((go_at_call 62;refine (iFeasible_any _ _ r x _ (HR.out.next (SN.out.next (by (repeat' with_reducible first | assumption | exact bR | apply bD | apply bA | apply bC | apply bW | omega | simp <;> omega))).low) (HX.out.next (SN.out.next (by (repeat' with_reducible first | assumption | exact bR | apply bD | apply bA | apply bC | apply bW | omega | simp <;> omega))).low) hL).mono ?_;rintro e w6 ⟨rfl,hb6⟩;rw [HQ.out];have hn6:=bstep (a:=w3) (by (repeat' with_reducible first | assumption | exact bR | apply bD | apply bA | apply bC | apply bW | omega | simp <;> omega)) hb6))
 refine hK.out _ _ ?_ (fun hHeld=>?_)
 ·(first | (refine HCC.out _ ?_;(repeat' with_reducible first | assumption | exact bR | apply bD | apply bA | apply bC | apply bW | omega | simp <;> omega);done) | go_keep)
 clear hK K
 (try simp only [aP,aZ,aS,aG,aH,aI])
 refine onu 22 rfl (by kernel_rfl) fun K hK=>?_
 go_simp
 ((go_at_call 51;refine (sFeasible_any _ _ r x _ (HR.out.next (SN.out.next (by (repeat' with_reducible first | assumption | exact bR | apply bD | apply bA | apply bC | apply bW | omega | simp <;> omega))).low) (HX.out.next (SN.out.next (by (repeat' with_reducible first | assumption | exact bR | apply bD | apply bA | apply bC | apply bW | omega | simp <;> omega))).low) hL).mono ?_;rintro e w7 ⟨rfl,hb7⟩;rw [HQ.out];have hn7:=bstep (a:=w3) (by (repeat' with_reducible first | assumption | exact bR | apply bD | apply bA | apply bC | apply bW | omega | simp <;> omega)) hb7))
 refine hK.out _ _ ?_ (fun hHeld=>?_)
 ·(first | (refine HCC.out _ ?_;(repeat' with_reducible first | assumption | exact bR | apply bD | apply bA | apply bC | apply bW | omega | simp <;> omega);done) | go_keep)
 clear hK K
 (try simp only [aP,aZ,aS,aG,aH,aI])
 refine tku (b:=?_) [23] (by kernel_rfl) hHeld ?_ ?_
 rotate_left
 ·repeat first
  |exact .nil
  |refine .yes (v:=?_) rfl (by rfl) ?_ ?_
   rotate_left
   ·intro w9 hSw;(try dsimp only at hSw);go_simp;(try with_reducible rfl)
   (try simp only [aP,aZ,aS,aG,aH,aI])
 refine lsu 24 rfl (by kernel_rfl) fun K hK=>?_
 go_simp
 refine hK.out _ _ ?_
 clear hK K
 (try simp only [aP,aZ,aS,aG,aH,aI])
 skip
 all_goals
  have SN:=Lib.hid (SN.out.next hn7)
  clear SF hmd hmi hmn hmdn hqq HCC
  obtain ⟨⟨k0,k1,k2,k3,k4,k5,k6,k7,k8,k9⟩,p0,p1⟩:=K3.out _ SN.out.low
  go_wp2_with fail
  refine (iUnits_any _ r _ (HR.out.next SN.out.low)).mono ?_
  intro e2 w9 hm
  obtain ⟨v8,f8,rfl,hS⟩:=SN.out.gotInts hm
  obtain ⟨A9,c9,rfl,_⟩:=(hS.list (.head _)).form
  have SN:=Lib.hid hS.rot2
  clear hS hm
  clear k0 k1 k2 k3 k4 k5 k6 k7 k8 k9 p0 p1
  obtain ⟨n,hn⟩:∃ n,(unitsC r).length=n:=⟨_,rfl⟩
  have HN:=Lib.hid hn
  rw [hn] at SN hml hul ⊢
  clear hn
  go_wp2
  go_loopw [7] (fun i wr=>∃ j:Nat,j≤n∧i=.int .i64 j∧Hid (Sit W2 wr [fOF cI 3 1 W2.heap.size (.slice A6 M.length c6) M f6,fOF cI 3 1 W2.heap.size (.slice A9 n c9) (unitsC r) f8])) (fun i _=>n - (intOf i).toNat)
  case atStart=>exact ⟨0,Nat.zero_le _,rfl,SN⟩
  case round =>
   clear SN
   obtain ⟨j,hj,rfl,SN⟩:=hrel
   by_cases hlt:j < n
   ·obtain ⟨cn,hcn⟩:∃ c,M.count (j:Int)=c:=⟨_,rfl⟩
    obtain ⟨cw,hcw⟩:∃ c,cwith x.cartons (j:Int)=c:=⟨_,rfl⟩
    have HCN:=Lib.hid hcn
    have HCW:=Lib.hid hcw
    have hlc:=lost_count (r:=r) (x:=x) (u:=(j:Int)) ⟨by omega,by rw [HN.out];omega⟩
    rw [HM.out,hcn,hcw] at hlc
    have HCC:=Lib.hid (show ∀ X:World,Below wr.heap.size wr X→(cS10 (X) (b3) (r) (.slice A1 r.pairs.length c1) (.slice A2 r.types.length c2) (.slice A3 r.items.length c3))∧X.cell? ⟨b3 + 1,0,none⟩=some (.slice A7 zs2.length c7)∧X.cell? ⟨b3 + 1,1,none⟩=some (.slice A8 x.spots.length c8) from fun X hX=>K3.out X (SN.out.next hX).low)
    have hd:(cn=1∧cw < 0) ∨ (cn ≠ 1∧¬ cw < 0):=by
     by_cases h1:cn=1
     ·rw [decide_eq_true h1] at hlc
      exact .inl ⟨h1,of_decide_eq_true hlc.symm⟩
     ·rw [decide_eq_false h1] at hlc
      exact .inr ⟨h1,of_decide_eq_false hlc.symm⟩
    clear hcn hcw hlc
    rcases hd with ⟨rfl,hcl⟩ | ⟨hc1,hcl⟩
    ·have hcd:decide (cw < 0)=true:=decide_eq_true hcl
     go_wp2_with fail
     refine regu (S:=(fun X=>(cS10 (X) (b3) (r) (.slice A1 r.pairs.length c1) (.slice A2 r.types.length c2) (.slice A3 r.items.length c3))∧X.cell? ⟨b3 + 1,0,none⟩=some (.slice A7 zs2.length c7)∧X.cell? ⟨b3 + 1,1,none⟩=some (.slice A8 x.spots.length c8))) (by kernel_rfl) (fun _ _ _ _ _=>id) ?_ fun hHeld=>?_
     ·(first | (refine HCC.out _ ?_;(repeat' with_reducible first | assumption | exact bR | apply bD | apply bA | apply bC | apply bW | omega | simp <;> omega);done) | go_keep)
     refine tku (b:=?_) [0,1,4,5] (by kernel_rfl) hHeld ?_ ?_
     rotate_left
     ·repeat first
      |exact .nil
      |refine .yes (v:=?_) rfl (by rfl) ?_ ?_
       rotate_left
       ·intro w9 hSw;(try dsimp only at hSw);go_simp;(try with_reducible rfl)
       (try simp only [aP,aZ,aS,aG,aH,aI])
     refine onu 2 rfl (by kernel_rfl) fun K hK=>?_
     go_simp
     ((go_at_call 64;refine (times_any _ M (j:Int) _ (OInts.read ((SN.out.next (by (repeat' with_reducible first | assumption | exact bR | apply bD | apply bA | apply bC | apply bW | omega | simp <;> omega))).list (.head _)) (by omega))).mono ?_;rintro e w10 ⟨rfl,rfl⟩;rw [HCN.out]))
     refine hK.out _ _ ?_ (fun hHeld=>?_)
     ·(first | (refine HCC.out _ ?_;(repeat' with_reducible first | assumption | exact bR | apply bD | apply bA | apply bC | apply bW | omega | simp <;> omega);done) | go_keep)
     clear hK K
     (try simp only [aP,aZ,aS,aG,aH,aI])
     refine tku (b:=?_) [3] (by kernel_rfl) hHeld ?_ ?_
     rotate_left
     ·repeat first
      |exact .nil
      |refine .yes (v:=?_) rfl (by rfl) ?_ ?_
       rotate_left
       ·intro w9 hSw;(try dsimp only at hSw);go_simp;(try with_reducible rfl)
       (try simp only [aP,aZ,aS,aG,aH,aI])
     refine onu 6 rfl (by kernel_rfl) fun K hK=>?_
     go_simp
     ((go_at_call 49;refine (iCartonWith_any _ x (j:Int) _ (HX.out.next (SN.out.next (by (repeat' with_reducible first | assumption | exact bR | apply bD | apply bA | apply bC | apply bW | omega | simp <;> omega))).low)).mono ?_;rintro e w11 ⟨rfl,hb11⟩;rw [HCW.out];have hn11:=bstep (a:=wr) (by (repeat' with_reducible first | assumption | exact bR | apply bD | apply bA | apply bC | apply bW | omega | simp <;> omega)) hb11))
     refine hK.out _ _ ?_ (fun hHeld=>?_)
     ·(first | (refine HCC.out _ ?_;(repeat' with_reducible first | assumption | exact bR | apply bD | apply bA | apply bC | apply bW | omega | simp <;> omega);done) | go_keep)
     clear hK K
     (try simp only [aP,aZ,aS,aG,aH,aI])
     refine tku (b:=?_) [7] (by kernel_rfl) hHeld ?_ ?_
     rotate_left
     ·repeat first
      |exact .nil
      |refine .yes (v:=?_) rfl (by rfl) ?_ ?_
       rotate_left
       ·intro w9 hSw;(try dsimp only at hSw);go_simp;(try with_reducible rfl)
       (try simp only [aP,aZ,aS,aG,aH,aI])
     refine lsu 8 rfl (by kernel_rfl) fun K hK=>?_
     go_simp
     refine hK.out _ _ ?_
     clear hK K
     (try simp only [aP,aZ,aS,aG,aH,aI])
     go_wp2
     go_roundw
     case rel=>exact ⟨j + 1,hlt,by go_num,Lib.hid (SN.out.next (by (repeat' with_reducible first | assumption | exact bR | apply bD | apply bA | apply bC | apply bW | omega | simp <;> omega)))⟩
     case measure=>simp [intOf] <;> omega
    ·have hcd:decide (cw < 0)=false:=decide_eq_false hcl
     have e1:((cn:Int) == 1)=false:=beq_eq_false_iff_ne.2 (by omega)
     have e2:(cn == 1)=false:=beq_eq_false_iff_ne.2 hc1
     have e3:decide (cn=1)=false:=decide_eq_false hc1
     go_wp2_with fail
     refine regu (S:=(fun X=>(cS10 (X) (b3) (r) (.slice A1 r.pairs.length c1) (.slice A2 r.types.length c2) (.slice A3 r.items.length c3))∧X.cell? ⟨b3 + 1,0,none⟩=some (.slice A7 zs2.length c7)∧X.cell? ⟨b3 + 1,1,none⟩=some (.slice A8 x.spots.length c8))) (by kernel_rfl) (fun _ _ _ _ _=>id) ?_ fun hHeld=>?_
     ·(first | (refine HCC.out _ ?_;(repeat' with_reducible first | assumption | exact bR | apply bD | apply bA | apply bC | apply bW | omega | simp <;> omega);done) | go_keep)
     refine tku (b:=?_) [0,1,4,5] (by kernel_rfl) hHeld ?_ ?_
     rotate_left
     ·repeat first
      |exact .nil
      |refine .yes (v:=?_) rfl (by rfl) ?_ ?_
       rotate_left
       ·intro w9 hSw;(try dsimp only at hSw);go_simp;(try with_reducible rfl)
       (try simp only [aP,aZ,aS,aG,aH,aI])
     refine onu 2 rfl (by kernel_rfl) fun K hK=>?_
     go_simp
     ((go_at_call 64;refine (times_any _ M (j:Int) _ (OInts.read ((SN.out.next (by (repeat' with_reducible first | assumption | exact bR | apply bD | apply bA | apply bC | apply bW | omega | simp <;> omega))).list (.head _)) (by omega))).mono ?_;rintro e w10 ⟨rfl,rfl⟩;rw [HCN.out]))
     refine hK.out _ _ ?_ (fun hHeld=>?_)
     ·(first | (refine HCC.out _ ?_;(repeat' with_reducible first | assumption | exact bR | apply bD | apply bA | apply bC | apply bW | omega | simp <;> omega);done) | go_keep)
     clear hK K
     (try simp only [aP,aZ,aS,aG,aH,aI])
     refine tku (b:=?_) [3] (by kernel_rfl) hHeld ?_ ?_
     rotate_left
     ·repeat first
      |exact .nil
      |refine .yes (v:=?_) rfl (by rfl) ?_ ?_
       rotate_left
       ·intro w9 hSw;(try dsimp only at hSw);go_simp;(try with_reducible rfl)
       (try simp only [aP,aZ,aS,aG,aH,aI])
     refine onu 6 rfl (by kernel_rfl) fun K hK=>?_
     go_simp
     ((go_at_call 49;refine (iCartonWith_any _ x (j:Int) _ (HX.out.next (SN.out.next (by (repeat' with_reducible first | assumption | exact bR | apply bD | apply bA | apply bC | apply bW | omega | simp <;> omega))).low)).mono ?_;rintro e w11 ⟨rfl,hb11⟩;rw [HCW.out];have hn11:=bstep (a:=wr) (by (repeat' with_reducible first | assumption | exact bR | apply bD | apply bA | apply bC | apply bW | omega | simp <;> omega)) hb11))
     refine hK.out _ _ ?_ (fun hHeld=>?_)
     ·(first | (refine HCC.out _ ?_;(repeat' with_reducible first | assumption | exact bR | apply bD | apply bA | apply bC | apply bW | omega | simp <;> omega);done) | go_keep)
     clear hK K
     (try simp only [aP,aZ,aS,aG,aH,aI])
     refine tku (b:=?_) [7] (by kernel_rfl) hHeld ?_ ?_
     rotate_left
     ·repeat first
      |exact .nil
      |refine .yes (v:=?_) rfl (by rfl) ?_ ?_
       rotate_left
       ·intro w9 hSw;(try dsimp only at hSw);go_simp;(try with_reducible rfl)
       (try simp only [aP,aZ,aS,aG,aH,aI])
     refine lsu 8 rfl (by kernel_rfl) fun K hK=>?_
     go_simp
     refine hK.out _ _ ?_
     clear hK K
     (try simp only [aP,aZ,aS,aG,aH,aI])
     go_wp2
     go_roundw
     case rel=>exact ⟨j + 1,hlt,by go_num,Lib.hid (SN.out.next (by (repeat' with_reducible first | assumption | exact bR | apply bD | apply bA | apply bC | apply bW | omega | simp <;> omega)))⟩
     case measure=>simp [intOf] <;> omega
   ·obtain rfl:j=n:=by omega
    have hle:decide ((M.length:Int)≤(j:Int))=true:=decide_eq_true (by omega)
    have hli:(M.length:Int)≤(j:Int):=by omega
    go_wp2
    go_ret
    exact ⟨rfl,bstep HLW.out SN.out.low⟩
set_option maxRecDepth 100000 in
theorem FnLostFound_lifted (os:Os) (started:os.Started) (H:Type) (enc:TypeId×Value→H) :
  ReturnsInHanded {} Tryz.checked os 12 .any (Rows.fnLostFoundSpec.pre6 enc Tryz.prog Tryz.f12 Rows.fnLostFoundRow.domain false) (Rows.fnLostFoundSpec.post enc Tryz.prog Tryz.f12 false true false false):=by
 refine returnsInHanded_of_change (C:=Tryz.checked) own_ started (by kernel_rfl) Tryz.func12
  (ChangeSpec.witness6 (enc:=enc) (C:=Tryz.checked) false ⟨#[],#[.slice none 0 0],[]⟩ 8 (by kernel_rfl) (by kernel_rfl) (by kernel_rfl) (by kernel_rfl)) ?_
 intro W base args ds gs before hval0 hW hcnd _
 have hval:∀ (j:Nat) t v,Tryz.f12.params[j]? = some t→args[j]? = some v→Value.okWide Tryz.prog W .any base t v:=hval0
 have hW':=hW
 obtain ⟨p,q,hA0,hV,rfl,hfz,hnd⟩:=hW
 have hA:DataW.TrodAll enc Tryz.prog W 0 (fun _=>true) true Tryz.f12.params.toList args.toList ds p:=hA0
 rw [Tryz.params12] at hA hval
 obtain ⟨v0,vs0,d0,ds0,p0,q0,hargs,rfl,rfl,h0,r0⟩:=trodAll_cons hA
 obtain ⟨rfl,rfl,rfl⟩:=trodAll_nil r0
 obtain rfl:args = #[v0]:=by cases args;simp_all
 obtain ⟨rfl,rfl⟩:=trodVars_none hV
 clear hA0 hval0 hA
 simp only [List.append_nil] at hW'
 have hlt:∀ x∈p0,x.block < W.heap.size:=fun x hx=>hW'.lt x (by simpa using hx)
 have k0:=h0
 have w0:=read_Bytes (hval 0 63 v0 rfl rfl) h0 (fun x hx=>hlt x (by simp [hx]))
 refine (FnLostFound_walk v0 W w0).mono fun e W' ⟨he,hb⟩=>?_
 subst he
 exact ⟨_,rfl,post_of_below (pa:=p0 ++ []) (pv:=[]) hW' (fun _ _ _=>(trodAll_cons_mk (shut_bool Tryz.underlying4 _) trodAll_mk0)) (fun sp hsp=>(trodAll_cons_mk (stays laidOut_ (by kernel_rfl) (of_decide_eq_true (by kernel_rfl)) k0 hb (fun x hx=>hlt x (by simp [hx])) (fun x hx=>hsp x (by simp [hx]))) trodAll_mk0)) (fun _ _=>rfl) (by simp) hb
  (ok_one (by kernel_rfl) rfl (okWide_bool_mk Tryz.underlying4 _))⟩
theorem FnLostFound_inPlace:(Rows.fnLostFoundRow.inPlace == Tryz.prog.inPlace 12)=true:=by kernel_rfl
theorem FnLostFound_unfollowed:(Rows.fnLostFoundRow.unfollowed == Tryz.prog.unfollowed 12)=true:=by kernel_rfl
theorem FnLostFound_recurses:(Rows.fnLostFoundRow.recurses == Tryz.prog.recurses 12)=true:=by kernel_rfl
theorem FnLostFound_named:(Rows.fnLostFoundRow.named == Tryz.prog.varsNamed 12)=true:=by kernel_rfl
theorem FnLostFound_closed:joinedFacts Tryz.prog 12 Tryz.f12 Rows.fnLostFoundSpec Rows.fnLostFoundRow=true:=by
 unfold joinedFacts
 rw [laidOut_,fx_maps,fx_stops,fx_stopKnobs,fx_plain,fx_heard,fx_may,fx_lift,FnLostFound_inPlace,FnLostFound_unfollowed,FnLostFound_recurses,FnLostFound_named]
 kernel_rfl
theorem FnLostFound_over:Rows.fnLostFoundRow.holds Tryz.pinned (OpenSpec.ofChange Rows.fnLostFoundSpec) :=
 OpenClaim.holds_of_wide 12 Tryz.f12 rfl rfl rfl rfl rfl rfl rfl ⟨rfl,rfl,rfl,rfl,rfl⟩ rfl rfl rfl rfl rfl (by kernel_rfl) Tryz.func12 FnLostFound_closed
  (of_decide_eq_true (by kernel_rfl)) (by unfold Func.isWrapper;first | (rw [if_pos (by decide +kernel)];kernel_rfl) | (rw [if_neg (by decide +kernel)];exact ⟨rfl,rfl⟩))
  (fun os started H enc _=>FnLostFound_lifted os started H enc)
theorem FnLostFound_proved:Rows.FnLostFoundSaid:=FnLostFound_over
end Go.Proofs.YtioijfplbgpjpaaGreat
