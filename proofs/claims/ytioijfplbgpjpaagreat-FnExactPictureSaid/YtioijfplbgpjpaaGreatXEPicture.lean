/-
  The law FnExactPicture: whatever the order and the plan, the program's Picture answers what the reference's answers, and leaves order and plan alone.
-/
import Derived.Test.YtioijfplbgpjpaaGreatKp00
import Derived.Deep.Light
import Derived.Deep.DeepCutAuto
import Derived.Deep.RegionHeld3
namespace Go.Proofs.YtioijfplbgpjpaaGreat
set_option linter.unusedVariables false
set_option linter.unusedSimpArgs false
set_option maxRecDepth 100000
open Go.RowKit Go.WideShapes Go.ChangeShapes Go.ChangeAt Go.Deep
open Go.ChangeMaps (open_string shut_string)
set_option maxRecDepth 100000 in
set_option maxHeartbeats 4000000 in
theorem FnExactPicture_walk (v0 v1:Value) (k z:Int) (w:World) (h0:∃ p,RReq 9223372036854775807 w w.heap.size v0 p) (h1:∃ x,RPlan 9223372036854775807 w w.heap.size v1 x) (_h2:(Lit.int .i64 k).wf=true) (_h3:(Lit.int .i64 z).wf=true) :
  Calls Tryz.prog 7 #[v0,v1,.int .i64 k,.int .i64 z] w fun e w'=>e=.returned (.bool true)∧Below w.heap.size w w':=by
 obtain ⟨p,h0⟩:=h0
 obtain ⟨x,h1⟩:=h1
 obtain ⟨A1,c1,A2,c2,A3,c3,rfl,_⟩:=h0.opn
 have H0:=Lib.hid h0
 have H1:=Lib.hid h1
 obtain ⟨va,vb,rfl,ha,hb⟩:=id h1
 obtain ⟨PA,ca,rfl,_⟩:=ha
 obtain ⟨PB,cb,rfl,_⟩:=hb
 have hS:=((Sit.here w).alloc (cR p A1 c1 A2 c2 A3 c3) 28).alloc #[.slice PA x.cartons.length ca,.slice PB x.spots.length cb] 32
 simp only [World.size_alloc] at hS
 have SN:=Lib.hid hS
 have hz:=szRequest_any _ p 1048576 _ (H0.out.next hS.low) (by omega) (by omega)
 obtain ⟨t0,ht⟩:∃ t,szR 1048576 (p.bulk:Nat)=t:=⟨_,rfl⟩
 rw [ht] at hz
 have HT0:=Lib.hid ht
 have HZ:=Lib.hid hz
 clear h0 h1 hS hz ht
 go_enter Tryz.func7,Tryz.ntmps7
 have k0:=SN.out.box (.tail _ (.head _));have l0:=SN.out.boxlt (.tail _ (.head _));have k1:=SN.out.box (.head _);have l1:=SN.out.boxlt (.head _)
 go_wp2_with fail
 refine HZ.out.mono ?_
 rintro e w1 ⟨rfl,hb⟩
 have SN:=Lib.hid (SN.out.next hb)
 clear HZ hb k0 l0 k1 l1
 by_cases hneg:t0 < 0
 ·go_wp2
  go_ret
  exact ⟨rfl,SN.out.low⟩
 have h0':0≤szR 1048576 (p.bulk:Nat):=by rw [HT0.out];omega
 have hle0:=szR_ok h0'
 have heq0:=szR_eq h0'
 have hL0:p.bulk≤1048576:=by omega
 rw [HT0.out] at heq0
 have ht0:0≤t0∧t0≤1048576:=by omega
 have H0:=Lib.hid (H0.out.wide (bd':=16777216) (by omega))
 obtain ⟨t1,ht⟩:∃ t,szR t0 (x.bulk:Nat)=t:=⟨_,rfl⟩
 have HT1:=Lib.hid ht
 clear ht h0' hle0 heq0 HT0
 have k0:=SN.out.box (.tail _ (.head _));have l0:=SN.out.boxlt (.tail _ (.head _));have k1:=SN.out.box (.head _);have l1:=SN.out.boxlt (.head _)
 go_wp2_with fail
 refine (szPlan_any _ x t0 _ (H1.out.next SN.out.low) ht0.1 ht0.2).mono ?_
 rintro e w2 ⟨rfl,hb⟩
 rw [HT1.out]
 have SN:=Lib.hid (SN.out.next hb)
 clear hb k0 l0 k1 l1
 by_cases hneg1:t1 < 0
 ·go_wp2
  go_ret
  exact ⟨rfl,SN.out.low⟩
 have hle1:=szR_ok (show 0≤szR t0 (x.bulk:Nat) by rw [HT1.out];omega)
 have hL1:x.bulk≤1048576:=by omega
 have H1:=Lib.hid (H1.out.wide (bd':=16777216) (by omega))
 clear hle1 HT1
 obtain ⟨L,hL⟩:∃ L,pictureR p x k z=L:=⟨_,rfl⟩
 have HT:=Lib.hid hL
 have hLL:L.length≤1048576:=by rw [← hL];exact Nat.le_trans (picture_len p x k z) (by omega)
 clear hL
 have HCC:=Lib.hid (show ∀ X:World,Below w2.heap.size w2 X→(cS10 (X) (w.heap.size) (p) (.slice A1 p.pairs.length c1) (.slice A2 p.types.length c2) (.slice A3 p.items.length c3))∧X.cell? ⟨w.heap.size + 1,0,none⟩=some (.slice PA x.cartons.length ca)∧X.cell? ⟨w.heap.size + 1,1,none⟩=some (.slice PB x.spots.length cb) from fun X hX=>by
  have hX:=SN.out.next hX
  have c0:=hX.box (g:=w.heap.size) (cs:=(cR p A1 c1 A2 c2 A3 c3)) (t:=28) mq
  have c1:=hX.box (g:=w.heap.size + 1) (cs:=#[.slice PA x.cartons.length ca,.slice PB x.spots.length cb]) (t:=32) mq
  exact ⟨⟨c0 0,c0 1,c0 2,c0 3,c0 4,c0 5,c0 6,c0 7,c0 8,c0 9⟩,c1 0,c1 1⟩)
 have k0:=SN.out.box (g:=w.heap.size) (cs:=(cR p A1 c1 A2 c2 A3 c3)) (t:=28) mq
 have l0:=SN.out.boxlt (g:=w.heap.size) (cs:=(cR p A1 c1 A2 c2 A3 c3)) (t:=28) mq
 have k1:=SN.out.box (g:=w.heap.size + 1) (cs:=#[.slice PA x.cartons.length ca,.slice PB x.spots.length cb]) (t:=32) mq
 have l1:=SN.out.boxlt (g:=w.heap.size + 1) (cs:=#[.slice PA x.cartons.length ca,.slice PB x.spots.length cb]) (t:=32) mq
 go_upto_region 8 with fail
 clear k0 l0 k1 l1
 go_cut [10] (fun v8 X=>∃ D d f,v8=.slice D L.length d∧Hid (Sit w X (fOF cS 9 1 w.heap.size (.slice D L.length d) L f::[fBox (w.heap.size + 1) #[.slice PA x.cartons.length ca,.slice PB x.spots.length cb] 32,fBox w.heap.size (cR p A1 c1 A2 c2 A3 c3) 28])))
 case first =>
  refine regu (S:=(fun W'=>(cS10 (W') (w.heap.size) (p) (.slice A1 p.pairs.length c1) (.slice A2 p.types.length c2) (.slice A3 p.items.length c3))∧W'.cell? ⟨w.heap.size + 1,0,none⟩=some (.slice PA x.cartons.length ca)∧W'.cell? ⟨w.heap.size + 1,1,none⟩=some (.slice PB x.spots.length cb))) (by kernel_rfl) (fun _ _ _ _ _=>id) ?_ fun hHeld=>?_
  ·(first | (refine HCC.out _ ?_;(repeat' with_reducible first | assumption | exact bR | apply bD | apply bA | apply bC | apply bW | omega | simp <;> omega);done) | go_keep)
  refine tku (b:=?_) [0,2,4,5] (by kernel_rfl) hHeld ?_ ?_
  rotate_left
  ·repeat first
   |exact .nil
   |refine .yes (v:=?_) rfl (by rfl) ?_ ?_
    rotate_left
    ·intro w9 hSw;(try dsimp only at hSw);go_simp;(try with_reducible rfl)
    (try simp only [aP,aZ,aS,aG,aH,aI])
  refine onu 1 rfl (by kernel_rfl) fun K hK=>?_
  go_simp
  ((go_at_call 22;refine (toRequest_any _ p _ (H0.out.next (SN.out.next (by (repeat' with_reducible first | assumption | exact bR | apply bD | apply bA | apply bC | apply bW | omega | simp <;> omega))).low)).mono ?_;rintro e w13 ⟨u3,f3,rfl,ho3,hb3⟩;have hn3:=bstep (a:=w2) (by (repeat' with_reducible first | assumption | exact bR | apply bD | apply bA | apply bC | apply bW | omega | simp <;> omega)) hb3;have hr3:=ho3.read (by omega);clear ho3))
  refine hK.out _ _ ?_ (fun hHeld=>?_)
  ·(first | (refine HCC.out _ ?_;(repeat' with_reducible first | assumption | exact bR | apply bD | apply bA | apply bC | apply bW | omega | simp <;> omega);done) | go_keep)
  clear hK K
  (try simp only [aP,aZ,aS,aG,aH,aI])
  refine onu 3 rfl (by kernel_rfl) fun K hK=>?_
  go_simp
  ((go_at_call 23;refine (toPlan_any _ x _ (H1.out.next (SN.out.next (by (repeat' with_reducible first | assumption | exact bR | apply bD | apply bA | apply bC | apply bW | omega | simp <;> omega))).low)).mono ?_;rintro e w14 ⟨u4,f4,rfl,ho4,hb4⟩;have hn4:=bstep (a:=w2) (by (repeat' with_reducible first | assumption | exact bR | apply bD | apply bA | apply bC | apply bW | omega | simp <;> omega)) hb4;have hr4:=OPlan.read ho4 (by omega);clear ho4))
  refine hK.out _ _ ?_ (fun hHeld=>?_)
  ·(first | (refine HCC.out _ ?_;(repeat' with_reducible first | assumption | exact bR | apply bD | apply bA | apply bC | apply bW | omega | simp <;> omega);done) | go_keep)
  clear hK K
  (try simp only [aP,aZ,aS,aG,aH,aI])
  refine onu 6 rfl (by kernel_rfl) fun K hK=>?_
  go_simp
  ((go_at_call 38;refine (sPicture_any _ _ p x k z _ (hr3.next (by (repeat' with_reducible first | assumption | exact bR | apply bD | apply bA | apply bC | apply bW | omega | simp <;> omega))) (hr4.next (by (repeat' with_reducible first | assumption | exact bR | apply bD | apply bA | apply bC | apply bW | omega | simp <;> omega))) (by omega)).mono ?_;intro e w15 hm;rw [HT.out] at hm;obtain ⟨u9,f9,hu9,ho9,hb5⟩:=id hm;have hn5:=bstep (a:=w2) (by (repeat' with_reducible first | assumption | exact bR | apply bD | apply bA | apply bC | apply bW | omega | simp <;> omega)) hb5;clear ho9 hu9;obtain ⟨u5,f5,rfl,hS5⟩:=(SN.out.next (by (repeat' with_reducible first | assumption | exact bR | apply bD | apply bA | apply bC | apply bW | omega | simp <;> omega))).gotOF hm;obtain ⟨D5,d5,rfl,_⟩:=(hS5.list (.head _)).form;have SF:=Lib.hid hS5;clear hS5 hm))
  refine hK.out _ _ ?_ (fun hHeld=>?_)
  ·(first | (refine HCC.out _ ?_;(repeat' with_reducible first | assumption | exact bR | apply bD | apply bA | apply bC | apply bW | omega | simp <;> omega);done) | go_keep)
  clear hK K
  (try simp only [aP,aZ,aS,aG,aH,aI])
  refine lsu 7 rfl (by kernel_rfl) fun K hK=>?_
  go_simp
  refine hK.out _ _ ?_
  clear hK K
  (try simp only [aP,aZ,aS,aG,aH,aI])
  go_wp2_with fail
  go_meet
  exact ⟨_,_,_,rfl,SF⟩
 case rest =>
 obtain ⟨DW,dW,fW,rfl,SN2⟩:=hcut
 have SN:=SN2
 clear SN2 HCC
 obtain ⟨wbW,rfl⟩:∃ y,y=wc:=⟨_,rfl⟩
 have k0:=SN.out.box (g:=w.heap.size) (cs:=(cR p A1 c1 A2 c2 A3 c3)) (t:=28) mq
 have l0:=SN.out.boxlt (g:=w.heap.size) (cs:=(cR p A1 c1 A2 c2 A3 c3)) (t:=28) mq
 have k1:=SN.out.box (g:=w.heap.size + 1) (cs:=#[.slice PA x.cartons.length ca,.slice PB x.spots.length cb]) (t:=32) mq
 have l1:=SN.out.boxlt (g:=w.heap.size + 1) (cs:=#[.slice PA x.cartons.length ca,.slice PB x.spots.length cb]) (t:=32) mq
 go_wp2_with fail
 refine (toRequest_any _ p _ (H0.out.next SN.out.low)).mono ?_
 rintro e w6 ⟨u,f6,rfl,ho,hb⟩
 obtain ⟨B1,d1,B2,d2,B3,d3,rfl⟩:=ho.form
 have SN:=Lib.hid ((SN.out.req hb ho).alloc (cR p B1 d1 B2 d2 B3 d3) 41)
 clear ho hb k0 l0 k1 l1
 have k0:=SN.out.box (g:=w.heap.size) (cs:=(cR p A1 c1 A2 c2 A3 c3)) (t:=28) mq
 have l0:=SN.out.boxlt (g:=w.heap.size) (cs:=(cR p A1 c1 A2 c2 A3 c3)) (t:=28) mq
 have k1:=SN.out.box (g:=w.heap.size + 1) (cs:=#[.slice PA x.cartons.length ca,.slice PB x.spots.length cb]) (t:=32) mq
 have l1:=SN.out.boxlt (g:=w.heap.size + 1) (cs:=#[.slice PA x.cartons.length ca,.slice PB x.spots.length cb]) (t:=32) mq
 go_wp2_with fail
 refine (toPlan_any _ x _ (H1.out.next SN.out.low)).mono ?_
 rintro e w7 ⟨u,f7,rfl,ho,hb⟩
 obtain ⟨QA,qa,QB,qb,rfl,_⟩:=(OPlan.read ho (by omega)).opn
 have hS:=(SN.out.gotPlan ho hb).alloc #[.slice QA x.cartons.length qa,.slice QB x.spots.length qb] 46
 simp only [World.size_alloc] at hS
 have SN:=Lib.hid hS
 clear ho hb k0 l0 k1 l1 hS
 have k9:=SN.out.box (g:=w6.heap.size) (cs:=(cR p B1 d1 B2 d2 B3 d3)) (t:=41) mq
 have l9:=SN.out.boxlt (g:=w6.heap.size) (cs:=(cR p B1 d1 B2 d2 B3 d3)) (t:=41) mq
 have k10:=SN.out.box (g:=w7.heap.size) (cs:=#[.slice QA x.cartons.length qa,.slice QB x.spots.length qb]) (t:=46) mq
 have l10:=SN.out.boxlt (g:=w7.heap.size) (cs:=#[.slice QA x.cartons.length qa,.slice QB x.spots.length qb]) (t:=46) mq
 go_wp2_with fail
 refine (iPicture_any _ _ p x k z _ ((SN.out.own (b:=wbW.heap.size) (v:=.agg (cR p B1 d1 B2 d2 B3 d3)) (r:=p) (fp:=f6) (by repeat first | with_reducible exact List.mem_cons_self | with_reducible exact .head _ | refine .tail _ ?_)).read (by omega)) (SN.out.op (b:=w6.heap.size + 1) (v:=.agg #[.slice QA x.cartons.length qa,.slice QB x.spots.length qb]) (p:=x) (fp:=f7) (by repeat first | with_reducible exact List.mem_cons_self | with_reducible exact .head _ | refine .tail _ ?_) (by omega)) (by omega)).mono ?_
 intro e w8 hm
 rw [HT.out] at hm
 obtain ⟨u8,fG,rfl,hS8⟩:=SN.out.gotOF hm
 obtain ⟨DG,dG,rfl,_⟩:=(hS8.list (.head _)).form
 have SN:=Lib.hid hS8
 clear hm hS8 k9 l9 k10 l10
 go_wp2_with fail
 refine (eqStringS_any _ _ L L _ (OF.read (bd:=16777216) (SN.out.list (f:=cS) (e:=9) (K:=1) (v:=.slice DG L.length dG) (xs:=L) (by repeat first | with_reducible exact List.mem_cons_self | with_reducible exact .head _ | refine .tail _ ?_)) (fun _=>rfl) (by omega)) (OF.read (bd:=16777216) (SN.out.list (f:=cS) (e:=9) (K:=1) (v:=.slice DW L.length dW) (xs:=L) (by repeat first | with_reducible exact List.mem_cons_self | with_reducible exact .head _ | refine .tail _ ?_)) (fun _=>rfl) (by omega))).mono ?_
 rintro e w9 ⟨rfl,hb⟩
 rw [show decide (L=L)=true by simp]
 have SN:=Lib.hid (SN.out.next hb)
 clear hb
 have HCC:=Lib.hid (show ∀ X:World,Below w9.heap.size w9 X→(cS10 (X) (w6.heap.size) (p) (.slice B1 p.pairs.length d1) (.slice B2 p.types.length d2) (.slice B3 p.items.length d3))∧(X.cell? ⟨w7.heap.size,0,none⟩=some (.slice QA x.cartons.length qa)∧X.cell? ⟨w7.heap.size,1,none⟩=some (.slice QB x.spots.length qb))∧(cS10 (X) (w.heap.size) (p) (.slice A1 p.pairs.length c1) (.slice A2 p.types.length c2) (.slice A3 p.items.length c3))∧X.cell? ⟨w.heap.size + 1,0,none⟩=some (.slice PA x.cartons.length ca)∧X.cell? ⟨w.heap.size + 1,1,none⟩=some (.slice PB x.spots.length cb) from fun X hX=>by
  have hX:=SN.out.next hX
  have c9:=hX.box (g:=w6.heap.size) (cs:=(cR p B1 d1 B2 d2 B3 d3)) (t:=41) mq
  have c10:=hX.box (g:=w7.heap.size) (cs:=#[.slice QA x.cartons.length qa,.slice QB x.spots.length qb]) (t:=46) mq
  have c0:=hX.box (g:=w.heap.size) (cs:=(cR p A1 c1 A2 c2 A3 c3)) (t:=28) mq
  have c1:=hX.box (g:=w.heap.size + 1) (cs:=#[.slice PA x.cartons.length ca,.slice PB x.spots.length cb]) (t:=32) mq
  exact ⟨⟨c9 0,c9 1,c9 2,c9 3,c9 4,c9 5,c9 6,c9 7,c9 8,c9 9⟩,⟨c10 0,c10 1⟩,⟨c0 0,c0 1,c0 2,c0 3,c0 4,c0 5,c0 6,c0 7,c0 8,c0 9⟩,c1 0,c1 1⟩)
 go_wp2
 refine regu (S:=(fun W'=>(cS10 (W') (w6.heap.size) (p) (.slice B1 p.pairs.length d1) (.slice B2 p.types.length d2) (.slice B3 p.items.length d3))∧(W'.cell? ⟨w7.heap.size,0,none⟩=some (.slice QA x.cartons.length qa)∧W'.cell? ⟨w7.heap.size,1,none⟩=some (.slice QB x.spots.length qb))∧(cS10 (W') (w.heap.size) (p) (.slice A1 p.pairs.length c1) (.slice A2 p.types.length c2) (.slice A3 p.items.length c3))∧W'.cell? ⟨w.heap.size + 1,0,none⟩=some (.slice PA x.cartons.length ca)∧W'.cell? ⟨w.heap.size + 1,1,none⟩=some (.slice PB x.spots.length cb))) (by kernel_rfl) (fun _ _ _ _ _=>id) ?_ fun hHeld=>?_
 ·(first | (refine HCC.out _ ?_;(repeat' with_reducible first | assumption | exact bR | apply bD | apply bA | apply bC | apply bW | omega | simp <;> omega);done) | go_keep)
 refine tku (b:=?_) [0,1] (by kernel_rfl) hHeld ?_ ?_
 rotate_left
 ·repeat first
  |exact .nil
  |refine .yes (v:=?_) rfl (by rfl) ?_ ?_
   rotate_left
   ·intro w9 hSw;(try dsimp only at hSw);go_simp;(try with_reducible rfl)
   (try simp only [aP,aZ,aS,aG,aH,aI])
 refine onu 2 rfl (by kernel_rfl) fun K hK=>?_
 go_simp
 ((go_at_call 22;refine (toRequest_any _ p _ (H0.out.next (SN.out.next (by (repeat' with_reducible first | assumption | exact bR | apply bD | apply bA | apply bC | apply bW | omega | simp <;> omega))).low)).mono ?_;rintro e w13 ⟨u3,f3,rfl,ho3,hb3⟩;have hn3:=bstep (a:=w9) (by (repeat' with_reducible first | assumption | exact bR | apply bD | apply bA | apply bC | apply bW | omega | simp <;> omega)) hb3;have hr3:=ho3.read (by omega);clear ho3))
 refine hK.out _ _ ?_ (fun hHeld=>?_)
 ·(first | (refine HCC.out _ ?_;(repeat' with_reducible first | assumption | exact bR | apply bD | apply bA | apply bC | apply bW | omega | simp <;> omega);done) | go_keep)
 clear hK K
 (try simp only [aP,aZ,aS,aG,aH,aI])
 refine onu 3 rfl (by kernel_rfl) fun K hK=>?_
 go_simp
 ((go_at_call 25;refine (eqRequest_any _ _ p p _ (((SN.out.next (by (repeat' with_reducible first | assumption | exact bR | apply bD | apply bA | apply bC | apply bW | omega | simp <;> omega))).own (b:=wbW.heap.size) (v:=.agg (cR p B1 d1 B2 d2 B3 d3)) (r:=p) (fp:=f6) (by repeat first | with_reducible exact List.mem_cons_self | with_reducible exact .head _ | refine .tail _ ?_)).read (by omega)) (hr3.next (by (repeat' with_reducible first | assumption | exact bR | apply bD | apply bA | apply bC | apply bW | omega | simp <;> omega)))).mono ?_;rintro e w14 ⟨rfl,hb4⟩;rw [show decide (p=p)=true by simp];have hn4:=bstep (a:=w9) (by (repeat' with_reducible first | assumption | exact bR | apply bD | apply bA | apply bC | apply bW | omega | simp <;> omega)) hb4))
 refine hK.out _ _ ?_ (fun hHeld=>?_)
 ·(first | (refine HCC.out _ ?_;(repeat' with_reducible first | assumption | exact bR | apply bD | apply bA | apply bC | apply bW | omega | simp <;> omega);done) | go_keep)
 clear hK K
 (try simp only [aP,aZ,aS,aG,aH,aI])
 refine lsu 4 rfl (by kernel_rfl) fun K hK=>?_
 go_simp
 refine hK.out _ _ ?_
 clear hK K
 (try simp only [aP,aZ,aS,aG,aH,aI])
 go_wp2_with fail
 refine regu (S:=(fun W'=>(cS10 (W') (w6.heap.size) (p) (.slice B1 p.pairs.length d1) (.slice B2 p.types.length d2) (.slice B3 p.items.length d3))∧(W'.cell? ⟨w7.heap.size,0,none⟩=some (.slice QA x.cartons.length qa)∧W'.cell? ⟨w7.heap.size,1,none⟩=some (.slice QB x.spots.length qb))∧(cS10 (W') (w.heap.size) (p) (.slice A1 p.pairs.length c1) (.slice A2 p.types.length c2) (.slice A3 p.items.length c3))∧W'.cell? ⟨w.heap.size + 1,0,none⟩=some (.slice PA x.cartons.length ca)∧W'.cell? ⟨w.heap.size + 1,1,none⟩=some (.slice PB x.spots.length cb))) (by kernel_rfl) (fun _ _ _ _ _=>id) ?_ fun hHeld=>?_
 ·(first | (refine HCC.out _ ?_;(repeat' with_reducible first | assumption | exact bR | apply bD | apply bA | apply bC | apply bW | omega | simp <;> omega);done) | go_keep)
 refine tku (b:=?_) [0,1] (by kernel_rfl) hHeld ?_ ?_
 rotate_left
 ·repeat first
  |exact .nil
  |refine .yes (v:=?_) rfl (by rfl) ?_ ?_
   rotate_left
   ·intro w9 hSw;(try dsimp only at hSw);go_simp;(try with_reducible rfl)
   (try simp only [aP,aZ,aS,aG,aH,aI])
 refine onu 2 rfl (by kernel_rfl) fun K hK=>?_
 go_simp
 ((go_at_call 23;refine (toPlan_any _ x _ (H1.out.next (SN.out.next (by (repeat' with_reducible first | assumption | exact bR | apply bD | apply bA | apply bC | apply bW | omega | simp <;> omega))).low)).mono ?_;rintro e w15 ⟨u5,f5,rfl,ho5,hb5⟩;have hn5:=bstep (a:=w9) (by (repeat' with_reducible first | assumption | exact bR | apply bD | apply bA | apply bC | apply bW | omega | simp <;> omega)) hb5;have hr5:=OPlan.read ho5 (by omega);clear ho5))
 refine hK.out _ _ ?_ (fun hHeld=>?_)
 ·(first | (refine HCC.out _ ?_;(repeat' with_reducible first | assumption | exact bR | apply bD | apply bA | apply bC | apply bW | omega | simp <;> omega);done) | go_keep)
 clear hK K
 (try simp only [aP,aZ,aS,aG,aH,aI])
 refine onu 3 rfl (by kernel_rfl) fun K hK=>?_
 go_simp
 ((go_at_call 26;refine (eqPlan_any _ _ x x _ ((SN.out.next (by (repeat' with_reducible first | assumption | exact bR | apply bD | apply bA | apply bC | apply bW | omega | simp <;> omega))).op (b:=w6.heap.size + 1) (v:=.agg #[.slice QA x.cartons.length qa,.slice QB x.spots.length qb]) (p:=x) (fp:=f7) (by repeat first | with_reducible exact List.mem_cons_self | with_reducible exact .head _ | refine .tail _ ?_) (by omega)) (hr5.next (by (repeat' with_reducible first | assumption | exact bR | apply bD | apply bA | apply bC | apply bW | omega | simp <;> omega)))).mono ?_;rintro e w16 ⟨rfl,hb6⟩;rw [show decide (x=x)=true by simp];have hn6:=bstep (a:=w9) (by (repeat' with_reducible first | assumption | exact bR | apply bD | apply bA | apply bC | apply bW | omega | simp <;> omega)) hb6))
 refine hK.out _ _ ?_ (fun hHeld=>?_)
 ·(first | (refine HCC.out _ ?_;(repeat' with_reducible first | assumption | exact bR | apply bD | apply bA | apply bC | apply bW | omega | simp <;> omega);done) | go_keep)
 clear hK K
 (try simp only [aP,aZ,aS,aG,aH,aI])
 refine lsu 4 rfl (by kernel_rfl) fun K hK=>?_
 go_simp
 refine hK.out _ _ ?_
 clear hK K
 (try simp only [aP,aZ,aS,aG,aH,aI])
 go_wp2_with fail
 have SN:=Lib.hid (SN.out.next hn6)
 clear HCC hn3 hn4 hn5 hn6 hb3 hb4 hb5 hb6 hr3 hr5
 have hcp:cntR p≤7340032:=by have:=cntR_le p;omega
 have hcx:cntP x≤4194304:=by have:=cntP_le x;omega
 have k9:=SN.out.box (g:=w6.heap.size) (cs:=(cR p B1 d1 B2 d2 B3 d3)) (t:=41) mq
 have l9:=SN.out.boxlt (g:=w6.heap.size) (cs:=(cR p B1 d1 B2 d2 B3 d3)) (t:=41) mq
 have k10:=SN.out.box (g:=w7.heap.size) (cs:=#[.slice QA x.cartons.length qa,.slice QB x.spots.length qb]) (t:=46) mq
 have l10:=SN.out.boxlt (g:=w7.heap.size) (cs:=#[.slice QA x.cartons.length qa,.slice QB x.spots.length qb]) (t:=46) mq
 go_wp2_with fail
 refine (markRequest_any _ p _ (1) _ _ (SN.out.own (b:=wbW.heap.size) (v:=.agg (cR p B1 d1 B2 d2 B3 d3)) (r:=p) (fp:=f6) (by repeat first | with_reducible exact List.mem_cons_self | with_reducible exact .head _ | refine .tail _ ?_)) (by omega) (by omega) (by omega)).mono ?_
 rintro e wM ⟨rfl,ho,ht⟩
 have SN:=Lib.hid (Sit.mark (l1:=[_,_,_,_]) SN.out ht ho)
 dsimp only [List.cons_append,List.nil_append] at SN
 clear ho ht k9 l9 k10 l10
 have k10:=SN.out.box (g:=w7.heap.size) (cs:=#[.slice QA x.cartons.length qa,.slice QB x.spots.length qb]) (t:=46) mq
 have l10:=SN.out.boxlt (g:=w7.heap.size) (cs:=#[.slice QA x.cartons.length qa,.slice QB x.spots.length qb]) (t:=46) mq
 go_wp2_with fail
 refine (markPlan_any _ x _ _ _ _ (SN.out.on (fOP (w6.heap.size + 1) (.agg #[.slice QA x.cartons.length qa,.slice QB x.spots.length qb]) x f7) (by repeat first | with_reducible exact List.mem_cons_self | with_reducible exact .head _ | refine .tail _ ?_)) (by omega) (by omega) (by omega)).mono ?_
 rintro e wN ⟨rfl,ho,ht⟩
 have SN:=Lib.hid (Sit.planTurn (l1:=[_,_]) SN.out ht ho)
 dsimp only [List.cons_append,List.nil_append] at SN
 clear ho ht k10 l10
 have SN:=Lib.hid (SN.out.subl (.cons_cons _ (.cons _ (.cons _ (.cons _ (.cons _ (List.Sublist.refl _)))))))
 go_wp2_with fail
 refine (eqStringS_any _ _ L L _ (OF.read (bd:=16777216) (SN.out.list (f:=cS) (e:=9) (K:=1) (v:=.slice DG L.length dG) (xs:=L) (by repeat first | with_reducible exact List.mem_cons_self | with_reducible exact .head _ | refine .tail _ ?_)) (fun _=>rfl) (by omega)) (OF.read (bd:=16777216) (SN.out.list (f:=cS) (e:=9) (K:=1) (v:=.slice DW L.length dW) (xs:=L) (by repeat first | with_reducible exact List.mem_cons_self | with_reducible exact .head _ | refine .tail _ ?_)) (fun _=>rfl) (by omega))).mono ?_
 rintro e wEG ⟨rfl,hb⟩
 rw [show decide (L=L)=true by simp]
 have SN:=Lib.hid (SN.out.next hb)
 clear hb
 go_wp2_with fail
 refine (markStr_of _ L _ (1) _ _ (SN.out.list (v:=.slice DG L.length dG) (xs:=L) (by repeat first | with_reducible exact List.mem_cons_self | with_reducible exact .head _ | refine .tail _ ?_)) (by omega) (by omega) (by omega)).mono ?_
 rintro e wP ⟨rfl,ho,ht⟩
 have SN:=Lib.hid (Sit.tch (l1:=[]) SN.out ht (fOF cS 9 1 w.heap.size (.slice DG L.length dG) (mkS 1 mtx 1 L.length) fG) rfl (fOF_ok _ _ _ _ _ _ _) ho)
 dsimp only [List.cons_append,List.nil_append] at SN
 clear ho ht
 go_wp2_with fail
 refine (heldStringS_any _ L.length (1) _ (OF.read (bd:=16777216) (SN.out.list (f:=cS) (e:=9) (K:=1) (v:=.slice DG L.length dG) (xs:=mkS 1 mtx 1 L.length) (by repeat first | with_reducible exact List.mem_cons_self | with_reducible exact .head _ | refine .tail _ ?_)) (fun _=>rfl) (by rw [mkS_length];omega)) (by omega) (by omega)).mono ?_
 rintro e wQ ⟨rfl,hb⟩
 have SN:=Lib.hid (SN.out.next hb)
 clear hb
 have HCC:=Lib.hid (show ∀ X:World,Below wQ.heap.size wQ X→(cS10 (X) (w.heap.size) (p) (.slice A1 p.pairs.length c1) (.slice A2 p.types.length c2) (.slice A3 p.items.length c3))∧X.cell? ⟨w.heap.size + 1,0,none⟩=some (.slice PA x.cartons.length ca)∧X.cell? ⟨w.heap.size + 1,1,none⟩=some (.slice PB x.spots.length cb) from fun X hX=>by
  have hX:=SN.out.next hX
  have c0:=hX.box (g:=w.heap.size) (cs:=(cR p A1 c1 A2 c2 A3 c3)) (t:=28) mq
  have c1:=hX.box (g:=w.heap.size + 1) (cs:=#[.slice PA x.cartons.length ca,.slice PB x.spots.length cb]) (t:=32) mq
  exact ⟨⟨c0 0,c0 1,c0 2,c0 3,c0 4,c0 5,c0 6,c0 7,c0 8,c0 9⟩,c1 0,c1 1⟩)
 have k0:=SN.out.box (g:=w.heap.size) (cs:=(cR p A1 c1 A2 c2 A3 c3)) (t:=28) mq
 have l0:=SN.out.boxlt (g:=w.heap.size) (cs:=(cR p A1 c1 A2 c2 A3 c3)) (t:=28) mq
 have k1:=SN.out.box (g:=w.heap.size + 1) (cs:=#[.slice PA x.cartons.length ca,.slice PB x.spots.length cb]) (t:=32) mq
 have l1:=SN.out.boxlt (g:=w.heap.size + 1) (cs:=#[.slice PA x.cartons.length ca,.slice PB x.spots.length cb]) (t:=32) mq
 go_upto_region 31 with fail
 clear k0 l0 k1 l1
 go_cut [17] (fun v8 X=>∃ D d f,v8=.slice D L.length d∧Hid (Sit w X (fOF cS 9 1 w.heap.size (.slice D L.length d) L f::[fOF cS 9 1 w.heap.size (.slice DG L.length dG) (mkS 1 mtx 1 L.length) fG,fOF cS 9 1 w.heap.size (.slice DW L.length dW) L fW,fBox (w.heap.size + 1) #[.slice PA x.cartons.length ca,.slice PB x.spots.length cb] 32,fBox w.heap.size (cR p A1 c1 A2 c2 A3 c3) 28])))
 case first =>
  refine regu (S:=(fun W'=>(cS10 (W') (w.heap.size) (p) (.slice A1 p.pairs.length c1) (.slice A2 p.types.length c2) (.slice A3 p.items.length c3))∧W'.cell? ⟨w.heap.size + 1,0,none⟩=some (.slice PA x.cartons.length ca)∧W'.cell? ⟨w.heap.size + 1,1,none⟩=some (.slice PB x.spots.length cb))) (by kernel_rfl) (fun _ _ _ _ _=>id) ?_ fun hHeld=>?_
  ·(first | (refine HCC.out _ ?_;(repeat' with_reducible first | assumption | exact bR | apply bD | apply bA | apply bC | apply bW | omega | simp <;> omega);done) | go_keep)
  refine tku (b:=?_) [0,2,4,5] (by kernel_rfl) hHeld ?_ ?_
  rotate_left
  ·repeat first
   |exact .nil
   |refine .yes (v:=?_) rfl (by rfl) ?_ ?_
    rotate_left
    ·intro w9 hSw;(try dsimp only at hSw);go_simp;(try with_reducible rfl)
    (try simp only [aP,aZ,aS,aG,aH,aI])
  refine onu 1 rfl (by kernel_rfl) fun K hK=>?_
  go_simp
  ((go_at_call 22;refine (toRequest_any _ p _ (H0.out.next (SN.out.next (by (repeat' with_reducible first | assumption | exact bR | apply bD | apply bA | apply bC | apply bW | omega | simp <;> omega))).low)).mono ?_;rintro e w13 ⟨u3,f3,rfl,ho3,hb3⟩;have hn3:=bstep (a:=wQ) (by (repeat' with_reducible first | assumption | exact bR | apply bD | apply bA | apply bC | apply bW | omega | simp <;> omega)) hb3;have hr3:=ho3.read (by omega);clear ho3))
  refine hK.out _ _ ?_ (fun hHeld=>?_)
  ·(first | (refine HCC.out _ ?_;(repeat' with_reducible first | assumption | exact bR | apply bD | apply bA | apply bC | apply bW | omega | simp <;> omega);done) | go_keep)
  clear hK K
  (try simp only [aP,aZ,aS,aG,aH,aI])
  refine onu 3 rfl (by kernel_rfl) fun K hK=>?_
  go_simp
  ((go_at_call 23;refine (toPlan_any _ x _ (H1.out.next (SN.out.next (by (repeat' with_reducible first | assumption | exact bR | apply bD | apply bA | apply bC | apply bW | omega | simp <;> omega))).low)).mono ?_;rintro e w14 ⟨u4,f4,rfl,ho4,hb4⟩;have hn4:=bstep (a:=wQ) (by (repeat' with_reducible first | assumption | exact bR | apply bD | apply bA | apply bC | apply bW | omega | simp <;> omega)) hb4;have hr4:=OPlan.read ho4 (by omega);clear ho4))
  refine hK.out _ _ ?_ (fun hHeld=>?_)
  ·(first | (refine HCC.out _ ?_;(repeat' with_reducible first | assumption | exact bR | apply bD | apply bA | apply bC | apply bW | omega | simp <;> omega);done) | go_keep)
  clear hK K
  (try simp only [aP,aZ,aS,aG,aH,aI])
  refine onu 6 rfl (by kernel_rfl) fun K hK=>?_
  go_simp
  ((go_at_call 39;refine (iPicture_any _ _ p x k z _ (hr3.next (by (repeat' with_reducible first | assumption | exact bR | apply bD | apply bA | apply bC | apply bW | omega | simp <;> omega))) (hr4.next (by (repeat' with_reducible first | assumption | exact bR | apply bD | apply bA | apply bC | apply bW | omega | simp <;> omega))) (by omega)).mono ?_;intro e w15 hm;rw [HT.out] at hm;obtain ⟨u9,f9,hu9,ho9,hb5⟩:=id hm;have hn5:=bstep (a:=wQ) (by (repeat' with_reducible first | assumption | exact bR | apply bD | apply bA | apply bC | apply bW | omega | simp <;> omega)) hb5;clear ho9 hu9;obtain ⟨u5,f5,rfl,hS5⟩:=(SN.out.next (by (repeat' with_reducible first | assumption | exact bR | apply bD | apply bA | apply bC | apply bW | omega | simp <;> omega))).gotOF hm;obtain ⟨D5,d5,rfl,_⟩:=(hS5.list (.head _)).form;have SF:=Lib.hid hS5;clear hS5 hm))
  refine hK.out _ _ ?_ (fun hHeld=>?_)
  ·(first | (refine HCC.out _ ?_;(repeat' with_reducible first | assumption | exact bR | apply bD | apply bA | apply bC | apply bW | omega | simp <;> omega);done) | go_keep)
  clear hK K
  (try simp only [aP,aZ,aS,aG,aH,aI])
  refine lsu 7 rfl (by kernel_rfl) fun K hK=>?_
  go_simp
  refine hK.out _ _ ?_
  clear hK K
  (try simp only [aP,aZ,aS,aG,aH,aI])
  go_wp2_with fail
  go_meet
  exact ⟨_,_,_,rfl,SF⟩
 case rest =>
 obtain ⟨DH,dH,fH,rfl,SN2⟩:=hcut
 have SN:=SN2
 clear SN2 HCC
 obtain ⟨wbH,rfl⟩:∃ y,y=wc:=⟨_,rfl⟩
 go_wp2_with fail
 refine (eqStringS_any _ _ L L _ (OF.read (bd:=16777216) (SN.out.list (f:=cS) (e:=9) (K:=1) (v:=.slice DH L.length dH) (xs:=L) (by repeat first | with_reducible exact List.mem_cons_self | with_reducible exact .head _ | refine .tail _ ?_)) (fun _=>rfl) (by omega)) (OF.read (bd:=16777216) (SN.out.list (f:=cS) (e:=9) (K:=1) (v:=.slice DW L.length dW) (xs:=L) (by repeat first | with_reducible exact List.mem_cons_self | with_reducible exact .head _ | refine .tail _ ?_)) (fun _=>rfl) (by omega))).mono ?_
 rintro e wEH ⟨rfl,hb⟩
 rw [show decide (L=L)=true by simp]
 have SN:=Lib.hid (SN.out.next hb)
 clear hb
 go_wp2_with fail
 refine (heldStringS_any _ L.length (1) _ (OF.read (bd:=16777216) (SN.out.list (f:=cS) (e:=9) (K:=1) (v:=.slice DG L.length dG) (xs:=mkS 1 mtx 1 L.length) (by repeat first | with_reducible exact List.mem_cons_self | with_reducible exact .head _ | refine .tail _ ?_)) (fun _=>rfl) (by rw [mkS_length];omega)) (by omega) (by omega)).mono ?_
 rintro e wR ⟨rfl,hb⟩
 have SN:=Lib.hid (SN.out.next hb)
 clear hb
 go_wp2
 go_ret
 exact ⟨rfl,SN.out.low⟩
set_option maxRecDepth 100000 in
theorem FnExactPicture_lifted (os:Os) (started:os.Started) (H:Type) (enc:TypeId×Value→H) :
  ReturnsInHanded {} Tryz.checked os 7 .any (Rows.fnExactPictureSpec.pre6 enc Tryz.prog Tryz.f7 Rows.fnExactPictureRow.domain false) (Rows.fnExactPictureSpec.post enc Tryz.prog Tryz.f7 false true false false):=by
 refine returnsInHanded_of_change (C:=Tryz.checked) own_ started (by kernel_rfl) Tryz.func7
  (ChangeSpec.witness6 (enc:=enc) (C:=Tryz.checked) false ⟨#[],#[.agg #[.int .i64 0,.int .i64 0,.int .i64 0,.int .i64 0,.int .i64 0,.int .i64 0,.slice none 0 0,.slice none 0 0,.int .i64 0,.slice none 0 0],.agg #[.slice none 0 0,.slice none 0 0],.int .i64 0,.int .i64 0],[]⟩ 8 (by kernel_rfl) (by kernel_rfl) (by kernel_rfl) (by kernel_rfl)) ?_
 intro W base args ds gs before hval0 hW hcnd _
 have hval:∀ (j:Nat) t v,Tryz.f7.params[j]? = some t→args[j]? = some v→Value.okWide Tryz.prog W .any base t v:=hval0
 have hW':=hW
 obtain ⟨p,q,hA0,hV,rfl,hfz,hnd⟩:=hW
 have hA:DataW.TrodAll enc Tryz.prog W 0 (fun _=>true) true Tryz.f7.params.toList args.toList ds p:=hA0
 rw [Tryz.params7] at hA hval
 obtain ⟨v0,vs0,d0,ds0,p0,q0,hargs,rfl,rfl,h0,r0⟩:=trodAll_cons hA
 obtain ⟨v1,vs1,d1,ds1,p1,q1,rfl,rfl,rfl,h1,r1⟩:=trodAll_cons r0
 obtain ⟨v2,vs2,d2,ds2,p2,q2,rfl,rfl,rfl,h2,r2⟩:=trodAll_cons r1
 obtain ⟨v3,vs3,d3,ds3,p3,q3,rfl,rfl,rfl,h3,r3⟩:=trodAll_cons r2
 obtain ⟨rfl,rfl,rfl⟩:=trodAll_nil r3
 obtain rfl:args = #[v0,v1,v2,v3]:=by cases args;simp_all
 obtain ⟨rfl,rfl⟩:=trodVars_none hV
 clear hA0 hval0 hA
 simp only [List.append_nil] at hW'
 have hlt:∀ x∈p0 ++ p1 ++ p2 ++ p3,x.block < W.heap.size:=fun x hx=>hW'.lt x (by simpa using hx)
 have k0:=h0
 have w0:=read_Request (hval 0 28 v0 rfl rfl) h0 (fun x hx=>hlt x (by simp [hx]))
 have k1:=h1
 have w1:=read_Plan (hval 1 32 v1 rfl rfl) h1 (fun x hx=>hlt x (by simp [hx]))
 have k2:=h2
 obtain ⟨a2,rfl,rfl,rfl,w2⟩:=open_int Tryz.underlying3 (hval 2 3 v2 rfl rfl) h2
 have k3:=h3
 obtain ⟨a3,rfl,rfl,rfl,w3⟩:=open_int Tryz.underlying3 (hval 3 3 v3 rfl rfl) h3
 refine (FnExactPicture_walk v0 v1 a2 a3 W w0 w1 w2 w3).mono fun e W' ⟨he,hb⟩=>?_
 subst he
 exact ⟨_,rfl,post_of_below (pa:=p0 ++ (p1 ++ ([] ++ ([] ++ [])))) (pv:=[]) hW' (fun _ _ _=>(trodAll_cons_mk (shut_bool Tryz.underlying4 _) trodAll_mk0)) (fun sp hsp=>(trodAll_cons_mk (stays laidOut_ (by kernel_rfl) (of_decide_eq_true (by kernel_rfl)) k0 hb (fun x hx=>hlt x (by simp [hx])) (fun x hx=>hsp x (by simp [hx]))) (trodAll_cons_mk (stays laidOut_ (by kernel_rfl) (of_decide_eq_true (by kernel_rfl)) k1 hb (fun x hx=>hlt x (by simp [hx])) (fun x hx=>hsp x (by simp [hx]))) (trodAll_cons_mk (stays laidOut_ (by kernel_rfl) (of_decide_eq_true (by kernel_rfl)) k2 hb (fun x hx=>by cases hx) (fun x hx=>by cases hx)) (trodAll_cons_mk (stays laidOut_ (by kernel_rfl) (of_decide_eq_true (by kernel_rfl)) k3 hb (fun x hx=>by cases hx) (fun x hx=>by cases hx)) trodAll_mk0))))) (fun _ _=>rfl) (by simp) hb
  (ok_one (by kernel_rfl) rfl (okWide_bool_mk Tryz.underlying4 _))⟩
theorem FnExactPicture_inPlace:(Rows.fnExactPictureRow.inPlace == Tryz.prog.inPlace 7)=true:=by kernel_rfl
theorem FnExactPicture_unfollowed:(Rows.fnExactPictureRow.unfollowed == Tryz.prog.unfollowed 7)=true:=by kernel_rfl
theorem FnExactPicture_recurses:(Rows.fnExactPictureRow.recurses == Tryz.prog.recurses 7)=true:=by kernel_rfl
theorem FnExactPicture_named:(Rows.fnExactPictureRow.named == Tryz.prog.varsNamed 7)=true:=by kernel_rfl
theorem FnExactPicture_closed:joinedFacts Tryz.prog 7 Tryz.f7 Rows.fnExactPictureSpec Rows.fnExactPictureRow=true:=by
 unfold joinedFacts
 rw [laidOut_,fx_maps,fx_stops,fx_stopKnobs,fx_plain,fx_heard,fx_may,fx_lift,FnExactPicture_inPlace,FnExactPicture_unfollowed,FnExactPicture_recurses,FnExactPicture_named]
 kernel_rfl
theorem FnExactPicture_over:Rows.fnExactPictureRow.holds Tryz.pinned (OpenSpec.ofChange Rows.fnExactPictureSpec) :=
 OpenClaim.holds_of_wide 7 Tryz.f7 rfl rfl rfl rfl rfl rfl rfl ⟨rfl,rfl,rfl,rfl,rfl⟩ rfl rfl rfl rfl rfl (by kernel_rfl) Tryz.func7 FnExactPicture_closed
  (of_decide_eq_true (by kernel_rfl)) (by unfold Func.isWrapper;first | (rw [if_pos (by decide +kernel)];kernel_rfl) | (rw [if_neg (by decide +kernel)];exact ⟨rfl,rfl⟩))
  (fun os started H enc _=>FnExactPicture_lifted os started H enc)
theorem FnExactPicture_proved:Rows.FnExactPictureSaid:=FnExactPicture_over
end Go.Proofs.YtioijfplbgpjpaaGreat
