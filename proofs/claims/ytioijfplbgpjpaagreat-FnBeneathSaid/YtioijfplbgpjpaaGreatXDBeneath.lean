/-
  The law FnBeneath: whatever the drawn bytes: who is beneath is lower, and in the way; what has fallen stands on the floor or on one that is beneath it and ends where it begins.
-/
import Derived.Test.YtioijfplbgpjpaaGreatKn00
import Derived.Deep.RegionHeld3
import Derived.Deep.DeepCutAuto
namespace Go.Proofs.YtioijfplbgpjpaaGreat
set_option linter.unusedVariables false
set_option linter.unusedSimpArgs false
set_option maxRecDepth 100000
open Go.RowKit Go.WideShapes Go.ChangeShapes Go.ChangeAt Go.Deep
open Go.ChangeMaps (open_string shut_string)
theorem dropped_blk (r:Request) (x:Plan):(droppedR r x).bulk=x.bulk:=by
 unfold droppedR
 split
 ·unfold Plan.bulk
  rw [drop_len]
 ·rfl
theorem drops_bulk (r:Request) (x:Plan):∀ t,(dropsR r x t).bulk=x.bulk
 |0=>rfl
 |t + 1=>(dropped_blk r _).trans (drops_bulk r x t)
theorem ben_in {r:Request} {x:Plan} {i u:Int} (hu:u∈beneathI r x i):feasible r x=true∧(∃ n:Nat,i=n∧n < x.cartons.length)∧∃ m:Nat,u=m∧m < x.cartons.length∧(spotAt x m).pallet=(spotAt x i).pallet∧(spotAt x m).z < (spotAt x i).z:=by
 unfold beneathI at hu
 split at hu
 ·rename_i hc
  simp only [Bool.and_eq_true,inB,decide_eq_true_eq] at hc
  obtain ⟨hc1,hf⟩:=hc
  obtain ⟨hu1,hu2⟩:=List.mem_filter.1 hu
  obtain ⟨j,rfl,hj,hp⟩:=(onPal_feas hf).1 hu1
  have aj:=within_facts (feas_inside hf hj)
  unfold benB at hu2
  rw [wrap_sum aj.2.2.2.2.2.1 aj.2.2.1] at hu2
  simp only [Bool.and_eq_true,decide_eq_true_eq] at hu2
  have h1:=hu2.1
  have h2:=aj.2.2.1
  exact ⟨hf,⟨i.toNat,by omega,by omega⟩,j,rfl,hj,hp,by omega⟩
 ·simp at hu
theorem ben_out {r:Request} {x:Plan} {i:Int} (h:i < 0 ∨ (x.cartons.length:Int)≤i):beneathI r x i=[]:=by
 unfold beneathI
 rw [if_neg]
 simp only [Bool.and_eq_true,inB,decide_eq_true_eq]
 omega
theorem ben_bad {r:Request} {x:Plan} {i:Int} (h:feasible r x=false):beneathI r x i=[]:=by
 unfold beneathI
 rw [h,Bool.and_false]
 rfl
theorem bfold_step {l:List Int} {j:Nat} {i:Int} (f:Int→Int) (h:l[j]? = some i):(l.take (j + 1)).foldl (fun n u=>max n (f u)) 0=max ((l.take j).foldl (fun n u=>max n (f u)) 0) (f i):=by
 rw [List.take_add_one,h,List.foldl_append];rfl
set_option maxRecDepth 100000 in
set_option maxHeartbeats 40000000 in
theorem FnBeneath_walk (v:Value) (w:World) (h:∃ xs,RByts 9223372036854775807 w v xs):Calls Tryz.prog 9 #[v] w fun e w'=>e=.returned (.bool true)∧Below w.heap.size w w':=by
 obtain ⟨xs,h⟩:=h
 have HV:=Lib.hid h
 clear h
 obtain ⟨bg,hbg⟩:∃ b,decide (1048576 < xs.length)=b:=⟨_,rfl⟩
 have HG:=Lib.hid hbg
 clear hbg
 go_enter Tryz.func9,Tryz.ntmps9
 go_wp2_with fail
 refine (big_any v xs _ HV.out).mono ?_
 rintro e w' ⟨rfl,rfl⟩
 rw [HG.out]
 cases bg
 case true =>
  go_wp2_with fail
  go_ret
  exact ⟨rfl,Below.refl _ _⟩
 have HB:=Lib.hid (HV.out.plain (by have:=HG.out;simp at this;omega))
 go_wp2_with fail
 refine (DrawBeneath_any v xs _ _ _ (Sit.here w) HB.out).mono ?_
 rintro e w1 ⟨u,r,fp,vc,vs,x,fq,k,rfl,SN1,hbk,hsx⟩
 obtain ⟨vp,vt,vi,rfl,⟨A1,c1,rfl,_⟩,⟨A2,c2,rfl,_⟩,⟨A3,c3,rfl,_⟩⟩:=SN1.on _ (.head _)
 obtain ⟨zs2,hz2,⟨A7,c7,rfl,_⟩,_,⟨A8,c8,rfl,_⟩⟩:=RpOn.open (SN1.on _ (.tail _ (.head _)))
 have HZL:=Lib.hid (show zs2.length=x.cartons.length from map_fst_len hz2)
 have hL:x.bulk≤16777216:=Nat.le_trans hsx.bulk (by decide)
 have SN:=Lib.hid ((SN1.alloc (cR r A1 c1 A2 c2 A3 c3) 41).alloc #[.slice A7 zs2.length c7,.slice A8 x.spots.length c8] 46)
 simp only [World.size_alloc] at SN
 obtain ⟨b3,hb3⟩:∃ b,w1.heap.size=b:=⟨_,rfl⟩
 rw [hb3] at SN
 clear SN1 hz2
 go_upto_region 4 with fail
 (try rw [hb3])
 generalize (w1.alloc (.cells (cR r A1 c1 A2 c2 A3 c3) 41)).alloc (.cells #[.slice A7 zs2.length c7,.slice A8 x.spots.length c8] 46)=W2 at SN ⊢
 clear hb3
 have HR:=Lib.hid (SN.out.rq (v:=.agg (cR r A1 c1 A2 c2 A3 c3)) (r:=r) (fp:=fp) (.tail _ (.tail _ (.head _))) (by omega))
 have HX:=Lib.hid (SN.out.rp (vc:=.slice A7 zs2.length c7) (vs:=.slice A8 x.spots.length c8) (x:=x) (fp:=fq) (.tail _ (.tail _ (.tail _ (.head _)))) (by have:=hsx.cartons;omega) (fun c hc=>by have:=hsx.units c hc;omega) (by have:=hsx.spots;omega))
 have HLW:=Lib.hid SN.out.low
 have K3:=Lib.hid (show ∀ X:World,Below W2.heap.size W2 X→(cS10 (X) (b3) (r) (.slice A1 r.pairs.length c1) (.slice A2 r.types.length c2) (.slice A3 r.items.length c3))∧X.cell? ⟨b3 + 1,0,none⟩=some (.slice A7 zs2.length c7)∧X.cell? ⟨b3 + 1,1,none⟩=some (.slice A8 x.spots.length c8) from fun X hX=>by
  have c0:=(SN.out.next hX).box (g:=b3) (cs:=(cR r A1 c1 A2 c2 A3 c3)) (t:=41) mq
  have c1:=(SN.out.next hX).box (g:=b3 + 1) (cs:=#[.slice A7 zs2.length c7,.slice A8 x.spots.length c8]) (t:=46) mq
  exact ⟨⟨c0 0,c0 1,c0 2,c0 3,c0 4,c0 5,c0 6,c0 7,c0 8,c0 9⟩,c1 0,c1 1⟩)
 clear SN
 have SN:=Lib.hid (Sit.here W2)
 obtain ⟨q,hq⟩:∃ q,feasible r x=q:=⟨_,rfl⟩
 have HQ:=Lib.hid hq
 obtain ⟨M,hM⟩:∃ M,beneathI r x k=M:=⟨_,rfl⟩
 have HM:=Lib.hid hM
 have hx100:=hsx.cartons
 have hml:M.length≤100:=by rw [← hM];exact Nat.le_trans (beneath_len r x k) hx100
 clear hM hq
 obtain ⟨⟨k0,k1,k2,k3,k4,k5,k6,k7,k8,k9⟩,p0,p1⟩:=K3.out _ SN.out.low
 go_wp2_with fail
 refine (iBeneath_any _ _ r x k _ (HR.out.next SN.out.low) (HX.out.next SN.out.low) hL).mono ?_
 intro e1 w3 hm
 rw [HM.out] at hm
 obtain ⟨v6,f6,rfl,SN1⟩:=SN.out.gotInts hm
 obtain ⟨A6,c6,rfl,_⟩:=(SN1.list (.head _)).form
 have SQ:=Lib.hid SN1
 clear SN SN1 hm
 clear k0 k1 k2 k3 k4 k5 k6 k7 k8 k9 p0 p1
 have SN:=SQ
 clear SQ
 obtain ⟨⟨k0,k1,k2,k3,k4,k5,k6,k7,k8,k9⟩,p0,p1⟩:=K3.out _ SN.out.low
 go_wp2_with fail
 refine (sBeneath_any _ _ r x k _ (HR.out.next SN.out.low) (HX.out.next SN.out.low) hL).mono ?_
 intro e2 w4 hm
 rw [HM.out] at hm
 obtain ⟨v7,f7,rfl,SN1⟩:=SN.out.gotInts hm
 obtain ⟨A9,c9,rfl,_⟩:=(SN1.list (.head _)).form
 have SQ:=Lib.hid SN1
 clear SN SN1 hm
 clear k0 k1 k2 k3 k4 k5 k6 k7 k8 k9 p0 p1
 have SN:=SQ
 clear SQ
 go_wp2_with fail
 refine (sameInts_any _ _ M M _ (OInts.read (SN.out.list (.tail _ (.head _))) (by omega)) (OInts.read (SN.out.list (.head _)) (by omega))).mono ?_
 rintro e3 w5 ⟨rfl,hb5⟩
 rw [show decide (M=M)=true from decide_eq_true rfl]
 have SN:=Lib.hid (SN.out.next hb5).drop
 clear hb5
 go_wp2
 go_loopw [7] (fun i wr=>∃ j:Nat,j≤M.length∧i=.int .i64 j∧Hid (Sit W2 wr [fOF cI 3 1 W2.heap.size (.slice A6 M.length c6) M f6])) (fun i _=>M.length - (intOf i).toNat)
 case atStart=>exact ⟨0,Nat.zero_le _,rfl,SN⟩
 case round =>
  clear SN
  obtain ⟨j,hj,rfl,SN⟩:=hrel
  by_cases hlt:j < M.length
  ·obtain ⟨u,hu⟩:∃ u,M[j]? = some u:=⟨_,List.getElem?_eq_getElem hlt⟩
   obtain ⟨hf,⟨n,rfl,hn⟩,m,rfl,hm1,hpp,hzz⟩:=ben_in (r:=r) (x:=x) (i:=k) (u:=u) (by rw [HM.out];exact List.mem_of_getElem? hu)
   have hfl:=(feas_len hf).1
   obtain ⟨gd,rfl⟩:=head_ptr (SN.out.list (.head _)) hu
   have HU:=Lib.hid hu
   obtain ⟨PA,ca,PB,cb,heq,HPA,HPB,hla,hlb⟩:=HX.out.opn
   have e2:Value.slice A8 x.spots.length c8=.slice PB x.spots.length cb:=by injection heq with h1;exact (List.cons.inj (List.cons.inj (congrArg Array.toList h1)).2).1
   injection e2 with e21 e22 e23
   subst e21 e23
   obtain ⟨b2,off2,s,rfl,hb2,hs,HC2⟩:=HPB.out.one m (by omega)
   obtain ⟨b2',off2',s2,heq2,hb2',hs2,HC3⟩:=HPB.out.one n (by omega)
   cases heq2
   rw [spotAt_at hs,spotAt_at hs2] at hpp hzz
   have hpb:(s.pallet != s2.pallet)=false:=by rw [hpp];simp
   have hzb:decide (s2.z≤s.z)=false:=decide_eq_false (by omega)
   have hzn : ¬ s2.z≤s.z:=by omega
   have hms:(m:Int) < (x.spots.length:Int):=by omega
   have hns:(n:Int) < (x.spots.length:Int):=by omega
   have HCC:=Lib.hid (show ∀ X:World,Below wr.heap.size wr X→(X.cell? ⟨b3 + 1,1,none⟩=some (.slice (some ⟨b2,off2,none⟩) x.spots.length c8))∧X.cell? ⟨gd,j,none⟩=some (.int .i64 (m:Int))∧(cS4 (X) (b2) (off2) (m) (s))∧cS4 (X) (b2) (off2) (n) (s2) from fun X hX=>by
    have hX:=SN.out.next hX
    obtain ⟨_,q2,q3⟩:=K3.out X hX.low
    have q4:=(hX.list (.head _)).cells (fun z=>rfl) HU.out 0 (.int .i64 (m:Int)) rfl
    rw [Nat.mul_one,Nat.add_zero] at q4
    exact ⟨q3,q4,HC2.out X hX.low,HC3.out X hX.low⟩)
   clear hu hs hs2 heq hpp hfl HPA HPB hla hlb
   go_wp2_with fail
   refine regu (S:=(fun X=>(X.cell? ⟨b3 + 1,1,none⟩=some (.slice (some ⟨b2,off2,none⟩) x.spots.length c8))∧X.cell? ⟨gd,j,none⟩=some (.int .i64 (m:Int))∧(cS4 (X) (b2) (off2) (m) (s))∧cS4 (X) (b2) (off2) (n) (s2))) (by kernel_rfl) (fun _ _ _ _ _=>id) ?_ fun hHeld=>?_
   ·(first | (refine HCC.out _ ?_;(repeat' with_reducible first | assumption | exact bR | apply bD | apply bA | apply bC | apply bW | omega | simp <;> omega);done) | go_keep)
   refine tku (b:=?_) [0,1,2,3,4,5,6,7,8,9,10,11,12,13,14,15,16,17,18,19,20,21,22,23,24,25,26,27,28,29,30,31,32] (by kernel_rfl) hHeld ?_ ?_
   rotate_left
   ·repeat first
    |exact .nil
    |refine .yes (v:=?_) rfl (by rfl) ?_ ?_
     rotate_left
     ·intro w9 hSw;(try dsimp only at hSw);go_simp;(try with_reducible rfl)
     (try simp only [aP,aZ,aS,aG,aH,aI])
   refine lsu 33 rfl (by kernel_rfl) fun K hK=>?_
   go_simp
   refine hK.out _ _ ?_
   clear hK K
   (try simp only [aP,aZ,aS,aG,aH,aI])
   go_wp2
   go_roundw
   case rel=>exact ⟨j + 1,hlt,by go_num,Lib.hid (SN.out.next (by (repeat' with_reducible first | assumption | exact bR | apply bD | apply bA | apply bC | apply bW | omega | simp <;> omega)))⟩
   case measure=>simp [intOf] <;> omega
  ·obtain rfl:j=M.length:=by omega
   clear hlt
   have hm0:q=false ∨ k < 0 ∨ (x.cartons.length:Int)≤k→M.length=0:=by
    rintro (h | h)
    ·subst h;rw [← HM.out,ben_bad HQ.out];rfl
    ·rw [← HM.out,ben_out h];rfl
   obtain ⟨⟨k0,k1,k2,k3,k4,k5,k6,k7,k8,k9⟩,p0,p1⟩:=K3.out _ SN.out.low
   go_wp2_with fail
   refine (sFeasible_any _ _ r x _ (HR.out.next SN.out.low) (HX.out.next SN.out.low) hL).mono ?_
   rintro e4 w6 ⟨rfl,hb⟩
   rw [HQ.out]
   have SN:=Lib.hid (SN.out.next hb)
   clear hb
   clear k0 k1 k2 k3 k4 k5 k6 k7 k8 k9 p0 p1
   cases q
   ·have hm1:((M.length:Int) == 0)=true:=beq_iff_eq.2 (by have:=hm0 (.inl rfl);omega)
    clear hm0
    go_wp2
    go_ret
    exact ⟨rfl,bstep HLW.out SN.out.low⟩
   by_cases hk0:k < 0
   ·have hm1:((M.length:Int) == 0)=true:=beq_iff_eq.2 (by have:=hm0 (.inr (.inl hk0));omega)
    clear hm0
    go_wp2
    go_ret
    exact ⟨rfl,bstep HLW.out SN.out.low⟩
   obtain ⟨n,rfl⟩:∃ n:Nat,k=n:=⟨k.toNat,by omega⟩
   by_cases hk1:x.cartons.length≤n
   ·have hm1:((M.length:Int) == 0)=true:=beq_iff_eq.2 (by have:=hm0 (.inr (.inr (by omega)));omega)
    have hk2:(zs2.length:Int)≤(n:Int):=by have:=HZL.out;omega
    clear hm0
    obtain ⟨⟨k0,k1,k2,k3,k4,k5,k6,k7,k8,k9⟩,p0,p1⟩:=K3.out _ SN.out.low
    go_wp2
    go_ret
    exact ⟨rfl,bstep HLW.out SN.out.low⟩
   have hk2 : ¬ (zs2.length:Int)≤(n:Int):=by have:=HZL.out;omega
   have hk3 : ¬ zs2.length≤n:=by omega
   have hk4:decide (zs2.length≤n)=false:=decide_eq_false hk3
   have hk5:decide ((n:Int) < 0)=false:=decide_eq_false hk0
   have hnl:n < x.cartons.length:=by omega
   clear hm0 hk1
   obtain ⟨b8,hb8⟩:∃ b,w6.heap.size=b:=⟨_,rfl⟩
   have SM:=Lib.hid (Sit.alloc (l:=[]) (SN.out.drop) #[.slice A7 zs2.length c7,.slice A8 x.spots.length c8] 46)
   rw [hb8] at SM
   obtain ⟨⟨k0,k1,k2,k3,k4,k5,k6,k7,k8,k9⟩,p0,p1⟩:=K3.out _ SN.out.low
   clear SN
   go_wp2_with fail
   (try rw [hb8])
   generalize w6.alloc (.cells #[.slice A7 zs2.length c7,.slice A8 x.spots.length c8] 46)=W7 at SM ⊢
   have SN:=SM
   clear SM hb8
   clear k0 k1 k2 k3 k4 k5 k6 k7 k8 k9 p0 p1
   have HXC:=Lib.hid (show RPlan 16777216 W2 W2.heap.size (.agg #[.slice A7 x.cartons.length c7,.slice A8 x.spots.length c8]) x from HZL.out ▸ HX.out)
   rw [HZL.out] at SN
   go_loopw [9] (fun i wr=>∃ t:Nat,t≤x.cartons.length + 1∧i=.int .i64 t∧Hid ((t=0∧Hid (Sit W2 wr [fBox b8 #[.slice A7 x.cartons.length c7,.slice A8 x.spots.length c8] 46])) ∨ (1≤t∧∃ (Y:Plan) (E F:Option Addr) (ce cf B:Nat) (fy:List Nat),Hid (dropsR r x t=Y)∧Hid (Sit W2 wr [fBox b8 #[.slice E Y.cartons.length ce,.slice F Y.spots.length cf] 46,fOP B (.agg #[.slice E Y.cartons.length ce,.slice F Y.spots.length cf]) Y fy])))) (fun i _=>x.cartons.length + 1 - (intOf i).toNat)
   case atStart=>exact ⟨0,Nat.zero_le _,rfl,Lib.hid (.inl ⟨rfl,SN⟩)⟩
   case round =>
    clear SN
    obtain ⟨t,ht,rfl,hcase1⟩:=hrel
    have hcase:=hcase1.out
    clear hcase1
    by_cases hlt:t≤x.cartons.length
    ·obtain ⟨Y,E,F,ce,cf,HY,HYR,SN⟩:∃ (Y:Plan) (E F:Option Addr) (ce cf:Nat),Hid (dropsR r x t=Y)∧Hid (RPlan 16777216 wr wr.heap.size (.agg #[.slice E Y.cartons.length ce,.slice F Y.spots.length cf]) Y)∧Hid (Sit W2 wr [fBox b8 #[.slice E Y.cartons.length ce,.slice F Y.spots.length cf] 46]):=by
      rcases hcase with ⟨rfl,S⟩ | ⟨_,Y,E,F,ce,cf,B,fy,HY,S⟩
      ·exact ⟨x,A7,A8,c7,c8,Lib.hid rfl,Lib.hid (HXC.out.next S.out.low),S⟩
      ·exact ⟨Y,E,F,ce,cf,HY,Lib.hid (S.out.op (.tail _ (.head _)) (by rw [← HY.out,drops_bulk];exact hL)),Lib.hid (S.out.sub (.cons_cons _ (.cons _ (List.Sublist.refl _))))⟩
     clear hcase
     have hLY:Y.bulk≤16777216:=by rw [← HY.out,drops_bulk];exact hL
     have HY2:=Lib.hid (show dropsR r x (t + 1)=droppedR r Y by rw [← HY.out];rfl)
     have hL2:(droppedR r Y).bulk≤16777216:=by rw [dropped_blk];exact hLY
     have hti:(t:Int)≤(zs2.length:Int):=by have:=HZL.out;omega
     have k8:=SN.out.box (.head _)
     have l8:=SN.out.boxlt (.head _)
     have q80:=k8 0
     have q81:=k8 1
     simp at q80 q81
     clear k8
     obtain ⟨⟨k0,k1,k2,k3,k4,k5,k6,k7,k8,k9⟩,p0,p1⟩:=K3.out _ SN.out.low
     go_wp2_with fail
     refine (iDropped_any _ _ r Y _ (HR.out.next SN.out.low) HYR.out hLY).mono ?_
     rintro e5 w7 ⟨u7,f7,rfl,ho7,hb7⟩
     obtain ⟨QA,qa,QB,qb,rfl,_⟩:=(OPlan.read ho7 hL2).opn
     obtain ⟨Z,hZ⟩:∃ Z,droppedR r Y=Z:=⟨_,rfl⟩
     rw [hZ] at ho7 HY2 ⊢
     have hS:=(SN.out.gotPlan ho7 hb7).rot2
     have SF:=Lib.hid (hS.overL [.slice QA Z.cartons.length qa,.slice QB Z.spots.length qb] 0)
     have kb8:=hS.box (.head _)
     have l8':=hS.boxlt (.head _)
     have f8:=hS.free (.head _)
     clear hS ho7 hb7 hZ q80 q81 l8 SN
     clear k0 k1 k2 k3 k4 k5 k6 k7 k8 k9 p0 p1
     go_wp2
     go_roundw
     case rel=>exact ⟨t + 1,by omega,by go_num,Lib.hid (.inr ⟨by omega,Z,QA,QB,qa,qb,_,f7,HY2,SF⟩)⟩
     case measure=>simp [intOf] <;> omega
    ·obtain rfl:t=x.cartons.length + 1:=by omega
     obtain ⟨Y,E,F,ce,cf,B,fy,HY,SN⟩:∃ (Y:Plan) (E F:Option Addr) (ce cf B:Nat) (fy:List Nat),Hid (dropsR r x (x.cartons.length + 1)=Y)∧Hid (Sit W2 wr [fBox b8 #[.slice E Y.cartons.length ce,.slice F Y.spots.length cf] 46,fOP B (.agg #[.slice E Y.cartons.length ce,.slice F Y.spots.length cf]) Y fy]):=by
      rcases hcase with ⟨h0,_⟩ | ⟨_,h⟩
      ·omega
      ·exact h
     clear hcase hlt
     have hLY:Y.bulk≤16777216:=by rw [← HY.out,drops_bulk];exact hL
     have hti : ¬ ((x.cartons.length + 1:Nat):Int)≤(zs2.length:Int):=by have:=HZL.out;omega
     have hyf:=drops_feas HQ.out (x.cartons.length + 1)
     have hst:=stand_top HQ.out (t:=x.cartons.length + 1) (by omega) hnl
     rw [HY.out] at hyf hst
     have HYF:=Lib.hid hyf.1
     have hyl:Y.cartons.length=x.cartons.length:=by rw [hyf.2]
     have hyfl:=(feas_len hyf.1).1
     obtain ⟨LB,hLB⟩:∃ L,beneathI r Y (n:Int)=L:=⟨_,rfl⟩
     have HLB:=Lib.hid hLB
     have hlb1:LB.length≤100:=by rw [← hLB];exact Nat.le_trans (beneath_len r Y _) (by omega)
     rw [hLB] at hst
     have HST:=Lib.hid hst
     have HYL:=Lib.hid (And.intro hyl hyfl)
     clear hyf hst hLB hyl hyfl
     have k8:=SN.out.box (.head _)
     have l8:=SN.out.boxlt (.head _)
     have q80:=k8 0
     have q81:=k8 1
     simp at q80 q81
     clear k8
     obtain ⟨⟨k0,k1,k2,k3,k4,k5,k6,k7,k8,k9⟩,p0,p1⟩:=K3.out _ SN.out.low
     go_wp2_with fail
     refine (iBeneath_any _ _ r Y (n:Int) _ (HR.out.next SN.out.low) (SN.out.op (.tail _ (.head _)) hLY) hLY).mono ?_
     intro e6 w8 hm
     rw [HLB.out] at hm
     obtain ⟨v8,f8,rfl,hS⟩:=SN.out.gotInts hm
     obtain ⟨D,d,rfl,_⟩:=(hS.list (.head _)).form
     have SN:=Lib.hid hS
     clear hS hm q80 q81 l8
     clear k0 k1 k2 k3 k4 k5 k6 k7 k8 k9 p0 p1
     go_wp2
     go_loopw [10,12] (fun tv i wr=>∃ j:Nat,j≤LB.length∧i=.int .i64 j∧tv=.int .i64 ((LB.take j).foldl (fun n u=>max n (endZ r Y u)) 0)∧Hid (Sit W2 wr [fOF cI 3 1 W2.heap.size (.slice D LB.length d) LB f8,fBox b8 #[.slice E Y.cartons.length ce,.slice F Y.spots.length cf] 46,fOP B (.agg #[.slice E Y.cartons.length ce,.slice F Y.spots.length cf]) Y fy])) (fun _ i _=>LB.length - (intOf i).toNat)
     case atStart=>exact ⟨0,Nat.zero_le _,rfl,rfl,SN⟩
     case round =>
      clear SN
      obtain ⟨j,hj,rfl,rfl,SN⟩:=hrel
      by_cases hlt:j < LB.length
      ·obtain ⟨u,hu⟩:∃ u,LB[j]? = some u:=⟨_,List.getElem?_eq_getElem hlt⟩
       obtain ⟨_,_,m,rfl,hm1,_,_⟩:=ben_in (r:=r) (x:=Y) (i:=(n:Int)) (u:=u) (by rw [HLB.out];exact List.mem_of_getElem? hu)
       obtain ⟨gd,rfl⟩:=head_ptr (SN.out.list (.head _)) hu
       have HU1:=Lib.hid hu
       obtain ⟨PA,ca,PB,cb,heq,HPA,HPB,hla,hlb⟩:=(SN.out.op (b:=B) (v:=.agg #[.slice E Y.cartons.length ce,.slice F Y.spots.length cf]) (p:=Y) (fp:=fy) (.tail _ (.tail _ (.head _))) hLY).opn
       have e1:Value.slice E Y.cartons.length ce=.slice PA Y.cartons.length ca:=by injection heq with h1;exact (List.cons.inj (congrArg Array.toList h1)).1
       have e2:Value.slice F Y.spots.length cf=.slice PB Y.spots.length cb:=by injection heq with h1;exact (List.cons.inj (List.cons.inj (congrArg Array.toList h1)).2).1
       injection e1 with e11 e12 e13
       injection e2 with e21 e22 e23
       subst e11 e13 e21 e23
       obtain ⟨b,off,c,U,cu,rfl,hb,hc,HU,HC⟩:=HPA.out.one m hm1
       obtain ⟨b2,off2,s,rfl,hb2,hs,HC2⟩:=HPB.out.one m (by have:=HYL.out;omega)
       obtain ⟨bx,hbx⟩:∃ bx,boxR r c=bx:=⟨_,rfl⟩
       have HBX:=Lib.hid hbx
       have hin:=within_facts (feas_inside HYF.out hm1)
       have hez:endZ r Y (m:Int)=s.z + bx.h:=by unfold endZ;rw [spotAt_at hs,boxAt_nat hc,hbx]
       rw [spotAt_at hs,boxAt_nat hc,hbx] at hin
       have hw1:wrap64 (s.z + bx.h)=s.z + bx.h:=wrap_sum hin.2.2.2.2.2.1 hin.2.2.1
       have hw2:IntKind.i64.wrap (s.z + bx.h)=s.z + bx.h:=by rw [wrapE];exact hw1
       have HFS:=Lib.hid (show (LB.take (j + 1)).foldl (fun n u=>max n (endZ r Y u)) 0=max ((LB.take j).foldl (fun n u=>max n (endZ r Y u)) 0) (s.z + bx.h) by rw [bfold_step (endZ r Y) hu,hez])
       obtain ⟨G,hG⟩:∃ G,(LB.take j).foldl (fun n u=>max n (endZ r Y u)) 0=G:=⟨_,rfl⟩
       rw [hG] at HFS ⊢
       have HCC:=Lib.hid (show ∀ X:World,Below wr.heap.size wr X→(cS10 (X) (b3) (r) (.slice A1 r.pairs.length c1) (.slice A2 r.types.length c2) (.slice A3 r.items.length c3))∧(X.cell? ⟨b8,0,none⟩=some (.slice (some ⟨b,off,none⟩) Y.cartons.length ce)∧X.cell? ⟨b8,1,none⟩=some (.slice (some ⟨b2,off2,none⟩) Y.spots.length cf))∧X.cell? ⟨gd,j,none⟩=some (.int .i64 (m:Int))∧(cC3 (X) (b) (off) (m) (c) (.slice U c.units.length cu))∧cS4 (X) (b2) (off2) (m) (s) from fun X hX=>by
        have hX2:=SN.out.next hX
        have q4:=(hX2.list (.head _)).cells (fun z=>rfl) HU1.out 0 (.int .i64 (m:Int)) rfl
        rw [Nat.mul_one,Nat.add_zero] at q4
        have q8:=hX2.box (.tail _ (.head _))
        exact ⟨(K3.out X hX2.low).1,⟨q8 0,q8 1⟩,q4,HC.out X hX,HC2.out X hX⟩)
       have hfld:=fun W=>box_field2 bx.w bx.d bx.h bx.gram W
       have hm1i:(m:Int) < (Y.cartons.length:Int):=by omega
       have hm2i:(m:Int) < (Y.spots.length:Int):=by have:=HYL.out;omega
       clear hu hc hs hbx hin hez heq HPA HPB hla hlb hG
       go_wp2_with fail
       refine regu (S:=(fun X=>(cS10 (X) (b3) (r) (.slice A1 r.pairs.length c1) (.slice A2 r.types.length c2) (.slice A3 r.items.length c3))∧(X.cell? ⟨b8,0,none⟩=some (.slice (some ⟨b,off,none⟩) Y.cartons.length ce)∧X.cell? ⟨b8,1,none⟩=some (.slice (some ⟨b2,off2,none⟩) Y.spots.length cf))∧X.cell? ⟨gd,j,none⟩=some (.int .i64 (m:Int))∧(cC3 (X) (b) (off) (m) (c) (.slice U c.units.length cu))∧cS4 (X) (b2) (off2) (m) (s))) (by kernel_rfl) (fun _ _ _ _ _=>id) ?_ fun hHeld=>?_
       ·(first | (refine HCC.out _ ?_;(repeat' with_reducible first | assumption | exact bR | apply bD | apply bA | apply bC | apply bW | omega | simp <;> omega);done) | go_keep)
       refine tku (b:=?_) [0,1,2,3,4,5,6,7,8,9,10,11,12,13,14,15,16,17] (by kernel_rfl) hHeld ?_ ?_
       rotate_left
       ·repeat first
        |exact .nil
        |refine .yes (v:=?_) rfl (by rfl) ?_ ?_
         rotate_left
         ·intro w9 hSw;(try dsimp only at hSw);go_simp;(try with_reducible rfl)
         (try simp only [aP,aZ,aS,aG,aH,aI])
       refine onu 18 rfl (by kernel_rfl) fun K hK=>?_
       go_simp
       ((go_at_call 53;refine (iBoxOf_any _ _ r c _ (HR.out.next (SN.out.next (by (repeat' with_reducible first | assumption | exact bR | apply bD | apply bA | apply bC | apply bW | omega | simp <;> omega))).low) (HU.out.next (flat_mono _) (by (repeat' with_reducible first | assumption | exact bR | apply bD | apply bA | apply bC | apply bW | omega | simp <;> omega)))).mono ?_;rintro e w3 ⟨rfl,hb3⟩;rw [HBX.out];have hn3:=bstep (a:=wr) (by (repeat' with_reducible first | assumption | exact bR | apply bD | apply bA | apply bC | apply bW | omega | simp <;> omega)) hb3))
       refine hK.out _ _ ?_ (fun hHeld=>?_)
       ·(first | (refine HCC.out _ ?_;(repeat' with_reducible first | assumption | exact bR | apply bD | apply bA | apply bC | apply bW | omega | simp <;> omega);done) | go_keep)
       clear hK K
       (try simp only [aP,aZ,aS,aG,aH,aI])
       refine tku (b:=?_) [19,20] (by kernel_rfl) hHeld ?_ ?_
       rotate_left
       ·repeat first
        |exact .nil
        |refine .yes (v:=?_) rfl (by rfl) ?_ ?_
         rotate_left
         ·intro w9 hSw;(try dsimp only at hSw);go_simp;(try with_reducible rfl)
         (try simp only [aP,aZ,aS,aG,aH,aI])
       refine lsu 21 rfl (by kernel_rfl) fun K hK=>?_
       go_simp
       refine hK.out _ _ ?_
       clear hK K
       (try simp only [aP,aZ,aS,aG,aH,aI])
       skip
       have SN:=Lib.hid (SN.out.next hn3)
       clear hn3 hb3 HCC
       by_cases hgt:G < s.z + bx.h
       ·have hmx:max G (s.z + bx.h)=s.z + bx.h:=by omega
        go_wp2
        go_roundw
        case rel=>exact ⟨j + 1,hlt,by go_num,by rw [HFS.out,hmx],SN⟩
        case measure=>simp [intOf] <;> omega
       ·have hmx:max G (s.z + bx.h)=G:=by omega
        go_wp2
        go_roundw
        case rel=>exact ⟨j + 1,hlt,by go_num,by rw [HFS.out,hmx],SN⟩
        case measure=>simp [intOf] <;> omega
      ·obtain rfl:j=LB.length:=by omega
       rw [List.take_length]
       obtain ⟨PA,ca,PB,cb,heq,HPA,HPB,hla,hlb⟩:=(SN.out.op (b:=B) (v:=.agg #[.slice E Y.cartons.length ce,.slice F Y.spots.length cf]) (p:=Y) (fp:=fy) (.tail _ (.tail _ (.head _))) hLY).opn
       have e2:Value.slice F Y.spots.length cf=.slice PB Y.spots.length cb:=by injection heq with h1;exact (List.cons.inj (List.cons.inj (congrArg Array.toList h1)).2).1
       injection e2 with e21 e22 e23
       subst e21 e23
       obtain ⟨b2,off2,s,rfl,hb2,hs,HC2⟩:=HPB.out.one n (by have:=HYL.out;omega)
       have hzz:(LB.foldl (fun n u=>max n (endZ r Y u)) 0)=s.z:=by rw [← HST.out,spotAt_at hs]
       have hn2i:(n:Int) < (Y.spots.length:Int):=by have:=HYL.out;omega
       obtain ⟨r0,r1,r2,r3⟩:=HC2.out wr (Below.refl _ _)
       have k8:=SN.out.box (.tail _ (.head _))
       have l8:=SN.out.boxlt (.tail _ (.head _))
       have q81:=k8 1
       simp at q81
       rw [hzz]
       have hss:(s.z == s.z)=true:=by simp
       clear k8 hs heq HPA HPB hla hlb hzz
       go_wp2
       go_ret
       exact ⟨rfl,bstep HLW.out SN.out.low⟩
set_option maxRecDepth 100000 in
theorem FnBeneath_lifted (os:Os) (started:os.Started) (H:Type) (enc:TypeId×Value→H) :
  ReturnsInHanded {} Tryz.checked os 9 .any (Rows.fnBeneathSpec.pre6 enc Tryz.prog Tryz.f9 Rows.fnBeneathRow.domain false) (Rows.fnBeneathSpec.post enc Tryz.prog Tryz.f9 false true false false):=by
 refine returnsInHanded_of_change (C:=Tryz.checked) own_ started (by kernel_rfl) Tryz.func9
  (ChangeSpec.witness6 (enc:=enc) (C:=Tryz.checked) false ⟨#[],#[.slice none 0 0],[]⟩ 8 (by kernel_rfl) (by kernel_rfl) (by kernel_rfl) (by kernel_rfl)) ?_
 intro W base args ds gs before hval0 hW hcnd _
 have hval:∀ (j:Nat) t v,Tryz.f9.params[j]? = some t→args[j]? = some v→Value.okWide Tryz.prog W .any base t v:=hval0
 have hW':=hW
 obtain ⟨p,q,hA0,hV,rfl,hfz,hnd⟩:=hW
 have hA:DataW.TrodAll enc Tryz.prog W 0 (fun _=>true) true Tryz.f9.params.toList args.toList ds p:=hA0
 rw [Tryz.params9] at hA hval
 obtain ⟨v0,vs0,d0,ds0,p0,q0,hargs,rfl,rfl,h0,r0⟩:=trodAll_cons hA
 obtain ⟨rfl,rfl,rfl⟩:=trodAll_nil r0
 obtain rfl:args = #[v0]:=by cases args;simp_all
 obtain ⟨rfl,rfl⟩:=trodVars_none hV
 clear hA0 hval0 hA
 simp only [List.append_nil] at hW'
 have hlt:∀ x∈p0,x.block < W.heap.size:=fun x hx=>hW'.lt x (by simpa using hx)
 have k0:=h0
 have w0:=read_Bytes (hval 0 63 v0 rfl rfl) h0 (fun x hx=>hlt x (by simp [hx]))
 refine (FnBeneath_walk v0 W w0).mono fun e W' ⟨he,hb⟩=>?_
 subst he
 exact ⟨_,rfl,post_of_below (pa:=p0 ++ []) (pv:=[]) hW' (fun _ _ _=>(trodAll_cons_mk (shut_bool Tryz.underlying4 _) trodAll_mk0)) (fun sp hsp=>(trodAll_cons_mk (stays laidOut_ (by kernel_rfl) (of_decide_eq_true (by kernel_rfl)) k0 hb (fun x hx=>hlt x (by simp [hx])) (fun x hx=>hsp x (by simp [hx]))) trodAll_mk0)) (fun _ _=>rfl) (by simp) hb
  (ok_one (by kernel_rfl) rfl (okWide_bool_mk Tryz.underlying4 _))⟩
theorem FnBeneath_inPlace:(Rows.fnBeneathRow.inPlace == Tryz.prog.inPlace 9)=true:=by kernel_rfl
theorem FnBeneath_unfollowed:(Rows.fnBeneathRow.unfollowed == Tryz.prog.unfollowed 9)=true:=by kernel_rfl
theorem FnBeneath_recurses:(Rows.fnBeneathRow.recurses == Tryz.prog.recurses 9)=true:=by kernel_rfl
theorem FnBeneath_named:(Rows.fnBeneathRow.named == Tryz.prog.varsNamed 9)=true:=by kernel_rfl
theorem FnBeneath_closed:joinedFacts Tryz.prog 9 Tryz.f9 Rows.fnBeneathSpec Rows.fnBeneathRow=true:=by
 unfold joinedFacts
 rw [laidOut_,fx_maps,fx_stops,fx_stopKnobs,fx_plain,fx_heard,fx_may,fx_lift,FnBeneath_inPlace,FnBeneath_unfollowed,FnBeneath_recurses,FnBeneath_named]
 kernel_rfl
theorem FnBeneath_over:Rows.fnBeneathRow.holds Tryz.pinned (OpenSpec.ofChange Rows.fnBeneathSpec) :=
 OpenClaim.holds_of_wide 9 Tryz.f9 rfl rfl rfl rfl rfl rfl rfl ⟨rfl,rfl,rfl,rfl,rfl⟩ rfl rfl rfl rfl rfl (by kernel_rfl) Tryz.func9 FnBeneath_closed
  (of_decide_eq_true (by kernel_rfl)) (by unfold Func.isWrapper;first | (rw [if_pos (by decide +kernel)];kernel_rfl) | (rw [if_neg (by decide +kernel)];exact ⟨rfl,rfl⟩))
  (fun os started H enc _=>FnBeneath_lifted os started H enc)
theorem FnBeneath_proved:Rows.FnBeneathSaid:=FnBeneath_over
end Go.Proofs.YtioijfplbgpjpaaGreat
