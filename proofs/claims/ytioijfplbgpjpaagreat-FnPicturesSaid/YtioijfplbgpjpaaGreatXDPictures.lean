/-
  The law FnPictures: whatever the drawn bytes: as much is covered as is shown, at each height; nothing is shown twice.
-/
import Derived.Test.YtioijfplbgpjpaaGreatKr00
import Derived.Deep.RegionHeld3
import Derived.Deep.DeepCutAuto
namespace Go.Proofs.YtioijfplbgpjpaaGreat
set_option linter.unusedVariables false
set_option linter.unusedSimpArgs false
set_option maxRecDepth 100000
open Go.RowKit Go.WideShapes Go.ChangeShapes Go.ChangeAt Go.Deep
open Go.ChangeMaps (open_string shut_string)
theorem byt_size (xs:List Int):(byt xs).size=xs.length:=by simp [byt,ByteArray.size]
theorem cnt_byt (n:Int) (xs:List Int) (h:∀ x∈xs,0≤x∧x < 256):cntB n (byt xs)=(xs.filter fun x=>x == n).length:=by
 unfold cntB byt
 rw [List.toList_toArray,List.filter_map,List.length_map]
 congr 1
 refine List.filter_congr fun x hx=>?_
 obtain ⟨h1,h2⟩:=h x hx
 show (((UInt8.ofNat x.toNat).toNat:Int) == n)=(x == n)
 rw [show ((UInt8.ofNat x.toNat).toNat:Int)=x by rw [UInt8.toNat_ofNat'];omega]
theorem filter_sum (f:Nat→Int) (n:Int):∀ W:Nat,((((List.range W).map f).filter fun x=>x == n).length:Int)=sumTo (fun q=>if f q=n then 1 else 0) W
 |0=>rfl
 |W + 1=>by
  rw [List.range_succ,List.map_append,List.filter_append,List.length_append]
  unfold sumTo
  rw [← filter_sum f n W]
  by_cases hc:f W=n <;> simp [hc]
theorem tot_sum (f:ByteArray→Nat) (g:Nat→ByteArray):∀ D:Nat,(tot f ((List.range D).map g):Int)=sumTo (fun y=>(f (g y):Int)) D
 |0=>rfl
 |D + 1=>by
  rw [List.range_succ,List.map_append,tot_append]
  unfold sumTo
  rw [← tot_sum f g D]
  simp [tot]
section
variable {r:Request} {x:Plan} {k z:Int}
theorem drawable_facts (h:drawable r x k z=true):feasible r x=true∧(0≤z∧z≤2000)∧(∃ W:Nat,r.pallet.w=W∧1≤W∧W≤40)∧(∃ D:Nat,r.pallet.d=D∧1≤D∧D≤40):=by
 unfold drawable at h
 simp only [Bool.and_eq_true,decide_eq_true_eq] at h
 obtain ⟨h1,h2,h3,_,h5⟩:=h
 obtain ⟨p1,p2,p3⟩:=pal_range h1
 have h6:=inB_iff.1 h5
 have h7:wrap64 (r.pallet.h - 1)=r.pallet.h - 1:=by unfold wrap64;omega
 exact ⟨h1,by omega,⟨r.pallet.w.toNat,by omega,by omega,by omega⟩,⟨r.pallet.d.toNat,by omega,by omega,by omega⟩⟩
theorem picture_of (h:drawable r x k z=true):pictureR r x k z=(List.range r.pallet.d.toNat).map fun y=>byt (rowP r x k z y):=by unfold pictureR;rw [if_pos h]
theorem picture_nil (h:drawable r x k z=false):pictureR r x k z=[]:=by unfold pictureR;rw [h];rfl
theorem picture_row (h:drawable r x k z=true) {j:Nat} {s:ByteArray} (hs:(pictureR r x k z)[j]? = some s):(s.size:Int)=r.pallet.w:=by
 rw [picture_of h,List.getElem?_map] at hs
 obtain ⟨_,_,⟨W,hW,_⟩,_⟩:=drawable_facts h
 cases hr:(List.range r.pallet.d.toNat)[j]? with
 |none=>rw [hr] at hs;cases hs
 |some y =>
  rw [hr] at hs
  have:=Option.some.inj hs
  rw [← this,byt_size]
  unfold rowP
  rw [List.length_map,List.length_range]
  omega
theorem row_in (y:Nat) (hc:x.cartons.length≤16777216):∀ u∈rowP r x k z y,0≤u∧u < 256:=fun u hu=>by
 obtain ⟨q,_,rfl⟩:=List.mem_map.1 hu
 exact pixS_in r x k z q y hc
theorem picture_size (hf:x.cartons.length≤16777216):tot ByteArray.size (pictureR r x k z)≤1048576:=by
 cases hd:drawable r x k z
 ·rw [picture_nil hd];decide
 ·obtain ⟨_,_,⟨W,hW,_,hW2⟩,⟨D,hD,_,hD2⟩⟩:=drawable_facts hd
  have h:=tot_mono (f:=ByteArray.size) (g:=fun s=>s.size) (fun _=>Nat.le_refl _) (pictureR r x k z)
  have hall:∀ l:List ByteArray,(∀ s∈l,s.size≤40)→tot ByteArray.size l≤40 * l.length:=by
   intro l hl
   induction l with
   |nil=>simp [tot]
   |cons s l ih =>
    have h1:=ih (fun t ht=>hl t (by simp [ht]))
    have h2:=hl s (by simp)
    simp only [tot,List.map_cons,List.sum_cons,List.length_cons] at *
    omega
  have h2:=hall (pictureR r x k z) (fun s hs=>by
   obtain ⟨j,hj⟩:=List.getElem?_of_mem hs
   have:=picture_row hd hj
   omega)
  have:=picture_len r x k z
  omega
theorem picture_blank (h:drawable r x k z=true):(tot (cntB 46) (pictureR r x k z):Int)=r.pallet.w * r.pallet.d - coveredR r x k z:=by
 obtain ⟨hf,hz,⟨W,hW,_⟩,⟨D,hD,_⟩⟩:=drawable_facts h
 have h100:=(feas_len hf).2
 rw [picture_of h,tot_sum,← blank_count hf hz hW.symm hD.symm,hD,Int.toNat_natCast]
 refine sumTo_congr D fun y _=>?_
 rw [cnt_byt 46 _ (row_in y (by omega))]
 unfold rowP
 rw [filter_sum,hW,Int.toNat_natCast]
end
set_option maxRecDepth 100000 in
set_option maxHeartbeats 40000000 in
theorem FnPictures_walk (v:Value) (w:World) (h:∃ xs,RByts 9223372036854775807 w v xs):Calls Tryz.prog 10 #[v] w fun e w'=>e=.returned (.bool true)∧Below w.heap.size w w':=by
 obtain ⟨xs,h⟩:=h
 have HV:=Lib.hid h
 clear h
 obtain ⟨bg,hbg⟩:∃ b,decide (1048576 < xs.length)=b:=⟨_,rfl⟩
 have HG:=Lib.hid hbg
 clear hbg
 go_enter Tryz.func10,Tryz.ntmps10
 go_wp2_with fail
 refine (big_any v xs _ HV.out).mono ?_
 rintro e w' ⟨rfl,rfl⟩
 rw [HG.out]
 cases bg
 case true =>
  go_wp2_with fail
  go_ret
  exact ⟨rfl,Below.refl _ _⟩
 have HB:=Lib.hid (HV.out.plain (by have:=HG.out;simp at this;omega))
 go_wp2_with fail
 refine (DrawPicture_any v xs _ _ _ (Sit.here w) HB.out).mono ?_
 rintro e w1 ⟨u,r,fp,vc,vs,x,fq,k,z,rfl,SN1,hbk,hsx⟩
 obtain ⟨vp,vt,vi,rfl,⟨A1,c1,rfl,_⟩,⟨A2,c2,rfl,_⟩,⟨A3,c3,rfl,_⟩⟩:=SN1.on _ (.head _)
 obtain ⟨zs2,hz2,⟨A7,c7,rfl,_⟩,_,⟨A8,c8,rfl,_⟩⟩:=RpOn.open (SN1.on _ (.tail _ (.head _)))
 have HZL:=Lib.hid (show zs2.length=x.cartons.length from map_fst_len hz2)
 have hL:x.bulk≤16777216:=Nat.le_trans hsx.bulk (by decide)
 have SN:=Lib.hid ((SN1.alloc (cR r A1 c1 A2 c2 A3 c3) 41).alloc #[.slice A7 zs2.length c7,.slice A8 x.spots.length c8] 46)
 simp only [World.size_alloc] at SN
 obtain ⟨b3,hb3⟩:∃ b,w1.heap.size=b:=⟨_,rfl⟩
 rw [hb3] at SN
 clear SN1 hz2
 go_upto_region 4 with fail
 (try rw [hb3])
 generalize (w1.alloc (.cells (cR r A1 c1 A2 c2 A3 c3) 41)).alloc (.cells #[.slice A7 zs2.length c7,.slice A8 x.spots.length c8] 46)=W2 at SN ⊢
 clear hb3
 have HR:=Lib.hid (SN.out.rq (v:=.agg (cR r A1 c1 A2 c2 A3 c3)) (r:=r) (fp:=fp) (.tail _ (.tail _ (.head _))) (by omega))
 have HX:=Lib.hid (SN.out.rp (vc:=.slice A7 zs2.length c7) (vs:=.slice A8 x.spots.length c8) (x:=x) (fp:=fq) (.tail _ (.tail _ (.tail _ (.head _)))) (by have:=hsx.cartons;omega) (fun c hc=>by have:=hsx.units c hc;omega) (by have:=hsx.spots;omega))
 have HLW:=Lib.hid SN.out.low
 have K3:=Lib.hid (show ∀ X:World,Below W2.heap.size W2 X→(cS10 (X) (b3) (r) (.slice A1 r.pairs.length c1) (.slice A2 r.types.length c2) (.slice A3 r.items.length c3))∧X.cell? ⟨b3 + 1,0,none⟩=some (.slice A7 zs2.length c7)∧X.cell? ⟨b3 + 1,1,none⟩=some (.slice A8 x.spots.length c8) from fun X hX=>by
  have c0:=(SN.out.next hX).box (g:=b3) (cs:=(cR r A1 c1 A2 c2 A3 c3)) (t:=41) mq
  have c1:=(SN.out.next hX).box (g:=b3 + 1) (cs:=#[.slice A7 zs2.length c7,.slice A8 x.spots.length c8]) (t:=46) mq
  exact ⟨⟨c0 0,c0 1,c0 2,c0 3,c0 4,c0 5,c0 6,c0 7,c0 8,c0 9⟩,c1 0,c1 1⟩)
 clear SN
 have SN:=Lib.hid (Sit.here W2)
 obtain ⟨P,hP⟩:∃ P,pictureR r x k z=P:=⟨_,rfl⟩
 have HP:=Lib.hid hP
 have hpl:P.length≤40:=by rw [← hP];exact picture_len r x k z
 have hx100:=hsx.cartons
 have HT:=Lib.hid (show tot ByteArray.size P≤1048576 by rw [← hP];exact picture_size (by omega))
 obtain ⟨dr,hdr⟩:∃ d,drawable r x k z=d:=⟨_,rfl⟩
 have HDR:=Lib.hid hdr
 obtain ⟨q,hq⟩:∃ q,feasible r x=q:=⟨_,rfl⟩
 have HQ:=Lib.hid hq
 obtain ⟨cv,hcv⟩:∃ c,coveredR r x k z=c:=⟨_,rfl⟩
 have HCV:=Lib.hid hcv
 clear hP hq hcv hdr
 obtain ⟨⟨k0,k1,k2,k3,k4,k5,k6,k7,k8,k9⟩,p0,p1⟩:=K3.out _ SN.out.low
 go_wp2_with fail
 refine (iPicture_any _ _ r x k z _ (HR.out.next SN.out.low) (HX.out.next SN.out.low) hL).mono ?_
 intro e1 w3 hm
 rw [HP.out] at hm
 obtain ⟨v6,f6,rfl,SN1⟩:=SN.out.gotOF hm
 obtain ⟨A6,c6,rfl,_⟩:=(SN1.list (.head _)).form
 have SQ:=Lib.hid SN1
 clear SN SN1 hm
 clear k0 k1 k2 k3 k4 k5 k6 k7 k8 k9 p0 p1
 have SN:=SQ
 clear SQ
 obtain ⟨⟨k0,k1,k2,k3,k4,k5,k6,k7,k8,k9⟩,p0,p1⟩:=K3.out _ SN.out.low
 go_wp2_with fail
 refine (sPicture_any _ _ r x k z _ (HR.out.next SN.out.low) (HX.out.next SN.out.low) hL).mono ?_
 intro e2 w4 hm
 rw [HP.out] at hm
 obtain ⟨v7,f7,rfl,SN1⟩:=SN.out.gotOF hm
 obtain ⟨A9,c9,rfl,_⟩:=(SN1.list (.head _)).form
 have SQ:=Lib.hid SN1
 clear SN SN1 hm
 have SN:=SQ
 clear SQ
 clear k0 k1 k2 k3 k4 k5 k6 k7 k8 k9 p0 p1
 have HCC:=Lib.hid (show ∀ X:World,Below w4.heap.size w4 X→(cS10 (X) (b3) (r) (.slice A1 r.pairs.length c1) (.slice A2 r.types.length c2) (.slice A3 r.items.length c3))∧X.cell? ⟨b3 + 1,0,none⟩=some (.slice A7 zs2.length c7)∧X.cell? ⟨b3 + 1,1,none⟩=some (.slice A8 x.spots.length c8) from fun X hX=>K3.out X (SN.out.next hX).low)
 have hcc:(cv != cv)=false:=by simp
 go_wp2_with fail
 refine regu (S:=(fun X=>(cS10 (X) (b3) (r) (.slice A1 r.pairs.length c1) (.slice A2 r.types.length c2) (.slice A3 r.items.length c3))∧X.cell? ⟨b3 + 1,0,none⟩=some (.slice A7 zs2.length c7)∧X.cell? ⟨b3 + 1,1,none⟩=some (.slice A8 x.spots.length c8))) (by kernel_rfl) (fun _ _ _ _ _=>id) ?_ fun hHeld=>?_
 ·(first | (refine HCC.out _ ?_;(repeat' with_reducible first | assumption | exact bR | apply bD | apply bA | apply bC | apply bW | omega | simp <;> omega);done) | go_keep)
 refine tku (b:=?_) [0,1,2,3,4,5,6,7,8,9,11,12,13,14] (by kernel_rfl) hHeld ?_ ?_
 rotate_left
 ·repeat first
  |exact .nil
  |refine .yes (v:=?_) rfl (by rfl) ?_ ?_
   rotate_left
   ·intro w9 hSw;(try dsimp only at hSw);go_simp;(try with_reducible rfl)
   (try simp only [aP,aZ,aS,aG,aH,aI])
 refine onu 10 rfl (by kernel_rfl) fun K hK=>?_
 go_simp
 ((go_at_call 28;refine (iCovered_any _ _ r x k z _ (HR.out.next (SN.out.next (by (repeat' with_reducible first | assumption | exact bR | apply bD | apply bA | apply bC | apply bW | omega | simp <;> omega))).low) (HX.out.next (SN.out.next (by (repeat' with_reducible first | assumption | exact bR | apply bD | apply bA | apply bC | apply bW | omega | simp <;> omega))).low) hL).mono ?_;rintro e w5 ⟨rfl,hb5⟩;rw [HCV.out];have hn5:=bstep (a:=w4) (by (repeat' with_reducible first | assumption | exact bR | apply bD | apply bA | apply bC | apply bW | omega | simp <;> omega)) hb5))
 refine hK.out _ _ ?_ (fun hHeld=>?_)
 ·(first | (refine HCC.out _ ?_;(repeat' with_reducible first | assumption | exact bR | apply bD | apply bA | apply bC | apply bW | omega | simp <;> omega);done) | go_keep)
 clear hK K
 (try simp only [aP,aZ,aS,aG,aH,aI])
 refine onu 15 rfl (by kernel_rfl) fun K hK=>?_
 go_simp
 ((go_at_call 27;refine (sCovered_any _ _ r x k z _ (HR.out.next (SN.out.next (by (repeat' with_reducible first | assumption | exact bR | apply bD | apply bA | apply bC | apply bW | omega | simp <;> omega))).low) (HX.out.next (SN.out.next (by (repeat' with_reducible first | assumption | exact bR | apply bD | apply bA | apply bC | apply bW | omega | simp <;> omega))).low) hL).mono ?_;rintro e w6 ⟨rfl,hb6⟩;rw [HCV.out];have hn6:=bstep (a:=w4) (by (repeat' with_reducible first | assumption | exact bR | apply bD | apply bA | apply bC | apply bW | omega | simp <;> omega)) hb6))
 refine hK.out _ _ ?_ (fun hHeld=>?_)
 ·(first | (refine HCC.out _ ?_;(repeat' with_reducible first | assumption | exact bR | apply bD | apply bA | apply bC | apply bW | omega | simp <;> omega);done) | go_keep)
 clear hK K
 (try simp only [aP,aZ,aS,aG,aH,aI])
 refine tku (b:=?_) [16] (by kernel_rfl) hHeld ?_ ?_
 rotate_left
 ·repeat first
  |exact .nil
  |refine .yes (v:=?_) rfl (by rfl) ?_ ?_
   rotate_left
   ·intro w9 hSw;(try dsimp only at hSw);go_simp;(try with_reducible rfl)
   (try simp only [aP,aZ,aS,aG,aH,aI])
 refine lsu 17 rfl (by kernel_rfl) fun K hK=>?_
 go_simp
 refine hK.out _ _ ?_
 clear hK K
 (try simp only [aP,aZ,aS,aG,aH,aI])
 skip
 have SN:=Lib.hid (SN.out.next hn6)
 clear hn5 hn6 hb5 hb6 hcc HCC
 go_wp2
 go_loopw [9] (fun i wr=>∃ j:Nat,j≤P.length∧i=.int .i64 j∧Hid (Sit W2 wr [fOF cS 9 1 W2.heap.size (.slice A9 P.length c9) P f7,fOF cS 9 1 W2.heap.size (.slice A6 P.length c6) P f6])) (fun i _=>P.length - (intOf i).toNat)
 case atStart=>exact ⟨0,Nat.zero_le _,rfl,SN⟩
 case round =>
  clear SN
  obtain ⟨j,hj,rfl,SN⟩:=hrel
  by_cases hlt:j < P.length
  ·obtain ⟨s,hs⟩:∃ s,P[j]? = some s:=⟨_,List.getElem?_eq_getElem hlt⟩
   have HS:=Lib.hid hs
   have hdt:dr=true:=by
    cases dr
    ·have:=HP.out;rw [picture_nil HDR.out] at this;rw [← this] at hlt;simp at hlt
    ·rfl
   subst hdt
   have hsz:=picture_row HDR.out (j:=j) (s:=s) (by rw [HP.out];exact hs)
   obtain ⟨g9,rfl⟩:=head_ptr (SN.out.list (.head _)) hs
   obtain ⟨g6,rfl⟩:=head_ptr (SN.out.list (.tail _ (.head _))) hs
   have hsw:((s.size:Int) != r.pallet.w)=false:=by rw [hsz];simp
   have hji:(j:Int) < (P.length:Int):=by omega
   have HCC:=Lib.hid (show ∀ X:World,Below wr.heap.size wr X→((cS10 (X) (b3) (r) (.slice A1 r.pairs.length c1) (.slice A2 r.types.length c2) (.slice A3 r.items.length c3))∧X.cell? ⟨b3 + 1,0,none⟩=some (.slice A7 zs2.length c7)∧X.cell? ⟨b3 + 1,1,none⟩=some (.slice A8 x.spots.length c8))∧X.cell? ⟨g6,j,none⟩=some (.string s)∧X.cell? ⟨g9,j,none⟩=some (.string s) from fun X hX=>by
    have hX:=SN.out.next hX
    have q1:=(hX.list (.tail _ (.head _))).cells (fun z=>rfl) HS.out 0 (.string s) rfl
    have q2:=(hX.list (.head _)).cells (fun z=>rfl) HS.out 0 (.string s) rfl
    rw [Nat.mul_one,Nat.add_zero] at q1 q2
    exact ⟨K3.out X hX.low,q1,q2⟩)
   clear hs
   go_wp2_with fail
   refine regu (S:=(fun X=>((cS10 (X) (b3) (r) (.slice A1 r.pairs.length c1) (.slice A2 r.types.length c2) (.slice A3 r.items.length c3))∧X.cell? ⟨b3 + 1,0,none⟩=some (.slice A7 zs2.length c7)∧X.cell? ⟨b3 + 1,1,none⟩=some (.slice A8 x.spots.length c8))∧X.cell? ⟨g6,j,none⟩=some (.string s)∧X.cell? ⟨g9,j,none⟩=some (.string s))) (by kernel_rfl) (fun _ _ _ _ _=>id) ?_ fun hHeld=>?_
   ·(first | (refine HCC.out _ ?_;(repeat' with_reducible first | assumption | exact bR | apply bD | apply bA | apply bC | apply bW | omega | simp <;> omega);done) | go_keep)
   refine tku (b:=?_) [0,1,2,3,4,5,6,7,8,9,10,11,12,13,14,15,16,17,18] (by kernel_rfl) hHeld ?_ ?_
   rotate_left
   ·repeat first
    |exact .nil
    |refine .yes (v:=?_) rfl (by rfl) ?_ ?_
     rotate_left
     ·intro w9 hSw;(try dsimp only at hSw);go_simp;(try with_reducible rfl)
     (try simp only [aP,aZ,aS,aG,aH,aI])
   refine lsu 19 rfl (by kernel_rfl) fun K hK=>?_
   go_simp
   refine hK.out _ _ ?_
   clear hK K
   (try simp only [aP,aZ,aS,aG,aH,aI])
   go_wp2
   go_roundw
   case rel=>exact ⟨j + 1,hlt,by go_num,Lib.hid (SN.out.next (by (repeat' with_reducible first | assumption | exact bR | apply bD | apply bA | apply bC | apply bW | omega | simp <;> omega)))⟩
   case measure=>simp [intOf] <;> omega
  ·obtain rfl:j=P.length:=by omega
   by_cases hp0:P.length=0
   ·have hpe:((P.length:Int) == 0)=true:=beq_iff_eq.2 (by omega)
    obtain rfl:P=[]:=List.eq_nil_of_length_eq_zero hp0
    obtain ⟨⟨k0,k1,k2,k3,k4,k5,k6,k7,k8,k9⟩,p0,p1⟩:=K3.out _ SN.out.low
    go_wp2_with fail
    refine (sFeasible_any _ _ r x _ (HR.out.next SN.out.low) (HX.out.next SN.out.low) hL).mono ?_
    rintro e3 w7 ⟨rfl,hb⟩
    rw [HQ.out]
    have SN:=Lib.hid (SN.out.next hb)
    clear hb
    clear k0 k1 k2 k3 k4 k5 k6 k7 k8 k9 p0 p1
    cases q
    ·go_wp2
     go_ret
     exact ⟨rfl,bstep HLW.out SN.out.low⟩
    ·go_wp2_with (go_at_call 55;refine (iCount_any _ [] 97 _ (OF.read (bd:=16777216) (SN.out.list (.tail _ (.head _))) (fun _=>rfl) (by simp)) (by decide)).mono ?_;rintro e w8 ⟨rfl,rfl⟩;rw [show tot (cntB 97) ([]:List ByteArray)=0 from rfl])
     go_ret
     exact ⟨rfl,bstep HLW.out SN.out.low⟩
   ·have hpe:((P.length:Int) == 0)=false:=beq_eq_false_iff_ne.2 (by omega)
    have hdt:dr=true:=by
     cases dr
     ·have:=HP.out;rw [picture_nil HDR.out] at this;rw [← this] at hp0;simp at hp0
     ·rfl
    subst hdt
    obtain ⟨hf,hz,⟨W,hW,hW1,hW2⟩,⟨D,hD,hD1,hD2⟩⟩:=drawable_facts HDR.out
    have hbl:=picture_blank HDR.out
    rw [HP.out,HCV.out] at hbl
    obtain ⟨nb,hnb⟩:∃ n,tot (cntB 46) P=n:=⟨_,rfl⟩
    obtain ⟨na,hna⟩:∃ n,tot (cntB 97) P=n:=⟨_,rfl⟩
    have HNB:=Lib.hid hnb
    have HNA:=Lib.hid hna
    rw [hnb] at hbl
    have hpd:(P.length:Int)=r.pallet.d:=by
     have:=HP.out
     rw [picture_of HDR.out] at this
     rw [← this,List.length_map,List.length_range]
     omega
    have hwd:0≤r.pallet.w * r.pallet.d∧r.pallet.w * r.pallet.d≤1600:=by
     rw [hW,hD]
     have:=Nat.mul_le_mul hW2 hD2
     exact ⟨by exact_mod_cast Nat.zero_le _,by exact_mod_cast this⟩
    have hm1:IntKind.i64.wrap (r.pallet.w * r.pallet.d)=r.pallet.w * r.pallet.d:=by rw [wrapE];unfold wrap64;omega
    have hm2:IntKind.i64.wrap (r.pallet.w * r.pallet.d - (nb:Int))=cv:=by
     have hnn:(nb:Int)≤1048576:=by
      have h1:nb≤tot ByteArray.size P:=by rw [← HNB.out];exact tot_mono (fun s=>by unfold cntB ByteArray.size;exact List.length_filter_le _ _) P
      have:=HT.out
      omega
     rw [wrapE];unfold wrap64;omega
    have hpb:((P.length:Int) == r.pallet.d)=true:=beq_iff_eq.2 hpd
    have hnn:((na:Int) == (na:Int))=true:=by simp
    have hcb:(cv == cv)=true:=by simp
    have HCC:=Lib.hid (show ∀ X:World,Below wr.heap.size wr X→(cS10 (X) (b3) (r) (.slice A1 r.pairs.length c1) (.slice A2 r.types.length c2) (.slice A3 r.items.length c3))∧X.cell? ⟨b3 + 1,0,none⟩=some (.slice A7 zs2.length c7)∧X.cell? ⟨b3 + 1,1,none⟩=some (.slice A8 x.spots.length c8) from fun X hX=>K3.out X (SN.out.next hX).low)
    clear hnb hna hbl hpd hwd hW hD hW1 hW2 hD1 hD2
    go_wp2_with fail
    refine regu (S:=(fun X=>(cS10 (X) (b3) (r) (.slice A1 r.pairs.length c1) (.slice A2 r.types.length c2) (.slice A3 r.items.length c3))∧X.cell? ⟨b3 + 1,0,none⟩=some (.slice A7 zs2.length c7)∧X.cell? ⟨b3 + 1,1,none⟩=some (.slice A8 x.spots.length c8))) (by kernel_rfl) (fun _ _ _ _ _=>id) ?_ fun hHeld=>?_
    ·(first | (refine HCC.out _ ?_;(repeat' with_reducible first | assumption | exact bR | apply bD | apply bA | apply bC | apply bW | omega | simp <;> omega);done) | go_keep)
    refine tku (b:=?_) [0,1,2,3,5,6,7,8,9,10,11,12] (by kernel_rfl) hHeld ?_ ?_
    rotate_left
    ·repeat first
     |exact .nil
     |refine .yes (v:=?_) rfl (by rfl) ?_ ?_
      rotate_left
      ·intro w9 hSw;(try dsimp only at hSw);go_simp;(try with_reducible rfl)
      (try simp only [aP,aZ,aS,aG,aH,aI])
    refine onu 4 rfl (by kernel_rfl) fun K hK=>?_
    go_simp
    ((go_at_call 28;refine (iCovered_any _ _ r x k z _ (HR.out.next (SN.out.next (by (repeat' with_reducible first | assumption | exact bR | apply bD | apply bA | apply bC | apply bW | omega | simp <;> omega))).low) (HX.out.next (SN.out.next (by (repeat' with_reducible first | assumption | exact bR | apply bD | apply bA | apply bC | apply bW | omega | simp <;> omega))).low) hL).mono ?_;rintro e w7 ⟨rfl,hb7⟩;rw [HCV.out];have hn7:=bstep (a:=wr) (by (repeat' with_reducible first | assumption | exact bR | apply bD | apply bA | apply bC | apply bW | omega | simp <;> omega)) hb7))
    refine hK.out _ _ ?_ (fun hHeld=>?_)
    ·(first | (refine HCC.out _ ?_;(repeat' with_reducible first | assumption | exact bR | apply bD | apply bA | apply bC | apply bW | omega | simp <;> omega);done) | go_keep)
    clear hK K
    (try simp only [aP,aZ,aS,aG,aH,aI])
    refine onu 13 rfl (by kernel_rfl) fun K hK=>?_
    go_simp
    ((go_at_call 55;refine (iCount_any _ P 46 _ (OF.read (bd:=16777216) ((SN.out.next (by (repeat' with_reducible first | assumption | exact bR | apply bD | apply bA | apply bC | apply bW | omega | simp <;> omega))).list (.tail _ (.head _))) (fun _=>rfl) (by omega)) HT.out).mono ?_;rintro e w8 ⟨rfl,rfl⟩;rw [HNB.out]))
    refine hK.out _ _ ?_ (fun hHeld=>?_)
    ·(first | (refine HCC.out _ ?_;(repeat' with_reducible first | assumption | exact bR | apply bD | apply bA | apply bC | apply bW | omega | simp <;> omega);done) | go_keep)
    clear hK K
    (try simp only [aP,aZ,aS,aG,aH,aI])
    refine tku (b:=?_) [14,15,16,17,18,19,20,21,22,23,24,25,27] (by kernel_rfl) hHeld ?_ ?_
    rotate_left
    ·repeat first
     |exact .nil
     |refine .yes (v:=?_) rfl (by rfl) ?_ ?_
      rotate_left
      ·intro w9 hSw;(try dsimp only at hSw);go_simp;(try with_reducible rfl)
      (try simp only [aP,aZ,aS,aG,aH,aI])
    refine onu 26 rfl (by kernel_rfl) fun K hK=>?_
    go_simp
    ((go_at_call 55;refine (iCount_any _ P 97 _ (OF.read (bd:=16777216) ((SN.out.next (by (repeat' with_reducible first | assumption | exact bR | apply bD | apply bA | apply bC | apply bW | omega | simp <;> omega))).list (.tail _ (.head _))) (fun _=>rfl) (by omega)) HT.out).mono ?_;rintro e w9 ⟨rfl,rfl⟩;rw [HNA.out]))
    refine hK.out _ _ ?_ (fun hHeld=>?_)
    ·(first | (refine HCC.out _ ?_;(repeat' with_reducible first | assumption | exact bR | apply bD | apply bA | apply bC | apply bW | omega | simp <;> omega);done) | go_keep)
    clear hK K
    (try simp only [aP,aZ,aS,aG,aH,aI])
    refine onu 28 rfl (by kernel_rfl) fun K hK=>?_
    go_simp
    ((go_at_call 56;refine (sCount_any _ P 97 _ (OF.read (bd:=16777216) ((SN.out.next (by (repeat' with_reducible first | assumption | exact bR | apply bD | apply bA | apply bC | apply bW | omega | simp <;> omega))).list (.tail _ (.head _))) (fun _=>rfl) (by omega)) HT.out).mono ?_;rintro e w10 ⟨rfl,rfl⟩;rw [HNA.out]))
    refine hK.out _ _ ?_ (fun hHeld=>?_)
    ·(first | (refine HCC.out _ ?_;(repeat' with_reducible first | assumption | exact bR | apply bD | apply bA | apply bC | apply bW | omega | simp <;> omega);done) | go_keep)
    clear hK K
    (try simp only [aP,aZ,aS,aG,aH,aI])
    refine tku (b:=?_) [29,30] (by kernel_rfl) hHeld ?_ ?_
    rotate_left
    ·repeat first
     |exact .nil
     |refine .yes (v:=?_) rfl (by rfl) ?_ ?_
      rotate_left
      ·intro w9 hSw;(try dsimp only at hSw);go_simp;(try with_reducible rfl)
      (try simp only [aP,aZ,aS,aG,aH,aI])
    refine lsu 31 rfl (by kernel_rfl) fun K hK=>?_
    go_simp
    refine hK.out _ _ ?_
    clear hK K
    (try simp only [aP,aZ,aS,aG,aH,aI])
    go_wp2_with fail
    go_ret
    exact ⟨rfl,bstep HLW.out (SN.out.next (by (repeat' with_reducible first | assumption | exact bR | apply bD | apply bA | apply bC | apply bW | omega | simp <;> omega))).low⟩
set_option maxRecDepth 100000 in
theorem FnPictures_lifted (os:Os) (started:os.Started) (H:Type) (enc:TypeId×Value→H) :
  ReturnsInHanded {} Tryz.checked os 10 .any (Rows.fnPicturesSpec.pre6 enc Tryz.prog Tryz.f10 Rows.fnPicturesRow.domain false) (Rows.fnPicturesSpec.post enc Tryz.prog Tryz.f10 false true false false):=by
 refine returnsInHanded_of_change (C:=Tryz.checked) own_ started (by kernel_rfl) Tryz.func10
  (ChangeSpec.witness6 (enc:=enc) (C:=Tryz.checked) false ⟨#[],#[.slice none 0 0],[]⟩ 8 (by kernel_rfl) (by kernel_rfl) (by kernel_rfl) (by kernel_rfl)) ?_
 intro W base args ds gs before hval0 hW hcnd _
 have hval:∀ (j:Nat) t v,Tryz.f10.params[j]? = some t→args[j]? = some v→Value.okWide Tryz.prog W .any base t v:=hval0
 have hW':=hW
 obtain ⟨p,q,hA0,hV,rfl,hfz,hnd⟩:=hW
 have hA:DataW.TrodAll enc Tryz.prog W 0 (fun _=>true) true Tryz.f10.params.toList args.toList ds p:=hA0
 rw [Tryz.params10] at hA hval
 obtain ⟨v0,vs0,d0,ds0,p0,q0,hargs,rfl,rfl,h0,r0⟩:=trodAll_cons hA
 obtain ⟨rfl,rfl,rfl⟩:=trodAll_nil r0
 obtain rfl:args = #[v0]:=by cases args;simp_all
 obtain ⟨rfl,rfl⟩:=trodVars_none hV
 clear hA0 hval0 hA
 simp only [List.append_nil] at hW'
 have hlt:∀ x∈p0,x.block < W.heap.size:=fun x hx=>hW'.lt x (by simpa using hx)
 have k0:=h0
 have w0:=read_Bytes (hval 0 63 v0 rfl rfl) h0 (fun x hx=>hlt x (by simp [hx]))
 refine (FnPictures_walk v0 W w0).mono fun e W' ⟨he,hb⟩=>?_
 subst he
 exact ⟨_,rfl,post_of_below (pa:=p0 ++ []) (pv:=[]) hW' (fun _ _ _=>(trodAll_cons_mk (shut_bool Tryz.underlying4 _) trodAll_mk0)) (fun sp hsp=>(trodAll_cons_mk (stays laidOut_ (by kernel_rfl) (of_decide_eq_true (by kernel_rfl)) k0 hb (fun x hx=>hlt x (by simp [hx])) (fun x hx=>hsp x (by simp [hx]))) trodAll_mk0)) (fun _ _=>rfl) (by simp) hb
  (ok_one (by kernel_rfl) rfl (okWide_bool_mk Tryz.underlying4 _))⟩
theorem FnPictures_inPlace:(Rows.fnPicturesRow.inPlace == Tryz.prog.inPlace 10)=true:=by kernel_rfl
theorem FnPictures_unfollowed:(Rows.fnPicturesRow.unfollowed == Tryz.prog.unfollowed 10)=true:=by kernel_rfl
theorem FnPictures_recurses:(Rows.fnPicturesRow.recurses == Tryz.prog.recurses 10)=true:=by kernel_rfl
theorem FnPictures_named:(Rows.fnPicturesRow.named == Tryz.prog.varsNamed 10)=true:=by kernel_rfl
theorem FnPictures_closed:joinedFacts Tryz.prog 10 Tryz.f10 Rows.fnPicturesSpec Rows.fnPicturesRow=true:=by
 unfold joinedFacts
 rw [laidOut_,fx_maps,fx_stops,fx_stopKnobs,fx_plain,fx_heard,fx_may,fx_lift,FnPictures_inPlace,FnPictures_unfollowed,FnPictures_recurses,FnPictures_named]
 kernel_rfl
theorem FnPictures_over:Rows.fnPicturesRow.holds Tryz.pinned (OpenSpec.ofChange Rows.fnPicturesSpec) :=
 OpenClaim.holds_of_wide 10 Tryz.f10 rfl rfl rfl rfl rfl rfl rfl ⟨rfl,rfl,rfl,rfl,rfl⟩ rfl rfl rfl rfl rfl (by kernel_rfl) Tryz.func10 FnPictures_closed
  (of_decide_eq_true (by kernel_rfl)) (by unfold Func.isWrapper;first | (rw [if_pos (by decide +kernel)];kernel_rfl) | (rw [if_neg (by decide +kernel)];exact ⟨rfl,rfl⟩))
  (fun os started H enc _=>FnPictures_lifted os started H enc)
theorem FnPictures_proved:Rows.FnPicturesSaid:=FnPictures_over
end Go.Proofs.YtioijfplbgpjpaaGreat
