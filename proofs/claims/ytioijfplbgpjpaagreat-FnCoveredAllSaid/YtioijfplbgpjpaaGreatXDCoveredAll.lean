/-
  The law FnCoveredAll: whatever the drawn bytes: what is covered at all heights together is the volume of all cartons of the pallet; a fall does not turn it.
-/
import Derived.Test.YtioijfplbgpjpaaGreatKq00
import Derived.Deep.RegionHeld3
import Derived.Deep.DeepCutAuto
namespace Go.Proofs.YtioijfplbgpjpaaGreat
set_option linter.unusedVariables false
set_option linter.unusedSimpArgs false
set_option maxRecDepth 100000
open Go.RowKit Go.WideShapes Go.ChangeShapes Go.ChangeAt Go.Deep
open Go.ChangeMaps (open_string shut_string)
theorem wrap_acc (a b:Int):wrap64 (wrap64 a + b)=wrap64 (a + b):=by unfold wrap64;omega
theorem dropped_bulk (r:Request) (x:Plan):(droppedR r x).bulk=x.bulk:=by
 unfold droppedR
 split
 ·unfold Plan.bulk
  rw [drop_len]
 ·rfl
theorem sum_step {l:List Int} {j:Nat} {i:Int} (f:Int→Int) (h:l[j]? = some i):((l.take (j + 1)).map f).sum=((l.take j).map f).sum + f i:=by
 rw [List.take_add_one,h,List.map_append,List.sum_append]
 simp
set_option maxRecDepth 100000 in
set_option maxHeartbeats 40000000 in
theorem FnCoveredAll_walk (v:Value) (w:World) (h:∃ xs,RByts 9223372036854775807 w v xs):Calls Tryz.prog 16 #[v] w fun e w'=>e=.returned (.bool true)∧Below w.heap.size w w':=by
 obtain ⟨xs,h⟩:=h
 have HV:=Lib.hid h
 clear h
 obtain ⟨bg,hbg⟩:∃ b,decide (1048576 < xs.length)=b:=⟨_,rfl⟩
 have HG:=Lib.hid hbg
 clear hbg
 go_enter Tryz.func16,Tryz.ntmps16
 go_wp2_with fail
 refine (big_any v xs _ HV.out).mono ?_
 rintro e w' ⟨rfl,rfl⟩
 rw [HG.out]
 cases bg
 case true =>
  go_wp2_with fail
  go_ret
  exact ⟨rfl,Below.refl _ _⟩
 have HB:=Lib.hid (HV.out.plain (by have:=HG.out;simp at this;omega))
 go_wp2_with fail
 refine (DrawHeights_any v xs _ _ _ (Sit.here w) HB.out).mono ?_
 rintro e w1 ⟨u,r,fp,vc,vs,x,fq,k,rfl,SN1,hbk,hsx⟩
 obtain ⟨vp,vt,vi,rfl,⟨A1,c1,rfl,_⟩,⟨A2,c2,rfl,_⟩,⟨A3,c3,rfl,_⟩⟩:=SN1.on _ (.head _)
 obtain ⟨zs2,hz2,⟨A7,c7,rfl,_⟩,_,⟨A8,c8,rfl,_⟩⟩:=RpOn.open (SN1.on _ (.tail _ (.head _)))
 have HZL:=Lib.hid (show zs2.length=x.cartons.length from map_fst_len hz2)
 have hL:x.bulk≤16777216:=Nat.le_trans hsx.bulk (by decide)
 have SN:=Lib.hid ((SN1.alloc (cR r A1 c1 A2 c2 A3 c3) 41).alloc #[.slice A7 zs2.length c7,.slice A8 x.spots.length c8] 46)
 simp only [World.size_alloc] at SN
 obtain ⟨b3,hb3⟩:∃ b,w1.heap.size=b:=⟨_,rfl⟩
 rw [hb3] at SN
 clear SN1 hz2
 go_upto_region 4 with fail
 (try rw [hb3])
 generalize (w1.alloc (.cells (cR r A1 c1 A2 c2 A3 c3) 41)).alloc (.cells #[.slice A7 zs2.length c7,.slice A8 x.spots.length c8] 46)=W2 at SN ⊢
 clear hb3
 have HR:=Lib.hid (SN.out.rq (v:=.agg (cR r A1 c1 A2 c2 A3 c3)) (r:=r) (fp:=fp) (.tail _ (.tail _ (.head _))) (by omega))
 have HX:=Lib.hid (SN.out.rp (vc:=.slice A7 zs2.length c7) (vs:=.slice A8 x.spots.length c8) (x:=x) (fp:=fq) (.tail _ (.tail _ (.tail _ (.head _)))) (by have:=hsx.cartons;omega) (fun c hc=>by have:=hsx.units c hc;omega) (by have:=hsx.spots;omega))
 have HLW:=Lib.hid SN.out.low
 have K3:=Lib.hid (show ∀ X:World,Below W2.heap.size W2 X→(cS10 (X) (b3) (r) (.slice A1 r.pairs.length c1) (.slice A2 r.types.length c2) (.slice A3 r.items.length c3))∧X.cell? ⟨b3 + 1,0,none⟩=some (.slice A7 zs2.length c7)∧X.cell? ⟨b3 + 1,1,none⟩=some (.slice A8 x.spots.length c8) from fun X hX=>by
  have c0:=(SN.out.next hX).box (g:=b3) (cs:=(cR r A1 c1 A2 c2 A3 c3)) (t:=41) mq
  have c1:=(SN.out.next hX).box (g:=b3 + 1) (cs:=#[.slice A7 zs2.length c7,.slice A8 x.spots.length c8]) (t:=46) mq
  exact ⟨⟨c0 0,c0 1,c0 2,c0 3,c0 4,c0 5,c0 6,c0 7,c0 8,c0 9⟩,c1 0,c1 1⟩)
 clear SN
 have SN:=Lib.hid (Sit.here W2)
 obtain ⟨q,hq⟩:∃ q,feasible r x=q:=⟨_,rfl⟩
 have HQ:=Lib.hid hq
 obtain ⟨c0,hc0⟩:∃ c,coveredR r x k 0=c:=⟨_,rfl⟩
 have HC0:=Lib.hid hc0
 have hqq:(q != q)=false:=by cases q <;> rfl
 have hcc:(c0 != c0)=false:=by simp
 clear hq hc0
 refine regu (S:=(fun X=>(cS10 (X) (b3) (r) (.slice A1 r.pairs.length c1) (.slice A2 r.types.length c2) (.slice A3 r.items.length c3))∧X.cell? ⟨b3 + 1,0,none⟩=some (.slice A7 zs2.length c7)∧X.cell? ⟨b3 + 1,1,none⟩=some (.slice A8 x.spots.length c8))) (by kernel_rfl) (fun _ _ _ _ _=>id) ?_ fun hHeld=>?_
 ·(first | (refine K3.out _ ?_;(repeat' with_reducible first | assumption | exact bR | apply bD | apply bA | apply bC | apply bW | omega | simp <;> omega);done) | go_keep)
 refine tku (b:=?_) [0,1,3,4] (by kernel_rfl) hHeld ?_ ?_
 rotate_left
 ·repeat first
  |exact .nil
  |refine .yes (v:=?_) rfl (by rfl) ?_ ?_
   rotate_left
   ·intro w9 hSw;(try dsimp only at hSw);go_simp;(try with_reducible rfl)
   (try simp only [aP,aZ,aS,aG,aH,aI])
 refine onu 2 rfl (by kernel_rfl) fun K hK=>?_
 go_simp
 ((go_at_call 62;refine (iFeasible_any _ _ r x _ (HR.out.next (SN.out.next (by (repeat' with_reducible first | assumption | exact bR | apply bD | apply bA | apply bC | apply bW | omega | simp <;> omega))).low) (HX.out.next (SN.out.next (by (repeat' with_reducible first | assumption | exact bR | apply bD | apply bA | apply bC | apply bW | omega | simp <;> omega))).low) hL).mono ?_;rintro e w3 ⟨rfl,hb3⟩;rw [HQ.out];have hn3:=bstep (a:=W2) (by (repeat' with_reducible first | assumption | exact bR | apply bD | apply bA | apply bC | apply bW | omega | simp <;> omega)) hb3))
 refine hK.out _ _ ?_ (fun hHeld=>?_)
 ·(first | (refine K3.out _ ?_;(repeat' with_reducible first | assumption | exact bR | apply bD | apply bA | apply bC | apply bW | omega | simp <;> omega);done) | go_keep)
 clear hK K
 (try simp only [aP,aZ,aS,aG,aH,aI])
 refine onu 5 rfl (by kernel_rfl) fun K hK=>?_
 go_simp
 ((go_at_call 51;refine (sFeasible_any _ _ r x _ (HR.out.next (SN.out.next (by (repeat' with_reducible first | assumption | exact bR | apply bD | apply bA | apply bC | apply bW | omega | simp <;> omega))).low) (HX.out.next (SN.out.next (by (repeat' with_reducible first | assumption | exact bR | apply bD | apply bA | apply bC | apply bW | omega | simp <;> omega))).low) hL).mono ?_;rintro e w4 ⟨rfl,hb4⟩;rw [HQ.out];have hn4:=bstep (a:=W2) (by (repeat' with_reducible first | assumption | exact bR | apply bD | apply bA | apply bC | apply bW | omega | simp <;> omega)) hb4))
 refine hK.out _ _ ?_ (fun hHeld=>?_)
 ·(first | (refine K3.out _ ?_;(repeat' with_reducible first | assumption | exact bR | apply bD | apply bA | apply bC | apply bW | omega | simp <;> omega);done) | go_keep)
 clear hK K
 (try simp only [aP,aZ,aS,aG,aH,aI])
 refine tku (b:=?_) [6,7,8,9,10,12,13,14] (by kernel_rfl) hHeld ?_ ?_
 rotate_left
 ·repeat first
  |exact .nil
  |refine .yes (v:=?_) rfl (by rfl) ?_ ?_
   rotate_left
   ·intro w9 hSw;(try dsimp only at hSw);go_simp;(try with_reducible rfl)
   (try simp only [aP,aZ,aS,aG,aH,aI])
 refine onu 11 rfl (by kernel_rfl) fun K hK=>?_
 go_simp
 ((go_at_call 28;refine (iCovered_any _ _ r x k 0 _ (HR.out.next (SN.out.next (by (repeat' with_reducible first | assumption | exact bR | apply bD | apply bA | apply bC | apply bW | omega | simp <;> omega))).low) (HX.out.next (SN.out.next (by (repeat' with_reducible first | assumption | exact bR | apply bD | apply bA | apply bC | apply bW | omega | simp <;> omega))).low) hL).mono ?_;rintro e w5 ⟨rfl,hb5⟩;rw [HC0.out];have hn5:=bstep (a:=W2) (by (repeat' with_reducible first | assumption | exact bR | apply bD | apply bA | apply bC | apply bW | omega | simp <;> omega)) hb5))
 refine hK.out _ _ ?_ (fun hHeld=>?_)
 ·(first | (refine K3.out _ ?_;(repeat' with_reducible first | assumption | exact bR | apply bD | apply bA | apply bC | apply bW | omega | simp <;> omega);done) | go_keep)
 clear hK K
 (try simp only [aP,aZ,aS,aG,aH,aI])
 refine onu 15 rfl (by kernel_rfl) fun K hK=>?_
 go_simp
 ((go_at_call 27;refine (sCovered_any _ _ r x k 0 _ (HR.out.next (SN.out.next (by (repeat' with_reducible first | assumption | exact bR | apply bD | apply bA | apply bC | apply bW | omega | simp <;> omega))).low) (HX.out.next (SN.out.next (by (repeat' with_reducible first | assumption | exact bR | apply bD | apply bA | apply bC | apply bW | omega | simp <;> omega))).low) hL).mono ?_;rintro e w6 ⟨rfl,hb6⟩;rw [HC0.out];have hn6:=bstep (a:=W2) (by (repeat' with_reducible first | assumption | exact bR | apply bD | apply bA | apply bC | apply bW | omega | simp <;> omega)) hb6))
 refine hK.out _ _ ?_ (fun hHeld=>?_)
 ·(first | (refine K3.out _ ?_;(repeat' with_reducible first | assumption | exact bR | apply bD | apply bA | apply bC | apply bW | omega | simp <;> omega);done) | go_keep)
 clear hK K
 (try simp only [aP,aZ,aS,aG,aH,aI])
 refine tku (b:=?_) [16] (by kernel_rfl) hHeld ?_ ?_
 rotate_left
 ·repeat first
  |exact .nil
  |refine .yes (v:=?_) rfl (by rfl) ?_ ?_
   rotate_left
   ·intro w9 hSw;(try dsimp only at hSw);go_simp;(try with_reducible rfl)
   (try simp only [aP,aZ,aS,aG,aH,aI])
 refine lsu 17 rfl (by kernel_rfl) fun K hK=>?_
 go_simp
 refine hK.out _ _ ?_
 clear hK K
 (try simp only [aP,aZ,aS,aG,aH,aI])
 skip
 have SN:=Lib.hid (SN.out.next hn6)
 clear hn3 hn4 hn5 hn6 hb3 hb4 hb5 hb6 hqq hcc HC0
 obtain ⟨⟨k0,k1,k2,k3,k4,k5,k6,k7,k8,k9⟩,p0,p1⟩:=K3.out _ SN.out.low
 go_wp2_with fail
 refine (iDropped_any _ _ r x _ (HR.out.next SN.out.low) (HX.out.next SN.out.low) hL).mono ?_
 rintro e1 w7 ⟨u7,f7,rfl,ho7,hb7⟩
 have hL2:(droppedR r x).bulk≤16777216:=by rw [dropped_bulk];exact hL
 obtain ⟨QA,qa,QB,qb,rfl,_⟩:=(OPlan.read ho7 hL2).opn
 obtain ⟨Y,hY⟩:∃ Y,droppedR r x=Y:=⟨_,rfl⟩
 have HY:=Lib.hid hY
 rw [hY] at ho7 hL2
 rw [hY]
 have hS:=(SN.out.gotPlan ho7 hb7).alloc #[.slice QA Y.cartons.length qa,.slice QB Y.spots.length qb] 46
 have SN:=Lib.hid hS
 clear k0 k1 k2 k3 k4 k5 k6 k7 k8 k9 p0 p1
 clear hS ho7 hb7 hY
 have HYR:=Lib.hid (fun (X:World) (S:Sit W2 X [fBox w7.heap.size #[.slice QA Y.cartons.length qa,.slice QB Y.spots.length qb] 46,fOP w6.heap.size (.agg #[.slice QA Y.cartons.length qa,.slice QB Y.spots.length qb]) Y f7])=>S.op (b:=w6.heap.size) (v:=.agg #[.slice QA Y.cartons.length qa,.slice QB Y.spots.length qb]) (p:=Y) (fp:=f7) (.tail _ (.head _)) hL2)
 have HK7:=Lib.hid (fun (X:World) (S:Sit W2 X [fBox w7.heap.size #[.slice QA Y.cartons.length qa,.slice QB Y.spots.length qb] 46,fOP w6.heap.size (.agg #[.slice QA Y.cartons.length qa,.slice QB Y.spots.length qb]) Y f7])=>And.intro (S.box (.head _)) (S.boxlt (.head _)))
 go_wp2
 go_loopw [6,7,9] (fun su lo i wr=>∃ n:Nat,n≤100∧(n=0 ∨ (n:Int)≤r.pallet.h)∧i=.int .i64 n∧su=.int .i64 (wrap64 (sumTo (fun z=>coveredR r x k z) n))∧lo=.int .i64 (wrap64 (sumTo (fun z=>coveredR r Y k z) n))∧Hid (Sit W2 wr [fBox w7.heap.size #[.slice QA Y.cartons.length qa,.slice QB Y.spots.length qb] 46,fOP w6.heap.size (.agg #[.slice QA Y.cartons.length qa,.slice QB Y.spots.length qb]) Y f7])) (fun _ _ i _=>100 - (intOf i).toNat)
 case atStart=>exact ⟨0,Nat.zero_le _,.inl rfl,rfl,congrArg (Value.int .i64) wrap_zero.symm,congrArg (Value.int .i64) wrap_zero.symm,SN⟩
 case round =>
  clear SN
  obtain ⟨n,hn,hnh,rfl,rfl,rfl,SN⟩:=hrel
  obtain ⟨cx,hcx⟩:∃ c,coveredR r x k n=c:=⟨_,rfl⟩
  obtain ⟨cy,hcy⟩:∃ c,coveredR r Y k n=c:=⟨_,rfl⟩
  have HCX:=Lib.hid hcx
  have HCY:=Lib.hid hcy
  have HSX:=Lib.hid (show wrap64 (sumTo (fun z=>coveredR r x k z) (n + 1))=wrap64 (wrap64 (sumTo (fun z=>coveredR r x k z) n) + cx) by rw [wrap_acc,← hcx];rfl)
  have HSY:=Lib.hid (show wrap64 (sumTo (fun z=>coveredR r Y k z) (n + 1))=wrap64 (wrap64 (sumTo (fun z=>coveredR r Y k z) n) + cy) by rw [wrap_acc,← hcy];rfl)
  obtain ⟨sx,hsx'⟩:∃ s,sumTo (fun z=>coveredR r x k z) n=s:=⟨_,rfl⟩
  obtain ⟨sy,hsy'⟩:∃ s,sumTo (fun z=>coveredR r Y k z) n=s:=⟨_,rfl⟩
  have HTX:=Lib.hid hsx'
  have HTY:=Lib.hid hsy'
  rw [hsx'] at HSX ⊢
  rw [hsy'] at HSY ⊢
  clear hcx hcy hsx' hsy'
  by_cases hgo:(n:Int) < r.pallet.h∧n < 100
  ·obtain ⟨hn1,hn2⟩:=hgo
   have hn2i:(n:Int) < 100:=by omega
   obtain ⟨⟨k0,k1,k2,k3,k4,k5,k6,k7,k8,k9⟩,p0,p1⟩:=K3.out _ SN.out.low
   go_wp2_with fail
   refine (iCovered_any _ _ r x k n _ (HR.out.next SN.out.low) (HX.out.next SN.out.low) hL).mono ?_
   rintro e2 w8 ⟨rfl,hb8⟩
   rw [HCX.out]
   have SN:=Lib.hid (SN.out.next hb8)
   clear hb8
   clear k0 k1 k2 k3 k4 k5 k6 k7 k8 k9 p0 p1
   obtain ⟨⟨k0,k1,k2,k3,k4,k5,k6,k7,k8,k9⟩,p0,p1⟩:=K3.out _ SN.out.low
   obtain ⟨q7,l7⟩:=HK7.out _ SN.out
   go_wp2_with fail
   refine (iCovered_any _ _ r Y k n _ (HR.out.next SN.out.low) (HYR.out _ SN.out) hL2).mono ?_
   rintro e3 w9 ⟨rfl,hb9⟩
   rw [HCY.out]
   have SN:=Lib.hid (SN.out.next hb9)
   clear hb9 q7 l7
   clear k0 k1 k2 k3 k4 k5 k6 k7 k8 k9 p0 p1
   go_wp2
   go_roundw
   case rel=>exact ⟨n + 1,by omega,.inr (by omega),by go_num,by rw [HSX.out];(try simp only [wrapE]),by rw [HSY.out];(try simp only [wrapE]),SN⟩
   case measure=>simp [intOf] <;> omega
  ·have hex:((n:Int) < r.pallet.h∧¬ (n:Int) < 100) ∨ ¬ (n:Int) < r.pallet.h:=by omega
   clear hgo HSX HSY HCX HCY
   rcases hex with ⟨hg1,hg2⟩ | hg1
   all_goals
    obtain ⟨⟨k0,k1,k2,k3,k4,k5,k6,k7,k8,k9⟩,p0,p1⟩:=K3.out _ SN.out.low
    go_wp2_with fail
    refine (sFeasible_any _ _ r x _ (HR.out.next SN.out.low) (HX.out.next SN.out.low) hL).mono ?_
    rintro e2 w8 ⟨rfl,hb8⟩
    rw [HQ.out]
    have SN:=Lib.hid (SN.out.next hb8)
    clear hb8
    clear k0 k1 k2 k3 k4 k5 k6 k7 k8 k9 p0 p1
    cases q
    ·have e1:sx=0:=by rw [← HTX.out];exact covered_bad HQ.out n
     have e2:sy=0:=by rw [← HTY.out,← HY.out,dropped_bad HQ.out];exact covered_bad HQ.out n
     subst e1 e2
     rw [wrap_zero]
     go_wp2
     go_ret
     exact ⟨rfl,bstep HLW.out SN.out.low⟩
    obtain ⟨LK,hLK⟩:∃ L,onPal x k=L:=⟨_,rfl⟩
    have HLK:=Lib.hid hLK
    have hol:LK.length≤x.cartons.length:=by rw [← hLK];exact onPal_le x k
    have HEQ:=Lib.hid (show ¬ 100 < r.pallet.h→sx=(LK.map (volAt r x)).sum∧sy=(LK.map (volAt r x)).sum from fun h1=>by
     obtain ⟨_,_,hph⟩:=pal_range HQ.out
     have hnn:(n:Int)=r.pallet.h:=by omega
     rw [← HTX.out,← HTY.out,← HY.out,← hLK]
     exact ⟨covered_all HQ.out hnn,dropped_all HQ.out hnn⟩)
    have hx100:=hsx.cartons
    clear hLK
    obtain ⟨⟨k0,k1,k2,k3,k4,k5,k6,k7,k8,k9⟩,p0,p1⟩:=K3.out _ SN.out.low
    go_wp2_with fail
    refine (iOnPallet_any _ x k _ (HX.out.next SN.out.low)).mono ?_
    intro e3 w9 hm
    rw [HLK.out] at hm
    obtain ⟨v2,fk,rfl,hS⟩:=SN.out.gotInts hm
    obtain ⟨D,d,rfl,_⟩:=(hS.list (.head _)).form
    have SN:=Lib.hid hS
    clear hS hm
    clear k0 k1 k2 k3 k4 k5 k6 k7 k8 k9 p0 p1
    go_wp2
    go_loopw [10,12] (fun vo i wr=>∃ j:Nat,j≤LK.length∧i=.int .i64 j∧vo=.int .i64 (wrap64 ((LK.take j).map (volAt r x)).sum)∧Hid (Sit W2 wr [fOF cI 3 1 W2.heap.size (.slice D LK.length d) LK fk,fBox w7.heap.size #[.slice QA Y.cartons.length qa,.slice QB Y.spots.length qb] 46,fOP w6.heap.size (.agg #[.slice QA Y.cartons.length qa,.slice QB Y.spots.length qb]) Y f7])) (fun _ i _=>LK.length - (intOf i).toNat)
    case atStart=>exact ⟨0,Nat.zero_le _,rfl,congrArg (Value.int .i64) wrap_zero.symm,SN⟩
    case round =>
     clear SN
     obtain ⟨j,hj,rfl,rfl,SN⟩:=hrel
     by_cases hlt:j < LK.length
     ·obtain ⟨i,hi⟩:∃ i,LK[j]? = some i:=⟨_,List.getElem?_eq_getElem hlt⟩
      have hmem:=List.mem_of_getElem? hi
      obtain ⟨m,rfl,hm1,hm2⟩:=onPal_in (by rw [HLK.out];exact hi)
      obtain ⟨gd,rfl⟩:=head_ptr (SN.out.list (.head _)) hi
      have HI:=Lib.hid hi
      obtain ⟨PA,ca,PB,cb,heq,HPA,HPB,hla,hlb⟩:=HX.out.opn
      have e1:Value.slice A7 zs2.length c7=.slice PA x.cartons.length ca:=by injection heq with h1;exact (List.cons.inj (congrArg Array.toList h1)).1
      injection e1 with e11 e12 e13
      subst e11 e13
      clear e12
      obtain ⟨b,off,c,U,cu,rfl,hb,hc,HU,HC⟩:=HPA.out.one m hm1
      obtain ⟨bx,hbx⟩:∃ bx,boxR r c=bx:=⟨_,rfl⟩
      have HBX:=Lib.hid hbx
      have HVL:=Lib.hid (show vol bx.w bx.h bx.d=volAt r x (m:Int) by
       have:=vol_box (k:=k) HQ.out (u:=(m:Int)) (by rw [HLK.out];exact hmem)
       rw [boxAt_nat hc,hbx] at this
       exact this)
      have HST:=Lib.hid (sum_step (volAt r x) hi)
      obtain ⟨G,hG⟩:∃ G,((LK.take j).map (volAt r x)).sum=G:=⟨_,rfl⟩
      rw [hG] at HST ⊢
      have HCC:=Lib.hid (show ∀ X:World,Below wr.heap.size wr X→((cS10 (X) (b3) (r) (.slice A1 r.pairs.length c1) (.slice A2 r.types.length c2) (.slice A3 r.items.length c3))∧X.cell? ⟨b3 + 1,0,none⟩=some (.slice (some ⟨b,off,none⟩) zs2.length c7)∧X.cell? ⟨b3 + 1,1,none⟩=some (.slice A8 x.spots.length c8))∧X.cell? ⟨gd,j,none⟩=some (.int .i64 (m:Int))∧(cC3 (X) (b) (off) (m) (c) (.slice U c.units.length cu)) from fun X hX=>by
       have hX:=SN.out.next hX
       have q4:=(hX.list (.head _)).cells (fun z=>rfl) HI.out 0 (.int .i64 (m:Int)) rfl
       rw [Nat.mul_one,Nat.add_zero] at q4
       exact ⟨K3.out X hX.low,q4,HC.out X hX.low⟩)
      have hm1z:m < zs2.length:=by have:=HZL.out;omega
      have hm1i:(m:Int) < (zs2.length:Int):=by omega
      have hidx:(0:Int)≤(m:Int):=by omega
      clear hi hc hbx hmem heq hG
      go_upto_region 21 with fail
      go_cut [13] (fun v8 X=>∃ g8,v8=.pointer (some ⟨g8,0,none⟩)∧Hid (Sit W2 X [fBox g8 #[.int .i64 bx.w,.int .i64 bx.d,.int .i64 bx.h,.int .i64 bx.gram] 75,fOF cI 3 1 W2.heap.size (.slice (some ⟨gd,0,none⟩) LK.length d) LK fk,fBox w7.heap.size #[.slice QA Y.cartons.length qa,.slice QB Y.spots.length qb] 46,fOP w6.heap.size (.agg #[.slice QA Y.cartons.length qa,.slice QB Y.spots.length qb]) Y f7]))
      case first =>
       go_region_held3 (fun X=>((cS10 (X) (b3) (r) (.slice A1 r.pairs.length c1) (.slice A2 r.types.length c2) (.slice A3 r.items.length c3))∧X.cell? ⟨b3 + 1,0,none⟩=some (.slice (some ⟨b,off,none⟩) zs2.length c7)∧X.cell? ⟨b3 + 1,1,none⟩=some (.slice A8 x.spots.length c8))∧X.cell? ⟨gd,j,none⟩=some (.int .i64 (m:Int))∧(cC3 (X) (b) (off) (m) (c) (.slice U c.units.length cu))) (first | (refine HCC.out _ ?_;(repeat' with_reducible first | assumption | exact bR | apply bD | apply bA | apply bC | apply bW | omega | simp <;> omega);done) | go_keep) (first | (go_at_call 53;(try (first | refine calls_new ?_ | refine calls_newd ?_);intro hg);refine (iBoxOf_any _ _ r c _ (HR.out.next (SN.out.next (by (repeat' with_reducible first | assumption | exact bR | apply bD | apply bA | apply bC | apply bW | omega | simp <;> omega))).low) (HU.out.next (flat_mono _) (SN.out.next (by (repeat' with_reducible first | assumption | exact bR | apply bD | apply bA | apply bC | apply bW | omega | simp <;> omega))).low)).mono ?_;rintro e w2 ⟨rfl,hb2⟩;rw [HBX.out];have hn2:=bstep (a:=wr) (by (repeat' with_reducible first | assumption | exact bR | apply bD | apply bA | apply bC | apply bW | omega | simp <;> omega)) hb2;have hz2:=hn2.size;have hj2:=hb2.size;(try simp only [World.size_alloc,World.size_drew] at hj2);have SE:=Lib.hid ((SN.out.drew.alloc #[.int .i64 0,.int .i64 0,.int .i64 0,.int .i64 0] 75));(first | (have SE:=Lib.hid (SE.out.next hb2)) | skip);have SN:=Lib.hid ((SN.out.next (by (repeat' with_reducible first | assumption | exact bR | apply bD | apply bA | apply bC | apply bW | omega | simp <;> omega))).next hb2);(try (have hg:=blk_next hg hb2;have hgc:=fun j=>cell_of_row _ _ j _ _ (0,0) hg;have hgf:=fun j=>frozen_of_row _ _ j _ _ hg;have hgl:=lt_of_block hg))))
       (all_goals (go_wp2_with fail;go_meet));(first | (exact ⟨_,rfl,Lib.hid (SN.out.alloc _ _)⟩) | skip);(all_goals exact ⟨_,rfl,Lib.hid (SE.out.overL [.int .i64 bx.w,.int .i64 bx.d,.int .i64 bx.h,.int .i64 bx.gram] 0)⟩)
      case rest =>
      obtain ⟨g8,rfl,SN2⟩:=hcut
      have SN:=SN2
      clear SN2 HCC
      have k8:=SN.out.box (.head _)
      have l8:=SN.out.boxlt (.head _)
      go_wp2_with (go_at_call 72;refine (iVolume_any _ _ _ _).mono ?_;rintro e w' ⟨rfl,rfl⟩;rw [HVL.out])
      go_roundw
      case rel=>exact ⟨j + 1,hlt,by go_num,by rw [HST.out];simp only [wrapE,wrap_acc],Lib.hid SN.out.drop⟩
      case measure=>simp [intOf] <;> omega
     ·obtain rfl:j=LK.length:=by omega
      rw [List.take_length]
      obtain ⟨⟨k0,k1,k2,k3,k4,k5,k6,k7,k8,k9⟩,p0,p1⟩:=K3.out _ SN.out.low
      by_cases h100:100 < r.pallet.h
      ·first
       |(exfalso;omega)
       |(go_wp2;go_ret;exact ⟨rfl,bstep HLW.out SN.out.low⟩)
      ·first
       |(exfalso;omega)
       |(obtain ⟨e1,e2⟩:=HEQ.out (by omega);rw [← e1] at e2 ⊢;subst e2;go_wp2;go_ret;exact ⟨rfl,bstep HLW.out SN.out.low⟩)
set_option maxRecDepth 100000 in
theorem FnCoveredAll_lifted (os:Os) (started:os.Started) (H:Type) (enc:TypeId×Value→H) :
  ReturnsInHanded {} Tryz.checked os 16 .any (Rows.fnCoveredAllSpec.pre6 enc Tryz.prog Tryz.f16 Rows.fnCoveredAllRow.domain false) (Rows.fnCoveredAllSpec.post enc Tryz.prog Tryz.f16 false true false false):=by
 refine returnsInHanded_of_change (C:=Tryz.checked) own_ started (by kernel_rfl) Tryz.func16
  (ChangeSpec.witness6 (enc:=enc) (C:=Tryz.checked) false ⟨#[],#[.slice none 0 0],[]⟩ 8 (by kernel_rfl) (by kernel_rfl) (by kernel_rfl) (by kernel_rfl)) ?_
 intro W base args ds gs before hval0 hW hcnd _
 have hval:∀ (j:Nat) t v,Tryz.f16.params[j]? = some t→args[j]? = some v→Value.okWide Tryz.prog W .any base t v:=hval0
 have hW':=hW
 obtain ⟨p,q,hA0,hV,rfl,hfz,hnd⟩:=hW
 have hA:DataW.TrodAll enc Tryz.prog W 0 (fun _=>true) true Tryz.f16.params.toList args.toList ds p:=hA0
 rw [Tryz.params16] at hA hval
 obtain ⟨v0,vs0,d0,ds0,p0,q0,hargs,rfl,rfl,h0,r0⟩:=trodAll_cons hA
 obtain ⟨rfl,rfl,rfl⟩:=trodAll_nil r0
 obtain rfl:args = #[v0]:=by cases args;simp_all
 obtain ⟨rfl,rfl⟩:=trodVars_none hV
 clear hA0 hval0 hA
 simp only [List.append_nil] at hW'
 have hlt:∀ x∈p0,x.block < W.heap.size:=fun x hx=>hW'.lt x (by simpa using hx)
 have k0:=h0
 have w0:=read_Bytes (hval 0 63 v0 rfl rfl) h0 (fun x hx=>hlt x (by simp [hx]))
 refine (FnCoveredAll_walk v0 W w0).mono fun e W' ⟨he,hb⟩=>?_
 subst he
 exact ⟨_,rfl,post_of_below (pa:=p0 ++ []) (pv:=[]) hW' (fun _ _ _=>(trodAll_cons_mk (shut_bool Tryz.underlying4 _) trodAll_mk0)) (fun sp hsp=>(trodAll_cons_mk (stays laidOut_ (by kernel_rfl) (of_decide_eq_true (by kernel_rfl)) k0 hb (fun x hx=>hlt x (by simp [hx])) (fun x hx=>hsp x (by simp [hx]))) trodAll_mk0)) (fun _ _=>rfl) (by simp) hb
  (ok_one (by kernel_rfl) rfl (okWide_bool_mk Tryz.underlying4 _))⟩
theorem FnCoveredAll_inPlace:(Rows.fnCoveredAllRow.inPlace == Tryz.prog.inPlace 16)=true:=by kernel_rfl
theorem FnCoveredAll_unfollowed:(Rows.fnCoveredAllRow.unfollowed == Tryz.prog.unfollowed 16)=true:=by kernel_rfl
theorem FnCoveredAll_recurses:(Rows.fnCoveredAllRow.recurses == Tryz.prog.recurses 16)=true:=by kernel_rfl
theorem FnCoveredAll_named:(Rows.fnCoveredAllRow.named == Tryz.prog.varsNamed 16)=true:=by kernel_rfl
theorem FnCoveredAll_closed:joinedFacts Tryz.prog 16 Tryz.f16 Rows.fnCoveredAllSpec Rows.fnCoveredAllRow=true:=by
 unfold joinedFacts
 rw [laidOut_,fx_maps,fx_stops,fx_stopKnobs,fx_plain,fx_heard,fx_may,fx_lift,FnCoveredAll_inPlace,FnCoveredAll_unfollowed,FnCoveredAll_recurses,FnCoveredAll_named]
 kernel_rfl
theorem FnCoveredAll_over:Rows.fnCoveredAllRow.holds Tryz.pinned (OpenSpec.ofChange Rows.fnCoveredAllSpec) :=
 OpenClaim.holds_of_wide 16 Tryz.f16 rfl rfl rfl rfl rfl rfl rfl ⟨rfl,rfl,rfl,rfl,rfl⟩ rfl rfl rfl rfl rfl (by kernel_rfl) Tryz.func16 FnCoveredAll_closed
  (of_decide_eq_true (by kernel_rfl)) (by unfold Func.isWrapper;first | (rw [if_pos (by decide +kernel)];kernel_rfl) | (rw [if_neg (by decide +kernel)];exact ⟨rfl,rfl⟩))
  (fun os started H enc _=>FnCoveredAll_lifted os started H enc)
theorem FnCoveredAll_proved:Rows.FnCoveredAllSaid:=FnCoveredAll_over
end Go.Proofs.YtioijfplbgpjpaaGreat
