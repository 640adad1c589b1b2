/-
  The heights on a pallet: both sides.
-/
import Derived.Test.YtioijfplbgpjpaaGreatKu43
import Derived.Test.YtioijfplbgpjpaaGreatKu31
import Derived.Deep.RegionHeld3
import Derived.Deep.DeepCutAuto
import Derived.Deep.RegionLaw
import Derived.Deep.RegionWith
import Derived.StillTailTactics
namespace Go.Proofs.YtioijfplbgpjpaaGreat
set_option linter.unusedVariables false
set_option linter.unusedSimpArgs false
set_option maxRecDepth 100000
open Go.RowKit Go.WideShapes Go.ChangeShapes Go.ChangeAt Go.Deep
theorem map_step {l:List Int} {j:Nat} {i:Int} (f:Int→Int) (h:l[j]? = some i):(l.take (j + 1)).map f=(l.take j).map f ++ [f i]:=by
 rw [List.take_add_one,h,List.map_append];rfl
theorem map_take_le {l:List Int} {j:Nat} (f:Int→Int):((l.take j).map f).length≤j:=by rw [List.length_map,List.length_take];omega
theorem ddu_same {sl:List Int} {k:Nat} {u:Int} (hs:sl.Pairwise (·≤·)) (hk:sl[k]? = some u) (h:(Lib.compactUpTo sl.toArray k).getLast? = some u):Lib.compactUpTo sl.toArray (k + 1)=Lib.compactUpTo sl.toArray k:=by
 have ft:∀ l:List Int,l.filter (fun _=>true)=l:=fun l=>List.filter_eq_self.2 (by simp)
 have:=dd_same hs hk (fun _=>true) (by rw [ft];exact h)
 rwa [ft,ft] at this
theorem ddu_new {sl:List Int} {k:Nat} {u:Int} (hk:sl[k]? = some u) (h:(Lib.compactUpTo sl.toArray k).getLast? ≠ some u):Lib.compactUpTo sl.toArray (k + 1)=Lib.compactUpTo sl.toArray k ++ [u]:=by
 have ft:∀ l:List Int,l.filter (fun _=>true)=l:=fun l=>List.filter_eq_self.2 (by simp)
 have:=dd_new hk (fun _=>true) (by rw [ft];exact h)
 rw [ft,ft] at this
 simpa using this
theorem upTo_le (sl:Array Int) (k:Nat):(Lib.compactUpTo sl k).length≤k:=by
 unfold Lib.compactUpTo;rw [List.length_map];exact Nat.le_trans (List.length_filter_le _ _) (by simp)
theorem zsOn_le (x:Plan) (k:Int):(zsOn x k).length≤x.cartons.length:=by unfold zsOn;rw [List.length_map];exact onPal_le x k
set_option maxRecDepth 100000 in
set_option maxHeartbeats 2000000 in
theorem iHeights_any (v vx:Value) (r:Request) (x:Plan) (k:Int) (w:World) (h:RReq 16777216 w w.heap.size v r) (hx:RPlan 16777216 w w.heap.size vx x) (hL:x.bulk≤16777216):Calls Tryz.prog 30 #[v,vx,.int .i64 k] w (MInts w (heightsR r x k)):=by
 have HR:=Lib.hid h
 have HX:=Lib.hid hx
 obtain ⟨A1,c1,A2,c2,A3,c3,rfl,_⟩:=h.opn
 obtain ⟨PA,ca,PB,cb,rfl,HPA,HPB,hla,hlb⟩:=hx.opn
 have hol:=onPal_le x k
 have hzl:=zsOn_le x k
 have hS:=((Sit.here w).alloc (cR r A1 c1 A2 c2 A3 c3) 41).alloc #[.slice PA x.cartons.length ca,.slice PB x.spots.length cb] 46
 simp only [World.size_alloc] at hS
 have SN:=Lib.hid hS
 obtain ⟨q,hq⟩:∃ q,feasible r x=q:=⟨_,rfl⟩
 have HQ:=Lib.hid hq
 have HM:=Lib.hid (show heightsR r x k=if q=true then kindsM (zsOn x k) else [] by unfold heightsR;rw [hq])
 clear h hx hS hq
 go_enter Tryz.func30,Tryz.ntmps30
 have k0:=SN.out.box (.tail _ (.head _));have l0:=SN.out.boxlt (.tail _ (.head _));have k1:=SN.out.box (.head _);have l1:=SN.out.boxlt (.head _)
 go_wp2_with fail
 refine (iFeasible_any _ _ r x _ (HR.out.next SN.out.low) (HX.out.next SN.out.low) hL).mono ?_
 rintro e1 w1 ⟨rfl,hb1⟩
 rw [HQ.out]
 have SN:=Lib.hid (SN.out.next hb1)
 clear k0 l0 k1 l1 hb1
 cases q
 ·have SN:=Lib.hid (SN.out.addNil (f:=cI) (e:=3) (K:=1) w.heap.size)
  go_wp2
  go_ret
  rw [HM.out]
  exact SN.out.ints
 have hS:=SN.out.alloc #[] 3
 have SN:=Lib.hid (hS.boxNil cI 1)
 clear hS
 have k1:=SN.out.box (.tail _ (.head _))
 have l1:=SN.out.boxlt (.tail _ (.head _))
 go_wp2_with fail
 refine (iOnPallet_any _ x k _ (HX.out.next SN.out.low)).mono ?_
 intro e2 w2 hm
 obtain ⟨v2,fk,rfl,hS⟩:=SN.out.gotInts hm
 obtain ⟨D,d,rfl,_⟩:=(hS.list (.head _)).form
 have SN:=Lib.hid hS.rot2
 clear k1 l1 hS hm
 go_wp2
 go_loopw [7,19] (fun vv i wr=>∃ (j:Nat) (fp:List Nat),j≤(onPal x k).length∧i=.int .i64 j∧Hid (Sit w wr [fOF cI 3 1 w.heap.size vv (((onPal x k).take j).map (fun i=>(spotAt x i).z)) fp,fOF cI 3 1 w.heap.size (.slice D (onPal x k).length d) (onPal x k) fk,fBox (w.heap.size + 1) #[.slice PA x.cartons.length ca,.slice PB x.spots.length cb] 46,fBox w.heap.size (cR r A1 c1 A2 c2 A3 c3) 41])) (fun _ i _=>(onPal x k).length - (intOf i).toNat)
 case atStart=>exact ⟨0,_,Nat.zero_le _,rfl,SN⟩
 case round =>
  clear SN
  obtain ⟨j,fp,hj,rfl,SN⟩:=hrel
  by_cases hlt:j < (onPal x k).length
  ·obtain ⟨i,hi⟩:∃ i,(onPal x k)[j]? = some i:=⟨_,List.getElem?_eq_getElem hlt⟩
   obtain ⟨m,rfl,hm1,hm2⟩:=onPal_in hi
   obtain ⟨gd,rfl⟩:=head_ptr (SN.out.list (.tail _ (.head _))) hi
   have hcu:=(SN.out.list (.tail _ (.head _))).cells (fun z=>rfl) hi 0 (.int .i64 (m:Int)) rfl
   rw [Nat.mul_one,Nat.add_zero] at hcu
   obtain ⟨b2,off2,s,rfl,hb2,hs,HC2⟩:=HPB.out.one m hm2
   obtain ⟨hc0,hc1,hc2,hc3⟩:=HC2.out wr SN.out.low
   have k11:wr.cell? ⟨w.heap.size + 1,1,none⟩=some (.slice (some ⟨b2,off2,none⟩) x.spots.length cb):=SN.out.box (.tail _ (.tail _ (.head _))) 1
   have HST:=Lib.hid (map_step (fun i=>(spotAt x i).z) hi)
   have HZ:=Lib.hid (show (spotAt x (m:Int)).z=s.z by rw [spotAt_at hs])
   have hln:=map_take_le (l:=onPal x k) (j:=j) (fun i=>(spotAt x i).z)
   clear hi hs hc0 hc1 hc2
   go_wp2_with (at_builtin;refine papp_Int _ _ rfl rfl (s.z) rfl rfl (alloc_at (by first | rfl | (simp;done) | (simp;omega))) rfl ((SN.out.list (.head _)).next (by repeat' with_reducible first | assumption | exact bR | apply bD | apply bA | apply bC | apply bN | simp <;> omega)) (by first | omega | (simp;omega)) (by have:=SN.out.low.size;first | omega | (simp;done) | (simp;omega) | (simp at this ⊢;omega)) ?_;intro v7 w7 ha;obtain ⟨g7,S7⟩:=(SN.out.next (by repeat' with_reducible first | assumption | exact bR | apply bD | apply bA | apply bC | apply bN | simp <;> omega)).app ha;have S8:=Lib.hid S7;clear S7 ha)
   go_roundw
   case rel=>exact ⟨j + 1,_,hlt,by go_num,by rw [HST.out];simp only [HZ.out];exact S8⟩
   case measure=>simp [intOf] <;> omega
  ·obtain rfl:j=(onPal x k).length:=by omega
   rw [List.take_length] at SN
   go_wp2_with fail
   refine (kinds_any _ (zsOn x k) _ (OInts.read (SN.out.list (.head _)) (by omega))).mono ?_
   intro e3 w3 hm
   obtain ⟨v3,f3,rfl,hS⟩:=SN.out.gotInts hm
   have SN:=Lib.hid hS
   clear hS hm
   go_wp2
   go_ret
   rw [HM.out]
   exact SN.out.ints
set_option maxRecDepth 100000 in
set_option maxHeartbeats 2000000 in
theorem sHeights_any (v vx:Value) (r:Request) (x:Plan) (k:Int) (w:World) (h:RReq 16777216 w w.heap.size v r) (hx:RPlan 16777216 w w.heap.size vx x) (hL:x.bulk≤16777216):Calls Tryz.prog 29 #[v,vx,.int .i64 k] w (MInts w (heightsR r x k)):=by
 have HR:=Lib.hid h
 have HX:=Lib.hid hx
 obtain ⟨A1,c1,A2,c2,A3,c3,rfl,_⟩:=h.opn
 obtain ⟨PA,ca,PB,cb,rfl,HPA,HPB,hla,hlb⟩:=hx.opn
 have hol:=onPal_le x k
 have hzl:=zsOn_le x k
 have hS:=(((Sit.here w).alloc (cR r A1 c1 A2 c2 A3 c3) 41).alloc #[.slice PA x.cartons.length ca,.slice PB x.spots.length cb] 46).alloc #[] 3
 simp only [World.size_alloc] at hS
 have SN:=Lib.hid (hS.boxNil cI 1)
 obtain ⟨q,hq⟩:∃ q,feasible r x=q:=⟨_,rfl⟩
 have HQ:=Lib.hid hq
 have HM:=Lib.hid (show heightsR r x k=if q=true then kindsM (zsOn x k) else [] by unfold heightsR;rw [hq])
 clear h hx hS hq
 go_enter Tryz.func29,Tryz.ntmps29
 have k1:=SN.out.box (.tail _ (.head _));have l1:=SN.out.boxlt (.tail _ (.head _));have k0:=SN.out.box (.tail _ (.tail _ (.head _)));have l0:=SN.out.boxlt (.tail _ (.tail _ (.head _)))
 go_wp2_with fail
 refine (sFeasible_any _ _ r x _ (HR.out.next SN.out.low) (HX.out.next SN.out.low) hL).mono ?_
 rintro e1 w1 ⟨rfl,hb1⟩
 rw [HQ.out]
 have SN:=Lib.hid (SN.out.next hb1)
 clear k0 l0 k1 l1 hb1
 cases q
 ·go_wp2
  go_ret
  rw [HM.out]
  exact SN.out.ints
 have k1:=SN.out.box (.tail _ (.head _))
 have l1:=SN.out.boxlt (.tail _ (.head _))
 go_wp2_with fail
 refine (sOnPallet_any _ x k _ (HX.out.next SN.out.low)).mono ?_
 intro e2 w2 hm
 obtain ⟨v2,fk,rfl,hS⟩:=SN.out.gotInts hm
 obtain ⟨D,d,rfl,_⟩:=(hS.list (.head _)).form
 have hS2:=hS.alloc #[] 3
 have SN:=Lib.hid (hS2.boxNil cI 1)
 clear k1 l1 hS hS2 hm
 go_wp2
 go_loopw [9,10] (fun vv i wr=>∃ (j:Nat) (fp:List Nat),j≤(onPal x k).length∧i=.int .i64 j∧Hid (Sit w wr [fOF cI 3 1 w.heap.size vv (((onPal x k).take j).map (fun i=>(spotAt x i).z)) fp,fOF cI 3 1 w.heap.size (.slice D (onPal x k).length d) (onPal x k) fk,fOF cI 3 1 w.heap.size (.slice (some ⟨w.heap.size + 1 + 1,0,none⟩) 0 0) (([]:List Int)) [w.heap.size + 1 + 1],fBox (w.heap.size + 1) #[.slice PA x.cartons.length ca,.slice PB x.spots.length cb] 46,fBox w.heap.size (cR r A1 c1 A2 c2 A3 c3) 41])) (fun _ i _=>(onPal x k).length - (intOf i).toNat)
 case atStart=>exact ⟨0,_,Nat.zero_le _,rfl,SN⟩
 case round =>
  clear SN
  obtain ⟨j,fp,hj,rfl,SN⟩:=hrel
  by_cases hlt:j < (onPal x k).length
  ·obtain ⟨i,hi⟩:∃ i,(onPal x k)[j]? = some i:=⟨_,List.getElem?_eq_getElem hlt⟩
   obtain ⟨m,rfl,hm1,hm2⟩:=onPal_in hi
   obtain ⟨gd,rfl⟩:=head_ptr (SN.out.list (.tail _ (.head _))) hi
   have hcu:=(SN.out.list (.tail _ (.head _))).cells (fun z=>rfl) hi 0 (.int .i64 (m:Int)) rfl
   rw [Nat.mul_one,Nat.add_zero] at hcu
   have HI:=Lib.hid hi
   obtain ⟨b2,off2,s,rfl,hb2,hs,HC2⟩:=HPB.out.one m hm2
   have hd:=HC2.out wr SN.out.low
   have k11:wr.cell? ⟨w.heap.size + 1,1,none⟩=some (.slice (some ⟨b2,off2,none⟩) x.spots.length cb):=SN.out.box (.tail _ (.tail _ (.tail _ (.head _)))) 1
   have HST:=Lib.hid (map_step (fun i=>(spotAt x i).z) hi)
   have HZ:=Lib.hid (show (spotAt x (m:Int)).z=s.z by rw [spotAt_at hs])
   have hln:=map_take_le (l:=onPal x k) (j:=j) (fun i=>(spotAt x i).z)
   clear hi hs
   go_wp2
   refine regu (S:=(fun W'=>W'.cell? ⟨gd,j,none⟩=some (.int .i64 (m:Int))∧W'.cell? ⟨w.heap.size + 1,1,none⟩=some (.slice (some ⟨b2,off2,none⟩) x.spots.length cb)∧cS4 (W') (b2) (off2) (m) (s))) (by kernel_rfl) (fun _ _ _ _ _=>id) ?_ fun hHeld=>?_
   ·(first | exact ⟨hcu2,k12,hd2⟩ | exact ⟨hcu,k11,hd⟩ | go_keep)
   refine tku (b:=?_) [0,1,2,3,4,5,6,7,8,9] (by kernel_rfl) hHeld ?_ ?_
   rotate_left
   ·repeat first
    |exact .nil
    |refine .yes (v:=?_) rfl (by rfl) ?_ ?_
     rotate_left
     ·intro w9 hSw;(try dsimp only at hSw);go_simp;(try with_reducible rfl)
     (try simp only [aP,aZ,aS,aG,aH,aI])
   refine onu 10 rfl (by kernel_rfl) fun K hK=>?_
   go_simp
   refine hK.out _ _ ?_ (fun hHeld=>?_)
   ·(first | exact ⟨hcu2,k12,hd2⟩ | exact ⟨hcu,k11,hd⟩ | go_keep)
   clear hK K
   (try simp only [aP,aZ,aS,aG,aH,aI])
   refine onu 11 rfl (by kernel_rfl) fun K hK=>?_
   (refine sapp_Int (.tmp 29) (.tmp 39) rfl rfl s.z rfl rfl (heap_alloc_new _ _) rfl ((SN.out.list (.head _)).next (by repeat' with_reducible first | assumption | exact bR | apply bD | apply bA | apply bC | apply bN | simp <;> omega)) (by first | omega | (simp;done) | (simp;omega)) (by have:=SN.out.low.size;first | omega | (simp;done) | (simp;omega)) ?_;intro v7 w7 ha;obtain ⟨g7,S7⟩:=(SN.out.next (by repeat' with_reducible first | assumption | exact bR | apply bD | apply bA | apply bC | apply bN | simp <;> omega)).app ha;have S8:=Lib.hid S7;have k12:w7.cell? ⟨w.heap.size + 1,1,none⟩=some (.slice (some ⟨b2,off2,none⟩) x.spots.length cb):=S7.box (.tail _ (.tail _ (.tail _ (.head _)))) 1;have hd2:=HC2.out w7 S7.low;have hcu2:w7.cell? ⟨gd,j,none⟩=some (.int .i64 (m:Int)):=(by have h:=(S7.list (.tail _ (.head _))).cells (fun z=>rfl) HI.out 0 (.int .i64 (m:Int)) rfl;rw [Nat.mul_one,Nat.add_zero] at h;exact h);clear S7 ha)
   refine hK.out _ _ ?_ (fun hHeld=>?_)
   ·(first | exact ⟨hcu2,k12,hd2⟩ | exact ⟨hcu,k11,hd⟩ | go_keep)
   clear hK K
   (try simp only [aP,aZ,aS,aG,aH,aI])
   refine lsu 12 rfl (by kernel_rfl) fun K hK=>?_
   go_simp
   refine hK.out _ _ ?_
   clear hK K
   (try simp only [aP,aZ,aS,aG,aH,aI])
   go_wp2_with fail
   go_roundw
   case rel=>exact ⟨j + 1,_,hlt,by go_num,by rw [HST.out];simp only [HZ.out];exact S8⟩
   case measure=>simp [intOf] <;> omega
  ·obtain rfl:j=(onPal x k).length:=by omega
   rw [List.take_length] at SN
   obtain ⟨zs,hzs⟩:∃ l,zsOn x k=l:=⟨_,rfl⟩
   rw [show (onPal x k).map (fun i=>(spotAt x i).z)=zs from hzs] at SN
   rw [hzs] at hzl HM
   obtain ⟨sl,hsl⟩:∃ l,l=sortI zs:=⟨_,rfl⟩
   obtain ⟨au,hau⟩:∃ l,l=argUp zs:=⟨_,rfl⟩
   have hsll:sl.length=zs.length:=by rw [hsl,sortI_length]
   have haul:au.length=zs.length:=by rw [hau,argUp_length]
   have HM:=Lib.hid (show heightsR r x k=Lib.compactUpTo sl.toArray zs.length by rw [HM.out,← hsll,hsl];rfl)
   have HSO:=Lib.hid (show sl.Pairwise (·≤·) by rw [hsl];exact sortI_sorted _)
   have HG:=Lib.hid (show ∀ k p,au[k]? = some p→sl[k]? = some (keyAt zs p)∧p < zs.length by
    intro k p hp
    rw [hau] at hp
    exact ⟨by rw [hsl];exact sortI_at hp,argUp_mem.1 (List.mem_of_getElem? hp)⟩)
   have HU:=Lib.hid (fun W v (hW:RInts 16777216 W W.heap.size v zs)=>by have:=sSortUp_any v zs W hW;rwa [← hau] at this)
   have HAL:=Lib.hid haul
   obtain ⟨E1,d1,rfl,_⟩:=(SN.out.list (.head _)).form
   clear hzs hsl hau hsll haul
   go_wp2_with fail
   refine (HU.out _ _ (OInts.read (SN.out.list (.head _)) (by omega))).mono ?_
   intro e3 w3 hm
   obtain ⟨v3,f3,rfl,hS⟩:=SN.out.gotInts hm
   have hil:(ints au).length=zs.length:=by rw [ints_length,HAL.out]
   obtain ⟨E2,d2,rfl,_⟩:=(hS.list (.head _)).form
   have SN:=Lib.hid (hS.rot4.subl (.cons_cons _ (.cons_cons _ (.cons_cons _ (.cons _ (List.Sublist.refl _))))))
   rw [hil] at SN ⊢
   clear hS hm
   go_wp2
   go_loopw [7,12] (fun vv i wr=>∃ (j:Nat) (f9:List Nat),j≤zs.length∧i=.int .i64 j∧Hid (Sit w wr [fOF cI 3 1 w.heap.size vv (Lib.compactUpTo sl.toArray j) f9,fOF cI 3 1 w.heap.size (.slice E2 zs.length d2) (ints au) f3,fOF cI 3 1 w.heap.size (.slice E1 zs.length d1) (zs) fp,fBox (w.heap.size + 1) #[.slice PA x.cartons.length ca,.slice PB x.spots.length cb] 46,fBox w.heap.size (cR r A1 c1 A2 c2 A3 c3) 41])) (fun _ i _=>zs.length - (intOf i).toNat)
   case atStart=>exact ⟨0,_,Nat.zero_le _,rfl,SN⟩
   case round =>
    clear SN
    obtain ⟨j,f9,hj,rfl,SN⟩:=hrel
    by_cases hlt:j < zs.length
    ·obtain ⟨pl,hpl⟩:∃ q,au[j]? = some q:=⟨_,List.getElem?_eq_getElem (by rw [HAL.out];exact hlt)⟩
     obtain ⟨hsk,hpu⟩:=HG.out j pl hpl
     have hpi:(ints au)[j]? = some (pl:Int):=by unfold ints;rw [List.getElem?_map,hpl];rfl
     obtain ⟨gA,rfl⟩:=head_ptr (SN.out.list (.tail _ (.head _))) hpi
     have hca:=(SN.out.list (.tail _ (.head _))).cells (fun z=>rfl) hpi 0 (.int .i64 (pl:Int)) rfl
     obtain ⟨u,hu⟩:∃ y,zs[pl]? = some y:=⟨_,List.getElem?_eq_getElem hpu⟩
     obtain ⟨gB,rfl⟩:=head_ptr (SN.out.list (.tail _ (.tail _ (.head _)))) hu
     have hcb:=(SN.out.list (.tail _ (.tail _ (.head _)))).cells (fun z=>rfl) hu 0 (.int .i64 u) rfl
     rw [Nat.mul_one,Nat.add_zero] at hca hcb
     rw [show keyAt zs pl=u by have h:=keyAt_get hpu;rw [hu] at h;exact (Option.some.inj h).symm] at hsk
     obtain ⟨out,hout⟩:∃ l,Lib.compactUpTo sl.toArray j=l:=⟨_,rfl⟩
     have hln:out.length≤j:=by rw [← hout];exact upTo_le _ _
     rw [hout] at SN
     rcases List.eq_nil_or_concat out with h0 | ⟨o',y,h0⟩
     ·have HS:=Lib.hid (show Lib.compactUpTo sl.toArray (j + 1)=[] ++ [u] by rw [ddu_new hsk (by rw [hout,h0];simp),hout,h0])
      subst h0
      obtain ⟨Ao,co,rfl,_⟩:=(SN.out.list (.head _)).form
      clear hpl hsk hpi hu hout
      go_wp2
      refine regu (S:=(fun W'=>W'.cell? ⟨gA,j,none⟩=some (.int .i64 (pl:Int))∧W'.cell? ⟨gB,pl,none⟩=some (.int .i64 u))) (by kernel_rfl) (fun _ _ _ _ _=>id) ?_ fun hHeld=>?_
      ·(first | exact ⟨hca,hcb⟩ | go_keep)
      refine tku (b:=?_) [0,1,2,3] (by kernel_rfl) hHeld ?_ ?_
      rotate_left
      ·repeat first
       |exact .nil
       |refine .yes (v:=?_) rfl (by rfl) ?_ ?_
        rotate_left
        ·intro w9 hSw;(try dsimp only at hSw);go_simp;(try with_reducible rfl)
        (try simp only [aP,aZ,aS,aG,aH,aI])
      refine tku (b:=?_) [4,5,6,7,8,9,10,11,12,13,14,15,16,17] (by kernel_rfl) hHeld ?_ ?_
      rotate_left
      ·repeat first
       |exact .nil
       |refine .no rfl (by rfl) ?_
        (try simp only [aP,aZ,aS,aG,aH,aI])
      refine lsu 18 rfl (by kernel_rfl) fun K hK=>?_
      go_simp
      refine hK.out _ _ ?_
      clear hK K
      (try simp only [aP,aZ,aS,aG,aH,aI])
      skip
      go_wp2_with (at_builtin;refine papp_Int _ _ rfl rfl (u) rfl rfl (alloc_at (by first | rfl | (simp;done) | (simp;omega))) rfl ((SN.out.list (.head _)).next (by repeat' with_reducible first | assumption | exact bR | apply bD | apply bA | apply bC | apply bN | simp <;> omega)) (by first | omega | (simp;omega)) (by have:=SN.out.low.size;first | omega | (simp;done) | (simp;omega) | (simp at this ⊢;omega)) ?_;intro v7 w7 ha;obtain ⟨g7,S7⟩:=(SN.out.next (by repeat' with_reducible first | assumption | exact bR | apply bD | apply bA | apply bC | apply bN | simp <;> omega)).app ha;have S8:=Lib.hid S7;clear S7 ha)
      go_roundw
      case rel=>exact ⟨j + 1,_,hlt,by go_num,by rw [HS.out];exact S8⟩
      case measure=>simp [intOf] <;> omega
     ·rw [List.concat_eq_append] at h0
      have HN:=Lib.hid (fun h=>ddu_new (u:=u) hsk h)
      have HE:=Lib.hid (fun h=>ddu_same (u:=u) HSO.out hsk h)
      rw [hout] at HN HE
      subst h0
      obtain ⟨Ao,co,rfl,_⟩:=(SN.out.list (.head _)).form
      have hyl:(o' ++ [y])[o'.length]? = some y:=by simp
      obtain ⟨gC,rfl⟩:=head_ptr (SN.out.list (.head _)) hyl
      have hcc:=(SN.out.list (.head _)).cells (fun z=>rfl) hyl 0 (.int .i64 y) rfl
      rw [Nat.mul_one,Nat.add_zero] at hcc
      have hln2:o'.length + 1≤j:=by simpa using hln
      simp only [List.length_append,List.length_singleton] at SN ⊢
      clear hpl hsk hpi hu hout hln hyl
      have hd1:decide ((o'.length:Int) + 1=0)=false:=decide_eq_false (by omega)
      have hd2:(((o'.length + 1:Nat):Int) == 0)=false:=by simp;omega
      have hd3:(((o'.length:Int) + 1) == 0)=false:=by simp;omega
      have hw1:IntKind.i64.wrap (o'.length:Int)=o'.length:=by rw [wrapE];unfold wrap64;omega
      have hlt9:(o'.length:Int) < (o'.length:Int) + 1:=by omega
      by_cases hyu:y=u
      ·subst hyu
       have HS:=Lib.hid (HE.out (by simp))
       clear HN HE
       go_wp2
       refine regu (S:=(fun W'=>W'.cell? ⟨gA,j,none⟩=some (.int .i64 (pl:Int))∧W'.cell? ⟨gB,pl,none⟩=some (.int .i64 y)∧W'.cell? ⟨gC,o'.length,none⟩=some (.int .i64 y))) (by kernel_rfl) (fun _ _ _ _ _=>id) ?_ fun hHeld=>?_
       ·(first | exact ⟨hca,hcb,hcc⟩ | go_keep)
       refine tku (b:=?_) [0,1,2,3,4,5,6,7,8,9,10,11,12,13,14,15,16,17] (by kernel_rfl) hHeld ?_ ?_
       rotate_left
       ·repeat first
        |exact .nil
        |refine .yes (v:=?_) rfl (by rfl) ?_ ?_
         rotate_left
         ·intro w9 hSw;(try dsimp only at hSw);go_simp;(try with_reducible rfl)
         (try simp only [aP,aZ,aS,aG,aH,aI])
       refine lsu 18 rfl (by kernel_rfl) fun K hK=>?_
       go_simp
       refine hK.out _ _ ?_
       clear hK K
       (try simp only [aP,aZ,aS,aG,aH,aI])
       skip
       go_wp2
       go_roundw
       case rel=>exact ⟨j + 1,_,hlt,by go_num,by rw [HS.out];first | exact SN | exact Lib.hid SN.out.drew⟩
       case measure=>simp [intOf] <;> omega
      ·have HS:=Lib.hid (HN.out (by simpa using hyu))
       have he1:(y == u)=false:=by simpa using hyu
       have he2:(y != u)=true:=by simpa using hyu
       have he3:decide (y=u)=false:=decide_eq_false hyu
       clear HN HE hyu
       go_wp2
       refine regu (S:=(fun W'=>W'.cell? ⟨gA,j,none⟩=some (.int .i64 (pl:Int))∧W'.cell? ⟨gB,pl,none⟩=some (.int .i64 u)∧W'.cell? ⟨gC,o'.length,none⟩=some (.int .i64 y))) (by kernel_rfl) (fun _ _ _ _ _=>id) ?_ fun hHeld=>?_
       ·(first | exact ⟨hca,hcb,hcc⟩ | go_keep)
       refine tku (b:=?_) [0,1,2,3,4,5,6,7,8,9,10,11,12,13,14,15,16,17] (by kernel_rfl) hHeld ?_ ?_
       rotate_left
       ·repeat first
        |exact .nil
        |refine .yes (v:=?_) rfl (by rfl) ?_ ?_
         rotate_left
         ·intro w9 hSw;(try dsimp only at hSw);go_simp;(try with_reducible rfl)
         (try simp only [aP,aZ,aS,aG,aH,aI])
       refine lsu 18 rfl (by kernel_rfl) fun K hK=>?_
       go_simp
       refine hK.out _ _ ?_
       clear hK K
       (try simp only [aP,aZ,aS,aG,aH,aI])
       skip
       go_wp2_with (at_builtin;refine papp_Int _ _ rfl rfl (u) rfl rfl (alloc_at (by first | rfl | (simp;done) | (simp;omega))) rfl ((SN.out.list (.head _)).next (by repeat' with_reducible first | assumption | exact bR | apply bD | apply bA | apply bC | apply bN | simp <;> omega)) (by first | omega | (simp;omega)) (by have:=SN.out.low.size;first | omega | (simp;done) | (simp;omega) | (simp at this ⊢;omega)) ?_;intro v7 w7 ha;obtain ⟨g7,S7⟩:=(SN.out.next (by repeat' with_reducible first | assumption | exact bR | apply bD | apply bA | apply bC | apply bN | simp <;> omega)).app ha;have S8:=Lib.hid S7;clear S7 ha)
       go_roundw
       case rel=>exact ⟨j + 1,_,hlt,by go_num,by rw [HS.out];exact S8⟩
       case measure=>simp [intOf] <;> omega
    ·obtain rfl:j=zs.length:=by omega
     go_wp2
     go_ret
     rw [HM.out]
     exact SN.out.ints
end Go.Proofs.YtioijfplbgpjpaaGreat
