/-
  What is at a height, how much is covered: both sides.
-/
import Derived.Test.YtioijfplbgpjpaaGreatKu43
import Derived.Test.YtioijfplbgpjpaaGreatKu30
import Derived.Deep.RegionHeld3
import Derived.Deep.DeepCutAuto
import Derived.Deep.RegionLaw
import Derived.Deep.RegionWith
import Derived.StillTailTactics
namespace Go.Proofs.YtioijfplbgpjpaaGreat
set_option linter.unusedVariables false
set_option linter.unusedSimpArgs false
set_option maxRecDepth 100000
open Go.RowKit Go.WideShapes Go.ChangeShapes Go.ChangeAt Go.Deep
theorem filter_step {l:List Int} {j:Nat} {i:Int} {p:Int→Bool} {f:Bool} (h:l[j]? = some i) (hf:p i=f):(l.take (j + 1)).filter p=(l.take j).filter p ++ (if f=true then [i] else []):=by
 rw [List.take_add_one,h,List.filter_append]
 simp only [Option.toList_some,List.filter_cons,List.filter_nil,hf]
theorem filter_take_le {l:List Int} {j:Nat} (p:Int→Bool):((l.take j).filter p).length≤j:=Nat.le_trans (List.length_filter_le _ _) (by rw [List.length_take];omega)
theorem atHeight_le (r:Request) (x:Plan) (k z:Int):(atHeight r x k z).length≤x.cartons.length:=by unfold atHeight;exact Nat.le_trans (List.length_filter_le _ _) (onPal_le x k)
theorem atHeight_in {r:Request} {x:Plan} {k z:Int} {j:Nat} {i:Int} (h:(atHeight r x k z)[j]? = some i):∃ m:Nat,i=m∧m < x.cartons.length∧m < x.spots.length:=by
 have hm:=List.mem_of_getElem? h
 unfold atHeight at hm
 obtain ⟨j2,hj2⟩:=List.mem_iff_getElem?.1 (List.mem_filter.1 hm).1
 exact onPal_in hj2
set_option maxRecDepth 100000 in
set_option maxHeartbeats 2000000 in
theorem iatHeight_any (v vx:Value) (r:Request) (x:Plan) (k z:Int) (w:World) (h:RReq 16777216 w w.heap.size v r) (hx:RPlan 16777216 w w.heap.size vx x):Calls Tryz.prog 105 #[v,vx,.int .i64 k,.int .i64 z] w (MInts w (atHeight r x k z)):=by
 have HR:=Lib.hid h
 have HX:=Lib.hid hx
 obtain ⟨A1,c1,A2,c2,A3,c3,rfl,_⟩:=h.opn
 obtain ⟨PA,ca,PB,cb,rfl,HPA,HPB,hla,hlb⟩:=hx.opn
 have hol:=onPal_le x k
 have hS:=(((Sit.here w).alloc (cR r A1 c1 A2 c2 A3 c3) 41).alloc #[.slice PA x.cartons.length ca,.slice PB x.spots.length cb] 46).alloc #[] 3
 simp only [World.size_alloc] at hS
 have SN:=Lib.hid (hS.boxNil cI 1)
 clear h hx hS
 go_enter Tryz.func105,Tryz.ntmps105
 have k1:=SN.out.box (.tail _ (.head _))
 have l1:=SN.out.boxlt (.tail _ (.head _))
 go_wp2_with fail
 refine (iOnPallet_any _ x k _ (HX.out.next SN.out.low)).mono ?_
 intro e2 w2 hm
 obtain ⟨v2,fk,rfl,hS⟩:=SN.out.gotInts hm
 obtain ⟨D,d,rfl,_⟩:=(hS.list (.head _)).form
 have SN:=Lib.hid hS.rot2
 clear k1 l1 hS hm
 go_wp2
 go_loopw [9,17] (fun vv i wr=>∃ (j:Nat) (fp:List Nat),j≤(onPal x k).length∧i=.int .i64 j∧Hid (Sit w wr [fOF cI 3 1 w.heap.size vv (((onPal x k).take j).filter (atH r x z)) fp,fOF cI 3 1 w.heap.size (.slice D (onPal x k).length d) (onPal x k) fk,fBox (w.heap.size + 1) #[.slice PA x.cartons.length ca,.slice PB x.spots.length cb] 46,fBox w.heap.size (cR r A1 c1 A2 c2 A3 c3) 41])) (fun _ i _=>(onPal x k).length - (intOf i).toNat)
 case atStart=>exact ⟨0,_,Nat.zero_le _,rfl,SN⟩
 case round =>
  clear SN
  obtain ⟨j,fp,hj,rfl,SN⟩:=hrel
  by_cases hlt:j < (onPal x k).length
  ·obtain ⟨i,hi⟩:∃ i,(onPal x k)[j]? = some i:=⟨_,List.getElem?_eq_getElem hlt⟩
   obtain ⟨m,rfl,hm1,hm2⟩:=onPal_in hi
   obtain ⟨gd,rfl⟩:=head_ptr (SN.out.list (.tail _ (.head _))) hi
   have hcu:=(SN.out.list (.tail _ (.head _))).cells (fun z=>rfl) hi 0 (.int .i64 (m:Int)) rfl
   rw [Nat.mul_one,Nat.add_zero] at hcu
   obtain ⟨b,off,c,U,cu,rfl,hb,hc,HU,HC⟩:=HPA.out.one m hm1
   obtain ⟨b2,off2,s,rfl,hb2,hs,HC2⟩:=HPB.out.one m hm2
   obtain ⟨bx,hbx⟩:∃ bx,boxR r c=bx:=⟨_,rfl⟩
   have HBX:=Lib.hid hbx
   obtain ⟨f,hf⟩:∃ f,inB z s.z (wrap64 (wrap64 (s.z + bx.h) - 1))=f:=⟨_,rfl⟩
   have HF:=Lib.hid hf
   have HST:=Lib.hid (filter_step (p:=atH r x z) hi (show atH r x z (m:Int)=f by unfold atH;rw [spotAt_at hs,boxAt_nat hc,hbx,hf]))
   have hln:=filter_take_le (l:=onPal x k) (j:=j) (atH r x z)
   have HCC:=Lib.hid (show ∀ X:World,Below wr.heap.size wr X→(cS10 (X) (w.heap.size) (r) (.slice A1 r.pairs.length c1) (.slice A2 r.types.length c2) (.slice A3 r.items.length c3))∧(X.cell? ⟨w.heap.size + 1,0,none⟩=some (.slice (some ⟨b,off,none⟩) x.cartons.length ca)∧X.cell? ⟨w.heap.size + 1,1,none⟩=some (.slice (some ⟨b2,off2,none⟩) x.spots.length cb))∧(cC3 (X) (b) (off) (m) (c) (.slice U c.units.length cu))∧cS4 (X) (b2) (off2) (m) (s) from fun X hX=>by
    have hX:=SN.out.next hX
    have c0:=hX.box (.tail _ (.tail _ (.tail _ (.head _))))
    exact ⟨⟨c0 0,c0 1,c0 2,c0 3,c0 4,c0 5,c0 6,c0 7,c0 8,c0 9⟩,⟨hX.box (.tail _ (.tail _ (.head _))) 0,hX.box (.tail _ (.tail _ (.head _))) 1⟩,HC.out X hX.low,HC2.out X hX.low⟩)
   have hfld:=fun W=>box_field2 bx.w bx.d bx.h bx.gram W
   clear hi hc hs hbx hf
   go_wp2
   refine regu (S:=(fun W'=>((cS10 (W') (w.heap.size) (r) (.slice A1 r.pairs.length c1) (.slice A2 r.types.length c2) (.slice A3 r.items.length c3)))∧(W'.cell? ⟨w.heap.size + 1,0,none⟩=some (.slice (some ⟨b,off,none⟩) x.cartons.length ca)∧W'.cell? ⟨w.heap.size + 1,1,none⟩=some (.slice (some ⟨b2,off2,none⟩) x.spots.length cb))∧(cC3 (W') (b) (off) (m) (c) (.slice U c.units.length cu))∧cS4 (W') (b2) (off2) (m) (s))) (by kernel_rfl) (fun _ _ _ _ _=>id) ?_ fun hHeld=>?_
   ·(first | (refine HCC.out _ ?_;(repeat' with_reducible first | assumption | exact bR | apply bD | apply bA | apply bC | apply bW | omega | simp <;> omega);done) | go_keep)
   refine tku (b:=?_) [0,1,2,3,4,5,6,7,8,9,10,11,12,13,14,15,16,17,18] (by kernel_rfl) hHeld ?_ ?_
   rotate_left
   ·repeat first
    |exact .nil
    |refine .yes (v:=?_) rfl (by rfl) ?_ ?_
     rotate_left
     ·intro w9 hSw;(try dsimp only at hSw);go_simp;(try with_reducible rfl)
     (try simp only [aP,aZ,aS,aG,aH,aI])
   refine onu 19 rfl (by kernel_rfl) fun K hK=>?_
   go_simp
   ((go_at_call 53;refine (iBoxOf_any _ _ r c _ (HR.out.next (SN.out.next (by (repeat' with_reducible first | assumption | exact bR | apply bD | apply bA | apply bC | apply bW | omega | simp <;> omega))).low) (HU.out.next (flat_mono _) (SN.out.next (by (repeat' with_reducible first | assumption | exact bR | apply bD | apply bA | apply bC | apply bW | omega | simp <;> omega))).low)).mono ?_;rintro e w3 ⟨rfl,hb3⟩;rw [HBX.out];have hn3:=bstep (a:=wr) (by (repeat' with_reducible first | assumption | exact bR | apply bD | apply bA | apply bC | apply bW | omega | simp <;> omega)) hb3))
   refine hK.out _ _ ?_ (fun hHeld=>?_)
   ·(first | (refine HCC.out _ ?_;(repeat' with_reducible first | assumption | exact bR | apply bD | apply bA | apply bC | apply bW | omega | simp <;> omega);done) | go_keep)
   clear hK K
   (try simp only [aP,aZ,aS,aG,aH,aI])
   refine tku (b:=?_) [20,21,22] (by kernel_rfl) hHeld ?_ ?_
   rotate_left
   ·repeat first
    |exact .nil
    |refine .yes (v:=?_) rfl (by rfl) ?_ ?_
     rotate_left
     ·intro w9 hSw;(try dsimp only at hSw);go_simp;(try with_reducible rfl)
     (try simp only [aP,aZ,aS,aG,aH,aI])
   refine lsu 23 rfl (by kernel_rfl) fun K hK=>?_
   go_simp
   ((go_at_call 114;(try simp only [wrapE]);refine (in_any _ _ _ _).mono ?_;rintro e w' ⟨rfl,rfl⟩;rw [HF.out]))
   refine hK.out _ _ ?_
   clear hK K
   (try simp only [aP,aZ,aS,aG,aH,aI])
   skip
   have SN:=Lib.hid (SN.out.next hn3)
   clear hn3 hb3
   cases f
   ·go_wp2
    go_roundw
    case rel=>exact ⟨j + 1,_,hlt,by go_num,by rw [HST.out];simpa using SN⟩
    case measure=>simp [intOf] <;> omega
   ·go_wp2_with (at_builtin;refine papp_Int _ _ rfl rfl ((m:Int)) rfl rfl (alloc_at (by first | rfl | (simp;done) | (simp;omega))) rfl ((SN.out.list (.head _)).next (by repeat' with_reducible first | assumption | exact bR | apply bD | apply bA | apply bC | apply bN | simp <;> omega)) (by first | omega | (simp;omega)) (by have:=SN.out.low.size;first | omega | (simp;done) | (simp;omega) | (simp at this ⊢;omega)) ?_;intro v7 w7 ha;obtain ⟨g7,S7⟩:=(SN.out.next (by repeat' with_reducible first | assumption | exact bR | apply bD | apply bA | apply bC | apply bN | simp <;> omega)).app ha;have S8:=Lib.hid S7;clear S7 ha)
    go_roundw
    case rel=>exact ⟨j + 1,_,hlt,by go_num,by rw [HST.out];exact S8⟩
    case measure=>simp [intOf] <;> omega
  ·obtain rfl:j=(onPal x k).length:=by omega
   rw [List.take_length] at SN
   go_wp2
   go_ret
   exact SN.out.ints
set_option maxRecDepth 100000 in
set_option maxHeartbeats 2000000 in
theorem iCovered_any (v vx:Value) (r:Request) (x:Plan) (k z:Int) (w:World) (h:RReq 16777216 w w.heap.size v r) (hx:RPlan 16777216 w w.heap.size vx x) (hL:x.bulk≤16777216):Calls Tryz.prog 28 #[v,vx,.int .i64 k,.int .i64 z] w fun e w'=>e=.returned (.int .i64 (coveredR r x k z))∧Below w.heap.size w w':=by
 have HR:=Lib.hid h
 have HX:=Lib.hid hx
 obtain ⟨A1,c1,A2,c2,A3,c3,rfl,_⟩:=h.opn
 obtain ⟨PA,ca,PB,cb,rfl,HPA,HPB,hla,hlb⟩:=hx.opn
 have hol:=atHeight_le r x k z
 have hS:=((Sit.here w).alloc (cR r A1 c1 A2 c2 A3 c3) 41).alloc #[.slice PA x.cartons.length ca,.slice PB x.spots.length cb] 46
 simp only [World.size_alloc] at hS
 have SN:=Lib.hid hS
 obtain ⟨q,hq⟩:∃ q,feasible r x=q:=⟨_,rfl⟩
 have HQ:=Lib.hid hq
 have HM:=Lib.hid (show coveredR r x k z=if q=true then (atHeight r x k z).foldl (covStep r x) 0 else 0 by unfold coveredR;rw [hq])
 have HIN:=Lib.hid (fun (j:Nat) (i:Int) (h:(atHeight r x k z)[j]? = some i)=>atHeight_in h)
 obtain ⟨L,hLL⟩:∃ L,atHeight r x k z=L:=⟨_,rfl⟩
 have HLL:=Lib.hid hLL
 rw [hLL] at hol HM HIN
 clear h hx hS hq hLL
 go_enter Tryz.func28,Tryz.ntmps28
 have k0:=SN.out.box (.tail _ (.head _));have l0:=SN.out.boxlt (.tail _ (.head _));have k1:=SN.out.box (.head _);have l1:=SN.out.boxlt (.head _)
 go_wp2_with fail
 refine (iFeasible_any _ _ r x _ (HR.out.next SN.out.low) (HX.out.next SN.out.low) hL).mono ?_
 rintro e1 w1 ⟨rfl,hb1⟩
 rw [HQ.out]
 have SN:=Lib.hid (SN.out.next hb1)
 clear k0 l0 k1 l1 hb1
 cases q
 ·go_wp2
  go_ret
  exact ⟨by rw [HM.out];rfl,SN.out.low⟩
 have k0:=SN.out.box (.tail _ (.head _));have l0:=SN.out.boxlt (.tail _ (.head _));have k1:=SN.out.box (.head _);have l1:=SN.out.boxlt (.head _)
 go_wp2_with fail
 refine (iatHeight_any _ _ r x k z _ (HR.out.next SN.out.low) (HX.out.next SN.out.low)).mono ?_
 intro e2 w2 hm
 rw [HLL.out] at hm
 obtain ⟨v2,fk,rfl,hS⟩:=SN.out.gotInts hm
 obtain ⟨D,d,rfl,_⟩:=(hS.list (.head _)).form
 have SN:=Lib.hid hS
 clear k0 l0 k1 l1 hS hm
 go_wp2
 go_loopw [9,23] (fun n i wr=>∃ (j:Nat),j≤L.length∧i=.int .i64 j∧n=.int .i64 ((L.take j).foldl (covStep r x) 0)∧Hid (Sit w wr [fOF cI 3 1 w.heap.size (.slice D L.length d) (L) fk,fBox (w.heap.size + 1) #[.slice PA x.cartons.length ca,.slice PB x.spots.length cb] 46,fBox w.heap.size (cR r A1 c1 A2 c2 A3 c3) 41])) (fun _ i _=>L.length - (intOf i).toNat)
 case atStart=>exact ⟨0,Nat.zero_le _,rfl,rfl,SN⟩
 case round =>
  clear SN
  obtain ⟨j,hj,rfl,rfl,SN⟩:=hrel
  by_cases hlt:j < L.length
  ·obtain ⟨i,hi⟩:∃ i,L[j]? = some i:=⟨_,List.getElem?_eq_getElem hlt⟩
   obtain ⟨m,rfl,hm1,hm2⟩:=HIN.out j i hi
   obtain ⟨gd,rfl⟩:=head_ptr (SN.out.list (.head _)) hi
   have hcu:=(SN.out.list (.head _)).cells (fun z=>rfl) hi 0 (.int .i64 (m:Int)) rfl
   rw [Nat.mul_one,Nat.add_zero] at hcu
   obtain ⟨b,off,c,U,cu,rfl,hb,hc,HU,HC⟩:=HPA.out.one m hm1
   have HST:=Lib.hid (foldl_take_step (f:=covStep r x) (b:=0) hi)
   obtain ⟨G,hG⟩:∃ G,(L.take j).foldl (covStep r x) 0=G:=⟨_,rfl⟩
   obtain ⟨bx,hbx⟩:∃ bx,boxR r c=bx:=⟨_,rfl⟩
   have HBX:=Lib.hid hbx
   have HG:=Lib.hid (show covStep r x G (m:Int)=wrap64 (G + wrap64 (bx.w * bx.d)) by unfold covStep;rw [boxAt_nat hc,hbx])
   rw [hG] at HST ⊢
   have HCC:=Lib.hid (show ∀ X:World,Below wr.heap.size wr X→(cS10 (X) (w.heap.size) (r) (.slice A1 r.pairs.length c1) (.slice A2 r.types.length c2) (.slice A3 r.items.length c3))∧X.cell? ⟨w.heap.size + 1,0,none⟩=some (.slice (some ⟨b,off,none⟩) x.cartons.length ca)∧(cC3 (X) (b) (off) (m) (c) (.slice U c.units.length cu)) from fun X hX=>by
    have hX:=SN.out.next hX
    have c0:=hX.box (.tail _ (.tail _ (.head _)))
    exact ⟨⟨c0 0,c0 1,c0 2,c0 3,c0 4,c0 5,c0 6,c0 7,c0 8,c0 9⟩,hX.box (.tail _ (.head _)) 0,HC.out X hX.low⟩)
   clear hi hc hG hbx
   go_upto_region 7 with fail
   clear hcu
   go_cut [12] (fun v8 X=>∃ g8,v8=.pointer (some ⟨g8,0,none⟩)∧Hid (Sit w X [fBox g8 #[.int .i64 bx.w,.int .i64 bx.d,.int .i64 bx.h,.int .i64 bx.gram] 75,fOF cI 3 1 w.heap.size (.slice (some ⟨gd,0,none⟩) L.length d) (L) fk,fBox (w.heap.size + 1) #[.slice (some ⟨b,off,none⟩) x.cartons.length ca,.slice PB x.spots.length cb] 46,fBox w.heap.size (cR r A1 c1 A2 c2 A3 c3) 41]))
   case first =>
    go_region_held3 (fun W'=>((cS10 (W') (w.heap.size) (r) (.slice A1 r.pairs.length c1) (.slice A2 r.types.length c2) (.slice A3 r.items.length c3)))∧W'.cell? ⟨w.heap.size + 1,0,none⟩=some (.slice (some ⟨b,off,none⟩) x.cartons.length ca)∧(cC3 (W') (b) (off) (m) (c) (.slice U c.units.length cu))) (first | (refine HCC.out _ ?_;(repeat' with_reducible first | assumption | exact bR | apply bD | apply bA | apply bC | apply bW | omega | simp <;> omega);done) | go_keep) (first | (go_at_call 53;(try (first | refine calls_new ?_ | refine calls_newd ?_);intro hg);refine (iBoxOf_any _ _ r c _ (HR.out.next (SN.out.next (by (repeat' with_reducible first | assumption | exact bR | apply bD | apply bA | apply bC | apply bW | omega | simp <;> omega))).low) (HU.out.next (flat_mono _) (SN.out.next (by (repeat' with_reducible first | assumption | exact bR | apply bD | apply bA | apply bC | apply bW | omega | simp <;> omega))).low)).mono ?_;rintro e w2 ⟨rfl,hb2⟩;rw [HBX.out];have hn2:=bstep (a:=wr) (by (repeat' with_reducible first | assumption | exact bR | apply bD | apply bA | apply bC | apply bW | omega | simp <;> omega)) hb2;have hz2:=hn2.size;have hj2:=hb2.size;(try simp only [World.size_alloc,World.size_drew] at hj2);have SE:=Lib.hid ((SN.out.drew.alloc #[.int .i64 0,.int .i64 0,.int .i64 0,.int .i64 0] 75));(first | (have SE:=Lib.hid (SE.out.next hb2)) | skip);have SN:=Lib.hid ((SN.out.next (by (repeat' with_reducible first | assumption | exact bR | apply bD | apply bA | apply bC | apply bW | omega | simp <;> omega))).next hb2);(try (have hg:=blk_next hg hb2;have hgc:=fun j=>cell_of_row _ _ j _ _ (0,0) hg;have hgf:=fun j=>frozen_of_row _ _ j _ _ hg;have hgl:=lt_of_block hg))))
    (all_goals (go_wp2_with fail;go_meet));(first | (exact ⟨_,rfl,Lib.hid (SN.out.alloc _ _)⟩) | skip);(all_goals exact ⟨_,rfl,Lib.hid (SE.out.overL [.int .i64 bx.w,.int .i64 bx.d,.int .i64 bx.h,.int .i64 bx.gram] 0)⟩)
   case rest =>
    obtain ⟨g8,rfl,SN2⟩:=hcut
    have SN:=SN2
    clear SN2 HCC
    have k8:=SN.out.box (.head _)
    have l8:=SN.out.boxlt (.head _)
    go_wp2
    go_roundw
    case rel=>exact ⟨j + 1,hlt,by go_num,by rw [HST.out,HG.out];(try simp only [wrapE]),Lib.hid SN.out.drop⟩
    case measure=>simp [intOf] <;> omega
  ·obtain rfl:j=L.length:=by omega
   rw [List.take_length]
   go_wp2
   go_ret
   exact ⟨by rw [HM.out];rfl,SN.out.low⟩
set_option maxRecDepth 100000 in
set_option maxHeartbeats 4000000 in
theorem sCovered_any (v vx:Value) (r:Request) (x:Plan) (k z:Int) (w:World) (h:RReq 16777216 w w.heap.size v r) (hx:RPlan 16777216 w w.heap.size vx x) (hL:x.bulk≤16777216):Calls Tryz.prog 27 #[v,vx,.int .i64 k,.int .i64 z] w fun e w'=>e=.returned (.int .i64 (coveredR r x k z))∧Below w.heap.size w w':=by
 have HR:=Lib.hid h
 have HX:=Lib.hid hx
 obtain ⟨A1,c1,A2,c2,A3,c3,rfl,_⟩:=h.opn
 obtain ⟨PA,ca,PB,cb,rfl,HPA,HPB,hla,hlb⟩:=hx.opn
 have hol:=onPal_le x k
 have hS:=((Sit.here w).alloc (cR r A1 c1 A2 c2 A3 c3) 41).alloc #[.slice PA x.cartons.length ca,.slice PB x.spots.length cb] 46
 simp only [World.size_alloc] at hS
 have SN:=Lib.hid hS
 obtain ⟨q,hq⟩:∃ q,feasible r x=q:=⟨_,rfl⟩
 have HQ:=Lib.hid hq
 have HM:=Lib.hid (show coveredR r x k z=if q=true then ((onPal x k).filter (atH r x z)).foldl (covStep r x) 0 else 0 by unfold coveredR atHeight;rw [hq])
 clear h hx hS hq
 go_enter Tryz.func27,Tryz.ntmps27
 have k0:=SN.out.box (.tail _ (.head _));have l0:=SN.out.boxlt (.tail _ (.head _));have k1:=SN.out.box (.head _);have l1:=SN.out.boxlt (.head _)
 go_wp2_with fail
 refine (sFeasible_any _ _ r x _ (HR.out.next SN.out.low) (HX.out.next SN.out.low) hL).mono ?_
 rintro e1 w1 ⟨rfl,hb1⟩
 rw [HQ.out]
 have SN:=Lib.hid (SN.out.next hb1)
 clear k0 l0 k1 l1 hb1
 cases q
 ·go_wp2
  go_ret
  exact ⟨by rw [HM.out];rfl,SN.out.low⟩
 have k1:=SN.out.box (.head _)
 have l1:=SN.out.boxlt (.head _)
 go_wp2_with fail
 refine (sOnPallet_any _ x k _ (HX.out.next SN.out.low)).mono ?_
 intro e2 w2 hm
 obtain ⟨v2,fk,rfl,hS⟩:=SN.out.gotInts hm
 obtain ⟨D,d,rfl,_⟩:=(hS.list (.head _)).form
 have SN:=Lib.hid hS
 clear k1 l1 hS hm
 go_wp2
 go_loopw [9,11] (fun n i wr=>∃ (j:Nat),j≤(onPal x k).length∧i=.int .i64 j∧n=.int .i64 ((((onPal x k).take j).filter (atH r x z)).foldl (covStep r x) 0)∧Hid (Sit w wr [fOF cI 3 1 w.heap.size (.slice D (onPal x k).length d) (onPal x k) fk,fBox (w.heap.size + 1) #[.slice PA x.cartons.length ca,.slice PB x.spots.length cb] 46,fBox w.heap.size (cR r A1 c1 A2 c2 A3 c3) 41])) (fun _ i _=>(onPal x k).length - (intOf i).toNat)
 case atStart=>exact ⟨0,Nat.zero_le _,rfl,rfl,SN⟩
 case round =>
  clear SN
  obtain ⟨j,hj,rfl,rfl,SN⟩:=hrel
  by_cases hlt:j < (onPal x k).length
  ·obtain ⟨i,hi⟩:∃ i,(onPal x k)[j]? = some i:=⟨_,List.getElem?_eq_getElem hlt⟩
   obtain ⟨m,rfl,hm1,hm2⟩:=onPal_in hi
   obtain ⟨gd,rfl⟩:=head_ptr (SN.out.list (.head _)) hi
   have HI:=Lib.hid hi
   obtain ⟨b,off,c,U,cu,rfl,hb,hc,HU,HC⟩:=HPA.out.one m hm1
   obtain ⟨b2,off2,s,rfl,hb2,hs,HC2⟩:=HPB.out.one m hm2
   obtain ⟨bx,hbx⟩:∃ bx,boxR r c=bx:=⟨_,rfl⟩
   have HBX:=Lib.hid hbx
   obtain ⟨f,hf⟩:∃ f,inB z s.z (wrap64 (wrap64 (s.z + bx.h) - 1))=f:=⟨_,rfl⟩
   have HF:=Lib.hid hf
   have HST:=Lib.hid (filter_step (p:=atH r x z) hi (show atH r x z (m:Int)=f by unfold atH;rw [spotAt_at hs,boxAt_nat hc,hbx,hf]))
   obtain ⟨G,hG⟩:∃ G,(((onPal x k).take j).filter (atH r x z)).foldl (covStep r x) 0=G:=⟨_,rfl⟩
   have HG:=Lib.hid (show (((onPal x k).take (j + 1)).filter (atH r x z)).foldl (covStep r x) 0=if f=true then wrap64 (G + wrap64 (bx.w * bx.d)) else G by
    rw [HST.out,List.foldl_append,hG]
    cases f
    ·rfl
    ·show covStep r x G (m:Int)=_
     unfold covStep;rw [boxAt_nat hc,hbx];rfl)
   rw [hG]
   have HCC:=Lib.hid (show ∀ X:World,Below wr.heap.size wr X→(cS10 (X) (w.heap.size) (r) (.slice A1 r.pairs.length c1) (.slice A2 r.types.length c2) (.slice A3 r.items.length c3))∧X.cell? ⟨w.heap.size + 1,0,none⟩=some (.slice (some ⟨b,off,none⟩) x.cartons.length ca)∧X.cell? ⟨gd,j,none⟩=some (.int .i64 (m:Int))∧(cC3 (X) (b) (off) (m) (c) (.slice U c.units.length cu)) from fun X hX=>by
    have hX:=SN.out.next hX
    have c0:=hX.box (.tail _ (.tail _ (.head _)))
    have hcu:=(hX.list (.head _)).cells (fun z=>rfl) HI.out 0 (.int .i64 (m:Int)) rfl
    rw [Nat.mul_one,Nat.add_zero] at hcu
    exact ⟨⟨c0 0,c0 1,c0 2,c0 3,c0 4,c0 5,c0 6,c0 7,c0 8,c0 9⟩,hX.box (.tail _ (.head _)) 0,hcu,HC.out X hX.low⟩)
   have hidx:(0:Int)≤(m:Int):=by omega
   clear hi hc hs hG hbx hf
   go_upto_region 8 with fail
   go_cut [12] (fun v8 X=>∃ g8,v8=.pointer (some ⟨g8,0,none⟩)∧Hid (Sit w X [fBox g8 #[.int .i64 bx.w,.int .i64 bx.d,.int .i64 bx.h,.int .i64 bx.gram] 75,fOF cI 3 1 w.heap.size (.slice (some ⟨gd,0,none⟩) (onPal x k).length d) (onPal x k) fk,fBox (w.heap.size + 1) #[.slice (some ⟨b,off,none⟩) x.cartons.length ca,.slice (some ⟨b2,off2,none⟩) x.spots.length cb] 46,fBox w.heap.size (cR r A1 c1 A2 c2 A3 c3) 41]))
   case first =>
    go_region_held3 (fun W'=>((cS10 (W') (w.heap.size) (r) (.slice A1 r.pairs.length c1) (.slice A2 r.types.length c2) (.slice A3 r.items.length c3)))∧W'.cell? ⟨w.heap.size + 1,0,none⟩=some (.slice (some ⟨b,off,none⟩) x.cartons.length ca)∧W'.cell? ⟨gd,j,none⟩=some (.int .i64 (m:Int))∧(cC3 (W') (b) (off) (m) (c) (.slice U c.units.length cu))) (first | (refine HCC.out _ ?_;(repeat' with_reducible first | assumption | exact bR | apply bD | apply bA | apply bC | apply bW | omega | simp <;> omega);done) | go_keep) (first | (go_at_call 91;(try (first | refine calls_new ?_ | refine calls_newd ?_);intro hg);refine (sBoxOf_any _ _ r c _ (HR.out.next (SN.out.next (by (repeat' with_reducible first | assumption | exact bR | apply bD | apply bA | apply bC | apply bW | omega | simp <;> omega))).low) (HU.out.next (flat_mono _) (SN.out.next (by (repeat' with_reducible first | assumption | exact bR | apply bD | apply bA | apply bC | apply bW | omega | simp <;> omega))).low)).mono ?_;rintro e w2 ⟨rfl,hb2⟩;rw [HBX.out];have hn2:=bstep (a:=wr) (by (repeat' with_reducible first | assumption | exact bR | apply bD | apply bA | apply bC | apply bW | omega | simp <;> omega)) hb2;have hz2:=hn2.size;have hj2:=hb2.size;(try simp only [World.size_alloc,World.size_drew] at hj2);have SE:=Lib.hid ((SN.out.drew.alloc #[.int .i64 0,.int .i64 0,.int .i64 0,.int .i64 0] 75));(first | (have SE:=Lib.hid (SE.out.next hb2)) | skip);have SN:=Lib.hid ((SN.out.next (by (repeat' with_reducible first | assumption | exact bR | apply bD | apply bA | apply bC | apply bW | omega | simp <;> omega))).next hb2);(try (have hg:=blk_next hg hb2;have hgc:=fun j=>cell_of_row _ _ j _ _ (0,0) hg;have hgf:=fun j=>frozen_of_row _ _ j _ _ hg;have hgl:=lt_of_block hg))))
    (all_goals (go_wp2_with fail;go_meet));(first | (exact ⟨_,rfl,Lib.hid (SN.out.alloc _ _)⟩) | skip);(all_goals exact ⟨_,rfl,Lib.hid (SE.out.overL [.int .i64 bx.w,.int .i64 bx.d,.int .i64 bx.h,.int .i64 bx.gram] 0)⟩)
   case rest =>
    obtain ⟨g8,rfl,SN2⟩:=hcut
    have SN:=SN2
    clear SN2 HCC
    have k8:=SN.out.box (.head _)
    have l8:=SN.out.boxlt (.head _)
    have hcu:=(SN.out.list (.tail _ (.head _))).cells (fun z=>rfl) HI.out 0 (.int .i64 (m:Int)) rfl
    rw [Nat.mul_one,Nat.add_zero] at hcu
    have k82:wc.cell? ⟨g8,2,none⟩=some (.int .i64 bx.h):=k8 2
    have k11:wc.cell? ⟨w.heap.size + 1,1,none⟩=some (.slice (some ⟨b2,off2,none⟩) x.spots.length cb):=SN.out.box (.tail _ (.tail _ (.head _))) 1
    have hsc:=HC2.out wc SN.out.low
    go_wp2
    refine regu (S:=(fun W'=>W'.cell? ⟨gd,j,none⟩=some (.int .i64 (m:Int))∧W'.cell? ⟨g8,2,none⟩=some (.int .i64 bx.h)∧W'.cell? ⟨w.heap.size + 1,1,none⟩=some (.slice (some ⟨b2,off2,none⟩) x.spots.length cb)∧cS4 (W') (b2) (off2) (m) (s))) (by kernel_rfl) (fun _ _ _ _ _=>id) ?_ fun hHeld=>?_
    ·(first | exact ⟨hcu,k82,k11,hsc⟩ | go_keep)
    refine tku (b:=?_) [0,1,2,3,4,5,6,7,8,9,10,11,12,13,14,15,16,17,18,19,20,21,22] (by kernel_rfl) hHeld ?_ ?_
    rotate_left
    ·repeat first
     |exact .nil
     |refine .yes (v:=?_) rfl (by rfl) ?_ ?_
      rotate_left
      ·intro w9 hSw;(try dsimp only at hSw);go_simp;(try with_reducible rfl)
      (try simp only [aP,aZ,aS,aG,aH,aI])
    refine lsu 23 rfl (by kernel_rfl) fun K hK=>?_
    go_simp
    ((go_at_call 104;(try simp only [wrapE]);refine (l1In_any _ _ _ _).mono ?_;rintro e w' ⟨rfl,rfl⟩;rw [HF.out]))
    refine hK.out _ _ ?_
    clear hK K
    (try simp only [aP,aZ,aS,aG,aH,aI])
    skip
    have SN:=Lib.hid SN.out.drew
    have k8:∀ j,wc.drew.cell? ⟨g8,j,none⟩=_:=k8
    have l8:g8 < wc.drew.heap.size:=l8
    clear hcu k82 k11 hsc
    cases f
    all_goals go_wp2
    all_goals go_roundw
    all_goals first | (case rel=>exact ⟨j + 1,hlt,by go_num,by rw [HG.out];(try simp only [wrapE]);rfl,Lib.hid SN.out.drop⟩) | (case measure=>simp [intOf] <;> omega)
  ·obtain rfl:j=(onPal x k).length:=by omega
   rw [List.take_length]
   go_wp2
   go_ret
   exact ⟨by rw [HM.out];rfl,SN.out.low⟩
end Go.Proofs.YtioijfplbgpjpaaGreat
