/-
  Plain laws on heights: at each something is covered, below the least nothing. No function is named here.
-/
import Derived.Test.YtioijfplbgpjpaaGreatKu29
import Derived.Test.YtioijfplbgpjpaaGreatKu22
import Derived.Test.YtioijfplbgpjpaaGreatKu43
import Derived.Test.YtioijfplbgpjpaaGreatKu28
import Derived.Deep.RegionHeld3
import Derived.Deep.DeepCutAuto
import Derived.Deep.RegionLaw
import Derived.Deep.RegionWith
import Derived.StillTailTactics
import Derived.Test.YtioijfplbgpjpaaGreatKu00
import Derived.Test.YtioijfplbgpjpaaGreatKu01
namespace Go.Proofs.YtioijfplbgpjpaaGreat
set_option linter.unusedVariables false
set_option linter.unusedSimpArgs false
set_option maxRecDepth 100000
open Go.RowKit
def heightsR (r:Request) (x:Plan) (k:Int):List Int:=if feasible r x=true then kindsM (zsOn x k) else []
section
variable {r:Request} {x:Plan} {k:Int}
theorem zsOn_mem {z:Int} : z∈zsOn x k↔∃ u∈onPal x k,(spotAt x u).z=z:=by unfold zsOn;rw [List.mem_map]
theorem heights_covered {z:Int} (hz:z∈heightsR r x k):1≤coveredR r x k z:=by
 unfold heightsR at hz
 by_cases h:feasible r x=true
 ·rw [if_pos h,kindsM_mem,zsOn_mem] at hz
  obtain ⟨u,hu,he⟩:=hz
  exact covered_some h hu he
 ·rw [if_neg h] at hz;simp at hz
theorem heights_asc:(heightsR r x k).Pairwise (· < ·):=by
 unfold heightsR
 split
 ·exact kindsM_asc _
 ·exact List.Pairwise.nil
theorem heights_nil (h:feasible r x=true):heightsR r x k=[]↔onPal x k=[]:=by
 unfold heightsR
 rw [if_pos h]
 constructor
 ·intro he
  rw [List.eq_nil_iff_forall_not_mem] at he ⊢
  intro u hu
  exact he _ (kindsM_mem.2 (zsOn_mem.2 ⟨u,hu,rfl⟩))
 ·intro he
  rw [List.eq_nil_iff_forall_not_mem]
  intro z hz
  obtain ⟨u,hu,_⟩:=zsOn_mem.1 (kindsM_mem.1 hz)
  rw [he] at hu;simp at hu
theorem heights_least (h:feasible r x=true) {z:Int} (hz:(heightsR r x k)[0]? = some z):coveredR r x k (z - 1)=0:=by
 refine covered_none h fun u hu=>.inl ?_
 have hm:(spotAt x u).z∈heightsR r x k:=by
  unfold heightsR
  rw [if_pos h]
  exact kindsM_mem.2 (zsOn_mem.2 ⟨u,hu,rfl⟩)
 obtain ⟨i,hi,he⟩:=List.getElem_of_mem hm
 have ha:=heights_asc (r:=r) (x:=x) (k:=k)
 obtain ⟨h0,e0⟩:=List.getElem?_eq_some_iff.1 hz
 rcases Nat.eq_zero_or_pos i with hi0 | hi0
 ·subst hi0;omega
 ·have:=List.pairwise_iff_getElem.1 ha 0 i h0 hi hi0
  omega
theorem heights_len:(heightsR r x k).length≤(onPal x k).length:=by
 unfold heightsR
 split
 ·exact Nat.le_trans (kindsM_le _) (by unfold zsOn;rw [List.length_map];exact Nat.le_refl _)
 ·simp
end
end Go.Proofs.YtioijfplbgpjpaaGreat
namespace Go.Proofs.YtioijfplbgpjpaaGreat
set_option linter.unusedVariables false
set_option linter.unusedSimpArgs false
set_option maxRecDepth 100000
open Go.RowKit Go.WideShapes Go.ChangeShapes Go.ChangeAt Go.Deep
theorem boxAt_nat {r:Request} {x:Plan} {i:Nat} {c:Carton} (h:x.cartons[i]? = some c):boxAt r x (i:Int)=boxR r c:=by unfold boxAt;rw [cartAt_at h]
theorem box_field2 (a b c d:Int) (W:World):(Instr.field 75 (.agg #[.int .i64 a,.int .i64 b,.int .i64 c,.int .i64 d]) 2).run Tryz.prog W=.ok (.int .i64 c) W:=by first | rfl | (simp [Instr.field,go_sem,Tryz.underlying75])
set_option maxRecDepth 100000 in
set_option maxHeartbeats 2000000 in
theorem iTop_any (v vx:Value) (r:Request) (x:Plan) (k:Int) (w:World) (h:RReq 16777216 w w.heap.size v r) (hx:RPlan 16777216 w w.heap.size vx x) (hL:x.bulk≤16777216):Calls Tryz.prog 24 #[v,vx,.int .i64 k] w fun e w'=>e=.returned (.int .i64 (topR r x k))∧Below w.heap.size w w':=by
 have HR:=Lib.hid h
 have HX:=Lib.hid hx
 obtain ⟨A1,c1,A2,c2,A3,c3,rfl,_⟩:=h.opn
 obtain ⟨PA,ca,PB,cb,rfl,HPA,HPB,hla,hlb⟩:=hx.opn
 have hol:=onPal_le x k
 have hS:=((Sit.here w).alloc (cR r A1 c1 A2 c2 A3 c3) 41).alloc #[.slice PA x.cartons.length ca,.slice PB x.spots.length cb] 46
 simp only [World.size_alloc] at hS
 have SN:=Lib.hid hS
 obtain ⟨q,hq⟩:∃ q,feasible r x=q:=⟨_,rfl⟩
 have HQ:=Lib.hid hq
 have HM:=Lib.hid (show topR r x k=if q=true then (onPal x k).foldl (topStep r x) 0 else 0 by unfold topR;rw [hq])
 clear h hx hS hq
 go_enter Tryz.func24,Tryz.ntmps24
 have k0:=SN.out.box (.tail _ (.head _));have l0:=SN.out.boxlt (.tail _ (.head _));have k1:=SN.out.box (.head _);have l1:=SN.out.boxlt (.head _)
 go_wp2_with fail
 refine (iFeasible_any _ _ r x _ (HR.out.next SN.out.low) (HX.out.next SN.out.low) hL).mono ?_
 rintro e1 w1 ⟨rfl,hb1⟩
 rw [HQ.out]
 have SN:=Lib.hid (SN.out.next hb1)
 clear k0 l0 k1 l1 hb1
 cases q
 ·go_wp2
  go_ret
  exact ⟨by rw [HM.out];rfl,SN.out.low⟩
 have k1:=SN.out.box (.head _)
 have l1:=SN.out.boxlt (.head _)
 go_wp2_with fail
 refine (iOnPallet_any _ x k _ (HX.out.next SN.out.low)).mono ?_
 intro e2 w2 hm
 obtain ⟨v2,fk,rfl,hS⟩:=SN.out.gotInts hm
 obtain ⟨D,d,rfl,_⟩:=(hS.list (.head _)).form
 have SN:=Lib.hid hS
 clear k1 l1 hS hm
 go_wp2
 go_loopw [7,18] (fun n i wr=>∃ (j:Nat),j≤(onPal x k).length∧i=.int .i64 j∧n=.int .i64 (((onPal x k).take j).foldl (topStep r x) 0)∧Hid (Sit w wr [fOF cI 3 1 w.heap.size (.slice D (onPal x k).length d) (onPal x k) fk,fBox (w.heap.size + 1) #[.slice PA x.cartons.length ca,.slice PB x.spots.length cb] 46,fBox w.heap.size (cR r A1 c1 A2 c2 A3 c3) 41])) (fun _ i _=>(onPal x k).length - (intOf i).toNat)
 case atStart=>exact ⟨0,Nat.zero_le _,rfl,rfl,SN⟩
 case round =>
  clear SN
  obtain ⟨j,hj,rfl,rfl,SN⟩:=hrel
  by_cases hlt:j < (onPal x k).length
  ·obtain ⟨i,hi⟩:∃ i,(onPal x k)[j]? = some i:=⟨_,List.getElem?_eq_getElem hlt⟩
   obtain ⟨m,rfl,hm1,hm2⟩:=onPal_in hi
   obtain ⟨gd,rfl⟩:=head_ptr (SN.out.list (.head _)) hi
   have hcu:=(SN.out.list (.head _)).cells (fun z=>rfl) hi 0 (.int .i64 (m:Int)) rfl
   rw [Nat.mul_one,Nat.add_zero] at hcu
   obtain ⟨b,off,c,U,cu,rfl,hb,hc,HU,HC⟩:=HPA.out.one m hm1
   obtain ⟨b2,off2,s,rfl,hb2,hs,HC2⟩:=HPB.out.one m hm2
   have HST:=Lib.hid (foldl_take_step (f:=topStep r x) (b:=0) hi)
   obtain ⟨G,hG⟩:∃ G,((onPal x k).take j).foldl (topStep r x) 0=G:=⟨_,rfl⟩
   obtain ⟨bx,hbx⟩:∃ bx,boxR r c=bx:=⟨_,rfl⟩
   have HBX:=Lib.hid hbx
   have HG:=Lib.hid (show topStep r x G (m:Int)=max G (wrap64 (s.z + bx.h)) by unfold topStep;rw [spotAt_at hs,boxAt_nat hc,hbx])
   rw [hG] at HST ⊢
   have HCC:=Lib.hid (show ∀ X:World,Below wr.heap.size wr X→(cS10 (X) (w.heap.size) (r) (.slice A1 r.pairs.length c1) (.slice A2 r.types.length c2) (.slice A3 r.items.length c3))∧(X.cell? ⟨w.heap.size + 1,0,none⟩=some (.slice (some ⟨b,off,none⟩) x.cartons.length ca)∧X.cell? ⟨w.heap.size + 1,1,none⟩=some (.slice (some ⟨b2,off2,none⟩) x.spots.length cb))∧(cC3 (X) (b) (off) (m) (c) (.slice U c.units.length cu))∧cS4 (X) (b2) (off2) (m) (s) from fun X hX=>by
    have hX:=SN.out.next hX
    have c0:=hX.box (.tail _ (.tail _ (.head _)))
    exact ⟨⟨c0 0,c0 1,c0 2,c0 3,c0 4,c0 5,c0 6,c0 7,c0 8,c0 9⟩,⟨hX.box (.tail _ (.head _)) 0,hX.box (.tail _ (.head _)) 1⟩,HC.out X hX.low,HC2.out X hX.low⟩)
   have hfld:=fun W=>box_field2 bx.w bx.d bx.h bx.gram W
   clear hi hc hs hG hbx
   go_wp2
   refine regu (S:=(fun W'=>((cS10 (W') (w.heap.size) (r) (.slice A1 r.pairs.length c1) (.slice A2 r.types.length c2) (.slice A3 r.items.length c3)))∧(W'.cell? ⟨w.heap.size + 1,0,none⟩=some (.slice (some ⟨b,off,none⟩) x.cartons.length ca)∧W'.cell? ⟨w.heap.size + 1,1,none⟩=some (.slice (some ⟨b2,off2,none⟩) x.spots.length cb))∧(cC3 (W') (b) (off) (m) (c) (.slice U c.units.length cu))∧cS4 (W') (b2) (off2) (m) (s))) (by kernel_rfl) (fun _ _ _ _ _=>id) ?_ fun hHeld=>?_
   ·(first | (refine HCC.out _ ?_;(repeat' with_reducible first | assumption | exact bR | apply bD | apply bA | apply bC | apply bW | omega | simp <;> omega);done) | go_keep)
   refine tku (b:=?_) [0,1,2,3,4,5,6,7,8,9,10,11,12] (by kernel_rfl) hHeld ?_ ?_
   rotate_left
   ·repeat first
    |exact .nil
    |refine .yes (v:=?_) rfl (by rfl) ?_ ?_
     rotate_left
     ·intro w9 hSw;(try dsimp only at hSw);go_simp;(try with_reducible rfl)
     (try simp only [aP,aZ,aS,aG,aH,aI])
   refine onu 13 rfl (by kernel_rfl) fun K hK=>?_
   go_simp
   ((go_at_call 53;refine (iBoxOf_any _ _ r c _ (HR.out.next (SN.out.next (by (repeat' with_reducible first | assumption | exact bR | apply bD | apply bA | apply bC | apply bW | omega | simp <;> omega))).low) (HU.out.next (flat_mono _) (SN.out.next (by (repeat' with_reducible first | assumption | exact bR | apply bD | apply bA | apply bC | apply bW | omega | simp <;> omega))).low)).mono ?_;rintro e w3 ⟨rfl,hb3⟩;rw [HBX.out];have hn3:=bstep (a:=wr) (by (repeat' with_reducible first | assumption | exact bR | apply bD | apply bA | apply bC | apply bW | omega | simp <;> omega)) hb3))
   refine hK.out _ _ ?_ (fun hHeld=>?_)
   ·(first | (refine HCC.out _ ?_;(repeat' with_reducible first | assumption | exact bR | apply bD | apply bA | apply bC | apply bW | omega | simp <;> omega);done) | go_keep)
   clear hK K
   (try simp only [aP,aZ,aS,aG,aH,aI])
   refine tku (b:=?_) [14,15,16] (by kernel_rfl) hHeld ?_ ?_
   rotate_left
   ·repeat first
    |exact .nil
    |refine .yes (v:=?_) rfl (by rfl) ?_ ?_
     rotate_left
     ·intro w9 hSw;(try dsimp only at hSw);go_simp;(try with_reducible rfl)
     (try simp only [aP,aZ,aS,aG,aH,aI])
   refine lsu 17 rfl (by kernel_rfl) fun K hK=>?_
   go_simp
   refine hK.out _ _ ?_
   clear hK K
   (try simp only [aP,aZ,aS,aG,aH,aI])
   go_wp2_with fail
   go_roundw
   case rel=>exact ⟨j + 1,hlt,by go_num,by rw [HST.out,HG.out];(try simp only [wrapE]),Lib.hid (SN.out.next (by (repeat' with_reducible first | assumption | exact bR | apply bD | apply bA | apply bC | apply bW | omega | simp <;> omega)))⟩
   case measure=>simp [intOf] <;> omega
  ·obtain rfl:j=(onPal x k).length:=by omega
   rw [List.take_length]
   go_wp2
   go_ret
   exact ⟨by rw [HM.out];rfl,SN.out.low⟩
set_option maxRecDepth 100000 in
set_option maxHeartbeats 2000000 in
theorem sTop_any (v vx:Value) (r:Request) (x:Plan) (k:Int) (w:World) (h:RReq 16777216 w w.heap.size v r) (hx:RPlan 16777216 w w.heap.size vx x) (hL:x.bulk≤16777216):Calls Tryz.prog 21 #[v,vx,.int .i64 k] w fun e w'=>e=.returned (.int .i64 (topR r x k))∧Below w.heap.size w w':=by
 have HR:=Lib.hid h
 have HX:=Lib.hid hx
 obtain ⟨A1,c1,A2,c2,A3,c3,rfl,_⟩:=h.opn
 obtain ⟨PA,ca,PB,cb,rfl,HPA,HPB,hla,hlb⟩:=hx.opn
 have hol:=onPal_le x k
 have hS:=((Sit.here w).alloc (cR r A1 c1 A2 c2 A3 c3) 41).alloc #[.slice PA x.cartons.length ca,.slice PB x.spots.length cb] 46
 simp only [World.size_alloc] at hS
 have SN:=Lib.hid hS
 obtain ⟨q,hq⟩:∃ q,feasible r x=q:=⟨_,rfl⟩
 have HQ:=Lib.hid hq
 have HM:=Lib.hid (show topR r x k=if q=true then (onPal x k).foldl (topStep r x) 0 else 0 by unfold topR;rw [hq])
 clear h hx hS hq
 go_enter Tryz.func21,Tryz.ntmps21
 have k0:=SN.out.box (.tail _ (.head _));have l0:=SN.out.boxlt (.tail _ (.head _));have k1:=SN.out.box (.head _);have l1:=SN.out.boxlt (.head _)
 go_wp2_with fail
 refine (sFeasible_any _ _ r x _ (HR.out.next SN.out.low) (HX.out.next SN.out.low) hL).mono ?_
 rintro e1 w1 ⟨rfl,hb1⟩
 rw [HQ.out]
 have SN:=Lib.hid (SN.out.next hb1)
 clear k0 l0 k1 l1 hb1
 cases q
 ·go_wp2
  go_ret
  exact ⟨by rw [HM.out];rfl,SN.out.low⟩
 have k1:=SN.out.box (.head _)
 have l1:=SN.out.boxlt (.head _)
 go_wp2_with fail
 refine (sOnPallet_any _ x k _ (HX.out.next SN.out.low)).mono ?_
 intro e2 w2 hm
 obtain ⟨v2,fk,rfl,hS⟩:=SN.out.gotInts hm
 obtain ⟨D,d,rfl,_⟩:=(hS.list (.head _)).form
 have SN:=Lib.hid hS
 clear k1 l1 hS hm
 go_wp2
 go_loopw [7,9] (fun n i wr=>∃ (j:Nat),j≤(onPal x k).length∧i=.int .i64 j∧n=.int .i64 (((onPal x k).take j).foldl (topStep r x) 0)∧Hid (Sit w wr [fOF cI 3 1 w.heap.size (.slice D (onPal x k).length d) (onPal x k) fk,fBox (w.heap.size + 1) #[.slice PA x.cartons.length ca,.slice PB x.spots.length cb] 46,fBox w.heap.size (cR r A1 c1 A2 c2 A3 c3) 41])) (fun _ i _=>(onPal x k).length - (intOf i).toNat)
 case atStart=>exact ⟨0,Nat.zero_le _,rfl,rfl,SN⟩
 case round =>
  clear SN
  obtain ⟨j,hj,rfl,rfl,SN⟩:=hrel
  by_cases hlt:j < (onPal x k).length
  ·obtain ⟨i,hi⟩:∃ i,(onPal x k)[j]? = some i:=⟨_,List.getElem?_eq_getElem hlt⟩
   obtain ⟨m,rfl,hm1,hm2⟩:=onPal_in hi
   obtain ⟨gd,rfl⟩:=head_ptr (SN.out.list (.head _)) hi
   have HI:=Lib.hid hi
   obtain ⟨b,off,c,U,cu,rfl,hb,hc,HU,HC⟩:=HPA.out.one m hm1
   obtain ⟨b2,off2,s,rfl,hb2,hs,HC2⟩:=HPB.out.one m hm2
   have HST:=Lib.hid (foldl_take_step (f:=topStep r x) (b:=0) hi)
   obtain ⟨G,hG⟩:∃ G,((onPal x k).take j).foldl (topStep r x) 0=G:=⟨_,rfl⟩
   obtain ⟨bx,hbx⟩:∃ bx,boxR r c=bx:=⟨_,rfl⟩
   have HBX:=Lib.hid hbx
   have HG:=Lib.hid (show topStep r x G (m:Int)=max G (wrap64 (s.z + bx.h)) by unfold topStep;rw [spotAt_at hs,boxAt_nat hc,hbx])
   rw [hG] at HST ⊢
   have HCC:=Lib.hid (show ∀ X:World,Below wr.heap.size wr X→(cS10 (X) (w.heap.size) (r) (.slice A1 r.pairs.length c1) (.slice A2 r.types.length c2) (.slice A3 r.items.length c3))∧(X.cell? ⟨w.heap.size + 1,0,none⟩=some (.slice (some ⟨b,off,none⟩) x.cartons.length ca)∧X.cell? ⟨w.heap.size + 1,1,none⟩=some (.slice (some ⟨b2,off2,none⟩) x.spots.length cb))∧X.cell? ⟨gd,j,none⟩=some (.int .i64 (m:Int))∧(cC3 (X) (b) (off) (m) (c) (.slice U c.units.length cu))∧cS4 (X) (b2) (off2) (m) (s) from fun X hX=>by
    have hX:=SN.out.next hX
    have c0:=hX.box (.tail _ (.tail _ (.head _)))
    have hcu:=(hX.list (.head _)).cells (fun z=>rfl) HI.out 0 (.int .i64 (m:Int)) rfl
    rw [Nat.mul_one,Nat.add_zero] at hcu
    exact ⟨⟨c0 0,c0 1,c0 2,c0 3,c0 4,c0 5,c0 6,c0 7,c0 8,c0 9⟩,⟨hX.box (.tail _ (.head _)) 0,hX.box (.tail _ (.head _)) 1⟩,hcu,HC.out X hX.low,HC2.out X hX.low⟩)
   have hfld:=fun W=>box_field2 bx.w bx.d bx.h bx.gram W
   clear hi hc hs hG hbx
   go_wp2
   refine regu (S:=(fun W'=>((cS10 (W') (w.heap.size) (r) (.slice A1 r.pairs.length c1) (.slice A2 r.types.length c2) (.slice A3 r.items.length c3)))∧(W'.cell? ⟨w.heap.size + 1,0,none⟩=some (.slice (some ⟨b,off,none⟩) x.cartons.length ca)∧W'.cell? ⟨w.heap.size + 1,1,none⟩=some (.slice (some ⟨b2,off2,none⟩) x.spots.length cb))∧W'.cell? ⟨gd,j,none⟩=some (.int .i64 (m:Int))∧(cC3 (W') (b) (off) (m) (c) (.slice U c.units.length cu))∧cS4 (W') (b2) (off2) (m) (s))) (by kernel_rfl) (fun _ _ _ _ _=>id) ?_ fun hHeld=>?_
   ·(first | (refine HCC.out _ ?_;(repeat' with_reducible first | assumption | exact bR | apply bD | apply bA | apply bC | apply bW | omega | simp <;> omega);done) | go_keep)
   refine tku (b:=?_) [0,1,2,3,4,5,6,7,8,9,10,11,12,13,14,15,16,17,18] (by kernel_rfl) hHeld ?_ ?_
   rotate_left
   ·repeat first
    |exact .nil
    |refine .yes (v:=?_) rfl (by rfl) ?_ ?_
     rotate_left
     ·intro w9 hSw;(try dsimp only at hSw);go_simp;(try with_reducible rfl)
     (try simp only [aP,aZ,aS,aG,aH,aI])
   refine onu 19 rfl (by kernel_rfl) fun K hK=>?_
   go_simp
   ((go_at_call 91;refine (sBoxOf_any _ _ r c _ (HR.out.next (SN.out.next (by (repeat' with_reducible first | assumption | exact bR | apply bD | apply bA | apply bC | apply bW | omega | simp <;> omega))).low) (HU.out.next (flat_mono _) (SN.out.next (by (repeat' with_reducible first | assumption | exact bR | apply bD | apply bA | apply bC | apply bW | omega | simp <;> omega))).low)).mono ?_;rintro e w3 ⟨rfl,hb3⟩;rw [HBX.out];have hn3:=bstep (a:=wr) (by (repeat' with_reducible first | assumption | exact bR | apply bD | apply bA | apply bC | apply bW | omega | simp <;> omega)) hb3))
   refine hK.out _ _ ?_ (fun hHeld=>?_)
   ·(first | (refine HCC.out _ ?_;(repeat' with_reducible first | assumption | exact bR | apply bD | apply bA | apply bC | apply bW | omega | simp <;> omega);done) | go_keep)
   clear hK K
   (try simp only [aP,aZ,aS,aG,aH,aI])
   refine tku (b:=?_) [20,21] (by kernel_rfl) hHeld ?_ ?_
   rotate_left
   ·repeat first
    |exact .nil
    |refine .yes (v:=?_) rfl (by rfl) ?_ ?_
     rotate_left
     ·intro w9 hSw;(try dsimp only at hSw);go_simp;(try with_reducible rfl)
     (try simp only [aP,aZ,aS,aG,aH,aI])
   refine onu 22 rfl (by kernel_rfl) fun K hK=>?_
   go_simp
   ((go_at_call 90;refine (l1Max_any _ _ _).mono ?_;rintro e w' ⟨rfl,rfl⟩))
   refine hK.out _ _ ?_ (fun hHeld=>?_)
   ·(first | (refine HCC.out _ ?_;(repeat' with_reducible first | assumption | exact bR | apply bD | apply bA | apply bC | apply bW | omega | simp <;> omega);done) | go_keep)
   clear hK K
   (try simp only [aP,aZ,aS,aG,aH,aI])
   refine lsu 23 rfl (by kernel_rfl) fun K hK=>?_
   go_simp
   refine hK.out _ _ ?_
   clear hK K
   (try simp only [aP,aZ,aS,aG,aH,aI])
   go_wp2_with fail
   go_roundw
   case rel=>exact ⟨j + 1,hlt,by go_num,by rw [HST.out,HG.out];(try simp only [wrapE]),Lib.hid (SN.out.next (by (repeat' with_reducible first | assumption | exact bR | apply bD | apply bA | apply bC | apply bW | omega | simp <;> omega)))⟩
   case measure=>simp [intOf] <;> omega
  ·obtain rfl:j=(onPal x k).length:=by omega
   rw [List.take_length]
   go_wp2
   go_ret
   exact ⟨by rw [HM.out];rfl,SN.out.low⟩
end Go.Proofs.YtioijfplbgpjpaaGreat
namespace Go.Proofs.YtioijfplbgpjpaaGreat
set_option linter.unusedVariables false
set_option linter.unusedSimpArgs false
set_option maxRecDepth 100000
open Go.RowKit Go.WideShapes Go.ChangeShapes Go.ChangeAt Go.Deep
set_option maxRecDepth 100000
end Go.Proofs.YtioijfplbgpjpaaGreat
