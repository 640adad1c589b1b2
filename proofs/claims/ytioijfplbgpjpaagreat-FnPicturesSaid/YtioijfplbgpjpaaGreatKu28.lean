/-
  The program's checks of a plan: the first fault of its cartons.
-/
import Derived.Test.YtioijfplbgpjpaaGreatKu43
import Derived.Test.YtioijfplbgpjpaaGreatKu27
import Derived.Deep.RegionHeld3
import Derived.Deep.DeepCutAuto
import Derived.Deep.RegionLaw
import Derived.Deep.RegionWith
import Derived.StillTailTactics
namespace Go.Proofs.YtioijfplbgpjpaaGreat
set_option linter.unusedVariables false
set_option linter.unusedSimpArgs false
set_option maxRecDepth 100000
open Go.RowKit Go.WideShapes Go.ChangeShapes Go.ChangeAt Go.Deep
def inGr (gs:List (List Int)) (g c:Int):Bool:=decide (g < (gs.length:Int)) && (gs.getD g.toNat default).contains c
theorem groupC2_items {r:Request} {c:Carton} (hs:soundR r=true):groupC2 r c = !((itemsOfR r c.units).any fun y=>!inGr (groupsR r) c.group y.cls):=by
 unfold groupC2 itemsOfR inGr
 rw [unitsC_of hs,List.not_any_eq_all_not,List.all_map]
 congr 1
 funext u
 simp
set_option maxRecDepth 100000 in
set_option maxHeartbeats 1000000 in
theorem cf1_any (y:Item) (vg:Value) (gs:List (List Int)) (g:Int) (bc bg:Nat) (w:World) (hc:w.cell? ⟨bc,1,none⟩=some (.int .i64 g)) (hg:w.cell? ⟨bg,0,none⟩=some vg) (hr:RL 16777216 1 (RNest hdInts innI) w w.heap.size vg gs) (h0:0≤g) :
  Calls Tryz.prog 271 #[y.val,.pointer (some ⟨bc,0,none⟩),.pointer (some ⟨bg,0,none⟩)] w fun e w'=>e=.returned (.bool (!inGr gs g y.cls))∧Below w.heap.size w w':=by
 have HRN:=Lib.hid hr
 obtain ⟨A,d,rfl,hbd,_⟩:=hr
 have l1:=World.block_lt_of_cell? w _ hc
 have l2:=World.block_lt_of_cell? w _ hg
 have SN:=Lib.hid ((Sit.here w).alloc #[.int .i64 y.id,.int .i64 y.w,.int .i64 y.h,.int .i64 y.d,.int .i64 y.gram,.int .i64 y.cls,.int .i64 y.count] 152)
 have HCC:=Lib.hid (show ∀ X:World,Below w.heap.size w X→X.cell? ⟨bc,1,none⟩=some (.int .i64 g)∧X.cell? ⟨bg,0,none⟩=some (.slice A gs.length d) from fun X hX=>⟨(hX.cell (p:=⟨bc,1,none⟩) l1).trans hc,(hX.cell (p:=⟨bg,0,none⟩) l2).trans hg⟩)
 go_enter Tryz.func271,Tryz.ntmps271
 go_wp2
 generalize w.alloc (.cells #[.int .i64 y.id,.int .i64 y.w,.int .i64 y.h,.int .i64 y.d,.int .i64 y.gram,.int .i64 y.cls,.int .i64 y.count] 152)=W0 at SN ⊢
 have hk:=HCC.out W0 SN.out.low
 have k5:W0.cell? ⟨w.heap.size,5,none⟩=some (.int .i64 y.cls):=SN.out.box (.head _) 5
 by_cases hlt:g < (gs.length:Int)
 ·obtain ⟨m,rfl⟩:∃ m:Nat,g=m:=⟨g.toNat,by omega⟩
  have hml:m < gs.length:=by omega
  have hdec:decide ((gs.length:Int)≤(m:Int))=false:=by simp;omega
  have hdec2:decide (gs.length≤m)=false:=by simp;omega
  have hdec3 : ¬ gs.length≤m:=by omega
  obtain ⟨b,off,l,_,rfl,hb,hl,_,⟨vl,rfl,hrl⟩,hcl⟩:=(HRN.out.next (RNest_mono _ _) SN.out.low).at_ m hml
  have hcl0:=hcl 0 _ rfl
  simp only [Nat.mul_one,Nat.add_zero] at hcl0
  have HRL:=Lib.hid hrl
  obtain ⟨q,hq⟩:∃ q,l.contains y.cls=q:=⟨_,rfl⟩
  have HQ:=Lib.hid (show (l.any fun z=>y.cls == z)=q by rw [any_contains];exact hq)
  have HM:=Lib.hid (show inGr gs (m:Int) y.cls=q by
   unfold inGr
   rw [decide_eq_true hlt,Bool.true_and,Int.toNat_natCast,List.getD_eq_getElem?_getD,hl]
   exact hq)
  clear hcl hrl hl hq hlt
  refine regu (S:=(fun W'=>(W'.cell? ⟨bc,1,none⟩=some (.int .i64 m)∧W'.cell? ⟨bg,0,none⟩=some (.slice (some ⟨b,off,none⟩) gs.length d))∧W'.cell? ⟨w.heap.size,5,none⟩=some (.int .i64 y.cls)∧W'.cell? ⟨b,off + m,none⟩=some vl)) (by kernel_rfl) (fun _ _ _ _ _=>id) ?_ fun hHeld=>?_
  ·(first | exact ⟨hk,k5,hcl0⟩ | go_keep)
  refine tku (b:=?_) [0,1,2,3,4,5,6,7,8,9,10,11,12] (by kernel_rfl) hHeld ?_ ?_
  rotate_left
  ·repeat first
   |exact .nil
   |refine .yes (v:=?_) rfl (by rfl) ?_ ?_
    rotate_left
    ·intro w9 hSw;(try dsimp only at hSw);go_simp;(try with_reducible rfl)
    (try simp only [aP,aZ,aS,aG,aH,aI])
  refine onu 13 rfl (by kernel_rfl) fun K hK=>?_
  go_simp
  ((go_at_call 131;refine (containsInt_any vl l _ _ (HRL.out.next (flat_mono _) (by (repeat' with_reducible first | assumption | exact bR | apply bD | apply bA | apply bC | apply bW | omega | simp <;> omega)))).mono ?_;rintro e w' ⟨rfl,rfl⟩;rw [HQ.out]))
  refine hK.out _ _ ?_ (fun hHeld=>?_)
  ·(first | exact ⟨hk,k5,hcl0⟩ | go_keep)
  clear hK K
  (try simp only [aP,aZ,aS,aG,aH,aI])
  refine tku (b:=?_) [14,15] (by kernel_rfl) hHeld ?_ ?_
  rotate_left
  ·repeat first
   |exact .nil
   |refine .yes (v:=?_) rfl (by rfl) ?_ ?_
    rotate_left
    ·intro w9 hSw;(try dsimp only at hSw);go_simp;(try with_reducible rfl)
    (try simp only [aP,aZ,aS,aG,aH,aI])
  refine lsu 16 rfl (by kernel_rfl) fun K hK=>?_
  go_simp
  refine hK.out _ _ ?_
  clear hK K
  (try simp only [aP,aZ,aS,aG,aH,aI])
  go_wp2_with fail
  go_ret
  exact ⟨by rw [HM.out];rfl,(SN.out.next (by (repeat' with_reducible first | assumption | exact bR | apply bD | apply bA | apply bC | apply bW | omega | simp <;> omega))).low⟩
 ·have hdec:decide ((gs.length:Int)≤g)=true:=by simp;omega
  have HM:=Lib.hid (show inGr gs g y.cls=false by unfold inGr;rw [decide_eq_false hlt,Bool.false_and])
  clear hlt
  refine regu (S:=(fun W'=>(W'.cell? ⟨bc,1,none⟩=some (.int .i64 g)∧W'.cell? ⟨bg,0,none⟩=some (.slice A gs.length d))∧W'.cell? ⟨w.heap.size,5,none⟩=some (.int .i64 y.cls))) (by kernel_rfl) (fun _ _ _ _ _=>id) ?_ fun hHeld=>?_
  ·(first | exact ⟨hk,k5⟩ | go_keep)
  refine tku (b:=?_) [0,1,2,3,4,5] (by kernel_rfl) hHeld ?_ ?_
  rotate_left
  ·repeat first
   |exact .nil
   |refine .yes (v:=?_) rfl (by rfl) ?_ ?_
    rotate_left
    ·intro w9 hSw;(try dsimp only at hSw);go_simp;(try with_reducible rfl)
    (try simp only [aP,aZ,aS,aG,aH,aI])
  refine tku (b:=?_) [6,7,8,9,10,11,12] (by kernel_rfl) hHeld ?_ ?_
  rotate_left
  ·repeat first
   |exact .nil
   |refine .no rfl (by rfl) ?_
    (try simp only [aP,aZ,aS,aG,aH,aI])
  refine onu 13 rfl (by kernel_rfl) fun K hK=>?_
  go_simp
  (skip)
  refine hK.out _ _ ?_ (fun hHeld=>?_)
  ·(first | exact ⟨hk,k5⟩ | go_keep)
  clear hK K
  (try simp only [aP,aZ,aS,aG,aH,aI])
  refine tku (b:=?_) [14] (by kernel_rfl) hHeld ?_ ?_
  rotate_left
  ·repeat first
   |exact .nil
   |refine .no rfl (by rfl) ?_
    (try simp only [aP,aZ,aS,aG,aH,aI])
  refine tku (b:=?_) [15] (by kernel_rfl) hHeld ?_ ?_
  rotate_left
  ·repeat first
   |exact .nil
   |refine .yes (v:=?_) rfl (by rfl) ?_ ?_
    rotate_left
    ·intro w9 hSw;(try dsimp only at hSw);go_simp;(try with_reducible rfl)
    (try simp only [aP,aZ,aS,aG,aH,aI])
  refine lsu 16 rfl (by kernel_rfl) fun K hK=>?_
  go_simp
  refine hK.out _ _ ?_
  clear hK K
  (try simp only [aP,aZ,aS,aG,aH,aI])
  go_wp2_with fail
  go_ret
  exact ⟨by rw [HM.out];rfl,(SN.out.next (by (repeat' with_reducible first | assumption | exact bR | apply bD | apply bA | apply bC | apply bW | omega | simp <;> omega))).low⟩
set_option maxRecDepth 100000 in
set_option maxHeartbeats 4000000 in
theorem cartonFault_any (v vx:Value) (r:Request) (x:Plan) (w:World) (h:RReq 16777216 w w.heap.size v r) (hx:RPlan 16777216 w w.heap.size vx x) (hs:soundR r=true) (hg:∀ c∈x.cartons,0≤c.group):Calls Tryz.prog 210 #[v,vx] w fun e w'=>e=.returned (.int .i64 (cartonsFault2 r x))∧Below w.heap.size w w':=by
 have HR:=Lib.hid h
 have HSS:=Lib.hid hs
 have HG0:=Lib.hid hg
 obtain ⟨A1,c1,A2,c2,A3,c3,rfl,_⟩:=h.opn
 obtain ⟨PA,ca,PB,cb,rfl,HPA,HPB,hla,hlb⟩:=hx.opn
 have hS:=((Sit.here w).alloc (cR r A1 c1 A2 c2 A3 c3) 41).alloc #[.slice PA x.cartons.length ca,.slice PB x.spots.length cb] 46
 simp only [World.size_alloc] at hS
 have SN:=Lib.hid hS
 have HGN:=Lib.hid (groups_len r)
 obtain ⟨b4,h4⟩:∃ b,x.cartons.all (holdsC r)=b:=⟨_,rfl⟩
 have H4:=Lib.hid h4
 obtain ⟨b5,h5⟩:∃ b,x.cartons.all (groupC2 r)=b:=⟨_,rfl⟩
 have H5:=Lib.hid h5
 obtain ⟨b6,h6⟩:∃ b,x.cartons.all (cheapC2 r)=b:=⟨_,rfl⟩
 have H6:=Lib.hid h6
 have HM:=Lib.hid (show cartonsFault2 r x=if b4=true then (if b5=true then (if b6=true then (0:Int) else 6) else 5) else 4 by unfold cartonsFault2;rw [h4,h5,h6])
 clear h hx hS hs hg h4 h5 h6
 go_enter Tryz.func210,Tryz.ntmps210
 have k1:=SN.out.box (.head _)
 have l1:=SN.out.boxlt (.head _)
 go_wp2
 clear k1 l1
 go_loopw [19] (fun i wr=>∃ (k:Nat),k≤x.cartons.length∧i=.int .i64 k∧Hid ((x.cartons.drop k).all (holdsC r)=x.cartons.all (holdsC r))∧Hid (Sit w wr [fBox (w.heap.size + 1) #[.slice PA x.cartons.length ca,.slice PB x.spots.length cb] 46,fBox w.heap.size (cR r A1 c1 A2 c2 A3 c3) 41])) (fun i _=>x.cartons.length - (intOf i).toNat)
 case atStart=>exact ⟨0,Nat.zero_le _,rfl,Lib.hid rfl,SN⟩
 case round =>
  clear SN
  obtain ⟨k,hk,rfl,HD,SN⟩:=hrel
  by_cases hlt:k < x.cartons.length
  ·obtain ⟨b,off,c,U,cu,rfl,hb,hx,HU,HC⟩:=HPA.out.one k hlt
   obtain ⟨hc0,hc1,hc2⟩:=HC.out wr SN.out.low
   obtain ⟨q,hq⟩:∃ q,typeById r c.type=q:=⟨_,rfl⟩
   have HQ:=Lib.hid hq
   obtain ⟨ff,hff⟩:∃ ff,holdsR r c.units q.1=ff:=⟨_,rfl⟩
   have HF:=Lib.hid hff
   have HST:=Lib.hid (all_step (p:=holdsC r) hx (show holdsC r c=(q.2 && ff) by unfold holdsC;rw [hq,hff]))
   have k0:=SN.out.box (.tail _ (.head _))
   have l0:=SN.out.boxlt (.tail _ (.head _))
   have SM:=Lib.hid (SN.out.alloc #[.int .i64 c.type,.int .i64 c.group,.slice U c.units.length cu] 78)
   clear hx hq hff
   go_wp2_with fail
   refine (typeById_any _ r c.type _ (HR.out.next SM.out.low)).mono ?_
   rintro e1 w1 ⟨rfl,hb1⟩
   rw [HQ.out]
   obtain ⟨q1,q2⟩:=q
   have SN:=Lib.hid ((SM.out.next hb1).alloc #[.int .i64 q1.id,.int .i64 q1.w,.int .i64 q1.h,.int .i64 q1.d,.int .i64 q1.tare,.int .i64 q1.gram,.int .i64 q1.cost] 142)
   obtain ⟨b6,hb6⟩:∃ b,b=wr.heap.size:=⟨_,rfl⟩
   rw [← hb6] at SN ⊢
   clear k0 l0 hb1 hc0 hc1 hc2 SM hb6
   have k0:=SN.out.box (.tail _ (.tail _ (.tail _ (.head _))))
   have l0:=SN.out.boxlt (.tail _ (.tail _ (.tail _ (.head _))))
   have k6:=SN.out.box (.tail _ (.head _))
   have l6:=SN.out.boxlt (.tail _ (.head _))
   cases q2
   ·have HM2:=Lib.hid (show cartonsFault2 r x=4 by rw [HM.out,if_neg];rw [← H4.out,← HD.out,HST.out];simp)
    go_wp2
    go_ret
    exact ⟨by rw [HM2.out];rfl,SN.out.low⟩
   go_wp2_with fail
   refine (iHolds_any _ _ r c.units q1 _ (HR.out.next SN.out.low) (HU.out.next (flat_mono _) SN.out.low)).mono ?_
   rintro e2 w2 ⟨rfl,hb2⟩
   rw [HF.out]
   have SN:=Lib.hid (SN.out.next hb2)
   clear k0 l0 k6 l6 hb2
   cases ff
   ·have HM2:=Lib.hid (show cartonsFault2 r x=4 by rw [HM.out,if_neg];rw [← H4.out,← HD.out,HST.out];simp)
    go_wp2
    go_ret
    exact ⟨by rw [HM2.out];rfl,SN.out.low⟩
   ·go_wp2
    go_roundw
    case rel=>exact ⟨k + 1,hlt,by go_num,Lib.hid (by rw [← HD.out,HST.out];simp),Lib.hid SN.out.drop.drop⟩
    case measure=>simp [intOf] <;> omega
  ·have HE4:=Lib.hid (show b4=true by rw [← H4.out,← HD.out];exact all_done (by omega))
   have HM2:=Lib.hid (show cartonsFault2 r x=if b5=true then (if b6=true then (0:Int) else 6) else 5 by rw [HM.out,if_pos HE4.out])
   have k0:=SN.out.box (.tail _ (.head _))
   have l0:=SN.out.boxlt (.tail _ (.head _))
   obtain rfl:k=x.cartons.length:=by omega
   go_wp2_with fail
   refine (iGroupsOf_any _ r _ (HR.out.next SN.out.low)).mono ?_
   intro e1 w1 hm
   obtain ⟨v1,zs,f1,f2,rfl,hz,hS⟩:=SN.out.gotNest hm
   obtain ⟨gs,hgs⟩:∃ gs,groupsR r=gs:=⟨_,rfl⟩
   have HGS:=Lib.hid hgs
   rw [hgs] at HGN hz
   have HRN:=Lib.hid (nest_read (hS.list (.head _)) (hS.inns (.tail _ (.head _))) (fun _ _=>rfl) (by rw [map_fst_len hz];have:=HGN.out.1;omega) (fun z hm=>by have:=HGN.out.2 z.1 (by rw [← hz];exact List.mem_map_of_mem hm);show z.1.length≤_;omega))
   rw [hz] at HRN
   obtain ⟨GA,ga,rfl,_⟩:=(hS.list (.head _)).form
   have SN:=Lib.hid (hS.drop.drop.alloc #[.slice GA zs.length ga] 158)
   have HB1:=Lib.hid ((Below.refl w1.heap.size w1).alloc (Nat.le_refl _) (.cells #[.slice GA zs.length ga] 158))
   have k1:=SN.out.box (.tail _ (.head _))
   have l1:=SN.out.boxlt (.tail _ (.head _))
   clear k0 l0 hS hm hz hgs
   go_wp2
   clear k1 l1
   go_loopw [46] (fun i wr=>∃ (k:Nat),k≤x.cartons.length∧i=.int .i64 k∧Hid ((x.cartons.drop k).all (groupC2 r)=x.cartons.all (groupC2 r))∧Hid (Below w1.heap.size w1 wr)∧w1.heap.size≤wr.heap.size∧Hid (Sit w wr [fBox w1.heap.size #[.slice GA zs.length ga] 158,fBox (w.heap.size + 1) #[.slice PA x.cartons.length ca,.slice PB x.spots.length cb] 46,fBox w.heap.size (cR r A1 c1 A2 c2 A3 c3) 41])) (fun i _=>x.cartons.length - (intOf i).toNat)
   case atStart=>exact ⟨0,Nat.zero_le _,rfl,Lib.hid rfl,HB1,by simp <;> omega,SN⟩
   case round =>
    clear SN HB1
    obtain ⟨k,hk,rfl,HD,HB1,hb9,SN⟩:=hrel
    by_cases hlt:k < x.cartons.length
    ·obtain ⟨b,off,c,U,cu,rfl,hb,hx,HU,HC⟩:=HPA.out.one k hlt
     obtain ⟨hc0,hc1,hc2⟩:=HC.out wr SN.out.low
     have hul:=HU.out.len
     have hg0:=HG0.out c (List.mem_of_getElem? hx)
     obtain ⟨ff,hff⟩:∃ ff,((itemsOfR r c.units).any fun y=>!inGr gs c.group y.cls)=ff:=⟨_,rfl⟩
     have HF:=Lib.hid hff
     have HST:=Lib.hid (all_step (p:=groupC2 r) hx (show groupC2 r c = !ff by rw [groupC2_items HSS.out,HGS.out,hff]))
     have k0:=SN.out.box (.tail _ (.tail _ (.head _)))
     have l0:=SN.out.boxlt (.tail _ (.tail _ (.head _)))
     have SM:=Lib.hid (SN.out.alloc #[.int .i64 c.type,.int .i64 c.group,.slice U c.units.length cu] 78)
     clear hx hff
     go_wp2_with fail
     refine (itemsOf_any _ _ r c.units _ (HR.out.next SM.out.low) (HU.out.next (flat_mono _) SM.out.low)).mono ?_
     intro e3 w3 hm
     have hb3:=bstep (a:=wr) (by (repeat' with_reducible first | assumption | exact bR | apply bD | apply bA | apply bC | apply bW | omega | simp <;> omega)) hm.choose_spec.choose_spec.2.2
     have HB3:=Lib.hid (HB1.out.trans (hb3.mono hb9))
     obtain ⟨v3,f3,rfl,hS⟩:=SM.out.gotOF hm
     have SN:=Lib.hid hS
     obtain ⟨b11,hb11⟩:∃ b,b=wr.heap.size:=⟨_,rfl⟩
     have hz3:=hb3.size
     rw [← hb11] at SN ⊢
     clear k0 l0 hS hm hc0 hc1 hc2 SM hb3 hb11
     have l11:=SN.out.boxlt (.tail _ (.head _))
     have k11:w3.cell? ⟨b11,1,none⟩=some (.int .i64 c.group):=SN.out.box (.tail _ (.head _)) 1
     have l9:=SN.out.boxlt (.tail _ (.tail _ (.head _)))
     have k9:w3.cell? ⟨w1.heap.size,0,none⟩=some (.slice GA zs.length ga):=SN.out.box (.tail _ (.tail _ (.head _))) 0
     have hil:=itemsOfR_le r c.units
     have HCF:=Lib.hid (containsFuncItem_any 271 #[.pointer (some ⟨b11,0,none⟩),.pointer (some ⟨w1.heap.size,0,none⟩)] (fun y=>!inGr gs c.group y.cls) v3 (itemsOfR r c.units) w3 (OF.read (SN.out.list (.head _)) (fun _=>rfl) (by omega)) (run_enter Tryz.func271 (by kernel_rfl) (by kernel_rfl))
      (fun W y hW _=>cf1_any y _ gs c.group b11 w1.heap.size W ((hW.cell (p:=⟨b11,1,none⟩) l11).trans k11) ((hW.cell (p:=⟨w1.heap.size,0,none⟩) l9).trans k9) (HRN.out.keep (RNest_mono _ _) (fun p hp=>(HB3.out.trans (hW.mono (by omega))).cell hp) (by have:=hW.size;omega)) hg0))
     rw [HF.out] at HCF
     clear k11 k9 l11 l9
     go_wp2_with fail
     refine HCF.out.mono ?_
     rintro e4 w4 ⟨rfl,hb4⟩
     have SN:=Lib.hid (SN.out.next hb4)
     have HB4:=Lib.hid (HB3.out.trans (hb4.mono (by omega)))
     have hz4:=hb4.size
     clear HCF hb4
     cases ff
     ·go_wp2
      go_roundw
      case rel=>exact ⟨k + 1,hlt,by go_num,Lib.hid (by rw [← HD.out,HST.out];simp),HB4,by omega,Lib.hid SN.out.drop.drop⟩
      case measure=>simp [intOf] <;> omega
     ·have HM3:=Lib.hid (show cartonsFault2 r x=5 by rw [HM2.out,if_neg];rw [← H5.out,← HD.out,HST.out];simp)
      go_wp2
      go_ret
      exact ⟨by rw [HM3.out];rfl,SN.out.low⟩
    ·have HE5:=Lib.hid (show b5=true by rw [← H5.out,← HD.out];exact all_done (by omega))
     have HM3:=Lib.hid (show cartonsFault2 r x=if b6=true then (0:Int) else 6 by rw [HM2.out,if_pos HE5.out])
     obtain rfl:k=x.cartons.length:=by omega
     have k1:=SN.out.box (.tail _ (.head _))
     have l1:=SN.out.boxlt (.tail _ (.head _))
     have SN:=Lib.hid SN.out.drop
     go_wp2
     clear k1 l1
     go_loopw [60] (fun i wr=>∃ (k:Nat),k≤x.cartons.length∧i=.int .i64 k∧Hid ((x.cartons.drop k).all (cheapC2 r)=x.cartons.all (cheapC2 r))∧Hid (Sit w wr [fBox (w.heap.size + 1) #[.slice PA x.cartons.length ca,.slice PB x.spots.length cb] 46,fBox w.heap.size (cR r A1 c1 A2 c2 A3 c3) 41])) (fun i _=>x.cartons.length - (intOf i).toNat)
     case atStart=>exact ⟨0,Nat.zero_le _,rfl,Lib.hid rfl,SN⟩
     case round =>
      clear SN
      obtain ⟨k,hk,rfl,HD,SN⟩:=hrel
      by_cases hlt:k < x.cartons.length
      ·obtain ⟨b,off,c,U,cu,rfl,hb,hx,HU,HC⟩:=HPA.out.one k hlt
       obtain ⟨hc0,hc1,hc2⟩:=HC.out wr SN.out.low
       obtain ⟨q,hq⟩:∃ q,cheapest r c.units=q:=⟨_,rfl⟩
       have HQ:=Lib.hid hq
       obtain ⟨ff,hff⟩:∃ ff,(q.1.id == c.type)=ff:=⟨_,rfl⟩
       have HST:=Lib.hid (all_step (p:=cheapC2 r) hx (show cheapC2 r c=ff by unfold cheapC2;rw [hq,hff]))
       have HF:=Lib.hid hff
       have k0:=SN.out.box (.tail _ (.head _))
       have l0:=SN.out.boxlt (.tail _ (.head _))
       have SM:=Lib.hid (SN.out.alloc #[.int .i64 c.type,.int .i64 c.group,.slice U c.units.length cu] 78)
       clear hx hq hff
       go_wp2_with fail
       refine (iCheapest_any _ _ r c.units _ (HR.out.next SM.out.low) (HU.out.next (flat_mono _) SM.out.low)).mono ?_
       rintro e1 w1 ⟨rfl,hb1⟩
       rw [HQ.out]
       obtain ⟨q1,q2⟩:=q
       have SN:=Lib.hid ((SM.out.next hb1).alloc #[.int .i64 q1.id,.int .i64 q1.w,.int .i64 q1.h,.int .i64 q1.d,.int .i64 q1.tare,.int .i64 q1.gram,.int .i64 q1.cost] 142)
       obtain ⟨b13,hb13⟩:∃ b,b=wr.heap.size:=⟨_,rfl⟩
       rw [← hb13] at SN ⊢
       have hf2:(q1.id != c.type) = !ff:=by rw [← HF.out];rfl
       clear k0 l0 hb1 hc0 hc1 hc2 SM hb13
       have k13:=SN.out.box (.tail _ (.head _))
       have l13:=SN.out.boxlt (.tail _ (.head _))
       cases ff
       ·have HM4:=Lib.hid (show cartonsFault2 r x=6 by rw [HM3.out,if_neg];rw [← H6.out,← HD.out,HST.out];simp)
        go_wp2
        go_ret
        exact ⟨by rw [HM4.out];rfl,SN.out.low⟩
       ·go_wp2
        go_roundw
        case rel=>exact ⟨k + 1,hlt,by go_num,Lib.hid (by rw [← HD.out,HST.out];simp),Lib.hid SN.out.drop.drop⟩
        case measure=>simp [intOf] <;> omega
      ·have HM4:=Lib.hid (show cartonsFault2 r x=0 by rw [HM3.out,if_pos];rw [← H6.out,← HD.out];exact all_done (by omega))
       go_wp2
       go_ret
       exact ⟨by rw [HM4.out];rfl,SN.out.low⟩
end Go.Proofs.YtioijfplbgpjpaaGreat
namespace Go.Proofs.YtioijfplbgpjpaaGreat
set_option linter.unusedVariables false
set_option linter.unusedSimpArgs false
set_option maxRecDepth 100000
open Go.RowKit Go.WideShapes Go.ChangeShapes Go.ChangeAt Go.Deep
def mixI (x:Plan) (l:List Int) (i:Int):Bool:=!((cartAt x i).group == (cartAt x (l.getD 0 0)).group)
theorem mix_any (x:Plan) (l:List Int):l.any (mixI x l) = !sameG x l:=by
 unfold sameG mixI
 rw [← List.not_all_eq_any_not]
set_option maxRecDepth 100000 in
set_option maxHeartbeats 1000000 in
theorem sf1_any (x:Plan) (L:List Int) (m:Nat) (vL:Value) (PA PB:Option Addr) (ca cb:Nat) (bp bl:Nat) (w:World) (hp:w.cell? ⟨bp,0,none⟩=some (.slice PA x.cartons.length ca)) (hl:w.cell? ⟨bl,0,none⟩=some vL) (hC:RCartons 16777216 w w.heap.size (.slice PA x.cartons.length ca) x.cartons) (hL:RInts 16777216 w w.heap.size vL L) (hm:m < x.cartons.length) (h0:∃ m0:Nat,L[0]? = some (m0:Int)∧m0 < x.cartons.length) :
  Calls Tryz.prog 275 #[.int .i64 m,.pointer (some ⟨bp,0,none⟩),.pointer (some ⟨bl,0,none⟩)] w fun e w'=>e=.returned (.bool (mixI x L m))∧Below w.heap.size w w':=by
 obtain ⟨m0,hi0,hm0⟩:=h0
 have hLl:0 < L.length:=(List.getElem?_eq_some_iff.1 hi0).1
 obtain ⟨A,d,rfl,hbd,_⟩:=id hL
 obtain ⟨bu,ou,u,rfl,hbu,hu,hcu⟩:=hL.at1 0 hLl
 rw [hi0] at hu
 cases hu
 have hcu0:=hcu _ rfl
 rw [Nat.add_zero] at hcu0
 obtain ⟨b,off,c,U,cu,rfl,hb,hx,HU,HC⟩:=hC.one m hm
 obtain ⟨b',off',c',U',cu',hA',hb',hx',HU',HC'⟩:=hC.one m0 hm0
 cases hA'
 have hcs:=HC.out w (Below.refl _ _)
 have hcs':=HC'.out w (Below.refl _ _)
 obtain ⟨ff,hff⟩:∃ ff,(c.group == c'.group)=ff:=⟨_,rfl⟩
 have HM:=Lib.hid (show mixI x L (m:Int) = !ff by unfold mixI;rw [List.getD_eq_getElem?_getD,hi0];show (!((cartAt x (m:Int)).group == (cartAt x (m0:Int)).group)) = !ff;rw [cartAt_at hx,cartAt_at hx',hff])
 have hf2:(c.group != c'.group) = !ff:=by rw [← hff];rfl
 have l1:=World.block_lt_of_cell? w _ hp
 have l2:=World.block_lt_of_cell? w _ hl
 clear hx hx' hff hL hC hi0 hcu
 go_enter Tryz.func275,Tryz.ntmps275
 go_wp2
 refine regu (S:=(fun W'=>W'.cell? ⟨bp,0,none⟩=some (.slice (some ⟨b,off,none⟩) x.cartons.length ca)∧W'.cell? ⟨bl,0,none⟩=some (.slice (some ⟨bu,ou,none⟩) L.length d)∧W'.cell? ⟨bu,ou,none⟩=some (.int .i64 m0)∧(cC3 (W') (b) (off) (m) (c) (.slice U c.units.length cu))∧(cC3 (W') (b) (off) (m0) (c') (.slice U' c'.units.length cu')))) (by kernel_rfl) (fun _ _ _ _ _=>id) ?_ fun hHeld=>?_
 ·(first | exact ⟨hp,hl,hcu0,hcs,hcs'⟩ | go_keep)
 refine tku (b:=?_) [0,1,2,3,4,5,6,7,8,9,10,11,12,13,14] (by kernel_rfl) hHeld ?_ ?_
 rotate_left
 ·repeat first
  |exact .nil
  |refine .yes (v:=?_) rfl (by rfl) ?_ ?_
   rotate_left
   ·intro w9 hSw;(try dsimp only at hSw);go_simp;(try with_reducible rfl)
   (try simp only [aP,aZ,aS,aG,aH,aI])
 refine lsu 15 rfl (by kernel_rfl) fun K hK=>?_
 go_simp
 refine hK.out _ _ ?_
 clear hK K
 (try simp only [aP,aZ,aS,aG,aH,aI])
 go_wp2_with fail
 go_ret
 exact ⟨by rw [HM.out];rfl,(Below.refl _ _).drew⟩
set_option maxRecDepth 100000 in
set_option maxHeartbeats 4000000 in
theorem spotFault_any (v vx:Value) (r:Request) (x:Plan) (w:World) (h:RReq 16777216 w w.heap.size v r) (hx:RPlan 16777216 w w.heap.size vx x) (hl:x.spots.length=x.cartons.length) (hn100:x.cartons.length≤100):Calls Tryz.prog 211 #[v,vx] w fun e w'=>e=.returned (.int .i64 (spotsFault r x))∧Below w.heap.size w w':=by
 have HR:=Lib.hid h
 have HX:=Lib.hid hx
 have HL:=Lib.hid hl
 obtain ⟨A1,c1,A2,c2,A3,c3,rfl,_⟩:=h.opn
 obtain ⟨PA,ca,PB,cb,rfl,HPA,HPB,hla,hlb⟩:=hx.opn
 have hS:=(((Sit.here w).alloc (cR r A1 c1 A2 c2 A3 c3) 41).alloc #[.slice PA x.cartons.length ca,.slice PB x.spots.length cb] 46).alloc #[] 75
 simp only [World.size_alloc] at hS
 have SN:=Lib.hid (hS.boxNil Box.cells 4)
 obtain ⟨b7,h7⟩:∃ b,(List.range x.cartons.length).all (insideI r x)=b:=⟨_,rfl⟩
 have H7:=Lib.hid h7
 obtain ⟨b8,h8⟩:∃ b,(List.range x.cartons.length).all (apartI r x)=b:=⟨_,rfl⟩
 have H8:=Lib.hid h8
 obtain ⟨n,hn⟩:∃ n:Nat,palletsR x.spots=n:=⟨(palletsR x.spots).toNat,by have:=(pallets_in x.spots).1;omega⟩
 have HN:=Lib.hid hn
 have hnl:n≤1000000:=by have:=(pallets_in x.spots).2;omega
 obtain ⟨b9,h9⟩:∃ b,(List.range n).all (palletK r x)=b:=⟨_,rfl⟩
 have H9:=Lib.hid h9
 have HM:=Lib.hid (show spotsFault r x=if b7=true then (if b8=true then (if b9=true then (0:Int) else 9) else 8) else 7 by unfold spotsFault;rw [h7,h8,hn,Int.toNat_natCast,h9])
 clear h hx hS hl h7 h8 h9 hn
 go_enter Tryz.func211,Tryz.ntmps211
 have k1:=SN.out.box (.tail _ (.head _))
 have l1:=SN.out.boxlt (.tail _ (.head _))
 go_wp2
 clear k1 l1
 go_loopw [5,17] (fun vv i wr=>∃ (k:Nat) (fp:List Nat),k≤x.cartons.length∧i=.int .i64 k∧Hid (((List.range x.cartons.length).drop k).all (insideI r x)=(List.range x.cartons.length).all (insideI r x))∧Hid (Sit w wr [fOF Box.cells 75 4 w.heap.size vv ((x.cartons.take k).map (boxR r)) fp,fBox (w.heap.size + 1) #[.slice PA x.cartons.length ca,.slice PB x.spots.length cb] 46,fBox w.heap.size (cR r A1 c1 A2 c2 A3 c3) 41])) (fun _ i _=>x.cartons.length - (intOf i).toNat)
 case atStart=>exact ⟨0,_,Nat.zero_le _,rfl,Lib.hid rfl,SN⟩
 case round =>
  clear SN
  obtain ⟨k,fp,hk,rfl,HD,SN⟩:=hrel
  by_cases hlt:k < x.cartons.length
  ·have hlt2:k < x.spots.length:=by rw [HL.out];exact hlt
   obtain ⟨b,off,c,U,cu,rfl,hb,hx,HU,HC⟩:=HPA.out.one k hlt
   obtain ⟨b2,off2,s,rfl,hb2,hy,HC2⟩:=HPB.out.one k hlt2
   obtain ⟨hc0,hc1,hc2⟩:=HC.out wr SN.out.low
   obtain ⟨bx,hbx⟩:∃ bx,boxR r c=bx:=⟨_,rfl⟩
   have HBX:=Lib.hid hbx
   obtain ⟨ff,hff⟩:∃ ff,withinB r.pallet bx s=ff:=⟨_,rfl⟩
   have HF:=Lib.hid hff
   have HST:=Lib.hid (rall_step (p:=insideI r x) hlt (show insideI r x k=ff by unfold insideI;rw [cartAt_at hx,spotAt_at hy,hbx,hff]))
   have HTK:=Lib.hid (show (x.cartons.take (k + 1)).map (boxR r)=(x.cartons.take k).map (boxR r) ++ [bx] by rw [List.take_add_one,hx,List.map_append,← hbx];rfl)
   have hln:((x.cartons.take k).map (boxR r)).length≤100:=by rw [List.length_map,List.length_take];omega
   obtain ⟨BK,hBK⟩:∃ BK,(x.cartons.take k).map (boxR r)=BK:=⟨_,rfl⟩
   rw [hBK] at SN HTK hln
   have k0:=SN.out.box (.tail _ (.tail _ (.head _)))
   have l0:=SN.out.boxlt (.tail _ (.tail _ (.head _)))
   have SM:=Lib.hid (SN.out.alloc #[.int .i64 c.type,.int .i64 c.group,.slice U c.units.length cu] 78)
   clear hx hy hbx hff hBK
   go_wp2_with fail
   refine (iBoxOf_any _ _ r c _ (HR.out.next SM.out.low) (HU.out.next (flat_mono _) SM.out.low)).mono ?_
   rintro e1 w1 ⟨rfl,hb1⟩
   rw [HBX.out]
   have SN:=Lib.hid ((SM.out.next hb1).alloc #[.int .i64 bx.w,.int .i64 bx.d,.int .i64 bx.h,.int .i64 bx.gram] 75)
   clear k0 l0 hb1 hc0 hc1 hc2 SM
   obtain ⟨W2,hW2⟩:∃ W2,w1.alloc (.cells #[.int .i64 bx.w,.int .i64 bx.d,.int .i64 bx.h,.int .i64 bx.gram] 75)=W2:=⟨_,rfl⟩
   have HCC:=Lib.hid (show ∀ X:World,Below W2.heap.size W2 X→(cS10 (X) (w.heap.size) (r) (.slice A1 r.pairs.length c1) (.slice A2 r.types.length c2) (.slice A3 r.items.length c3))∧X.cell? ⟨w.heap.size + 1,1,none⟩=some (.slice (some ⟨b2,off2,none⟩) x.spots.length cb)∧(X.cell? ⟨w1.heap.size,0,none⟩=some (.int .i64 bx.w)∧X.cell? ⟨w1.heap.size,1,none⟩=some (.int .i64 bx.d)∧X.cell? ⟨w1.heap.size,2,none⟩=some (.int .i64 bx.h)∧X.cell? ⟨w1.heap.size,3,none⟩=some (.int .i64 bx.gram))∧cS4 (X) (b2) (off2) (k) (s) from fun X hX=>by
    rw [← hW2] at hX
    have hX:=SN.out.next hX
    have c0:=hX.box (.tail _ (.tail _ (.tail _ (.tail _ (.head _)))))
    have c8:=hX.box (.head _)
    exact ⟨⟨c0 0,c0 1,c0 2,c0 3,c0 4,c0 5,c0 6,c0 7,c0 8,c0 9⟩,hX.box (.tail _ (.tail _ (.tail _ (.head _)))) 1,⟨c8 0,c8 1,c8 2,c8 3⟩,HC2.out X hX.low⟩)
   go_wp2
   rw [hW2] at SN
   clear hW2
   cases ff
   ·have HM2:=Lib.hid (show spotsFault r x=7 by rw [HM.out,if_neg];rw [← H7.out,← HD.out,HST.out];simp)
    refine regu (S:=(fun W'=>((cS10 (W') (w.heap.size) (r) (.slice A1 r.pairs.length c1) (.slice A2 r.types.length c2) (.slice A3 r.items.length c3)))∧W'.cell? ⟨w.heap.size + 1,1,none⟩=some (.slice (some ⟨b2,off2,none⟩) x.spots.length cb)∧(W'.cell? ⟨w1.heap.size,0,none⟩=some (.int .i64 bx.w)∧W'.cell? ⟨w1.heap.size,1,none⟩=some (.int .i64 bx.d)∧W'.cell? ⟨w1.heap.size,2,none⟩=some (.int .i64 bx.h)∧W'.cell? ⟨w1.heap.size,3,none⟩=some (.int .i64 bx.gram))∧cS4 (W') (b2) (off2) (k) (s))) (by kernel_rfl) (fun _ _ _ _ _=>id) ?_ fun hHeld=>?_
    ·(first | (refine HCC.out _ ?_;(repeat' with_reducible first | assumption | exact bR | apply bD | apply bA | apply bC | apply bW | omega | simp <;> omega);done) | go_keep)
    refine tku (b:=?_) [0,1,2,3,4,5,6,7] (by kernel_rfl) hHeld ?_ ?_
    rotate_left
    ·repeat first
     |exact .nil
     |refine .yes (v:=?_) rfl (by rfl) ?_ ?_
      rotate_left
      ·intro w9 hSw;(try dsimp only at hSw);go_simp;(try with_reducible rfl)
      (try simp only [aP,aZ,aS,aG,aH,aI])
    refine onu 8 rfl (by kernel_rfl) fun K hK=>?_
    go_simp
    ((go_at_call 272;refine (iWithin_any r.pallet bx s _).mono ?_;rintro e w4 ⟨rfl,hb4⟩;rw [HF.out];have hn4:=bstep (a:=W2) (by (repeat' with_reducible first | assumption | exact bR | apply bD | apply bA | apply bC | apply bW | omega | simp <;> omega)) hb4))
    refine hK.out _ _ ?_ (fun hHeld=>?_)
    ·(first | (refine HCC.out _ ?_;(repeat' with_reducible first | assumption | exact bR | apply bD | apply bA | apply bC | apply bW | omega | simp <;> omega);done) | go_keep)
    clear hK K
    (try simp only [aP,aZ,aS,aG,aH,aI])
    refine lsu 9 rfl (by kernel_rfl) fun K hK=>?_
    go_simp
    refine hK.out _ _ ?_
    clear hK K
    (try simp only [aP,aZ,aS,aG,aH,aI])
    go_wp2_with fail
    go_ret
    exact ⟨by rw [HM2.out];rfl,(SN.out.next (by (repeat' with_reducible first | assumption | exact bR | apply bD | apply bA | apply bC | apply bW | omega | simp <;> omega))).low⟩
   ·skip
    refine regu (S:=(fun W'=>((cS10 (W') (w.heap.size) (r) (.slice A1 r.pairs.length c1) (.slice A2 r.types.length c2) (.slice A3 r.items.length c3)))∧W'.cell? ⟨w.heap.size + 1,1,none⟩=some (.slice (some ⟨b2,off2,none⟩) x.spots.length cb)∧(W'.cell? ⟨w1.heap.size,0,none⟩=some (.int .i64 bx.w)∧W'.cell? ⟨w1.heap.size,1,none⟩=some (.int .i64 bx.d)∧W'.cell? ⟨w1.heap.size,2,none⟩=some (.int .i64 bx.h)∧W'.cell? ⟨w1.heap.size,3,none⟩=some (.int .i64 bx.gram))∧cS4 (W') (b2) (off2) (k) (s))) (by kernel_rfl) (fun _ _ _ _ _=>id) ?_ fun hHeld=>?_
    ·(first | (refine HCC.out _ ?_;(repeat' with_reducible first | assumption | exact bR | apply bD | apply bA | apply bC | apply bW | omega | simp <;> omega);done) | go_keep)
    refine tku (b:=?_) [0,1,2,3,4,5,6,7] (by kernel_rfl) hHeld ?_ ?_
    rotate_left
    ·repeat first
     |exact .nil
     |refine .yes (v:=?_) rfl (by rfl) ?_ ?_
      rotate_left
      ·intro w9 hSw;(try dsimp only at hSw);go_simp;(try with_reducible rfl)
      (try simp only [aP,aZ,aS,aG,aH,aI])
    refine onu 8 rfl (by kernel_rfl) fun K hK=>?_
    go_simp
    ((go_at_call 272;refine (iWithin_any r.pallet bx s _).mono ?_;rintro e w4 ⟨rfl,hb4⟩;rw [HF.out];have hn4:=bstep (a:=W2) (by (repeat' with_reducible first | assumption | exact bR | apply bD | apply bA | apply bC | apply bW | omega | simp <;> omega)) hb4))
    refine hK.out _ _ ?_ (fun hHeld=>?_)
    ·(first | (refine HCC.out _ ?_;(repeat' with_reducible first | assumption | exact bR | apply bD | apply bA | apply bC | apply bW | omega | simp <;> omega);done) | go_keep)
    clear hK K
    (try simp only [aP,aZ,aS,aG,aH,aI])
    refine lsu 9 rfl (by kernel_rfl) fun K hK=>?_
    go_simp
    refine hK.out _ _ ?_
    clear hK K
    (try simp only [aP,aZ,aS,aG,aH,aI])
    skip
    have hcc:=HCC.out w4 hn4
    obtain ⟨_,_,⟨k80,k81,k82,k83⟩,_⟩:=hcc
    have SN:=Lib.hid ((SN.out.next hn4).drop.drop)
    clear hn4 hb4
    go_wp2_with (at_builtin;refine papp_Box (.tmp 35) (.tmp 37) rfl rfl bx rfl rfl (heap_alloc_new _ _) rfl ((SN.out.list (.head _)).next (by repeat' with_reducible first | assumption | exact bR | apply bD | apply bA | apply bC | apply bN | simp <;> omega)) (by first | omega | (simp;omega)) (by have:=SN.out.low.size;first | omega | (simp;done) | (simp;omega) | (simp at this ⊢;omega)) ?_;intro v7 w7 ha;obtain ⟨g7,S7⟩:=(SN.out.next (by repeat' with_reducible first | assumption | exact bR | apply bD | apply bA | apply bC | apply bN | simp <;> omega)).app ha;have S8:=Lib.hid S7;clear S7 ha)
    go_roundw
    case rel=>exact ⟨k + 1,_,hlt,by go_num,Lib.hid (by rw [← HD.out,HST.out];simp),by rw [HTK.out];exact S8⟩
    case measure=>simp [intOf] <;> omega
  ·have HE7:=Lib.hid (show b7=true by rw [← H7.out,← HD.out];exact all_done (by simp;omega))
   have HM2:=Lib.hid (show spotsFault r x=if b8=true then (if b9=true then (0:Int) else 9) else 8 by rw [HM.out,if_pos HE7.out])
   obtain rfl:k=x.cartons.length:=by omega
   rw [List.take_length] at SN
   obtain ⟨BS,hBS⟩:∃ BS,x.cartons.map (boxR r)=BS:=⟨_,rfl⟩
   have HBS:=Lib.hid hBS
   have hbl:BS.length=x.cartons.length:=by rw [← hBS,List.length_map]
   rw [hBS] at SN
   obtain ⟨D,d,rfl,_⟩:=(SN.out.list (.head _)).form
   rw [hbl] at SN ⊢
   clear hBS
   go_wp2
   go_loopw [42] (fun i wr=>∃ (k:Nat),k≤x.cartons.length∧i=.int .i64 k∧Hid (((List.range x.cartons.length).drop k).all (apartI r x)=(List.range x.cartons.length).all (apartI r x))∧Hid (Sit w wr [fOF Box.cells 75 4 w.heap.size (.slice D x.cartons.length d) BS fp,fBox (w.heap.size + 1) #[.slice PA x.cartons.length ca,.slice PB x.spots.length cb] 46,fBox w.heap.size (cR r A1 c1 A2 c2 A3 c3) 41])) (fun i _=>x.cartons.length - (intOf i).toNat)
   case atStart=>exact ⟨0,Nat.zero_le _,rfl,Lib.hid rfl,SN⟩
   case round =>
    clear SN
    obtain ⟨k,hk,rfl,HD,SN⟩:=hrel
    by_cases hlt:k < x.cartons.length
    ·have hlt2:k < x.spots.length:=by rw [HL.out];exact hlt
     obtain ⟨b,off,c,U,cu,rfl,hb,hx,HU,HC⟩:=HPA.out.one k hlt
     obtain ⟨b2,off2,s,rfl,hb2,hy,HC2⟩:=HPB.out.one k hlt2
     have HST:=Lib.hid (rall_step (p:=apartI r x) hlt rfl)
     have HX:=Lib.hid hx
     have HY:=Lib.hid hy
     have hbk:BS[k]? = some (boxR r c):=by rw [← HBS.out,List.getElem?_map,hx];rfl
     obtain ⟨gd,rfl⟩:=head_ptr (SN.out.list (.head _)) hbk
     obtain ⟨bx,hbx⟩:∃ bx,boxR r c=bx:=⟨_,rfl⟩
     have HBX:=Lib.hid hbx
     rw [hbx] at hbk
     have HBK:=Lib.hid hbk
     clear hx hy hbx hbk
     go_wp2
     go_loopw [46] (fun i wr=>∃ (j:Nat),j≤k∧i=.int .i64 j∧Hid (((List.range k).drop j).all (fun j=>!overIJ r x k j)=apartI r x k)∧Hid (Sit w wr [fOF Box.cells 75 4 w.heap.size (.slice (some ⟨gd,0,none⟩) x.cartons.length d) BS fp,fBox (w.heap.size + 1) #[.slice (some ⟨b,off,none⟩) x.cartons.length ca,.slice (some ⟨b2,off2,none⟩) x.spots.length cb] 46,fBox w.heap.size (cR r A1 c1 A2 c2 A3 c3) 41])) (fun i _=>k - (intOf i).toNat)
     case atStart=>exact ⟨0,Nat.zero_le _,rfl,Lib.hid rfl,SN⟩
     case round =>
      clear SN
      obtain ⟨j,hj,rfl,HD2,SN⟩:=hrel
      obtain ⟨wr2,rfl⟩:∃ y,y=wr:=⟨_,rfl⟩
      by_cases hltj:j < k
      ·have hj1:j < x.cartons.length:=by omega
       have hj2:j < x.spots.length:=by omega
       obtain ⟨b',off',c',U',cu',hA',hb',hx',HU',HC'⟩:=HPA.out.one j hj1
       obtain ⟨b2',off2',s',hB',hb2',hy',HC2'⟩:=HPB.out.one j hj2
       cases hA'
       cases hB'
       have hbk':BS[j]? = some (boxR r c'):=by rw [← HBS.out,List.getElem?_map,hx'];rfl
       obtain ⟨bx',hbx'⟩:∃ bx,boxR r c'=bx:=⟨_,rfl⟩
       rw [hbx'] at hbk'
       obtain ⟨ff,hff⟩:∃ ff,overB bx s bx' s'=ff:=⟨_,rfl⟩
       have HF:=Lib.hid hff
       have HST2:=Lib.hid (rall_step (p:=fun j=>!overIJ r x k j) hltj (show (!overIJ r x k j) = !ff by unfold overIJ;rw [cartAt_at HX.out,spotAt_at HY.out,cartAt_at hx',spotAt_at hy',HBX.out,hbx',hff]))
       have hq1:=(SN.out.list (.head _)).cells (fun _=>rfl) HBK.out
       have hq2:=(SN.out.list (.head _)).cells (fun _=>rfl) hbk'
       have hbc:=And.intro (hq1 0 (.int .i64 bx.w) rfl) (And.intro (hq1 1 (.int .i64 bx.d) rfl) (And.intro (hq1 2 (.int .i64 bx.h) rfl) (hq1 3 (.int .i64 bx.gram) rfl)))
       have hbc':=And.intro (hq2 0 (.int .i64 bx'.w) rfl) (And.intro (hq2 1 (.int .i64 bx'.d) rfl) (And.intro (hq2 2 (.int .i64 bx'.h) rfl) (hq2 3 (.int .i64 bx'.gram) rfl)))
       rw [Nat.add_zero] at hbc hbc'
       have hsc:=HC2.out wr2 SN.out.low
       have hsc':=HC2'.out wr2 SN.out.low
       have k11:wr2.cell? ⟨w.heap.size + 1,1,none⟩=some (.slice (some ⟨b2,off2,none⟩) x.spots.length cb):=SN.out.box (.tail _ (.head _)) 1
       clear hx' hy' hbx' hff hbk' hq1 hq2
       go_wp2
       cases ff
       all_goals (
        refine regu (S:=(fun W'=>W'.cell? ⟨w.heap.size + 1,1,none⟩=some (.slice (some ⟨b2,off2,none⟩) x.spots.length cb)∧(cS4 (W') (b2) (off2) (k) (s))∧(cS4 (W') (b2) (off2) (j) (s'))∧(cB4 (W') (gd) (k) (bx))∧cB4 (W') (gd) (j) (bx'))) (by kernel_rfl) (fun _ _ _ _ _=>id) ?_ fun hHeld=>?_
        ·(first | exact ⟨k11,hsc,hsc',hbc,hbc'⟩ | go_keep)
        refine tku (b:=?_) [0,1,2,3,4,5,6,7,8,9,10,11,12,13,14,15,16,17] (by kernel_rfl) hHeld ?_ ?_
        rotate_left
        ·repeat first
         |exact .nil
         |refine .yes (v:=?_) rfl (by rfl) ?_ ?_
          rotate_left
          ·intro w9 hSw;(try dsimp only at hSw);go_simp;(try with_reducible rfl)
          (try simp only [aP,aZ,aS,aG,aH,aI])
        refine lsu 18 rfl (by kernel_rfl) fun K hK=>?_
        go_simp
        ((go_at_call 115;refine (iOverlap_any bx s bx' s' _).mono ?_;rintro e w5 ⟨rfl,hb5⟩;rw [HF.out];have hn5:=bstep (a:=wr2) (by (repeat' with_reducible first | assumption | exact bR | apply bD | apply bA | apply bC | apply bW | omega | simp <;> omega)) hb5))
        refine hK.out _ _ ?_
        clear hK K
        (try simp only [aP,aZ,aS,aG,aH,aI])
        go_wp2_with fail
        first | (go_ret;exact ⟨by rw [HM2.out,if_neg (by rw [← H8.out,← HD.out,HST.out,← HD2.out,HST2.out];simp)];rfl,(SN.out.next (by (repeat' with_reducible first | assumption | exact bR | apply bD | apply bA | apply bC | apply bW | omega | simp <;> omega))).low⟩) | go_roundw
        all_goals first | (case rel=>exact ⟨j + 1,hltj,by go_num,Lib.hid (by rw [← HD2.out,HST2.out];simp),Lib.hid (SN.out.next (by (repeat' with_reducible first | assumption | exact bR | apply bD | apply bA | apply bC | apply bW | omega | simp <;> omega)))⟩) | (case measure=>simp [intOf] <;> omega)
        )
      ·have HE:=Lib.hid (show apartI r x k=true by rw [← HD2.out];exact all_done (by simp;omega))
       go_wp2
       go_roundw
       case rel=>exact ⟨k + 1,hlt,by go_num,Lib.hid (by rw [← HD.out,HST.out,HE.out];simp),SN⟩
       case measure=>simp [intOf] <;> omega
    ·have HE8:=Lib.hid (show b8=true by rw [← H8.out,← HD.out];exact all_done (by simp;omega))
     have HM3:=Lib.hid (show spotsFault r x=if b9=true then (0:Int) else 9 by rw [HM2.out,if_pos HE8.out])
     obtain rfl:k=x.cartons.length:=by omega
     have k1:=SN.out.box (.tail _ (.head _))
     have l1:=SN.out.boxlt (.tail _ (.head _))
     have SN:=Lib.hid SN.out.drop
     go_wp2_with fail
     refine (iPallets_any _ x.spots _ (HPB.out.next (flat_mono _) SN.out.low)).mono ?_
     rintro e1 w1 ⟨rfl,hb1⟩
     rw [HN.out]
     have SN:=Lib.hid (SN.out.next hb1)
     clear k1 l1 hb1
     go_wp2
     go_loopw [73] (fun i wr=>∃ (k:Nat),k≤n∧i=.int .i64 k∧Hid (((List.range n).drop k).all (palletK r x)=(List.range n).all (palletK r x))∧Hid (Sit w wr [fBox (w.heap.size + 1) #[.slice PA x.cartons.length ca,.slice PB x.spots.length cb] 46,fBox w.heap.size (cR r A1 c1 A2 c2 A3 c3) 41])) (fun i _=>n - (intOf i).toNat)
     case atStart=>exact ⟨0,Nat.zero_le _,rfl,Lib.hid rfl,SN⟩
     case round =>
      clear SN
      obtain ⟨k,hk,rfl,HD,SN⟩:=hrel
      by_cases hlt:k < n
      ·have HST:=Lib.hid (rall_step (p:=palletK r x) hlt rfl)
       obtain ⟨L,hL⟩:∃ L,onPal x (k:Int)=L:=⟨_,rfl⟩
       have hol:=onPal_le x (k:Int)
       rw [hL] at hol
       obtain ⟨g,hg⟩:∃ g,palGram r x (k:Int)=g:=⟨_,rfl⟩
       have HG:=Lib.hid hg
       have HPK:=Lib.hid (show palletK r x k=((decide (0 < L.length) && decide (g≤r.pallet.gram)) && sameG x L) by unfold palletK;rw [hL,hg])
       have HIN:=Lib.hid (show ∀ (j:Nat) (i:Int),L[j]? = some i→∃ m:Nat,i=m∧m < x.cartons.length∧m < x.spots.length from fun j i hi=>onPal_in (hL ▸ hi))
       have HLL:=Lib.hid hL
       have k1:=SN.out.box (.head _)
       have l1:=SN.out.boxlt (.head _)
       clear hL hg
       go_wp2_with fail
       refine (iOnPallet_any _ x k _ (HX.out.next SN.out.low)).mono ?_
       intro e1 w1 hm
       rw [HLL.out] at hm
       obtain ⟨v1,fk,rfl,hS⟩:=SN.out.gotInts hm
       obtain ⟨D,d,rfl,_⟩:=(hS.list (.head _)).form
       have SN:=Lib.hid (hS.alloc #[.slice D L.length d] 53)
       obtain ⟨W2,hW2⟩:∃ W2,w1.alloc (.cells #[.slice D L.length d] 53)=W2:=⟨_,rfl⟩
       rw [hW2] at SN
       clear k1 l1 hS hm
       have HCC:=Lib.hid (show ∀ X:World,Below W2.heap.size W2 X→(cS10 (X) (w.heap.size) (r) (.slice A1 r.pairs.length c1) (.slice A2 r.types.length c2) (.slice A3 r.items.length c3))∧(X.cell? ⟨w.heap.size + 1,0,none⟩=some (.slice PA x.cartons.length ca)∧X.cell? ⟨w.heap.size + 1,1,none⟩=some (.slice PB x.spots.length cb))∧X.cell? ⟨w1.heap.size,0,none⟩=some (.slice D L.length d) from fun X hX=>by
        have hX:=SN.out.next hX
        have c0:=hX.box (.tail _ (.tail _ (.tail _ (.head _))))
        exact ⟨⟨c0 0,c0 1,c0 2,c0 3,c0 4,c0 5,c0 6,c0 7,c0 8,c0 9⟩,⟨hX.box (.tail _ (.tail _ (.head _))) 0,hX.box (.tail _ (.tail _ (.head _))) 1⟩,hX.box (.head _) 0⟩)
       by_cases h0:L.length=0
       ·have hq:((L.length:Int) == 0)=true:=by rw [h0];rfl
        have HF:=Lib.hid (show spotsFault r x=9 by rw [HM3.out,if_neg];rw [← H9.out,← HD.out,HST.out,HPK.out,h0];simp)
        clear h0
        go_wp2
        clear hW2
        refine regu (S:=(fun W'=>((cS10 (W') (w.heap.size) (r) (.slice A1 r.pairs.length c1) (.slice A2 r.types.length c2) (.slice A3 r.items.length c3)))∧(W'.cell? ⟨w.heap.size + 1,0,none⟩=some (.slice PA x.cartons.length ca)∧W'.cell? ⟨w.heap.size + 1,1,none⟩=some (.slice PB x.spots.length cb))∧W'.cell? ⟨w1.heap.size,0,none⟩=some (.slice D L.length d))) (by kernel_rfl) (fun _ _ _ _ _=>id) ?_ fun hHeld=>?_
        ·(first | (refine HCC.out _ ?_;(repeat' with_reducible first | assumption | exact bR | apply bD | apply bA | apply bC | apply bW | omega | simp <;> omega);done) | go_keep)
        refine tku (b:=?_) [0,1,2,3] (by kernel_rfl) hHeld ?_ ?_
        rotate_left
        ·repeat first
         |exact .nil
         |refine .yes (v:=?_) rfl (by rfl) ?_ ?_
          rotate_left
          ·intro w9 hSw;(try dsimp only at hSw);go_simp;(try with_reducible rfl)
          (try simp only [aP,aZ,aS,aG,aH,aI])
        refine tku (b:=?_) [4,5,6,8,9,10] (by kernel_rfl) hHeld ?_ ?_
        rotate_left
        ·repeat first
         |exact .nil
         |refine .no rfl (by rfl) ?_
          (try simp only [aP,aZ,aS,aG,aH,aI])
        refine onu 7 rfl (by kernel_rfl) fun K hK=>?_
        go_simp
        (skip)
        refine hK.out _ _ ?_ (fun hHeld=>?_)
        ·(first | (refine HCC.out _ ?_;(repeat' with_reducible first | assumption | exact bR | apply bD | apply bA | apply bC | apply bW | omega | simp <;> omega);done) | go_keep)
        clear hK K
        (try simp only [aP,aZ,aS,aG,aH,aI])
        refine tku (b:=?_) [11] (by kernel_rfl) hHeld ?_ ?_
        rotate_left
        ·repeat first
         |exact .nil
         |refine .no rfl (by rfl) ?_
          (try simp only [aP,aZ,aS,aG,aH,aI])
        refine lsu 12 rfl (by kernel_rfl) fun K hK=>?_
        go_simp
        refine hK.out _ _ ?_
        clear hK K
        (try simp only [aP,aZ,aS,aG,aH,aI])
        go_wp2_with fail
        go_ret
        exact ⟨by rw [HF.out];rfl,(SN.out.next (by (repeat' with_reducible first | assumption | exact bR | apply bD | apply bA | apply bC | apply bW | omega | simp <;> omega))).low⟩
       have hq:((L.length:Int) == 0)=false:=by rw [beq_eq_false_iff_ne];omega
       obtain ⟨gb,hgb⟩:∃ gb,decide (r.pallet.gram < g)=gb:=⟨_,rfl⟩
       have HPK2:=Lib.hid (show palletK r x k=(!gb && sameG x L) by
        rw [HPK.out,decide_eq_true (show 0 < L.length by omega),Bool.true_and]
        congr 1
        rw [← hgb,Bool.eq_iff_iff]
        simp)
       go_wp2
       clear hW2
       cases gb
       ·skip
        refine regu (S:=(fun W'=>((cS10 (W') (w.heap.size) (r) (.slice A1 r.pairs.length c1) (.slice A2 r.types.length c2) (.slice A3 r.items.length c3)))∧(W'.cell? ⟨w.heap.size + 1,0,none⟩=some (.slice PA x.cartons.length ca)∧W'.cell? ⟨w.heap.size + 1,1,none⟩=some (.slice PB x.spots.length cb))∧W'.cell? ⟨w1.heap.size,0,none⟩=some (.slice D L.length d))) (by kernel_rfl) (fun _ _ _ _ _=>id) ?_ fun hHeld=>?_
        ·(first | (refine HCC.out _ ?_;(repeat' with_reducible first | assumption | exact bR | apply bD | apply bA | apply bC | apply bW | omega | simp <;> omega);done) | go_keep)
        refine tku (b:=?_) [0,1,2,3,4,5,6,8,9,10] (by kernel_rfl) hHeld ?_ ?_
        rotate_left
        ·repeat first
         |exact .nil
         |refine .yes (v:=?_) rfl (by rfl) ?_ ?_
          rotate_left
          ·intro w9 hSw;(try dsimp only at hSw);go_simp;(try with_reducible rfl)
          (try simp only [aP,aZ,aS,aG,aH,aI])
        refine onu 7 rfl (by kernel_rfl) fun K hK=>?_
        go_simp
        ((go_at_call 273;refine (iPalletGram_any _ _ r x k _ (HR.out.next (SN.out.next (by (repeat' with_reducible first | assumption | exact bR | apply bD | apply bA | apply bC | apply bW | omega | simp <;> omega))).low) (HX.out.next (SN.out.next (by (repeat' with_reducible first | assumption | exact bR | apply bD | apply bA | apply bC | apply bW | omega | simp <;> omega))).low)).mono ?_;rintro e w3 ⟨rfl,hb3⟩;rw [HG.out];have hn3:=bstep (a:=W2) (by (repeat' with_reducible first | assumption | exact bR | apply bD | apply bA | apply bC | apply bW | omega | simp <;> omega)) hb3))
        refine hK.out _ _ ?_ (fun hHeld=>?_)
        ·(first | (refine HCC.out _ ?_;(repeat' with_reducible first | assumption | exact bR | apply bD | apply bA | apply bC | apply bW | omega | simp <;> omega);done) | go_keep)
        clear hK K
        (try simp only [aP,aZ,aS,aG,aH,aI])
        refine tku (b:=?_) [11] (by kernel_rfl) hHeld ?_ ?_
        rotate_left
        ·repeat first
         |exact .nil
         |refine .yes (v:=?_) rfl (by rfl) ?_ ?_
          rotate_left
          ·intro w9 hSw;(try dsimp only at hSw);go_simp;(try with_reducible rfl)
          (try simp only [aP,aZ,aS,aG,aH,aI])
        refine lsu 12 rfl (by kernel_rfl) fun K hK=>?_
        go_simp
        refine hK.out _ _ ?_
        clear hK K
        (try simp only [aP,aZ,aS,aG,aH,aI])
        skip
        have SN:=Lib.hid (SN.out.next hn3)
        have hcc:=HCC.out w3 hn3
        obtain ⟨_,⟨kp0,_⟩,kl0⟩:=hcc
        have lp:=SN.out.boxlt (.tail _ (.tail _ (.head _)))
        have ll:=SN.out.boxlt (.head _)
        have HRL:=Lib.hid (OInts.read (SN.out.list (.tail _ (.head _))) (by omega))
        have HCF:=Lib.hid (containsFuncInt_any 275 #[.pointer (some ⟨w.heap.size + 1,0,none⟩),.pointer (some ⟨w1.heap.size,0,none⟩)] (mixI x L) _ L w3 HRL.out (run_enter Tryz.func275 (by kernel_rfl) (by kernel_rfl))
         (fun W i hW hi=>by
          obtain ⟨j,hj⟩:=List.mem_iff_getElem?.1 hi
          obtain ⟨m,rfl,hm1,_⟩:=HIN.out j i hj
          obtain ⟨i0,hi0⟩:∃ i,L[0]? = some i:=⟨_,List.getElem?_eq_getElem (by omega)⟩
          obtain ⟨m0,rfl,hm01,_⟩:=HIN.out 0 i0 hi0
          exact sf1_any x L m _ PA PB ca cb _ _ W ((hW.cell (p:=⟨w.heap.size + 1,0,none⟩) lp).trans kp0) ((hW.cell (p:=⟨w1.heap.size,0,none⟩) ll).trans kl0) (HPA.out.next (RCarton_mono _) (bstep SN.out.low hW)) (HRL.out.next (flat_mono _) hW) hm1 ⟨m0,hi0,hm01⟩))
        rw [mix_any] at HCF
        obtain ⟨ff,hff⟩:∃ ff,sameG x L=ff:=⟨_,rfl⟩
        rw [hff] at HCF HPK2
        clear hff hn3 hb3 hgb kp0 lp
        go_wp2_with fail
        refine HCF.out.mono ?_
        rintro e4 w4 ⟨rfl,hb4⟩
        have SN:=Lib.hid (SN.out.next hb4)
        clear HCF hb4 kl0 ll
        cases ff
        ·have HF:=Lib.hid (show spotsFault r x=9 by rw [HM3.out,if_neg];rw [← H9.out,← HD.out,HST.out,HPK2.out];simp)
         go_wp2
         go_ret
         exact ⟨by rw [HF.out];rfl,SN.out.low⟩
        ·go_wp2
         go_roundw
         case rel=>exact ⟨k + 1,hlt,by go_num,Lib.hid (by rw [← HD.out,HST.out,HPK2.out];simp),Lib.hid SN.out.drop.drop⟩
         case measure=>simp [intOf] <;> omega
       ·have HF:=Lib.hid (show spotsFault r x=9 by rw [HM3.out,if_neg];rw [← H9.out,← HD.out,HST.out,HPK2.out];simp)
        refine regu (S:=(fun W'=>((cS10 (W') (w.heap.size) (r) (.slice A1 r.pairs.length c1) (.slice A2 r.types.length c2) (.slice A3 r.items.length c3)))∧(W'.cell? ⟨w.heap.size + 1,0,none⟩=some (.slice PA x.cartons.length ca)∧W'.cell? ⟨w.heap.size + 1,1,none⟩=some (.slice PB x.spots.length cb))∧W'.cell? ⟨w1.heap.size,0,none⟩=some (.slice D L.length d))) (by kernel_rfl) (fun _ _ _ _ _=>id) ?_ fun hHeld=>?_
        ·(first | (refine HCC.out _ ?_;(repeat' with_reducible first | assumption | exact bR | apply bD | apply bA | apply bC | apply bW | omega | simp <;> omega);done) | go_keep)
        refine tku (b:=?_) [0,1,2,3,4,5,6,8,9,10] (by kernel_rfl) hHeld ?_ ?_
        rotate_left
        ·repeat first
         |exact .nil
         |refine .yes (v:=?_) rfl (by rfl) ?_ ?_
          rotate_left
          ·intro w9 hSw;(try dsimp only at hSw);go_simp;(try with_reducible rfl)
          (try simp only [aP,aZ,aS,aG,aH,aI])
        refine onu 7 rfl (by kernel_rfl) fun K hK=>?_
        go_simp
        ((go_at_call 273;refine (iPalletGram_any _ _ r x k _ (HR.out.next (SN.out.next (by (repeat' with_reducible first | assumption | exact bR | apply bD | apply bA | apply bC | apply bW | omega | simp <;> omega))).low) (HX.out.next (SN.out.next (by (repeat' with_reducible first | assumption | exact bR | apply bD | apply bA | apply bC | apply bW | omega | simp <;> omega))).low)).mono ?_;rintro e w3 ⟨rfl,hb3⟩;rw [HG.out];have hn3:=bstep (a:=W2) (by (repeat' with_reducible first | assumption | exact bR | apply bD | apply bA | apply bC | apply bW | omega | simp <;> omega)) hb3))
        refine hK.out _ _ ?_ (fun hHeld=>?_)
        ·(first | (refine HCC.out _ ?_;(repeat' with_reducible first | assumption | exact bR | apply bD | apply bA | apply bC | apply bW | omega | simp <;> omega);done) | go_keep)
        clear hK K
        (try simp only [aP,aZ,aS,aG,aH,aI])
        refine tku (b:=?_) [11] (by kernel_rfl) hHeld ?_ ?_
        rotate_left
        ·repeat first
         |exact .nil
         |refine .yes (v:=?_) rfl (by rfl) ?_ ?_
          rotate_left
          ·intro w9 hSw;(try dsimp only at hSw);go_simp;(try with_reducible rfl)
          (try simp only [aP,aZ,aS,aG,aH,aI])
        refine lsu 12 rfl (by kernel_rfl) fun K hK=>?_
        go_simp
        refine hK.out _ _ ?_
        clear hK K
        (try simp only [aP,aZ,aS,aG,aH,aI])
        go_wp2_with fail
        go_ret
        exact ⟨by rw [HF.out];rfl,(SN.out.next (by (repeat' with_reducible first | assumption | exact bR | apply bD | apply bA | apply bC | apply bW | omega | simp <;> omega))).low⟩
      ·have HE9:=Lib.hid (show b9=true by rw [← H9.out,← HD.out];exact all_done (by simp;omega))
       have HM4:=Lib.hid (show spotsFault r x=0 by rw [HM3.out,if_pos HE9.out])
       go_wp2
       go_ret
       exact ⟨by rw [HM4.out];rfl,SN.out.low⟩
set_option maxHeartbeats 400000 in
theorem check1_any (x:Carton) (v:Value) (w:World) (h:RInts 16777216 w w.heap.size v x.units):Calls Tryz.prog 209 #[.agg #[.int .i64 x.type,.int .i64 x.group,v]] w fun e w'=>e=.returned (.bool (decide (x.units.length=0)))∧Below w.heap.size w w':=by
 obtain ⟨A,c,rfl,_⟩:=h
 obtain ⟨q,hq⟩:∃ q,((x.units.length:Int) == 0)=q:=⟨_,rfl⟩
 have HM:=Lib.hid (show decide (x.units.length=0)=q by rw [← hq,Bool.eq_iff_iff];simp)
 go_enter Tryz.func209,Tryz.ntmps209
 go_wp2
 go_ret
 exact ⟨by rw [HM.out];rfl,(by repeat' with_reducible first | assumption | exact bR | apply bD | apply bA | apply bC | apply bN | simp <;> omega)⟩
set_option maxHeartbeats 400000 in
theorem containsFuncCarton_any (fn:FuncId) (cap:Array Value) (p:Carton→Bool) (v:Value) (xs:List Carton) (w:World) (h:RCartons 16777216 w w.heap.size v xs) (hrun:∀ args W,(callFunc fn args).run Tryz.prog W=.ok (.enter fn args) W)
  (hf:∀ (W:World) (x:Carton) (u:Value),Below w.heap.size w W→RInts 16777216 W W.heap.size u x.units→Calls Tryz.prog fn (#[.agg #[.int .i64 x.type,.int .i64 x.group,u]] ++ cap) W fun e w'=>e=.returned (.bool (p x))∧Below W.heap.size W w') :
  Calls Tryz.prog 208 #[v,.func (.func fn) #[] cap] w fun e w'=>e=.returned (.bool (xs.any p))∧Below w.heap.size w w':=by
 have HA:=Lib.hid (idxF_any p xs)
 have HC:=Lib.hid (indexFuncCarton_any fn cap p v xs w h hrun hf)
 clear h hf hrun
 go_enter Tryz.func208,Tryz.ntmps208
 go_wp2_with fail
 refine HC.out.mono ?_
 rintro e w2 ⟨rfl,hb2⟩
 go_wp2
 go_ret
 exact ⟨ret_bool HA.out,hb2⟩
end Go.Proofs.YtioijfplbgpjpaaGreat
namespace Go.Proofs.YtioijfplbgpjpaaGreat
set_option linter.unusedVariables false
set_option linter.unusedSimpArgs false
set_option maxRecDepth 100000
open Go.RowKit Go.WideShapes Go.ChangeShapes Go.ChangeAt Go.Deep
set_option maxRecDepth 100000 in
set_option maxHeartbeats 4000000 in
theorem iCheck_any (v vx:Value) (r:Request) (x:Plan) (w:World) (h:RReq 16777216 w w.heap.size v r) (hx:RPlan 16777216 w w.heap.size vx x) (hL:x.bulk≤16777216):Calls Tryz.prog 149 #[v,vx] w fun e w'=>e=.returned (.int .i64 (checkR r x))∧Below w.heap.size w w':=by
 have HR:=Lib.hid h
 have HX:=Lib.hid hx
 obtain ⟨A1,c1,A2,c2,A3,c3,rfl,_⟩:=h.opn
 obtain ⟨PA,ca,PB,cb,rfl,HPA,HPB,hla,hlb⟩:=hx.opn
 have hS:=((Sit.here w).alloc (cR r A1 c1 A2 c2 A3 c3) 41).alloc #[.slice PA x.cartons.length ca,.slice PB x.spots.length cb] 46
 simp only [World.size_alloc] at hS
 have SN:=Lib.hid hS
 have hal:=Nat.le_trans (allU_bulk x) hL
 obtain ⟨s,hs⟩:∃ s,soundR r=s:=⟨_,rfl⟩
 have HS:=Lib.hid hs
 obtain ⟨b1,h1⟩:∃ b,planOk x=b:=⟨_,rfl⟩
 have H1:=Lib.hid h1
 obtain ⟨b2,h2⟩:∃ b,emptyC x=b:=⟨_,rfl⟩
 have H2:=Lib.hid h2
 obtain ⟨F,hF⟩:∃ F,allU x.cartons=F:=⟨_,rfl⟩
 have HF:=Lib.hid hF
 obtain ⟨b3,h3⟩:∃ b,unitsFit (unitsR r).length F=b:=⟨_,rfl⟩
 have H3:=Lib.hid h3
 have HM:=Lib.hid (show checkR r x=if s=true then (if (b1 && !b2)=true then (if b3=true then (if cartonsFault r x=0 then spotsFault r x else cartonsFault r x) else 3) else 2) else 1 by
  unfold checkR
  rw [hs,h1,h2,show x.cartons.flatMap (·.units)=F from hF,h3])
 rw [hF] at hal
 clear h hx hS hs h1 h2 h3 hF
 go_enter Tryz.func149,Tryz.ntmps149
 have k0:=SN.out.box (.tail _ (.head _))
 have l0:=SN.out.boxlt (.tail _ (.head _))
 have k1:=SN.out.box (.head _)
 have l1:=SN.out.boxlt (.head _)
 go_wp2_with fail
 refine (sound_any _ r _ (HR.out.next SN.out.low)).mono ?_
 rintro e1 w1 ⟨rfl,hb1⟩
 rw [HS.out]
 have SN:=Lib.hid (SN.out.next hb1)
 clear k0 l0 k1 l1 hb1
 have k0:=SN.out.box (.tail _ (.head _));have l0:=SN.out.boxlt (.tail _ (.head _));have k1:=SN.out.box (.head _);have l1:=SN.out.boxlt (.head _)
 cases s
 ·have HM2:=Lib.hid (show checkR r x=1 by rw [HM.out];rfl)
  go_wp2
  go_ret
  exact ⟨by rw [HM2.out];rfl,SN.out.low⟩
 have hun:(unitsR r).length≤12:=(right_of HS.out).nunits
 have HUC:=Lib.hid (unitsC_of HS.out)
 go_wp2_with fail
 refine (iPlanOk_any _ x _ (HX.out.next SN.out.low)).mono ?_
 rintro e2 w2 ⟨rfl,hb2⟩
 rw [H1.out]
 have SN:=Lib.hid (SN.out.next hb2)
 clear k0 l0 k1 l1 hb2
 have k0:=SN.out.box (.tail _ (.head _));have l0:=SN.out.boxlt (.tail _ (.head _));have k1:=SN.out.box (.head _);have l1:=SN.out.boxlt (.head _)
 cases b1
 ·have HM2:=Lib.hid (show checkR r x=2 by rw [HM.out];rfl)
  go_wp2
  go_ret
  exact ⟨by rw [HM2.out];rfl,SN.out.low⟩
 have hpk:x.spots.length=x.cartons.length∧x.cartons.length≤100:=by
  have h1:=H1.out
  unfold planOk at h1
  simp only [Bool.and_eq_true,decide_eq_true_eq] at h1
  exact h1.1
 have HPK:=Lib.hid hpk
 clear hpk
 have HCC:=Lib.hid (containsFuncCarton_any 209 #[] (fun c=>decide (c.units.length=0)) _ x.cartons w2 (HPA.out.next (RCarton_mono _) SN.out.low) (run_enter Tryz.func209 (by kernel_rfl) (by kernel_rfl)) (fun W c u _ hr=>check1_any c u W hr))
 rw [show (x.cartons.any fun c=>decide (c.units.length=0))=b2 from H2.out] at HCC
 go_wp2_with fail
 refine HCC.out.mono ?_
 rintro e3 w3 ⟨rfl,hb3⟩
 have SN:=Lib.hid (SN.out.next hb3)
 clear k0 l0 k1 l1 hb3 HCC
 have k0:=SN.out.box (.tail _ (.head _));have l0:=SN.out.boxlt (.tail _ (.head _));have k1:=SN.out.box (.head _);have l1:=SN.out.boxlt (.head _)
 cases b2
 case true =>
  have HM2:=Lib.hid (show checkR r x=2 by rw [HM.out];rfl)
  go_wp2
  go_ret
  exact ⟨by rw [HM2.out];rfl,SN.out.low⟩
 go_wp2_with fail
 refine (allUnits_any _ x _ (HX.out.next SN.out.low) hL).mono ?_
 intro e4 w4 hm
 rw [HF.out] at hm
 obtain ⟨v4,f4,rfl,hS⟩:=SN.out.gotInts hm
 have SN:=Lib.hid hS
 clear k0 l0 k1 l1 hS hm
 go_wp2_with fail
 refine (sortInt_any v4 F f4 w.heap.size _ (SN.out.list (.head _)) (by omega)).mono ?_
 rintro e5 w5 ⟨rfl,ho5,ht5⟩
 have SN:=Lib.hid (SN.out.grow (q:=fOF cI 3 1 w.heap.size v4 F f4) ht5 (fOF cI 3 1 w.heap.size v4 (sortI F) f4) (fun b hb=>.inl hb) (fOF_ok _ _ _ _ _ _ _) ho5)
 clear ho5 ht5
 have k0:=SN.out.box (.tail _ (.tail _ (.head _)))
 have l0:=SN.out.boxlt (.tail _ (.tail _ (.head _)))
 go_wp2_with fail
 refine (iUnits_any _ r _ (HR.out.next SN.out.low)).mono ?_
 intro e6 w6 hm
 rw [HUC.out] at hm
 obtain ⟨v6,f6,rfl,hS⟩:=SN.out.gotInts hm
 obtain ⟨D6,d6,rfl,_⟩:=(hS.list (.head _)).form
 have SN:=Lib.hid hS.drop
 clear k0 l0 hS hm
 go_wp2_with fail
 refine (places_any (unitsR r).length _ (by omega)).mono ?_
 intro e7 w7 hm
 obtain ⟨v7,f7,rfl,hS⟩:=SN.out.gotInts hm
 have SN:=Lib.hid hS
 clear hS hm
 have hil:=intsN_len (unitsR r).length
 go_wp2_with fail
 refine (equalInt_any _ _ (sortI F) (intsN (unitsR r).length) _ (OInts.read (SN.out.list (.tail _ (.head _))) (by rw [sortI_length];exact hal)) (OInts.read (SN.out.list (.head _)) (by omega))).mono ?_
 rintro e8 w8 ⟨rfl,hb8⟩
 rw [show decide (sortI F=intsN (unitsR r).length)=b3 from H3.out]
 have SN:=Lib.hid (SN.out.next hb8).drop.drop
 clear hb8 hil
 have k0:=SN.out.box (.tail _ (.head _));have l0:=SN.out.boxlt (.tail _ (.head _));have k1:=SN.out.box (.head _);have l1:=SN.out.boxlt (.head _)
 cases b3
 ·have HM2:=Lib.hid (show checkR r x=3 by rw [HM.out];rfl)
  go_wp2
  go_ret
  exact ⟨by rw [HM2.out];rfl,SN.out.low⟩
 obtain ⟨cf,hcf⟩:∃ cf,cartonsFault r x=cf:=⟨_,rfl⟩
 have HCF:=Lib.hid ((cartonsFault_eq H1.out (by rw [show x.cartons.flatMap (·.units)=F from HF.out];exact H3.out)).trans hcf)
 have HM2:=Lib.hid (show checkR r x=if cf=0 then spotsFault r x else cf by rw [HM.out,hcf];rfl)
 clear hcf
 go_wp2_with fail
 refine (cartonFault_any _ _ r x _ (HR.out.next SN.out.low) (HX.out.next SN.out.low) HS.out (fun c hc=>(planOk_group H1.out hc).1)).mono ?_
 rintro e9 w9 ⟨rfl,hb9⟩
 rw [HCF.out]
 have SN:=Lib.hid (SN.out.next hb9)
 clear k0 l0 k1 l1 hb9
 have k0:=SN.out.box (.tail _ (.head _));have l0:=SN.out.boxlt (.tail _ (.head _));have k1:=SN.out.box (.head _);have l1:=SN.out.boxlt (.head _)
 by_cases hz:cf=0
 ·have HM3:=Lib.hid (show checkR r x=spotsFault r x by rw [HM2.out,if_pos hz])
  obtain ⟨sf,hsf⟩:∃ sf,spotsFault r x=sf:=⟨_,rfl⟩
  have HSF:=Lib.hid hsf
  subst hz
  clear hsf
  go_wp2_with fail
  refine (spotFault_any _ _ r x _ (HR.out.next SN.out.low) (HX.out.next SN.out.low) HPK.out.1 HPK.out.2).mono ?_
  rintro e10 w10 ⟨rfl,hb10⟩
  rw [HSF.out]
  have SN:=Lib.hid (SN.out.next hb10)
  clear k0 l0 k1 l1 hb10
  go_wp2
  go_ret
  exact ⟨by rw [HM3.out,HSF.out];rfl,SN.out.low⟩
 ·have HM3:=Lib.hid (show checkR r x=cf by rw [HM2.out,if_neg hz])
  have hz':(cf != 0)=true:=by simpa using hz
  clear hz
  go_wp2
  go_ret
  exact ⟨by rw [HM3.out];rfl,SN.out.low⟩
set_option maxRecDepth 100000 in
set_option maxHeartbeats 1000000 in
theorem iFeasible_any (v vx:Value) (r:Request) (x:Plan) (w:World) (h:RReq 16777216 w w.heap.size v r) (hx:RPlan 16777216 w w.heap.size vx x) (hL:x.bulk≤16777216):Calls Tryz.prog 62 #[v,vx] w fun e w'=>e=.returned (.bool (feasible r x))∧Below w.heap.size w w':=by
 have HR:=Lib.hid h
 have HX:=Lib.hid hx
 obtain ⟨A1,c1,A2,c2,A3,c3,rfl,_⟩:=h.opn
 obtain ⟨PA,ca,PB,cb,rfl,HPA,HPB,hla,hlb⟩:=hx.opn
 have hS:=((Sit.here w).alloc (cR r A1 c1 A2 c2 A3 c3) 41).alloc #[.slice PA x.cartons.length ca,.slice PB x.spots.length cb] 46
 simp only [World.size_alloc] at hS
 have SN:=Lib.hid hS
 obtain ⟨q,hq⟩:∃ q,checkR r x=q:=⟨_,rfl⟩
 have HQ:=Lib.hid hq
 have HM:=Lib.hid (show feasible r x=(q == 0) by unfold feasible;rw [hq])
 clear h hx hS hq
 go_enter Tryz.func62,Tryz.ntmps62
 have k0:=SN.out.box (.tail _ (.head _));have l0:=SN.out.boxlt (.tail _ (.head _));have k1:=SN.out.box (.head _);have l1:=SN.out.boxlt (.head _)
 go_wp2_with fail
 refine (iCheck_any _ _ r x _ (HR.out.next SN.out.low) (HX.out.next SN.out.low) hL).mono ?_
 rintro e1 w1 ⟨rfl,hb1⟩
 rw [HQ.out]
 have SN:=Lib.hid (SN.out.next hb1)
 clear k0 l0 k1 l1 hb1
 go_wp2
 go_ret
 exact ⟨by rw [HM.out];rfl,SN.out.low⟩
end Go.Proofs.YtioijfplbgpjpaaGreat
