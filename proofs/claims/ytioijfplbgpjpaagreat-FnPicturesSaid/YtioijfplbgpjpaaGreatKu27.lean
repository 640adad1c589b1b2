/-
  The reference's checks of a plan: groups, inside, apart, pallets; the checker.
-/
import Derived.Test.YtioijfplbgpjpaaGreatKu43
import Derived.Test.YtioijfplbgpjpaaGreatKu26
import Derived.Deep.RegionHeld3
import Derived.Deep.DeepCutAuto
import Derived.Deep.RegionLaw
import Derived.Deep.RegionWith
import Derived.StillTailTactics
namespace Go.Proofs.YtioijfplbgpjpaaGreat
set_option linter.unusedVariables false
set_option linter.unusedSimpArgs false
set_option maxRecDepth 100000
open Go.RowKit Go.WideShapes Go.ChangeShapes Go.ChangeAt Go.Deep
theorem cartAt_at {x:Plan} {i:Nat} {c:Carton} (h:x.cartons[i]? = some c):cartAt x (i:Int)=c:=by unfold cartAt;rw [Int.toNat_natCast,List.getD_eq_getElem?_getD,h];rfl
theorem spotAt_at {x:Plan} {i:Nat} {s:Spot} (h:x.spots[i]? = some s):spotAt x (i:Int)=s:=by unfold spotAt;rw [Int.toNat_natCast,List.getD_eq_getElem?_getD,h];rfl
set_option maxRecDepth 100000 in
set_option maxHeartbeats 2000000 in
theorem l15Group_any (v va vx:Value) (r:Request) (x:Plan) (w:World) (h:RReq 16777216 w w.heap.size v r) (ha:RInts 16777216 w w.heap.size va (unitsR r)) (hx:RPlan 16777216 w w.heap.size vx x) (hs:soundR r=true):Calls Tryz.prog 196 #[v,va,vx] w fun e w'=>e=.returned (.bool (x.cartons.all (groupC r)))∧Below w.heap.size w w':=by
 have HR:=Lib.hid h
 have HA:=Lib.hid ha
 have HSS:=Lib.hid hs
 have HI:=Lib.hid (show ∀ (i:Nat) (n:Int),(unitsR r)[i]? = some n→0≤n∧n.toNat < r.items.length from fun i n hn=>by have:=units_item hn;exact ⟨this.1,this.2.2⟩)
 obtain ⟨A1,c1,A2,c2,A3,c3,rfl,_⟩:=h.opn
 obtain ⟨PA,ca,PB,cb,rfl,HPA,HPB,hla,hlb⟩:=hx.opn
 have hS:=((Sit.here w).alloc (cR r A1 c1 A2 c2 A3 c3) 41).alloc #[.slice PA x.cartons.length ca,.slice PB x.spots.length cb] 46
 simp only [World.size_alloc] at hS
 have SN:=Lib.hid hS
 have HGN:=Lib.hid (groups_len r)
 clear h hx hS hs ha
 go_enter Tryz.func196,Tryz.ntmps196
 have k0:=SN.out.box (.tail _ (.head _))
 have l0:=SN.out.boxlt (.tail _ (.head _))
 go_wp2_with fail
 refine (sGroupsOf_any _ r _ (HR.out.next SN.out.low)).mono ?_
 intro e1 w1 hm
 obtain ⟨v1,zs,f1,f2,rfl,hz,hS⟩:=SN.out.gotNest hm
 obtain ⟨gs,hgs⟩:∃ gs,groupsR r=gs:=⟨_,rfl⟩
 have HGS:=Lib.hid hgs
 rw [hgs] at HGN hz
 have HRN:=Lib.hid (nest_read (hS.list (.head _)) (hS.inns (.tail _ (.head _))) (fun _ _=>rfl) (by rw [map_fst_len hz];have:=HGN.out.1;omega) (fun z hm=>by have:=HGN.out.2 z.1 (by rw [← hz];exact List.mem_map_of_mem hm);show z.1.length≤_;omega))
 rw [hz] at HRN
 have SN:=Lib.hid hS.drop.drop
 have hw1:=hS.low.size
 clear k0 l0 hS hm hz hgs
 go_wp2
 go_loopw [8] (fun i wr=>∃ (k:Nat),k≤x.cartons.length∧i=.int .i64 k∧Hid ((x.cartons.drop k).all (groupC r)=x.cartons.all (groupC r))∧Hid (Below w1.heap.size w1 wr)∧Hid (Sit w wr [fBox (w.heap.size + 1) #[.slice PA x.cartons.length ca,.slice PB x.spots.length cb] 46,fBox w.heap.size (cR r A1 c1 A2 c2 A3 c3) 41])) (fun i _=>x.cartons.length - (intOf i).toNat)
 case atStart=>exact ⟨0,Nat.zero_le _,rfl,Lib.hid rfl,Lib.hid (Below.refl _ _),SN⟩
 case round =>
  clear SN
  obtain ⟨k,hk,rfl,HD,HB1,SN⟩:=hrel
  have k1:=SN.out.box (.head _)
  have l1:=SN.out.boxlt (.head _)
  by_cases hlt:k < x.cartons.length
  ·obtain ⟨b,off,c,U,cu,rfl,hb,hx,HU,HC⟩:=HPA.out.one k hlt
   have HST:=Lib.hid (all_step (p:=groupC r) hx rfl)
   have hul:=HU.out.len
   clear hx
   go_wp2
   go_loopw [9] (fun i wr2=>∃ (j:Nat),j≤c.units.length∧i=.int .i64 j∧Hid ((c.units.drop j).all (fun u=>groupIx (groupsR r) (itemOf r (unitsR r) u).1.cls == c.group)=groupC r c)∧Hid (Below w1.heap.size w1 wr2)∧Hid (Sit w wr2 [fBox (w.heap.size + 1) #[.slice (some ⟨b,off,none⟩) x.cartons.length ca,.slice PB x.spots.length cb] 46,fBox w.heap.size (cR r A1 c1 A2 c2 A3 c3) 41])) (fun i _=>c.units.length - (intOf i).toNat)
   case atStart=>exact ⟨0,Nat.zero_le _,rfl,Lib.hid rfl,HB1,SN⟩
   case round =>
    clear SN HB1 k1 l1
    obtain ⟨j,hj,rfl,HD2,HB1,SN⟩:=hrel
    obtain ⟨wr2,rfl⟩:∃ y,y=wr:=⟨_,rfl⟩
    have k1:=SN.out.box (.head _)
    have l1:=SN.out.boxlt (.head _)
    have hcs:=HC.out wr2 SN.out.low
    by_cases hltj:j < c.units.length
    ·obtain ⟨bu,ou,u,rfl,hbu,hu,hcu⟩:=HU.out.at1 j hltj
     have hcu0:=hcu _ rfl
     obtain ⟨q,hq⟩:∃ q,itemOf r (unitsR r) u=q:=⟨_,rfl⟩
     have HQ:=Lib.hid hq
     obtain ⟨gi,hgi⟩:∃ gi,groupIx (groupsR r) q.1.cls=gi:=⟨_,rfl⟩
     have HGI:=Lib.hid (show groupIx gs q.1.cls=gi by rw [← HGS.out];exact hgi)
     obtain ⟨ff,hff⟩:∃ ff,(gi == c.group)=ff:=⟨_,rfl⟩
     have HF:=Lib.hid hff
     have HST2:=Lib.hid (all_step (p:=fun u=>groupIx (groupsR r) (itemOf r (unitsR r) u).1.cls == c.group) hu (show (groupIx (groupsR r) (itemOf r (unitsR r) u).1.cls == c.group)=ff by rw [hq,hgi];exact hff))
     have HCU:=Lib.hid (show ∀ X:World,Below w.heap.size w X→X.cell? ⟨bu,ou + j,none⟩=some (.int .i64 u) from fun X hX=>(hX.cell (p:=⟨bu,ou + j,none⟩) hbu).trans hcu0)
     clear hu hcu hcu0 hq hgi hff
     go_upto_region 8 with fail
     clear k1 l1 hcs
     go_cut [10,11] (fun v6 v7 X=>∃ g6,v6=.pointer (some ⟨g6,0,none⟩)∧v7=.bool q.2∧Hid (Below w1.heap.size w1 X)∧Hid (Sit w X [fBox g6 #[.int .i64 q.1.id,.int .i64 q.1.w,.int .i64 q.1.h,.int .i64 q.1.d,.int .i64 q.1.gram,.int .i64 q.1.cls,.int .i64 q.1.count] 152,fBox (w.heap.size + 1) #[.slice (some ⟨b,off,none⟩) x.cartons.length ca,.slice PB x.spots.length cb] 46,fBox w.heap.size (cR r A1 c1 A2 c2 A3 c3) 41]))
     case first =>
      have HCC:=Lib.hid (show ∀ X:World,Below wr2.heap.size wr2 X→(cS10 (X) (w.heap.size) (r) (.slice A1 r.pairs.length c1) (.slice A2 r.types.length c2) (.slice A3 r.items.length c3))∧X.cell? ⟨w.heap.size + 1,0,none⟩=some (.slice (some ⟨b,off,none⟩) x.cartons.length ca)∧X.cell? ⟨bu,ou + j,none⟩=some (.int .i64 u)∧cC3 (X) (b) (off) (k) (c) (.slice (some ⟨bu,ou,none⟩) c.units.length cu) from fun X hX=>by
       have hX:=SN.out.next hX
       have c0:=hX.box (.tail _ (.head _))
       exact ⟨⟨c0 0,c0 1,c0 2,c0 3,c0 4,c0 5,c0 6,c0 7,c0 8,c0 9⟩,hX.box (.head _) 0,HCU.out X hX.low,HC.out X hX.low⟩)
      go_region_held3 (fun W'=>((cS10 (W') (w.heap.size) (r) (.slice A1 r.pairs.length c1) (.slice A2 r.types.length c2) (.slice A3 r.items.length c3)))∧W'.cell? ⟨w.heap.size + 1,0,none⟩=some (.slice (some ⟨b,off,none⟩) x.cartons.length ca)∧W'.cell? ⟨bu,ou + j,none⟩=some (.int .i64 u)∧cC3 (W') (b) (off) (k) (c) (.slice (some ⟨bu,ou,none⟩) c.units.length cu)) (first | (refine HCC.out _ ?_;(repeat' with_reducible first | assumption | exact bR | apply bD | apply bA | apply bC | apply bW | omega | simp <;> omega);done) | go_keep) (first | (go_at_call 255;(try (first | refine calls_new ?_ | refine calls_newd ?_);intro hg);refine (l6Item_any _ _ r _ u _ (HR.out.next (SN.out.next (by (repeat' with_reducible first | assumption | exact bR | apply bD | apply bA | apply bC | apply bW | omega | simp <;> omega))).low) (HA.out.next (flat_mono _) (SN.out.next (by (repeat' with_reducible first | assumption | exact bR | apply bD | apply bA | apply bC | apply bW | omega | simp <;> omega))).low) HI.out).mono ?_;rintro e w2 ⟨rfl,hb2⟩;rw [HQ.out];have hn2:=bstep (a:=wr2) (by (repeat' with_reducible first | assumption | exact bR | apply bD | apply bA | apply bC | apply bW | omega | simp <;> omega)) hb2;have hz2:=hn2.size;have hj2:=hb2.size;(try simp only [World.size_alloc,World.size_drew] at hj2);have SE:=Lib.hid ((SN.out.drew.alloc #[.int .i64 0,.int .i64 0,.int .i64 0,.int .i64 0,.int .i64 0,.int .i64 0,.int .i64 0] 152));(first | (have SE:=Lib.hid (SE.out.next hb2)) | skip);have SN:=Lib.hid ((SN.out.next (by (repeat' with_reducible first | assumption | exact bR | apply bD | apply bA | apply bC | apply bW | omega | simp <;> omega))).next hb2);have HB2:=Lib.hid (bstep HB1.out hn2);(try (have hg:=blk_next hg hb2;have hgc:=fun j=>cell_of_row _ _ j _ _ (0,0) hg;have hgf:=fun j=>frozen_of_row _ _ j _ _ hg;have hgl:=lt_of_block hg))))
      all_goals (go_wp2_with fail;go_meet)
      ·exact ⟨_,rfl,rfl,Lib.hid (HB2.out.alloc HB2.out.size _),Lib.hid (SN.out.alloc _ _)⟩
      all_goals exact ⟨_,rfl,rfl,Lib.hid (below_setW HB2.out (by have:=HB1.out.size;omega) [.int .i64 q.1.id,.int .i64 q.1.w,.int .i64 q.1.h,.int .i64 q.1.d,.int .i64 q.1.gram,.int .i64 q.1.cls,.int .i64 q.1.count] 0),Lib.hid (SE.out.overL [.int .i64 q.1.id,.int .i64 q.1.w,.int .i64 q.1.h,.int .i64 q.1.d,.int .i64 q.1.gram,.int .i64 q.1.cls,.int .i64 q.1.count] 0)⟩
     case rest =>
      obtain ⟨g6,rfl,rfl,HB3,SN2⟩:=hcut
      have SN:=SN2
      clear SN2
      obtain ⟨q1,q2⟩:=q
      have k6:=SN.out.box (.head _)
      have k65:wc.cell? ⟨g6,5,none⟩=some (.int .i64 q1.cls):=k6 5
      have hcs:=HC.out wc SN.out.low
      have k10:wc.cell? ⟨w.heap.size + 1,0,none⟩=some (.slice (some ⟨b,off,none⟩) x.cartons.length ca):=SN.out.box (.tail _ (.head _)) 0
      have hf2:(gi != c.group) = !ff:=by rw [← HF.out];rfl
      have hb3w:=HB3.out
      clear k6
      go_wp2
      cases ff
      all_goals (
       refine regu (S:=(fun W'=>W'.cell? ⟨g6,5,none⟩=some (.int .i64 q1.cls)∧W'.cell? ⟨w.heap.size + 1,0,none⟩=some (.slice (some ⟨b,off,none⟩) x.cartons.length ca)∧cC3 (W') (b) (off) (k) (c) (.slice (some ⟨bu,ou,none⟩) c.units.length cu))) (by kernel_rfl) (fun _ _ _ _ _=>id) ?_ fun hHeld=>?_
       ·(first | exact ⟨k65,k10,hcs⟩ | go_keep)
       refine tku (b:=?_) [0,1,2,4,5,6,7,8,9] (by kernel_rfl) hHeld ?_ ?_
       rotate_left
       ·repeat first
        |exact .nil
        |refine .yes (v:=?_) rfl (by rfl) ?_ ?_
         rotate_left
         ·intro w9 hSw;(try dsimp only at hSw);go_simp;(try with_reducible rfl)
         (try simp only [aP,aZ,aS,aG,aH,aI])
       refine onu 3 rfl (by kernel_rfl) fun K hK=>?_
       go_simp
       ((go_at_call 256;refine (sGroupOf_any _ gs _ _ (HRN.out.next (RNest_mono _ _) (by (repeat' with_reducible first | assumption | exact bR | apply bD | apply bA | apply bC | apply bW | omega | simp <;> omega)))).mono ?_;rintro e w' ⟨rfl,rfl⟩;rw [HGI.out]))
       refine hK.out _ _ ?_ (fun hHeld=>?_)
       ·(first | exact ⟨k65,k10,hcs⟩ | go_keep)
       clear hK K
       (try simp only [aP,aZ,aS,aG,aH,aI])
       refine lsu 10 rfl (by kernel_rfl) fun K hK=>?_
       go_simp
       refine hK.out _ _ ?_
       clear hK K
       (try simp only [aP,aZ,aS,aG,aH,aI])
       go_wp2_with fail
       first | (go_ret;exact ⟨by rw [← HD.out,HST.out,← HD2.out,HST2.out];rfl,(SN.out.next (by (repeat' with_reducible first | assumption | exact bR | apply bD | apply bA | apply bC | apply bW | omega | simp <;> omega))).low⟩) | go_roundw
       all_goals first | (case rel=>exact ⟨j + 1,hltj,by go_num,Lib.hid (by rw [← HD2.out,HST2.out];simp),Lib.hid HB3.out.drew,Lib.hid SN.out.drew.drop⟩) | (case measure=>simp [intOf] <;> omega)
       )
    ·have HE:=Lib.hid (show groupC r c=true by rw [← HD2.out];exact all_done (by omega))
     go_wp2
     go_roundw
     case rel=>exact ⟨k + 1,hlt,by go_num,Lib.hid (by rw [← HD.out,HST.out,HE.out];simp),HB1,SN⟩
     case measure=>simp [intOf] <;> omega
  ·have HE:=Lib.hid (show x.cartons.all (groupC r)=true by rw [← HD.out];exact all_done (by omega))
   go_wp2
   go_ret
   exact ⟨by rw [HE.out];rfl,SN.out.low⟩
end Go.Proofs.YtioijfplbgpjpaaGreat
namespace Go.Proofs.YtioijfplbgpjpaaGreat
set_option linter.unusedVariables false
set_option linter.unusedSimpArgs false
set_option maxRecDepth 100000
open Go.RowKit Go.WideShapes Go.ChangeShapes Go.ChangeAt Go.Deep
set_option maxRecDepth 100000 in
set_option maxHeartbeats 2000000 in
theorem l15Inside_any (v vx:Value) (r:Request) (x:Plan) (w:World) (h:RReq 16777216 w w.heap.size v r) (hx:RPlan 16777216 w w.heap.size vx x) (hl:x.spots.length=x.cartons.length):Calls Tryz.prog 198 #[v,vx] w fun e w'=>e=.returned (.bool ((List.range x.cartons.length).all (insideI r x)))∧Below w.heap.size w w':=by
 have HR:=Lib.hid h
 have HL:=Lib.hid hl
 obtain ⟨A1,c1,A2,c2,A3,c3,rfl,_⟩:=h.opn
 obtain ⟨PA,ca,PB,cb,rfl,HPA,HPB,hla,hlb⟩:=hx.opn
 have hS:=((Sit.here w).alloc (cR r A1 c1 A2 c2 A3 c3) 41).alloc #[.slice PA x.cartons.length ca,.slice PB x.spots.length cb] 46
 simp only [World.size_alloc] at hS
 have SN:=Lib.hid hS
 clear h hx hS hl
 go_enter Tryz.func198,Tryz.ntmps198
 go_wp2
 go_loopw [5] (fun i wr=>∃ (k:Nat),k≤x.cartons.length∧i=.int .i64 k∧Hid (((List.range x.cartons.length).drop k).all (insideI r x)=(List.range x.cartons.length).all (insideI r x))∧Hid (Sit w wr [fBox (w.heap.size + 1) #[.slice PA x.cartons.length ca,.slice PB x.spots.length cb] 46,fBox w.heap.size (cR r A1 c1 A2 c2 A3 c3) 41])) (fun i _=>x.cartons.length - (intOf i).toNat)
 case atStart=>exact ⟨0,Nat.zero_le _,rfl,Lib.hid rfl,SN⟩
 case round =>
  clear SN
  obtain ⟨k,hk,rfl,HD,SN⟩:=hrel
  have k1:=SN.out.box (.head _)
  have l1:=SN.out.boxlt (.head _)
  by_cases hlt:k < x.cartons.length
  ·have hlt2:k < x.spots.length:=by rw [HL.out];exact hlt
   obtain ⟨b,off,c,U,cu,rfl,hb,hx,HU,HC⟩:=HPA.out.one k hlt
   obtain ⟨b2,off2,s,rfl,hb2,hy,HC2⟩:=HPB.out.one k hlt2
   obtain ⟨bx,hbx⟩:∃ bx,boxR r c=bx:=⟨_,rfl⟩
   have HBX:=Lib.hid hbx
   obtain ⟨ff,hff⟩:∃ ff,withinB r.pallet bx s=ff:=⟨_,rfl⟩
   have HF:=Lib.hid hff
   have HST:=Lib.hid (rall_step (p:=insideI r x) hlt (show insideI r x k=ff by unfold insideI;rw [cartAt_at hx,spotAt_at hy,hbx,hff]))
   have HCC:=Lib.hid (show ∀ X:World,Below wr.heap.size wr X→(cS10 (X) (w.heap.size) (r) (.slice A1 r.pairs.length c1) (.slice A2 r.types.length c2) (.slice A3 r.items.length c3))∧X.cell? ⟨w.heap.size + 1,0,none⟩=some (.slice (some ⟨b,off,none⟩) x.cartons.length ca)∧X.cell? ⟨w.heap.size + 1,1,none⟩=some (.slice (some ⟨b2,off2,none⟩) x.spots.length cb)∧(cC3 (X) (b) (off) (k) (c) (.slice U c.units.length cu))∧cS4 (X) (b2) (off2) (k) (s) from fun X hX=>by
    have hX:=SN.out.next hX
    have c0:=hX.box (.tail _ (.head _))
    exact ⟨⟨c0 0,c0 1,c0 2,c0 3,c0 4,c0 5,c0 6,c0 7,c0 8,c0 9⟩,hX.box (.head _) 0,hX.box (.head _) 1,HC.out X hX.low,HC2.out X hX.low⟩)
   clear hx hy hbx hff
   go_wp2
   cases ff
   all_goals (
    refine regu (S:=(fun W'=>((cS10 (W') (w.heap.size) (r) (.slice A1 r.pairs.length c1) (.slice A2 r.types.length c2) (.slice A3 r.items.length c3)))∧W'.cell? ⟨w.heap.size + 1,0,none⟩=some (.slice (some ⟨b,off,none⟩) x.cartons.length ca)∧W'.cell? ⟨w.heap.size + 1,1,none⟩=some (.slice (some ⟨b2,off2,none⟩) x.spots.length cb)∧(cC3 (W') (b) (off) (k) (c) (.slice U c.units.length cu))∧cS4 (W') (b2) (off2) (k) (s))) (by kernel_rfl) (fun _ _ _ _ _=>id) ?_ fun hHeld=>?_
    ·(first | (refine HCC.out _ ?_;(repeat' with_reducible first | assumption | exact bR | apply bD | apply bA | apply bC | apply bW | omega | simp <;> omega);done) | go_keep)
    refine tku (b:=?_) [0,1,2,3,4,5,6,7,9,10,11,12,13] (by kernel_rfl) hHeld ?_ ?_
    rotate_left
    ·repeat first
     |exact .nil
     |refine .yes (v:=?_) rfl (by rfl) ?_ ?_
      rotate_left
      ·intro w9 hSw;(try dsimp only at hSw);go_simp;(try with_reducible rfl)
      (try simp only [aP,aZ,aS,aG,aH,aI])
    refine onu 8 rfl (by kernel_rfl) fun K hK=>?_
    go_simp
    ((go_at_call 91;refine (sBoxOf_any _ _ r c _ (HR.out.next (SN.out.next (by (repeat' with_reducible first | assumption | exact bR | apply bD | apply bA | apply bC | apply bW | omega | simp <;> omega))).low) (HU.out.next (flat_mono _) (SN.out.next (by (repeat' with_reducible first | assumption | exact bR | apply bD | apply bA | apply bC | apply bW | omega | simp <;> omega))).low)).mono ?_;rintro e w3 ⟨rfl,hb3⟩;rw [HBX.out];have hn3:=bstep (a:=wr) (by (repeat' with_reducible first | assumption | exact bR | apply bD | apply bA | apply bC | apply bW | omega | simp <;> omega)) hb3))
    refine hK.out _ _ ?_ (fun hHeld=>?_)
    ·(first | (refine HCC.out _ ?_;(repeat' with_reducible first | assumption | exact bR | apply bD | apply bA | apply bC | apply bW | omega | simp <;> omega);done) | go_keep)
    clear hK K
    (try simp only [aP,aZ,aS,aG,aH,aI])
    refine onu 14 rfl (by kernel_rfl) fun K hK=>?_
    go_simp
    ((go_at_call 257;refine (sWithin_any r.pallet bx s _).mono ?_;rintro e w4 ⟨rfl,hb4⟩;rw [HF.out];have hn4:=bstep (a:=wr) (by (repeat' with_reducible first | assumption | exact bR | apply bD | apply bA | apply bC | apply bW | omega | simp <;> omega)) hb4))
    refine hK.out _ _ ?_ (fun hHeld=>?_)
    ·(first | (refine HCC.out _ ?_;(repeat' with_reducible first | assumption | exact bR | apply bD | apply bA | apply bC | apply bW | omega | simp <;> omega);done) | go_keep)
    clear hK K
    (try simp only [aP,aZ,aS,aG,aH,aI])
    refine lsu 15 rfl (by kernel_rfl) fun K hK=>?_
    go_simp
    refine hK.out _ _ ?_
    clear hK K
    (try simp only [aP,aZ,aS,aG,aH,aI])
    go_wp2_with fail
    first | (go_ret;exact ⟨by rw [← HD.out,HST.out];rfl,(SN.out.next (by (repeat' with_reducible first | assumption | exact bR | apply bD | apply bA | apply bC | apply bW | omega | simp <;> omega))).low⟩) | go_roundw
    all_goals first | (case rel=>exact ⟨k + 1,hlt,by go_num,Lib.hid (by rw [← HD.out,HST.out];simp),Lib.hid (SN.out.next (by (repeat' with_reducible first | assumption | exact bR | apply bD | apply bA | apply bC | apply bW | omega | simp <;> omega)))⟩) | (case measure=>simp [intOf] <;> omega)
    )
  ·have HE:=Lib.hid (show (List.range x.cartons.length).all (insideI r x)=true by rw [← HD.out];exact all_done (by simp;omega))
   go_wp2
   go_ret
   exact ⟨by rw [HE.out];rfl,SN.out.low⟩
set_option maxRecDepth 100000 in
set_option maxHeartbeats 4000000 in
theorem l15Apart_any (v vx:Value) (r:Request) (x:Plan) (w:World) (h:RReq 16777216 w w.heap.size v r) (hx:RPlan 16777216 w w.heap.size vx x) (hl:x.spots.length=x.cartons.length):Calls Tryz.prog 199 #[v,vx] w fun e w'=>e=.returned (.bool ((List.range x.cartons.length).all (apartI r x)))∧Below w.heap.size w w':=by
 have HR:=Lib.hid h
 have HL:=Lib.hid hl
 obtain ⟨A1,c1,A2,c2,A3,c3,rfl,_⟩:=h.opn
 obtain ⟨PA,ca,PB,cb,rfl,HPA,HPB,hla,hlb⟩:=hx.opn
 have hS:=((Sit.here w).alloc (cR r A1 c1 A2 c2 A3 c3) 41).alloc #[.slice PA x.cartons.length ca,.slice PB x.spots.length cb] 46
 simp only [World.size_alloc] at hS
 have SN:=Lib.hid hS
 clear h hx hS hl
 go_enter Tryz.func199,Tryz.ntmps199
 go_wp2
 go_loopw [5] (fun i wr=>∃ (k:Nat),k≤x.cartons.length∧i=.int .i64 k∧Hid (((List.range x.cartons.length).drop k).all (apartI r x)=(List.range x.cartons.length).all (apartI r x))∧Hid (Sit w wr [fBox (w.heap.size + 1) #[.slice PA x.cartons.length ca,.slice PB x.spots.length cb] 46,fBox w.heap.size (cR r A1 c1 A2 c2 A3 c3) 41])) (fun i _=>x.cartons.length - (intOf i).toNat)
 case atStart=>exact ⟨0,Nat.zero_le _,rfl,Lib.hid rfl,SN⟩
 case round =>
  clear SN
  obtain ⟨k,hk,rfl,HD,SN⟩:=hrel
  have k1:=SN.out.box (.head _)
  have l1:=SN.out.boxlt (.head _)
  by_cases hlt:k < x.cartons.length
  ·have hlt2:k < x.spots.length:=by rw [HL.out];exact hlt
   obtain ⟨b,off,c,U,cu,rfl,hb,hx,HU,HC⟩:=HPA.out.one k hlt
   obtain ⟨b2,off2,s,rfl,hb2,hy,HC2⟩:=HPB.out.one k hlt2
   have HST:=Lib.hid (rall_step (p:=apartI r x) hlt rfl)
   have HX:=Lib.hid hx
   have HY:=Lib.hid hy
   clear hx hy
   go_wp2
   go_loopw [6] (fun i wr=>∃ (j:Nat),j≤k∧i=.int .i64 j∧Hid (((List.range k).drop j).all (fun j=>!overIJ r x k j)=apartI r x k)∧Hid (Sit w wr [fBox (w.heap.size + 1) #[.slice (some ⟨b,off,none⟩) x.cartons.length ca,.slice (some ⟨b2,off2,none⟩) x.spots.length cb] 46,fBox w.heap.size (cR r A1 c1 A2 c2 A3 c3) 41])) (fun i _=>k - (intOf i).toNat)
   case atStart=>exact ⟨0,Nat.zero_le _,rfl,Lib.hid rfl,SN⟩
   case round =>
    clear SN k1 l1
    obtain ⟨j,hj,rfl,HD2,SN⟩:=hrel
    obtain ⟨wr2,rfl⟩:∃ y,y=wr:=⟨_,rfl⟩
    by_cases hltj:j < k
    ·have hj1:j < x.cartons.length:=by omega
     have hj2:j < x.spots.length:=by omega
     obtain ⟨b',off',c',U',cu',hA',hb',hx',HU',HC'⟩:=HPA.out.one j hj1
     obtain ⟨b2',off2',s',hB',hb2',hy',HC2'⟩:=HPB.out.one j hj2
     cases hA'
     cases hB'
     obtain ⟨bx,hbx⟩:∃ bx,boxR r c=bx:=⟨_,rfl⟩
     have HBX:=Lib.hid hbx
     obtain ⟨bx',hbx'⟩:∃ bx,boxR r c'=bx:=⟨_,rfl⟩
     have HBX':=Lib.hid hbx'
     obtain ⟨ff,hff⟩:∃ ff,overB bx s bx' s'=ff:=⟨_,rfl⟩
     have HF:=Lib.hid hff
     have HST2:=Lib.hid (rall_step (p:=fun j=>!overIJ r x k j) hltj (show (!overIJ r x k j) = !ff by unfold overIJ;rw [cartAt_at HX.out,spotAt_at HY.out,cartAt_at hx',spotAt_at hy',hbx,hbx',hff]))
     have HCC:=Lib.hid (show ∀ X:World,Below wr2.heap.size wr2 X→(cS10 (X) (w.heap.size) (r) (.slice A1 r.pairs.length c1) (.slice A2 r.types.length c2) (.slice A3 r.items.length c3))∧X.cell? ⟨w.heap.size + 1,0,none⟩=some (.slice (some ⟨b,off,none⟩) x.cartons.length ca)∧X.cell? ⟨w.heap.size + 1,1,none⟩=some (.slice (some ⟨b2,off2,none⟩) x.spots.length cb)∧(cC3 (X) (b) (off) (k) (c) (.slice U c.units.length cu))∧(cS4 (X) (b2) (off2) (k) (s))∧(cC3 (X) (b) (off) (j) (c') (.slice U' c'.units.length cu'))∧cS4 (X) (b2) (off2) (j) (s') from fun X hX=>by
      have hX:=SN.out.next hX
      have c0:=hX.box (.tail _ (.head _))
      exact ⟨⟨c0 0,c0 1,c0 2,c0 3,c0 4,c0 5,c0 6,c0 7,c0 8,c0 9⟩,hX.box (.head _) 0,hX.box (.head _) 1,HC.out X hX.low,HC2.out X hX.low,HC'.out X hX.low,HC2'.out X hX.low⟩)
     clear hx' hy' hbx hbx' hff
     go_wp2
     cases ff
     all_goals (
      refine regu (S:=(fun W'=>((cS10 (W') (w.heap.size) (r) (.slice A1 r.pairs.length c1) (.slice A2 r.types.length c2) (.slice A3 r.items.length c3)))∧W'.cell? ⟨w.heap.size + 1,0,none⟩=some (.slice (some ⟨b,off,none⟩) x.cartons.length ca)∧W'.cell? ⟨w.heap.size + 1,1,none⟩=some (.slice (some ⟨b2,off2,none⟩) x.spots.length cb)∧(cC3 (W') (b) (off) (k) (c) (.slice U c.units.length cu))∧(cS4 (W') (b2) (off2) (k) (s))∧(cC3 (W') (b) (off) (j) (c') (.slice U' c'.units.length cu'))∧cS4 (W') (b2) (off2) (j) (s'))) (by kernel_rfl) (fun _ _ _ _ _=>id) ?_ fun hHeld=>?_
      ·(first | (refine HCC.out _ ?_;(repeat' with_reducible first | assumption | exact bR | apply bD | apply bA | apply bC | apply bW | omega | simp <;> omega);done) | go_keep)
      refine tku (b:=?_) [0,1,2,3,4,5,7,8,9,10,11,12,13,14,15,16,17,19,20,21,22,23] (by kernel_rfl) hHeld ?_ ?_
      rotate_left
      ·repeat first
       |exact .nil
       |refine .yes (v:=?_) rfl (by rfl) ?_ ?_
        rotate_left
        ·intro w9 hSw;(try dsimp only at hSw);go_simp;(try with_reducible rfl)
        (try simp only [aP,aZ,aS,aG,aH,aI])
      refine onu 6 rfl (by kernel_rfl) fun K hK=>?_
      go_simp
      ((go_at_call 91;refine (sBoxOf_any _ _ r c _ (HR.out.next (SN.out.next (by (repeat' with_reducible first | assumption | exact bR | apply bD | apply bA | apply bC | apply bW | omega | simp <;> omega))).low) (HU.out.next (flat_mono _) (SN.out.next (by (repeat' with_reducible first | assumption | exact bR | apply bD | apply bA | apply bC | apply bW | omega | simp <;> omega))).low)).mono ?_;rintro e w3 ⟨rfl,hb3⟩;rw [HBX.out];have hn3:=bstep (a:=wr2) (by (repeat' with_reducible first | assumption | exact bR | apply bD | apply bA | apply bC | apply bW | omega | simp <;> omega)) hb3))
      refine hK.out _ _ ?_ (fun hHeld=>?_)
      ·(first | (refine HCC.out _ ?_;(repeat' with_reducible first | assumption | exact bR | apply bD | apply bA | apply bC | apply bW | omega | simp <;> omega);done) | go_keep)
      clear hK K
      (try simp only [aP,aZ,aS,aG,aH,aI])
      refine onu 18 rfl (by kernel_rfl) fun K hK=>?_
      go_simp
      ((go_at_call 91;refine (sBoxOf_any _ _ r c' _ (HR.out.next (SN.out.next (by (repeat' with_reducible first | assumption | exact bR | apply bD | apply bA | apply bC | apply bW | omega | simp <;> omega))).low) (HU'.out.next (flat_mono _) (SN.out.next (by (repeat' with_reducible first | assumption | exact bR | apply bD | apply bA | apply bC | apply bW | omega | simp <;> omega))).low)).mono ?_;rintro e w4 ⟨rfl,hb4⟩;rw [HBX'.out];have hn4:=bstep (a:=wr2) (by (repeat' with_reducible first | assumption | exact bR | apply bD | apply bA | apply bC | apply bW | omega | simp <;> omega)) hb4))
      refine hK.out _ _ ?_ (fun hHeld=>?_)
      ·(first | (refine HCC.out _ ?_;(repeat' with_reducible first | assumption | exact bR | apply bD | apply bA | apply bC | apply bW | omega | simp <;> omega);done) | go_keep)
      clear hK K
      (try simp only [aP,aZ,aS,aG,aH,aI])
      refine lsu 24 rfl (by kernel_rfl) fun K hK=>?_
      go_simp
      ((go_at_call 113;refine (sOverlap_any bx s bx' s' _).mono ?_;rintro e w5 ⟨rfl,hb5⟩;rw [HF.out];have hn5:=bstep (a:=wr2) (by (repeat' with_reducible first | assumption | exact bR | apply bD | apply bA | apply bC | apply bW | omega | simp <;> omega)) hb5))
      refine hK.out _ _ ?_
      clear hK K
      (try simp only [aP,aZ,aS,aG,aH,aI])
      go_wp2_with fail
      first | (go_ret;exact ⟨by rw [← HD.out,HST.out,← HD2.out,HST2.out];rfl,(SN.out.next (by (repeat' with_reducible first | assumption | exact bR | apply bD | apply bA | apply bC | apply bW | omega | simp <;> omega))).low⟩) | go_roundw
      all_goals first | (case rel=>exact ⟨j + 1,hltj,by go_num,Lib.hid (by rw [← HD2.out,HST2.out];simp),Lib.hid (SN.out.next (by (repeat' with_reducible first | assumption | exact bR | apply bD | apply bA | apply bC | apply bW | omega | simp <;> omega)))⟩) | (case measure=>simp [intOf] <;> omega)
      )
    ·have HE:=Lib.hid (show apartI r x k=true by rw [← HD2.out];exact all_done (by simp;omega))
     go_wp2
     go_roundw
     case rel=>exact ⟨k + 1,hlt,by go_num,Lib.hid (by rw [← HD.out,HST.out,HE.out];simp),SN⟩
     case measure=>simp [intOf] <;> omega
  ·have HE:=Lib.hid (show (List.range x.cartons.length).all (apartI r x)=true by rw [← HD.out];exact all_done (by simp;omega))
   go_wp2
   go_ret
   exact ⟨by rw [HE.out];rfl,SN.out.low⟩
end Go.Proofs.YtioijfplbgpjpaaGreat
namespace Go.Proofs.YtioijfplbgpjpaaGreat
set_option linter.unusedVariables false
set_option linter.unusedSimpArgs false
set_option maxRecDepth 100000
open Go.RowKit Go.WideShapes Go.ChangeShapes Go.ChangeAt Go.Deep
theorem palStep_ge (n:Int) (s:Spot):n≤palStep n s:=by unfold palStep;split <;> omega
theorem palFold_ge:∀ (xs:List Spot) (n:Int),n≤xs.foldl palStep n
 |[],n=>Int.le_refl _
 |s::xs,n=>Int.le_trans (palStep_ge n s) (palFold_ge xs _)
theorem palFold_le:∀ (xs:List Spot) (n:Int),n≤1000000→xs.foldl palStep n≤1000000
 |[],n,h=>h
 |s::xs,n,h=>palFold_le xs _ (by
  unfold palStep
  split
  ·rename_i hq
   simp only [inB,Bool.and_eq_true,decide_eq_true_eq] at hq
   unfold wrap64
   omega
  ·exact h)
theorem pallets_in (xs:List Spot):0≤palletsR xs∧palletsR xs≤1000000:=⟨palFold_ge xs 0,palFold_le xs 0 (by omega)⟩
theorem sameG_drop {x:Plan} {l:List Int} (h:0 < l.length):(l.drop 1).all (fun i=>(cartAt x i).group == (cartAt x (l.getD 0 0)).group)=sameG x l:=by
 cases l with
 |nil=>simp at h
 |cons a l=>unfold sameG;simp
set_option maxRecDepth 100000 in
set_option maxHeartbeats 4000000 in
theorem l15Pallets_any (v vx:Value) (r:Request) (x:Plan) (w:World) (h:RReq 16777216 w w.heap.size v r) (hx:RPlan 16777216 w w.heap.size vx x):Calls Tryz.prog 200 #[v,vx] w fun e w'=>e=.returned (.bool ((List.range (palletsR x.spots).toNat).all (palletK r x)))∧Below w.heap.size w w':=by
 have HR:=Lib.hid h
 have HX:=Lib.hid hx
 obtain ⟨A1,c1,A2,c2,A3,c3,rfl,_⟩:=h.opn
 obtain ⟨PA,ca,PB,cb,rfl,HPA,HPB,hla,hlb⟩:=hx.opn
 have hS:=((Sit.here w).alloc (cR r A1 c1 A2 c2 A3 c3) 41).alloc #[.slice PA x.cartons.length ca,.slice PB x.spots.length cb] 46
 simp only [World.size_alloc] at hS
 have SN:=Lib.hid hS
 obtain ⟨n,hn⟩:∃ n:Nat,palletsR x.spots=n:=⟨(palletsR x.spots).toNat,by have:=(pallets_in x.spots).1;omega⟩
 have HN:=Lib.hid hn
 have hnl:n≤1000000:=by have:=(pallets_in x.spots).2;omega
 have HT:=Lib.hid (show (palletsR x.spots).toNat=n by rw [hn,Int.toNat_natCast])
 clear h hx hS hn
 go_enter Tryz.func200,Tryz.ntmps200
 have k1:=SN.out.box (.head _)
 have l1:=SN.out.boxlt (.head _)
 go_wp2_with (go_at_call 116;refine (sPallets_any _ x.spots _ (HPB.out.next (flat_mono _) SN.out.low)).mono ?_;rintro e w' ⟨rfl,rfl⟩;rw [HN.out])
 clear k1 l1
 go_loopw [6] (fun i wr=>∃ (k:Nat),k≤n∧i=.int .i64 k∧Hid (((List.range n).drop k).all (palletK r x)=(List.range n).all (palletK r x))∧Hid (Sit w wr [fBox (w.heap.size + 1) #[.slice PA x.cartons.length ca,.slice PB x.spots.length cb] 46,fBox w.heap.size (cR r A1 c1 A2 c2 A3 c3) 41])) (fun i _=>n - (intOf i).toNat)
 case atStart=>exact ⟨0,Nat.zero_le _,rfl,Lib.hid rfl,SN⟩
 case round =>
  clear SN
  obtain ⟨k,hk,rfl,HD,SN⟩:=hrel
  have k1:=SN.out.box (.head _)
  have l1:=SN.out.boxlt (.head _)
  by_cases hlt:k < n
  ·have HST:=Lib.hid (rall_step (p:=palletK r x) hlt rfl)
   obtain ⟨L,hL⟩:∃ L,onPal x (k:Int)=L:=⟨_,rfl⟩
   have hol:=onPal_le x (k:Int)
   rw [hL] at hol
   obtain ⟨g,hg⟩:∃ g,palGram r x (k:Int)=g:=⟨_,rfl⟩
   have HG:=Lib.hid hg
   have HPK:=Lib.hid (show palletK r x k=((decide (0 < L.length) && decide (g≤r.pallet.gram)) && sameG x L) by unfold palletK;rw [hL,hg])
   have HIN:=Lib.hid (show ∀ (j:Nat) (i:Int),L[j]? = some i→∃ m:Nat,i=m∧m < x.cartons.length∧m < x.spots.length from fun j i hi=>onPal_in (hL ▸ hi))
   have HLL:=Lib.hid hL
   clear hL hg
   go_wp2_with fail
   refine (sOnPallet_any _ x k _ (HX.out.next SN.out.low)).mono ?_
   intro e1 w1 hm
   rw [HLL.out] at hm
   obtain ⟨v1,fk,rfl,hS⟩:=SN.out.gotInts hm
   obtain ⟨D,d,rfl,_⟩:=(hS.list (.head _)).form
   have SN:=Lib.hid hS
   clear k1 l1 hS hm
   have HCC:=Lib.hid (show ∀ X:World,Below w1.heap.size w1 X→(cS10 (X) (w.heap.size) (r) (.slice A1 r.pairs.length c1) (.slice A2 r.types.length c2) (.slice A3 r.items.length c3))∧X.cell? ⟨w.heap.size + 1,0,none⟩=some (.slice PA x.cartons.length ca)∧X.cell? ⟨w.heap.size + 1,1,none⟩=some (.slice PB x.spots.length cb) from fun X hX=>by
    have hX:=SN.out.next hX
    have c0:=hX.box (.tail _ (.tail _ (.head _)))
    exact ⟨⟨c0 0,c0 1,c0 2,c0 3,c0 4,c0 5,c0 6,c0 7,c0 8,c0 9⟩,hX.box (.tail _ (.head _)) 0,hX.box (.tail _ (.head _)) 1⟩)
   by_cases h0:L.length=0
   ·have hq:((L.length:Int) == 0)=true:=by rw [h0];rfl
    have HF:=Lib.hid (show palletK r x k=false by rw [HPK.out,h0];rfl)
    clear h0
    go_wp2
    refine regu (S:=(fun W'=>((cS10 (W') (w.heap.size) (r) (.slice A1 r.pairs.length c1) (.slice A2 r.types.length c2) (.slice A3 r.items.length c3)))∧W'.cell? ⟨w.heap.size + 1,0,none⟩=some (.slice PA x.cartons.length ca)∧W'.cell? ⟨w.heap.size + 1,1,none⟩=some (.slice PB x.spots.length cb))) (by kernel_rfl) (fun _ _ _ _ _=>id) ?_ fun hHeld=>?_
    ·(first | (refine HCC.out _ ?_;(repeat' with_reducible first | assumption | exact bR | apply bD | apply bA | apply bC | apply bW | omega | simp <;> omega);done) | go_keep)
    refine tku (b:=?_) [0,1,2,3] (by kernel_rfl) hHeld ?_ ?_
    rotate_left
    ·repeat first
     |exact .nil
     |refine .yes (v:=?_) rfl (by rfl) ?_ ?_
      rotate_left
      ·intro w9 hSw;(try dsimp only at hSw);go_simp;(try with_reducible rfl)
      (try simp only [aP,aZ,aS,aG,aH,aI])
    refine tku (b:=?_) [4,5,6,8,9,10] (by kernel_rfl) hHeld ?_ ?_
    rotate_left
    ·repeat first
     |exact .nil
     |refine .no rfl (by rfl) ?_
      (try simp only [aP,aZ,aS,aG,aH,aI])
    refine onu 7 rfl (by kernel_rfl) fun K hK=>?_
    go_simp
    (skip)
    refine hK.out _ _ ?_ (fun hHeld=>?_)
    ·(first | (refine HCC.out _ ?_;(repeat' with_reducible first | assumption | exact bR | apply bD | apply bA | apply bC | apply bW | omega | simp <;> omega);done) | go_keep)
    clear hK K
    (try simp only [aP,aZ,aS,aG,aH,aI])
    refine tku (b:=?_) [11] (by kernel_rfl) hHeld ?_ ?_
    rotate_left
    ·repeat first
     |exact .nil
     |refine .no rfl (by rfl) ?_
      (try simp only [aP,aZ,aS,aG,aH,aI])
    refine lsu 12 rfl (by kernel_rfl) fun K hK=>?_
    go_simp
    refine hK.out _ _ ?_
    clear hK K
    (try simp only [aP,aZ,aS,aG,aH,aI])
    go_wp2_with fail
    go_ret
    exact ⟨by rw [HT.out,← HD.out,HST.out,HF.out];rfl,(SN.out.next (by (repeat' with_reducible first | assumption | exact bR | apply bD | apply bA | apply bC | apply bW | omega | simp <;> omega))).low⟩
   have hq:((L.length:Int) == 0)=false:=by rw [beq_eq_false_iff_ne];omega
   obtain ⟨gb,hgb⟩:∃ gb,decide (r.pallet.gram < g)=gb:=⟨_,rfl⟩
   have HPK2:=Lib.hid (show palletK r x k=(!gb && sameG x L) by
    rw [HPK.out,decide_eq_true (show 0 < L.length by omega),Bool.true_and]
    congr 1
    rw [← hgb,Bool.eq_iff_iff]
    simp)
   go_wp2
   cases gb
   ·skip
    refine regu (S:=(fun W'=>((cS10 (W') (w.heap.size) (r) (.slice A1 r.pairs.length c1) (.slice A2 r.types.length c2) (.slice A3 r.items.length c3)))∧W'.cell? ⟨w.heap.size + 1,0,none⟩=some (.slice PA x.cartons.length ca)∧W'.cell? ⟨w.heap.size + 1,1,none⟩=some (.slice PB x.spots.length cb))) (by kernel_rfl) (fun _ _ _ _ _=>id) ?_ fun hHeld=>?_
    ·(first | (refine HCC.out _ ?_;(repeat' with_reducible first | assumption | exact bR | apply bD | apply bA | apply bC | apply bW | omega | simp <;> omega);done) | go_keep)
    refine tku (b:=?_) [0,1,2,3,4,5,6,8,9,10] (by kernel_rfl) hHeld ?_ ?_
    rotate_left
    ·repeat first
     |exact .nil
     |refine .yes (v:=?_) rfl (by rfl) ?_ ?_
      rotate_left
      ·intro w9 hSw;(try dsimp only at hSw);go_simp;(try with_reducible rfl)
      (try simp only [aP,aZ,aS,aG,aH,aI])
    refine onu 7 rfl (by kernel_rfl) fun K hK=>?_
    go_simp
    ((go_at_call 258;refine (sPalletGram_any _ _ r x k _ (HR.out.next (SN.out.next (by (repeat' with_reducible first | assumption | exact bR | apply bD | apply bA | apply bC | apply bW | omega | simp <;> omega))).low) (HX.out.next (SN.out.next (by (repeat' with_reducible first | assumption | exact bR | apply bD | apply bA | apply bC | apply bW | omega | simp <;> omega))).low)).mono ?_;rintro e w3 ⟨rfl,hb3⟩;rw [HG.out];have hn3:=bstep (a:=w1) (by (repeat' with_reducible first | assumption | exact bR | apply bD | apply bA | apply bC | apply bW | omega | simp <;> omega)) hb3))
    refine hK.out _ _ ?_ (fun hHeld=>?_)
    ·(first | (refine HCC.out _ ?_;(repeat' with_reducible first | assumption | exact bR | apply bD | apply bA | apply bC | apply bW | omega | simp <;> omega);done) | go_keep)
    clear hK K
    (try simp only [aP,aZ,aS,aG,aH,aI])
    refine tku (b:=?_) [11] (by kernel_rfl) hHeld ?_ ?_
    rotate_left
    ·repeat first
     |exact .nil
     |refine .yes (v:=?_) rfl (by rfl) ?_ ?_
      rotate_left
      ·intro w9 hSw;(try dsimp only at hSw);go_simp;(try with_reducible rfl)
      (try simp only [aP,aZ,aS,aG,aH,aI])
    refine lsu 12 rfl (by kernel_rfl) fun K hK=>?_
    go_simp
    refine hK.out _ _ ?_
    clear hK K
    (try simp only [aP,aZ,aS,aG,aH,aI])
    go_wp2_with fail
    have SN:=Lib.hid (SN.out.next hn3)
    have HSG:=Lib.hid (sameG_drop (x:=x) (l:=L) (by omega))
    have HPK3:=Lib.hid (show palletK r x k=sameG x L by rw [HPK2.out];rfl)
    clear hn3 hb3 hgb
    go_loopw [8] (fun i wr=>∃ (j:Nat),1≤j∧j≤L.length∧i=.int .i64 j∧Hid ((L.drop j).all (fun i=>(cartAt x i).group == (cartAt x (L.getD 0 0)).group)=sameG x L)∧Hid (Sit w wr [fOF cI 3 1 w.heap.size (.slice D L.length d) (L) fk,fBox (w.heap.size + 1) #[.slice PA x.cartons.length ca,.slice PB x.spots.length cb] 46,fBox w.heap.size (cR r A1 c1 A2 c2 A3 c3) 41])) (fun i _=>L.length - (intOf i).toNat)
    case atStart=>exact ⟨1,Nat.le_refl _,by omega,rfl,HSG,SN⟩
    case round =>
     clear SN
     obtain ⟨j,hj1,hj,rfl,HD2,SN⟩:=hrel
     obtain ⟨wr2,rfl⟩:∃ y,y=wr:=⟨_,rfl⟩
     by_cases hltj:j < L.length
     ·obtain ⟨i,hi⟩:∃ i,L[j]? = some i:=⟨_,List.getElem?_eq_getElem hltj⟩
      obtain ⟨i0,hi0⟩:∃ i,L[0]? = some i:=⟨_,List.getElem?_eq_getElem (by omega)⟩
      obtain ⟨m,rfl,hm1,_⟩:=HIN.out j i hi
      obtain ⟨m0,rfl,hm01,_⟩:=HIN.out 0 i0 hi0
      obtain ⟨gd,rfl⟩:=head_ptr (SN.out.list (.head _)) hi
      have hcu:=(SN.out.list (.head _)).cells (fun z=>rfl) hi 0 (.int .i64 (m:Int)) rfl
      have hcu0:=(SN.out.list (.head _)).cells (fun z=>rfl) hi0 0 (.int .i64 (m0:Int)) rfl
      rw [Nat.mul_one,Nat.add_zero] at hcu hcu0
      obtain ⟨b,off,c,U,cu,rfl,hb,hx,HU,HC⟩:=HPA.out.one m hm1
      obtain ⟨b',off',c',U',cu',hA',hb',hx',HU',HC'⟩:=HPA.out.one m0 hm01
      cases hA'
      have hcs:=HC.out wr2 SN.out.low
      have hcs':=HC'.out wr2 SN.out.low
      have k10:wr2.cell? ⟨w.heap.size + 1,0,none⟩=some (.slice (some ⟨b,off,none⟩) x.cartons.length ca):=SN.out.box (.tail _ (.head _)) 0
      obtain ⟨ff,hff⟩:∃ ff,(c.group == c'.group)=ff:=⟨_,rfl⟩
      have HST2:=Lib.hid (all_step (p:=fun i=>(cartAt x i).group == (cartAt x (L.getD 0 0)).group) hi (show ((cartAt x (m:Int)).group == (cartAt x (L.getD 0 0)).group)=ff by rw [List.getD_eq_getElem?_getD,hi0];show ((cartAt x (m:Int)).group == (cartAt x (m0:Int)).group)=ff;rw [cartAt_at hx,cartAt_at hx',hff]))
      have hf2:(c.group != c'.group) = !ff:=by rw [← hff];rfl
      have h0L:0 < L.length:=by omega
      clear hi hi0 hx hx' hff
      go_wp2
      cases ff
      all_goals (
       refine regu (S:=(fun W'=>W'.cell? ⟨w.heap.size + 1,0,none⟩=some (.slice (some ⟨b,off,none⟩) x.cartons.length ca)∧W'.cell? ⟨gd,j,none⟩=some (.int .i64 (m:Int))∧W'.cell? ⟨gd,0,none⟩=some (.int .i64 (m0:Int))∧(cC3 (W') (b) (off) (m) (c) (.slice U c.units.length cu))∧(cC3 (W') (b) (off) (m0) (c') (.slice U' c'.units.length cu')))) (by kernel_rfl) (fun _ _ _ _ _=>id) ?_ fun hHeld=>?_
       ·(first | exact ⟨k10,hcu,hcu0,hcs,hcs'⟩ | go_keep)
       refine tku (b:=?_) [0,1,2,3,4,5,6,7,8,9,10,11,12,13,14,15,16] (by kernel_rfl) hHeld ?_ ?_
       rotate_left
       ·repeat first
        |exact .nil
        |refine .yes (v:=?_) rfl (by rfl) ?_ ?_
         rotate_left
         ·intro w9 hSw;(try dsimp only at hSw);go_simp;(try with_reducible rfl)
         (try simp only [aP,aZ,aS,aG,aH,aI])
       refine lsu 17 rfl (by kernel_rfl) fun K hK=>?_
       go_simp
       refine hK.out _ _ ?_
       clear hK K
       (try simp only [aP,aZ,aS,aG,aH,aI])
       go_wp2_with fail
       first | (go_ret;exact ⟨by rw [HT.out,← HD.out,HST.out,HPK3.out,← HD2.out,HST2.out];rfl,(SN.out.next (by (repeat' with_reducible first | assumption | exact bR | apply bD | apply bA | apply bC | apply bW | omega | simp <;> omega))).low⟩) | go_roundw
       all_goals first | (case rel=>exact ⟨j + 1,by omega,hltj,by go_num,Lib.hid (by rw [← HD2.out,HST2.out];simp),Lib.hid (SN.out.next (by (repeat' with_reducible first | assumption | exact bR | apply bD | apply bA | apply bC | apply bW | omega | simp <;> omega)))⟩) | (case measure=>simp [intOf] <;> omega)
       )
     ·have HE:=Lib.hid (show palletK r x k=true by rw [HPK3.out,← HD2.out];exact all_done (by omega))
      go_wp2
      go_roundw
      case rel=>exact ⟨k + 1,hlt,by go_num,Lib.hid (by rw [← HD.out,HST.out,HE.out];simp),Lib.hid SN.out.drop⟩
      case measure=>simp [intOf] <;> omega
   ·have HF:=Lib.hid (show palletK r x k=false by rw [HPK2.out];rfl)
    refine regu (S:=(fun W'=>((cS10 (W') (w.heap.size) (r) (.slice A1 r.pairs.length c1) (.slice A2 r.types.length c2) (.slice A3 r.items.length c3)))∧W'.cell? ⟨w.heap.size + 1,0,none⟩=some (.slice PA x.cartons.length ca)∧W'.cell? ⟨w.heap.size + 1,1,none⟩=some (.slice PB x.spots.length cb))) (by kernel_rfl) (fun _ _ _ _ _=>id) ?_ fun hHeld=>?_
    ·(first | (refine HCC.out _ ?_;(repeat' with_reducible first | assumption | exact bR | apply bD | apply bA | apply bC | apply bW | omega | simp <;> omega);done) | go_keep)
    refine tku (b:=?_) [0,1,2,3,4,5,6,8,9,10] (by kernel_rfl) hHeld ?_ ?_
    rotate_left
    ·repeat first
     |exact .nil
     |refine .yes (v:=?_) rfl (by rfl) ?_ ?_
      rotate_left
      ·intro w9 hSw;(try dsimp only at hSw);go_simp;(try with_reducible rfl)
      (try simp only [aP,aZ,aS,aG,aH,aI])
    refine onu 7 rfl (by kernel_rfl) fun K hK=>?_
    go_simp
    ((go_at_call 258;refine (sPalletGram_any _ _ r x k _ (HR.out.next (SN.out.next (by (repeat' with_reducible first | assumption | exact bR | apply bD | apply bA | apply bC | apply bW | omega | simp <;> omega))).low) (HX.out.next (SN.out.next (by (repeat' with_reducible first | assumption | exact bR | apply bD | apply bA | apply bC | apply bW | omega | simp <;> omega))).low)).mono ?_;rintro e w3 ⟨rfl,hb3⟩;rw [HG.out];have hn3:=bstep (a:=w1) (by (repeat' with_reducible first | assumption | exact bR | apply bD | apply bA | apply bC | apply bW | omega | simp <;> omega)) hb3))
    refine hK.out _ _ ?_ (fun hHeld=>?_)
    ·(first | (refine HCC.out _ ?_;(repeat' with_reducible first | assumption | exact bR | apply bD | apply bA | apply bC | apply bW | omega | simp <;> omega);done) | go_keep)
    clear hK K
    (try simp only [aP,aZ,aS,aG,aH,aI])
    refine tku (b:=?_) [11] (by kernel_rfl) hHeld ?_ ?_
    rotate_left
    ·repeat first
     |exact .nil
     |refine .yes (v:=?_) rfl (by rfl) ?_ ?_
      rotate_left
      ·intro w9 hSw;(try dsimp only at hSw);go_simp;(try with_reducible rfl)
      (try simp only [aP,aZ,aS,aG,aH,aI])
    refine lsu 12 rfl (by kernel_rfl) fun K hK=>?_
    go_simp
    refine hK.out _ _ ?_
    clear hK K
    (try simp only [aP,aZ,aS,aG,aH,aI])
    go_wp2_with fail
    go_ret
    exact ⟨by rw [HT.out,← HD.out,HST.out,HF.out];rfl,(SN.out.next (by (repeat' with_reducible first | assumption | exact bR | apply bD | apply bA | apply bC | apply bW | omega | simp <;> omega))).low⟩
  ·have HE:=Lib.hid (show (List.range n).all (palletK r x)=true by rw [← HD.out];exact all_done (by simp;omega))
   go_wp2
   go_ret
   exact ⟨by rw [HT.out,HE.out];rfl,SN.out.low⟩
set_option maxRecDepth 100000 in
set_option maxHeartbeats 4000000 in
theorem sCheck_any (v vx:Value) (r:Request) (x:Plan) (w:World) (h:RReq 16777216 w w.heap.size v r) (hx:RPlan 16777216 w w.heap.size vx x) (hL:x.bulk≤16777216):Calls Tryz.prog 135 #[v,vx] w fun e w'=>e=.returned (.int .i64 (checkR r x))∧Below w.heap.size w w':=by
 have HR:=Lib.hid h
 have HX:=Lib.hid hx
 obtain ⟨A1,c1,A2,c2,A3,c3,rfl,_⟩:=h.opn
 obtain ⟨PA,ca,PB,cb,rfl,HPA,HPB,hla,hlb⟩:=hx.opn
 have hS:=((Sit.here w).alloc (cR r A1 c1 A2 c2 A3 c3) 41).alloc #[.slice PA x.cartons.length ca,.slice PB x.spots.length cb] 46
 simp only [World.size_alloc] at hS
 have SN:=Lib.hid hS
 obtain ⟨c,hc⟩:∃ c,classOf r=c:=⟨_,rfl⟩
 have HC:=Lib.hid hc
 obtain ⟨b1,h1⟩:∃ b,planOk x=b:=⟨_,rfl⟩
 have H1:=Lib.hid h1
 obtain ⟨b2,h2⟩:∃ b,emptyC x=b:=⟨_,rfl⟩
 have H2:=Lib.hid h2
 obtain ⟨b3,h3⟩:∃ b,unitsFit (unitsR r).length (allU x.cartons)=b:=⟨_,rfl⟩
 have H3:=Lib.hid h3
 obtain ⟨b4,h4⟩:∃ b,x.cartons.all (holdsC r)=b:=⟨_,rfl⟩
 have H4:=Lib.hid h4
 obtain ⟨b5,h5⟩:∃ b,x.cartons.all (groupC r)=b:=⟨_,rfl⟩
 have H5:=Lib.hid h5
 obtain ⟨b6,h6⟩:∃ b,x.cartons.all (cheapC r)=b:=⟨_,rfl⟩
 have H6:=Lib.hid h6
 obtain ⟨b7,h7⟩:∃ b,(List.range x.cartons.length).all (insideI r x)=b:=⟨_,rfl⟩
 have H7:=Lib.hid h7
 obtain ⟨b8,h8⟩:∃ b,(List.range x.cartons.length).all (apartI r x)=b:=⟨_,rfl⟩
 have H8:=Lib.hid h8
 obtain ⟨b9,h9⟩:∃ b,(List.range (palletsR x.spots).toNat).all (palletK r x)=b:=⟨_,rfl⟩
 have H9:=Lib.hid h9
 have HM:=Lib.hid (show checkR r x=if c=0 then (if (b1 && !b2)=true then (if b3=true then (if (if b4=true then (if b5=true then (if b6=true then (0:Int) else 6) else 5) else 4)=0 then (if b7=true then (if b8=true then (if b9=true then 0 else 9) else 8) else 7) else (if b4=true then (if b5=true then (if b6=true then (0:Int) else 6) else 5) else 4)) else 3) else 2) else 1 by
  unfold checkR cartonsFault spotsFault
  rw [show soundR r=decide (c=0) by rw [sound_dec,hc],h1,h2,h4,h5,h6,h7,h8,h9,show x.cartons.flatMap (·.units)=allU x.cartons from rfl,h3]
  simp only [decide_eq_true_eq])
 clear h hx hS hc h1 h2 h3 h4 h5 h6 h7 h8 h9
 go_enter Tryz.func135,Tryz.ntmps135
 have k0:=SN.out.box (.tail _ (.head _))
 have l0:=SN.out.boxlt (.tail _ (.head _))
 have k1:=SN.out.box (.head _)
 have l1:=SN.out.boxlt (.head _)
 go_wp2_with fail
 refine (sClass_any _ r _ (HR.out.next SN.out.low)).mono ?_
 rintro e1 w1 ⟨rfl,hb1⟩
 rw [HC.out]
 have SN:=Lib.hid (SN.out.next hb1)
 clear k0 l0 k1 l1 hb1
 have k0:=SN.out.box (.tail _ (.head _));have l0:=SN.out.boxlt (.tail _ (.head _));have k1:=SN.out.box (.head _);have l1:=SN.out.boxlt (.head _)
 by_cases hz:c=0
 case neg =>
  have hz':(c != 0)=true:=by simpa using hz
  have HM2:=Lib.hid (show checkR r x=1 by rw [HM.out,if_neg hz])
  clear hz
  go_wp2
  go_ret
  exact ⟨by rw [HM2.out];rfl,SN.out.low⟩
 subst hz
 have HSS:=Lib.hid (show soundR r=true by rw [sound_dec,HC.out];rfl)
 have hun:(unitsR r).length≤12:=(right_of HSS.out).nunits
 go_wp2_with fail
 refine (sPlanOk_any _ x _ (HX.out.next SN.out.low)).mono ?_
 rintro e2 w2 ⟨rfl,hb2⟩
 rw [H1.out]
 have SN:=Lib.hid (SN.out.next hb2)
 clear k0 l0 k1 l1 hb2
 have k0:=SN.out.box (.tail _ (.head _));have l0:=SN.out.boxlt (.tail _ (.head _));have k1:=SN.out.box (.head _);have l1:=SN.out.boxlt (.head _)
 cases b1
 ·go_wp2
  go_ret
  exact ⟨by rw [HM.out];rfl,SN.out.low⟩
 have hl:x.spots.length=x.cartons.length:=by
  have h1:=H1.out
  unfold planOk at h1
  simp only [Bool.and_eq_true,decide_eq_true_eq] at h1
  exact h1.1.1
 have HL:=Lib.hid hl
 clear hl
 go_wp2_with fail
 refine (l15Empty_any _ x _ (HX.out.next SN.out.low)).mono ?_
 rintro e3 w3 ⟨rfl,hb3⟩
 rw [H2.out]
 have SN:=Lib.hid (SN.out.next hb3)
 clear k0 l0 k1 l1 hb3
 have k0:=SN.out.box (.tail _ (.head _));have l0:=SN.out.boxlt (.tail _ (.head _));have k1:=SN.out.box (.head _);have l1:=SN.out.boxlt (.head _)
 cases b2
 case true =>
  go_wp2
  go_ret
  exact ⟨by rw [HM.out];rfl,SN.out.low⟩
 go_wp2_with fail
 refine (l6Units_any _ r _ (HR.out.next SN.out.low) (by omega)).mono ?_
 intro e4 w4 hm
 obtain ⟨v4,f4,rfl,hS⟩:=SN.out.gotInts hm
 have HAL:=Lib.hid (OInts.read (hS.list (.head _)) (by omega))
 have SN:=Lib.hid hS.drop
 have hw4:=hm.choose_spec.choose_spec.2.2
 have HW4:=Lib.hid (Below.refl w4.heap.size w4)
 clear k0 l0 k1 l1 hS hm hw4
 have k0:=SN.out.box (.tail _ (.head _));have l0:=SN.out.boxlt (.tail _ (.head _));have k1:=SN.out.box (.head _);have l1:=SN.out.boxlt (.head _)
 go_wp2_with fail
 refine (l15Units_any _ _ (unitsR r) x _ HAL.out (HX.out.next SN.out.low) hL).mono ?_
 rintro e5 w5 ⟨rfl,hb5⟩
 rw [H3.out]
 have SN:=Lib.hid (SN.out.next hb5)
 have HAL:=Lib.hid (HAL.out.next (flat_mono _) hb5)
 clear k0 l0 k1 l1 hb5 HW4
 have k0:=SN.out.box (.tail _ (.head _));have l0:=SN.out.boxlt (.tail _ (.head _));have k1:=SN.out.box (.head _);have l1:=SN.out.boxlt (.head _)
 cases b3
 ·go_wp2
  go_ret
  exact ⟨by rw [HM.out];rfl,SN.out.low⟩
 go_wp2_with fail
 refine (l15Holds_any _ _ r x _ (HR.out.next SN.out.low) (HX.out.next SN.out.low) HSS.out).mono ?_
 rintro e6 w6 ⟨rfl,hb6⟩
 rw [H4.out]
 have SN:=Lib.hid (SN.out.next hb6)
 have HAL:=Lib.hid (HAL.out.next (flat_mono _) hb6)
 clear k0 l0 k1 l1 hb6
 have k0:=SN.out.box (.tail _ (.head _));have l0:=SN.out.boxlt (.tail _ (.head _));have k1:=SN.out.box (.head _);have l1:=SN.out.boxlt (.head _)
 cases b4
 ·go_wp2
  go_ret
  exact ⟨by rw [HM.out];rfl,SN.out.low⟩
 go_wp2_with fail
 refine (l15Group_any _ _ _ r x _ (HR.out.next SN.out.low) HAL.out (HX.out.next SN.out.low) HSS.out).mono ?_
 rintro e7 w7 ⟨rfl,hb7⟩
 rw [H5.out]
 have SN:=Lib.hid (SN.out.next hb7)
 clear k0 l0 k1 l1 hb7
 have k0:=SN.out.box (.tail _ (.head _));have l0:=SN.out.boxlt (.tail _ (.head _));have k1:=SN.out.box (.head _);have l1:=SN.out.boxlt (.head _)
 cases b5
 ·go_wp2
  go_ret
  exact ⟨by rw [HM.out];rfl,SN.out.low⟩
 go_wp2_with fail
 refine (l15Cheap_any _ _ r x _ (HR.out.next SN.out.low) (HX.out.next SN.out.low) HSS.out).mono ?_
 rintro e8 w8 ⟨rfl,hb8⟩
 rw [H6.out]
 have SN:=Lib.hid (SN.out.next hb8)
 clear k0 l0 k1 l1 hb8
 have k0:=SN.out.box (.tail _ (.head _));have l0:=SN.out.boxlt (.tail _ (.head _));have k1:=SN.out.box (.head _);have l1:=SN.out.boxlt (.head _)
 cases b6
 ·go_wp2
  go_ret
  exact ⟨by rw [HM.out];rfl,SN.out.low⟩
 go_wp2_with fail
 refine (l15Inside_any _ _ r x _ (HR.out.next SN.out.low) (HX.out.next SN.out.low) HL.out).mono ?_
 rintro e9 w9 ⟨rfl,hb9⟩
 rw [H7.out]
 have SN:=Lib.hid (SN.out.next hb9)
 clear k0 l0 k1 l1 hb9
 have k0:=SN.out.box (.tail _ (.head _));have l0:=SN.out.boxlt (.tail _ (.head _));have k1:=SN.out.box (.head _);have l1:=SN.out.boxlt (.head _)
 cases b7
 ·go_wp2
  go_ret
  exact ⟨by rw [HM.out];rfl,SN.out.low⟩
 go_wp2_with fail
 refine (l15Apart_any _ _ r x _ (HR.out.next SN.out.low) (HX.out.next SN.out.low) HL.out).mono ?_
 rintro e10 w10 ⟨rfl,hb10⟩
 rw [H8.out]
 have SN:=Lib.hid (SN.out.next hb10)
 clear k0 l0 k1 l1 hb10
 have k0:=SN.out.box (.tail _ (.head _));have l0:=SN.out.boxlt (.tail _ (.head _));have k1:=SN.out.box (.head _);have l1:=SN.out.boxlt (.head _)
 cases b8
 ·go_wp2
  go_ret
  exact ⟨by rw [HM.out];rfl,SN.out.low⟩
 go_wp2_with fail
 refine (l15Pallets_any _ _ r x _ (HR.out.next SN.out.low) (HX.out.next SN.out.low)).mono ?_
 rintro e11 w11 ⟨rfl,hb11⟩
 rw [H9.out]
 have SN:=Lib.hid (SN.out.next hb11)
 clear k0 l0 k1 l1 hb11
 cases b9
 ·go_wp2
  go_ret
  exact ⟨by rw [HM.out];rfl,SN.out.low⟩
 ·go_wp2
  go_ret
  exact ⟨by rw [HM.out];rfl,SN.out.low⟩
set_option maxRecDepth 100000 in
set_option maxHeartbeats 1000000 in
theorem sFeasible_any (v vx:Value) (r:Request) (x:Plan) (w:World) (h:RReq 16777216 w w.heap.size v r) (hx:RPlan 16777216 w w.heap.size vx x) (hL:x.bulk≤16777216):Calls Tryz.prog 51 #[v,vx] w fun e w'=>e=.returned (.bool (feasible r x))∧Below w.heap.size w w':=by
 have HR:=Lib.hid h
 have HX:=Lib.hid hx
 obtain ⟨A1,c1,A2,c2,A3,c3,rfl,_⟩:=h.opn
 obtain ⟨PA,ca,PB,cb,rfl,HPA,HPB,hla,hlb⟩:=hx.opn
 have hS:=((Sit.here w).alloc (cR r A1 c1 A2 c2 A3 c3) 41).alloc #[.slice PA x.cartons.length ca,.slice PB x.spots.length cb] 46
 simp only [World.size_alloc] at hS
 have SN:=Lib.hid hS
 obtain ⟨q,hq⟩:∃ q,checkR r x=q:=⟨_,rfl⟩
 have HQ:=Lib.hid hq
 have HM:=Lib.hid (show feasible r x=(q == 0) by unfold feasible;rw [hq])
 clear h hx hS hq
 go_enter Tryz.func51,Tryz.ntmps51
 have k0:=SN.out.box (.tail _ (.head _));have l0:=SN.out.boxlt (.tail _ (.head _));have k1:=SN.out.box (.head _);have l1:=SN.out.boxlt (.head _)
 go_wp2_with fail
 refine (sCheck_any _ _ r x _ (HR.out.next SN.out.low) (HX.out.next SN.out.low) hL).mono ?_
 rintro e1 w1 ⟨rfl,hb1⟩
 rw [HQ.out]
 have SN:=Lib.hid (SN.out.next hb1)
 clear k0 l0 k1 l1 hb1
 go_wp2
 go_ret
 exact ⟨by rw [HM.out];rfl,SN.out.low⟩
end Go.Proofs.YtioijfplbgpjpaaGreat
