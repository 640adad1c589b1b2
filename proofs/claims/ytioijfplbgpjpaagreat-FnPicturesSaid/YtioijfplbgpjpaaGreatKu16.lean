/-
  The spots of boxes: the reference's walk (under way).
-/
import Derived.Test.YtioijfplbgpjpaaGreatKu02
import Derived.Test.YtioijfplbgpjpaaGreatKu14
import Derived.Test.YtioijfplbgpjpaaGreatKu15
import Derived.Deep.RegionHeld3
import Derived.Deep.DeepCutAuto
import Derived.Deep.RegionLaw
import Derived.Deep.RegionWith
import Derived.StillTailTactics
import Derived.Test.YtioijfplbgpjpaaGreatKu13
import Derived.Test.YtioijfplbgpjpaaGreatKu09
import Derived.Test.YtioijfplbgpjpaaGreatKu06
import Derived.Deep.QuietTactic
import Derived.BigQuiet
import Derived.Test.YtioijfplbgpjpaaGreatKu01
namespace Go.Proofs.YtioijfplbgpjpaaGreat
set_option linter.unusedVariables false
set_option linter.unusedSimpArgs false
set_option maxRecDepth 100000
open Go.RowKit Go.WideShapes Go.ChangeShapes Go.ChangeAt Go.Deep
theorem Sit.front7 {w W:World} {q1 q2 q3 q4 q5 q6 q:Fact} {l:List Fact} (h:Sit w W (q1::q2::q3::q4::q5::q6::q::l)):Sit w W (q::q1::q2::q3::q4::q5::q6::l):=h.perm (List.perm_middle (l₁:=[q1,q2,q3,q4,q5,q6]))
set_option maxRecDepth 100000 in
set_option maxHeartbeats 4000000 in
theorem sSpotsOf_any (p:Pallet) (v:Value) (bs:List Box) (w:World) (h:RL 16777216 4 (flat Box.cells) w w.heap.size v bs) (hsl:bs.length≤1048576):Calls Tryz.prog 165 #[p.val,v] w fun e w'=>∃ v' fp,e=.returned v'∧OF Spot.cells 72 4 w' w.heap.size v' (spotsR p bs) fp∧Below w.heap.size w w':=by
 have HS:=Lib.hid h
 obtain ⟨E,e,rfl,hbd,_⟩:=h
 have SN:=Lib.hid ((Sit.here w).alloc #[.int .i64 p.w,.int .i64 p.d,.int .i64 p.h,.int .i64 p.gram] 36)
 obtain ⟨bp,hbp⟩:∃ b,boxesOk p bs=b:=⟨_,rfl⟩
 have HBP:=Lib.hid hbp
 clear hbp
 go_enter Tryz.func165,Tryz.ntmps165
 have k0:=SN.out.box (.head _)
 have l0:=SN.out.boxlt (.head _)
 go_wp2_with (refine mk_Spot (.tmp 19) (.tmp 19) rfl rfl bs.length rfl rfl hsl (base:=w.heap.size) (by simp) ?_;intro v7 w7 ha;obtain ⟨f7,S7⟩:=(SN.out.addNil (f:=Spot.cells) (e:=72) (K:=4) w.heap.size).app ha;have SN:=Lib.hid S7;have k7:=S7.box (.tail _ (.head _));have l7:=S7.boxlt (.tail _ (.head _));clear S7 ha k0 l0)
 refine (sBoxesOk_any p _ bs _ (HS.out.next (flat_mono _) SN.out.low)).mono ?_
 rintro e1 w1 ⟨rfl,hb1⟩
 rw [HBP.out]
 have SN:=Lib.hid (SN.out.next hb1)
 clear k7 l7 hb1
 have k7:=SN.out.box (.tail _ (.head _))
 have l7:=SN.out.boxlt (.tail _ (.head _))
 cases bp
 ·have SA:=Lib.hid ((SN.out.alloc #[] 72).boxNil Spot.cells 4)
  have HM:=Lib.hid (show spotsR p bs=[] by unfold spotsR;rw [HBP.out];rfl)
  go_wp2
  go_ret
  rw [HM.out]
  exact ⟨_,_,rfl,SA.out.list (.head _),SA.out.low⟩
 ·go_wp2_with fail
  refine (sShelves_any p _ bs _ (HS.out.next (flat_mono _) SN.out.low) hsl).mono ?_
  intro e2 w2 hm
  obtain ⟨v2,zs,f1,f2,rfl,hz,hS⟩:=SN.out.gotNest hm
  have HZ:=Lib.hid hz
  have SN:=Lib.hid hS
  have hzl:zs.length≤1048576:=by have:=map_fst_len hz;have:=shelves_len p bs;omega
  have hrd:=Lib.hid (nest_read (SN.out.list (.head _)) (SN.out.inns (.tail _ (.head _))) (fun _ _=>rfl) (by omega) (fun z hz2=>by
   have:=shelves_inner p bs z.1 (by rw [← HZ.out];exact List.mem_map_of_mem hz2)
   omega))
  clear hS hm hz k7 l7
  have k7:=SN.out.box (.tail _ (.tail _ (.tail _ (.head _))))
  have l7:=SN.out.boxlt (.tail _ (.tail _ (.tail _ (.head _))))
  go_wp2_with fail
  refine (sLayersOf_any p _ _ _ hrd.out (by simpa using hzl)).mono ?_
  intro e3 w3 hm
  obtain ⟨v3,ys,f3,f4,rfl,hy,hS⟩:=SN.out.gotNest hm
  rw [HZ.out] at hy
  have HY:=Lib.hid hy
  have SN:=Lib.hid hS
  have hyl:ys.length≤1048576:=by have:=map_fst_len hy;have h1:=layers_len p (shelvesR p bs);have h2:=shelves_len p bs;omega
  have hrd:=Lib.hid (nest_read (SN.out.list (.head _)) (SN.out.inns (.tail _ (.head _))) (fun _ _=>rfl) (by omega) (fun z hz2=>by
   have:=layers_inner p (shelvesR p bs) z.1 (by rw [← HY.out];exact List.mem_map_of_mem hz2)
   have h2:=shelves_len p bs
   omega))
  clear hS hm hy k7 l7
  have k7:=SN.out.box (.tail _ (.tail _ (.tail _ (.tail _ (.tail _ (.head _))))))
  have l7:=SN.out.boxlt (.tail _ (.tail _ (.tail _ (.tail _ (.tail _ (.head _))))))
  go_wp2_with fail
  refine (sLoadsOf_any p _ _ _ hrd.out (by simpa using hyl)).mono ?_
  intro e4 w4 hm
  obtain ⟨v4,xs,f5,f6,rfl,hx,hS⟩:=SN.out.gotNest hm
  rw [HY.out] at hx
  have HX:=Lib.hid hx
  have SN:=Lib.hid hS
  clear hS hm hx k7 l7
  obtain ⟨F4,c4,rfl,_⟩:=(SN.out.list (.head _)).form
  obtain ⟨F3,c3,rfl,_⟩:=(SN.out.list (.tail _ (.tail _ (.head _)))).form
  obtain ⟨F2,c2,rfl,_⟩:=(SN.out.list (.tail _ (.tail _ (.tail _ (.tail _ (.head _)))))).form
  obtain ⟨F7,c7,rfl,_⟩:=(SN.out.list (.tail _ (.tail _ (.tail _ (.tail _ (.tail _ (.tail _ (.head _)))))))).form
  have hx1:(loadsR p (layersR p (shelvesR p bs))).length=xs.length:=by rw [← HX.out,List.length_map]
  have hxl:xs.length≤1048576:=by have h1:=loads_len p (layersR p (shelvesR p bs));have h2:=layers_len p (shelvesR p bs);have h3:=shelves_len p bs;omega
  have HX1:=Lib.hid hx1
  clear hx1
  rw [List.length_replicate] at SN
  have HM:=Lib.hid (show spotsR p bs=(loadsR p (layersR p (shelvesR p bs))).zipIdx.foldl (loPut bs (shelvesR p bs) (layersR p (shelvesR p bs))) (List.replicate bs.length spot0) by unfold spotsR;rw [HBP.out];rfl)
  have NX:=Lib.hid (show ∀ z∈xs,Named ys.length z.1.layers∧z.1.layers.length≤1048576 from fun z hz=>by
   have hm:z.1∈loadsR p (layersR p (shelvesR p bs)):=by rw [← HX.out];exact List.mem_map_of_mem hz
   have h1:=loads_named p _ _ hm
   have h2:=loads_inner p _ _ hm
   have h3:=layers_len p (shelvesR p bs);have h4:=shelves_len p bs
   rw [← HY.out,List.length_map] at h1
   exact ⟨h1,by omega⟩)
  have NY:=Lib.hid (show ∀ z∈ys,Named zs.length z.1.shelves∧z.1.shelves.length≤1048576 from fun z hz=>by
   have hm:z.1∈layersR p (shelvesR p bs):=by rw [← HY.out];exact List.mem_map_of_mem hz
   have h1:=layers_named p _ _ hm
   have h2:=layers_inner p _ _ hm
   have h4:=shelves_len p bs
   rw [← HZ.out,List.length_map] at h1
   exact ⟨h1,by omega⟩)
  have NZ:=Lib.hid (show ∀ z∈zs,Named bs.length z.1.list∧z.1.list.length≤1048576 from fun z hz=>by
   have hm:z.1∈shelvesR p bs:=by rw [← HZ.out];exact List.mem_map_of_mem hz
   have h1:=shelves_named p _ _ hm
   have h2:=shelves_inner p _ _ hm
   exact ⟨h1,by omega⟩)
  obtain ⟨so,hso⟩:∃ s,spotsR p bs=s:=⟨_,rfl⟩
  rw [hso] at HM
  have HSO:=Lib.hid hso
  obtain ⟨ss,hss⟩:∃ s,shelvesR p bs=s:=⟨_,rfl⟩
  rw [hss] at HX1 HX HY HZ HM
  obtain ⟨ls,hls⟩:∃ s,layersR p ss=s:=⟨_,rfl⟩
  rw [hls] at HX1 HX HY HM
  obtain ⟨lo,hlo⟩:∃ s,loadsR p ls=s:=⟨_,rfl⟩
  rw [hlo] at HX1 HX HM
  clear hss hls hlo hso hrd
  have SN:=Lib.hid SN.out.front7
  go_wp2
  go_loopw [9] (fun i wr=>∃ (k:Nat) (SP:List Spot),k≤xs.length∧i=.int .i64 k∧(lo.zipIdx.take k).foldl (loPut bs ss ls) (List.replicate bs.length spot0)=SP∧SP.length=bs.length∧Hid (Sit w wr [fOF Spot.cells 72 4 w.heap.size (.slice F7 bs.length c7) SP f7,fOF (fz hdLoad) 214 3 w.heap.size (.slice F4 xs.length c4) xs f5,fInn GLoad.layers w.heap.size xs f6,fOF (fz hdLayer) 216 4 w.heap.size (.slice F3 ys.length c3) ys f3,fInn Layer.shelves w.heap.size ys f4,fOF (fz hdShelf) 218 5 w.heap.size (.slice F2 zs.length c2) zs f1,fInn Shelf.list w.heap.size zs f2])) (fun i _=>xs.length - (intOf i).toNat)
  case atStart=>exact ⟨0,List.replicate bs.length spot0,Nat.zero_le _,rfl,rfl,List.length_replicate ..,Lib.hid (Sit.take (l1:=[_,_,_,_,_,_,_]) SN.out)⟩
  case round =>
   clear SN
   obtain ⟨k,SP,hk,rfl,hsp,hspl,SN⟩:=hrel
   have HSP:=Lib.hid hsp
   have HSPL:=Lib.hid hspl
   clear hsp hspl
   by_cases hlt:k < xs.length
   ·obtain ⟨⟨x,ux⟩,hxk⟩:∃ z,xs[k]? = some z:=⟨_,List.getElem?_eq_getElem hlt⟩
    have HXK:=Lib.hid hxk
    obtain ⟨gx,rfl⟩:=head_ptr (SN.out.list (.tail _ (.head _))) hxk
    obtain ⟨UX,cux,rfl⟩:=inn_form (SN.out.inns (.tail _ (.tail _ (.head _)))) hxk
    have hNX:=NX.out _ (List.mem_of_getElem? hxk)
    have HNX:=Lib.hid hNX.1
    have hxll:x.layers.length≤1048576:=hNX.2
    have HST:=Lib.hid (show (lo.zipIdx.take (k + 1)).foldl (loPut bs ss ls) (List.replicate bs.length spot0)=(x.layers.foldl (loStep bs ss ls (k:Int)) (SP,0)).1 by rw [foldl_take_step (x:=(x,k)) (by rw [List.getElem?_zipIdx,← HX.out,List.getElem?_map,hxk];simp),HSP.out];rfl)
    clear hxk hNX
    go_wp2
    go_loopw [10,11] (fun zv i wr1=>∃ (j:Nat) (SP1:List Spot) (zz:Int),j≤x.layers.length∧i=.int .i64 j∧zv=.int .i64 zz∧(x.layers.take j).foldl (loStep bs ss ls (k:Int)) (SP,0)=(SP1,zz)∧SP1.length=bs.length∧Hid (Sit w wr1 [fOF Spot.cells 72 4 w.heap.size (.slice F7 bs.length c7) SP1 f7,fOF (fz hdLoad) 214 3 w.heap.size (.slice (some ⟨gx,0,none⟩) xs.length c4) xs f5,fInn GLoad.layers w.heap.size xs f6,fOF (fz hdLayer) 216 4 w.heap.size (.slice F3 ys.length c3) ys f3,fInn Layer.shelves w.heap.size ys f4,fOF (fz hdShelf) 218 5 w.heap.size (.slice F2 zs.length c2) zs f1,fInn Shelf.list w.heap.size zs f2])) (fun _ i _=>x.layers.length - (intOf i).toNat)
    case atStart=>exact ⟨0,SP,0,Nat.zero_le _,rfl,rfl,rfl,HSPL.out,SN⟩
    case round =>
     clear SN
     obtain ⟨j,SP1,zz,hj,rfl,rfl,hs1,hl1,SN⟩:=hrel
     obtain ⟨wr1,rfl⟩:∃ x,x=wr:=⟨_,rfl⟩
     have HS1:=Lib.hid hs1
     have HL1:=Lib.hid hl1
     clear hs1 hl1
     have hcx:=(SN.out.list (.tail _ (.head _))).cells (fun _=>rfl) HXK.out 0 (.slice UX x.layers.length cux) rfl
     simp only [Nat.add_zero] at hcx
     by_cases hlt1:j < x.layers.length
     ·obtain ⟨m,hm,hmy⟩:=named_at HNX.out hlt1
      obtain ⟨gu,rfl⟩:=inn_ptr (SN.out.inns (.tail _ (.tail _ (.head _)))) HXK.out hlt1
      obtain ⟨⟨y,uy⟩,hym⟩:∃ z,ys[m]? = some z:=⟨_,List.getElem?_eq_getElem hmy⟩
      obtain ⟨gy,rfl⟩:=head_ptr (SN.out.list (.tail _ (.tail _ (.tail _ (.head _))))) hym
      obtain ⟨UY,cuy,rfl⟩:=inn_form (SN.out.inns (.tail _ (.tail _ (.tail _ (.tail _ (.head _)))))) hym
      have HYM:=Lib.hid hym
      have hNY:=NY.out _ (List.mem_of_getElem? hym)
      have HNY:=Lib.hid hNY.1
      have hyll:y.shelves.length≤1048576:=hNY.2
      have hci:=inn_cell (SN.out.inns (.tail _ (.tail _ (.head _)))) HXK.out hm
      have hcy:=(SN.out.list (.tail _ (.tail _ (.tail _ (.head _))))).cells (fun _=>rfl) hym
      have hcy0:=hcy 0 (.slice UY y.shelves.length cuy) rfl
      have hcy1:=hcy 1 (.int .i64 y.d) rfl
      have hcy2:=hcy 2 (.int .i64 y.h) rfl
      have hcy3:=hcy 3 (.int .i64 y.gram) rfl
      simp only [Nat.add_zero] at hcy0
      have HST1:=Lib.hid (show (x.layers.take (j + 1)).foldl (loStep bs ss ls (k:Int)) (SP,0)=((y.shelves.foldl (layStep bs ss (k:Int) zz) (SP1,0)).1,wrap64 (zz + y.h)) by rw [foldl_take_step hm,HS1.out];unfold loStep layPut;rw [Int.toNat_natCast,getD_fst HY.out hym])
      have SN:=Lib.hid (SN.out.alloc #[.slice UY y.shelves.length cuy,.int .i64 y.d,.int .i64 y.h,.int .i64 y.gram] 216)
      clear hym hNY hm hcy
      go_wp2
      go_loopw [13,14] (fun yv i wr2=>∃ (j2:Nat) (SP2:List Spot) (yy:Int),j2≤y.shelves.length∧i=.int .i64 j2∧yv=.int .i64 yy∧(y.shelves.take j2).foldl (layStep bs ss (k:Int) zz) (SP1,0)=(SP2,yy)∧SP2.length=bs.length∧Hid (Sit w wr2 [fBox wr1.heap.size #[.slice UY y.shelves.length cuy,.int .i64 y.d,.int .i64 y.h,.int .i64 y.gram] 216,fOF Spot.cells 72 4 w.heap.size (.slice F7 bs.length c7) SP2 f7,fOF (fz hdLoad) 214 3 w.heap.size (.slice (some ⟨gx,0,none⟩) xs.length c4) xs f5,fInn GLoad.layers w.heap.size xs f6,fOF (fz hdLayer) 216 4 w.heap.size (.slice (some ⟨gy,0,none⟩) ys.length c3) ys f3,fInn Layer.shelves w.heap.size ys f4,fOF (fz hdShelf) 218 5 w.heap.size (.slice F2 zs.length c2) zs f1,fInn Shelf.list w.heap.size zs f2])) (fun _ i _=>y.shelves.length - (intOf i).toNat)
      case atStart=>exact ⟨0,SP1,0,Nat.zero_le _,rfl,rfl,rfl,HL1.out,SN⟩
      case round =>
       clear SN hcx hci hcy0 hcy1 hcy2 hcy3
       obtain ⟨j2,SP2,yy,hj2,rfl,rfl,hs2,hl2,SN⟩:=hrel
       obtain ⟨wr2,rfl⟩:∃ x,x=wr:=⟨_,rfl⟩
       have HS2:=Lib.hid hs2
       have HL2:=Lib.hid hl2
       clear hs2 hl2
       have k12:=SN.out.box (.head _)
       have l12:=SN.out.boxlt (.head _)
       by_cases hlt2:j2 < y.shelves.length
       ·obtain ⟨m2,hm2,hmz⟩:=named_at HNY.out hlt2
        obtain ⟨gv,rfl⟩:=inn_ptr (SN.out.inns (.tail _ (.tail _ (.tail _ (.tail _ (.tail _ (.head _))))))) HYM.out hlt2
        obtain ⟨⟨s,us⟩,hzm⟩:∃ z,zs[m2]? = some z:=⟨_,List.getElem?_eq_getElem hmz⟩
        obtain ⟨gz,rfl⟩:=head_ptr (SN.out.list (.tail _ (.tail _ (.tail _ (.tail _ (.tail _ (.tail _ (.head _)))))))) hzm
        obtain ⟨US,cus,rfl⟩:=inn_form (SN.out.inns (.tail _ (.tail _ (.tail _ (.tail _ (.tail _ (.tail _ (.tail _ (.head _))))))))) hzm
        have HZM:=Lib.hid hzm
        have hNZ:=NZ.out _ (List.mem_of_getElem? hzm)
        have HNZ:=Lib.hid hNZ.1
        have hsll:s.list.length≤1048576:=hNZ.2
        have hcv:=inn_cell (SN.out.inns (.tail _ (.tail _ (.tail _ (.tail _ (.tail _ (.head _))))))) HYM.out hm2
        have hcz:=(SN.out.list (.tail _ (.tail _ (.tail _ (.tail _ (.tail _ (.tail _ (.head _)))))))).cells (fun _=>rfl) hzm
        have hcz0:=hcz 0 (.slice US s.list.length cus) rfl
        have hcz1:=hcz 1 (.int .i64 s.w) rfl
        have hcz2:=hcz 2 (.int .i64 s.d) rfl
        have hcz3:=hcz 3 (.int .i64 s.h) rfl
        have hcz4:=hcz 4 (.int .i64 s.gram) rfl
        simp only [Nat.add_zero] at hcz0
        have HST2:=Lib.hid (show (y.shelves.take (j2 + 1)).foldl (layStep bs ss (k:Int) zz) (SP1,0)=((s.list.foldl (rowStep bs (k:Int) yy zz) (SP2,0)).1,wrap64 (yy + s.d)) by rw [foldl_take_step hm2,HS2.out];unfold layStep rowPut;rw [Int.toNat_natCast,getD_fst HZ.out hzm])
        have SN:=Lib.hid (SN.out.alloc #[.slice US s.list.length cus,.int .i64 s.w,.int .i64 s.d,.int .i64 s.h,.int .i64 s.gram] 218)
        clear hzm hNZ hm2 hcz
        go_wp2
        go_loopw [16,17] (fun xv i wr3=>∃ (j3:Nat) (SP3:List Spot) (xx:Int),j3≤s.list.length∧i=.int .i64 j3∧xv=.int .i64 xx∧(s.list.take j3).foldl (rowStep bs (k:Int) yy zz) (SP2,0)=(SP3,xx)∧SP3.length=bs.length∧Hid (Sit w wr3 [fBox wr2.heap.size #[.slice US s.list.length cus,.int .i64 s.w,.int .i64 s.d,.int .i64 s.h,.int .i64 s.gram] 218,fBox wr1.heap.size #[.slice (some ⟨gv,0,none⟩) y.shelves.length cuy,.int .i64 y.d,.int .i64 y.h,.int .i64 y.gram] 216,fOF Spot.cells 72 4 w.heap.size (.slice F7 bs.length c7) SP3 f7,fOF (fz hdLoad) 214 3 w.heap.size (.slice (some ⟨gx,0,none⟩) xs.length c4) xs f5,fInn GLoad.layers w.heap.size xs f6,fOF (fz hdLayer) 216 4 w.heap.size (.slice (some ⟨gy,0,none⟩) ys.length c3) ys f3,fInn Layer.shelves w.heap.size ys f4,fOF (fz hdShelf) 218 5 w.heap.size (.slice (some ⟨gz,0,none⟩) zs.length c2) zs f1,fInn Shelf.list w.heap.size zs f2])) (fun _ i _=>s.list.length - (intOf i).toNat)
        case atStart=>exact ⟨0,SP2,0,Nat.zero_le _,rfl,rfl,rfl,HL2.out,SN⟩
        case round =>
         clear SN k12 l12 hcv hcz0 hcz1 hcz2 hcz3 hcz4
         obtain ⟨j3,SP3,xx,hj3,rfl,rfl,hs3,hl3,SN⟩:=hrel
         obtain ⟨wr3,rfl⟩:∃ x,x=wr:=⟨_,rfl⟩
         have HS3:=Lib.hid hs3
         have HL3:=Lib.hid hl3
         clear hs3 hl3
         have k15:=SN.out.box (.head _)
         have l15:=SN.out.boxlt (.head _)
         by_cases hlt3:j3 < s.list.length
         ·obtain ⟨m3,hm3,hmb⟩:=named_at HNZ.out hlt3
          obtain ⟨ge,rfl⟩:=inn_ptr (SN.out.inns (.tail _ (.tail _ (.tail _ (.tail _ (.tail _ (.tail _ (.tail _ (.tail _ (.head _)))))))))) HZM.out hlt3
          obtain ⟨sp,hsp⟩:∃ z,SP3[m3]? = some z:=⟨_,List.getElem?_eq_getElem (by have:=HL3.out;omega)⟩
          obtain ⟨g7,rfl⟩:=head_ptr (SN.out.list (.tail _ (.tail _ (.head _)))) hsp
          have hce:=inn_cell (SN.out.inns (.tail _ (.tail _ (.tail _ (.tail _ (.tail _ (.tail _ (.tail _ (.tail _ (.head _)))))))))) HZM.out hm3
          have hcs:=(SN.out.list (.tail _ (.tail _ (.head _)))).cells (fun _=>rfl) hsp
          have hcs0:=hcs 0 _ rfl
          have hcs1:=hcs 1 _ rfl
          have hcs2:=hcs 2 _ rfl
          have hcs3:=hcs 3 _ rfl
          simp only [Nat.add_zero] at hcs0
          have hfr:=fun o=>(SN.out.list (.tail _ (.tail _ (.head _)))).free o
          obtain ⟨b,off,bx,_,rfl,hb,hbx,_,rfl,hc⟩:=HS.out.at_ m3 hmb
          have hc0:=hc 0 _ rfl
          simp only [Nat.add_zero] at hc0
          have HST3:=Lib.hid (show (s.list.take (j3 + 1)).foldl (rowStep bs (k:Int) yy zz) (SP2,0)=(SP3.set m3 ⟨k,xx,yy,zz⟩,wrap64 (xx + bx.w)) by rw [foldl_take_step hm3,HS3.out];unfold rowStep;rw [Int.toNat_natCast,List.getD_eq_getElem?_getD,hbx];rfl)
          have hmi:(m3:Int) < (bs.length:Int):=by omega
          have SQ:=Lib.hid ((SN.out.rot3.put (fun _=>rfl) hsp (j:=0) (us:=[.int .i64 k,.int .i64 xx,.int .i64 yy,.int .i64 zz]) (by simp) (y:=⟨k,xx,yy,zz⟩) rfl).ror3)
          have HM3:=Lib.hid hm3
          clear hm3 hc hcs
          go_upto_region 25 with fail
          generalize hw5:((((wr3.setCell ⟨g7,m3 * 4,none⟩ (.int .i64 k)).setCell ⟨g7,m3 * 4 + 1,none⟩ (.int .i64 xx)).setCell ⟨g7,m3 * 4 + 2,none⟩ (.int .i64 yy)).setCell ⟨g7,m3 * 4 + 3,none⟩ (.int .i64 zz))=w5
          rw [show setW wr3 g7 (m3 * 4 + 0) [.int .i64 k,.int .i64 xx,.int .i64 yy,.int .i64 zz]=w5 from hw5] at SQ
          have hc0:=(SQ.out.low.cell (p:=⟨b,off + m3 * 4,none⟩) hb).trans hc0
          clear hw5 hcs0 hcs1 hcs2 hcs3 hfr hce k15 l15 SN
          have SN:=SQ
          clear SQ
          have hce:=inn_cell (SN.out.inns (.tail _ (.tail _ (.tail _ (.tail _ (.tail _ (.tail _ (.tail _ (.tail _ (.head _)))))))))) HZM.out HM3.out
          have k15:=SN.out.box (.head _)
          have l15:=SN.out.boxlt (.head _)
          go_wp2
          go_roundw
          case rel=>exact ⟨j3 + 1,SP3.set m3 ⟨k,xx,yy,zz⟩,wrap64 (xx + bx.w),hlt3,by go_num,by simp only [wrapE],by rw [HST3.out],by rw [List.length_set];exact HL3.out,SN⟩
          case measure=>simp [intOf] <;> omega
         ·obtain rfl:j3=s.list.length:=by omega
          have HS3:=Lib.hid (show s.list.foldl (rowStep bs (k:Int) yy zz) (SP2,0)=(SP3,xx) by rw [← HS3.out,List.take_length])
          go_wp2
          go_roundw
          case rel=>exact ⟨j2 + 1,SP3,wrap64 (yy + s.d),hlt2,by go_num,by simp only [wrapE],by rw [HST2.out,HS3.out],HL3.out,Lib.hid SN.out.drop⟩
          case measure=>simp [intOf] <;> omega
       ·obtain rfl:j2=y.shelves.length:=by omega
        have HS2:=Lib.hid (show y.shelves.foldl (layStep bs ss (k:Int) zz) (SP1,0)=(SP2,yy) by rw [← HS2.out,List.take_length])
        go_wp2
        go_roundw
        case rel=>exact ⟨j + 1,SP2,wrap64 (zz + y.h),hlt1,by go_num,by simp only [wrapE],by rw [HST1.out,HS2.out],HL2.out,Lib.hid SN.out.drop⟩
        case measure=>simp [intOf] <;> omega
     ·obtain rfl:j=x.layers.length:=by omega
      have HS1:=Lib.hid (show x.layers.foldl (loStep bs ss ls (k:Int)) (SP,0)=(SP1,zz) by rw [← HS1.out,List.take_length])
      go_wp2
      go_roundw
      case rel=>exact ⟨k + 1,SP1,hlt,by go_num,by rw [HST.out,HS1.out],HL1.out,SN⟩
      case measure=>simp [intOf] <;> omega
   ·obtain rfl:k=xs.length:=by omega
    have HR:=Lib.hid (show SP=so by rw [HM.out,← HSP.out,List.take_of_length_le (by simp;exact Nat.le_of_eq HX1.out)])
    go_wp2
    go_ret
    rw [HSO.out,← HR.out]
    exact ⟨_,_,rfl,SN.out.list (.head _),SN.out.low⟩
end Go.Proofs.YtioijfplbgpjpaaGreat
namespace Go.Proofs.YtioijfplbgpjpaaGreat
set_option linter.unusedVariables false
set_option linter.unusedSimpArgs false
set_option maxRecDepth 100000
open Go.RowKit Go.WideShapes Go.ChangeShapes Go.ChangeAt Go.Deep
theorem spotsR_le (p:Pallet) (bs:List Box):(spotsR p bs).length≤bs.length:=by
 cases h:boxesOk p bs
 ·unfold spotsR;rw [h];simp
 ·exact Nat.le_of_eq (spotsR_len h)
theorem boxesG_le (r:Request) (cs:List Carton) (k:Nat):(boxesG r cs k).length≤cs.length:=by
 unfold boxesG
 rw [List.length_map]
 exact List.length_filter_le _ _
theorem boxesG_step {r:Request} {cs:List Carton} {k m:Nat} {c:Carton} (h:cs[m]? = some c):boxesG r (cs.take (m + 1)) k=boxesG r (cs.take m) k ++ (if (c.group == (k:Int))=true then [boxR r c] else []):=by
 unfold boxesG
 rw [List.take_add_one,h,List.filter_append,List.map_append]
 cases hc:c.group == (k:Int) <;> simp [hc]
theorem perm_plan (a b c d e f:Fact):[a,b,c,d,e,f].Perm [e,c,d,a,b,f]:=by
 refine (List.perm_middle (l₁:=[a,b,c,d])).trans (List.Perm.cons e ?_)
 refine (List.perm_middle (l₁:=[a,b])).trans (List.Perm.cons c ?_)
 exact (List.perm_middle (l₁:=[a,b])).trans (List.Perm.refl _)
theorem up_step {L:List Spot} {q:Nat} {s:Spot} {n:Int} (h:L[q]? = some s):(L.take (q + 1)).map (Spot.up n)=(L.take q).map (Spot.up n) ++ [s.up n]:=by
 rw [List.take_add_one,h,List.map_append]
 rfl
theorem plan_unsound {r:Request} (h:soundR r=false):planOf r=(⟨[],[]⟩,false):=by unfold planOf;rw [h];rfl
theorem plan_sound {r:Request} (h:soundR r=true):planOf r=(⟨cartonsR r,((List.range (groupsR r).length).foldl (planStep r (cartonsR r)) ([],0)).1⟩,true):=by unfold planOf;rw [h];rfl
def MPlan (w:World) (x:Plan) (b:Bool) (e:Ending) (w':World):Prop:=∃ vc vs zs f1 f2 f3,e=.returned (.tuple #[.agg #[vc,vs],.bool b])∧zs.map (·.1)=x.cartons ∧
 Sit w w' [fOF (fz hdCarton) 78 3 w.heap.size vc zs f1,fInn Carton.units w.heap.size zs f2,fOF Spot.cells 72 4 w.heap.size vs x.spots f3]
set_option maxRecDepth 100000 in
set_option maxHeartbeats 4000000 in
theorem sPlanOf_any (v:Value) (r:Request) (w:World) (h:RReq 16777216 w w.heap.size v r):Calls Tryz.prog 82 #[v] w (MPlan w (planOf r).1 (planOf r).2):=by
 have HR:=Lib.hid h
 obtain ⟨A1,c1,A2,c2,A3,c3,rfl,_⟩:=h.opn
 have hS:=((Sit.here w).alloc (cR r A1 c1 A2 c2 A3 c3) 41).alloc #[.slice none 0 0,.slice none 0 0] 46
 simp only [World.size_alloc] at hS
 have SN:=Lib.hid hS
 obtain ⟨c,hc⟩:∃ c,classOf r=c:=⟨_,rfl⟩
 have HC:=Lib.hid hc
 clear h hS hc
 go_enter Tryz.func82,Tryz.ntmps82
 have k0:=SN.out.box (.tail _ (.head _))
 have l0:=SN.out.boxlt (.tail _ (.head _))
 go_wp2_with fail
 refine (sClass_any _ r _ (HR.out.next SN.out.low)).mono ?_
 rintro e2 w2 ⟨rfl,hb2⟩
 rw [HC.out]
 have SN:=Lib.hid (SN.out.next hb2)
 clear k0 l0 hb2
 have k0:=SN.out.box (.tail _ (.head _))
 have l0:=SN.out.boxlt (.tail _ (.head _))
 have k1:=SN.out.box (.head _)
 have f1:=SN.out.free (.head _)
 by_cases hz:c=0
 ·subst hz
  have hs:soundR r=true:=by rw [sound_dec,HC.out];rfl
  have HSS:=Lib.hid hs
  have hgn:(groupsR r).length≤4:=(groups_len r).1
  have hcl:(cartonsR r).length≤48:=(cartons_len hs).1
  have HCU:=Lib.hid (cartons_len hs).2
  clear hs k1 f1
  go_wp2_with fail
  refine (sCartonsOf_any _ r _ (HR.out.next SN.out.low) HSS.out).mono ?_
  intro e3 w3 hm
  obtain ⟨v3,zs,g1,g2,rfl,hz,hS⟩:=SN.out.gotNest hm
  obtain ⟨PC,cc,rfl,_⟩:=(hS.list (.head _)).form
  have HZ:=Lib.hid hz
  have hzl:zs.length≤48:=by rw [map_fst_len hz];exact hcl
  have SN:=Lib.hid ((hS.alloc #[.slice PC zs.length cc,.slice none 0 0] 46).addNil (f:=Spot.cells) (e:=72) (K:=4) w.heap.size)
  clear k0 l0 hS hm hz
  have k0:=SN.out.box (.tail _ (.tail _ (.tail _ (.tail _ (.tail _ (.head _))))))
  have l0:=SN.out.boxlt (.tail _ (.tail _ (.tail _ (.tail _ (.tail _ (.head _))))))
  go_wp2_with fail
  refine (sGroupsOf_any _ r _ (HR.out.next SN.out.low)).mono ?_
  intro e4 w4 hm
  obtain ⟨v4,gs,g3,g4,rfl,hz,hS⟩:=SN.out.gotNest hm
  obtain ⟨G,g,rfl,_⟩:=(hS.list (.head _)).form
  rw [map_fst_len hz]
  have SN:=Lib.hid hS.drop.drop
  clear k0 l0 hS hm hz
  obtain ⟨CS,hCS⟩:∃ CS,cartonsR r=CS:=⟨_,rfl⟩
  rw [hCS] at HZ HCU
  have HCS:=Lib.hid hCS
  clear hCS hcl
  obtain ⟨b4,hb4⟩:∃ b,b=w3.heap.size:=⟨_,rfl⟩
  rw [← hb4] at SN ⊢
  clear hb4
  obtain ⟨ng,hng⟩:∃ n,(groupsR r).length=n:=⟨_,rfl⟩
  rw [hng] at hgn ⊢
  have HNG:=Lib.hid hng
  clear hng
  go_wp2
  go_loopw [5,7] (fun bv i wr=>∃ (k:Nat) (SP:List Spot) (bb:Int) (vsp:Value) (fs:List Nat),k≤ng∧i=.int .i64 k∧bv=.int .i64 bb∧Hid ((List.range k).foldl (planStep r CS) ([],0)=(SP,bb))∧SP.length≤48 * k∧Hid (Sit w wr [fOF Spot.cells 72 4 w.heap.size vsp SP fs,fBox b4 #[.slice PC zs.length cc,vsp] 46,fOF (fz hdCarton) 78 3 w.heap.size (.slice PC zs.length cc) zs g1,fInn Carton.units w.heap.size zs g2,fBox (w.heap.size + 1) #[.slice none 0 0,.slice none 0 0] 46,fBox w.heap.size (cR r A1 c1 A2 c2 A3 c3) 41])) (fun _ i _=>ng - (intOf i).toNat)
  case atStart=>exact ⟨0,[],0,_,_,Nat.zero_le _,rfl,rfl,Lib.hid rfl,Nat.le_refl _,SN⟩
  case round =>
   clear SN
   obtain ⟨k,SP,bb,vsp,fs,hk,rfl,rfl,HSP,hspl,SN⟩:=hrel
   obtain ⟨wr1,rfl⟩:∃ x,x=wr:=⟨_,rfl⟩
   obtain ⟨PS,cs,rfl,_⟩:=(SN.out.list (.head _)).form
   by_cases hlt:k < ng
   ·have HST:=Lib.hid (show (List.range (k + 1)).foldl (planStep r CS) ([],0)=planStep r CS (SP,bb) k by rw [List.range_succ,List.foldl_append,HSP.out];rfl)
    have SN:=Lib.hid ((SN.out.alloc #[] 75).boxNil Box.cells 4)
    go_wp2
    go_loopw [8,9] (fun vv i wr=>∃ (m:Nat) (fp:List Nat),m≤zs.length∧i=.int .i64 m∧Hid (Sit w wr [fOF Box.cells 75 4 w.heap.size vv (boxesG r (CS.take m) k) fp,fOF Spot.cells 72 4 w.heap.size (.slice PS SP.length cs) SP fs,fBox b4 #[.slice PC zs.length cc,.slice PS SP.length cs] 46,fOF (fz hdCarton) 78 3 w.heap.size (.slice PC zs.length cc) zs g1,fInn Carton.units w.heap.size zs g2,fBox (w.heap.size + 1) #[.slice none 0 0,.slice none 0 0] 46,fBox w.heap.size (cR r A1 c1 A2 c2 A3 c3) 41])) (fun _ i _=>zs.length - (intOf i).toNat)
    case atStart=>exact ⟨0,_,Nat.zero_le _,rfl,SN⟩
    case round =>
     clear SN
     obtain ⟨m,fp,hm,rfl,SN⟩:=hrel
     obtain ⟨wr2,rfl⟩:∃ x,x=wr:=⟨_,rfl⟩
     have k4:=SN.out.box (.tail _ (.tail _ (.head _)))
     have k40:=k4 0
     simp at k40
     have l4:=SN.out.boxlt (.tail _ (.tail _ (.head _)))
     by_cases hlt1:m < zs.length
     ·obtain ⟨⟨c,uc⟩,hcm⟩:∃ z,zs[m]? = some z:=⟨_,List.getElem?_eq_getElem hlt1⟩
      obtain ⟨gp,rfl⟩:=head_ptr (SN.out.list (.tail _ (.tail _ (.tail _ (.head _))))) hcm
      obtain ⟨U,cu,rfl⟩:=inn_form (SN.out.inns (.tail _ (.tail _ (.tail _ (.tail _ (.head _)))))) hcm
      have hCm:CS[m]? = some c:=by rw [← HZ.out,List.getElem?_map,hcm];rfl
      have HCM:=Lib.hid hcm
      have HBS:=Lib.hid (boxesG_step (r:=r) (k:=k) hCm)
      have hcul:c.units.length≤12:=HCU.out c (List.mem_of_getElem? hCm)
      have hcc:=(SN.out.list (.tail _ (.tail _ (.tail _ (.head _))))).cells (fun _=>rfl) hcm
      have hcc0:=hcc 0 (.int .i64 c.type) rfl
      have hcc1:=hcc 1 (.int .i64 c.group) rfl
      have hcc2:=hcc 2 (.slice U c.units.length cu) rfl
      simp only [Nat.add_zero] at hcc0
      have hgpl:=(SN.out.list (.tail _ (.tail _ (.tail _ (.head _))))).size.2.2.2
      have hbl:(boxesG r (CS.take m) k).length≤48:=by have h1:=boxesG_le r (CS.take m) k;rw [List.length_take] at h1;omega
      obtain ⟨fq,hfq⟩:∃ f,(c.group == (k:Int))=f:=⟨_,rfl⟩
      rw [hfq] at HBS
      clear hcm hCm hcc k4
      cases fq
      ·go_wp2
       go_roundw
       case rel=>exact ⟨m + 1,_,hlt1,by go_num,by rw [HBS.out];simpa using SN⟩
       case measure=>simp [intOf] <;> omega
      ·obtain ⟨fi,hoi⟩:=(SN.out.inns (.tail _ (.tail _ (.tail _ (.tail _ (.head _)))))).read HCM.out
       have HOI:=Lib.hid (OInts.read hoi (show c.units.length≤16777216 by omega))
       obtain ⟨bx,hbx⟩:∃ bx,boxR r c=bx:=⟨_,rfl⟩
       have HBX:=Lib.hid hbx
       rw [hbx] at HBS
       have HCC:=Lib.hid (show ∀ X:World,Below wr2.heap.size wr2 X→(cS10 (X) (w.heap.size) (r) (.slice A1 r.pairs.length c1) (.slice A2 r.types.length c2) (.slice A3 r.items.length c3))∧X.cell? ⟨b4,0,none⟩=some (.slice (some ⟨gp,0,none⟩) zs.length cc)∧X.cell? ⟨gp,m * 3,none⟩=some (.int .i64 c.type)∧X.cell? ⟨gp,m * 3 + 1,none⟩=some (.int .i64 c.group)∧X.cell? ⟨gp,m * 3 + 2,none⟩=some (.slice U c.units.length cu) from fun X hX=>by
        have hY:=SN.out.next hX
        have c0:=hY.box (.tail _ (.tail _ (.tail _ (.tail _ (.tail _ (.tail _ (.head _)))))))
        exact ⟨⟨c0 0,c0 1,c0 2,c0 3,c0 4,c0 5,c0 6,c0 7,c0 8,c0 9⟩,(hX.cell (p:=⟨b4,0,none⟩) l4).trans k40,(hX.cell (p:=⟨gp,m * 3,none⟩) hgpl).trans hcc0,(hX.cell (p:=⟨gp,m * 3 + 1,none⟩) hgpl).trans hcc1,(hX.cell (p:=⟨gp,m * 3 + 2,none⟩) hgpl).trans hcc2⟩)
       clear hoi hbx
       go_wp2
       go_region_held3 (fun W'=>((cS10 (W') (w.heap.size) (r) (.slice A1 r.pairs.length c1) (.slice A2 r.types.length c2) (.slice A3 r.items.length c3)))∧W'.cell? ⟨b4,0,none⟩=some (.slice (some ⟨gp,0,none⟩) zs.length cc)∧W'.cell? ⟨gp,m * 3,none⟩=some (.int .i64 c.type)∧W'.cell? ⟨gp,m * 3 + 1,none⟩=some (.int .i64 c.group)∧W'.cell? ⟨gp,m * 3 + 2,none⟩=some (.slice U c.units.length cu)) (first | (exact ⟨⟨c8 0,c8 1,c8 2,c8 3,c8 4,c8 5,c8 6,c8 7,c8 8,c8 9⟩,c4 0,d8 0 _ rfl,d8 1 _ rfl,d8 2 _ rfl⟩) | (refine HCC.out _ ?_;(repeat' with_reducible first | assumption | exact bR | apply bD | apply bA | apply bC | apply bW | omega | simp <;> omega);done) | go_keep)
        (first
         |(go_at_call 91;refine (sBoxOf_any _ _ r c _ (HR.out.next (SN.out.next (by (repeat' with_reducible first | assumption | exact bR | apply bD | apply bA | apply bC | apply bW | omega | simp <;> omega))).low) (RL.next HOI.out (flat_mono _) (by (repeat' with_reducible first | assumption | exact bR | apply bD | apply bA | apply bC | apply bW | omega | simp <;> omega)))).mono ?_;rintro e3 w3 ⟨rfl,hb3⟩;rw [HBX.out];have hn3:=bstep (a:=wr2) (by (repeat' with_reducible first | assumption | exact bR | apply bD | apply bA | apply bC | apply bW | omega | simp <;> omega)) hb3;have hz3:=hn3.size;have SM:=Lib.hid (SN.out.next hn3))
         |(refine sapp_Box (.tmp 44) (.tmp 52) rfl rfl bx rfl rfl (heap_alloc_new _ _) rfl ((SM.out.list (.head _)).next (by repeat' with_reducible first | assumption | exact bR | apply bD | apply bA | apply bC | apply bN | simp <;> omega)) (by first | omega | (simp;done) | (simp;omega)) (by have:=SM.out.low.size;first | omega | (simp;done) | (simp;omega)) ?_;intro v7 w7 ha;obtain ⟨g7,S7⟩:=(SM.out.next (by repeat' with_reducible first | assumption | exact bR | apply bD | apply bA | apply bC | apply bN | simp <;> omega)).app ha;have S8:=Lib.hid S7;clear S7 ha;have c8:=S8.out.box (.tail _ (.tail _ (.tail _ (.tail _ (.tail _ (.tail _ (.head _)))))));have c4:=S8.out.box (.tail _ (.tail _ (.head _)));have d8:=(S8.out.list (.tail _ (.tail _ (.tail _ (.head _))))).cells (fun _=>rfl) HCM.out))
       all_goals go_wp2
       all_goals go_roundw
       all_goals first | (case rel=>exact ⟨m + 1,_,hlt1,by go_num,by rw [HBS.out];exact S8⟩) | (case measure=>simp [intOf] <;> omega)
     ·obtain rfl:m=zs.length:=by omega
      have HTK:=Lib.hid (show CS.take zs.length=CS from List.take_of_length_le (by rw [map_fst_len HZ.out];exact Nat.le_refl _))
      rw [HTK.out] at SN
      obtain ⟨L,hL⟩:∃ L,spotsR r.pallet (boxesG r CS k)=L:=⟨_,rfl⟩
      have HL:=Lib.hid hL
      have hbl:(boxesG r CS k).length≤48:=by have h1:=boxesG_le r CS k;rw [← map_fst_len HZ.out] at h1;omega
      have hll:L.length≤48:=by rw [← hL];exact Nat.le_trans (spotsR_le _ _) hbl
      obtain ⟨BS,hBS⟩:∃ BS,boxesG r CS k=BS:=⟨_,rfl⟩
      have HPS:=Lib.hid (show planStep r CS (SP,bb) k=(SP ++ L.map (Spot.up bb),wrap64 (bb + palletsR L)) by unfold planStep;rw [hL])
      rw [hBS] at SN hbl HL
      clear hL hBS
      have kr:=SN.out.box (.tail _ (.tail _ (.tail _ (.tail _ (.tail _ (.tail _ (.head _)))))))
      go_wp2_with fail
      refine (sSpotsOf_any r.pallet _ BS _ (OF.read (SN.out.list (.head _)) (fun _=>rfl) (by omega)) (by omega)).mono ?_
      rintro e5 w5 ⟨v5,f5,rfl,ho5,hb5⟩
      rw [HL.out] at ho5
      obtain ⟨PL,cl,rfl,_⟩:=ho5.form
      have SN:=Lib.hid (fOF_low (W':=w5) (SN.out.drop.addOF hb5 ho5 (Nat.le_refl _)) SN.out.low.size)
      clear kr k4 k40 l4 ho5 hb5
      have SN:=Lib.hid (SN.out.ror3)
      go_wp2
      go_loopw [11] (fun i wr=>∃ (q:Nat) (vsp:Value) (fs:List Nat),q≤L.length∧i=.int .i64 q∧Hid (Sit w wr [fOF Spot.cells 72 4 w.heap.size vsp (SP ++ (L.take q).map (Spot.up bb)) fs,fBox b4 #[.slice PC zs.length cc,vsp] 46,fOF Spot.cells 72 4 w.heap.size (.slice PL L.length cl) L f5,fOF (fz hdCarton) 78 3 w.heap.size (.slice PC zs.length cc) zs g1,fInn Carton.units w.heap.size zs g2,fBox (w.heap.size + 1) #[.slice none 0 0,.slice none 0 0] 46,fBox w.heap.size (cR r A1 c1 A2 c2 A3 c3) 41])) (fun i _=>L.length - (intOf i).toNat)
      case atStart=>exact ⟨0,_,_,Nat.zero_le _,rfl,by simpa using SN⟩
      case round =>
       clear SN
       obtain ⟨q,vsp,fs2,hq,rfl,SN⟩:=hrel
       obtain ⟨wr3,rfl⟩:∃ x,x=wr:=⟨_,rfl⟩
       have hsl:(SP ++ (L.take q).map (Spot.up bb)).length≤1024:=by rw [List.length_append,List.length_map,List.length_take];omega
       obtain ⟨XS,hXS⟩:∃ XS,SP ++ (L.take q).map (Spot.up bb)=XS:=⟨_,rfl⟩
       have HXS:=Lib.hid hXS
       rw [hXS] at SN hsl
       clear hXS
       obtain ⟨PV,cv,rfl,_⟩:=(SN.out.list (.head _)).form
       by_cases hlt2:q < L.length
       ·obtain ⟨s,hs⟩:∃ s,L[q]? = some s:=⟨_,List.getElem?_eq_getElem hlt2⟩
        obtain ⟨gl,rfl⟩:=head_ptr (SN.out.list (.tail _ (.tail _ (.head _)))) hs
        have HUP:=Lib.hid (up_step (n:=bb) hs)
        have hcs:=(SN.out.list (.tail _ (.tail _ (.head _)))).cells (fun _=>rfl) hs
        have hcs0:=hcs 0 (.int .i64 s.pallet) rfl
        have hcs1:=hcs 1 (.int .i64 s.x) rfl
        have hcs2:=hcs 2 (.int .i64 s.y) rfl
        have hcs3:=hcs 3 (.int .i64 s.z) rfl
        simp only [Nat.add_zero] at hcs0
        have SM:=Lib.hid (SN.out.alloc #[.int .i64 (wrap64 (s.pallet + bb)),.int .i64 s.x,.int .i64 s.y,.int .i64 s.z] 72)
        clear hs hcs
        go_upto_region 21 with fail
        generalize wr3.alloc (.cells #[.int .i64 (wrap64 (s.pallet + bb)),.int .i64 s.x,.int .i64 s.y,.int .i64 s.z] 72)=w5 at SM ⊢
        have k12:=SM.out.box (.head _)
        have l12:=SM.out.boxlt (.head _)
        have k4:=SM.out.box (.tail _ (.tail _ (.head _)))
        clear hcs0 hcs1 hcs2 hcs3
        go_wp2_with (at_builtin;refine papp_Spot _ _ rfl rfl (s.up bb) rfl rfl (heap_alloc_new _ _) rfl ((SM.out.list (.tail _ (.head _))).next (by repeat' with_reducible first | assumption | exact bR | apply bD | apply bA | apply bC | apply bN | simp <;> omega)) (by first | omega | (simp;done) | (simp;omega)) (by have:=SM.out.low.size;first | omega | (simp;done) | (simp;omega)) ?_;intro v7 w7 ha;obtain ⟨g7,S7⟩:=(SM.out.rot2.next (by repeat' with_reducible first | assumption | exact bR | apply bD | apply bA | apply bC | apply bN | simp <;> omega)).app ha;have S8:=Lib.hid S7;obtain ⟨C7,c7,rfl,_⟩:=(S7.list (.head _)).form;simp only [List.length_append,List.length_cons,List.length_nil,Nat.zero_add] at S8;have k4:=S7.box (.tail _ (.tail _ (.head _)));have f4:=S7.free (.tail _ (.tail _ (.head _)));clear S7 ha)
        go_roundw
        case rel=>exact ⟨q + 1,.slice C7 (XS.length + 1) c7,g7,hlt2,by go_num,by rw [HUP.out,← List.append_assoc,HXS.out];exact Lib.hid (((S8.out.rot3.store 1 (.slice C7 (XS.length + 1) c7)).rot3).drop.rot2)⟩
        case measure=>simp [intOf] <;> omega
       ·obtain rfl:q=L.length:=by omega
        have HXL:=Lib.hid (show SP ++ L.map (Spot.up bb)=XS by rw [← HXS.out,List.take_length])
        have HPM:=Lib.hid (show (SP ++ L.map (Spot.up bb)).length≤48 * (k + 1) by rw [List.length_append,List.length_map];omega)
        go_wp2_with (go_at_call 116;refine (sPallets_any _ L _ (OF.read (SN.out.list (.tail _ (.tail _ (.head _)))) (fun _=>rfl) (by omega))).mono ?_;rintro e w' ⟨rfl,rfl⟩)
        go_roundw
        case rel=>exact ⟨k + 1,_,_,_,_,hlt,by go_num,by simp only [wrapE],Lib.hid (HST.out.trans HPS.out),HPM.out,by rw [HXL.out];exact Lib.hid SN.out.rot3.drop⟩
        case measure=>simp [intOf] <;> omega
   ·obtain rfl:k=ng:=by omega
    have k4:=SN.out.box (.tail _ (.head _))
    have k2:=SN.out.box (.tail _ (.tail _ (.tail _ (.tail _ (.head _)))))
    have f2:=SN.out.free (.tail _ (.tail _ (.tail _ (.tail _ (.head _)))))
    have HM:=Lib.hid (show planOf r=(⟨CS,SP⟩,true) by rw [plan_sound HSS.out,HCS.out,HNG.out,HSP.out])
    go_wp2
    refine bodyPost_ret (v:=.tuple #[.agg #[.slice PC zs.length cc,.slice PS SP.length cs],.bool true]) (by simp [results,Tryz.results82,go_sem,k2,f2]) rfl ?_
    rw [HM.out]
    have SO:=(SN.out.perm (l2:=[fBox (w.heap.size + 1) #[.slice none 0 0,.slice none 0 0] 46,fOF (fz hdCarton) 78 3 w.heap.size (.slice PC zs.length cc) zs g1,fInn Carton.units w.heap.size zs g2,fOF Spot.cells 72 4 w.heap.size (.slice PS SP.length cs) SP fs,fBox b4 #[.slice PC zs.length cc,.slice PS SP.length cs] 46,fBox w.heap.size (cR r A1 c1 A2 c2 A3 c3) 41]) (perm_plan _ _ _ _ _ _)).overL [.slice PC zs.length cc,.slice PS SP.length cs] 0
    exact ⟨_,_,zs,_,_,_,rfl,HZ.out,Sit.take (l1:=[_,_,_]) SO.drop⟩
 ·have hz':(c != 0)=true:=by simpa using hz
  have HM:=Lib.hid (show planOf r=(⟨[],[]⟩,false) from plan_unsound (by rw [sound_dec,HC.out];simpa using hz))
  clear hz
  go_wp2
  refine bodyPost_ret (v:=.tuple #[.agg #[.slice none 0 0,.slice none 0 0],.bool false]) (by simp [results,Tryz.results82,go_sem,k1,f1]) rfl ?_
  rw [HM.out]
  have S9:=Sit.take (l1:=[_,_,_]) ((((((SN.out.overL [.slice none 0 0,.slice none 0 0] 0).addNil (f:=Spot.cells) (e:=72) (K:=4) w.heap.size).addInn (inn:=Carton.units) w.heap.size).addNil (f:=fz hdCarton) (e:=78) (K:=3) w.heap.size)))
  exact ⟨_,_,[],_,_,_,rfl,rfl,S9⟩
end Go.Proofs.YtioijfplbgpjpaaGreat
namespace Go.Proofs.YtioijfplbgpjpaaGreat
set_option linter.unusedVariables false
set_option linter.unusedSimpArgs false
set_option maxRecDepth 100000
open Go.RowKit
def cB (n:Int):List Value:=[.int .u8 n]
abbrev RBytes (w:World) (B:Nat) (v:Value) (xs:List Int):Prop:=RL 1048576 1 (flat cB) w B v xs
theorem and255 (x:Int):0≤Go.bits .and .i64 x 255∧Go.bits .and .i64 x 255≤255:=by
 unfold Go.bits
 simp only [BitVec.toNat_and]
 have h:=Nat.and_le_right (n:=(BitVec.ofInt IntKind.i64.bits x).toNat) (m:=(BitVec.ofInt IntKind.i64.bits 255).toNat)
 have h2:(BitVec.ofInt IntKind.i64.bits 255).toNat=255:=by decide
 rw [h2] at h ⊢
 rw [IntKind.wrap_i64]
 omega
theorem heap_drewN (w:World):∀ n,(w.drewN n).heap=w.heap:=fun _=>rfl
theorem tch_drewN (fp:List Nat) (w:World) (n:Nat):Tch fp w (w.drewN n):=⟨rfl,rfl,rfl,Nat.le_refl _,fun _ _ _=>rfl⟩
abbrev fCur (g:Nat) (v:Value) (n:Nat):Fact:=⟨fun W=>∃ i h:Int,0≤i∧i≤n∧W.heap[g]? = some (.cells #[v,.int .i64 i,.int .i64 h] 189 (0,0)),[g]⟩
theorem fCur_ok (g:Nat) (v:Value) (n:Nat):(fCur g v n).ok:=fun _ _ ⟨i,h,h1,h2,h3⟩ _ hk=>⟨i,h,h1,h2,(hk g (by simp)).trans h3⟩
def MCur (g:Nat) (v:Value) (n:Nat) (W:World) (R:Value→Prop) (e:Ending) (w':World):Prop:=∃ u,e=.returned u∧R u∧(fCur g v n).on w'∧Tch [g] W w'
set_option maxHeartbeats 1000000 in
theorem l1Byte_any (g:Nat) (v:Value) (xs:List Int) (w:World) (hc:(fCur g v xs.length).on w) (hx:RBytes w w.heap.size v xs):Calls Tryz.prog 190 #[.pointer (some ⟨g,0,none⟩)] w (MCur g v xs.length w fun u=>∃ x:Int,u=.int .i64 x∧0≤x∧x≤255):=by
 obtain ⟨i,h,hi0,hi1,hblk⟩:=hc
 have HX:=Lib.hid hx
 obtain ⟨E,e,rfl,hbd,_⟩:=hx
 have k0:=cell_of_row _ _ 0 _ _ (0,0) hblk
 have k1:=cell_of_row _ _ 1 _ _ (0,0) hblk
 have k2:=cell_of_row _ _ 2 _ _ (0,0) hblk
 have fz:=fun j=>frozen_of_row _ _ j _ _ hblk
 simp at k0 k1 k2
 have hgl:=lt_of_block hblk
 go_enter Tryz.func190,Tryz.ntmps190
 go_upto_region 2 with fail
 obtain ⟨h1,hh1⟩:∃ z,wrap64 (wrap64 (h * 6364136223846793005) + 1442695040888963407)=z:=⟨_,rfl⟩
 rw [hh1]
 have hblk1:=heap_setCell_same w g 2 _ _ (.int .i64 h1) hblk
 have T1:Tch [g] w (w.setCell ⟨g,2,none⟩ (.int .i64 h1)):=Tch.setW (us:=[.int .i64 h1]) (o:=2) (by simp) w (Tch.refl _ _)
 generalize w.setCell ⟨g,2,none⟩ (.int .i64 h1)=w1 at hblk1 T1 ⊢
 simp at hblk1
 clear k0 k1 k2 fz hh1
 have k0:=cell_of_row _ _ 0 _ _ (0,0) hblk1
 have k1:=cell_of_row _ _ 1 _ _ (0,0) hblk1
 have k2:=cell_of_row _ _ 2 _ _ (0,0) hblk1
 have fz:=fun j=>frozen_of_row _ _ j _ _ hblk1
 simp at k0 k1 k2
 go_quiet (fail)
 obtain ⟨x,hx⟩:∃ z,Go.bits BinOp.and IntKind.i64 (Go.bits BinOp.xor IntKind.i64 (h1 / 8589934592) (h1 / 35184372088832)) 255=z:=⟨_,rfl⟩
 rw [hx]
 have hx01:=and255 (Go.bits BinOp.xor IntKind.i64 (h1 / 8589934592) (h1 / 35184372088832))
 rw [hx] at hx01
 clear hx
 have T2:Tch [g] w (w1.drewN nq):=T1.trans (tch_drewN _ _ _)
 have hblk2:(w1.drewN nq).heap[g]? = some (.cells #[.slice E xs.length e,.int .i64 i,.int .i64 h1] 189 (0,0)):=by rw [heap_drewN];exact hblk1
 generalize w1.drewN nq=w2 at T2 hblk2 ⊢
 clear k0 k1 k2 fz hblk1 T1
 have k0:=cell_of_row _ _ 0 _ _ (0,0) hblk2
 have k1:=cell_of_row _ _ 1 _ _ (0,0) hblk2
 have k2:=cell_of_row _ _ 2 _ _ (0,0) hblk2
 have fz:=fun j=>frozen_of_row _ _ j _ _ hblk2
 simp at k0 k1 k2
 go_wp2
 go_quiet (fail)
 have T3:Tch [g] w (w2.drewN nq):=T2.trans (tch_drewN _ _ _)
 have hblk3:(w2.drewN nq).heap[g]? = some (.cells #[.slice E xs.length e,.int .i64 i,.int .i64 h1] 189 (0,0)):=by rw [heap_drewN];exact hblk2
 generalize w2.drewN nq=w3 at T3 hblk3 ⊢
 clear k0 k1 k2 fz hblk2 T2
 have k0:=cell_of_row _ _ 0 _ _ (0,0) hblk3
 have k1:=cell_of_row _ _ 1 _ _ (0,0) hblk3
 have k2:=cell_of_row _ _ 2 _ _ (0,0) hblk3
 have fz:=fun j=>frozen_of_row _ _ j _ _ hblk3
 simp at k0 k1 k2
 by_cases hlt:i < xs.length
 ·obtain ⟨m,rfl⟩:∃ m:Nat,i=m:=⟨i.toNat,by omega⟩
  have hm:m < xs.length:=by omega
  obtain ⟨b,off,y,_,rfl,hb,hy,_,rfl,hcb⟩:=HX.out.at_ m hm
  have hbg:b ≠ g:=by
   rintro rfl
   have h0:=hcb 0 (.int .u8 y) rfl
   rw [cell_of_row _ _ _ _ _ (0,0) hblk] at h0
   simp only [Nat.mul_one,Nat.add_zero] at h0
   generalize off + m=o at h0
   rcases o with _ | _ | _ | o <;> simp at h0
  have hc3:w3.cell? ⟨b,off + m,none⟩=some (.int .u8 y):=by
   have h0:=hcb 0 (.int .u8 y) rfl
   simp only [Nat.mul_one,Nat.add_zero] at h0
   rw [← h0]
   unfold World.cell?
   rw [T3.block b hb (by simpa using hbg)]
  clear hcb
  go_wp2
  go_quiet (fail)
  obtain ⟨z,hz⟩:∃ z,Go.bits BinOp.and IntKind.i64 (wrap64 (x + wrap64 y)) 255=z:=⟨_,rfl⟩
  rw [hz]
  have hz01:=and255 (wrap64 (x + wrap64 y))
  rw [hz] at hz01
  clear hz
  have T4:Tch [g] w (w3.drewN nq):=T3.trans (tch_drewN _ _ _)
  have hblk4:(w3.drewN nq).heap[g]? = some (.cells #[.slice (some ⟨b,off,none⟩) xs.length e,.int .i64 m,.int .i64 h1] 189 (0,0)):=by rw [heap_drewN];exact hblk3
  generalize w3.drewN nq=w4 at T4 hblk4 ⊢
  clear k0 k1 k2 fz hblk3 T3 hc3
  have k1:=cell_of_row _ _ 1 _ _ (0,0) hblk4
  have fz:=fun j=>frozen_of_row _ _ j _ _ hblk4
  simp at k1
  go_wp2
  go_ret
  have hblk5:=heap_setCell_same w4 g 1 _ _ (.int .i64 (m + 1)) hblk4
  simp at hblk5
  exact ⟨_,rfl,⟨z,rfl,hz01⟩,⟨(m:Int) + 1,h1,by omega,by omega,hblk5⟩,T4.trans (Tch.setW (us:=[.int .i64 (m + 1)]) (o:=1) (by simp) w4 (Tch.refl _ _))⟩
 ·go_wp2
  go_ret
  exact ⟨_,rfl,⟨x,rfl,hx01⟩,⟨i,h1,hi0,hi1,hblk3⟩,T3⟩
theorem MCur.then {g n:Nat} {v:Value} {W W1 W2:World} {R R':Value→Prop} {e:Ending} (h0:Tch [g] W W1) (h:MCur g v n W1 R e W2) (hR:∀ u,R u→R' u):MCur g v n W R' e W2:=by
 obtain ⟨u,rfl,hu,hc,ht⟩:=h
 exact ⟨u,rfl,hR u hu,hc,h0.trans ht⟩
theorem bytes_tch {g:Nat} {v:Value} {W W':World} {B:Nat} {xs:List Int} (h:RBytes W B v xs) (ht:Tch [g] W W') (hB:B≤g) (hW:B≤W.heap.size):RBytes W' B v xs :=
 h.keep (flat_mono _) (fun p hp=>by unfold World.cell?;rw [ht.block p.block (by omega) (by simp;omega)]) (Nat.le_refl _)
set_option maxHeartbeats 1000000 in
theorem l1Below_any (g:Nat) (v:Value) (xs:List Int) (n:Int) (w:World) (B:Nat) (hc:(fCur g v xs.length).on w) (hx:RBytes w B v xs) (hB:B≤g) (hn:n≤9223372036854775807):Calls Tryz.prog 133 #[.pointer (some ⟨g,0,none⟩),.int .i64 n] w (MCur g v xs.length w fun u=>∃ x:Int,u=.int .i64 x∧0≤x∧(x < n ∨ x=0)):=by
 have hgl:g < w.heap.size:=by obtain ⟨_,_,_,_,h⟩:=hc;exact lt_of_block h
 have HX:=Lib.hid (hx.more (flat_mono _) (show B≤w.heap.size by omega))
 have HC:=Lib.hid hc
 by_cases h0:n≤0
 ·go_enter Tryz.func133,Tryz.ntmps133
  go_wp2
  go_ret
  exact ⟨_,rfl,⟨0,rfl,Int.le_refl _,.inr rfl⟩,HC.out,Tch.refl _ _⟩
 ·by_cases h1:n≤256
  ·go_enter Tryz.func133,Tryz.ntmps133
   go_wp2_with fail
   refine (l1Byte_any g v xs _ HC.out HX.out).mono ?_
   rintro e1 w1 ⟨_,rfl,⟨x,rfl,hx0,hx1⟩,hc1,ht1⟩
   go_wp2
   go_ret
   exact ⟨_,rfl,⟨x % n,rfl,Int.emod_nonneg _ (by omega),.inl (Int.emod_lt_of_pos _ (by omega))⟩,hc1,ht1⟩
  ·go_enter Tryz.func133,Tryz.ntmps133
   go_wp2_with fail
   refine (l1Byte_any g v xs _ HC.out HX.out).mono ?_
   rintro e1 w1 ⟨_,rfl,⟨x,rfl,hx0,hx1⟩,hc1,ht1⟩
   have HX1:=Lib.hid ((bytes_tch hx ht1 hB (by omega)).more (flat_mono _) (show B≤w1.heap.size by have:=ht1.size;omega))
   have HC1:=Lib.hid hc1
   clear hc1
   go_wp2_with fail
   refine (l1Byte_any g v xs _ HC1.out HX1.out).mono ?_
   rintro e2 w2 ⟨_,rfl,⟨y,rfl,hy0,hy1⟩,hc2,ht2⟩
   have ht2:=ht1.trans ht2
   have HX2:=Lib.hid ((bytes_tch hx ht2 hB (by omega)).more (flat_mono _) (show B≤w2.heap.size by have:=ht2.size;omega))
   have HC2:=Lib.hid hc2
   clear hc2
   go_wp2_with fail
   refine (l1Byte_any g v xs _ HC2.out HX2.out).mono ?_
   rintro e3 w3 ⟨_,rfl,⟨z,rfl,hz0,hz1⟩,hc3,ht3⟩
   have ht3:=ht2.trans ht3
   have HX3:=Lib.hid ((bytes_tch hx ht3 hB (by omega)).more (flat_mono _) (show B≤w3.heap.size by have:=ht3.size;omega))
   have HC3:=Lib.hid hc3
   clear hc3
   go_wp2_with fail
   refine (l1Byte_any g v xs _ HC3.out HX3.out).mono ?_
   rintro e4 w4 ⟨_,rfl,⟨q,rfl,hq0,hq1⟩,hc4,ht4⟩
   have ht4:=ht3.trans ht4
   go_wp2
   go_ret
   exact ⟨_,rfl,⟨_,rfl,Int.emod_nonneg _ (by omega),.inl (Int.emod_lt_of_pos _ (by omega))⟩,hc4,ht4⟩
theorem l1Once_any (g:Nat) (v:Value) (xs:List Int) (n:Int) (w:World) (B:Nat) (hc:(fCur g v xs.length).on w) (hx:RBytes w B v xs) (hB:B≤g) (hn:n≤9223372036854775807):Calls Tryz.prog 155 #[.pointer (some ⟨g,0,none⟩),.int .i64 n] w (MCur g v xs.length w fun u=>∃ x:Bool,u=.bool x):=by
 go_enter Tryz.func155,Tryz.ntmps155
 go_wp2_with fail
 refine (l1Below_any g v xs n _ B hc hx hB hn).mono ?_
 rintro e1 w1 ⟨_,rfl,⟨x,rfl,hx0,hx1⟩,hc1,ht1⟩
 go_wp2
 go_ret
 exact ⟨_,rfl,⟨_,rfl⟩,hc1,ht1⟩
theorem l1PickInt_any (g q:Nat) (v:Value) (xs ys:List Int) (cs:Array Value) (c:Nat) (w:World) (B:Nat) (hc:(fCur g v xs.length).on w) (hx:RBytes w B v xs) (hB:B≤g) (hy:w.heap[q]? = some (.cells cs 3 (0,0))) (hcs:cs.toList=ys.flatMap cI) (hy0:0 < ys.length) (hy1:ys.length≤100) (hqg:q ≠ g):Calls Tryz.prog 156 #[.pointer (some ⟨g,0,none⟩),.slice (some ⟨q,0,none⟩) ys.length c] w (MCur g v xs.length w fun u=>∃ x:Int,u=.int .i64 x∧x∈ys):=by
 go_enter Tryz.func156,Tryz.ntmps156
 go_wp2_with fail
 refine (l1Below_any g v xs ys.length _ B hc hx hB (by omega)).mono ?_
 rintro e1 w1 ⟨_,rfl,⟨x,rfl,hx0,hx1⟩,hc1,ht1⟩
 obtain ⟨m,rfl⟩:∃ m:Nat,x=m:=⟨x.toNat,by omega⟩
 have hm:m < ys.length:=by omega
 have hcm:w1.cell? ⟨q,m,none⟩=some (.int .i64 ys[m]):=by
  rw [cell_of_row _ _ _ _ _ (0,0) ((ht1.block q (lt_of_block hy) (by simpa using hqg)).trans hy),← Array.getElem?_toList,hcs]
  have:=flatMap_get (f:=cI) (K:=1) (fun _=>rfl) (show 0 < 1 by omega) ys m ys[m] (List.getElem?_eq_getElem hm)
  simpa [cI] using this
 go_wp2
 go_ret
 exact ⟨_,rfl,⟨_,rfl,List.getElem_mem hm⟩,hc1,ht1⟩
set_option maxHeartbeats 1000000 in
theorem l1New_any (v:Value) (xs:List Int) (w:World) (hx:RBytes w w.heap.size v xs):Calls Tryz.prog 134 #[v] w fun e w'=>∃ g,e=.returned (.pointer (some ⟨g,0,none⟩))∧w.heap.size≤g∧g < w'.heap.size∧(fCur g v xs.length).on w'∧Below w.heap.size w w':=by
 have HX:=Lib.hid hx
 obtain ⟨E,e,rfl,hbd,_⟩:=hx
 go_enter Tryz.func134,Tryz.ntmps134
 go_wp2
 go_loopw [3,4] (fun hv i wr=>∃ (k:Nat) (h:Int),k≤xs.length∧i=.int .i64 k∧hv=.int .i64 h∧Hid (Below w.heap.size w wr)) (fun _ i _=>xs.length - (intOf i).toNat)
 case atStart=>exact ⟨0,_,Nat.zero_le _,rfl,rfl,Lib.hid (Below.refl _ _)⟩
 case round =>
  obtain ⟨k,h,hk,rfl,rfl,HB⟩:=hrel
  by_cases hlt:k < xs.length
  ·obtain ⟨b,off,y,_,rfl,hb,hy,_,rfl,hcb⟩:=HX.out.at_ k hlt
   have hc0:=hcb 0 _ rfl
   simp only [Nat.mul_one,Nat.add_zero] at hc0
   have hc1:=(HB.out.cell (p:=⟨b,off + k,none⟩) hb).trans hc0
   clear hcb hc0
   by_cases h4:k < 4000
   ·go_wp2
    go_roundw
    case rel=>exact ⟨k + 1,_,hlt,by go_num,rfl,HB⟩
    case measure=>simp [intOf] <;> omega
   ·go_wp2
    go_ret
    exact ⟨wr.heap.size,rfl,HB.out.size,by simp,⟨0,h,by omega,by omega,heap_alloc_new _ _⟩,by have:=HB.out;have:=HB.out.size;(repeat' with_reducible first | assumption | exact bR | apply bD | apply bA | apply bC | apply bW | omega | simp <;> omega)⟩
  ·obtain rfl:k=xs.length:=by omega
   go_wp2
   go_ret
   exact ⟨wr.heap.size,rfl,HB.out.size,by simp,⟨0,h,by omega,by omega,heap_alloc_new _ _⟩,by have:=HB.out;have:=HB.out.size;(repeat' with_reducible first | assumption | exact bR | apply bD | apply bA | apply bC | apply bW | omega | simp <;> omega)⟩
end Go.Proofs.YtioijfplbgpjpaaGreat
namespace Go.Proofs.YtioijfplbgpjpaaGreat
set_option linter.unusedVariables false
set_option linter.unusedSimpArgs false
set_option maxRecDepth 100000
open Go.RowKit
section
variable {w W W':World} {L L':List Fact}
theorem mem_cell {W W':World} {b o:Nat} (h:W'.heap[b]? = W.heap[b]?):W'.cell? ⟨b,o,none⟩=W.cell? ⟨b,o,none⟩:=by unfold World.cell?;rw [h]
theorem Sit.sub (h:Sit w W L) (hs:L'.Sublist L):Sit w W L':=⟨h.low,fun q hq=>h.ok q (hs.subset hq),fun q hq=>h.on q (hs.subset hq),fun q hq=>h.lt q (hs.subset hq),h.apart.sublist hs⟩
theorem Sit.again1 {q:Fact} (h:Sit w W L) (hm:q∈L) (ht:Tch q.fp W W') (hq:q.on W'):Sit w W' L:=by
 obtain ⟨l1,l2,rfl⟩:=List.append_of_mem hm
 exact h.tch ht q rfl (h.ok q hm) hq
class Lay (w W:World) (l:List Fact) (W':World) (l':outParam (List Fact)):Prop where
 go:Sit w W l→Sit w W' l'
instance {w W:World} {l:List Fact} : Lay w W l W l:=⟨id⟩
instance {w W W':World} {l l':List Fact} [h:Lay w W l W' l']:Lay w W l W'.drew l':=⟨fun s=>(h.go s).drew⟩
instance {w W W':World} {l l':List Fact} {cs:Array Value} {t:TypeId} [h:Lay w W l W' l']:Lay w W l (W'.alloc (.cells cs t)) (fBox W'.heap.size cs t::l'):=⟨fun s=>(h.go s).alloc cs t⟩
theorem Sit.cs {P:Program} {f:FuncId} {args:Array Value} {Q:Ending→World→Prop} {w W W':World} {l l':List Fact} [e:Lay w W l W' l'] (h:Sit w W l) (k:Sit w W' l'→Calls P f args W' Q):Calls P f args W' Q:=k (e.go h)
end
def ROn {α:Type} (f:α→List Value) (K:Nat) (W:World) (v:Value) (xs:List α) (fp:List Nat):Prop :=
 ∃ A c,v=.slice A xs.length c∧xs.length≤c∧(0 < xs.length→∃ b off,A=some ⟨b,off,none⟩∧b∈fp∧∀ (i:Nat) (x:α),xs[i]? = some x→∀ (j:Nat) (u:Value),(f x)[j]? = some u→W.cell? ⟨b,off + i * K + j,none⟩=some u)
section
variable {α:Type} {f:α→List Value} {e K base B:Nat} {w W W':World} {L:List Fact} {v:Value} {xs:List α} {fp fp':List Nat}
theorem ROn.keep (h:ROn f K W v xs fp) (hk:∀ b∈fp,W'.heap[b]? = W.heap[b]?):ROn f K W' v xs fp:=by
 obtain ⟨A,c,rfl,hc,h⟩:=h
 refine ⟨A,c,rfl,hc,fun hn=>?_⟩
 obtain ⟨b,off,rfl,hb,hx⟩:=h hn
 exact ⟨b,off,rfl,hb,fun i x hi j u hu=>by rw [mem_cell (hk b hb)];exact hx i x hi j u hu⟩
theorem ROn.wide (h:ROn f K W v xs fp) (hs:∀ b∈fp,b∈fp'):ROn f K W v xs fp':=by
 obtain ⟨A,c,rfl,hc,h⟩:=h
 refine ⟨A,c,rfl,hc,fun hn=>?_⟩
 obtain ⟨b,off,rfl,hb,hx⟩:=h hn
 exact ⟨b,off,rfl,hs b hb,hx⟩
theorem ROn.read {bd:Nat} (h:ROn f K W v xs fp) (hK:∀ x,(f x).length=K) (hl:xs.length≤bd) (hlt:∀ b∈fp,b < B):RL bd K (flat f) W B v xs:=by
 obtain ⟨A,c,rfl,hc,h⟩:=h
 refine ⟨A,c,rfl,⟨hl,hc⟩,fun hn=>?_⟩
 obtain ⟨b,off,rfl,hb,hx⟩:=h hn
 exact ⟨b,off,rfl,hlt b hb,fun i x hi=>⟨f x,hK x,rfl,hx i x hi⟩⟩
theorem ROn.of (h:OF f e K W base v xs fp) (hK:∀ x,(f x).length=K):ROn f K W v xs fp:=by
 obtain ⟨A,c,rfl,hc⟩:=h.form
 refine ⟨A,c,rfl,hc,fun hn=>?_⟩
 obtain ⟨g,c',hv,hg,_⟩:=h.some (List.getElem?_eq_getElem hn)
 injection hv with e1 _ _
 subst e1
 refine ⟨g,0,rfl,by rw [hg];simp,fun i x hi j u hu=>?_⟩
 rw [Nat.zero_add]
 exact h.cells hK hi j u hu
theorem ROn.nil:ROn f K W (.slice none 0 0) ([]:List α) fp:=⟨none,0,rfl,Nat.le_refl _,fun h=>absurd h (by simp)⟩
end
def RqOn (W:World) (v:Value) (r:Request) (fp:List Nat):Prop:=∃ vp vt vi,v=.agg (r.row vp vt vi)∧ROn Pair.cells 2 W vp r.pairs fp∧ROn GType.cells 7 W vt r.types fp∧ROn Item.cells 7 W vi r.items fp
abbrev fRq (v:Value) (r:Request) (fp:List Nat):Fact:=⟨fun W=>RqOn W v r fp,fp⟩
theorem fRq_ok (v:Value) (r:Request) (fp:List Nat):(fRq v r fp).ok:=fun _ _ ⟨vp,vt,vi,h0,h1,h2,h3⟩ _ hk=>⟨vp,vt,vi,h0,h1.keep hk,h2.keep hk,h3.keep hk⟩
theorem Sit.rq {w W:World} {L:List Fact} {v:Value} {r:Request} {fp:List Nat} (h:Sit w W L) (hm:fRq v r fp∈L) (hb:r.bulk≤16777216):RReq 16777216 W W.heap.size v r:=by
 obtain ⟨vp,vt,vi,rfl,h1,h2,h3⟩:=h.on _ hm
 unfold Request.bulk at hb
 have hlt:∀ b∈fp,b < W.heap.size:=fun b hb=>(h.lt _ hm b hb).2
 exact ⟨vp,vt,vi,rfl,h1.read (fun _=>rfl) (by omega) hlt,h2.read (fun _=>rfl) (by omega) hlt,h3.read (fun _=>rfl) (by omega) hlt⟩
section
variable {w W W':World} {L:List Fact} {g:Nat} {v:Value} {xs:List Int}
theorem below_sit (h:Sit w W L) (hx:RBytes w w.heap.size v xs) (hm:fCur g v xs.length∈L) (n:Int) (hn:n≤9223372036854775807):Calls Tryz.prog 133 #[.pointer (some ⟨g,0,none⟩),.int .i64 n] W fun e w'=>∃ x:Int,e=.returned (.int .i64 x)∧(0≤x∧(x < n ∨ x=0))∧Sit w w' L∧Tch [g] W w':=by
 refine (l1Below_any g v xs n W w.heap.size (h.on _ hm) (hx.keep (flat_mono _) (fun p hp=>h.low.cell hp) (Nat.le_refl _)) (h.lt _ hm g (by simp)).1 hn).mono ?_
 rintro e w1 ⟨_,rfl,⟨x,rfl,hx0,hx1⟩,hc1,ht1⟩
 exact ⟨x,rfl,⟨hx0,hx1⟩,h.again1 hm ht1 hc1,ht1⟩
end
section
variable {w W W':World} {L:List Fact} {g:Nat} {v:Value} {xs:List Int}
theorem once_sit (h:Sit w W L) (hx:RBytes w w.heap.size v xs) (hm:fCur g v xs.length∈L) (n:Int) (hn:n≤9223372036854775807):Calls Tryz.prog 155 #[.pointer (some ⟨g,0,none⟩),.int .i64 n] W fun e w'=>∃ x:Bool,e=.returned (.bool x)∧Sit w w' L:=by
 refine (l1Once_any g v xs n W w.heap.size (h.on _ hm) (hx.keep (flat_mono _) (fun p hp=>h.low.cell hp) (Nat.le_refl _)) (h.lt _ hm g (by simp)).1 hn).mono ?_
 rintro e w1 ⟨_,rfl,⟨x,rfl⟩,hc1,ht1⟩
 exact ⟨x,rfl,h.again1 hm ht1 hc1⟩
end
theorem ints_toList:∀ (l:List Value),(∀ u∈l,∃ x:Int,u=.int .i64 x)→∃ ys:List Int,l=ys.flatMap cI∧ys.length=l.length
 |[],_=>⟨[],rfl,rfl⟩
 |u::l,h=>by
  obtain ⟨x,rfl⟩:=h u (by simp)
  obtain ⟨ys,rfl,hl⟩:=ints_toList l (fun u hu=>h u (by simp [hu]))
  exact ⟨x::ys,rfl,by simp [hl]⟩
section
variable {w W W':World} {L:List Fact} {g q:Nat} {v:Value} {xs:List Int} {cs:Array Value}
theorem pick_sit (h:Sit w W L) (hx:RBytes w w.heap.size v xs) (hm:fCur g v xs.length∈L) (hb:fBox q cs 3∈L) (n c:Nat) (hn:n=cs.size) (hn0:0 < n) (hn1:n≤100) (hi:∀ u∈cs.toList,∃ x:Int,u=.int .i64 x):Calls Tryz.prog 156 #[.pointer (some ⟨g,0,none⟩),.slice (some ⟨q,0,none⟩) n c] W fun e w'=>∃ x:Int,e=.returned (.int .i64 x)∧Sit w w' L∧Tch [g] W w':=by
 obtain ⟨ys,hys,hyl⟩:=ints_toList cs.toList hi
 have hn':n=ys.length:=by rw [hyl,hn];simp
 subst hn'
 have hqg:q ≠ g:=by
  rintro rfl
  obtain ⟨_,_,_,_,h1⟩:=h.on _ hm
  have h2:W.heap[q]? = some (.cells cs 3 (0,0)):=h.on _ hb
  rw [h1] at h2
  simp at h2
 refine (l1PickInt_any g q v xs ys cs c W w.heap.size (h.on _ hm) (hx.keep (flat_mono _) (fun p hp=>h.low.cell hp) (Nat.le_refl _)) (h.lt _ hm g (by simp)).1 (h.on _ hb) hys (by omega) (by omega) hqg).mono ?_
 rintro e w1 ⟨_,rfl,⟨x,rfl,_⟩,hc1,ht1⟩
 exact ⟨x,rfl,h.again1 hm ht1 hc1,ht1⟩
end
end Go.Proofs.YtioijfplbgpjpaaGreat
namespace Go.Proofs.YtioijfplbgpjpaaGreat
set_option linter.unusedVariables false
set_option linter.unusedSimpArgs false
set_option maxRecDepth 100000
open Go.RowKit Go.WideShapes Go.ChangeShapes Go.ChangeAt Go.Deep
def rByt:World→Nat→List Value→Int→Prop:=fun _ _ cs x=>cs=cB x∧0≤x∧x≤255
theorem rByt_mono:RMono rByt:=fun _ _ _ _ _ _ _ _ h=>h
section
variable {H:Type} {enc:TypeId×Value→H} {P:Program} {w:World} {held:Bool}
theorem tells_byt {t:TypeId} {B:Nat} (ht:P.underlying t=some (.int .u8)):Tells enc P w held t B 1 rByt:=fun n cs y h _=>by
 obtain ⟨x,rfl,_,hx⟩:=DataW.trod_int ht h
 refine ⟨x,rfl,rfl,?_⟩
 have h1:IntKind.u8.min=0:=by decide
 have h2:IntKind.u8.max=255:=by decide
 simp [Lit.wf,h1,h2] at hx
 omega
end
abbrev RByts (bd:Nat) (w:World) (v:Value) (xs:List Int):Prop:=RL bd 1 rByt w w.heap.size v xs
theorem read_Bytes {H:Type} {enc:TypeId×Value→H} {w:World} {b0:Nat} {v:Value} {d:DataW H} {ps:List MemPlace} (hv:Value.okWide Tryz.prog w .any b0 63 v) (h:DataW.Trod enc Tryz.prog w 0 (fun _=>true) true 63 v d ps) (hlt:∀ p∈ps,p.block < w.heap.size) :
  ∃ xs,RByts 9223372036854775807 w v xs:=read_slice Tryz.underlying63 (by kernel_rfl) (by omega) (tells_byt Tryz.underlying5) hv h hlt
theorem big_any (v:Value) (xs:List Int) (w:World) (h:RByts 9223372036854775807 w v xs):Calls Tryz.prog 43 #[v] w fun e w'=>e=.returned (.bool (decide (1048576 < xs.length)))∧w=w':=by
 obtain ⟨E,e,rfl,hbd,_⟩:=h
 go_enter Tryz.func43,Tryz.ntmps43
 go_wp2_with fail
 go_ret
 exact ⟨ret_bool (by rw [decide_eq_decide];omega),rfl⟩
theorem RByts.plain {bd:Nat} {w:World} {v:Value} {xs:List Int} (h:RByts bd w v xs) (hl:xs.length≤1048576):RBytes w w.heap.size v xs:=h.weaken hl (fun _ _ _ h=>h.1)
theorem RByts.next {bd:Nat} {w w':World} {v:Value} {xs:List Int} (h:RByts bd w v xs) (hb:Below w.heap.size w w'):RByts bd w' v xs:=RL.next h rByt_mono hb
end Go.Proofs.YtioijfplbgpjpaaGreat
