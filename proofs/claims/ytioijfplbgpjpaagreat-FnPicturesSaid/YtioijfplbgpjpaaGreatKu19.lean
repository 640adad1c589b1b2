/-
  An order that is drawn, right or not: the reference's walks.
-/
import Derived.Test.YtioijfplbgpjpaaGreatKu18
import Derived.Test.YtioijfplbgpjpaaGreatKu06
import Derived.Test.YtioijfplbgpjpaaGreatKu04
import Derived.Deep.RegionHeld3
import Derived.Deep.DeepCutAuto
import Derived.Deep.CutBlock
import Derived.Deep.RegionLaw
import Derived.Deep.RegionWith
import Derived.StillTailTactics
namespace Go.Proofs.YtioijfplbgpjpaaGreat
set_option linter.unusedVariables false
set_option linter.unusedSimpArgs false
set_option maxRecDepth 100000
open Go.RowKit Go.WideShapes Go.ChangeShapes Go.ChangeAt Go.Deep
theorem Sit.req3 {w W:World} {l:List Fact} {b:Nat} {vp vt vi:Value} {r:Request} {f1 f2 f3:List Nat} (h:Sit w W (fOF Pair.cells 165 2 b vp r.pairs f1::fOF GType.cells 142 7 b vt r.types f2::fOF Item.cells 152 7 b vi r.items f3::l)) (hb:r.bulk≤16777216):RReq 16777216 W W.heap.size (.agg (r.row vp vt vi)) r:=by
 unfold Request.bulk at hb
 exact ⟨vp,vt,vi,rfl,OF.read (h.list (.head _)) (fun _=>rfl) (by omega),OF.read (h.list (.tail _ (.head _))) (fun _=>rfl) (by omega),OF.read (h.list (.tail _ (.tail _ (.head _)))) (fun _=>rfl) (by omega)⟩
theorem perm_good (k t p y i b:Fact) {l:List Fact} : (k::t::p::y::i::b::l).Perm (b::p::y::k::t::i::l):=by
 refine (List.perm_middle (l₁:=[k,t,p,y,i])).trans (List.Perm.cons b ?_)
 refine (List.perm_middle (l₁:=[k,t])).trans (List.Perm.cons p ?_)
 exact (List.perm_middle (l₁:=[k,t])).trans (List.Perm.refl _)
set_option maxRecDepth 100000 in
set_option maxHeartbeats 40000000 in
theorem l5Good_any (g:Nat) (v:Value) (xs:List Int) (w W:World) (L:List Fact) (hS:Sit w W L) (hx:RBytes w w.heap.size v xs) (hm:fCur g v xs.length∈L):Calls Tryz.prog 213 #[.pointer (some ⟨g,0,none⟩)] W fun e w'=>∃ u r fp,e=.returned u∧Sit w w' (fRq u r fp::L)∧r.bulk≤80:=by
 have HB:=Lib.hid hx
 have HM:=Lib.hid hm
 have SN:=Lib.hid (hS.alloc cZ 41)
 clear hS hx hm
 go_enter Tryz.func213,Tryz.ntmps213
 go_upto_region 1 with fail
 generalize hW1:W.alloc (.cells cZ 41)=W1 at SN ⊢
 clear hW1
 go_wp2_with fail
 refine (l2Right_any g v xs _ _ _ SN.out HB.out (.tail _ HM.out)).mono ?_
 rintro e w2 ⟨u,r,fp,rfl,SN1,hbk,hT0⟩
 obtain ⟨vp,vt,vi,_,_,_,hu,o1,o2,o3,_,_⟩:=SN1.own (.head _)
 subst hu
 obtain ⟨A1,c1,rfl,_⟩:=o1.form
 obtain ⟨A2,c2,rfl,_⟩:=o2.form
 obtain ⟨A3,c3,rfl,_⟩:=o3.form
 clear o1 o2 o3
 obtain ⟨f1,f2,f3,_,SN3⟩:=SN1.apartReq
 have hbk':=hbk
 unfold Request.bulk at hbk'
 have SN4:=Lib.hid (SN3.alloc (cR r A1 c1 A2 c2 A3 c3) 41)
 clear SN SN1 SN3
 obtain ⟨b3,hb3⟩:∃ b,w2.heap.size=b:=⟨_,rfl⟩
 rw [hb3] at SN4
 have SN:Hid (Sit w _ (fOF Pair.cells 165 2 w.heap.size (.slice A1 r.pairs.length c1) r.pairs f1::fOF GType.cells 142 7 w.heap.size (.slice A2 r.types.length c2) r.types f2::fOF Item.cells 152 7 w.heap.size (.slice A3 r.items.length c3) r.items f3::fBox b3 (cR r A1 c1 A2 c2 A3 c3) 41::fBox W.heap.size cZ 41::L)):=Lib.hid SN4.out.down3
 clear SN4
 go_upto_region 2 with fail
 generalize w2.alloc (.cells (cR r A1 c1 A2 c2 A3 c3) 41)=W3 at SN ⊢
 clear hb3
 have k3:=SN.out.box (.tail _ (.tail _ (.tail _ (.head _))))
 go_wp2_with fail
 refine (sClass_any _ r _ (SN.out.req3 (by omega))).mono ?_
 rintro e2 w3 ⟨rfl,hb2⟩
 obtain ⟨c,hc⟩:∃ c,classOf r=c:=⟨_,rfl⟩
 rw [hc]
 clear hc
 have SN2:=Lib.hid (SN.out.next hb2)
 clear SN hb2 k3
 have SN:=SN2
 clear SN2
 have hb80:r.bulk≤80:=by omega
 go_upto_if 12 with fail
 go_cut [] (fun X=>∃ (r:Request) (vp vt vi:Value) (fp:List Nat),Hid (Sit w X (fR3 vp vt vi r.pairs r.types r.items fp::fBox b3 #[.int .i64 r.way,.int .i64 r.pallet.w,.int .i64 r.pallet.d,.int .i64 r.pallet.h,.int .i64 r.pallet.gram,.int .i64 r.classes,vp,vt,.int .i64 r.master,vi] 41::fBox W.heap.size cZ 41::L))∧r.bulk≤80)
 case first =>
  by_cases hz:c=0
  ·subst hz
   go_wp2_with fail
   go_meet
   exact ⟨r,_,_,_,_,Lib.hid SN.out.toR3,hb80⟩
  ·have hz':(c != 0)=true:=by simpa using hz
   have k3:=SN.out.box (.tail _ (.tail _ (.tail _ (.head _))))
   have f3z:=SN.out.free (.tail _ (.tail _ (.tail _ (.head _))))
   have SQ:Hid (Sit w ((((w3.setCell ⟨b3,1,none⟩ (.int .i64 30)).setCell ⟨b3,2,none⟩ (.int .i64 25)).setCell ⟨b3,3,none⟩ (.int .i64 24)).setCell ⟨b3,4,none⟩ (.int .i64 400)) (fOF Pair.cells 165 2 w.heap.size (.slice A1 r.pairs.length c1) r.pairs f1::fOF GType.cells 142 7 w.heap.size (.slice A2 r.types.length c2) r.types f2::fOF Item.cells 152 7 w.heap.size (.slice A3 r.items.length c3) r.items f3::fBox b3 #[.int .i64 r.way,.int .i64 30,.int .i64 25,.int .i64 24,.int .i64 400,.int .i64 r.classes,.slice A1 r.pairs.length c1,.slice A2 r.types.length c2,.int .i64 r.master,.slice A3 r.items.length c3] 41::fBox W.heap.size cZ 41::L)):=Lib.hid (((((SN.out.up3.store 1 (.int .i64 30)).store 2 (.int .i64 25)).store 3 (.int .i64 24)).store 4 (.int .i64 400)).down3)
   go_upto_region 4 with fail
   generalize (((w3.setCell ⟨b3,1,none⟩ (.int .i64 30)).setCell ⟨b3,2,none⟩ (.int .i64 25)).setCell ⟨b3,3,none⟩ (.int .i64 24)).setCell ⟨b3,4,none⟩ (.int .i64 400)=w4 at SQ ⊢
   clear SN k3 f3z hz hz'
   have SN:=SQ
   clear SQ
   have k3:=SN.out.box (.tail _ (.tail _ (.tail _ (.head _))))
   go_wp2_with fail
   refine (sMasterOf_any _ ⟨r.way,⟨30,25,24,400⟩,r.classes,r.pairs,r.types,r.master,r.items⟩ _ (Sit.req3 (r:=⟨r.way,⟨30,25,24,400⟩,r.classes,r.pairs,r.types,r.master,r.items⟩) SN.out (by unfold Request.bulk;show r.pairs.length + r.types.length + r.items.length≤_;omega))).mono ?_
   rintro e1 w5 ⟨rfl,hb1⟩
   obtain ⟨mm,hmm⟩:∃ mm,masterOf ⟨r.way,⟨30,25,24,400⟩,r.classes,r.pairs,r.types,r.master,r.items⟩=mm:=⟨_,rfl⟩
   rw [hmm]
   obtain ⟨t,tb⟩:=mm
   clear hmm
   have SQ:=Lib.hid ((((SN.out.next hb1).alloc #[.int .i64 t.id,.int .i64 t.w,.int .i64 t.h,.int .i64 t.d,.int .i64 t.tare,.int .i64 t.gram,.int .i64 t.cost] 142).alloc #[] 152).boxNil Item.cells 7)
   clear SN k3 hb1
   have SN:=SQ
   clear SQ
   simp only [World.size_alloc] at SN
   go_wp2
   go_loopw [6,7] (fun vv i wr=>∃ (k:Nat) (K:List Item) (fk:List Nat),k≤r.items.length∧i=.int .i64 k∧K.length≤k∧Hid (Sit w wr (fOF Item.cells 152 7 w.heap.size vv K fk::fBox w5.heap.size #[.int .i64 t.id,.int .i64 t.w,.int .i64 t.h,.int .i64 t.d,.int .i64 t.tare,.int .i64 t.gram,.int .i64 t.cost] 142::fOF Pair.cells 165 2 w.heap.size (.slice A1 r.pairs.length c1) r.pairs f1::fOF GType.cells 142 7 w.heap.size (.slice A2 r.types.length c2) r.types f2::fOF Item.cells 152 7 w.heap.size (.slice A3 r.items.length c3) r.items f3::fBox b3 #[.int .i64 r.way,.int .i64 30,.int .i64 25,.int .i64 24,.int .i64 400,.int .i64 r.classes,.slice A1 r.pairs.length c1,.slice A2 r.types.length c2,.int .i64 r.master,.slice A3 r.items.length c3] 41::fBox W.heap.size cZ 41::L))) (fun _ i _=>r.items.length - (intOf i).toNat)
   case atStart=>exact ⟨0,[],_,Nat.zero_le _,rfl,Nat.le_refl _,SN⟩
   case round =>
    clear SN
    obtain ⟨k,K,fk,hk,rfl,hkl,SN⟩:=hrel
    obtain ⟨CK,ck,rfl,_⟩:=(SN.out.list (.head _)).form
    have k3:=SN.out.box (.tail _ (.tail _ (.tail _ (.tail _ (.tail _ (.head _))))))
    have k39:=k3 9
    simp at k39
    clear k3
    by_cases hlt:k < r.items.length
    ·obtain ⟨x,hxk⟩:∃ z,r.items[k]? = some z:=⟨_,List.getElem?_eq_getElem hlt⟩
     obtain ⟨gi,rfl⟩:=head_ptr (SN.out.list (.tail _ (.tail _ (.tail _ (.tail _ (.head _)))))) hxk
     have HXK:=Lib.hid hxk
     obtain ⟨f,hf⟩:∃ f,fits x t=f:=⟨_,rfl⟩
     have HF:=Lib.hid hf
     have hc:=(SN.out.list (.tail _ (.tail _ (.tail _ (.tail _ (.head _)))))).cells (fun _=>rfl) hxk
     have lgi:=(SN.out.list (.tail _ (.tail _ (.tail _ (.tail _ (.head _)))))).size.2.2.2
     have l3:=SN.out.boxlt (.tail _ (.tail _ (.tail _ (.tail _ (.tail _ (.head _))))))
     have HCC:=Lib.hid (show ∀ X:World,Below wr.heap.size wr X→X.cell? ⟨b3,9,none⟩=some (.slice (some ⟨gi,0,none⟩) r.items.length c3)∧(cS7O (X) (gi) (k * 7) (x))∧(cT7 (X) (w5.heap.size) (t)) from fun X hX=>by
      have c1:=(SN.out.next hX).box (.tail _ (.head _))
      have hc:=((SN.out.next hX).list (.tail _ (.tail _ (.tail _ (.tail _ (.head _)))))).cells (fun _=>rfl) HXK.out
      have k3:=(SN.out.next hX).box (.tail _ (.tail _ (.tail _ (.tail _ (.tail _ (.head _))))))
      exact ⟨k3 9,⟨hc 0 _ rfl,hc 1 _ rfl,hc 2 _ rfl,hc 3 _ rfl,hc 4 _ rfl,hc 5 _ rfl,hc 6 _ rfl⟩,⟨c1 0,c1 1,c1 2,c1 3,c1 4,c1 5,c1 6⟩⟩)
     clear hxk hf
     go_wp2
     go_region_held3 (fun X=>X.cell? ⟨b3,9,none⟩=some (.slice (some ⟨gi,0,none⟩) r.items.length c3)∧(cS7O (X) (gi) (k * 7) (x))∧(cT7 (X) (w5.heap.size) (t))) (first | (refine HCC.out _ ?_;(repeat' with_reducible first | assumption | exact bR | apply bD | apply bA | apply bC | apply bW | omega | simp <;> omega);done) | go_keep)
      (first | (go_at_call 228;refine (sFits_any x t _).mono ?_;rintro e3 w6 ⟨rfl,hb3⟩;rw [HF.out];have hn3:=bstep (a:=wr) (by (repeat' with_reducible first | assumption | exact bR | apply bD | apply bA | apply bC | apply bW | omega | simp <;> omega)) hb3))
     have SQ:=Lib.hid (SN.out.next hn3)
     clear SN HCC hc k39
     have SN:=SQ
     clear SQ
     cases f
     ·go_wp2
      go_roundw
      case rel=>exact ⟨k + 1,K,fk,hlt,by go_num,by omega,SN⟩
      case measure=>simp [intOf] <;> omega
     ·have k3:=SN.out.box (.tail _ (.tail _ (.tail _ (.tail _ (.tail _ (.head _))))))
      have hc:=(SN.out.list (.tail _ (.tail _ (.tail _ (.tail _ (.head _)))))).cells (fun _=>rfl) HXK.out
      have hc0:=hc 0 _ rfl
      have hc1:=hc 1 _ rfl
      have hc2:=hc 2 _ rfl
      have hc3:=hc 3 _ rfl
      have hc4:=hc 4 _ rfl
      have hc5:=hc 5 _ rfl
      have hc6:=hc 6 _ rfl
      simp only [Nat.add_zero] at hc0
      clear hc
      go_wp2_with (at_builtin;refine papp_Item _ _ rfl rfl x rfl rfl (heap_alloc_new _ _) rfl ((SN.out.list (.head _)).next (by repeat' with_reducible first | assumption | exact bR | apply bD | apply bA | apply bC | apply bN | simp <;> omega)) (by first | omega | (simp;done) | (simp;omega)) (by have:=SN.out.low.size;first | omega | (simp;done) | (simp;omega)) ?_;intro v7 w7 ha;obtain ⟨g7,S7⟩:=(SN.out.next (by repeat' with_reducible first | assumption | exact bR | apply bD | apply bA | apply bC | apply bN | simp <;> omega)).app ha;have S8:=Lib.hid S7;clear S7 ha)
      go_roundw
      case rel=>exact ⟨k + 1,_,g7,hlt,by go_num,by simp <;> omega,S8⟩
      case measure=>simp [intOf] <;> omega
    ·obtain rfl:k=r.items.length:=by omega
     have k3:=SN.out.box (.tail _ (.tail _ (.tail _ (.tail _ (.tail _ (.head _))))))
     have f3z:=SN.out.free (.tail _ (.tail _ (.tail _ (.tail _ (.tail _ (.head _))))))
     go_wp2_with fail
     go_meet
     exact ⟨⟨r.way,⟨30,25,24,400⟩,r.classes,r.pairs,r.types,r.master,K⟩,_,_,.slice CK K.length ck,_,Lib.hid (((SN.out.perm (l2:=fBox b3 #[.int .i64 r.way,.int .i64 30,.int .i64 25,.int .i64 24,.int .i64 400,.int .i64 r.classes,.slice A1 r.pairs.length c1,.slice A2 r.types.length c2,.int .i64 r.master,.slice A3 r.items.length c3] 41::fOF Pair.cells 165 2 w.heap.size (.slice A1 r.pairs.length c1) r.pairs f1::fOF GType.cells 142 7 w.heap.size (.slice A2 r.types.length c2) r.types f2::fOF Item.cells 152 7 w.heap.size (.slice CK K.length ck) K fk::fBox w5.heap.size #[.int .i64 t.id,.int .i64 t.w,.int .i64 t.h,.int .i64 t.d,.int .i64 t.tare,.int .i64 t.gram,.int .i64 t.cost] 142::fOF Item.cells 152 7 w.heap.size (.slice A3 r.items.length c3) r.items f3::fBox W.heap.size cZ 41::L) (perm_good _ _ _ _ _ _)).store 9 (.slice CK K.length ck)).down3.toR3.sub (.cons_cons _ (.cons_cons _ (.cons _ (.cons _ (List.Sublist.refl _)))))),by unfold Request.bulk;show r.pairs.length + r.types.length + K.length≤80;omega⟩
 case rest =>
  obtain ⟨r',vp,vt,vi,fp,SN2,hb⟩:=hcut
  clear SN
  have SN:=SN2
  clear SN2
  have k3:=SN.out.box (.tail _ (.head _))
  have k2:=SN.out.box (.tail _ (.tail _ (.head _)))
  have f2:=SN.out.free (.tail _ (.tail _ (.head _)))
  obtain ⟨⟨A4,c4,rfl,_⟩,⟨A5,c5,rfl,_⟩,⟨A6,c6,rfl,_⟩⟩:=SN.out.on _ (.head _)
  go_wp2
  refine bodyPost_ret (v:=.agg #[.int .i64 r'.way,.int .i64 r'.pallet.w,.int .i64 r'.pallet.d,.int .i64 r'.pallet.h,.int .i64 r'.pallet.gram,.int .i64 r'.classes,.slice A4 r'.pairs.length c4,.slice A5 r'.types.length c5,.int .i64 r'.master,.slice A6 r'.items.length c6]) (by simp [results,Tryz.results213,go_sem,k2,f2]) rfl ?_
  have S9:=(SN.out.rot3.overL [.int .i64 r'.way,.int .i64 r'.pallet.w,.int .i64 r'.pallet.d,.int .i64 r'.pallet.h,.int .i64 r'.pallet.gram,.int .i64 r'.classes,.slice A4 r'.pairs.length c4,.slice A5 r'.types.length c5,.int .i64 r'.master,.slice A6 r'.items.length c6] 0).drop
  exact ⟨_,r',fp,rfl,S9.rot2.drop.toRq,hb⟩
theorem new_sit {v:Value} {xs:List Int} {w W:World} {L:List Fact} (hS:Sit w W L) (hx:RBytes w w.heap.size v xs):Calls Tryz.prog 134 #[v] W fun e w'=>∃ g,e=.returned (.pointer (some ⟨g,0,none⟩))∧Sit w w' (fCur g v xs.length::L):=by
 refine (l1New_any v xs W (hx.keep (flat_mono _) (fun p hp=>hS.low.cell hp) hS.low.size)).mono ?_
 rintro e w1 ⟨g,rfl,h1,h2,h3,h4⟩
 exact ⟨g,rfl,hS.add h4 (fCur g v xs.length) (fCur_ok _ _ _) h3 (by intro b hb;simp at hb;subst hb;exact ⟨h1,h2⟩)⟩
set_option maxRecDepth 100000 in
set_option maxHeartbeats 4000000 in
theorem DrawClass_any (v:Value) (xs:List Int) (w W:World) (L:List Fact) (hS:Sit w W L) (hx:RBytes w w.heap.size v xs):Calls Tryz.prog 158 #[v] W fun e w'=>∃ u r fp,e=.returned u∧Sit w w' (fRq u r fp::L)∧r.bulk≤80:=by
 have HB:=Lib.hid hx
 have SN:=Lib.hid (hS.alloc cZ 41)
 clear hS hx
 go_enter Tryz.func158,Tryz.ntmps158
 go_upto_region 1 with fail
 generalize hW1:W.alloc (.cells cZ 41)=W1 at SN ⊢
 clear hW1
 go_wp2_with fail
 refine (new_sit SN.out HB.out).mono ?_
 rintro e w1 ⟨g,rfl,SN1⟩
 have SN2:=Lib.hid SN1
 clear SN SN1
 have SN:=SN2
 clear SN2
 go_wp2_with fail
 refine (once_sit SN.out HB.out (.head _) _ (by first | decide | omega)).mono ?_;rintro e w1 ⟨o,rfl,SN1⟩;have SN2:=Lib.hid SN1;clear SN SN1;have SN:=SN2;clear SN2
 cases o
 case' true =>
  go_wp2_with fail
  refine (l5Good_any g v xs _ _ _ SN.out HB.out (.head _)).mono ?_
 case' false =>
  go_wp2_with fail
  refine (l2Draw_any g v xs _ _ _ SN.out HB.out (.head _)).mono ?_
 all_goals
  rintro e w2 ⟨u,r,fp,rfl,SN1,hb⟩
  obtain ⟨vp,vt,vi,rfl,⟨A4,c4,rfl,_⟩,⟨A5,c5,rfl,_⟩,⟨A6,c6,rfl,_⟩⟩:=SN1.on _ (.head _)
  have SN2:=Lib.hid SN1
  clear SN SN1
  have k2:=SN2.out.box (.tail _ (.tail _ (.head _)))
  have f2:=SN2.out.free (.tail _ (.tail _ (.head _)))
  go_wp2
  refine bodyPost_ret (v:=.agg #[.int .i64 r.way,.int .i64 r.pallet.w,.int .i64 r.pallet.d,.int .i64 r.pallet.h,.int .i64 r.pallet.gram,.int .i64 r.classes,.slice A4 r.pairs.length c4,.slice A5 r.types.length c5,.int .i64 r.master,.slice A6 r.items.length c6]) (by simp [results,Tryz.results158,go_sem,k2,f2]) rfl ?_
  have S9:=(SN2.out.rot3.overL [.int .i64 r.way,.int .i64 r.pallet.w,.int .i64 r.pallet.d,.int .i64 r.pallet.h,.int .i64 r.pallet.gram,.int .i64 r.classes,.slice A4 r.pairs.length c4,.slice A5 r.types.length c5,.int .i64 r.master,.slice A6 r.items.length c6] 0).drop
  exact ⟨_,r,fp,rfl,S9.sub (.cons_cons _ (.cons _ (List.Sublist.refl _))),hb⟩
end Go.Proofs.YtioijfplbgpjpaaGreat
