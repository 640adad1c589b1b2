/-
  Does a type hold a content: the reference's walk.
-/
import Derived.Test.YtioijfplbgpjpaaGreatKu09
import Derived.Deep.RegionHeld3
import Derived.Deep.DeepCutAuto
import Derived.Deep.RegionLaw
import Derived.Deep.RegionWith
import Derived.StillTailTactics
namespace Go.Proofs.YtioijfplbgpjpaaGreat
set_option linter.unusedVariables false
set_option linter.unusedSimpArgs false
set_option maxRecDepth 100000
open Go.RowKit Go.WideShapes Go.ChangeShapes Go.ChangeAt Go.Deep
set_option maxRecDepth 100000 in
set_option maxHeartbeats 2000000 in
theorem sHolds_any (v vu:Value) (r:Request) (us:List Int) (t:GType) (w:World) (h:RReq 16777216 w w.heap.size v r) (hu:RInts 16777216 w w.heap.size vu us) (hs:soundR r=true):Calls Tryz.prog 254 #[v,vu,t.val] w fun e w'=>e=.returned (.bool (holdsR r us t))∧Below w.heap.size w w':=by
 have HR:=Lib.hid h
 have HU:=Lib.hid hu
 have HI:=Lib.hid (show ∀ (i:Nat) (n:Int),(unitsR r)[i]? = some n→0≤n∧n.toNat < r.items.length from fun i n hn=>by have:=units_item hn;exact ⟨this.1,this.2.2⟩)
 have hul:(unitsR r).length≤12:=(right_of hs).nunits
 have HC:=Lib.hid (show classOf r=0 by rw [sound_dec] at hs;simpa using hs)
 have HM:=Lib.hid (show holdsR r us t=(us.all (holdsOne r t) && loadFits (loadOf r (unitsR r) us) t) by unfold holdsR;rw [hs];simp)
 obtain ⟨A1,c1,A2,c2,A3,c3,rfl,_⟩:=h.opn
 obtain ⟨E,e,rfl,hbd,_⟩:=hu
 have hS:=((Sit.here w).alloc (cR r A1 c1 A2 c2 A3 c3) 41).alloc #[.int .i64 t.id,.int .i64 t.w,.int .i64 t.h,.int .i64 t.d,.int .i64 t.tare,.int .i64 t.gram,.int .i64 t.cost] 142
 simp only [World.size_alloc] at hS
 have SN:=Lib.hid hS
 clear h hS hs
 go_enter Tryz.func254,Tryz.ntmps254
 have k0:=SN.out.box (.tail _ (.head _))
 have l0:=SN.out.boxlt (.tail _ (.head _))
 go_wp2_with fail
 refine (sClass_any _ r _ (HR.out.next SN.out.low)).mono ?_
 rintro e2 w2 ⟨rfl,hb2⟩
 rw [HC.out]
 have SN:=Lib.hid (SN.out.next hb2)
 clear k0 l0 hb2
 have k0:=SN.out.box (.tail _ (.head _))
 have l0:=SN.out.boxlt (.tail _ (.head _))
 go_wp2_with fail
 refine (l6Units_any _ r _ (HR.out.next SN.out.low) (by omega)).mono ?_
 intro e1 w1 hm
 obtain ⟨v1,fp,rfl,hS⟩:=SN.out.gotInts hm
 obtain ⟨D,d,rfl,_⟩:=(hS.list (.head _)).form
 have SN:=Lib.hid hS
 clear k0 l0 hS hm
 go_wp2
 go_loopw [8] (fun i wr=>∃ (k:Nat),k≤us.length∧i=.int .i64 k∧Hid ((us.drop k).all (holdsOne r t)=us.all (holdsOne r t))∧Hid (Sit w wr [fOF cI 3 1 w.heap.size (.slice D (unitsR r).length d) (unitsR r) fp,fBox (w.heap.size + 1) #[.int .i64 t.id,.int .i64 t.w,.int .i64 t.h,.int .i64 t.d,.int .i64 t.tare,.int .i64 t.gram,.int .i64 t.cost] 142,fBox w.heap.size (cR r A1 c1 A2 c2 A3 c3) 41])) (fun i _=>us.length - (intOf i).toNat)
 case atStart=>exact ⟨0,Nat.zero_le _,rfl,Lib.hid rfl,SN⟩
 case round =>
  clear SN
  obtain ⟨k,hk,rfl,HD,SN⟩:=hrel
  by_cases hlt:k < us.length
  ·obtain ⟨b,off,u,rfl,hb,hx,hc⟩:=HU.out.at1 k hlt
   have hc0:=hc _ rfl
   have HCK:=Lib.hid (show ∀ X:World,Below w.heap.size w X→X.cell? ⟨b,off + k,none⟩=some (.int .i64 u) from fun X hX=>(hX.cell (p:=⟨b,off + k,none⟩) hb).trans hc0)
   obtain ⟨q,hq⟩:∃ q,itemOf r (unitsR r) u=q:=⟨_,rfl⟩
   have HQ:=Lib.hid hq
   obtain ⟨ff,hff⟩:∃ ff,fits q.1 t=ff:=⟨_,rfl⟩
   have HF:=Lib.hid hff
   have HST:=Lib.hid (show (us.drop k).all (holdsOne r t)=((q.2 && ff) && (us.drop (k + 1)).all (holdsOne r t)) by rw [drop_cons hx,List.all_cons];unfold holdsOne;rw [hq,hff])
   clear hc hc0 hx hq hff
   go_upto_region 7 with fail
   go_cut [9,10] (fun v8 v9 X=>∃ g8,v8=.pointer (some ⟨g8,0,none⟩)∧v9=.bool q.2∧Hid (Sit w X (fBox g8 #[.int .i64 q.1.id,.int .i64 q.1.w,.int .i64 q.1.h,.int .i64 q.1.d,.int .i64 q.1.gram,.int .i64 q.1.cls,.int .i64 q.1.count] 152::[fOF cI 3 1 w.heap.size (.slice D (unitsR r).length d) (unitsR r) fp,fBox (w.heap.size + 1) #[.int .i64 t.id,.int .i64 t.w,.int .i64 t.h,.int .i64 t.d,.int .i64 t.tare,.int .i64 t.gram,.int .i64 t.cost] 142,fBox w.heap.size (cR r A1 c1 A2 c2 A3 c3) 41])))
   case first =>
    have HCC:=Lib.hid (show ∀ X:World,Below wr.heap.size wr X→(cS10 (X) (w.heap.size) (r) (.slice A1 r.pairs.length c1) (.slice A2 r.types.length c2) (.slice A3 r.items.length c3))∧X.cell? ⟨b,off + k,none⟩=some (.int .i64 u) from fun X hX=>by
     have hX:=SN.out.next hX
     have c0:=hX.box (g:=w.heap.size) (cs:=(cR r A1 c1 A2 c2 A3 c3)) (t:=41) mq
     exact ⟨⟨c0 0,c0 1,c0 2,c0 3,c0 4,c0 5,c0 6,c0 7,c0 8,c0 9⟩,HCK.out _ hX.low⟩)
    go_region_held3 (fun W'=>((cS10 (W') (w.heap.size) (r) (.slice A1 r.pairs.length c1) (.slice A2 r.types.length c2) (.slice A3 r.items.length c3)))∧W'.cell? ⟨b,off + k,none⟩=some (.int .i64 u)) (first | (refine HCC.out _ ?_;(repeat' with_reducible first | assumption | exact bR | apply bD | apply bA | apply bC | apply bW | omega | simp <;> omega);done) | go_keep) (first | (go_at_call 255;(try (first | refine calls_new ?_ | refine calls_newd ?_);intro hg);refine (l6Item_any _ _ r _ u _ (HR.out.next (SN.out.next (by (repeat' with_reducible first | assumption | exact bR | apply bD | apply bA | apply bC | apply bW | omega | simp <;> omega))).low) (OInts.read ((SN.out.next (by (repeat' with_reducible first | assumption | exact bR | apply bD | apply bA | apply bC | apply bW | omega | simp <;> omega))).list (.head _)) (by omega)) HI.out).mono ?_;rintro e w2 ⟨rfl,hb2⟩;rw [HQ.out];have hn2:=bstep (a:=wr) (by (repeat' with_reducible first | assumption | exact bR | apply bD | apply bA | apply bC | apply bW | omega | simp <;> omega)) hb2;have hz2:=hn2.size;have hj2:=hb2.size;(try simp only [World.size_alloc,World.size_drew] at hj2);have SE:=Lib.hid ((SN.out.drew.alloc #[.int .i64 0,.int .i64 0,.int .i64 0,.int .i64 0,.int .i64 0,.int .i64 0,.int .i64 0] 152));(first | (have SE:=Lib.hid (SE.out.next hb2)) | skip);have SN:=Lib.hid ((SN.out.next (by (repeat' with_reducible first | assumption | exact bR | apply bD | apply bA | apply bC | apply bW | omega | simp <;> omega))).next hb2);(try (have hg:=blk_next hg hb2;have hgc:=fun j=>cell_of_row _ _ j _ _ (0,0) hg;have hgf:=fun j=>frozen_of_row _ _ j _ _ hg;have hgl:=lt_of_block hg))))
    all_goals (go_wp2_with fail;go_meet)
    ·exact ⟨_,rfl,rfl,Lib.hid (SN.out.alloc _ _)⟩
    all_goals exact ⟨_,rfl,rfl,Lib.hid (SE.out.overL [.int .i64 q.1.id,.int .i64 q.1.w,.int .i64 q.1.h,.int .i64 q.1.d,.int .i64 q.1.gram,.int .i64 q.1.cls,.int .i64 q.1.count] 0)⟩
   case rest =>
    obtain ⟨g8,rfl,rfl,SN2⟩:=hcut
    have SN:=SN2
    clear SN2
    obtain ⟨q1,q2⟩:=q
    have k8:=SN.out.box (.head _)
    have k5:=SN.out.box (.tail _ (.tail _ (.head _)))
    cases q2
    ·go_wp2
     go_ret
     exact ⟨by rw [HM.out,← HD.out,HST.out];rfl,SN.out.low⟩
    ·cases ff
     ·go_wp2_with (go_at_call 228;refine (sFits_any q1 t _).mono ?_;rintro e w' ⟨rfl,hbf⟩;rw [HF.out];have SN:=Lib.hid (SN.out.next hbf))
      go_ret
      exact ⟨by rw [HM.out,← HD.out,HST.out];rfl,SN.out.low⟩
     ·go_wp2_with (go_at_call 228;refine (sFits_any q1 t _).mono ?_;rintro e w' ⟨rfl,hbf⟩;rw [HF.out];have SN:=Lib.hid (SN.out.next hbf))
      go_roundw
      case rel=>exact ⟨k + 1,hlt,by go_num,Lib.hid (by rw [← HD.out,HST.out];simp),Lib.hid SN.out.drop⟩
      case measure=>simp [intOf] <;> omega
  ·have HE:=Lib.hid (show us.all (holdsOne r t)=true by rw [← HD.out,List.drop_eq_nil_of_le (by omega)];rfl)
   have k0:=SN.out.box (.tail _ (.tail _ (.head _)))
   have l0:=SN.out.boxlt (.tail _ (.tail _ (.head _)))
   obtain ⟨G,hG⟩:∃ G,loadOf r (unitsR r) us=G:=⟨_,rfl⟩
   have HG:=Lib.hid hG
   obtain ⟨V,hV⟩:∃ V,vol t.w t.h t.d=V:=⟨_,rfl⟩
   have HV:=Lib.hid hV
   have HM2:=Lib.hid (show holdsR r us t=(decide (G.1≤V) && decide (G.2≤t.gram)) by rw [HM.out,HE.out,hG];unfold loadFits;rw [hV];rfl)
   clear hG hV
   go_wp2_with fail
   refine (l7Of_any _ _ _ r (unitsR r) us _ (HR.out.next SN.out.low) (OInts.read (SN.out.list (.head _)) (by omega)) (HU.out.next (flat_mono _) SN.out.low) HI.out).mono ?_
   rintro e3 w3 ⟨rfl,hb3⟩
   rw [HG.out]
   have SN:=Lib.hid ((SN.out.next hb3).alloc #[.int .i64 G.1,.int .i64 G.2] 270)
   clear k0 l0
   obtain ⟨db,hdb⟩:∃ db,decide (G.1≤V)=db:=⟨_,rfl⟩
   rw [hdb] at HM2
   cases db
   all_goals go_wp2
   all_goals generalize w3.alloc (.cells #[.int .i64 G.1,.int .i64 G.2] 270)=w4 at *
   all_goals have h0:w4.cell? ⟨w3.heap.size,0,none⟩=some (.int .i64 G.1):=SN.out.box (.head _) 0
   all_goals have h1:w4.cell? ⟨w3.heap.size,1,none⟩=some (.int .i64 G.2):=SN.out.box (.head _) 1
   all_goals have h2:w4.cell? ⟨w.heap.size + 1,1,none⟩=some (.int .i64 t.w):=SN.out.box (.tail _ (.tail _ (.head _))) 1
   all_goals have h3:w4.cell? ⟨w.heap.size + 1,2,none⟩=some (.int .i64 t.h):=SN.out.box (.tail _ (.tail _ (.head _))) 2
   all_goals have h4:w4.cell? ⟨w.heap.size + 1,3,none⟩=some (.int .i64 t.d):=SN.out.box (.tail _ (.tail _ (.head _))) 3
   all_goals have h5:w4.cell? ⟨w.heap.size + 1,5,none⟩=some (.int .i64 t.gram):=SN.out.box (.tail _ (.tail _ (.head _))) 5
   all_goals refine wp_region_still_lit (by kernel_rfl) (by kernel_rfl) ?_
   all_goals (repeat still_step)
   all_goals still_call (by have h:=sVolume_any t.w t.h t.d w4.drew;rw [HV.out] at h;exact still_of h)
   all_goals (repeat still_step)
   all_goals refine wpStill_nil ?_
   all_goals go_wp2
   all_goals go_ret
   all_goals exact ⟨by rw [HM2.out];rfl,SN.out.drew.low⟩
end Go.Proofs.YtioijfplbgpjpaaGreat
