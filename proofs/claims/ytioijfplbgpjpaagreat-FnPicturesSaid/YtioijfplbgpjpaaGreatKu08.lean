/-
  Layers: the reference's walk.
-/
import Derived.Test.YtioijfplbgpjpaaGreatKu07
import Derived.Deep.RegionHeld3
import Derived.Deep.DeepCutAuto
import Derived.Deep.RegionLaw
import Derived.Deep.RegionWith
import Derived.StillTailTactics
namespace Go.Proofs.YtioijfplbgpjpaaGreat
set_option linter.unusedVariables false
set_option linter.unusedSimpArgs false
set_option maxRecDepth 100000
open Go.RowKit Go.WideShapes Go.ChangeShapes Go.ChangeAt Go.Deep
theorem Sit.replaced {α:Type} {hd:α→Value→List Value} {inn:α→List Int} {e K B:Nat} {w W:World} {l:List Fact} {u:Value} {zs:List (α×Value)} {f f1 f2:List Nat} {x:α} {ys:List Int} {g n c k:Nat} {us:List Value} (h:Sit w W (fOF cI 3 1 B u ys f::fOF (fz hd) e K B (.slice (some ⟨g,0,none⟩) n c) zs f1::fInn inn B zs f2::l)) (hk:k < zs.length) (hx:inn x=ys) (hK:∀ x u,(hd x u).length=K) (hj:0 + us.length≤K) (hy:setL (fz hd zs[k]) 0 us=fz hd (x,u)):∃ f2',Sit w (setW W g (k * K + 0) us) (fOF (fz hd) e K B (.slice (some ⟨g,0,none⟩) n c) (zs.set k (x,u)) f1::fInn inn B (zs.set k (x,u)) f2'::l):=by
 obtain ⟨fo,fa,fb,h2⟩:=h.rot3.innOut (List.getElem?_eq_getElem hk)
 exact h2.drop.rot3.grown hk hx hK hj hy
theorem layer_same (p:Pallet) (L:List Layer) (x:Shelf) (k:Nat) {L2:List Layer} (h:L2=if layerNew p L x=true then L ++ [default] else L):layerStep p L (x,k)=setLast L2 (layerAdd (lastD L2) k x):=by
 subst h
 unfold layerStep
 split
 ·simp [setLast,lastD]
 ·rfl
set_option maxRecDepth 100000 in
set_option maxHeartbeats 4000000 in
theorem sLayersOf_any (p:Pallet) (v:Value) (ss:List Shelf) (w:World) (h:RL 16777216 5 (RNest hdShelf Shelf.list) w w.heap.size v ss) (hsl:ss.length≤1048576):Calls Tryz.prog 236 #[p.val,v] w (MNest hdLayer 216 4 Layer.shelves w (layersR p ss)):=by
 have HS:=Lib.hid h
 obtain ⟨E,e,rfl,hbd,_⟩:=h
 have SN:=Lib.hid (((((Sit.here w).alloc #[.int .i64 p.w,.int .i64 p.d,.int .i64 p.h,.int .i64 p.gram] 36).alloc #[] 216).boxNil (fz hdLayer) 4).addInn (inn:=Layer.shelves) w.heap.size).rot2
 simp only [World.size_alloc] at SN
 obtain ⟨bp,hbp⟩:∃ b,shelvesOk p ss=b:=⟨_,rfl⟩
 have HBP:=Lib.hid hbp
 have HM:=Lib.hid (show layersR p ss=if bp=true then ss.zipIdx.foldl (layerStep p) [] else [] by unfold layersR;rw [hbp])
 clear hbp
 go_enter Tryz.func236,Tryz.ntmps236
 have k0:=SN.out.box (.tail _ (.tail _ (.head _)))
 have l0:=SN.out.boxlt (.tail _ (.tail _ (.head _)))
 go_wp2_with fail
 refine (sShelvesOk_any p _ ss _ (HS.out.next (RNest_mono _ _) SN.out.low)).mono ?_
 rintro e1 w1 ⟨rfl,hb1⟩
 rw [HBP.out]
 have SN:=Lib.hid (SN.out.next hb1)
 clear k0 l0 hb1
 cases bp
 ·go_wp2
  go_ret
  exact SN.out.nest HM.out.symm
 ·go_wp2
  go_loopw [5,6] (fun vv i wr=>∃ (k:Nat) (zs:List (Layer×Value)) (f1 f2:List Nat),k≤ss.length∧i=.int .i64 k∧zs.map (·.1)=(ss.zipIdx.take k).foldl (layerStep p) []∧zs.length≤k∧(∀ z∈zs,z.1.shelves.length≤k)∧Hid (Sit w wr [fOF (fz hdLayer) 216 4 w.heap.size vv zs f1,fInn Layer.shelves w.heap.size zs f2,fBox w.heap.size #[.int .i64 p.w,.int .i64 p.d,.int .i64 p.h,.int .i64 p.gram] 36])) (fun _ i _=>ss.length - (intOf i).toNat)
  case atStart=>exact ⟨0,[],_,_,Nat.zero_le _,rfl,rfl,Nat.le_refl _,by simp,SN⟩
  case round =>
   clear SN
   obtain ⟨k,zs,f1,f2,hk,rfl,hz,hzl,hzi,SN⟩:=hrel
   by_cases hlt:k < ss.length
   ·obtain ⟨b,off,x,_,rfl,hb,hx,_,⟨ux,rfl,hru⟩,hc⟩:=(HS.out.next (RNest_mono _ _) SN.out.low).at_ k hlt
    obtain ⟨U,c,rfl,hbu,_⟩:=id hru
    have hc0:=hc 0 _ rfl
    have hc1:=hc 1 _ rfl
    have hc2:=hc 2 _ rfl
    have hc3:=hc 3 _ rfl
    have hc4:=hc 4 _ rfl
    simp only [Nat.add_zero] at hc0
    have HZS:=Lib.hid (show (ss.zipIdx.take (k + 1)).foldl (layerStep p) []=layerStep p ((ss.zipIdx.take k).foldl (layerStep p) []) (x,k) from foldl_take_step (by rw [List.getElem?_zipIdx,hx];simp))
    obtain ⟨L,hL⟩:∃ L,(ss.zipIdx.take k).foldl (layerStep p) []=L:=⟨_,rfl⟩
    rw [hL] at HZS hz
    have HZ:=Lib.hid hz
    have HZI:=Lib.hid hzi
    have HZL:=Lib.hid (map_fst_len hz)
    obtain ⟨bn,hbn⟩:∃ bn,layerNew p L x=bn:=⟨_,rfl⟩
    have HBN:=Lib.hid hbn
    have SM:=Lib.hid (SN.out.alloc #[.slice U x.list.length c,.int .i64 x.w,.int .i64 x.d,.int .i64 x.h,.int .i64 x.gram] 218)
    obtain ⟨F,g,rfl,_⟩:=(SN.out.list (.head _)).form
    clear hc hx hL hz hzi hbn
    go_upto_region 9 with fail
    have kx:=SM.out.box (.head _)
    have lx:=SM.out.boxlt (.head _)
    have kp:=SM.out.box (.tail _ (.tail _ (.tail _ (.head _))))
    have lp:=SM.out.boxlt (.tail _ (.tail _ (.tail _ (.head _))))
    go_cut [5,8,57] (fun v5 v8 v57 X=>v5=.slice F zs.length g∧v8=.int .i64 zs.length∧v57=.bool bn∧Hid (Sit w X [fBox wr.heap.size #[.slice U x.list.length c,.int .i64 x.w,.int .i64 x.d,.int .i64 x.h,.int .i64 x.gram] 218,fOF (fz hdLayer) 216 4 w.heap.size (.slice F zs.length g) zs f1,fInn Layer.shelves w.heap.size zs f2,fBox w.heap.size #[.int .i64 p.w,.int .i64 p.d,.int .i64 p.h,.int .i64 p.gram] 36]))
    case first =>
     generalize wr.alloc (.cells #[.slice U x.list.length c,.int .i64 x.w,.int .i64 x.d,.int .i64 x.h,.int .i64 x.gram] 218)=w0 at SM kx lx kp lp ⊢
     have kx2:=kx 2
     have kx4:=kx 4
     have kp1:=kp 1
     have kp3:=kp 3
     simp at kx2 kx4 kp1 kp3
     rcases Nat.eq_zero_or_pos zs.length with hz0 | hzp
     ·obtain rfl:zs=[]:=List.eq_nil_of_length_eq_zero hz0
      have HBT:=Lib.hid (show bn=true by rw [← HBN.out];unfold layerNew;have:=HZL.out;simp at this;simp [this.symm])
      refine wp_region_at (B:=w0.heap.size) (by kernel_rfl) (by kernel_rfl) ?_
      repeat (go_big_quiet_step (fail))
      refine wpQuiet_nil ?_
      intro wd hw'
      obtain ⟨Y,hY⟩:=hw'
      have hbd9:Below w0.heap.size w0 wd:=hY ▸ Y.ok
      clear hY Y
      go_wp2_with fail
      go_meet
      case rel=>exact ⟨rfl,rfl,by rw [HBT.out],Lib.hid (SM.out.next hbd9)⟩
     ·obtain ⟨m,hm⟩:∃ m,zs.length=m + 1:=⟨zs.length - 1,by omega⟩
      have hml:m < zs.length:=by omega
      obtain ⟨gz,cz,hvz,_,_⟩:=(SM.out.list (.tail _ (.head _))).some (List.getElem?_eq_getElem hml)
      injection hvz with e1 e2 e3
      subst e1 e3
      obtain ⟨z,hz⟩:∃ z,zs[m]? = some z:=⟨_,List.getElem?_eq_getElem hml⟩
      have hq1:=(SM.out.list (.tail _ (.head _))).cells (fun z=>rfl) hz 1 (.int .i64 z.1.d) rfl
      have hq3:=(SM.out.list (.tail _ (.head _))).cells (fun z=>rfl) hz 3 (.int .i64 z.1.gram) rfl
      have hgl:gz < w0.heap.size:=(SM.out.list (.tail _ (.head _))).size.2.2.2
      have HLA:=Lib.hid (show lastD L=z.1 by unfold lastD;rw [← HZ.out,List.length_map,hm];exact getD_map_fst hz)
      obtain ⟨d1,hd1⟩:∃ q,decide (p.d < IntKind.i64.wrap (z.1.d + x.d))=q:=⟨_,rfl⟩
      obtain ⟨d2,hd2⟩:∃ q,decide (p.gram < IntKind.i64.wrap (z.1.gram + x.gram))=q:=⟨_,rfl⟩
      have HBT:=Lib.hid (show bn=(d1 || d2) by rw [← HBN.out];unfold layerNew;rw [HLA.out,← hd1,← hd2,wrapE,wrapE,show decide (L.length=0)=false from decide_eq_false (by have:=HZL.out;omega)];rfl)
      have hw2:IntKind.i64.wrap ((m:Int) + 1 - 1)=(m:Int):=by rw [IntKind.wrap_i64];omega
      have hw1:IntKind.i64.wrap (m:Int)=(m:Int):=by rw [IntKind.wrap_i64];omega
      have hi0:(0:Int)≤(m:Int):=by omega
      have hi1:(m:Int) < (m:Int) + 1:=by omega
      have hne:((m:Int) + 1 == 0)=false:=by rw [beq_eq_false_iff_ne];omega
      have hne2:(((m + 1:Nat):Int) == 0)=false:=by rw [beq_eq_false_iff_ne];omega
      have q1:=fun X:Ext w0.heap.size w0=>(X.ok.cell (p:=⟨gz,m * 4 + 1,none⟩) hgl).trans hq1
      have q3:=fun X:Ext w0.heap.size w0=>(X.ok.cell (p:=⟨gz,m * 4 + 3,none⟩) hgl).trans hq3
      have x2:=fun X:Ext w0.heap.size w0=>(X.ok.cell (p:=⟨wr.heap.size,2,none⟩) lx).trans kx2
      have x4:=fun X:Ext w0.heap.size w0=>(X.ok.cell (p:=⟨wr.heap.size,4,none⟩) lx).trans kx4
      have p1:=fun X:Ext w0.heap.size w0=>(X.ok.cell (p:=⟨w.heap.size,1,none⟩) lp).trans kp1
      have p3:=fun X:Ext w0.heap.size w0=>(X.ok.cell (p:=⟨w.heap.size,3,none⟩) lp).trans kp3
      have hd1w:decide (p.d < wrap64 (z.1.d + x.d))=d1:=by rw [← wrapE];exact hd1
      have hd2w:decide (p.gram < wrap64 (z.1.gram + x.gram))=d2:=by rw [← wrapE];exact hd2
      rw [hm]
      clear hz
      cases d1 <;> cases d2
      all_goals
       refine wp_region_at (B:=w0.heap.size) (by kernel_rfl) (by kernel_rfl) ?_
       repeat (go_big_quiet_step (fail))
       refine wpQuiet_nil ?_
       intro wd hw'
       obtain ⟨Y,hY⟩:=hw'
       have hbd9:Below w0.heap.size w0 wd:=hY ▸ Y.ok
       clear hY Y
       go_wp2_with fail
       go_meet
       case rel=>exact ⟨by rw [hm],by rw [hm];rfl,by rw [HBT.out];rfl,Lib.hid (SM.out.next hbd9)⟩
    case rest =>
     obtain ⟨rfl,rfl,rfl,SN2⟩:=hcut
     have SN:=SN2
     clear SN2 SM
     obtain ⟨w0,rfl⟩:∃ W,W=wc:=⟨_,rfl⟩
     go_upto_if 57 with fail
     go_cut [5,8] (fun v5 v8 X=>∃ (ys:List (Layer×Value)) (F2:Option Addr) (g2:Nat) (f3 f4:List Nat),v5=.slice F2 ys.length g2∧v8=.int .i64 ys.length∧0 < ys.length∧ys.length≤k + 1∧(∀ z∈ys,z.1.shelves.length≤k)∧ys.map (·.1)=(if layerNew p L x=true then L ++ [default] else L)∧Hid (Sit w X [fOF (fz hdLayer) 216 4 w.heap.size (.slice F2 ys.length g2) ys f3,fInn Layer.shelves w.heap.size ys f4,fBox wr.heap.size #[.slice U x.list.length c,.int .i64 x.w,.int .i64 x.d,.int .i64 x.h,.int .i64 x.gram] 218,fBox w.heap.size #[.int .i64 p.w,.int .i64 p.d,.int .i64 p.h,.int .i64 p.gram] 36]))
     case first =>
      cases bn
      ·have hzp:0 < zs.length:=by
        have h1:=HBN.out
        unfold layerNew at h1
        simp only [Bool.or_eq_false_iff,decide_eq_false_iff_not] at h1
        have:=HZL.out
        omega
       go_wp2_with fail
       go_meet
       case rel=>exact ⟨zs,F,g,f1,f2,rfl,by go_num,hzp,by omega,HZI.out,by rw [HBN.out,HZ.out];rfl,Lib.hid (SN.out.ror3.rot2.rot2)⟩
      ·have SA:=Lib.hid (SN.out.ror3.rot2.rot2.addNil (f:=cI) (e:=3) (K:=1) w.heap.size)
       have HL2:=Lib.hid (show (zs ++ [((default:Layer),Value.slice none 0 0)]).map (·.1)=if layerNew p L x=true then L ++ [default] else L by rw [HBN.out];exact map_fst_app HZ.out)
       go_wp2_with (at_builtin;refine papp_hLayer _ _ rfl rfl ((default:Layer),.slice none 0 0) rfl rfl (alloc_at rfl) rfl ((SA.out.list (.tail _ (.head _))).next (by repeat' with_reducible first | assumption | exact bR | apply bD | apply bA | apply bC | apply bN | simp <;> omega)) (by first | omega | (simp;done) | (simp;omega)) (by have:=SN.out.low.size;first | omega | (simp;done) | (simp;omega)) ?_;intro v7 w7 ha;obtain ⟨g7,g8,S7⟩:=SA.out.pushed (x:=(default:Layer)) rfl (by repeat' with_reducible first | assumption | exact bR | apply bD | apply bA | apply bC | apply bN | simp <;> omega) ha;have S8:=Lib.hid S7;clear S7 ha;obtain ⟨F8,c8,rfl,_⟩:=(S8.out.list (.head _)).form)
       go_meet
       case rel=>exact ⟨zs ++ [((default:Layer),Value.slice none 0 0)],F8,c8,g7,g8,by simp,by simp,by simp,by simp <;> omega,by
        intro y hy
        rcases List.mem_append.1 hy with hy | hy
        ·exact HZI.out y hy
        ·simp at hy;subst hy;simp [show (default:Layer).shelves=[] from rfl],HL2.out,S8⟩
     case rest =>
      obtain ⟨ys,F2,g2,f3,f4,rfl,rfl,hyp,hyl,hyi,hym,SN2⟩:=hcut
      have SN:=SN2
      have HLS:=Lib.hid (layer_same p L x k hym)
      have HYI:=Lib.hid hyi
      clear SN2 hym hyi
      obtain ⟨m,hm⟩:∃ m,ys.length=m + 1:=⟨ys.length - 1,by omega⟩
      have hml:m < ys.length:=by omega
      obtain ⟨gz,cz,hvz,_,_⟩:=(SN.out.list (.head _)).some (List.getElem?_eq_getElem hml)
      injection hvz with e1 e2 e3
      subst e1 e3
      obtain ⟨z,hz⟩:∃ z,ys[m]? = some z:=⟨_,List.getElem?_eq_getElem hml⟩
      have hq0:=(SN.out.list (.head _)).cells (fun z=>rfl) hz 0 (sv z.2) rfl
      have hq1:=(SN.out.list (.head _)).cells (fun z=>rfl) hz 1 (.int .i64 z.1.d) rfl
      have hq2:=(SN.out.list (.head _)).cells (fun z=>rfl) hz 2 (.int .i64 z.1.h) rfl
      have hq3:=(SN.out.list (.head _)).cells (fun z=>rfl) hz 3 (.int .i64 z.1.gram) rfl
      obtain ⟨fi,hoi⟩:=(SN.out.inns (.tail _ (.head _))).read hz
      rw [sv_of hoi] at hq0
      simp only [Nat.add_zero] at hq0
      obtain ⟨UL,cl,hzf,_⟩:=hoi.form
      have hsl1:z.1.shelves.length≤1048576:=Nat.le_trans (HYI.out z (List.mem_of_getElem? hz)) (by omega)
      have HOI0:=Lib.hid (OInts.read hoi (show z.1.shelves.length≤16777216 by omega))
      rw [hzf] at hq0 HOI0
      have HZM:=Lib.hid hz
      have hgl:gz < wc.heap.size:=(SN.out.list (.head _)).size.2.2.2
      have HLS2:=Lib.hid (show layerStep p L (x,k)=(ys.map (·.1)).set m (layerAdd z.1 k x) by rw [HLS.out,show lastD (ys.map (·.1))=z.1 by unfold lastD;rw [List.length_map,hm];exact getD_map_fst hz];unfold setLast;rw [List.length_map,hm];rfl)
      have hw2:IntKind.i64.wrap ((m:Int) + 1 - 1)=(m:Int):=by rw [IntKind.wrap_i64];omega
      have hw1:IntKind.i64.wrap (m:Int)=(m:Int):=by rw [IntKind.wrap_i64];omega
      have hi0:(0:Int)≤(m:Int):=by omega
      have hi1:(m:Int) < (m:Int) + 1:=by omega
      have SM:=Lib.hid (SN.out.alloc #[.slice UL z.1.shelves.length cl,.int .i64 z.1.d,.int .i64 z.1.h,.int .i64 z.1.gram] 216)
      have hb9:Below wc.heap.size wc (wc.alloc (.cells #[.slice UL z.1.shelves.length cl,.int .i64 z.1.d,.int .i64 z.1.h,.int .i64 z.1.gram] 216)):=by (repeat' with_reducible first | assumption | exact bR | apply bD | apply bA | apply bC | apply bW | omega | simp <;> omega)
      rw [hm] at SM ⊢
      clear hz hoi
      go_upto_region 13 with fail
      obtain ⟨B9,hB9⟩:∃ B,wc.heap.size=B:=⟨_,rfl⟩
      rw [hB9] at SM ⊢
      generalize wc.alloc (.cells #[.slice UL z.1.shelves.length cl,.int .i64 z.1.d,.int .i64 z.1.h,.int .i64 z.1.gram] 216)=w0 at SM hb9 ⊢
      have HOI:=Lib.hid (RL.next HOI0.out (flat_mono _) hb9)
      have SN:=SM
      have HCC:=Lib.hid (show ∀ X:World,Below w0.heap.size w0 X→(X.cell? ⟨B9,0,none⟩=some (.slice UL z.1.shelves.length cl)∧X.cell? ⟨B9,1,none⟩=some (.int .i64 z.1.d)∧X.cell? ⟨B9,2,none⟩=some (.int .i64 z.1.h)∧X.cell? ⟨B9,3,none⟩=some (.int .i64 z.1.gram))∧X.cell? ⟨wr.heap.size,2,none⟩=some (.int .i64 x.d)∧X.cell? ⟨wr.heap.size,3,none⟩=some (.int .i64 x.h)∧X.cell? ⟨wr.heap.size,4,none⟩=some (.int .i64 x.gram) from fun X hX=>by
       have hY:=SN.out.next hX
       exact ⟨⟨hY.box (.head _) 0,hY.box (.head _) 1,hY.box (.head _) 2,hY.box (.head _) 3⟩,hY.box (.tail _ (.tail _ (.tail _ (.head _)))) 2,hY.box (.tail _ (.tail _ (.tail _ (.head _)))) 3,hY.box (.tail _ (.tail _ (.tail _ (.head _)))) 4⟩)
      have hgl0:gz < w0.heap.size:=Nat.lt_of_lt_of_le hgl hb9.size
      have hmem:=(SN.out.list (.tail _ (.head _))).size.2.1
      have hn1 : ¬ (B9=gz):=fun e=>(List.pairwise_cons.1 SN.out.apart).1 _ (.head _) B9 (by simp) (e ▸ hmem)
      have hn2 : ¬ (gz=B9):=fun e=>hn1 e.symm
      have hn3 : ¬ (gz=wr.heap.size):=fun e=>(List.pairwise_cons.1 (List.pairwise_cons.1 SN.out.apart).2).1 _ (.tail _ (.head _)) gz hmem (by simp [e])
      have hn4 : ¬ (wr.heap.size=gz):=fun e=>hn3 e.symm
      clear SM hq0 hq1 hq2 hq3 hb9 hmem
      go_region_held3 (fun X=>(X.cell? ⟨B9,0,none⟩=some (.slice UL z.1.shelves.length cl)∧X.cell? ⟨B9,1,none⟩=some (.int .i64 z.1.d)∧X.cell? ⟨B9,2,none⟩=some (.int .i64 z.1.h)∧X.cell? ⟨B9,3,none⟩=some (.int .i64 z.1.gram))∧X.cell? ⟨wr.heap.size,2,none⟩=some (.int .i64 x.d)∧X.cell? ⟨wr.heap.size,3,none⟩=some (.int .i64 x.h)∧X.cell? ⟨wr.heap.size,4,none⟩=some (.int .i64 x.gram)) (first | (refine HCC.out _ ?_;(repeat' with_reducible first | assumption | exact bR | apply bD | apply bA | apply bC | apply bW | omega | simp <;> omega);done) | go_keep)
       (first
        |(have hA:Sit _ _ _:=(((Sit.here w0).drew.alloc #[] 3)).boxNil cI 1;(try simp only [World.size_alloc,World.size_drew] at hA);have SA:=Lib.hid hA;clear hA;refine sappAll_Int (.tmp 72) (.tmp 74) rfl rfl rfl rfl (HOI.out.next (flat_mono _) SA.out.low) (SA.out.list (.head _)) (by first | omega | (simp;done) | (simp;omega)) (by have:=SA.out.low.size;first | omega | (simp;done) | (simp;omega)) ?_;intro v7 w7 ha;obtain ⟨g7,S7⟩:=SA.out.app ha;have SB:=Lib.hid S7;have hn7:=S7.low;have hz7:=S7.low.size;clear S7 ha;obtain ⟨C7,c7,rfl,_⟩:=(SB.out.list (.head _)).form;simp only [List.nil_append] at SB)
        |(have hA:Sit _ _ _:=((((Sit.here w0).drew.alloc #[] 3).alloc #[.int .i64 (k:Int)] 3).rot2).boxNil cI 1;(try simp only [World.size_alloc,World.size_drew] at hA);have SA:=Lib.hid hA;clear hA;refine sappAll_Int (.tmp 72) (.tmp 74) rfl rfl rfl rfl (HOI.out.next (flat_mono _) SA.out.low) (SA.out.list (.head _)) (by first | omega | (simp;done) | (simp;omega)) (by have:=SA.out.low.size;first | omega | (simp;done) | (simp;omega)) ?_;intro v7 w7 ha;obtain ⟨g7,S7⟩:=SA.out.app ha;have SB:=Lib.hid S7;have hn7:=S7.low;have hz7:=S7.low.size;clear S7 ha;obtain ⟨C7,c7,rfl,_⟩:=(SB.out.list (.head _)).form;simp only [List.nil_append] at SB)
        |(have hA:Sit _ _ _:=((((Sit.here w0).drew.alloc #[.int .i64 (k:Int)] 3).alloc #[] 3)).boxNil cI 1;(try simp only [World.size_alloc,World.size_drew] at hA);have SA:=Lib.hid hA;clear hA;refine sappAll_Int (.tmp 72) (.tmp 74) rfl rfl rfl rfl (HOI.out.next (flat_mono _) SA.out.low) (SA.out.list (.head _)) (by first | omega | (simp;done) | (simp;omega)) (by have:=SA.out.low.size;first | omega | (simp;done) | (simp;omega)) ?_;intro v7 w7 ha;obtain ⟨g7,S7⟩:=SA.out.app ha;have SB:=Lib.hid S7;have hn7:=S7.low;have hz7:=S7.low.size;clear S7 ha;obtain ⟨C7,c7,rfl,_⟩:=(SB.out.list (.head _)).form;simp only [List.nil_append] at SB)
        |(have hA:Sit _ _ _:=SB.out;(try simp only [World.size_alloc,World.size_drew] at hA);have SX:=Lib.hid hA;clear hA;refine sapp_Int (.tmp 75) (.tmp 77) rfl rfl ((k:Int)) rfl rfl (SX.out.on _ (.tail _ (.head _))) rfl (SX.out.list (.head _)) (by first | omega | (simp;done) | (simp;omega)) (by have:=SX.out.low.size;first | omega | (simp;done) | (simp;omega)) ?_;intro v9 w9 ha;obtain ⟨g9,S9⟩:=SX.out.app ha;have SC:=Lib.hid S9;have hn9:=S9.low;have hz9:=S9.low.size;clear S9 ha;obtain ⟨C9,c9,rfl,_⟩:=(SC.out.list (.head _)).form;simp only [List.length_append,List.length_cons,List.length_nil,Nat.zero_add] at SC;have SF:=Lib.hid (SN.out.join (Sit.take (l1:=[_]) SC.out));have sc0:=(SF.out.list (.tail _ (.tail _ (.head _)))).cells (fun z=>rfl) HZM.out 0 (sv z.2) rfl;have sc1:=(SF.out.list (.tail _ (.tail _ (.head _)))).cells (fun z=>rfl) HZM.out 1 (.int .i64 z.1.d) rfl;have sc2:=(SF.out.list (.tail _ (.tail _ (.head _)))).cells (fun z=>rfl) HZM.out 2 (.int .i64 z.1.h) rfl;have sc3:=(SF.out.list (.tail _ (.tail _ (.head _)))).cells (fun z=>rfl) HZM.out 3 (.int .i64 z.1.gram) rfl;simp only [Nat.add_zero] at sc0;have scf:=fun o=>(SF.out.list (.tail _ (.tail _ (.head _)))).free o)
        |(have hA:Sit _ _ _:=(SB.out.alloc #[.int .i64 (k:Int)] 3).rot2;(try simp only [World.size_alloc,World.size_drew] at hA);have SX:=Lib.hid hA;clear hA;refine sapp_Int (.tmp 75) (.tmp 77) rfl rfl ((k:Int)) rfl rfl (SX.out.on _ (.tail _ (.head _))) rfl (SX.out.list (.head _)) (by first | omega | (simp;done) | (simp;omega)) (by have:=SX.out.low.size;first | omega | (simp;done) | (simp;omega)) ?_;intro v9 w9 ha;obtain ⟨g9,S9⟩:=SX.out.app ha;have SC:=Lib.hid S9;have hn9:=S9.low;have hz9:=S9.low.size;clear S9 ha;obtain ⟨C9,c9,rfl,_⟩:=(SC.out.list (.head _)).form;simp only [List.length_append,List.length_cons,List.length_nil,Nat.zero_add] at SC;have SF:=Lib.hid (SN.out.join (Sit.take (l1:=[_]) SC.out));have sc0:=(SF.out.list (.tail _ (.tail _ (.head _)))).cells (fun z=>rfl) HZM.out 0 (sv z.2) rfl;have sc1:=(SF.out.list (.tail _ (.tail _ (.head _)))).cells (fun z=>rfl) HZM.out 1 (.int .i64 z.1.d) rfl;have sc2:=(SF.out.list (.tail _ (.tail _ (.head _)))).cells (fun z=>rfl) HZM.out 2 (.int .i64 z.1.h) rfl;have sc3:=(SF.out.list (.tail _ (.tail _ (.head _)))).cells (fun z=>rfl) HZM.out 3 (.int .i64 z.1.gram) rfl;simp only [Nat.add_zero] at sc0;have scf:=fun o=>(SF.out.list (.tail _ (.tail _ (.head _)))).free o)
        |(go_at_call 90;refine (l1Max_any _ _ _).mono ?_;rintro e w' ⟨rfl,rfl⟩))
      all_goals go_wp2
      all_goals
       obtain ⟨f9',S9⟩:=((fOF_low (W':=w) SF.out SN.out.low.size).rot2.drop).replaced (k:=m) (x:=layerAdd z.1 k x) (us:=[.slice C9 (z.1.shelves.length + 1) c9,.int .i64 (wrap64 (z.1.d + x.d)),.int .i64 (max z.1.h x.h),.int .i64 (wrap64 (z.1.gram + x.gram))]) hml rfl (fun _ _=>rfl) (by simp) rfl
       have S9:=Lib.hid S9
       go_roundw
       case rel=>exact ⟨k + 1,ys.set m (layerAdd z.1 k x,.slice C9 (z.1.shelves.length + 1) c9),f3,f9',hlt,by go_num,by rw [HZS.out,HLS2.out];exact map_fst_set rfl,by simp <;> omega,by
        intro y hy
        rcases List.mem_or_eq_of_mem_set hy with hy | rfl
        ·exact Nat.le_succ_of_le (HYI.out y hy)
        ·have:=HYI.out z (List.mem_of_getElem? HZM.out);simp [layerAdd];omega,Lib.hid (by (try simp only [wrapE]);have h9:=S9.out.rot3.drop;simp only [setW,Nat.add_zero,Nat.zero_add] at h9 ⊢;first | exact h9 | exact h9.drew)⟩
       case measure=>simp [intOf] <;> omega
   ·obtain rfl:k=ss.length:=by omega
    have HZ:=Lib.hid (show zs.map (·.1)=layersR p ss by rw [HM.out,hz,List.take_of_length_le (by simp)];rfl)
    go_wp2
    go_ret
    exact SN.out.nest HZ.out
end Go.Proofs.YtioijfplbgpjpaaGreat
