/-
  Shelves: the reference's walk.
-/
import Derived.Test.YtioijfplbgpjpaaGreatKu08
import Derived.Test.YtioijfplbgpjpaaGreatKu09
import Derived.Test.YtioijfplbgpjpaaGreatKu13
import Derived.Deep.RegionHeld3
import Derived.Deep.DeepCutAuto
import Derived.Deep.RegionLaw
import Derived.Deep.RegionWith
import Derived.StillTailTactics
namespace Go.Proofs.YtioijfplbgpjpaaGreat
set_option linter.unusedVariables false
set_option linter.unusedSimpArgs false
set_option maxRecDepth 100000
open Go.RowKit Go.WideShapes Go.ChangeShapes Go.ChangeAt Go.Deep
theorem sapp_hShelf {ops:Array Oper} {o:Oper} {a:Act} {K:Act→World→Prop} {Q:Exit→Act→World→Prop} {E:Prop} {w:World} (s x:Operand) (hgd:o.guard=none)
  (ho:o.op=.call { callee:=.builtin .append,args:=#[s,x],argTypes:=#[207,207] }) {base:Nat} {v:Value} {zs:List (Shelf×Value)} {fp:List Nat} (y:Shelf×Value) {news:Array Value} {N:Nat} (hs:a.eval s=v)
  (hx:a.eval x=.slice (some ⟨N,0,none⟩) 1 1) (hN:w.heap[N]? = some (.cells news 218 (0,0))) (hy:news=(fz hdShelf y).toArray) (hown:OF (fz hdShelf) 218 5 w base v zs fp) (hl:zs.length < 16777216) (hbase:base≤w.heap.size)
  (h:∀ v' w',AppOF (fz hdShelf) 218 5 w base (zs ++ [y]) fp v' w'→K (a.put o.dst v') w'):if Region.wanted o (yielded ops a.tmps)=true then Oper.wp Tryz.prog o a w K Q else E:=by
 have hw:Region.wanted o (yielded ops a.tmps)=true:=by simp [Region.wanted,hgd]
 rw [if_pos hw]
 obtain ⟨i0,hi,hz0,hz1,hz2⟩:=info_parts info_hShelf
 have hr:=RL_one1 (f:=fz hdShelf) (K:=5) hN hy rfl (Nat.lt_succ_self N)
 exact wp_appAll w s x 207 ho base 218 i0 _ 5 56 Tryz.underlying207 hi hz0 hz1 hz2 rfl (by omega) v _ _ hs hown.1 1 _ (fz hdShelf) _ 1 1 [y] hx hr rfl (fun _=>rfl) one_hShelf (by unfold maxLen;omega) (by omega) hbase
  (fun v' w' h1 h2 h3=>h v' w' (OF.app_of_row (by rw [List.flatMap_append];exact h1) (by simp) h2 h3 hown.2))
set_option maxRecDepth 100000 in
set_option maxHeartbeats 4000000 in
theorem sShelves_any (p:Pallet) (v:Value) (bs:List Box) (w:World) (h:RL 16777216 4 (flat Box.cells) w w.heap.size v bs) (hsl:bs.length≤1048576):Calls Tryz.prog 235 #[p.val,v] w (MNest hdShelf 218 5 Shelf.list w (shelvesR p bs)):=by
 have HS:=Lib.hid h
 obtain ⟨E,e,rfl,hbd,_⟩:=h
 have SN:=Lib.hid (((((Sit.here w).alloc #[.int .i64 p.w,.int .i64 p.d,.int .i64 p.h,.int .i64 p.gram] 36).alloc #[] 218).boxNil (fz hdShelf) 5).addInn (inn:=Shelf.list) w.heap.size).rot2
 simp only [World.size_alloc] at SN
 obtain ⟨bp,hbp⟩:∃ b,boxesOk p bs=b:=⟨_,rfl⟩
 have HBP:=Lib.hid hbp
 have HM:=Lib.hid (show shelvesR p bs=if bp=true then (argDown (bs.map (·.d))).foldl (shelfStep p bs) [] else [] by unfold shelvesR;rw [hbp])
 clear hbp
 go_enter Tryz.func235,Tryz.ntmps235
 have k0:=SN.out.box (.tail _ (.tail _ (.head _)))
 have l0:=SN.out.boxlt (.tail _ (.tail _ (.head _)))
 go_wp2_with fail
 refine (sBoxesOk_any p _ bs _ (HS.out.next (flat_mono _) SN.out.low)).mono ?_
 rintro e1 w1 ⟨rfl,hb1⟩
 rw [HBP.out]
 have SN:=Lib.hid (SN.out.next hb1)
 clear k0 l0 hb1
 cases bp
 ·go_wp2
  go_ret
  exact SN.out.nest HM.out.symm
 ·have SK:=Lib.hid ((SN.out.alloc #[] 3).boxNil cI 1)
  go_wp2
  go_loopw [6,7] (fun vv i wr=>∃ (k:Nat) (fp:List Nat),k≤bs.length∧i=.int .i64 k∧Hid (Sit w wr [fOF cI 3 1 w.heap.size vv ((bs.take k).map (·.d)) fp,fOF (fz hdShelf) 218 5 w.heap.size (.slice (some ⟨w.heap.size + 1,0,none⟩) 0 0) [] [w.heap.size + 1],fInn Shelf.list w.heap.size [] [],fBox w.heap.size #[.int .i64 p.w,.int .i64 p.d,.int .i64 p.h,.int .i64 p.gram] 36])) (fun _ i _=>bs.length - (intOf i).toNat)
  case atStart=>exact ⟨0,_,Nat.zero_le _,rfl,SK⟩
  case round =>
   clear SN SK
   obtain ⟨k,fp,hk,rfl,SN⟩:=hrel
   by_cases hlt:k < bs.length
   ·obtain ⟨b,off,x,_,rfl,hb,hx,_,rfl,hc⟩:=(HS.out.next (flat_mono _) SN.out.low).at_ k hlt
    have hc1:=hc 1 _ rfl
    have HX:=Lib.hid (show (bs.take (k + 1)).map (·.d)=(bs.take k).map (·.d) ++ [x.d] by rw [List.take_add_one,hx,List.map_append];rfl)
    have hln:((bs.take k).map (·.d)).length≤1048576:=by simp;omega
    clear hc hx
    go_wp2_with (at_builtin;refine papp_Int _ _ rfl rfl (x.d) rfl rfl (heap_alloc_new _ _) rfl ((SN.out.list (.head _)).next (by repeat' with_reducible first | assumption | exact bR | apply bD | apply bA | apply bC | apply bN | simp <;> omega)) (by first | omega | (simp;omega)) (by have:=SN.out.low.size;first | omega | (simp;omega)) ?_;intro v7 w7 ha;obtain ⟨g7,S7⟩:=(SN.out.next (by repeat' with_reducible first | assumption | exact bR | apply bD | apply bA | apply bC | apply bN | simp <;> omega)).app ha;have S8:=Lib.hid S7;clear S7 ha)
    go_roundw
    case rel=>exact ⟨k + 1,_,hlt,by go_num,by rw [HX.out];exact S8⟩
    case measure=>simp [intOf] <;> omega
   ·obtain rfl:k=bs.length:=by omega
    rw [List.take_length] at SN
    have hkl:(bs.map (·.d)).length=bs.length:=by simp
    obtain ⟨KS,hKS⟩:∃ KS,bs.map (·.d)=KS:=⟨_,rfl⟩
    rw [hKS] at SN hkl
    have HM:=HM
    rw [hKS] at HM
    have HKL:=Lib.hid hkl
    clear hKS
    go_wp2_with fail
    refine (sSortDown_any _ KS _ (OInts.read (SN.out.list (.head _)) (by omega))).mono ?_
    intro e3 w3 hm
    obtain ⟨v3,f3,rfl,hS⟩:=SN.out.gotInts hm
    obtain ⟨G,g,rfl,_⟩:=(hS.list (.head _)).form
    have SN:=Lib.hid ((hS.rot2.drop).rot3.rot3)
    clear hS hm
    have hpl2:(ints (argDown KS)).length≤1048576:=by rw [ints_length,argDown_length];omega
    go_wp2
    go_loopw [5,9] (fun vv i wr=>∃ (k:Nat) (zs:List (Shelf×Value)) (f1 f2:List Nat),k≤(ints (argDown KS)).length∧i=.int .i64 k∧zs.map (·.1)=((argDown KS).take k).foldl (shelfStep p bs) []∧zs.length≤k∧(∀ z∈zs,z.1.list.length≤k)∧Hid (Sit w wr [fOF (fz hdShelf) 218 5 w.heap.size vv zs f1,fInn Shelf.list w.heap.size zs f2,fOF cI 3 1 w.heap.size (.slice G (ints (argDown KS)).length g) (ints (argDown KS)) f3,fBox w.heap.size #[.int .i64 p.w,.int .i64 p.d,.int .i64 p.h,.int .i64 p.gram] 36])) (fun _ i _=>(ints (argDown KS)).length - (intOf i).toNat)
    case atStart=>exact ⟨0,[],_,_,Nat.zero_le _,rfl,rfl,Nat.le_refl _,by simp,SN⟩
    case round =>
     clear SN
     obtain ⟨k,zs,f1,f2,hk,rfl,hz,hzl,hzi,SN⟩:=hrel
     by_cases hlt:k < (ints (argDown KS)).length
     ·obtain ⟨q,hq⟩:∃ q,(argDown KS)[k]? = some q:=⟨_,List.getElem?_eq_getElem (by rw [ints_length] at hlt;exact hlt)⟩
      have hqm:q < bs.length:=by have:=argDown_mem.1 (List.mem_of_getElem? hq);have:=HKL.out;omega
      obtain ⟨gg,cg,hvg,_,_⟩:=(SN.out.list (.tail _ (.tail _ (.head _)))).some (ints_get hq)
      injection hvg with e1 e2 e3
      subst e1 e3
      have hcg:=(SN.out.list (.tail _ (.tail _ (.head _)))).cells (fun _=>rfl) (ints_get hq) 0 (.int .i64 (q:Int)) rfl
      simp only [Nat.mul_one,Nat.add_zero] at hcg
      have hgl:=(SN.out.list (.tail _ (.tail _ (.head _)))).size.2.2.2
      obtain ⟨b,off,x,_,rfl,hb,hx,_,rfl,hc⟩:=(HS.out.next (flat_mono _) SN.out.low).at_ q hqm
      have hc0:=hc 0 _ rfl;have hc1:=hc 1 _ rfl;have hc2:=hc 2 _ rfl;have hc3:=hc 3 _ rfl;simp only [Nat.add_zero] at hc0
      have HZS:=Lib.hid (foldl_take_step (f:=shelfStep p bs) (b:=[]) hq)
      have HQ:=Lib.hid (ints_get hq)
      obtain ⟨L,hL⟩:∃ L,((argDown KS).take k).foldl (shelfStep p bs) []=L:=⟨_,rfl⟩
      rw [hL] at HZS hz
      have HBX:=Lib.hid (show bs.getD q default=x by rw [List.getD_eq_getElem?_getD,hx];rfl)
      have HZ:=Lib.hid hz
      have HZI:=Lib.hid hzi
      have HZL:=Lib.hid (map_fst_len hz)
      obtain ⟨bn,hbn⟩:∃ bn,(decide (0 < L.length) && shelfRoom p (lastD L) x)=bn:=⟨_,rfl⟩
      have HBN:=Lib.hid hbn
      have HG:=Lib.hid (show shelfStep p bs L q=if bn=true then setLast L (shelfAdd (lastD L) q x) else L ++ [shelfAdd default q x] by unfold shelfStep;rw [HBX.out,hbn])
      have SM:=Lib.hid (SN.out.alloc #[.int .i64 x.w,.int .i64 x.d,.int .i64 x.h,.int .i64 x.gram] 75)
      obtain ⟨F,c0,rfl,_⟩:=(SN.out.list (.head _)).form
      clear hc hx hL hz hzi hbn hq
      go_upto_region 15 with fail
      have kx:=SM.out.box (.head _)
      have lx:=SM.out.boxlt (.head _)
      have kp:=SM.out.box (.tail _ (.tail _ (.tail _ (.tail _ (.head _)))))
      have lp:=SM.out.boxlt (.tail _ (.tail _ (.tail _ (.tail _ (.head _)))))
      go_cut [5,11,79] (fun v5 v8 v57 X=>v5=.slice F zs.length c0∧v8=.int .i64 zs.length∧v57=.bool bn∧Hid (Sit w X [fBox wr.heap.size #[.int .i64 x.w,.int .i64 x.d,.int .i64 x.h,.int .i64 x.gram] 75,fOF (fz hdShelf) 218 5 w.heap.size (.slice F zs.length c0) zs f1,fInn Shelf.list w.heap.size zs f2,fOF cI 3 1 w.heap.size (.slice (some ⟨gg,0,none⟩) (ints (argDown KS)).length g) (ints (argDown KS)) f3,fBox w.heap.size #[.int .i64 p.w,.int .i64 p.d,.int .i64 p.h,.int .i64 p.gram] 36]))
      case first =>
       generalize wr.alloc (.cells #[.int .i64 x.w,.int .i64 x.d,.int .i64 x.h,.int .i64 x.gram] 75)=w0 at SM kx lx kp lp ⊢
       have kx0:=kx 0
       have kx3:=kx 3
       have kp0:=kp 0
       have kp3:=kp 3
       simp at kx0 kx3 kp0 kp3
       rcases Nat.eq_zero_or_pos zs.length with hz0 | hzp
       ·obtain rfl:zs=[]:=List.eq_nil_of_length_eq_zero hz0
        have HBT:=Lib.hid (show bn=false by rw [← HBN.out];have:=HZL.out;simp at this;simp [this.symm])
        refine wp_region_at (B:=w0.heap.size) (by kernel_rfl) (by kernel_rfl) ?_
        repeat (go_big_quiet_step (fail))
        refine wpQuiet_nil ?_
        intro wd hw'
        obtain ⟨Y,hY⟩:=hw'
        have hbd9:Below w0.heap.size w0 wd:=hY ▸ Y.ok
        clear hY Y
        go_wp2_with fail
        go_meet
        case rel=>exact ⟨rfl,rfl,by rw [HBT.out],Lib.hid (SM.out.next hbd9)⟩
       ·obtain ⟨m,hm⟩:∃ m,zs.length=m + 1:=⟨zs.length - 1,by omega⟩
        have hml:m < zs.length:=by omega
        obtain ⟨gz,cz,hvz,_,_⟩:=(SM.out.list (.tail _ (.head _))).some (List.getElem?_eq_getElem hml)
        injection hvz with e1 e2 e3
        subst e1 e3
        obtain ⟨z,hz⟩:∃ z,zs[m]? = some z:=⟨_,List.getElem?_eq_getElem hml⟩
        have hq1:=(SM.out.list (.tail _ (.head _))).cells (fun z=>rfl) hz 1 (.int .i64 z.1.w) rfl
        have hq4:=(SM.out.list (.tail _ (.head _))).cells (fun z=>rfl) hz 4 (.int .i64 z.1.gram) rfl
        have hgl:gz < w0.heap.size:=(SM.out.list (.tail _ (.head _))).size.2.2.2
        have HLA:=Lib.hid (show lastD L=z.1 by unfold lastD;rw [← HZ.out,List.length_map,hm];exact getD_map_fst hz)
        obtain ⟨d1,hd1⟩:∃ q,decide (IntKind.i64.wrap (z.1.w + x.w)≤p.w)=q:=⟨_,rfl⟩
        obtain ⟨d2,hd2⟩:∃ q,decide (IntKind.i64.wrap (z.1.gram + x.gram)≤p.gram)=q:=⟨_,rfl⟩
        have HBT:=Lib.hid (show bn=(d1 && d2) by rw [← HBN.out];unfold shelfRoom;rw [HLA.out,← hd1,← hd2,wrapE,wrapE,show decide (0 < L.length)=true from decide_eq_true (by have:=HZL.out;omega)];rfl)
        have hw2:IntKind.i64.wrap ((m:Int) + 1 - 1)=(m:Int):=by rw [IntKind.wrap_i64];omega
        have hw1:IntKind.i64.wrap (m:Int)=(m:Int):=by rw [IntKind.wrap_i64];omega
        have hi0:(0:Int)≤(m:Int):=by omega
        have hi1:(m:Int) < (m:Int) + 1:=by omega
        have hpos:decide ((0:Int) < (m:Int) + 1)=true:=decide_eq_true (by omega)
        have hpos2:decide ((0:Int) < ((m + 1:Nat):Int))=true:=decide_eq_true (by omega)
        have q1:=fun X:Ext w0.heap.size w0=>(X.ok.cell (p:=⟨gz,m * 5 + 1,none⟩) hgl).trans hq1
        have q4:=fun X:Ext w0.heap.size w0=>(X.ok.cell (p:=⟨gz,m * 5 + 4,none⟩) hgl).trans hq4
        have x0:=fun X:Ext w0.heap.size w0=>(X.ok.cell (p:=⟨wr.heap.size,0,none⟩) lx).trans kx0
        have x3:=fun X:Ext w0.heap.size w0=>(X.ok.cell (p:=⟨wr.heap.size,3,none⟩) lx).trans kx3
        have p0:=fun X:Ext w0.heap.size w0=>(X.ok.cell (p:=⟨w.heap.size,0,none⟩) lp).trans kp0
        have p3:=fun X:Ext w0.heap.size w0=>(X.ok.cell (p:=⟨w.heap.size,3,none⟩) lp).trans kp3
        have hd1w:decide (wrap64 (z.1.w + x.w)≤p.w)=d1:=by rw [← wrapE];exact hd1
        have hd2w:decide (wrap64 (z.1.gram + x.gram)≤p.gram)=d2:=by rw [← wrapE];exact hd2
        rw [hm]
        clear hz
        cases d1 <;> cases d2
        all_goals
         refine wp_region_at (B:=w0.heap.size) (by kernel_rfl) (by kernel_rfl) ?_
         repeat (go_big_quiet_step (fail))
         refine wpQuiet_nil ?_
         intro wd hw'
         obtain ⟨Y,hY⟩:=hw'
         have hbd9:Below w0.heap.size w0 wd:=hY ▸ Y.ok
         clear hY Y
         go_wp2_with fail
         go_meet
         case rel=>exact ⟨by rw [hm],by rw [hm];rfl,by rw [HBT.out];rfl,Lib.hid (SM.out.next hbd9)⟩
      case rest =>
       obtain ⟨rfl,rfl,rfl,SN2⟩:=hcut
       have SN:=SN2
       clear SN2 SM kx kp
       have hcg:=(SN.out.list (.tail _ (.tail _ (.tail _ (.head _))))).cells (fun _=>rfl) (show (ints (argDown KS))[k]? = some (q:Int) from HQ.out) 0 (.int .i64 (q:Int)) rfl
       simp only [Nat.mul_one,Nat.add_zero] at hcg
       have kx:=SN.out.box (.head _)
       have hgl9:gg < wc.heap.size:=(SN.out.list (.tail _ (.tail _ (.tail _ (.head _))))).size.2.2.2
       have lx9:=SN.out.boxlt (.head _)
       have HCC:=Lib.hid (show ∀ X:World,Below wc.heap.size wc X→X.cell? ⟨gg,k,none⟩=some (.int .i64 (q:Int))∧X.cell? ⟨wr.heap.size,0,none⟩=some (.int .i64 x.w)∧X.cell? ⟨wr.heap.size,1,none⟩=some (.int .i64 x.d)∧X.cell? ⟨wr.heap.size,2,none⟩=some (.int .i64 x.h)∧X.cell? ⟨wr.heap.size,3,none⟩=some (.int .i64 x.gram) from fun X hX=>by
        have hY:=SN.out.next hX
        exact ⟨(hX.cell (p:=⟨gg,k,none⟩) hgl9).trans hcg,hY.box (.head _) 0,hY.box (.head _) 1,hY.box (.head _) 2,hY.box (.head _) 3⟩)
       cases bn
       ·have HG2:=Lib.hid (show shelfStep p bs L q=L ++ [shelfAdd default q x] by rw [HG.out];rfl)
        go_wp2
        go_region_held3 (fun X=>X.cell? ⟨gg,k,none⟩=some (.int .i64 (q:Int))∧X.cell? ⟨wr.heap.size,0,none⟩=some (.int .i64 x.w)∧X.cell? ⟨wr.heap.size,1,none⟩=some (.int .i64 x.d)∧X.cell? ⟨wr.heap.size,2,none⟩=some (.int .i64 x.h)∧X.cell? ⟨wr.heap.size,3,none⟩=some (.int .i64 x.gram)) (first | (refine HCC.out _ ?_;(repeat' with_reducible first | assumption | exact bR | apply bD | apply bA | apply bC | apply bW | omega | simp <;> omega);done) | (exact ⟨o7,c7 0,c7 1,c7 2,c7 3⟩) | go_keep)
         (first
          |(go_at_call 301;refine (l10Add_any (default:Shelf) (.slice none 0 0) (q:Int) x _ ⟨none,0,rfl,⟨by simp [show (default:Shelf).list=[] from rfl],by simp [show (default:Shelf).list=[] from rfl]⟩,fun h=>by simp [show (default:Shelf).list=[] from rfl] at h⟩ (by simp [show (default:Shelf).list=[] from rfl])).mono ?_;rintro e9 w9 ⟨u9,f9,rfl,ho9,hb9⟩;have hn9:=bstep (a:=wc) (by (repeat' with_reducible first | assumption | exact bR | apply bD | apply bA | apply bC | apply bW | omega | simp <;> omega)) hb9;have hz9:=hn9.size;obtain ⟨C9,c9,rfl,_⟩:=ho9.form;have SA:=Lib.hid ((fOF_low (W':=w) ((SN.out.next (by (repeat' with_reducible first | assumption | exact bR | apply bD | apply bA | apply bC | apply bW | omega | simp <;> omega))).addOF hb9 ho9 (Nat.le_refl _)) (SN.out.next (by (repeat' with_reducible first | assumption | exact bR | apply bD | apply bA | apply bC | apply bW | omega | simp <;> omega))).low.size).rot2.ror4))
          |(refine sapp_hShelf (.tmp 95) (.tmp 103) rfl rfl (shelfAdd default q x,.slice C9 (shelfAdd default q x).list.length c9) rfl rfl (heap_alloc_new _ _) rfl ((SA.out.list (.tail _ (.head _))).next (by repeat' with_reducible first | assumption | exact bR | apply bD | apply bA | apply bC | apply bN | simp <;> omega)) (by first | omega | (simp;done) | (simp;omega)) (by have:=SA.out.low.size;first | omega | (simp;done) | (simp;omega)) ?_;intro v7 w7 ha;obtain ⟨g7,g8,S7⟩:=SA.out.pushed (x:=shelfAdd default q x) rfl (by repeat' with_reducible first | assumption | exact bR | apply bD | apply bA | apply bC | apply bN | simp <;> omega) ha;have S8:=Lib.hid S7;have c7:=S8.out.box (.tail _ (.tail _ (.head _)));have o7:=(S8.out.list (.tail _ (.tail _ (.tail _ (.head _))))).cells (fun _=>rfl) (show (ints (argDown KS))[k]? = some (q:Int) from HQ.out) 0 (.int .i64 (q:Int)) rfl;simp only [Nat.mul_one,Nat.add_zero] at o7;clear S7 ha))
        all_goals go_wp2
        all_goals go_roundw
        all_goals first
         |(case rel=>exact ⟨k + 1,zs ++ [(shelfAdd default q x,.slice C9 (shelfAdd default q x).list.length c9)],g7,g8,hlt,by go_num,by rw [HZS.out,HG2.out];exact map_fst_app HZ.out,by simp <;> omega,by
           intro y hy
           rcases List.mem_append.1 hy with hy | hy
           ·exact Nat.le_succ_of_le (HZI.out y hy)
           ·simp at hy;subst hy;simp [shelfAdd,show (default:Shelf).list=[] from rfl],Lib.hid (by first | exact S8.out.rot3.drop | exact S8.out.rot3.drop.drew)⟩)
         |(case measure=>simp [intOf];omega)
         |(case measure=>simp [intOf])
       ·have hzp:0 < zs.length:=by
         have h1:=HBN.out
         simp only [Bool.and_eq_true,decide_eq_true_eq] at h1
         have:=HZL.out
         omega
        obtain ⟨m,hm⟩:∃ m,zs.length=m + 1:=⟨zs.length - 1,by omega⟩
        have hml:m < zs.length:=by omega
        obtain ⟨gz,cz,hvz,_,_⟩:=(SN.out.list (.tail _ (.head _))).some (List.getElem?_eq_getElem hml)
        injection hvz with e1 e2 e3
        subst e1 e3
        obtain ⟨z,hz⟩:∃ z,zs[m]? = some z:=⟨_,List.getElem?_eq_getElem hml⟩
        have hq0:=(SN.out.list (.tail _ (.head _))).cells (fun z=>rfl) hz 0 (sv z.2) rfl
        have hq1:=(SN.out.list (.tail _ (.head _))).cells (fun z=>rfl) hz 1 (.int .i64 z.1.w) rfl
        have hq2:=(SN.out.list (.tail _ (.head _))).cells (fun z=>rfl) hz 2 (.int .i64 z.1.d) rfl
        have hq3:=(SN.out.list (.tail _ (.head _))).cells (fun z=>rfl) hz 3 (.int .i64 z.1.h) rfl
        have hq4:=(SN.out.list (.tail _ (.head _))).cells (fun z=>rfl) hz 4 (.int .i64 z.1.gram) rfl
        obtain ⟨fi,hoi⟩:=(SN.out.inns (.tail _ (.tail _ (.head _)))).read hz
        rw [sv_of hoi] at hq0
        simp only [Nat.add_zero] at hq0
        obtain ⟨UL,cl,hzf,_⟩:=hoi.form
        have hsl1:z.1.list.length≤1048576:=Nat.le_trans (HZI.out z (List.mem_of_getElem? hz)) (by omega)
        have HOI:=Lib.hid (OInts.read hoi (show z.1.list.length≤16777216 by omega))
        rw [hzf] at hq0 HOI
        have HZM:=Lib.hid hz
        have HG2:=Lib.hid (show shelfStep p bs L q=L.set m (shelfAdd z.1 q x) by rw [HG.out,show lastD L=z.1 by unfold lastD;rw [← HZ.out,List.length_map,hm];exact getD_map_fst hz];unfold setLast;rw [show L.length - 1=m by have:=HZL.out;omega];rfl)
        have hw2:IntKind.i64.wrap ((m:Int) + 1 - 1)=(m:Int):=by rw [IntKind.wrap_i64];omega
        have hw1:IntKind.i64.wrap (m:Int)=(m:Int):=by rw [IntKind.wrap_i64];omega
        have hi0:(0:Int)≤(m:Int):=by omega
        have hi1:(m:Int) < (m:Int) + 1:=by omega
        rw [hm] at SN ⊢
        clear hz hoi
        go_wp2
        go_region_with (first | (go_at_call 301;refine (l10Add_any z.1 (.slice UL z.1.list.length cl) (q:Int) x _ (RL.next HOI.out (flat_mono _) (by (repeat' with_reducible first | assumption | exact bR | apply bD | apply bA | apply bC | apply bW | omega | simp <;> omega))) hsl1).mono ?_;rintro e9 w9 ⟨u9,f9,rfl,ho9,hb9⟩;obtain ⟨C9,c9,rfl,_⟩:=ho9.form;have SF:=Lib.hid ((fOF_low (W':=w) ((SN.out.next (by (repeat' with_reducible first | assumption | exact bR | apply bD | apply bA | apply bC | apply bW | omega | simp <;> omega))).addOF hb9 ho9 (Nat.le_refl _)) (SN.out.next (by (repeat' with_reducible first | assumption | exact bR | apply bD | apply bA | apply bC | apply bW | omega | simp <;> omega))).low.size).rot2.ror4);have sc0:=(SF.out.list (.tail _ (.head _))).cells (fun z=>rfl) HZM.out 0 (sv z.2) rfl;have sc1:=(SF.out.list (.tail _ (.head _))).cells (fun z=>rfl) HZM.out 1 (.int .i64 z.1.w) rfl;have sc2:=(SF.out.list (.tail _ (.head _))).cells (fun z=>rfl) HZM.out 2 (.int .i64 z.1.d) rfl;have sc3:=(SF.out.list (.tail _ (.head _))).cells (fun z=>rfl) HZM.out 3 (.int .i64 z.1.h) rfl;have sc4:=(SF.out.list (.tail _ (.head _))).cells (fun z=>rfl) HZM.out 4 (.int .i64 z.1.gram) rfl;simp only [Nat.add_zero] at sc0;have scf:=fun o=>(SF.out.list (.tail _ (.head _))).free o))
        all_goals go_wp2
        all_goals
         obtain ⟨f9',S9⟩:=SF.out.replaced (k:=m) (x:=shelfAdd z.1 q x) (us:=[.slice C9 (shelfAdd z.1 q x).list.length c9,.int .i64 (shelfAdd z.1 q x).w,.int .i64 (shelfAdd z.1 q x).d,.int .i64 (shelfAdd z.1 q x).h,.int .i64 (shelfAdd z.1 q x).gram]) hml rfl (fun _ _=>rfl) (by simp) rfl
         have S9:=Lib.hid S9
         go_roundw
         case rel=>exact ⟨k + 1,zs.set m (shelfAdd z.1 q x,.slice C9 (shelfAdd z.1 q x).list.length c9),f1,f9',hlt,by go_num,by rw [HZS.out,HG2.out];exact map_fst_set HZ.out,by simp <;> omega,by
          intro y hy
          rcases List.mem_or_eq_of_mem_set hy with hy | rfl
          ·exact Nat.le_succ_of_le (HZI.out y hy)
          ·have:=HZI.out z (List.mem_of_getElem? HZM.out);simp [shelfAdd];omega,Lib.hid (by have h9:=S9.out.rot3.drop;simp only [setW,Nat.add_zero,Nat.zero_add] at h9 ⊢;first | exact h9 | exact h9.drew)⟩
         case measure=>simp [intOf] <;> omega
     ·obtain rfl:k=(ints (argDown KS)).length:=by omega
      have HZ:=Lib.hid (show zs.map (·.1)=shelvesR p bs by rw [HM.out,hz,List.take_of_length_le (by rw [ints_length];exact Nat.le_refl _)];rfl)
      go_wp2
      go_ret
      exact SN.out.nest HZ.out
end Go.Proofs.YtioijfplbgpjpaaGreat
