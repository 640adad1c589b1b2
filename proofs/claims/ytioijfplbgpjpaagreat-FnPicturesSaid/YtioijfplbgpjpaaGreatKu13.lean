/-
  Next fit: the reference's walk.
-/
import Derived.Test.YtioijfplbgpjpaaGreatKu12
import Derived.Deep.RegionHeld3
import Derived.Deep.DeepCutAuto
import Derived.Deep.RegionLaw
import Derived.Deep.RegionWith
import Derived.StillTailTactics
import Derived.Test.YtioijfplbgpjpaaGreatKu02
import Derived.Test.YtioijfplbgpjpaaGreatKu11
namespace Go.Proofs.YtioijfplbgpjpaaGreat
set_option linter.unusedVariables false
set_option linter.unusedSimpArgs false
set_option maxRecDepth 100000
open Go.RowKit Go.WideShapes Go.ChangeShapes Go.ChangeAt Go.Deep
set_option maxRecDepth 100000 in
set_option maxHeartbeats 4000000 in
theorem l7Next_any (v vu:Value) (r:Request) (us:List Int) (w:World) (h:RReq 16777216 w w.heap.size v r) (hu:RInts 16777216 w w.heap.size vu us) (hs:soundR r=true) (hul:us.length≤1048576):Calls Tryz.prog 338 #[v,vu] w (MNest hdInts 53 1 innI w (nextR r us)):=by
 have HR:=Lib.hid h
 have HU:=Lib.hid hu
 have HI:=Lib.hid (show ∀ (i:Nat) (n:Int),(unitsR r)[i]? = some n→0≤n∧n.toNat < r.items.length from fun i n hn=>by have:=units_item hn;exact ⟨this.1,this.2.2⟩)
 have hal:(unitsR r).length≤12:=(right_of hs).nunits
 obtain ⟨A1,c1,A2,c2,A3,c3,rfl,_⟩:=h.opn
 obtain ⟨E,e,rfl,hbd,_⟩:=hu
 have SN:=Lib.hid ((Sit.here w).alloc (cR r A1 c1 A2 c2 A3 c3) 41)
 clear h hs
 go_enter Tryz.func338,Tryz.ntmps338
 have k0:=SN.out.box (.head _)
 have l0:=SN.out.boxlt (.head _)
 go_wp2_with fail
 refine (sMasterOf_any _ r _ (HR.out.next SN.out.low)).mono ?_
 rintro e1 w1 ⟨rfl,hb1⟩
 obtain ⟨mm,hmm⟩:∃ mm,masterOf r=mm:=⟨_,rfl⟩
 have HM:=Lib.hid (show nextR r us=us.foldl (nextStep r (unitsR r) mm.1) [] by unfold nextR;rw [hmm])
 rw [hmm]
 obtain ⟨t,tb⟩:=mm
 have SN:=Lib.hid ((SN.out.next hb1).alloc #[.int .i64 t.id,.int .i64 t.w,.int .i64 t.h,.int .i64 t.d,.int .i64 t.tare,.int .i64 t.gram,.int .i64 t.cost] 142)
 clear k0 l0 hb1 hmm
 have k0:=SN.out.box (.tail _ (.head _))
 have l0:=SN.out.boxlt (.tail _ (.head _))
 go_wp2_with fail
 refine (l6Units_any _ r _ (HR.out.next SN.out.low) (by omega)).mono ?_
 intro e2 w2 hm
 obtain ⟨v2,fa,rfl,hS⟩:=SN.out.gotInts hm
 obtain ⟨D,d,rfl,_⟩:=(hS.list (.head _)).form
 have SN:=Lib.hid ((((hS.alloc #[] 53).boxNil (fz hdInts) 1).addInn (inn:=innI) w.heap.size).rot2)
 clear k0 l0 hS hm
 go_wp2
 go_loopw [8,9] (fun vv i wr=>∃ (k:Nat) (zs:List (List Int×Value)) (f1 f2:List Nat),k≤us.length∧i=.int .i64 k∧zs.map (·.1)=(us.take k).foldl (nextStep r (unitsR r) t) []∧zs.length≤k∧(∀ z∈zs,z.1.length≤k)∧Hid (Sit w wr [fOF (fz hdInts) 53 1 w.heap.size vv zs f1,fInn innI w.heap.size zs f2,fOF cI 3 1 w.heap.size (.slice D (unitsR r).length d) (unitsR r) fa,fBox w1.heap.size #[.int .i64 t.id,.int .i64 t.w,.int .i64 t.h,.int .i64 t.d,.int .i64 t.tare,.int .i64 t.gram,.int .i64 t.cost] 142,fBox w.heap.size (cR r A1 c1 A2 c2 A3 c3) 41])) (fun _ i _=>us.length - (intOf i).toNat)
 case atStart=>exact ⟨0,[],_,_,Nat.zero_le _,rfl,rfl,Nat.le_refl _,by simp,SN⟩
 case round =>
  clear SN
  obtain ⟨k,zs,f1,f2,hk,rfl,hz,hzl,hzi,SN⟩:=hrel
  by_cases hlt:k < us.length
  ·obtain ⟨b,off,u,rfl,hb,hx,hc⟩:=HU.out.at1 k hlt
   have hc0:=hc _ rfl
   have HCK:=Lib.hid (show ∀ X:World,Below w.heap.size w X→X.cell? ⟨b,off + k,none⟩=some (.int .i64 u) from fun X hX=>(hX.cell (p:=⟨b,off + k,none⟩) hb).trans hc0)
   have hcr:=HCK.out wr SN.out.low
   have hbw:b < w.heap.size:=hb
   have HS:=Lib.hid (foldl_take_step (f:=nextStep r (unitsR r) t) (b:=[]) hx)
   obtain ⟨L,hL⟩:∃ L,(us.take k).foldl (nextStep r (unitsR r) t) []=L:=⟨_,rfl⟩
   rw [hL] at HS hz
   have HZ:=Lib.hid hz
   have HZI:=Lib.hid hzi
   have HZL:=Lib.hid (map_fst_len hz)
   clear hL hz hzi hc hc0 hx
   obtain ⟨F,g,rfl,_⟩:=(SN.out.list (.head _)).form
   rcases Nat.eq_zero_or_pos zs.length with hz0 | hzp
   ·obtain rfl:zs=[]:=List.eq_nil_of_length_eq_zero hz0
    have HG:=Lib.hid (show nextStep r (unitsR r) t L u=L ++ [[u]] by unfold nextStep;rw [if_neg (by have:=HZL.out;simp at this;simp;intro h;omega)])
    go_wp2
    clear hcr
    refine wp_region_at (B:=wr.heap.size) (by kernel_rfl) (by kernel_rfl) ?_
    repeat (go_big_quiet_step (fail))
    refine wpQuiet_nil ?_
    intro wd hw'
    obtain ⟨Y,hY⟩:=hw'
    have hbd9:Below wr.heap.size wr wd:=hY ▸ Y.ok
    clear hY Y
    have SN:=Lib.hid (SN.out.next hbd9)
    have hcr:=HCK.out wd SN.out.low
    have SA:=Lib.hid ((SN.out.alloc #[.int .i64 u] 3).boxRow (f:=cI) (K:=1) [u] rfl (fun _=>rfl) (by unfold maxLen;simp))
    go_wp2_with (at_builtin;refine papp_hInts _ _ rfl rfl ([u],.slice (some ⟨wd.heap.size,0,none⟩) 1 1) rfl rfl (alloc_at (by simp)) rfl ((SA.out.list (.tail _ (.head _))).next (by repeat' with_reducible first | assumption | exact bR | apply bD | apply bA | apply bC | apply bN | simp <;> omega)) (by first | omega | (simp;done) | (simp;omega)) (by have:=SN.out.low.size;first | omega | (simp;done) | (simp;omega)) ?_;intro v7 w7 ha;obtain ⟨g7,g8,S7⟩:=SA.out.pushed (x:=[u]) rfl (by repeat' with_reducible first | assumption | exact bR | apply bD | apply bA | apply bC | apply bN | simp <;> omega) ha;have S8:=Lib.hid S7;clear S7 ha)
    go_roundw
    case rel=>exact ⟨k + 1,_,_,_,hlt,by go_num,by rw [HS.out,HG.out];exact map_fst_app HZ.out,by simp <;> omega,by
     intro z hz
     rcases List.mem_append.1 hz with hz | hz
     ·exact Nat.le_succ_of_le (HZI.out z hz)
     ·simp at hz;subst hz;simp <;> omega,S8⟩
    case measure=>simp [intOf] <;> omega
   ·obtain ⟨m,hm⟩:∃ m,zs.length=m + 1:=⟨zs.length - 1,by omega⟩
    have hml:m < zs.length:=by omega
    obtain ⟨gz,cz,hvz,_,_⟩:=(SN.out.list (.head _)).some (List.getElem?_eq_getElem hml)
    injection hvz with e1 e2 e3
    subst e1 e3
    obtain ⟨z,hz⟩:∃ z,zs[m]? = some z:=⟨_,List.getElem?_eq_getElem hml⟩
    have hcl:=(SN.out.list (.head _)).cells (fun z=>rfl) hz 0 (sv z.2) rfl
    obtain ⟨fi,hoi⟩:=(SN.out.inns (.tail _ (.head _))).read hz
    rw [sv_of hoi] at hcl
    simp only [Nat.mul_one,Nat.add_zero] at hcl
    have hzl3:(innI z.1).length≤1048576:=Nat.le_trans (HZI.out z (List.mem_of_getElem? hz)) (by omega)
    have HOI:=Lib.hid (OInts.read hoi (show (innI z.1).length≤16777216 by omega))
    have HLA:=Lib.hid (show lastD L=z.1 by unfold lastD;rw [← HZ.out,List.length_map,hm];exact getD_map_fst hz)
    have HZM:=Lib.hid hz
    obtain ⟨f,hf⟩:∃ f,roomR r (unitsR r) t z.1 u=f:=⟨_,rfl⟩
    have HF:=Lib.hid hf
    have HG0:=Lib.hid (show nextStep r (unitsR r) t L u=if f=true then setLast L (z.1 ++ [u]) else L ++ [[u]] by unfold nextStep;rw [HLA.out,hf];have:=HZL.out;simp only [show decide (0 < L.length)=true by simp;omega,Bool.true_and])
    have HCC:=Lib.hid (show ∀ X:World,Below wr.heap.size wr X→(cS10 (X) (w.heap.size) (r) (.slice A1 r.pairs.length c1) (.slice A2 r.types.length c2) (.slice A3 r.items.length c3))∧(cT7 (X) (w1.heap.size) (t))∧X.cell? ⟨gz,m,none⟩=some z.2∧X.cell? ⟨b,off + k,none⟩=some (.int .i64 u) from fun X hX=>by
     have hY:=SN.out.next hX
     have c0:=hY.box (.tail _ (.tail _ (.tail _ (.tail _ (.head _)))))
     have c1:=hY.box (.tail _ (.tail _ (.tail _ (.head _))))
     exact ⟨⟨c0 0,c0 1,c0 2,c0 3,c0 4,c0 5,c0 6,c0 7,c0 8,c0 9⟩,⟨c1 0,c1 1,c1 2,c1 3,c1 4,c1 5,c1 6⟩,(hX.cell (p:=⟨gz,m,none⟩) (SN.out.list (.head _)).size.2.2.2).trans hcl,HCK.out X hY.low⟩)
    have hpos:decide ((0:Int) < ((m + 1:Nat):Int))=true:=by simp <;> omega
    have hm1:((m + 1:Nat):Int) - 1=(m:Int):=by omega
    have hw1:IntKind.i64.wrap (m:Int)=(m:Int):=by rw [IntKind.wrap_i64];omega
    have hw2:IntKind.i64.wrap ((m:Int) + 1 - 1)=(m:Int):=by rw [IntKind.wrap_i64];omega
    have hw3:IntKind.i64.wrap (((m + 1:Nat):Int) - 1)=(m:Int):=by rw [IntKind.wrap_i64];omega
    have hi0:(0:Int)≤(m:Int):=by omega
    have hi1:(m:Int) < (m:Int) + 1:=by omega
    have hi2:(m:Int) < ((m + 1:Nat):Int):=by omega
    rw [hm] at SN ⊢
    clear hz hoi hf
    go_wp2
    go_region_held3 (fun X=>(cS10 (X) (w.heap.size) (r) (.slice A1 r.pairs.length c1) (.slice A2 r.types.length c2) (.slice A3 r.items.length c3))∧(cT7 (X) (w1.heap.size) (t))∧X.cell? ⟨gz,m,none⟩=some z.2∧X.cell? ⟨b,off + k,none⟩=some (.int .i64 u)) (first | (refine HCC.out _ ?_;(repeat' with_reducible first | assumption | exact bR | apply bD | apply bA | apply bC | apply bW | omega | simp <;> omega);done) | go_keep)
     (first | (go_at_call 349;refine (l7Room_any _ _ _ r (unitsR r) z.1 t u _ (HR.out.next (SN.out.next (by (repeat' with_reducible first | assumption | exact bR | apply bD | apply bA | apply bC | apply bW | omega | simp <;> omega))).low) (OInts.read ((SN.out.next (by (repeat' with_reducible first | assumption | exact bR | apply bD | apply bA | apply bC | apply bW | omega | simp <;> omega))).list (.tail _ (.tail _ (.head _)))) (by omega)) (RL.next HOI.out (flat_mono _) (by (repeat' with_reducible first | assumption | exact bR | apply bD | apply bA | apply bC | apply bW | omega | simp <;> omega))) HI.out hzl3).mono ?_;rintro e w3 ⟨rfl,hb3⟩;rw [HF.out];have hn3:=bstep (a:=wr) (by (repeat' with_reducible first | assumption | exact bR | apply bD | apply bA | apply bC | apply bW | omega | simp <;> omega)) hb3))
    have SN:=Lib.hid (SN.out.next hn3)
    clear hcl hcr
    have hcl:=(HCC.out w3 hn3).2.2.1
    have hcr:=(HCC.out w3 hn3).2.2.2
    cases f
    ·have HG:=Lib.hid (show nextStep r (unitsR r) t L u=L ++ [[u]] by rw [HG0.out];rfl)
     have SA:=Lib.hid ((SN.out.alloc #[.int .i64 u] 3).boxRow (f:=cI) (K:=1) [u] rfl (fun _=>rfl) (by unfold maxLen;simp))
     go_wp2_with (at_builtin;refine papp_hInts _ _ rfl rfl ([u],.slice (some ⟨w3.heap.size,0,none⟩) 1 1) rfl rfl (alloc_at (by simp)) rfl ((SA.out.list (.tail _ (.head _))).next (by repeat' with_reducible first | assumption | exact bR | apply bD | apply bA | apply bC | apply bN | simp <;> omega)) (by first | omega | (simp;done) | (simp;omega)) (by have:=SN.out.low.size;first | omega | (simp;done) | (simp;omega)) ?_;intro v7 w7 ha;obtain ⟨g7,g8,S7⟩:=SA.out.pushed (x:=[u]) rfl (by repeat' with_reducible first | assumption | exact bR | apply bD | apply bA | apply bC | apply bN | simp <;> omega) ha;have S8:=Lib.hid S7;clear S7 ha)
     go_roundw
     case rel=>exact ⟨k + 1,_,_,_,hlt,by go_num,by rw [HS.out,HG.out];exact map_fst_app HZ.out,by simp <;> omega,by
      intro z hz
      rcases List.mem_append.1 hz with hz | hz
      ·exact Nat.le_succ_of_le (HZI.out z hz)
      ·simp at hz;subst hz;simp <;> omega,S8⟩
     case measure=>simp [intOf] <;> omega
    ·have HG:=Lib.hid (show nextStep r (unitsR r) t L u=L.set m (z.1 ++ [u]) by rw [HG0.out];unfold setLast;rw [show L.length - 1=m by have:=HZL.out;omega];rfl)
     have hfz:=fun o=>(SN.out.list (.head _)).free o
     have hgl:gz < w3.heap.size:=(SN.out.list (.head _)).size.2.2.2
     have hbl:b < w3.heap.size:=Nat.lt_of_lt_of_le hbw SN.out.low.size
     obtain ⟨fi,fa2,fb,hS⟩:=SN.out.rot2.innOut HZM.out
     have SN:=Lib.hid hS
     clear hS
     go_wp2
     go_region_law (refine sapp_Int (.tmp 51) (.tmp 56) rfl rfl (u) rfl rfl (heap_alloc_new _ _) rfl ((SN.out.list (.head _)).next (by repeat' with_reducible first | assumption | exact bR | apply bD | apply bA | apply bC | apply bN | simp <;> omega)) (by first | omega | (simp;done) | (simp;omega)) (by have:=SN.out.low.size;first | omega | (simp;done) | (simp;omega)) ?_;intro v7 w7 ha;obtain ⟨g7,S7⟩:=(SN.out.next (by repeat' with_reducible first | assumption | exact bR | apply bD | apply bA | apply bC | apply bN | simp <;> omega)).app ha;have S8:=Lib.hid S7;clear S7 ha;obtain ⟨C,c,rfl,_⟩:=(S8.out.list (.head _)).form;have hf8:=fun o=>(S8.out.list (.tail _ (.tail _ (.tail _ (.head _))))).free o;have hc8:=(S8.out.list (.tail _ (.tail _ (.tail _ (.head _))))).cells (fun z=>rfl) HZM.out 0 (sv z.2) rfl;simp only [Nat.mul_one,Nat.add_zero] at hc8)
     all_goals
      obtain ⟨g9,S9⟩:=S8.out.grown (x:=z.1 ++ [u]) (j:=0) (us:=[.slice C (innI z.1 ++ [u]).length c]) hml rfl (fun _ _=>rfl) (by simp) rfl
      have S9:=Lib.hid S9
      go_wp2
      go_roundw
      case rel=>exact ⟨k + 1,zs.set m (z.1 ++ [u],.slice C (innI z.1 ++ [u]).length c),f1,g9,hlt,by go_num,by rw [HS.out,HG.out,map_fst_set HZ.out],by simp <;> omega,by
       intro y hy
       rcases List.mem_or_eq_of_mem_set hy with hy | rfl
       ·exact Nat.le_succ_of_le (HZI.out y hy)
       ·have:=HZI.out z (List.mem_of_getElem? HZM.out);simp;omega,Lib.hid (by have h9:=S9.out;(try rw [hm] at h9);simp only [setW,Nat.mul_one,Nat.add_zero,List.length_append,List.length_cons,List.length_nil,Nat.zero_add] at h9 ⊢;first | exact h9 | exact h9.drew)⟩
      case measure=>simp [intOf] <;> omega
  ·obtain rfl:k=us.length:=by omega
   rw [List.take_length] at hz
   have HZ:=Lib.hid (hz.trans HM.out.symm)
   go_wp2
   go_ret
   exact SN.out.nest HZ.out
end Go.Proofs.YtioijfplbgpjpaaGreat
namespace Go.Proofs.YtioijfplbgpjpaaGreat
set_option linter.unusedVariables false
set_option linter.unusedSimpArgs false
set_option maxRecDepth 100000
open Go.RowKit Go.WideShapes Go.ChangeShapes Go.ChangeAt Go.Deep
set_option maxHeartbeats 400000 in
theorem sSortDown_any (kv:Value) (keys:List Int) (w:World) (h:RInts 16777216 w w.heap.size kv keys):Calls Tryz.prog 300 #[kv] w (MInts w (ints (argDown keys))):=by
 have H:=Lib.hid h
 obtain ⟨A,c,rfl,hbd,_⟩:=h
 go_enter Tryz.func300,Tryz.ntmps300
 go_wp2_with fail
 refine (l1Places_any keys.length _ (by omega)).mono ?_
 rintro e w1 ⟨v1,f1,rfl,ho1,hb1⟩
 go_wp2_with fail
 refine (l1Merge_any true keys keys.length _ _ (List.range keys.length) _ (by simp) (by simp;omega) (fun p hp=>by simpa using hp) (H.out.next (flat_mono _) hb1) (ho1.read (by rw [ints_length];simp;omega))).mono ?_
 rintro e w2 ⟨v2,f2,rfl,ho2,hb2⟩
 go_wp2
 go_ret
 exact MInts.mk ho2 hb1.size (bstep hb1 hb2)
theorem field_load (a b:Int) (W:World):(Instr.field 270 (.agg #[.int .i64 a,.int .i64 b]) 0).run Tryz.prog W=.ok (.int .i64 a) W:=by first | rfl | (simp [Instr.field,go_sem,Tryz.underlying270])
set_option maxRecDepth 100000 in
set_option maxHeartbeats 4000000 in
theorem l7First_any (v vu:Value) (r:Request) (us:List Int) (w:World) (h:RReq 16777216 w w.heap.size v r) (hu:RInts 16777216 w w.heap.size vu us) (hs:soundR r=true) (hul:us.length≤1048576):Calls Tryz.prog 340 #[v,vu] w (MNest hdInts 53 1 innI w (firstR r us)):=by
 have HR:=Lib.hid h
 have HU:=Lib.hid hu
 have HI:=Lib.hid (show ∀ (i:Nat) (n:Int),(unitsR r)[i]? = some n→0≤n∧n.toNat < r.items.length from fun i n hn=>by have:=units_item hn;exact ⟨this.1,this.2.2⟩)
 have hal:(unitsR r).length≤12:=(right_of hs).nunits
 obtain ⟨A1,c1,A2,c2,A3,c3,rfl,_⟩:=h.opn
 obtain ⟨E,e,rfl,hbd,_⟩:=hu
 have SN:=Lib.hid ((Sit.here w).alloc (cR r A1 c1 A2 c2 A3 c3) 41)
 clear h hs
 go_enter Tryz.func340,Tryz.ntmps340
 have k0:=SN.out.box (.head _)
 have l0:=SN.out.boxlt (.head _)
 go_wp2_with fail
 refine (sMasterOf_any _ r _ (HR.out.next SN.out.low)).mono ?_
 rintro e1 w1 ⟨rfl,hb1⟩
 obtain ⟨mm,hmm⟩:∃ mm,masterOf r=mm:=⟨_,rfl⟩
 have HM:=Lib.hid (show firstR r us=(pickAt us (argDown (volKeys r (unitsR r) us))).foldl (firstStep r (unitsR r) mm.1) [] by unfold firstR;rw [hmm])
 rw [hmm]
 obtain ⟨t,tb⟩:=mm
 have SN:=Lib.hid ((SN.out.next hb1).alloc #[.int .i64 t.id,.int .i64 t.w,.int .i64 t.h,.int .i64 t.d,.int .i64 t.tare,.int .i64 t.gram,.int .i64 t.cost] 142)
 clear k0 l0 hb1 hmm
 have k0:=SN.out.box (.tail _ (.head _))
 have l0:=SN.out.boxlt (.tail _ (.head _))
 go_wp2_with fail
 refine (l6Units_any _ r _ (HR.out.next SN.out.low) (by omega)).mono ?_
 intro e2 w2 hm
 obtain ⟨v2,fa,rfl,hS⟩:=SN.out.gotInts hm
 obtain ⟨D,d,rfl,_⟩:=(hS.list (.head _)).form
 have SN:=Lib.hid ((hS.alloc #[] 3).boxNil cI 1)
 clear k0 l0 hS hm
 go_wp2
 go_loopw [8,9] (fun vv i wr=>∃ (k:Nat) (fp:List Nat),k≤us.length∧i=.int .i64 k∧Hid (Sit w wr [fOF cI 3 1 w.heap.size vv (volKeys r (unitsR r) (us.take k)) fp,fOF cI 3 1 w.heap.size (.slice D (unitsR r).length d) (unitsR r) fa,fBox w1.heap.size #[.int .i64 t.id,.int .i64 t.w,.int .i64 t.h,.int .i64 t.d,.int .i64 t.tare,.int .i64 t.gram,.int .i64 t.cost] 142,fBox w.heap.size (cR r A1 c1 A2 c2 A3 c3) 41])) (fun _ i _=>us.length - (intOf i).toNat)
 case atStart=>exact ⟨0,_,Nat.zero_le _,rfl,SN⟩
 case round =>
  clear SN
  obtain ⟨k,fp,hk,rfl,SN⟩:=hrel
  have k0:=SN.out.box (.tail _ (.tail _ (.tail _ (.head _))))
  have l0:=SN.out.boxlt (.tail _ (.tail _ (.tail _ (.head _))))
  by_cases hlt:k < us.length
  ·obtain ⟨b,off,u,rfl,hb,hx,hc⟩:=HU.out.at1 k hlt
   have hc0:=hc _ rfl
   obtain ⟨G,hG⟩:∃ G,loadOf r (unitsR r) [u]=G:=⟨_,rfl⟩
   have HG:=Lib.hid hG
   have HV:=Lib.hid (show volKeys r (unitsR r) (us.take (k + 1))=volKeys r (unitsR r) (us.take k) ++ [G.1] by unfold volKeys;rw [List.take_add_one,hx,List.map_append];simp [hG])
   have hln:(volKeys r (unitsR r) (us.take k)).length≤1048576:=by unfold volKeys;simp;omega
   have HSL:=Lib.hid (show RInts 16777216 w w.heap.size (.slice (some ⟨b,off + k,none⟩) 1 (e - k)) [u] from ⟨_,e - k,rfl,⟨by simp,by simp;omega⟩,fun _=>⟨b,off + k,rfl,hb,fun i x hx=>by
    rcases i with _ | i
    ·simp at hx
     subst hx
     exact ⟨[.int .i64 u],rfl,rfl,fun j y hy=>by
      rcases j with _ | j
      ·simp at hy
       subst hy
       simpa using hc0
      ·simp at hy⟩
    ·simp at hx⟩⟩)
   have HCC:=Lib.hid (show ∀ X:World,Below wr.heap.size wr X→(cS10 (X) (w.heap.size) (r) (.slice A1 r.pairs.length c1) (.slice A2 r.types.length c2) (.slice A3 r.items.length c3)) from fun X hX=>by
    have c0:=(SN.out.next hX).box (.tail _ (.tail _ (.tail _ (.head _))))
    exact ⟨c0 0,c0 1,c0 2,c0 3,c0 4,c0 5,c0 6,c0 7,c0 8,c0 9⟩)
   have hfld:=fun W=>field_load G.1 G.2 W
   have hek : ¬ (e=k):=by omega
   have hi0:(0:Int)≤(k:Int):=by omega
   have hi1:(k:Int)≤(k:Int) + 1:=by omega
   have hi2:(k:Int) + 1≤(e:Int):=by omega
   have hw1:IntKind.i64.wrap ((k:Int) + 1)=(k:Int) + 1:=by rw [IntKind.wrap_i64];omega
   clear hc hx hG
   go_wp2
   go_region_held3 (fun X=>(cS10 (X) (w.heap.size) (r) (.slice A1 r.pairs.length c1) (.slice A2 r.types.length c2) (.slice A3 r.items.length c3))) (first | (exact ⟨c8 0,c8 1,c8 2,c8 3,c8 4,c8 5,c8 6,c8 7,c8 8,c8 9⟩) | (refine HCC.out _ ?_;(repeat' with_reducible first | assumption | exact bR | apply bD | apply bA | apply bC | apply bW | omega | simp <;> omega);done) | go_keep)
    (first
     |(go_at_call 310;refine (l7Of_any _ _ _ r (unitsR r) [u] _ (HR.out.next (SN.out.next (by (repeat' with_reducible first | assumption | exact bR | apply bD | apply bA | apply bC | apply bW | omega | simp <;> omega))).low) (OInts.read ((SN.out.next (by (repeat' with_reducible first | assumption | exact bR | apply bD | apply bA | apply bC | apply bW | omega | simp <;> omega))).list (.tail _ (.head _))) (by omega)) (HSL.out.next (flat_mono _) (SN.out.next (by (repeat' with_reducible first | assumption | exact bR | apply bD | apply bA | apply bC | apply bW | omega | simp <;> omega))).low) HI.out).mono ?_;rintro e3 w3 ⟨rfl,hb3⟩;rw [HG.out];have hn3:=bstep (a:=wr) (by (repeat' with_reducible first | assumption | exact bR | apply bD | apply bA | apply bC | apply bW | omega | simp <;> omega)) hb3;have hz3:=hn3.size;have SM:=Lib.hid (SN.out.next hn3))
     |(refine sapp_Int (.tmp 30) (.tmp 40) rfl rfl (G.1) rfl rfl (heap_alloc_new _ _) rfl ((SM.out.list (.head _)).next (by repeat' with_reducible first | assumption | exact bR | apply bD | apply bA | apply bC | apply bN | simp <;> omega)) (by first | omega | (simp;done) | (simp;omega)) (by have:=SM.out.low.size;first | omega | (simp;done) | (simp;omega)) ?_;intro v7 w7 ha;have ht7:=ha.choose_spec.2.1;obtain ⟨g7,S7⟩:=(SM.out.next (by repeat' with_reducible first | assumption | exact bR | apply bD | apply bA | apply bC | apply bN | simp <;> omega)).app ha;have S8:=Lib.hid S7;clear S7 ha;have c8:=S8.out.box (.tail _ (.tail _ (.tail _ (.head _))))))
   all_goals go_wp2
   all_goals go_roundw
   all_goals first | (case rel=>exact ⟨k + 1,_,hlt,by go_num,by rw [HV.out];exact S8⟩) | (case measure=>simp [intOf] <;> omega)
  ·obtain rfl:k=us.length:=by omega
   rw [List.take_length] at SN
   clear k0 l0
   have hkl:(volKeys r (unitsR r) us).length=us.length:=by simp [volKeys]
   obtain ⟨KS,hKS⟩:∃ KS,volKeys r (unitsR r) us=KS:=⟨_,rfl⟩
   have HM:=HM
   rw [hKS] at HM SN hkl
   have HKL:=Lib.hid hkl
   clear hKS
   go_wp2_with fail
   refine (sSortDown_any _ KS _ (OInts.read (SN.out.list (.head _)) (by omega))).mono ?_
   intro e3 w3 hm
   obtain ⟨v3,f3,rfl,hS⟩:=SN.out.gotInts hm
   obtain ⟨G,g,rfl,_⟩:=(hS.list (.head _)).form
   have SN:=Lib.hid (((((hS.rot2.drop).alloc #[] 53).boxNil (fz hdInts) 1).addInn (inn:=innI) w.heap.size).rot2)
   clear hS hm
   have hpl:(ints (argDown KS)).length=us.length:=by rw [ints_length,argDown_length];exact HKL.out
   have HPL:=Lib.hid hpl
   have hpl2:(ints (argDown KS)).length≤1048576:=by omega
   clear hpl
   go_wp2
   go_loopw [11,12] (fun vv i wr=>∃ (k:Nat) (zs:List (List Int×Value)) (f4 f5:List Nat),k≤(ints (argDown KS)).length∧i=.int .i64 k∧zs.map (·.1)=((pickAt us (argDown KS)).take k).foldl (firstStep r (unitsR r) t) []∧zs.length≤k∧(∀ z∈zs,z.1.length≤k)∧Hid (Sit w wr [fOF (fz hdInts) 53 1 w.heap.size vv zs f4,fInn innI w.heap.size zs f5,fOF cI 3 1 w.heap.size (.slice G (ints (argDown KS)).length g) (ints (argDown KS)) f3,fOF cI 3 1 w.heap.size (.slice D (unitsR r).length d) (unitsR r) fa,fBox w1.heap.size #[.int .i64 t.id,.int .i64 t.w,.int .i64 t.h,.int .i64 t.d,.int .i64 t.tare,.int .i64 t.gram,.int .i64 t.cost] 142,fBox w.heap.size (cR r A1 c1 A2 c2 A3 c3) 41])) (fun _ i _=>(ints (argDown KS)).length - (intOf i).toNat)
   case atStart=>exact ⟨0,[],_,_,Nat.zero_le _,rfl,rfl,Nat.le_refl _,by simp,SN⟩
   case round =>
    clear SN
    obtain ⟨k,zs,f4,f5,hk,rfl,hz,hzl,hzi,SN⟩:=hrel
    by_cases hlt:k < (ints (argDown KS)).length
    ·obtain ⟨q,hq⟩:∃ q,(argDown KS)[k]? = some q:=⟨_,List.getElem?_eq_getElem (by rw [ints_length] at hlt;exact hlt)⟩
     have hqm:q < us.length:=by have:=argDown_mem.1 (List.mem_of_getElem? hq);have:=HKL.out;omega
     obtain ⟨gg,cg,hvg,_,_⟩:=(SN.out.list (.tail _ (.tail _ (.head _)))).some (ints_get hq)
     injection hvg with e1 e2 e3
     subst e1 e3
     have hcg:=(SN.out.list (.tail _ (.tail _ (.head _)))).cells (fun _=>rfl) (ints_get hq) 0 (.int .i64 (q:Int)) rfl
     simp only [Nat.mul_one,Nat.add_zero] at hcg
     obtain ⟨b,off,u,rfl,hb,hx,hc⟩:=(HU.out.next (flat_mono _) SN.out.low).at1 q hqm
     have hc0:=hc _ rfl
     have HS:=Lib.hid (foldl_take_step (f:=firstStep r (unitsR r) t) (b:=[]) (show (pickAt us (argDown KS))[k]? = some u by unfold pickAt;rw [List.getElem?_map,hq];simp [List.getD_eq_getElem?_getD,hx]))
     obtain ⟨L,hL⟩:∃ L,((pickAt us (argDown KS)).take k).foldl (firstStep r (unitsR r) t) []=L:=⟨_,rfl⟩
     rw [hL] at HS hz
     have HZ:=Lib.hid hz
     have HZI:=Lib.hid hzi
     have HZL:=Lib.hid (map_fst_len hz)
     have hul2:us.length≤1048576:=hul
     obtain ⟨F,c0,rfl,_⟩:=(SN.out.list (.head _)).form
     clear hL hz hzi hc hx hq
     go_wp2
     go_loopw [14,15] (fun a i wr=>∃ (j:Nat),j≤zs.length∧i=.int .i64 ((j:Int) - 1)∧a=.int .i64 (firstFrom (fun c=>roomR r (unitsR r) t c u) L j)∧Hid (Sit w wr [fOF (fz hdInts) 53 1 w.heap.size (.slice F zs.length c0) zs f4,fInn innI w.heap.size zs f5,fOF cI 3 1 w.heap.size (.slice (some ⟨gg,0,none⟩) (ints (argDown KS)).length g) (ints (argDown KS)) f3,fOF cI 3 1 w.heap.size (.slice D (unitsR r).length d) (unitsR r) fa,fBox w1.heap.size #[.int .i64 t.id,.int .i64 t.w,.int .i64 t.h,.int .i64 t.d,.int .i64 t.tare,.int .i64 t.gram,.int .i64 t.cost] 142,fBox w.heap.size (cR r A1 c1 A2 c2 A3 c3) 41])) (fun _ i _=>((intOf i) + 1).toNat)
     case atStart=>exact ⟨zs.length,Nat.le_refl _,by go_num,by rw [HZL.out,firstFrom_end],SN⟩
     case round =>
      clear SN hcg hc0
      obtain ⟨j,hj,rfl,rfl,SN⟩:=hrel
      by_cases hjp:0 < j
      ·obtain ⟨m,rfl⟩:∃ m,j=m + 1:=⟨j - 1,by omega⟩
       obtain ⟨g0,_,hv0,hf0,hm0⟩:=(SN.out.list (.head _)).some (List.getElem?_eq_getElem (show m < zs.length by omega))
       injection hv0 with e1 e2 e3
       subst e1 e3
       obtain ⟨z,hz⟩:∃ z,zs[m]? = some z:=⟨_,List.getElem?_eq_getElem hm0⟩
       have hcl:=(SN.out.list (.head _)).cells (fun z=>rfl) hz 0 (sv z.2) rfl
       obtain ⟨fi,hoi⟩:=(SN.out.inns (.tail _ (.head _))).read hz
       rw [sv_of hoi] at hcl
       have hzl3:(innI z.1).length≤1048576:=Nat.le_trans (HZI.out z (List.mem_of_getElem? hz)) (by omega)
       have HOI:=Lib.hid (OInts.read hoi (show (innI z.1).length≤16777216 by omega))
       have HFF:=Lib.hid (firstFrom_step (p:=fun c=>roomR r (unitsR r) t c u) (xs:=L) (j:=m) (x:=z.1) (by rw [← HZ.out,List.getElem?_map,hz];rfl))
       simp only [Nat.mul_one,Nat.add_zero] at hcl
       obtain ⟨bb,hbb⟩:∃ b,roomR r (unitsR r) t z.1 u=b:=⟨_,rfl⟩
       have HB:=Lib.hid hbb
       rw [hbb] at HFF
       have hgl:g0 < wr.heap.size:=(SN.out.list (.head _)).size.2.2.2
       have HCC:=Lib.hid (show ∀ X:World,Below wr.heap.size wr X→(cS10 (X) (w.heap.size) (r) (.slice A1 r.pairs.length c1) (.slice A2 r.types.length c2) (.slice A3 r.items.length c3))∧(cT7 (X) (w1.heap.size) (t))∧X.cell? ⟨g0,m,none⟩=some z.2 from fun X hX=>by
        have hY:=SN.out.next hX
        have c0:=hY.box (.tail _ (.tail _ (.tail _ (.tail _ (.tail _ (.head _))))))
        have c1:=hY.box (.tail _ (.tail _ (.tail _ (.tail _ (.head _)))))
        exact ⟨⟨c0 0,c0 1,c0 2,c0 3,c0 4,c0 5,c0 6,c0 7,c0 8,c0 9⟩,⟨c1 0,c1 1,c1 2,c1 3,c1 4,c1 5,c1 6⟩,(hX.cell (p:=⟨g0,m,none⟩) hgl).trans hcl⟩)
       clear hz hoi hbb hf0
       have he:((m + 1:Nat):Int) - 1=(m:Int):=by omega
       have hi0:(0:Int)≤(m:Int):=by omega
       have hi1:(m:Int) < (zs.length:Int):=by omega
       rw [he]
       go_wp2
       go_region_held3 (fun X=>(cS10 (X) (w.heap.size) (r) (.slice A1 r.pairs.length c1) (.slice A2 r.types.length c2) (.slice A3 r.items.length c3))∧(cT7 (X) (w1.heap.size) (t))∧X.cell? ⟨g0,m,none⟩=some z.2) (first | (refine HCC.out _ ?_;(repeat' with_reducible first | assumption | exact bR | apply bD | apply bA | apply bC | apply bW | omega | simp <;> omega);done) | go_keep)
        (first | (go_at_call 349;refine (l7Room_any _ _ _ r (unitsR r) z.1 t u _ (HR.out.next (SN.out.next (by (repeat' with_reducible first | assumption | exact bR | apply bD | apply bA | apply bC | apply bW | omega | simp <;> omega))).low) (OInts.read ((SN.out.next (by (repeat' with_reducible first | assumption | exact bR | apply bD | apply bA | apply bC | apply bW | omega | simp <;> omega))).list (.tail _ (.tail _ (.tail _ (.head _))))) (by omega)) (RL.next HOI.out (flat_mono _) (by (repeat' with_reducible first | assumption | exact bR | apply bD | apply bA | apply bC | apply bW | omega | simp <;> omega))) HI.out hzl3).mono ?_;rintro e9 w9 ⟨rfl,hb9⟩;rw [HB.out];have hn9:=bstep (a:=wr) (by (repeat' with_reducible first | assumption | exact bR | apply bD | apply bA | apply bC | apply bW | omega | simp <;> omega)) hb9))
       have SN:=Lib.hid (SN.out.next hn9)
       cases bb
       all_goals go_wp2
       all_goals go_roundw
       all_goals first | (case rel=>exact ⟨m,by omega,by go_num,by rw [HFF.out];rfl,SN⟩) | (case measure=>(simp [intOf];done)) | (case measure=>simp [intOf];omega)
      ·obtain rfl:j=0:=by omega
       have hf:=firstFrom_lt (fun c=>roomR r (unitsR r) t c u) L 0
       obtain ⟨at_,hat⟩:∃ a,firstFrom (fun c=>roomR r (unitsR r) t c u) L 0=a:=⟨_,rfl⟩
       have HG:=Lib.hid (show firstStep r (unitsR r) t L u=addAt L at_ u by rw [← hat];rfl)
       rw [hat] at hf ⊢
       clear hat
       by_cases hneg:at_ < 0
       ·have SA:=Lib.hid ((SN.out.alloc #[.int .i64 u] 3).boxRow (f:=cI) (K:=1) [u] rfl (fun _=>rfl) (by unfold maxLen;simp))
        have hwz:=SN.out.low.size
        go_wp2_with (at_builtin;refine papp_hInts _ _ rfl rfl ([u],.slice (some ⟨wr.heap.size,0,none⟩) 1 1) rfl rfl (alloc_at (by simp)) rfl ((SA.out.list (.tail _ (.head _))).next (by repeat' with_reducible first | assumption | exact bR | apply bD | apply bA | apply bC | apply bN | simp <;> omega)) (by first | omega | (simp;done) | (simp;omega)) (by first | omega | (simp;done) | (simp;omega)) ?_;intro v7 w7 ha;obtain ⟨g7,g8,S7⟩:=SA.out.pushed (x:=[u]) rfl (by repeat' with_reducible first | assumption | exact bR | apply bD | apply bA | apply bC | apply bN | simp <;> omega) ha;have S8:=Lib.hid S7;clear S7 ha)
        go_roundw
        case rel=>exact ⟨k + 1,zs ++ [([u],.slice (some ⟨wr.heap.size,0,none⟩) 1 1)],_,_,hlt,by go_num,by rw [HS.out,HG.out];unfold addAt;rw [if_pos hneg];exact map_fst_app HZ.out,by simp <;> omega,by
         intro z hz
         rcases List.mem_append.1 hz with hz | hz
         ·exact Nat.le_succ_of_le (HZI.out z hz)
         ·simp at hz;subst hz;simp <;> omega,S8⟩
        case measure=>simp [intOf] <;> omega
       ·obtain ⟨m,rfl⟩:∃ m:Nat,at_=m:=⟨at_.toNat,by omega⟩
        have hml:m < zs.length:=by have:=HZL.out;omega
        obtain ⟨g0,_,hv0,hf0,_⟩:=(SN.out.list (.head _)).some (List.getElem?_eq_getElem hml)
        injection hv0 with e1 e2 e3
        subst e1 e3
        obtain ⟨z,hz⟩:∃ z,zs[m]? = some z:=⟨_,List.getElem?_eq_getElem hml⟩
        have hcl:=(SN.out.list (.head _)).cells (fun z=>rfl) hz 0 (sv z.2) rfl
        have hfz:=fun o=>(SN.out.list (.head _)).free o
        obtain ⟨fi,fa2,fb,hS⟩:=SN.out.rot2.innOut hz
        rw [sv_of (hS.list (.head _))] at hcl
        simp only [Nat.mul_one,Nat.add_zero] at hcl
        have SN:=Lib.hid hS
        have hzl3:(innI z.1).length≤1048576:=Nat.le_trans (HZI.out z (List.mem_of_getElem? hz)) (by omega)
        have HZM:=Lib.hid hz
        clear hS hz
        go_wp2_with (at_builtin;refine papp_Int _ _ rfl rfl (u) rfl rfl (heap_alloc_new _ _) rfl ((SN.out.list (.head _)).next (by repeat' with_reducible first | assumption | exact bR | apply bD | apply bA | apply bC | apply bN | simp <;> omega)) (by first | omega | (simp;omega)) (by have:=SN.out.low.size;first | omega | (simp;omega)) ?_;intro v7 w7 ha;obtain ⟨g7,S7⟩:=(SN.out.next (by repeat' with_reducible first | assumption | exact bR | apply bD | apply bA | apply bC | apply bN | simp <;> omega)).app ha;have S8:=Lib.hid S7;clear S7 ha;obtain ⟨C,c,rfl,_⟩:=(S8.out.list (.head _)).form;have hf8:=fun o=>(S8.out.list (.tail _ (.tail _ (.tail _ (.head _))))).free o;have hc8:=(S8.out.list (.tail _ (.tail _ (.tail _ (.head _))))).cells (fun z=>rfl) HZM.out 0 (sv z.2) rfl;simp only [Nat.mul_one,Nat.add_zero] at hc8)
        obtain ⟨g9,S9⟩:=S8.out.grown (x:=z.1 ++ [u]) (j:=0) (us:=[.slice C (innI z.1 ++ [u]).length c]) hml rfl (fun _ _=>rfl) (by simp) rfl
        have S9:=Lib.hid S9
        go_roundw
        case rel=>exact ⟨k + 1,zs.set m (z.1 ++ [u],.slice C (innI z.1 ++ [u]).length c),f4,g9,hlt,by go_num,by rw [HS.out,HG.out];unfold addAt;rw [if_neg hneg,Int.toNat_natCast];rw [map_fst_set HZ.out,← HZ.out,getD_map_fst HZM.out],by simp <;> omega,by
         intro y hy
         rcases List.mem_or_eq_of_mem_set hy with hy | rfl
         ·exact Nat.le_succ_of_le (HZI.out y hy)
         ·have:=HZI.out z (List.mem_of_getElem? HZM.out);simp;omega,by simpa [setW] using S9⟩
        case measure=>simp [intOf] <;> omega
    ·obtain rfl:k=(ints (argDown KS)).length:=by omega
     have HZ:=Lib.hid (show zs.map (·.1)=firstR r us by rw [HM.out,hz,List.take_of_length_le (by rw [pickAt_len,ints_length];exact Nat.le_refl _)])
     go_wp2
     go_ret
     exact SN.out.nest HZ.out
end Go.Proofs.YtioijfplbgpjpaaGreat
namespace Go.Proofs.YtioijfplbgpjpaaGreat
set_option linter.unusedVariables false
set_option linter.unusedSimpArgs false
set_option maxRecDepth 100000
open Go.RowKit Go.WideShapes Go.ChangeShapes Go.ChangeAt Go.Deep
set_option maxRecDepth 100000 in
set_option maxHeartbeats 2000000 in
theorem sNextFit_any (v vu:Value) (r:Request) (us:List Int) (w:World) (h:RReq 16777216 w w.heap.size v r) (hu:RInts 16777216 w w.heap.size vu us) (hs:soundR r=true) (hul:us.length≤1048576):Calls Tryz.prog 297 #[v,vu] w (MNest hdInts 53 1 innI w (nextFit r us)):=by
 have HR:=Lib.hid h
 have HU:=Lib.hid hu
 have HSS:=Lib.hid hs
 have hal:(unitsR r).length≤12:=(right_of hs).nunits
 have HC:=Lib.hid (show classOf r=0 by rw [sound_dec] at hs;simpa using hs)
 have HM:=Lib.hid (show nextFit r us=nextR r (knownR (unitsR r) us) by unfold nextFit;rw [if_pos hs])
 have hkl:(knownR (unitsR r) us).length≤1048576:=Nat.le_trans (List.length_filter_le _ _) hul
 obtain ⟨A1,c1,A2,c2,A3,c3,rfl,_⟩:=h.opn
 obtain ⟨E,e,rfl,hbd,_⟩:=hu
 have SN:=Lib.hid ((Sit.here w).alloc (cR r A1 c1 A2 c2 A3 c3) 41)
 clear h hs
 go_enter Tryz.func297,Tryz.ntmps297
 have k0:=SN.out.box (.head _)
 have l0:=SN.out.boxlt (.head _)
 go_wp2_with fail
 refine (sClass_any _ r _ (HR.out.next SN.out.low)).mono ?_
 rintro e2 w2 ⟨rfl,hb2⟩
 rw [HC.out]
 have SN:=Lib.hid (SN.out.next hb2)
 clear k0 l0 hb2
 have HCC:=Lib.hid (show ∀ X:World,Below w2.heap.size w2 X→(cS10 (X) (w.heap.size) (r) (.slice A1 r.pairs.length c1) (.slice A2 r.types.length c2) (.slice A3 r.items.length c3)) from fun X hX=>by
  have c0:=(SN.out.next hX).box (.head _)
  exact ⟨c0 0,c0 1,c0 2,c0 3,c0 4,c0 5,c0 6,c0 7,c0 8,c0 9⟩)
 go_wp2
 go_region_held3 (fun W'=>(cS10 (W') (w.heap.size) (r) (.slice A1 r.pairs.length c1) (.slice A2 r.types.length c2) (.slice A3 r.items.length c3))) (first | (refine HCC.out _ ?_;(repeat' with_reducible first | assumption | exact bR | apply bD | apply bA | apply bC | apply bW | omega | simp <;> omega);done) | go_keep)
  (first
   |(go_at_call 193;refine (l6Units_any _ r _ (HR.out.next (SN.out.next (by (repeat' with_reducible first | assumption | exact bR | apply bD | apply bA | apply bC | apply bW | omega | simp <;> omega))).low) (by omega)).mono ?_;intro e3 w3 hm;obtain ⟨v3,f3,rfl,hS⟩:=(SN.out.next (by (repeat' with_reducible first | assumption | exact bR | apply bD | apply bA | apply bC | apply bW | omega | simp <;> omega))).gotInts hm;have hn3:=bstep (a:=w2) (by (repeat' with_reducible first | assumption | exact bR | apply bD | apply bA | apply bC | apply bW | omega | simp <;> omega)) hm.choose_spec.choose_spec.2.2;have hz3:=hn3.size;have S3:=Lib.hid hS;clear hS hm)
   |(go_at_call 339;refine (l7Known_any _ _ (unitsR r) us _ (OInts.read (S3.out.list (.head _)) (by omega)) (HU.out.next (flat_mono _) S3.out.low) hul).mono ?_;intro e4 w4 hm;obtain ⟨v4,f4,rfl,hS⟩:=S3.out.gotInts hm;have hn4:=bstep hn3 hm.choose_spec.choose_spec.2.2;have hz4:=hn4.size;have S4:=Lib.hid hS;clear hS hm)
   |(go_at_call 338;refine (l7Next_any _ _ r (knownR (unitsR r) us) _ (HR.out.next S4.out.low) (OInts.read (S4.out.list (.head _)) (by omega)) HSS.out hkl).mono ?_;intro e5 w5 hm;obtain ⟨v5,zs,f5,f6,rfl,hz,hS⟩:=S4.out.gotNest hm;have hn5:=bstep hn4 hm.choose_spec.choose_spec.choose_spec.choose_spec.2.2.low;have hz5:=hn5.size;have S5:=Lib.hid hS;have HZ:=Lib.hid hz;clear hS hm hz))
 all_goals go_wp2
 all_goals go_ret
 all_goals (rw [HM.out];exact S5.out.nest HZ.out)
end Go.Proofs.YtioijfplbgpjpaaGreat
namespace Go.Proofs.YtioijfplbgpjpaaGreat
set_option linter.unusedVariables false
set_option linter.unusedSimpArgs false
set_option maxRecDepth 100000
open Go.RowKit Go.WideShapes Go.ChangeShapes Go.ChangeAt Go.Deep
set_option maxRecDepth 100000 in
set_option maxHeartbeats 2000000 in
theorem sFirstFit_any (v vu:Value) (r:Request) (us:List Int) (w:World) (h:RReq 16777216 w w.heap.size v r) (hu:RInts 16777216 w w.heap.size vu us) (hs:soundR r=true) (hul:us.length≤1048576):Calls Tryz.prog 298 #[v,vu] w (MNest hdInts 53 1 innI w (firstFit r us)):=by
 have HR:=Lib.hid h
 have HU:=Lib.hid hu
 have HSS:=Lib.hid hs
 have hal:(unitsR r).length≤12:=(right_of hs).nunits
 have HC:=Lib.hid (show classOf r=0 by rw [sound_dec] at hs;simpa using hs)
 have HM:=Lib.hid (show firstFit r us=firstR r (knownR (unitsR r) us) by unfold firstFit;rw [if_pos hs])
 have hkl:(knownR (unitsR r) us).length≤1048576:=Nat.le_trans (List.length_filter_le _ _) hul
 obtain ⟨A1,c1,A2,c2,A3,c3,rfl,_⟩:=h.opn
 obtain ⟨E,e,rfl,hbd,_⟩:=hu
 have SN:=Lib.hid ((Sit.here w).alloc (cR r A1 c1 A2 c2 A3 c3) 41)
 clear h hs
 go_enter Tryz.func298,Tryz.ntmps298
 have k0:=SN.out.box (.head _)
 have l0:=SN.out.boxlt (.head _)
 go_wp2_with fail
 refine (sClass_any _ r _ (HR.out.next SN.out.low)).mono ?_
 rintro e2 w2 ⟨rfl,hb2⟩
 rw [HC.out]
 have SN:=Lib.hid (SN.out.next hb2)
 clear k0 l0 hb2
 have HCC:=Lib.hid (show ∀ X:World,Below w2.heap.size w2 X→(cS10 (X) (w.heap.size) (r) (.slice A1 r.pairs.length c1) (.slice A2 r.types.length c2) (.slice A3 r.items.length c3)) from fun X hX=>by
  have c0:=(SN.out.next hX).box (.head _)
  exact ⟨c0 0,c0 1,c0 2,c0 3,c0 4,c0 5,c0 6,c0 7,c0 8,c0 9⟩)
 go_wp2
 go_region_held3 (fun W'=>(cS10 (W') (w.heap.size) (r) (.slice A1 r.pairs.length c1) (.slice A2 r.types.length c2) (.slice A3 r.items.length c3))) (first | (refine HCC.out _ ?_;(repeat' with_reducible first | assumption | exact bR | apply bD | apply bA | apply bC | apply bW | omega | simp <;> omega);done) | go_keep)
  (first
   |(go_at_call 193;refine (l6Units_any _ r _ (HR.out.next (SN.out.next (by (repeat' with_reducible first | assumption | exact bR | apply bD | apply bA | apply bC | apply bW | omega | simp <;> omega))).low) (by omega)).mono ?_;intro e3 w3 hm;obtain ⟨v3,f3,rfl,hS⟩:=(SN.out.next (by (repeat' with_reducible first | assumption | exact bR | apply bD | apply bA | apply bC | apply bW | omega | simp <;> omega))).gotInts hm;have hn3:=bstep (a:=w2) (by (repeat' with_reducible first | assumption | exact bR | apply bD | apply bA | apply bC | apply bW | omega | simp <;> omega)) hm.choose_spec.choose_spec.2.2;have hz3:=hn3.size;have S3:=Lib.hid hS;clear hS hm)
   |(go_at_call 339;refine (l7Known_any _ _ (unitsR r) us _ (OInts.read (S3.out.list (.head _)) (by omega)) (HU.out.next (flat_mono _) S3.out.low) hul).mono ?_;intro e4 w4 hm;obtain ⟨v4,f4,rfl,hS⟩:=S3.out.gotInts hm;have hn4:=bstep hn3 hm.choose_spec.choose_spec.2.2;have hz4:=hn4.size;have S4:=Lib.hid hS;clear hS hm)
   |(go_at_call 340;refine (l7First_any _ _ r (knownR (unitsR r) us) _ (HR.out.next S4.out.low) (OInts.read (S4.out.list (.head _)) (by omega)) HSS.out hkl).mono ?_;intro e5 w5 hm;obtain ⟨v5,zs,f5,f6,rfl,hz,hS⟩:=S4.out.gotNest hm;have hn5:=bstep hn4 hm.choose_spec.choose_spec.choose_spec.choose_spec.2.2.low;have hz5:=hn5.size;have S5:=Lib.hid hS;have HZ:=Lib.hid hz;clear hS hm hz))
 all_goals go_wp2
 all_goals go_ret
 all_goals (rw [HM.out];exact S5.out.nest HZ.out)
set_option maxRecDepth 100000 in
set_option maxHeartbeats 1000000 in
theorem sPackWay_any (v vu:Value) (r:Request) (us:List Int) (w:World) (h:RReq 16777216 w w.heap.size v r) (hu:RInts 16777216 w w.heap.size vu us) (hs:soundR r=true) (hul:us.length≤1048576):Calls Tryz.prog 229 #[v,vu] w (MNest hdInts 53 1 innI w (packWay r us)):=by
 have HR:=Lib.hid h
 have HU:=Lib.hid hu
 have HSS:=Lib.hid hs
 obtain ⟨A1,c1,A2,c2,A3,c3,rfl,_⟩:=h.opn
 obtain ⟨E,e,rfl,hbd,_⟩:=hu
 have SN:=Lib.hid ((Sit.here w).alloc (cR r A1 c1 A2 c2 A3 c3) 41)
 clear h hs
 go_enter Tryz.func229,Tryz.ntmps229
 have k0:=SN.out.box (.head _)
 have l0:=SN.out.boxlt (.head _)
 by_cases hw:r.way=1
 ·have HM:=Lib.hid (show packWay r us=nextFit r us by unfold packWay;rw [if_pos hw])
  have hw':(r.way == 1)=true:=by simpa using hw
  clear hw
  go_wp2_with fail
  refine (sNextFit_any _ _ r us _ (HR.out.next SN.out.low) (HU.out.next (flat_mono _) SN.out.low) HSS.out hul).mono ?_
  intro e3 w3 hm
  obtain ⟨v3,zs,f5,f6,rfl,hz,hS⟩:=SN.out.gotNest hm
  have S5:=Lib.hid hS
  have HZ:=Lib.hid hz
  clear hS hm hz k0 l0
  go_wp2
  go_ret
  rw [HM.out]
  exact S5.out.nest HZ.out
 ·have HM:=Lib.hid (show packWay r us=firstFit r us by unfold packWay;rw [if_neg hw])
  have hw':(r.way == 1)=false:=by simpa using hw
  clear hw
  go_wp2_with fail
  refine (sFirstFit_any _ _ r us _ (HR.out.next SN.out.low) (HU.out.next (flat_mono _) SN.out.low) HSS.out hul).mono ?_
  intro e3 w3 hm
  obtain ⟨v3,zs,f5,f6,rfl,hz,hS⟩:=SN.out.gotNest hm
  have S5:=Lib.hid hS
  have HZ:=Lib.hid hz
  clear hS hm hz k0 l0
  go_wp2
  go_ret
  rw [HM.out]
  exact S5.out.nest HZ.out
end Go.Proofs.YtioijfplbgpjpaaGreat
namespace Go.Proofs.YtioijfplbgpjpaaGreat
set_option linter.unusedVariables false
set_option linter.unusedSimpArgs false
set_option maxRecDepth 100000
open Go.RowKit Go.WideShapes Go.ChangeShapes Go.ChangeAt Go.Deep
set_option maxRecDepth 100000 in
set_option maxHeartbeats 4000000 in
theorem sCartonsOf_any (v:Value) (r:Request) (w:World) (h:RReq 16777216 w w.heap.size v r) (hs:soundR r=true):Calls Tryz.prog 163 #[v] w (MNest hdCarton 78 3 Carton.units w (cartonsR r)):=by
 have HR:=Lib.hid h
 have HSS:=Lib.hid hs
 have HUL:=Lib.hid (unitsOf_len (right_of hs))
 obtain ⟨A1,c1,A2,c2,A3,c3,rfl,_⟩:=h.opn
 have SN:=Lib.hid (((((Sit.here w).alloc (cR r A1 c1 A2 c2 A3 c3) 41).alloc #[] 78).boxNil (fz hdCarton) 3).addInn (inn:=Carton.units) w.heap.size).rot2
 simp only [World.size_alloc] at SN
 clear h hs
 go_enter Tryz.func163,Tryz.ntmps163
 have k0:=SN.out.box (.tail _ (.tail _ (.head _)))
 have l0:=SN.out.boxlt (.tail _ (.tail _ (.head _)))
 go_wp2_with fail
 refine (sGroupsOf_any _ r _ (HR.out.next SN.out.low)).mono ?_
 intro e w1 hm
 obtain ⟨v1,gs,g1,g2,rfl,hz,hS⟩:=SN.out.gotNest hm
 obtain ⟨G,g,rfl,_⟩:=(hS.list (.head _)).form
 have hgl:=map_fst_len hz
 have SN:=Lib.hid hS.drop.drop
 rw [hgl]
 have hng:(groupsR r).length≤4:=(groups_len r).1
 clear k0 l0 hS hm hz hgl
 go_wp2
 go_loopw [3,5] (fun vv i wr=>∃ (k:Nat) (zs:List (Carton×Value)) (f1 f2:List Nat),k≤(groupsR r).length∧i=.int .i64 k∧zs.map (·.1)=((List.range k).flatMap fun k:Nat=>cartonsG r (k:Int))∧zs.length≤12 * k∧Hid (Sit w wr [fOF (fz hdCarton) 78 3 w.heap.size vv zs f1,fInn Carton.units w.heap.size zs f2,fBox w.heap.size (cR r A1 c1 A2 c2 A3 c3) 41])) (fun _ i _=>(groupsR r).length - (intOf i).toNat)
 case atStart=>exact ⟨0,[],_,_,Nat.zero_le _,rfl,rfl,Nat.le_refl _,SN⟩
 case round =>
  clear SN
  obtain ⟨k,zs,f1,f2,hk,rfl,hz,hzl,SN⟩:=hrel
  have HZ:=Lib.hid hz
  clear hz
  by_cases hlt:k < (groupsR r).length
  ·have HST:=Lib.hid (range_step (fun k:Nat=>cartonsG r (k:Int)) k)
   obtain ⟨PRE,hPRE⟩:∃ PRE,((List.range k).flatMap fun k:Nat=>cartonsG r (k:Int))=PRE:=⟨_,rfl⟩
   rw [hPRE] at HST HZ
   obtain ⟨US,hUS⟩:∃ US,unitsOf r (k:Int)=US:=⟨_,rfl⟩
   have HUS:=Lib.hid hUS
   have husl:US.length≤12:=by rw [← hUS];exact HUL.out _
   obtain ⟨L,hL⟩:∃ L,packWay r US=L:=⟨_,rfl⟩
   have hLl:L.length≤12:=by rw [← hL];have:=(packWay_len r US).2;omega
   have HLF:=Lib.hid (show ∀ c∈L,c.length≤12 from fun c hc=>flatten_mem_le (n:=12) (by rw [← hL];have:=(packWay_len r US).1;omega) hc)
   have HG:=Lib.hid (show cartonsG r (k:Int)=L.map (cartonR r k) by unfold cartonsG;rw [hUS,hL])
   have HL:=Lib.hid hL
   have HCC:=Lib.hid (show ∀ X:World,Below wr.heap.size wr X→(cS10 (X) (w.heap.size) (r) (.slice A1 r.pairs.length c1) (.slice A2 r.types.length c2) (.slice A3 r.items.length c3)) from fun X hX=>by
    have c0:=(SN.out.next hX).box (.tail _ (.tail _ (.head _)))
    exact ⟨c0 0,c0 1,c0 2,c0 3,c0 4,c0 5,c0 6,c0 7,c0 8,c0 9⟩)
   clear hPRE hUS hL
   go_wp2
   go_region_held3 (fun W'=>(cS10 (W') (w.heap.size) (r) (.slice A1 r.pairs.length c1) (.slice A2 r.types.length c2) (.slice A3 r.items.length c3))) (first | (refine HCC.out _ ?_;(repeat' with_reducible first | assumption | exact bR | apply bD | apply bA | apply bC | apply bW | omega | simp <;> omega);done) | go_keep)
    (first
     |(go_at_call 230;refine (sUnitsOf_any _ r _ _ (HR.out.next (SN.out.next (by (repeat' with_reducible first | assumption | exact bR | apply bD | apply bA | apply bC | apply bW | omega | simp <;> omega))).low) HSS.out).mono ?_;rw [HUS.out];intro e3 w3 hm;obtain ⟨v3,f3,rfl,hS⟩:=(SN.out.next (by (repeat' with_reducible first | assumption | exact bR | apply bD | apply bA | apply bC | apply bW | omega | simp <;> omega))).gotInts hm;have hn3:=bstep (a:=wr) (by (repeat' with_reducible first | assumption | exact bR | apply bD | apply bA | apply bC | apply bW | omega | simp <;> omega)) hm.choose_spec.choose_spec.2.2;have hz3:=hn3.size;have S3:=Lib.hid hS;clear hS hm)
     |(go_at_call 229;refine (sPackWay_any _ _ r US _ (HR.out.next S3.out.low) (OInts.read (S3.out.list (.head _)) (by omega)) HSS.out (by omega)).mono ?_;rw [HL.out];intro e4 w4 hm;obtain ⟨v4,ls,f4,f5,rfl,hzz,hS⟩:=S3.out.gotNest hm;have hn4:=bstep hn3 hm.choose_spec.choose_spec.choose_spec.choose_spec.2.2.low;have hz4:=hn4.size;have S4:=Lib.hid hS.rot3.drop;have HLS:=Lib.hid hzz;have HLSL:=Lib.hid (map_fst_len hzz);have hlsn:ls.length≤12:=Nat.le_trans (Nat.le_of_eq HLSL.out) hLl;clear hS hm hzz))
   all_goals
    clear SN S3 HCC
    obtain ⟨P,cp,rfl,_⟩:=(S4.out.list (.head _)).form
    have SN:=Lib.hid (S4.out.rot4.rot4)
    clear S4
    go_wp2
    go_loopw [3,7] (fun vv i wr1=>∃ (m:Nat) (zs:List (Carton×Value)) (f1 f2:List Nat),m≤ls.length∧i=.int .i64 m∧zs.map (·.1)=PRE ++ (L.take m).map (cartonR r k)∧zs.length≤12 * k + m∧Hid (Sit w wr1 [fOF (fz hdCarton) 78 3 w.heap.size vv zs f1,fInn Carton.units w.heap.size zs f2,fOF (fz hdInts) 53 1 w.heap.size (.slice P ls.length cp) ls f4,fInn innI w.heap.size ls f5,fBox w.heap.size (cR r A1 c1 A2 c2 A3 c3) 41])) (fun _ i _=>ls.length - (intOf i).toNat)
    case atStart=>exact ⟨0,zs,f1,f2,Nat.zero_le _,rfl,by rw [HZ.out];simp,by omega,SN⟩
    case round =>
     clear SN
     obtain ⟨m,zs1,f6,f7,hm,rfl,hz1,hzl1,SN⟩:=hrel
     obtain ⟨wr1,rfl⟩:∃ x,x=wr:=⟨_,rfl⟩
     have HZ1:=Lib.hid hz1
     clear hz1
     by_cases hlt1:m < ls.length
     ·obtain ⟨⟨c,uc⟩,hcm⟩:∃ z,ls[m]? = some z:=⟨_,List.getElem?_eq_getElem hlt1⟩
      obtain ⟨gp,rfl⟩:=head_ptr (SN.out.list (.tail _ (.tail _ (.head _)))) hcm
      obtain ⟨U,cu,rfl⟩:=inn_form (SN.out.inns (.tail _ (.tail _ (.tail _ (.head _))))) hcm
      have HCM:=Lib.hid hcm
      have hLm:L[m]? = some c:=by rw [← HLS.out,List.getElem?_map,hcm];rfl
      have hcl:(innI c).length≤12:=HLF.out c (List.mem_of_getElem? hLm)
      have hal:(argUp c).length≤12:=by rw [argUp_length];exact hcl
      have hil:(ints (argUp c)).length≤12:=by rw [ints_length];exact hal
      have HSTM:=Lib.hid (show PRE ++ (L.take (m + 1)).map (cartonR r k)=(PRE ++ (L.take m).map (cartonR r k)) ++ [cartonR r k c] by rw [List.take_add_one,hLm,List.map_append,List.append_assoc];rfl)
      obtain ⟨t,ht⟩:∃ t,cheapest r c=t:=⟨_,rfl⟩
      have HT:=Lib.hid ht
      have hcc:=(SN.out.list (.tail _ (.tail _ (.head _)))).cells (fun _=>rfl) hcm 0 (.slice U (innI c).length cu) rfl
      simp only [Nat.mul_one,Nat.add_zero] at hcc
      have hgpl:=(SN.out.list (.tail _ (.tail _ (.head _)))).size.2.2.2
      have HCC:=Lib.hid (show ∀ X:World,Below wr1.heap.size wr1 X→(cS10 (X) (w.heap.size) (r) (.slice A1 r.pairs.length c1) (.slice A2 r.types.length c2) (.slice A3 r.items.length c3))∧X.cell? ⟨gp,m,none⟩=some (.slice U (innI c).length cu) from fun X hX=>by
       have hY:=SN.out.next hX
       have c0:=hY.box (.tail _ (.tail _ (.tail _ (.tail _ (.head _)))))
       exact ⟨⟨c0 0,c0 1,c0 2,c0 3,c0 4,c0 5,c0 6,c0 7,c0 8,c0 9⟩,(hX.cell (p:=⟨gp,m,none⟩) hgpl).trans hcc⟩)
      obtain ⟨fi,hoi⟩:=(SN.out.inns (.tail _ (.tail _ (.tail _ (.head _))))).read hcm
      have HOI:=Lib.hid (OInts.read hoi (show (innI c).length≤16777216 by omega))
      clear hcm hLm ht hoi
      go_upto_region 10 with fail
      go_cut [8,9] (fun v8 v9 X=>∃ g8,v8=.pointer (some ⟨g8,0,none⟩)∧v9=.bool t.2∧Hid (Sit w X [fBox g8 #[.int .i64 t.1.id,.int .i64 t.1.w,.int .i64 t.1.h,.int .i64 t.1.d,.int .i64 t.1.tare,.int .i64 t.1.gram,.int .i64 t.1.cost] 142,fOF (fz hdCarton) 78 3 w.heap.size u3 zs1 f6,fInn Carton.units w.heap.size zs1 f7,fOF (fz hdInts) 53 1 w.heap.size (.slice (some ⟨gp,0,none⟩) ls.length cp) ls f4,fInn innI w.heap.size ls f5,fBox w.heap.size (cR r A1 c1 A2 c2 A3 c3) 41]))
      case first =>
       go_region_held3 (fun W'=>((cS10 (W') (w.heap.size) (r) (.slice A1 r.pairs.length c1) (.slice A2 r.types.length c2) (.slice A3 r.items.length c3)))∧W'.cell? ⟨gp,m,none⟩=some (.slice U (innI c).length cu)) (first | (refine HCC.out _ ?_;(repeat' with_reducible first | assumption | exact bR | apply bD | apply bA | apply bC | apply bW | omega | simp <;> omega);done) | go_keep)
        (first | (go_at_call 231;(try (first | refine calls_new ?_ | refine calls_newd ?_);intro hg);refine (sCheapest_any _ _ r c _ (HR.out.next (SN.out.next (by (repeat' with_reducible first | assumption | exact bR | apply bD | apply bA | apply bC | apply bW | omega | simp <;> omega))).low) (RL.next HOI.out (flat_mono _) (by (repeat' with_reducible first | assumption | exact bR | apply bD | apply bA | apply bC | apply bW | omega | simp <;> omega))) HSS.out).mono ?_;rintro e w2 ⟨rfl,hb2⟩;rw [HT.out];have hn2:=bstep (a:=wr1) (by (repeat' with_reducible first | assumption | exact bR | apply bD | apply bA | apply bC | apply bW | omega | simp <;> omega)) hb2;have hz2:=hn2.size;have hj2:=hb2.size;(try simp only [World.size_alloc,World.size_drew] at hj2);have SE:=Lib.hid ((SN.out.drew.alloc #[.int .i64 0,.int .i64 0,.int .i64 0,.int .i64 0,.int .i64 0,.int .i64 0,.int .i64 0] 142));(first | (have SE:=Lib.hid (SE.out.next hb2)) | skip);have SN:=Lib.hid ((SN.out.next (by (repeat' with_reducible first | assumption | exact bR | apply bD | apply bA | apply bC | apply bW | omega | simp <;> omega))).next hb2);(try (have hg:=blk_next hg hb2;have hgc:=fun j=>cell_of_row _ _ j _ _ (0,0) hg;have hgf:=fun j=>frozen_of_row _ _ j _ _ hg;have hgl:=lt_of_block hg))))
       all_goals (go_wp2_with fail;go_meet)
       ·exact ⟨_,rfl,rfl,Lib.hid (SN.out.alloc _ _)⟩
       all_goals exact ⟨_,rfl,rfl,Lib.hid (SE.out.overL [.int .i64 t.1.id,.int .i64 t.1.w,.int .i64 t.1.h,.int .i64 t.1.d,.int .i64 t.1.tare,.int .i64 t.1.gram,.int .i64 t.1.cost] 0)⟩
      case rest =>
       obtain ⟨g8,rfl,rfl,SN2⟩:=hcut
       have SN:=SN2
       clear SN2 HCC hcc HOI
       obtain ⟨fi,hoi⟩:=(SN.out.inns (.tail _ (.tail _ (.tail _ (.tail _ (.head _)))))).read HCM.out
       have HOI:=Lib.hid (OInts.read hoi (show (innI c).length≤16777216 by omega))
       clear hoi
       have hk8:=SN.out.box (.head _)
       have k8:=hk8 0
       simp at k8
       have hcc:=(SN.out.list (.tail _ (.tail _ (.tail _ (.head _))))).cells (fun _=>rfl) HCM.out 0 (.slice U (innI c).length cu) rfl
       simp only [Nat.mul_one,Nat.add_zero] at hcc
       clear hk8
       go_wp2_with fail
       refine (sSortUp_any _ c _ (RL.next HOI.out (flat_mono _) (by (repeat' with_reducible first | assumption | exact bR | apply bD | apply bA | apply bC | apply bW | omega | simp <;> omega)))).mono ?_
       intro e5 w5 hm5
       obtain ⟨v5,f8,rfl,hS⟩:=SN.out.gotInts hm5
       obtain ⟨Q,cq,rfl,_⟩:=(hS.list (.head _)).form
       have SN:=Lib.hid ((hS.alloc #[] 3).boxNil cI 1)
       clear hS hm5 k8 hcc
       go_wp2
       go_loopw [11,12] (fun vv i wr2=>∃ (j:Nat) (fp:List Nat),j≤(ints (argUp c)).length∧i=.int .i64 j∧Hid (Sit w wr2 [fOF cI 3 1 w.heap.size vv (pickAt c ((argUp c).take j)) fp,fOF cI 3 1 w.heap.size (.slice Q (ints (argUp c)).length cq) (ints (argUp c)) f8,fBox g8 #[.int .i64 t.1.id,.int .i64 t.1.w,.int .i64 t.1.h,.int .i64 t.1.d,.int .i64 t.1.tare,.int .i64 t.1.gram,.int .i64 t.1.cost] 142,fOF (fz hdCarton) 78 3 w.heap.size u3 zs1 f6,fInn Carton.units w.heap.size zs1 f7,fOF (fz hdInts) 53 1 w.heap.size (.slice (some ⟨gp,0,none⟩) ls.length cp) ls f4,fInn innI w.heap.size ls f5,fBox w.heap.size (cR r A1 c1 A2 c2 A3 c3) 41])) (fun _ i _=>(ints (argUp c)).length - (intOf i).toNat)
       case atStart=>exact ⟨0,_,Nat.zero_le _,rfl,SN⟩
       case round =>
        clear SN HOI
        obtain ⟨j,f9,hj,rfl,SN⟩:=hrel
        obtain ⟨wr2,rfl⟩:∃ x,x=wr:=⟨_,rfl⟩
        by_cases hlt2:j < (ints (argUp c)).length
        ·obtain ⟨p,hp⟩:∃ p,(argUp c)[j]? = some p:=⟨_,List.getElem?_eq_getElem (by rw [ints_length] at hlt2;exact hlt2)⟩
         have hpc:p < c.length:=argUp_mem.1 (List.mem_of_getElem? hp)
         obtain ⟨y,hy⟩:∃ y,c[p]? = some y:=⟨_,List.getElem?_eq_getElem hpc⟩
         have HPS:=Lib.hid (pick_step hp hy)
         obtain ⟨gu,rfl⟩:=inn_ptr (SN.out.inns (.tail _ (.tail _ (.tail _ (.tail _ (.tail _ (.tail _ (.head _)))))))) HCM.out (show p < (innI c).length from hpc)
         obtain ⟨gq,rfl⟩:=head_ptr (SN.out.list (.tail _ (.head _))) (ints_get hp)
         have hcc:=(SN.out.list (.tail _ (.tail _ (.tail _ (.tail _ (.tail _ (.head _))))))).cells (fun _=>rfl) HCM.out 0 (.slice (some ⟨gu,0,none⟩) (innI c).length cu) rfl
         have hcq:=(SN.out.list (.tail _ (.head _))).cells (fun _=>rfl) (ints_get hp) 0 (.int .i64 (p:Int)) rfl
         have hcu:=inn_cell (SN.out.inns (.tail _ (.tail _ (.tail _ (.tail _ (.tail _ (.tail _ (.head _)))))))) HCM.out (show (innI c)[p]? = some y from hy)
         have hgp:=(SN.out.list (.tail _ (.tail _ (.tail _ (.tail _ (.tail _ (.head _))))))).size.2.2.2
         have hgq:=(SN.out.list (.tail _ (.head _))).size.2.2.2
         have hgu:=inn_lt (SN.out.inns (.tail _ (.tail _ (.tail _ (.tail _ (.tail _ (.tail _ (.head _)))))))) HCM.out
         simp only [Nat.mul_one,Nat.add_zero] at hcc hcq
         have hpl:(pickAt c ((argUp c).take j)).length≤12:=by rw [pickAt_len,List.length_take];omega
         have hpi:(p:Int) < ((innI c).length:Int):=by show (p:Int) < (c.length:Int);omega
         clear hp hy
         go_wp2
         go_region_law (refine sapp_Int (.tmp 54) (.tmp 65) rfl rfl (y) rfl rfl (heap_alloc_new _ _) rfl ((SN.out.list (.head _)).next (by repeat' with_reducible first | assumption | exact bR | apply bD | apply bA | apply bC | apply bN | simp <;> omega)) (by first | omega | (simp;done) | (simp;omega)) (by have:=SN.out.low.size;first | omega | (simp;done) | (simp;omega)) ?_;intro v7 w7 ha;obtain ⟨g7,S7⟩:=(SN.out.next (by repeat' with_reducible first | assumption | exact bR | apply bD | apply bA | apply bC | apply bN | simp <;> omega)).app ha;have S8:=Lib.hid S7;clear S7 ha)
         all_goals
          go_wp2
          go_roundw
          case rel=>exact ⟨j + 1,_,hlt2,by go_num,by rw [HPS.out];first | exact S8 | exact Lib.hid S8.out.drew⟩
          case measure=>simp [intOf] <;> omega
        ·have HJ:=Lib.hid (show pickAt c ((argUp c).take j)=sortI c by rw [List.take_of_length_le (by rw [ints_length] at hlt2;omega),pick_sort])
         rw [HJ.out] at SN
         obtain ⟨V,cv,rfl,_⟩:=(SN.out.list (.head _)).form
         have hk8:=SN.out.box (.tail _ (.tail _ (.head _)))
         have k8:=hk8 0
         simp at k8
         clear hk8
         have SN:=Lib.hid SN.out.rot2.drop.rot2.drop
         have HCR:=Lib.hid (show cartonR r k c=⟨t.1.id,k,sortI c⟩ by unfold cartonR;rw [HT.out])
         clear hal hil
         go_wp2_with (at_builtin;refine papp_hCarton _ _ rfl rfl (⟨t.1.id,k,sortI c⟩,.slice V (sortI c).length cv) rfl rfl (heap_alloc_new _ _) rfl ((SN.out.list (.tail _ (.head _))).next (by repeat' with_reducible first | assumption | exact bR | apply bD | apply bA | apply bC | apply bN | simp <;> omega)) (by first | omega | (simp;done) | (simp;omega)) (by have:=SN.out.low.size;first | omega | (simp;done) | (simp;omega)) ?_;intro v7 w7 ha;obtain ⟨g7,g8,S7⟩:=SN.out.pushed (x:=⟨t.1.id,k,sortI c⟩) rfl (by repeat' with_reducible first | assumption | exact bR | apply bD | apply bA | apply bC | apply bN | simp <;> omega) ha;have S8:=Lib.hid S7;clear S7 ha)
         go_roundw
         case rel=>exact ⟨m + 1,_,g7,g8,hlt1,by go_num,by rw [HSTM.out,HCR.out];exact map_fst_app HZ1.out,by simp <;> omega,S8⟩
         case measure=>simp [intOf] <;> omega
     ·obtain rfl:m=ls.length:=by omega
      have HE:=Lib.hid (show (List.map (·.1) zs1)=(List.range (k + 1)).flatMap fun k:Nat=>cartonsG r (k:Int) by rw [HZ1.out,HST.out,HG.out,List.take_of_length_le (by have:=HLSL.out;omega)])
      go_wp2
      go_roundw
      case rel=>exact ⟨k + 1,zs1,f6,f7,hlt,by go_num,HE.out,by omega,Lib.hid (SN.out.rot4.rot4.drop.drop)⟩
      case measure=>simp [intOf] <;> omega
  ·obtain rfl:k=(groupsR r).length:=by omega
   go_wp2
   go_ret
   exact SN.out.nest HZ.out
end Go.Proofs.YtioijfplbgpjpaaGreat
