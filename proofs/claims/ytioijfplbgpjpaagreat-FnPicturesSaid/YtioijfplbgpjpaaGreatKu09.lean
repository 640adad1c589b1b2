/-
  TypeById and BoxesOk: the reference's walks.
-/
import Derived.Test.YtioijfplbgpjpaaGreatKu06
import Derived.Deep.RegionHeld3
import Derived.Deep.DeepCutAuto
import Derived.Deep.RegionLaw
import Derived.Deep.RegionWith
import Derived.StillTailTactics
import Derived.Test.YtioijfplbgpjpaaGreatKu02
namespace Go.Proofs.YtioijfplbgpjpaaGreat
set_option linter.unusedVariables false
set_option linter.unusedSimpArgs false
set_option maxRecDepth 100000
open Go.RowKit Go.WideShapes Go.ChangeShapes Go.ChangeAt Go.Deep
set_option maxHeartbeats 1000000 in
theorem sTypeById_any (v:Value) (r:Request) (id:Int) (w:World) (h:RReq 16777216 w w.heap.size v r) :
    Calls Tryz.prog 167 #[v,.int .i64 id] w fun e w'=>e=.returned (.tuple #[(typeById r id).1.val,.bool (typeById r id).2])∧Below w.heap.size w w':=by
  obtain ⟨A1,c1,A2,c2,A3,c3,rfl,⟨_,H2,_⟩,_,hbt,_⟩:=h.opn
  have hq0:=lay_box0 w [.cells (cR r A1 c1 A2 c2 A3 c3) 41,.cells #[.int .i64 0,.int .i64 0,.int .i64 0,.int .i64 0,.int .i64 0,.int .i64 0,.int .i64 0] 142] _ _ rfl
  have hq1:=lay_box w [.cells (cR r A1 c1 A2 c2 A3 c3) 41,.cells #[.int .i64 0,.int .i64 0,.int .i64 0,.int .i64 0,.int .i64 0,.int .i64 0,.int .i64 0] 142] 1 _ _ rfl
  have hf1:=lay_free w [.cells (cR r A1 c1 A2 c2 A3 c3) 41,.cells #[.int .i64 0,.int .i64 0,.int .i64 0,.int .i64 0,.int .i64 0,.int .i64 0,.int .i64 0] 142] 1 _ _ rfl
  have HL:=Lib.hid (lay_low w [.cells (cR r A1 c1 A2 c2 A3 c3) 41,.cells #[.int .i64 0,.int .i64 0,.int .i64 0,.int .i64 0,.int .i64 0,.int .i64 0,.int .i64 0] 142])
  go_enter Tryz.func167,Tryz.ntmps167
  go_wp2
  go_loopw [6] (fun i wr=>∃ (k:Nat) (X:Ext (w.heap.size + 2) (lay w [.cells (cR r A1 c1 A2 c2 A3 c3) 41,.cells #[.int .i64 0,.int .i64 0,.int .i64 0,.int .i64 0,.int .i64 0,.int .i64 0,.int .i64 0] 142])),wr=X.world∧k≤r.types.length∧i=.int .i64 k∧(r.types.drop k).find? (fun t=>t.id == id)=r.types.find? (fun t=>t.id == id)) (fun i _=>r.types.length - (intOf i).toNat)
  case atStart=>exact ⟨0,Ext.here _ _,rfl,Nat.zero_le _,rfl,rfl⟩
  case round =>
    obtain ⟨k,X,rfl,hk,rfl,hin⟩:=hrel
    by_cases hlt:k < r.types.length
    · obtain ⟨b,off,x,rfl,hb,hx,hc⟩:=H2.out.flatX HL.out k hlt
      have hc0:=hc 0 _ rfl
      have hc1:=hc 1 _ rfl
      have hc2:=hc 2 _ rfl
      have hc3:=hc 3 _ rfl
      have hc4:=hc 4 _ rfl
      have hc5:=hc 5 _ rfl
      have hc6:=hc 6 _ rfl
      simp only [Nat.add_zero] at hc0
      obtain ⟨hl0,hl1⟩:(0:Int)≤(k:Int)∧(k:Int) < (r.types.length:Int):=by omega
      have HD:=Lib.hid (show r.types.find? (fun t=>t.id == id)=if (x.id == id)=true then some x else (r.types.drop (k + 1)).find? (fun t=>t.id == id) by rw [← hin,dropC hx];cases hq:(x.id == id) <;> simp [List.find?_cons,hq])
      clear hc hin
      go_wp2
      all_goals first
        | (refine bodyPost_ret (v:=.tuple #[x.val,.bool true]) (by simp [results,Tryz.results167,go_sem,hq1,hf1]) rfl ⟨?_,?_⟩
           · rw [show typeById r id=(x,true) by unfold typeById;rw [HD.out,if_pos (by simp [*])]]
           · have:=HL.out X
             (repeat' with_reducible first | assumption | exact bR | apply bD | apply bA | apply bC | apply bN | simp <;> omega))
        | (go_roundw;(case rel=>exact ⟨k + 1,X,rfl,hlt,by go_num,by rw [HD.out,if_neg (by simp [*])]⟩);(case measure=>(simp [intOf];omega)))
    · have HD:=Lib.hid (show r.types.find? (fun t=>t.id == id)=none by rw [← hin,List.drop_of_length_le (by omega)];rfl)
      clear hin
      go_wp2
      refine bodyPost_ret (v:=.tuple #[.agg #[.int .i64 0,.int .i64 0,.int .i64 0,.int .i64 0,.int .i64 0,.int .i64 0,.int .i64 0],.bool false]) (by simp [results,Tryz.results167,go_sem,hq1,hf1]) rfl ⟨?_,?_⟩
      · rw [show typeById r id=(⟨0,0,0,0,0,0,0⟩,false) by unfold typeById;rw [HD.out]]
      · have:=HL.out X
        (repeat' with_reducible first | assumption | exact bR | apply bD | apply bA | apply bC | apply bN | simp <;> omega)
set_option maxRecDepth 100000 in
set_option maxHeartbeats 1000000 in
theorem sBoxesOk_any (p:Pallet) (v:Value) (ss:List Box) (w:World) (h:RL 16777216 4 (flat Box.cells) w w.heap.size v ss):Calls Tryz.prog 234 #[p.val,v] w fun e w'=>e=.returned (.bool (boxesOk p ss))∧Below w.heap.size w w':=by
 have HS:=Lib.hid h
 obtain ⟨E,e,rfl,hbd,_⟩:=h
 have SN:=Lib.hid ((Sit.here w).alloc #[.int .i64 p.w,.int .i64 p.d,.int .i64 p.h,.int .i64 p.gram] 36)
 obtain ⟨bp,hbp⟩:∃ b,palletOk p=b:=⟨_,rfl⟩
 have HBP:=Lib.hid hbp
 have HM:=Lib.hid (show boxesOk p ss=(bp && ss.all (boxOk p)) by unfold boxesOk;rw [hbp])
 clear hbp
 go_enter Tryz.func234,Tryz.ntmps234
 have k0:=SN.out.box (.head _)
 go_wp2_with fail
 refine (sPalletOk_any p _).mono ?_
 rintro e1 w1 ⟨rfl,hb1⟩
 rw [HBP.out]
 have SN:=Lib.hid (SN.out.next hb1)
 clear k0 hb1
 cases bp
 ·go_wp2
  go_ret
  exact ⟨by rw [HM.out];rfl,SN.out.low⟩
 ·go_wp2
  go_loopw [5] (fun i wr=>∃ (k:Nat),k≤ss.length∧i=.int .i64 k∧Hid ((ss.drop k).all (boxOk p)=boxesOk p ss)∧Hid (Sit w wr [fBox w.heap.size #[.int .i64 p.w,.int .i64 p.d,.int .i64 p.h,.int .i64 p.gram] 36])) (fun i _=>ss.length - (intOf i).toNat)
  case atStart=>exact ⟨0,Nat.zero_le _,rfl,Lib.hid (by rw [HM.out];rfl),SN⟩
  case round =>
   clear SN
   obtain ⟨k,hk,rfl,HD,SN⟩:=hrel
   by_cases hlt:k < ss.length
   ·obtain ⟨b,off,x,_,rfl,hb,hx,_,rfl,hc⟩:=(HS.out.next (flat_mono _) SN.out.low).at_ k hlt
    have hc0:=hc 0 _ rfl;have hc1:=hc 1 _ rfl;have hc2:=hc 2 _ rfl;have hc3:=hc 3 _ rfl;simp only [Nat.add_zero] at hc0
    have k0:=SN.out.box (.head _)
    have l0:=SN.out.boxlt (.head _)
    obtain ⟨f1,h1⟩:∃ f,inB x.w 1 p.w=f:=⟨_,rfl⟩
    obtain ⟨f2,h2⟩:∃ f,inB x.d 1 p.d=f:=⟨_,rfl⟩
    obtain ⟨f3,h3⟩:∃ f,inB x.h 1 p.h=f:=⟨_,rfl⟩
    obtain ⟨f4,h4⟩:∃ f,inB x.gram 1 p.gram=f:=⟨_,rfl⟩
    have HST:=Lib.hid (show (ss.drop k).all (boxOk p)=((f1 && f2 && f3 && f4) && (ss.drop (k + 1)).all (boxOk p)) by rw [drop_cons hx,List.all_cons];unfold boxOk;rw [h1,h2,h3,h4])
    have H1:=Lib.hid h1
    have H2:=Lib.hid h2
    have H3:=Lib.hid h3
    have H4:=Lib.hid h4
    have SM:=Lib.hid (SN.out.alloc #[.int .i64 x.w,.int .i64 x.d,.int .i64 x.h,.int .i64 x.gram] 75)
    clear hc hx h1 h2 h3 h4
    cases f1 <;> cases f2 <;> cases f3 <;> cases f4
    all_goals go_wp2_with (go_at_call 104;refine (l1In_any _ _ _ _).mono ?_;rintro e w' ⟨rfl,rfl⟩;first | rw [H1.out] | rw [H2.out] | rw [H3.out] | rw [H4.out])
    all_goals first | (go_ret;exact ⟨by rw [← HD.out,HST.out];rfl,SM.out.low⟩) | go_roundw
    all_goals first | (case rel=>exact ⟨k + 1,hlt,by go_num,Lib.hid (by rw [← HD.out,HST.out];simp),Lib.hid SM.out.drop⟩) | (case measure=>simp [intOf] <;> omega)
   ·have HE:=Lib.hid (show boxesOk p ss=true by rw [← HD.out,List.drop_eq_nil_of_le (by omega)];rfl)
    go_wp2
    go_ret
    exact ⟨by rw [HE.out];rfl,SN.out.low⟩
end Go.Proofs.YtioijfplbgpjpaaGreat
namespace Go.Proofs.YtioijfplbgpjpaaGreat
set_option linter.unusedVariables false
set_option linter.unusedSimpArgs false
set_option maxRecDepth 100000
open Go.RowKit Go.WideShapes Go.ChangeShapes Go.ChangeAt Go.Deep
set_option maxRecDepth 100000 in
set_option maxHeartbeats 1000000 in
theorem sGramOf_any (v vu:Value) (r:Request) (us:List Int) (w:World) (h:RReq 16777216 w w.heap.size v r) (hu:RInts 16777216 w w.heap.size vu us):Calls Tryz.prog 239 #[v,vu] w fun e w'=>e=.returned (.int .i64 (gramOf r us))∧Below w.heap.size w w':=by
 have HR:=Lib.hid h
 have HU:=Lib.hid hu
 have HI:=Lib.hid (show ∀ (i:Nat) (n:Int),(unitsC r)[i]? = some n→0≤n∧n.toNat < r.items.length from fun i n hn=>by
  unfold unitsC at hn
  split at hn
  ·have:=units_item hn;exact ⟨this.1,this.2.2⟩
  ·simp at hn)
 have hcl:(unitsC r).length≤12:=by
  unfold unitsC
  split
  ·rename_i hs;exact (right_of hs).nunits
  ·simp
 obtain ⟨A1,c1,A2,c2,A3,c3,rfl,_⟩:=h.opn
 obtain ⟨E,e,rfl,hbd,_⟩:=hu
 have SN:=Lib.hid ((Sit.here w).alloc (cR r A1 c1 A2 c2 A3 c3) 41)
 clear h
 go_enter Tryz.func239,Tryz.ntmps239
 have k0:=SN.out.box (.head _)
 have l0:=SN.out.boxlt (.head _)
 go_wp2_with fail
 refine (unitsC_any _ r _ (HR.out.next SN.out.low)).mono ?_
 intro e1 w1 hm
 obtain ⟨v1,fp,rfl,hS⟩:=SN.out.gotInts hm
 obtain ⟨D,d,rfl,_⟩:=(hS.list (.head _)).form
 have SN:=Lib.hid hS
 clear k0 l0 hS hm
 go_wp2
 go_loopw [6,7] (fun n i wr=>∃ (k:Nat),k≤us.length∧i=.int .i64 k∧n=.int .i64 ((us.take k).foldl (gramStep r) 0)∧Hid (Sit w wr [fOF cI 3 1 w.heap.size (.slice D (unitsC r).length d) (unitsC r) fp,fBox w.heap.size (cR r A1 c1 A2 c2 A3 c3) 41])) (fun _ i _=>us.length - (intOf i).toNat)
 case atStart=>exact ⟨0,Nat.zero_le _,rfl,rfl,SN⟩
 case round =>
  clear SN
  obtain ⟨k,hk,rfl,rfl,SN⟩:=hrel
  by_cases hlt:k < us.length
  ·obtain ⟨b,off,u,rfl,hb,hx,hc⟩:=HU.out.at1 k hlt
   have hc0:=hc _ rfl
   have HCK:=Lib.hid (show ∀ X:World,Below w.heap.size w X→X.cell? ⟨b,off + k,none⟩=some (.int .i64 u) from fun X hX=>(hX.cell (p:=⟨b,off + k,none⟩) hb).trans hc0)
   have HS:=Lib.hid (foldl_take_step (f:=gramStep r) (b:=0) hx)
   obtain ⟨G,hG⟩:∃ G,(us.take k).foldl (gramStep r) 0=G:=⟨_,rfl⟩
   obtain ⟨q,hq⟩:∃ q,itemOf r (unitsC r) u=q:=⟨_,rfl⟩
   have HQ:=Lib.hid hq
   have HG:=Lib.hid (show gramStep r G u=wrap64 (G + q.1.gram) by unfold gramStep;rw [hq])
   rw [hG] at HS ⊢
   clear hc hc0 hx hG hq
   go_upto_region 6 with fail
   go_cut [8,9] (fun v8 v9 X=>∃ g8,v8=.pointer (some ⟨g8,0,none⟩)∧v9=.bool q.2∧Hid (Sit w X [fBox g8 #[.int .i64 q.1.id,.int .i64 q.1.w,.int .i64 q.1.h,.int .i64 q.1.d,.int .i64 q.1.gram,.int .i64 q.1.cls,.int .i64 q.1.count] 152,fOF cI 3 1 w.heap.size (.slice D (unitsC r).length d) (unitsC r) fp,fBox w.heap.size (cR r A1 c1 A2 c2 A3 c3) 41]))
   case first =>
    have HCC:=Lib.hid (show ∀ X:World,Below wr.heap.size wr X→(cS10 (X) (w.heap.size) (r) (.slice A1 r.pairs.length c1) (.slice A2 r.types.length c2) (.slice A3 r.items.length c3))∧X.cell? ⟨b,off + k,none⟩=some (.int .i64 u) from fun X hX=>by
     have hX:=SN.out.next hX
     have c0:=hX.box (.tail _ (.head _))
     exact ⟨⟨c0 0,c0 1,c0 2,c0 3,c0 4,c0 5,c0 6,c0 7,c0 8,c0 9⟩,HCK.out _ hX.low⟩)
    go_region_held3 (fun W'=>((cS10 (W') (w.heap.size) (r) (.slice A1 r.pairs.length c1) (.slice A2 r.types.length c2) (.slice A3 r.items.length c3)))∧W'.cell? ⟨b,off + k,none⟩=some (.int .i64 u)) (first | (refine HCC.out _ ?_;(repeat' with_reducible first | assumption | exact bR | apply bD | apply bA | apply bC | apply bW | omega | simp <;> omega);done) | go_keep) (first | (go_at_call 255;(try (first | refine calls_new ?_ | refine calls_newd ?_);intro hg);refine (l6Item_any _ _ r _ u _ (HR.out.next (SN.out.next (by (repeat' with_reducible first | assumption | exact bR | apply bD | apply bA | apply bC | apply bW | omega | simp <;> omega))).low) (OInts.read ((SN.out.next (by (repeat' with_reducible first | assumption | exact bR | apply bD | apply bA | apply bC | apply bW | omega | simp <;> omega))).list (.head _)) (by omega)) HI.out).mono ?_;rintro e w2 ⟨rfl,hb2⟩;rw [HQ.out];have hn2:=bstep (a:=wr) (by (repeat' with_reducible first | assumption | exact bR | apply bD | apply bA | apply bC | apply bW | omega | simp <;> omega)) hb2;have hz2:=hn2.size;have hj2:=hb2.size;(try simp only [World.size_alloc,World.size_drew] at hj2);have SE:=Lib.hid ((SN.out.drew.alloc #[.int .i64 0,.int .i64 0,.int .i64 0,.int .i64 0,.int .i64 0,.int .i64 0,.int .i64 0] 152));(first | (have SE:=Lib.hid (SE.out.next hb2)) | skip);have SN:=Lib.hid ((SN.out.next (by (repeat' with_reducible first | assumption | exact bR | apply bD | apply bA | apply bC | apply bW | omega | simp <;> omega))).next hb2);(try (have hg:=blk_next hg hb2;have hgc:=fun j=>cell_of_row _ _ j _ _ (0,0) hg;have hgf:=fun j=>frozen_of_row _ _ j _ _ hg;have hgl:=lt_of_block hg))))
    all_goals (go_wp2_with fail;go_meet)
    ·exact ⟨_,rfl,rfl,Lib.hid (SN.out.alloc _ _)⟩
    all_goals exact ⟨_,rfl,rfl,Lib.hid (SE.out.overL [.int .i64 q.1.id,.int .i64 q.1.w,.int .i64 q.1.h,.int .i64 q.1.d,.int .i64 q.1.gram,.int .i64 q.1.cls,.int .i64 q.1.count] 0)⟩
   case rest =>
    obtain ⟨g8,rfl,rfl,SN2⟩:=hcut
    have SN:=SN2
    clear SN2
    have k8:=SN.out.box (.head _)
    go_wp2
    go_roundw
    case rel=>exact ⟨k + 1,hlt,by go_num,by rw [HS.out,HG.out],Lib.hid SN.out.drop⟩
    case measure=>simp [intOf] <;> omega
  ·obtain rfl:k=us.length:=by omega
   have HM:=Lib.hid (show (us.take us.length).foldl (gramStep r) 0=gramOf r us by rw [List.take_length];rfl)
   go_wp2
   go_ret
   exact ⟨by rw [HM.out];rfl,SN.out.low⟩
end Go.Proofs.YtioijfplbgpjpaaGreat
namespace Go.Proofs.YtioijfplbgpjpaaGreat
set_option linter.unusedVariables false
set_option linter.unusedSimpArgs false
set_option maxRecDepth 100000
open Go.RowKit Go.WideShapes Go.ChangeShapes Go.ChangeAt Go.Deep
theorem still_of {P:Program} {f:FuncId} {args:Array Value} {w:World} {v:Value} (h:Calls P f args w fun e w'=>e=.returned v∧w=w'):Calls P f args w fun e w''=>e=.returned v∧w''=w:=h.mono (fun _ _ h=>⟨h.1,h.2.symm⟩)
set_option maxRecDepth 100000 in
set_option maxHeartbeats 1000000 in
theorem l7Of_any (v va vu:Value) (r:Request) (all us:List Int) (w:World) (h:RReq 16777216 w w.heap.size v r) (ha:RInts 16777216 w w.heap.size va all) (hu:RInts 16777216 w w.heap.size vu us) (hi:∀ (i:Nat) (n:Int),all[i]? = some n→0≤n∧n.toNat < r.items.length) :
  Calls Tryz.prog 310 #[v,va,vu] w fun e w'=>e=.returned (.agg #[.int .i64 (loadOf r all us).1,.int .i64 (loadOf r all us).2])∧Below w.heap.size w w':=by
 have HR:=Lib.hid h
 have HA:=Lib.hid ha
 have HU:=Lib.hid hu
 have HI:=Lib.hid hi
 obtain ⟨A1,c1,A2,c2,A3,c3,rfl,_⟩:=h.opn
 obtain ⟨E,e,rfl,hbd,_⟩:=hu
 obtain ⟨D,d,rfl,hbda,_⟩:=ha
 have hS:=(((Sit.here w).alloc (cR r A1 c1 A2 c2 A3 c3) 41).alloc #[.int .i64 0,.int .i64 0] 270).alloc #[.int .i64 0,.int .i64 0] 270
 simp only [World.size_alloc] at hS
 have SN:=Lib.hid hS
 clear h hS hi
 go_enter Tryz.func310,Tryz.ntmps310
 go_wp2
 go_loopw [8] (fun i wr=>∃ (k:Nat),k≤us.length∧i=.int .i64 k∧Hid (Sit w wr [fBox (w.heap.size + 1 + 1) #[.int .i64 ((us.take k).foldl (loadStep r all) (0,0)).1,.int .i64 ((us.take k).foldl (loadStep r all) (0,0)).2] 270,fBox (w.heap.size + 1) #[.int .i64 0,.int .i64 0] 270,fBox w.heap.size (cR r A1 c1 A2 c2 A3 c3) 41])) (fun i _=>us.length - (intOf i).toNat)
 case atStart=>exact ⟨0,Nat.zero_le _,rfl,SN⟩
 case round =>
  clear SN
  obtain ⟨k,hk,rfl,SN⟩:=hrel
  by_cases hlt:k < us.length
  ·obtain ⟨b,off,u,rfl,hb,hx,hc⟩:=HU.out.at1 k hlt
   have hc0:=hc _ rfl
   have HCK:=Lib.hid (show ∀ X:World,Below w.heap.size w X→X.cell? ⟨b,off + k,none⟩=some (.int .i64 u) from fun X hX=>(hX.cell (p:=⟨b,off + k,none⟩) hb).trans hc0)
   have HS:=Lib.hid (foldl_take_step (f:=loadStep r all) (b:=((0:Int),(0:Int))) hx)
   obtain ⟨G,hG⟩:∃ G,(us.take k).foldl (loadStep r all) (0,0)=G:=⟨_,rfl⟩
   obtain ⟨q,hq⟩:∃ q,itemOf r all u=q:=⟨_,rfl⟩
   have HQ:=Lib.hid hq
   obtain ⟨vv,hvv⟩:∃ vv,vol q.1.w q.1.h q.1.d=vv:=⟨_,rfl⟩
   have HV:=Lib.hid hvv
   have HG:=Lib.hid (show loadStep r all G u=(wrap64 (G.1 + vv),wrap64 (G.2 + q.1.gram)) by unfold loadStep;rw [hq,hvv])
   rw [hG] at HS SN
   clear hc hc0 hx hG hq hvv
   go_upto_region 5 with fail
   go_cut [9,10] (fun v8 v9 X=>∃ g8,v8=.pointer (some ⟨g8,0,none⟩)∧v9=.bool q.2∧Hid (Sit w X (fBox g8 #[.int .i64 q.1.id,.int .i64 q.1.w,.int .i64 q.1.h,.int .i64 q.1.d,.int .i64 q.1.gram,.int .i64 q.1.cls,.int .i64 q.1.count] 152::[fBox (w.heap.size + 1 + 1) #[.int .i64 G.1,.int .i64 G.2] 270,fBox (w.heap.size + 1) #[.int .i64 0,.int .i64 0] 270,fBox w.heap.size (cR r A1 c1 A2 c2 A3 c3) 41])))
   case first =>
    have HCC:=Lib.hid (show ∀ X:World,Below wr.heap.size wr X→(cS10 (X) (w.heap.size) (r) (.slice A1 r.pairs.length c1) (.slice A2 r.types.length c2) (.slice A3 r.items.length c3))∧X.cell? ⟨b,off + k,none⟩=some (.int .i64 u) from fun X hX=>by
     have hX:=SN.out.next hX
     have c0:=hX.box (g:=w.heap.size) (cs:=(cR r A1 c1 A2 c2 A3 c3)) (t:=41) mq
     exact ⟨⟨c0 0,c0 1,c0 2,c0 3,c0 4,c0 5,c0 6,c0 7,c0 8,c0 9⟩,HCK.out _ hX.low⟩)
    go_region_held3 (fun W'=>((cS10 (W') (w.heap.size) (r) (.slice A1 r.pairs.length c1) (.slice A2 r.types.length c2) (.slice A3 r.items.length c3)))∧W'.cell? ⟨b,off + k,none⟩=some (.int .i64 u)) (first | (refine HCC.out _ ?_;(repeat' with_reducible first | assumption | exact bR | apply bD | apply bA | apply bC | apply bW | omega | simp <;> omega);done) | go_keep) (first | (go_at_call 255;(try (first | refine calls_new ?_ | refine calls_newd ?_);intro hg);refine (l6Item_any _ _ r _ u _ (HR.out.next (SN.out.next (by (repeat' with_reducible first | assumption | exact bR | apply bD | apply bA | apply bC | apply bW | omega | simp <;> omega))).low) (HA.out.next (flat_mono _) (SN.out.next (by (repeat' with_reducible first | assumption | exact bR | apply bD | apply bA | apply bC | apply bW | omega | simp <;> omega))).low) HI.out).mono ?_;rintro e w2 ⟨rfl,hb2⟩;rw [HQ.out];have hn2:=bstep (a:=wr) (by (repeat' with_reducible first | assumption | exact bR | apply bD | apply bA | apply bC | apply bW | omega | simp <;> omega)) hb2;have hz2:=hn2.size;have hj2:=hb2.size;(try simp only [World.size_alloc,World.size_drew] at hj2);have SE:=Lib.hid ((SN.out.drew.alloc #[.int .i64 0,.int .i64 0,.int .i64 0,.int .i64 0,.int .i64 0,.int .i64 0,.int .i64 0] 152));(first | (have SE:=Lib.hid (SE.out.next hb2)) | skip);have SN:=Lib.hid ((SN.out.next (by (repeat' with_reducible first | assumption | exact bR | apply bD | apply bA | apply bC | apply bW | omega | simp <;> omega))).next hb2);(try (have hg:=blk_next hg hb2;have hgc:=fun j=>cell_of_row _ _ j _ _ (0,0) hg;have hgf:=fun j=>frozen_of_row _ _ j _ _ hg;have hgl:=lt_of_block hg))))
    all_goals (go_wp2_with fail;go_meet)
    ·exact ⟨_,rfl,rfl,Lib.hid (SN.out.alloc _ _)⟩
    all_goals exact ⟨_,rfl,rfl,Lib.hid (SE.out.overL [.int .i64 q.1.id,.int .i64 q.1.w,.int .i64 q.1.h,.int .i64 q.1.d,.int .i64 q.1.gram,.int .i64 q.1.cls,.int .i64 q.1.count] 0)⟩
   case rest =>
    obtain ⟨g8,rfl,rfl,SN2⟩:=hcut
    have SN:=SN2
    clear SN2
    have k8:=SN.out.box (.head _)
    have k81:=k8 1
    have k82:=k8 2
    have k83:=k8 3
    have k84:=k8 4
    have k7:=SN.out.box (.tail _ (.head _))
    have k70:=k7 0
    have k71:=k7 1
    have f7:=SN.out.free (.tail _ (.head _))
    simp at k81 k82 k83 k84 k70 k71
    clear k8 k7
    go_wp2
    go_still_tail 11,(by kernel_rfl)
    still_call (by have h:=sVolume_any q.1.w q.1.h q.1.d wc.drew;rw [HV.out] at h;exact still_of h)
    repeat still_step
    refine wpStill_nil ?_
    change wpList _ _ _ _ _ wc.drew
    have SN:=Lib.hid SN.out.drew
    clear k81 k82 k83 k84 k70 k71 f7
    generalize wc.drew=wc2 at SN ⊢
    have k8:=SN.out.box (.head _)
    have k7:=SN.out.box (.tail _ (.head _))
    have f7:=SN.out.free (.tail _ (.head _))
    have k84:=k8 4
    have k70:=k7 0
    have k71:=k7 1
    simp at k84 k70 k71
    clear k8 k7
    go_wp2
    go_roundw
    case rel=>exact ⟨k + 1,hlt,by go_num,by rw [HS.out,HG.out];exact Lib.hid (by (try simp only [wrapE]);exact (SN.out.drop.store 0 _).store 1 _)⟩
    case measure=>simp [intOf] <;> omega
  ·obtain rfl:k=us.length:=by omega
   rw [List.take_length] at SN
   have k7:=SN.out.box (.head _)
   have k6:=SN.out.box (.tail _ (.head _))
   have f6:=SN.out.free (.tail _ (.head _))
   obtain ⟨G,hG⟩:∃ G,us.foldl (loadStep r all) (0,0)=G:=⟨_,rfl⟩
   have HM:=Lib.hid (show loadOf r all us=G from hG)
   rw [hG] at k7
   clear hG
   go_wp2
   refine bodyPost_ret (v:=.agg #[.int .i64 G.1,.int .i64 G.2]) (by simp [results,Tryz.results310,go_sem,k6,f6]) rfl ?_
   rw [HM.out]
   exact ⟨rfl,by have:=SN.out.low;(repeat' with_reducible first | assumption | exact bR | apply bD | apply bA | apply bC | apply bW | omega | simp <;> omega)⟩
end Go.Proofs.YtioijfplbgpjpaaGreat
namespace Go.Proofs.YtioijfplbgpjpaaGreat
set_option linter.unusedVariables false
set_option linter.unusedSimpArgs false
set_option maxRecDepth 100000
open Go.RowKit Go.WideShapes Go.ChangeShapes Go.ChangeAt Go.Deep
set_option maxRecDepth 100000 in
set_option maxHeartbeats 1000000 in
theorem sGross_any (v u:Value) (r:Request) (x:Carton) (w:World) (h:RReq 16777216 w w.heap.size v r) (hu:RInts 16777216 w w.heap.size u x.units):Calls Tryz.prog 168 #[v,.agg #[.int .i64 x.type,.int .i64 x.group,u]] w fun e w'=>e=.returned (.int .i64 (gross r x))∧Below w.heap.size w w':=by
 have HR:=Lib.hid h
 have HU:=Lib.hid hu
 obtain ⟨A1,c1,A2,c2,A3,c3,rfl,_⟩:=h.opn
 obtain ⟨E,e,rfl,hbd,_⟩:=hu
 have hS:=((Sit.here w).alloc (cR r A1 c1 A2 c2 A3 c3) 41).alloc #[.int .i64 x.type,.int .i64 x.group,.slice E x.units.length e] 78
 simp only [World.size_alloc] at hS
 have SN:=Lib.hid hS
 obtain ⟨t,ht⟩:∃ t,typeById r x.type=t:=⟨_,rfl⟩
 have HT:=Lib.hid ht
 obtain ⟨c,hc⟩:∃ c,classOf r=c:=⟨_,rfl⟩
 have HC:=Lib.hid hc
 obtain ⟨G,hG⟩:∃ G,gramOf r x.units=G:=⟨_,rfl⟩
 have HGR:=Lib.hid hG
 have HM:=Lib.hid (show gross r x=if c=0∧t.2=true then wrap64 (t.1.tare + G) else 0 by unfold gross;rw [sound_dec,hc,ht,hG];simp only [Bool.and_eq_true,decide_eq_true_eq])
 clear h hS ht hc hG
 go_enter Tryz.func168,Tryz.ntmps168
 have k0:=SN.out.box (.tail _ (.head _))
 have l0:=SN.out.boxlt (.tail _ (.head _))
 have k1:=SN.out.box (.head _)
 go_wp2_with fail
 refine (sTypeById_any _ r x.type _ (HR.out.next SN.out.low)).mono ?_
 rintro e1 w1 ⟨rfl,hb1⟩
 rw [HT.out]
 obtain ⟨t,tb⟩:=t
 have SN:=Lib.hid ((SN.out.next hb1).alloc #[.int .i64 t.id,.int .i64 t.w,.int .i64 t.h,.int .i64 t.d,.int .i64 t.tare,.int .i64 t.gram,.int .i64 t.cost] 142)
 clear k0 l0 k1 hb1
 have k0:=SN.out.box (.tail _ (.tail _ (.head _)))
 have l0:=SN.out.boxlt (.tail _ (.tail _ (.head _)))
 go_wp2_with fail
 refine (sClass_any _ r _ (HR.out.next SN.out.low)).mono ?_
 rintro e2 w2 ⟨rfl,hb2⟩
 rw [HC.out]
 have SN:=Lib.hid (SN.out.next hb2)
 clear k0 l0 hb2
 have k0:=SN.out.box (.tail _ (.tail _ (.head _)))
 have k1:=SN.out.box (.tail _ (.head _))
 have k5:=SN.out.box (.head _)
 by_cases hz:c=0
 ·cases tb
  ·subst hz
   go_wp2
   go_ret
   exact ⟨by rw [HM.out];rfl,SN.out.low⟩
  ·subst hz
   have HCC:=Lib.hid (show ∀ X:World,Below w2.heap.size w2 X→(cS10 (X) (w.heap.size) (r) (.slice A1 r.pairs.length c1) (.slice A2 r.types.length c2) (.slice A3 r.items.length c3))∧X.cell? ⟨w.heap.size + 1,2,none⟩=some (.slice E x.units.length e)∧X.cell? ⟨w1.heap.size,4,none⟩=some (.int .i64 t.tare) from fun X hX=>by
    have hX:=SN.out.next hX
    have c0:=hX.box (.tail _ (.tail _ (.head _)))
    exact ⟨⟨c0 0,c0 1,c0 2,c0 3,c0 4,c0 5,c0 6,c0 7,c0 8,c0 9⟩,hX.box (.tail _ (.head _)) 2,hX.box (.head _) 4⟩)
   go_wp2
   go_region_held3 (fun W'=>(cS10 (W') (w.heap.size) (r) (.slice A1 r.pairs.length c1) (.slice A2 r.types.length c2) (.slice A3 r.items.length c3))∧W'.cell? ⟨w.heap.size + 1,2,none⟩=some (.slice E x.units.length e)∧W'.cell? ⟨w1.heap.size,4,none⟩=some (.int .i64 t.tare)) (first | (refine HCC.out _ ?_;(repeat' with_reducible first | assumption | exact bR | apply bD | apply bA | apply bC | apply bW | omega | simp <;> omega);done) | go_keep)
    (first | (go_at_call 239;refine (sGramOf_any _ _ r x.units _ (HR.out.next (SN.out.next (by (repeat' with_reducible first | assumption | exact bR | apply bD | apply bA | apply bC | apply bW | omega | simp <;> omega))).low) (HU.out.next (flat_mono _) (SN.out.next (by (repeat' with_reducible first | assumption | exact bR | apply bD | apply bA | apply bC | apply bW | omega | simp <;> omega))).low)).mono ?_;rintro e w3 ⟨rfl,hb3⟩;rw [HGR.out];have hn3:=bstep (a:=w2) (by (repeat' with_reducible first | assumption | exact bR | apply bD | apply bA | apply bC | apply bW | omega | simp <;> omega)) hb3))
   have SN:=Lib.hid (SN.out.next hn3)
   go_wp2
   go_ret
   exact ⟨by rw [HM.out];simp only [wrapE];rfl,SN.out.low⟩
 ·have hz':(c != 0)=true:=by simpa using hz
  have HM2:=Lib.hid (show gross r x=0 by rw [HM.out];simp [hz])
  clear hz
  go_wp2
  go_ret
  exact ⟨by rw [HM2.out];rfl,SN.out.low⟩
set_option maxRecDepth 100000 in
set_option maxHeartbeats 1000000 in
theorem sBoxOf_any (v u:Value) (r:Request) (x:Carton) (w:World) (h:RReq 16777216 w w.heap.size v r) (hu:RInts 16777216 w w.heap.size u x.units):Calls Tryz.prog 91 #[v,.agg #[.int .i64 x.type,.int .i64 x.group,u]] w fun e w'=>e=.returned (boxR r x).val∧Below w.heap.size w w':=by
 have HR:=Lib.hid h
 have HU:=Lib.hid hu
 obtain ⟨A1,c1,A2,c2,A3,c3,rfl,_⟩:=h.opn
 obtain ⟨E,e,rfl,hbd,_⟩:=hu
 have hS:=(((Sit.here w).alloc (cR r A1 c1 A2 c2 A3 c3) 41).alloc #[.int .i64 x.type,.int .i64 x.group,.slice E x.units.length e] 78).alloc #[.int .i64 0,.int .i64 0,.int .i64 0,.int .i64 0] 75
 simp only [World.size_alloc] at hS
 have SN:=Lib.hid hS
 obtain ⟨t,ht⟩:∃ t,typeById r x.type=t:=⟨_,rfl⟩
 have HT:=Lib.hid ht
 obtain ⟨c,hc⟩:∃ c,classOf r=c:=⟨_,rfl⟩
 have HC:=Lib.hid hc
 obtain ⟨G,hG⟩:∃ G,gross r x=G:=⟨_,rfl⟩
 have HGR:=Lib.hid hG
 have HM:=Lib.hid (show boxR r x=if c=0∧t.2=true then ⟨t.1.w,t.1.d,t.1.h,G⟩ else ⟨0,0,0,0⟩ by unfold boxR;rw [sound_dec,hc,ht,hG];simp only [Bool.and_eq_true,decide_eq_true_eq])
 clear h hS ht hc hG
 go_enter Tryz.func91,Tryz.ntmps91
 have k0:=SN.out.box (.tail _ (.tail _ (.head _)))
 have l0:=SN.out.boxlt (.tail _ (.tail _ (.head _)))
 have k1:=SN.out.box (.tail _ (.head _))
 go_wp2_with fail
 refine (sTypeById_any _ r x.type _ (HR.out.next SN.out.low)).mono ?_
 rintro e1 w1 ⟨rfl,hb1⟩
 rw [HT.out]
 obtain ⟨t,tb⟩:=t
 have SN:=Lib.hid ((SN.out.next hb1).alloc #[.int .i64 t.id,.int .i64 t.w,.int .i64 t.h,.int .i64 t.d,.int .i64 t.tare,.int .i64 t.gram,.int .i64 t.cost] 142)
 clear k0 l0 k1 hb1
 have k0:=SN.out.box (.tail _ (.tail _ (.tail _ (.head _))))
 have l0:=SN.out.boxlt (.tail _ (.tail _ (.tail _ (.head _))))
 go_wp2_with fail
 refine (sClass_any _ r _ (HR.out.next SN.out.low)).mono ?_
 rintro e2 w2 ⟨rfl,hb2⟩
 rw [HC.out]
 have SN:=Lib.hid (SN.out.next hb2)
 clear k0 l0 hb2
 have k0:=SN.out.box (.tail _ (.tail _ (.tail _ (.head _))))
 have k1:=SN.out.box (.tail _ (.tail _ (.head _)))
 have k4:=SN.out.box (.tail _ (.head _))
 have f4:=SN.out.free (.tail _ (.head _))
 have k5:=SN.out.box (.head _)
 by_cases hz:c=0
 ·cases tb
  ·subst hz
   go_wp2
   refine bodyPost_ret (v:=.agg #[.int .i64 0,.int .i64 0,.int .i64 0,.int .i64 0]) (by simp [results,Tryz.results91,go_sem,k4,f4]) rfl ?_
   exact ⟨by rw [HM.out];rfl,by have:=SN.out.low;(repeat' with_reducible first | assumption | exact bR | apply bD | apply bA | apply bC | apply bW | omega | simp <;> omega)⟩
  ·subst hz
   have HCC:=Lib.hid (show ∀ X:World,Below w2.heap.size w2 X→(cS10 (X) (w.heap.size) (r) (.slice A1 r.pairs.length c1) (.slice A2 r.types.length c2) (.slice A3 r.items.length c3))∧(X.cell? ⟨w.heap.size + 1,0,none⟩=some (.int .i64 x.type)∧X.cell? ⟨w.heap.size + 1,1,none⟩=some (.int .i64 x.group)∧X.cell? ⟨w.heap.size + 1,2,none⟩=some (.slice E x.units.length e))∧X.cell? ⟨w1.heap.size,1,none⟩=some (.int .i64 t.w)∧X.cell? ⟨w1.heap.size,2,none⟩=some (.int .i64 t.h)∧X.cell? ⟨w1.heap.size,3,none⟩=some (.int .i64 t.d) from fun X hX=>by
    have hX:=SN.out.next hX
    have c0:=hX.box (.tail _ (.tail _ (.tail _ (.head _))))
    have c1:=hX.box (.tail _ (.tail _ (.head _)))
    have c5:=hX.box (.head _)
    exact ⟨⟨c0 0,c0 1,c0 2,c0 3,c0 4,c0 5,c0 6,c0 7,c0 8,c0 9⟩,⟨c1 0,c1 1,c1 2⟩,c5 1,c5 2,c5 3⟩)
   have hn0 : ¬ (w.heap.size + 1 + 1=w1.heap.size):=by have:=SN.out.apart;simp only [List.pairwise_cons,List.mem_cons,forall_eq_or_imp,List.not_mem_nil,or_false,forall_eq] at this;intro he;exact this.1.1 he.symm
   have hn01 : ¬ (w1.heap.size=w.heap.size + 1 + 1):=fun e=>hn0 e.symm
   have hn1 : ¬ (w.heap.size=w.heap.size + 1 + 1):=by omega
   have hn2 : ¬ (w.heap.size + 1 + 1=w.heap.size):=by omega
   go_wp2
   go_region_held3 (fun W'=>(cS10 (W') (w.heap.size) (r) (.slice A1 r.pairs.length c1) (.slice A2 r.types.length c2) (.slice A3 r.items.length c3))∧(W'.cell? ⟨w.heap.size + 1,0,none⟩=some (.int .i64 x.type)∧W'.cell? ⟨w.heap.size + 1,1,none⟩=some (.int .i64 x.group)∧W'.cell? ⟨w.heap.size + 1,2,none⟩=some (.slice E x.units.length e))∧W'.cell? ⟨w1.heap.size,1,none⟩=some (.int .i64 t.w)∧W'.cell? ⟨w1.heap.size,2,none⟩=some (.int .i64 t.h)∧W'.cell? ⟨w1.heap.size,3,none⟩=some (.int .i64 t.d)) (first | (refine HCC.out _ ?_;(repeat' with_reducible first | assumption | exact bR | apply bD | apply bA | apply bC | apply bW | omega | simp <;> omega);done) | go_keep)
    (first | (go_at_call 168;refine (sGross_any _ _ r x _ (HR.out.next (SN.out.next (by (repeat' with_reducible first | assumption | exact bR | apply bD | apply bA | apply bC | apply bW | omega | simp <;> omega))).low) (HU.out.next (flat_mono _) (SN.out.next (by (repeat' with_reducible first | assumption | exact bR | apply bD | apply bA | apply bC | apply bW | omega | simp <;> omega))).low)).mono ?_;rintro e w3 ⟨rfl,hb3⟩;rw [HGR.out];have hn3:=bstep (a:=w2) (by (repeat' with_reducible first | assumption | exact bR | apply bD | apply bA | apply bC | apply bW | omega | simp <;> omega)) hb3;have SM:=Lib.hid (SN.out.next hn3);have k9:=SM.out.box (.tail _ (.head _));have f9:=SM.out.free (.tail _ (.head _))))
   go_wp2
   refine bodyPost_ret (v:=.agg #[.int .i64 t.w,.int .i64 t.d,.int .i64 t.h,.int .i64 G]) (by simp [results,Tryz.results91,go_sem,k9,f9]) rfl ?_
   exact ⟨by rw [HM.out];rfl,by have:=SM.out.low;(repeat' with_reducible first | assumption | exact bR | apply bD | apply bA | apply bC | apply bW | omega | simp <;> omega)⟩
 ·have hz':(c != 0)=true:=by simpa using hz
  have HM2:=Lib.hid (show boxR r x=⟨0,0,0,0⟩ by rw [HM.out];simp [hz])
  clear hz
  go_wp2
  refine bodyPost_ret (v:=.agg #[.int .i64 0,.int .i64 0,.int .i64 0,.int .i64 0]) (by simp [results,Tryz.results91,go_sem,k4,f4]) rfl ?_
  exact ⟨by rw [HM2.out],by have:=SN.out.low;(repeat' with_reducible first | assumption | exact bR | apply bD | apply bA | apply bC | apply bW | omega | simp <;> omega)⟩
end Go.Proofs.YtioijfplbgpjpaaGreat
namespace Go.Proofs.YtioijfplbgpjpaaGreat
set_option linter.unusedVariables false
set_option linter.unusedSimpArgs false
set_option maxRecDepth 100000
open Go.RowKit
theorem sortI_at {keys:List Int} {k p:Nat} (h:(argUp keys)[k]? = some p):(sortI keys)[k]? = some (keyAt keys p):=by
 rw [← argUp_keys,List.getElem?_map,h];rfl
theorem deleteInts_any (fn:Nat) (lb:Array Value) (p:Int→Bool) (v:Value) (xs:List Int) (fp:List Nat) (base:Nat) (w:World) (h:OInts w base v xs fp) (hb:xs.length≤33554432) (hn:0 < xs.length)
  (eg:∀ args w,(callFunc fn args).run Tryz.prog w=.ok (.enter fn args) w) (hg:∀ (W:World) (x:Int),(∀ b,b < w.heap.size→b ∉ fp→W.heap[b]? = w.heap[b]?)→FnGives Tryz.prog fn lb #[.int .i64 x] (.bool (p x)) W) :
  Calls Tryz.prog 125 #[v,.func (.func fn) #[] lb] w fun e w'=>∃ v',e=.returned v'∧OInts w' base v' (xs.filter fun x=>!p x) fp∧Tch fp w w':=by
 obtain ⟨h,rfl⟩:=h
 obtain ⟨g,cap,cur,rfl,h1,h2,h3,h4,h5,h6,h7⟩:=own_ints_shape h hn
 have hle:(xs.filter fun x=>!p x).length≤xs.length:=List.length_filter_le _ _
 have hsz:xs.toArray.size=xs.length:=by simp
 have hc:=Tryz.slices_DeleteFunc (Value.int .i64) (fun _=>rfl) p fn lb eg 0 Tryz.zeroValue3 g 0 cap xs.toArray w
  (fun W x hW=>hg W x (fun b hb _=>hW.block b hb))
  (fun n os dk x _=>hg _ x (fun b hb hne=>by
   have hbg:b ≠ g:=fun e=>hne (by rw [e];simp [Value.ownBlock])
   unfold sortWorld
   rw [Go.Sort.heap_grow_old _ _ (by rw [Go.Sort.size_putRow];exact hb)]
   simp [Go.Sort.putRow,Go.Sort.mapBlock,Go.Sort.ahead,Array.getElem?_modify]
   intro e
   exact absurd e.symm hbg))
  (holds_of_blockI h3 h7) (by rw [hsz];omega) (by rw [hsz];exact h4)
 rw [hsz] at hc
 refine hc.mono fun e w' ⟨e1,q,e2⟩=>⟨_,e1,⟨?_,rfl⟩,?_⟩
 ·have how:=ownsRow_sortedI (n:=q) (os:=#[]) (ss:=xs) (ts:=(xs.filter fun x=>!p x) ++ List.replicate (xs.length - (xs.filter fun x=>!p x).length) 0) (by simp;omega) h1 h3 h4 h5 h6
  rw [Go.Sort.grow_empty,← e2] at how
  have hcu:=own_cut how hle
  rw [Nat.mul_one,List.map_append,List.take_left' (by simp),← flat_cI] at hcu
  exact hcu
 ·have:=grownBy_sortedI (w:=w) (g:=g) (n:=q) (os:=#[]) ((xs.filter fun x=>!p x) ++ List.replicate (xs.length - (xs.filter fun x=>!p x).length) 0).toArray
  rw [Go.Sort.grow_empty,← e2] at this
  exact (grown_tch this).sub (fun k hk=>by simpa [Value.ownBlock] using hk)
end Go.Proofs.YtioijfplbgpjpaaGreat
namespace Go.Proofs.YtioijfplbgpjpaaGreat
set_option linter.unusedVariables false
set_option linter.unusedSimpArgs false
set_option maxRecDepth 100000
open Go.RowKit
def kindsM (xs:List Int):List Int:=Lib.compact (sortI xs)
theorem compact_le (xs:List Int):(Lib.compact xs).length≤xs.length:=by unfold Lib.compact Lib.compactUpTo;rw [List.length_map];exact Nat.le_trans (List.length_filter_le _ _) (by simp)
theorem kindsM_le (xs:List Int):(kindsM xs).length≤xs.length:=by unfold kindsM;exact Nat.le_trans (compact_le _) (Nat.le_of_eq (sortI_length _))
theorem upTo_mem {d:Array Int} : ∀ {k:Nat} {u:Int},u∈Lib.compactUpTo d k→∃ j,j < k∧d[j]! = u:=by
 intro k u h
 unfold Lib.compactUpTo at h
 obtain ⟨j,hj,rfl⟩:=List.mem_map.1 h
 exact ⟨j,List.mem_range.1 (List.mem_filter.1 hj).1,rfl⟩
theorem upTo_last {d:Array Int} : ∀ (k:Nat),∃ l,Lib.compactUpTo d (k + 1)=l ++ [d[k]!]
 |0=>⟨[],by rw [Lib.compactUpTo_succ];simp [Lib.compactUpTo,Lib.keeps]⟩
 |k + 1=>by
  rw [Lib.compactUpTo_succ]
  cases h:Lib.keeps d (k + 1) with
  |true=>exact ⟨Lib.compactUpTo d (k + 1),by simp⟩
  |false =>
   obtain ⟨l,hl⟩:=upTo_last (d:=d) k
   refine ⟨l,?_⟩
   simp only [Lib.keeps,decide_eq_false_iff_not] at h
   have:d[k + 1]! = d[k]!:=by
    refine Classical.byContradiction fun hn=>h (.inr ?_)
    simpa using hn
   simpa [this] using hl
theorem dd_same {sl:List Int} {k:Nat} {u:Int} (hs:sl.Pairwise (·≤·)) (hk:sl[k]? = some u) (q:Int→Bool) (h:((Lib.compactUpTo sl.toArray k).filter q).getLast? = some u) :
  (Lib.compactUpTo sl.toArray (k + 1)).filter q=(Lib.compactUpTo sl.toArray k).filter q:=by
 obtain ⟨hk1,hk2⟩:=List.getElem?_eq_some_iff.1 hk
 have hd:∀ j,j < sl.length→sl.toArray[j]! = sl[j]!:=fun j hj=>by simp
 rw [Lib.compactUpTo_succ]
 cases hq:Lib.keeps sl.toArray k with
 |false=>simp
 |true =>
  exfalso
  have hm:=List.mem_of_getLast? h
  obtain ⟨j,hj,hju⟩:=upTo_mem (List.mem_filter.1 hm).1
  simp only [Lib.keeps,decide_eq_true_eq] at hq
  have hk0:0 < k:=by omega
  rcases hq with hq | hq
  ·omega
  ·apply hq
   have e1:sl.toArray[k]! = u:=by simp [hk1,hk2]
   have h1:sl[j]'(by omega)=u:=by simpa [show j < sl.length by omega] using hju
   have h2:sl[j]'(by omega)≤sl[k - 1]'(by omega):=by
    rcases Nat.lt_or_ge j (k - 1) with h | h
    ·exact List.pairwise_iff_getElem.1 hs j (k - 1) (by omega) (by omega) h
    ·obtain rfl:j=k - 1:=by omega
     exact Int.le_refl _
   have h3:sl[k - 1]'(by omega)≤sl[k]:=List.pairwise_iff_getElem.1 hs (k - 1) k (by omega) hk1 (by omega)
   rw [e1]
   simp [show k - 1 < sl.length by omega]
   omega
theorem dd_new {sl:List Int} {k:Nat} {u:Int} (hk:sl[k]? = some u) (q:Int→Bool) (h:((Lib.compactUpTo sl.toArray k).filter q).getLast? ≠ some u) :
  (Lib.compactUpTo sl.toArray (k + 1)).filter q=(Lib.compactUpTo sl.toArray k).filter q ++ (if q u then [u] else []):=by
 obtain ⟨hk1,hk2⟩:=List.getElem?_eq_some_iff.1 hk
 have e1:sl.toArray[k]! = u:=by simp [hk1,hk2]
 rw [Lib.compactUpTo_succ,e1,List.filter_append]
 cases hq:Lib.keeps sl.toArray k with
 |true=>simp [List.filter_cons]
 |false =>
  cases hqu:q u with
  |false=>simp
  |true =>
   exfalso
   apply h
   simp only [Lib.keeps,decide_eq_false_iff_not] at hq
   obtain ⟨m,rfl⟩:∃ m,k=m + 1:=⟨k - 1,by omega⟩
   have e2:sl.toArray[m]! = u:=by
    refine Classical.byContradiction fun hn=>hq (.inr ?_)
    rw [e1]
    exact fun e=>hn e.symm
   obtain ⟨l,hl⟩:=upTo_last (d:=sl.toArray) m
   rw [hl,e2,List.filter_append]
   simp [hqu]
set_option maxHeartbeats 400000 in
theorem kinds_any (v:Value) (xs:List Int) (w:World) (h:RInts 16777216 w w.heap.size v xs):Calls Tryz.prog 107 #[v] w (MInts w (kindsM xs)):=by
 have H:=Lib.hid h
 have hl:=h.len
 clear h
 go_enter Tryz.func107,Tryz.ntmps107
 go_wp2_with fail
 refine (cloneInts_any _ xs _ H.out).mono ?_
 rintro e w1 ⟨v1,f1,rfl,ho1,hb1⟩
 have hlo:=fun b hb=>(ho1.lt b hb).1
 have HLO:=Lib.hid hlo
 have HO1:=Lib.hid ho1
 clear ho1 hlo
 go_wp2_with fail
 refine (sortInt_any v1 _ f1 _ _ HO1.out (by omega)).mono ?_
 rintro e w2 ⟨rfl,ho2,ht2⟩
 have HB2:=Lib.hid (hb1.trans (ht2.below hb1.size HLO.out))
 have HO2:=Lib.hid ho2
 clear ho2 ht2
 go_wp2_with fail
 refine (compactInt_any v1 _ f1 _ _ HO2.out (by rw [sortI_length];omega)).mono ?_
 rintro e w3 ⟨v3,rfl,ho3,ht3⟩
 have HB3:=Lib.hid (HB2.out.trans (ht3.below HB2.out.size HLO.out))
 have HO3:=Lib.hid ho3
 clear ho3 ht3
 go_wp2
 go_ret
 exact MInts.mk HO3.out (Nat.le_refl _) HB3.out
end Go.Proofs.YtioijfplbgpjpaaGreat
