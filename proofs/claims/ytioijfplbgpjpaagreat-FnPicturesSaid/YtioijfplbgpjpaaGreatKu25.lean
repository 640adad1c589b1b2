/-
  The program's groups: IndexFunc at lists of lists, mutual, Groups, GroupsOf.
-/
import Derived.Test.YtioijfplbgpjpaaGreatKu43
import Derived.Test.YtioijfplbgpjpaaGreatKu24
import Derived.Test.YtioijfplbgpjpaaGreatKu02
import Derived.Deep.RegionHeld3
import Derived.Deep.DeepCutAuto
import Derived.Deep.RegionLaw
import Derived.Deep.RegionWith
import Derived.Test.YtioijfplbgpjpaaGreatKu09
import Derived.Test.YtioijfplbgpjpaaGreatKu06
import Derived.StillTailTactics
namespace Go.Proofs.YtioijfplbgpjpaaGreat
set_option linter.unusedVariables false
set_option linter.unusedSimpArgs false
set_option maxRecDepth 100000
open Go.RowKit Go.WideShapes Go.ChangeShapes Go.ChangeAt Go.Deep
theorem firstI_idx {α:Type} (p:α→Bool) (xs:List α):firstI p xs=idxF p xs:=by
 unfold firstI firstFrom idxF
 rw [List.drop_zero]
 cases xs.findIdx? p <;> simp
set_option maxHeartbeats 400000 in
theorem indexFuncIs_any (fn:FuncId) (cap:Array Value) (p:List Int→Bool) (v:Value) (xs:List (List Int)) (w:World) (h:RL 16777216 1 (RNest hdInts innI) w w.heap.size v xs) (hrun:∀ args W,(callFunc fn args).run Tryz.prog W=.ok (.enter fn args) W)
  (hf:∀ (W:World) (x:List Int) (u:Value),Below w.heap.size w W→RInts 16777216 W W.heap.size u x→Calls Tryz.prog fn (#[u] ++ cap) W fun e w'=>e=.returned (.bool (p x))∧Below W.heap.size W w') :
  Calls Tryz.prog 281 #[v,.func (.func fn) #[] cap] w fun e w'=>e=.returned (.int .i64 (idxF p xs))∧Below w.heap.size w w':=by
 have h':=h
 obtain ⟨A,c,rfl,hbd,_⟩:=h
 have H:=Lib.hid h'
 have HF:=Lib.hid hf
 clear h' hf
 go_enter Tryz.func281,Tryz.ntmps281
 go_wp2
 go_loopw [8] (fun i wr=>∃ k:Nat,k≤xs.length∧i=.int .i64 k∧(∀ i y,i < k→xs[i]? = some y→p y=false)∧Below w.heap.size w wr) (fun i _=>xs.length - (intOf i).toNat)
 case atStart=>exact ⟨0,Nat.zero_le _,rfl,fun _ _ h=>by omega,Below.refl _ _⟩
 case round =>
  obtain ⟨k,hk,rfl,hno,hbl⟩:=hrel
  have HN:=Lib.hid hno
  clear hno
  by_cases hlt:k < xs.length
  ·obtain ⟨b,off,x,_,rfl,hb,hx,_,⟨vx,rfl,hrx⟩,hc⟩:=(H.out.below (RNest_mono _ _) hbl).at_ k hlt
   have hc0:=hc 0 _ rfl
   simp only [Nat.mul_one,Nat.add_zero] at hc0
   have HC:=Lib.hid (HF.out wr x vx hbl (hrx.more (flat_mono _) hbl.size))
   clear hc hrx
   by_cases hq:p x=true
   ·have HI:=Lib.hid (idxF_hit (p:=p) hx hq HN.out)
    go_wp2_with fail
    refine HC.out.mono ?_
    rintro e w2 ⟨rfl,hb2⟩
    rw [hq]
    go_wp2
    go_ret
    exact ⟨ret_int HI.out.symm,hbl.trans (hb2.mono hbl.size)⟩
   ·have hq':p x=false:=by simpa using hq
    have HI:=Lib.hid (miss_step HN.out hx hq')
    clear hq
    go_wp2_with fail
    refine HC.out.mono ?_
    rintro e w2 ⟨rfl,hb2⟩
    rw [hq']
    go_wp2
    go_roundw
    case rel=>exact ⟨k + 1,hlt,by go_num,HI.out,hbl.trans (hb2.mono hbl.size)⟩
    case measure=>simp [intOf];omega
  ·have HI:=Lib.hid (idxF_miss (p:=p) (xs:=xs) (fun i y hi hy=>HN.out i y (by omega) hy))
   go_wp2
   go_ret
   exact ⟨ret_int HI.out.symm,hbl⟩
set_option maxHeartbeats 1000000 in
theorem mutual_any (v:Value) (ps:List Pair) (a b:Int) (w:World) (h:RPairs 16777216 w w.heap.size v ps):Calls Tryz.prog 284 #[v,.int .i64 a,.int .i64 b] w fun e w'=>e=.returned (.bool (beside ps a b && beside ps b a))∧Below w.heap.size w w':=by
 have HP:=Lib.hid h
 obtain ⟨b1,h1⟩:∃ q,beside ps a b=q:=⟨_,rfl⟩
 obtain ⟨b2,h2⟩:∃ q,beside ps b a=q:=⟨_,rfl⟩
 rw [h1,h2]
 have H1:=Lib.hid h1
 have H2:=Lib.hid h2
 clear h h1 h2
 go_enter Tryz.func284,Tryz.ntmps284
 go_wp2_with fail
 refine (iBeside_any _ ps a b _ HP.out).mono ?_
 rintro e w1 ⟨rfl,hb1⟩
 rw [H1.out]
 have HB:=Lib.hid hb1
 clear hb1
 cases b1
 ·go_wp2
  go_ret
  exact ⟨rfl,HB.out⟩
 ·go_wp2_with fail
  refine (iBeside_any _ ps b a _ (HP.out.next (flat_mono _) HB.out)).mono ?_
  rintro e w2 ⟨rfl,hb2⟩
  rw [H2.out]
  have HB2:=Lib.hid (bstep HB.out hb2)
  clear hb2
  go_wp2
  go_ret
  exact ⟨rfl,HB2.out⟩
set_option maxHeartbeats 400000 in
theorem groups11_any (v:Value) (ps:List Pair) (k x:Int) (bp bk:Nat) (w:World) (h:RPairs 16777216 w w.heap.size v ps) (hp:w.cell? ⟨bp,0,none⟩=some v) (hk:w.cell? ⟨bk,0,none⟩=some (.int .i64 k)) :
  Calls Tryz.prog 283 #[.int .i64 x,.pointer (some ⟨bp,0,none⟩),.pointer (some ⟨bk,0,none⟩)] w fun e w'=>e=.returned (.bool (!(beside ps k x && beside ps x k)))∧Below w.heap.size w w':=by
 have HP:=Lib.hid h
 obtain ⟨A,c,rfl,_⟩:=h
 have l1:=World.block_lt_of_cell? w _ hp
 have l2:=World.block_lt_of_cell? w _ hk
 obtain ⟨q,hq⟩:∃ q,(beside ps k x && beside ps x k)=q:=⟨_,rfl⟩
 have HQ:=Lib.hid hq
 rw [hq]
 clear hq
 go_enter Tryz.func283,Tryz.ntmps283
 go_wp2_with fail
 refine (mutual_any _ ps k x _ HP.out).mono ?_
 rintro e w1 ⟨rfl,hb1⟩
 rw [HQ.out]
 have HB:=Lib.hid hb1
 clear hb1
 go_wp2
 go_ret
 exact ⟨rfl,HB.out⟩
set_option maxHeartbeats 400000 in
theorem groups1_any (v u:Value) (ps:List Pair) (l:List Int) (k:Int) (bp bk:Nat) (w:World) (h:RPairs 16777216 w w.heap.size v ps) (hl:RInts 16777216 w w.heap.size u l) (hp:w.cell? ⟨bp,0,none⟩=some v) (hk:w.cell? ⟨bk,0,none⟩=some (.int .i64 k)) :
  Calls Tryz.prog 282 #[u,.pointer (some ⟨bp,0,none⟩),.pointer (some ⟨bk,0,none⟩)] w fun e w'=>e=.returned (.bool (joins ps l k))∧Below w.heap.size w w':=by
 have HL:=Lib.hid hl
 have l1:=World.block_lt_of_cell? w _ hp
 have l2:=World.block_lt_of_cell? w _ hk
 have HC:=Lib.hid (containsFuncInt_any 283 #[.pointer (some ⟨bp,0,none⟩),.pointer (some ⟨bk,0,none⟩)] (fun x=>!(beside ps k x && beside ps x k)) u l w hl (run_enter Tryz.func283 (by kernel_rfl) (by kernel_rfl))
  (fun W x hW _=>groups11_any v ps k x bp bk W (h.next (flat_mono _) hW) ((hW.cell (p:=⟨bp,0,none⟩) l1).trans hp) ((hW.cell (p:=⟨bk,0,none⟩) l2).trans hk)))
 have HJ:=Lib.hid (show joins ps l k = !(l.any fun x=>!(beside ps k x && beside ps x k)) by
  unfold joins
  rw [List.not_any_eq_all_not]
  congr 1
  funext x
  rw [Bool.not_not,Bool.and_comm])
 clear h hl
 obtain ⟨q,hq⟩:∃ q,(l.any fun x=>!(beside ps k x && beside ps x k))=q:=⟨_,rfl⟩
 rw [hq] at HC HJ
 clear hq
 go_enter Tryz.func282,Tryz.ntmps282
 go_wp2_with fail
 refine HC.out.mono ?_
 rintro e w1 ⟨rfl,hb1⟩
 have HB:=Lib.hid hb1
 clear hb1
 go_wp2
 go_ret
 exact ⟨by rw [HJ.out];rfl,HB.out⟩
set_option maxRecDepth 100000 in
set_option maxHeartbeats 1000000 in
theorem iGroups_any (v u:Value) (ps:List Pair) (pr:List Int) (w:World) (h:RPairs 16777216 w w.heap.size v ps) (hu:RInts 16777216 w w.heap.size u pr) (hl:pr.length≤1024):Calls Tryz.prog 218 #[v,u] w (MNest hdInts 53 1 innI w (groupsOn ps pr)):=by
 have HP:=Lib.hid h
 have HU:=Lib.hid hu
 obtain ⟨A,c,rfl,_⟩:=h
 have hS:=((((Sit.here w).alloc #[.slice A ps.length c] 37).alloc #[] 53).boxNil (fz hdInts) 1).addInn (inn:=innI) w.heap.size
 simp only [World.size_alloc] at hS
 have SN:=Lib.hid hS.rot2
 have HM:=Lib.hid (groups_kinds ps pr)
 have hkl:=kindsM_le pr
 clear hu hS
 go_enter Tryz.func218,Tryz.ntmps218
 go_wp2_with fail
 refine (kinds_any _ pr _ (HU.out.next (flat_mono _) SN.out.low)).mono ?_
 intro e w1 hm
 obtain ⟨v1,fk,rfl,hS⟩:=SN.out.gotInts hm
 obtain ⟨K,hK⟩:∃ K,kindsM pr=K:=⟨_,rfl⟩
 rw [hK] at hS HM hkl
 obtain ⟨D,d,rfl,_⟩:=(hS.list (.head _)).form
 have SN:=Lib.hid hS.ror4
 clear hS hm hK
 go_wp2
 go_loopw [5,13] (fun vv i wr=>∃ (k:Nat) (zs:List (List Int×Value)) (f1 f2:List Nat),k≤K.length∧i=.int .i64 k∧Hid (zs.map (·.1)=(K.take k).foldl (groupStep2 ps) [])∧zs.length≤k∧Hid (∀ z∈zs,z.1.length≤k)∧Hid (Sit w wr [fOF (fz hdInts) 53 1 w.heap.size vv zs f1,fInn innI w.heap.size zs f2,fBox w.heap.size #[.slice A ps.length c] 37,fOF cI 3 1 w.heap.size (.slice D K.length d) (K) fk])) (fun _ i _=>K.length - (intOf i).toNat)
 case atStart=>exact ⟨0,[],_,_,Nat.zero_le _,rfl,Lib.hid rfl,Nat.le_refl _,Lib.hid (by simp),SN⟩
 case round =>
  clear SN
  obtain ⟨k,zs,f1,f2,hk,rfl,HZ,hzl,HZI,SN⟩:=hrel
  obtain ⟨E,e,rfl,_⟩:=(SN.out.list (.head _)).form
  by_cases hlt:k < K.length
  ·obtain ⟨b,off,x,rfl,hb,hx,hc⟩:=(OInts.read (SN.out.list (.tail _ (.tail _ (.tail _ (.head _))))) (by omega)).at1 k hlt
   have hc0:=hc _ rfl
   have HS:=Lib.hid (foldl_take_step (f:=groupStep2 ps) (b:=[]) hx)
   obtain ⟨L,hL⟩:∃ L,(K.take k).foldl (groupStep2 ps) []=L:=⟨_,rfl⟩
   rw [hL] at HS HZ
   have HZL:=Lib.hid (map_fst_len HZ.out)
   obtain ⟨f,hf⟩:∃ f,inB x 0 3=f:=⟨_,rfl⟩
   have HF:=Lib.hid hf
   have HG:=Lib.hid (show groupStep2 ps L x=if f=true then groupPut ps L x else L by unfold groupStep2;rw [hf])
   have SM:=Lib.hid (SN.out.alloc #[.int .i64 x] 3)
   clear hc hx hL hf
   cases f
   ·go_wp2_with (go_at_call 114;refine (in_any _ _ _ _).mono ?_;rintro e w' ⟨rfl,rfl⟩;rw [HF.out])
    go_roundw
    case rel=>exact ⟨k + 1,zs,f1,f2,hlt,by go_num,Lib.hid (by rw [HZ.out,HS.out,HG.out];rfl),by omega,Lib.hid (fun z hz=>Nat.le_succ_of_le (HZI.out z hz)),Lib.hid SM.out.drop⟩
    case measure=>simp [intOf] <;> omega
   ·have HPW:=Lib.hid (HP.out.next (flat_mono _) SM.out.low)
    have l0:=SM.out.boxlt (.tail _ (.tail _ (.tail _ (.head _))))
    have l7:=SM.out.boxlt (.head _)
    have k00:=SM.out.box (.tail _ (.tail _ (.tail _ (.head _)))) 0;rw [show (#[.slice A ps.length c]:Array Value)[0]? = some (.slice A ps.length c) from rfl] at k00
    have k70:=SM.out.box (.head _) 0;rw [show (#[.int .i64 x]:Array Value)[0]? = some (.int .i64 x) from rfl] at k70
    have HRN:=Lib.hid (nest_read (SM.out.list (.tail _ (.head _))) (SM.out.inns (.tail _ (.tail _ (.head _)))) (fun _ _=>rfl) (by omega) (fun z hz=>by have:=HZI.out z hz;show z.1.length≤_;omega))
    rw [HZ.out] at HRN
    have HC:=Lib.hid (indexFuncIs_any 282 #[.pointer (some ⟨w.heap.size,0,none⟩),.pointer (some ⟨wr.heap.size,0,none⟩)] (fun l=>joins ps l x) _ L _ HRN.out (run_enter Tryz.func282 (by kernel_rfl) (by kernel_rfl))
     (fun W l u hW hr=>groups1_any _ u ps l x _ _ W (HPW.out.next (flat_mono _) hW) hr ((hW.cell (p:=⟨w.heap.size,0,none⟩) l0).trans k00) ((hW.cell (p:=⟨wr.heap.size,0,none⟩) l7).trans k70)))
    have hfi:=firstFrom_lt (fun l=>joins ps l x) L 0
    obtain ⟨at_,hat⟩:∃ a,firstI (fun l=>joins ps l x) L=a:=⟨_,rfl⟩
    have hG2:groupStep2 ps L x=addAt L at_ x:=by rw [HG.out];show groupPut ps L x=_;unfold groupPut;rw [hat]
    have HG2:=Lib.hid hG2
    rw [← firstI_idx,hat] at HC
    rw [show firstFrom (fun l=>joins ps l x) L 0=at_ from hat] at hfi
    clear hat hG2
    go_wp2_with (go_at_call 114;refine (in_any _ _ _ _).mono ?_;rintro e w' ⟨rfl,rfl⟩;rw [HF.out])
    refine HC.out.mono ?_
    rintro e1 w3 ⟨rfl,hb3⟩
    have SN3:=Lib.hid (SM.out.next hb3)
    clear k00 k70 l0 l7 hb3 SN SM HRN HPW HC
    have l7:=SN3.out.boxlt (.head _)
    have k70:=SN3.out.box (.head _) 0;rw [show (#[.int .i64 x]:Array Value)[0]? = some (.int .i64 x) from rfl] at k70
    obtain ⟨b7,hb7⟩:∃ b,b=wr.heap.size:=⟨_,rfl⟩
    rw [← hb7] at k70 l7 SN3 ⊢
    clear hb7
    by_cases hneg:at_ < 0
    ·have hA:=(SN3.out.drop.alloc #[.int .i64 x] 3).boxRow (f:=cI) (K:=1) [x] rfl (fun _=>rfl) (by unfold maxLen;simp)
     have SA:=Lib.hid hA
     have hwz:=SN3.out.low.size
     clear hA
     go_wp2_with (at_builtin;refine papp_hInts _ _ rfl rfl ([x],.slice (some ⟨w3.heap.size,0,none⟩) 1 1) rfl rfl (alloc_at (by simp)) rfl ((SA.out.list (.tail _ (.head _))).next (by repeat' with_reducible first | assumption | exact bR | apply bD | apply bA | apply bC | apply bN | simp <;> omega)) (by omega) (by simp;omega) ?_;intro v7 w7 ha;obtain ⟨g7,g8,S7⟩:=SA.out.pushed (x:=[x]) rfl (by repeat' with_reducible first | assumption | exact bR | apply bD | apply bA | apply bC | apply bN | simp <;> omega) ha;have S8:=Lib.hid S7;clear S7 ha)
     go_roundw
     case rel=>exact ⟨k + 1,_,_,_,hlt,by go_num,Lib.hid (by rw [HS.out,HG2.out];unfold addAt;rw [if_pos hneg];exact map_fst_app HZ.out),by simp;omega,Lib.hid (by
      intro z hz
      rcases List.mem_append.1 hz with hz | hz
      ·exact Nat.le_succ_of_le (HZI.out z hz)
      ·simp at hz;subst hz;simp <;> omega),S8⟩
     case measure=>simp [intOf] <;> omega
    ·obtain ⟨m,rfl⟩:∃ m:Nat,at_=m:=⟨at_.toNat,by omega⟩
     have hml:m < zs.length:=by have:=HZL.out;omega
     obtain ⟨z,hz⟩:∃ z,zs[m]? = some z:=⟨_,List.getElem?_eq_getElem hml⟩
     obtain ⟨gE,rfl⟩:=head_ptr (SN3.out.list (.tail _ (.head _))) hz
     have hcl:=(SN3.out.list (.tail _ (.head _))).cells (fun z=>rfl) hz 0 (sv z.2) rfl
     have hfz:=fun o=>(SN3.out.list (.tail _ (.head _))).free o
     have hgl:=(SN3.out.list (.tail _ (.head _))).size.2.2.2
     obtain ⟨fi,fa,fb,hS⟩:=SN3.out.rot2.rot3.innOut hz
     rw [sv_of (hS.list (.head _))] at hcl
     simp only [Nat.mul_one,Nat.add_zero] at hcl
     obtain ⟨PI,ci,hPI,_⟩:=(hS.list (.head _)).form
     rw [hPI] at hcl hS
     have HPI:=Lib.hid hPI
     clear hPI
     have SN:=Lib.hid hS
     have hzl3:(innI z.1).length≤1024:=Nat.le_trans (HZI.out z (List.mem_of_getElem? hz)) (by omega)
     have HZM:=Lib.hid hz
     clear hS hz
     go_wp2
     refine regu (S:=(fun W'=>W'.cell? ⟨gE,m,none⟩=some (.slice PI (innI z.1).length ci)∧W'.cell? ⟨b7,0,none⟩=some (.int .i64 x))) (by kernel_rfl) (fun _ _ _ _ _=>id) ?_ fun hHeld=>?_
     ·(first | exact ⟨hc8,k79⟩ | exact ⟨hcl,k70⟩ | go_keep)
     refine tku (b:=?_) [0,1,2,3,4,5,6] (by kernel_rfl) hHeld ?_ ?_
     rotate_left
     ·repeat first
      |exact .nil
      |refine .yes (v:=?_) rfl (by rfl) ?_ ?_
       rotate_left
       ·intro w9 hSw;(try dsimp only at hSw);go_simp;(try with_reducible rfl)
       (try simp only [aP,aZ,aS,aG,aH,aI])
     refine onu 7 rfl (by kernel_rfl) fun K hK=>?_
     go_simp
     refine hK.out _ _ ?_ (fun hHeld=>?_)
     ·(first | exact ⟨hc8,k79⟩ | exact ⟨hcl,k70⟩ | go_keep)
     clear hK K
     (try simp only [aP,aZ,aS,aG,aH,aI])
     refine onu 8 rfl (by kernel_rfl) fun K hK=>?_
     (refine sapp_Int (.tmp 35) (.tmp 37) rfl rfl x rfl rfl (heap_alloc_new _ _) rfl ((SN.out.list (.head _)).next (by repeat' with_reducible first | assumption | exact bR | apply bD | apply bA | apply bC | apply bN | simp <;> omega)) (by first | omega | (simp;done) | (simp;omega)) (by have:=SN.out.low.size;first | omega | (simp;done) | (simp;omega)) ?_;intro v9 w9 ha;obtain ⟨g9,S9⟩:=(SN.out.next (by repeat' with_reducible first | assumption | exact bR | apply bD | apply bA | apply bC | apply bN | simp <;> omega)).app ha;obtain ⟨C9,c9,rfl,_⟩:=(S9.list (.head _)).form;have S8:=Lib.hid S9;have hf8:=fun o=>(S9.list (.tail _ (.tail _ (.tail _ (.head _))))).free o;have hc8:w9.cell? ⟨gE,m,none⟩=some (.slice PI (innI z.1).length ci):=(by have h:=(S9.list (.tail _ (.tail _ (.tail _ (.head _))))).cells (fun z=>rfl) HZM.out 0 (sv z.2) rfl;rw [Nat.mul_one,Nat.add_zero,HPI.out] at h;exact h);have k79:w9.cell? ⟨b7,0,none⟩=some (.int .i64 x):=S9.box (.tail _ (.tail _ (.tail _ (.tail _ (.head _))))) 0;clear S9 ha)
     refine hK.out _ _ ?_ (fun hHeld=>?_)
     ·(first | exact ⟨hc8,k79⟩ | exact ⟨hcl,k70⟩ | go_keep)
     clear hK K
     (try simp only [aP,aZ,aS,aG,aH,aI])
     refine tku (b:=?_) [9] (by kernel_rfl) hHeld ?_ ?_
     rotate_left
     ·repeat first
      |exact .nil
      |refine .yes (v:=?_) rfl (by rfl) ?_ ?_
       rotate_left
       ·intro w9 hSw;(try dsimp only at hSw);go_simp;(try with_reducible rfl)
       (try simp only [aP,aZ,aS,aG,aH,aI])
     refine lsu 10 rfl (by kernel_rfl) fun K hK=>?_
     go_simp
     refine hK.out _ _ ?_
     clear hK K
     (try simp only [aP,aZ,aS,aG,aH,aI])
     go_wp2_with fail
     obtain ⟨h9,S9⟩:=S8.out.grown (x:=z.1 ++ [x]) (j:=0) (us:=[.slice C9 (innI z.1 ++ [x]).length c9]) hml rfl (fun _ _=>rfl) (by simp) rfl
     have S9:=Lib.hid S9
     go_roundw
     case rel=>exact ⟨k + 1,zs.set m (z.1 ++ [x],.slice C9 (innI z.1 ++ [x]).length c9),f1,h9,hlt,by go_num,Lib.hid (by rw [HS.out,HG2.out];unfold addAt;rw [if_neg (by omega),Int.toNat_natCast];rw [map_fst_set HZ.out,← HZ.out,getD_map_fst HZM.out]),by simp;omega,Lib.hid (by
        intro y hy
        rcases List.mem_or_eq_of_mem_set hy with hy | rfl
        ·exact Nat.le_succ_of_le (HZI.out y hy)
        ·have:=HZI.out z (List.mem_of_getElem? HZM.out);simp;omega),Lib.hid (by have h:=S9.out.subl (.cons_cons _ (.cons_cons _ (.cons _ (List.Sublist.refl _))));simpa [setW] using h)⟩
     case measure=>simp [intOf] <;> omega
  ·obtain rfl:k=K.length:=by omega
   rw [List.take_length] at HZ
   have HZ2:=Lib.hid (HZ.out.trans HM.out)
   go_wp2
   go_ret
   exact SN.out.nest HZ2.out
set_option maxRecDepth 100000 in
set_option maxHeartbeats 1000000 in
theorem iGroupsOf_any (v:Value) (r:Request) (w:World) (h:RReq 16777216 w w.heap.size v r):Calls Tryz.prog 160 #[v] w (MNest hdInts 53 1 innI w (groupsR r)):=by
 have HR:=Lib.hid h
 obtain ⟨A1,c1,A2,c2,A3,c3,rfl,⟨H1,_,_⟩,_⟩:=h.opn
 have HP:=Lib.hid H1
 have SN:=Lib.hid ((Sit.here w).alloc (cR r A1 c1 A2 c2 A3 c3) 41)
 obtain ⟨s,hs⟩:∃ s,soundR r=s:=⟨_,rfl⟩
 have HSD:=Lib.hid hs
 clear h H1 hs
 go_enter Tryz.func160,Tryz.ntmps160
 have k0:=SN.out.box (.head _)
 have l0:=SN.out.boxlt (.head _)
 go_wp2_with fail
 refine (sound_any _ r _ (HR.out.next SN.out.low)).mono ?_
 rintro e w1 ⟨rfl,hb⟩
 rw [HSD.out]
 have SN:=Lib.hid (SN.out.next hb)
 clear k0 l0 hb
 cases s
 ·have HM2:=Lib.hid (show groupsR r=[] by unfold groupsR presentR;rw [HSD.out];rfl)
  have SN:=Lib.hid (((SN.out.addInn (inn:=innI) w.heap.size).addNil (f:=fz hdInts) (e:=53) (K:=1) w.heap.size))
  go_wp2
  go_ret
  exact SN.out.nest (zs:=[]) HM2.out.symm
 ·have k0:=SN.out.box (.head _)
  have l0:=SN.out.boxlt (.head _)
  go_wp2
  go_region_held3 (fun W'=>(cS10 (W') (w.heap.size) (r) (.slice A1 r.pairs.length c1) (.slice A2 r.types.length c2) (.slice A3 r.items.length c3)))
   (first | (have c0:=(SN.out.next (by (repeat' with_reducible first | assumption | exact bR | apply bD | apply bA | apply bC | apply bW | omega | simp <;> omega))).box (g:=w.heap.size) (cs:=(cR r A1 c1 A2 c2 A3 c3)) (t:=41) mq;exact ⟨c0 0,c0 1,c0 2,c0 3,c0 4,c0 5,c0 6,c0 7,c0 8,c0 9⟩) | go_keep)
   (first
    |(go_at_call 219;refine (iPresent_any _ r _ (HR.out.next (SN.out.next (by repeat' with_reducible first | assumption | exact bR | apply bD | apply bA | apply bC | apply bN | simp <;> omega)).low)).mono ?_;intro e w1 hm;obtain ⟨v1,fp,rfl,hS⟩:=(SN.out.next (by repeat' with_reducible first | assumption | exact bR | apply bD | apply bA | apply bC | apply bN | simp <;> omega)).gotInts hm;have SN:=Lib.hid hS;have hb1:=hm.choose_spec.choose_spec.2.2;clear hS hm)
    |(go_at_call 218;refine (iGroups_any _ _ r.pairs (presentR r) _ (HP.out.next (flat_mono _) SN.out.low) (OInts.read (SN.out.list (.head _)) (by have:=presentR_len r;omega)) (by have:=presentR_len r;omega)).mono ?_;intro e w2 hm;obtain ⟨v2,zs,f1,f2,rfl,hz,hS⟩:=SN.out.gotNest hm;have SN:=Lib.hid hS;clear hS hm))
  all_goals go_wp2
  all_goals go_ret
  all_goals exact SN.out.nest hz
end Go.Proofs.YtioijfplbgpjpaaGreat
namespace Go.Proofs.YtioijfplbgpjpaaGreat
set_option linter.unusedVariables false
set_option linter.unusedSimpArgs false
set_option maxRecDepth 100000
open Go.RowKit Go.WideShapes Go.ChangeShapes Go.ChangeAt Go.Deep
def MOF {α:Type} (f:α→List Value) (e K:Nat) (w:World) (xs:List α) (ed:Ending) (w':World):Prop:=∃ v fp,ed=.returned v∧OF f e K w' w.heap.size v xs fp∧Below w.heap.size w w'
theorem Sit.gotOF {α:Type} {f:α→List Value} {e K:Nat} {w W W':World} {l:List Fact} {xs:List α} {ed:Ending} (h:Sit w W l) (hm:MOF f e K W xs ed W'):∃ v fp,ed=.returned v∧Sit w W' (fOF f e K w.heap.size v xs fp::l):=by
 obtain ⟨v,fp,rfl,ho,hb⟩:=hm
 exact ⟨v,fp,rfl,fOF_low (W':=W') (h.addOF hb ho (Nat.le_refl _)) h.low.size⟩
theorem Sit.mof {α:Type} {f:α→List Value} {e K:Nat} {w W:World} {l:List Fact} {v:Value} {xs:List α} {fp:List Nat} (h:Sit w W (fOF f e K w.heap.size v xs fp::l)):MOF f e K w xs (.returned v) W:=⟨v,fp,rfl,h.list (.head _),h.low⟩
theorem itemsOfR_le (r:Request) (us:List Int):(itemsOfR r us).length≤us.length:=by unfold itemsOfR knownR;rw [List.length_map];exact List.length_filter_le _ _
theorem deleteIntsZ_any (fn:Nat) (lb:Array Value) (p:Int→Bool) (v:Value) (xs:List Int) (fp:List Nat) (base:Nat) (w:World) (h:OInts w base v xs fp) (hb:xs.length≤16777216)
  (eg:∀ args w,(callFunc fn args).run Tryz.prog w=.ok (.enter fn args) w) (hg:∀ (W:World) (x:Int),(∀ b,b < w.heap.size→b ∉ fp→W.heap[b]? = w.heap[b]?)→FnGives Tryz.prog fn lb #[.int .i64 x] (.bool (p x)) W) :
  Calls Tryz.prog 125 #[v,.func (.func fn) #[] lb] w fun e w'=>∃ v',e=.returned v'∧OInts w' base v' (xs.filter fun x=>!p x) fp∧Tch fp w w':=by
 rcases Nat.eq_zero_or_pos xs.length with h0 | h0
 ·obtain rfl:xs=[]:=List.eq_nil_of_length_eq_zero h0
  have HC:=Lib.hid (indexFuncInt_any fn lb p v [] w (h.read (by simp)) eg (fun _ x _ hx=>by simp at hx))
  obtain ⟨A,c,rfl,_⟩:=h.form
  have HO:=Lib.hid h
  clear h hg
  go_enter Tryz.func125,Tryz.ntmps125
  go_wp2_with fail
  refine HC.out.mono ?_
  rintro e w2 ⟨rfl,hb2⟩
  have HB:=Lib.hid hb2
  clear hb2
  rw [show idxF p ([]:List Int) = -1 from rfl]
  go_wp2
  go_ret
  exact ⟨_,rfl,HO.out.next HB.out,Tch.of HB.out _⟩
 ·exact deleteInts_any fn lb p v xs fp base w h (by omega) h0 eg hg
set_option maxRecDepth 100000 in
set_option maxHeartbeats 1000000 in
theorem itemsOf_any (v u:Value) (r:Request) (us:List Int) (w:World) (h:RReq 16777216 w w.heap.size v r) (hu:RInts 16777216 w w.heap.size u us):Calls Tryz.prog 268 #[v,u] w (MOF Item.cells 152 7 w (itemsOfR r us)):=by
 have HR:=Lib.hid h
 have HU:=Lib.hid hu
 have hul:=hu.len
 have HI:=Lib.hid (show ∀ (i:Nat) (n:Int),(unitsC r)[i]? = some n→0≤n∧n.toNat < r.items.length from fun i n hn=>by
  unfold unitsC at hn
  split at hn
  ·have:=units_item hn;exact ⟨this.1,this.2.2⟩
  ·simp at hn)
 have hcl:(unitsC r).length≤12:=by
  unfold unitsC
  split
  ·rename_i hs;exact (right_of hs).nunits
  ·simp
 obtain ⟨A1,c1,A2,c2,A3,c3,rfl,⟨_,_,H3⟩,_⟩:=h.opn
 obtain ⟨E,e,rfl,hbd,_⟩:=hu
 have SN:=Lib.hid ((Sit.here w).alloc (cR r A1 c1 A2 c2 A3 c3) 41)
 clear h
 go_enter Tryz.func268,Tryz.ntmps268
 have k0:=SN.out.box (.head _)
 have l0:=SN.out.boxlt (.head _)
 go_wp2_with fail
 refine (iUnits_any _ r _ (HR.out.next SN.out.low)).mono ?_
 intro e1 w1 hm
 obtain ⟨v1,fk,rfl,hS⟩:=SN.out.gotInts hm
 obtain ⟨D,d,rfl,_⟩:=(hS.list (.head _)).form
 have SN:=Lib.hid ((hS.alloc #[] 152).boxNil Item.cells 7)
 clear k0 l0 hS hm
 go_wp2
 go_loopw [6,14] (fun vv i wr=>∃ (k:Nat) (fp:List Nat),k≤us.length∧i=.int .i64 k∧Hid (Sit w wr [fOF Item.cells 152 7 w.heap.size vv (itemsOfR r (us.take k)) fp,fOF cI 3 1 w.heap.size (.slice D (unitsC r).length d) (unitsC r) fk,fBox w.heap.size (cR r A1 c1 A2 c2 A3 c3) 41])) (fun _ i _=>us.length - (intOf i).toNat)
 case atStart=>exact ⟨0,_,Nat.zero_le _,rfl,SN⟩
 case round =>
  clear SN
  obtain ⟨k,fp,hk,rfl,SN⟩:=hrel
  by_cases hlt:k < us.length
  ·obtain ⟨b,off,x,rfl,hb,hx,hc⟩:=(HU.out.next (flat_mono _) SN.out.low).at1 k hlt
   have hc0:=hc _ rfl
   obtain ⟨f,hf⟩:∃ f,inB x 0 ((unitsC r).length - 1)=f:=⟨_,rfl⟩
   have HF:=Lib.hid hf
   have HS:=Lib.hid (show itemsOfR r (us.take (k + 1))=itemsOfR r (us.take k) ++ (if f=true then [(itemOf r (unitsC r) x).1] else []) by unfold itemsOfR knownR;rw [List.take_add_one,hx,List.filter_append,List.map_append];simp [List.filter_cons,hf];cases f <;> rfl)
   have hln:=itemsOfR_le r (us.take k)
   rw [List.length_take,Nat.min_eq_left hk] at hln
   clear hc hx hf
   cases f
   ·go_wp2_with (go_at_call 114;refine (in_any _ _ _ _).mono ?_;rintro e w' ⟨rfl,rfl⟩;rw [HF.out])
    go_roundw
    case rel=>exact ⟨k + 1,_,hlt,by go_num,by rw [HS.out];simpa using SN⟩
    case measure=>simp [intOf] <;> omega
   ·obtain ⟨hu0,hu1⟩:=inB_iff.1 HF.out
    obtain ⟨m,rfl⟩:∃ m:Nat,x=m:=⟨x.toNat,by omega⟩
    have hml:m < (unitsC r).length:=by omega
    obtain ⟨q,hq⟩:∃ q,(unitsC r)[m]? = some q:=⟨_,List.getElem?_eq_getElem hml⟩
    obtain ⟨hq0,hq1⟩:=HI.out m q hq
    obtain ⟨n,rfl⟩:∃ n:Nat,q=n:=⟨q.toNat,by omega⟩
    simp only [Int.toNat_natCast] at hq1
    obtain ⟨gd,rfl⟩:=head_ptr (SN.out.list (.tail _ (.head _))) hq
    have hcu:=(SN.out.list (.tail _ (.head _))).cells (fun z=>rfl) hq 0 (.int .i64 (n:Int)) rfl
    simp only [Nat.mul_one,Nat.add_zero] at hcu
    obtain ⟨bb,bo,y,_,heq,hbb,hy,_,hfx,hd⟩:=H3.out.at_ n hq1
    cases heq
    cases hfx
    have HIT:=Lib.hid (show (itemOf r (unitsC r) (m:Int)).1=y by
     rw [itemOf_in HF.out]
     simp only [Int.toNat_natCast]
     rw [show (unitsC r).getD m 0=(n:Int) by rw [List.getD_eq_getElem?_getD,hq];rfl,Int.toNat_natCast,List.getD_eq_getElem?_getD,hy]
     rfl)
    have HCD:=Lib.hid (show ∀ X:World,Below w.heap.size w X→cS7O (X) (bb) (bo + n * 7) (y) from fun X hX=>⟨(hX.cell (p:=⟨bb,_,none⟩) hbb).trans (hd 0 _ rfl),(hX.cell (p:=⟨bb,_,none⟩) hbb).trans (hd 1 _ rfl),(hX.cell (p:=⟨bb,_,none⟩) hbb).trans (hd 2 _ rfl),(hX.cell (p:=⟨bb,_,none⟩) hbb).trans (hd 3 _ rfl),(hX.cell (p:=⟨bb,_,none⟩) hbb).trans (hd 4 _ rfl),(hX.cell (p:=⟨bb,_,none⟩) hbb).trans (hd 5 _ rfl),(hX.cell (p:=⟨bb,_,none⟩) hbb).trans (hd 6 _ rfl)⟩)
    have HQ:=Lib.hid hq
    have k09:wr.cell? ⟨w.heap.size,9,none⟩=some (.slice (some ⟨bb,bo,none⟩) r.items.length c3):=SN.out.box (.tail _ (.tail _ (.head _))) 9
    have hd:=HCD.out wr SN.out.low
    clear hy hq
    go_wp2_with (go_at_call 114;refine (in_any _ _ _ _).mono ?_;rintro e w' ⟨rfl,rfl⟩;rw [HF.out])
    refine regu (S:=(fun W'=>W'.cell? ⟨w.heap.size,9,none⟩=some (.slice (some ⟨bb,bo,none⟩) r.items.length c3)∧W'.cell? ⟨gd,m,none⟩=some (.int .i64 n)∧cS7O (W') (bb) (bo + n * 7) (y))) (by kernel_rfl) (fun _ _ _ _ _=>id) ?_ fun hHeld=>?_
    ·(first | exact ⟨k19,hcu2,hd2⟩ | exact ⟨k09,hcu,hd⟩ | go_keep)
    refine tku (b:=?_) [0,1,2,3,4,5,6,7,8] (by kernel_rfl) hHeld ?_ ?_
    rotate_left
    ·repeat first
     |exact .nil
     |refine .yes (v:=?_) rfl (by rfl) ?_ ?_
      rotate_left
      ·intro w9 hSw;(try dsimp only at hSw);go_simp;(try with_reducible rfl)
      (try simp only [aP,aZ,aS,aG,aH,aI])
    refine onu 9 rfl (by kernel_rfl) fun K hK=>?_
    go_simp
    refine hK.out _ _ ?_ (fun hHeld=>?_)
    ·(first | exact ⟨k19,hcu2,hd2⟩ | exact ⟨k09,hcu,hd⟩ | go_keep)
    clear hK K
    (try simp only [aP,aZ,aS,aG,aH,aI])
    refine onu 10 rfl (by kernel_rfl) fun K hK=>?_
    (refine sapp_Item (.tmp 23) (.tmp 32) rfl rfl y rfl rfl (heap_alloc_new _ _) rfl ((SN.out.list (.head _)).next (by repeat' with_reducible first | assumption | exact bR | apply bD | apply bA | apply bC | apply bN | simp <;> omega)) (by first | omega | (simp;done) | (simp;omega)) (by have:=SN.out.low.size;first | omega | (simp;done) | (simp;omega)) ?_;intro v7 w7 ha;obtain ⟨g7,S7⟩:=(SN.out.next (by repeat' with_reducible first | assumption | exact bR | apply bD | apply bA | apply bC | apply bN | simp <;> omega)).app ha;have S8:=Lib.hid S7;have k19:w7.cell? ⟨w.heap.size,9,none⟩=some (.slice (some ⟨bb,bo,none⟩) r.items.length c3):=S7.box (.tail _ (.tail _ (.head _))) 9;have hd2:=HCD.out w7 S7.low;have hcu2:w7.cell? ⟨gd,m,none⟩=some (.int .i64 (n:Int)):=(by have h:=(S7.list (.tail _ (.head _))).cells (fun z=>rfl) HQ.out 0 (.int .i64 (n:Int)) rfl;rw [Nat.mul_one,Nat.add_zero] at h;exact h);clear S7 ha)
    refine hK.out _ _ ?_ (fun hHeld=>?_)
    ·(first | exact ⟨k19,hcu2,hd2⟩ | exact ⟨k09,hcu,hd⟩ | go_keep)
    clear hK K
    (try simp only [aP,aZ,aS,aG,aH,aI])
    refine lsu 11 rfl (by kernel_rfl) fun K hK=>?_
    go_simp
    refine hK.out _ _ ?_
    clear hK K
    (try simp only [aP,aZ,aS,aG,aH,aI])
    go_wp2_with fail
    go_roundw
    case rel=>exact ⟨k + 1,_,hlt,by go_num,by rw [HS.out,HIT.out];exact S8⟩
    case measure=>simp [intOf] <;> omega
  ·obtain rfl:k=us.length:=by omega
   rw [List.take_length] at SN
   go_wp2
   go_ret
   exact SN.out.mof
set_option maxRecDepth 100000 in
set_option maxHeartbeats 1000000 in
theorem volumeOf_any (v u:Value) (r:Request) (us:List Int) (w:World) (h:RReq 16777216 w w.heap.size v r) (hu:RInts 16777216 w w.heap.size u us):Calls Tryz.prog 327 #[v,u] w fun e w'=>e=.returned (.int .i64 (volOfR r us))∧Below w.heap.size w w':=by
 have HR:=Lib.hid h
 have HU:=Lib.hid hu
 have hul:=hu.len
 have hil:=itemsOfR_le r us
 obtain ⟨A1,c1,A2,c2,A3,c3,rfl,_⟩:=h.opn
 have SN:=Lib.hid ((Sit.here w).alloc (cR r A1 c1 A2 c2 A3 c3) 41)
 clear h hu
 go_enter Tryz.func327,Tryz.ntmps327
 have k0:=SN.out.box (.head _)
 have l0:=SN.out.boxlt (.head _)
 go_wp2_with fail
 refine (itemsOf_any _ _ r us _ (HR.out.next SN.out.low) (HU.out.next (flat_mono _) SN.out.low)).mono ?_
 intro e1 w1 hm
 obtain ⟨v1,fk,rfl,hS⟩:=SN.out.gotOF hm
 obtain ⟨L,hL⟩:∃ L,itemsOfR r us=L:=⟨_,rfl⟩
 have HM:=Lib.hid (show volOfR r us=L.foldl volStep 0 by unfold volOfR;rw [hL])
 rw [hL] at hS hil
 obtain ⟨D,d,rfl,_⟩:=(hS.list (.head _)).form
 have SN:=Lib.hid hS
 clear k0 l0 hS hm hL
 go_wp2
 go_loopw [5,12] (fun n i wr=>∃ (k:Nat),k≤L.length∧i=.int .i64 k∧n=.int .i64 ((L.take k).foldl volStep 0)∧Hid (Sit w wr [fOF Item.cells 152 7 w.heap.size (.slice D L.length d) L fk])) (fun _ i _=>L.length - (intOf i).toNat)
 case atStart=>exact ⟨0,Nat.zero_le _,rfl,rfl,Lib.hid (Sit.take (l1:=[_]) SN.out)⟩
 case round =>
  clear SN
  obtain ⟨k,hk,rfl,rfl,SN⟩:=hrel
  by_cases hlt:k < L.length
  ·obtain ⟨b,off,x,_,rfl,hb,hx,_,hfx,hc⟩:=(OF.read (SN.out.list (.head _)) (fun _=>rfl) (bd:=16777216) (by omega)).at_ k hlt
   cases hfx
   have hc0:=hc 0 _ rfl;have hc1:=hc 1 _ rfl;have hc2:=hc 2 _ rfl;have hc3:=hc 3 _ rfl;have hc4:=hc 4 _ rfl;have hc5:=hc 5 _ rfl;have hc6:=hc 6 _ rfl;simp only [Nat.add_zero] at hc0
   have HST:=Lib.hid (foldl_take_step (f:=volStep) (b:=0) hx)
   obtain ⟨G,hG⟩:∃ G,(L.take k).foldl volStep 0=G:=⟨_,rfl⟩
   obtain ⟨V,hV⟩:∃ V,vol x.w x.h x.d=V:=⟨_,rfl⟩
   have HV:=Lib.hid hV
   have HG:=Lib.hid (show volStep G x=wrap64 (G + V) by unfold volStep;rw [hV])
   rw [hG] at HST ⊢
   have SM:=Lib.hid (SN.out.alloc #[.int .i64 x.id,.int .i64 x.w,.int .i64 x.h,.int .i64 x.d,.int .i64 x.gram,.int .i64 x.cls,.int .i64 x.count] 152)
   clear hc hx hG hV
   go_wp2_with (go_at_call 72;refine (iVolume_any _ _ _ _).mono ?_;rintro e w' ⟨rfl,rfl⟩;rw [HV.out])
   go_roundw
   case rel=>exact ⟨k + 1,hlt,by go_num,by rw [HST.out,HG.out];(try simp only [wrapE]),Lib.hid SM.out.drop⟩
   case measure=>simp [intOf] <;> omega
  ·obtain rfl:k=L.length:=by omega
   rw [List.take_length]
   go_wp2
   go_ret
   exact ⟨by rw [HM.out];rfl,SN.out.low⟩
set_option maxRecDepth 100000 in
set_option maxHeartbeats 1000000 in
theorem iGramOf_any (v u:Value) (r:Request) (us:List Int) (w:World) (h:RReq 16777216 w w.heap.size v r) (hu:RInts 16777216 w w.heap.size u us):Calls Tryz.prog 206 #[v,u] w fun e w'=>e=.returned (.int .i64 (gramOfR r us))∧Below w.heap.size w w':=by
 have HR:=Lib.hid h
 have HU:=Lib.hid hu
 have hul:=hu.len
 have hil:=itemsOfR_le r us
 obtain ⟨A1,c1,A2,c2,A3,c3,rfl,_⟩:=h.opn
 have SN:=Lib.hid ((Sit.here w).alloc (cR r A1 c1 A2 c2 A3 c3) 41)
 clear h hu
 go_enter Tryz.func206,Tryz.ntmps206
 have k0:=SN.out.box (.head _)
 have l0:=SN.out.boxlt (.head _)
 go_wp2_with fail
 refine (itemsOf_any _ _ r us _ (HR.out.next SN.out.low) (HU.out.next (flat_mono _) SN.out.low)).mono ?_
 intro e1 w1 hm
 obtain ⟨v1,fk,rfl,hS⟩:=SN.out.gotOF hm
 obtain ⟨L,hL⟩:∃ L,itemsOfR r us=L:=⟨_,rfl⟩
 have HM:=Lib.hid (show gramOfR r us=L.foldl gramStepI 0 by unfold gramOfR;rw [hL])
 rw [hL] at hS hil
 obtain ⟨D,d,rfl,_⟩:=(hS.list (.head _)).form
 have SN:=Lib.hid hS
 clear k0 l0 hS hm hL
 go_wp2
 go_loopw [5,12] (fun n i wr=>∃ (k:Nat),k≤L.length∧i=.int .i64 k∧n=.int .i64 ((L.take k).foldl gramStepI 0)∧Hid (Sit w wr [fOF Item.cells 152 7 w.heap.size (.slice D L.length d) L fk])) (fun _ i _=>L.length - (intOf i).toNat)
 case atStart=>exact ⟨0,Nat.zero_le _,rfl,rfl,Lib.hid (Sit.take (l1:=[_]) SN.out)⟩
 case round =>
  clear SN
  obtain ⟨k,hk,rfl,rfl,SN⟩:=hrel
  by_cases hlt:k < L.length
  ·obtain ⟨b,off,x,_,rfl,hb,hx,_,hfx,hc⟩:=(OF.read (SN.out.list (.head _)) (fun _=>rfl) (bd:=16777216) (by omega)).at_ k hlt
   cases hfx
   have hc0:=hc 0 _ rfl;have hc1:=hc 1 _ rfl;have hc2:=hc 2 _ rfl;have hc3:=hc 3 _ rfl;have hc4:=hc 4 _ rfl;have hc5:=hc 5 _ rfl;have hc6:=hc 6 _ rfl;simp only [Nat.add_zero] at hc0
   have HST:=Lib.hid (foldl_take_step (f:=gramStepI) (b:=0) hx)
   obtain ⟨G,hG⟩:∃ G,(L.take k).foldl gramStepI 0=G:=⟨_,rfl⟩
   have HG:=Lib.hid (show gramStepI G x=wrap64 (G + x.gram) from rfl)
   rw [hG] at HST ⊢
   have SM:=Lib.hid (SN.out.alloc #[.int .i64 x.id,.int .i64 x.w,.int .i64 x.h,.int .i64 x.d,.int .i64 x.gram,.int .i64 x.cls,.int .i64 x.count] 152)
   clear hc hx hG
   go_wp2
   go_roundw
   case rel=>exact ⟨k + 1,hlt,by go_num,by rw [HST.out,HG.out];(try simp only [wrapE]),Lib.hid SM.out.drop⟩
   case measure=>simp [intOf] <;> omega
  ·obtain rfl:k=L.length:=by omega
   rw [List.take_length]
   go_wp2
   go_ret
   exact ⟨by rw [HM.out];rfl,SN.out.low⟩
set_option maxHeartbeats 400000 in
theorem thereOf1_gives (n x:Int) (B:Nat) (W:World) (hn:0≤n∧n≤1048576) (hc:W.cell? ⟨B,0,none⟩=some (.int .i64 n)) :
  FnGives Tryz.prog 345 #[.pointer (some ⟨B,0,none⟩)] #[.int .i64 x] (.bool (!inB x 0 (n - 1))) W:=by
 show Calls Tryz.prog 345 #[.int .i64 x,.pointer (some ⟨B,0,none⟩)] W _
 have hw:IntKind.i64.wrap (n - 1)=n - 1:=by rw [IntKind.wrap_i64];omega
 go_enter Tryz.func345,Tryz.ntmps345
 go_wp2_with (go_at_call 114;refine (in_any _ _ _ _).mono ?_;rintro e w' ⟨rfl,rfl⟩)
 all_goals (try simp only [Bool.not_eq_true',Bool.not_eq_false'] at *)
 all_goals go_ret
 all_goals exact ⟨ret_bool (by simp_all),0,rfl⟩
set_option maxRecDepth 100000 in
set_option maxHeartbeats 1000000 in
theorem thereOf_any (v u:Value) (r:Request) (us:List Int) (w:World) (h:RReq 16777216 w w.heap.size v r) (hu:RInts 16777216 w w.heap.size u us):Calls Tryz.prog 322 #[v,u] w (MInts w (knownR (unitsC r) us)):=by
 have HR:=Lib.hid h
 have HU:=Lib.hid hu
 have hul:=hu.len
 have hcl:(unitsC r).length≤12:=by
  unfold unitsC
  split
  ·rename_i hs;exact (right_of hs).nunits
  ·simp
 obtain ⟨A1,c1,A2,c2,A3,c3,rfl,_⟩:=h.opn
 have SN:=Lib.hid ((Sit.here w).alloc (cR r A1 c1 A2 c2 A3 c3) 41)
 clear h hu
 go_enter Tryz.func322,Tryz.ntmps322
 have k0:=SN.out.box (.head _)
 have l0:=SN.out.boxlt (.head _)
 go_wp2_with fail
 refine (iUnits_any _ r _ (HR.out.next SN.out.low)).mono ?_
 intro e1 w1 hm
 obtain ⟨v1,fk,rfl,hS⟩:=SN.out.gotInts hm
 obtain ⟨D,d,rfl,_⟩:=(hS.list (.head _)).form
 have SN:=Lib.hid (hS.drop.alloc #[.int .i64 (unitsC r).length] 3)
 clear k0 l0 hS hm
 go_wp2_with fail
 refine (cloneInts_any _ us _ (HU.out.next (flat_mono _) SN.out.low)).mono ?_
 intro e2 w2 hm
 obtain ⟨v2,f2,rfl,hS⟩:=SN.out.gotInts hm
 have SN:=Lib.hid hS
 clear hS hm
 obtain ⟨b1,hb1⟩:∃ b,b=w1.heap.size:=⟨_,rfl⟩
 rw [← hb1] at SN ⊢
 have k1:=SN.out.box (.tail _ (.head _))
 have l1:=SN.out.boxlt (.tail _ (.head _))
 have k10:=k1 0
 simp at k10
 have HD:=Lib.hid (show ∀ b∈f2,b ≠ b1 from fun b hb e=>by
  have h1:=SN.out.apart
  simp only [List.pairwise_cons,List.mem_cons,forall_eq_or_imp] at h1
  exact h1.1.1 b hb (by simp [e]))
 have HC:=Lib.hid (deleteIntsZ_any 345 #[.pointer (some ⟨b1,0,none⟩)] (fun x=>!inB x 0 ((unitsC r).length - 1)) v2 us f2 _ w2 (SN.out.list (.head _)) hul (fun args W=>run_enter Tryz.func345 (by kernel_rfl) (by kernel_rfl) args W)
  (fun W x hW=>thereOf1_gives (unitsC r).length x b1 W (by omega) ((cell_heap (hW b1 l1 (fun hm=>HD.out b1 hm rfl))).trans k10)))
 clear k1 k10 hb1
 obtain ⟨D2,d2,rfl,_⟩:=(SN.out.list (.head _)).form
 go_wp2_with fail
 refine HC.out.mono ?_
 rintro e3 w3 ⟨v3,rfl,ho3,ht3⟩
 have SN3:=Lib.hid (SN.out.grow (q:=fOF cI 3 1 w.heap.size _ us f2) ht3 (fOF cI 3 1 w.heap.size v3 _ f2) (fun b hb=>.inl hb) (fOF_ok _ _ _ _ _ _ _) ho3)
 have HE:=Lib.hid (show (us.filter fun x=>!!inB x 0 ((unitsC r).length - 1))=knownR (unitsC r) us by unfold knownR;congr 1;funext x;simp)
 clear ho3 ht3 HC
 go_wp2
 go_ret
 rw [← HE.out]
 exact SN3.out.ints
set_option maxRecDepth 100000 in
set_option maxHeartbeats 1000000 in
theorem iwithin_any (v u:Value) (r:Request) (us:List Int) (t:GType) (w:World) (h:RReq 16777216 w w.heap.size v r) (hu:RInts 16777216 w w.heap.size u us):Calls Tryz.prog 324 #[v,u,t.val] w fun e w'=>e=.returned (.bool (withinR r us t))∧Below w.heap.size w w':=by
 have HR:=Lib.hid h
 have HU:=Lib.hid hu
 obtain ⟨A1,c1,A2,c2,A3,c3,rfl,_⟩:=h.opn
 have hS:=((Sit.here w).alloc (cR r A1 c1 A2 c2 A3 c3) 41).alloc #[.int .i64 t.id,.int .i64 t.w,.int .i64 t.h,.int .i64 t.d,.int .i64 t.tare,.int .i64 t.gram,.int .i64 t.cost] 142
 simp only [World.size_alloc] at hS
 have SN:=Lib.hid hS
 obtain ⟨G1,h1⟩:∃ G,volOfR r us=G:=⟨_,rfl⟩
 obtain ⟨G2,h2⟩:∃ G,gramOfR r us=G:=⟨_,rfl⟩
 obtain ⟨V,h3⟩:∃ V,vol t.w t.h t.d=V:=⟨_,rfl⟩
 have H1:=Lib.hid h1
 have H2:=Lib.hid h2
 have H3:=Lib.hid h3
 obtain ⟨q,hq⟩:∃ q,decide (G1≤V)=q:=⟨_,rfl⟩
 have HM:=Lib.hid (show withinR r us t=(q && decide (G2≤t.gram)) by unfold withinR;rw [h1,h2,h3,hq])
 clear h hu h1 h2 h3 hS
 go_enter Tryz.func324,Tryz.ntmps324
 go_wp2
 generalize (w.alloc (.cells (cR r A1 c1 A2 c2 A3 c3) 41)).alloc (.cells #[.int .i64 t.id,.int .i64 t.w,.int .i64 t.h,.int .i64 t.d,.int .i64 t.tare,.int .i64 t.gram,.int .i64 t.cost] 142)=W0 at SN ⊢
 have HCC:=Lib.hid (show ∀ X:World,Below W0.heap.size W0 X→(cS10 (X) (w.heap.size) (r) (.slice A1 r.pairs.length c1) (.slice A2 r.types.length c2) (.slice A3 r.items.length c3))∧cT7 (X) ((w.heap.size + 1)) (t) from fun X hX=>by
  have hX:=SN.out.next hX
  have c0:=hX.box (g:=w.heap.size) (cs:=(cR r A1 c1 A2 c2 A3 c3)) (t:=41) (.tail _ (.head _))
  have c1:=hX.box (.head _)
  exact ⟨⟨c0 0,c0 1,c0 2,c0 3,c0 4,c0 5,c0 6,c0 7,c0 8,c0 9⟩,c1 0,c1 1,c1 2,c1 3,c1 4,c1 5,c1 6⟩)
 cases q
 all_goals (
  refine regu (S:=(fun W'=>((cS10 (W') (w.heap.size) (r) (.slice A1 r.pairs.length c1) (.slice A2 r.types.length c2) (.slice A3 r.items.length c3)))∧cT7 (W') ((w.heap.size + 1)) (t))) (by kernel_rfl) (fun _ _ _ _ _=>id) ?_ fun hHeld=>?_
  ·(first | (refine HCC.out _ ?_;(repeat' with_reducible first | assumption | exact bR | apply bD | apply bA | apply bC | apply bW | omega | simp <;> omega);done) | go_keep)
  refine tku (b:=?_) [0,1,3,4,5,6,7,8] (by kernel_rfl) hHeld ?_ ?_
  rotate_left
  ·repeat first
   |exact .nil
   |refine .yes (v:=?_) rfl (by rfl) ?_ ?_
    rotate_left
    ·intro w9 hSw;(try dsimp only at hSw);go_simp;(try with_reducible rfl)
    (try simp only [aP,aZ,aS,aG,aH,aI])
  refine onu 2 rfl (by kernel_rfl) fun K hK=>?_
  go_simp
  ((go_at_call 327;refine (volumeOf_any _ _ r us _ (HR.out.next (SN.out.next (by (repeat' with_reducible first | assumption | exact bR | apply bD | apply bA | apply bC | apply bW | omega | simp <;> omega))).low) (HU.out.next (flat_mono _) (SN.out.next (by (repeat' with_reducible first | assumption | exact bR | apply bD | apply bA | apply bC | apply bW | omega | simp <;> omega))).low)).mono ?_;rintro e w3 ⟨rfl,hb3⟩;rw [H1.out];have hn3:=bstep (a:=W0) (by (repeat' with_reducible first | assumption | exact bR | apply bD | apply bA | apply bC | apply bW | omega | simp <;> omega)) hb3))
  refine hK.out _ _ ?_ (fun hHeld=>?_)
  ·(first | (refine HCC.out _ ?_;(repeat' with_reducible first | assumption | exact bR | apply bD | apply bA | apply bC | apply bW | omega | simp <;> omega);done) | go_keep)
  clear hK K
  (try simp only [aP,aZ,aS,aG,aH,aI])
  refine onu 9 rfl (by kernel_rfl) fun K hK=>?_
  go_simp
  ((go_at_call 72;refine (iVolume_any _ _ _ _).mono ?_;rintro e w' ⟨rfl,rfl⟩;rw [H3.out]))
  refine hK.out _ _ ?_ (fun hHeld=>?_)
  ·(first | (refine HCC.out _ ?_;(repeat' with_reducible first | assumption | exact bR | apply bD | apply bA | apply bC | apply bW | omega | simp <;> omega);done) | go_keep)
  clear hK K
  (try simp only [aP,aZ,aS,aG,aH,aI])
  refine tku (b:=?_) [10,11] (by kernel_rfl) hHeld ?_ ?_
  rotate_left
  ·repeat first
   |exact .nil
   |refine .yes (v:=?_) rfl (by rfl) ?_ ?_
    rotate_left
    ·intro w9 hSw;(try dsimp only at hSw);go_simp;(try with_reducible rfl)
    (try simp only [aP,aZ,aS,aG,aH,aI])
  refine tku (b:=?_) [12] (by kernel_rfl) hHeld ?_ ?_
  rotate_left
  ·repeat first
   |exact .nil
   |refine .yes (v:=?_) rfl (by rfl) ?_ ?_
    rotate_left
    ·intro w9 hSw;(try dsimp only at hSw);go_simp;(try with_reducible rfl)
    (try simp only [aP,aZ,aS,aG,aH,aI])
   |refine .no rfl (by rfl) ?_
    (try simp only [aP,aZ,aS,aG,aH,aI])
  refine tku (b:=?_) [13] (by kernel_rfl) hHeld ?_ ?_
  rotate_left
  ·repeat first
   |exact .nil
   |refine .yes (v:=?_) rfl (by rfl) ?_ ?_
    rotate_left
    ·intro w9 hSw;(try dsimp only at hSw);go_simp;(try with_reducible rfl)
    (try simp only [aP,aZ,aS,aG,aH,aI])
   |refine .no rfl (by rfl) ?_
    (try simp only [aP,aZ,aS,aG,aH,aI])
  refine tku (b:=?_) [15] (by kernel_rfl) hHeld ?_ ?_
  rotate_left
  ·repeat first
   |exact .nil
   |refine .yes (v:=?_) rfl (by rfl) ?_ ?_
    rotate_left
    ·intro w9 hSw;(try dsimp only at hSw);go_simp;(try with_reducible rfl)
    (try simp only [aP,aZ,aS,aG,aH,aI])
   |refine .no rfl (by rfl) ?_
    (try simp only [aP,aZ,aS,aG,aH,aI])
  refine tku (b:=?_) [16] (by kernel_rfl) hHeld ?_ ?_
  rotate_left
  ·repeat first
   |exact .nil
   |refine .yes (v:=?_) rfl (by rfl) ?_ ?_
    rotate_left
    ·intro w9 hSw;(try dsimp only at hSw);go_simp;(try with_reducible rfl)
    (try simp only [aP,aZ,aS,aG,aH,aI])
   |refine .no rfl (by rfl) ?_
    (try simp only [aP,aZ,aS,aG,aH,aI])
  refine onu 14 rfl (by kernel_rfl) fun K hK=>?_
  go_simp
  (first | ((go_at_call 206;refine (iGramOf_any _ _ r us _ (HR.out.next (SN.out.next (by (repeat' with_reducible first | assumption | exact bR | apply bD | apply bA | apply bC | apply bW | omega | simp <;> omega))).low) (HU.out.next (flat_mono _) (SN.out.next (by (repeat' with_reducible first | assumption | exact bR | apply bD | apply bA | apply bC | apply bW | omega | simp <;> omega))).low)).mono ?_;rintro e w4 ⟨rfl,hb4⟩;rw [H2.out];have hn4:=bstep (a:=W0) (by (repeat' with_reducible first | assumption | exact bR | apply bD | apply bA | apply bC | apply bW | omega | simp <;> omega)) hb4)) | skip)
  refine hK.out _ _ ?_ (fun hHeld=>?_)
  ·(first | (refine HCC.out _ ?_;(repeat' with_reducible first | assumption | exact bR | apply bD | apply bA | apply bC | apply bW | omega | simp <;> omega);done) | go_keep)
  clear hK K
  (try simp only [aP,aZ,aS,aG,aH,aI])
  refine tku (b:=?_) [17] (by kernel_rfl) hHeld ?_ ?_
  rotate_left
  ·repeat first
   |exact .nil
   |refine .yes (v:=?_) rfl (by rfl) ?_ ?_
    rotate_left
    ·intro w9 hSw;(try dsimp only at hSw);go_simp;(try with_reducible rfl)
    (try simp only [aP,aZ,aS,aG,aH,aI])
   |refine .no rfl (by rfl) ?_
    (try simp only [aP,aZ,aS,aG,aH,aI])
  refine tku (b:=?_) [18] (by kernel_rfl) hHeld ?_ ?_
  rotate_left
  ·repeat first
   |exact .nil
   |refine .yes (v:=?_) rfl (by rfl) ?_ ?_
    rotate_left
    ·intro w9 hSw;(try dsimp only at hSw);go_simp;(try with_reducible rfl)
    (try simp only [aP,aZ,aS,aG,aH,aI])
  refine lsu 19 rfl (by kernel_rfl) fun K hK=>?_
  go_simp
  refine hK.out _ _ ?_
  clear hK K
  (try simp only [aP,aZ,aS,aG,aH,aI])
  go_wp2_with fail
  go_ret
  exact ⟨by rw [HM.out];rfl,(SN.out.next (by (repeat' with_reducible first | assumption | exact bR | apply bD | apply bA | apply bC | apply bW | omega | simp <;> omega))).low⟩
  )
end Go.Proofs.YtioijfplbgpjpaaGreat
namespace Go.Proofs.YtioijfplbgpjpaaGreat
set_option linter.unusedVariables false
set_option linter.unusedSimpArgs false
set_option maxRecDepth 100000
open Go.RowKit Go.WideShapes Go.ChangeShapes Go.ChangeAt Go.Deep
set_option maxHeartbeats 400000 in
theorem holds1_any (x:Item) (t:GType) (bt:Nat) (w:World) (hc:cT7 (w) (bt) (t)) :
  Calls Tryz.prog 323 #[x.val,.pointer (some ⟨bt,0,none⟩)] w fun e w'=>e=.returned (.bool (!fits x t))∧Below w.heap.size w w':=by
 obtain ⟨d0,d1,d2,d3,d4,d5,d6⟩:=hc
 have lb:=World.block_lt_of_cell? w _ d0
 obtain ⟨q,hq⟩:∃ q,fits x t=q:=⟨_,rfl⟩
 have HQ:=Lib.hid hq
 rw [hq]
 clear hq
 have SN:=Lib.hid ((Sit.here w).alloc #[.int .i64 x.id,.int .i64 x.w,.int .i64 x.h,.int .i64 x.d,.int .i64 x.gram,.int .i64 x.cls,.int .i64 x.count] 152)
 go_enter Tryz.func323,Tryz.ntmps323
 go_wp2_with fail
 refine (iFits_any x t _).mono ?_
 rintro e w1 ⟨rfl,hb1⟩
 rw [HQ.out]
 have SN:=Lib.hid (SN.out.next hb1)
 clear hb1
 go_wp2
 go_ret
 exact ⟨rfl,SN.out.low⟩
set_option maxRecDepth 100000 in
set_option maxHeartbeats 1000000 in
theorem iHolds_any (v u:Value) (r:Request) (us:List Int) (t:GType) (w:World) (h:RReq 16777216 w w.heap.size v r) (hu:RInts 16777216 w w.heap.size u us):Calls Tryz.prog 270 #[v,u,t.val] w fun e w'=>e=.returned (.bool (holdsR r us t))∧Below w.heap.size w w':=by
 have HR:=Lib.hid h
 have HU:=Lib.hid hu
 have hul:=hu.len
 have hil:=itemsOfR_le r us
 obtain ⟨A1,c1,A2,c2,A3,c3,rfl,_⟩:=h.opn
 obtain ⟨E,e,rfl,hbd,_⟩:=hu
 have hS:=((Sit.here w).alloc (cR r A1 c1 A2 c2 A3 c3) 41).alloc #[.int .i64 t.id,.int .i64 t.w,.int .i64 t.h,.int .i64 t.d,.int .i64 t.tare,.int .i64 t.gram,.int .i64 t.cost] 142
 simp only [World.size_alloc] at hS
 have SN:=Lib.hid hS
 obtain ⟨s,h1⟩:∃ s,soundR r=s:=⟨_,rfl⟩
 obtain ⟨q,h2⟩:∃ q,decide ((knownR (unitsC r) us).length=us.length)=q:=⟨_,rfl⟩
 obtain ⟨f,h3⟩:∃ f,((itemsOfR r us).any fun x=>!fits x t)=f:=⟨_,rfl⟩
 obtain ⟨y,h4⟩:∃ y,withinR r us t=y:=⟨_,rfl⟩
 have HM:=Lib.hid (show holdsR r us t=((s && q) && (!f && y)) by rw [← holds_items];unfold holdsI;rw [h1,h2,h3,h4])
 have H1:=Lib.hid h1
 have H2:=Lib.hid h2
 have H3:=Lib.hid h3
 have H4:=Lib.hid h4
 clear h hS h1 h2 h3 h4
 go_enter Tryz.func270,Tryz.ntmps270
 have k0:=SN.out.box (.tail _ (.head _))
 have l0:=SN.out.boxlt (.tail _ (.head _))
 go_wp2_with fail
 refine (sound_any _ r _ (HR.out.next SN.out.low)).mono ?_
 rintro e1 w1 ⟨rfl,hb1⟩
 rw [H1.out]
 have SN:=Lib.hid (SN.out.next hb1)
 clear k0 l0 hb1
 have k0:=SN.out.box (.tail _ (.head _))
 have l0:=SN.out.boxlt (.tail _ (.head _))
 cases s
 ·go_wp2
  go_ret
  exact ⟨by rw [HM.out];rfl,SN.out.low⟩
 go_wp2_with fail
 refine (thereOf_any _ _ r us _ (HR.out.next SN.out.low) (HU.out.next (flat_mono _) SN.out.low)).mono ?_
 intro e2 w2 hm
 obtain ⟨v2,f2,rfl,hS⟩:=SN.out.gotInts hm
 obtain ⟨D,d,rfl,_⟩:=(hS.list (.head _)).form
 have SN:=Lib.hid hS.drop
 obtain ⟨N,hN⟩:∃ N,(knownR (unitsC r) us).length=N:=⟨_,rfl⟩
 rw [hN] at H2 ⊢
 have hq2:((N:Int) != (us.length:Int)) = !q:=by rw [← H2.out,Bool.eq_iff_iff];simp;omega
 clear k0 l0 hS hm hN
 have k0:=SN.out.box (.tail _ (.head _))
 have l0:=SN.out.boxlt (.tail _ (.head _))
 cases q
 ·go_wp2
  go_ret
  exact ⟨by rw [HM.out];rfl,SN.out.low⟩
 go_wp2_with fail
 refine (itemsOf_any _ _ r us _ (HR.out.next SN.out.low) (HU.out.next (flat_mono _) SN.out.low)).mono ?_
 intro e3 w3 hm
 obtain ⟨v3,f3,rfl,hS⟩:=SN.out.gotOF hm
 have SN:=Lib.hid hS
 clear k0 l0 hS hm hq2
 have k1:=SN.out.box (.tail _ (.head _))
 have l1:=SN.out.boxlt (.tail _ (.head _))
 have HC:=Lib.hid (containsFuncItem_any 323 #[.pointer (some ⟨w.heap.size + 1,0,none⟩)] (fun x=>!fits x t) v3 (itemsOfR r us) w3 (OF.read (SN.out.list (.head _)) (fun _=>rfl) (by omega)) (run_enter Tryz.func323 (by kernel_rfl) (by kernel_rfl))
  (fun W x hW _=>holds1_any x t (w.heap.size + 1) W (by have c1:=(SN.out.next hW).box (.tail _ (.head _));exact ⟨c1 0,c1 1,c1 2,c1 3,c1 4,c1 5,c1 6⟩)))
 rw [H3.out] at HC
 clear k1
 go_wp2_with fail
 refine HC.out.mono ?_
 rintro e4 w4 ⟨rfl,hb4⟩
 have SN:=Lib.hid (SN.out.next hb4).drop
 clear hb4 l1
 have k0:=SN.out.box (.tail _ (.head _))
 have l0:=SN.out.boxlt (.tail _ (.head _))
 have k1:=SN.out.box (.head _)
 have l1:=SN.out.boxlt (.head _)
 cases f
 ·go_wp2_with fail
  refine (iwithin_any _ _ r us t _ (HR.out.next SN.out.low) (HU.out.next (flat_mono _) SN.out.low)).mono ?_
  rintro e5 w5 ⟨rfl,hb5⟩
  rw [H4.out]
  have SN:=Lib.hid (SN.out.next hb5)
  clear k0 l0 k1 l1 hb5
  go_wp2
  go_ret
  exact ⟨by rw [HM.out];rfl,SN.out.low⟩
 ·go_wp2
  go_ret
  exact ⟨by rw [HM.out];rfl,SN.out.low⟩
set_option maxRecDepth 100000 in
set_option maxHeartbeats 2000000 in
theorem iCheapest_any (v vu:Value) (r:Request) (us:List Int) (w:World) (h:RReq 16777216 w w.heap.size v r) (hu:RInts 16777216 w w.heap.size vu us):Calls Tryz.prog 217 #[v,vu] w fun e w'=>e=.returned (.tuple #[(cheapest r us).1.val,.bool (cheapest r us).2])∧Below w.heap.size w w':=by
 have HR:=Lib.hid h
 have HU:=Lib.hid hu
 obtain ⟨A1,c1,A2,c2,A3,c3,rfl,⟨_,H2,_⟩,_,htl,_⟩:=h.opn
 obtain ⟨E,e,rfl,hbd,_⟩:=hu
 have hS:=(((Sit.here w).alloc (cR r A1 c1 A2 c2 A3 c3) 41).alloc #[.int .i64 0,.int .i64 0,.int .i64 0,.int .i64 0,.int .i64 0,.int .i64 0,.int .i64 0] 142).alloc #[.int .i64 0,.int .i64 0,.int .i64 0,.int .i64 0,.int .i64 0,.int .i64 0,.int .i64 0] 142
 simp only [World.size_alloc] at hS
 have SN:=Lib.hid hS
 have H2:=Lib.hid H2
 clear h hS
 go_enter Tryz.func217,Tryz.ntmps217
 go_wp2
 go_loopw [7,14] (fun f i wr=>∃ (k:Nat) (B:GType×Bool),k≤r.types.length∧i=.int .i64 k∧f=.bool B.2∧Hid ((r.types.take k).foldl (cheapStep r us) (default,false)=B)∧Hid (Sit w wr [fBox (w.heap.size + 1 + 1) #[.int .i64 B.1.id,.int .i64 B.1.w,.int .i64 B.1.h,.int .i64 B.1.d,.int .i64 B.1.tare,.int .i64 B.1.gram,.int .i64 B.1.cost] 142,fBox (w.heap.size + 1) #[.int .i64 0,.int .i64 0,.int .i64 0,.int .i64 0,.int .i64 0,.int .i64 0,.int .i64 0] 142,fBox w.heap.size (cR r A1 c1 A2 c2 A3 c3) 41])) (fun _ i _=>r.types.length - (intOf i).toNat)
 case atStart=>exact ⟨0,(default,false),Nat.zero_le _,rfl,rfl,Lib.hid rfl,SN⟩
 case round =>
  clear SN
  obtain ⟨k,B,hk,rfl,rfl,HB,SN⟩:=hrel
  have k0:=SN.out.box (.tail _ (.tail _ (.head _)))
  have l0:=SN.out.boxlt (.tail _ (.tail _ (.head _)))
  by_cases hlt:k < r.types.length
  ·obtain ⟨b,off,x,_,heq,hb,hx,_,hfx,hc⟩:=(H2.out.next (flat_mono _) SN.out.low).at_ k hlt
   cases heq
   cases hfx
   have hc0:=hc 0 _ rfl;have hc1:=hc 1 _ rfl;have hc2:=hc 2 _ rfl;have hc3:=hc 3 _ rfl;have hc4:=hc 4 _ rfl;have hc5:=hc 5 _ rfl;have hc6:=hc 6 _ rfl;simp only [Nat.add_zero] at hc0
   have HST:=Lib.hid (foldl_take_step (f:=cheapStep r us) (b:=((default:GType),false)) hx)
   obtain ⟨ff,hff⟩:∃ ff,holdsR r us x=ff:=⟨_,rfl⟩
   have HF:=Lib.hid hff
   have SM:=Lib.hid (SN.out.alloc #[.int .i64 x.id,.int .i64 x.w,.int .i64 x.h,.int .i64 x.d,.int .i64 x.tare,.int .i64 x.gram,.int .i64 x.cost] 142)
   clear hc hx
   have kb:=SN.out.box (.head _)
   have fb:=SN.out.free (.head _)
   have lb:=SN.out.boxlt (.head _)
   go_wp2_with fail
   refine (iHolds_any _ _ r us x _ (HR.out.next SM.out.low) (HU.out.next (flat_mono _) SM.out.low)).mono ?_
   rintro e2 w2 ⟨rfl,hb2⟩
   rw [HF.out]
   have SN:=Lib.hid (SM.out.next hb2)
   clear k0 l0 hb2 kb fb lb hff
   cases ff
   ·have HG:=Lib.hid (show cheapStep r us B x=B by unfold cheapStep;rw [HF.out];rfl)
    go_wp2
    go_roundw
    case rel=>exact ⟨k + 1,B,hlt,by go_num,rfl,Lib.hid (by rw [HST.out,HB.out,HG.out]),Lib.hid SN.out.drop⟩
    case measure=>simp [intOf] <;> omega
   ·have HG:=Lib.hid (show cheapStep r us B x=if better x B=true then (x,true) else B by unfold cheapStep;rw [HF.out];rfl)
    obtain ⟨B1,B2⟩:=B
    obtain ⟨d1,hd1⟩:∃ q,decide (x.cost < B1.cost)=q:=⟨_,rfl⟩
    obtain ⟨d2,hd2⟩:∃ q,(x.cost == B1.cost)=q:=⟨_,rfl⟩
    obtain ⟨d3,hd3⟩:∃ q,decide (x.id < B1.id)=q:=⟨_,rfl⟩
    have HBT:=Lib.hid (show better x (B1,B2)=(!B2 || (d1 || (d2 && d3))) by unfold better;rw [hd1,hd2,hd3])
    have k9:=SN.out.box (.head _)
    have k6:=SN.out.box (.tail _ (.head _))
    have f6:=SN.out.free (.tail _ (.head _))
    have SO:=Lib.hid (SN.out.rot2.overL [.int .i64 x.id,.int .i64 x.w,.int .i64 x.h,.int .i64 x.d,.int .i64 x.tare,.int .i64 x.gram,.int .i64 x.cost] 0)
    have hn1 : ¬ (w.heap.size + 1 + 1=wr.heap.size):=by have:=SN.out.apart;simp only [List.pairwise_cons,List.mem_cons,forall_eq_or_imp,List.not_mem_nil,or_false,forall_eq] at this;intro he;exact this.1.1 he.symm
    have hn2 : ¬ (wr.heap.size=w.heap.size + 1 + 1):=fun e=>hn1 e.symm
    cases B2
    ·go_wp2
     go_roundw
     case rel=>exact ⟨k + 1,(x,true),hlt,by go_num,rfl,Lib.hid (by rw [HST.out,HB.out,HG.out,HBT.out];rfl),Lib.hid SO.out.rot2.drop⟩
     case measure=>simp [intOf] <;> omega
    ·cases d1
     ·cases d2
      ·go_wp2
       go_roundw
       case rel=>exact ⟨k + 1,(B1,true),hlt,by go_num,rfl,Lib.hid (by rw [HST.out,HB.out,HG.out,HBT.out];rfl),Lib.hid SN.out.drop⟩
       case measure=>simp [intOf] <;> omega
      ·cases d3
       ·go_wp2
        go_roundw
        case rel=>exact ⟨k + 1,(B1,true),hlt,by go_num,rfl,Lib.hid (by rw [HST.out,HB.out,HG.out,HBT.out];rfl),Lib.hid SN.out.drop⟩
        case measure=>simp [intOf] <;> omega
       ·go_wp2
        go_roundw
        case rel=>exact ⟨k + 1,(x,true),hlt,by go_num,rfl,Lib.hid (by rw [HST.out,HB.out,HG.out,HBT.out];rfl),Lib.hid SO.out.rot2.drop⟩
        case measure=>simp [intOf] <;> omega
     ·go_wp2
      go_roundw
      case rel=>exact ⟨k + 1,(x,true),hlt,by go_num,rfl,Lib.hid (by rw [HST.out,HB.out,HG.out,HBT.out];rfl),Lib.hid SO.out.rot2.drop⟩
      case measure=>simp [intOf] <;> omega
  ·have HM:=Lib.hid (show cheapest r us=B by rw [← HB.out,List.take_of_length_le (by omega)];rfl)
   have k6:=SN.out.box (.head _)
   have k4:=SN.out.box (.tail _ (.head _))
   have f4:=SN.out.free (.tail _ (.head _))
   go_wp2
   refine bodyPost_ret (v:=.tuple #[.agg #[.int .i64 B.1.id,.int .i64 B.1.w,.int .i64 B.1.h,.int .i64 B.1.d,.int .i64 B.1.tare,.int .i64 B.1.gram,.int .i64 B.1.cost],.bool B.2]) (by simp [results,Tryz.results217,go_sem,k4,f4]) rfl ?_
   rw [HM.out]
   exact ⟨rfl,by have:=SN.out.low;(repeat' with_reducible first | assumption | exact bR | apply bD | apply bA | apply bC | apply bW | omega | simp <;> omega)⟩
set_option maxRecDepth 100000 in
set_option maxHeartbeats 1000000 in
theorem iGross_any (v u:Value) (r:Request) (x:Carton) (w:World) (h:RReq 16777216 w w.heap.size v r) (hu:RInts 16777216 w w.heap.size u x.units):Calls Tryz.prog 139 #[v,.agg #[.int .i64 x.type,.int .i64 x.group,u]] w fun e w'=>e=.returned (.int .i64 (gross r x))∧Below w.heap.size w w':=by
 have HR:=Lib.hid h
 have HU:=Lib.hid hu
 obtain ⟨A1,c1,A2,c2,A3,c3,rfl,_⟩:=h.opn
 obtain ⟨E,e,rfl,hbd,_⟩:=hu
 have hS:=((Sit.here w).alloc (cR r A1 c1 A2 c2 A3 c3) 41).alloc #[.int .i64 x.type,.int .i64 x.group,.slice E x.units.length e] 78
 simp only [World.size_alloc] at hS
 have SN:=Lib.hid hS
 obtain ⟨t,ht⟩:∃ t,typeById r x.type=t:=⟨_,rfl⟩
 have HT:=Lib.hid ht
 obtain ⟨s,hs⟩:∃ s,soundR r=s:=⟨_,rfl⟩
 have HC:=Lib.hid hs
 obtain ⟨G,hG⟩:∃ G,gramOfR r x.units=G:=⟨_,rfl⟩
 have HGR:=Lib.hid hG
 have HM:=Lib.hid (show gross r x=if (s && t.2)=true then wrap64 (t.1.tare + G) else 0 by unfold gross;rw [hs,ht,gramOf_items,hG])
 clear h hS ht hs hG
 go_enter Tryz.func139,Tryz.ntmps139
 have k0:=SN.out.box (.tail _ (.head _))
 have l0:=SN.out.boxlt (.tail _ (.head _))
 have k1:=SN.out.box (.head _)
 go_wp2_with fail
 refine (typeById_any _ r x.type _ (HR.out.next SN.out.low)).mono ?_
 rintro e1 w1 ⟨rfl,hb1⟩
 rw [HT.out]
 obtain ⟨t,tb⟩:=t
 have SN:=Lib.hid ((SN.out.next hb1).alloc #[.int .i64 t.id,.int .i64 t.w,.int .i64 t.h,.int .i64 t.d,.int .i64 t.tare,.int .i64 t.gram,.int .i64 t.cost] 142)
 clear k0 l0 k1 hb1
 have k0:=SN.out.box (.tail _ (.tail _ (.head _)))
 have l0:=SN.out.boxlt (.tail _ (.tail _ (.head _)))
 cases tb
 ·go_wp2
  go_ret
  exact ⟨by rw [HM.out];simp,SN.out.low⟩
 go_wp2_with fail
 refine (sound_any _ r _ (HR.out.next SN.out.low)).mono ?_
 rintro e2 w2 ⟨rfl,hb2⟩
 rw [HC.out]
 have SN:=Lib.hid (SN.out.next hb2)
 clear k0 l0 hb2
 cases s
 ·go_wp2
  go_ret
  exact ⟨by rw [HM.out];simp,SN.out.low⟩
 have k0:=SN.out.box (.tail _ (.tail _ (.head _)))
 have k1:=SN.out.box (.tail _ (.head _))
 have k5:=SN.out.box (.head _)
 have HCC:=Lib.hid (show ∀ X:World,Below w2.heap.size w2 X→(cS10 (X) (w.heap.size) (r) (.slice A1 r.pairs.length c1) (.slice A2 r.types.length c2) (.slice A3 r.items.length c3))∧X.cell? ⟨w.heap.size + 1,2,none⟩=some (.slice E x.units.length e)∧X.cell? ⟨w1.heap.size,4,none⟩=some (.int .i64 t.tare) from fun X hX=>by
  have hX:=SN.out.next hX
  have c0:=hX.box (.tail _ (.tail _ (.head _)))
  exact ⟨⟨c0 0,c0 1,c0 2,c0 3,c0 4,c0 5,c0 6,c0 7,c0 8,c0 9⟩,hX.box (.tail _ (.head _)) 2,hX.box (.head _) 4⟩)
 go_wp2
 go_region_held3 (fun W'=>(cS10 (W') (w.heap.size) (r) (.slice A1 r.pairs.length c1) (.slice A2 r.types.length c2) (.slice A3 r.items.length c3))∧W'.cell? ⟨w.heap.size + 1,2,none⟩=some (.slice E x.units.length e)∧W'.cell? ⟨w1.heap.size,4,none⟩=some (.int .i64 t.tare)) (first | (refine HCC.out _ ?_;(repeat' with_reducible first | assumption | exact bR | apply bD | apply bA | apply bC | apply bW | omega | simp <;> omega);done) | go_keep)
  (first | (go_at_call 206;refine (iGramOf_any _ _ r x.units _ (HR.out.next (SN.out.next (by (repeat' with_reducible first | assumption | exact bR | apply bD | apply bA | apply bC | apply bW | omega | simp <;> omega))).low) (HU.out.next (flat_mono _) (SN.out.next (by (repeat' with_reducible first | assumption | exact bR | apply bD | apply bA | apply bC | apply bW | omega | simp <;> omega))).low)).mono ?_;rintro e w3 ⟨rfl,hb3⟩;rw [HGR.out];have hn3:=bstep (a:=w2) (by (repeat' with_reducible first | assumption | exact bR | apply bD | apply bA | apply bC | apply bW | omega | simp <;> omega)) hb3))
 have SN:=Lib.hid (SN.out.next hn3)
 go_wp2
 go_ret
 exact ⟨by rw [HM.out];simp only [wrapE];rfl,SN.out.low⟩
set_option maxRecDepth 100000 in
set_option maxHeartbeats 1000000 in
theorem iBoxOf_any (v u:Value) (r:Request) (x:Carton) (w:World) (h:RReq 16777216 w w.heap.size v r) (hu:RInts 16777216 w w.heap.size u x.units):Calls Tryz.prog 53 #[v,.agg #[.int .i64 x.type,.int .i64 x.group,u]] w fun e w'=>e=.returned (boxR r x).val∧Below w.heap.size w w':=by
 have HR:=Lib.hid h
 have HU:=Lib.hid hu
 obtain ⟨A1,c1,A2,c2,A3,c3,rfl,_⟩:=h.opn
 obtain ⟨E,e,rfl,hbd,_⟩:=hu
 have hS:=(((Sit.here w).alloc (cR r A1 c1 A2 c2 A3 c3) 41).alloc #[.int .i64 x.type,.int .i64 x.group,.slice E x.units.length e] 78).alloc #[.int .i64 0,.int .i64 0,.int .i64 0,.int .i64 0] 75
 simp only [World.size_alloc] at hS
 have SN:=Lib.hid hS
 obtain ⟨t,ht⟩:∃ t,typeById r x.type=t:=⟨_,rfl⟩
 have HT:=Lib.hid ht
 obtain ⟨s,hs⟩:∃ s,soundR r=s:=⟨_,rfl⟩
 have HC:=Lib.hid hs
 obtain ⟨G,hG⟩:∃ G,gross r x=G:=⟨_,rfl⟩
 have HGR:=Lib.hid hG
 have HM:=Lib.hid (show boxR r x=if (s && t.2)=true then ⟨t.1.w,t.1.d,t.1.h,G⟩ else ⟨0,0,0,0⟩ by unfold boxR;rw [hs,ht,hG])
 clear h hS ht hs hG
 go_enter Tryz.func53,Tryz.ntmps53
 have k0:=SN.out.box (.tail _ (.tail _ (.head _)))
 have l0:=SN.out.boxlt (.tail _ (.tail _ (.head _)))
 have k1:=SN.out.box (.tail _ (.head _))
 go_wp2_with fail
 refine (typeById_any _ r x.type _ (HR.out.next SN.out.low)).mono ?_
 rintro e1 w1 ⟨rfl,hb1⟩
 rw [HT.out]
 obtain ⟨t,tb⟩:=t
 have SN:=Lib.hid ((SN.out.next hb1).alloc #[.int .i64 t.id,.int .i64 t.w,.int .i64 t.h,.int .i64 t.d,.int .i64 t.tare,.int .i64 t.gram,.int .i64 t.cost] 142)
 clear k0 l0 k1 hb1
 have k0:=SN.out.box (.tail _ (.tail _ (.tail _ (.head _))))
 have l0:=SN.out.boxlt (.tail _ (.tail _ (.tail _ (.head _))))
 have k4:=SN.out.box (.tail _ (.head _))
 have f4:=SN.out.free (.tail _ (.head _))
 cases tb
 ·go_wp2
  refine bodyPost_ret (v:=.agg #[.int .i64 0,.int .i64 0,.int .i64 0,.int .i64 0]) (by simp [results,Tryz.results53,go_sem,k4,f4]) rfl ?_
  exact ⟨by rw [HM.out];simp,by have:=SN.out.low;(repeat' with_reducible first | assumption | exact bR | apply bD | apply bA | apply bC | apply bW | omega | simp <;> omega)⟩
 clear k4 f4
 go_wp2_with fail
 refine (sound_any _ r _ (HR.out.next SN.out.low)).mono ?_
 rintro e2 w2 ⟨rfl,hb2⟩
 rw [HC.out]
 have SN:=Lib.hid (SN.out.next hb2)
 clear k0 l0 hb2
 have k0:=SN.out.box (.tail _ (.tail _ (.tail _ (.head _))))
 have k1:=SN.out.box (.tail _ (.tail _ (.head _)))
 have k4:=SN.out.box (.tail _ (.head _))
 have f4:=SN.out.free (.tail _ (.head _))
 have k5:=SN.out.box (.head _)
 cases s
 ·go_wp2
  refine bodyPost_ret (v:=.agg #[.int .i64 0,.int .i64 0,.int .i64 0,.int .i64 0]) (by simp [results,Tryz.results53,go_sem,k4,f4]) rfl ?_
  exact ⟨by rw [HM.out];simp,by have:=SN.out.low;(repeat' with_reducible first | assumption | exact bR | apply bD | apply bA | apply bC | apply bW | omega | simp <;> omega)⟩
 have HCC:=Lib.hid (show ∀ X:World,Below w2.heap.size w2 X→(cS10 (X) (w.heap.size) (r) (.slice A1 r.pairs.length c1) (.slice A2 r.types.length c2) (.slice A3 r.items.length c3))∧(X.cell? ⟨w.heap.size + 1,0,none⟩=some (.int .i64 x.type)∧X.cell? ⟨w.heap.size + 1,1,none⟩=some (.int .i64 x.group)∧X.cell? ⟨w.heap.size + 1,2,none⟩=some (.slice E x.units.length e))∧X.cell? ⟨w1.heap.size,1,none⟩=some (.int .i64 t.w)∧X.cell? ⟨w1.heap.size,2,none⟩=some (.int .i64 t.h)∧X.cell? ⟨w1.heap.size,3,none⟩=some (.int .i64 t.d) from fun X hX=>by
  have hX:=SN.out.next hX
  have c0:=hX.box (.tail _ (.tail _ (.tail _ (.head _))))
  have c1:=hX.box (.tail _ (.tail _ (.head _)))
  have c5:=hX.box (.head _)
  exact ⟨⟨c0 0,c0 1,c0 2,c0 3,c0 4,c0 5,c0 6,c0 7,c0 8,c0 9⟩,⟨c1 0,c1 1,c1 2⟩,c5 1,c5 2,c5 3⟩)
 have hn0 : ¬ (w.heap.size + 1 + 1=w1.heap.size):=by have:=SN.out.apart;simp only [List.pairwise_cons,List.mem_cons,forall_eq_or_imp,List.not_mem_nil,or_false,forall_eq] at this;intro he;exact this.1.1 he.symm
 have hn01 : ¬ (w1.heap.size=w.heap.size + 1 + 1):=fun e=>hn0 e.symm
 have hn1 : ¬ (w.heap.size=w.heap.size + 1 + 1):=by omega
 have hn2 : ¬ (w.heap.size + 1 + 1=w.heap.size):=by omega
 go_wp2
 go_region_held3 (fun W'=>(cS10 (W') (w.heap.size) (r) (.slice A1 r.pairs.length c1) (.slice A2 r.types.length c2) (.slice A3 r.items.length c3))∧(W'.cell? ⟨w.heap.size + 1,0,none⟩=some (.int .i64 x.type)∧W'.cell? ⟨w.heap.size + 1,1,none⟩=some (.int .i64 x.group)∧W'.cell? ⟨w.heap.size + 1,2,none⟩=some (.slice E x.units.length e))∧W'.cell? ⟨w1.heap.size,1,none⟩=some (.int .i64 t.w)∧W'.cell? ⟨w1.heap.size,2,none⟩=some (.int .i64 t.h)∧W'.cell? ⟨w1.heap.size,3,none⟩=some (.int .i64 t.d)) (first | (refine HCC.out _ ?_;(repeat' with_reducible first | assumption | exact bR | apply bD | apply bA | apply bC | apply bW | omega | simp <;> omega);done) | go_keep)
  (first | (go_at_call 139;refine (iGross_any _ _ r x _ (HR.out.next (SN.out.next (by (repeat' with_reducible first | assumption | exact bR | apply bD | apply bA | apply bC | apply bW | omega | simp <;> omega))).low) (HU.out.next (flat_mono _) (SN.out.next (by (repeat' with_reducible first | assumption | exact bR | apply bD | apply bA | apply bC | apply bW | omega | simp <;> omega))).low)).mono ?_;rintro e w3 ⟨rfl,hb3⟩;rw [HGR.out];have hn3:=bstep (a:=w2) (by (repeat' with_reducible first | assumption | exact bR | apply bD | apply bA | apply bC | apply bW | omega | simp <;> omega)) hb3;have SM:=Lib.hid (SN.out.next hn3);have k9:=SM.out.box (.tail _ (.head _));have f9:=SM.out.free (.tail _ (.head _))))
 go_wp2
 refine bodyPost_ret (v:=.agg #[.int .i64 t.w,.int .i64 t.d,.int .i64 t.h,.int .i64 G]) (by simp [results,Tryz.results53,go_sem,k9,f9]) rfl ?_
 exact ⟨by rw [HM.out];rfl,by have:=SM.out.low;(repeat' with_reducible first | assumption | exact bR | apply bD | apply bA | apply bC | apply bW | omega | simp <;> omega)⟩
end Go.Proofs.YtioijfplbgpjpaaGreat
