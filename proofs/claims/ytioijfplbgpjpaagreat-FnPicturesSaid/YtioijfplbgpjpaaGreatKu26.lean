/-
  What is on a pallet, and how heavy it is: both sides.
-/
import Derived.Test.YtioijfplbgpjpaaGreatKu25
import Derived.Deep.RegionHeld3
import Derived.Deep.DeepCutAuto
import Derived.Deep.RegionLaw
import Derived.Deep.RegionWith
import Derived.StillTailTactics
import Derived.Test.YtioijfplbgpjpaaGreatKu22
import Derived.Test.YtioijfplbgpjpaaGreatKu43
import Derived.Test.YtioijfplbgpjpaaGreatKu10
import Derived.Test.YtioijfplbgpjpaaGreatKu11
import Derived.Test.YtioijfplbgpjpaaGreatKu00
import Derived.Test.YtioijfplbgpjpaaGreatKu06
namespace Go.Proofs.YtioijfplbgpjpaaGreat
set_option linter.unusedVariables false
set_option linter.unusedSimpArgs false
set_option maxRecDepth 100000
open Go.RowKit Go.WideShapes Go.ChangeShapes Go.ChangeAt Go.Deep
theorem RCartons.one {w:World} {A:Option Addr} {n c:Nat} {xs:List Carton} (h:RCartons 16777216 w w.heap.size (.slice A n c) xs) (i:Nat) (hi:i < xs.length) :
  ∃ b off x U cu,A=some ⟨b,off,none⟩∧b < w.heap.size∧xs[i]? = some x∧Hid (RInts 16777216 w w.heap.size (.slice U x.units.length cu) x.units)∧Hid (∀ X:World,Below w.heap.size w X→cC3 (X) (b) (off) (i) (x) (.slice U x.units.length cu)):=by
 obtain ⟨b,off,x,cs,rfl,hb,hx,_,⟨u,rfl,hr⟩,hc⟩:=h.at_ i hi
 have hr2:=hr
 obtain ⟨U,cu,rfl,_⟩:=hr
 exact ⟨b,off,x,U,cu,rfl,hb,hx,Lib.hid hr2,Lib.hid fun X hX=>⟨(hX.cell (p:=⟨b,_,none⟩) hb).trans (hc 0 _ rfl),(hX.cell (p:=⟨b,_,none⟩) hb).trans (hc 1 _ rfl),(hX.cell (p:=⟨b,_,none⟩) hb).trans (hc 2 _ rfl)⟩⟩
theorem RSpots.one {w:World} {A:Option Addr} {n c:Nat} {xs:List Spot} (h:RSpots 16777216 w w.heap.size (.slice A n c) xs) (i:Nat) (hi:i < xs.length) :
  ∃ b off s,A=some ⟨b,off,none⟩∧b < w.heap.size∧xs[i]? = some s∧Hid (∀ X:World,Below w.heap.size w X→cS4 (X) (b) (off) (i) (s)):=by
 obtain ⟨b,off,s,cs,rfl,hb,hx,_,rfl,hc⟩:=h.at_ i hi
 exact ⟨b,off,s,rfl,hb,hx,Lib.hid fun X hX=>⟨(hX.cell (p:=⟨b,_,none⟩) hb).trans (hc 0 _ rfl),(hX.cell (p:=⟨b,_,none⟩) hb).trans (hc 1 _ rfl),(hX.cell (p:=⟨b,_,none⟩) hb).trans (hc 2 _ rfl),(hX.cell (p:=⟨b,_,none⟩) hb).trans (hc 3 _ rfl)⟩⟩
theorem RPlan.opn {w:World} {v:Value} {p:Plan} (h:RPlan 16777216 w w.heap.size v p):∃ PA ca PB cb,v=.agg #[.slice PA p.cartons.length ca,.slice PB p.spots.length cb]∧Hid (RCartons 16777216 w w.heap.size (.slice PA p.cartons.length ca) p.cartons)∧Hid (RSpots 16777216 w w.heap.size (.slice PB p.spots.length cb) p.spots)∧p.cartons.length≤16777216∧p.spots.length≤16777216:=by
 obtain ⟨v1,v2,rfl,h1,h2⟩:=h
 have g1:=h1
 have g2:=h2
 obtain ⟨A,c,rfl,b1,_⟩:=h1
 obtain ⟨A2,c2,rfl,b2,_⟩:=h2
 exact ⟨A,c,A2,c2,rfl,Lib.hid g1,Lib.hid g2,b1.1,b2.1⟩
def onTo (x:Plan) (k:Int) (m:Nat):List Int:=((List.range m).filter (onAt x k)).map Int.ofNat
theorem onTo_len (x:Plan) (k:Int) (m:Nat):(onTo x k m).length≤m:=by unfold onTo;rw [List.length_map];exact Nat.le_trans (List.length_filter_le _ _) (by simp)
theorem onTo_step {x:Plan} {k:Int} {m:Nat} {s:Spot} {f:Bool} (h:x.spots[m]? = some s) (hf:(s.pallet == k)=f):onTo x k (m + 1)=onTo x k m ++ (if f=true then [(m:Int)] else []):=by
 have h1:onAt x k m=f:=by unfold onAt;rw [List.getD_eq_getElem?_getD,h];exact hf
 unfold onTo
 rw [List.range_succ,List.filter_append,List.map_append]
 simp only [List.filter_cons,List.filter_nil,h1]
 cases f <;> simp
theorem onPal_eq {x:Plan} {k:Int} (h:x.cartons.length=x.spots.length):onPal x k=onTo x k x.spots.length:=by unfold onPal;rw [if_pos h];rfl
theorem onPal_ne {x:Plan} {k:Int} (h : ¬ x.cartons.length=x.spots.length):onPal x k=[]:=by unfold onPal;rw [if_neg h]
theorem onPal_le (x:Plan) (k:Int):(onPal x k).length≤x.cartons.length:=by
 by_cases h:x.cartons.length=x.spots.length
 ·rw [onPal_eq h,h];exact onTo_len _ _ _
 ·rw [onPal_ne h];simp
theorem onPal_in {x:Plan} {k:Int} {j:Nat} {i:Int} (h:(onPal x k)[j]? = some i):∃ m:Nat,i=m∧m < x.cartons.length∧m < x.spots.length:=by
 have hm:=List.mem_of_getElem? h
 by_cases hl:x.cartons.length=x.spots.length
 ·rw [onPal_eq hl] at hm
  unfold onTo at hm
  rw [List.mem_map] at hm
  obtain ⟨m,hm,rfl⟩:=hm
  have:=List.mem_range.1 (List.mem_filter.1 hm).1
  exact ⟨m,rfl,by omega,this⟩
 ·rw [onPal_ne hl] at hm
  simp at hm
set_option maxRecDepth 100000 in
set_option maxHeartbeats 1000000 in
theorem iOnPallet_any (v:Value) (x:Plan) (k:Int) (w:World) (h:RPlan 16777216 w w.heap.size v x):Calls Tryz.prog 66 #[v,.int .i64 k] w (MInts w (onPal x k)):=by
 obtain ⟨PA,ca,PB,cb,rfl,HPA,HPB,hla,hlb⟩:=h.opn
 have SN:=Lib.hid ((Sit.here w).alloc #[.slice PA x.cartons.length ca,.slice PB x.spots.length cb] 46)
 clear h
 go_enter Tryz.func66,Tryz.ntmps66
 by_cases hl:x.cartons.length=x.spots.length
 ·have HM:=Lib.hid (onPal_eq (k:=k) hl)
  have hne:((x.spots.length:Int) != (x.cartons.length:Int))=false:=by rw [hl];simp
  have hS:=SN.out.alloc #[] 3
  simp only [World.size_alloc] at hS
  have SN:=Lib.hid (hS.boxNil cI 1)
  clear hl hS
  go_wp2
  clear hne
  go_loopw [5,19] (fun vv i wr=>∃ (m:Nat) (fp:List Nat),m≤x.spots.length∧i=.int .i64 m∧Hid (Sit w wr [fOF cI 3 1 w.heap.size vv (onTo x k m) fp,fBox w.heap.size #[.slice PA x.cartons.length ca,.slice PB x.spots.length cb] 46])) (fun _ i _=>x.spots.length - (intOf i).toNat)
  case atStart=>exact ⟨0,_,Nat.zero_le _,rfl,SN⟩
  case round =>
   clear SN
   obtain ⟨m,fp,hm,rfl,SN⟩:=hrel
   by_cases hlt:m < x.spots.length
   ·obtain ⟨b,off,s,rfl,hb,hs,HC⟩:=HPB.out.one m hlt
    obtain ⟨hc0,hc1,hc2,hc3⟩:=HC.out wr SN.out.low
    obtain ⟨f,hf⟩:∃ f,(s.pallet == k)=f:=⟨_,rfl⟩
    have HS:=Lib.hid (onTo_step hs hf)
    have hln:=onTo_len x k m
    have SM:=Lib.hid (SN.out.alloc #[.int .i64 s.pallet,.int .i64 s.x,.int .i64 s.y,.int .i64 s.z] 72)
    clear hs
    cases f
    ·go_wp2
     go_roundw
     case rel=>exact ⟨m + 1,_,hlt,by go_num,by rw [HS.out];simpa using Lib.hid SM.out.drop⟩
     case measure=>simp [intOf] <;> omega
    ·have SN:=Lib.hid SM.out.rot2
     go_wp2_with (at_builtin;refine papp_Int _ _ rfl rfl ((m:Int)) rfl rfl (alloc_at (by first | rfl | (simp;done) | (simp;omega))) rfl ((SN.out.list (.head _)).next (by repeat' with_reducible first | assumption | exact bR | apply bD | apply bA | apply bC | apply bN | simp <;> omega)) (by first | omega | (simp;omega)) (by have:=SN.out.low.size;first | omega | (simp;done) | (simp;omega) | (simp at this ⊢;omega)) ?_;intro v7 w7 ha;obtain ⟨g7,S7⟩:=(SN.out.next (by repeat' with_reducible first | assumption | exact bR | apply bD | apply bA | apply bC | apply bN | simp <;> omega)).app ha;have S8:=Lib.hid S7;clear S7 ha)
     go_roundw
     case rel=>exact ⟨m + 1,_,hlt,by go_num,by rw [HS.out];exact Lib.hid S8.out.rot2.drop⟩
     case measure=>simp [intOf] <;> omega
   ·obtain rfl:m=x.spots.length:=by omega
    go_wp2
    go_ret
    rw [HM.out]
    exact SN.out.ints
 ·have HM:=Lib.hid (onPal_ne (k:=k) hl)
  have hne:((x.spots.length:Int) != (x.cartons.length:Int))=true:=by rw [bne_iff_ne];omega
  have SN:=Lib.hid (SN.out.addNil (f:=cI) (e:=3) (K:=1) w.heap.size)
  clear hl
  go_wp2
  go_ret
  rw [HM.out]
  exact SN.out.ints
set_option maxRecDepth 100000 in
set_option maxHeartbeats 1000000 in
theorem sOnPallet_any (v:Value) (x:Plan) (k:Int) (w:World) (h:RPlan 16777216 w w.heap.size v x):Calls Tryz.prog 89 #[v,.int .i64 k] w (MInts w (onPal x k)):=by
 obtain ⟨PA,ca,PB,cb,rfl,HPA,HPB,hla,hlb⟩:=h.opn
 have hS:=((Sit.here w).alloc #[.slice PA x.cartons.length ca,.slice PB x.spots.length cb] 46).alloc #[] 3
 simp only [World.size_alloc] at hS
 have SN:=Lib.hid (hS.boxNil cI 1)
 clear h hS
 go_enter Tryz.func89,Tryz.ntmps89
 by_cases hl:x.cartons.length=x.spots.length
 ·have HM:=Lib.hid (onPal_eq (k:=k) hl)
  have HL:=Lib.hid hl
  have heq:((x.cartons.length:Int) == (x.spots.length:Int))=true:=by rw [hl];simp
  clear hl
  go_wp2
  go_loopw [5,6] (fun vv i wr=>∃ (m:Nat) (fp:List Nat),m≤x.spots.length∧i=.int .i64 m∧Hid (Sit w wr [fOF cI 3 1 w.heap.size vv (onTo x k m) fp,fBox w.heap.size #[.slice PA x.cartons.length ca,.slice PB x.spots.length cb] 46])) (fun _ i _=>x.spots.length - (intOf i).toNat)
  case atStart=>exact ⟨0,_,Nat.zero_le _,rfl,SN⟩
  case round =>
   clear SN
   obtain ⟨m,fp,hm,rfl,SN⟩:=hrel
   have k0:=SN.out.box (.tail _ (.head _))
   have l0:=SN.out.boxlt (.tail _ (.head _))
   by_cases hlt:m < x.spots.length
   ·have hlt2:m < x.cartons.length:=by rw [HL.out];exact hlt
    obtain ⟨b,off,s,rfl,hb,hs,HC⟩:=HPB.out.one m hlt
    obtain ⟨hc0,hc1,hc2,hc3⟩:=HC.out wr SN.out.low
    obtain ⟨f,hf⟩:∃ f,(s.pallet == k)=f:=⟨_,rfl⟩
    have HS:=Lib.hid (onTo_step hs hf)
    have hln:=onTo_len x k m
    clear hs
    cases f
    ·go_wp2
     go_roundw
     case rel=>exact ⟨m + 1,_,hlt,by go_num,by rw [HS.out];simpa using SN⟩
     case measure=>simp [intOf] <;> omega
    ·go_wp2_with (at_builtin;refine papp_Int _ _ rfl rfl ((m:Int)) rfl rfl (alloc_at (by first | rfl | (simp;done) | (simp;omega))) rfl ((SN.out.list (.head _)).next (by repeat' with_reducible first | assumption | exact bR | apply bD | apply bA | apply bC | apply bN | simp <;> omega)) (by first | omega | (simp;omega)) (by have:=SN.out.low.size;first | omega | (simp;done) | (simp;omega) | (simp at this ⊢;omega)) ?_;intro v7 w7 ha;obtain ⟨g7,S7⟩:=(SN.out.next (by repeat' with_reducible first | assumption | exact bR | apply bD | apply bA | apply bC | apply bN | simp <;> omega)).app ha;have S8:=Lib.hid S7;clear S7 ha)
     go_roundw
     case rel=>exact ⟨m + 1,_,hlt,by go_num,by rw [HS.out];exact S8⟩
     case measure=>simp [intOf] <;> omega
   ·have hge : ¬ m < x.cartons.length:=by rw [HL.out];exact hlt
    obtain rfl:m=x.spots.length:=by omega
    go_wp2
    go_ret
    rw [HM.out]
    exact SN.out.ints
 ·have HM:=Lib.hid (onPal_ne (k:=k) hl)
  have heq:((x.cartons.length:Int) == (x.spots.length:Int))=false:=by rw [beq_eq_false_iff_ne];omega
  clear hl
  go_wp2
  go_loopw [5,6] (fun vv i wr=>∃ (fp:List Nat),i=.int .i64 0∧Hid (Sit w wr [fOF cI 3 1 w.heap.size vv ([]) fp,fBox w.heap.size #[.slice PA x.cartons.length ca,.slice PB x.spots.length cb] 46])) (fun _ _ _=>0)
  case atStart=>exact ⟨_,rfl,SN⟩
  case round =>
   clear SN
   obtain ⟨fp,rfl,SN⟩:=hrel
   have k0:=SN.out.box (.tail _ (.head _))
   have l0:=SN.out.boxlt (.tail _ (.head _))
   by_cases hlt:0 < x.cartons.length
   all_goals go_wp2
   all_goals go_ret
   all_goals rw [HM.out]
   all_goals exact SN.out.ints
set_option maxRecDepth 100000 in
set_option maxHeartbeats 1000000 in
theorem iPalletGram_any (v vx:Value) (r:Request) (x:Plan) (k:Int) (w:World) (h:RReq 16777216 w w.heap.size v r) (hx:RPlan 16777216 w w.heap.size vx x):Calls Tryz.prog 273 #[v,vx,.int .i64 k] w fun e w'=>e=.returned (.int .i64 (palGram r x k))∧Below w.heap.size w w':=by
 have HR:=Lib.hid h
 have HX:=Lib.hid hx
 obtain ⟨A1,c1,A2,c2,A3,c3,rfl,_⟩:=h.opn
 obtain ⟨PA,ca,PB,cb,rfl,HPA,HPB,hla,hlb⟩:=hx.opn
 have hol:=onPal_le x k
 have hS:=((Sit.here w).alloc (cR r A1 c1 A2 c2 A3 c3) 41).alloc #[.slice PA x.cartons.length ca,.slice PB x.spots.length cb] 46
 simp only [World.size_alloc] at hS
 have SN:=Lib.hid hS
 clear h hx hS
 go_enter Tryz.func273,Tryz.ntmps273
 have k1:=SN.out.box (.head _)
 have l1:=SN.out.boxlt (.head _)
 go_wp2_with fail
 refine (iOnPallet_any _ x k _ (HX.out.next SN.out.low)).mono ?_
 intro e1 w1 hm
 obtain ⟨v1,fk,rfl,hS⟩:=SN.out.gotInts hm
 obtain ⟨D,d,rfl,_⟩:=(hS.list (.head _)).form
 have SN:=Lib.hid hS
 clear k1 l1 hS hm
 go_wp2
 go_loopw [7,14] (fun n i wr=>∃ (j:Nat),j≤(onPal x k).length∧i=.int .i64 j∧n=.int .i64 (((onPal x k).take j).foldl (palStepG r x) 0)∧Hid (Sit w wr [fOF cI 3 1 w.heap.size (.slice D (onPal x k).length d) (onPal x k) fk,fBox (w.heap.size + 1) #[.slice PA x.cartons.length ca,.slice PB x.spots.length cb] 46,fBox w.heap.size (cR r A1 c1 A2 c2 A3 c3) 41])) (fun _ i _=>(onPal x k).length - (intOf i).toNat)
 case atStart=>exact ⟨0,Nat.zero_le _,rfl,rfl,SN⟩
 case round =>
  clear SN
  obtain ⟨j,hj,rfl,rfl,SN⟩:=hrel
  by_cases hlt:j < (onPal x k).length
  ·obtain ⟨i,hi⟩:∃ i,(onPal x k)[j]? = some i:=⟨_,List.getElem?_eq_getElem hlt⟩
   obtain ⟨m,rfl,hm1,hm2⟩:=onPal_in hi
   obtain ⟨gd,rfl⟩:=head_ptr (SN.out.list (.head _)) hi
   have hcu:=(SN.out.list (.head _)).cells (fun z=>rfl) hi 0 (.int .i64 (m:Int)) rfl
   rw [Nat.mul_one,Nat.add_zero] at hcu
   obtain ⟨b,off,c,U,cu,rfl,hb,hc,HU,HC⟩:=HPA.out.one m hm1
   have HST:=Lib.hid (foldl_take_step (f:=palStepG r x) (b:=0) hi)
   obtain ⟨G,hG⟩:∃ G,((onPal x k).take j).foldl (palStepG r x) 0=G:=⟨_,rfl⟩
   obtain ⟨g,hg⟩:∃ g,gross r c=g:=⟨_,rfl⟩
   have HGR:=Lib.hid hg
   have HG:=Lib.hid (show palStepG r x G (m:Int)=wrap64 (G + g) by unfold palStepG cartAt;rw [Int.toNat_natCast,List.getD_eq_getElem?_getD,hc];show wrap64 (G + gross r c)=_;rw [hg])
   rw [hG] at HST ⊢
   have HCC:=Lib.hid (show ∀ X:World,Below wr.heap.size wr X→(cS10 (X) (w.heap.size) (r) (.slice A1 r.pairs.length c1) (.slice A2 r.types.length c2) (.slice A3 r.items.length c3))∧X.cell? ⟨w.heap.size + 1,0,none⟩=some (.slice (some ⟨b,off,none⟩) x.cartons.length ca)∧cC3 (X) (b) (off) (m) (c) (.slice U c.units.length cu) from fun X hX=>by
    have hX:=SN.out.next hX
    have c0:=hX.box (.tail _ (.tail _ (.head _)))
    exact ⟨⟨c0 0,c0 1,c0 2,c0 3,c0 4,c0 5,c0 6,c0 7,c0 8,c0 9⟩,hX.box (.tail _ (.head _)) 0,HC.out X hX.low⟩)
   clear hi hc hG hg
   go_wp2
   go_region_held3 (fun W'=>((cS10 (W') (w.heap.size) (r) (.slice A1 r.pairs.length c1) (.slice A2 r.types.length c2) (.slice A3 r.items.length c3)))∧W'.cell? ⟨w.heap.size + 1,0,none⟩=some (.slice (some ⟨b,off,none⟩) x.cartons.length ca)∧cC3 (W') (b) (off) (m) (c) (.slice U c.units.length cu)) (first | (refine HCC.out _ ?_;(repeat' with_reducible first | assumption | exact bR | apply bD | apply bA | apply bC | apply bW | omega | simp <;> omega);done) | go_keep)
    (first | (go_at_call 139;refine (iGross_any _ _ r c _ (HR.out.next (SN.out.next (by (repeat' with_reducible first | assumption | exact bR | apply bD | apply bA | apply bC | apply bW | omega | simp <;> omega))).low) (HU.out.next (flat_mono _) (SN.out.next (by (repeat' with_reducible first | assumption | exact bR | apply bD | apply bA | apply bC | apply bW | omega | simp <;> omega))).low)).mono ?_;rintro e w3 ⟨rfl,hb3⟩;rw [HGR.out];have hn3:=bstep (a:=wr) (by (repeat' with_reducible first | assumption | exact bR | apply bD | apply bA | apply bC | apply bW | omega | simp <;> omega)) hb3))
   have SN:=Lib.hid (SN.out.next hn3)
   go_wp2
   go_roundw
   case rel=>exact ⟨j + 1,hlt,by go_num,by rw [HST.out,HG.out];(try simp only [wrapE]),SN⟩
   case measure=>simp [intOf] <;> omega
  ·obtain rfl:j=(onPal x k).length:=by omega
   have HM:=Lib.hid (show ((onPal x k).take (onPal x k).length).foldl (palStepG r x) 0=palGram r x k by rw [List.take_length];rfl)
   go_wp2
   go_ret
   exact ⟨by rw [HM.out];rfl,SN.out.low⟩
set_option maxRecDepth 100000 in
set_option maxHeartbeats 1000000 in
theorem sPalletGram_any (v vx:Value) (r:Request) (x:Plan) (k:Int) (w:World) (h:RReq 16777216 w w.heap.size v r) (hx:RPlan 16777216 w w.heap.size vx x):Calls Tryz.prog 258 #[v,vx,.int .i64 k] w fun e w'=>e=.returned (.int .i64 (palGram r x k))∧Below w.heap.size w w':=by
 have HR:=Lib.hid h
 have HX:=Lib.hid hx
 obtain ⟨A1,c1,A2,c2,A3,c3,rfl,_⟩:=h.opn
 obtain ⟨PA,ca,PB,cb,rfl,HPA,HPB,hla,hlb⟩:=hx.opn
 have hol:=onPal_le x k
 have hS:=((Sit.here w).alloc (cR r A1 c1 A2 c2 A3 c3) 41).alloc #[.slice PA x.cartons.length ca,.slice PB x.spots.length cb] 46
 simp only [World.size_alloc] at hS
 have SN:=Lib.hid hS
 clear h hx hS
 go_enter Tryz.func258,Tryz.ntmps258
 have k1:=SN.out.box (.head _)
 have l1:=SN.out.boxlt (.head _)
 go_wp2_with fail
 refine (sOnPallet_any _ x k _ (HX.out.next SN.out.low)).mono ?_
 intro e1 w1 hm
 obtain ⟨v1,fk,rfl,hS⟩:=SN.out.gotInts hm
 obtain ⟨D,d,rfl,_⟩:=(hS.list (.head _)).form
 have SN:=Lib.hid hS
 clear k1 l1 hS hm
 go_wp2
 go_loopw [7,9] (fun n i wr=>∃ (j:Nat),j≤(onPal x k).length∧i=.int .i64 j∧n=.int .i64 (((onPal x k).take j).foldl (palStepG r x) 0)∧Hid (Sit w wr [fOF cI 3 1 w.heap.size (.slice D (onPal x k).length d) (onPal x k) fk,fBox (w.heap.size + 1) #[.slice PA x.cartons.length ca,.slice PB x.spots.length cb] 46,fBox w.heap.size (cR r A1 c1 A2 c2 A3 c3) 41])) (fun _ i _=>(onPal x k).length - (intOf i).toNat)
 case atStart=>exact ⟨0,Nat.zero_le _,rfl,rfl,SN⟩
 case round =>
  clear SN
  obtain ⟨j,hj,rfl,rfl,SN⟩:=hrel
  by_cases hlt:j < (onPal x k).length
  ·obtain ⟨i,hi⟩:∃ i,(onPal x k)[j]? = some i:=⟨_,List.getElem?_eq_getElem hlt⟩
   obtain ⟨m,rfl,hm1,hm2⟩:=onPal_in hi
   obtain ⟨gd,rfl⟩:=head_ptr (SN.out.list (.head _)) hi
   have hcu:=(SN.out.list (.head _)).cells (fun z=>rfl) hi 0 (.int .i64 (m:Int)) rfl
   rw [Nat.mul_one,Nat.add_zero] at hcu
   have hgl:=(SN.out.list (.head _)).size.2.2.2
   obtain ⟨b,off,c,U,cu,rfl,hb,hc,HU,HC⟩:=HPA.out.one m hm1
   have HST:=Lib.hid (foldl_take_step (f:=palStepG r x) (b:=0) hi)
   obtain ⟨G,hG⟩:∃ G,((onPal x k).take j).foldl (palStepG r x) 0=G:=⟨_,rfl⟩
   obtain ⟨g,hg⟩:∃ g,gross r c=g:=⟨_,rfl⟩
   have HGR:=Lib.hid hg
   have HG:=Lib.hid (show palStepG r x G (m:Int)=wrap64 (G + g) by unfold palStepG cartAt;rw [Int.toNat_natCast,List.getD_eq_getElem?_getD,hc];show wrap64 (G + gross r c)=_;rw [hg])
   rw [hG] at HST ⊢
   have HCC:=Lib.hid (show ∀ X:World,Below wr.heap.size wr X→(cS10 (X) (w.heap.size) (r) (.slice A1 r.pairs.length c1) (.slice A2 r.types.length c2) (.slice A3 r.items.length c3))∧X.cell? ⟨w.heap.size + 1,0,none⟩=some (.slice (some ⟨b,off,none⟩) x.cartons.length ca)∧X.cell? ⟨gd,j,none⟩=some (.int .i64 (m:Int))∧cC3 (X) (b) (off) (m) (c) (.slice U c.units.length cu) from fun X hX=>by
    have hcx:=(hX.cell (p:=⟨gd,j,none⟩) hgl).trans hcu
    have hX:=SN.out.next hX
    have c0:=hX.box (.tail _ (.tail _ (.head _)))
    exact ⟨⟨c0 0,c0 1,c0 2,c0 3,c0 4,c0 5,c0 6,c0 7,c0 8,c0 9⟩,hX.box (.tail _ (.head _)) 0,hcx,HC.out X hX.low⟩)
   clear hi hc hG hg
   go_wp2
   go_region_held3 (fun W'=>((cS10 (W') (w.heap.size) (r) (.slice A1 r.pairs.length c1) (.slice A2 r.types.length c2) (.slice A3 r.items.length c3)))∧W'.cell? ⟨w.heap.size + 1,0,none⟩=some (.slice (some ⟨b,off,none⟩) x.cartons.length ca)∧W'.cell? ⟨gd,j,none⟩=some (.int .i64 (m:Int))∧cC3 (W') (b) (off) (m) (c) (.slice U c.units.length cu)) (first | (refine HCC.out _ ?_;(repeat' with_reducible first | assumption | exact bR | apply bD | apply bA | apply bC | apply bW | omega | simp <;> omega);done) | go_keep)
    (first | (go_at_call 168;refine (sGross_any _ _ r c _ (HR.out.next (SN.out.next (by (repeat' with_reducible first | assumption | exact bR | apply bD | apply bA | apply bC | apply bW | omega | simp <;> omega))).low) (HU.out.next (flat_mono _) (SN.out.next (by (repeat' with_reducible first | assumption | exact bR | apply bD | apply bA | apply bC | apply bW | omega | simp <;> omega))).low)).mono ?_;rintro e w3 ⟨rfl,hb3⟩;rw [HGR.out];have hn3:=bstep (a:=wr) (by (repeat' with_reducible first | assumption | exact bR | apply bD | apply bA | apply bC | apply bW | omega | simp <;> omega)) hb3))
   have SN:=Lib.hid (SN.out.next hn3)
   go_wp2
   go_roundw
   case rel=>exact ⟨j + 1,hlt,by go_num,by rw [HST.out,HG.out];(try simp only [wrapE]),SN⟩
   case measure=>simp [intOf] <;> omega
  ·obtain rfl:j=(onPal x k).length:=by omega
   have HM:=Lib.hid (show ((onPal x k).take (onPal x k).length).foldl (palStepG r x) 0=palGram r x k by rw [List.take_length];rfl)
   go_wp2
   go_ret
   exact ⟨by rw [HM.out];rfl,SN.out.low⟩
end Go.Proofs.YtioijfplbgpjpaaGreat
namespace Go.Proofs.YtioijfplbgpjpaaGreat
set_option linter.unusedVariables false
set_option linter.unusedSimpArgs false
set_option maxRecDepth 100000
open Go.RowKit
def groupC2 (r:Request) (c:Carton):Bool:=(knownR (unitsR r) c.units).all fun u=>decide (c.group < ((groupsR r).length:Int)) && ((groupsR r).getD c.group.toNat default).contains (itemOf r (unitsR r) u).1.cls
def cheapC2 (r:Request) (c:Carton):Bool:=(cheapest r c.units).1.id == c.type
def cartonsFault2 (r:Request) (x:Plan):Int:=if x.cartons.all (holdsC r)=true then (if x.cartons.all (groupC2 r)=true then (if x.cartons.all (cheapC2 r)=true then 0 else 6) else 5) else 4
theorem units_valid {n:Nat} {cs:List Carton} (h:unitsFit n (cs.flatMap (·.units))=true) {c:Carton} (hc:c∈cs) {u:Int} (hu:u∈c.units):0≤u∧u < n :=
 intsN_mem.1 ((unitsFit_perm.1 h).mem_iff.1 (List.mem_flatMap.2 ⟨c,hc,hu⟩))
theorem all_congr {α:Type} {xs:List α} {f g:α→Bool} (h:∀ x∈xs,f x=g x):xs.all f=xs.all g:=by
 rw [Bool.eq_iff_iff,List.all_eq_true,List.all_eq_true]
 exact ⟨fun hf x hx=>h x hx ▸ hf x hx,fun hg x hx=>(h x hx).symm ▸ hg x hx⟩
theorem known_all {all us:List Int} (h:∀ u∈us,0≤u∧u < (all.length:Int)):knownR all us=us:=by
 unfold knownR
 rw [List.filter_eq_self]
 intro u hu
 have:=h u hu
 simp only [inB,Bool.and_eq_true,decide_eq_true_eq]
 omega
theorem groupC_eq {r:Request} {c:Carton} (hg:0≤c.group) (hu:∀ u∈c.units,0≤u∧u < ((unitsR r).length:Int)):groupC2 r c=groupC r c:=by
 unfold groupC2 groupC
 rw [known_all hu]
 refine all_congr fun u _=>?_
 rw [Bool.eq_iff_iff,beq_iff_eq,groupIx_iff (groupsR_nodup r) hg]
 simp only [Bool.and_eq_true,decide_eq_true_eq]
theorem cheapC_eq {r:Request} {c:Carton} (h:holdsC r c=true):cheapC2 r c=cheapC r c:=by
 unfold holdsC at h
 simp only [Bool.and_eq_true] at h
 have h1:=typeById_mem h.1
 have h2:=(cheapest_all (r:=r) c.units r.types (default,false) (by simp) (fun _ h=>h)).2 (.inr ⟨_,h1.1,h.2⟩)
 unfold cheapC2 cheapC
 have h3:(cheapest r c.units).2=true:=h2
 rw [h3]
 rfl
theorem planOk_group {p:Plan} (h:planOk p=true) {c:Carton} (hc:c∈p.cartons):0≤c.group∧c.group≤3:=by
 unfold planOk at h
 simp only [Bool.and_eq_true,decide_eq_true_eq] at h
 obtain ⟨⟨h1,h2⟩,h3⟩:=h
 obtain ⟨i,hi,rfl⟩:=List.getElem_of_mem hc
 have h4:=List.all_eq_true.1 h3 i (List.mem_range.2 hi)
 simp only [Bool.and_eq_true] at h4
 have h5:=h4.1
 rw [List.getD_eq_getElem?_getD,List.getElem?_eq_getElem hi] at h5
 have h6:cartonOk p.cartons[i]=true:=h5
 simp only [cartonOk,inB,Bool.and_eq_true,decide_eq_true_eq] at h6
 exact h6.1.2
theorem cartonsFault_eq {r:Request} {x:Plan} (hp:planOk x=true) (hu:unitsFit (unitsR r).length (x.cartons.flatMap (·.units))=true):cartonsFault2 r x=cartonsFault r x:=by
 unfold cartonsFault2 cartonsFault
 by_cases hh:x.cartons.all (holdsC r)=true
 ·rw [if_pos hh,if_pos hh]
  rw [all_congr (f:=groupC2 r) (g:=groupC r) (fun c hc=>groupC_eq (planOk_group hp hc).1 (fun u hm=>units_valid hu hc hm))]
  rw [all_congr (f:=cheapC2 r) (g:=cheapC r) (fun c hc=>cheapC_eq (List.all_eq_true.1 hh c hc))]
 ·rw [if_neg hh,if_neg hh]
theorem feasible_iff {r:Request} {x:Plan} : feasible r x=true↔soundR r=true∧planOk x=true∧emptyC x=false∧unitsFit (unitsR r).length (x.cartons.flatMap (·.units))=true∧cartonsFault r x=0∧spotsFault r x=0:=by
 unfold feasible checkR
 by_cases h1:soundR r=true
 ·rw [if_pos h1]
  by_cases h2:(planOk x && !emptyC x)=true
  ·rw [if_pos h2]
   simp only [Bool.and_eq_true,Bool.not_eq_true'] at h2
   by_cases h3:unitsFit (unitsR r).length (x.cartons.flatMap (·.units))=true
   ·rw [if_pos h3]
    by_cases h4:cartonsFault r x=0
    ·rw [if_pos h4,beq_iff_eq]
     exact ⟨fun h=>⟨h1,h2.1,h2.2,h3,h4,h⟩,fun h=>h.2.2.2.2.2⟩
    ·rw [if_neg h4,beq_iff_eq]
     exact ⟨fun h=>absurd h h4,fun h=>absurd h.2.2.2.2.1 h4⟩
   ·rw [if_neg h3]
    exact ⟨fun h=>by simp at h,fun h=>absurd h.2.2.2.1 h3⟩
  ·rw [if_neg h2]
   simp only [Bool.and_eq_true,Bool.not_eq_true',not_and] at h2
   exact ⟨fun h=>by simp at h,fun h=>absurd h.2.2.1 (h2 h.2.1)⟩
 ·rw [if_neg h1]
  exact ⟨fun h=>by simp at h,fun h=>absurd h.1 h1⟩
theorem spotsFault_zero {r:Request} {x:Plan} (h:spotsFault r x=0):(List.range x.cartons.length).all (insideI r x)=true∧(List.range x.cartons.length).all (apartI r x)=true∧(List.range (palletsR x.spots).toNat).all (palletK r x)=true:=by
 unfold spotsFault at h
 by_cases h1:(List.range x.cartons.length).all (insideI r x)=true
 ·rw [if_pos h1] at h
  by_cases h2:(List.range x.cartons.length).all (apartI r x)=true
  ·rw [if_pos h2] at h
   by_cases h3:(List.range (palletsR x.spots).toNat).all (palletK r x)=true
   ·exact ⟨h1,h2,h3⟩
   ·rw [if_neg h3] at h;simp at h
  ·rw [if_neg h2] at h;simp at h
 ·rw [if_neg h1] at h;simp at h
end Go.Proofs.YtioijfplbgpjpaaGreat
namespace Go.Proofs.YtioijfplbgpjpaaGreat
set_option linter.unusedVariables false
set_option linter.unusedSimpArgs false
set_option maxRecDepth 100000
open Go.RowKit Go.WideShapes Go.ChangeShapes Go.ChangeAt Go.Deep
theorem all_step {α:Type} {xs:List α} {k:Nat} {x:α} {p:α→Bool} {f:Bool} (h:xs[k]? = some x) (hf:p x=f):(xs.drop k).all p=(f && (xs.drop (k + 1)).all p):=by rw [drop_cons h,List.all_cons,hf]
theorem all_done {α:Type} {xs:List α} {k:Nat} {p:α→Bool} (h:xs.length≤k):(xs.drop k).all p=true:=by rw [List.drop_eq_nil_of_le h];rfl
theorem rall_step {n k:Nat} {p:Nat→Bool} {f:Bool} (h:k < n) (hf:p k=f):((List.range n).drop k).all p=(f && ((List.range n).drop (k + 1)).all p):=all_step (by simp [h]) hf
theorem any_contains (g:List Int) (c:Int):(g.any fun y=>c == y)=g.contains c:=List.contains_eq_any_beq.symm
set_option maxHeartbeats 1000000 in
theorem sGroupOf_any (v:Value) (gs:List (List Int)) (c:Int) (w:World) (h:RL 16777216 1 (RNest hdInts innI) w w.heap.size v gs):Calls Tryz.prog 256 #[v,.int .i64 c] w fun e w'=>e=.returned (.int .i64 (groupIx gs c))∧w=w':=by
 have H:=Lib.hid h
 obtain ⟨A,d,rfl,hbd,_⟩:=h
 have HM:=Lib.hid (firstI_idx (fun g:List Int=>g.contains c) gs)
 go_enter Tryz.func256,Tryz.ntmps256
 go_wp2
 go_loop [5] (fun i=>∃ k:Nat,k≤gs.length∧i=.int .i64 k∧Hid (∀ (i:Nat) (y:List Int),i < k→gs[i]? = some y→y.contains c=false)) (fun i=>gs.length - (intOf i).toNat)
 case atStart=>exact ⟨0,Nat.zero_le _,rfl,Lib.hid (fun _ _ h=>by omega)⟩
 case round =>
  obtain ⟨k,hk,rfl,HN⟩:=hrel
  by_cases hlt:k < gs.length
  ·obtain ⟨b,off,x,_,rfl,hb,hx,_,⟨vx,rfl,hrx⟩,hc⟩:=H.out.at_ k hlt
   have hc0:=hc 0 _ rfl
   simp only [Nat.mul_one,Nat.add_zero] at hc0
   have HRX:=Lib.hid hrx
   obtain ⟨q,hq⟩:∃ q,x.contains c=q:=⟨_,rfl⟩
   have HQ:=Lib.hid (show (x.any fun y=>c == y)=q by rw [any_contains];exact hq)
   have HI:=Lib.hid (fun h:q=true=>idxF_hit (p:=fun g:List Int=>g.contains c) hx (hq.trans h) HN.out)
   have HMS:=Lib.hid (fun h:q=false=>miss_step HN.out hx (hq.trans h))
   clear hc hrx hx hq
   cases q
   ·go_wp2_with (go_at_call 152;refine (l1Has_any vx x c _ HRX.out).mono ?_;rintro e w' ⟨rfl,rfl⟩;rw [HQ.out])
    go_round
    case rel=>exact ⟨k + 1,hlt,by go_num,Lib.hid (HMS.out (by simp))⟩
    case measure=>simp [intOf] <;> omega
   ·go_wp2_with (go_at_call 152;refine (l1Has_any vx x c _ HRX.out).mono ?_;rintro e w' ⟨rfl,rfl⟩;rw [HQ.out])
    go_ret
    exact ⟨ret_int (by unfold groupIx;rw [HM.out,HI.out (by simp)]),rfl⟩
  ·have HI:=Lib.hid (idxF_miss (p:=fun g:List Int=>g.contains c) (xs:=gs) (fun i y hi hy=>HN.out i y (by omega) hy))
   go_wp2
   go_ret
   exact ⟨ret_int (by unfold groupIx;rw [HM.out,HI.out]),rfl⟩
set_option maxHeartbeats 1000000 in
theorem l8Times_any (v:Value) (xs:List Int) (u:Int) (w:World) (h:RInts 16777216 w w.heap.size v xs):Calls Tryz.prog 148 #[v,.int .i64 u] w fun e w'=>e=.returned (.int .i64 (xs.count u))∧w=w':=by
 have H:=Lib.hid h
 obtain ⟨A,d,rfl,hbd,_⟩:=h
 go_enter Tryz.func148,Tryz.ntmps148
 go_wp2
 go_loop [5,6] (fun n i=>∃ k m:Nat,k≤xs.length∧m≤k∧i=.int .i64 k∧n=.int .i64 m∧Hid ((xs.take k).count u=m)) (fun _ i=>xs.length - (intOf i).toNat)
 case atStart=>exact ⟨0,0,Nat.zero_le _,Nat.le_refl _,rfl,rfl,Lib.hid rfl⟩
 case round =>
  obtain ⟨k,m,hk,hm,rfl,rfl,HC⟩:=hrel
  by_cases hlt:k < xs.length
  ·obtain ⟨b,off,x,rfl,hb,hx,hc⟩:=H.out.at1 k hlt
   have hc0:=hc _ rfl
   obtain ⟨q,hq⟩:∃ q,(x == u)=q:=⟨_,rfl⟩
   have HS:=Lib.hid (show (xs.take (k + 1)).count u=m + (if q=true then 1 else 0) by rw [List.take_add_one,hx,List.count_append,HC.out];simp [List.count_cons,hq])
   clear hc hx
   cases q
   all_goals go_wp2_with (go_at_call 141;refine (l1Bit_any _ _).mono ?_;rintro e w' ⟨rfl,rfl⟩)
   all_goals go_round
   all_goals first | (case rel=>exact ⟨k + 1,m,hlt,by omega,by go_num,by go_num,Lib.hid (by rw [HS.out];rfl)⟩) | (case rel=>exact ⟨k + 1,m + 1,hlt,by omega,by go_num,by go_num,Lib.hid (by rw [HS.out];rfl)⟩) | (case measure=>simp [intOf] <;> omega)
  ·obtain rfl:k=xs.length:=by omega
   have HE:=Lib.hid (show xs.count u=m by have h:=HC.out;rwa [List.take_length] at h)
   go_wp2
   go_ret
   exact ⟨by rw [HE.out];rfl,rfl⟩
set_option maxRecDepth 100000 in
set_option maxHeartbeats 1000000 in
theorem l15Empty_any (v:Value) (x:Plan) (w:World) (h:RPlan 16777216 w w.heap.size v x):Calls Tryz.prog 192 #[v] w fun e w'=>e=.returned (.bool (emptyC x))∧Below w.heap.size w w':=by
 obtain ⟨PA,ca,PB,cb,rfl,HPA,HPB,hla,hlb⟩:=h.opn
 have SN:=Lib.hid ((Sit.here w).alloc #[.slice PA x.cartons.length ca,.slice PB x.spots.length cb] 46)
 clear h
 go_enter Tryz.func192,Tryz.ntmps192
 go_wp2
 go_loopw [3] (fun i wr=>∃ (k:Nat),k≤x.cartons.length∧i=.int .i64 k∧Hid ((x.cartons.drop k).any (fun c=>decide (c.units.length=0))=emptyC x)∧Hid (Sit w wr [fBox w.heap.size #[.slice PA x.cartons.length ca,.slice PB x.spots.length cb] 46])) (fun i _=>x.cartons.length - (intOf i).toNat)
 case atStart=>exact ⟨0,Nat.zero_le _,rfl,Lib.hid rfl,SN⟩
 case round =>
  clear SN
  obtain ⟨k,hk,rfl,HD,SN⟩:=hrel
  have k0:=SN.out.box (.head _)
  have l0:=SN.out.boxlt (.head _)
  by_cases hlt:k < x.cartons.length
  ·obtain ⟨b,off,c,U,cu,rfl,hb,hx,HU,HC⟩:=HPA.out.one k hlt
   obtain ⟨hc0,hc1,hc2⟩:=HC.out wr SN.out.low
   obtain ⟨q,hq⟩:∃ q,((c.units.length:Int) == 0)=q:=⟨_,rfl⟩
   have HS:=Lib.hid (show (x.cartons.drop k).any (fun c=>decide (c.units.length=0))=(q || (x.cartons.drop (k + 1)).any (fun c=>decide (c.units.length=0))) by
    rw [drop_cons hx,List.any_cons]
    congr 1
    rw [← hq,Bool.eq_iff_iff]
    simp)
   clear hx
   cases q
   ·go_wp2
    go_roundw
    case rel=>exact ⟨k + 1,hlt,by go_num,Lib.hid (by rw [← HD.out,HS.out];rfl),SN⟩
    case measure=>simp [intOf] <;> omega
   ·go_wp2
    go_ret
    exact ⟨by rw [← HD.out,HS.out];rfl,SN.out.low⟩
  ·have HE:=Lib.hid (show emptyC x=false by rw [← HD.out,List.drop_eq_nil_of_le (by omega)];rfl)
   go_wp2
   go_ret
   exact ⟨by rw [HE.out];rfl,SN.out.low⟩
set_option maxRecDepth 100000 in
set_option maxHeartbeats 1000000 in
theorem l15Units_any (v vx:Value) (all:List Int) (x:Plan) (w:World) (h:RInts 16777216 w w.heap.size v all) (hx:RPlan 16777216 w w.heap.size vx x) (hL:x.bulk≤16777216):Calls Tryz.prog 194 #[v,vx] w fun e w'=>e=.returned (.bool (unitsFit all.length (allU x.cartons)))∧Below w.heap.size w w':=by
 have HX:=Lib.hid hx
 obtain ⟨A,d,rfl,hbd,_⟩:=h
 obtain ⟨PA,ca,PB,cb,rfl,HPA,HPB,hla,hlb⟩:=hx.opn
 have hal:=Nat.le_trans (allU_bulk x) hL
 have SN:=Lib.hid ((Sit.here w).alloc #[.slice PA x.cartons.length ca,.slice PB x.spots.length cb] 46)
 clear hx
 go_enter Tryz.func194,Tryz.ntmps194
 have k0:=SN.out.box (.head _)
 have l0:=SN.out.boxlt (.head _)
 go_wp2_with fail
 refine (l15Flat_any _ x _ (HX.out.next SN.out.low) hL).mono ?_
 intro e1 w1 hm
 obtain ⟨v1,f1,rfl,hS⟩:=SN.out.gotInts hm
 obtain ⟨L,hLL⟩:∃ L,allU x.cartons=L:=⟨_,rfl⟩
 rw [hLL] at hS hal
 have HLL:=Lib.hid hLL
 obtain ⟨D,e,rfl,_⟩:=(hS.list (.head _)).form
 have SN:=Lib.hid hS
 have HC:=Lib.hid (unitsFit_count (n:=all.length) (flat:=L))
 clear k0 l0 hS hm hLL
 by_cases hl:L.length=all.length
 ·have hne:((L.length:Int) != (all.length:Int))=false:=by rw [hl];simp
  have HC2:=Lib.hid (show unitsFit all.length L=(List.range all.length).all fun u=>decide (L.count (u:Int)=1) by rw [HC.out,decide_eq_true hl,Bool.true_and])
  clear hl
  go_wp2
  clear hne
  go_loopw [6] (fun i wr=>∃ (k:Nat),k≤all.length∧i=.int .i64 k∧Hid (((List.range all.length).drop k).all (fun u=>decide (L.count (u:Int)=1))=unitsFit all.length L)∧Hid (Sit w wr [fOF cI 3 1 w.heap.size (.slice D L.length e) (L) f1])) (fun i _=>all.length - (intOf i).toNat)
  case atStart=>exact ⟨0,Nat.zero_le _,rfl,Lib.hid (by rw [HC2.out];rfl),Lib.hid (Sit.take (l1:=[_]) SN.out)⟩
  case round =>
   clear SN
   obtain ⟨k,hk,rfl,HD,SN⟩:=hrel
   by_cases hlt:k < all.length
   ·obtain ⟨n,hn⟩:∃ n,L.count (k:Int)=n:=⟨_,rfl⟩
    have HN:=Lib.hid hn
    obtain ⟨q,hq⟩:∃ q,decide (n=1)=q:=⟨_,rfl⟩
    have HS:=Lib.hid (rall_step (p:=fun u=>decide (L.count (u:Int)=1)) hlt (show decide (L.count (k:Int)=1)=q by rw [hn];exact hq))
    have hq2:((n:Int) != 1) = !q:=by rw [← hq,Bool.eq_iff_iff];simp;omega
    clear hn hq
    cases q
    ·go_wp2_with (go_at_call 148;refine (l8Times_any _ L _ _ (OInts.read (SN.out.list (.head _)) hal)).mono ?_;rintro e w' ⟨rfl,rfl⟩;rw [HN.out])
     go_ret
     exact ⟨by rw [HLL.out,← HD.out,HS.out];rfl,SN.out.low⟩
    ·go_wp2_with (go_at_call 148;refine (l8Times_any _ L _ _ (OInts.read (SN.out.list (.head _)) hal)).mono ?_;rintro e w' ⟨rfl,rfl⟩;rw [HN.out])
     go_roundw
     case rel=>exact ⟨k + 1,hlt,by go_num,Lib.hid (by rw [← HD.out,HS.out];rfl),SN⟩
     case measure=>simp [intOf] <;> omega
   ·have HE:=Lib.hid (show unitsFit all.length L=true by rw [← HD.out];exact all_done (by simp;omega))
    go_wp2
    go_ret
    exact ⟨by rw [HLL.out,HE.out];rfl,SN.out.low⟩
 ·have hne:((L.length:Int) != (all.length:Int))=true:=by rw [bne_iff_ne];omega
  have HC2:=Lib.hid (show unitsFit all.length L=false by rw [HC.out,decide_eq_false hl,Bool.false_and])
  clear hl
  go_wp2
  go_ret
  exact ⟨by rw [HLL.out,HC2.out];rfl,SN.out.low⟩
set_option maxRecDepth 100000 in
set_option maxHeartbeats 2000000 in
theorem l15Holds_any (v vx:Value) (r:Request) (x:Plan) (w:World) (h:RReq 16777216 w w.heap.size v r) (hx:RPlan 16777216 w w.heap.size vx x) (hs:soundR r=true):Calls Tryz.prog 195 #[v,vx] w fun e w'=>e=.returned (.bool (x.cartons.all (holdsC r)))∧Below w.heap.size w w':=by
 have HR:=Lib.hid h
 have HSS:=Lib.hid hs
 obtain ⟨A1,c1,A2,c2,A3,c3,rfl,_⟩:=h.opn
 obtain ⟨PA,ca,PB,cb,rfl,HPA,HPB,hla,hlb⟩:=hx.opn
 have hS:=((Sit.here w).alloc (cR r A1 c1 A2 c2 A3 c3) 41).alloc #[.slice PA x.cartons.length ca,.slice PB x.spots.length cb] 46
 simp only [World.size_alloc] at hS
 have SN:=Lib.hid hS
 clear h hx hS hs
 go_enter Tryz.func195,Tryz.ntmps195
 go_wp2
 go_loopw [5] (fun i wr=>∃ (k:Nat),k≤x.cartons.length∧i=.int .i64 k∧Hid ((x.cartons.drop k).all (holdsC r)=x.cartons.all (holdsC r))∧Hid (Sit w wr [fBox (w.heap.size + 1) #[.slice PA x.cartons.length ca,.slice PB x.spots.length cb] 46,fBox w.heap.size (cR r A1 c1 A2 c2 A3 c3) 41])) (fun i _=>x.cartons.length - (intOf i).toNat)
 case atStart=>exact ⟨0,Nat.zero_le _,rfl,Lib.hid rfl,SN⟩
 case round =>
  clear SN
  obtain ⟨k,hk,rfl,HD,SN⟩:=hrel
  have k1:=SN.out.box (.head _)
  have l1:=SN.out.boxlt (.head _)
  by_cases hlt:k < x.cartons.length
  ·obtain ⟨b,off,c,U,cu,rfl,hb,hx,HU,HC⟩:=HPA.out.one k hlt
   obtain ⟨q,hq⟩:∃ q,typeById r c.type=q:=⟨_,rfl⟩
   have HQ:=Lib.hid hq
   obtain ⟨ff,hff⟩:∃ ff,holdsR r c.units q.1=ff:=⟨_,rfl⟩
   have HF:=Lib.hid hff
   have HST:=Lib.hid (all_step (p:=holdsC r) hx (show holdsC r c=(q.2 && ff) by unfold holdsC;rw [hq,hff]))
   clear hx hq hff
   go_upto_region 4 with fail
   clear k1 l1
   go_cut [6,7] (fun v6 v7 X=>∃ g6,v6=.pointer (some ⟨g6,0,none⟩)∧v7=.bool q.2∧Hid (Sit w X [fBox g6 #[.int .i64 q.1.id,.int .i64 q.1.w,.int .i64 q.1.h,.int .i64 q.1.d,.int .i64 q.1.tare,.int .i64 q.1.gram,.int .i64 q.1.cost] 142,fBox (w.heap.size + 1) #[.slice (some ⟨b,off,none⟩) x.cartons.length ca,.slice PB x.spots.length cb] 46,fBox w.heap.size (cR r A1 c1 A2 c2 A3 c3) 41]))
   case first =>
    have HCC:=Lib.hid (show ∀ X:World,Below wr.heap.size wr X→(cS10 (X) (w.heap.size) (r) (.slice A1 r.pairs.length c1) (.slice A2 r.types.length c2) (.slice A3 r.items.length c3))∧X.cell? ⟨w.heap.size + 1,0,none⟩=some (.slice (some ⟨b,off,none⟩) x.cartons.length ca)∧cC3 (X) (b) (off) (k) (c) (.slice U c.units.length cu) from fun X hX=>by
     have hX:=SN.out.next hX
     have c0:=hX.box (.tail _ (.head _))
     exact ⟨⟨c0 0,c0 1,c0 2,c0 3,c0 4,c0 5,c0 6,c0 7,c0 8,c0 9⟩,hX.box (.head _) 0,HC.out X hX.low⟩)
    go_region_held3 (fun W'=>((cS10 (W') (w.heap.size) (r) (.slice A1 r.pairs.length c1) (.slice A2 r.types.length c2) (.slice A3 r.items.length c3)))∧W'.cell? ⟨w.heap.size + 1,0,none⟩=some (.slice (some ⟨b,off,none⟩) x.cartons.length ca)∧cC3 (W') (b) (off) (k) (c) (.slice U c.units.length cu)) (first | (refine HCC.out _ ?_;(repeat' with_reducible first | assumption | exact bR | apply bD | apply bA | apply bC | apply bW | omega | simp <;> omega);done) | go_keep) (first | (go_at_call 167;(try (first | refine calls_new ?_ | refine calls_newd ?_);intro hg);refine (sTypeById_any _ r c.type _ (HR.out.next (SN.out.next (by (repeat' with_reducible first | assumption | exact bR | apply bD | apply bA | apply bC | apply bW | omega | simp <;> omega))).low)).mono ?_;rintro e w2 ⟨rfl,hb2⟩;rw [HQ.out];have hn2:=bstep (a:=wr) (by (repeat' with_reducible first | assumption | exact bR | apply bD | apply bA | apply bC | apply bW | omega | simp <;> omega)) hb2;have hz2:=hn2.size;have hj2:=hb2.size;(try simp only [World.size_alloc,World.size_drew] at hj2);have SE:=Lib.hid ((SN.out.drew.alloc #[.int .i64 0,.int .i64 0,.int .i64 0,.int .i64 0,.int .i64 0,.int .i64 0,.int .i64 0] 142));(first | (have SE:=Lib.hid (SE.out.next hb2)) | skip);have SN:=Lib.hid ((SN.out.next (by (repeat' with_reducible first | assumption | exact bR | apply bD | apply bA | apply bC | apply bW | omega | simp <;> omega))).next hb2);(try (have hg:=blk_next hg hb2;have hgc:=fun j=>cell_of_row _ _ j _ _ (0,0) hg;have hgf:=fun j=>frozen_of_row _ _ j _ _ hg;have hgl:=lt_of_block hg))))
    all_goals (go_wp2_with fail;go_meet)
    ·exact ⟨_,rfl,rfl,Lib.hid (SN.out.alloc _ _)⟩
    all_goals exact ⟨_,rfl,rfl,Lib.hid (SE.out.overL [.int .i64 q.1.id,.int .i64 q.1.w,.int .i64 q.1.h,.int .i64 q.1.d,.int .i64 q.1.tare,.int .i64 q.1.gram,.int .i64 q.1.cost] 0)⟩
   case rest =>
    obtain ⟨g6,rfl,rfl,SN2⟩:=hcut
    have SN:=SN2
    clear SN2
    obtain ⟨q1,q2⟩:=q
    have HCC:=Lib.hid (show ∀ X:World,Below wc.heap.size wc X→(cS10 (X) (w.heap.size) (r) (.slice A1 r.pairs.length c1) (.slice A2 r.types.length c2) (.slice A3 r.items.length c3))∧(cT7 (X) (g6) (q1))∧X.cell? ⟨w.heap.size + 1,0,none⟩=some (.slice (some ⟨b,off,none⟩) x.cartons.length ca)∧cC3 (X) (b) (off) (k) (c) (.slice U c.units.length cu) from fun X hX=>by
     have hX:=SN.out.next hX
     have c0:=hX.box (.tail _ (.tail _ (.head _)))
     have c6:=hX.box (.head _)
     exact ⟨⟨c0 0,c0 1,c0 2,c0 3,c0 4,c0 5,c0 6,c0 7,c0 8,c0 9⟩,⟨c6 0,c6 1,c6 2,c6 3,c6 4,c6 5,c6 6⟩,hX.box (.tail _ (.head _)) 0,HC.out X hX.low⟩)
    cases q2
    ·go_wp2
     refine regu (S:=(fun W'=>((cS10 (W') (w.heap.size) (r) (.slice A1 r.pairs.length c1) (.slice A2 r.types.length c2) (.slice A3 r.items.length c3)))∧(cT7 (W') (g6) (q1))∧W'.cell? ⟨w.heap.size + 1,0,none⟩=some (.slice (some ⟨b,off,none⟩) x.cartons.length ca)∧cC3 (W') (b) (off) (k) (c) (.slice U c.units.length cu))) (by kernel_rfl) (fun _ _ _ _ _=>id) ?_ fun hHeld=>?_
     ·(first | (refine HCC.out _ ?_;(repeat' with_reducible first | assumption | exact bR | apply bD | apply bA | apply bC | apply bW | omega | simp <;> omega);done) | go_keep)
     refine tku (b:=?_) [0,1,2] (by kernel_rfl) hHeld ?_ ?_
     rotate_left
     ·repeat first
      |exact .nil
      |refine .yes (v:=?_) rfl (by rfl) ?_ ?_
       rotate_left
       ·intro w9 hSw;(try dsimp only at hSw);go_simp;(try with_reducible rfl)
       (try simp only [aP,aZ,aS,aG,aH,aI])
     refine tku (b:=?_) [3,4,5,6,7,8,9,10] (by kernel_rfl) hHeld ?_ ?_
     rotate_left
     ·repeat first
      |exact .nil
      |refine .no rfl (by rfl) ?_
       (try simp only [aP,aZ,aS,aG,aH,aI])
     refine onu 11 rfl (by kernel_rfl) fun K hK=>?_
     go_simp
     (skip)
     refine hK.out _ _ ?_ (fun hHeld=>?_)
     ·(first | (refine HCC.out _ ?_;(repeat' with_reducible first | assumption | exact bR | apply bD | apply bA | apply bC | apply bW | omega | simp <;> omega);done) | go_keep)
     clear hK K
     (try simp only [aP,aZ,aS,aG,aH,aI])
     refine tku (b:=?_) [12] (by kernel_rfl) hHeld ?_ ?_
     rotate_left
     ·repeat first
      |exact .nil
      |refine .no rfl (by rfl) ?_
       (try simp only [aP,aZ,aS,aG,aH,aI])
     refine lsu 13 rfl (by kernel_rfl) fun K hK=>?_
     go_simp
     refine hK.out _ _ ?_
     clear hK K
     (try simp only [aP,aZ,aS,aG,aH,aI])
     go_wp2_with fail
     go_ret
     exact ⟨by rw [← HD.out,HST.out];rfl,(SN.out.next (by (repeat' with_reducible first | assumption | exact bR | apply bD | apply bA | apply bC | apply bW | omega | simp <;> omega))).low⟩
    ·go_wp2
     cases ff
     all_goals (
      refine regu (S:=(fun W'=>((cS10 (W') (w.heap.size) (r) (.slice A1 r.pairs.length c1) (.slice A2 r.types.length c2) (.slice A3 r.items.length c3)))∧(cT7 (W') (g6) (q1))∧W'.cell? ⟨w.heap.size + 1,0,none⟩=some (.slice (some ⟨b,off,none⟩) x.cartons.length ca)∧cC3 (W') (b) (off) (k) (c) (.slice U c.units.length cu))) (by kernel_rfl) (fun _ _ _ _ _=>id) ?_ fun hHeld=>?_
      ·(first | (refine HCC.out _ ?_;(repeat' with_reducible first | assumption | exact bR | apply bD | apply bA | apply bC | apply bW | omega | simp <;> omega);done) | go_keep)
      refine tku (b:=?_) [0,1,2,3,4,5,6,7,8,9,10] (by kernel_rfl) hHeld ?_ ?_
      rotate_left
      ·repeat first
       |exact .nil
       |refine .yes (v:=?_) rfl (by rfl) ?_ ?_
        rotate_left
        ·intro w9 hSw;(try dsimp only at hSw);go_simp;(try with_reducible rfl)
        (try simp only [aP,aZ,aS,aG,aH,aI])
      refine onu 11 rfl (by kernel_rfl) fun K hK=>?_
      go_simp
      ((go_at_call 254;refine (sHolds_any _ _ r c.units q1 _ (HR.out.next (SN.out.next (by (repeat' with_reducible first | assumption | exact bR | apply bD | apply bA | apply bC | apply bW | omega | simp <;> omega))).low) (HU.out.next (flat_mono _) (SN.out.next (by (repeat' with_reducible first | assumption | exact bR | apply bD | apply bA | apply bC | apply bW | omega | simp <;> omega))).low) HSS.out).mono ?_;rintro e w3 ⟨rfl,hb3⟩;rw [HF.out];have hn3:=bstep (a:=wc) (by (repeat' with_reducible first | assumption | exact bR | apply bD | apply bA | apply bC | apply bW | omega | simp <;> omega)) hb3))
      refine hK.out _ _ ?_ (fun hHeld=>?_)
      ·(first | (refine HCC.out _ ?_;(repeat' with_reducible first | assumption | exact bR | apply bD | apply bA | apply bC | apply bW | omega | simp <;> omega);done) | go_keep)
      clear hK K
      (try simp only [aP,aZ,aS,aG,aH,aI])
      refine tku (b:=?_) [12] (by kernel_rfl) hHeld ?_ ?_
      rotate_left
      ·repeat first
       |exact .nil
       |refine .yes (v:=?_) rfl (by rfl) ?_ ?_
        rotate_left
        ·intro w9 hSw;(try dsimp only at hSw);go_simp;(try with_reducible rfl)
        (try simp only [aP,aZ,aS,aG,aH,aI])
      refine lsu 13 rfl (by kernel_rfl) fun K hK=>?_
      go_simp
      refine hK.out _ _ ?_
      clear hK K
      (try simp only [aP,aZ,aS,aG,aH,aI])
      go_wp2_with fail
      first | (go_ret;exact ⟨by rw [← HD.out,HST.out];rfl,(SN.out.next (by (repeat' with_reducible first | assumption | exact bR | apply bD | apply bA | apply bC | apply bW | omega | simp <;> omega))).low⟩) | go_roundw
      all_goals first | (case rel=>exact ⟨k + 1,hlt,by go_num,Lib.hid (by rw [← HD.out,HST.out];simp),Lib.hid (SN.out.next (by (repeat' with_reducible first | assumption | exact bR | apply bD | apply bA | apply bC | apply bW | omega | simp <;> omega))).drop⟩) | (case measure=>simp [intOf] <;> omega)
      )
  ·have HE:=Lib.hid (show x.cartons.all (holdsC r)=true by rw [← HD.out];exact all_done (by omega))
   go_wp2
   go_ret
   exact ⟨by rw [HE.out];rfl,SN.out.low⟩
set_option maxRecDepth 100000 in
set_option maxHeartbeats 2000000 in
theorem l15Cheap_any (v vx:Value) (r:Request) (x:Plan) (w:World) (h:RReq 16777216 w w.heap.size v r) (hx:RPlan 16777216 w w.heap.size vx x) (hs:soundR r=true):Calls Tryz.prog 197 #[v,vx] w fun e w'=>e=.returned (.bool (x.cartons.all (cheapC r)))∧Below w.heap.size w w':=by
 have HR:=Lib.hid h
 have HSS:=Lib.hid hs
 obtain ⟨A1,c1,A2,c2,A3,c3,rfl,_⟩:=h.opn
 obtain ⟨PA,ca,PB,cb,rfl,HPA,HPB,hla,hlb⟩:=hx.opn
 have hS:=((Sit.here w).alloc (cR r A1 c1 A2 c2 A3 c3) 41).alloc #[.slice PA x.cartons.length ca,.slice PB x.spots.length cb] 46
 simp only [World.size_alloc] at hS
 have SN:=Lib.hid hS
 clear h hx hS hs
 go_enter Tryz.func197,Tryz.ntmps197
 go_wp2
 go_loopw [5] (fun i wr=>∃ (k:Nat),k≤x.cartons.length∧i=.int .i64 k∧Hid ((x.cartons.drop k).all (cheapC r)=x.cartons.all (cheapC r))∧Hid (Sit w wr [fBox (w.heap.size + 1) #[.slice PA x.cartons.length ca,.slice PB x.spots.length cb] 46,fBox w.heap.size (cR r A1 c1 A2 c2 A3 c3) 41])) (fun i _=>x.cartons.length - (intOf i).toNat)
 case atStart=>exact ⟨0,Nat.zero_le _,rfl,Lib.hid rfl,SN⟩
 case round =>
  clear SN
  obtain ⟨k,hk,rfl,HD,SN⟩:=hrel
  have k1:=SN.out.box (.head _)
  have l1:=SN.out.boxlt (.head _)
  by_cases hlt:k < x.cartons.length
  ·obtain ⟨b,off,c,U,cu,rfl,hb,hx,HU,HC⟩:=HPA.out.one k hlt
   obtain ⟨q,hq⟩:∃ q,cheapest r c.units=q:=⟨_,rfl⟩
   have HQ:=Lib.hid hq
   obtain ⟨ff,hff⟩:∃ ff,(q.1.id == c.type)=ff:=⟨_,rfl⟩
   have HST:=Lib.hid (all_step (p:=cheapC r) hx (show cheapC r c=(q.2 && ff) by unfold cheapC;rw [hq,hff]))
   have HF:=Lib.hid hff
   clear hx hq hff
   go_upto_region 4 with fail
   clear k1 l1
   go_cut [6,7] (fun v6 v7 X=>∃ g6,v6=.pointer (some ⟨g6,0,none⟩)∧v7=.bool q.2∧Hid (Sit w X [fBox g6 #[.int .i64 q.1.id,.int .i64 q.1.w,.int .i64 q.1.h,.int .i64 q.1.d,.int .i64 q.1.tare,.int .i64 q.1.gram,.int .i64 q.1.cost] 142,fBox (w.heap.size + 1) #[.slice (some ⟨b,off,none⟩) x.cartons.length ca,.slice PB x.spots.length cb] 46,fBox w.heap.size (cR r A1 c1 A2 c2 A3 c3) 41]))
   case first =>
    have HCC:=Lib.hid (show ∀ X:World,Below wr.heap.size wr X→(cS10 (X) (w.heap.size) (r) (.slice A1 r.pairs.length c1) (.slice A2 r.types.length c2) (.slice A3 r.items.length c3))∧X.cell? ⟨w.heap.size + 1,0,none⟩=some (.slice (some ⟨b,off,none⟩) x.cartons.length ca)∧cC3 (X) (b) (off) (k) (c) (.slice U c.units.length cu) from fun X hX=>by
     have hX:=SN.out.next hX
     have c0:=hX.box (.tail _ (.head _))
     exact ⟨⟨c0 0,c0 1,c0 2,c0 3,c0 4,c0 5,c0 6,c0 7,c0 8,c0 9⟩,hX.box (.head _) 0,HC.out X hX.low⟩)
    go_region_held3 (fun W'=>((cS10 (W') (w.heap.size) (r) (.slice A1 r.pairs.length c1) (.slice A2 r.types.length c2) (.slice A3 r.items.length c3)))∧W'.cell? ⟨w.heap.size + 1,0,none⟩=some (.slice (some ⟨b,off,none⟩) x.cartons.length ca)∧cC3 (W') (b) (off) (k) (c) (.slice U c.units.length cu)) (first | (refine HCC.out _ ?_;(repeat' with_reducible first | assumption | exact bR | apply bD | apply bA | apply bC | apply bW | omega | simp <;> omega);done) | go_keep) (first | (go_at_call 231;(try (first | refine calls_new ?_ | refine calls_newd ?_);intro hg);refine (sCheapest_any _ _ r c.units _ (HR.out.next (SN.out.next (by (repeat' with_reducible first | assumption | exact bR | apply bD | apply bA | apply bC | apply bW | omega | simp <;> omega))).low) (HU.out.next (flat_mono _) (SN.out.next (by (repeat' with_reducible first | assumption | exact bR | apply bD | apply bA | apply bC | apply bW | omega | simp <;> omega))).low) HSS.out).mono ?_;rintro e w2 ⟨rfl,hb2⟩;rw [HQ.out];have hn2:=bstep (a:=wr) (by (repeat' with_reducible first | assumption | exact bR | apply bD | apply bA | apply bC | apply bW | omega | simp <;> omega)) hb2;have hz2:=hn2.size;have hj2:=hb2.size;(try simp only [World.size_alloc,World.size_drew] at hj2);have SE:=Lib.hid ((SN.out.drew.alloc #[.int .i64 0,.int .i64 0,.int .i64 0,.int .i64 0,.int .i64 0,.int .i64 0,.int .i64 0] 142));(first | (have SE:=Lib.hid (SE.out.next hb2)) | skip);have SN:=Lib.hid ((SN.out.next (by (repeat' with_reducible first | assumption | exact bR | apply bD | apply bA | apply bC | apply bW | omega | simp <;> omega))).next hb2);(try (have hg:=blk_next hg hb2;have hgc:=fun j=>cell_of_row _ _ j _ _ (0,0) hg;have hgf:=fun j=>frozen_of_row _ _ j _ _ hg;have hgl:=lt_of_block hg))))
    all_goals (go_wp2_with fail;go_meet)
    ·exact ⟨_,rfl,rfl,Lib.hid (SN.out.alloc _ _)⟩
    all_goals exact ⟨_,rfl,rfl,Lib.hid (SE.out.overL [.int .i64 q.1.id,.int .i64 q.1.w,.int .i64 q.1.h,.int .i64 q.1.d,.int .i64 q.1.tare,.int .i64 q.1.gram,.int .i64 q.1.cost] 0)⟩
   case rest =>
    obtain ⟨g6,rfl,rfl,SN2⟩:=hcut
    have SN:=SN2
    clear SN2
    obtain ⟨q1,q2⟩:=q
    have hf0:(q1.id == c.type)=ff:=HF.out
    have hf2:(q1.id != c.type) = !ff:=by rw [← hf0];rfl
    have k6:=SN.out.box (.head _)
    have k60:=k6 0
    simp at k60
    have hcs:=HC.out wc SN.out.low
    have k10:wc.cell? ⟨w.heap.size + 1,0,none⟩=some (.slice (some ⟨b,off,none⟩) x.cartons.length ca):=SN.out.box (.tail _ (.head _)) 0
    clear k6 hf0
    cases q2
    ·go_wp2
     refine regu (S:=(fun W'=>W'.cell? ⟨g6,0,none⟩=some (.int .i64 q1.id)∧W'.cell? ⟨w.heap.size + 1,0,none⟩=some (.slice (some ⟨b,off,none⟩) x.cartons.length ca)∧cC3 (W') (b) (off) (k) (c) (.slice U c.units.length cu))) (by kernel_rfl) (fun _ _ _ _ _=>id) ?_ fun hHeld=>?_
     ·(first | exact ⟨k60,k10,hcs⟩ | go_keep)
     refine tku (b:=?_) [0,1,2] (by kernel_rfl) hHeld ?_ ?_
     rotate_left
     ·repeat first
      |exact .nil
      |refine .yes (v:=?_) rfl (by rfl) ?_ ?_
       rotate_left
       ·intro w9 hSw;(try dsimp only at hSw);go_simp;(try with_reducible rfl)
       (try simp only [aP,aZ,aS,aG,aH,aI])
     refine tku (b:=?_) [3,4,5,6,7,8,9,10,11] (by kernel_rfl) hHeld ?_ ?_
     rotate_left
     ·repeat first
      |exact .nil
      |refine .no rfl (by rfl) ?_
       (try simp only [aP,aZ,aS,aG,aH,aI])
     refine lsu 12 rfl (by kernel_rfl) fun K hK=>?_
     go_simp
     refine hK.out _ _ ?_
     clear hK K
     (try simp only [aP,aZ,aS,aG,aH,aI])
     go_wp2_with fail
     go_ret
     exact ⟨by rw [← HD.out,HST.out];rfl,(SN.out.next (by (repeat' with_reducible first | assumption | exact bR | apply bD | apply bA | apply bC | apply bW | omega | simp <;> omega))).low⟩
    ·go_wp2
     cases ff
     all_goals (
      refine regu (S:=(fun W'=>W'.cell? ⟨g6,0,none⟩=some (.int .i64 q1.id)∧W'.cell? ⟨w.heap.size + 1,0,none⟩=some (.slice (some ⟨b,off,none⟩) x.cartons.length ca)∧cC3 (W') (b) (off) (k) (c) (.slice U c.units.length cu))) (by kernel_rfl) (fun _ _ _ _ _=>id) ?_ fun hHeld=>?_
      ·(first | exact ⟨k60,k10,hcs⟩ | go_keep)
      refine tku (b:=?_) [0,1,2,3,4,5,6,7,8,9,10,11] (by kernel_rfl) hHeld ?_ ?_
      rotate_left
      ·repeat first
       |exact .nil
       |refine .yes (v:=?_) rfl (by rfl) ?_ ?_
        rotate_left
        ·intro w9 hSw;(try dsimp only at hSw);go_simp;(try with_reducible rfl)
        (try simp only [aP,aZ,aS,aG,aH,aI])
      refine lsu 12 rfl (by kernel_rfl) fun K hK=>?_
      go_simp
      refine hK.out _ _ ?_
      clear hK K
      (try simp only [aP,aZ,aS,aG,aH,aI])
      go_wp2_with fail
      first | (go_ret;exact ⟨by rw [← HD.out,HST.out];rfl,(SN.out.next (by (repeat' with_reducible first | assumption | exact bR | apply bD | apply bA | apply bC | apply bW | omega | simp <;> omega))).low⟩) | go_roundw
      all_goals first | (case rel=>exact ⟨k + 1,hlt,by go_num,Lib.hid (by rw [← HD.out,HST.out];simp),Lib.hid (SN.out.next (by (repeat' with_reducible first | assumption | exact bR | apply bD | apply bA | apply bC | apply bW | omega | simp <;> omega))).drop⟩) | (case measure=>simp [intOf] <;> omega)
      )
  ·have HE:=Lib.hid (show x.cartons.all (cheapC r)=true by rw [← HD.out];exact all_done (by omega))
   go_wp2
   go_ret
   exact ⟨by rw [HE.out];rfl,SN.out.low⟩
end Go.Proofs.YtioijfplbgpjpaaGreat
