/-
  A plan of the walk's own, its spots laid open.
-/
import Derived.Test.YtioijfplbgpjpaaGreatKu35
import Derived.Test.YtioijfplbgpjpaaGreatKu23
import Derived.Test.YtioijfplbgpjpaaGreatKu33
import Derived.Test.YtioijfplbgpjpaaGreatKu02
import Derived.Test.YtioijfplbgpjpaaGreatKu43
import Derived.Deep.RegionHeld3
import Derived.Deep.DeepCutAuto
import Derived.Deep.RegionLaw
import Derived.Deep.RegionWith
import Derived.StillTailTactics
import Derived.Test.YtioijfplbgpjpaaGreatKu20
import Derived.Deep.CutBlock
namespace Go.Proofs.YtioijfplbgpjpaaGreat
set_option linter.unusedVariables false
set_option linter.unusedSimpArgs false
set_option maxRecDepth 100000
open Go.RowKit Go.WideShapes Go.ChangeShapes Go.ChangeAt
abbrev fOC (base:Nat) (v:Value) (xs:List Carton) (fp:List Nat):Fact:=⟨fun W=>OCartons W base v xs fp,fp⟩
theorem fOC_ok (base:Nat) (v:Value) (xs:List Carton) (fp:List Nat):(fOC base v xs fp).ok:=fun _ _ h _ hk=>OL.keepF h ECarton_fr hk
section
variable {w W:World} {l:List Fact} {B:Nat} {v:Value} {x:Plan} {fp:List Nat}
theorem Sit.upE {q q1 q2 q3 q4:Fact} (h:Sit w W (q1::q2::q3::q4::q::l)):Sit w W (q::q1::q2::q3::q4::l):=h.perm (List.perm_middle (l₁:=[q1,q2,q3,q4]))
theorem Sit.downE {q q1 q2 q3 q4:Fact} (h:Sit w W (q::q1::q2::q3::q4::l)):Sit w W (q1::q2::q3::q4::q::l):=h.perm (List.perm_middle (l₁:=[q1,q2,q3,q4])).symm
theorem Sit.planOpen (h:Sit w W (fOP B v x fp::l)):∃ A1 c1 A2 c2 f1 f2,v=.agg #[.slice A1 x.cartons.length c1,.slice A2 x.spots.length c2]∧Sit w W (fOF Spot.cells 72 4 B (.slice A2 x.spots.length c2) x.spots f2::fOC B (.slice A1 x.cartons.length c1) x.cartons f1::l):=by
 obtain ⟨v1,v2,f1,f2,rfl,h1,h2,rfl,hn⟩:=h.on _ (.head _)
 obtain ⟨h3,rfl⟩:=own_of_OL h2 (fun _=>rfl)
 obtain ⟨A1,c1,rfl⟩:=OL.form h1
 obtain ⟨A2,c2,rfl,_⟩:=own_form2 h3
 have hd:=(List.nodup_append.1 hn).2.2
 refine ⟨A1,c1,A2,c2,f1,_,rfl,Sit.step (l1:=[_]) (fp:=[]) h (Tch.refl _ _) (by simp) [fOF Spot.cells 72 4 B (.slice A2 x.spots.length c2) x.spots (Value.slice A2 x.spots.length c2).ownBlock.toList,fOC B (.slice A1 x.cartons.length c1) x.cartons f1] ?_ ?_ ?_ ?_⟩
 ·intro p hp b hb
  simp only [List.mem_cons,List.not_mem_nil,or_false] at hp
  rcases hp with rfl | rfl
  ·exact .inl ⟨_,.head _,List.mem_append.2 (.inr hb)⟩
  ·exact .inl ⟨_,.head _,List.mem_append.2 (.inl hb)⟩
 ·intro p hp
  simp only [List.mem_cons,List.not_mem_nil,or_false] at hp
  rcases hp with rfl | rfl
  ·exact fOF_ok _ _ _ _ _ _ _
  ·exact fOC_ok _ _ _ _
 ·intro p hp
  simp only [List.mem_cons,List.not_mem_nil,or_false] at hp
  rcases hp with rfl | rfl
  ·exact OF.mk h3
  ·exact h1
 ·refine List.pairwise_cons.2 ⟨fun q hq b hb1 hb2=>?_,List.pairwise_singleton _ _⟩
  simp only [List.mem_cons,List.not_mem_nil,or_false] at hq
  subst hq
  exact hd b hb2 b hb1 rfl
theorem Sit.planShut {v1 v2:Value} {C:List Carton} {S:List Spot} {f1 f2:List Nat} (h:Sit w W (fOF Spot.cells 72 4 B v2 S f2::fOC B v1 C f1::l)):∃ fp,OPlan W B (.agg #[v1,v2]) ⟨C,S⟩ fp:=by
 obtain ⟨h2,rfl⟩:=h.on _ (.head _)
 have h1:OCartons W B v1 C f1:=h.on _ (.tail _ (.head _))
 have hap:=(List.pairwise_cons.1 h.apart).1 _ (.head _)
 refine ⟨f1 ++ v2.ownBlock.toList,v1,v2,f1,_,rfl,h1,OL_of_own h2 (fun _=>rfl),rfl,List.nodup_append.2 ⟨OL.nodup h1,by cases v2.ownBlock <;> simp,fun a ha b hb e=>?_⟩⟩
 subst e
 exact hap _ hb ha
end
end Go.Proofs.YtioijfplbgpjpaaGreat
namespace Go.Proofs.YtioijfplbgpjpaaGreat
set_option linter.unusedVariables false
set_option linter.unusedSimpArgs false
set_option maxRecDepth 100000
open Go.RowKit Go.WideShapes Go.ChangeShapes Go.ChangeAt Go.Deep
def hitTo (r:Request) (x:Plan) (S:List Spot) (i:Nat) (s:Spot) (j:Nat):Bool:=(List.range j).any fun k=>!decide (k=i) && overB (boxAt r x i) s (boxAt r x k) (S.getD k default)
theorem hit_step {r:Request} {x:Plan} {S:List Spot} {i:Nat} {s:Spot} {j:Nat} : hitTo r x S i s (j + 1)=(hitTo r x S i s j || (!decide (j=i) && overB (boxAt r x i) s (boxAt r x j) (S.getD j default))):=by
 unfold hitTo
 rw [List.range_succ,List.any_append]
 simp
theorem hit_free {r:Request} {x:Plan} {S:List Spot} {i:Nat} {s:Spot} : freeAt r x S i s = !hitTo r x S i s x.cartons.length:=by
 unfold hitTo freeAt
 rw [List.not_any_eq_all_not]
 congr 1
 funext k
 cases decide (k=i) <;> simp
theorem fall_stuck {f:Spot→Bool} {s:Spot} {n:Nat} (h:f s.down=false):fall f n s=s:=by
 cases n with
 |zero=>rfl
 |succ n=>unfold fall;rw [h];simp
theorem fall_down {f:Spot→Bool} {s:Spot} {n:Nat} (h:f s.down=true) (hz:0 < s.z):fall f (n + 1) s=fall f n s.down:=by
 rw [fall,h,decide_eq_true hz]
 rfl
theorem set_same {α:Type} {S:List α} {i:Nat} {s:α} (h:S[i]? = some s):S.set i s=S:=by
 refine List.ext_getElem? fun j=>?_
 by_cases e:i=j
 ·subst e;rw [List.getElem?_set_self (List.getElem?_eq_some_iff.1 h).1,h]
 ·rw [List.getElem?_set_ne e]
set_option maxRecDepth 100000 in
set_option maxHeartbeats 20000000 in
theorem iDropped_any (v vx:Value) (r:Request) (x:Plan) (w:World) (h:RReq 16777216 w w.heap.size v r) (hx:RPlan 16777216 w w.heap.size vx x) (hL:x.bulk≤16777216):Calls Tryz.prog 52 #[v,vx] w fun e w'=>∃ u fp,e=.returned u∧OPlan w' w.heap.size u (droppedR r x) fp∧Below w.heap.size w w':=by
 have HR:=Lib.hid h
 have HX:=Lib.hid hx
 obtain ⟨A1,c1,A2,c2,A3,c3,rfl,_⟩:=h.opn
 obtain ⟨PA,ca,PB,cb,rfl,HPA,HPB,hla,hlb⟩:=hx.opn
 have hS:=(((Sit.here w).alloc (cR r A1 c1 A2 c2 A3 c3) 41).alloc #[.slice PA x.cartons.length ca,.slice PB x.spots.length cb] 46).alloc #[.slice none 0 0,.slice none 0 0] 46
 simp only [World.size_alloc] at hS
 have SN:=Lib.hid hS
 obtain ⟨q,hq⟩:∃ q,feasible r x=q:=⟨_,rfl⟩
 have HQ:=Lib.hid hq
 have HM:=Lib.hid (show droppedR r x=if q=true then ⟨x.cartons,dropSpots r x x.cartons.length⟩ else x by unfold droppedR;rw [hq])
 clear h hx hS hq
 go_enter Tryz.func52,Tryz.ntmps52
 have k1:=SN.out.box (.tail _ (.head _))
 have l1:=SN.out.boxlt (.tail _ (.head _))
 go_wp2_with fail
 refine (clonePlan_any _ x _ (HX.out.next SN.out.low)).mono ?_
 rintro e w1 ⟨u,fp,rfl,ho,hb⟩
 have hS:=SN.out.gotPlan ho hb
 obtain ⟨B0,hB0⟩:∃ B,B=(((w.alloc (.cells (cR r A1 c1 A2 c2 A3 c3) 41)).alloc (.cells #[.slice PA x.cartons.length ca,.slice PB x.spots.length cb] 46)).alloc (.cells #[.slice none 0 0,.slice none 0 0] 46)).heap.size:=⟨_,rfl⟩
 rw [← hB0] at hS
 have hBw:w.heap.size≤B0:=by rw [hB0];simp;omega
 obtain ⟨D1,d1,D2,d2,f1,f2,rfl,hS2⟩:=hS.planOpen
 have SN:=Lib.hid (hS2.alloc #[.slice D1 x.cartons.length d1,.slice D2 x.spots.length d2] 46)
 obtain ⟨b5,hb5⟩:∃ b,w1.heap.size=b:=⟨_,rfl⟩
 rw [hb5] at SN
 clear hS hS2 ho hb k1 l1 hB0
 go_upto_region 2 with fail
 (try rw [hb5])
 generalize w1.alloc (.cells #[.slice D1 x.cartons.length d1,.slice D2 x.spots.length d2] 46)=W2 at SN ⊢
 clear hb5
 have k1:=SN.out.box (g:=w.heap.size + 1) (cs:=#[.slice PA x.cartons.length ca,.slice PB x.spots.length cb]) (t:=46) mq
 have l1:=SN.out.boxlt (g:=w.heap.size + 1) (cs:=#[.slice PA x.cartons.length ca,.slice PB x.spots.length cb]) (t:=46) mq
 have k0:=SN.out.box (g:=w.heap.size) (cs:=(cR r A1 c1 A2 c2 A3 c3)) (t:=41) mq
 have l0:=SN.out.boxlt (g:=w.heap.size) (cs:=(cR r A1 c1 A2 c2 A3 c3)) (t:=41) mq
 go_wp2_with fail
 refine (iFeasible_any _ _ r x _ (HR.out.next SN.out.low) (HX.out.next SN.out.low) hL).mono ?_
 rintro e2 w2 ⟨rfl,hb2⟩
 rw [HQ.out]
 have SN:=Lib.hid (SN.out.next hb2)
 clear k0 l0 k1 l1 hb2
 cases q
 ·have k5:=SN.out.box (.head _)
  have kr:=SN.out.box (g:=w.heap.size + 2) (cs:=#[.slice none 0 0,.slice none 0 0]) (t:=46) mq
  have fr:=SN.out.free (g:=w.heap.size + 2) (cs:=#[.slice none 0 0,.slice none 0 0]) (t:=46) mq
  go_wp2
  refine bodyPost_ret (v:=.agg #[.slice D1 x.cartons.length d1,.slice D2 x.spots.length d2]) (by simp [results,Tryz.results52,go_sem,kr,fr]) rfl ?_
  rw [HM.out]
  have SF:=(SN.out.rot4).overL [.slice D1 x.cartons.length d1,.slice D2 x.spots.length d2] 0
  obtain ⟨fp,hp⟩:=SF.drop.drop.planShut
  exact ⟨_,fp,rfl,hp.base hBw,SF.low⟩
 obtain ⟨hfl,h100⟩:=feas_len HQ.out
 have hfl':=hfl
 obtain ⟨n,hn⟩:∃ n,x.cartons.length=n:=⟨_,rfl⟩
 have HFL:=Lib.hid hfl
 have SN:=Lib.hid ((SN.out.alloc #[] 75).boxNil Box.cells 4)
 clear hfl hfl'
 clear hn n
 have k1:=SN.out.box (g:=w.heap.size + 1) (cs:=#[.slice PA x.cartons.length ca,.slice PB x.spots.length cb]) (t:=46) mq
 have l1:=SN.out.boxlt (g:=w.heap.size + 1) (cs:=#[.slice PA x.cartons.length ca,.slice PB x.spots.length cb]) (t:=46) mq
 go_wp2
 clear k1 l1
 go_loopw [6,26] (fun vv i wr=>∃ (k:Nat) (fb:List Nat),k≤x.cartons.length∧i=.int .i64 k∧Hid (Sit w wr [fOF Box.cells 75 4 w.heap.size vv ((x.cartons.take k).map (boxR r)) fb,fBox b5 #[.slice D1 x.cartons.length d1,.slice D2 x.spots.length d2] 46,fOF Spot.cells 72 4 B0 (.slice D2 x.spots.length d2) x.spots f2,fOC B0 (.slice D1 x.cartons.length d1) x.cartons f1,fBox (w.heap.size + 2) #[.slice none 0 0,.slice none 0 0] 46,fBox (w.heap.size + 1) #[.slice PA x.cartons.length ca,.slice PB x.spots.length cb] 46,fBox w.heap.size (cR r A1 c1 A2 c2 A3 c3) 41])) (fun _ i _=>x.cartons.length - (intOf i).toNat)
 case atStart=>exact ⟨0,_,Nat.zero_le _,rfl,SN⟩
 case round =>
  clear SN
  obtain ⟨k,fb,hk,rfl,SN⟩:=hrel
  by_cases hlt:k < x.cartons.length
  ·obtain ⟨b,off,c,U,cu,rfl,hb,hx,HU,HC⟩:=HPA.out.one k hlt
   obtain ⟨hc0,hc1,hc2⟩:=HC.out wr SN.out.low
   obtain ⟨bx,hbx⟩:∃ bx,boxR r c=bx:=⟨_,rfl⟩
   have HBX:=Lib.hid hbx
   have HTK:=Lib.hid (show (x.cartons.take (k + 1)).map (boxR r)=(x.cartons.take k).map (boxR r) ++ [bx] by rw [List.take_add_one,hx,List.map_append,← hbx];rfl)
   have hln:((x.cartons.take k).map (boxR r)).length≤100:=by rw [List.length_map,List.length_take];omega
   obtain ⟨BK,hBK⟩:∃ BK,(x.cartons.take k).map (boxR r)=BK:=⟨_,rfl⟩
   rw [hBK] at SN HTK hln
   have k0:=SN.out.box (g:=w.heap.size) (cs:=(cR r A1 c1 A2 c2 A3 c3)) (t:=41) mq
   have l0:=SN.out.boxlt (g:=w.heap.size) (cs:=(cR r A1 c1 A2 c2 A3 c3)) (t:=41) mq
   have SM:=Lib.hid (SN.out.alloc #[.int .i64 c.type,.int .i64 c.group,.slice U c.units.length cu] 78)
   clear hx hbx hBK
   go_wp2_with fail
   refine (iBoxOf_any _ _ r c _ (HR.out.next SM.out.low) (HU.out.next (flat_mono _) SM.out.low)).mono ?_
   rintro e1 w1 ⟨rfl,hb1⟩
   rw [HBX.out]
   have SN:=Lib.hid ((SM.out.next hb1).drop)
   clear k0 l0 hb1 hc0 hc1 hc2 SM
   go_wp2_with (at_builtin;refine papp_Box _ _ rfl rfl bx rfl rfl (heap_alloc_new _ _) rfl ((SN.out.list (.head _)).next (by repeat' with_reducible first | assumption | exact bR | apply bD | apply bA | apply bC | apply bN | simp <;> omega)) (by first | omega | (simp;omega)) (by have:=SN.out.low.size;first | omega | (simp;done) | (simp;omega) | (simp at this ⊢;omega)) ?_;intro v7 w7 ha;obtain ⟨g7,S7⟩:=(SN.out.next (by repeat' with_reducible first | assumption | exact bR | apply bD | apply bA | apply bC | apply bN | simp <;> omega)).app ha;have S8:=Lib.hid S7;clear S7 ha)
   go_roundw
   case rel=>exact ⟨k + 1,_,hlt,by go_num,by rw [HTK.out];exact S8⟩
   case measure=>simp [intOf] <;> omega
  ·obtain rfl:k=x.cartons.length:=by omega
   rw [List.take_length] at SN
   obtain ⟨BS,hBS⟩:∃ BS,x.cartons.map (boxR r)=BS:=⟨_,rfl⟩
   have HBS:=Lib.hid hBS
   have hbl:BS.length=x.cartons.length:=by rw [← hBS,List.length_map]
   rw [hBS] at SN
   obtain ⟨D,d,rfl,_⟩:=(SN.out.list (.head _)).form
   rw [hbl] at SN ⊢
   clear hBS hbl
   go_wp2
   go_loopw [39] (fun i wr=>∃ (k:Nat),k≤x.cartons.length∧i=.int .i64 k∧Hid (Sit w wr [fOF Box.cells 75 4 w.heap.size (.slice D x.cartons.length d) BS fb,fBox b5 #[.slice D1 x.cartons.length d1,.slice D2 x.spots.length d2] 46,fOF Spot.cells 72 4 B0 (.slice D2 x.spots.length d2) (dropSpots r x k) f2,fOC B0 (.slice D1 x.cartons.length d1) x.cartons f1,fBox (w.heap.size + 2) #[.slice none 0 0,.slice none 0 0] 46,fBox (w.heap.size + 1) #[.slice PA x.cartons.length ca,.slice PB x.spots.length cb] 46,fBox w.heap.size (cR r A1 c1 A2 c2 A3 c3) 41])) (fun i _=>x.cartons.length - (intOf i).toNat)
   case atStart=>exact ⟨0,Nat.zero_le _,rfl,SN⟩
   case round =>
    clear SN
    obtain ⟨i,hi,rfl,SN⟩:=hrel
    by_cases hlt:i < x.cartons.length
    ·obtain ⟨c,hc⟩:∃ c,x.cartons[i]? = some c:=⟨_,List.getElem?_eq_getElem hlt⟩
     obtain ⟨bx,hbx⟩:∃ bx,boxR r c=bx:=⟨_,rfl⟩
     have hbk:BS[i]? = some bx:=by rw [← HBS.out,List.getElem?_map,hc,← hbx];rfl
     have hlt2:i < x.spots.length:=by rw [HFL.out];exact hlt
     obtain ⟨S0,hS0⟩:∃ S,dropSpots r x i=S:=⟨_,rfl⟩
     have hsl:S0.length=x.spots.length:=by rw [← hS0];exact drop_len r x i
     obtain ⟨s0,hs0⟩:∃ s,S0[i]? = some s:=⟨_,List.getElem?_eq_getElem (by rw [hsl];exact hlt2)⟩
     have hu0:S0.getD i default=s0:=by rw [List.getD_eq_getElem?_getD,hs0];rfl
     have hz0:0≤s0.z∧s0.z≤2000:=by
      obtain ⟨_,_,_,_,_,a6,_⟩:=within_facts (feas_inside HQ.out hlt)
      have hu:=drop_under r x i (by omega) i
      rw [hS0,hu0] at hu
      rw [spotAt_nat] at a6
      have h4:=hu.2.2.2.1
      have h5:=hu.2.2.2.2
      exact ⟨h5 a6.1,by omega⟩
     obtain ⟨FR,hFR⟩:∃ FR,freeAt r x S0 i=FR:=⟨_,rfl⟩
     obtain ⟨FIN,hFIN⟩:∃ F,fall FR s0.z.toNat s0=F:=⟨_,rfl⟩
     have HDS:=Lib.hid (show dropSpots r x (i + 1)=S0.set i FIN by rw [drop_succ,hS0];unfold dropOne;rw [hu0,hFR,hFIN])
     have HFR:=Lib.hid hFR
     have HBXI:=Lib.hid (show boxAt r x (i:Int)=bx by rw [boxAt_nat hc,hbx])
     have HSL:=Lib.hid hsl
     have HFIN:=Lib.hid hFIN
     rw [hS0] at SN
     obtain ⟨gb,rfl⟩:=head_ptr (SN.out.list (.head _)) hbk
     obtain ⟨ge,rfl⟩:=head_ptr (SN.out.list (.tail _ (.tail _ (.head _)))) hs0
     have hq1:=(SN.out.list (.head _)).cells (fun _=>rfl) hbk
     have hbc:=And.intro (hq1 0 (.int .i64 bx.w) rfl) (And.intro (hq1 1 (.int .i64 bx.d) rfl) (And.intro (hq1 2 (.int .i64 bx.h) rfl) (hq1 3 (.int .i64 bx.gram) rfl)))
     rw [Nat.add_zero] at hbc
     have HS0:=Lib.hid hs0
     obtain ⟨b10,hb10⟩:∃ b,wr.heap.size=b:=⟨_,rfl⟩
     have SM:=Lib.hid (SN.out.alloc #[.int .i64 bx.w,.int .i64 bx.d,.int .i64 bx.h,.int .i64 bx.gram] 75)
     rw [hb10] at SM
     clear hc hbx hbk hS0 hsl hs0 hu0 hFR hFIN hq1 SN
     go_wp2
     (try rw [hb10])
     generalize wr.alloc (.cells #[.int .i64 bx.w,.int .i64 bx.d,.int .i64 bx.h,.int .i64 bx.gram] 75)=W3 at SM ⊢
     clear hb10 hbc
     go_loopw [] (fun wr=>∃ s:Spot,Hid (fall FR s.z.toNat s=FIN)∧(0≤s.z∧s.z≤2000)∧Hid (Sit w wr [fBox b10 #[.int .i64 bx.w,.int .i64 bx.d,.int .i64 bx.h,.int .i64 bx.gram] 75,fOF Box.cells 75 4 w.heap.size (.slice (some ⟨gb,0,none⟩) x.cartons.length d) BS fb,fBox b5 #[.slice D1 x.cartons.length d1,.slice (some ⟨ge,0,none⟩) x.spots.length d2] 46,fOF Spot.cells 72 4 B0 (.slice (some ⟨ge,0,none⟩) x.spots.length d2) (S0.set i s) f2,fOC B0 (.slice D1 x.cartons.length d1) x.cartons f1,fBox (w.heap.size + 2) #[.slice none 0 0,.slice none 0 0] 46,fBox (w.heap.size + 1) #[.slice PA x.cartons.length ca,.slice PB x.spots.length cb] 46,fBox w.heap.size (cR r A1 c1 A2 c2 A3 c3) 41])) (fun wr=>(intOf ((wr.cell? ⟨ge,i * 4 + 3,none⟩).getD (.int .i64 0))).toNat)
     case atStart=>exact ⟨s0,HFIN,hz0,by rw [set_same HS0.out];exact SM⟩
     case round =>
      clear SM
      obtain ⟨s,HF,hz,SN⟩:=hrel
      obtain ⟨wr2,rfl⟩:∃ y,y=wr:=⟨_,rfl⟩
      have hset:(S0.set i s)[i]? = some s:=by rw [List.getElem?_set_self (by rw [HSL.out];exact hlt2)]
      have HSET:=Lib.hid hset
      have hq2:=(SN.out.list (.tail _ (.tail _ (.tail _ (.head _))))).cells (fun _=>rfl) hset
      have hsc:=And.intro (hq2 0 (.int .i64 s.pallet) rfl) (And.intro (hq2 1 (.int .i64 s.x) rfl) (And.intro (hq2 2 (.int .i64 s.y) rfl) (hq2 3 (.int .i64 s.z) rfl)))
      rw [Nat.add_zero] at hsc
      have hz3:=hsc.2.2.2
      have HZ3:=Lib.hid hz3
      have k5:=SN.out.box (.tail _ (.tail _ (.head _)))
      clear hset hq2
      by_cases hpos:0 < s.z
      ·have hwz:IntKind.i64.wrap (s.z - 1)=s.z - 1:=by rw [wrapE];unfold wrap64;omega
       have hwz2:wrap64 (s.z - 1)=s.z - 1:=by unfold wrap64;omega
       have SM:=Lib.hid (SN.out.alloc #[.int .i64 s.pallet,.int .i64 s.x,.int .i64 s.y,.int .i64 (s.z - 1)] 72)
       go_wp2
       obtain ⟨b11,hb11⟩:∃ b,wr2.heap.size=b:=⟨_,rfl⟩
       rw [hb11] at SM
       (try rw [hb11])
       generalize wr2.alloc (.cells #[.int .i64 s.pallet,.int .i64 s.x,.int .i64 s.y,.int .i64 (s.z - 1)] 72)=W4 at SM ⊢
       clear hb11 k5 hsc hz3
       go_loopw [12,62] (fun hh j wr=>∃ (j':Nat) (hit:Bool),j'≤x.cartons.length∧j=.int .i64 j'∧hh=.bool hit∧Hid (hitTo r x S0 i s.down j'=hit)∧Hid (Sit w wr [fBox b11 #[.int .i64 s.pallet,.int .i64 s.x,.int .i64 s.y,.int .i64 (s.z - 1)] 72,fBox b10 #[.int .i64 bx.w,.int .i64 bx.d,.int .i64 bx.h,.int .i64 bx.gram] 75,fOF Box.cells 75 4 w.heap.size (.slice (some ⟨gb,0,none⟩) x.cartons.length d) BS fb,fBox b5 #[.slice D1 x.cartons.length d1,.slice (some ⟨ge,0,none⟩) x.spots.length d2] 46,fOF Spot.cells 72 4 B0 (.slice (some ⟨ge,0,none⟩) x.spots.length d2) (S0.set i s) f2,fOC B0 (.slice D1 x.cartons.length d1) x.cartons f1,fBox (w.heap.size + 2) #[.slice none 0 0,.slice none 0 0] 46,fBox (w.heap.size + 1) #[.slice PA x.cartons.length ca,.slice PB x.spots.length cb] 46,fBox w.heap.size (cR r A1 c1 A2 c2 A3 c3) 41])) (fun _ j _=>x.cartons.length - (intOf j).toNat)
       case atStart=>exact ⟨0,false,Nat.zero_le _,rfl,rfl,Lib.hid rfl,SM⟩
       case round =>
        clear SM
        obtain ⟨j,hit,hj,rfl,rfl,HH,SN⟩:=hrel
        obtain ⟨wr3,rfl⟩:∃ y,y=wr:=⟨_,rfl⟩
        by_cases hltj:j < x.cartons.length
        ·obtain ⟨c',hc'⟩:∃ c,x.cartons[j]? = some c:=⟨_,List.getElem?_eq_getElem hltj⟩
         obtain ⟨by_,hby⟩:∃ bx,boxR r c'=bx:=⟨_,rfl⟩
         have hbk':BS[j]? = some by_:=by rw [← HBS.out,List.getElem?_map,hc',← hby];rfl
         have hltj2:j < x.spots.length:=by rw [HFL.out];exact hltj
         obtain ⟨t,ht⟩:∃ t,(S0.set i s)[j]? = some t:=⟨_,List.getElem?_eq_getElem (by rw [List.length_set,HSL.out];exact hltj2)⟩
         have HBYI:=Lib.hid (show boxAt r x (j:Int)=by_ by rw [boxAt_nat hc',hby])
         have hq1:=(SN.out.list (.tail _ (.tail _ (.head _)))).cells (fun _=>rfl) hbk'
         have hbc:=And.intro (hq1 0 (.int .i64 by_.w) rfl) (And.intro (hq1 1 (.int .i64 by_.d) rfl) (And.intro (hq1 2 (.int .i64 by_.h) rfl) (hq1 3 (.int .i64 by_.gram) rfl)))
         rw [Nat.add_zero] at hbc
         have SM:=Lib.hid (SN.out.alloc #[.int .i64 by_.w,.int .i64 by_.d,.int .i64 by_.h,.int .i64 by_.gram] 75)
         obtain ⟨b14,hb14⟩:∃ b,wr3.heap.size=b:=⟨_,rfl⟩
         rw [hb14] at SM
         have HT:=Lib.hid ht
         clear hc' hby hbk' hq1 ht SN
         go_upto_region 20 with fail
         (try rw [hb14])
         generalize wr3.alloc (.cells #[.int .i64 by_.w,.int .i64 by_.d,.int .i64 by_.h,.int .i64 by_.gram] 75)=W5 at SM ⊢
         clear hb14 hbc
         have hq3:=(SM.out.list (.tail _ (.tail _ (.tail _ (.tail _ (.tail _ (.head _))))))).cells (fun _=>rfl) HT.out
         have hsc:=And.intro (hq3 0 (.int .i64 t.pallet) rfl) (And.intro (hq3 1 (.int .i64 t.x) rfl) (And.intro (hq3 2 (.int .i64 t.y) rfl) (hq3 3 (.int .i64 t.z) rfl)))
         rw [Nat.add_zero] at hsc
         have k14:=SM.out.box (.head _)
         have k11:=SM.out.box (.tail _ (.head _))
         have k10:=SM.out.box (.tail _ (.tail _ (.head _)))
         have k5:=SM.out.box (.tail _ (.tail _ (.tail _ (.tail _ (.head _))))) 1
         rw [show (#[.slice D1 x.cartons.length d1,.slice (some ⟨ge,0,none⟩) x.spots.length d2]:Array Value)[1]? = some (.slice (some ⟨ge,0,none⟩) x.spots.length d2) from rfl] at k5
         clear hq3
         have HST:=Lib.hid (hit_step (r:=r) (x:=x) (S:=S0) (i:=i) (s:=s.down) (j:=j))
         rw [HH.out] at HST
         cases hit
         ·by_cases hji:j=i
          ·have HST:=Lib.hid (show hitTo r x S0 i s.down (j + 1)=false by rw [HST.out,decide_eq_true hji];rfl)
           have e1:((j:Int) == (i:Int))=true:=beq_iff_eq.2 (by omega)
           have e2:((j:Int) != (i:Int))=false:=by rw [hji];simp
           clear hji
           refine regu (S:=(fun W'=>True)) (by kernel_rfl) (fun _ _ _ _ _=>id) ?_ fun hHeld=>?_
           ·trivial
           refine tku (b:=?_) [0,1,2,3,4,5] (by kernel_rfl) hHeld ?_ ?_
           rotate_left
           ·repeat first
            |exact .nil
            |refine .yes (v:=?_) rfl (by rfl) ?_ ?_
             rotate_left
             ·intro w9 hSw;(try dsimp only at hSw);go_simp;(try with_reducible rfl)
             (try simp only [aP,aZ,aS,aG,aH,aI])
           refine tku (b:=?_) [6,7,8,9,10,11,12,13] (by kernel_rfl) hHeld ?_ ?_
           rotate_left
           ·repeat first
            |exact .nil
            |refine .no rfl (by rfl) ?_
             (try simp only [aP,aZ,aS,aG,aH,aI])
           refine onu 14 rfl (by kernel_rfl) fun K hK=>?_
           go_simp
           (skip)
           refine hK.out _ _ ?_ (fun hHeld=>?_)
           ·trivial
           clear hK K
           (try simp only [aP,aZ,aS,aG,aH,aI])
           refine tku (b:=?_) [15,16] (by kernel_rfl) hHeld ?_ ?_
           rotate_left
           ·repeat first
            |exact .nil
            |refine .yes (v:=?_) rfl (by rfl) ?_ ?_
             rotate_left
             ·intro w9 hSw;(try dsimp only at hSw);go_simp;(try with_reducible rfl)
             (try simp only [aP,aZ,aS,aG,aH,aI])
           refine lsu 17 rfl (by kernel_rfl) fun K hK=>?_
           go_simp
           refine hK.out _ _ ?_
           clear hK K
           (try simp only [aP,aZ,aS,aG,aH,aI])
           go_wp2_with fail
           go_roundw
           case rel=>exact ⟨j + 1,false,hltj,by go_num,rfl,HST,Lib.hid SM.out.drop.drew⟩
           case measure=>simp [intOf] <;> omega
          ·obtain ⟨f,hf⟩:∃ f,overB bx s.down by_ t=f:=⟨_,rfl⟩
           have HF:=Lib.hid hf
           have HST:=Lib.hid (show hitTo r x S0 i s.down (j + 1)=f by
            have ht0:S0.getD j default=t:=by
             have:=HT.out
             rw [List.getElem?_set_ne (fun e=>hji e.symm)] at this
             rw [List.getD_eq_getElem?_getD,this];rfl
            rw [HST.out,decide_eq_false hji,HBXI.out,HBYI.out,ht0,hf];simp)
           have e1:((j:Int) == (i:Int))=false:=beq_eq_false_iff_ne.2 (by omega)
           have e2:((j:Int) != (i:Int))=true:=bne_iff_ne.2 (by omega)
           have HCC:=Lib.hid (show ∀ X:World,Below W5.heap.size W5 X→X.cell? ⟨b5,1,none⟩=some (.slice (some ⟨ge,0,none⟩) x.spots.length d2)∧(X.cell? ⟨b14,0,none⟩=some (.int .i64 by_.w)∧X.cell? ⟨b14,1,none⟩=some (.int .i64 by_.d)∧X.cell? ⟨b14,2,none⟩=some (.int .i64 by_.h)∧X.cell? ⟨b14,3,none⟩=some (.int .i64 by_.gram))∧(X.cell? ⟨b11,0,none⟩=some (.int .i64 s.pallet)∧X.cell? ⟨b11,1,none⟩=some (.int .i64 s.x)∧X.cell? ⟨b11,2,none⟩=some (.int .i64 s.y)∧X.cell? ⟨b11,3,none⟩=some (.int .i64 (s.z - 1)))∧(X.cell? ⟨b10,0,none⟩=some (.int .i64 bx.w)∧X.cell? ⟨b10,1,none⟩=some (.int .i64 bx.d)∧X.cell? ⟨b10,2,none⟩=some (.int .i64 bx.h)∧X.cell? ⟨b10,3,none⟩=some (.int .i64 bx.gram))∧(X.cell? ⟨ge,j * 4,none⟩=some (.int .i64 t.pallet)∧X.cell? ⟨ge,j * 4 + 1,none⟩=some (.int .i64 t.x)∧X.cell? ⟨ge,j * 4 + 2,none⟩=some (.int .i64 t.y)∧X.cell? ⟨ge,j * 4 + 3,none⟩=some (.int .i64 t.z)) from fun X hX=>by
            have hX:=SM.out.next hX
            have c14:=hX.box (.head _)
            have c11:=hX.box (.tail _ (.head _))
            have c10:=hX.box (.tail _ (.tail _ (.head _)))
            have c5:=hX.box (.tail _ (.tail _ (.tail _ (.tail _ (.head _)))))
            have q:=(hX.list (.tail _ (.tail _ (.tail _ (.tail _ (.tail _ (.head _))))))).cells (fun _=>rfl) HT.out
            exact ⟨c5 1,⟨c14 0,c14 1,c14 2,c14 3⟩,⟨c11 0,c11 1,c11 2,c11 3⟩,⟨c10 0,c10 1,c10 2,c10 3⟩,q 0 _ rfl,q 1 _ rfl,q 2 _ rfl,q 3 _ rfl⟩)
           clear hji hf
           refine regu (S:=(fun W'=>W'.cell? ⟨b5,1,none⟩=some (.slice (some ⟨ge,0,none⟩) x.spots.length d2)∧(W'.cell? ⟨b14,0,none⟩=some (.int .i64 by_.w)∧W'.cell? ⟨b14,1,none⟩=some (.int .i64 by_.d)∧W'.cell? ⟨b14,2,none⟩=some (.int .i64 by_.h)∧W'.cell? ⟨b14,3,none⟩=some (.int .i64 by_.gram))∧(W'.cell? ⟨b11,0,none⟩=some (.int .i64 s.pallet)∧W'.cell? ⟨b11,1,none⟩=some (.int .i64 s.x)∧W'.cell? ⟨b11,2,none⟩=some (.int .i64 s.y)∧W'.cell? ⟨b11,3,none⟩=some (.int .i64 (s.z - 1)))∧(W'.cell? ⟨b10,0,none⟩=some (.int .i64 bx.w)∧W'.cell? ⟨b10,1,none⟩=some (.int .i64 bx.d)∧W'.cell? ⟨b10,2,none⟩=some (.int .i64 bx.h)∧W'.cell? ⟨b10,3,none⟩=some (.int .i64 bx.gram))∧(W'.cell? ⟨ge,j * 4,none⟩=some (.int .i64 t.pallet)∧W'.cell? ⟨ge,j * 4 + 1,none⟩=some (.int .i64 t.x)∧W'.cell? ⟨ge,j * 4 + 2,none⟩=some (.int .i64 t.y)∧W'.cell? ⟨ge,j * 4 + 3,none⟩=some (.int .i64 t.z)))) (by kernel_rfl) (fun _ _ _ _ _=>id) ?_ fun hHeld=>?_
           ·(first | (refine HCC.out _ ?_;(repeat' with_reducible first | assumption | exact bR | apply bD | apply bA | apply bC | apply bW | omega | simp <;> omega);done) | go_keep)
           refine tku (b:=?_) [0,1,2,3,4,5,6,7,8,9,10,11,12,13] (by kernel_rfl) hHeld ?_ ?_
           rotate_left
           ·repeat first
            |exact .nil
            |refine .yes (v:=?_) rfl (by rfl) ?_ ?_
             rotate_left
             ·intro w9 hSw;(try dsimp only at hSw);go_simp;(try with_reducible rfl)
             (try simp only [aP,aZ,aS,aG,aH,aI])
           refine onu 14 rfl (by kernel_rfl) fun K hK=>?_
           go_simp
           ((go_at_call 115;refine (iOverlap_any bx s.down by_ t _).mono ?_;rintro e w5 ⟨rfl,hb5⟩;rw [HF.out];have hn5:=bstep (a:=W5) (by (repeat' with_reducible first | assumption | exact bR | apply bD | apply bA | apply bC | apply bW | omega | simp <;> omega)) hb5))
           refine hK.out _ _ ?_ (fun hHeld=>?_)
           ·(first | (refine HCC.out _ ?_;(repeat' with_reducible first | assumption | exact bR | apply bD | apply bA | apply bC | apply bW | omega | simp <;> omega);done) | go_keep)
           clear hK K
           (try simp only [aP,aZ,aS,aG,aH,aI])
           refine tku (b:=?_) [15,16] (by kernel_rfl) hHeld ?_ ?_
           rotate_left
           ·repeat first
            |exact .nil
            |refine .yes (v:=?_) rfl (by rfl) ?_ ?_
             rotate_left
             ·intro w9 hSw;(try dsimp only at hSw);go_simp;(try with_reducible rfl)
             (try simp only [aP,aZ,aS,aG,aH,aI])
           refine lsu 17 rfl (by kernel_rfl) fun K hK=>?_
           go_simp
           refine hK.out _ _ ?_
           clear hK K
           (try simp only [aP,aZ,aS,aG,aH,aI])
           go_wp2_with fail
           go_roundw
           case rel=>exact ⟨j + 1,f,hltj,by go_num,rfl,HST,Lib.hid (SM.out.next (by (repeat' with_reducible first | assumption | exact bR | apply bD | apply bA | apply bC | apply bW | omega | simp <;> omega))).drop⟩
           case measure=>simp [intOf] <;> omega
         ·have HST:=Lib.hid (show hitTo r x S0 i s.down (j + 1)=true by rw [HST.out];rfl)
          refine regu (S:=(fun W'=>True)) (by kernel_rfl) (fun _ _ _ _ _=>id) ?_ fun hHeld=>?_
          ·trivial
          refine tku (b:=?_) [0,1] (by kernel_rfl) hHeld ?_ ?_
          rotate_left
          ·repeat first
           |exact .nil
           |refine .yes (v:=?_) rfl (by rfl) ?_ ?_
            rotate_left
            ·intro w9 hSw;(try dsimp only at hSw);go_simp;(try with_reducible rfl)
            (try simp only [aP,aZ,aS,aG,aH,aI])
          refine tku (b:=?_) [2,3,4,5,6,7,8,9,10,11,12,13] (by kernel_rfl) hHeld ?_ ?_
          rotate_left
          ·repeat first
           |exact .nil
           |refine .no rfl (by rfl) ?_
            (try simp only [aP,aZ,aS,aG,aH,aI])
          refine onu 14 rfl (by kernel_rfl) fun K hK=>?_
          go_simp
          (skip)
          refine hK.out _ _ ?_ (fun hHeld=>?_)
          ·trivial
          clear hK K
          (try simp only [aP,aZ,aS,aG,aH,aI])
          refine tku (b:=?_) [15] (by kernel_rfl) hHeld ?_ ?_
          rotate_left
          ·repeat first
           |exact .nil
           |refine .no rfl (by rfl) ?_
            (try simp only [aP,aZ,aS,aG,aH,aI])
          refine tku (b:=?_) [16] (by kernel_rfl) hHeld ?_ ?_
          rotate_left
          ·repeat first
           |exact .nil
           |refine .yes (v:=?_) rfl (by rfl) ?_ ?_
            rotate_left
            ·intro w9 hSw;(try dsimp only at hSw);go_simp;(try with_reducible rfl)
            (try simp only [aP,aZ,aS,aG,aH,aI])
          refine lsu 17 rfl (by kernel_rfl) fun K hK=>?_
          go_simp
          refine hK.out _ _ ?_
          clear hK K
          (try simp only [aP,aZ,aS,aG,aH,aI])
          go_wp2_with fail
          go_roundw
          case rel=>exact ⟨j + 1,true,hltj,by go_num,rfl,HST,Lib.hid SM.out.drop.drew⟩
          case measure=>simp [intOf] <;> omega
        ·obtain rfl:j=x.cartons.length:=by omega
         have HFF:=Lib.hid (show FR s.down = !hit by rw [← HFR.out,hit_free,HH.out])
         obtain ⟨m,hm⟩:∃ m,s.z.toNat=m + 1:=⟨s.z.toNat - 1,by omega⟩
         have k5:=SN.out.box (.tail _ (.tail _ (.tail _ (.head _))))
         have k11:=SN.out.box (.head _)
         have hq4:=(SN.out.list (.tail _ (.tail _ (.tail _ (.tail _ (.head _)))))).cells (fun _=>rfl) HSET.out
         have hs4:=And.intro (hq4 0 (.int .i64 s.pallet) rfl) (And.intro (hq4 1 (.int .i64 s.x) rfl) (And.intro (hq4 2 (.int .i64 s.y) rfl) (hq4 3 (.int .i64 s.z) rfl)))
         rw [Nat.add_zero] at hs4
         clear hq4
         have fsp:=fun o=>(SN.out.list (.tail _ (.tail _ (.tail _ (.tail _ (.head _)))))).free o
         cases hit
         ·have HE:=Lib.hid (show fall FR (s.z - 1).toNat s.down=FIN by rw [show (s.z - 1).toNat=m by omega,← fall_down HFF.out hpos,← hm];exact HF.out)
          have hS:=Sit.put (us:=[.int .i64 s.pallet,.int .i64 s.x,.int .i64 s.y,.int .i64 (s.z - 1)]) (j:=0) (y:=s.down) SN.out.upE (fun _=>rfl) HSET.out (by simp) rfl
          rw [List.set_set] at hS
          have hnew:=(hS.list (.head _)).cells (fun _=>rfl) (show (S0.set i s.down)[i]? = some s.down by rw [List.getElem?_set_self (by rw [HSL.out];exact hlt2)]) 3 _ rfl
          have SF:=Lib.hid hS.downE.drop
          have HNW:=Lib.hid hnew
          clear hS hnew
          go_wp2
          go_roundw
          case rel=>exact ⟨s.down,HE,by show 0≤s.z - 1∧s.z - 1≤2000;omega,SF⟩
          case measure =>
           have h1:=HNW.out
           have h2:=HZ3.out
           simp only [setW,Nat.add_zero] at h1
           rw [h1,h2]
           show (s.z - 1).toNat < s.z.toNat
           omega
         ·have HE:=Lib.hid (show s=FIN by rw [← HF.out];exact (fall_stuck HFF.out).symm)
          go_wp2
          go_roundw
          case rel=>exact ⟨i + 1,hlt,by go_num,by rw [HDS.out,← HE.out];exact Lib.hid SN.out.drop.drop⟩
          case measure=>simp [intOf] <;> omega
      ·have HE:=Lib.hid (show s=FIN by rw [← HF.out,show s.z.toNat=0 by omega];rfl)
       go_wp2
       go_roundw
       case rel=>exact ⟨i + 1,hlt,by go_num,by rw [HDS.out,← HE.out];exact Lib.hid SN.out.drop⟩
       case measure=>simp [intOf] <;> omega
    ·obtain rfl:i=x.cartons.length:=by omega
     have k5:=SN.out.box (.tail _ (.head _))
     have kr:=SN.out.box (g:=w.heap.size + 2) (cs:=#[.slice none 0 0,.slice none 0 0]) (t:=46) mq
     have fr:=SN.out.free (g:=w.heap.size + 2) (cs:=#[.slice none 0 0,.slice none 0 0]) (t:=46) mq
     go_wp2
     refine bodyPost_ret (v:=.agg #[.slice D1 x.cartons.length d1,.slice D2 x.spots.length d2]) (by simp [results,Tryz.results52,go_sem,kr,fr]) rfl ?_
     rw [HM.out]
     have SF:=(SN.out.drop.rot4).overL [.slice D1 x.cartons.length d1,.slice D2 x.spots.length d2] 0
     obtain ⟨fp,hp⟩:=SF.drop.drop.planShut
     exact ⟨_,fp,rfl,hp.base hBw,SF.low⟩
end Go.Proofs.YtioijfplbgpjpaaGreat
namespace Go.Proofs.YtioijfplbgpjpaaGreat
set_option linter.unusedVariables false
set_option linter.unusedSimpArgs false
set_option maxRecDepth 100000
open Go.RowKit Go.WideShapes Go.ChangeShapes Go.ChangeAt Go.Deep
section
variable {w W:World} {l:List Fact} {q q1 q2 q3 q4 q5 q6 q7:Fact}
theorem Sit.up5 (h:Sit w W (q1::q2::q3::q4::q5::q::l)):Sit w W (q::q1::q2::q3::q4::q5::l):=h.perm (List.perm_middle (l₁:=[q1,q2,q3,q4,q5]))
theorem Sit.up6 (h:Sit w W (q1::q2::q3::q4::q5::q6::q::l)):Sit w W (q::q1::q2::q3::q4::q5::q6::l):=h.perm (List.perm_middle (l₁:=[q1,q2,q3,q4,q5,q6]))
theorem Sit.up7 (h:Sit w W (q1::q2::q3::q4::q5::q6::q7::q::l)):Sit w W (q::q1::q2::q3::q4::q5::q6::q7::l):=h.perm (List.perm_middle (l₁:=[q1,q2,q3,q4,q5,q6,q7]))
variable {L:List Fact} {vc:Value} {x:Plan} {fp:List Nat} {g o n c i:Nat} {s:Spot}
theorem Sit.spotCell (h:Sit w W L) (hm:fRp vc (.slice (some ⟨g,o,none⟩) n c) x fp∈L) (hx:x.spots[i]? = some s) (j:Nat) (u:Value) (hu:s.cells[j]? = some u):W.cell? ⟨g,o + i * 4 + j,none⟩=some u:=by
 obtain ⟨zs,f1,f2,h0,hd,h1,h2,h3,⟨A,c',hv,hc,hr⟩,h5⟩:=h.on _ hm
 obtain ⟨b',o',e4,hb,hel⟩:=hr (by have:=(List.getElem?_eq_some_iff.1 hx).1;omega)
 injection hv with e1 e2 e3
 rw [← e1] at e4
 injection e4 with e5
 injection e5 with e6 e7
 subst e6 e7
 exact hel i s hx j u hu
theorem Sit.spotFree (h:Sit w W L) (hm:fRp vc (.slice (some ⟨g,o,none⟩) n c) x fp∈L) (hn:0 < x.spots.length) (j:Nat):W.frozen? ⟨g,j,none⟩=false:=by
 obtain ⟨zs,f1,f2,h0,hd,h1,h2,h3,⟨A,c',hv,hc,hr⟩,h5⟩:=h.on _ hm
 obtain ⟨b',o',e4,hb,hel⟩:=hr hn
 injection hv with e1 e2 e3
 rw [← e1] at e4
 injection e4 with e5
 injection e5 with e6 e7
 subst e6
 obtain ⟨cs,t,hcs⟩:=h5 g hb
 exact frozen_of_row _ _ j _ _ hcs
end
set_option maxRecDepth 100000 in
set_option maxHeartbeats 40000000 in
theorem l21Raised_any (v:Value) (xs:List Int) (w W:World) (L:List Fact) (hS:Sit w W L) (hx:RBytes w w.heap.size v xs):Calls Tryz.prog 132 #[v] W fun e w'=>∃ u r fp vc vs x fq,e=.returned (.tuple #[u,.agg #[vc,vs]])∧Sit w w' (fRq u r fp::fRp vc vs x fq::L)∧r.bulk≤80∧PlanSmall x:=by
 have HB:=Lib.hid hx
 have SN:=Lib.hid ((hS.alloc cZ 41).alloc #[.slice none 0 0,.slice none 0 0] 46)
 simp only [World.size_alloc] at SN
 clear hS hx
 go_enter Tryz.func132,Tryz.ntmps132
 go_upto_region 1 with fail
 generalize hW1:(W.alloc (.cells cZ 41)).alloc (.cells #[.slice none 0 0,.slice none 0 0] 46)=W1 at SN ⊢
 clear hW1
 go_wp2_with fail
 refine (l13Draw_any v xs _ _ _ SN.out HB.out).mono ?_
 rintro e w2 ⟨u,r,fp,vc,vs,x,fq,rfl,SN1,hbk,hsx⟩
 obtain ⟨vp,vt,vi,rfl,⟨A1,c1,rfl,_⟩,⟨A2,c2,rfl,_⟩,⟨A3,c3,rfl,_⟩⟩:=SN1.on _ (.head _)
 obtain ⟨zs2,hz2,⟨A7,c7,rfl,_⟩,_,⟨A8,c8,rfl,hc8,hel8⟩⟩:=RpOn.open (SN1.on _ (.tail _ (.head _)))
 have hA8:0 < x.spots.length→∃ g o,A8=some ⟨g,o,none⟩:=fun hn=>by obtain ⟨b,o,e,_⟩:=hel8 hn;exact ⟨b,o,e⟩
 have HZ2:=Lib.hid hz2
 have hbt:=SN1.boxlt (.tail _ (.tail _ (.head _)))
 clear hel8 hz2
 have SQ:=Lib.hid ((SN1.alloc (cR r A1 c1 A2 c2 A3 c3) 41).alloc #[.slice A7 zs2.length c7,.slice A8 x.spots.length c8] 46)
 simp only [World.size_alloc] at SQ
 obtain ⟨b4,hb4⟩:∃ b,w2.heap.size=b:=⟨_,rfl⟩
 rw [hb4] at SQ hbt
 clear SN SN1
 have SN:=SQ
 clear SQ
 go_upto_region 2 with fail
 generalize (w2.alloc (.cells (cR r A1 c1 A2 c2 A3 c3) 41)).alloc (.cells #[.slice A7 zs2.length c7,.slice A8 x.spots.length c8] 46)=W3 at SN ⊢
 clear hb4
 have hn1 : ¬ (b4=W.heap.size):=(by omega);have hn2 : ¬ (b4=W.heap.size + 1):=(by omega);have hn3 : ¬ (b4 + 1=W.heap.size):=(by omega);have hn4 : ¬ (b4 + 1=W.heap.size + 1):=(by omega);have hn5 : ¬ (W.heap.size=b4):=(by omega);have hn6 : ¬ (W.heap.size + 1=b4):=(by omega);have hn7 : ¬ (W.heap.size=b4 + 1):=(by omega);have hn8 : ¬ (W.heap.size + 1=b4 + 1):=(by omega);have hn9 : ¬ (b4=b4 + 1):=(by omega);have hn10 : ¬ (b4 + 1=b4):=(by omega)
 go_wp2_with fail
 refine (new_sit SN.out HB.out).mono ?_
 rintro e1 w6 ⟨g,rfl,SN1⟩
 have SN2:=Lib.hid SN1
 clear SN SN1
 have SN:=SN2
 clear SN2
 have k5:=SN.out.box (g:=b4 + 1) (cs:=#[.slice A7 zs2.length c7,.slice A8 x.spots.length c8]) (t:=46) mq
 go_upto_region 3 with fail
 go_cut [31] (fun v31 X=>∃ b:Bool,v31=.bool b∧(b=true→0 < x.spots.length)∧Hid (Sit w X (fCur g v xs.length::fBox (b4 + 1) #[.slice A7 zs2.length c7,.slice A8 x.spots.length c8] 46::fBox b4 (cR r A1 c1 A2 c2 A3 c3) 41::fRq (.agg (cR r A1 c1 A2 c2 A3 c3)) r fp::fRp (.slice A7 zs2.length c7) (.slice A8 x.spots.length c8) x fq::fBox (W.heap.size + 1) #[.slice none 0 0,.slice none 0 0] 46::fBox W.heap.size cZ 41::L)))
 case first =>
  by_cases h0:0 < x.spots.length
  ·have h0i:(0:Int) < (x.spots.length:Int):=by omega
   by_cases hl:x.spots.length=zs2.length
   ·have hq:((x.spots.length:Int) == (zs2.length:Int))=true:=beq_iff_eq.2 (by omega)
    have hq2:decide ((x.spots.length:Int)=(zs2.length:Int))=true:=decide_eq_true (by omega)
    have HL:=Lib.hid hl
    clear hl
    go_wp2_with fail
    refine (once_sit SN.out HB.out (.head _) _ (by first | decide | omega)).mono ?_
    rintro e w7 ⟨o1,rfl,SN1⟩
    have SN2:=Lib.hid SN1
    go_wp2_with fail
    go_meet
    exact ⟨o1,rfl,fun _=>h0,SN2⟩
   ·have hq:((x.spots.length:Int) == (zs2.length:Int))=false:=beq_eq_false_iff_ne.2 (by omega)
    have hq2:decide ((x.spots.length:Int)=(zs2.length:Int))=false:=decide_eq_false (by omega)
    go_wp2_with fail
    go_meet
    exact ⟨false,rfl,nofun,SN⟩
  ·have h0i : ¬ ((0:Int) < (x.spots.length:Int)):=by omega
   go_wp2_with fail
   go_meet
   exact ⟨false,rfl,nofun,SN⟩
 case rest =>
  obtain ⟨b,rfl,hbt2,SN2⟩:=hcut
  clear SN k5
  have SN:=SN2
  clear SN2
  cases b
  ·have k4:=SN.out.box (g:=b4) (cs:=(cR r A1 c1 A2 c2 A3 c3)) (t:=41) mq;have k5:=SN.out.box (g:=b4 + 1) (cs:=#[.slice A7 zs2.length c7,.slice A8 x.spots.length c8]) (t:=46) mq;have k2:=SN.out.box (g:=W.heap.size) (cs:=cZ) (t:=41) mq;have f2:=SN.out.free (g:=W.heap.size) (cs:=cZ) (t:=41) mq;have k3:=SN.out.box (g:=W.heap.size + 1) (cs:=#[.slice none 0 0,.slice none 0 0]) (t:=46) mq;have f3:=SN.out.free (g:=W.heap.size + 1) (cs:=#[.slice none 0 0,.slice none 0 0]) (t:=46) mq;have m40:=k4 0;have m41:=k4 1;have m42:=k4 2;have m43:=k4 3;have m44:=k4 4;have m45:=k4 5;have m46:=k4 6;have m47:=k4 7;have m48:=k4 8;have m49:=k4 9;have m50:=k5 0;have m51:=k5 1;simp at m40 m41 m42 m43 m44 m45 m46 m47 m48 m49 m50 m51;clear k4 k5
   go_wp2_with fail
   refine regu (S:=(fun W'=>(cS10 (W') (b4) (r) (.slice A1 r.pairs.length c1) (.slice A2 r.types.length c2) (.slice A3 r.items.length c3))∧W'.cell? ⟨b4 + 1,0,none⟩=some (.slice A7 zs2.length c7)∧W'.cell? ⟨b4 + 1,1,none⟩=some (.slice A8 x.spots.length c8))) (by kernel_rfl) (fun _ _ _ _ _=>id) ?_ fun hHeld=>?_
   ·go_keep
   refine tku (b:=?_) [0,1] (by kernel_rfl) hHeld ?_ ?_
   rotate_left
   ·repeat first
    |exact .nil
    |refine .yes (v:=?_) rfl (by rfl) ?_ ?_
     rotate_left
     ·intro w9 hSw;(try dsimp only at hSw);go_simp;(try with_reducible rfl)
     (try simp only [aP,aZ,aS,aG,aH,aI])
   refine onu 2 rfl (by kernel_rfl) fun K hK=>?_
   go_simp
   refine hK.out _ _ ?_ (fun hHeld=>?_)
   ·go_keep
   clear hK K
   (try simp only [aP,aZ,aS,aG,aH,aI])
   refine lsu 3 rfl (by kernel_rfl) fun K hK=>?_
   go_simp
   refine hK.out _ _ ?_
   clear hK K
   (try simp only [aP,aZ,aS,aG,aH,aI])
   go_wp2_with fail
   refine bodyPost_ret (v:=.tuple #[.agg (cR r A1 c1 A2 c2 A3 c3),.agg #[.slice A7 zs2.length c7,.slice A8 x.spots.length c8]]) (by simp [results,Tryz.results132,go_sem,k2,f2,k3,f3]) rfl ?_
   exact ⟨_,r,fp,_,_,x,_,rfl,(((((SN.out.up6).up6.rot2).sub (.cons_cons _ (.cons_cons _ (.cons _ (.cons _ (.cons _ (List.Sublist.refl _))))))).overL [.int .i64 r.way,.int .i64 r.pallet.w,.int .i64 r.pallet.d,.int .i64 r.pallet.h,.int .i64 r.pallet.gram,.int .i64 r.classes,.slice A1 r.pairs.length c1,.slice A2 r.types.length c2,.int .i64 r.master,.slice A3 r.items.length c3] 0).rot2.overL [.slice A7 zs2.length c7,.slice A8 x.spots.length c8] 0).drop.drop.drew,hbk,hsx⟩
  ·have h0:=hbt2 rfl
   obtain ⟨gs,off,rfl⟩:=hA8 h0
   obtain ⟨m,hm⟩:∃ m,m=x.spots.length - 1:=⟨_,rfl⟩
   have hmlt:m < x.spots.length:=by omega
   have hmi:(m:Int) < (x.spots.length:Int):=by omega
   obtain ⟨s,hs⟩:∃ s,x.spots[m]? = some s:=⟨_,List.getElem?_eq_getElem hmlt⟩
   have HS:=Lib.hid hs
   have hs100:=hsx.spots
   have hw1:wrap64 ((x.spots.length:Int) - 1)=(m:Int):=by unfold wrap64;omega
   have hw2:IntKind.i64.wrap ((x.spots.length:Int) - 1)=(m:Int):=by rw [wrapE];exact hw1
   have k5:=SN.out.box (g:=b4 + 1) (cs:=#[.slice A7 zs2.length c7,.slice (some ⟨gs,off,none⟩) x.spots.length c8]) (t:=46) mq
   have k51:=k5 1
   simp at k51
   have hcz:=SN.out.spotCell (vc:=.slice A7 zs2.length c7) (x:=x) (fp:=fq) (by repeat first | with_reducible exact List.mem_cons_self | with_reducible exact .head _ | refine .tail _ ?_) HS.out 3 _ rfl
   have hfz:=SN.out.spotFree (vc:=.slice A7 zs2.length c7) (x:=x) (fp:=fq) (g:=gs) (o:=off) (n:=x.spots.length) (c:=c8) (by repeat first | with_reducible exact List.mem_cons_self | with_reducible exact .head _ | refine .tail _ ?_) h0
   clear hs hm
   go_wp2_with fail
   refine regu (S:=(fun W'=>W'.cell? ⟨b4 + 1,1,none⟩=some (.slice (some ⟨gs,off,none⟩) x.spots.length c8)∧W'.cell? ⟨gs,off + m * 4 + 3,none⟩=some (.int .i64 s.z))) (by kernel_rfl) (fun _ _ _ _ _=>id) ?_ fun hHeld=>?_
   ·(first | exact ⟨k51,hcz⟩ | go_keep)
   refine tku (b:=?_) [0,1,2,3,4,5,6,7,8,9] (by kernel_rfl) hHeld ?_ ?_
   rotate_left
   ·repeat first
    |exact .nil
    |refine .yes (v:=?_) rfl (by rfl) ?_ ?_
     rotate_left
     ·intro w9 hSw;(try dsimp only at hSw);go_simp;(try with_reducible rfl)
     (try simp only [aP,aZ,aS,aG,aH,aI])
   refine onu 10 rfl (by kernel_rfl) fun K hK=>?_
   go_simp
   ((go_at_call 133;refine Sit.cs SN.out fun SN0=>?_;(try simp only [World.size_alloc,World.size_drew] at SN0);refine (below_sit SN0 HB.out (.head _) _ (by first | decide | omega)).mono ?_;rintro e w7 ⟨y,rfl,hy,SN1,T1⟩;clear k5 k51 hcz hfz;have SN2:=Lib.hid SN1;clear SN SN0 SN1 T1;have SN:=SN2;clear SN2;have k5:=SN.out.box (g:=b4 + 1) (cs:=#[.slice A7 zs2.length c7,.slice (some ⟨gs,off,none⟩) x.spots.length c8]) (t:=46) mq;have k51:=k5 1;simp at k51;have hcz:=SN.out.spotCell (vc:=.slice A7 zs2.length c7) (x:=x) (fp:=fq) (by repeat first | with_reducible exact List.mem_cons_self | with_reducible exact .head _ | refine .tail _ ?_) HS.out 3 _ rfl;have hfz:=SN.out.spotFree (vc:=.slice A7 zs2.length c7) (x:=x) (fp:=fq) (g:=gs) (o:=off) (n:=x.spots.length) (c:=c8) (by repeat first | with_reducible exact List.mem_cons_self | with_reducible exact .head _ | refine .tail _ ?_) h0))
   refine hK.out _ _ ?_ (fun hHeld=>?_)
   ·(first | exact ⟨k51,hcz⟩ | go_keep)
   clear hK K
   (try simp only [aP,aZ,aS,aG,aH,aI])
   refine tku (b:=?_) [11,12,13] (by kernel_rfl) hHeld ?_ ?_
   rotate_left
   ·repeat first
    |exact .nil
    |refine .yes (v:=?_) rfl (by rfl) ?_ ?_
     rotate_left
     ·intro w9 hSw;(try dsimp only at hSw);go_simp;(try with_reducible rfl)
     (try simp only [aP,aZ,aS,aG,aH,aI])
   refine lsu 14 rfl (by kernel_rfl) fun K hK=>?_
   go_simp
   refine hK.out _ _ ?_
   clear hK K
   (try simp only [aP,aZ,aS,aG,aH,aI])
   have SQ:=Lib.hid ((SN.out.up4.putS (j:=3) (s':=⟨s.pallet,s.x,s.y,IntKind.i64.wrap (s.z + y)⟩) (u:=.int .i64 (IntKind.i64.wrap (s.z + y))) HS.out (by decide) rfl).down4)
   generalize w7.setCell ⟨gs,off + m * 4 + 3,none⟩ (.int .i64 (IntKind.i64.wrap (s.z + y)))=W8 at SQ ⊢
   clear SN k5 k51 hcz hfz
   have SN:=SQ
   clear SQ
   have k4:=SN.out.box (g:=b4) (cs:=(cR r A1 c1 A2 c2 A3 c3)) (t:=41) mq;have k5:=SN.out.box (g:=b4 + 1) (cs:=#[.slice A7 zs2.length c7,.slice (some ⟨gs,off,none⟩) x.spots.length c8]) (t:=46) mq;have k2:=SN.out.box (g:=W.heap.size) (cs:=cZ) (t:=41) mq;have f2:=SN.out.free (g:=W.heap.size) (cs:=cZ) (t:=41) mq;have k3:=SN.out.box (g:=W.heap.size + 1) (cs:=#[.slice none 0 0,.slice none 0 0]) (t:=46) mq;have f3:=SN.out.free (g:=W.heap.size + 1) (cs:=#[.slice none 0 0,.slice none 0 0]) (t:=46) mq;have m40:=k4 0;have m41:=k4 1;have m42:=k4 2;have m43:=k4 3;have m44:=k4 4;have m45:=k4 5;have m46:=k4 6;have m47:=k4 7;have m48:=k4 8;have m49:=k4 9;have m50:=k5 0;have m51:=k5 1;simp at m40 m41 m42 m43 m44 m45 m46 m47 m48 m49 m50 m51;clear k4 k5
   go_wp2_with fail
   refine regu (S:=(fun W'=>(cS10 (W') (b4) (r) (.slice A1 r.pairs.length c1) (.slice A2 r.types.length c2) (.slice A3 r.items.length c3))∧W'.cell? ⟨b4 + 1,0,none⟩=some (.slice A7 zs2.length c7)∧W'.cell? ⟨b4 + 1,1,none⟩=some (.slice (some ⟨gs,off,none⟩) x.spots.length c8))) (by kernel_rfl) (fun _ _ _ _ _=>id) ?_ fun hHeld=>?_
   ·go_keep
   refine tku (b:=?_) [0,1] (by kernel_rfl) hHeld ?_ ?_
   rotate_left
   ·repeat first
    |exact .nil
    |refine .yes (v:=?_) rfl (by rfl) ?_ ?_
     rotate_left
     ·intro w9 hSw;(try dsimp only at hSw);go_simp;(try with_reducible rfl)
     (try simp only [aP,aZ,aS,aG,aH,aI])
   refine onu 2 rfl (by kernel_rfl) fun K hK=>?_
   go_simp
   refine hK.out _ _ ?_ (fun hHeld=>?_)
   ·go_keep
   clear hK K
   (try simp only [aP,aZ,aS,aG,aH,aI])
   refine lsu 3 rfl (by kernel_rfl) fun K hK=>?_
   go_simp
   refine hK.out _ _ ?_
   clear hK K
   (try simp only [aP,aZ,aS,aG,aH,aI])
   go_wp2_with fail
   refine bodyPost_ret (v:=.tuple #[.agg (cR r A1 c1 A2 c2 A3 c3),.agg #[.slice A7 zs2.length c7,.slice (some ⟨gs,off,none⟩) x.spots.length c8]]) (by simp [results,Tryz.results132,go_sem,k2,f2,k3,f3]) rfl ?_
   exact ⟨_,r,fp,_,_,_,_,rfl,(((((SN.out.up6).up6.rot2).sub (.cons_cons _ (.cons_cons _ (.cons _ (.cons _ (.cons _ (List.Sublist.refl _))))))).overL [.int .i64 r.way,.int .i64 r.pallet.w,.int .i64 r.pallet.d,.int .i64 r.pallet.h,.int .i64 r.pallet.gram,.int .i64 r.classes,.slice A1 r.pairs.length c1,.slice A2 r.types.length c2,.int .i64 r.master,.slice A3 r.items.length c3] 0).rot2.overL [.slice A7 zs2.length c7,.slice (some ⟨gs,off,none⟩) x.spots.length c8] 0).drop.drop.drew,hbk,hsx.setS m ⟨s.pallet,s.x,s.y,IntKind.i64.wrap (s.z + y)⟩⟩
end Go.Proofs.YtioijfplbgpjpaaGreat
