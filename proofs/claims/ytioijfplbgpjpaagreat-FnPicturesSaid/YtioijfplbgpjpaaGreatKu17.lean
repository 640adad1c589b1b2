/-
  An order that is drawn: the reference's walk.
-/
import Derived.Test.YtioijfplbgpjpaaGreatKu43
import Derived.Test.YtioijfplbgpjpaaGreatKu16
import Derived.Test.YtioijfplbgpjpaaGreatKu02
import Derived.Deep.RegionHeld3
import Derived.Deep.DeepCutAuto
import Derived.Deep.RegionLaw
import Derived.Deep.RegionWith
import Derived.StillTailTactics
namespace Go.Proofs.YtioijfplbgpjpaaGreat
set_option linter.unusedVariables false
set_option linter.unusedSimpArgs false
set_option maxRecDepth 100000
open Go.RowKit Go.WideShapes Go.ChangeShapes Go.ChangeAt Go.Deep
section
variable {w W:World} {l:List Fact} {q q1 q2 q3 q4:Fact}
theorem Sit.up4 (h:Sit w W (q1::q2::q3::q4::q::l)):Sit w W (q::q1::q2::q3::q4::l):=h.perm (List.perm_middle (l₁:=[q1,q2,q3,q4]))
theorem Sit.down4 (h:Sit w W (q::q1::q2::q3::q4::l)):Sit w W (q1::q2::q3::q4::q::l):=h.perm (List.perm_middle (l₁:=[q1,q2,q3,q4])).symm
theorem Sit.rev3 (h:Sit w W (q1::q2::q3::l)):Sit w W (q3::q2::q1::l):=h.rot3.perm (List.Perm.cons _ (List.Perm.swap _ _ _))
end
structure Shr (T:Prop):Prop where
 out:T
theorem share1 {T G:Prop} (main:Shr T→G) (pf:Shr T):G:=main pf
theorem OF_nil {α:Type} {f:α→List Value} {e K:Nat} {W:World} (base:Nat):OF f e K W base (.slice none 0 0) ([]:List α) []:=⟨World.ownsRow_nil _ _ _ _,rfl⟩
set_option maxRecDepth 100000 in
set_option maxHeartbeats 40000000 in
theorem l2Right_any (g:Nat) (v:Value) (xs:List Int) (w W:World) (L:List Fact) (hS:Sit w W L) (hx:RBytes w w.heap.size v xs) (hm:fCur g v xs.length∈L):Calls Tryz.prog 278 #[.pointer (some ⟨g,0,none⟩)] W fun e w'=>∃ u r fp,e=.returned u∧Sit w w' (fReq w.heap.size u r fp::L)∧r.bulk≤64∧0 < r.types.length:=by
 have HB:=Lib.hid hx
 have HM:=Lib.hid hm
 have SN:=Lib.hid (hS.alloc cZ 41)
 clear hS hx hm
 go_enter Tryz.func278,Tryz.ntmps278
 go_upto_region 1 with fail
 generalize hW1:W.alloc (.cells cZ 41)=W1 at SN ⊢
 clear hW1
 go_wp2_with fail
 refine (below_sit SN.out HB.out (.tail _ HM.out) _ (by first | decide | omega)).mono ?_;rintro e w1 ⟨z0,rfl,hz0,SN1,T1⟩;have SN2:=Lib.hid SN1;clear SN SN1 T1;have SN:=SN2;clear SN2
 go_wp2_with fail
 refine Sit.cs SN.out fun SN0=>?_;refine (pick_sit SN0 HB.out (.tail _ (.tail _ HM.out)) (.head _) _ _ rfl (by decide) (by decide) (by simp)).mono ?_;rintro e w1 ⟨z1,rfl,SN1,T1⟩;have SN2:=Lib.hid SN1.drop;clear SN SN0 SN1 T1;have SN:=SN2;clear SN2
 go_wp2_with fail
 refine Sit.cs SN.out fun SN0=>?_;refine (pick_sit SN0 HB.out (.tail _ (.tail _ HM.out)) (.head _) _ _ rfl (by decide) (by decide) (by simp)).mono ?_;rintro e w1 ⟨z2,rfl,SN1,T1⟩;have SN2:=Lib.hid SN1.drop;clear SN SN0 SN1 T1;have SN:=SN2;clear SN2
 go_wp2_with fail
 refine Sit.cs SN.out fun SN0=>?_;refine (pick_sit SN0 HB.out (.tail _ (.tail _ HM.out)) (.head _) _ _ rfl (by decide) (by decide) (by simp)).mono ?_;rintro e w1 ⟨z3,rfl,SN1,T1⟩;have SN2:=Lib.hid SN1.drop;clear SN SN0 SN1 T1;have SN:=SN2;clear SN2
 go_wp2_with fail
 refine Sit.cs SN.out fun SN0=>?_;refine (pick_sit SN0 HB.out (.tail _ (.tail _ HM.out)) (.head _) _ _ rfl (by decide) (by decide) (by simp)).mono ?_;rintro e w1 ⟨z4,rfl,SN1,T1⟩;have SN2:=Lib.hid SN1.drop;clear SN SN0 SN1 T1;have SN:=SN2;clear SN2
 go_wp2_with fail
 refine (below_sit SN.out HB.out (.tail _ HM.out) _ (by first | decide | omega)).mono ?_;rintro e w1 ⟨z5,rfl,hz5,SN1,T1⟩;have SN2:=Lib.hid SN1;clear SN SN1 T1;have SN:=SN2;clear SN2
 have hz5:=hz5
 obtain ⟨nc,rfl⟩:∃ n:Nat,z5=n:=⟨z5.toNat,by omega⟩
 have hnc:nc≤3:=by omega
 have SN:=Lib.hid ((SN.out.alloc #[.int .i64 z0,.int .i64 z1,.int .i64 z2,.int .i64 z3,.int .i64 z4,.int .i64 (1 + nc),.slice none 0 0,.slice none 0 0,.int .i64 7,.slice none 0 0] 41).addNil (f:=Pair.cells) (e:=165) (K:=2) w.heap.size)
 go_upto_region 3 with fail
 generalize hW2:w1.alloc (.cells #[.int .i64 z0,.int .i64 z1,.int .i64 z2,.int .i64 z3,.int .i64 z4,.int .i64 (1 + nc),.slice none 0 0,.slice none 0 0,.int .i64 7,.slice none 0 0] 41)=W2 at SN ⊢
 generalize hb3:w1.heap.size=b3 at SN ⊢
 clear hW2 hb3
 go_loopw [4] (fun i wr=>∃ (a:Nat) (P:List Pair) (vp:Value) (fp:List Nat),a≤1 + nc∧i=.int .i64 a∧P.length≤8 * a∧Hid (Sit w wr (fOF Pair.cells 165 2 w.heap.size vp P fp::fBox b3 #[.int .i64 z0,.int .i64 z1,.int .i64 z2,.int .i64 z3,.int .i64 z4,.int .i64 (1 + nc),vp,.slice none 0 0,.int .i64 7,.slice none 0 0] 41::fBox W.heap.size cZ 41::L))) (fun i _=>1 + nc - (intOf i).toNat)
 case atStart=>exact ⟨0,[],_,_,Nat.zero_le _,rfl,Nat.le_refl _,SN⟩
 case round =>
  clear SN
  obtain ⟨a,P,vp,fp,ha,rfl,hpl,SN⟩:=hrel
  obtain ⟨C0,c0,rfl,_⟩:=(SN.out.list (.head _)).form
  have k3:=SN.out.box (.tail _ (.head _))
  by_cases hlt:a < 1 + nc
  ·have hlti:(a:Int) < 1 + (nc:Int):=by omega
   go_wp2
   clear k3
   go_loopw [5] (fun i wr=>∃ (b:Nat) (P:List Pair) (vp:Value) (fp:List Nat),b≤a + 1∧i=.int .i64 b∧P.length≤8 * a + 2 * b∧Hid (Sit w wr (fOF Pair.cells 165 2 w.heap.size vp P fp::fBox b3 #[.int .i64 z0,.int .i64 z1,.int .i64 z2,.int .i64 z3,.int .i64 z4,.int .i64 (1 + nc),vp,.slice none 0 0,.int .i64 7,.slice none 0 0] 41::fBox W.heap.size cZ 41::L))) (fun i _=>a + 1 - (intOf i).toNat)
   case atStart=>exact ⟨0,P,_,_,Nat.zero_le _,rfl,hpl,SN⟩
   case round =>
    clear SN
    obtain ⟨b,P,vp,fp,hb,rfl,hpl,SN⟩:=hrel
    obtain ⟨C0,c0,rfl,_⟩:=(SN.out.list (.head _)).form
    by_cases hlt1:b < a + 1
    ·by_cases hab:a=b
     ·subst hab
      have k3:=SN.out.box (.tail _ (.head _))
      go_wp2_with (at_builtin;refine papp_Pair _ _ rfl rfl ⟨a,a⟩ rfl rfl (heap_alloc_new _ _) rfl ((SN.out.list (.head _)).next (by repeat' with_reducible first | assumption | exact bR | apply bD | apply bA | apply bC | apply bN | simp <;> omega)) (by first | omega | (simp;done) | (simp;omega)) (by have:=SN.out.low.size;first | omega | (simp;done) | (simp;omega)) ?_;intro v7 w7 ha;obtain ⟨g7,S7⟩:=(SN.out.next (by repeat' with_reducible first | assumption | exact bR | apply bD | apply bA | apply bC | apply bN | simp <;> omega)).app ha;have S8:=Lib.hid S7;obtain ⟨C7,c7,rfl,_⟩:=(S7.list (.head _)).form;simp only [List.length_append,List.length_cons,List.length_nil,Nat.zero_add] at S8;have k4:=S7.box (.tail _ (.head _));have f4:=S7.free (.tail _ (.head _));clear S7 ha)
      go_roundw
      case rel=>exact ⟨a + 1,_,.slice C7 (P.length + 1) c7,g7,Nat.le_refl _,by go_num,by simp <;> omega,Lib.hid ((S8.out.rot2.store 6 (.slice C7 (P.length + 1) c7)).rot2)⟩
      case measure=>simp [intOf] <;> omega
     ·have habi : ¬ ((a:Int)=(b:Int)):=by omega
      go_wp2_with fail
      refine (once_sit SN.out HB.out (.tail _ (.tail _ (.tail _ HM.out))) _ (by first | decide | omega)).mono ?_;rintro e w1 ⟨o1,rfl,SN1⟩;have SN2:=Lib.hid SN1;clear SN SN1;have SN:=SN2;clear SN2
      cases o1
      ·go_wp2
       go_roundw
       case rel=>exact ⟨b + 1,P,_,_,hlt1,by go_num,by omega,SN⟩
       case measure=>simp [intOf] <;> omega
      ·have k3:=SN.out.box (.tail _ (.head _))
       have SR:=Lib.hid ((SN.out.alloc #[.int .i64 a,.int .i64 b,.int .i64 b,.int .i64 a] 165).boxRow (f:=Pair.cells) (K:=2) [⟨a,b⟩,⟨b,a⟩] rfl (fun _=>rfl) (by unfold maxLen;simp))
       go_wp2_with (at_builtin;refine pappAll_Pair _ _ rfl rfl rfl rfl (OF.read (bd:=16777216) (SR.out.list (.head _)) (fun _=>rfl) (by simp)) (SR.out.list (.tail _ (.head _))) (by first | omega | (simp;done) | (simp;omega)) (by have:=SR.out.low.size;first | omega | (simp;done) | (simp;omega)) ?_;intro v7 w7 ha;obtain ⟨g7,S7⟩:=SR.out.rot2.app ha;have S8:=Lib.hid S7;obtain ⟨C7,c7,rfl,_⟩:=(S7.list (.head _)).form;simp only [List.length_append,List.length_cons,List.length_nil,Nat.zero_add] at S8;have k4:=S7.box (.tail _ (.tail _ (.head _)));have f4:=S7.free (.tail _ (.tail _ (.head _)));clear S7 ha)
       go_roundw
       case rel=>exact ⟨b + 1,_,.slice C7 (P.length + (0 + 1 + 1)) c7,g7,hlt1,by go_num,by simp <;> omega,Lib.hid ((S8.out.rot2.drop.rot2.store 6 (.slice C7 (P.length + (0 + 1 + 1)) c7)).rot2)⟩
       case measure=>simp [intOf] <;> omega
    ·obtain rfl:b=a + 1:=by omega
     go_wp2
     go_roundw
     case rel=>exact ⟨a + 1,P,_,_,hlt,by go_num,by omega,SN⟩
     case measure=>simp [intOf] <;> omega
  ·obtain rfl:a=1 + nc:=by omega
   have k3:=SN.out.box (.tail _ (.head _))
   have f3:=SN.out.free (.tail _ (.head _))
   have l3:=SN.out.boxlt (.tail _ (.head _))
   go_upto_region 12 with fail
   go_cut [] (fun X=>∃ (y:GType) (vt:Value) (ft:List Nat),Hid (Sit w X (fOF GType.cells 142 7 w.heap.size vt [y] ft::fOF Pair.cells 165 2 w.heap.size (.slice C0 P.length c0) P fp::fBox b3 (dR z0 z1 z2 z3 z4 nc (.slice C0 P.length c0) (vt) (.slice none 0 0)) 41::fBox W.heap.size cZ 41::L)))
   case first =>
    refine regu (S:=(fun W'=>W'.cell? ⟨b3,7,none⟩=some (.slice none 0 0))) (by kernel_rfl) (fun _ _ _ _ _=>id) ?_ fun hHeld=>?_
    ·(first | exact k3 7 | go_keep)
    have SN2:=Lib.hid SN.out.drew;clear SN k3 f3 l3;have SN:=SN2;clear SN2
    generalize hz:wr.drew=wz at SN hHeld ⊢;clear hz
    (try clear k3)
    (try clear f3)
    (try clear l3)
    revert SN
    revert hHeld
    revert wz
    apply share1
    intro A4
    apply share1
    intro A3
    apply share1
    intro A2
    apply share1
    intro A1
    apply share1
    intro A0
    intro wz hHeld SN
    have k3:=SN.out.box (g:=b3) (cs:=(dR z0 z1 z2 z3 z4 nc (.slice C0 P.length c0) (.slice none 0 0) (.slice none 0 0))) (t:=41) mq;have f3:=SN.out.free (g:=b3) (cs:=(dR z0 z1 z2 z3 z4 nc (.slice C0 P.length c0) (.slice none 0 0) (.slice none 0 0))) (t:=41) mq;have l3:=SN.out.boxlt (g:=b3) (cs:=(dR z0 z1 z2 z3 z4 nc (.slice C0 P.length c0) (.slice none 0 0) (.slice none 0 0))) (t:=41) mq
    refine tku (b:=?_) [0,1,2,4,7] (by kernel_rfl) hHeld ?_ ?_
    rotate_left
    ·repeat first
     |exact .nil
     |refine .yes (v:=?_) rfl (by rfl) ?_ ?_
      rotate_left
      ·intro w9 hSw;(try dsimp only at hSw);go_simp;(try with_reducible rfl)
      (try simp only [aP,aZ,aS,aG,aH,aI])
    refine smu [3,5,8] (by kernel_rfl) ?_
    refine .cons rfl (by kernel_rfl) (fun K hK=>?_) ?_
    ·go_simp
     ((go_at_call 133;refine (below_sit SN.out HB.out (by repeat first | exact HM.out | refine .tail _ ?_) _ (by first | decide | omega)).mono ?_;rintro e wz ⟨y3,rfl,hy,SN1,T1⟩;clear hy T1 SN k3 f3 l3;have SN:=Lib.hid SN1;clear SN1;have k3:=SN.out.box (g:=b3) (cs:=(dR z0 z1 z2 z3 z4 nc (.slice C0 P.length c0) (.slice none 0 0) (.slice none 0 0))) (t:=41) mq;have f3:=SN.out.free (g:=b3) (cs:=(dR z0 z1 z2 z3 z4 nc (.slice C0 P.length c0) (.slice none 0 0) (.slice none 0 0))) (t:=41) mq;have l3:=SN.out.boxlt (g:=b3) (cs:=(dR z0 z1 z2 z3 z4 nc (.slice C0 P.length c0) (.slice none 0 0) (.slice none 0 0))) (t:=41) mq))
     refine hK.out _ _ ?_ (fun hHeld=>?_)
     ·(first | exact k3 7 | go_keep)
     clear hK K
     (try simp only [aP,aZ,aS,aG,aH,aI])
     refine smu [5,8] (by kernel_rfl) ?_
     refine .cons rfl (by kernel_rfl) (fun K hK=>?_) ?_
     ·go_simp
      (have SN2:=Lib.hid (SN.out.alloc #[.int .i64 60,.int .i64 100,.int .i64 140] 3);clear SN k3 f3 l3;have SN:=SN2;clear SN2;have k3:=SN.out.box (g:=b3) (cs:=(dR z0 z1 z2 z3 z4 nc (.slice C0 P.length c0) (.slice none 0 0) (.slice none 0 0))) (t:=41) mq;have f3:=SN.out.free (g:=b3) (cs:=(dR z0 z1 z2 z3 z4 nc (.slice C0 P.length c0) (.slice none 0 0) (.slice none 0 0))) (t:=41) mq;have l3:=SN.out.boxlt (g:=b3) (cs:=(dR z0 z1 z2 z3 z4 nc (.slice C0 P.length c0) (.slice none 0 0) (.slice none 0 0))) (t:=41) mq)
      refine hK.out _ _ ?_ (fun hHeld=>?_)
      ·(first | exact k3 7 | go_keep)
      clear hK K
      (try simp only [aP,aZ,aS,aG,aH,aI])
      (clear k3 f3 l3;generalize hg:wz.heap.size=g5 at SN ⊢;clear hg;generalize hz:wz.alloc (.cells #[.int .i64 60,.int .i64 100,.int .i64 140] 3)=wz at SN hHeld ⊢;clear hz;have k3:=SN.out.box (g:=b3) (cs:=(dR z0 z1 z2 z3 z4 nc (.slice C0 P.length c0) (.slice none 0 0) (.slice none 0 0))) (t:=41) mq;have f3:=SN.out.free (g:=b3) (cs:=(dR z0 z1 z2 z3 z4 nc (.slice C0 P.length c0) (.slice none 0 0) (.slice none 0 0))) (t:=41) mq;have l3:=SN.out.boxlt (g:=b3) (cs:=(dR z0 z1 z2 z3 z4 nc (.slice C0 P.length c0) (.slice none 0 0) (.slice none 0 0))) (t:=41) mq)
      refine uQ_norm (bits 15 191) (by kernel_rfl) ?_
      (try clear hHeld)
      (try clear k3)
      (try clear f3)
      (try clear l3)
      revert SN;revert wz;revert g5;revert y3
      exact A0.out
     refine .cons rfl (by kernel_rfl) (fun K hK=>?_) ?_
     ·go_simp
      (have SN2:=Lib.hid (SN.out.alloc #[.int .i64 9,.int .i64 20] 3);clear SN k3 f3 l3;have SN:=SN2;clear SN2;have k3:=SN.out.box (g:=b3) (cs:=(dR z0 z1 z2 z3 z4 nc (.slice C0 P.length c0) (.slice none 0 0) (.slice none 0 0))) (t:=41) mq;have f3:=SN.out.free (g:=b3) (cs:=(dR z0 z1 z2 z3 z4 nc (.slice C0 P.length c0) (.slice none 0 0) (.slice none 0 0))) (t:=41) mq;have l3:=SN.out.boxlt (g:=b3) (cs:=(dR z0 z1 z2 z3 z4 nc (.slice C0 P.length c0) (.slice none 0 0) (.slice none 0 0))) (t:=41) mq)
      refine hK.out _ _ ?_ (fun hHeld=>?_)
      ·(first | exact k3 7 | go_keep)
      clear hK K
      (try simp only [aP,aZ,aS,aG,aH,aI])
      (clear k3 f3 l3;generalize hg:wz.heap.size=g8 at SN ⊢;clear hg;generalize hz:wz.alloc (.cells #[.int .i64 9,.int .i64 20] 3)=wz at SN hHeld ⊢;clear hz;have k3:=SN.out.box (g:=b3) (cs:=(dR z0 z1 z2 z3 z4 nc (.slice C0 P.length c0) (.slice none 0 0) (.slice none 0 0))) (t:=41) mq;have f3:=SN.out.free (g:=b3) (cs:=(dR z0 z1 z2 z3 z4 nc (.slice C0 P.length c0) (.slice none 0 0) (.slice none 0 0))) (t:=41) mq;have l3:=SN.out.boxlt (g:=b3) (cs:=(dR z0 z1 z2 z3 z4 nc (.slice C0 P.length c0) (.slice none 0 0) (.slice none 0 0))) (t:=41) mq)
      refine uQ_norm (bits 15 415) (by kernel_rfl) ?_
      (try clear hHeld)
      (try clear k3)
      (try clear f3)
      (try clear l3)
      revert SN;revert wz;revert g8;revert y3
      exact A1.out
     exact .nil
    refine .cons rfl (by kernel_rfl) (fun K hK=>?_) ?_
    ·go_simp
     (have SN2:=Lib.hid (SN.out.alloc #[.int .i64 60,.int .i64 100,.int .i64 140] 3);clear SN k3 f3 l3;have SN:=SN2;clear SN2;have k3:=SN.out.box (g:=b3) (cs:=(dR z0 z1 z2 z3 z4 nc (.slice C0 P.length c0) (.slice none 0 0) (.slice none 0 0))) (t:=41) mq;have f3:=SN.out.free (g:=b3) (cs:=(dR z0 z1 z2 z3 z4 nc (.slice C0 P.length c0) (.slice none 0 0) (.slice none 0 0))) (t:=41) mq;have l3:=SN.out.boxlt (g:=b3) (cs:=(dR z0 z1 z2 z3 z4 nc (.slice C0 P.length c0) (.slice none 0 0) (.slice none 0 0))) (t:=41) mq)
     refine hK.out _ _ ?_ (fun hHeld=>?_)
     ·(first | exact k3 7 | go_keep)
     clear hK K
     (try simp only [aP,aZ,aS,aG,aH,aI])
     (clear k3 f3 l3;generalize hg:wz.heap.size=g5 at SN ⊢;clear hg;generalize hz:wz.alloc (.cells #[.int .i64 60,.int .i64 100,.int .i64 140] 3)=wz at SN hHeld ⊢;clear hz;have k3:=SN.out.box (g:=b3) (cs:=(dR z0 z1 z2 z3 z4 nc (.slice C0 P.length c0) (.slice none 0 0) (.slice none 0 0))) (t:=41) mq;have f3:=SN.out.free (g:=b3) (cs:=(dR z0 z1 z2 z3 z4 nc (.slice C0 P.length c0) (.slice none 0 0) (.slice none 0 0))) (t:=41) mq;have l3:=SN.out.boxlt (g:=b3) (cs:=(dR z0 z1 z2 z3 z4 nc (.slice C0 P.length c0) (.slice none 0 0) (.slice none 0 0))) (t:=41) mq)
     refine smu [3,8] (by kernel_rfl) ?_
     refine .cons rfl (by kernel_rfl) (fun K hK=>?_) ?_
     ·go_simp
      ((go_at_call 133;refine (below_sit SN.out HB.out (by repeat first | exact HM.out | refine .tail _ ?_) _ (by first | decide | omega)).mono ?_;rintro e wz ⟨y3,rfl,hy,SN1,T1⟩;clear hy T1 SN k3 f3 l3;have SN:=Lib.hid SN1;clear SN1;have k3:=SN.out.box (g:=b3) (cs:=(dR z0 z1 z2 z3 z4 nc (.slice C0 P.length c0) (.slice none 0 0) (.slice none 0 0))) (t:=41) mq;have f3:=SN.out.free (g:=b3) (cs:=(dR z0 z1 z2 z3 z4 nc (.slice C0 P.length c0) (.slice none 0 0) (.slice none 0 0))) (t:=41) mq;have l3:=SN.out.boxlt (g:=b3) (cs:=(dR z0 z1 z2 z3 z4 nc (.slice C0 P.length c0) (.slice none 0 0) (.slice none 0 0))) (t:=41) mq))
      refine hK.out _ _ ?_ (fun hHeld=>?_)
      ·(first | exact k3 7 | go_keep)
      clear hK K
      (try simp only [aP,aZ,aS,aG,aH,aI])
      refine uQ_norm (bits 15 191) (by kernel_rfl) ?_
      (try clear hHeld)
      (try clear k3)
      (try clear f3)
      (try clear l3)
      revert SN;revert wz;revert g5;revert y3
      exact A0.out
     refine .cons rfl (by kernel_rfl) (fun K hK=>?_) ?_
     ·go_simp
      (have SN2:=Lib.hid (SN.out.alloc #[.int .i64 9,.int .i64 20] 3);clear SN k3 f3 l3;have SN:=SN2;clear SN2;have k3:=SN.out.box (g:=b3) (cs:=(dR z0 z1 z2 z3 z4 nc (.slice C0 P.length c0) (.slice none 0 0) (.slice none 0 0))) (t:=41) mq;have f3:=SN.out.free (g:=b3) (cs:=(dR z0 z1 z2 z3 z4 nc (.slice C0 P.length c0) (.slice none 0 0) (.slice none 0 0))) (t:=41) mq;have l3:=SN.out.boxlt (g:=b3) (cs:=(dR z0 z1 z2 z3 z4 nc (.slice C0 P.length c0) (.slice none 0 0) (.slice none 0 0))) (t:=41) mq)
      refine hK.out _ _ ?_ (fun hHeld=>?_)
      ·(first | exact k3 7 | go_keep)
      clear hK K
      (try simp only [aP,aZ,aS,aG,aH,aI])
      (clear k3 f3 l3;generalize hg:wz.heap.size=g8 at SN ⊢;clear hg;generalize hz:wz.alloc (.cells #[.int .i64 9,.int .i64 20] 3)=wz at SN hHeld ⊢;clear hz;have k3:=SN.out.box (g:=b3) (cs:=(dR z0 z1 z2 z3 z4 nc (.slice C0 P.length c0) (.slice none 0 0) (.slice none 0 0))) (t:=41) mq;have f3:=SN.out.free (g:=b3) (cs:=(dR z0 z1 z2 z3 z4 nc (.slice C0 P.length c0) (.slice none 0 0) (.slice none 0 0))) (t:=41) mq;have l3:=SN.out.boxlt (g:=b3) (cs:=(dR z0 z1 z2 z3 z4 nc (.slice C0 P.length c0) (.slice none 0 0) (.slice none 0 0))) (t:=41) mq)
      refine uQ_norm (bits 15 439) (by kernel_rfl) ?_
      (try clear hHeld)
      (try clear k3)
      (try clear f3)
      (try clear l3)
      revert SN;revert wz;revert g8;revert g5
      exact A2.out
     exact .nil
    refine .cons rfl (by kernel_rfl) (fun K hK=>?_) ?_
    ·go_simp
     (have SN2:=Lib.hid (SN.out.alloc #[.int .i64 9,.int .i64 20] 3);clear SN k3 f3 l3;have SN:=SN2;clear SN2;have k3:=SN.out.box (g:=b3) (cs:=(dR z0 z1 z2 z3 z4 nc (.slice C0 P.length c0) (.slice none 0 0) (.slice none 0 0))) (t:=41) mq;have f3:=SN.out.free (g:=b3) (cs:=(dR z0 z1 z2 z3 z4 nc (.slice C0 P.length c0) (.slice none 0 0) (.slice none 0 0))) (t:=41) mq;have l3:=SN.out.boxlt (g:=b3) (cs:=(dR z0 z1 z2 z3 z4 nc (.slice C0 P.length c0) (.slice none 0 0) (.slice none 0 0))) (t:=41) mq)
     refine hK.out _ _ ?_ (fun hHeld=>?_)
     ·(first | exact k3 7 | go_keep)
     clear hK K
     (try simp only [aP,aZ,aS,aG,aH,aI])
     (clear k3 f3 l3;generalize hg:wz.heap.size=g8 at SN ⊢;clear hg;generalize hz:wz.alloc (.cells #[.int .i64 9,.int .i64 20] 3)=wz at SN hHeld ⊢;clear hz;have k3:=SN.out.box (g:=b3) (cs:=(dR z0 z1 z2 z3 z4 nc (.slice C0 P.length c0) (.slice none 0 0) (.slice none 0 0))) (t:=41) mq;have f3:=SN.out.free (g:=b3) (cs:=(dR z0 z1 z2 z3 z4 nc (.slice C0 P.length c0) (.slice none 0 0) (.slice none 0 0))) (t:=41) mq;have l3:=SN.out.boxlt (g:=b3) (cs:=(dR z0 z1 z2 z3 z4 nc (.slice C0 P.length c0) (.slice none 0 0) (.slice none 0 0))) (t:=41) mq)
     refine smu [3,5] (by kernel_rfl) ?_
     refine .cons rfl (by kernel_rfl) (fun K hK=>?_) ?_
     ·go_simp
      ((go_at_call 133;refine (below_sit SN.out HB.out (by repeat first | exact HM.out | refine .tail _ ?_) _ (by first | decide | omega)).mono ?_;rintro e wz ⟨y3,rfl,hy,SN1,T1⟩;clear hy T1 SN k3 f3 l3;have SN:=Lib.hid SN1;clear SN1;have k3:=SN.out.box (g:=b3) (cs:=(dR z0 z1 z2 z3 z4 nc (.slice C0 P.length c0) (.slice none 0 0) (.slice none 0 0))) (t:=41) mq;have f3:=SN.out.free (g:=b3) (cs:=(dR z0 z1 z2 z3 z4 nc (.slice C0 P.length c0) (.slice none 0 0) (.slice none 0 0))) (t:=41) mq;have l3:=SN.out.boxlt (g:=b3) (cs:=(dR z0 z1 z2 z3 z4 nc (.slice C0 P.length c0) (.slice none 0 0) (.slice none 0 0))) (t:=41) mq))
      refine hK.out _ _ ?_ (fun hHeld=>?_)
      ·(first | exact k3 7 | go_keep)
      clear hK K
      (try simp only [aP,aZ,aS,aG,aH,aI])
      refine uQ_norm (bits 15 415) (by kernel_rfl) ?_
      (try clear hHeld)
      (try clear k3)
      (try clear f3)
      (try clear l3)
      revert SN;revert wz;revert g8;revert y3
      exact A1.out
     refine .cons rfl (by kernel_rfl) (fun K hK=>?_) ?_
     ·go_simp
      (have SN2:=Lib.hid (SN.out.alloc #[.int .i64 60,.int .i64 100,.int .i64 140] 3);clear SN k3 f3 l3;have SN:=SN2;clear SN2;have k3:=SN.out.box (g:=b3) (cs:=(dR z0 z1 z2 z3 z4 nc (.slice C0 P.length c0) (.slice none 0 0) (.slice none 0 0))) (t:=41) mq;have f3:=SN.out.free (g:=b3) (cs:=(dR z0 z1 z2 z3 z4 nc (.slice C0 P.length c0) (.slice none 0 0) (.slice none 0 0))) (t:=41) mq;have l3:=SN.out.boxlt (g:=b3) (cs:=(dR z0 z1 z2 z3 z4 nc (.slice C0 P.length c0) (.slice none 0 0) (.slice none 0 0))) (t:=41) mq)
      refine hK.out _ _ ?_ (fun hHeld=>?_)
      ·(first | exact k3 7 | go_keep)
      clear hK K
      (try simp only [aP,aZ,aS,aG,aH,aI])
      (clear k3 f3 l3;generalize hg:wz.heap.size=g5 at SN ⊢;clear hg;generalize hz:wz.alloc (.cells #[.int .i64 60,.int .i64 100,.int .i64 140] 3)=wz at SN hHeld ⊢;clear hz;have k3:=SN.out.box (g:=b3) (cs:=(dR z0 z1 z2 z3 z4 nc (.slice C0 P.length c0) (.slice none 0 0) (.slice none 0 0))) (t:=41) mq;have f3:=SN.out.free (g:=b3) (cs:=(dR z0 z1 z2 z3 z4 nc (.slice C0 P.length c0) (.slice none 0 0) (.slice none 0 0))) (t:=41) mq;have l3:=SN.out.boxlt (g:=b3) (cs:=(dR z0 z1 z2 z3 z4 nc (.slice C0 P.length c0) (.slice none 0 0) (.slice none 0 0))) (t:=41) mq)
      (have SN2:=Lib.hid SN.out.rot2;clear SN;have SN:=SN2;clear SN2)
      refine uQ_norm (bits 15 439) (by kernel_rfl) ?_
      (try clear hHeld)
      (try clear k3)
      (try clear f3)
      (try clear l3)
      revert SN;revert wz;revert g8;revert g5
      exact A2.out
     exact .nil
    exact .nil
    refine ⟨?_⟩
    intro y3 g5 wz SN
    have k3:=SN.out.box (g:=b3) (cs:=(dR z0 z1 z2 z3 z4 nc (.slice C0 P.length c0) (.slice none 0 0) (.slice none 0 0))) (t:=41) mq;have f3:=SN.out.free (g:=b3) (cs:=(dR z0 z1 z2 z3 z4 nc (.slice C0 P.length c0) (.slice none 0 0) (.slice none 0 0))) (t:=41) mq;have l3:=SN.out.boxlt (g:=b3) (cs:=(dR z0 z1 z2 z3 z4 nc (.slice C0 P.length c0) (.slice none 0 0) (.slice none 0 0))) (t:=41) mq
    have hHeld:((fun W'=>W'.cell? ⟨b3,7,none⟩=some (.slice none 0 0))) wz:=by (first | exact k3 7 | go_keep)
    refine smu [6,8] (by kernel_rfl) ?_
    refine .cons rfl (by kernel_rfl) (fun K hK=>?_) ?_
    ·go_simp
     ((go_at_call 156;refine (pick_sit SN.out HB.out (by repeat first | exact HM.out | refine .tail _ ?_) (by repeat first | with_reducible exact List.mem_cons_self | with_reducible exact .head _ | refine .tail _ ?_) _ _ (by rfl) (by decide) (by decide) (by simp)).mono ?_;rintro e wz ⟨y6,rfl,SN1,T1⟩;clear T1 SN k3 f3 l3;have SN:=Lib.hid SN1;clear SN1;have k3:=SN.out.box (g:=b3) (cs:=(dR z0 z1 z2 z3 z4 nc (.slice C0 P.length c0) (.slice none 0 0) (.slice none 0 0))) (t:=41) mq;have f3:=SN.out.free (g:=b3) (cs:=(dR z0 z1 z2 z3 z4 nc (.slice C0 P.length c0) (.slice none 0 0) (.slice none 0 0))) (t:=41) mq;have l3:=SN.out.boxlt (g:=b3) (cs:=(dR z0 z1 z2 z3 z4 nc (.slice C0 P.length c0) (.slice none 0 0) (.slice none 0 0))) (t:=41) mq))
     refine hK.out _ _ ?_ (fun hHeld=>?_)
     ·(first | exact k3 7 | go_keep)
     clear hK K
     (try simp only [aP,aZ,aS,aG,aH,aI])
     refine onu 8 rfl (by kernel_rfl) fun K hK=>?_
     go_simp
     (have SN2:=Lib.hid (SN.out.alloc #[.int .i64 9,.int .i64 20] 3);clear SN k3 f3 l3;have SN:=SN2;clear SN2;have k3:=SN.out.box (g:=b3) (cs:=(dR z0 z1 z2 z3 z4 nc (.slice C0 P.length c0) (.slice none 0 0) (.slice none 0 0))) (t:=41) mq;have f3:=SN.out.free (g:=b3) (cs:=(dR z0 z1 z2 z3 z4 nc (.slice C0 P.length c0) (.slice none 0 0) (.slice none 0 0))) (t:=41) mq;have l3:=SN.out.boxlt (g:=b3) (cs:=(dR z0 z1 z2 z3 z4 nc (.slice C0 P.length c0) (.slice none 0 0) (.slice none 0 0))) (t:=41) mq)
     refine hK.out _ _ ?_ (fun hHeld=>?_)
     ·(first | exact k3 7 | go_keep)
     clear hK K
     (try simp only [aP,aZ,aS,aG,aH,aI])
     (clear k3 f3 l3;generalize hg:wz.heap.size=g8 at SN ⊢;clear hg;generalize hz:wz.alloc (.cells #[.int .i64 9,.int .i64 20] 3)=wz at SN hHeld ⊢;clear hz;have k3:=SN.out.box (g:=b3) (cs:=(dR z0 z1 z2 z3 z4 nc (.slice C0 P.length c0) (.slice none 0 0) (.slice none 0 0))) (t:=41) mq;have f3:=SN.out.free (g:=b3) (cs:=(dR z0 z1 z2 z3 z4 nc (.slice C0 P.length c0) (.slice none 0 0) (.slice none 0 0))) (t:=41) mq;have l3:=SN.out.boxlt (g:=b3) (cs:=(dR z0 z1 z2 z3 z4 nc (.slice C0 P.length c0) (.slice none 0 0) (.slice none 0 0))) (t:=41) mq)
     refine uQ_norm (bits 15 511) (by kernel_rfl) ?_
     (try clear hHeld)
     (try clear k3)
     (try clear f3)
     (try clear l3)
     revert SN;revert wz;revert g8;revert y6;revert g5;revert y3
     exact A4.out
    refine .cons rfl (by kernel_rfl) (fun K hK=>?_) ?_
    ·go_simp
     (have SN2:=Lib.hid (SN.out.alloc #[.int .i64 9,.int .i64 20] 3);clear SN k3 f3 l3;have SN:=SN2;clear SN2;have k3:=SN.out.box (g:=b3) (cs:=(dR z0 z1 z2 z3 z4 nc (.slice C0 P.length c0) (.slice none 0 0) (.slice none 0 0))) (t:=41) mq;have f3:=SN.out.free (g:=b3) (cs:=(dR z0 z1 z2 z3 z4 nc (.slice C0 P.length c0) (.slice none 0 0) (.slice none 0 0))) (t:=41) mq;have l3:=SN.out.boxlt (g:=b3) (cs:=(dR z0 z1 z2 z3 z4 nc (.slice C0 P.length c0) (.slice none 0 0) (.slice none 0 0))) (t:=41) mq)
     refine hK.out _ _ ?_ (fun hHeld=>?_)
     ·(first | exact k3 7 | go_keep)
     clear hK K
     (try simp only [aP,aZ,aS,aG,aH,aI])
     (clear k3 f3 l3;generalize hg:wz.heap.size=g8 at SN ⊢;clear hg;generalize hz:wz.alloc (.cells #[.int .i64 9,.int .i64 20] 3)=wz at SN hHeld ⊢;clear hz;have k3:=SN.out.box (g:=b3) (cs:=(dR z0 z1 z2 z3 z4 nc (.slice C0 P.length c0) (.slice none 0 0) (.slice none 0 0))) (t:=41) mq;have f3:=SN.out.free (g:=b3) (cs:=(dR z0 z1 z2 z3 z4 nc (.slice C0 P.length c0) (.slice none 0 0) (.slice none 0 0))) (t:=41) mq;have l3:=SN.out.boxlt (g:=b3) (cs:=(dR z0 z1 z2 z3 z4 nc (.slice C0 P.length c0) (.slice none 0 0) (.slice none 0 0))) (t:=41) mq)
     refine uQ_norm (bits 15 447) (by kernel_rfl) ?_
     (try clear hHeld)
     (try clear k3)
     (try clear f3)
     (try clear l3)
     revert SN;revert wz;revert g8;revert g5;revert y3
     exact A3.out
    exact .nil
    refine ⟨?_⟩
    intro y3 g8 wz SN
    have k3:=SN.out.box (g:=b3) (cs:=(dR z0 z1 z2 z3 z4 nc (.slice C0 P.length c0) (.slice none 0 0) (.slice none 0 0))) (t:=41) mq;have f3:=SN.out.free (g:=b3) (cs:=(dR z0 z1 z2 z3 z4 nc (.slice C0 P.length c0) (.slice none 0 0) (.slice none 0 0))) (t:=41) mq;have l3:=SN.out.boxlt (g:=b3) (cs:=(dR z0 z1 z2 z3 z4 nc (.slice C0 P.length c0) (.slice none 0 0) (.slice none 0 0))) (t:=41) mq
    have hHeld:((fun W'=>W'.cell? ⟨b3,7,none⟩=some (.slice none 0 0))) wz:=by (first | exact k3 7 | go_keep)
    refine onu 5 rfl (by kernel_rfl) fun K hK=>?_
    go_simp
    (have SN2:=Lib.hid (SN.out.alloc #[.int .i64 60,.int .i64 100,.int .i64 140] 3);clear SN k3 f3 l3;have SN:=SN2;clear SN2;have k3:=SN.out.box (g:=b3) (cs:=(dR z0 z1 z2 z3 z4 nc (.slice C0 P.length c0) (.slice none 0 0) (.slice none 0 0))) (t:=41) mq;have f3:=SN.out.free (g:=b3) (cs:=(dR z0 z1 z2 z3 z4 nc (.slice C0 P.length c0) (.slice none 0 0) (.slice none 0 0))) (t:=41) mq;have l3:=SN.out.boxlt (g:=b3) (cs:=(dR z0 z1 z2 z3 z4 nc (.slice C0 P.length c0) (.slice none 0 0) (.slice none 0 0))) (t:=41) mq)
    refine hK.out _ _ ?_ (fun hHeld=>?_)
    ·(first | exact k3 7 | go_keep)
    clear hK K
    (try simp only [aP,aZ,aS,aG,aH,aI])
    (clear k3 f3 l3;generalize hg:wz.heap.size=g5 at SN ⊢;clear hg;generalize hz:wz.alloc (.cells #[.int .i64 60,.int .i64 100,.int .i64 140] 3)=wz at SN hHeld ⊢;clear hz;have k3:=SN.out.box (g:=b3) (cs:=(dR z0 z1 z2 z3 z4 nc (.slice C0 P.length c0) (.slice none 0 0) (.slice none 0 0))) (t:=41) mq;have f3:=SN.out.free (g:=b3) (cs:=(dR z0 z1 z2 z3 z4 nc (.slice C0 P.length c0) (.slice none 0 0) (.slice none 0 0))) (t:=41) mq;have l3:=SN.out.boxlt (g:=b3) (cs:=(dR z0 z1 z2 z3 z4 nc (.slice C0 P.length c0) (.slice none 0 0) (.slice none 0 0))) (t:=41) mq)
    (have SN2:=Lib.hid SN.out.rot2;clear SN;have SN:=SN2;clear SN2)
    refine uQ_norm (bits 15 447) (by kernel_rfl) ?_
    (try clear hHeld)
    (try clear k3)
    (try clear f3)
    (try clear l3)
    revert SN;revert wz;revert g8;revert g5;revert y3
    exact A3.out
    refine ⟨?_⟩
    intro g5 g8 wz SN
    have k3:=SN.out.box (g:=b3) (cs:=(dR z0 z1 z2 z3 z4 nc (.slice C0 P.length c0) (.slice none 0 0) (.slice none 0 0))) (t:=41) mq;have f3:=SN.out.free (g:=b3) (cs:=(dR z0 z1 z2 z3 z4 nc (.slice C0 P.length c0) (.slice none 0 0) (.slice none 0 0))) (t:=41) mq;have l3:=SN.out.boxlt (g:=b3) (cs:=(dR z0 z1 z2 z3 z4 nc (.slice C0 P.length c0) (.slice none 0 0) (.slice none 0 0))) (t:=41) mq
    have hHeld:((fun W'=>W'.cell? ⟨b3,7,none⟩=some (.slice none 0 0))) wz:=by (first | exact k3 7 | go_keep)
    refine onu 3 rfl (by kernel_rfl) fun K hK=>?_
    go_simp
    ((go_at_call 133;refine (below_sit SN.out HB.out (by repeat first | exact HM.out | refine .tail _ ?_) _ (by first | decide | omega)).mono ?_;rintro e wz ⟨y3,rfl,hy,SN1,T1⟩;clear hy T1 SN k3 f3 l3;have SN:=Lib.hid SN1;clear SN1;have k3:=SN.out.box (g:=b3) (cs:=(dR z0 z1 z2 z3 z4 nc (.slice C0 P.length c0) (.slice none 0 0) (.slice none 0 0))) (t:=41) mq;have f3:=SN.out.free (g:=b3) (cs:=(dR z0 z1 z2 z3 z4 nc (.slice C0 P.length c0) (.slice none 0 0) (.slice none 0 0))) (t:=41) mq;have l3:=SN.out.boxlt (g:=b3) (cs:=(dR z0 z1 z2 z3 z4 nc (.slice C0 P.length c0) (.slice none 0 0) (.slice none 0 0))) (t:=41) mq))
    refine hK.out _ _ ?_ (fun hHeld=>?_)
    ·(first | exact k3 7 | go_keep)
    clear hK K
    (try simp only [aP,aZ,aS,aG,aH,aI])
    refine uQ_norm (bits 15 447) (by kernel_rfl) ?_
    (try clear hHeld)
    (try clear k3)
    (try clear f3)
    (try clear l3)
    revert SN;revert wz;revert g8;revert g5;revert y3
    exact A3.out
    refine ⟨?_⟩
    intro y3 g5 g8 wz SN
    have k3:=SN.out.box (g:=b3) (cs:=(dR z0 z1 z2 z3 z4 nc (.slice C0 P.length c0) (.slice none 0 0) (.slice none 0 0))) (t:=41) mq;have f3:=SN.out.free (g:=b3) (cs:=(dR z0 z1 z2 z3 z4 nc (.slice C0 P.length c0) (.slice none 0 0) (.slice none 0 0))) (t:=41) mq;have l3:=SN.out.boxlt (g:=b3) (cs:=(dR z0 z1 z2 z3 z4 nc (.slice C0 P.length c0) (.slice none 0 0) (.slice none 0 0))) (t:=41) mq
    have hHeld:((fun W'=>W'.cell? ⟨b3,7,none⟩=some (.slice none 0 0))) wz:=by (first | exact k3 7 | go_keep)
    refine onu 6 rfl (by kernel_rfl) fun K hK=>?_
    go_simp
    ((go_at_call 156;refine (pick_sit SN.out HB.out (by repeat first | exact HM.out | refine .tail _ ?_) (by repeat first | with_reducible exact List.mem_cons_self | with_reducible exact .head _ | refine .tail _ ?_) _ _ (by rfl) (by decide) (by decide) (by simp)).mono ?_;rintro e wz ⟨y6,rfl,SN1,T1⟩;clear T1 SN k3 f3 l3;have SN:=Lib.hid SN1;clear SN1;have k3:=SN.out.box (g:=b3) (cs:=(dR z0 z1 z2 z3 z4 nc (.slice C0 P.length c0) (.slice none 0 0) (.slice none 0 0))) (t:=41) mq;have f3:=SN.out.free (g:=b3) (cs:=(dR z0 z1 z2 z3 z4 nc (.slice C0 P.length c0) (.slice none 0 0) (.slice none 0 0))) (t:=41) mq;have l3:=SN.out.boxlt (g:=b3) (cs:=(dR z0 z1 z2 z3 z4 nc (.slice C0 P.length c0) (.slice none 0 0) (.slice none 0 0))) (t:=41) mq))
    refine hK.out _ _ ?_ (fun hHeld=>?_)
    ·(first | exact k3 7 | go_keep)
    clear hK K
    (try simp only [aP,aZ,aS,aG,aH,aI])
    refine uQ_norm (bits 15 511) (by kernel_rfl) ?_
    (try clear hHeld)
    (try clear k3)
    (try clear f3)
    (try clear l3)
    revert SN;revert wz;revert g8;revert y6;revert g5;revert y3
    exact A4.out
    refine ⟨?_⟩
    intro y3 g5 y6 g8 wz SN
    have k3:=SN.out.box (g:=b3) (cs:=(dR z0 z1 z2 z3 z4 nc (.slice C0 P.length c0) (.slice none 0 0) (.slice none 0 0))) (t:=41) mq;have f3:=SN.out.free (g:=b3) (cs:=(dR z0 z1 z2 z3 z4 nc (.slice C0 P.length c0) (.slice none 0 0) (.slice none 0 0))) (t:=41) mq;have l3:=SN.out.boxlt (g:=b3) (cs:=(dR z0 z1 z2 z3 z4 nc (.slice C0 P.length c0) (.slice none 0 0) (.slice none 0 0))) (t:=41) mq
    have hHeld:((fun W'=>W'.cell? ⟨b3,7,none⟩=some (.slice none 0 0))) wz:=by (first | exact k3 7 | go_keep)
    refine onu 9 rfl (by kernel_rfl) fun K hK=>?_
    go_simp
    ((go_at_call 156;refine (pick_sit SN.out HB.out (by repeat first | exact HM.out | refine .tail _ ?_) (by repeat first | with_reducible exact List.mem_cons_self | with_reducible exact .head _ | refine .tail _ ?_) _ _ (by rfl) (by decide) (by decide) (by simp)).mono ?_;rintro e wz ⟨y9,rfl,SN1,T1⟩;clear T1 SN k3 f3 l3;have SN:=Lib.hid SN1;clear SN1;have k3:=SN.out.box (g:=b3) (cs:=(dR z0 z1 z2 z3 z4 nc (.slice C0 P.length c0) (.slice none 0 0) (.slice none 0 0))) (t:=41) mq;have f3:=SN.out.free (g:=b3) (cs:=(dR z0 z1 z2 z3 z4 nc (.slice C0 P.length c0) (.slice none 0 0) (.slice none 0 0))) (t:=41) mq;have l3:=SN.out.boxlt (g:=b3) (cs:=(dR z0 z1 z2 z3 z4 nc (.slice C0 P.length c0) (.slice none 0 0) (.slice none 0 0))) (t:=41) mq))
    refine hK.out _ _ ?_ (fun hHeld=>?_)
    ·(first | exact k3 7 | go_keep)
    clear hK K
    (try simp only [aP,aZ,aS,aG,aH,aI])
    refine tku (b:=?_) [10] (by kernel_rfl) hHeld ?_ ?_
    rotate_left
    ·repeat first
     |exact .nil
     |refine .yes (v:=?_) rfl (by rfl) ?_ ?_
      rotate_left
      ·intro w9 hSw;(try dsimp only at hSw);go_simp;(try with_reducible rfl)
      (try simp only [aP,aZ,aS,aG,aH,aI])
    refine onu 11 rfl (by kernel_rfl) fun K hK=>?_
    go_simp
    refine hK.out _ _ ?_ (fun hHeld=>?_)
    ·(first | exact k3 7 | go_keep)
    clear hK K
    (try simp only [aP,aZ,aS,aG,aH,aI])
    refine onu 12 rfl (by kernel_rfl) fun K hK=>?_
    (refine sapp_Type (.tmp 67) (.tmp 77) rfl rfl (xs:=[]) (v:=.slice none 0 0) (fp:=[]) (base:=w.heap.size) ⟨7,12,10,11,_,_,_⟩ rfl rfl (heap_alloc_new _ _) rfl (OF_nil _) (by simp) (by have:=SN.out.low.size;first | omega | (simp;done) | (simp;omega)) ?_;intro v7 w7 ha;obtain ⟨g7,S7⟩:=((SN.out.next (by repeat' with_reducible first | assumption | exact bR | apply bD | apply bA | apply bC | apply bN | simp <;> omega)).addNil w.heap.size).app ha;have S8:=Lib.hid S7;obtain ⟨C7,c7,rfl,_⟩:=(S7.list (.head _)).form;simp only [List.length_append,List.length_cons,List.length_nil,Nat.zero_add] at S8;have k3:=S7.box (g:=b3) (cs:=(dR z0 z1 z2 z3 z4 nc (.slice C0 P.length c0) (.slice none 0 0) (.slice none 0 0))) (t:=41) mq;have f3:=S7.free (g:=b3) (cs:=(dR z0 z1 z2 z3 z4 nc (.slice C0 P.length c0) (.slice none 0 0) (.slice none 0 0))) (t:=41) mq;clear S7 ha)
    refine hK.out _ _ ?_ (fun hHeld=>?_)
    ·(first | exact k3 7 | go_keep)
    clear hK K
    (try simp only [aP,aZ,aS,aG,aH,aI])
    refine tku (b:=?_) [13] (by kernel_rfl) hHeld ?_ ?_
    rotate_left
    ·repeat first
     |exact .nil
     |refine .yes (v:=?_) rfl (by rfl) ?_ ?_
      rotate_left
      ·intro w9 hSw;(try dsimp only at hSw);go_simp;(try with_reducible rfl)
      (try simp only [aP,aZ,aS,aG,aH,aI])
    refine lsu 14 rfl (by kernel_rfl) fun K hK=>?_
    go_simp
    refine hK.out _ _ ?_
    clear hK K
    (try simp only [aP,aZ,aS,aG,aH,aI])
    go_wp2_with fail
    go_meet
    exact ⟨_,_,_,Lib.hid ((((S8.out.sub (.cons_cons _ (.cons _ (.cons _ (List.Sublist.refl _))))).rot3.store 7 (.slice C7 1 c7))).ror3)⟩
   case rest =>
    obtain ⟨y,vt,ft,SN2⟩:=hcut
    have SN:=SN2
    clear SN2 k3 f3 l3
    go_wp2_with fail
    refine (below_sit SN.out HB.out ((by repeat (first | exact HM.out | refine List.Mem.tail _ ?_))) _ (by first | decide | omega)).mono ?_;rintro e w1 ⟨z6,rfl,hz6,SN1,T1⟩;have SN2:=Lib.hid SN1;clear SN SN1 T1;have SN:=SN2;clear SN2
    have hz6:=hz6
    obtain ⟨n6,rfl⟩:∃ n:Nat,z6=n:=⟨z6.toNat,by omega⟩
    have hn6:n6≤4:=by omega
    go_wp2
    go_loopw [7] (fun i wr=>∃ (k:Nat) (T:List GType) (vt:Value) (ft:List Nat),k≤n6∧i=.int .i64 k∧T.length=k + 1∧Hid (Sit w wr (fOF GType.cells 142 7 w.heap.size vt T ft::fOF Pair.cells 165 2 w.heap.size (.slice C0 P.length c0) P fp::fBox b3 (dR z0 z1 z2 z3 z4 nc (.slice C0 P.length c0) (vt) (.slice none 0 0)) 41::fBox W.heap.size cZ 41::L))) (fun i _=>n6 - (intOf i).toNat)
    case atStart=>exact ⟨0,[y],_,_,Nat.zero_le _,rfl,rfl,SN⟩
    case round =>
     clear SN
     obtain ⟨k,T,vt,ft,hk,rfl,htl,SN⟩:=hrel
     obtain ⟨Ct,ct,rfl,_⟩:=(SN.out.list (.head _)).form
     have HTL:=Lib.hid htl
     have htn:T.length≤8:=by omega
     clear htl
     by_cases hlt2:k < n6
     ·have k3:=SN.out.box (.tail _ (.tail _ (.head _)))
      have f3:=SN.out.free (.tail _ (.tail _ (.head _)))
      go_wp2_with fail
      refine regu (S:=(fun W'=>W'.cell? ⟨b3,7,none⟩=some (.slice Ct T.length ct))) (by kernel_rfl) (fun _ _ _ _ _=>id) ?_ fun hHeld=>?_
      ·(first | exact k3 7 | go_keep)
      refine tku (b:=?_) [0,1,2,3,4,7,10,13,15,18] (by kernel_rfl) hHeld ?_ ?_
      rotate_left
      ·repeat first
       |exact .nil
       |refine .yes (v:=?_) rfl (by rfl) ?_ ?_
        rotate_left
        ·intro w9 hSw;(try dsimp only at hSw);go_simp;(try with_reducible rfl)
        (try simp only [aP,aZ,aS,aG,aH,aI])
      refine onu 5 rfl (by kernel_rfl) fun K hK=>?_
      go_simp
      ((go_at_call 133;refine Sit.cs SN.out fun SN0=>?_;(try simp only [World.size_alloc,World.size_drew] at SN0);refine (below_sit SN0 HB.out (by repeat first | exact HM.out | refine .tail _ ?_) _ (by first | decide | omega)).mono ?_;rintro e w1 ⟨y,rfl,hy,SN1,T1⟩;have hyy:=hy;have SN2:=Lib.hid SN1;clear SN SN0 SN1 T1;have SN:=SN2;clear SN2;have k3:=SN.out.box (.tail _ (.tail _ (.head _)));have f3:=SN.out.free (.tail _ (.tail _ (.head _)))))
      refine hK.out _ _ ?_ (fun hHeld=>?_)
      ·(first | exact k3 7 | go_keep)
      clear hK K
      (try simp only [aP,aZ,aS,aG,aH,aI])
      refine tku (b:=?_) [6] (by kernel_rfl) hHeld ?_ ?_
      rotate_left
      ·repeat first
       |exact .nil
       |refine .yes (v:=?_) rfl (by rfl) ?_ ?_
        rotate_left
        ·intro w9 hSw;(try dsimp only at hSw);go_simp;(try with_reducible rfl)
        (try simp only [aP,aZ,aS,aG,aH,aI])
      refine onu 8 rfl (by kernel_rfl) fun K hK=>?_
      go_simp
      ((go_at_call 133;refine Sit.cs SN.out fun SN0=>?_;(try simp only [World.size_alloc,World.size_drew] at SN0);refine (below_sit SN0 HB.out (by repeat first | exact HM.out | refine .tail _ ?_) _ (by first | decide | omega)).mono ?_;rintro e w1 ⟨y,rfl,hy,SN1,T1⟩;have hyy:=hy;have SN2:=Lib.hid SN1;clear SN SN0 SN1 T1;have SN:=SN2;clear SN2;have k3:=SN.out.box (.tail _ (.tail _ (.head _)));have f3:=SN.out.free (.tail _ (.tail _ (.head _)))))
      refine hK.out _ _ ?_ (fun hHeld=>?_)
      ·(first | exact k3 7 | go_keep)
      clear hK K
      (try simp only [aP,aZ,aS,aG,aH,aI])
      refine tku (b:=?_) [9] (by kernel_rfl) hHeld ?_ ?_
      rotate_left
      ·repeat first
       |exact .nil
       |refine .yes (v:=?_) rfl (by rfl) ?_ ?_
        rotate_left
        ·intro w9 hSw;(try dsimp only at hSw);go_simp;(try with_reducible rfl)
        (try simp only [aP,aZ,aS,aG,aH,aI])
      refine onu 11 rfl (by kernel_rfl) fun K hK=>?_
      go_simp
      ((go_at_call 133;refine Sit.cs SN.out fun SN0=>?_;(try simp only [World.size_alloc,World.size_drew] at SN0);refine (below_sit SN0 HB.out (by repeat first | exact HM.out | refine .tail _ ?_) _ (by first | decide | omega)).mono ?_;rintro e w1 ⟨y,rfl,hy,SN1,T1⟩;have hyy:=hy;have SN2:=Lib.hid SN1;clear SN SN0 SN1 T1;have SN:=SN2;clear SN2;have k3:=SN.out.box (.tail _ (.tail _ (.head _)));have f3:=SN.out.free (.tail _ (.tail _ (.head _)))))
      refine hK.out _ _ ?_ (fun hHeld=>?_)
      ·(first | exact k3 7 | go_keep)
      clear hK K
      (try simp only [aP,aZ,aS,aG,aH,aI])
      refine tku (b:=?_) [12] (by kernel_rfl) hHeld ?_ ?_
      rotate_left
      ·repeat first
       |exact .nil
       |refine .yes (v:=?_) rfl (by rfl) ?_ ?_
        rotate_left
        ·intro w9 hSw;(try dsimp only at hSw);go_simp;(try with_reducible rfl)
        (try simp only [aP,aZ,aS,aG,aH,aI])
      refine onu 14 rfl (by kernel_rfl) fun K hK=>?_
      go_simp
      ((go_at_call 133;refine Sit.cs SN.out fun SN0=>?_;(try simp only [World.size_alloc,World.size_drew] at SN0);refine (below_sit SN0 HB.out (by repeat first | exact HM.out | refine .tail _ ?_) _ (by first | decide | omega)).mono ?_;rintro e w1 ⟨y,rfl,hy,SN1,T1⟩;have hyy:=hy;have SN2:=Lib.hid SN1;clear SN SN0 SN1 T1;have SN:=SN2;clear SN2;have k3:=SN.out.box (.tail _ (.tail _ (.head _)));have f3:=SN.out.free (.tail _ (.tail _ (.head _)))))
      refine hK.out _ _ ?_ (fun hHeld=>?_)
      ·(first | exact k3 7 | go_keep)
      clear hK K
      (try simp only [aP,aZ,aS,aG,aH,aI])
      refine onu 16 rfl (by kernel_rfl) fun K hK=>?_
      go_simp
      ((go_at_call 133;refine Sit.cs SN.out fun SN0=>?_;(try simp only [World.size_alloc,World.size_drew] at SN0);refine (below_sit SN0 HB.out (by repeat first | exact HM.out | refine .tail _ ?_) _ (by first | decide | omega)).mono ?_;rintro e w1 ⟨y,rfl,hy,SN1,T1⟩;have hyy:=hy;have SN2:=Lib.hid SN1;clear SN SN0 SN1 T1;have SN:=SN2;clear SN2;have k3:=SN.out.box (.tail _ (.tail _ (.head _)));have f3:=SN.out.free (.tail _ (.tail _ (.head _)))))
      refine hK.out _ _ ?_ (fun hHeld=>?_)
      ·(first | exact k3 7 | go_keep)
      clear hK K
      (try simp only [aP,aZ,aS,aG,aH,aI])
      refine tku (b:=?_) [17] (by kernel_rfl) hHeld ?_ ?_
      rotate_left
      ·repeat first
       |exact .nil
       |refine .yes (v:=?_) rfl (by rfl) ?_ ?_
        rotate_left
        ·intro w9 hSw;(try dsimp only at hSw);go_simp;(try with_reducible rfl)
        (try simp only [aP,aZ,aS,aG,aH,aI])
      refine onu 19 rfl (by kernel_rfl) fun K hK=>?_
      go_simp
      ((go_at_call 133;refine Sit.cs SN.out fun SN0=>?_;(try simp only [World.size_alloc,World.size_drew] at SN0);refine (below_sit SN0 HB.out (by repeat first | exact HM.out | refine .tail _ ?_) _ (by first | decide | omega)).mono ?_;rintro e w1 ⟨y,rfl,hy,SN1,T1⟩;have hyy:=hy;have SN2:=Lib.hid SN1;clear SN SN0 SN1 T1;have SN:=SN2;clear SN2;have k3:=SN.out.box (.tail _ (.tail _ (.head _)));have f3:=SN.out.free (.tail _ (.tail _ (.head _)))))
      refine hK.out _ _ ?_ (fun hHeld=>?_)
      ·(first | exact k3 7 | go_keep)
      clear hK K
      (try simp only [aP,aZ,aS,aG,aH,aI])
      refine tku (b:=?_) [20,21] (by kernel_rfl) hHeld ?_ ?_
      rotate_left
      ·repeat first
       |exact .nil
       |refine .yes (v:=?_) rfl (by rfl) ?_ ?_
        rotate_left
        ·intro w9 hSw;(try dsimp only at hSw);go_simp;(try with_reducible rfl)
        (try simp only [aP,aZ,aS,aG,aH,aI])
      refine onu 22 rfl (by kernel_rfl) fun K hK=>?_
      go_simp
      refine hK.out _ _ ?_ (fun hHeld=>?_)
      ·(first | exact k3 7 | go_keep)
      clear hK K
      (try simp only [aP,aZ,aS,aG,aH,aI])
      refine onu 23 rfl (by kernel_rfl) fun K hK=>?_
      (refine sapp_Type (.tmp 88) (.tmp 109) rfl rfl ⟨_,_,_,_,_,_,_⟩ rfl rfl (heap_alloc_new _ _) rfl ((SN.out.list (.head _)).next (by repeat' with_reducible first | assumption | exact bR | apply bD | apply bA | apply bC | apply bN | simp <;> omega)) (by first | omega | (simp;done) | (simp;omega)) (by have:=SN.out.low.size;first | omega | (simp;done) | (simp;omega)) ?_;intro v7 w7 ha;obtain ⟨g7,S7⟩:=(SN.out.next (by repeat' with_reducible first | assumption | exact bR | apply bD | apply bA | apply bC | apply bN | simp <;> omega)).app ha;have S8:=Lib.hid S7;obtain ⟨C7,c7,rfl,_⟩:=(S7.list (.head _)).form;simp only [List.length_append,List.length_cons,List.length_nil,Nat.zero_add] at S8;have k3:=S7.box (.tail _ (.tail _ (.head _)));have f3:=S7.free (.tail _ (.tail _ (.head _)));clear S7 ha)
      refine hK.out _ _ ?_ (fun hHeld=>?_)
      ·(first | exact k3 7 | go_keep)
      clear hK K
      (try simp only [aP,aZ,aS,aG,aH,aI])
      refine tku (b:=?_) [24] (by kernel_rfl) hHeld ?_ ?_
      rotate_left
      ·repeat first
       |exact .nil
       |refine .yes (v:=?_) rfl (by rfl) ?_ ?_
        rotate_left
        ·intro w9 hSw;(try dsimp only at hSw);go_simp;(try with_reducible rfl)
        (try simp only [aP,aZ,aS,aG,aH,aI])
      refine lsu 25 rfl (by kernel_rfl) fun K hK=>?_
      go_simp
      refine hK.out _ _ ?_
      clear hK K
      (try simp only [aP,aZ,aS,aG,aH,aI])
      go_wp2_with fail
      go_roundw
      case rel=>exact ⟨k + 1,_,.slice C7 (T.length + 1) c7,g7,hlt2,by go_num,by simp;exact HTL.out,Lib.hid (S8.out.rot3.store 7 (.slice C7 (T.length + 1) c7)).ror3⟩
      case measure=>simp [intOf] <;> omega
     ·obtain rfl:k=n6:=by omega
      have hT0:0 < T.length:=by have:=HTL.out;omega
      have SN2:=Lib.hid (SN.out.addNil (f:=Item.cells) (e:=152) (K:=7) w.heap.size)
      clear SN
      have SN:=SN2
      clear SN2
      go_wp2_with fail
      refine (below_sit SN.out HB.out ((by repeat (first | exact HM.out | refine List.Mem.tail _ ?_))) _ (by first | decide | omega)).mono ?_;rintro e w1 ⟨z8,rfl,hz8,SN1,T1⟩;have SN2:=Lib.hid SN1;clear SN SN1 T1;have SN:=SN2;clear SN2
      have hz8:=hz8
      obtain ⟨n8,rfl⟩:∃ n:Nat,z8=n:=⟨z8.toNat,by omega⟩
      have hn8:n8≤5:=by omega
      go_wp2
      go_loopw [9,10] (fun nv i wr=>∃ (k:Nat) (I:List Item) (vi:Value) (fi:List Nat) (uu:Int),k≤n8∧i=.int .i64 k∧nv=.int .i64 uu∧I.length≤k∧Hid (Sit w wr (fOF Item.cells 152 7 w.heap.size vi I fi::fOF GType.cells 142 7 w.heap.size (.slice Ct T.length ct) T ft::fOF Pair.cells 165 2 w.heap.size (.slice C0 P.length c0) P fp::fBox b3 (dR z0 z1 z2 z3 z4 nc (.slice C0 P.length c0) (.slice Ct T.length ct) (vi)) 41::fBox W.heap.size cZ 41::L))) (fun _ i _=>n8 - (intOf i).toNat)
      case atStart=>exact ⟨0,[],_,_,0,Nat.zero_le _,rfl,rfl,Nat.le_refl _,SN⟩
      case round =>
       clear SN
       obtain ⟨k,I,vi,fi,uu,hk,rfl,rfl,hil,SN⟩:=hrel
       obtain ⟨Ci,ci,rfl,_⟩:=(SN.out.list (.head _)).form
       by_cases hlt3:k < n8
       ·have k3:=SN.out.box (.tail _ (.tail _ (.tail _ (.head _))))
        have k35:=k3 5
        simp at k35
        clear k3
        go_upto_region 23 with fail
        go_cut [11] (fun v11 X=>∃ (g11:Nat) (x:Item),v11=.pointer (some ⟨g11,0,none⟩)∧Hid (Sit w X (fBox g11 #[.int .i64 x.id,.int .i64 x.w,.int .i64 x.h,.int .i64 x.d,.int .i64 x.gram,.int .i64 x.cls,.int .i64 x.count] 152::fOF Item.cells 152 7 w.heap.size (.slice Ci I.length ci) I fi::fOF GType.cells 142 7 w.heap.size (.slice Ct T.length ct) T ft::fOF Pair.cells 165 2 w.heap.size (.slice C0 P.length c0) P fp::fBox b3 (dR z0 z1 z2 z3 z4 nc (.slice C0 P.length c0) (.slice Ct T.length ct) (.slice Ci I.length ci)) 41::fBox W.heap.size cZ 41::L)))
        case first =>
         refine regu (S:=(fun W'=>W'.cell? ⟨b3,5,none⟩=some (.int .i64 (1 + nc)))) (by kernel_rfl) (fun _ _ _ _ _=>id) ?_ fun hHeld=>?_
         ·(first | assumption | exact k35 | go_keep)
         have SN2:=Lib.hid SN.out.drew;clear SN k35;have SN:=SN2;clear SN2
         generalize hz:wr.drew=wz at SN hHeld ⊢;clear hz
         (try clear k35)
         (try clear kz)
         (try clear fz)
         revert SN
         revert hHeld
         revert wz
         apply share1
         intro A3
         apply share1
         intro A2
         apply share1
         intro A1
         apply share1
         intro A0
         intro wz hHeld SN
         have k3:=SN.out.box (g:=b3) (cs:=(dR z0 z1 z2 z3 z4 nc (.slice C0 P.length c0) (.slice Ct T.length ct) (.slice Ci I.length ci))) (t:=41) mq;have k35:=k3 5;simp at k35;clear k3;(try (have kz:=SN.out.box (t:=152) (.head _);have fz:=SN.out.free (t:=152) (.head _)))
         refine tku (b:=?_) [0,1,2,5,8,11,14,15,16,18] (by kernel_rfl) hHeld ?_ ?_
         rotate_left
         ·repeat first
          |exact .nil
          |refine .yes (v:=?_) rfl (by rfl) ?_ ?_
           rotate_left
           ·intro w9 hSw;(try dsimp only at hSw);go_simp;(try with_reducible rfl)
           (try simp only [aP,aZ,aS,aG,aH,aI])
         refine smu [3,22] (by kernel_rfl) ?_
         refine .cons rfl (by kernel_rfl) (fun K hK=>?_) ?_
         ·go_simp
          ((go_at_call 133;refine (below_sit SN.out HB.out (by repeat first | exact HM.out | refine .tail _ ?_) _ (by first | decide | omega)).mono ?_;rintro e wz ⟨y3,rfl,hy,SN1,T1⟩;clear hy T1 SN k35;(try clear kz fz);have SN:=Lib.hid SN1;clear SN1;have k3:=SN.out.box (g:=b3) (cs:=(dR z0 z1 z2 z3 z4 nc (.slice C0 P.length c0) (.slice Ct T.length ct) (.slice Ci I.length ci))) (t:=41) mq;have k35:=k3 5;simp at k35;clear k3;(try (have kz:=SN.out.box (t:=152) (.head _);have fz:=SN.out.free (t:=152) (.head _)))))
          refine hK.out _ _ ?_ (fun hHeld=>?_)
          ·(first | assumption | exact k35 | go_keep)
          clear hK K
          (try simp only [aP,aZ,aS,aG,aH,aI])
          refine tku (b:=?_) [4] (by kernel_rfl) hHeld ?_ ?_
          rotate_left
          ·repeat first
           |exact .nil
           |refine .yes (v:=?_) rfl (by rfl) ?_ ?_
            rotate_left
            ·intro w9 hSw;(try dsimp only at hSw);go_simp;(try with_reducible rfl)
            (try simp only [aP,aZ,aS,aG,aH,aI])
          refine smu [6,22] (by kernel_rfl) ?_
          refine .cons rfl (by kernel_rfl) (fun K hK=>?_) ?_
          ·go_simp
           ((go_at_call 133;refine (below_sit SN.out HB.out (by repeat first | exact HM.out | refine .tail _ ?_) _ (by first | decide | omega)).mono ?_;rintro e wz ⟨y6,rfl,hy,SN1,T1⟩;clear hy T1 SN k35;(try clear kz fz);have SN:=Lib.hid SN1;clear SN1;have k3:=SN.out.box (g:=b3) (cs:=(dR z0 z1 z2 z3 z4 nc (.slice C0 P.length c0) (.slice Ct T.length ct) (.slice Ci I.length ci))) (t:=41) mq;have k35:=k3 5;simp at k35;clear k3;(try (have kz:=SN.out.box (t:=152) (.head _);have fz:=SN.out.free (t:=152) (.head _)))))
           refine hK.out _ _ ?_ (fun hHeld=>?_)
           ·(first | assumption | exact k35 | go_keep)
           clear hK K
           (try simp only [aP,aZ,aS,aG,aH,aI])
           refine tku (b:=?_) [7] (by kernel_rfl) hHeld ?_ ?_
           rotate_left
           ·repeat first
            |exact .nil
            |refine .yes (v:=?_) rfl (by rfl) ?_ ?_
             rotate_left
             ·intro w9 hSw;(try dsimp only at hSw);go_simp;(try with_reducible rfl)
             (try simp only [aP,aZ,aS,aG,aH,aI])
           refine smu [9,22] (by kernel_rfl) ?_
           refine .cons rfl (by kernel_rfl) (fun K hK=>?_) ?_
           ·go_simp
            ((go_at_call 133;refine (below_sit SN.out HB.out (by repeat first | exact HM.out | refine .tail _ ?_) _ (by first | decide | omega)).mono ?_;rintro e wz ⟨y9,rfl,hy,SN1,T1⟩;clear hy T1 SN k35;(try clear kz fz);have SN:=Lib.hid SN1;clear SN1;have k3:=SN.out.box (g:=b3) (cs:=(dR z0 z1 z2 z3 z4 nc (.slice C0 P.length c0) (.slice Ct T.length ct) (.slice Ci I.length ci))) (t:=41) mq;have k35:=k3 5;simp at k35;clear k3;(try (have kz:=SN.out.box (t:=152) (.head _);have fz:=SN.out.free (t:=152) (.head _)))))
            refine hK.out _ _ ?_ (fun hHeld=>?_)
            ·(first | assumption | exact k35 | go_keep)
            clear hK K
            (try simp only [aP,aZ,aS,aG,aH,aI])
            refine tku (b:=?_) [10] (by kernel_rfl) hHeld ?_ ?_
            rotate_left
            ·repeat first
             |exact .nil
             |refine .yes (v:=?_) rfl (by rfl) ?_ ?_
              rotate_left
              ·intro w9 hSw;(try dsimp only at hSw);go_simp;(try with_reducible rfl)
              (try simp only [aP,aZ,aS,aG,aH,aI])
            refine smu [12,22] (by kernel_rfl) ?_
            refine .cons rfl (by kernel_rfl) (fun K hK=>?_) ?_
            ·go_simp
             ((go_at_call 133;refine (below_sit SN.out HB.out (by repeat first | exact HM.out | refine .tail _ ?_) _ (by first | decide | omega)).mono ?_;rintro e wz ⟨y12,rfl,hy,SN1,T1⟩;clear hy T1 SN k35;(try clear kz fz);have SN:=Lib.hid SN1;clear SN1;have k3:=SN.out.box (g:=b3) (cs:=(dR z0 z1 z2 z3 z4 nc (.slice C0 P.length c0) (.slice Ct T.length ct) (.slice Ci I.length ci))) (t:=41) mq;have k35:=k3 5;simp at k35;clear k3;(try (have kz:=SN.out.box (t:=152) (.head _);have fz:=SN.out.free (t:=152) (.head _)))))
             refine hK.out _ _ ?_ (fun hHeld=>?_)
             ·(first | assumption | exact k35 | go_keep)
             clear hK K
             (try simp only [aP,aZ,aS,aG,aH,aI])
             refine tku (b:=?_) [13] (by kernel_rfl) hHeld ?_ ?_
             rotate_left
             ·repeat first
              |exact .nil
              |refine .yes (v:=?_) rfl (by rfl) ?_ ?_
               rotate_left
               ·intro w9 hSw;(try dsimp only at hSw);go_simp;(try with_reducible rfl)
               (try simp only [aP,aZ,aS,aG,aH,aI])
             refine smu [17,22] (by kernel_rfl) ?_
             refine .cons rfl (by kernel_rfl) (fun K hK=>?_) ?_
             ·go_simp
              ((go_at_call 133;refine (below_sit SN.out HB.out (by repeat first | exact HM.out | refine .tail _ ?_) _ (by first | decide | omega)).mono ?_;rintro e wz ⟨y17,rfl,hy,SN1,T1⟩;clear hy T1 SN k35;(try clear kz fz);have SN:=Lib.hid SN1;clear SN1;have k3:=SN.out.box (g:=b3) (cs:=(dR z0 z1 z2 z3 z4 nc (.slice C0 P.length c0) (.slice Ct T.length ct) (.slice Ci I.length ci))) (t:=41) mq;have k35:=k3 5;simp at k35;clear k3;(try (have kz:=SN.out.box (t:=152) (.head _);have fz:=SN.out.free (t:=152) (.head _)))))
              refine hK.out _ _ ?_ (fun hHeld=>?_)
              ·(first | assumption | exact k35 | go_keep)
              clear hK K
              (try simp only [aP,aZ,aS,aG,aH,aI])
              refine smu [19,22] (by kernel_rfl) ?_
              refine .cons rfl (by kernel_rfl) (fun K hK=>?_) ?_
              ·go_simp
               ((go_at_call 133;refine (below_sit SN.out HB.out (by repeat first | exact HM.out | refine .tail _ ?_) _ (by first | decide | omega)).mono ?_;rintro e wz ⟨y19,rfl,hy,SN1,T1⟩;clear hy T1 SN k35;(try clear kz fz);have SN:=Lib.hid SN1;clear SN1;have k3:=SN.out.box (g:=b3) (cs:=(dR z0 z1 z2 z3 z4 nc (.slice C0 P.length c0) (.slice Ct T.length ct) (.slice Ci I.length ci))) (t:=41) mq;have k35:=k3 5;simp at k35;clear k3;(try (have kz:=SN.out.box (t:=152) (.head _);have fz:=SN.out.free (t:=152) (.head _)))))
               refine hK.out _ _ ?_ (fun hHeld=>?_)
               ·(first | assumption | exact k35 | go_keep)
               clear hK K
               (try simp only [aP,aZ,aS,aG,aH,aI])
               refine tku (b:=?_) [20,21] (by kernel_rfl) hHeld ?_ ?_
               rotate_left
               ·repeat first
                |exact .nil
                |refine .yes (v:=?_) rfl (by rfl) ?_ ?_
                 rotate_left
                 ·intro w9 hSw;(try dsimp only at hSw);go_simp;(try with_reducible rfl)
                 (try simp only [aP,aZ,aS,aG,aH,aI])
               refine onu 22 rfl (by kernel_rfl) fun K hK=>?_
               go_simp
               (have SN2:=Lib.hid (SN.out.alloc #[.int .i64 0,.int .i64 0,.int .i64 0,.int .i64 0,.int .i64 0,.int .i64 0,.int .i64 0] 152);clear SN k35;have SN:=SN2;clear SN2;have k3:=SN.out.box (g:=b3) (cs:=(dR z0 z1 z2 z3 z4 nc (.slice C0 P.length c0) (.slice Ct T.length ct) (.slice Ci I.length ci))) (t:=41) mq;have k35:=k3 5;simp at k35;clear k3;(try (have kz:=SN.out.box (t:=152) (.head _);have fz:=SN.out.free (t:=152) (.head _))))
               refine hK.out _ _ ?_ (fun hHeld=>?_)
               ·(first | assumption | exact k35 | go_keep)
               clear hK K
               (try simp only [aP,aZ,aS,aG,aH,aI])
               (clear k35;(try clear kz fz);generalize hg:wz.heap.size=g22 at SN ⊢;clear hg;generalize hz:wz.alloc (.cells #[.int .i64 0,.int .i64 0,.int .i64 0,.int .i64 0,.int .i64 0,.int .i64 0,.int .i64 0] 152)=wz at SN hHeld ⊢;clear hz;have k3:=SN.out.box (g:=b3) (cs:=(dR z0 z1 z2 z3 z4 nc (.slice C0 P.length c0) (.slice Ct T.length ct) (.slice Ci I.length ci))) (t:=41) mq;have k35:=k3 5;simp at k35;clear k3;(try (have kz:=SN.out.box (t:=152) (.head _);have fz:=SN.out.free (t:=152) (.head _))))
               refine lsu 23 rfl (by kernel_rfl) fun K hK=>?_
               go_simp
               refine hK.out _ _ ?_
               clear hK K
               (try simp only [aP,aZ,aS,aG,aH,aI])
               go_wp2_with fail
               go_meet
               exact ⟨_,⟨_,_,_,_,_,_,_⟩,rfl,Lib.hid (SN.out.overL [.int .i64 _,.int .i64 _,.int .i64 _,.int .i64 _,.int .i64 _,.int .i64 _,.int .i64 _] 0)⟩
              refine .cons rfl (by kernel_rfl) (fun K hK=>?_) ?_
              ·go_simp
               (have SN2:=Lib.hid (SN.out.alloc #[.int .i64 0,.int .i64 0,.int .i64 0,.int .i64 0,.int .i64 0,.int .i64 0,.int .i64 0] 152);clear SN k35;have SN:=SN2;clear SN2;have k3:=SN.out.box (g:=b3) (cs:=(dR z0 z1 z2 z3 z4 nc (.slice C0 P.length c0) (.slice Ct T.length ct) (.slice Ci I.length ci))) (t:=41) mq;have k35:=k3 5;simp at k35;clear k3;(try (have kz:=SN.out.box (t:=152) (.head _);have fz:=SN.out.free (t:=152) (.head _))))
               refine hK.out _ _ ?_ (fun hHeld=>?_)
               ·(first | assumption | exact k35 | go_keep)
               clear hK K
               (try simp only [aP,aZ,aS,aG,aH,aI])
               (clear k35;(try clear kz fz);generalize hg:wz.heap.size=g22 at SN ⊢;clear hg;generalize hz:wz.alloc (.cells #[.int .i64 0,.int .i64 0,.int .i64 0,.int .i64 0,.int .i64 0,.int .i64 0,.int .i64 0] 152)=wz at SN hHeld ⊢;clear hz;have k3:=SN.out.box (g:=b3) (cs:=(dR z0 z1 z2 z3 z4 nc (.slice C0 P.length c0) (.slice Ct T.length ct) (.slice Ci I.length ci))) (t:=41) mq;have k35:=k3 5;simp at k35;clear k3;(try (have kz:=SN.out.box (t:=152) (.head _);have fz:=SN.out.free (t:=152) (.head _))))
               refine uQ_norm (bits 24 4718591) (by kernel_rfl) ?_
               (try clear hHeld)
               (try clear k35)
               (try clear kz)
               (try clear fz)
               revert SN;revert wz;revert g22;revert y17;revert y12;revert y9;revert y6;revert y3
               exact A3.out
              exact .nil
             refine .cons rfl (by kernel_rfl) (fun K hK=>?_) ?_
             ·go_simp
              (have SN2:=Lib.hid (SN.out.alloc #[.int .i64 0,.int .i64 0,.int .i64 0,.int .i64 0,.int .i64 0,.int .i64 0,.int .i64 0] 152);clear SN k35;have SN:=SN2;clear SN2;have k3:=SN.out.box (g:=b3) (cs:=(dR z0 z1 z2 z3 z4 nc (.slice C0 P.length c0) (.slice Ct T.length ct) (.slice Ci I.length ci))) (t:=41) mq;have k35:=k3 5;simp at k35;clear k3;(try (have kz:=SN.out.box (t:=152) (.head _);have fz:=SN.out.free (t:=152) (.head _))))
              refine hK.out _ _ ?_ (fun hHeld=>?_)
              ·(first | assumption | exact k35 | go_keep)
              clear hK K
              (try simp only [aP,aZ,aS,aG,aH,aI])
              (clear k35;(try clear kz fz);generalize hg:wz.heap.size=g22 at SN ⊢;clear hg;generalize hz:wz.alloc (.cells #[.int .i64 0,.int .i64 0,.int .i64 0,.int .i64 0,.int .i64 0,.int .i64 0,.int .i64 0] 152)=wz at SN hHeld ⊢;clear hz;have k3:=SN.out.box (g:=b3) (cs:=(dR z0 z1 z2 z3 z4 nc (.slice C0 P.length c0) (.slice Ct T.length ct) (.slice Ci I.length ci))) (t:=41) mq;have k35:=k3 5;simp at k35;clear k3;(try (have kz:=SN.out.box (t:=152) (.head _);have fz:=SN.out.free (t:=152) (.head _))))
              refine onu 17 rfl (by kernel_rfl) fun K hK=>?_
              go_simp
              ((go_at_call 133;refine (below_sit SN.out HB.out (by repeat first | exact HM.out | refine .tail _ ?_) _ (by first | decide | omega)).mono ?_;rintro e wz ⟨y17,rfl,hy,SN1,T1⟩;clear hy T1 SN k35;(try clear kz fz);have SN:=Lib.hid SN1;clear SN1;have k3:=SN.out.box (g:=b3) (cs:=(dR z0 z1 z2 z3 z4 nc (.slice C0 P.length c0) (.slice Ct T.length ct) (.slice Ci I.length ci))) (t:=41) mq;have k35:=k3 5;simp at k35;clear k3;(try (have kz:=SN.out.box (t:=152) (.head _);have fz:=SN.out.free (t:=152) (.head _)))))
              refine hK.out _ _ ?_ (fun hHeld=>?_)
              ·(first | assumption | exact k35 | go_keep)
              clear hK K
              (try simp only [aP,aZ,aS,aG,aH,aI])
              refine uQ_norm (bits 24 4718591) (by kernel_rfl) ?_
              (try clear hHeld)
              (try clear k35)
              (try clear kz)
              (try clear fz)
              revert SN;revert wz;revert g22;revert y17;revert y12;revert y9;revert y6;revert y3
              exact A3.out
             exact .nil
            refine .cons rfl (by kernel_rfl) (fun K hK=>?_) ?_
            ·go_simp
             (have SN2:=Lib.hid (SN.out.alloc #[.int .i64 0,.int .i64 0,.int .i64 0,.int .i64 0,.int .i64 0,.int .i64 0,.int .i64 0] 152);clear SN k35;have SN:=SN2;clear SN2;have k3:=SN.out.box (g:=b3) (cs:=(dR z0 z1 z2 z3 z4 nc (.slice C0 P.length c0) (.slice Ct T.length ct) (.slice Ci I.length ci))) (t:=41) mq;have k35:=k3 5;simp at k35;clear k3;(try (have kz:=SN.out.box (t:=152) (.head _);have fz:=SN.out.free (t:=152) (.head _))))
             refine hK.out _ _ ?_ (fun hHeld=>?_)
             ·(first | assumption | exact k35 | go_keep)
             clear hK K
             (try simp only [aP,aZ,aS,aG,aH,aI])
             (clear k35;(try clear kz fz);generalize hg:wz.heap.size=g22 at SN ⊢;clear hg;generalize hz:wz.alloc (.cells #[.int .i64 0,.int .i64 0,.int .i64 0,.int .i64 0,.int .i64 0,.int .i64 0,.int .i64 0] 152)=wz at SN hHeld ⊢;clear hz;have k3:=SN.out.box (g:=b3) (cs:=(dR z0 z1 z2 z3 z4 nc (.slice C0 P.length c0) (.slice Ct T.length ct) (.slice Ci I.length ci))) (t:=41) mq;have k35:=k3 5;simp at k35;clear k3;(try (have kz:=SN.out.box (t:=152) (.head _);have fz:=SN.out.free (t:=152) (.head _))))
             refine onu 12 rfl (by kernel_rfl) fun K hK=>?_
             go_simp
             ((go_at_call 133;refine (below_sit SN.out HB.out (by repeat first | exact HM.out | refine .tail _ ?_) _ (by first | decide | omega)).mono ?_;rintro e wz ⟨y12,rfl,hy,SN1,T1⟩;clear hy T1 SN k35;(try clear kz fz);have SN:=Lib.hid SN1;clear SN1;have k3:=SN.out.box (g:=b3) (cs:=(dR z0 z1 z2 z3 z4 nc (.slice C0 P.length c0) (.slice Ct T.length ct) (.slice Ci I.length ci))) (t:=41) mq;have k35:=k3 5;simp at k35;clear k3;(try (have kz:=SN.out.box (t:=152) (.head _);have fz:=SN.out.free (t:=152) (.head _)))))
             refine hK.out _ _ ?_ (fun hHeld=>?_)
             ·(first | assumption | exact k35 | go_keep)
             clear hK K
             (try simp only [aP,aZ,aS,aG,aH,aI])
             refine uQ_norm (bits 24 4579327) (by kernel_rfl) ?_
             (try clear hHeld)
             (try clear k35)
             (try clear kz)
             (try clear fz)
             revert SN;revert wz;revert g22;revert y12;revert y9;revert y6;revert y3
             exact A2.out
            exact .nil
           refine .cons rfl (by kernel_rfl) (fun K hK=>?_) ?_
           ·go_simp
            (have SN2:=Lib.hid (SN.out.alloc #[.int .i64 0,.int .i64 0,.int .i64 0,.int .i64 0,.int .i64 0,.int .i64 0,.int .i64 0] 152);clear SN k35;have SN:=SN2;clear SN2;have k3:=SN.out.box (g:=b3) (cs:=(dR z0 z1 z2 z3 z4 nc (.slice C0 P.length c0) (.slice Ct T.length ct) (.slice Ci I.length ci))) (t:=41) mq;have k35:=k3 5;simp at k35;clear k3;(try (have kz:=SN.out.box (t:=152) (.head _);have fz:=SN.out.free (t:=152) (.head _))))
            refine hK.out _ _ ?_ (fun hHeld=>?_)
            ·(first | assumption | exact k35 | go_keep)
            clear hK K
            (try simp only [aP,aZ,aS,aG,aH,aI])
            (clear k35;(try clear kz fz);generalize hg:wz.heap.size=g22 at SN ⊢;clear hg;generalize hz:wz.alloc (.cells #[.int .i64 0,.int .i64 0,.int .i64 0,.int .i64 0,.int .i64 0,.int .i64 0,.int .i64 0] 152)=wz at SN hHeld ⊢;clear hz;have k3:=SN.out.box (g:=b3) (cs:=(dR z0 z1 z2 z3 z4 nc (.slice C0 P.length c0) (.slice Ct T.length ct) (.slice Ci I.length ci))) (t:=41) mq;have k35:=k3 5;simp at k35;clear k3;(try (have kz:=SN.out.box (t:=152) (.head _);have fz:=SN.out.free (t:=152) (.head _))))
            refine onu 9 rfl (by kernel_rfl) fun K hK=>?_
            go_simp
            ((go_at_call 133;refine (below_sit SN.out HB.out (by repeat first | exact HM.out | refine .tail _ ?_) _ (by first | decide | omega)).mono ?_;rintro e wz ⟨y9,rfl,hy,SN1,T1⟩;clear hy T1 SN k35;(try clear kz fz);have SN:=Lib.hid SN1;clear SN1;have k3:=SN.out.box (g:=b3) (cs:=(dR z0 z1 z2 z3 z4 nc (.slice C0 P.length c0) (.slice Ct T.length ct) (.slice Ci I.length ci))) (t:=41) mq;have k35:=k3 5;simp at k35;clear k3;(try (have kz:=SN.out.box (t:=152) (.head _);have fz:=SN.out.free (t:=152) (.head _)))))
            refine hK.out _ _ ?_ (fun hHeld=>?_)
            ·(first | assumption | exact k35 | go_keep)
            clear hK K
            (try simp only [aP,aZ,aS,aG,aH,aI])
            refine uQ_norm (bits 24 4574207) (by kernel_rfl) ?_
            (try clear hHeld)
            (try clear k35)
            (try clear kz)
            (try clear fz)
            revert SN;revert wz;revert g22;revert y9;revert y6;revert y3
            exact A1.out
           exact .nil
          refine .cons rfl (by kernel_rfl) (fun K hK=>?_) ?_
          ·go_simp
           (have SN2:=Lib.hid (SN.out.alloc #[.int .i64 0,.int .i64 0,.int .i64 0,.int .i64 0,.int .i64 0,.int .i64 0,.int .i64 0] 152);clear SN k35;have SN:=SN2;clear SN2;have k3:=SN.out.box (g:=b3) (cs:=(dR z0 z1 z2 z3 z4 nc (.slice C0 P.length c0) (.slice Ct T.length ct) (.slice Ci I.length ci))) (t:=41) mq;have k35:=k3 5;simp at k35;clear k3;(try (have kz:=SN.out.box (t:=152) (.head _);have fz:=SN.out.free (t:=152) (.head _))))
           refine hK.out _ _ ?_ (fun hHeld=>?_)
           ·(first | assumption | exact k35 | go_keep)
           clear hK K
           (try simp only [aP,aZ,aS,aG,aH,aI])
           (clear k35;(try clear kz fz);generalize hg:wz.heap.size=g22 at SN ⊢;clear hg;generalize hz:wz.alloc (.cells #[.int .i64 0,.int .i64 0,.int .i64 0,.int .i64 0,.int .i64 0,.int .i64 0,.int .i64 0] 152)=wz at SN hHeld ⊢;clear hz;have k3:=SN.out.box (g:=b3) (cs:=(dR z0 z1 z2 z3 z4 nc (.slice C0 P.length c0) (.slice Ct T.length ct) (.slice Ci I.length ci))) (t:=41) mq;have k35:=k3 5;simp at k35;clear k3;(try (have kz:=SN.out.box (t:=152) (.head _);have fz:=SN.out.free (t:=152) (.head _))))
           refine onu 6 rfl (by kernel_rfl) fun K hK=>?_
           go_simp
           ((go_at_call 133;refine (below_sit SN.out HB.out (by repeat first | exact HM.out | refine .tail _ ?_) _ (by first | decide | omega)).mono ?_;rintro e wz ⟨y6,rfl,hy,SN1,T1⟩;clear hy T1 SN k35;(try clear kz fz);have SN:=Lib.hid SN1;clear SN1;have k3:=SN.out.box (g:=b3) (cs:=(dR z0 z1 z2 z3 z4 nc (.slice C0 P.length c0) (.slice Ct T.length ct) (.slice Ci I.length ci))) (t:=41) mq;have k35:=k3 5;simp at k35;clear k3;(try (have kz:=SN.out.box (t:=152) (.head _);have fz:=SN.out.free (t:=152) (.head _)))))
           refine hK.out _ _ ?_ (fun hHeld=>?_)
           ·(first | assumption | exact k35 | go_keep)
           clear hK K
           (try simp only [aP,aZ,aS,aG,aH,aI])
           refine uQ_norm (bits 24 4573567) (by kernel_rfl) ?_
           (try clear hHeld)
           (try clear k35)
           (try clear kz)
           (try clear fz)
           revert SN;revert wz;revert g22;revert y6;revert y3
           exact A0.out
          exact .nil
         refine .cons rfl (by kernel_rfl) (fun K hK=>?_) ?_
         ·go_simp
          (have SN2:=Lib.hid (SN.out.alloc #[.int .i64 0,.int .i64 0,.int .i64 0,.int .i64 0,.int .i64 0,.int .i64 0,.int .i64 0] 152);clear SN k35;have SN:=SN2;clear SN2;have k3:=SN.out.box (g:=b3) (cs:=(dR z0 z1 z2 z3 z4 nc (.slice C0 P.length c0) (.slice Ct T.length ct) (.slice Ci I.length ci))) (t:=41) mq;have k35:=k3 5;simp at k35;clear k3;(try (have kz:=SN.out.box (t:=152) (.head _);have fz:=SN.out.free (t:=152) (.head _))))
          refine hK.out _ _ ?_ (fun hHeld=>?_)
          ·(first | assumption | exact k35 | go_keep)
          clear hK K
          (try simp only [aP,aZ,aS,aG,aH,aI])
          (clear k35;(try clear kz fz);generalize hg:wz.heap.size=g22 at SN ⊢;clear hg;generalize hz:wz.alloc (.cells #[.int .i64 0,.int .i64 0,.int .i64 0,.int .i64 0,.int .i64 0,.int .i64 0,.int .i64 0] 152)=wz at SN hHeld ⊢;clear hz;have k3:=SN.out.box (g:=b3) (cs:=(dR z0 z1 z2 z3 z4 nc (.slice C0 P.length c0) (.slice Ct T.length ct) (.slice Ci I.length ci))) (t:=41) mq;have k35:=k3 5;simp at k35;clear k3;(try (have kz:=SN.out.box (t:=152) (.head _);have fz:=SN.out.free (t:=152) (.head _))))
          refine onu 3 rfl (by kernel_rfl) fun K hK=>?_
          go_simp
          ((go_at_call 133;refine (below_sit SN.out HB.out (by repeat first | exact HM.out | refine .tail _ ?_) _ (by first | decide | omega)).mono ?_;rintro e wz ⟨y3,rfl,hy,SN1,T1⟩;clear hy T1 SN k35;(try clear kz fz);have SN:=Lib.hid SN1;clear SN1;have k3:=SN.out.box (g:=b3) (cs:=(dR z0 z1 z2 z3 z4 nc (.slice C0 P.length c0) (.slice Ct T.length ct) (.slice Ci I.length ci))) (t:=41) mq;have k35:=k3 5;simp at k35;clear k3;(try (have kz:=SN.out.box (t:=152) (.head _);have fz:=SN.out.free (t:=152) (.head _)))))
          refine hK.out _ _ ?_ (fun hHeld=>?_)
          ·(first | assumption | exact k35 | go_keep)
          clear hK K
          (try simp only [aP,aZ,aS,aG,aH,aI])
          refine tku (b:=?_) [4] (by kernel_rfl) hHeld ?_ ?_
          rotate_left
          ·repeat first
           |exact .nil
           |refine .yes (v:=?_) rfl (by rfl) ?_ ?_
            rotate_left
            ·intro w9 hSw;(try dsimp only at hSw);go_simp;(try with_reducible rfl)
            (try simp only [aP,aZ,aS,aG,aH,aI])
          refine onu 6 rfl (by kernel_rfl) fun K hK=>?_
          go_simp
          ((go_at_call 133;refine (below_sit SN.out HB.out (by repeat first | exact HM.out | refine .tail _ ?_) _ (by first | decide | omega)).mono ?_;rintro e wz ⟨y6,rfl,hy,SN1,T1⟩;clear hy T1 SN k35;(try clear kz fz);have SN:=Lib.hid SN1;clear SN1;have k3:=SN.out.box (g:=b3) (cs:=(dR z0 z1 z2 z3 z4 nc (.slice C0 P.length c0) (.slice Ct T.length ct) (.slice Ci I.length ci))) (t:=41) mq;have k35:=k3 5;simp at k35;clear k3;(try (have kz:=SN.out.box (t:=152) (.head _);have fz:=SN.out.free (t:=152) (.head _)))))
          refine hK.out _ _ ?_ (fun hHeld=>?_)
          ·(first | assumption | exact k35 | go_keep)
          clear hK K
          (try simp only [aP,aZ,aS,aG,aH,aI])
          refine uQ_norm (bits 24 4573567) (by kernel_rfl) ?_
          (try clear hHeld)
          (try clear k35)
          (try clear kz)
          (try clear fz)
          revert SN;revert wz;revert g22;revert y6;revert y3
          exact A0.out
         exact .nil
         refine ⟨?_⟩
         intro y3 y6 g22 wz SN
         have k3:=SN.out.box (g:=b3) (cs:=(dR z0 z1 z2 z3 z4 nc (.slice C0 P.length c0) (.slice Ct T.length ct) (.slice Ci I.length ci))) (t:=41) mq;have k35:=k3 5;simp at k35;clear k3;(try (have kz:=SN.out.box (t:=152) (.head _);have fz:=SN.out.free (t:=152) (.head _)))
         have hHeld:((fun W'=>W'.cell? ⟨b3,5,none⟩=some (.int .i64 (1 + nc)))) wz:=by (first | assumption | exact k35 | go_keep)
         refine tku (b:=?_) [7] (by kernel_rfl) hHeld ?_ ?_
         rotate_left
         ·repeat first
          |exact .nil
          |refine .yes (v:=?_) rfl (by rfl) ?_ ?_
           rotate_left
           ·intro w9 hSw;(try dsimp only at hSw);go_simp;(try with_reducible rfl)
           (try simp only [aP,aZ,aS,aG,aH,aI])
         refine onu 9 rfl (by kernel_rfl) fun K hK=>?_
         go_simp
         ((go_at_call 133;refine (below_sit SN.out HB.out (by repeat first | exact HM.out | refine .tail _ ?_) _ (by first | decide | omega)).mono ?_;rintro e wz ⟨y9,rfl,hy,SN1,T1⟩;clear hy T1 SN k35;(try clear kz fz);have SN:=Lib.hid SN1;clear SN1;have k3:=SN.out.box (g:=b3) (cs:=(dR z0 z1 z2 z3 z4 nc (.slice C0 P.length c0) (.slice Ct T.length ct) (.slice Ci I.length ci))) (t:=41) mq;have k35:=k3 5;simp at k35;clear k3;(try (have kz:=SN.out.box (t:=152) (.head _);have fz:=SN.out.free (t:=152) (.head _)))))
         refine hK.out _ _ ?_ (fun hHeld=>?_)
         ·(first | assumption | exact k35 | go_keep)
         clear hK K
         (try simp only [aP,aZ,aS,aG,aH,aI])
         refine uQ_norm (bits 24 4574207) (by kernel_rfl) ?_
         (try clear hHeld)
         (try clear k35)
         (try clear kz)
         (try clear fz)
         revert SN;revert wz;revert g22;revert y9;revert y6;revert y3
         exact A1.out
         refine ⟨?_⟩
         intro y3 y6 y9 g22 wz SN
         have k3:=SN.out.box (g:=b3) (cs:=(dR z0 z1 z2 z3 z4 nc (.slice C0 P.length c0) (.slice Ct T.length ct) (.slice Ci I.length ci))) (t:=41) mq;have k35:=k3 5;simp at k35;clear k3;(try (have kz:=SN.out.box (t:=152) (.head _);have fz:=SN.out.free (t:=152) (.head _)))
         have hHeld:((fun W'=>W'.cell? ⟨b3,5,none⟩=some (.int .i64 (1 + nc)))) wz:=by (first | assumption | exact k35 | go_keep)
         refine tku (b:=?_) [10] (by kernel_rfl) hHeld ?_ ?_
         rotate_left
         ·repeat first
          |exact .nil
          |refine .yes (v:=?_) rfl (by rfl) ?_ ?_
           rotate_left
           ·intro w9 hSw;(try dsimp only at hSw);go_simp;(try with_reducible rfl)
           (try simp only [aP,aZ,aS,aG,aH,aI])
         refine onu 12 rfl (by kernel_rfl) fun K hK=>?_
         go_simp
         ((go_at_call 133;refine (below_sit SN.out HB.out (by repeat first | exact HM.out | refine .tail _ ?_) _ (by first | decide | omega)).mono ?_;rintro e wz ⟨y12,rfl,hy,SN1,T1⟩;clear hy T1 SN k35;(try clear kz fz);have SN:=Lib.hid SN1;clear SN1;have k3:=SN.out.box (g:=b3) (cs:=(dR z0 z1 z2 z3 z4 nc (.slice C0 P.length c0) (.slice Ct T.length ct) (.slice Ci I.length ci))) (t:=41) mq;have k35:=k3 5;simp at k35;clear k3;(try (have kz:=SN.out.box (t:=152) (.head _);have fz:=SN.out.free (t:=152) (.head _)))))
         refine hK.out _ _ ?_ (fun hHeld=>?_)
         ·(first | assumption | exact k35 | go_keep)
         clear hK K
         (try simp only [aP,aZ,aS,aG,aH,aI])
         refine uQ_norm (bits 24 4579327) (by kernel_rfl) ?_
         (try clear hHeld)
         (try clear k35)
         (try clear kz)
         (try clear fz)
         revert SN;revert wz;revert g22;revert y12;revert y9;revert y6;revert y3
         exact A2.out
         refine ⟨?_⟩
         intro y3 y6 y9 y12 g22 wz SN
         have k3:=SN.out.box (g:=b3) (cs:=(dR z0 z1 z2 z3 z4 nc (.slice C0 P.length c0) (.slice Ct T.length ct) (.slice Ci I.length ci))) (t:=41) mq;have k35:=k3 5;simp at k35;clear k3;(try (have kz:=SN.out.box (t:=152) (.head _);have fz:=SN.out.free (t:=152) (.head _)))
         have hHeld:((fun W'=>W'.cell? ⟨b3,5,none⟩=some (.int .i64 (1 + nc)))) wz:=by (first | assumption | exact k35 | go_keep)
         refine tku (b:=?_) [13] (by kernel_rfl) hHeld ?_ ?_
         rotate_left
         ·repeat first
          |exact .nil
          |refine .yes (v:=?_) rfl (by rfl) ?_ ?_
           rotate_left
           ·intro w9 hSw;(try dsimp only at hSw);go_simp;(try with_reducible rfl)
           (try simp only [aP,aZ,aS,aG,aH,aI])
         refine onu 17 rfl (by kernel_rfl) fun K hK=>?_
         go_simp
         ((go_at_call 133;refine (below_sit SN.out HB.out (by repeat first | exact HM.out | refine .tail _ ?_) _ (by first | decide | omega)).mono ?_;rintro e wz ⟨y17,rfl,hy,SN1,T1⟩;clear hy T1 SN k35;(try clear kz fz);have SN:=Lib.hid SN1;clear SN1;have k3:=SN.out.box (g:=b3) (cs:=(dR z0 z1 z2 z3 z4 nc (.slice C0 P.length c0) (.slice Ct T.length ct) (.slice Ci I.length ci))) (t:=41) mq;have k35:=k3 5;simp at k35;clear k3;(try (have kz:=SN.out.box (t:=152) (.head _);have fz:=SN.out.free (t:=152) (.head _)))))
         refine hK.out _ _ ?_ (fun hHeld=>?_)
         ·(first | assumption | exact k35 | go_keep)
         clear hK K
         (try simp only [aP,aZ,aS,aG,aH,aI])
         refine uQ_norm (bits 24 4718591) (by kernel_rfl) ?_
         (try clear hHeld)
         (try clear k35)
         (try clear kz)
         (try clear fz)
         revert SN;revert wz;revert g22;revert y17;revert y12;revert y9;revert y6;revert y3
         exact A3.out
         refine ⟨?_⟩
         intro y3 y6 y9 y12 y17 g22 wz SN
         have k3:=SN.out.box (g:=b3) (cs:=(dR z0 z1 z2 z3 z4 nc (.slice C0 P.length c0) (.slice Ct T.length ct) (.slice Ci I.length ci))) (t:=41) mq;have k35:=k3 5;simp at k35;clear k3;(try (have kz:=SN.out.box (t:=152) (.head _);have fz:=SN.out.free (t:=152) (.head _)))
         have hHeld:((fun W'=>W'.cell? ⟨b3,5,none⟩=some (.int .i64 (1 + nc)))) wz:=by (first | assumption | exact k35 | go_keep)
         refine onu 19 rfl (by kernel_rfl) fun K hK=>?_
         go_simp
         ((go_at_call 133;refine (below_sit SN.out HB.out (by repeat first | exact HM.out | refine .tail _ ?_) _ (by first | decide | omega)).mono ?_;rintro e wz ⟨y19,rfl,hy,SN1,T1⟩;clear hy T1 SN k35;(try clear kz fz);have SN:=Lib.hid SN1;clear SN1;have k3:=SN.out.box (g:=b3) (cs:=(dR z0 z1 z2 z3 z4 nc (.slice C0 P.length c0) (.slice Ct T.length ct) (.slice Ci I.length ci))) (t:=41) mq;have k35:=k3 5;simp at k35;clear k3;(try (have kz:=SN.out.box (t:=152) (.head _);have fz:=SN.out.free (t:=152) (.head _)))))
         refine hK.out _ _ ?_ (fun hHeld=>?_)
         ·(first | assumption | exact k35 | go_keep)
         clear hK K
         (try simp only [aP,aZ,aS,aG,aH,aI])
         refine tku (b:=?_) [20,21] (by kernel_rfl) hHeld ?_ ?_
         rotate_left
         ·repeat first
          |exact .nil
          |refine .yes (v:=?_) rfl (by rfl) ?_ ?_
           rotate_left
           ·intro w9 hSw;(try dsimp only at hSw);go_simp;(try with_reducible rfl)
           (try simp only [aP,aZ,aS,aG,aH,aI])
         refine lsu 23 rfl (by kernel_rfl) fun K hK=>?_
         go_simp
         refine hK.out _ _ ?_
         clear hK K
         (try simp only [aP,aZ,aS,aG,aH,aI])
         go_wp2_with fail
         go_meet
         exact ⟨_,⟨_,_,_,_,_,_,_⟩,rfl,Lib.hid (SN.out.overL [.int .i64 _,.int .i64 _,.int .i64 _,.int .i64 _,.int .i64 _,.int .i64 _,.int .i64 _] 0)⟩
        case rest =>
         obtain ⟨g11,x,rfl,SN2⟩:=hcut
         have SN:=SN2
         clear SN2 k35
         go_wp2_with fail
         refine (once_sit SN.out HB.out ((by repeat (first | exact HM.out | refine List.Mem.tail _ ?_))) _ (by first | decide | omega)).mono ?_;rintro e w1 ⟨o2,rfl,SN1⟩;have SN2:=Lib.hid SN1;clear SN SN1;have SN:=SN2;clear SN2
         cases o2
         case' true =>
          have k11:=SN.out.box (.head _)
          have f11:=SN.out.free (.head _)
          go_upto_region 27 with fail
          have SQ:Hid (Sit w ((w1.setCell ⟨g11,1,none⟩ (.int .i64 5)).setCell ⟨g11,2,none⟩ (.int .i64 5)) _):=Lib.hid ((SN.out.store 1 (.int .i64 5)).store 2 (.int .i64 5))
          generalize (w1.setCell ⟨g11,1,none⟩ (.int .i64 5)).setCell ⟨g11,2,none⟩ (.int .i64 5)=w9 at SQ ⊢
          clear SN k11 f11
          have SN:=SQ
          clear SQ
          go_wp2_with fail
          refine (below_sit SN.out HB.out ((by repeat (first | exact HM.out | refine List.Mem.tail _ ?_))) _ (by first | decide | omega)).mono ?_;rintro e w1 ⟨z9,rfl,hz9,SN1,T1⟩;have SN2:=Lib.hid SN1;clear SN SN1 T1;have SN:=SN2;clear SN2
          have k11:=SN.out.box (.head _)
          have f11:=SN.out.free (.head _)
          simp at k11
          go_upto_region 28 with fail
          have SQ:∃ x:Item,Hid (Sit w (w1.setCell ⟨g11,3,none⟩ (.int .i64 (4 + z9))) (fBox g11 #[.int .i64 x.id,.int .i64 x.w,.int .i64 x.h,.int .i64 x.d,.int .i64 x.gram,.int .i64 x.cls,.int .i64 x.count] 152::_)):=⟨⟨x.id,5,5,4 + z9,x.gram,x.cls,x.count⟩,Lib.hid (SN.out.store 3 (.int .i64 (4 + z9)))⟩
          generalize w1.setCell ⟨g11,3,none⟩ (.int .i64 (4 + z9))=w1 at SQ ⊢
          clear SN k11 f11
          obtain ⟨x,SN⟩:=SQ
         all_goals
          have k11:=SN.out.box (.head _)
          have k116:=k11 6
          simp at k116
          clear k11
          by_cases hu:IntKind.i64.wrap (uu + x.count)≤12
          ·have hud:decide (IntKind.i64.wrap (uu + x.count)≤12)=true:=decide_eq_true hu
           have hudw:decide (wrap64 (uu + x.count)≤12)=true:=by rw [← wrapE];exact hud
           have k11:=SN.out.box (.head _)
           have k3:=SN.out.box (.tail _ (.tail _ (.tail _ (.tail _ (.head _)))))
           go_upto_region 30 with (at_builtin;refine papp_Item _ _ rfl rfl x rfl rfl (heap_alloc_new _ _) rfl ((SN.out.list (.tail _ (.head _))).next (by repeat' with_reducible first | assumption | exact bR | apply bD | apply bA | apply bC | apply bN | simp <;> omega)) (by first | omega | (simp;done) | (simp;omega)) (by have:=SN.out.low.size;first | omega | (simp;done) | (simp;omega)) ?_;intro v7 w7 ha;obtain ⟨g7,S7⟩:=(SN.out.rot2.next (by repeat' with_reducible first | assumption | exact bR | apply bD | apply bA | apply bC | apply bN | simp <;> omega)).app ha;have S8:=Lib.hid S7;obtain ⟨C7,c7,rfl,_⟩:=(S7.list (.head _)).form;simp only [List.length_append,List.length_cons,List.length_nil,Nat.zero_add] at S8;have k3:=S7.box (.tail _ (.tail _ (.tail _ (.tail _ (.head _)))));have f3:=S7.free (.tail _ (.tail _ (.tail _ (.tail _ (.head _)))));clear S7 ha)
           have S9:=Lib.hid ((S8.out.up4.store 9 (.slice C7 (I.length + 1) c7)).down4)
           generalize w7.setCell ⟨b3,9,none⟩ (.slice C7 (I.length + 1) c7)=w8 at S9 ⊢
           clear k3 f3 k11 k116 S8
           have k11:=S9.out.box (.tail _ (.head _))
           have k116:=k11 6
           simp at k116
           clear k11
           go_wp2
           go_roundw
           case rel=>exact ⟨k + 1,_,.slice C7 (I.length + 1) c7,g7,_,hlt3,by go_num,rfl,by simp <;> omega,Lib.hid S9.out.rot2.drop⟩
           case measure=>simp [intOf] <;> omega
          ·have hud:decide (IntKind.i64.wrap (uu + x.count)≤12)=false:=decide_eq_false hu
           have hudw:decide (wrap64 (uu + x.count)≤12)=false:=by rw [← wrapE];exact hud
           go_wp2
           go_roundw
           case rel=>exact ⟨k + 1,I,_,fi,uu,hlt3,by go_num,rfl,by omega,Lib.hid SN.out.drop⟩
           case measure=>simp [intOf] <;> omega
       ·obtain rfl:k=n8:=by omega
        have k3:=SN.out.box (.tail _ (.tail _ (.tail _ (.head _))))
        have k2:=SN.out.box (.tail _ (.tail _ (.tail _ (.tail _ (.head _)))))
        have f2:=SN.out.free (.tail _ (.tail _ (.tail _ (.tail _ (.head _)))))
        go_wp2
        refine bodyPost_ret (v:=.agg (dR z0 z1 z2 z3 z4 nc (.slice C0 P.length c0) (.slice Ct T.length ct) (.slice Ci I.length ci))) (by simp [results,Tryz.results278,go_sem,k2,f2]) rfl ?_
        have S9:=(SN.out.up4.overL [.int .i64 z0,.int .i64 z1,.int .i64 z2,.int .i64 z3,.int .i64 z4,.int .i64 (1 + nc),.slice C0 P.length c0,.slice Ct T.length ct,.int .i64 7,.slice Ci I.length ci] 0).drop.rev3
        have S10:=(Sit.joinReq (r:=⟨z0,⟨z1,z2,z3,z4⟩,1 + nc,P,T,7,I⟩) S9).rot2.drop
        exact ⟨_,⟨z0,⟨z1,z2,z3,z4⟩,1 + nc,P,T,7,I⟩,_,rfl,S10,by unfold Request.bulk;show P.length + T.length + I.length≤64;omega,hT0⟩
end Go.Proofs.YtioijfplbgpjpaaGreat
