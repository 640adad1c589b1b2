/-
  The cheapest type: the reference's walk.
-/
import Derived.Test.YtioijfplbgpjpaaGreatKu10
import Derived.Deep.RegionHeld3
import Derived.Deep.DeepCutAuto
import Derived.Deep.RegionLaw
import Derived.Deep.RegionWith
import Derived.StillTailTactics
namespace Go.Proofs.YtioijfplbgpjpaaGreat
set_option linter.unusedVariables false
set_option linter.unusedSimpArgs false
set_option maxRecDepth 100000
open Go.RowKit Go.WideShapes Go.ChangeShapes Go.ChangeAt Go.Deep
set_option maxRecDepth 100000 in
set_option maxHeartbeats 2000000 in
theorem sCheapest_any (v vu:Value) (r:Request) (us:List Int) (w:World) (h:RReq 16777216 w w.heap.size v r) (hu:RInts 16777216 w w.heap.size vu us) (hs:soundR r=true):Calls Tryz.prog 231 #[v,vu] w fun e w'=>e=.returned (.tuple #[(cheapest r us).1.val,.bool (cheapest r us).2])∧Below w.heap.size w w':=by
 have HR:=Lib.hid h
 have HU:=Lib.hid hu
 have HSS:=Lib.hid hs
 have htl:r.types.length≤5:=(right_of hs).ntypes
 obtain ⟨A1,c1,A2,c2,A3,c3,rfl,⟨_,H2,_⟩,_⟩:=h.opn
 obtain ⟨E,e,rfl,hbd,_⟩:=hu
 have hS:=(((Sit.here w).alloc (cR r A1 c1 A2 c2 A3 c3) 41).alloc #[.int .i64 0,.int .i64 0,.int .i64 0,.int .i64 0,.int .i64 0,.int .i64 0,.int .i64 0] 142).alloc #[.int .i64 0,.int .i64 0,.int .i64 0,.int .i64 0,.int .i64 0,.int .i64 0,.int .i64 0] 142
 simp only [World.size_alloc] at hS
 have SN:=Lib.hid hS
 have H2:=Lib.hid H2
 clear h hS hs
 go_enter Tryz.func231,Tryz.ntmps231
 go_wp2
 go_loopw [7,8] (fun f i wr=>∃ (k:Nat) (B:GType×Bool),k≤r.types.length∧i=.int .i64 k∧f=.bool B.2∧Hid ((r.types.take k).foldl (cheapStep r us) (default,false)=B)∧Hid (Sit w wr [fBox (w.heap.size + 1 + 1) #[.int .i64 B.1.id,.int .i64 B.1.w,.int .i64 B.1.h,.int .i64 B.1.d,.int .i64 B.1.tare,.int .i64 B.1.gram,.int .i64 B.1.cost] 142,fBox (w.heap.size + 1) #[.int .i64 0,.int .i64 0,.int .i64 0,.int .i64 0,.int .i64 0,.int .i64 0,.int .i64 0] 142,fBox w.heap.size (cR r A1 c1 A2 c2 A3 c3) 41])) (fun _ i _=>r.types.length - (intOf i).toNat)
 case atStart=>exact ⟨0,(default,false),Nat.zero_le _,rfl,rfl,Lib.hid rfl,SN⟩
 case round =>
  clear SN
  obtain ⟨k,B,hk,rfl,rfl,HB,SN⟩:=hrel
  have k0:=SN.out.box (.tail _ (.tail _ (.head _)))
  have l0:=SN.out.boxlt (.tail _ (.tail _ (.head _)))
  by_cases hlt:k < r.types.length
  ·obtain ⟨b,off,x,_,heq,hb,hx,_,hfx,hc⟩:=(H2.out.next (flat_mono _) SN.out.low).at_ k hlt
   cases heq
   cases hfx
   have hc0:=hc 0 _ rfl;have hc1:=hc 1 _ rfl;have hc2:=hc 2 _ rfl;have hc3:=hc 3 _ rfl;have hc4:=hc 4 _ rfl;have hc5:=hc 5 _ rfl;have hc6:=hc 6 _ rfl;simp only [Nat.add_zero] at hc0
   have HST:=Lib.hid (foldl_take_step (f:=cheapStep r us) (b:=((default:GType),false)) hx)
   obtain ⟨ff,hff⟩:∃ ff,holdsR r us x=ff:=⟨_,rfl⟩
   have HF:=Lib.hid hff
   have SM:=Lib.hid (SN.out.alloc #[.int .i64 x.id,.int .i64 x.w,.int .i64 x.h,.int .i64 x.d,.int .i64 x.tare,.int .i64 x.gram,.int .i64 x.cost] 142)
   clear hc hx
   have kb:=SN.out.box (.head _)
   have fb:=SN.out.free (.head _)
   have lb:=SN.out.boxlt (.head _)
   go_wp2_with fail
   refine (sHolds_any _ _ r us x _ (HR.out.next SM.out.low) (HU.out.next (flat_mono _) SM.out.low) HSS.out).mono ?_
   rintro e2 w2 ⟨rfl,hb2⟩
   rw [HF.out]
   have SN:=Lib.hid (SM.out.next hb2)
   clear k0 l0 hb2 kb fb lb hff
   cases ff
   ·have HG:=Lib.hid (show cheapStep r us B x=B by unfold cheapStep;rw [HF.out];rfl)
    go_wp2
    go_roundw
    case rel=>exact ⟨k + 1,B,hlt,by go_num,rfl,Lib.hid (by rw [HST.out,HB.out,HG.out]),Lib.hid SN.out.drop⟩
    case measure=>simp [intOf] <;> omega
   ·have HG:=Lib.hid (show cheapStep r us B x=if better x B=true then (x,true) else B by unfold cheapStep;rw [HF.out];rfl)
    obtain ⟨B1,B2⟩:=B
    obtain ⟨d1,hd1⟩:∃ q,decide (x.cost < B1.cost)=q:=⟨_,rfl⟩
    obtain ⟨d2,hd2⟩:∃ q,(x.cost == B1.cost)=q:=⟨_,rfl⟩
    obtain ⟨d3,hd3⟩:∃ q,decide (x.id < B1.id)=q:=⟨_,rfl⟩
    have HBT:=Lib.hid (show better x (B1,B2)=(!B2 || (d1 || (d2 && d3))) by unfold better;rw [hd1,hd2,hd3])
    have k9:=SN.out.box (.head _)
    have k6:=SN.out.box (.tail _ (.head _))
    have f6:=SN.out.free (.tail _ (.head _))
    have SO:=Lib.hid (SN.out.rot2.overL [.int .i64 x.id,.int .i64 x.w,.int .i64 x.h,.int .i64 x.d,.int .i64 x.tare,.int .i64 x.gram,.int .i64 x.cost] 0)
    have hn1 : ¬ (w.heap.size + 1 + 1=wr.heap.size):=by have:=SN.out.apart;simp only [List.pairwise_cons,List.mem_cons,forall_eq_or_imp,List.not_mem_nil,or_false,forall_eq] at this;intro he;exact this.1.1 he.symm
    have hn2 : ¬ (wr.heap.size=w.heap.size + 1 + 1):=fun e=>hn1 e.symm
    cases B2
    ·go_wp2
     go_roundw
     case rel=>exact ⟨k + 1,(x,true),hlt,by go_num,rfl,Lib.hid (by rw [HST.out,HB.out,HG.out,HBT.out];rfl),Lib.hid SO.out.rot2.drop⟩
     case measure=>simp [intOf] <;> omega
    ·cases d1
     ·cases d2
      ·go_wp2
       go_roundw
       case rel=>exact ⟨k + 1,(B1,true),hlt,by go_num,rfl,Lib.hid (by rw [HST.out,HB.out,HG.out,HBT.out];rfl),Lib.hid SN.out.drop⟩
       case measure=>simp [intOf] <;> omega
      ·cases d3
       ·go_wp2
        go_roundw
        case rel=>exact ⟨k + 1,(B1,true),hlt,by go_num,rfl,Lib.hid (by rw [HST.out,HB.out,HG.out,HBT.out];rfl),Lib.hid SN.out.drop⟩
        case measure=>simp [intOf] <;> omega
       ·go_wp2
        go_roundw
        case rel=>exact ⟨k + 1,(x,true),hlt,by go_num,rfl,Lib.hid (by rw [HST.out,HB.out,HG.out,HBT.out];rfl),Lib.hid SO.out.rot2.drop⟩
        case measure=>simp [intOf] <;> omega
     ·go_wp2
      go_roundw
      case rel=>exact ⟨k + 1,(x,true),hlt,by go_num,rfl,Lib.hid (by rw [HST.out,HB.out,HG.out,HBT.out];rfl),Lib.hid SO.out.rot2.drop⟩
      case measure=>simp [intOf] <;> omega
  ·have HM:=Lib.hid (show cheapest r us=B by rw [← HB.out,List.take_of_length_le (by omega)];rfl)
   have k6:=SN.out.box (.head _)
   have k4:=SN.out.box (.tail _ (.head _))
   have f4:=SN.out.free (.tail _ (.head _))
   go_wp2
   refine bodyPost_ret (v:=.tuple #[.agg #[.int .i64 B.1.id,.int .i64 B.1.w,.int .i64 B.1.h,.int .i64 B.1.d,.int .i64 B.1.tare,.int .i64 B.1.gram,.int .i64 B.1.cost],.bool B.2]) (by simp [results,Tryz.results231,go_sem,k4,f4]) rfl ?_
   rw [HM.out]
   exact ⟨rfl,by have:=SN.out.low;(repeat' with_reducible first | assumption | exact bR | apply bD | apply bA | apply bC | apply bW | omega | simp <;> omega)⟩
end Go.Proofs.YtioijfplbgpjpaaGreat
