/-
  An order that is drawn and bent: the reference's walk.
-/
import Derived.Test.YtioijfplbgpjpaaGreatKu43
import Derived.Test.YtioijfplbgpjpaaGreatKu17
import Derived.Deep.RegionHeld3
import Derived.Deep.DeepCutAuto
import Derived.Deep.CutBlock
import Derived.Deep.RegionLaw
import Derived.Deep.RegionWith
import Derived.StillTailTactics
namespace Go.Proofs.YtioijfplbgpjpaaGreat
set_option linter.unusedVariables false
set_option linter.unusedSimpArgs false
set_option maxRecDepth 100000
open Go.RowKit Go.WideShapes Go.ChangeShapes Go.ChangeAt Go.Deep
def R3 (W:World) (vp vt vi:Value) (P:List Pair) (T:List GType) (I:List Item) (fp:List Nat):Prop:=ROn Pair.cells 2 W vp P fp∧ROn GType.cells 7 W vt T fp∧ROn Item.cells 7 W vi I fp
abbrev fR3 (vp vt vi:Value) (P:List Pair) (T:List GType) (I:List Item) (fp:List Nat):Fact:=⟨fun W=>R3 W vp vt vi P T I fp,fp⟩
theorem fR3_ok (vp vt vi:Value) (P:List Pair) (T:List GType) (I:List Item) (fp:List Nat):(fR3 vp vt vi P T I fp).ok:=fun _ _ ⟨h1,h2,h3⟩ _ hk=>⟨h1.keep hk,h2.keep hk,h3.keep hk⟩
section
variable {w W:World} {l:List Fact} {b:Nat} {vp vt vi:Value} {P:List Pair} {T:List GType} {I:List Item} {f1 f2 f3 fp:List Nat}
theorem Sit.toR3 (h:Sit w W (fOF Pair.cells 165 2 b vp P f1::fOF GType.cells 142 7 b vt T f2::fOF Item.cells 152 7 b vi I f3::l)):Sit w W (fR3 vp vt vi P T I (f1 ++ (f2 ++ f3))::l):=by
 have h1:=h.list (.head _)
 have h2:=h.list (.tail _ (.head _))
 have h3:=h.list (.tail _ (.tail _ (.head _)))
 refine Sit.step (l1:=[_,_,_]) (fp:=[]) h (Tch.refl _ _) (by simp) [fR3 vp vt vi P T I (f1 ++ (f2 ++ f3))] ?_ ?_ ?_ (by simp)
 ·intro p hp b hb
  simp only [List.mem_cons,List.not_mem_nil,or_false] at hp
  subst hp
  simp only [List.mem_append] at hb
  rcases hb with hb | hb | hb
  ·exact .inl ⟨_,.head _,hb⟩
  ·exact .inl ⟨_,.tail _ (.head _),hb⟩
  ·exact .inl ⟨_,.tail _ (.tail _ (.head _)),hb⟩
 ·intro p hp
  simp only [List.mem_cons,List.not_mem_nil,or_false] at hp
  subst hp
  exact fR3_ok _ _ _ _ _ _ _
 ·intro p hp
  simp only [List.mem_cons,List.not_mem_nil,or_false] at hp
  subst hp
  exact ⟨(ROn.of h1 (fun _=>rfl)).wide (by simp +contextual),(ROn.of h2 (fun _=>rfl)).wide (by simp +contextual),(ROn.of h3 (fun _=>rfl)).wide (by simp +contextual)⟩
theorem Sit.toRq {r:Request} (h:Sit w W (fR3 vp vt vi r.pairs r.types r.items fp::l)):Sit w W (fRq (.agg (r.row vp vt vi)) r fp::l):=by
 obtain ⟨h1,h2,h3⟩:=h.on _ (.head _)
 exact h.grow (Tch.refl _ _) (fRq (.agg (r.row vp vt vi)) r fp) (fun _ hb=>.inl hb) (fRq_ok _ _ _) ⟨vp,vt,vi,rfl,h1,h2,h3⟩
theorem ROn.drop1 {α:Type} {f:α→List Value} {K g o n c:Nat} {xs:List α} (h:ROn f K W (.slice (some ⟨g,o,none⟩) n c) xs fp) (hn:0 < xs.length):ROn f K W (.slice (some ⟨g,o + K,none⟩) (n - 1) (c - 1)) (xs.drop 1) fp:=by
 obtain ⟨A,c',hv,hc,h⟩:=h
 injection hv with e1 e2 e3
 subst e1 e2 e3
 obtain ⟨b,off,hA,hb,hx⟩:=h hn
 injection hA with hA
 injection hA with e1 e2 _
 subst e1 e2
 refine ⟨some ⟨g,o + K,none⟩,c - 1,by rw [List.length_drop],by rw [List.length_drop];omega,fun _=>⟨g,o + K,rfl,hb,fun i x hi j u hu=>?_⟩⟩
 rw [List.getElem?_drop] at hi
 have:=hx (1 + i) x hi j u hu
 rw [Nat.add_mul,Nat.one_mul] at this
 rw [show o + K + i * K + j=o + (K + i * K) + j by omega]
 exact this
theorem Sit.dropP {g o n c:Nat} (h:Sit w W (fR3 (.slice (some ⟨g,o,none⟩) n c) vt vi P T I fp::l)) (hn:0 < P.length):Sit w W (fR3 (.slice (some ⟨g,o + 2,none⟩) (n - 1) (c - 1)) vt vi (P.drop 1) T I fp::l):=by
 obtain ⟨h1,h2,h3⟩:=h.on _ (.head _)
 exact h.grow (Tch.refl _ _) (fR3 (.slice (some ⟨g,o + 2,none⟩) (n - 1) (c - 1)) vt vi (P.drop 1) T I fp) (fun _ hb=>.inl hb) (fR3_ok _ _ _ _ _ _ _) ⟨h1.drop1 hn,h2,h3⟩
theorem Sit.nilP {A:Option Addr} (h:Sit w W (fR3 vp vt vi P T I fp::l)):Sit w W (fR3 (.slice A 0 0) vt vi [] T I fp::l):=by
 obtain ⟨h1,h2,h3⟩:=h.on _ (.head _)
 exact h.grow (Tch.refl _ _) (fR3 (.slice A 0 0) vt vi [] T I fp) (fun _ hb=>.inl hb) (fR3_ok _ _ _ _ _ _ _) ⟨⟨A,0,rfl,Nat.le_refl _,fun h=>absurd h (by simp)⟩,h2,h3⟩
theorem OF.cap {α:Type} {f:α→List Value} {e K base n c:Nat} {A:Option Addr} {xs:List α} {fp:List Nat} (h:OF f e K W base (.slice A n c) xs fp):xs.length≤c:=by
 obtain ⟨_,c',hv,hc⟩:=h.form
 cases hv
 exact hc
theorem Sit.nilT (h:Sit w W (fR3 vp vt vi P T I fp::l)):Sit w W (fR3 vp (.slice none 0 0) vi P [] I fp::l):=by
 obtain ⟨h1,h2,h3⟩:=h.on _ (.head _)
 exact h.grow (Tch.refl _ _) (fR3 vp (.slice none 0 0) vi P [] I fp) (fun _ hb=>.inl hb) (fR3_ok _ _ _ _ _ _ _) ⟨h1,ROn.nil,h3⟩
end
section
variable {w W:World} {l:List Fact} {q q1 q2 q3:Fact}
theorem Sit.up3 (h:Sit w W (q1::q2::q3::q::l)):Sit w W (q::q1::q2::q3::l):=h.perm (List.perm_middle (l₁:=[q1,q2,q3]))
theorem Sit.down3 (h:Sit w W (q::q1::q2::q3::l)):Sit w W (q1::q2::q3::q::l):=h.perm (List.perm_middle (l₁:=[q1,q2,q3])).symm
end
set_option maxRecDepth 100000 in
set_option maxHeartbeats 40000000 in
theorem l2Draw_any (g:Nat) (v:Value) (xs:List Int) (w W:World) (L:List Fact) (hS:Sit w W L) (hx:RBytes w w.heap.size v xs) (hm:fCur g v xs.length∈L):Calls Tryz.prog 214 #[.pointer (some ⟨g,0,none⟩)] W fun e w'=>∃ u r fp,e=.returned u∧Sit w w' (fRq u r fp::L)∧r.bulk≤80:=by
 have HB:=Lib.hid hx
 have HM:=Lib.hid hm
 have SN:=Lib.hid (hS.alloc cZ 41)
 clear hS hx hm
 go_enter Tryz.func214,Tryz.ntmps214
 go_upto_region 1 with fail
 generalize hW1:W.alloc (.cells cZ 41)=W1 at SN ⊢
 clear hW1
 go_wp2_with fail
 refine (l2Right_any g v xs _ _ _ SN.out HB.out (.tail _ HM.out)).mono ?_
 rintro e w2 ⟨u,r,fp,rfl,SN1,hbk,hT0⟩
 obtain ⟨vp,vt,vi,_,_,_,hu,o1,o2,o3,_,_⟩:=SN1.own (.head _)
 subst hu
 obtain ⟨A1,c1,rfl,_⟩:=o1.form
 obtain ⟨A2,c2,rfl,_⟩:=o2.form
 obtain ⟨A3,c3,rfl,_⟩:=o3.form
 clear o1 o2 o3
 obtain ⟨f1,f2,f3,_,SN3⟩:=SN1.apartReq
 have hbk':=hbk
 unfold Request.bulk at hbk'
 have SN4:=Lib.hid (SN3.alloc (cR r A1 c1 A2 c2 A3 c3) 41)
 clear SN SN1 SN3
 obtain ⟨b3,hb3⟩:∃ b,w2.heap.size=b:=⟨_,rfl⟩
 rw [hb3] at SN4
 have SN:=Lib.hid (SN4.out.perm (l2:=fOF Pair.cells 165 2 w.heap.size (.slice A1 r.pairs.length c1) r.pairs f1::fOF GType.cells 142 7 w.heap.size (.slice A2 r.types.length c2) r.types f2::fOF Item.cells 152 7 w.heap.size (.slice A3 r.items.length c3) r.items f3::fBox b3 (cR r A1 c1 A2 c2 A3 c3) 41::fBox W.heap.size cZ 41::L) (List.perm_middle (l₁:=[_,_,_])).symm)
 clear SN4
 go_upto_region 2 with fail
 generalize w2.alloc (.cells (cR r A1 c1 A2 c2 A3 c3) 41)=W3 at SN ⊢
 clear hb3
 go_wp2_with fail
 refine Sit.cs SN.out fun SN0=>?_
 refine (pick_sit SN0 HB.out (by repeat first | exact HM.out | refine .tail _ ?_) (.head _) _ _ rfl (by decide) (by decide) (by simp)).mono ?_
 rintro e w1 ⟨far,rfl,SN1,T1⟩
 have SN2:=Lib.hid SN1.drop
 clear SN SN0 SN1 T1
 have SN:=SN2
 clear SN2
 go_wp2_with fail
 refine (below_sit SN.out HB.out ((by repeat (first | exact HM.out | refine List.Mem.tail _ ?_))) _ (by first | decide | omega)).mono ?_;rintro e w1 ⟨kk,rfl,hkk,SN1,T1⟩;have SN2:=Lib.hid SN1;clear SN SN1 T1;have SN:=SN2;clear SN2
 have hkk:=hkk
 have hb80:r.bulk≤80:=by unfold Request.bulk;omega
 go_upto_block 0 with fail
 go_cut [] (fun X=>∃ (r:Request) (vp vt vi:Value) (fp:List Nat),Hid (Sit w X (fR3 vp vt vi r.pairs r.types r.items fp::fBox b3 #[.int .i64 r.way,.int .i64 r.pallet.w,.int .i64 r.pallet.d,.int .i64 r.pallet.h,.int .i64 r.pallet.gram,.int .i64 r.classes,vp,vt,.int .i64 r.master,vi] 41::fBox W.heap.size cZ 41::L))∧r.bulk≤80)
 case first =>
  by_cases h0:kk=0
  ·subst h0
   go_wp2_with fail
   refine Sit.cs SN.out fun SN0=>?_;refine (pick_sit SN0 HB.out (.tail _ ((by repeat (first | exact HM.out | refine List.Mem.tail _ ?_)))) (.head _) _ _ rfl (by decide) (by decide) (by simp)).mono ?_;rintro e w1 ⟨z,rfl,SN1,T1⟩;have SN2:=Lib.hid SN1.drop;clear SN SN0 SN1 T1;have SN:=SN2;clear SN2
   have k3:=SN.out.box (.tail _ (.tail _ (.tail _ (.head _))))
   have f3z:=SN.out.free (.tail _ (.tail _ (.tail _ (.head _))))
   go_wp2_with fail
   go_meet
   exact ⟨⟨z,r.pallet,r.classes,r.pairs,r.types,r.master,r.items⟩,_,_,_,_,Lib.hid ((SN.out.toR3.rot2.store 0 (.int .i64 z)).rot2),hb80⟩
  by_cases h1:kk=1
  ·subst h1
   have k3:=SN.out.box (.tail _ (.tail _ (.tail _ (.head _))))
   have f3z:=SN.out.free (.tail _ (.tail _ (.tail _ (.head _))))
   go_wp2_with fail
   go_meet
   exact ⟨⟨r.way,⟨far,r.pallet.d,r.pallet.h,r.pallet.gram⟩,r.classes,r.pairs,r.types,r.master,r.items⟩,_,_,_,_,Lib.hid ((SN.out.toR3.rot2.store 1 (.int .i64 far)).rot2),hb80⟩
  by_cases h2:kk=2
  ·subst h2
   have k3:=SN.out.box (.tail _ (.tail _ (.tail _ (.head _))))
   have f3z:=SN.out.free (.tail _ (.tail _ (.tail _ (.head _))))
   go_wp2_with fail
   go_meet
   exact ⟨⟨r.way,⟨r.pallet.w,r.pallet.d,r.pallet.h,far⟩,r.classes,r.pairs,r.types,r.master,r.items⟩,_,_,_,_,Lib.hid ((SN.out.toR3.rot2.store 4 (.int .i64 far)).rot2),hb80⟩
  by_cases h3:kk=3
  ·subst h3
   go_wp2_with fail
   refine Sit.cs SN.out fun SN0=>?_;refine (pick_sit SN0 HB.out (.tail _ ((by repeat (first | exact HM.out | refine List.Mem.tail _ ?_)))) (.head _) _ _ rfl (by decide) (by decide) (by simp)).mono ?_;rintro e w1 ⟨z,rfl,SN1,T1⟩;have SN2:=Lib.hid SN1.drop;clear SN SN0 SN1 T1;have SN:=SN2;clear SN2
   have k3:=SN.out.box (.tail _ (.tail _ (.tail _ (.head _))))
   have f3z:=SN.out.free (.tail _ (.tail _ (.tail _ (.head _))))
   go_wp2_with fail
   go_meet
   exact ⟨⟨r.way,r.pallet,z,r.pairs,r.types,r.master,r.items⟩,_,_,_,_,Lib.hid ((SN.out.toR3.rot2.store 5 (.int .i64 z)).rot2),hb80⟩
  by_cases h4:kk=4
  ·subst h4
   have k3:=SN.out.box (.tail _ (.tail _ (.tail _ (.head _))))
   have f3z:=SN.out.free (.tail _ (.tail _ (.tail _ (.head _))))
   go_wp2_with fail
   refine regu (S:=(fun W'=>W'.cell? ⟨b3,6,none⟩=some (.slice A1 r.pairs.length c1))) (by kernel_rfl) (fun _ _ _ _ _=>id) ?_ fun hHeld=>?_
   ·(first | exact k3 6 | go_keep)
   refine tku (b:=?_) [0,1,2,5] (by kernel_rfl) hHeld ?_ ?_
   rotate_left
   ·repeat first
    |exact .nil
    |refine .yes (v:=?_) rfl (by rfl) ?_ ?_
     rotate_left
     ·intro w9 hSw;(try dsimp only at hSw);go_simp;(try with_reducible rfl)
     (try simp only [aP,aZ,aS,aG,aH,aI])
   refine onu 3 rfl (by kernel_rfl) fun K hK=>?_
   go_simp
   ((go_at_call 133;refine Sit.cs SN.out fun SN0=>?_;(try simp only [World.size_alloc,World.size_drew] at SN0);refine (below_sit SN0 HB.out (by repeat first | exact HM.out | refine .tail _ ?_) _ (by first | decide | omega)).mono ?_;rintro e w1 ⟨y,rfl,hy,SN1,T1⟩;have hyy:=hy;have SN2:=Lib.hid SN1;clear SN SN0 SN1 T1;have SN:=SN2;clear SN2;have k3:=SN.out.box (.tail _ (.tail _ (.tail _ (.head _))));have f3z:=SN.out.free (.tail _ (.tail _ (.tail _ (.head _))))))
   refine hK.out _ _ ?_ (fun hHeld=>?_)
   ·(first | exact k3 6 | go_keep)
   clear hK K
   (try simp only [aP,aZ,aS,aG,aH,aI])
   refine tku (b:=?_) [4] (by kernel_rfl) hHeld ?_ ?_
   rotate_left
   ·repeat first
    |exact .nil
    |refine .yes (v:=?_) rfl (by rfl) ?_ ?_
     rotate_left
     ·intro w9 hSw;(try dsimp only at hSw);go_simp;(try with_reducible rfl)
     (try simp only [aP,aZ,aS,aG,aH,aI])
   refine onu 6 rfl (by kernel_rfl) fun K hK=>?_
   go_simp
   ((go_at_call 133;refine Sit.cs SN.out fun SN0=>?_;(try simp only [World.size_alloc,World.size_drew] at SN0);refine (below_sit SN0 HB.out (by repeat first | exact HM.out | refine .tail _ ?_) _ (by first | decide | omega)).mono ?_;rintro e w1 ⟨y,rfl,hy,SN1,T1⟩;have hyy:=hy;have SN2:=Lib.hid SN1;clear SN SN0 SN1 T1;have SN:=SN2;clear SN2;have k3:=SN.out.box (.tail _ (.tail _ (.tail _ (.head _))));have f3z:=SN.out.free (.tail _ (.tail _ (.tail _ (.head _))))))
   refine hK.out _ _ ?_ (fun hHeld=>?_)
   ·(first | exact k3 6 | go_keep)
   clear hK K
   (try simp only [aP,aZ,aS,aG,aH,aI])
   refine tku (b:=?_) [7] (by kernel_rfl) hHeld ?_ ?_
   rotate_left
   ·repeat first
    |exact .nil
    |refine .yes (v:=?_) rfl (by rfl) ?_ ?_
     rotate_left
     ·intro w9 hSw;(try dsimp only at hSw);go_simp;(try with_reducible rfl)
     (try simp only [aP,aZ,aS,aG,aH,aI])
   refine onu 8 rfl (by kernel_rfl) fun K hK=>?_
   go_simp
   refine hK.out _ _ ?_ (fun hHeld=>?_)
   ·(first | exact k3 6 | go_keep)
   clear hK K
   (try simp only [aP,aZ,aS,aG,aH,aI])
   refine onu 9 rfl (by kernel_rfl) fun K hK=>?_
   (refine sapp_Pair (.tmp 37) (.tmp 44) rfl rfl ⟨_,_⟩ rfl rfl (heap_alloc_new _ _) rfl ((SN.out.list (.head _)).next (by repeat' with_reducible first | assumption | exact bR | apply bD | apply bA | apply bC | apply bN | simp <;> omega)) (by first | omega | (simp;done) | (simp;omega)) (by have:=SN.out.low.size;first | omega | (simp;done) | (simp;omega)) ?_;intro v7 w7 ha;obtain ⟨g7,S7⟩:=(SN.out.next (by repeat' with_reducible first | assumption | exact bR | apply bD | apply bA | apply bC | apply bN | simp <;> omega)).app ha;have S8:=Lib.hid (S7);obtain ⟨C7,c7,rfl,_⟩:=(S7.list (.head _)).form;simp only [List.length_append,List.length_cons,List.length_nil,Nat.zero_add] at S8;have k3:=S8.out.box (.tail _ (.tail _ (.tail _ (.head _))));have f3z:=S8.out.free (.tail _ (.tail _ (.tail _ (.head _))));clear S7 ha)
   refine hK.out _ _ ?_ (fun hHeld=>?_)
   ·(first | exact k3 6 | go_keep)
   clear hK K
   (try simp only [aP,aZ,aS,aG,aH,aI])
   refine tku (b:=?_) [10] (by kernel_rfl) hHeld ?_ ?_
   rotate_left
   ·repeat first
    |exact .nil
    |refine .yes (v:=?_) rfl (by rfl) ?_ ?_
     rotate_left
     ·intro w9 hSw;(try dsimp only at hSw);go_simp;(try with_reducible rfl)
     (try simp only [aP,aZ,aS,aG,aH,aI])
   refine lsu 11 rfl (by kernel_rfl) fun K hK=>?_
   go_simp
   refine hK.out _ _ ?_
   clear hK K
   (try simp only [aP,aZ,aS,aG,aH,aI])
   go_wp2_with fail
   go_meet
   exact ⟨⟨r.way,r.pallet,r.classes,r.pairs ++ [_],r.types,r.master,r.items⟩,_,_,_,_,Lib.hid ((S8.out.up3.store 6 (.slice C7 (r.pairs.length + 1) c7)).down3.toR3),by unfold Request.bulk;simp only [List.length_append,List.length_cons,List.length_nil];omega⟩
  by_cases h5:kk=5
  ·subst h5
   obtain ⟨t0,ht0⟩:∃ z,r.types[0]? = some z:=⟨_,List.getElem?_eq_getElem hT0⟩
   obtain ⟨gt,rfl⟩:=head_ptr (SN.out.list (.tail _ (.head _))) ht0
   have hct:=(SN.out.list (.tail _ (.head _))).cells (fun _=>rfl) ht0
   have hfr:=fun o=>(SN.out.list (.tail _ (.head _))).free o
   simp only [Nat.zero_mul,Nat.zero_add] at hct
   have hT0i:(0:Int) < (r.types.length:Int):=by omega
   have hct2:=hct 2 _ rfl
   have k3:=SN.out.box (.tail _ (.tail _ (.tail _ (.head _))))
   have f3z:=SN.out.free (.tail _ (.tail _ (.tail _ (.head _))))
   have SQ:Hid (Sit w (w1.setCell ⟨gt,2,none⟩ (.int .i64 far)) _):=Lib.hid ((SN.out.rot2.put (fun _=>rfl) ht0 (j:=2) (us:=[.int .i64 far]) (y:=⟨t0.id,t0.w,far,t0.d,t0.tare,t0.gram,t0.cost⟩) (by simp) rfl).rot2)
   clear ht0 hct
   go_wp2_with fail
   go_meet
   exact ⟨⟨r.way,r.pallet,r.classes,r.pairs,r.types.set 0 ⟨t0.id,t0.w,far,t0.d,t0.tare,t0.gram,t0.cost⟩,r.master,r.items⟩,_,_,_,_,Lib.hid SQ.out.toR3,by unfold Request.bulk;simp only [List.length_set];omega⟩
  by_cases h6:kk=6
  ·subst h6
   obtain ⟨t0,ht0⟩:∃ z,r.types[0]? = some z:=⟨_,List.getElem?_eq_getElem hT0⟩
   obtain ⟨gt,rfl⟩:=head_ptr (SN.out.list (.tail _ (.head _))) ht0
   have hct:=(SN.out.list (.tail _ (.head _))).cells (fun _=>rfl) ht0
   have hfr:=fun o=>(SN.out.list (.tail _ (.head _))).free o
   simp only [Nat.zero_mul,Nat.zero_add] at hct
   have hT0i:(0:Int) < (r.types.length:Int):=by omega
   have k3:=SN.out.box (.tail _ (.tail _ (.tail _ (.head _))))
   have f3z:=SN.out.free (.tail _ (.tail _ (.tail _ (.head _))))
   clear hct ht0
   go_wp2_with fail
   refine regu (S:=(fun W'=>W'.cell? ⟨b3,7,none⟩=some (.slice (some ⟨gt,0,none⟩) r.types.length c2))) (by kernel_rfl) (fun _ _ _ _ _=>id) ?_ fun hHeld=>?_
   ·(first | exact k3 7 | go_keep)
   refine tku (b:=?_) [0,1,2,3,4,5,7] (by kernel_rfl) hHeld ?_ ?_
   rotate_left
   ·repeat first
    |exact .nil
    |refine .yes (v:=?_) rfl (by rfl) ?_ ?_
     rotate_left
     ·intro w9 hSw;(try dsimp only at hSw);go_simp;(try with_reducible rfl)
     (try simp only [aP,aZ,aS,aG,aH,aI])
   refine onu 6 rfl (by kernel_rfl) fun K hK=>?_
   go_simp
   ((go_at_call 133;refine Sit.cs SN.out fun SN0=>?_;(try simp only [World.size_alloc,World.size_drew] at SN0);refine (below_sit SN0 HB.out (by repeat first | exact HM.out | refine .tail _ ?_) _ (by first | decide | omega)).mono ?_;rintro e w1 ⟨y,rfl,hy,SN1,T1⟩;have hyy:=hy;have SN2:=Lib.hid SN1;clear SN SN0 SN1 T1;have SN:=SN2;clear SN2;have k3:=SN.out.box (.tail _ (.tail _ (.tail _ (.head _))));have f3z:=SN.out.free (.tail _ (.tail _ (.tail _ (.head _))));obtain ⟨m,rfl⟩:∃ m:Nat,y=m:=⟨y.toNat,by omega⟩;have hml:m < r.types.length:=(by omega);have hmi:(m:Int) < (r.types.length:Int):=(by omega);obtain ⟨tm,htm⟩:∃ z,r.types[m]? = some z:=⟨_,List.getElem?_eq_getElem hml⟩;have hcm:=(SN.out.list (.tail _ (.head _))).cells (fun _=>rfl) htm 5 _ rfl;have hfm:=fun o=>(SN.out.list (.tail _ (.head _))).free o;have SQ:=Lib.hid ((SN.out.rot2.put (fun _=>rfl) htm (j:=5) (us:=[.int .i64 far]) (y:=⟨tm.id,tm.w,tm.h,tm.d,tm.tare,far,tm.cost⟩) (by simp) rfl).rot2);clear htm))
   refine hK.out _ _ ?_ (fun hHeld=>?_)
   ·(first | exact k3 7 | go_keep)
   clear hK K
   (try simp only [aP,aZ,aS,aG,aH,aI])
   refine tku (b:=?_) [8,9] (by kernel_rfl) hHeld ?_ ?_
   rotate_left
   ·repeat first
    |exact .nil
    |refine .yes (v:=?_) rfl (by rfl) ?_ ?_
     rotate_left
     ·intro w9 hSw;(try dsimp only at hSw);go_simp;(try with_reducible rfl)
     (try simp only [aP,aZ,aS,aG,aH,aI])
   refine lsu 10 rfl (by kernel_rfl) fun K hK=>?_
   go_simp
   refine hK.out _ _ ?_
   clear hK K
   (try simp only [aP,aZ,aS,aG,aH,aI])
   go_wp2_with fail
   go_meet
   exact ⟨⟨r.way,r.pallet,r.classes,r.pairs,r.types.set m ⟨tm.id,tm.w,tm.h,tm.d,tm.tare,far,tm.cost⟩,r.master,r.items⟩,_,_,_,_,Lib.hid SQ.out.toR3,by unfold Request.bulk;simp only [List.length_set];omega⟩
  by_cases h7:kk=7
  ·subst h7
   go_wp2_with fail
   refine Sit.cs SN.out fun SN0=>?_;refine (pick_sit SN0 HB.out (.tail _ ((by repeat (first | exact HM.out | refine List.Mem.tail _ ?_)))) (.head _) _ _ rfl (by decide) (by decide) (by simp)).mono ?_;rintro e w1 ⟨z,rfl,SN1,T1⟩;have SN2:=Lib.hid SN1.drop;clear SN SN0 SN1 T1;have SN:=SN2;clear SN2
   have k3:=SN.out.box (.tail _ (.tail _ (.tail _ (.head _))))
   have f3z:=SN.out.free (.tail _ (.tail _ (.tail _ (.head _))))
   go_wp2_with fail
   go_meet
   exact ⟨⟨r.way,r.pallet,r.classes,r.pairs,r.types,z,r.items⟩,_,_,_,_,Lib.hid ((SN.out.toR3.rot2.store 8 (.int .i64 z)).rot2),hb80⟩
  by_cases h8:kk=8
  ·subst h8
   have k3:=SN.out.box (.tail _ (.tail _ (.tail _ (.head _))))
   have f3z:=SN.out.free (.tail _ (.tail _ (.tail _ (.head _))))
   go_wp2_with fail
   refine regu (S:=(fun W'=>W'.cell? ⟨b3,9,none⟩=some (.slice A3 r.items.length c3))) (by kernel_rfl) (fun _ _ _ _ _=>id) ?_ fun hHeld=>?_
   ·(first | exact k3 9 | go_keep)
   refine tku (b:=?_) [0,1,2,4] (by kernel_rfl) hHeld ?_ ?_
   rotate_left
   ·repeat first
    |exact .nil
    |refine .yes (v:=?_) rfl (by rfl) ?_ ?_
     rotate_left
     ·intro w9 hSw;(try dsimp only at hSw);go_simp;(try with_reducible rfl)
     (try simp only [aP,aZ,aS,aG,aH,aI])
   refine onu 3 rfl (by kernel_rfl) fun K hK=>?_
   go_simp
   ((go_at_call 133;refine Sit.cs SN.out fun SN0=>?_;(try simp only [World.size_alloc,World.size_drew] at SN0);refine (below_sit SN0 HB.out (by repeat first | exact HM.out | refine .tail _ ?_) _ (by first | decide | omega)).mono ?_;rintro e w1 ⟨y,rfl,hy,SN1,T1⟩;have hyy:=hy;have SN2:=Lib.hid SN1;clear SN SN0 SN1 T1;have SN:=SN2;clear SN2;have k3:=SN.out.box (.tail _ (.tail _ (.tail _ (.head _))));have f3z:=SN.out.free (.tail _ (.tail _ (.tail _ (.head _))))))
   refine hK.out _ _ ?_ (fun hHeld=>?_)
   ·(first | exact k3 9 | go_keep)
   clear hK K
   (try simp only [aP,aZ,aS,aG,aH,aI])
   refine onu 5 rfl (by kernel_rfl) fun K hK=>?_
   go_simp
   ((go_at_call 133;refine Sit.cs SN.out fun SN0=>?_;(try simp only [World.size_alloc,World.size_drew] at SN0);refine (below_sit SN0 HB.out (by repeat first | exact HM.out | refine .tail _ ?_) _ (by first | decide | omega)).mono ?_;rintro e w1 ⟨y,rfl,hy,SN1,T1⟩;have hyy:=hy;have SN2:=Lib.hid SN1;clear SN SN0 SN1 T1;have SN:=SN2;clear SN2;have k3:=SN.out.box (.tail _ (.tail _ (.tail _ (.head _))));have f3z:=SN.out.free (.tail _ (.tail _ (.tail _ (.head _))))))
   refine hK.out _ _ ?_ (fun hHeld=>?_)
   ·(first | exact k3 9 | go_keep)
   clear hK K
   (try simp only [aP,aZ,aS,aG,aH,aI])
   refine tku (b:=?_) [6] (by kernel_rfl) hHeld ?_ ?_
   rotate_left
   ·repeat first
    |exact .nil
    |refine .yes (v:=?_) rfl (by rfl) ?_ ?_
     rotate_left
     ·intro w9 hSw;(try dsimp only at hSw);go_simp;(try with_reducible rfl)
     (try simp only [aP,aZ,aS,aG,aH,aI])
   refine onu 7 rfl (by kernel_rfl) fun K hK=>?_
   go_simp
   refine hK.out _ _ ?_ (fun hHeld=>?_)
   ·(first | exact k3 9 | go_keep)
   clear hK K
   (try simp only [aP,aZ,aS,aG,aH,aI])
   refine onu 8 rfl (by kernel_rfl) fun K hK=>?_
   (refine sapp_Item (.tmp 75) (.tmp 81) rfl rfl ⟨_,_,_,_,_,_,_⟩ rfl rfl (heap_alloc_new _ _) rfl ((SN.out.list (.tail _ (.tail _ (.head _)))).next (by repeat' with_reducible first | assumption | exact bR | apply bD | apply bA | apply bC | apply bN | simp <;> omega)) (by first | omega | (simp;done) | (simp;omega)) (by have:=SN.out.low.size;first | omega | (simp;done) | (simp;omega)) ?_;intro v7 w7 ha;obtain ⟨g7,S7⟩:=(SN.out.rot3.next (by repeat' with_reducible first | assumption | exact bR | apply bD | apply bA | apply bC | apply bN | simp <;> omega)).app ha;have S8:=Lib.hid (S7.ror3);obtain ⟨C7,c7,rfl,_⟩:=(S7.list (.head _)).form;simp only [List.length_append,List.length_cons,List.length_nil,Nat.zero_add] at S8;have k3:=S8.out.box (.tail _ (.tail _ (.tail _ (.head _))));have f3z:=S8.out.free (.tail _ (.tail _ (.tail _ (.head _))));clear S7 ha)
   refine hK.out _ _ ?_ (fun hHeld=>?_)
   ·(first | exact k3 9 | go_keep)
   clear hK K
   (try simp only [aP,aZ,aS,aG,aH,aI])
   refine tku (b:=?_) [9] (by kernel_rfl) hHeld ?_ ?_
   rotate_left
   ·repeat first
    |exact .nil
    |refine .yes (v:=?_) rfl (by rfl) ?_ ?_
     rotate_left
     ·intro w9 hSw;(try dsimp only at hSw);go_simp;(try with_reducible rfl)
     (try simp only [aP,aZ,aS,aG,aH,aI])
   refine lsu 10 rfl (by kernel_rfl) fun K hK=>?_
   go_simp
   refine hK.out _ _ ?_
   clear hK K
   (try simp only [aP,aZ,aS,aG,aH,aI])
   go_wp2_with fail
   go_meet
   exact ⟨⟨r.way,r.pallet,r.classes,r.pairs,r.types,r.master,r.items ++ [_]⟩,_,_,_,_,Lib.hid ((S8.out.up3.store 9 (.slice C7 (r.items.length + 1) c7)).down3.toR3),by unfold Request.bulk;simp only [List.length_append,List.length_cons,List.length_nil];omega⟩
  by_cases h9:kk=9
  ·subst h9
   have k3:=SN.out.box (.tail _ (.tail _ (.tail _ (.head _))))
   have f3z:=SN.out.free (.tail _ (.tail _ (.tail _ (.head _))))
   by_cases hI:0 < r.items.length
   ·obtain ⟨i0,hi0⟩:∃ z,r.items[0]? = some z:=⟨_,List.getElem?_eq_getElem hI⟩
    obtain ⟨gi,rfl⟩:=head_ptr (SN.out.list (.tail _ (.tail _ (.head _)))) hi0
    have hct:=(SN.out.list (.tail _ (.tail _ (.head _)))).cells (fun _=>rfl) hi0
    have hfr:=fun o=>(SN.out.list (.tail _ (.tail _ (.head _)))).free o
    simp only [Nat.zero_mul,Nat.zero_add] at hct
    have hct3:=hct 3 _ rfl
    have hIi:(0:Int) < (r.items.length:Int):=by omega
    have hId:decide ((0:Int) < (r.items.length:Int))=true:=decide_eq_true hIi
    have SQ:Hid (Sit w (w1.setCell ⟨gi,3,none⟩ (.int .i64 far)) _):=Lib.hid ((SN.out.rot3.put (fun _=>rfl) hi0 (j:=3) (us:=[.int .i64 far]) (y:=⟨i0.id,i0.w,i0.h,far,i0.gram,i0.cls,i0.count⟩) (by simp) rfl).ror3)
    clear hi0 hct
    go_wp2_with fail
    go_meet
    exact ⟨⟨r.way,r.pallet,r.classes,r.pairs,r.types,r.master,r.items.set 0 ⟨i0.id,i0.w,i0.h,far,i0.gram,i0.cls,i0.count⟩⟩,_,_,_,_,Lib.hid SQ.out.toR3,by unfold Request.bulk;simp only [List.length_set];omega⟩
   ·have hId:decide ((0:Int) < (r.items.length:Int))=false:=decide_eq_false (by omega)
    have hIz:r.items.length=0:=by omega
    go_wp2_with fail
    go_meet
    exact ⟨r,_,_,_,_,Lib.hid SN.out.toR3,hb80⟩
  by_cases h10:kk=10
  ·subst h10
   have k3:=SN.out.box (.tail _ (.tail _ (.tail _ (.head _))))
   have f3z:=SN.out.free (.tail _ (.tail _ (.tail _ (.head _))))
   by_cases hI:0 < r.pairs.length
   ·obtain ⟨p0,hp0⟩:∃ z,r.pairs[0]? = some z:=⟨_,List.getElem?_eq_getElem hI⟩
    obtain ⟨gp,rfl⟩:=head_ptr (SN.out.list (.head _)) hp0
    have hIi:(0:Int) < (r.pairs.length:Int):=by omega
    have hId:decide ((0:Int) < (r.pairs.length:Int))=true:=decide_eq_true hIi
    have hcc:r.pairs.length≤c1:=(SN.out.list (.head _)).cap
    by_cases hc1:c1=1
    ·subst hc1
     have hp1:r.pairs.length=1:=by omega
     have HD:=Lib.hid (show r.pairs.drop 1=[] from List.drop_eq_nil_of_le (by omega))
     go_wp2_with fail
     go_meet
     exact ⟨⟨r.way,r.pallet,r.classes,[],r.types,r.master,r.items⟩,.slice (some ⟨gp,0,none⟩) 0 0,_,_,_,Lib.hid ((SN.out.toR3.nilP.rot2.store 6 (.slice (some ⟨gp,0,none⟩) 0 0)).rot2),by unfold Request.bulk;simp only [List.length_nil];omega⟩
    ·have hc0 : ¬ (c1 - 1=0):=by omega
     go_wp2_with fail
     go_meet
     exact ⟨⟨r.way,r.pallet,r.classes,r.pairs.drop 1,r.types,r.master,r.items⟩,_,_,_,_,Lib.hid (((SN.out.toR3.dropP hI).rot2.store 6 (.slice (some ⟨gp,0 + 2,none⟩) (r.pairs.length - 1) (c1 - 1))).rot2),by unfold Request.bulk;simp only [List.length_drop];omega⟩
   ·have hId:decide ((0:Int) < (r.pairs.length:Int))=false:=decide_eq_false (by omega)
    have hIz:r.pairs.length=0:=by omega
    go_wp2_with fail
    go_meet
    exact ⟨r,_,_,_,_,Lib.hid SN.out.toR3,hb80⟩
  by_cases h11:kk=11
  ·subst h11
   obtain ⟨t0,ht0⟩:∃ z,r.types[0]? = some z:=⟨_,List.getElem?_eq_getElem hT0⟩
   obtain ⟨gt,rfl⟩:=head_ptr (SN.out.list (.tail _ (.head _))) ht0
   have hct:=(SN.out.list (.tail _ (.head _))).cells (fun _=>rfl) ht0
   have hfr:=fun o=>(SN.out.list (.tail _ (.head _))).free o
   simp only [Nat.zero_mul,Nat.zero_add] at hct
   have hT0i:(0:Int) < (r.types.length:Int):=by omega
   have k3:=SN.out.box (.tail _ (.tail _ (.tail _ (.head _))))
   have f3z:=SN.out.free (.tail _ (.tail _ (.tail _ (.head _))))
   have l3:=SN.out.boxlt (.tail _ (.tail _ (.tail _ (.head _))))
   have lgt:=(SN.out.list (.tail _ (.head _))).size.2.2.2
   have hct0:=hct 0 _ rfl
   have hct1:=hct 1 _ rfl
   have hct2:=hct 2 _ rfl
   have hct3:=hct 3 _ rfl
   have hct4:=hct 4 _ rfl
   have hct5:=hct 5 _ rfl
   have hct6:=hct 6 _ rfl
   go_wp2_with fail
   refine regu (S:=(fun W'=>W'.cell? ⟨b3,7,none⟩=some (.slice (some ⟨gt,0,none⟩) r.types.length c2))) (by kernel_rfl) (fun _ _ _ _ _=>id) ?_ fun hHeld=>?_
   ·(first | exact k3 7 | go_keep)
   refine tku (b:=?_) [0,1,2,3,4] (by kernel_rfl) hHeld ?_ ?_
   rotate_left
   ·repeat first
    |exact .nil
    |refine .yes (v:=?_) rfl (by rfl) ?_ ?_
     rotate_left
     ·intro w9 hSw;(try dsimp only at hSw);go_simp;(try with_reducible rfl)
     (try simp only [aP,aZ,aS,aG,aH,aI])
   refine onu 5 rfl (by kernel_rfl) fun K hK=>?_
   go_simp
   refine hK.out _ _ ?_ (fun hHeld=>?_)
   ·(first | exact k3 7 | go_keep)
   clear hK K
   (try simp only [aP,aZ,aS,aG,aH,aI])
   refine onu 6 rfl (by kernel_rfl) fun K hK=>?_
   go_simp
   refine hK.out _ _ ?_ (fun hHeld=>?_)
   ·(first | exact k3 7 | go_keep)
   clear hK K
   (try simp only [aP,aZ,aS,aG,aH,aI])
   refine onu 7 rfl (by kernel_rfl) fun K hK=>?_
   (refine sapp_Type (.tmp 108) (.tmp 113) rfl rfl t0 rfl rfl (heap_alloc_new _ _) rfl ((SN.out.list (.tail _ (.head _))).next (by repeat' with_reducible first | assumption | exact bR | apply bD | apply bA | apply bC | apply bN | simp <;> omega)) (by first | omega | (simp;done) | (simp;omega)) (by have:=SN.out.low.size;first | omega | (simp;done) | (simp;omega)) ?_;intro v7 w7 ha;obtain ⟨g7,S7⟩:=(SN.out.rot2.next (by repeat' with_reducible first | assumption | exact bR | apply bD | apply bA | apply bC | apply bN | simp <;> omega)).app ha;have S8:=Lib.hid (S7.rot2);obtain ⟨C7,c7,rfl,_⟩:=(S7.list (.head _)).form;simp only [List.length_append,List.length_cons,List.length_nil,Nat.zero_add] at S8;have k3:=S8.out.box (.tail _ (.tail _ (.tail _ (.head _))));have f3z:=S8.out.free (.tail _ (.tail _ (.tail _ (.head _))));clear S7 ha)
   refine hK.out _ _ ?_ (fun hHeld=>?_)
   ·(first | exact k3 7 | go_keep)
   clear hK K
   (try simp only [aP,aZ,aS,aG,aH,aI])
   refine tku (b:=?_) [8] (by kernel_rfl) hHeld ?_ ?_
   rotate_left
   ·repeat first
    |exact .nil
    |refine .yes (v:=?_) rfl (by rfl) ?_ ?_
     rotate_left
     ·intro w9 hSw;(try dsimp only at hSw);go_simp;(try with_reducible rfl)
     (try simp only [aP,aZ,aS,aG,aH,aI])
   refine lsu 9 rfl (by kernel_rfl) fun K hK=>?_
   go_simp
   refine hK.out _ _ ?_
   clear hK K
   (try simp only [aP,aZ,aS,aG,aH,aI])
   go_wp2_with fail
   go_meet
   exact ⟨⟨r.way,r.pallet,r.classes,r.pairs,r.types ++ [t0],r.master,r.items⟩,_,_,_,_,Lib.hid ((S8.out.up3.store 7 (.slice C7 (r.types.length + 1) c7)).down3.toR3),by unfold Request.bulk;simp only [List.length_append,List.length_cons,List.length_nil];omega⟩
  by_cases h12:kk=12
  ·subst h12
   have k3:=SN.out.box (.tail _ (.tail _ (.tail _ (.head _))))
   have f3z:=SN.out.free (.tail _ (.tail _ (.tail _ (.head _))))
   go_wp2_with fail
   go_meet
   exact ⟨⟨r.way,r.pallet,r.classes,r.pairs,[],r.master,r.items⟩,_,_,_,_,Lib.hid ((SN.out.toR3.nilT.rot2.store 7 (.slice none 0 0)).rot2),by unfold Request.bulk;simp only [List.length_nil];omega⟩
  go_wp2_with fail
  go_meet
  exact ⟨r,_,_,_,_,Lib.hid SN.out.toR3,hb80⟩
 case rest =>
  obtain ⟨r',vp,vt,vi,fp,SN2,hb⟩:=hcut
  clear SN
  have SN:=SN2
  clear SN2
  have k3:=SN.out.box (.tail _ (.head _))
  have k2:=SN.out.box (.tail _ (.tail _ (.head _)))
  have f2:=SN.out.free (.tail _ (.tail _ (.head _)))
  obtain ⟨⟨A4,c4,rfl,_⟩,⟨A5,c5,rfl,_⟩,⟨A6,c6,rfl,_⟩⟩:=SN.out.on _ (.head _)
  go_wp2
  refine bodyPost_ret (v:=.agg #[.int .i64 r'.way,.int .i64 r'.pallet.w,.int .i64 r'.pallet.d,.int .i64 r'.pallet.h,.int .i64 r'.pallet.gram,.int .i64 r'.classes,.slice A4 r'.pairs.length c4,.slice A5 r'.types.length c5,.int .i64 r'.master,.slice A6 r'.items.length c6]) (by simp [results,Tryz.results214,go_sem,k2,f2]) rfl ?_
  have S9:=(SN.out.rot3.overL [.int .i64 r'.way,.int .i64 r'.pallet.w,.int .i64 r'.pallet.d,.int .i64 r'.pallet.h,.int .i64 r'.pallet.gram,.int .i64 r'.classes,.slice A4 r'.pairs.length c4,.slice A5 r'.types.length c5,.int .i64 r'.master,.slice A6 r'.items.length c6] 0).drop
  exact ⟨_,r',fp,rfl,S9.rot2.drop.toRq,hb⟩
end Go.Proofs.YtioijfplbgpjpaaGreat
