/-
  The walks over Fits, both sides.
-/
import Derived.Test.YtioijfplbgpjpaaGreatKu04
import Derived.Test.YtioijfplbgpjpaaGreatKu05
import Derived.Test.YtioijfplbgpjpaaGreatKu02
import Derived.Deep.RegionHeld3
import Derived.Deep.DeepCutAuto
import Derived.Deep.RegionLaw
import Derived.Deep.RegionWith
namespace Go.Proofs.YtioijfplbgpjpaaGreat
set_option linter.unusedVariables false
set_option linter.unusedSimpArgs false
set_option maxRecDepth 100000
open Go.RowKit
theorem own_lit (w:World) (base:Nat) (hB:base≤w.heap.size) (xs:List Int) (hl:xs.length≤16777216) (w':World) (h:w'.heap[w.heap.size]? = some (.cells (xs.map (Value.int .i64)).toArray 3 (0,0))) :
  OInts w' base (.slice (some ⟨w.heap.size,0,none⟩) xs.length xs.length) xs [w.heap.size]:=by
 refine ⟨⟨by rw [flat_cI];simp,.inr ⟨w.heap.size,xs.length,_,rfl,hB,h,Nat.le_refl _,by unfold maxLen;omega,by simp,?_⟩⟩,rfl⟩
 rw [flat_cI]
 simp only [Nat.mul_one]
 exact List.take_of_length_le (by simp)
theorem own_at3 {w:World} {B g:Nat} {a b c:Int} (hB:B≤g) (h:w.heap[g]? = some (.cells #[.int .i64 a,.int .i64 b,.int .i64 c] 3 (0,0))):OInts w B (.slice (some ⟨g,0,none⟩) 3 3) [a,b,c] [g] :=
 ⟨⟨rfl,.inr ⟨g,3,_,rfl,hB,h,Nat.le_refl _,by unfold maxLen;omega,rfl,rfl⟩⟩,rfl⟩
theorem len3 {α:Type} {l:List α} (h:l.length=3):∃ a b c,l=[a,b,c]:=by
 match l,h with
 |[a,b,c],_=>exact ⟨a,b,c,rfl⟩
theorem sides_len (a b c:Int):(sides a b c).length=3:=by unfold sides;rw [sortI_length];rfl
set_option maxRecDepth 100000 in
set_option maxHeartbeats 1000000 in
theorem l5Sides_any (a b c:Int) (w:World):Calls Tryz.prog 296 #[.int .i64 a,.int .i64 b,.int .i64 c] w (MInts w (sides a b c)):=by
 have hb0:Below w.heap.size w (w.alloc (.cells #[.int .i64 a,.int .i64 b,.int .i64 c] 3)):=(by repeat' with_reducible first | assumption | exact bR | apply bD | apply bA | apply bC | apply bN | simp <;> omega)
 have hR:=(own_lit w w.heap.size (Nat.le_refl _) [a,b,c] (by simp) (w.alloc (.cells #[.int .i64 a,.int .i64 b,.int .i64 c] 3)) (by simpa using heap_alloc_new w (.cells #[.int .i64 a,.int .i64 b,.int .i64 c] 3))).read (by simp)
 have HC:=Lib.hid (sSortUp_any _ [a,b,c] _ hR)
 have hlen:(argUp [a,b,c]).length=3:=argUp_length _
 obtain ⟨p0,p1,p2,hp⟩:=len3 hlen
 have hm:∀ p∈argUp [a,b,c],p < 3:=fun p h=>argUp_mem.1 h
 have HS:=Lib.hid (argUp_keys [a,b,c])
 rw [hp] at hm HS HC
 have h0:=hm p0 (by simp)
 have h1:=hm p1 (by simp)
 have h2:=hm p2 (by simp)
 obtain ⟨k0,hk0⟩:∃ k,keyAt [a,b,c] p0=k:=⟨_,rfl⟩
 obtain ⟨k1,hk1⟩:∃ k,keyAt [a,b,c] p1=k:=⟨_,rfl⟩
 obtain ⟨k2,hk2⟩:∃ k,keyAt [a,b,c] p2=k:=⟨_,rfl⟩
 have HS:=Lib.hid (show sides a b c=[k0,k1,k2] by unfold sides;rw [← HS.out,← hk0,← hk1,← hk2];rfl)
 have hcell:∀ p,p < 3→(w.alloc (.cells #[.int .i64 a,.int .i64 b,.int .i64 c] 3)).cell? ⟨w.heap.size,p,none⟩=some (.int .i64 (keyAt [a,b,c] p)):=by
  intro p hp
  rw [cell_of_row _ _ p _ _ (0,0) (heap_alloc_new w _)]
  obtain rfl | rfl | rfl:p=0 ∨ p=1 ∨ p=2:=by omega
  all_goals rfl
 have HCL:=Lib.hid hcell
 clear hp hm hlen hcell hR
 go_enter Tryz.func296,Tryz.ntmps296
 go_wp2_with fail
 refine HC.out.mono ?_
 rintro e w2 ⟨v',fp,rfl,ho,hb2⟩
 have hrd:=ho.read (by simp [ints])
 obtain ⟨A,cc,rfl,hcc,hA⟩:=hrd
 obtain ⟨g,off,rfl,hg,hce⟩:=hA (by simp [ints])
 obtain ⟨_,_,rfl,e0⟩:=hce 0 (p0:Int) rfl
 obtain ⟨_,_,rfl,e1⟩:=hce 1 (p1:Int) rfl
 obtain ⟨_,_,rfl,e2⟩:=hce 2 (p2:Int) rfl
 have q0:=e0 0 _ rfl
 have q1:=e1 0 _ rfl
 have q2:=e2 0 _ rfl
 simp only [Nat.add_zero,Nat.zero_mul,Nat.one_mul,Nat.mul_one] at q0 q1 q2
 have r0:=(hb2.cell (p:=⟨w.heap.size,p0,none⟩) (by simp)).trans (HCL.out p0 h0)
 have r1:=(hb2.cell (p:=⟨w.heap.size,p1,none⟩) (by simp)).trans (HCL.out p1 h1)
 have r2:=(hb2.cell (p:=⟨w.heap.size,p2,none⟩) (by simp)).trans (HCL.out p2 h2)
 rw [hk0] at r0
 rw [hk1] at r1
 rw [hk2] at r2
 obtain ⟨i0,i1,i2,i3,i4,i5⟩:(0:Int)≤p0∧(p0:Int) < 3∧(0:Int)≤p1∧(p1:Int) < 3∧(0:Int)≤p2∧(p2:Int) < 3:=by omega
 have hW:=Lib.hid (bstep hb0 hb2)
 have hil:(ints [p0,p1,p2]).length=3:=rfl
 rw [hil]
 clear hce e0 e1 e2 hA ho hb0 hb2 hcc hk0 hk1 hk2 hil
 go_wp2
 go_region_held3 (fun W'=>W'.cell? ⟨g,off,none⟩=some (.int .i64 p0)∧W'.cell? ⟨g,off + 1,none⟩=some (.int .i64 p1)∧W'.cell? ⟨g,off + 2,none⟩=some (.int .i64 p2)∧W'.cell? ⟨w.heap.size,p0,none⟩=some (.int .i64 k0)∧W'.cell? ⟨w.heap.size,p1,none⟩=some (.int .i64 k1)∧W'.cell? ⟨w.heap.size,p2,none⟩=some (.int .i64 k2)) (go_keep) (fail)
 go_wp2
 go_ret
 rw [HS.out]
 refine MInts.mk (own_lit w2 w2.heap.size (Nat.le_refl _) [k0,k1,k2] (by simp) _ ?_) hW.out.size ?_
 ·exact heap_alloc_new w2 (.cells #[.int .i64 k0,.int .i64 k1,.int .i64 k2] 3)
 ·have:=hW.out
  have:=this.size
  (repeat' with_reducible first | assumption | exact bR | apply bD | apply bA | apply bC | apply bN | simp <;> omega)
theorem OInts.three {w:World} {base:Nat} {v:Value} {x0 x1 x2:Int} {fp:List Nat} (h:OInts w base v [x0,x1,x2] fp) {B:Nat} (hB:w.heap.size≤B) {W:World} (hb:Below w.heap.size w W) :
  ∃ g c,v=.slice (some ⟨g,0,none⟩) 3 c∧(∀ X:Ext B W,X.world.cell? ⟨g,0,none⟩=some (.int .i64 x0))∧(∀ X:Ext B W,X.world.cell? ⟨g,1,none⟩=some (.int .i64 x1))∧(∀ X:Ext B W,X.world.cell? ⟨g,2,none⟩=some (.int .i64 x2)):=by
 obtain ⟨g,cap,cur,rfl,_,hlt,_⟩:=own_ints_shape h.1 (by simp)
 have hc:=fun j (hj:j < 3)=>h.1.cellAt j (by simpa using hj)
 exact ⟨g,cap,rfl,fun X=>((X.low hb hB).cell (p:=⟨g,0,none⟩) hlt).trans (hc 0 (by omega)),fun X=>((X.low hb hB).cell (p:=⟨g,1,none⟩) hlt).trans (hc 1 (by omega)),fun X=>((X.low hb hB).cell (p:=⟨g,2,none⟩) hlt).trans (hc 2 (by omega))⟩
set_option maxRecDepth 100000 in
set_option maxHeartbeats 1000000 in
theorem sFits_any (x:Item) (t:GType) (w:World):Calls Tryz.prog 228 #[x.val,t.val] w fun e w'=>e=.returned (.bool (fits x t))∧Below w.heap.size w w':=by
 have hq0:=lay_box0 w [.cells #[.int .i64 x.id,.int .i64 x.w,.int .i64 x.h,.int .i64 x.d,.int .i64 x.gram,.int .i64 x.cls,.int .i64 x.count] 152,.cells #[.int .i64 t.id,.int .i64 t.w,.int .i64 t.h,.int .i64 t.d,.int .i64 t.tare,.int .i64 t.gram,.int .i64 t.cost] 142] _ _ rfl
 have hq1:=lay_box w [.cells #[.int .i64 x.id,.int .i64 x.w,.int .i64 x.h,.int .i64 x.d,.int .i64 x.gram,.int .i64 x.cls,.int .i64 x.count] 152,.cells #[.int .i64 t.id,.int .i64 t.w,.int .i64 t.h,.int .i64 t.d,.int .i64 t.tare,.int .i64 t.gram,.int .i64 t.cost] 142] 1 _ _ rfl
 have HL:=Lib.hid (lay_low w [.cells #[.int .i64 x.id,.int .i64 x.w,.int .i64 x.h,.int .i64 x.d,.int .i64 x.gram,.int .i64 x.cls,.int .i64 x.count] 152,.cells #[.int .i64 t.id,.int .i64 t.w,.int .i64 t.h,.int .i64 t.d,.int .i64 t.tare,.int .i64 t.gram,.int .i64 t.cost] 142])
 have HZ:=Lib.hid (lay_size w [.cells #[.int .i64 x.id,.int .i64 x.w,.int .i64 x.h,.int .i64 x.d,.int .i64 x.gram,.int .i64 x.cls,.int .i64 x.count] 152,.cells #[.int .i64 t.id,.int .i64 t.w,.int .i64 t.h,.int .i64 t.d,.int .i64 t.tare,.int .i64 t.gram,.int .i64 t.cost] 142])
 obtain ⟨a0,a1,a2,ha⟩:=len3 (sides_len x.w x.h x.d)
 obtain ⟨b0,b1,b2,hb⟩:=len3 (sides_len t.w t.h t.d)
 have C1:=Lib.hid (l5Sides_any x.w x.h x.d)
 have C2:=Lib.hid (l5Sides_any t.w t.h t.d)
 rw [ha] at C1
 rw [hb] at C2
 have HF:=Lib.hid (show fits x t=(decide (a0≤b0) && decide (a1≤b1) && decide (a2≤b2) && decide (x.gram≤t.gram)) by unfold fits;rw [ha,hb];rfl)
 clear ha hb
 go_enter Tryz.func228,Tryz.ntmps228
 go_wp2_with fail
 refine (C1.out _).mono ?_
 rintro e w2 ⟨v1,f1,rfl,ho1,hb1⟩
 have hw2:Below (w.heap.size + 2) (lay w [.cells #[.int .i64 x.id,.int .i64 x.w,.int .i64 x.h,.int .i64 x.d,.int .i64 x.gram,.int .i64 x.cls,.int .i64 x.count] 152,.cells #[.int .i64 t.id,.int .i64 t.w,.int .i64 t.h,.int .i64 t.d,.int .i64 t.tare,.int .i64 t.gram,.int .i64 t.cost] 142]) w2:=hb1.mono (by simp)
 obtain ⟨X2,rfl⟩:∃ X:Ext (w.heap.size + 2) (lay w [.cells #[.int .i64 x.id,.int .i64 x.w,.int .i64 x.h,.int .i64 x.d,.int .i64 x.gram,.int .i64 x.cls,.int .i64 x.count] 152,.cells #[.int .i64 t.id,.int .i64 t.w,.int .i64 t.h,.int .i64 t.d,.int .i64 t.tare,.int .i64 t.gram,.int .i64 t.cost] 142]),w2=X.world:=⟨⟨w2,hw2⟩,rfl⟩
 have HO1:=Lib.hid ho1
 clear hw2 ho1 hb1
 go_wp2_with fail
 refine (C2.out _).mono ?_
 rintro e w3 ⟨v2,f2,rfl,ho2,hb2⟩
 have hw3:Below (w.heap.size + 2) (lay w [.cells #[.int .i64 x.id,.int .i64 x.w,.int .i64 x.h,.int .i64 x.d,.int .i64 x.gram,.int .i64 x.cls,.int .i64 x.count] 152,.cells #[.int .i64 t.id,.int .i64 t.w,.int .i64 t.h,.int .i64 t.d,.int .i64 t.tare,.int .i64 t.gram,.int .i64 t.cost] 142]) w3:=X2.ok.trans (hb2.mono (HZ.out X2))
 obtain ⟨g1,d1,rfl,p0,p1,p2⟩:=HO1.out.three (B:=w3.heap.size) hb2.size hb2
 obtain ⟨g2,d2,rfl,r0,r1,r2⟩:=ho2.three (B:=w3.heap.size) (Nat.le_refl _) (Below.refl _ w3)
 have hlz:w.heap.size + 2≤w3.heap.size:=HZ.out ⟨w3,hw3⟩
 have s0:=fun (X:Ext w3.heap.size w3) (j:Nat)=>(X.cells (b:=w.heap.size) (o:=j) (by omega)).trans (hq0 ⟨w3,hw3⟩ j)
 have s1:=fun (X:Ext w3.heap.size w3) (j:Nat)=>(X.cells (b:=w.heap.size + 1) (o:=j) (by omega)).trans (hq1 ⟨w3,hw3⟩ j)
 have HB:Hid (Below w.heap.size w w3):=Lib.hid (HL.out ⟨w3,hw3⟩)
 clear hw3 hlz ho2 hb2 hq0 hq1
 by_cases e0:a0≤b0
 ·have e0':decide (a0≤b0)=true:=by simpa using e0
  by_cases e1:a1≤b1
  ·have e1':decide (a1≤b1)=true:=by simpa using e1
   by_cases e2:a2≤b2
   ·have e2':decide (a2≤b2)=true:=by simpa using e2
    have HR:=Lib.hid (show fits x t=decide (x.gram≤t.gram) by rw [HF.out,e0',e1',e2'];simp)
    go_wp2
    refine wp_region_at (B:=w3.heap.size) (by kernel_rfl) (by kernel_rfl) ?_;(repeat (go_big_quiet_step (fail)));refine wpQuiet_nil ?_;intro _ hw';obtain ⟨Y,rfl⟩:=hw'
    go_wp2
    go_ret
    exact ⟨ret_bool HR.out.symm,bstep HB.out Y.ok⟩
   ·have e2':decide (a2≤b2)=false:=by simp;omega
    have HR:=Lib.hid (show fits x t=false by rw [HF.out,e2'];simp)
    clear e2
    go_wp2
    refine wp_region_at (B:=w3.heap.size) (by kernel_rfl) (by kernel_rfl) ?_;(repeat (go_big_quiet_step (fail)));refine wpQuiet_nil ?_;intro _ hw';obtain ⟨Y,rfl⟩:=hw'
    go_wp2
    go_ret
    exact ⟨ret_bool HR.out.symm,bstep HB.out Y.ok⟩
  ·have e1':decide (a1≤b1)=false:=by simp;omega
   have HR:=Lib.hid (show fits x t=false by rw [HF.out,e1'];simp)
   clear e1
   go_wp2
   refine wp_region_at (B:=w3.heap.size) (by kernel_rfl) (by kernel_rfl) ?_;(repeat (go_big_quiet_step (fail)));refine wpQuiet_nil ?_;intro _ hw';obtain ⟨Y,rfl⟩:=hw'
   go_wp2
   go_ret
   exact ⟨ret_bool HR.out.symm,bstep HB.out Y.ok⟩
 ·have e0':decide (a0≤b0)=false:=by simp;omega
  have HR:=Lib.hid (show fits x t=false by rw [HF.out,e0'];simp)
  clear e0
  go_wp2
  refine wp_region_at (B:=w3.heap.size) (by kernel_rfl) (by kernel_rfl) ?_;(repeat (go_big_quiet_step (fail)));refine wpQuiet_nil ?_;intro _ hw';obtain ⟨Y,rfl⟩:=hw'
  go_wp2
  go_ret
  exact ⟨ret_bool HR.out.symm,bstep HB.out Y.ok⟩
set_option maxRecDepth 100000 in
set_option maxHeartbeats 1000000 in
theorem iFits_any (x:Item) (t:GType) (w:World):Calls Tryz.prog 265 #[x.val,t.val] w fun e w'=>e=.returned (.bool (fits x t))∧Below w.heap.size w w':=by
  obtain ⟨W0,hW0⟩:∃ W,W=lay w [.cells #[.int .i64 x.id,.int .i64 x.w,.int .i64 x.h,.int .i64 x.d,.int .i64 x.gram,.int .i64 x.cls,.int .i64 x.count] 152,.cells #[.int .i64 t.id,.int .i64 t.w,.int .i64 t.h,.int .i64 t.d,.int .i64 t.tare,.int .i64 t.gram,.int .i64 t.cost] 142]:=⟨_,rfl⟩
  have hq0:∀ j,W0.cell? ⟨w.heap.size,j,none⟩=(#[.int .i64 x.id,.int .i64 x.w,.int .i64 x.h,.int .i64 x.d,.int .i64 x.gram,.int .i64 x.cls,.int .i64 x.count]:Array Value)[j]?:=by rw [hW0];exact lay_box0 w [.cells #[.int .i64 x.id,.int .i64 x.w,.int .i64 x.h,.int .i64 x.d,.int .i64 x.gram,.int .i64 x.cls,.int .i64 x.count] 152,.cells #[.int .i64 t.id,.int .i64 t.w,.int .i64 t.h,.int .i64 t.d,.int .i64 t.tare,.int .i64 t.gram,.int .i64 t.cost] 142] _ _ rfl (Ext.here _ _)
  have hq1:∀ j,W0.cell? ⟨w.heap.size + 1,j,none⟩=(#[.int .i64 t.id,.int .i64 t.w,.int .i64 t.h,.int .i64 t.d,.int .i64 t.tare,.int .i64 t.gram,.int .i64 t.cost]:Array Value)[j]?:=by rw [hW0];exact lay_box w [.cells #[.int .i64 x.id,.int .i64 x.w,.int .i64 x.h,.int .i64 x.d,.int .i64 x.gram,.int .i64 x.cls,.int .i64 x.count] 152,.cells #[.int .i64 t.id,.int .i64 t.w,.int .i64 t.h,.int .i64 t.d,.int .i64 t.tare,.int .i64 t.gram,.int .i64 t.cost] 142] 1 _ _ rfl (Ext.here _ _)
  have hB:Below w.heap.size w W0:=by rw [hW0];exact lay_below _ _
  have hN:W0.heap.size=w.heap.size + 2:=by rw [hW0];exact lay_heap _ _
  have HW0:=Lib.hid hW0
  obtain ⟨a0,a1,a2,ha⟩:=len3 (sides_len x.w x.h x.d)
  obtain ⟨b0,b1,b2,hb⟩:=len3 (sides_len t.w t.h t.d)
  have HA:=Lib.hid (show sortI [x.w,x.h,x.d]=[a0,a1,a2] from ha)
  have HB:=Lib.hid (show sortI [t.w,t.h,t.d]=[b0,b1,b2] from hb)
  have HF:=Lib.hid (show fits x t=(decide (a0≤b0) && decide (a1≤b1) && decide (a2≤b2) && decide (x.gram≤t.gram)) by unfold fits;rw [ha,hb];rfl)
  have hc0:=hq0 1
  have hc1:=hq0 2
  have hc2:=hq0 3
  have hd0:=hq1 1
  have hd1:=hq1 2
  have hd2:=hq1 3
  simp at hc0 hc1 hc2 hd0 hd1 hd2
  have HQ0:=Lib.hid hq0
  have HQ1:=Lib.hid hq1
  have HBL:=Lib.hid hB
  have HNN:=Lib.hid hN
  clear ha hb hq0 hq1 hB hN
  go_enter Tryz.func265,Tryz.ntmps265
  go_wp2
  rw [show (w.alloc (.cells #[.int .i64 x.id,.int .i64 x.w,.int .i64 x.h,.int .i64 x.d,.int .i64 x.gram,.int .i64 x.cls,.int .i64 x.count] 152)).alloc (.cells #[.int .i64 t.id,.int .i64 t.w,.int .i64 t.h,.int .i64 t.d,.int .i64 t.tare,.int .i64 t.gram,.int .i64 t.cost] 142)=W0 from HW0.out.symm]
  clear hW0
  go_region_held3 (fun W'=>W'.cell? ⟨w.heap.size,1,none⟩=some (.int .i64 x.w)∧W'.cell? ⟨w.heap.size,2,none⟩=some (.int .i64 x.h)∧W'.cell? ⟨w.heap.size,3,none⟩=some (.int .i64 x.d)∧W'.cell? ⟨w.heap.size + 1,1,none⟩=some (.int .i64 t.w)∧W'.cell? ⟨w.heap.size + 1,2,none⟩=some (.int .i64 t.h)∧W'.cell? ⟨w.heap.size + 1,3,none⟩=some (.int .i64 t.d)) (go_keep) (fail)
  all_goals clear hc0 hc1 hc2 hd0 hd1 hd2
  all_goals
    first
    | (have hB1:Below W0.heap.size W0 ((W0.alloc (.cells #[.int .i64 x.w,.int .i64 x.h,.int .i64 x.d] 3)).alloc (.cells #[.int .i64 t.w,.int .i64 t.h,.int .i64 t.d] 3)).drew:=(by repeat' with_reducible first | assumption | exact bR | apply bD | apply bA | apply bC | apply bN | simp <;> omega)
       have hh0:((W0.alloc (.cells #[.int .i64 x.w,.int .i64 x.h,.int .i64 x.d] 3)).alloc (.cells #[.int .i64 t.w,.int .i64 t.h,.int .i64 t.d] 3)).drew.heap[W0.heap.size]? = some (.cells #[.int .i64 x.w,.int .i64 x.h,.int .i64 x.d] 3 (0,0)):=(show ((W0.alloc (.cells #[.int .i64 x.w,.int .i64 x.h,.int .i64 x.d] 3)).alloc (.cells #[.int .i64 t.w,.int .i64 t.h,.int .i64 t.d] 3)).heap[W0.heap.size]? = some (.cells #[.int .i64 x.w,.int .i64 x.h,.int .i64 x.d] 3 (0,0)) by (simp only [heap_alloc_if,World.size_alloc];repeat (first | rw [if_neg (by omega)] | rw [if_pos (by omega)] | rw [if_pos trivial])))
       have hh1:((W0.alloc (.cells #[.int .i64 x.w,.int .i64 x.h,.int .i64 x.d] 3)).alloc (.cells #[.int .i64 t.w,.int .i64 t.h,.int .i64 t.d] 3)).drew.heap[W0.heap.size + 1]? = some (.cells #[.int .i64 t.w,.int .i64 t.h,.int .i64 t.d] 3 (0,0)):=(show ((W0.alloc (.cells #[.int .i64 x.w,.int .i64 x.h,.int .i64 x.d] 3)).alloc (.cells #[.int .i64 t.w,.int .i64 t.h,.int .i64 t.d] 3)).heap[W0.heap.size + 1]? = some (.cells #[.int .i64 t.w,.int .i64 t.h,.int .i64 t.d] 3 (0,0)) by (simp only [heap_alloc_if,World.size_alloc];repeat (first | rw [if_neg (by omega)] | rw [if_pos (by omega)] | rw [if_pos trivial])))
       obtain ⟨W1,hW1⟩:∃ W1,W1=((W0.alloc (.cells #[.int .i64 x.w,.int .i64 x.h,.int .i64 x.d] 3)).alloc (.cells #[.int .i64 t.w,.int .i64 t.h,.int .i64 t.d] 3)).drew:=⟨_,rfl⟩
       rw [← hW1] at hB1 hh0 hh1 ⊢
       have hoa:OInts W1 W0.heap.size (.slice (some ⟨W0.heap.size,0,none⟩) 3 3) [x.w,x.h,x.d] [W0.heap.size]:=own_at3 (Nat.le_refl _) hh0
       have hob:OInts W1 W0.heap.size (.slice (some ⟨W0.heap.size + 1,0,none⟩) 3 3) [t.w,t.h,t.d] [W0.heap.size + 1]:=own_at3 (Nat.le_succ _) hh1
       have hdis:∀ k∈[W0.heap.size],k∈[W0.heap.size + 1]→False:=by intro k h1 h2;simp at h1 h2;omega
       have hga:∀ k∈[W0.heap.size],W0.heap.size≤k:=by intro k h1;simp at h1;omega
       have hgb:∀ k∈[W0.heap.size + 1],W0.heap.size≤k:=by intro k h1;simp at h1;omega
       clear hW1 hh0 hh1)
    | (have hB1:Below W0.heap.size W0 ((W0.alloc (.cells #[.int .i64 t.w,.int .i64 t.h,.int .i64 t.d] 3)).alloc (.cells #[.int .i64 x.w,.int .i64 x.h,.int .i64 x.d] 3)).drew:=(by repeat' with_reducible first | assumption | exact bR | apply bD | apply bA | apply bC | apply bN | simp <;> omega)
       have hh0:((W0.alloc (.cells #[.int .i64 t.w,.int .i64 t.h,.int .i64 t.d] 3)).alloc (.cells #[.int .i64 x.w,.int .i64 x.h,.int .i64 x.d] 3)).drew.heap[W0.heap.size]? = some (.cells #[.int .i64 t.w,.int .i64 t.h,.int .i64 t.d] 3 (0,0)):=(show ((W0.alloc (.cells #[.int .i64 t.w,.int .i64 t.h,.int .i64 t.d] 3)).alloc (.cells #[.int .i64 x.w,.int .i64 x.h,.int .i64 x.d] 3)).heap[W0.heap.size]? = some (.cells #[.int .i64 t.w,.int .i64 t.h,.int .i64 t.d] 3 (0,0)) by (simp only [heap_alloc_if,World.size_alloc];repeat (first | rw [if_neg (by omega)] | rw [if_pos (by omega)] | rw [if_pos trivial])))
       have hh1:((W0.alloc (.cells #[.int .i64 t.w,.int .i64 t.h,.int .i64 t.d] 3)).alloc (.cells #[.int .i64 x.w,.int .i64 x.h,.int .i64 x.d] 3)).drew.heap[W0.heap.size + 1]? = some (.cells #[.int .i64 x.w,.int .i64 x.h,.int .i64 x.d] 3 (0,0)):=(show ((W0.alloc (.cells #[.int .i64 t.w,.int .i64 t.h,.int .i64 t.d] 3)).alloc (.cells #[.int .i64 x.w,.int .i64 x.h,.int .i64 x.d] 3)).heap[W0.heap.size + 1]? = some (.cells #[.int .i64 x.w,.int .i64 x.h,.int .i64 x.d] 3 (0,0)) by (simp only [heap_alloc_if,World.size_alloc];repeat (first | rw [if_neg (by omega)] | rw [if_pos (by omega)] | rw [if_pos trivial])))
       obtain ⟨W1,hW1⟩:∃ W1,W1=((W0.alloc (.cells #[.int .i64 t.w,.int .i64 t.h,.int .i64 t.d] 3)).alloc (.cells #[.int .i64 x.w,.int .i64 x.h,.int .i64 x.d] 3)).drew:=⟨_,rfl⟩
       rw [← hW1] at hB1 hh0 hh1 ⊢
       have hoa:OInts W1 W0.heap.size (.slice (some ⟨W0.heap.size + 1,0,none⟩) 3 3) [x.w,x.h,x.d] [W0.heap.size + 1]:=own_at3 (Nat.le_succ _) hh1
       have hob:OInts W1 W0.heap.size (.slice (some ⟨W0.heap.size,0,none⟩) 3 3) [t.w,t.h,t.d] [W0.heap.size]:=own_at3 (Nat.le_refl _) hh0
       have hdis:∀ k∈[W0.heap.size + 1],k∈[W0.heap.size]→False:=by intro k h1 h2;simp at h1 h2;omega
       have hga:∀ k∈[W0.heap.size + 1],W0.heap.size≤k:=by intro k h1;simp at h1;omega
       have hgb:∀ k∈[W0.heap.size],W0.heap.size≤k:=by intro k h1;simp at h1;omega
       clear hW1 hh0 hh1)
  all_goals
    go_wp2_with fail
    refine (sortInt_any _ [x.w,x.h,x.d] _ _ _ hoa (by simp)).mono ?_
    rintro e w2 ⟨rfl,ho2,ht2⟩
    rw [HA.out] at ho2
    have hob2:=hob.tch ht2 (fun k h1 h2=>hdis k h2 h1)
    have hB2:=hB1.trans (ht2.below hB1.size hga)
    clear hoa hob hB1 ht2
    go_wp2_with fail
    refine (sortInt_any _ [t.w,t.h,t.d] _ _ _ hob2 (by simp)).mono ?_
    rintro e w3 ⟨rfl,ho3,ht3⟩
    rw [HB.out] at ho3
    have hoa3:=ho2.tch ht3 hdis
    have hB3:=hB2.trans (ht3.below hB2.size hgb)
    obtain ⟨g1,d1,hv1,p0,p1,p2⟩:=hoa3.three (B:=w3.heap.size) (Nat.le_refl _) (Below.refl _ w3)
    obtain ⟨g2,d2,hv2,r0,r1,r2⟩:=ho3.three (B:=w3.heap.size) (Nat.le_refl _) (Below.refl _ w3)
    cases hv1
    cases hv2
    have hlz:w.heap.size + 2≤w3.heap.size:=by have:=hB3.size;have:=HNN.out;omega
    have s0:=fun (X:Ext w3.heap.size w3) (j:Nat)=>(X.cells (b:=w.heap.size) (o:=j) (by omega)).trans ((hB3.cell (p:=⟨w.heap.size,j,none⟩) (by have:=HNN.out;show w.heap.size < W0.heap.size;omega)).trans (HQ0.out j))
    have s1:=fun (X:Ext w3.heap.size w3) (j:Nat)=>(X.cells (b:=w.heap.size + 1) (o:=j) (by omega)).trans ((hB3.cell (p:=⟨w.heap.size + 1,j,none⟩) (by have:=HNN.out;show w.heap.size + 1 < W0.heap.size;omega)).trans (HQ1.out j))
    have HBW:=Lib.hid (bstep HBL.out hB3)
    clear ho2 hob2 hB2 ho3 ht3 hoa3 hB3 hlz hdis hga hgb
    by_cases e0:a0≤b0
    · have e0':decide (a0≤b0)=true:=by simpa using e0
      by_cases e1:a1≤b1
      · have e1':decide (a1≤b1)=true:=by simpa using e1
        by_cases e2:a2≤b2
        · have e2':decide (a2≤b2)=true:=by simpa using e2
          have HR:=Lib.hid (show fits x t=decide (x.gram≤t.gram) by rw [HF.out,e0',e1',e2'];simp)
          go_wp2
          refine wp_region_at (B:=w3.heap.size) (by kernel_rfl) (by kernel_rfl) ?_;(repeat (go_big_quiet_step (fail)));refine wpQuiet_nil ?_;intro _ hw';obtain ⟨Y,rfl⟩:=hw'
          go_wp2
          go_ret
          exact ⟨ret_bool HR.out.symm,bstep HBW.out Y.ok⟩
        · have e2':decide (a2≤b2)=false:=by simp;omega
          have HR:=Lib.hid (show fits x t=false by rw [HF.out,e2'];simp)
          clear e2
          go_wp2
          refine wp_region_at (B:=w3.heap.size) (by kernel_rfl) (by kernel_rfl) ?_;(repeat (go_big_quiet_step (fail)));refine wpQuiet_nil ?_;intro _ hw';obtain ⟨Y,rfl⟩:=hw'
          go_wp2
          go_ret
          exact ⟨ret_bool HR.out.symm,bstep HBW.out Y.ok⟩
      · have e1':decide (a1≤b1)=false:=by simp;omega
        have HR:=Lib.hid (show fits x t=false by rw [HF.out,e1'];simp)
        clear e1
        go_wp2
        refine wp_region_at (B:=w3.heap.size) (by kernel_rfl) (by kernel_rfl) ?_;(repeat (go_big_quiet_step (fail)));refine wpQuiet_nil ?_;intro _ hw';obtain ⟨Y,rfl⟩:=hw'
        go_wp2
        go_ret
        exact ⟨ret_bool HR.out.symm,bstep HBW.out Y.ok⟩
    · have e0':decide (a0≤b0)=false:=by simp;omega
      have HR:=Lib.hid (show fits x t=false by rw [HF.out,e0'];simp)
      clear e0
      go_wp2
      refine wp_region_at (B:=w3.heap.size) (by kernel_rfl) (by kernel_rfl) ?_;(repeat (go_big_quiet_step (fail)));refine wpQuiet_nil ?_;intro _ hw';obtain ⟨Y,rfl⟩:=hw'
      go_wp2
      go_ret
      exact ⟨ret_bool HR.out.symm,bstep HBW.out Y.ok⟩
end Go.Proofs.YtioijfplbgpjpaaGreat
namespace Go.Proofs.YtioijfplbgpjpaaGreat
set_option linter.unusedVariables false
set_option linter.unusedSimpArgs false
set_option maxRecDepth 100000
open Go.RowKit
theorem bounds_type {r:Request} {x:GType} (h:boundsOk r=true) (hx:x∈r.types):0≤x.tare∧x.tare≤100000∧1≤x.gram∧x.gram≤100000:=by
 unfold boundsOk at h
 simp only [Bool.and_eq_true] at h
 have:=List.all_eq_true.1 h.1.1.1.1.2 x hx
 unfold typeOk inB at this
 simp at this
 omega
theorem class_bounds {r:Request} (h:boundsOk r=false):Hid (classOf r=2):=Lib.hid (by unfold classOf;rw [if_pos h])
theorem class_names {r:Request} (h1:boundsOk r=true) (h:namesOk r=false):Hid (classOf r=3):=Lib.hid (by unfold classOf;rw [if_neg (by simp [h1]),if_pos h])
theorem class_table {r:Request} (h1:boundsOk r=true) (h2:namesOk r=true) (h:tableOk r.pairs r.classes=false):Hid (classOf r=4):=Lib.hid (by unfold classOf;rw [if_neg (by simp [h1]),if_neg (by simp [h2]),if_pos h])
theorem class_rest {r:Request} (h1:boundsOk r=true) (h2:namesOk r=true) (h3:tableOk r.pairs r.classes=true):Hid (classOf r=if r.items.any (fun x=>!fits x (masterOf r).1)=true then 5 else if r.types.any (tooBig r.pallet)=true then 6 else 0):=Lib.hid (by unfold classOf;rw [if_neg (by simp [h1]),if_neg (by simp [h2]),if_neg (by simp [h3])])
set_option maxHeartbeats 1000000 in
theorem sClass_any (v:Value) (r:Request) (w:World) (h:RReq 16777216 w w.heap.size v r):Calls Tryz.prog 162 #[v] w fun e w'=>e=.returned (.int .i64 (classOf r))∧Below w.heap.size w w':=by
 have HRQ:=Lib.hid h
 obtain ⟨A1,c1,A2,c2,A3,c3,rfl,⟨H1,H2,H3⟩,hb1,hb2,hb3,_⟩:=h.opn
 have hq:=lay_box0 w [.cells (cR r A1 c1 A2 c2 A3 c3) 41] _ _ rfl
 have HL:=Lib.hid (lay_low w [.cells (cR r A1 c1 A2 c2 A3 c3) 41])
 have HLS:=Lib.hid (lay_size w [.cells (cR r A1 c1 A2 c2 A3 c3) 41])
 have CB:=extC (lay_le w [.cells (cR r A1 c1 A2 c2 A3 c3) 41]) fun X=>sBoundsOk_any _ r X.world (HRQ.out.next (HL.out X))
 have CN:=extC (lay_le w [.cells (cR r A1 c1 A2 c2 A3 c3) 41]) fun X=>l5Names_any _ r X.world (HRQ.out.next (HL.out X))
 have CT:=Lib.hid fun X=>sTableOk_any _ r.pairs r.classes (Ext.world X) (H1.out.next (flat_mono _) (HL.out X))
 have CM:=extC (lay_le w [.cells (cR r A1 c1 A2 c2 A3 c3) 41]) fun X=>sMasterOf_any _ r X.world (HRQ.out.next (HL.out X))
 obtain ⟨mm,hmm⟩:∃ m,masterOf r=m:=⟨_,rfl⟩
 have HMM:=Lib.hid hmm
 rw [hmm] at CM
 obtain ⟨m,mo⟩:=mm
 obtain ⟨b1,hq1⟩:∃ q,boundsOk r=q:=⟨_,rfl⟩
 obtain ⟨b2,hq2⟩:∃ q,namesOk r=q:=⟨_,rfl⟩
 obtain ⟨b3,hq3⟩:∃ q,tableOk r.pairs r.classes=q:=⟨_,rfl⟩
 rw [hq1] at CB
 rw [hq2] at CN
 simp only [hq3] at CT
 have HB1:=Lib.hid hq1
 have HB2:=Lib.hid hq2
 have HB3:=Lib.hid hq3
 clear hmm hq1 hq2 hq3
 cases b1
 ·have HR:=class_bounds HB1.out
  go_enter Tryz.func162,Tryz.ntmps162
  go_wp2_with (go_at_call 224;(first | refine (CB.out _).mono ?_ | refine (CB.out (Ext.here _ _)).mono ?_);rintro e w' ⟨rfl,Y,rfl⟩)
  go_ret
  exact ⟨ret_int HR.out.symm,HL.out Y⟩
 cases b2
 ·have HR:=class_names HB1.out HB2.out
  go_enter Tryz.func162,Tryz.ntmps162
  go_wp2_with (first | (go_at_call 224;(first | refine (CB.out _).mono ?_ | refine (CB.out (Ext.here _ _)).mono ?_);rintro e w' ⟨rfl,Y,rfl⟩) | (go_at_call 225;(first | refine (CN.out _).mono ?_ | refine (CN.out (Ext.here _ _)).mono ?_);rintro e w' ⟨rfl,Y,rfl⟩))
  go_ret
  exact ⟨ret_int HR.out.symm,HL.out Y⟩
 cases b3
 ·have HR:=class_table HB1.out HB2.out HB3.out
  go_enter Tryz.func162,Tryz.ntmps162
  go_wp2_with (first | (go_at_call 224;(first | refine (CB.out _).mono ?_ | refine (CB.out (Ext.here _ _)).mono ?_);rintro e w' ⟨rfl,Y,rfl⟩) | (go_at_call 225;(first | refine (CN.out _).mono ?_ | refine (CN.out (Ext.here _ _)).mono ?_);rintro e w' ⟨rfl,Y,rfl⟩) | (go_at_call 226;refine (CT.out _).mono ?_;rintro e w' ⟨rfl,rfl⟩))
  go_ret
  exact ⟨ret_int HR.out.symm,HL.out Y⟩
 have HR:=class_rest HB1.out HB2.out HB3.out
 go_enter Tryz.func162,Tryz.ntmps162
 go_wp2_with (first | (go_at_call 224;(first | refine (CB.out _).mono ?_ | refine (CB.out (Ext.here _ _)).mono ?_);rintro e w' ⟨rfl,Y,rfl⟩) | (go_at_call 225;(first | refine (CN.out _).mono ?_ | refine (CN.out (Ext.here _ _)).mono ?_);rintro e w' ⟨rfl,Y,rfl⟩) | (go_at_call 226;refine (CT.out _).mono ?_;rintro e w' ⟨rfl,rfl⟩) | (go_at_call 227;(first | refine (CM.out _).mono ?_ | refine (CM.out (Ext.here _ _)).mono ?_);rintro e w' ⟨rfl,Y,rfl⟩))
 have hm0:=lay_box0 Y.world [.cells #[.int .i64 m.id,.int .i64 m.w,.int .i64 m.h,.int .i64 m.d,.int .i64 m.tare,.int .i64 m.gram,.int .i64 m.cost] 142] _ _ rfl
 have HL2:=Lib.hid fun X2=>bstep (HL.out Y) (lay_low Y.world [.cells #[.int .i64 m.id,.int .i64 m.w,.int .i64 m.h,.int .i64 m.d,.int .i64 m.tare,.int .i64 m.gram,.int .i64 m.cost] 142] X2)
 have hg0:=HLS.out Y
 have hq':=fun (X2:Ext (Y.world.heap.size + 1) (lay Y.world [.cells #[.int .i64 m.id,.int .i64 m.w,.int .i64 m.h,.int .i64 m.d,.int .i64 m.tare,.int .i64 m.gram,.int .i64 m.cost] 142])) (j:Nat)=>((lay_low Y.world [.cells #[.int .i64 m.id,.int .i64 m.w,.int .i64 m.h,.int .i64 m.d,.int .i64 m.tare,.int .i64 m.gram,.int .i64 m.cost] 142] X2).cell (p:=⟨w.heap.size,j,none⟩) (show w.heap.size < Y.world.heap.size from hg0)).trans (hq Y j)
 have hgt:=fun X2=>(show w.heap.size < (Ext.world X2).heap.size from Nat.lt_of_lt_of_le hg0 (Nat.le_trans (Nat.le_succ _) (lay_size Y.world [.cells #[.int .i64 m.id,.int .i64 m.w,.int .i64 m.h,.int .i64 m.d,.int .i64 m.tare,.int .i64 m.gram,.int .i64 m.cost] 142] X2)))
 have HF:=Lib.hid fun x=>extC (lay_le Y.world [.cells #[.int .i64 m.id,.int .i64 m.w,.int .i64 m.h,.int .i64 m.d,.int .i64 m.tare,.int .i64 m.gram,.int .i64 m.cost] 142]) fun X=>sFits_any x m X.world
 clear hq hg0
 go_loopw [5] (fun i wr=>∃ (k:Nat) (X:Ext (Y.world.heap.size + 1) (lay Y.world [.cells #[.int .i64 m.id,.int .i64 m.w,.int .i64 m.h,.int .i64 m.d,.int .i64 m.tare,.int .i64 m.gram,.int .i64 m.cost] 142])),wr=X.world∧k≤r.items.length∧i=.int .i64 k∧(r.items.drop k).any (fun x=>!fits x m)=r.items.any (fun x=>!fits x m)) (fun i _=>r.items.length - (intOf i).toNat)
 case atStart=>exact ⟨0,Ext.here _ _,rfl,Nat.zero_le _,rfl,rfl⟩
 case round =>
  obtain ⟨k,X,rfl,hk,rfl,hin⟩:=hrel
  by_cases hlt:k < r.items.length
  ·obtain ⟨b,off,x,rfl,hb,hx,hc⟩:=H3.out.flatX HL2.out k hlt
   have hc0:=hc 0 _ rfl;have hc1:=hc 1 _ rfl;have hc2:=hc 2 _ rfl;have hc3:=hc 3 _ rfl;have hc4:=hc 4 _ rfl;have hc5:=hc 5 _ rfl;have hc6:=hc 6 _ rfl;simp only [Nat.add_zero] at hc0
   have HD:=any_cons hin hx
   have HC:=(HF.out x).out
   obtain ⟨q,hqq⟩:∃ q,fits x m=q:=⟨_,rfl⟩
   have HQ:=Lib.hid hqq
   rw [hqq] at HC
   have HC:=Lib.hid HC
   obtain ⟨hl0,hl1⟩:(0:Int)≤(k:Int)∧(k:Int) < (r.items.length:Int):=by omega
   clear hc hin hx hqq
   go_wp2
   refine wp_region_in (by kernel_rfl) (by kernel_rfl) ?_;(repeat (go_big_quiet_step (exact HC.out _)));refine wpQuiet_nil ?_;intro _ hw';obtain ⟨Y,rfl⟩:=hw'
   cases q
   ·go_wp2
    go_ret
    go_light
    exact ⟨ret_int (by rw [HR.out,HMM.out,HD.out,HQ.out];simp),HL2.out _⟩
   ·go_wp2
    (go_roundw;(case rel=>exact ⟨k + 1,Y,rfl,hlt,by go_num,by rw [HD.out,HQ.out];simp⟩);(case measure=>(simp [intOf];omega)))
  ·have HA:=any_end hin hlt
   have HR2:=Lib.hid (show classOf r=if r.types.any (tooBig r.pallet)=true then 6 else 0 by rw [HR.out,HMM.out,HA.out];simp)
   clear hin
   go_wp2
   go_loopw [6] (fun i wr=>∃ (k:Nat) (X:X.Of),wr=X.world∧k≤r.types.length∧i=.int .i64 k∧(r.types.drop k).any (tooBig r.pallet)=r.types.any (tooBig r.pallet)) (fun i _=>r.types.length - (intOf i).toNat)
   case atStart=>exact ⟨0,X,rfl,Nat.zero_le _,rfl,rfl⟩
   case round =>
    obtain ⟨k,X,rfl,hk,rfl,hin⟩:=hrel
    by_cases hlt:k < r.types.length
    ·obtain ⟨b,off,x,rfl,hb,hx,hc⟩:=H2.out.flatX HL2.out k hlt
     have hc0:=hc 0 _ rfl;have hc1:=hc 1 _ rfl;have hc2:=hc 2 _ rfl;have hc3:=hc 3 _ rfl;have hc4:=hc 4 _ rfl;have hc5:=hc 5 _ rfl;have hc6:=hc 6 _ rfl;simp only [Nat.add_zero] at hc0
     have HD:=any_cons hin hx
     obtain ⟨hx0,hx1,hx2,hx3⟩:=bounds_type HB1.out (List.mem_of_getElem? hx)
     have hXs:=lay_size Y.world [.cells #[.int .i64 m.id,.int .i64 m.w,.int .i64 m.h,.int .i64 m.d,.int .i64 m.tare,.int .i64 m.gram,.int .i64 m.cost] 142] X
     have HXs:=Lib.hid hXs
     clear hc hin hx hXs
     go_wp2
     all_goals first
      |(go_ret;go_light;exact ⟨ret_int (by rw [HR2.out,HD.out];simp [tooBig, *]),by have h1:=HL2.out X;have h2:=h1.size;(repeat' with_reducible first | assumption | exact bR | apply bD | apply bA | apply bC | apply bN | simp <;> omega)⟩)
      |(go_roundw;(case rel=>go_light;exact ⟨k + 1,⟨_,X.ok.alloc HXs.out _⟩,rfl,hlt,by go_num,by rw [HD.out];first | (simp [tooBig, *];done) | (simp [tooBig, *];intro h;exfalso;omega)⟩);(case measure=>(simp [intOf];omega)))
    ·have HE:=any_end hin hlt
     clear hin
     go_wp2
     go_ret
     go_light
     exact ⟨ret_int (by rw [HR2.out,HE.out];simp),HL2.out _⟩
set_option maxHeartbeats 1000000 in
theorem class1_any (x:Item) (m:GType) (b:Nat) (w:World) (hc:∀ j,w.cell? ⟨b,j,none⟩=(#[.int .i64 m.id,.int .i64 m.w,.int .i64 m.h,.int .i64 m.d,.int .i64 m.tare,.int .i64 m.gram,.int .i64 m.cost]:Array Value)[j]?) (hb:b < w.heap.size) :
  Calls Tryz.prog 264 #[x.val,.pointer (some ⟨b,0,none⟩)] w fun e w'=>e=.returned (.bool (!fits x m))∧Below w.heap.size w w':=by
 have hb0:Below w.heap.size w (w.alloc (.cells #[.int .i64 x.id,.int .i64 x.w,.int .i64 x.h,.int .i64 x.d,.int .i64 x.gram,.int .i64 x.cls,.int .i64 x.count] 152)):=(by repeat' with_reducible first | assumption | exact bR | apply bD | apply bA | apply bC | apply bN | simp <;> omega)
 have HC:=Lib.hid (iFits_any x m (w.alloc (.cells #[.int .i64 x.id,.int .i64 x.w,.int .i64 x.h,.int .i64 x.d,.int .i64 x.gram,.int .i64 x.cls,.int .i64 x.count] 152)))
 go_enter Tryz.func264,Tryz.ntmps264
 go_wp2_with fail
 refine HC.out.mono ?_
 rintro e w2 ⟨rfl,hb2⟩
 go_wp2
 go_ret
 exact ⟨rfl,bstep hb0 hb2⟩
set_option maxHeartbeats 1000000 in
theorem class2_any (x:GType) (p:Pallet) (b:Nat) (w:World) (h0:0≤x.tare) (h1:x.tare≤100000) (h2:1≤x.gram) (h3:x.gram≤100000) (hc:∀ j,w.cell? ⟨b,j,none⟩=(#[.int .i64 p.w,.int .i64 p.d,.int .i64 p.h,.int .i64 p.gram]:Array Value)[j]?) (hb:b < w.heap.size) :
  Calls Tryz.prog 267 #[x.val,.pointer (some ⟨b,0,none⟩)] w fun e w'=>e=.returned (.bool (tooBig p x))∧Below w.heap.size w w':=by
 go_enter Tryz.func267,Tryz.ntmps267
 go_wp2
 all_goals go_ret
 all_goals exact ⟨ret_bool (by first | (simp [tooBig, *];done) | (simp [tooBig, *];omega)),(by repeat' with_reducible first | assumption | exact bR | apply bD | apply bA | apply bC | apply bN | simp <;> omega)⟩
set_option maxHeartbeats 1000000 in
theorem iClass_any (v:Value) (r:Request) (w:World) (h:RReq 16777216 w w.heap.size v r):Calls Tryz.prog 205 #[v] w fun e w'=>e=.returned (.int .i64 (classOf r))∧Below w.heap.size w w':=by
 have HRQ:=Lib.hid h
 obtain ⟨A1,c1,A2,c2,A3,c3,rfl,⟨H1,H2,H3⟩,hb1,hb2,hb3,_⟩:=h.opn
 have hq:=lay_box0 w [.cells (cR r A1 c1 A2 c2 A3 c3) 41] _ _ rfl
 have HL:=Lib.hid (lay_low w [.cells (cR r A1 c1 A2 c2 A3 c3) 41])
 have HLS:=Lib.hid (lay_size w [.cells (cR r A1 c1 A2 c2 A3 c3) 41])
 have CM:=extC (lay_le w [.cells (cR r A1 c1 A2 c2 A3 c3) 41]) fun X=>iMasterOf_any _ r X.world (HRQ.out.next (HL.out X))
 obtain ⟨mm,hmm⟩:∃ m,masterOf r=m:=⟨_,rfl⟩
 have HMM:=Lib.hid hmm
 rw [hmm] at CM
 obtain ⟨m,mo⟩:=mm
 clear hmm
 go_enter Tryz.func205,Tryz.ntmps205
 go_wp2_with fail
 refine (CM.out (Ext.here _ _)).mono ?_
 rintro e w2 ⟨rfl,Y,rfl⟩
 obtain ⟨L2,hL2⟩:∃ L2:List Obj,L2=[.cells #[.int .i64 m.id,.int .i64 m.w,.int .i64 m.h,.int .i64 m.d,.int .i64 m.tare,.int .i64 m.gram,.int .i64 m.cost] 142,.cells #[.int .i64 r.pallet.w,.int .i64 r.pallet.d,.int .i64 r.pallet.h,.int .i64 r.pallet.gram] 36]:=⟨_,rfl⟩
 have hw2:(Y.world.alloc (.cells #[.int .i64 m.id,.int .i64 m.w,.int .i64 m.h,.int .i64 m.d,.int .i64 m.tare,.int .i64 m.gram,.int .i64 m.cost] 142)).alloc (.cells #[.int .i64 r.pallet.w,.int .i64 r.pallet.d,.int .i64 r.pallet.h,.int .i64 r.pallet.gram] 36)=lay Y.world L2:=by rw [hL2];rfl
 have hln:L2.length=2:=by rw [hL2];rfl
 have HM0:=Lib.hid fun X2=>lay_box0 Y.world L2 #[.int .i64 m.id,.int .i64 m.w,.int .i64 m.h,.int .i64 m.d,.int .i64 m.tare,.int .i64 m.gram,.int .i64 m.cost] 142 (by rw [hL2];rfl) X2
 have HP0:=Lib.hid fun X2=>lay_box Y.world L2 1 #[.int .i64 r.pallet.w,.int .i64 r.pallet.d,.int .i64 r.pallet.h,.int .i64 r.pallet.gram] 36 (by rw [hL2];rfl) X2
 have HL2:=Lib.hid fun X2=>bstep (HL.out Y) (lay_low Y.world L2 X2)
 have HS2:=Lib.hid fun X2=>lay_size Y.world L2 X2
 have hg0:w.heap.size < Y.world.heap.size:=HLS.out Y
 have hg1:w.heap.size < Y.world.heap.size + 1:=by omega
 have hq':=fun (X2:Ext (Y.world.heap.size + L2.length) (lay Y.world L2)) (j:Nat)=>((lay_low Y.world L2 X2).cell (p:=⟨w.heap.size,j,none⟩) hg0).trans (hq Y j)
 have hqh:∀ j,(lay Y.world L2).cell? ⟨w.heap.size,j,none⟩=((cR r A1 c1 A2 c2 A3 c3):Array Value)[j]?:=fun j=>hq' (Ext.here _ _) j
 have CB:=extC (lay_le Y.world L2) fun X=>iBoundsOk_any _ r X.world (HRQ.out.next (HL2.out X))
 have CN:=extC (lay_le Y.world L2) fun X=>iNamesOk_any _ r X.world (HRQ.out.next (HL2.out X))
 have CT:=extC (lay_le Y.world L2) fun X=>iTableOk_any _ r.pairs r.classes X.world (H1.out.next (flat_mono _) (HL2.out X))
 have CF:=extC (lay_le Y.world L2) fun X=>containsFuncItem_any 264 #[.pointer (some ⟨Y.world.heap.size,0,none⟩)] (fun x=>!fits x m) _ r.items X.world (H3.out.next (flat_mono _) (HL2.out X)) (run_enter Tryz.func264 (by kernel_rfl) (by kernel_rfl))
  (fun W x hW _=>class1_any x m Y.world.heap.size W (fun j=>(hW.cell (p:=⟨Y.world.heap.size,j,none⟩) (by have h9:=HS2.out X;show Y.world.heap.size < X.world.heap.size;omega)).trans (HM0.out X j)) (by have:=HS2.out X;have:=hW.size;omega))
 have CG:=fun hbo:boundsOk r=true=>extC (lay_le Y.world L2) fun X=>containsFuncType_any 267 #[.pointer (some ⟨Y.world.heap.size + 1,0,none⟩)] (tooBig r.pallet) _ r.types X.world (H2.out.next (flat_mono _) (HL2.out X)) (run_enter Tryz.func267 (by kernel_rfl) (by kernel_rfl))
  (fun W x hW hx=>class2_any x r.pallet (Y.world.heap.size + 1) W (bounds_type hbo hx).1 (bounds_type hbo hx).2.1 (bounds_type hbo hx).2.2.1 (bounds_type hbo hx).2.2.2 (fun j=>(hW.cell (p:=⟨Y.world.heap.size + 1,j,none⟩) (by have h9:=HS2.out X;show Y.world.heap.size + 1 < X.world.heap.size;omega)).trans (HP0.out X j)) (by have:=HS2.out X;have:=hW.size;omega))
 have CG:=Lib.hid CG
 obtain ⟨b1,hq1⟩:∃ q,boundsOk r=q:=⟨_,rfl⟩
 obtain ⟨b2,hq2⟩:∃ q,namesOk r=q:=⟨_,rfl⟩
 obtain ⟨b3,hq3⟩:∃ q,tableOk r.pairs r.classes=q:=⟨_,rfl⟩
 obtain ⟨b4,hq4⟩:∃ q,r.items.any (fun x=>!fits x m)=q:=⟨_,rfl⟩
 obtain ⟨b5,hq5⟩:∃ q,r.types.any (tooBig r.pallet)=q:=⟨_,rfl⟩
 rw [hq1] at CB
 rw [hq2] at CN
 rw [hq3] at CT
 rw [hq4] at CF
 have HB1:=Lib.hid hq1
 have HB2:=Lib.hid hq2
 have HB3:=Lib.hid hq3
 have HB4:=Lib.hid hq4
 have HB5:=Lib.hid hq5
 clear hq1 hq2 hq3 hq4 hq5 hL2
 cases b1
 ·have HR:=class_bounds HB1.out
  go_wp2_with fail
  refine (CB.out (Ext.here _ _)).mono ?_
  rintro e w' ⟨rfl,Z,rfl⟩
  go_wp2
  go_ret
  exact ⟨ret_int HR.out.symm,HL2.out Z⟩
 have CG:=CG.out HB1.out
 rw [HB5.out] at CG
 go_wp2_with fail
 refine (CB.out (Ext.here _ _)).mono ?_
 rintro e w' ⟨rfl,Z,rfl⟩
 cases b2
 ·have HR:=class_names HB1.out HB2.out
  go_wp2_with (go_at_call 261;(first | refine (CN.out _).mono ?_ | refine (CN.out (Ext.here _ _)).mono ?_);rintro e w' ⟨rfl,Y,rfl⟩)
  go_ret
  exact ⟨ret_int HR.out.symm,HL2.out Y⟩
 cases b3
 ·have HR:=class_table HB1.out HB2.out HB3.out
  go_wp2_with (first | (go_at_call 261;(first | refine (CN.out _).mono ?_ | refine (CN.out (Ext.here _ _)).mono ?_);rintro e w' ⟨rfl,Y,rfl⟩) | (go_at_call 262;(first | refine (CT.out _).mono ?_ | refine (CT.out (Ext.here _ _)).mono ?_);rintro e w' ⟨rfl,Y,rfl⟩))
  go_ret
  exact ⟨ret_int HR.out.symm,HL2.out Y⟩
 have HR:=class_rest HB1.out HB2.out HB3.out
 cases b4
 ·cases b5
  all_goals
   go_wp2_with (first | (go_at_call 261;(first | refine (CN.out _).mono ?_ | refine (CN.out (Ext.here _ _)).mono ?_);rintro e w' ⟨rfl,Y,rfl⟩) | (go_at_call 262;(first | refine (CT.out _).mono ?_ | refine (CT.out (Ext.here _ _)).mono ?_);rintro e w' ⟨rfl,Y,rfl⟩) | (go_at_call 263;(first | refine (CF.out _).mono ?_ | refine (CF.out (Ext.here _ _)).mono ?_);rintro e w' ⟨rfl,Y,rfl⟩) | (go_at_call 266;(first | refine (CG.out _).mono ?_ | refine (CG.out (Ext.here _ _)).mono ?_);rintro e w' ⟨rfl,Y,rfl⟩))
   go_ret
   exact ⟨ret_int (by rw [HR.out,HMM.out,HB4.out,HB5.out];simp),HL2.out Y⟩
 ·go_wp2_with (first | (go_at_call 261;(first | refine (CN.out _).mono ?_ | refine (CN.out (Ext.here _ _)).mono ?_);rintro e w' ⟨rfl,Y,rfl⟩) | (go_at_call 262;(first | refine (CT.out _).mono ?_ | refine (CT.out (Ext.here _ _)).mono ?_);rintro e w' ⟨rfl,Y,rfl⟩) | (go_at_call 263;(first | refine (CF.out _).mono ?_ | refine (CF.out (Ext.here _ _)).mono ?_);rintro e w' ⟨rfl,Y,rfl⟩))
  go_ret
  exact ⟨ret_int (by rw [HR.out,HMM.out,HB4.out];simp),HL2.out Y⟩
set_option maxHeartbeats 400000 in
theorem sound_any (v:Value) (r:Request) (w:World) (h:RReq 16777216 w w.heap.size v r):Calls Tryz.prog 138 #[v] w fun e w'=>e=.returned (.bool (soundR r))∧Below w.heap.size w w':=by
 have HRQ:=Lib.hid h
 obtain ⟨A1,c1,A2,c2,A3,c3,rfl,_⟩:=h.opn
 have hb0:Below w.heap.size w (w.alloc (.cells (cR r A1 c1 A2 c2 A3 c3) 41)):=(by repeat' with_reducible first | assumption | exact bR | apply bD | apply bA | apply bC | apply bN | simp <;> omega)
 have HC:=Lib.hid (iClass_any _ r _ (HRQ.out.next hb0))
 go_enter Tryz.func138,Tryz.ntmps138
 go_wp2_with fail
 refine HC.out.mono ?_
 rintro e w2 ⟨rfl,hb2⟩
 go_wp2
 go_ret
 exact ⟨rfl,bstep hb0 hb2⟩
end Go.Proofs.YtioijfplbgpjpaaGreat
namespace Go.Proofs.YtioijfplbgpjpaaGreat
set_option linter.unusedVariables false
set_option linter.unusedSimpArgs false
set_option maxRecDepth 100000
open Go.RowKit
set_option maxRecDepth 100000 in
set_option maxHeartbeats 1000000 in
theorem l6Units_any (v:Value) (r:Request) (w:World) (h:RReq 16777216 w w.heap.size v r) (hu:(unitsR r).length≤1048576):Calls Tryz.prog 193 #[v] w (MInts w (unitsR r)):=by
 obtain ⟨A1,c1,A2,c2,A3,c3,rfl,⟨_,_,H3⟩,_,_,hl3,_⟩:=h.opn
 have hS:=((Sit.here w).alloc (cR r A1 c1 A2 c2 A3 c3) 41).alloc #[] 3
 simp only [World.size_alloc] at hS
 have SN:=Lib.hid (hS.boxNil cI 1)
 clear h hS
 go_enter Tryz.func193,Tryz.ntmps193
 go_wp2
 go_loopw [3,4] (fun vv i wr=>∃ (k:Nat) (fp:List Nat),k≤r.items.length∧i=.int .i64 k∧Hid (Sit w wr [fOF cI 3 1 w.heap.size vv (unitsG 0 (r.items.take k)) fp,fBox w.heap.size (cR r A1 c1 A2 c2 A3 c3) 41])) (fun _ i _=>r.items.length - (intOf i).toNat)
 case atStart=>exact ⟨0,_,Nat.zero_le _,rfl,SN⟩
 case round =>
  clear SN
  obtain ⟨k,fp,hk,rfl,SN⟩:=hrel
  have k0:=SN.out.box (.tail _ (.head _))
  have l0:=SN.out.boxlt (.tail _ (.head _))
  by_cases hlt:k < r.items.length
  ·obtain ⟨x,hx⟩:∃ x,r.items[k]? = some x:=⟨_,List.getElem?_eq_getElem hlt⟩
   have HX:=Lib.hid hx
   have HS:=Lib.hid (show unitsG 0 (r.items.take (k + 1))=unitsG 0 (r.items.take k) ++ List.replicate x.count.toNat (k:Int) by simpa using unitsG_take 0 r.items k x hx)
   have hln:(unitsG 0 (r.items.take k)).length + x.count.toNat≤1048576:=by have h1:=unitsG_le 0 r.items (k + 1);rw [HS.out] at h1;simp at h1;unfold unitsR at hu;omega
   clear hx
   go_wp2
   go_loopw [3,5] (fun vv j wr=>∃ (m:Nat) (fp:List Nat),m≤x.count.toNat∧j=.int .i64 m∧Hid (Sit w wr [fOF cI 3 1 w.heap.size vv (unitsG 0 (r.items.take k) ++ List.replicate m (k:Int)) fp,fBox w.heap.size (cR r A1 c1 A2 c2 A3 c3) 41])) (fun _ j _=>x.count.toNat - (intOf j).toNat)
   case atStart=>exact ⟨0,_,Nat.zero_le _,rfl,by simpa using SN⟩
   case round =>
    clear SN k0 l0
    obtain ⟨m,fp,hm,rfl,SN⟩:=hrel
    have k0:=SN.out.box (.tail _ (.head _))
    have l0:=SN.out.boxlt (.tail _ (.head _))
    obtain ⟨b,off,x2,_,heq,hb,hx2,_,hfx,hc⟩:=(H3.next (flat_mono _) SN.out.low).at_ k hlt
    cases heq
    cases hfx
    rw [HX.out] at hx2
    cases hx2
    have hc6:=hc 6 _ rfl
    clear hc
    by_cases hlm:(m:Int) < x.count
    ·go_wp2_with (at_builtin;refine papp_Int _ _ rfl rfl ((k:Int)) rfl rfl (heap_alloc_new _ _) rfl ((SN.out.list (.head _)).next (by repeat' with_reducible first | assumption | exact bR | apply bD | apply bA | apply bC | apply bN | simp <;> omega)) (by first | omega | (simp;omega)) (by have:=SN.out.low.size;first | omega | (simp;omega)) ?_;intro v7 w7 ha;obtain ⟨g7,S7⟩:=(SN.out.next (by repeat' with_reducible first | assumption | exact bR | apply bD | apply bA | apply bC | apply bN | simp <;> omega)).app ha;have S8:=Lib.hid S7;clear S7 ha)
     go_roundw
     case rel=>exact ⟨m + 1,_,by omega,by go_num,by rw [List.replicate_succ',← List.append_assoc];exact S8⟩
     case measure=>simp [intOf];omega
    ·obtain rfl:m=x.count.toNat:=by omega
     go_wp2
     go_roundw
     case rel=>exact ⟨k + 1,_,hlt,by go_num,by rw [HS.out];exact SN⟩
     case measure=>simp [intOf];omega
  ·obtain rfl:k=r.items.length:=by omega
   rw [List.take_length] at SN
   go_wp2
   go_ret
   exact SN.out.ints
set_option maxRecDepth 100000 in
set_option maxHeartbeats 1000000 in
theorem unitsC_any (v:Value) (r:Request) (w:World) (h:RReq 16777216 w w.heap.size v r):Calls Tryz.prog 147 #[v] w (MInts w (unitsC r)):=by
 have HR:=Lib.hid h
 obtain ⟨A1,c1,A2,c2,A3,c3,rfl,_⟩:=h.opn
 have SN:=Lib.hid ((Sit.here w).alloc (cR r A1 c1 A2 c2 A3 c3) 41)
 obtain ⟨c,hc⟩:∃ c,classOf r=c:=⟨_,rfl⟩
 have HC:=Lib.hid hc
 have HM:=Lib.hid (show unitsC r=if c=0 then unitsR r else [] by unfold unitsC;rw [sound_dec,hc];simp)
 clear h hc
 go_enter Tryz.func147,Tryz.ntmps147
 have k0:=SN.out.box (.head _)
 have l0:=SN.out.boxlt (.head _)
 go_wp2_with fail
 refine (sClass_any _ r _ (HR.out.next SN.out.low)).mono ?_
 rintro e w1 ⟨rfl,hb⟩
 rw [HC.out]
 have SN:=Lib.hid (SN.out.next hb)
 clear k0 l0 hb
 have k0:=SN.out.box (.head _)
 have l0:=SN.out.boxlt (.head _)
 by_cases hz:c=0
 ·have HU:=Lib.hid (show (unitsR r).length≤1048576 by have:=(right_of (r:=r) (by rw [sound_dec,HC.out];simpa using hz)).nunits;omega)
  subst hz
  go_wp2_with fail
  refine (l6Units_any _ r _ (HR.out.next SN.out.low) HU.out).mono ?_
  intro e w2 hm
  obtain ⟨v2,fp,rfl,hS⟩:=SN.out.gotInts hm
  have SN:=Lib.hid hS
  clear hS hm
  go_wp2
  go_ret
  rw [HM.out]
  exact SN.out.ints
 ·have hz':(c != 0)=true:=by simpa using hz
  have HM2:=Lib.hid (show unitsC r=[] by rw [HM.out,if_neg hz])
  clear hz
  have SN:=Lib.hid ((SN.out.alloc #[] 3).boxNil cI 1)
  go_wp2
  go_ret
  rw [HM2.out]
  exact SN.out.ints
set_option maxRecDepth 100000 in
set_option maxHeartbeats 1000000 in
theorem sPresent_any (v:Value) (r:Request) (w:World) (h:RReq 16777216 w w.heap.size v r):Calls Tryz.prog 233 #[v] w (MInts w (presentR r)):=by
 have HR:=Lib.hid h
 obtain ⟨A1,c1,A2,c2,A3,c3,rfl,⟨_,_,H3⟩,_,_,hl3,_⟩:=h.opn
 have hS:=((Sit.here w).alloc (cR r A1 c1 A2 c2 A3 c3) 41).alloc #[] 3
 simp only [World.size_alloc] at hS
 have SN:=Lib.hid (hS.boxNil cI 1)
 obtain ⟨c,hc⟩:∃ c,classOf r=c:=⟨_,rfl⟩
 have HC:=Lib.hid hc
 have HM:=Lib.hid (show presentR r=if c=0 then clss.filter (hasCls r.items) else [] by unfold presentR;rw [sound_dec,hc];simp)
 clear h hS hc
 go_enter Tryz.func233,Tryz.ntmps233
 have k0:=SN.out.box (.tail _ (.head _))
 have l0:=SN.out.boxlt (.tail _ (.head _))
 go_wp2_with fail
 refine (sClass_any _ r _ (HR.out.next SN.out.low)).mono ?_
 rintro e w1 ⟨rfl,hb⟩
 rw [HC.out]
 have SN:=Lib.hid (SN.out.next hb)
 clear k0 l0 hb
 have k0:=SN.out.box (.tail _ (.head _))
 have l0:=SN.out.boxlt (.tail _ (.head _))
 by_cases hz:c=0
 ·subst hz
  go_wp2
  go_loopw [3,4] (fun vv i wr=>∃ (k:Nat) (fp:List Nat),k≤4∧i=.int .i64 k∧Hid (Sit w wr [fOF cI 3 1 w.heap.size vv ((clss.take k).filter (hasCls r.items)) fp,fBox w.heap.size (cR r A1 c1 A2 c2 A3 c3) 41])) (fun _ i _=>4 - (intOf i).toNat)
  case atStart=>exact ⟨0,_,Nat.zero_le _,rfl,SN⟩
  case round =>
   clear SN k0 l0
   obtain ⟨k,fp,hk,rfl,SN⟩:=hrel
   by_cases hlt:k < 4
   ·have HK:=Lib.hid (clss_step hlt)
    have hln:((clss.take k).filter (hasCls r.items)).length≤4:=Nat.le_trans (List.length_filter_le _ _) (by simp [clss];omega)
    go_wp2
    go_loopw [5,6] (fun f j wr=>∃ (m:Nat),m≤r.items.length∧j=.int .i64 m∧f=.bool (hasCls (r.items.take m) (k:Int))∧Hid (Sit w wr [fOF cI 3 1 w.heap.size _ ((clss.take k).filter (hasCls r.items)) fp,fBox w.heap.size (cR r A1 c1 A2 c2 A3 c3) 41])) (fun _ j _=>r.items.length - (intOf j).toNat)
    case atStart=>exact ⟨0,Nat.zero_le _,rfl,rfl,SN⟩
    case round =>
     clear SN
     obtain ⟨m,hm,rfl,rfl,SN⟩:=hrel
     have k0:=SN.out.box (.tail _ (.head _))
     have l0:=SN.out.boxlt (.tail _ (.head _))
     by_cases hlm:m < r.items.length
     ·obtain ⟨b,off,x,_,heq,hb,hx,_,hfx,hc⟩:=(H3.next (flat_mono _) SN.out.low).at_ m hlm
      cases heq
      cases hfx
      have hc5:=hc 5 _ rfl
      have HS:=Lib.hid (show hasCls (r.items.take (m + 1)) (k:Int)=(hasCls (r.items.take m) (k:Int) || x.cls == (k:Int)) by unfold hasCls;rw [List.take_add_one,hx,List.any_append];simp)
      obtain ⟨f,hf⟩:∃ f,hasCls (r.items.take m) (k:Int)=f:=⟨_,rfl⟩
      rw [hf] at HS ⊢
      clear hc hx hf
      cases f
      ·go_wp2
       go_roundw
       case rel=>exact ⟨m + 1,hlm,by go_num,by rw [HS.out];simp,SN⟩
       case measure=>simp [intOf];omega
      ·go_wp2
       go_roundw
       case rel=>exact ⟨m + 1,hlm,by go_num,by rw [HS.out];simp,SN⟩
       case measure=>simp [intOf];omega
     ·obtain rfl:m=r.items.length:=by omega
      rw [List.take_length]
      have HF:=Lib.hid (show (clss.take (k + 1)).filter (hasCls r.items)=(clss.take k).filter (hasCls r.items) ++ (if hasCls r.items (k:Int)=true then [(k:Int)] else []) by rw [List.take_add_one,HK.out,List.filter_append];simp [List.filter_cons])
      obtain ⟨f,hf⟩:∃ f,hasCls r.items (k:Int)=f:=⟨_,rfl⟩
      rw [hf] at HF ⊢
      clear hf
      cases f
      ·go_wp2
       go_roundw
       case rel=>exact ⟨k + 1,_,hlt,by go_num,by rw [HF.out];simpa using SN⟩
       case measure=>simp [intOf];omega
      ·go_wp2_with (at_builtin;refine papp_Int _ _ rfl rfl ((k:Int)) rfl rfl (heap_alloc_new _ _) rfl ((SN.out.list (.head _)).next (by repeat' with_reducible first | assumption | exact bR | apply bD | apply bA | apply bC | apply bN | simp <;> omega)) (by first | omega | (simp;omega)) (by have:=SN.out.low.size;first | omega | (simp;omega)) ?_;intro v7 w7 ha;obtain ⟨g7,S7⟩:=(SN.out.next (by repeat' with_reducible first | assumption | exact bR | apply bD | apply bA | apply bC | apply bN | simp <;> omega)).app ha;have S8:=Lib.hid S7;clear S7 ha)
       go_roundw
       case rel=>exact ⟨k + 1,_,hlt,by go_num,by rw [HF.out];simpa using S8⟩
       case measure=>simp [intOf];omega
   ·obtain rfl:k=4:=by omega
    go_wp2
    go_ret
    rw [HM.out]
    exact SN.out.ints
 ·have hz':(c != 0)=true:=by simpa using hz
  have HM2:=Lib.hid (show presentR r=[] by rw [HM.out,if_neg hz])
  clear hz
  go_wp2
  go_ret
  rw [HM2.out]
  exact SN.out.ints
set_option maxRecDepth 100000 in
set_option maxHeartbeats 1000000 in
theorem l3Joins_any (v u:Value) (ps:List Pair) (g:List Int) (c:Int) (w:World) (h:RPairs 16777216 w w.heap.size v ps) (hg:RInts 16777216 w w.heap.size u g):Calls Tryz.prog 299 #[v,u,.int .i64 c] w fun e w'=>e=.returned (.bool (joins ps g c))∧w=w':=by
 have HP:=Lib.hid h
 have HG:=Lib.hid hg
 obtain ⟨A,d,rfl,hbd,_⟩:=hg
 clear h
 go_enter Tryz.func299,Tryz.ntmps299
 go_wp2
 go_loop [7] (fun i=>∃ k:Nat,k≤g.length∧i=.int .i64 k∧Hid ((g.drop k).all (fun x=>beside ps x c && beside ps c x)=joins ps g c)) (fun i=>g.length - (intOf i).toNat)
 case atStart=>exact ⟨0,Nat.zero_le _,rfl,Lib.hid rfl⟩
 case round =>
  obtain ⟨k,hk,rfl,HD⟩:=hrel
  by_cases hlt:k < g.length
  ·obtain ⟨b,off,x,rfl,hb,hx,hc⟩:=HG.out.at1 k hlt
   have hc0:=hc _ rfl
   have HS:=Lib.hid (show (g.drop k).all (fun x=>beside ps x c && beside ps c x)=((beside ps x c && beside ps c x) && (g.drop (k + 1)).all (fun x=>beside ps x c && beside ps c x)) by rw [drop_cons hx,List.all_cons])
   obtain ⟨b1,h1⟩:∃ q,beside ps x c=q:=⟨_,rfl⟩
   obtain ⟨b2,h2⟩:∃ q,beside ps c x=q:=⟨_,rfl⟩
   rw [h1,h2] at HS
   have H1:=Lib.hid h1
   have H2:=Lib.hid h2
   clear hc hx h1 h2
   cases b1
   ·go_wp2_with (go_at_call 295;refine (sBeside_any _ ps _ _ _ HP.out).mono ?_;rintro e w' ⟨rfl,rfl⟩;first | rw [H1.out] | rw [H2.out])
    go_ret
    exact ⟨by rw [← HD.out,HS.out];rfl,rfl⟩
   ·cases b2
    ·go_wp2_with (go_at_call 295;refine (sBeside_any _ ps _ _ _ HP.out).mono ?_;rintro e w' ⟨rfl,rfl⟩;first | rw [H1.out] | rw [H2.out])
     go_ret
     exact ⟨by rw [← HD.out,HS.out];rfl,rfl⟩
    ·go_wp2_with (go_at_call 295;refine (sBeside_any _ ps _ _ _ HP.out).mono ?_;rintro e w' ⟨rfl,rfl⟩;first | rw [H1.out] | rw [H2.out])
     go_round
     case rel=>exact ⟨k + 1,hlt,by go_num,Lib.hid (by rw [← HD.out,HS.out];simp)⟩
     case measure=>simp [intOf];omega
  ·have HE:=Lib.hid (show joins ps g c=true by rw [← HD.out,List.drop_eq_nil_of_le (by omega)];rfl)
   go_wp2
   go_ret
   exact ⟨by rw [HE.out];rfl,rfl⟩
set_option maxRecDepth 100000 in
set_option maxHeartbeats 1000000 in
theorem l7Known_any (va vu:Value) (all us:List Int) (w:World) (ha:RInts 16777216 w w.heap.size va all) (hu:RInts 16777216 w w.heap.size vu us) (hl:us.length≤1048576):Calls Tryz.prog 339 #[va,vu] w (MInts w (knownR all us)):=by
 have HU:=Lib.hid hu
 obtain ⟨A,d,rfl,hbd,_⟩:=hu
 obtain ⟨A2,d2,rfl,hbd2,_⟩:=ha
 have SN:=Lib.hid (((Sit.here w).alloc #[] 3).boxNil cI 1)
 go_enter Tryz.func339,Tryz.ntmps339
 go_wp2
 go_loopw [5,6] (fun vv i wr=>∃ (k:Nat) (fp:List Nat),k≤us.length∧i=.int .i64 k∧Hid (Sit w wr [fOF cI 3 1 w.heap.size vv (knownR all (us.take k)) fp])) (fun _ i _=>us.length - (intOf i).toNat)
 case atStart=>exact ⟨0,_,Nat.zero_le _,rfl,SN⟩
 case round =>
  clear SN
  obtain ⟨k,fp,hk,rfl,SN⟩:=hrel
  by_cases hlt:k < us.length
  ·obtain ⟨b,off,x,rfl,hb,hx,hc⟩:=(HU.out.next (flat_mono _) SN.out.low).at1 k hlt
   have hc0:=hc _ rfl
   have hln:(knownR all (us.take k)).length≤1048576:=Nat.le_trans (List.length_filter_le _ _) (by simp;omega)
   obtain ⟨f,hf⟩:∃ f,inB x 0 (all.length - 1)=f:=⟨_,rfl⟩
   have HS:=Lib.hid (show knownR all (us.take (k + 1))=knownR all (us.take k) ++ (if f=true then [x] else []) by unfold knownR;rw [List.take_add_one,hx,List.filter_append];simp [List.filter_cons,hf])
   have HF:=Lib.hid hf
   clear hc hx hf
   cases f
   ·go_wp2_with (go_at_call 104;refine (l1In_any _ _ _ _).mono ?_;rintro e w' ⟨rfl,rfl⟩;rw [HF.out])
    go_roundw
    case rel=>exact ⟨k + 1,_,hlt,by go_num,by rw [HS.out];simpa using SN⟩
    case measure=>simp [intOf];omega
   ·go_wp2_with (first | (go_at_call 104;refine (l1In_any _ _ _ _).mono ?_;rintro e w' ⟨rfl,rfl⟩;rw [HF.out]) | (at_builtin;refine papp_Int _ _ rfl rfl (x) rfl rfl (heap_alloc_new _ _) rfl ((SN.out.list (.head _)).next (by repeat' with_reducible first | assumption | exact bR | apply bD | apply bA | apply bC | apply bN | simp <;> omega)) (by first | omega | (simp;omega)) (by have:=SN.out.low.size;first | omega | (simp;omega)) ?_;intro v7 w7 ha;obtain ⟨g7,S7⟩:=(SN.out.next (by repeat' with_reducible first | assumption | exact bR | apply bD | apply bA | apply bC | apply bN | simp <;> omega)).app ha;have S8:=Lib.hid S7;clear S7 ha))
    go_roundw
    case rel=>exact ⟨k + 1,_,hlt,by go_num,by rw [HS.out];simpa using S8⟩
    case measure=>simp [intOf];omega
  ·obtain rfl:k=us.length:=by omega
   rw [List.take_length] at SN
   go_wp2
   go_ret
   exact SN.out.ints
set_option maxRecDepth 100000 in
set_option maxHeartbeats 1000000 in
theorem sVolume_any (a b c:Int) (w:World):Calls Tryz.prog 311 #[.int .i64 a,.int .i64 b,.int .i64 c] w fun e w'=>e=.returned (.int .i64 (vol a b c))∧w=w':=by
 obtain ⟨b1,h1⟩:∃ q,inB a 0 2000=q:=⟨_,rfl⟩
 obtain ⟨b2,h2⟩:∃ q,inB b 0 2000=q:=⟨_,rfl⟩
 obtain ⟨b3,h3⟩:∃ q,inB c 0 2000=q:=⟨_,rfl⟩
 have HV:=Lib.hid (show vol a b c=if (b1 && b2 && b3)=true then wrap64 (wrap64 (a * b) * c) else 0 by unfold vol;rw [h1,h2,h3])
 have H1:=Lib.hid h1
 have H2:=Lib.hid h2
 have H3:=Lib.hid h3
 clear h1 h2 h3
 go_enter Tryz.func311,Tryz.ntmps311
 cases b1 <;> cases b2 <;> cases b3 <;> (go_wp2_with (go_at_call 104;refine (l1In_any _ _ _ _).mono ?_;rintro e w' ⟨rfl,rfl⟩;first | rw [H1.out] | rw [H2.out] | rw [H3.out]);go_ret;exact ⟨by rw [HV.out];rfl,rfl⟩)
set_option maxRecDepth 100000 in
set_option maxHeartbeats 1000000 in
theorem sGroups_any (v u:Value) (ps:List Pair) (pr:List Int) (w:World) (h:RPairs 16777216 w w.heap.size v ps) (hu:RInts 16777216 w w.heap.size u pr):Calls Tryz.prog 232 #[v,u] w (MNest hdInts 53 1 innI w (groupsOn ps pr)):=by
 have HP:=Lib.hid h
 have HU:=Lib.hid hu
 have SN:=Lib.hid (((((Sit.here w).alloc #[] 53).boxNil (fz hdInts) 1).addInn (inn:=innI) w.heap.size).rot2)
 clear h hu
 go_enter Tryz.func232,Tryz.ntmps232
 go_wp2
 go_loopw [5,6] (fun vv i wr=>∃ (k:Nat) (zs:List (List Int×Value)) (f1 f2:List Nat),k≤4∧i=.int .i64 k∧zs.map (·.1)=(clss.take k).foldl (groupStep ps pr) []∧zs.length≤k∧(∀ z∈zs,z.1.length≤k)∧Hid (Sit w wr [fOF (fz hdInts) 53 1 w.heap.size vv zs f1,fInn innI w.heap.size zs f2])) (fun _ i _=>4 - (intOf i).toNat)
 case atStart=>exact ⟨0,[],_,_,Nat.zero_le _,rfl,rfl,Nat.le_refl _,by simp,SN⟩
 case round =>
  clear SN
  obtain ⟨k,zs,f1,f2,hk,rfl,hz,hzl,hzi,SN⟩:=hrel
  by_cases hlt:k < 4
  ·have HS:=Lib.hid (foldl_take_step (f:=groupStep ps pr) (b:=[]) (clss_step hlt))
   obtain ⟨L,hL⟩:∃ L,(clss.take k).foldl (groupStep ps pr) []=L:=⟨_,rfl⟩
   rw [hL] at HS hz
   have hc1:(pr.any fun y=>(k:Int) == y)=pr.contains (k:Int):=by rw [List.contains_eq_any_beq]
   obtain ⟨ct,hct⟩:∃ ct,pr.contains (k:Int)=ct:=⟨_,rfl⟩
   have HCT:=Lib.hid (hc1.trans hct)
   have HG:=Lib.hid (show groupStep ps pr L (k:Int)=if ct=true then addAt L (firstI (fun g=>joins ps g (k:Int)) L) (k:Int) else L by unfold groupStep;rw [hct])
   have HZ:=Lib.hid hz
   have HZI:=Lib.hid hzi
   have HZL:=Lib.hid (map_fst_len hz)
   clear hL hc1 hct hz hzi
   obtain ⟨E,e,rfl,_⟩:=(SN.out.list (.head _)).form
   cases ct
   ·go_wp2_with (go_at_call 152;refine (l1Has_any _ pr _ _ (HU.out.next (flat_mono _) SN.out.low)).mono ?_;rintro e w' ⟨rfl,rfl⟩;rw [HCT.out])
    go_roundw
    case rel=>exact ⟨k + 1,zs,f1,f2,hlt,by go_num,by rw [HZ.out,HS.out,HG.out];rfl,by omega,fun z hz=>Nat.le_succ_of_le (HZI.out z hz),SN⟩
    case measure=>simp [intOf] <;> omega
   ·go_wp2_with (go_at_call 152;refine (l1Has_any _ pr _ _ (HU.out.next (flat_mono _) SN.out.low)).mono ?_;rintro e w' ⟨rfl,rfl⟩;rw [HCT.out])
    go_loopw [7,8] (fun a i wr=>∃ (j:Nat),j≤zs.length∧i=.int .i64 ((j:Int) - 1)∧a=.int .i64 (firstFrom (fun g=>joins ps g (k:Int)) L j)∧Hid (Sit w wr [fOF (fz hdInts) 53 1 w.heap.size (.slice E zs.length e) zs f1,fInn innI w.heap.size zs f2])) (fun _ i _=>((intOf i) + 1).toNat)
    case atStart=>exact ⟨zs.length,Nat.le_refl _,by go_num,by rw [HZL.out,firstFrom_end],SN⟩
    case round =>
     clear SN
     obtain ⟨j,hj,rfl,rfl,SN⟩:=hrel
     by_cases hjp:0 < j
     ·obtain ⟨m,rfl⟩:∃ m,j=m + 1:=⟨j - 1,by omega⟩
      obtain ⟨g0,c0,hv0,hf0,hm0⟩:=(SN.out.list (.head _)).some (List.getElem?_eq_getElem (show m < zs.length by omega))
      injection hv0 with e1 e2 e3
      subst e1 e3
      obtain ⟨z,hz⟩:∃ z,zs[m]? = some z:=⟨_,List.getElem?_eq_getElem hm0⟩
      have hcl:=(SN.out.list (.head _)).cells (fun z=>rfl) hz 0 (sv z.2) rfl
      obtain ⟨fi,hoi⟩:=(SN.out.inns (.tail _ (.head _))).read hz
      rw [sv_of hoi] at hcl
      have HOI:=Lib.hid (OInts.read hoi (show (innI z.1).length≤16777216 by have:=HZI.out z (List.mem_of_getElem? hz);show z.1.length≤_;omega))
      have HFF:=Lib.hid (firstFrom_step (p:=fun g=>joins ps g (k:Int)) (xs:=L) (j:=m) (x:=z.1) (by rw [← HZ.out,List.getElem?_map,hz];rfl))
      simp only [Nat.mul_one,Nat.add_zero] at hcl
      obtain ⟨b,hb⟩:∃ b,joins ps z.1 (k:Int)=b:=⟨_,rfl⟩
      have HB:=Lib.hid hb
      rw [hb] at HFF
      clear hz hoi hb hf0
      have he:((m + 1:Nat):Int) - 1=(m:Int):=by omega
      rw [he]
      cases b
      all_goals go_wp2_with (go_at_call 299;refine (l3Joins_any _ _ ps z.1 _ _ (HP.out.next (flat_mono _) SN.out.low) HOI.out).mono ?_;rintro e w' ⟨rfl,rfl⟩;rw [HB.out])
      all_goals go_roundw
      all_goals first | (case rel=>exact ⟨m,by omega,by go_num,by rw [HFF.out];rfl,SN⟩) | (case measure=>(simp [intOf];done)) | (case measure=>(simp [intOf];omega))
     ·obtain rfl:j=0:=by omega
      have hf:=firstFrom_lt (fun g=>joins ps g (k:Int)) L 0
      obtain ⟨at_,hat⟩:∃ a,firstFrom (fun g=>joins ps g (k:Int)) L 0=a:=⟨_,rfl⟩
      have HG:=Lib.hid (show groupStep ps pr L (k:Int)=addAt L at_ (k:Int) by rw [HG.out,← hat];rfl)
      rw [hat] at hf ⊢
      clear hat
      by_cases hneg:at_ < 0
      ·have hA:=(SN.out.alloc #[.int .i64 (k:Int)] 3).boxRow (f:=cI) (K:=1) [(k:Int)] rfl (fun _=>rfl) (by unfold maxLen;simp)
       have SA:=Lib.hid hA
       have hwz:=SN.out.low.size
       clear hA
       go_wp2_with (at_builtin;refine papp_hInts _ _ rfl rfl ([(k:Int)],.slice (some ⟨wr.heap.size,0,none⟩) 1 1) rfl rfl (alloc_at (by simp)) rfl ((SA.out.list (.tail _ (.head _))).next (by repeat' with_reducible first | assumption | exact bR | apply bD | apply bA | apply bC | apply bN | simp <;> omega)) (by omega) (by simp;omega) ?_;intro v7 w7 ha;obtain ⟨g7,g8,S7⟩:=SA.out.pushed (x:=[(k:Int)]) rfl (by repeat' with_reducible first | assumption | exact bR | apply bD | apply bA | apply bC | apply bN | simp <;> omega) ha;have S8:=Lib.hid S7;clear S7 ha)
       go_roundw
       case rel=>exact ⟨k + 1,_,_,_,hlt,by go_num,by rw [HS.out,HG.out];unfold addAt;rw [if_pos hneg];exact map_fst_app HZ.out,by simp;omega,by
        intro z hz
        rcases List.mem_append.1 hz with hz | hz
        ·exact Nat.le_succ_of_le (HZI.out z hz)
        ·simp at hz;subst hz;simp <;> omega,S8⟩
       case measure=>simp [intOf] <;> omega
      ·obtain ⟨m,rfl⟩:∃ m:Nat,at_=m:=⟨at_.toNat,by omega⟩
       have hml:m < zs.length:=by have:=HZL.out;omega
       obtain ⟨g0,c0,hv0,hf0,_⟩:=(SN.out.list (.head _)).some (List.getElem?_eq_getElem hml)
       injection hv0 with e1 e2 e3
       subst e1 e3
       obtain ⟨z,hz⟩:∃ z,zs[m]? = some z:=⟨_,List.getElem?_eq_getElem hml⟩
       have hcl:=(SN.out.list (.head _)).cells (fun z=>rfl) hz 0 (sv z.2) rfl
       have hfz:=fun o=>(SN.out.list (.head _)).free o
       obtain ⟨fi,fa,fb,hS⟩:=SN.out.rot2.innOut hz
       rw [sv_of (hS.list (.head _))] at hcl
       simp only [Nat.mul_one,Nat.add_zero] at hcl
       have SI:=SN
       have SN:=Lib.hid hS
       have hzl3:(innI z.1).length≤4:=Nat.le_trans (HZI.out z (List.mem_of_getElem? hz)) (by omega)
       have HZM:=Lib.hid hz
       clear hS hz
       go_wp2_with (at_builtin;refine papp_Int _ _ rfl rfl ((k:Int)) rfl rfl (heap_alloc_new _ _) rfl ((SN.out.list (.head _)).next (by repeat' with_reducible first | assumption | exact bR | apply bD | apply bA | apply bC | apply bN | simp <;> omega)) (by first | omega | (simp;omega)) (by have:=SN.out.low.size;first | omega | (simp;omega)) ?_;intro v7 w7 ha;obtain ⟨g7,S7⟩:=(SN.out.next (by repeat' with_reducible first | assumption | exact bR | apply bD | apply bA | apply bC | apply bN | simp <;> omega)).app ha;have S8:=Lib.hid S7;clear S7 ha;obtain ⟨C,c,rfl,_⟩:=(S8.out.list (.head _)).form;have hf8:=fun o=>(S8.out.list (.tail _ (.tail _ (.tail _ (.head _))))).free o;have hc8:=(S8.out.list (.tail _ (.tail _ (.tail _ (.head _))))).cells (fun z=>rfl) HZM.out 0 (sv z.2) rfl;simp only [Nat.mul_one,Nat.add_zero] at hc8)
       obtain ⟨g9,S9⟩:=S8.out.grown (x:=z.1 ++ [(k:Int)]) (j:=0) (us:=[.slice C (innI z.1 ++ [(k:Int)]).length c]) hml rfl (fun _ _=>rfl) (by simp) rfl
       have S9:=Lib.hid S9
       go_roundw
       case rel=>exact ⟨k + 1,zs.set m (z.1 ++ [(k:Int)],.slice C (innI z.1 ++ [(k:Int)]).length c),f1,g9,hlt,by go_num,by rw [HS.out,HG.out];unfold addAt;rw [if_neg hneg,Int.toNat_natCast];rw [map_fst_set HZ.out,← HZ.out,getD_map_fst HZM.out],by simp;omega,by
        intro y hy
        rcases List.mem_or_eq_of_mem_set hy with hy | rfl
        ·exact Nat.le_succ_of_le (HZI.out y hy)
        ·have:=HZI.out z (List.mem_of_getElem? HZM.out);simp;omega,by simpa [setW] using S9⟩
       case measure=>simp [intOf] <;> omega
  ·obtain rfl:k=4:=by omega
   have HZ:=Lib.hid hz
   go_wp2
   go_ret
   exact SN.out.nest HZ.out
end Go.Proofs.YtioijfplbgpjpaaGreat
namespace Go.Proofs.YtioijfplbgpjpaaGreat
set_option linter.unusedVariables false
set_option linter.unusedSimpArgs false
set_option maxRecDepth 100000
open Go.RowKit Go.WideShapes Go.ChangeShapes Go.ChangeAt Go.Deep
set_option maxHeartbeats 400000 in
theorem l1Max_any (a b:Int) (w:World):Calls Tryz.prog 90 #[.int .i64 a,.int .i64 b] w fun e w'=>e=.returned (.int .i64 (max a b))∧w=w':=by
 go_enter Tryz.func90,Tryz.ntmps90
 by_cases hab:b < a
 ·go_wp2
  go_ret
  exact ⟨by rw [show max a b=a by omega];rfl,rfl⟩
 ·go_wp2
  go_ret
  exact ⟨by rw [show max a b=b by omega];rfl,rfl⟩
set_option maxRecDepth 100000 in
set_option maxHeartbeats 1000000 in
theorem sPallets_any (v:Value) (xs:List Spot) (w:World) (h:RSpots 16777216 w w.heap.size v xs):Calls Tryz.prog 116 #[v] w fun e w'=>e=.returned (.int .i64 (palletsR xs))∧w=w':=by
 have HS:=Lib.hid h
 obtain ⟨E,e,rfl,hbd,_⟩:=h
 go_enter Tryz.func116,Tryz.ntmps116
 go_wp2
 go_loop [3,4] (fun n i=>∃ (k:Nat),k≤xs.length∧i=.int .i64 k∧n=.int .i64 ((xs.take k).foldl palStep 0)) (fun _ i=>xs.length - (intOf i).toNat)
 case atStart=>exact ⟨0,Nat.zero_le _,rfl,rfl⟩
 case round =>
  obtain ⟨k,hk,rfl,rfl⟩:=hrel
  by_cases hlt:k < xs.length
  ·obtain ⟨b,off,x,_,rfl,hb,hx,_,rfl,hc⟩:=HS.out.at_ k hlt
   have hc0:=hc 0 _ rfl
   simp only [Nat.add_zero] at hc0
   have HST:=Lib.hid (foldl_take_step (f:=palStep) (b:=0) hx)
   obtain ⟨G,hG⟩:∃ G,(xs.take k).foldl palStep 0=G:=⟨_,rfl⟩
   obtain ⟨f,hf⟩:∃ f,inB x.pallet 0 999999=f:=⟨_,rfl⟩
   have HF:=Lib.hid hf
   have HG:=Lib.hid (show palStep G x=if f=true then max G (wrap64 (x.pallet + 1)) else G by unfold palStep;rw [hf])
   rw [hG] at HST ⊢
   clear hc hx hG hf
   cases f
   all_goals go_wp2_with (first | (go_at_call 104;refine (l1In_any _ _ _ _).mono ?_;rintro e w' ⟨rfl,rfl⟩;rw [HF.out]) | (go_at_call 90;refine (l1Max_any _ _ _).mono ?_;rintro e w' ⟨rfl,rfl⟩))
   all_goals go_round
   all_goals first | (case rel=>exact ⟨k + 1,hlt,by go_num,by rw [HST.out,HG.out];rfl⟩) | (case measure=>simp [intOf] <;> omega)
  ·have HM:=Lib.hid (show (xs.take k).foldl palStep 0=palletsR xs by rw [List.take_of_length_le (by omega)];rfl)
   rw [HM.out]
   go_wp2
   go_ret
   exact ⟨rfl,rfl⟩
set_option maxHeartbeats 1000000 in
theorem l11Ok_any (p:Pallet) (d h g:Int) (w:World):Calls Tryz.prog 341 #[p.val,.int .i64 d,.int .i64 h,.int .i64 g] w fun e w'=>e=.returned (.bool (flatOk p d h g))∧Below w.heap.size w w':=by
 obtain ⟨b1,h1⟩:∃ q,inB d 1 p.d=q:=⟨_,rfl⟩
 obtain ⟨b2,h2⟩:∃ q,inB h 1 p.h=q:=⟨_,rfl⟩
 obtain ⟨b3,h3⟩:∃ q,inB g 1 p.gram=q:=⟨_,rfl⟩
 have HV:=Lib.hid (show flatOk p d h g=(b1 && b2 && b3) by unfold flatOk;rw [h1,h2,h3])
 have H1:=Lib.hid h1
 have H2:=Lib.hid h2
 have H3:=Lib.hid h3
 clear h1 h2 h3
 go_enter Tryz.func341,Tryz.ntmps341
 cases b1 <;> cases b2 <;> cases b3 <;> (go_wp2_with (go_at_call 104;refine (l1In_any _ _ _ _).mono ?_;rintro e w' ⟨rfl,rfl⟩;first | rw [H1.out] | rw [H2.out] | rw [H3.out]);go_ret;exact ⟨by rw [HV.out];rfl,by (repeat' with_reducible first | assumption | exact bR | apply bD | apply bA | apply bC | apply bW | omega | simp <;> omega)⟩)
set_option maxRecDepth 100000 in
set_option maxHeartbeats 1000000 in
theorem sShelvesOk_any (p:Pallet) (v:Value) (ss:List Shelf) (w:World) (h:RL 16777216 5 (RNest hdShelf Shelf.list) w w.heap.size v ss):Calls Tryz.prog 302 #[p.val,v] w fun e w'=>e=.returned (.bool (shelvesOk p ss))∧Below w.heap.size w w':=by
 have HS:=Lib.hid h
 obtain ⟨E,e,rfl,hbd,_⟩:=h
 have SN:=Lib.hid ((Sit.here w).alloc #[.int .i64 p.w,.int .i64 p.d,.int .i64 p.h,.int .i64 p.gram] 36)
 obtain ⟨bp,hbp⟩:∃ b,palletOk p=b:=⟨_,rfl⟩
 have HBP:=Lib.hid hbp
 have HM:=Lib.hid (show shelvesOk p ss=(bp && ss.all fun s=>flatOk p s.d s.h s.gram) by unfold shelvesOk;rw [hbp])
 clear hbp
 go_enter Tryz.func302,Tryz.ntmps302
 have k0:=SN.out.box (.head _)
 go_wp2_with fail
 refine (sPalletOk_any p _).mono ?_
 rintro e1 w1 ⟨rfl,hb1⟩
 rw [HBP.out]
 have SN:=Lib.hid (SN.out.next hb1)
 clear k0 hb1
 cases bp
 ·go_wp2
  go_ret
  exact ⟨by rw [HM.out];rfl,SN.out.low⟩
 ·go_wp2
  go_loopw [5] (fun i wr=>∃ (k:Nat),k≤ss.length∧i=.int .i64 k∧Hid ((ss.drop k).all (fun s=>flatOk p s.d s.h s.gram)=shelvesOk p ss)∧Hid (Sit w wr [fBox w.heap.size #[.int .i64 p.w,.int .i64 p.d,.int .i64 p.h,.int .i64 p.gram] 36])) (fun i _=>ss.length - (intOf i).toNat)
  case atStart=>exact ⟨0,Nat.zero_le _,rfl,Lib.hid (by rw [HM.out];rfl),SN⟩
  case round =>
   clear SN
   obtain ⟨k,hk,rfl,HD,SN⟩:=hrel
   by_cases hlt:k < ss.length
   ·obtain ⟨b,off,x,_,rfl,hb,hx,_,⟨ux,rfl,_⟩,hc⟩:=(HS.out.next (RNest_mono _ _) SN.out.low).at_ k hlt
    have hc0:=hc 2 _ rfl
    have hc1:=hc 3 _ rfl
    have hc2:=hc 4 _ rfl
    have hbw:b < wr.heap.size:=hb
    have k0:=SN.out.box (.head _)
    have k00:=k0 0
    have k01:=k0 1
    have k02:=k0 2
    have k03:=k0 3
    simp at k00 k01 k02 k03
    obtain ⟨f,hf⟩:∃ f,flatOk p x.d x.h x.gram=f:=⟨_,rfl⟩
    have HF:=Lib.hid hf
    have HST:=Lib.hid (show (ss.drop k).all (fun s=>flatOk p s.d s.h s.gram)=(f && (ss.drop (k + 1)).all (fun s=>flatOk p s.d s.h s.gram)) by rw [drop_cons hx,List.all_cons,hf])
    have HCC:=Lib.hid (show ∀ X:World,Below wr.heap.size wr X→(X.cell? ⟨w.heap.size,0,none⟩=some (.int .i64 p.w)∧X.cell? ⟨w.heap.size,1,none⟩=some (.int .i64 p.d)∧X.cell? ⟨w.heap.size,2,none⟩=some (.int .i64 p.h)∧X.cell? ⟨w.heap.size,3,none⟩=some (.int .i64 p.gram))∧X.cell? ⟨b,off + k * 5 + 2,none⟩=some (.int .i64 x.d)∧X.cell? ⟨b,off + k * 5 + 3,none⟩=some (.int .i64 x.h)∧X.cell? ⟨b,off + k * 5 + 4,none⟩=some (.int .i64 x.gram) from fun X hX=>by
     have c0:=(SN.out.next hX).box (.head _)
     exact ⟨⟨c0 0,c0 1,c0 2,c0 3⟩,(hX.cell (p:=⟨b,_,none⟩) hbw).trans hc0,(hX.cell (p:=⟨b,_,none⟩) hbw).trans hc1,(hX.cell (p:=⟨b,_,none⟩) hbw).trans hc2⟩)
    clear hc hx hf k0
    go_wp2
    go_region_held3 (fun W'=>(W'.cell? ⟨w.heap.size,0,none⟩=some (.int .i64 p.w)∧W'.cell? ⟨w.heap.size,1,none⟩=some (.int .i64 p.d)∧W'.cell? ⟨w.heap.size,2,none⟩=some (.int .i64 p.h)∧W'.cell? ⟨w.heap.size,3,none⟩=some (.int .i64 p.gram))∧W'.cell? ⟨b,off + k * 5 + 2,none⟩=some (.int .i64 x.d)∧W'.cell? ⟨b,off + k * 5 + 3,none⟩=some (.int .i64 x.h)∧W'.cell? ⟨b,off + k * 5 + 4,none⟩=some (.int .i64 x.gram)) (first | (refine HCC.out _ ?_;(repeat' with_reducible first | assumption | exact bR | apply bD | apply bA | apply bC | apply bW | omega | simp <;> omega);done) | go_keep) (first | (go_at_call 341;refine (l11Ok_any p x.d x.h x.gram _).mono ?_;rintro e w2 ⟨rfl,hb2⟩;rw [HF.out];have hn2:=bstep (a:=wr) (by (repeat' with_reducible first | assumption | exact bR | apply bD | apply bA | apply bC | apply bW | omega | simp <;> omega)) hb2))
    have SN:=Lib.hid (SN.out.next hn2)
    cases f
    ·go_wp2
     go_ret
     exact ⟨by rw [← HD.out,HST.out];rfl,SN.out.low⟩
    ·go_wp2
     go_roundw
     case rel=>exact ⟨k + 1,hlt,by go_num,Lib.hid (by rw [← HD.out,HST.out];simp),SN⟩
     case measure=>simp [intOf] <;> omega
   ·have HE:=Lib.hid (show shelvesOk p ss=true by rw [← HD.out,List.drop_eq_nil_of_le (by omega)];rfl)
    go_wp2
    go_ret
    exact ⟨by rw [HE.out];rfl,SN.out.low⟩
set_option maxRecDepth 100000 in
set_option maxHeartbeats 1000000 in
theorem sStacksOk_any (p:Pallet) (v:Value) (ss:List Layer) (w:World) (h:RL 16777216 4 (RNest hdLayer Layer.shelves) w w.heap.size v ss):Calls Tryz.prog 303 #[p.val,v] w fun e w'=>e=.returned (.bool (stacksOk p ss))∧Below w.heap.size w w':=by
 have HS:=Lib.hid h
 obtain ⟨E,e,rfl,hbd,_⟩:=h
 have SN:=Lib.hid ((Sit.here w).alloc #[.int .i64 p.w,.int .i64 p.d,.int .i64 p.h,.int .i64 p.gram] 36)
 obtain ⟨bp,hbp⟩:∃ b,palletOk p=b:=⟨_,rfl⟩
 have HBP:=Lib.hid hbp
 have HM:=Lib.hid (show stacksOk p ss=(bp && ss.all fun s=>flatOk p s.d s.h s.gram) by unfold stacksOk;rw [hbp])
 clear hbp
 go_enter Tryz.func303,Tryz.ntmps303
 have k0:=SN.out.box (.head _)
 go_wp2_with fail
 refine (sPalletOk_any p _).mono ?_
 rintro e1 w1 ⟨rfl,hb1⟩
 rw [HBP.out]
 have SN:=Lib.hid (SN.out.next hb1)
 clear k0 hb1
 cases bp
 ·go_wp2
  go_ret
  exact ⟨by rw [HM.out];rfl,SN.out.low⟩
 ·go_wp2
  go_loopw [5] (fun i wr=>∃ (k:Nat),k≤ss.length∧i=.int .i64 k∧Hid ((ss.drop k).all (fun s=>flatOk p s.d s.h s.gram)=stacksOk p ss)∧Hid (Sit w wr [fBox w.heap.size #[.int .i64 p.w,.int .i64 p.d,.int .i64 p.h,.int .i64 p.gram] 36])) (fun i _=>ss.length - (intOf i).toNat)
  case atStart=>exact ⟨0,Nat.zero_le _,rfl,Lib.hid (by rw [HM.out];rfl),SN⟩
  case round =>
   clear SN
   obtain ⟨k,hk,rfl,HD,SN⟩:=hrel
   by_cases hlt:k < ss.length
   ·obtain ⟨b,off,x,_,rfl,hb,hx,_,⟨ux,rfl,_⟩,hc⟩:=(HS.out.next (RNest_mono _ _) SN.out.low).at_ k hlt
    have hc0:=hc 1 _ rfl
    have hc1:=hc 2 _ rfl
    have hc2:=hc 3 _ rfl
    have hbw:b < wr.heap.size:=hb
    have k0:=SN.out.box (.head _)
    have k00:=k0 0
    have k01:=k0 1
    have k02:=k0 2
    have k03:=k0 3
    simp at k00 k01 k02 k03
    obtain ⟨f,hf⟩:∃ f,flatOk p x.d x.h x.gram=f:=⟨_,rfl⟩
    have HF:=Lib.hid hf
    have HST:=Lib.hid (show (ss.drop k).all (fun s=>flatOk p s.d s.h s.gram)=(f && (ss.drop (k + 1)).all (fun s=>flatOk p s.d s.h s.gram)) by rw [drop_cons hx,List.all_cons,hf])
    have HCC:=Lib.hid (show ∀ X:World,Below wr.heap.size wr X→(X.cell? ⟨w.heap.size,0,none⟩=some (.int .i64 p.w)∧X.cell? ⟨w.heap.size,1,none⟩=some (.int .i64 p.d)∧X.cell? ⟨w.heap.size,2,none⟩=some (.int .i64 p.h)∧X.cell? ⟨w.heap.size,3,none⟩=some (.int .i64 p.gram))∧X.cell? ⟨b,off + k * 4 + 1,none⟩=some (.int .i64 x.d)∧X.cell? ⟨b,off + k * 4 + 2,none⟩=some (.int .i64 x.h)∧X.cell? ⟨b,off + k * 4 + 3,none⟩=some (.int .i64 x.gram) from fun X hX=>by
     have c0:=(SN.out.next hX).box (.head _)
     exact ⟨⟨c0 0,c0 1,c0 2,c0 3⟩,(hX.cell (p:=⟨b,_,none⟩) hbw).trans hc0,(hX.cell (p:=⟨b,_,none⟩) hbw).trans hc1,(hX.cell (p:=⟨b,_,none⟩) hbw).trans hc2⟩)
    clear hc hx hf k0
    go_wp2
    go_region_held3 (fun W'=>(W'.cell? ⟨w.heap.size,0,none⟩=some (.int .i64 p.w)∧W'.cell? ⟨w.heap.size,1,none⟩=some (.int .i64 p.d)∧W'.cell? ⟨w.heap.size,2,none⟩=some (.int .i64 p.h)∧W'.cell? ⟨w.heap.size,3,none⟩=some (.int .i64 p.gram))∧W'.cell? ⟨b,off + k * 4 + 1,none⟩=some (.int .i64 x.d)∧W'.cell? ⟨b,off + k * 4 + 2,none⟩=some (.int .i64 x.h)∧W'.cell? ⟨b,off + k * 4 + 3,none⟩=some (.int .i64 x.gram)) (first | (refine HCC.out _ ?_;(repeat' with_reducible first | assumption | exact bR | apply bD | apply bA | apply bC | apply bW | omega | simp <;> omega);done) | go_keep) (first | (go_at_call 341;refine (l11Ok_any p x.d x.h x.gram _).mono ?_;rintro e w2 ⟨rfl,hb2⟩;rw [HF.out];have hn2:=bstep (a:=wr) (by (repeat' with_reducible first | assumption | exact bR | apply bD | apply bA | apply bC | apply bW | omega | simp <;> omega)) hb2))
    have SN:=Lib.hid (SN.out.next hn2)
    cases f
    ·go_wp2
     go_ret
     exact ⟨by rw [← HD.out,HST.out];rfl,SN.out.low⟩
    ·go_wp2
     go_roundw
     case rel=>exact ⟨k + 1,hlt,by go_num,Lib.hid (by rw [← HD.out,HST.out];simp),SN⟩
     case measure=>simp [intOf] <;> omega
   ·have HE:=Lib.hid (show stacksOk p ss=true by rw [← HD.out,List.drop_eq_nil_of_le (by omega)];rfl)
    go_wp2
    go_ret
    exact ⟨by rw [HE.out];rfl,SN.out.low⟩
end Go.Proofs.YtioijfplbgpjpaaGreat
namespace Go.Proofs.YtioijfplbgpjpaaGreat
set_option linter.unusedVariables false
set_option linter.unusedSimpArgs false
set_option maxRecDepth 100000
open Go.RowKit Go.Deep
set_option maxRecDepth 100000 in
set_option maxHeartbeats 1000000 in
theorem sGroupsOf_any (v:Value) (r:Request) (w:World) (h:RReq 16777216 w w.heap.size v r):Calls Tryz.prog 164 #[v] w (MNest hdInts 53 1 innI w (groupsR r)):=by
 have HR:=Lib.hid h
 obtain ⟨A1,c1,A2,c2,A3,c3,rfl,⟨H1,_,_⟩,_⟩:=h.opn
 have HP:=Lib.hid H1
 have SN:=Lib.hid ((Sit.here w).alloc (cR r A1 c1 A2 c2 A3 c3) 41)
 clear h H1
 go_enter Tryz.func164,Tryz.ntmps164
 have k0:=SN.out.box (.head _)
 have l0:=SN.out.boxlt (.head _)
 go_wp2
 go_region_held3 (fun W'=>(cS10 (W') (w.heap.size) (r) (.slice A1 r.pairs.length c1) (.slice A2 r.types.length c2) (.slice A3 r.items.length c3)))
  (first | (have c0:=(SN.out.next (by (repeat' with_reducible first | assumption | exact bR | apply bD | apply bA | apply bC | apply bW | omega | simp <;> omega))).box (g:=w.heap.size) (cs:=(cR r A1 c1 A2 c2 A3 c3)) (t:=41) mq;exact ⟨c0 0,c0 1,c0 2,c0 3,c0 4,c0 5,c0 6,c0 7,c0 8,c0 9⟩) | go_keep)
  (first
   |(go_at_call 233;refine (sPresent_any _ r _ (HR.out.next (SN.out.next (by repeat' with_reducible first | assumption | exact bR | apply bD | apply bA | apply bC | apply bN | simp <;> omega)).low)).mono ?_;intro e w1 hm;obtain ⟨v1,fp,rfl,hS⟩:=(SN.out.next (by repeat' with_reducible first | assumption | exact bR | apply bD | apply bA | apply bC | apply bN | simp <;> omega)).gotInts hm;have SN:=Lib.hid hS;have hb1:=hm.choose_spec.choose_spec.2.2;clear hS hm)
   |(go_at_call 232;refine (sGroups_any _ _ r.pairs (presentR r) _ (HP.out.next (flat_mono _) SN.out.low) (OInts.read (SN.out.list (.head _)) (by have:=presentR_len r;omega))).mono ?_;intro e w2 hm;obtain ⟨v2,zs,f1,f2,rfl,hz,hS⟩:=SN.out.gotNest hm;have SN:=Lib.hid hS;clear hS hm))
 all_goals go_wp2
 all_goals go_ret
 all_goals exact SN.out.nest hz
set_option maxRecDepth 100000 in
set_option maxHeartbeats 1000000 in
theorem l6Item_any (v va:Value) (r:Request) (all:List Int) (u:Int) (w:World) (h:RReq 16777216 w w.heap.size v r) (ha:RInts 16777216 w w.heap.size va all) (hi:∀ (i:Nat) (n:Int),all[i]? = some n→0≤n∧n.toNat < r.items.length) :
  Calls Tryz.prog 255 #[v,va,.int .i64 u] w fun e w'=>e=.returned (.tuple #[(itemOf r all u).1.val,.bool (itemOf r all u).2])∧Below w.heap.size w w':=by
 have HA:=Lib.hid ha
 obtain ⟨A1,c1,A2,c2,A3,c3,rfl,⟨_,_,H3⟩,_,_,hl3,_⟩:=h.opn
 obtain ⟨E,e,rfl,hbd,_⟩:=ha
 have hS:=((Sit.here w).alloc (cR r A1 c1 A2 c2 A3 c3) 41).alloc #[.int .i64 0,.int .i64 0,.int .i64 0,.int .i64 0,.int .i64 0,.int .i64 0,.int .i64 0] 152
 simp only [World.size_alloc] at hS
 have SN:=Lib.hid hS
 obtain ⟨b,hb⟩:∃ b,inB u 0 (all.length - 1)=b:=⟨_,rfl⟩
 have HB:=Lib.hid hb
 have hI:itemOf r all u=if b=true then (r.items.getD (all.getD u.toNat 0).toNat default,true) else (default,false):=by unfold itemOf;rw [hb]
 have k0:=SN.out.box (.tail _ (.head _))
 have l0:=SN.out.boxlt (.tail _ (.head _))
 have k1:=SN.out.box (.head _)
 have f1:=SN.out.free (.head _)
 have l1:=SN.out.boxlt (.head _)
 clear h hS hb
 cases b
 ·have HI:=Lib.hid (show itemOf r all u=(default,false) by rw [hI];rfl)
  clear hI
  go_enter Tryz.func255,Tryz.ntmps255
  go_wp2_with (go_at_call 104;refine (l1In_any _ _ _ _).mono ?_;rintro e w' ⟨rfl,rfl⟩;rw [HB.out])
  refine bodyPost_ret (v:=.tuple #[.agg #[.int .i64 0,.int .i64 0,.int .i64 0,.int .i64 0,.int .i64 0,.int .i64 0,.int .i64 0],.bool false]) (by simp [results,Tryz.results255,go_sem,k1,f1]) rfl ?_
  rw [HI.out]
  exact ⟨rfl,by (repeat' with_reducible first | assumption | exact bR | apply bD | apply bA | apply bC | apply bW | omega | simp <;> omega)⟩
 ·obtain ⟨hu0,hu1⟩:=inB_iff.1 HB.out
  obtain ⟨k,rfl⟩:∃ k:Nat,u=k:=⟨u.toNat,by omega⟩
  have hk:k < all.length:=by omega
  obtain ⟨b,off,x,rfl,hb,hx,hc⟩:=HA.out.at1 k hk
  have hc0:=hc _ rfl
  obtain ⟨hx0,hx1⟩:=hi k x hx
  obtain ⟨m,rfl⟩:∃ m:Nat,x=m:=⟨x.toNat,by omega⟩
  simp only [Int.toNat_natCast] at hx1
  obtain ⟨b2,off2,y,_,rfl,hb2,hy,_,hfx,hd⟩:=H3.at_ m hx1
  cases hfx
  have HI:=Lib.hid (show itemOf r all k=(y,true) by rw [hI];simp only [if_true,Int.toNat_natCast];rw [show all.getD k 0=(m:Int) by rw [List.getD_eq_getElem?_getD,hx];rfl,Int.toNat_natCast,List.getD_eq_getElem?_getD,hy];rfl)
  have hd0:=hd 0 _ rfl
  have hd1:=hd 1 _ rfl
  have hd2:=hd 2 _ rfl
  have hd3:=hd 3 _ rfl
  have hd4:=hd 4 _ rfl
  have hd5:=hd 5 _ rfl
  have hd6:=hd 6 _ rfl
  simp only [Nat.add_zero] at hd0
  clear hI hc hd hx hy
  go_enter Tryz.func255,Tryz.ntmps255
  go_wp2_with (go_at_call 104;refine (l1In_any _ _ _ _).mono ?_;rintro e w' ⟨rfl,rfl⟩;rw [HB.out])
  go_region_held3 (fun W'=>W'.cell? ⟨w.heap.size,9,none⟩=some (.slice (some ⟨b2,off2,none⟩) r.items.length c3)∧W'.cell? ⟨b,off + k,none⟩=some (.int .i64 m)∧cS7O (W') (b2) (off2 + m * 7) (y)) (go_keep) (fail)
  all_goals go_wp2
  all_goals refine bodyPost_ret (v:=.tuple #[.agg #[.int .i64 y.id,.int .i64 y.w,.int .i64 y.h,.int .i64 y.d,.int .i64 y.gram,.int .i64 y.cls,.int .i64 y.count],.bool true]) (by simp [results,Tryz.results255,go_sem,k1,f1]) rfl ?_
  all_goals rw [HI.out]
  all_goals exact ⟨rfl,by (repeat' with_reducible first | assumption | exact bR | apply bD | apply bA | apply bC | apply bW | omega | simp <;> omega)⟩
end Go.Proofs.YtioijfplbgpjpaaGreat
namespace Go.Proofs.YtioijfplbgpjpaaGreat
set_option linter.unusedVariables false
set_option linter.unusedSimpArgs false
set_option maxRecDepth 100000
open Go.RowKit Go.Deep
set_option maxRecDepth 100000 in
set_option maxHeartbeats 1000000 in
theorem sUnitsOf_any (v:Value) (r:Request) (k:Int) (w:World) (h:RReq 16777216 w w.heap.size v r) (hs:soundR r=true):Calls Tryz.prog 230 #[v,.int .i64 k] w (MInts w (unitsOf r k)):=by
 have HR:=Lib.hid h
 have HU:=Lib.hid (show (unitsR r).length≤12 from (right_of hs).nunits)
 have HG:=Lib.hid (groups_len r)
 obtain ⟨A1,c1,A2,c2,A3,c3,rfl,⟨_,_,H3⟩,_,_,hl3,_⟩:=h.opn
 have hS:=((Sit.here w).alloc (cR r A1 c1 A2 c2 A3 c3) 41).alloc #[] 3
 simp only [World.size_alloc] at hS
 have SN:=Lib.hid (hS.boxNil cI 1)
 clear h hS hs
 go_enter Tryz.func230,Tryz.ntmps230
 have k0:=SN.out.box (.tail _ (.head _))
 have l0:=SN.out.boxlt (.tail _ (.head _))
 go_wp2_with fail
 refine (sGroupsOf_any _ r _ (HR.out.next SN.out.low)).mono ?_
 intro e w1 hm
 obtain ⟨v1,zs,f1,f2,rfl,hz,hS⟩:=SN.out.gotNest hm
 obtain ⟨E,e,rfl,_⟩:=(hS.list (.head _)).form
 have HZ:=Lib.hid hz
 have HZL:=Lib.hid (map_fst_len hz)
 have hzl4:zs.length≤4:=by have:=HZL.out;have:=HG.out.1;omega
 have SN:=Lib.hid hS
 clear k0 l0 hS hm hz
 have k0:=SN.out.box (.tail _ (.tail _ (.tail _ (.head _))))
 have l0:=SN.out.boxlt (.tail _ (.tail _ (.tail _ (.head _))))
 obtain ⟨b,hb⟩:∃ b,inB k 0 (zs.length - 1)=b:=⟨_,rfl⟩
 have HB:=Lib.hid hb
 have HM:=Lib.hid (show unitsOf r k=if b=true then ((List.range (unitsR r).length).filter (inGroup r k)).map Int.ofNat else [] by unfold unitsOf;rw [← HZL.out,hb])
 clear hb
 cases b
 ·go_wp2_with (go_at_call 104;refine (l1In_any _ _ _ _).mono ?_;rintro e w' ⟨rfl,rfl⟩;rw [HB.out])
  go_ret
  rw [HM.out]
  exact SN.out.rot3.ints
 ·obtain ⟨hu0,hu1⟩:=inB_iff.1 HB.out
  obtain ⟨k,rfl⟩:∃ q:Nat,k=q:=⟨k.toNat,by omega⟩
  have hkz:k < zs.length:=by omega
  obtain ⟨g,hg⟩:∃ g,(groupsR r)[k]? = some g:=⟨_,List.getElem?_eq_getElem (by have:=HZL.out;omega)⟩
  have HGG:=Lib.hid hg
  have HIG:=Lib.hid (show ∀ i,inGroup r k i=g.contains (unitCls r i) by intro i;unfold inGroup;rw [Int.toNat_natCast,List.getD_eq_getElem?_getD,hg];rfl)
  have HGL:=Lib.hid ((groups_len r).2 g (List.mem_of_getElem? hg))
  clear hg
  go_wp2_with (go_at_call 104;refine (l1In_any _ _ _ _).mono ?_;rintro e w' ⟨rfl,rfl⟩;rw [HB.out])
  refine (l6Units_any _ r _ (HR.out.next SN.out.low) (by have:=HU.out;omega)).mono ?_
  intro e w2 hm
  obtain ⟨v2,fp2,rfl,hS⟩:=SN.out.gotInts hm
  obtain ⟨D,d,rfl,_⟩:=(hS.list (.head _)).form
  have SN:=Lib.hid (hS.rot4)
  clear k0 l0 hS hm
  have k0:=SN.out.box (.tail _ (.tail _ (.tail _ (.tail _ (.head _)))))
  have l0:=SN.out.boxlt (.tail _ (.tail _ (.tail _ (.tail _ (.head _)))))
  have hul:(unitsR r).length≤12:=HU.out
  go_wp2
  go_loopw [5,8] (fun vv i wr=>∃ (m:Nat) (fp:List Nat),m≤(unitsR r).length∧i=.int .i64 m∧Hid (Sit w wr [fOF cI 3 1 w.heap.size vv (((List.range m).filter (inGroup r k)).map Int.ofNat) fp,fOF cI 3 1 w.heap.size (.slice D (unitsR r).length d) (unitsR r) fp2,fOF (fz hdInts) 53 1 w.heap.size (.slice E zs.length e) zs f1,fInn innI w.heap.size zs f2,fBox w.heap.size (cR r A1 c1 A2 c2 A3 c3) 41])) (fun _ i _=>(unitsR r).length - (intOf i).toNat)
  case atStart=>exact ⟨0,_,Nat.zero_le _,rfl,SN⟩
  case round =>
   clear SN k0 l0
   obtain ⟨m,fp,hm,rfl,SN⟩:=hrel
   have k0:=SN.out.box (.tail _ (.tail _ (.tail _ (.tail _ (.head _)))))
   have l0:=SN.out.boxlt (.tail _ (.tail _ (.tail _ (.tail _ (.head _)))))
   by_cases hlt:m < (unitsR r).length
   ·obtain ⟨b0,hb0⟩:∃ u,(unitsR r)[m]? = some u:=⟨_,List.getElem?_eq_getElem hlt⟩
    obtain ⟨hx0,hxi,hx1⟩:=units_item hb0
    obtain ⟨q,rfl⟩:∃ q:Nat,b0=q:=⟨b0.toNat,by omega⟩
    simp only [Int.toNat_natCast] at hxi hx1
    obtain ⟨gd,cd,hvd,_,_⟩:=(SN.out.list (.tail _ (.head _))).some hb0
    injection hvd with e1 e2 e3
    subst e1 e3
    have hcu:=(SN.out.list (.tail _ (.head _))).cells (fun z=>rfl) hb0 0 (.int .i64 (q:Int)) rfl
    obtain ⟨gz,cz,hvz,_,_⟩:=(SN.out.list (.tail _ (.tail _ (.head _)))).some (List.getElem?_eq_getElem hkz)
    injection hvz with e1 e2 e3
    subst e1 e3
    obtain ⟨z,hz⟩:∃ z,zs[k]? = some z:=⟨_,List.getElem?_eq_getElem hkz⟩
    have hcz:=(SN.out.list (.tail _ (.tail _ (.head _)))).cells (fun z=>rfl) hz 0 (sv z.2) rfl
    obtain ⟨fi,hoi⟩:=(SN.out.inns (.tail _ (.tail _ (.tail _ (.head _))))).read hz
    rw [sv_of hoi] at hcz
    simp only [Nat.mul_one,Nat.add_zero] at hcu hcz
    have hzg:z.1=g:=by have h1:=HGG.out;rw [← HZ.out,List.getElem?_map,hz] at h1;simpa using h1
    have HOI:=Lib.hid (OInts.read hoi (show (innI z.1).length≤16777216 by have:=HGL.out;show z.1.length≤_;rw [hzg];omega))
    obtain ⟨bb,off,y,_,rfl,hbb,hy,_,hfx,hd⟩:=(H3.next (flat_mono _) SN.out.low).at_ q hx1
    cases hfx
    have hd5:=hd 5 _ rfl
    obtain ⟨f,hf⟩:∃ f,inGroup r k m=f:=⟨_,rfl⟩
    have HF:=Lib.hid (show (z.1.any fun t=>y.cls == t)=f by
     rw [← hf,HIG.out,← hzg,List.contains_eq_any_beq]
     have:unitCls r m=y.cls:=by unfold unitCls;rw [show (unitsR r).getD m 0=(q:Int) by rw [List.getD_eq_getElem?_getD,hb0];rfl,Int.toNat_natCast,List.getD_eq_getElem?_getD,hy];rfl
     rw [this])
    have HS:=Lib.hid (show ((List.range (m + 1)).filter (inGroup r k)).map Int.ofNat=((List.range m).filter (inGroup r k)).map Int.ofNat ++ (if f=true then [(m:Int)] else []) by rw [List.range_succ,List.filter_append,List.map_append,← hf];simp only [List.filter_cons,List.filter_nil];split <;> simp)
    have hln:(((List.range m).filter (inGroup r k)).map Int.ofNat).length≤12:=by have:=List.length_filter_le (inGroup r k) (List.range m);have:=HU.out;simp at *;omega
    clear hb0 hxi hz hoi hzg hy hd hf
    go_wp2
    go_region_held3 (fun W'=>W'.cell? ⟨gz,k,none⟩=some z.2∧W'.cell? ⟨w.heap.size,9,none⟩=some (.slice (some ⟨bb,off,none⟩) r.items.length c3)∧W'.cell? ⟨gd,m,none⟩=some (.int .i64 q)∧W'.cell? ⟨bb,off + q * 7 + 5,none⟩=some (.int .i64 y.cls))
     (go_keep)
     (first | (go_at_call 152;refine (l1Has_any _ z.1 _ _ (RL.next HOI.out (flat_mono _) (by (repeat' with_reducible first | assumption | exact bR | apply bD | apply bA | apply bC | apply bW | omega | simp <;> omega)))).mono ?_;rintro e w' ⟨rfl,rfl⟩;rw [HF.out]))
    cases f
    ·go_wp2
     go_roundw
     case rel=>exact ⟨m + 1,_,hlt,by go_num,Lib.hid (by rw [HS.out];first | simpa using SN.out | simpa using SN.out.drew)⟩
     case measure=>simp [intOf] <;> omega
    ·go_wp2_with (at_builtin;refine papp_Int _ _ rfl rfl ((m:Int)) rfl rfl (heap_alloc_new _ _) rfl ((SN.out.list (.head _)).next (by repeat' with_reducible first | assumption | exact bR | apply bD | apply bA | apply bC | apply bN | simp <;> omega)) (by first | omega | (simp;omega)) (by have:=SN.out.low.size;first | omega | (simp;omega)) ?_;intro v7 w7 ha;obtain ⟨g7,S7⟩:=(SN.out.next (by repeat' with_reducible first | assumption | exact bR | apply bD | apply bA | apply bC | apply bN | simp <;> omega)).app ha;have S8:=Lib.hid S7;clear S7 ha)
     go_roundw
     case rel=>exact ⟨m + 1,_,hlt,by go_num,by rw [HS.out];simpa using S8⟩
     case measure=>simp [intOf] <;> omega
   ·obtain rfl:m=(unitsR r).length:=by omega
    go_wp2
    go_ret
    rw [HM.out]
    exact SN.out.ints
end Go.Proofs.YtioijfplbgpjpaaGreat
namespace Go.Proofs.YtioijfplbgpjpaaGreat
set_option linter.unusedVariables false
set_option linter.unusedSimpArgs false
set_option maxRecDepth 100000
open Go.RowKit
def allU (cs:List Carton):List Int:=cs.flatMap (·.units)
theorem allU_snoc {cs:List Carton} {k:Nat} {x:Carton} (h:cs[k]? = some x):allU (cs.take (k + 1))=allU (cs.take k) ++ x.units:=by
 unfold allU;rw [List.take_add_one,h];simp
theorem allU_len (cs:List Carton):(allU cs).length=tot (fun c=>c.units.length) cs:=by
 unfold allU tot;rw [List.length_flatMap]
theorem allU_take (cs:List Carton) (k:Nat):(allU (cs.take k)).length≤(allU cs).length:=by
 have:allU cs=allU (cs.take k) ++ allU (cs.drop k):=by unfold allU;rw [← List.flatMap_append,List.take_append_drop]
 rw [this,List.length_append];omega
theorem allU_bulk (p:Plan):(allU p.cartons).length≤p.bulk:=by rw [allU_len];unfold Plan.bulk;omega
set_option maxHeartbeats 400000 in
theorem l15Flat_any (v:Value) (p:Plan) (w:World) (h:RPlan 16777216 w w.heap.size v p) (hL:p.bulk≤16777216):Calls Tryz.prog 123 #[v] w (MInts w (allU p.cartons)):=by
 obtain ⟨v1,v2,rfl,h1,_⟩:=h
 have H:=Lib.hid h1
 obtain ⟨A,c,rfl,hbd,_⟩:=h1
 have hal:=Nat.le_trans (allU_bulk p) hL
 obtain ⟨N,hN⟩:∃ n,(allU p.cartons).length=n:=⟨_,rfl⟩
 rw [hN] at hal
 have HN:=Lib.hid hN
 clear hN
 have hb0:=(Below.refl w.heap.size w).alloc (Nat.le_refl _) (.cells #[.slice A p.cartons.length c,v2] 46)
 have hb1:=hb0.alloc (by simp) (.cells #[] 3)
 go_enter Tryz.func123,Tryz.ntmps123
 go_wp2
 go_loopw [3,4] (fun v i wr=>∃ k:Nat,k≤p.cartons.length∧i=.int .i64 k∧wr.ownsRow (w.heap.size + 1) 3 1 v (allU (p.cartons.take k)).length ((allU (p.cartons.take k)).flatMap cI) ∧
   wr.heap[w.heap.size]? = some (.cells #[.slice A p.cartons.length c,v2] 46 (0,0))∧Below w.heap.size w wr) (fun _ i _=>p.cartons.length - (intOf i).toNat)
 case atStart=>exact ⟨0,Nat.zero_le _,rfl,own_nil (by simp) (by (simp only [heap_alloc_if,World.size_alloc];repeat (first | rw [if_neg (by omega)] | rw [if_pos (by omega)] | rw [if_pos trivial]))),by (simp only [heap_alloc_if,World.size_alloc];repeat (first | rw [if_neg (by omega)] | rw [if_pos (by omega)] | rw [if_pos trivial])),hb1⟩
 case round =>
  obtain ⟨k,hk,rfl,hown,hbox,hbl⟩:=hrel
  have hbc:=fun j=>cell_of_row _ _ j _ _ (0,0) hbox
  have HBX:=Lib.hid hbox
  clear hbox
  by_cases hlt:k < p.cartons.length
  ·obtain ⟨b,off,x,_,rfl,hb,hx,_,⟨vx,rfl,hrx⟩,hc⟩:=(H.out.below (RCarton_mono _) hbl).at_ k hlt
   have hc2:=hc 2 _ rfl
   have hsn:=allU_snoc hx
   have hat:=allU_take p.cartons (k + 1)
   rw [HN.out,hsn,List.length_append] at hat
   have HS:=Lib.hid hsn
   have HO:=Lib.hid hown
   have hsz:=hbl.size
   have hlb:w.heap.size < wr.heap.size:=lt_of_block HBX.out
   obtain ⟨Ax,cx,rfl⟩:∃ A c,vx=.slice A x.units.length c:=by obtain ⟨A,c,h,_⟩:=hrx;exact ⟨A,c,h⟩
   have HRX:=Lib.hid hrx
   clear hc hrx hsn hown
   go_wp2_with (at_builtin;refine at_app (.tmp 13) (.tmp 19) 53 rfl ?_;refine appAll_Int (.tmp 13) (.tmp 19) rfl rfl rfl rfl HRX.out HO.out (by omega) (by omega) ?_;intro v' w' ho hb hg hn)
   go_roundw
   case rel=>exact ⟨k + 1,hlt,by go_num,by rw [HS.out];exact ho,(hg.block w.heap.size hlb (fun e=>by have:=(HO.out.lt _ e.symm).1;omega)).trans HBX.out,hbl.trans (hb.mono (by omega))⟩
   case measure=>simp [intOf];omega
  ·obtain rfl:k=p.cartons.length:=by omega
   rw [List.take_length] at hown
   go_wp2
   go_ret
   exact MInts.row hown (by omega) hbl
set_option maxHeartbeats 400000 in
theorem allUnits_any (v:Value) (p:Plan) (w:World) (h:RPlan 16777216 w w.heap.size v p) (hL:p.bulk≤16777216):Calls Tryz.prog 121 #[v] w (MInts w (allU p.cartons)):=by
 obtain ⟨v1,v2,rfl,h1,_⟩:=h
 have H:=Lib.hid h1
 obtain ⟨A,c,rfl,hbd,_⟩:=h1
 have hal:=Nat.le_trans (allU_bulk p) hL
 obtain ⟨N,hN⟩:∃ n,(allU p.cartons).length=n:=⟨_,rfl⟩
 rw [hN] at hal
 have HN:=Lib.hid hN
 clear hN
 have hb0:=(Below.refl w.heap.size w).alloc (Nat.le_refl _) (.cells #[.slice A p.cartons.length c,v2] 46)
 have hb1:=hb0.alloc (by simp) (.cells #[] 3)
 go_enter Tryz.func121,Tryz.ntmps121
 go_wp2
 go_loopw [3,10] (fun v i wr=>∃ k:Nat,k≤p.cartons.length∧i=.int .i64 k∧wr.ownsRow (w.heap.size + 1) 3 1 v (allU (p.cartons.take k)).length ((allU (p.cartons.take k)).flatMap cI)∧Below w.heap.size w wr∧w.heap.size < wr.heap.size) (fun _ i _=>p.cartons.length - (intOf i).toNat)
 case atStart=>exact ⟨0,Nat.zero_le _,rfl,own_nil (by simp) (by (simp only [heap_alloc_if,World.size_alloc];repeat (first | rw [if_neg (by omega)] | rw [if_pos (by omega)] | rw [if_pos trivial]))),hb1,by simp;omega⟩
 case round =>
  obtain ⟨k,hk,rfl,hown,hbl,hlb⟩:=hrel
  by_cases hlt:k < p.cartons.length
  ·obtain ⟨b,off,x,_,rfl,hb,hx,_,⟨vx,rfl,hrx⟩,hc⟩:=(H.out.below (RCarton_mono _) hbl).at_ k hlt
   have hc0:=hc 0 _ rfl
   have hc1:=hc 1 _ rfl
   have hc2:=hc 2 _ rfl
   simp only [Nat.add_zero] at hc0
   have hsn:=allU_snoc hx
   have hat:=allU_take p.cartons (k + 1)
   rw [HN.out,hsn,List.length_append] at hat
   have HS:=Lib.hid hsn
   have HO:=Lib.hid hown
   have hsz:=hbl.size
   obtain ⟨Ax,cx,rfl⟩:∃ A c,vx=.slice A x.units.length c:=by obtain ⟨A,c,h,_⟩:=hrx;exact ⟨A,c,h⟩
   have HRX:=Lib.hid hrx
   have hba:Below w.heap.size w (wr.alloc (.cells #[.int .i64 x.type,.int .i64 x.group,.slice Ax x.units.length cx] 78)):=hbl.alloc hsz _
   clear hc hrx hsn hown
   go_wp2_with (at_builtin;refine at_app (.tmp 14) (.tmp 16) 53 rfl ?_;refine appAll_Int (.tmp 14) (.tmp 16) rfl rfl rfl rfl (HRX.out.below (flat_mono _) ((Below.refl _ _).alloc hsz _)) (HO.out.alloc _) (by omega) (by simp;omega) ?_;intro v' w' ho hb hg hn)
   go_roundw
   case rel=>exact ⟨k + 1,hlt,by go_num,by rw [HS.out];exact ho,hba.trans (hb.mono (by omega)),by have:=hb.size;simp at this;omega⟩
   case measure=>simp [intOf];omega
  ·obtain rfl:k=p.cartons.length:=by omega
   rw [List.take_length] at hown
   go_wp2
   go_ret
   exact MInts.row hown (by omega) hbl
end Go.Proofs.YtioijfplbgpjpaaGreat
