/-
  The walks over PlanOk (chapter 13).
-/
import Derived.Test.YtioijfplbgpjpaaGreatKu02
import Derived.Test.YtioijfplbgpjpaaGreatKu01
namespace Go.Proofs.YtioijfplbgpjpaaGreat
set_option linter.unusedVariables false
set_option linter.unusedSimpArgs false
set_option maxRecDepth 100000
open Go.RowKit
set_option maxHeartbeats 400000 in
theorem isPlace_any (a:Int) (w:World) :
  Calls Tryz.prog 241 #[.int .i64 a] w fun e w'=>e=.returned (.bool (inB a 0 2000))∧w=w':=by
 go_enter Tryz.func241,Tryz.ntmps241
 go_wp2_with (go_at_call 114;refine (in_any _ _ _ _).mono ?_;rintro e w' ⟨rfl,rfl⟩)
 go_ret
 exact ⟨rfl,rfl⟩
set_option maxHeartbeats 400000 in
theorem l2Id_any (a:Int) (w:World) :
  Calls Tryz.prog 292 #[.int .i64 a] w fun e w'=>e=.returned (.bool (inB a 0 999))∧w=w':=by
 go_enter Tryz.func292,Tryz.ntmps292
 go_wp2_with (go_at_call 104;refine (l1In_any _ _ _ _).mono ?_;rintro e w' ⟨rfl,rfl⟩)
 go_ret
 exact ⟨rfl,rfl⟩
set_option maxHeartbeats 1000000 in
theorem unitsRight_any (v:Value) (xs:List Int) (w:World) (h:RInts 16777216 w w.heap.size v xs) :
  Calls Tryz.prog 269 #[v] w fun e w'=>e=.returned (.bool (unitsOk xs))∧w=w':=by
 have h':=h
 obtain ⟨A,c,rfl,hbd,_⟩:=h
 have H:=Lib.hid h'
 clear h'
 go_enter Tryz.func269,Tryz.ntmps269
 go_wp2
 go_loop [7] (fun i=>∃ k:Nat,k≤xs.length∧i=.int .i64 k∧∀ i,i < k→(!uBad xs i)=true) (fun i=>xs.length - (intOf i).toNat)
 case atStart=>exact ⟨0,Nat.zero_le _,rfl,fun _ h=>by omega⟩
 case round =>
  obtain ⟨k,hk,rfl,hno⟩:=hrel
  have HN:=Lib.hid hno
  clear hno
  by_cases hlt:k < xs.length
  ·obtain ⟨b,off,x,rfl,hb,hx,hc⟩:=H.out.at1 k hlt
   have hc0:=hc _ rfl
   clear hc
   by_cases h0:k=0
   ·subst h0
    have hu:uBad xs 0 = !inB x 0 999:=by simp [uBad,List.getD,hx]
    by_cases hin:inB x 0 999=true
    ·have HI:=Lib.hid (below_step (f:=fun i=>!uBad xs i) HN.out (by rw [hu,hin];rfl))
     clear hu
     simp only [Nat.add_zero] at hc0
     go_wp2_with (go_at_call 114;refine (in_any _ _ _ _).mono ?_;rintro e w' ⟨rfl,rfl⟩)
     go_round
     case rel=>exact ⟨1,hlt,rfl,HI.out⟩
     case measure=>simp [intOf];omega
    ·have hin:inB x 0 999=false:=by simpa using hin
     have hr:unitsOk xs=false:=by unfold unitsOk;rw [range_all_false hlt (by rw [hu,hin];rfl)];simp
     have HR:=Lib.hid hr
     clear hu hr
     simp only [Nat.add_zero] at hc0
     go_wp2_with (go_at_call 114;refine (in_any _ _ _ _).mono ?_;rintro e w' ⟨rfl,rfl⟩)
     go_ret
     exact ⟨ret_bool HR.out.symm,rfl⟩
   ·obtain ⟨j,rfl⟩:∃ j,k=j + 1:=⟨k - 1,by omega⟩
    obtain ⟨b',off',y,hA,hb',hy,hc'⟩:=H.out.at1 j (by omega)
    injection hA with hA
    injection hA with hA1 hA2
    subst hA1
    subst hA2
    have hd0:=hc' _ rfl
    have hu:uBad xs (j + 1)=(!inB x 0 999 || decide (x≤y)):=by simp [uBad,List.getD,hx,hy]
    clear hc' h0
    by_cases hin:inB x 0 999=true
    ·by_cases hxy:x≤y
     ·have hr:unitsOk xs=false:=by unfold unitsOk;rw [range_all_false hlt (by rw [hu,hin];simp [hxy])];simp
      have HR:=Lib.hid hr
      clear hu hr
      go_wp2_with (go_at_call 114;refine (in_any _ _ _ _).mono ?_;rintro e w' ⟨rfl,rfl⟩)
      go_ret
      exact ⟨ret_bool HR.out.symm,rfl⟩
     ·have HI:=Lib.hid (below_step (f:=fun i=>!uBad xs i) HN.out (by rw [hu,hin];simp [hxy]))
      have hxy':y < x:=by omega
      clear hu hxy
      go_wp2_with (go_at_call 114;refine (in_any _ _ _ _).mono ?_;rintro e w' ⟨rfl,rfl⟩)
      go_round
      case rel=>exact ⟨j + 2,by omega,by go_num,HI.out⟩
      case measure=>simp [intOf];omega
    ·have hin:inB x 0 999=false:=by simpa using hin
     have hr:unitsOk xs=false:=by unfold unitsOk;rw [range_all_false hlt (by rw [hu,hin];rfl)];simp
     have HR:=Lib.hid hr
     clear hu hr
     go_wp2_with (go_at_call 114;refine (in_any _ _ _ _).mono ?_;rintro e w' ⟨rfl,rfl⟩)
     go_ret
     exact ⟨ret_bool HR.out.symm,rfl⟩
  ·have hr:unitsOk xs=decide (xs.length≤100):=by
    unfold unitsOk
    rw [range_all_true (fun i hi=>HN.out i (by omega)),Bool.and_true]
   have HR:=Lib.hid hr
   clear hr
   go_wp2
   all_goals go_ret
   all_goals exact ⟨ret_bool (by rw [HR.out];simp;try omega),rfl⟩
set_option maxHeartbeats 1000000 in
theorem l13Carton_any (x:Carton) (v:Value) (w:World) (h:RInts 16777216 w w.heap.size v x.units) :
  Calls Tryz.prog 253 #[.agg #[.int .i64 x.type,.int .i64 x.group,v]] w fun e w'=>e=.returned (.bool (cartonOk x))∧Below w.heap.size w w':=by
 have h':=h
 obtain ⟨A,c,rfl,hbd,_⟩:=h
 have H:=Lib.hid h'
 clear h'
 by_cases h1:inB x.type 0 999=false
 ·have HR:=Lib.hid (show cartonOk x=false by unfold cartonOk;rw [h1];rfl)
  go_enter Tryz.func253,Tryz.ntmps253
  go_wp2_with (go_at_call 292;refine (l2Id_any _ _).mono ?_;rintro e w' ⟨rfl,rfl⟩)
  go_ret
  exact ⟨ret_bool HR.out.symm,(by repeat' with_reducible first | assumption | exact bR | apply bD | apply bA | apply bC | apply bN | simp <;> omega)⟩
 have h1:inB x.type 0 999=true:=by simpa using h1
 by_cases h2:inB x.group 0 3=false
 ·have HR:=Lib.hid (show cartonOk x=false by unfold cartonOk;rw [h2];simp)
  go_enter Tryz.func253,Tryz.ntmps253
  go_wp2_with (first | (go_at_call 292;refine (l2Id_any _ _).mono ?_;rintro e w' ⟨rfl,rfl⟩) | (go_at_call 104;refine (l1In_any _ _ _ _).mono ?_;rintro e w' ⟨rfl,rfl⟩))
  go_ret
  exact ⟨ret_bool HR.out.symm,(by repeat' with_reducible first | assumption | exact bR | apply bD | apply bA | apply bC | apply bN | simp <;> omega)⟩
 have h2:inB x.group 0 3=true:=by simpa using h2
 by_cases h3 : ¬ x.units.length≤100
 ·have HR:=Lib.hid (show cartonOk x=false by unfold cartonOk unitsOk;simp [h3])
  have h3':decide ((100:Int) < (x.units.length:Int))=true:=by simp;omega
  clear h3
  go_enter Tryz.func253,Tryz.ntmps253
  go_wp2_with (first | (go_at_call 292;refine (l2Id_any _ _).mono ?_;rintro e w' ⟨rfl,rfl⟩) | (go_at_call 104;refine (l1In_any _ _ _ _).mono ?_;rintro e w' ⟨rfl,rfl⟩))
  all_goals first | (go_ret;exact ⟨ret_bool HR.out.symm,(by repeat' with_reducible first | assumption | exact bR | apply bD | apply bA | apply bC | apply bN | simp <;> omega)⟩) | (exfalso;omega)
 have h3:x.units.length≤100:=by omega
 have HC:=Lib.hid (show cartonOk x=(List.range x.units.length).all fun i=>!uBad x.units i by unfold cartonOk unitsOk;rw [h1,h2];simp [h3])
 have h3':decide ((100:Int) < (x.units.length:Int))=false:=by simp;omega
 go_enter Tryz.func253,Tryz.ntmps253
 go_wp2_with (first | (go_at_call 292;refine (l2Id_any _ _).mono ?_;rintro e w' ⟨rfl,rfl⟩) | (go_at_call 104;refine (l1In_any _ _ _ _).mono ?_;rintro e w' ⟨rfl,rfl⟩))
 clear h1 h2 h3'
 go_loopw [3] (fun i wr=>∃ k:Nat,k≤x.units.length∧i=.int .i64 k∧(∀ i,i < k→(!uBad x.units i)=true)∧wr.heap[w.heap.size]? = some (.cells #[.int .i64 x.type,.int .i64 x.group,.slice A x.units.length c] 78 (0,0))∧Below w.heap.size w wr) (fun i _=>x.units.length - (intOf i).toNat)
 case atStart=>exact ⟨0,Nat.zero_le _,rfl,fun _ h=>by omega,by (simp only [heap_alloc_if,World.size_alloc];repeat (first | rw [if_neg (by omega)] | rw [if_pos (by omega)] | rw [if_pos trivial])),(by repeat' with_reducible first | assumption | exact bR | apply bD | apply bA | apply bC | apply bN | simp <;> omega)⟩
 case round =>
  obtain ⟨k,hk,rfl,hno,hbox,hbl⟩:=hrel
  have HN:=Lib.hid hno
  have hbc:=fun j=>cell_of_row _ _ j _ _ (0,0) hbox
  have HBX:=Lib.hid hbox
  clear hno hbox
  by_cases hlt:k < x.units.length
  ·obtain ⟨b,off,u,rfl,hb,hx,hc⟩:=(H.out.below (flat_mono _) hbl).at1 k hlt
   have hc0:=hc _ rfl
   clear hc
   have hl1:∀ W:World,Calls Tryz.prog 104 #[.int .i64 u,.int .i64 0,.int .i64 999] W fun e w'=>e=.returned (.bool (inB u 0 999))∧W=w':=fun W=>l1In_any _ _ _ _
   have HL:=Lib.hid hl1
   clear hl1
   by_cases hin:inB u 0 999=true
   ·rw [hin] at HL
    by_cases h0:k=0
    ·subst h0
     have hu:uBad x.units 0 = !inB u 0 999:=by simp [uBad,List.getD,hx]
     have HI:=Lib.hid (below_step (f:=fun i=>!uBad x.units i) HN.out (by rw [hu,hin];rfl))
     clear hu
     simp only [Nat.add_zero] at hc0
     go_wp2
     go_quiet (exact quiet_left (HL.out _))
     go_wp2
     go_roundw
     case rel=>exact ⟨1,hlt,rfl,HI.out,HBX.out,below_drewN hbl _⟩
     case measure=>simp [intOf];omega
    ·obtain ⟨j,rfl⟩:∃ j,k=j + 1:=⟨k - 1,by omega⟩
     obtain ⟨b',off',y,hA,hb',hy,hc'⟩:=(H.out.below (flat_mono _) hbl).at1 j (by omega)
     injection hA with hA
     injection hA with hA1 hA2
     subst hA1
     subst hA2
     have hd0:=hc' _ rfl
     have hu:uBad x.units (j + 1)=(!inB u 0 999 || decide (u≤y)):=by simp [uBad,List.getD,hx,hy]
     have hpos:decide ((0:Int) < ((j + 1:Nat):Int))=true:=by simp <;> omega
     have hpos2:decide ((0:Int) < (j:Int) + 1)=true:=by simp <;> omega
     clear hc' h0
     by_cases hxy:u≤y
     ·have hr:cartonOk x=false:=by rw [HC.out,range_all_false hlt (by rw [hu,hin];simp [hxy])]
      have hxy2:decide (u≤y)=true:=by simp [hxy]
      have HR:=Lib.hid hr
      clear hu hr hxy
      go_wp2
      go_quiet (exact quiet_left (HL.out _))
      go_wp2
      go_ret
      exact ⟨ret_bool HR.out.symm,below_drewN hbl _⟩
     ·have HI:=Lib.hid (below_step (f:=fun i=>!uBad x.units i) HN.out (by rw [hu,hin];simp [hxy]))
      have hxy2:decide (u≤y)=false:=by simp [hxy]
      clear hu hxy
      go_wp2
      go_quiet (exact quiet_left (HL.out _))
      go_wp2
      go_roundw
      case rel=>exact ⟨j + 2,by omega,by go_num,HI.out,HBX.out,below_drewN hbl _⟩
      case measure=>simp [intOf];omega
   ·have hin:inB u 0 999=false:=by simpa using hin
    have hu:uBad x.units k=true:=by unfold uBad;rw [getD_some hx,hin];rfl
    have hr:cartonOk x=false:=by rw [HC.out,range_all_false hlt (by rw [hu];rfl)]
    have HR:=Lib.hid hr
    rw [hin] at HL
    clear hu hr
    go_wp2
    go_quiet (exact quiet_left (HL.out _))
    go_wp2
    go_ret
    exact ⟨ret_bool HR.out.symm,below_drewN hbl _⟩
  ·have hr:cartonOk x=true:=by rw [HC.out,range_all_true (fun i hi=>HN.out i (by omega))]
   have HR:=Lib.hid hr
   clear hr
   go_wp2
   go_ret
   exact ⟨ret_bool HR.out.symm,hbl⟩
set_option maxHeartbeats 1000000 in
theorem sPlanOk_any (v:Value) (p:Plan) (w:World) (h:RPlan 16777216 w w.heap.size v p) :
  Calls Tryz.prog 191 #[v] w fun e w'=>e=.returned (.bool (planOk p))∧Below w.heap.size w w':=by
 obtain ⟨v1,v2,rfl,h1,h2⟩:=h
 have h':=h1
 obtain ⟨A,c,rfl,hbd,_⟩:=h1
 have H:=Lib.hid h'
 clear h'
 have h':=h2
 obtain ⟨A2,c2,rfl,hbd2,_⟩:=h2
 have H2:=Lib.hid h'
 clear h'
 by_cases hl : ¬ p.spots.length=p.cartons.length
 ·have hq:((p.cartons.length:Int) != (p.spots.length:Int))=true:=by rw [bne_iff_ne];omega
  have HR:=Lib.hid (show planOk p=false by unfold planOk;simp [hl])
  clear hl
  go_enter Tryz.func191,Tryz.ntmps191
  go_wp2
  go_ret
  exact ⟨ret_bool HR.out.symm,(by repeat' with_reducible first | assumption | exact bR | apply bD | apply bA | apply bC | apply bN | simp <;> omega)⟩
 have hl:p.spots.length=p.cartons.length:=by omega
 have hq:((p.cartons.length:Int) != (p.spots.length:Int))=false:=by simp [hl]
 by_cases hl2 : ¬ p.cartons.length≤100
 ·have hq2:decide ((100:Int) < (p.cartons.length:Int))=true:=by simp;omega
  have HR:=Lib.hid (show planOk p=false by unfold planOk;simp [hl2])
  clear hl hl2
  go_enter Tryz.func191,Tryz.ntmps191
  go_wp2
  all_goals first | (go_ret;exact ⟨ret_bool HR.out.symm,(by repeat' with_reducible first | assumption | exact bR | apply bD | apply bA | apply bC | apply bN | simp <;> omega)⟩) | (exfalso;omega)
 have hl2:p.cartons.length≤100:=by omega
 have hq2:decide ((100:Int) < (p.cartons.length:Int))=false:=by simp;omega
 have HC:=Lib.hid (show planOk p=(List.range p.cartons.length).all fun i=>cartonOk (p.cartons.getD i default) && spotOk (p.spots.getD i default) by unfold planOk;simp [hl,hl2])
 have HL:=Lib.hid hl
 clear hl
 go_enter Tryz.func191,Tryz.ntmps191
 go_wp2
 clear hq hq2
 go_loopw [3] (fun i wr=>∃ k:Nat,k≤p.cartons.length∧i=.int .i64 k∧(∀ i,i < k→(cartonOk (p.cartons.getD i default) && spotOk (p.spots.getD i default))=true)∧wr.heap[w.heap.size]? = some (.cells #[.slice A p.cartons.length c,.slice A2 p.spots.length c2] 46 (0,0))∧Below w.heap.size w wr) (fun i _=>p.cartons.length - (intOf i).toNat)
 case atStart=>exact ⟨0,Nat.zero_le _,rfl,fun _ h=>by omega,by (simp only [heap_alloc_if,World.size_alloc];repeat (first | rw [if_neg (by omega)] | rw [if_pos (by omega)] | rw [if_pos trivial])),(by repeat' with_reducible first | assumption | exact bR | apply bD | apply bA | apply bC | apply bN | simp <;> omega)⟩
 case round =>
  obtain ⟨k,hk,rfl,hno,hbox,hbl⟩:=hrel
  have HN:=Lib.hid hno
  have hbc:=fun j=>cell_of_row _ _ j _ _ (0,0) hbox
  have HBX:=Lib.hid hbox
  have hwlt:=lt_of_block hbox
  clear hno hbox
  by_cases hlt:k < p.cartons.length
  ·have hlt2:k < p.spots.length:=HL.out ▸ hlt
   obtain ⟨b,off,x,_,rfl,hb,hx,_,⟨vx,rfl,hrx⟩,hc⟩:=(H.out.below (RCarton_mono _) hbl).at_ k hlt
   obtain ⟨b2,off2,y,_,rfl,hb2,hy,_,rfl,hd⟩:=(H2.out.below (flat_mono _) hbl).at_ k hlt2
   have hrx':=hrx.more (flat_mono _) hbl.size
   obtain ⟨Au,cu,rfl,hun,_⟩:=hrx
   have HRX:=Lib.hid hrx'
   have hc0:=hc 0 _ rfl
   have hc1:=hc 1 _ rfl
   have hc2:=hc 2 _ rfl
   have hd0:=hd 0 _ rfl
   have hd1:=hd 1 _ rfl
   have hd2:=hd 2 _ rfl
   have hd3:=hd 3 _ rfl
   have hbw:b < wr.heap.size:=Nat.lt_of_lt_of_le hb hbl.size
   have hbw2:b2 < wr.heap.size:=Nat.lt_of_lt_of_le hb2 hbl.size
   simp only [Nat.add_zero] at hc0 hd0
   clear hc hd hrx'
   have hbs:Below wr.heap.size wr (wr.alloc (.cells #[.int .i64 y.pallet,.int .i64 y.x,.int .i64 y.y,.int .i64 y.z] 72)):=(by repeat' with_reducible first | assumption | exact bR | apply bD | apply bA | apply bC | apply bN | simp <;> omega)
   have HYB:=Lib.hid (heap_alloc_new wr (.cells #[.int .i64 y.pallet,.int .i64 y.x,.int .i64 y.y,.int .i64 y.z] 72))
   have HBX2:=Lib.hid (blk_next HBX.out hbs)
   have HRX2:=Lib.hid (HRX.out.next (flat_mono _) hbs)
   have hcall:=l13Carton_any x (.slice Au x.units.length cu) _ HRX2.out
   obtain ⟨q,hqd⟩:∃ q,q=cartonOk x:=⟨_,rfl⟩
   rw [← hqd] at hcall
   have HCA:=Lib.hid hcall
   have HQ:=Lib.hid hqd
   clear hcall hqd
   by_cases hok:(q && spotOk y)=true
   ·have hk1:q=true:=by simp at hok;exact hok.1
    have hs:=(Bool.and_eq_true _ _ |>.mp hok).2
    unfold spotOk at hs
    simp only [Bool.and_eq_true] at hs
    obtain ⟨⟨⟨hs0,hs1⟩,hs2⟩,hs3⟩:=hs
    have HI:=Lib.hid (below_step (f:=fun i=>cartonOk (p.cartons.getD i default) && spotOk (p.spots.getD i default)) HN.out (by show (cartonOk (p.cartons.getD k default) && spotOk (p.spots.getD k default))=true;rw [getD_some hx,getD_some hy,← HQ.out];exact hok))
    clear hok
    subst hk1
    go_wp2_with fail
    refine HCA.out.mono ?_
    rintro e w2 ⟨rfl,hb2'⟩
    have hyb:=fun j=>cell_of_row _ _ j _ _ (0,0) (blk_next HYB.out hb2')
    go_wp2_with (go_at_call 104;refine (l1In_any _ _ _ _).mono ?_;rintro e w' ⟨rfl,rfl⟩)
    go_roundw
    case rel=>exact ⟨k + 1,hlt,by go_num,HI.out,blk_next HBX2.out hb2',hbl.trans ((bstep hbs hb2').mono hbl.size)⟩
    case measure=>simp [intOf];omega
   ·have hr:planOk p=false:=by rw [HC.out,range_all_false hlt (by show (cartonOk (p.cartons.getD k default) && spotOk (p.spots.getD k default))=false;rw [getD_some hx,getD_some hy,← HQ.out];simpa using hok)]
    have HR:=Lib.hid hr
    have HOK:=Lib.hid hok
    clear hr hok
    go_wp2_with fail
    refine HCA.out.mono ?_
    rintro e w2 ⟨rfl,hb2'⟩
    have hyb:=fun j=>cell_of_row _ _ j _ _ (0,0) (blk_next HYB.out hb2')
    have hbz:=hbl.trans ((bstep hbs hb2').mono hbl.size)
    go_wp2_with (go_at_call 104;refine (l1In_any _ _ _ _).mono ?_;rintro e w' ⟨rfl,rfl⟩)
    all_goals first | (go_ret;exact ⟨ret_bool HR.out.symm,hbz⟩) | (exfalso;apply HOK.out;unfold spotOk;simp_all)
  ·have hr:planOk p=true:=by rw [HC.out,range_all_true (fun i hi=>HN.out i (by omega))]
   have HR:=Lib.hid hr
   clear hr
   go_wp2
   go_ret
   exact ⟨ret_bool HR.out.symm,hbl⟩
set_option maxHeartbeats 1000000 in
theorem iPlanOk_any (v:Value) (p:Plan) (w:World) (h:RPlan 16777216 w w.heap.size v p) :
  Calls Tryz.prog 207 #[v] w fun e w'=>e=.returned (.bool (planOk p))∧Below w.heap.size w w':=by
 obtain ⟨v1,v2,rfl,h1,h2⟩:=h
 have h':=h1
 obtain ⟨A,c,rfl,hbd,_⟩:=h1
 have H:=Lib.hid h'
 clear h'
 have h':=h2
 obtain ⟨A2,c2,rfl,hbd2,_⟩:=h2
 have H2:=Lib.hid h'
 clear h'
 by_cases hl : ¬ p.spots.length=p.cartons.length
 ·have hq:((p.spots.length:Int) != (p.cartons.length:Int))=true:=by rw [bne_iff_ne];omega
  have HR:=Lib.hid (show planOk p=false by unfold planOk;simp [hl])
  clear hl
  go_enter Tryz.func207,Tryz.ntmps207
  go_wp2
  go_ret
  exact ⟨ret_bool HR.out.symm,(by repeat' with_reducible first | assumption | exact bR | apply bD | apply bA | apply bC | apply bN | simp <;> omega)⟩
 have hl:p.spots.length=p.cartons.length:=by omega
 have hq:((p.spots.length:Int) != (p.cartons.length:Int))=false:=by simp [hl]
 by_cases hl2 : ¬ p.cartons.length≤100
 ·have hq2:decide ((100:Int) < (p.cartons.length:Int))=true:=by simp;omega
  have HR:=Lib.hid (show planOk p=false by unfold planOk;simp [hl2])
  clear hl hl2
  go_enter Tryz.func207,Tryz.ntmps207
  go_wp2
  all_goals first | (go_ret;exact ⟨ret_bool HR.out.symm,(by repeat' with_reducible first | assumption | exact bR | apply bD | apply bA | apply bC | apply bN | simp <;> omega)⟩) | (exfalso;omega)
 have hl2:p.cartons.length≤100:=by omega
 have hq2:decide ((100:Int) < (p.cartons.length:Int))=false:=by simp;omega
 have HC:=Lib.hid (show planOk p=(List.range p.cartons.length).all fun i=>cartonOk (p.cartons.getD i default) && spotOk (p.spots.getD i default) by unfold planOk;simp [hl,hl2])
 have HL:=Lib.hid hl
 clear hl
 go_enter Tryz.func207,Tryz.ntmps207
 go_wp2
 clear hq hq2
 go_loopw [22] (fun i wr=>∃ k:Nat,k≤p.cartons.length∧i=.int .i64 k∧(∀ i,i < k→(cartonOk (p.cartons.getD i default) && spotOk (p.spots.getD i default))=true)∧wr.heap[w.heap.size]? = some (.cells #[.slice A p.cartons.length c,.slice A2 p.spots.length c2] 46 (0,0))∧Below w.heap.size w wr) (fun i _=>p.cartons.length - (intOf i).toNat)
 case atStart=>exact ⟨0,Nat.zero_le _,rfl,fun _ h=>by omega,by (simp only [heap_alloc_if,World.size_alloc];repeat (first | rw [if_neg (by omega)] | rw [if_pos (by omega)] | rw [if_pos trivial])),(by repeat' with_reducible first | assumption | exact bR | apply bD | apply bA | apply bC | apply bN | simp <;> omega)⟩
 case round =>
  obtain ⟨k,hk,rfl,hno,hbox,hbl⟩:=hrel
  have HN:=Lib.hid hno
  have hbc:=fun j=>cell_of_row _ _ j _ _ (0,0) hbox
  have HBX:=Lib.hid hbox
  have hwlt:=lt_of_block hbox
  clear hno hbox
  by_cases hlt:k < p.cartons.length
  ·have hlt2:k < p.spots.length:=HL.out ▸ hlt
   obtain ⟨b,off,x,_,rfl,hb,hx,_,⟨vx,rfl,hrx⟩,hc⟩:=(H.out.below (RCarton_mono _) hbl).at_ k hlt
   obtain ⟨b2,off2,y,_,rfl,hb2,hy,_,rfl,hd⟩:=(H2.out.below (flat_mono _) hbl).at_ k hlt2
   have hrx':=hrx.more (flat_mono _) hbl.size
   obtain ⟨Au,cu,rfl,hun,_⟩:=hrx
   have HRX:=Lib.hid hrx'
   have hc0:=hc 0 _ rfl
   have hc1:=hc 1 _ rfl
   have hc2:=hc 2 _ rfl
   have hd0:=hd 0 _ rfl
   have hd1:=hd 1 _ rfl
   have hd2:=hd 2 _ rfl
   have hd3:=hd 3 _ rfl
   have hbw:b < wr.heap.size:=Nat.lt_of_lt_of_le hb hbl.size
   have hbw2:b2 < wr.heap.size:=Nat.lt_of_lt_of_le hb2 hbl.size
   simp only [Nat.add_zero] at hc0 hd0
   clear hc hd hrx'
   have hbs:Below wr.heap.size wr ((wr.alloc (.cells #[.int .i64 x.type,.int .i64 x.group,.slice Au x.units.length cu] 78)).alloc (.cells #[.int .i64 y.pallet,.int .i64 y.x,.int .i64 y.y,.int .i64 y.z] 72)):=(by repeat' with_reducible first | assumption | exact bR | apply bD | apply bA | apply bC | apply bN | simp <;> omega)
   have HBX2:=Lib.hid (blk_next HBX.out hbs)
   have HRX2:=Lib.hid (HRX.out.next (flat_mono _) hbs)
   have hcall:=unitsRight_any (.slice Au x.units.length cu) x.units _ HRX2.out
   obtain ⟨q,hqd⟩:∃ q,q=unitsOk x.units:=⟨_,rfl⟩
   rw [← hqd] at hcall
   have HCA:=Lib.hid hcall
   have HQ:=Lib.hid hqd
   clear hcall hqd
   by_cases hok:(inB x.type 0 999 && inB x.group 0 3 && q && spotOk y)=true
   ·have hs:=hok
    unfold spotOk at hs
    simp only [Bool.and_eq_true] at hs
    obtain ⟨⟨⟨ht0,ht1⟩,hk1⟩,⟨⟨hs0,hs1⟩,hs2⟩,hs3⟩:=hs
    have HI:=Lib.hid (below_step (f:=fun i=>cartonOk (p.cartons.getD i default) && spotOk (p.spots.getD i default)) HN.out (by show (cartonOk (p.cartons.getD k default) && spotOk (p.spots.getD k default))=true;rw [getD_some hx,getD_some hy];unfold cartonOk;rw [← HQ.out];exact hok))
    clear hok
    subst hk1
    go_wp2_with (first | (go_at_call 114;refine (in_any _ _ _ _).mono ?_;rintro e w' ⟨rfl,rfl⟩) | (go_at_call 241;refine (isPlace_any _ _).mono ?_;rintro e w' ⟨rfl,rfl⟩) | (go_at_call 269;refine HCA.out.mono ?_;rintro e w' ⟨rfl,rfl⟩))
    go_roundw
    case rel=>exact ⟨k + 1,hlt,by go_num,HI.out,HBX2.out,hbl.trans (hbs.mono hbl.size)⟩
    case measure=>simp [intOf];omega
   ·have hr:planOk p=false:=by rw [HC.out,range_all_false hlt (by show (cartonOk (p.cartons.getD k default) && spotOk (p.spots.getD k default))=false;rw [getD_some hx,getD_some hy];unfold cartonOk;rw [← HQ.out];simpa using hok)]
    have HR:=Lib.hid hr
    have HOK:=Lib.hid hok
    have hbz:=hbl.trans (hbs.mono hbl.size)
    clear hr hok
    go_wp2_with (first | (go_at_call 114;refine (in_any _ _ _ _).mono ?_;rintro e w' ⟨rfl,rfl⟩) | (go_at_call 241;refine (isPlace_any _ _).mono ?_;rintro e w' ⟨rfl,rfl⟩) | (go_at_call 269;refine HCA.out.mono ?_;rintro e w' ⟨rfl,rfl⟩))
    all_goals first | (go_ret;exact ⟨ret_bool HR.out.symm,hbz⟩) | (exfalso;apply HOK.out;unfold spotOk;simp_all)
  ·have hr:planOk p=true:=by rw [HC.out,range_all_true (fun i hi=>HN.out i (by omega))]
   have HR:=Lib.hid hr
   clear hr
   go_wp2
   go_ret
   exact ⟨ret_bool HR.out.symm,hbl⟩
end Go.Proofs.YtioijfplbgpjpaaGreat
