/-
  The walks over the bounds of an item, a type, a pallet.
-/
import Derived.Test.YtioijfplbgpjpaaGreatKu00
import Derived.Test.YtioijfplbgpjpaaGreatKu01
import Derived.Test.YtioijfplbgpjpaaGreatKu03
import Derived.Test.YtioijfplbgpjpaaGreatKu02
import Derived.Deep.Light
import Derived.Deep.RegionHeld3
namespace Go.Proofs.YtioijfplbgpjpaaGreat
set_option linter.unusedVariables false
set_option linter.unusedSimpArgs false
set_option maxRecDepth 100000
open Go.RowKit
theorem dropC {α:Type} {xs:List α} {k:Nat} {x:α} (h:xs[k]? = some x):xs.drop k=x::xs.drop (k + 1):=by
 have hk:=(List.getElem?_eq_some_iff.1 h).1
 rw [List.drop_eq_getElem_cons hk,(List.getElem?_eq_some_iff.1 h).2]
set_option maxHeartbeats 400000 in
theorem isSide_any (a:Int) (w:World):Calls Tryz.prog 325 #[.int .i64 a] w fun e w'=>e=.returned (.bool (sideOk a))∧w=w':=by
 go_enter Tryz.func325,Tryz.ntmps325
 go_wp2_with (go_at_call 114;refine (in_any _ _ _ _).mono ?_;rintro e w' ⟨rfl,rfl⟩)
 go_ret
 exact ⟨rfl,rfl⟩
set_option maxHeartbeats 400000 in
theorem l2Side_any (a:Int) (w:World):Calls Tryz.prog 337 #[.int .i64 a] w fun e w'=>e=.returned (.bool (sideOk a))∧w=w':=by
 go_enter Tryz.func337,Tryz.ntmps337
 go_wp2_with (go_at_call 104;refine (l1In_any _ _ _ _).mono ?_;rintro e w' ⟨rfl,rfl⟩)
 go_ret
 exact ⟨rfl,rfl⟩
set_option maxHeartbeats 400000 in
theorem iItemOk_any (x:Item) (w:World):Calls Tryz.prog 316 #[x.val] w fun e w'=>e=.returned (.bool (itemOk x))∧Below w.heap.size w w':=by
 go_enter Tryz.func316,Tryz.ntmps316
 go_wp2_with (first | (go_at_call 325;refine (isSide_any _ _).mono ?_;rintro e w' ⟨rfl,rfl⟩) | (go_at_call 114;refine (in_any _ _ _ _).mono ?_;rintro e w' ⟨rfl,rfl⟩))
 all_goals go_ret
 all_goals exact ⟨ret_bool (by simp [itemOk, *]),(by repeat' with_reducible first | assumption | exact bR | apply bD | apply bA | apply bC | apply bN | simp <;> omega)⟩
set_option maxHeartbeats 400000 in
theorem sItemOk_any (x:Item) (w:World):Calls Tryz.prog 294 #[x.val] w fun e w'=>e=.returned (.bool (itemOk x))∧Below w.heap.size w w':=by
 go_enter Tryz.func294,Tryz.ntmps294
 go_wp2_with (first | (go_at_call 337;refine (l2Side_any _ _).mono ?_;rintro e w' ⟨rfl,rfl⟩) | (go_at_call 292;refine (l2Id_any _ _).mono ?_;rintro e w' ⟨rfl,rfl⟩) | (go_at_call 104;refine (l1In_any _ _ _ _).mono ?_;rintro e w' ⟨rfl,rfl⟩))
 all_goals go_ret
 all_goals exact ⟨ret_bool (by simp [itemOk, *]),(by repeat' with_reducible first | assumption | exact bR | apply bD | apply bA | apply bC | apply bN | simp <;> omega)⟩
set_option maxHeartbeats 400000 in
theorem iTypeOk_any (x:GType) (w:World):Calls Tryz.prog 315 #[x.val] w fun e w'=>e=.returned (.bool (typeOk x))∧Below w.heap.size w w':=by
 go_enter Tryz.func315,Tryz.ntmps315
 go_wp2_with (first | (go_at_call 325;refine (isSide_any _ _).mono ?_;rintro e w' ⟨rfl,rfl⟩) | (go_at_call 114;refine (in_any _ _ _ _).mono ?_;rintro e w' ⟨rfl,rfl⟩))
 all_goals go_ret
 all_goals exact ⟨ret_bool (by simp [typeOk, *]),(by repeat' with_reducible first | assumption | exact bR | apply bD | apply bA | apply bC | apply bN | simp <;> omega)⟩
set_option maxHeartbeats 400000 in
theorem sTypeOk_any (x:GType) (w:World):Calls Tryz.prog 293 #[x.val] w fun e w'=>e=.returned (.bool (typeOk x))∧Below w.heap.size w w':=by
 go_enter Tryz.func293,Tryz.ntmps293
 go_wp2_with (first | (go_at_call 337;refine (l2Side_any _ _).mono ?_;rintro e w' ⟨rfl,rfl⟩) | (go_at_call 292;refine (l2Id_any _ _).mono ?_;rintro e w' ⟨rfl,rfl⟩) | (go_at_call 104;refine (l1In_any _ _ _ _).mono ?_;rintro e w' ⟨rfl,rfl⟩))
 all_goals go_ret
 all_goals exact ⟨ret_bool (by simp [typeOk, *]),(by repeat' with_reducible first | assumption | exact bR | apply bD | apply bA | apply bC | apply bN | simp <;> omega)⟩
set_option maxHeartbeats 400000 in
theorem iPalletOk_any (x:Pallet) (w:World):Calls Tryz.prog 285 #[x.val] w fun e w'=>e=.returned (.bool (palletOk x))∧Below w.heap.size w w':=by
 go_enter Tryz.func285,Tryz.ntmps285
 go_wp2_with (first | (go_at_call 325;refine (isSide_any _ _).mono ?_;rintro e w' ⟨rfl,rfl⟩) | (go_at_call 114;refine (in_any _ _ _ _).mono ?_;rintro e w' ⟨rfl,rfl⟩))
 all_goals go_ret
 all_goals exact ⟨ret_bool (by simp [palletOk, *]),(by repeat' with_reducible first | assumption | exact bR | apply bD | apply bA | apply bC | apply bN | simp <;> omega)⟩
set_option maxHeartbeats 400000 in
theorem sPalletOk_any (x:Pallet) (w:World):Calls Tryz.prog 291 #[x.val] w fun e w'=>e=.returned (.bool (palletOk x))∧Below w.heap.size w w':=by
 go_enter Tryz.func291,Tryz.ntmps291
 go_wp2_with (first | (go_at_call 337;refine (l2Side_any _ _).mono ?_;rintro e w' ⟨rfl,rfl⟩) | (go_at_call 104;refine (l1In_any _ _ _ _).mono ?_;rintro e w' ⟨rfl,rfl⟩))
 all_goals go_ret
 all_goals exact ⟨ret_bool (by simp [palletOk, *]),(by repeat' with_reducible first | assumption | exact bR | apply bD | apply bA | apply bC | apply bN | simp <;> omega)⟩
set_option maxHeartbeats 400000 in
theorem sBeside_any (v:Value) (ps:List Pair) (a b:Int) (w:World) (h:RPairs 16777216 w w.heap.size v ps):Calls Tryz.prog 295 #[v,.int .i64 a,.int .i64 b] w fun e w'=>e=.returned (.bool (beside ps a b))∧w=w':=by
 have H:=Lib.hid h
 obtain ⟨A,c,rfl,hbd,_⟩:=h
 go_enter Tryz.func295,Tryz.ntmps295
 go_wp2
 go_loop [7] (fun i=>∃ k:Nat,k≤ps.length∧i=.int .i64 k∧beside (ps.drop k) a b=beside ps a b) (fun i=>ps.length - (intOf i).toNat)
 case atStart=>exact ⟨0,Nat.zero_le _,rfl,rfl⟩
 case round =>
  obtain ⟨k,hk,rfl,hin⟩:=hrel
  by_cases hlt:k < ps.length
  ·obtain ⟨b',off,x,cs,rfl,hb,hx,_,rfl,hc⟩:=H.out.at_ k hlt
   have hc0:=hc 0 _ rfl
   have hc1:=hc 1 _ rfl
   simp only [Nat.add_zero] at hc0
   have HD:=Lib.hid (show beside ps a b=((x.a == a && x.b == b) || beside (ps.drop (k + 1)) a b) by rw [← hin,dropC hx];rfl)
   clear hc hin
   go_wp2
   all_goals first | (go_ret;exact ⟨ret_bool (by rw [HD.out];simp [*]),rfl⟩) | (go_round;(case rel=>exact ⟨k + 1,by omega,by go_num,by rw [HD.out];simp [*]⟩);(case measure=>(simp [intOf];omega)))
  ·have HD:=Lib.hid (show beside ps a b=false by rw [← hin,List.drop_of_length_le (by omega)];rfl)
   clear hin
   go_wp2
   go_ret
   exact ⟨ret_bool HD.out.symm,rfl⟩
end Go.Proofs.YtioijfplbgpjpaaGreat
namespace Go.Proofs.YtioijfplbgpjpaaGreat
set_option linter.unusedVariables false
set_option linter.unusedSimpArgs false
set_option maxRecDepth 100000
open Go.RowKit
theorem idxF_find {α:Type} (p:α→Bool) (xs:List α):(idxF p xs = -1∧xs.find? p=none) ∨ ∃ (i:Nat) (x:α),idxF p xs=i∧i < xs.length∧xs[i]? = some x∧xs.find? p=some x:=by
 unfold idxF
 cases h:xs.findIdx? p with
 |none =>
  rw [List.findIdx?_eq_none_iff] at h
  exact .inl ⟨rfl,List.find?_eq_none.2 (fun x hx=>by simp [h x hx])⟩
 |some i =>
  obtain ⟨hi,hp,hn⟩:=List.findIdx?_eq_some_iff_getElem.1 h
  refine .inr ⟨i,xs[i],rfl,hi,List.getElem?_eq_getElem hi,?_⟩
  rw [List.find?_eq_some_iff_getElem]
  exact ⟨hp,i,hi,rfl,fun j hj=>by have:=hn j hj;simpa using this⟩
set_option maxHeartbeats 400000 in
theorem indexPair_any (v:Value) (xs:List Pair) (u:Pair) (w:World) (h:RPairs 16777216 w w.heap.size v xs) :
  Calls Tryz.prog 350 #[v,u.val] w fun e w'=>e=.returned (.int .i64 (idxF (fun y=>y == u) xs))∧Below w.heap.size w w':=by
 have H:=Lib.hid h
 obtain ⟨A,c,rfl,hbd,_⟩:=h
 have hq:=lay_box0 w [.cells #[.int .i64 u.a,.int .i64 u.b] 165] _ _ rfl
 have HL:=Lib.hid (lay_low w [.cells #[.int .i64 u.a,.int .i64 u.b] 165])
 go_enter Tryz.func350,Tryz.ntmps350
 go_wp2
 go_loopw [8] (fun i wr=>∃ (k:Nat) (X:Ext (w.heap.size + 1) (lay w [.cells #[.int .i64 u.a,.int .i64 u.b] 165])),wr=X.world∧k≤xs.length∧i=.int .i64 k∧∀ i y,i < k→xs[i]? = some y→(y == u)=false) (fun i _=>xs.length - (intOf i).toNat)
 case atStart=>exact ⟨0,Ext.here _ _,rfl,Nat.zero_le _,rfl,fun _ _ h=>by omega⟩
 case round =>
  obtain ⟨k,X,rfl,hk,rfl,hno⟩:=hrel
  have HN:=Lib.hid hno
  clear hno
  by_cases hlt:k < xs.length
  ·obtain ⟨b,off,x,rfl,hb,hx,hc⟩:=H.out.flatX HL.out k hlt
   have hc0:=hc 0 _ rfl
   have hc1:=hc 1 _ rfl
   simp only [Nat.add_zero] at hc0
   have hlt':(0:Int)≤(k:Int)∧(k:Int) < (xs.length:Int):=by omega
   obtain ⟨hl0,hl1⟩:=hlt'
   have hel:=eql_Pair u x
   have hgu:=fun p q=>guard_Pair .eql p q u x
   have HP:=Lib.hid (show (x == u)=decide (u=x) by rw [Bool.eq_iff_iff,beq_iff_eq,decide_eq_true_iff];exact eq_comm)
   have HI:=Lib.hid (fun h:(x == u)=true=>idxF_hit (p:=fun y=>y == u) hx h HN.out)
   have HM:=Lib.hid (fun h:(x == u)=false=>miss_step HN.out hx h)
   clear hc
   go_wp2
   refine wp_region_in (by kernel_rfl) (by kernel_rfl) ?_
   repeat (go_big_quiet_step (fail))
   refine wpQuiet_nil ?_
   intro _ hw'
   obtain ⟨Y,rfl⟩:=hw'
   go_wp2
   all_goals first
    |(go_ret;exact ⟨ret_int (HI.out (by rw [HP.out];simp [*])).symm,HL.out Y⟩)
    |(go_roundw;(case rel=>exact ⟨k + 1,Y,rfl,hlt,by go_num,HM.out (by rw [HP.out];simp_all)⟩);(case measure=>(simp [intOf];omega)))
  ·have HI:=Lib.hid (idxF_miss (p:=fun y=>y == u) (xs:=xs) (fun i y hi hy=>HN.out i y (by omega) hy))
   go_wp2
   go_ret
   exact ⟨ret_int HI.out.symm,HL.out X⟩
set_option maxHeartbeats 400000 in
theorem containsPair_any (v:Value) (xs:List Pair) (u:Pair) (w:World) (h:RPairs 16777216 w w.heap.size v xs) :
  Calls Tryz.prog 344 #[v,u.val] w fun e w'=>e=.returned (.bool (xs.any fun y=>y == u))∧Below w.heap.size w w':=by
 have HA:=Lib.hid (idxF_any (fun y=>y == u) xs)
 have hb0:Below w.heap.size w (w.alloc (.cells #[.int .i64 u.a,.int .i64 u.b] 165)):=(by repeat' with_reducible first | assumption | exact bR | apply bD | apply bA | apply bC | apply bN | simp <;> omega)
 have HC:=Lib.hid (indexPair_any v xs u _ (h.next (flat_mono _) hb0))
 go_enter Tryz.func344,Tryz.ntmps344
 go_wp2_with fail
 refine HC.out.mono ?_
 rintro e w2 ⟨rfl,hb2⟩
 go_wp2
 go_ret
 exact ⟨ret_bool HA.out,bstep hb0 hb2⟩
set_option maxHeartbeats 400000 in
theorem iBeside_any (v:Value) (ps:List Pair) (a b:Int) (w:World) (h:RPairs 16777216 w w.heap.size v ps):Calls Tryz.prog 320 #[v,.int .i64 a,.int .i64 b] w fun e w'=>e=.returned (.bool (beside ps a b))∧Below w.heap.size w w':=by
 have HC:=Lib.hid (containsPair_any v ps ⟨a,b⟩ w h)
 have HB:=Lib.hid (show (ps.any fun y=>y == (⟨a,b⟩:Pair))=beside ps a b by
  unfold beside
  congr 1
  funext y
  obtain ⟨c,d⟩:=y
  rw [Bool.eq_iff_iff];simp)
 go_enter Tryz.func320,Tryz.ntmps320
 go_wp2_with fail
 refine HC.out.mono ?_
 rintro e w2 ⟨rfl,hb2⟩
 go_wp2
 go_ret
 exact ⟨ret_bool HB.out,hb2⟩
set_option maxHeartbeats 400000 in
theorem typeById1_any (x:GType) (id:Int) (b:Nat) (w:World) (hc:w.cell? ⟨b,0,none⟩=some (.int .i64 id)) :
  Calls Tryz.prog 204 #[x.val,.pointer (some ⟨b,0,none⟩)] w fun e w'=>e=.returned (.bool (x.id == id))∧Below w.heap.size w w':=by
 have hb:=World.block_lt_of_cell? w _ hc
 go_enter Tryz.func204,Tryz.ntmps204
 go_wp2
 go_ret
 exact ⟨rfl,(by repeat' with_reducible first | assumption | exact bR | apply bD | apply bA | apply bC | apply bN | simp <;> omega)⟩
set_option maxHeartbeats 1000000 in
theorem typeById_any (v:Value) (r:Request) (id:Int) (w:World) (h:RReq 16777216 w w.heap.size v r) :
  Calls Tryz.prog 137 #[v,.int .i64 id] w fun e w'=>e=.returned (.tuple #[(typeById r id).1.val,.bool (typeById r id).2])∧Below w.heap.size w w':=by
 obtain ⟨A1,c1,A2,c2,A3,c3,rfl,⟨_,H2,_⟩,_,hbt,_⟩:=h.opn
 have hq0:=lay_box0 w [.cells (cR r A1 c1 A2 c2 A3 c3) 41,.cells #[.int .i64 id] 3,.cells #[.int .i64 0,.int .i64 0,.int .i64 0,.int .i64 0,.int .i64 0,.int .i64 0,.int .i64 0] 142] _ _ rfl
 have hq1:=lay_box w [.cells (cR r A1 c1 A2 c2 A3 c3) 41,.cells #[.int .i64 id] 3,.cells #[.int .i64 0,.int .i64 0,.int .i64 0,.int .i64 0,.int .i64 0,.int .i64 0,.int .i64 0] 142] 1 _ _ rfl
 have hq2:=lay_box w [.cells (cR r A1 c1 A2 c2 A3 c3) 41,.cells #[.int .i64 id] 3,.cells #[.int .i64 0,.int .i64 0,.int .i64 0,.int .i64 0,.int .i64 0,.int .i64 0,.int .i64 0] 142] 2 _ _ rfl
 have hf2:=lay_free w [.cells (cR r A1 c1 A2 c2 A3 c3) 41,.cells #[.int .i64 id] 3,.cells #[.int .i64 0,.int .i64 0,.int .i64 0,.int .i64 0,.int .i64 0,.int .i64 0,.int .i64 0] 142] 2 _ _ rfl
 have HL:=Lib.hid (lay_low w [.cells (cR r A1 c1 A2 c2 A3 c3) 41,.cells #[.int .i64 id] 3,.cells #[.int .i64 0,.int .i64 0,.int .i64 0,.int .i64 0,.int .i64 0,.int .i64 0,.int .i64 0] 142])
 have HI:=extC (lay_le w [.cells (cR r A1 c1 A2 c2 A3 c3) 41,.cells #[.int .i64 id] 3,.cells #[.int .i64 0,.int .i64 0,.int .i64 0,.int .i64 0,.int .i64 0,.int .i64 0,.int .i64 0] 142]) fun X=>indexFuncType_any 204 #[.pointer (some ⟨w.heap.size + 1,0,none⟩)] (fun t=>t.id == id) _ r.types X.world (H2.out.next (flat_mono _) (HL.out X)) (run_enter Tryz.func204 (by kernel_rfl) (by kernel_rfl))
  (fun W x hW _=>typeById1_any x id (w.heap.size + 1) W ((hW.cell (p:=⟨w.heap.size + 1,0,none⟩) (by have:=lay_size w [.cells (cR r A1 c1 A2 c2 A3 c3) 41,.cells #[.int .i64 id] 3,.cells #[.int .i64 0,.int .i64 0,.int .i64 0,.int .i64 0,.int .i64 0,.int .i64 0,.int .i64 0] 142] X;simp at this ⊢;omega)).trans (hq1 X 0)))
 have hfi:=idxF_find (fun t:GType=>t.id == id) r.types
 clear hq1
 obtain ⟨i,hi⟩:∃ i,i=idxF (fun t:GType=>t.id == id) r.types:=⟨_,rfl⟩
 rw [← hi] at HI hfi
 clear hi
 rcases hfi with ⟨rfl,hn⟩ | ⟨i,x,rfl,hlt,hx,hn⟩
 ·have HT:=Lib.hid (show typeById r id=(⟨0,0,0,0,0,0,0⟩,false) by unfold typeById;rw [hn])
  clear hn
  go_enter Tryz.func137,Tryz.ntmps137
  go_wp2_with fail
  refine (HI.out (Ext.here _ _)).mono ?_
  rintro e w2 ⟨rfl,Y,rfl⟩
  go_wp2
  refine bodyPost_ret (v:=.tuple #[.agg #[.int .i64 0,.int .i64 0,.int .i64 0,.int .i64 0,.int .i64 0,.int .i64 0,.int .i64 0],.bool false]) (by simp [results,Tryz.results137,go_sem,hq2,hf2]) rfl ⟨by rw [HT.out],?_⟩
  have:=HL.out Y
  (repeat' with_reducible first | assumption | exact bR | apply bD | apply bA | apply bC | apply bN | simp <;> omega)
 ·have HT:=Lib.hid (show typeById r id=(x,true) by unfold typeById;rw [hn])
  obtain ⟨b,off,x',rfl,hb,hx',hc⟩:=H2.out.flatX HL.out i hlt
  rw [hx] at hx'
  cases hx'
  have hc0:=hc 0 _ rfl
  have hc1:=hc 1 _ rfl
  have hc2:=hc 2 _ rfl
  have hc3:=hc 3 _ rfl
  have hc4:=hc 4 _ rfl
  have hc5:=hc 5 _ rfl
  have hc6:=hc 6 _ rfl
  simp only [Nat.add_zero] at hc0
  clear hc hn hx
  go_enter Tryz.func137,Tryz.ntmps137
  go_wp2_with fail
  refine (HI.out (Ext.here _ _)).mono ?_
  rintro e w2 ⟨rfl,Y,rfl⟩
  go_wp2
  refine bodyPost_ret (v:=.tuple #[x.val,.bool true]) (by simp [results,Tryz.results137,go_sem,hq2,hf2]) rfl ⟨by rw [HT.out],?_⟩
  have:=HL.out Y
  (repeat' with_reducible first | assumption | exact bR | apply bD | apply bA | apply bC | apply bN | simp <;> omega)
set_option maxHeartbeats 1000000 in
theorem iMasterOf_any (v:Value) (r:Request) (w:World) (h:RReq 16777216 w w.heap.size v r) :
  Calls Tryz.prog 259 #[v] w fun e w'=>e=.returned (.tuple #[(masterOf r).1.val,.bool (masterOf r).2])∧Below w.heap.size w w':=by
 have HR:=Lib.hid h
 obtain ⟨A1,c1,A2,c2,A3,c3,rfl,_,_⟩:=h.opn
 have hq0:=lay_box0 w [.cells (cR r A1 c1 A2 c2 A3 c3) 41,.cells #[.int .i64 0,.int .i64 0,.int .i64 0,.int .i64 0,.int .i64 0,.int .i64 0,.int .i64 0] 142] _ _ rfl
 have hq1:=lay_box w [.cells (cR r A1 c1 A2 c2 A3 c3) 41,.cells #[.int .i64 0,.int .i64 0,.int .i64 0,.int .i64 0,.int .i64 0,.int .i64 0,.int .i64 0] 142] 1 _ _ rfl
 have hf1:=lay_free w [.cells (cR r A1 c1 A2 c2 A3 c3) 41,.cells #[.int .i64 0,.int .i64 0,.int .i64 0,.int .i64 0,.int .i64 0,.int .i64 0,.int .i64 0] 142] 1 _ _ rfl
 have HL:=Lib.hid (lay_low w [.cells (cR r A1 c1 A2 c2 A3 c3) 41,.cells #[.int .i64 0,.int .i64 0,.int .i64 0,.int .i64 0,.int .i64 0,.int .i64 0,.int .i64 0] 142])
 have HC:=extC (lay_le w [.cells (cR r A1 c1 A2 c2 A3 c3) 41,.cells #[.int .i64 0,.int .i64 0,.int .i64 0,.int .i64 0,.int .i64 0,.int .i64 0,.int .i64 0] 142]) fun X=>typeById_any _ r r.master X.world (HR.out.next (HL.out X))
 obtain ⟨m,hm⟩:∃ m,m=masterOf r:=⟨_,rfl⟩
 rw [show typeById r r.master=m from hm.symm] at HC
 rw [← hm]
 obtain ⟨x,ok⟩:=m
 go_enter Tryz.func259,Tryz.ntmps259
 go_wp2_with fail
 refine (HC.out (Ext.here _ _)).mono ?_
 rintro e w2 ⟨rfl,Y,rfl⟩
 go_wp2
 refine bodyPost_ret (v:=.tuple #[x.val,.bool ok]) (by simp [results,Tryz.results259,go_sem,hq1,hf1]) rfl ⟨rfl,?_⟩
 have:=HL.out Y
 (repeat' with_reducible first | assumption | exact bR | apply bD | apply bA | apply bC | apply bN | simp <;> omega)
set_option maxHeartbeats 1000000 in
theorem sMasterOf_any (v:Value) (r:Request) (w:World) (h:RReq 16777216 w w.heap.size v r) :
    Calls Tryz.prog 227 #[v] w fun e w'=>e=.returned (.tuple #[(masterOf r).1.val,.bool (masterOf r).2])∧Below w.heap.size w w':=by
  obtain ⟨A1,c1,A2,c2,A3,c3,rfl,⟨_,H2,_⟩,_,hbt,_⟩:=h.opn
  have hq0:=lay_box0 w [.cells (cR r A1 c1 A2 c2 A3 c3) 41,.cells #[.int .i64 0,.int .i64 0,.int .i64 0,.int .i64 0,.int .i64 0,.int .i64 0,.int .i64 0] 142] _ _ rfl
  have hq1:=lay_box w [.cells (cR r A1 c1 A2 c2 A3 c3) 41,.cells #[.int .i64 0,.int .i64 0,.int .i64 0,.int .i64 0,.int .i64 0,.int .i64 0,.int .i64 0] 142] 1 _ _ rfl
  have hf1:=lay_free w [.cells (cR r A1 c1 A2 c2 A3 c3) 41,.cells #[.int .i64 0,.int .i64 0,.int .i64 0,.int .i64 0,.int .i64 0,.int .i64 0,.int .i64 0] 142] 1 _ _ rfl
  have HL:=Lib.hid (lay_low w [.cells (cR r A1 c1 A2 c2 A3 c3) 41,.cells #[.int .i64 0,.int .i64 0,.int .i64 0,.int .i64 0,.int .i64 0,.int .i64 0,.int .i64 0] 142])
  go_enter Tryz.func227,Tryz.ntmps227
  go_wp2
  go_loopw [4] (fun i wr=>∃ (k:Nat) (X:Ext (w.heap.size + 2) (lay w [.cells (cR r A1 c1 A2 c2 A3 c3) 41,.cells #[.int .i64 0,.int .i64 0,.int .i64 0,.int .i64 0,.int .i64 0,.int .i64 0,.int .i64 0] 142])),wr=X.world∧k≤r.types.length∧i=.int .i64 k∧(r.types.drop k).find? (fun t=>t.id == r.master)=r.types.find? (fun t=>t.id == r.master)) (fun i _=>r.types.length - (intOf i).toNat)
  case atStart=>exact ⟨0,Ext.here _ _,rfl,Nat.zero_le _,rfl,rfl⟩
  case round =>
    obtain ⟨k,X,rfl,hk,rfl,hin⟩:=hrel
    by_cases hlt:k < r.types.length
    · obtain ⟨b,off,x,rfl,hb,hx,hc⟩:=H2.out.flatX HL.out k hlt
      have hc0:=hc 0 _ rfl
      have hc1:=hc 1 _ rfl
      have hc2:=hc 2 _ rfl
      have hc3:=hc 3 _ rfl
      have hc4:=hc 4 _ rfl
      have hc5:=hc 5 _ rfl
      have hc6:=hc 6 _ rfl
      simp only [Nat.add_zero] at hc0
      obtain ⟨hl0,hl1⟩:(0:Int)≤(k:Int)∧(k:Int) < (r.types.length:Int):=by omega
      have HD:=Lib.hid (show r.types.find? (fun t=>t.id == r.master)=if (x.id == r.master)=true then some x else (r.types.drop (k + 1)).find? (fun t=>t.id == r.master) by rw [← hin,dropC hx];cases hq:(x.id == r.master) <;> simp [List.find?_cons,hq])
      clear hc hin
      go_wp2
      refine wp_region_in (by kernel_rfl) (by kernel_rfl) ?_
      repeat (go_big_quiet_step (fail))
      refine wpQuiet_nil ?_
      intro _ hw'
      obtain ⟨Y,rfl⟩:=hw'
      go_wp2
      all_goals first
        | (refine bodyPost_ret (v:=.tuple #[x.val,.bool true]) (by simp [results,Tryz.results227,go_sem,hq1,hf1]) rfl ⟨?_,?_⟩
           · rw [show masterOf r=(x,true) by unfold masterOf typeById;rw [HD.out,if_pos (by simp [*])]]
           · have:=HL.out Y
             (repeat' with_reducible first | assumption | exact bR | apply bD | apply bA | apply bC | apply bN | simp <;> omega))
        | (go_roundw;(case rel=>exact ⟨k + 1,Y,rfl,hlt,by go_num,by rw [HD.out,if_neg (by simp [*])]⟩);(case measure=>(simp [intOf];omega)))
    · have HD:=Lib.hid (show r.types.find? (fun t=>t.id == r.master)=none by rw [← hin,List.drop_of_length_le (by omega)];rfl)
      clear hin
      go_wp2
      refine bodyPost_ret (v:=.tuple #[.agg #[.int .i64 0,.int .i64 0,.int .i64 0,.int .i64 0,.int .i64 0,.int .i64 0,.int .i64 0],.bool false]) (by simp [results,Tryz.results227,go_sem,hq1,hf1]) rfl ⟨?_,?_⟩
      · rw [show masterOf r=(⟨0,0,0,0,0,0,0⟩,false) by unfold masterOf typeById;rw [HD.out]]
      · have:=HL.out X
        (repeat' with_reducible first | assumption | exact bR | apply bD | apply bA | apply bC | apply bN | simp <;> omega)
end Go.Proofs.YtioijfplbgpjpaaGreat
namespace Go.Proofs.YtioijfplbgpjpaaGreat
set_option linter.unusedVariables false
set_option linter.unusedSimpArgs false
set_option maxRecDepth 100000
open Go.RowKit
theorem all_cons {α:Type} {p:α→Bool} {xs:List α} {k:Nat} {x:α} (h:(xs.drop k).all p=xs.all p) (hx:xs[k]? = some x):Hid (xs.all p=(p x && (xs.drop (k + 1)).all p)):=Lib.hid (by rw [← h,dropC hx];rfl)
theorem all_end {α:Type} {p:α→Bool} {xs:List α} {k:Nat} (h:(xs.drop k).all p=xs.all p) (hk : ¬ k < xs.length):Hid (xs.all p=true):=Lib.hid (by rw [← h,List.drop_of_length_le (by omega)];rfl)
theorem sumCount_app (xs ys:List Item):sumCount (xs ++ ys)=sumCount xs + sumCount ys:=by
 induction xs with
 |nil=>simp [sumCount]
 |cons x xs ih=>simp only [List.cons_append,sumCount,ih];omega
theorem sumCount_take {xs:List Item} {k:Nat} {x:Item} (h:xs[k]? = some x):sumCount (xs.take (k + 1))=sumCount (xs.take k) + x.count:=by
 rw [List.take_add_one,h,sumCount_app];simp [sumCount]
theorem item_count {x:Item} (h:itemOk x=true):1≤x.count∧x.count≤6:=by
 unfold itemOk inB at h;simp at h;omega
set_option maxHeartbeats 1000000 in
theorem sBoundsOk_any (v:Value) (r:Request) (w:World) (h:RReq 16777216 w w.heap.size v r):Calls Tryz.prog 224 #[v] w fun e w'=>e=.returned (.bool (boundsOk r))∧Below w.heap.size w w':=by
 obtain ⟨A1,c1,A2,c2,A3,c3,rfl,⟨H1,H2,H3⟩,hb1,hb2,hb3,_⟩:=h.opn
 have hq:=lay_box0 w [.cells (cR r A1 c1 A2 c2 A3 c3) 41] _ _ rfl
 have HL:=Lib.hid (lay_low w [.cells (cR r A1 c1 A2 c2 A3 c3) 41])
 have HP:=extC (lay_le w [.cells (cR r A1 c1 A2 c2 A3 c3) 41]) fun X=>sPalletOk_any r.pallet X.world
 have HT:=fun x=>extC (lay_le w [.cells (cR r A1 c1 A2 c2 A3 c3) 41]) fun X=>sTypeOk_any x X.world
 have HI:=fun x=>extC (lay_le w [.cells (cR r A1 c1 A2 c2 A3 c3) 41]) fun X=>sItemOk_any x X.world
 go_enter Tryz.func224,Tryz.ntmps224
 go_wp2_with (first | (go_at_call 104;refine (l1In_any _ _ _ _).mono ?_;rintro e w' ⟨rfl,rfl⟩) | (go_at_call 292;refine (l2Id_any _ _).mono ?_;rintro e w' ⟨rfl,rfl⟩) | (go_at_call 291;(first | refine (HP.out _).mono ?_ | refine (HP.out (Ext.here _ _)).mono ?_);rintro e w' ⟨rfl,Y,rfl⟩))
 all_goals first | (go_ret;go_light;exact ⟨ret_bool (by first | (simp [boundsOk, *];done) | (simp [boundsOk, *];intros;omega)),by first | exact HL.out _ | (repeat' with_reducible first | assumption | exact bR | apply bD | apply bA | apply bC | apply bN | simp <;> omega)⟩) | skip
 go_loopw [3] (fun i wr=>∃ (k:Nat) (X:Ext (w.heap.size + 1) (lay w [.cells (cR r A1 c1 A2 c2 A3 c3) 41])),wr=X.world∧k≤r.pairs.length∧i=.int .i64 k∧(r.pairs.drop k).all pairOk=r.pairs.all pairOk) (fun i _=>r.pairs.length - (intOf i).toNat)
 case atStart=>exact ⟨0,_,rfl,Nat.zero_le _,rfl,rfl⟩
 case round =>
  obtain ⟨k,X,rfl,hk,rfl,hin⟩:=hrel
  by_cases hlt:k < r.pairs.length
  ·obtain ⟨b,off,x,rfl,hb,hx,hc⟩:=H1.out.flatX HL.out k hlt
   have hc0:=hc 0 _ rfl
   have hc1:=hc 1 _ rfl
   simp only [Nat.add_zero] at hc0
   have HD:=all_cons hin hx
   clear hc hin
   go_wp2_with (go_at_call 104;refine (l1In_any _ _ _ _).mono ?_;rintro e w' ⟨rfl,rfl⟩)
   all_goals first
    |(go_ret;go_light;(try simp only [Bool.not_eq_true',Bool.not_eq_false'] at *);exact ⟨ret_bool (by simp [boundsOk,HD.out,pairOk, *]),HL.out _⟩)
    |(go_roundw;(case rel=>go_light;(try simp only [Bool.not_eq_true',Bool.not_eq_false'] at *);exact ⟨k + 1,X,rfl,hlt,by go_num,by rw [HD.out];simp [pairOk, *]⟩);(case measure=>(simp [intOf];omega)))
  ·have HD1:=all_end hin hlt
   clear hin
   go_wp2
   go_loopw [4] (fun i wr=>∃ (k:Nat) (X:Ext (w.heap.size + 1) (lay w [.cells (cR r A1 c1 A2 c2 A3 c3) 41])),wr=X.world∧k≤r.types.length∧i=.int .i64 k∧(r.types.drop k).all typeOk=r.types.all typeOk) (fun i _=>r.types.length - (intOf i).toNat)
   case atStart=>exact ⟨0,_,rfl,Nat.zero_le _,rfl,rfl⟩
   case round =>
    obtain ⟨k2,X2,rfl,hk2,rfl,hin⟩:=hrel
    by_cases hlt2:k2 < r.types.length
    ·obtain ⟨b,off,x,rfl,hb,hx,hc⟩:=H2.out.flatX HL.out k2 hlt2
     have hc0:=hc 0 _ rfl
     have hc1:=hc 1 _ rfl
     have hc2:=hc 2 _ rfl
     have hc3:=hc 3 _ rfl
     have hc4:=hc 4 _ rfl
     have hc5:=hc 5 _ rfl
     have hc6:=hc 6 _ rfl
     simp only [Nat.add_zero] at hc0
     have HD:=all_cons hin hx
     have HTx:=HT x
     clear hc hin
     go_wp2_with (go_at_call 293;(first | refine (HTx.out _).mono ?_ | refine (HTx.out (Ext.here _ _)).mono ?_);rintro e w' ⟨rfl,Y,rfl⟩)
     all_goals first
      |(go_ret;go_light;(try simp only [Bool.not_eq_true',Bool.not_eq_false'] at *);exact ⟨ret_bool (by simp [boundsOk,HD.out, *]),HL.out _⟩)
      |(go_roundw;(case rel=>go_light;(try simp only [Bool.not_eq_true',Bool.not_eq_false'] at *);exact ⟨k2 + 1,Y,rfl,hlt2,by go_num,by rw [HD.out];simp [*]⟩);(case measure=>(simp [intOf];omega)))
    ·have HD2:=all_end hin hlt2
     clear hin
     go_wp2
     go_loopw [5,6] (fun u i wr=>∃ (k:Nat) (m:Int) (X:Ext (w.heap.size + 1) (lay w [.cells (cR r A1 c1 A2 c2 A3 c3) 41])),wr=X.world∧k≤r.items.length∧i=.int .i64 k∧u=.int .i64 m∧0≤m∧m≤6 * k∧m=sumCount (r.items.take k)∧(r.items.drop k).all itemOk=r.items.all itemOk) (fun _ i _=>r.items.length - (intOf i).toNat)
     case atStart=>exact ⟨0,0,_,rfl,Nat.zero_le _,rfl,rfl,by omega,by omega,rfl,rfl⟩
     case round =>
      obtain ⟨k3,m,X3,rfl,hk3,rfl,rfl,hm0,hm1,hm,hin⟩:=hrel
      have HM:=Lib.hid hm
      clear hm
      by_cases hlt3:k3 < r.items.length
      ·obtain ⟨b,off,x,rfl,hb,hx,hc⟩:=H3.out.flatX HL.out k3 hlt3
       have hc0:=hc 0 _ rfl
       have hc1:=hc 1 _ rfl
       have hc2:=hc 2 _ rfl
       have hc3:=hc 3 _ rfl
       have hc4:=hc 4 _ rfl
       have hc5:=hc 5 _ rfl
       have hc6:=hc 6 _ rfl
       simp only [Nat.add_zero] at hc0
       have HD:=all_cons hin hx
       have HIx:=HI x
       have HS:=Lib.hid (sumCount_take hx)
       obtain ⟨q,hq⟩:∃ q,itemOk x=q:=⟨_,rfl⟩
       have HQ:=Lib.hid hq
       rw [hq] at HIx
       clear hc hin hq
       cases q
       ·go_wp2_with (go_at_call 294;(first | refine (HIx.out _).mono ?_ | refine (HIx.out (Ext.here _ _)).mono ?_);rintro e w' ⟨rfl,Y,rfl⟩)
        go_ret
        go_light
        exact ⟨ret_bool (by simp [boundsOk,HD.out,HQ.out]),HL.out _⟩
       ·obtain ⟨hx0,hx1⟩:=item_count HQ.out
        go_wp2_with (go_at_call 294;(first | refine (HIx.out _).mono ?_ | refine (HIx.out (Ext.here _ _)).mono ?_);rintro e w' ⟨rfl,Y,rfl⟩)
        go_roundw
        case rel=>go_light;exact ⟨k3 + 1,m + x.count,Y,rfl,hlt3,by go_num,rfl,by omega,by omega,by rw [HS.out,HM.out],by rw [HD.out,HQ.out];simp⟩
        case measure=>simp [intOf];omega
      ·have HD3:=all_end hin hlt3
       rw [List.take_of_length_le (by omega)] at HM
       clear hin
       go_wp2
       all_goals go_ret
       all_goals go_light
       all_goals exact ⟨ret_bool (by simp [boundsOk,HD1.out,HD2.out,HD3.out,← HM.out, *];try omega),HL.out _⟩
set_option maxHeartbeats 400000 in
theorem boundsOk1_any (x:Pair) (w:World):Calls Tryz.prog 313 #[x.val] w fun e w'=>e=.returned (.bool (!pairOk x))∧Below w.heap.size w w':=by
 go_enter Tryz.func313,Tryz.ntmps313
 go_wp2_with (go_at_call 114;refine (in_any _ _ _ _).mono ?_;rintro e w' ⟨rfl,rfl⟩)
 all_goals go_ret
 all_goals exact ⟨ret_bool (by simp [pairOk, *]),(by repeat' with_reducible first | assumption | exact bR | apply bD | apply bA | apply bC | apply bN | simp <;> omega)⟩
set_option maxHeartbeats 400000 in
theorem boundsOk2_any (x:GType) (w:World):Calls Tryz.prog 314 #[x.val] w fun e w'=>e=.returned (.bool (!typeOk x))∧Below w.heap.size w w':=by
 have hb0:Below w.heap.size w (w.alloc (.cells #[.int .i64 x.id,.int .i64 x.w,.int .i64 x.h,.int .i64 x.d,.int .i64 x.tare,.int .i64 x.gram,.int .i64 x.cost] 142)):=(by repeat' with_reducible first | assumption | exact bR | apply bD | apply bA | apply bC | apply bN | simp <;> omega)
 have HC:=Lib.hid (iTypeOk_any x (w.alloc (.cells #[.int .i64 x.id,.int .i64 x.w,.int .i64 x.h,.int .i64 x.d,.int .i64 x.tare,.int .i64 x.gram,.int .i64 x.cost] 142)))
 go_enter Tryz.func314,Tryz.ntmps314
 go_wp2_with fail
 refine HC.out.mono ?_
 rintro e w2 ⟨rfl,hb2⟩
 go_wp2
 go_ret
 exact ⟨rfl,bstep hb0 hb2⟩
theorem any_not {α:Type} (p:α→Bool) (xs:List α):(xs.any fun x=>!p x) = !xs.all p:=by
 induction xs with
 |nil=>rfl
 |cons x xs ih=>simp only [List.any_cons,List.all_cons,ih];cases p x <;> rfl
set_option maxHeartbeats 1000000 in
theorem iBoundsOk_any (v:Value) (r:Request) (w:World) (h:RReq 16777216 w w.heap.size v r):Calls Tryz.prog 260 #[v] w fun e w'=>e=.returned (.bool (boundsOk r))∧Below w.heap.size w w':=by
 obtain ⟨A1,c1,A2,c2,A3,c3,rfl,⟨H1,H2,H3⟩,hb1,hb2,hb3,_⟩:=h.opn
 have hq:=lay_box0 w [.cells (cR r A1 c1 A2 c2 A3 c3) 41] _ _ rfl
 have HL:=Lib.hid (lay_low w [.cells (cR r A1 c1 A2 c2 A3 c3) 41])
 have HLS:=Lib.hid (lay_size w [.cells (cR r A1 c1 A2 c2 A3 c3) 41])
 have HP:=extC (lay_le w [.cells (cR r A1 c1 A2 c2 A3 c3) 41]) fun X=>iPalletOk_any r.pallet X.world
 have HCP:=extC (lay_le w [.cells (cR r A1 c1 A2 c2 A3 c3) 41]) fun X=>containsFuncPair_any 313 #[] (fun x=>!pairOk x) _ r.pairs X.world (H1.out.next (flat_mono _) (HL.out X)) (run_enter Tryz.func313 (by kernel_rfl) (by kernel_rfl)) (fun W x _ _=>boundsOk1_any x W)
 have HCT:=extC (lay_le w [.cells (cR r A1 c1 A2 c2 A3 c3) 41]) fun X=>containsFuncType_any 314 #[] (fun x=>!typeOk x) _ r.types X.world (H2.out.next (flat_mono _) (HL.out X)) (run_enter Tryz.func314 (by kernel_rfl) (by kernel_rfl)) (fun W x _ _=>boundsOk2_any x W)
 rw [any_not] at HCP HCT
 obtain ⟨qp,hqp⟩:∃ zz,r.pairs.all pairOk=zz:=⟨_,rfl⟩;have HHqp:=Lib.hid hqp;rw [hqp] at HCP;clear hqp
 obtain ⟨qt,hqt⟩:∃ zz,r.types.all typeOk=zz:=⟨_,rfl⟩;have HHqt:=Lib.hid hqt;rw [hqt] at HCT;clear hqt
 go_enter Tryz.func260,Tryz.ntmps260
 go_wp2_with (first | (go_at_call 114;refine (in_any _ _ _ _).mono ?_;rintro e w' ⟨rfl,rfl⟩) | (go_at_call 285;(first | refine (HP.out _).mono ?_ | refine (HP.out (Ext.here _ _)).mono ?_);rintro e w' ⟨rfl,Y,rfl⟩) | (go_at_call 312;(first | refine (HCP.out _).mono ?_ | refine (HCP.out (Ext.here _ _)).mono ?_);rintro e w' ⟨rfl,Y,rfl⟩) | (go_at_call 266;(first | refine (HCT.out _).mono ?_ | refine (HCT.out (Ext.here _ _)).mono ?_);rintro e w' ⟨rfl,Y,rfl⟩))
 all_goals first | (go_ret;go_light;(try simp only [Bool.not_eq_true',Bool.not_eq_false'] at *);exact ⟨ret_bool (by first | (simp [boundsOk,HHqp.out,HHqt.out, *];done) | (simp [boundsOk,HHqp.out,HHqt.out, *];intros;omega)),by first | exact HL.out _ | (repeat' with_reducible first | assumption | exact bR | apply bD | apply bA | apply bC | apply bN | simp <;> omega)⟩) | skip
 go_loopw [3,56] (fun u i wr=>∃ (k:Nat) (m:Int) (X:Ext (w.heap.size + 1) (lay w [.cells (cR r A1 c1 A2 c2 A3 c3) 41])),wr=X.world∧k≤r.items.length∧i=.int .i64 k∧u=.int .i64 m∧0≤m∧m≤6 * k∧m=sumCount (r.items.take k)∧(r.items.drop k).all itemOk=r.items.all itemOk) (fun _ i _=>r.items.length - (intOf i).toNat)
 case atStart=>exact ⟨0,0,_,rfl,Nat.zero_le _,rfl,rfl,by omega,by omega,rfl,rfl⟩
 case round =>
  obtain ⟨k3,m,X3,rfl,hk3,rfl,rfl,hm0,hm1,hm,hin⟩:=hrel
  have HM:=Lib.hid hm
  clear hm
  by_cases hlt3:k3 < r.items.length
  ·obtain ⟨b,off,x,rfl,hb,hx,hc⟩:=H3.out.flatX HL.out k3 hlt3
   have hc0:=hc 0 _ rfl;have hc1:=hc 1 _ rfl;have hc2:=hc 2 _ rfl;have hc3:=hc 3 _ rfl;have hc4:=hc 4 _ rfl;have hc5:=hc 5 _ rfl;have hc6:=hc 6 _ rfl;simp only [Nat.add_zero] at hc0
   have HD:=all_cons hin hx
   have HS:=Lib.hid (sumCount_take hx)
   have HC:=iItemOk_any x (X3.world.alloc (.cells #[.int .i64 x.id,.int .i64 x.w,.int .i64 x.h,.int .i64 x.d,.int .i64 x.gram,.int .i64 x.cls,.int .i64 x.count] 152))
   obtain ⟨q,hq⟩:∃ q,itemOk x=q:=⟨_,rfl⟩
   have HQ:=Lib.hid hq
   rw [hq] at HC
   have HC:=Lib.hid HC
   have HA:=Lib.hid (X3.ok.trans (show Below (w.heap.size + 1) X3.world (X3.world.alloc (.cells #[.int .i64 x.id,.int .i64 x.w,.int .i64 x.h,.int .i64 x.d,.int .i64 x.gram,.int .i64 x.cls,.int .i64 x.count] 152)) from (Below.refl _ _).alloc (HLS.out X3) _))
   have HZ:=Lib.hid (show w.heap.size + 1≤(X3.world.alloc (.cells #[.int .i64 x.id,.int .i64 x.w,.int .i64 x.h,.int .i64 x.d,.int .i64 x.gram,.int .i64 x.cls,.int .i64 x.count] 152)).heap.size by have:=HLS.out X3;simp at this ⊢;omega)
   clear hc hin hq
   cases q
   ·go_wp2_with fail
    refine HC.out.mono ?_
    rintro e w2 ⟨rfl,hb2⟩
    go_wp2
    go_ret
    go_light
    exact ⟨ret_bool (by simp [boundsOk,HD.out,HQ.out]),HL.out ⟨w2,HA.out.trans (hb2.mono HZ.out)⟩⟩
   ·obtain ⟨hx0,hx1⟩:=item_count HQ.out
    go_wp2_with fail
    refine HC.out.mono ?_
    rintro e w2 ⟨rfl,hb2⟩
    have hcx:w2.cell? ⟨X3.world.heap.size,6,none⟩=some (.int .i64 x.count):=(hb2.cell (p:=⟨X3.world.heap.size,6,none⟩) (by simp)).trans (by simp)
    go_wp2
    go_roundw
    case rel=>go_light;exact ⟨k3 + 1,m + x.count,⟨w2,HA.out.trans (hb2.mono HZ.out)⟩,rfl,hlt3,by go_num,rfl,by omega,by omega,by rw [HS.out,HM.out],by rw [HD.out,HQ.out];simp⟩
    case measure=>simp [intOf];omega
  ·have HD3:=all_end hin hlt3
   rw [List.take_of_length_le (by omega)] at HM
   clear hin
   go_wp2
   all_goals go_ret
   all_goals go_light
   all_goals (try simp only [Bool.not_eq_true',Bool.not_eq_false'] at *)
   all_goals exact ⟨ret_bool (by simp [boundsOk,HHqp.out,HHqt.out,HD3.out,← HM.out, *];try omega),HL.out _⟩
end Go.Proofs.YtioijfplbgpjpaaGreat
namespace Go.Proofs.YtioijfplbgpjpaaGreat
set_option linter.unusedVariables false
set_option linter.unusedSimpArgs false
set_option maxRecDepth 100000
open Go.RowKit
def tabG (ps:List Pair) (a b:Nat):Bool:=!(a == b && !beside ps a a) && (beside ps a b == beside ps b a)
def tabRow (ps:List Pair) (n a:Nat):Bool:=(List.range n).all fun b=>tabG ps a b
theorem tableOk_rows (ps:List Pair) (n:Nat):tableOk ps n=(inB n 1 4 && (List.range n).all fun a=>tabRow ps n a):=by
 unfold tableOk
 rw [Int.toNat_natCast]
 congr 1
 rw [Bool.eq_iff_iff]
 simp only [List.all_eq_true,List.mem_range,tabRow,tabG,Bool.and_eq_true,Bool.not_eq_true',Bool.and_eq_false_iff,beq_iff_eq,Bool.not_eq_false',beq_eq_false_iff_ne]
 constructor
 ·intro h a ha b hb
  refine ⟨?_,(h a ha).2 b hb⟩
  by_cases e:a=b
  ·exact .inr (h a ha).1
  ·exact .inl e
 ·intro h a ha
  refine ⟨?_,fun b hb=>(h a ha b hb).2⟩
  rcases (h a ha a ha).1 with e | e
  ·exact absurd rfl e
  ·exact e
set_option maxHeartbeats 1000000 in
theorem sTableOk_any (v:Value) (ps:List Pair) (n:Int) (w:World) (h:RPairs 16777216 w w.heap.size v ps):Calls Tryz.prog 226 #[v,.int .i64 n] w fun e w'=>e=.returned (.bool (tableOk ps n))∧w=w':=by
 have HB:=Lib.hid (fun a b=>sBeside_any v ps a b w h)
 obtain ⟨A,c,rfl,hbd,_⟩:=h
 obtain ⟨q,hq⟩:∃ q,inB n 1 4=q:=⟨_,rfl⟩
 have HQ:=Lib.hid hq
 cases q
 ·have HT:=Lib.hid (show tableOk ps n=false by unfold tableOk;rw [hq];rfl)
  clear hq
  go_enter Tryz.func226,Tryz.ntmps226
  go_wp2_with (go_at_call 104;refine (l1In_any n 1 4 _).mono ?_;rintro e w' ⟨rfl,rfl⟩;rw [HQ.out])
  go_ret
  exact ⟨ret_bool HT.out.symm,rfl⟩
 ·have hn:=hq
  unfold inB at hn
  simp only [Bool.and_eq_true,decide_eq_true_eq] at hn
  obtain ⟨N,rfl⟩:∃ N:Nat,n=N:=⟨n.toNat,by omega⟩
  have HT:=Lib.hid (show tableOk ps N=(List.range N).all fun a=>tabRow ps N a by rw [tableOk_rows,hq];rfl)
  obtain ⟨hn1,hn4⟩:=hn
  clear hq
  go_enter Tryz.func226,Tryz.ntmps226
  go_wp2_with (go_at_call 104;refine (l1In_any (N:Int) 1 4 _).mono ?_;rintro e w' ⟨rfl,rfl⟩;rw [HQ.out])
  go_loop [5] (fun i=>∃ k:Nat,k≤N∧i=.int .i64 k∧∀ i,i < k→tabRow ps N i=true) (fun i=>N - (intOf i).toNat)
  case atStart=>exact ⟨0,Nat.zero_le _,rfl,fun _ h=>by omega⟩
  case round =>
   obtain ⟨k,hk,rfl,hno⟩:=hrel
   have HN:=Lib.hid hno
   clear hno
   by_cases hlt:k < N
   ·go_wp2
    go_loop [6] (fun i=>∃ m:Nat,m≤N∧i=.int .i64 m∧∀ i,i < m→tabG ps k i=true) (fun i=>N - (intOf i).toNat)
    case atStart=>exact ⟨0,Nat.zero_le _,rfl,fun _ h=>by omega⟩
    case round =>
     obtain ⟨m,hm,rfl,hno⟩:=hrel
     have HN2:=Lib.hid hno
     clear hno
     by_cases hlt2:m < N
     ·have HG:=Lib.hid (show tabG ps k m=(!((k:Int) == (m:Int) && !beside ps k k) && (beside ps k m == beside ps m k)) by
       unfold tabG;congr 3;rw [Bool.eq_iff_iff];simp;exact ⟨fun h=>by omega,fun h=>by omega⟩)
      have B1:=HB.out k k
      have B2:=HB.out k m
      have B3:=HB.out m k
      obtain ⟨b1,hb1⟩:∃ b,beside ps k k=b:=⟨_,rfl⟩
      obtain ⟨b2,hb2⟩:∃ b,beside ps k m=b:=⟨_,rfl⟩
      obtain ⟨b3,hb3⟩:∃ b,beside ps m k=b:=⟨_,rfl⟩
      rw [hb1] at B1 HG
      rw [hb2] at B2 HG
      rw [hb3] at B3 HG
      have B1:=Lib.hid B1
      have B2:=Lib.hid B2
      have B3:=Lib.hid B3
      have HX:=Lib.hid (fun h:tabG ps k m=false=>range_all_false (f:=fun a=>tabRow ps N a) hlt (by unfold tabRow;exact range_all_false hlt2 h))
      have HY:=Lib.hid (fun h:tabG ps k m=true=>below_step (f:=fun i=>tabG ps k i) HN2.out h)
      obtain ⟨e,he⟩:∃ e,((k:Int) == (m:Int))=e:=⟨_,rfl⟩
      rw [he] at HG
      clear hb1 hb2 hb3
      cases e <;> cases b1 <;> cases b2 <;> cases b3
      all_goals
       go_wp2_with (go_at_call 295;(first | (with_reducible refine (B1.out).mono ?_) | (with_reducible refine (B2.out).mono ?_) | (with_reducible refine (B3.out).mono ?_));rintro e w' ⟨rfl,rfl⟩)
      all_goals first
       |(go_ret;exact ⟨ret_bool (by rw [HT.out,HX.out (by simp [HG.out])]),rfl⟩)
       |(go_round;(case rel=>exact ⟨m + 1,hlt2,by go_num,HY.out (by simp [HG.out])⟩);(case measure=>(simp [intOf];omega)))
     ·have HR:=Lib.hid (show tabRow ps N k=true by unfold tabRow;exact range_all_true (fun i hi=>HN2.out i (by omega)))
      have HS:=Lib.hid (below_step (f:=fun i=>tabRow ps N i) HN.out HR.out)
      go_wp2
      go_round
      case rel=>exact ⟨k + 1,hlt,by go_num,HS.out⟩
      case measure=>simp [intOf];omega
   ·have HR:=Lib.hid (show tableOk ps N=true by rw [HT.out];exact range_all_true (fun i hi=>HN.out i (by omega)))
    go_wp2
    go_ret
    exact ⟨ret_bool HR.out.symm,rfl⟩
def tabRow2 (ps:List Pair) (n a:Nat):Bool:=beside ps a a && (List.range n).all fun b=>beside ps a b == beside ps b a
set_option maxHeartbeats 1000000 in
theorem iTableOk_any (v:Value) (ps:List Pair) (n:Int) (w:World) (h:RPairs 16777216 w w.heap.size v ps):Calls Tryz.prog 262 #[v,.int .i64 n] w fun e w'=>e=.returned (.bool (tableOk ps n))∧Below w.heap.size w w':=by
 have HB:=fun (a b:Int)=>extC (B:=w.heap.size) (W:=w) (Nat.le_refl _) fun X=>iBeside_any v ps a b X.world (h.next (flat_mono _) X.ok)
 obtain ⟨A,c,rfl,hbd,_⟩:=h
 obtain ⟨q,hq⟩:∃ q,inB n 1 4=q:=⟨_,rfl⟩
 have HQ:=Lib.hid hq
 have HB:=Lib.hid HB
 cases q
 ·have HT:=Lib.hid (show tableOk ps n=false by unfold tableOk;rw [hq];rfl)
  clear hq
  go_enter Tryz.func262,Tryz.ntmps262
  go_wp2_with (go_at_call 114;refine (in_any n 1 4 _).mono ?_;rintro e w' ⟨rfl,rfl⟩;rw [HQ.out])
  go_ret
  exact ⟨ret_bool HT.out.symm,Below.refl _ _⟩
 ·have hn:=hq
  unfold inB at hn
  simp only [Bool.and_eq_true,decide_eq_true_eq] at hn
  obtain ⟨N,rfl⟩:∃ N:Nat,n=N:=⟨n.toNat,by omega⟩
  have HT:=Lib.hid (show tableOk ps N=(List.range N).all fun a=>tabRow2 ps N a by unfold tableOk;rw [hq];rfl)
  obtain ⟨hn1,hn4⟩:=hn
  clear hq
  go_enter Tryz.func262,Tryz.ntmps262
  go_wp2_with (go_at_call 114;refine (in_any (N:Int) 1 4 _).mono ?_;rintro e w' ⟨rfl,rfl⟩;rw [HQ.out])
  go_loopw [11] (fun i wr=>∃ (k:Nat) (X:Ext w.heap.size w),wr=X.world∧k≤N∧i=.int .i64 k∧∀ i,i < k→tabRow2 ps N i=true) (fun i _=>N - (intOf i).toNat)
  case atStart=>exact ⟨0,Ext.here _ _,rfl,Nat.zero_le _,rfl,fun _ h=>by omega⟩
  case round =>
   obtain ⟨k,X,rfl,hk,rfl,hno⟩:=hrel
   have HN:=Lib.hid hno
   clear hno
   by_cases hlt:k < N
   ·have B0:=(HB.out k k).out
    obtain ⟨b0,hb0⟩:∃ b,beside ps k k=b:=⟨_,rfl⟩
    rw [hb0] at B0
    have B0:=Lib.hid B0
    have HB0:=Lib.hid hb0
    clear hb0
    cases b0
    ·have HX:=Lib.hid (show tableOk ps N=false by rw [HT.out];exact range_all_false (f:=fun a=>tabRow2 ps N a) hlt (by unfold tabRow2;rw [HB0.out];rfl))
     go_wp2_with (go_at_call 320;refine (B0.out _).mono ?_;rintro e w' ⟨rfl,Y,rfl⟩)
     go_ret
     exact ⟨ret_bool HX.out.symm,Y.ok⟩
    ·go_wp2_with (go_at_call 320;refine (B0.out _).mono ?_;rintro e w' ⟨rfl,Y,rfl⟩)
     go_loopw [20] (fun i wr=>∃ (m:Nat) (X:Ext w.heap.size w),wr=X.world∧m≤N∧i=.int .i64 m∧∀ i,i < m→(beside ps k i == beside ps i k)=true) (fun i _=>N - (intOf i).toNat)
     case atStart=>exact ⟨0,Y,rfl,Nat.zero_le _,rfl,fun _ h=>by omega⟩
     case round =>
      obtain ⟨m,X2,rfl,hm,rfl,hno⟩:=hrel
      have HN2:=Lib.hid hno
      clear hno
      by_cases hlt2:m < N
      ·have B2:=(HB.out k m).out
       have B3:=(HB.out m k).out
       obtain ⟨b2,hb2⟩:∃ b,beside ps k m=b:=⟨_,rfl⟩
       obtain ⟨b3,hb3⟩:∃ b,beside ps m k=b:=⟨_,rfl⟩
       have HE:=Lib.hid (show (beside ps k m == beside ps m k)=(b2 == b3) by rw [hb2,hb3])
       rw [hb2] at B2
       rw [hb3] at B3
       have B2:=Lib.hid B2
       have B3:=Lib.hid B3
       have HX:=Lib.hid (fun h:(beside ps k m == beside ps m k)=false=>range_all_false (f:=fun a=>tabRow2 ps N a) hlt (by unfold tabRow2;rw [range_all_false hlt2 h];simp))
       have HY:=Lib.hid (fun h:(beside ps k m == beside ps m k)=true=>below_step (f:=fun i=>beside ps k i == beside ps i k) HN2.out h)
       clear hb2 hb3
       cases b2 <;> cases b3
       all_goals
        go_wp2_with (go_at_call 320;(first | (with_reducible refine (B2.out _).mono ?_) | (with_reducible refine (B3.out _).mono ?_));rintro e w' ⟨rfl,Y,rfl⟩)
       all_goals first
        |(go_ret;exact ⟨ret_bool (by rw [HT.out,HX.out (by rw [HE.out];rfl)]),Y.ok⟩)
        |(go_roundw;(case rel=>exact ⟨m + 1,Y,rfl,hlt2,by go_num,HY.out (by rw [HE.out];rfl)⟩);(case measure=>(simp [intOf];omega)))
      ·have HR:=Lib.hid (show tabRow2 ps N k=true by unfold tabRow2;rw [HB0.out];exact range_all_true (fun i hi=>HN2.out i (by omega)))
       have HS:=Lib.hid (below_step (f:=fun i=>tabRow2 ps N i) HN.out HR.out)
       go_wp2
       go_roundw
       case rel=>exact ⟨k + 1,X2,rfl,hlt,by go_num,HS.out⟩
       case measure=>simp [intOf];omega
   ·have HR:=Lib.hid (show tableOk ps N=true by rw [HT.out];exact range_all_true (fun i hi=>HN.out i (by omega)))
    go_wp2
    go_ret
    exact ⟨ret_bool HR.out.symm,X.ok⟩
end Go.Proofs.YtioijfplbgpjpaaGreat
namespace Go.Proofs.YtioijfplbgpjpaaGreat
set_option linter.unusedVariables false
set_option linter.unusedSimpArgs false
set_option maxRecDepth 100000
open Go.RowKit
theorem any_cons {α:Type} {p:α→Bool} {xs:List α} {k:Nat} {x:α} (h:(xs.drop k).any p=xs.any p) (hx:xs[k]? = some x):Hid (xs.any p=(p x || (xs.drop (k + 1)).any p)):=Lib.hid (by rw [← h,dropC hx];rfl)
theorem any_end {α:Type} {p:α→Bool} {xs:List α} {k:Nat} (h:(xs.drop k).any p=xs.any p) (hk : ¬ k < xs.length):Hid (xs.any p=false):=Lib.hid (by rw [← h,List.drop_of_length_le (by omega)];rfl)
theorem beq_ne {a b:Int} (h:(a == b)=false) : ¬ b=a:=fun e=>by rw [e] at h;simp at h
theorem take_get {α:Type} {xs:List α} {i k:Nat} {x:α} (h:xs[k]? = some x) (hk:k < i):(xs.take i)[k]? = some x:=by rw [List.getElem?_take,if_pos hk];exact h
theorem names_types {r:Request} (h:((List.range r.types.length).all fun i=>!typeDup r.types i)=false):Hid (namesOk r=false):=Lib.hid (by unfold namesOk;rw [h];rfl)
theorem names_items {r:Request} (h:((List.range r.items.length).all fun i=>!itemBad r.classes r.items i)=false):Hid (namesOk r=false):=Lib.hid (by unfold namesOk;rw [h];simp)
theorem names_pairs {r:Request} (h:r.pairs.any (pairOut r.classes)=true):Hid (namesOk r=false):=Lib.hid (by unfold namesOk;rw [h];simp)
theorem names_all {r:Request} (h1:((List.range r.types.length).all fun i=>!typeDup r.types i)=true) (h2:((List.range r.items.length).all fun i=>!itemBad r.classes r.items i)=true) (h3:r.pairs.any (pairOut r.classes)=false):Hid (namesOk r=(masterOf r).2):=Lib.hid (by unfold namesOk;rw [h1,h2,h3];simp)
set_option maxHeartbeats 1000000 in
theorem l5Names_any (v:Value) (r:Request) (w:World) (h:RReq 16777216 w w.heap.size v r):Calls Tryz.prog 225 #[v] w fun e w'=>e=.returned (.bool (namesOk r))∧Below w.heap.size w w':=by
 have HRQ:=Lib.hid h
 obtain ⟨A1,c1,A2,c2,A3,c3,rfl,⟨H1,H2,H3⟩,hb1,hb2,hb3,_⟩:=h.opn
 have hq:=lay_box0 w [.cells (cR r A1 c1 A2 c2 A3 c3) 41] _ _ rfl
 have HL:=Lib.hid (lay_low w [.cells (cR r A1 c1 A2 c2 A3 c3) 41])
 have HM:=extC (lay_le w [.cells (cR r A1 c1 A2 c2 A3 c3) 41]) fun X=>sMasterOf_any _ r X.world (HRQ.out.next (HL.out X))
 obtain ⟨mm,hmm⟩:∃ m,masterOf r=m:=⟨_,rfl⟩
 have HMM:=Lib.hid hmm
 rw [hmm] at HM
 obtain ⟨mt,mo⟩:=mm
 clear hmm
 go_enter Tryz.func225,Tryz.ntmps225
 go_wp2
 go_loopw [3] (fun i wr=>∃ (k:Nat) (X:Ext (w.heap.size + 1) (lay w [.cells (cR r A1 c1 A2 c2 A3 c3) 41])),wr=X.world∧k≤r.types.length∧i=.int .i64 k∧∀ i,i < k→(!typeDup r.types i)=true) (fun i _=>r.types.length - (intOf i).toNat)
 case atStart=>exact ⟨0,Ext.here _ _,rfl,Nat.zero_le _,rfl,fun _ h=>by omega⟩
 case round =>
  obtain ⟨k,X,rfl,hk,rfl,hno⟩:=hrel
  have HN:=Lib.hid hno
  clear hno
  by_cases hlt:k < r.types.length
  ·obtain ⟨b,off,x,rfl,hb,hx,hc⟩:=H2.out.flatX HL.out k hlt
   have hc0:=hc 0 _ rfl
   simp only [Nat.add_zero] at hc0
   have HX:=Lib.hid hx
   have HTD:=Lib.hid (show typeDup r.types k=(r.types.take k).any fun q=>q.id == x.id by unfold typeDup;rw [getD_some hx])
   obtain ⟨hl0,hl1⟩:(0:Int)≤(k:Int)∧(k:Int) < (r.types.length:Int):=by omega
   clear hc hx
   go_wp2
   go_loopw [4] (fun i wr=>∃ (m:Nat) (X:X.Of),wr=X.world∧m≤k∧i=.int .i64 m∧((r.types.take k).drop m).any (fun q=>q.id == x.id)=(r.types.take k).any (fun q=>q.id == x.id)) (fun i _=>k - (intOf i).toNat)
   case atStart=>exact ⟨0,X,rfl,Nat.zero_le _,rfl,rfl⟩
   case round =>
    obtain ⟨m,X2,rfl,hm,rfl,hin⟩:=hrel
    by_cases hlt2:m < k
    ·obtain ⟨b',off',y,hA,hb',hy,hd⟩:=H2.out.flatX HL.out m (by omega)
     cases hA
     have hd0:=hd 0 _ rfl
     simp only [Nat.add_zero] at hd0
     obtain ⟨hl2,hl3⟩:(0:Int)≤(m:Int)∧(m:Int) < (r.types.length:Int):=by omega
     have HD:=any_cons hin (take_get hy hlt2)
     have HF:=Lib.hid (fun h:typeDup r.types k=true=>names_types (range_all_false (f:=fun i=>!typeDup r.types i) hlt (by rw [h];rfl)))
     clear hd hin hy
     go_wp2
     refine wp_region_in (by kernel_rfl) (by kernel_rfl) ?_;(repeat (go_big_quiet_step (fail)));refine wpQuiet_nil ?_;intro _ hw';obtain ⟨Y,rfl⟩:=hw'
     go_wp2
     all_goals first
      |(go_ret;go_light;exact ⟨ret_bool (HF.out (by have he:y.id=x.id:=(beq_iff_eq.1 (by assumption:(x.id == y.id)=true)).symm;rw [HTD.out,HD.out];simp [he])).out.symm,HL.out _⟩)
      |(go_roundw;(case rel=>go_light;exact ⟨m + 1,Y,rfl,hlt2,by go_num,by have hne : ¬ y.id=x.id:=beq_ne (by assumption:(x.id == y.id)=false);rw [HD.out];simp [hne]⟩);(case measure=>(simp [intOf];omega)))
    ·have HD:=any_end hin (by rw [List.length_take];omega)
     have HS:=Lib.hid (below_step (f:=fun i=>!typeDup r.types i) HN.out (by rw [HTD.out,HD.out];rfl))
     clear hin
     go_wp2
     go_roundw
     case rel=>exact ⟨k + 1,X2,rfl,hlt,by go_num,HS.out⟩
     case measure=>simp [intOf];omega
  ·have HT:=Lib.hid (range_all_true (f:=fun i=>!typeDup r.types i) (n:=r.types.length) (fun i hi=>HN.out i (by omega)))
   go_wp2
   go_loopw [5] (fun i wr=>∃ (k:Nat) (X:X.Of),wr=X.world∧k≤r.items.length∧i=.int .i64 k∧∀ i,i < k→(!itemBad r.classes r.items i)=true) (fun i _=>r.items.length - (intOf i).toNat)
   case atStart=>exact ⟨0,X,rfl,Nat.zero_le _,rfl,fun _ h=>by omega⟩
   case round =>
    obtain ⟨k,X,rfl,hk,rfl,hno⟩:=hrel
    have HN:=Lib.hid hno
    clear hno
    by_cases hlt:k < r.items.length
    ·obtain ⟨b,off,x,rfl,hb,hx,hc⟩:=H3.out.flatX HL.out k hlt
     have hc0:=hc 0 _ rfl
     have hc5:=hc 5 _ rfl
     simp only [Nat.add_zero] at hc0
     have HTD:=Lib.hid (show itemBad r.classes r.items k=(decide (r.classes≤x.cls) || (r.items.take k).any fun q=>q.id == x.id) by unfold itemBad itemDup;rw [getD_some hx])
     have HF:=Lib.hid (fun h:itemBad r.classes r.items k=true=>names_items (range_all_false (f:=fun i=>!itemBad r.classes r.items i) hlt (by rw [h];rfl)))
     obtain ⟨hl0,hl1⟩:(0:Int)≤(k:Int)∧(k:Int) < (r.items.length:Int):=by omega
     clear hc hx
     by_cases hcl:r.classes≤x.cls
     ·go_wp2
      refine wp_region_in (by kernel_rfl) (by kernel_rfl) ?_;(repeat (go_big_quiet_step (fail)));refine wpQuiet_nil ?_;intro _ hw';obtain ⟨Y,rfl⟩:=hw'
      go_wp2
      go_ret
      go_light
      exact ⟨ret_bool (HF.out (by rw [HTD.out];simp [hcl])).out.symm,HL.out _⟩
     have hcl':x.cls < r.classes:=by omega
     go_wp2
     refine wp_region_in (by kernel_rfl) (by kernel_rfl) ?_;(repeat (go_big_quiet_step (fail)));refine wpQuiet_nil ?_;intro _ hw';obtain ⟨Y,rfl⟩:=hw'
     go_wp2
     go_loopw [6] (fun i wr=>∃ (m:Nat) (X:X.Of),wr=X.world∧m≤k∧i=.int .i64 m∧((r.items.take k).drop m).any (fun q=>q.id == x.id)=(r.items.take k).any (fun q=>q.id == x.id)) (fun i _=>k - (intOf i).toNat)
     case atStart=>exact ⟨0,Y,rfl,Nat.zero_le _,rfl,rfl⟩
     case round =>
      obtain ⟨m,X2,rfl,hm,rfl,hin⟩:=hrel
      by_cases hlt2:m < k
      ·obtain ⟨b',off',y,hA,hb',hy,hd⟩:=H3.out.flatX HL.out m (by omega)
       cases hA
       have hd0:=hd 0 _ rfl
       simp only [Nat.add_zero] at hd0
       obtain ⟨hl2,hl3⟩:(0:Int)≤(m:Int)∧(m:Int) < (r.items.length:Int):=by omega
       have HD:=any_cons hin (take_get hy hlt2)
       clear hd hin hy
       go_wp2
       refine wp_region_in (by kernel_rfl) (by kernel_rfl) ?_;(repeat (go_big_quiet_step (fail)));refine wpQuiet_nil ?_;intro _ hw';obtain ⟨Y,rfl⟩:=hw'
       go_wp2
       all_goals first
        |(go_ret;go_light;exact ⟨ret_bool (HF.out (by have he:y.id=x.id:=(beq_iff_eq.1 (by assumption:(x.id == y.id)=true)).symm;rw [HTD.out,HD.out];simp [he])).out.symm,HL.out _⟩)
        |(go_roundw;(case rel=>go_light;exact ⟨m + 1,Y,rfl,hlt2,by go_num,by have hne : ¬ y.id=x.id:=beq_ne (by assumption:(x.id == y.id)=false);rw [HD.out];simp [hne]⟩);(case measure=>(simp [intOf];omega)))
      ·have HD:=any_end hin (by rw [List.length_take];omega)
       have HS:=Lib.hid (below_step (f:=fun i=>!itemBad r.classes r.items i) HN.out (by rw [HTD.out,HD.out];simp;omega))
       clear hin
       go_wp2
       go_roundw
       case rel=>exact ⟨k + 1,X2,rfl,hlt,by go_num,HS.out⟩
       case measure=>simp [intOf];omega
    ·have HU:=Lib.hid (range_all_true (f:=fun i=>!itemBad r.classes r.items i) (n:=r.items.length) (fun i hi=>HN.out i (by omega)))
     go_wp2
     go_loopw [7] (fun i wr=>∃ (k:Nat) (X:X.Of),wr=X.world∧k≤r.pairs.length∧i=.int .i64 k∧(r.pairs.drop k).any (pairOut r.classes)=r.pairs.any (pairOut r.classes)) (fun i _=>r.pairs.length - (intOf i).toNat)
     case atStart=>exact ⟨0,X,rfl,Nat.zero_le _,rfl,rfl⟩
     case round =>
      obtain ⟨k,X,rfl,hk,rfl,hin⟩:=hrel
      by_cases hlt:k < r.pairs.length
      ·obtain ⟨b,off,x,rfl,hb,hx,hc⟩:=H1.out.flatX HL.out k hlt
       have hc0:=hc 0 _ rfl;have hc1:=hc 1 _ rfl;simp only [Nat.add_zero] at hc0
       have HD:=any_cons hin hx
       obtain ⟨hl0,hl1⟩:(0:Int)≤(k:Int)∧(k:Int) < (r.pairs.length:Int):=by omega
       clear hc hx hin
       by_cases ha:r.classes≤x.a
       ·go_wp2
        refine wp_region_in (by kernel_rfl) (by kernel_rfl) ?_;(repeat (go_big_quiet_step (fail)));refine wpQuiet_nil ?_;intro _ hw';obtain ⟨Y,rfl⟩:=hw'
        go_wp2
        go_ret
        go_light
        exact ⟨ret_bool (names_pairs (by rw [HD.out];simp [pairOut,ha])).out.symm,HL.out _⟩
       have ha':decide (r.classes≤x.a)=false:=by simp;omega
       by_cases hb':r.classes≤x.b
       ·have hb2:decide (r.classes≤x.b)=true:=by simp;omega
        go_wp2
        refine wp_region_in (by kernel_rfl) (by kernel_rfl) ?_;(repeat (go_big_quiet_step (fail)));refine wpQuiet_nil ?_;intro _ hw';obtain ⟨Y,rfl⟩:=hw'
        go_wp2
        go_ret
        go_light
        exact ⟨ret_bool (names_pairs (by rw [HD.out];simp [pairOut,hb'])).out.symm,HL.out _⟩
       have hb2:decide (r.classes≤x.b)=false:=by simp;omega
       have HP:=Lib.hid (show pairOut r.classes x=false by unfold pairOut;rw [ha',hb2];rfl)
       go_wp2
       refine wp_region_in (by kernel_rfl) (by kernel_rfl) ?_;(repeat (go_big_quiet_step (fail)));refine wpQuiet_nil ?_;intro _ hw';obtain ⟨Y,rfl⟩:=hw'
       go_wp2
       go_roundw
       case rel=>exact ⟨k + 1,Y,rfl,hlt,by go_num,by rw [HD.out,HP.out];rfl⟩
       case measure=>simp [intOf];omega
      ·have HE:=any_end hin hlt
       have HA:=Lib.hid (names_all HT.out HU.out HE.out)
       clear hin
       go_wp2_with (go_at_call 227;(first | refine (HM.out _).mono ?_ | refine (HM.out (Ext.here _ _)).mono ?_);rintro e w' ⟨rfl,Y,rfl⟩)
       go_ret
       go_light
       have hy1:=HL.out Y
       have hy2:=hy1.size
       exact ⟨ret_bool (by rw [HA.out.out,HMM.out]),(by repeat' with_reducible first | assumption | exact bR | apply bD | apply bA | apply bC | apply bN | simp <;> omega)⟩
set_option maxHeartbeats 400000 in
theorem namesOk1_any (x:GType) (id:Int) (b:Nat) (w:World) (hc:w.cell? ⟨b,0,none⟩=some (.int .i64 id)) :
  Calls Tryz.prog 317 #[x.val,.pointer (some ⟨b,0,none⟩)] w fun e w'=>e=.returned (.bool (x.id == id))∧Below w.heap.size w w':=by
 have hb:=World.block_lt_of_cell? w _ hc
 go_enter Tryz.func317,Tryz.ntmps317
 go_wp2
 go_ret
 exact ⟨rfl,(by repeat' with_reducible first | assumption | exact bR | apply bD | apply bA | apply bC | apply bN | simp <;> omega)⟩
set_option maxHeartbeats 400000 in
theorem namesOk2_any (x:Item) (id:Int) (b:Nat) (w:World) (hc:w.cell? ⟨b,0,none⟩=some (.int .i64 id)) :
  Calls Tryz.prog 318 #[x.val,.pointer (some ⟨b,0,none⟩)] w fun e w'=>e=.returned (.bool (x.id == id))∧Below w.heap.size w w':=by
 have hb:=World.block_lt_of_cell? w _ hc
 go_enter Tryz.func318,Tryz.ntmps318
 go_wp2
 go_ret
 exact ⟨rfl,(by repeat' with_reducible first | assumption | exact bR | apply bD | apply bA | apply bC | apply bN | simp <;> omega)⟩
set_option maxHeartbeats 400000 in
theorem namesOk3_any (x:Pair) (c:Int) (b:Nat) (w:World) (hc:w.cell? ⟨b,5,none⟩=some (.int .i64 c)) :
  Calls Tryz.prog 319 #[x.val,.pointer (some ⟨b,0,none⟩)] w fun e w'=>e=.returned (.bool (pairOut c x))∧Below w.heap.size w w':=by
 have hb:=World.block_lt_of_cell? w _ hc
 go_enter Tryz.func319,Tryz.ntmps319
 go_wp2
 all_goals go_ret
 all_goals exact ⟨ret_bool (by unfold pairOut;simp [*]),(by repeat' with_reducible first | assumption | exact bR | apply bD | apply bA | apply bC | apply bN | simp <;> omega)⟩
set_option maxHeartbeats 1000000 in
theorem iNamesOk_any (v:Value) (r:Request) (w:World) (h:RReq 16777216 w w.heap.size v r):Calls Tryz.prog 261 #[v] w fun e w'=>e=.returned (.bool (namesOk r))∧Below w.heap.size w w':=by
 have HRQ:=Lib.hid h
 obtain ⟨A1,c1,A2,c2,A3,c3,rfl,⟨H1,H2,H3⟩,hb1,hb2,hb3,_,hcap2,hcap3⟩:=h.opn
 have hq:=lay_box0 w [.cells (cR r A1 c1 A2 c2 A3 c3) 41] _ _ rfl
 have HL:=Lib.hid (lay_low w [.cells (cR r A1 c1 A2 c2 A3 c3) 41])
 have HLS:=Lib.hid (lay_size w [.cells (cR r A1 c1 A2 c2 A3 c3) 41])
 have hgt:=fun X:Ext (w.heap.size + 1) (lay w [.cells (cR r A1 c1 A2 c2 A3 c3) 41])=>(show w.heap.size < X.world.heap.size from HLS.out X)
 have HM:=extC (lay_le w [.cells (cR r A1 c1 A2 c2 A3 c3) 41]) fun X=>iMasterOf_any _ r X.world (HRQ.out.next (HL.out X))
 obtain ⟨qp,hqp⟩:∃ q,r.pairs.any (pairOut r.classes)=q:=⟨_,rfl⟩
 have HQP:=Lib.hid hqp
 have HC3:=Lib.hid fun (W:World) (hW:Below (w.heap.size + 1) (lay w [.cells (cR r A1 c1 A2 c2 A3 c3) 41]) W)=>containsFuncPair_any 319 #[.pointer (some ⟨w.heap.size,0,none⟩)] (pairOut r.classes) _ r.pairs W (H1.out.next (flat_mono _) (HL.out ⟨W,hW⟩)) (run_enter Tryz.func319 (by kernel_rfl) (by kernel_rfl))
  (fun W' x hW' _=>namesOk3_any x r.classes w.heap.size W' ((hW'.cell (p:=⟨w.heap.size,5,none⟩) (by have:=HLS.out ⟨W,hW⟩;simp at this ⊢;omega)).trans (hq ⟨W,hW⟩ 5)))
 simp only [hqp] at HC3
 clear hqp
 obtain ⟨mm,hmm⟩:∃ m,masterOf r=m:=⟨_,rfl⟩
 have HMM:=Lib.hid hmm
 rw [hmm] at HM
 obtain ⟨mt,mo⟩:=mm
 clear hmm
 go_enter Tryz.func261,Tryz.ntmps261
 go_wp2
 go_loopw [12] (fun i wr=>∃ (k:Nat) (X:Ext (w.heap.size + 1) (lay w [.cells (cR r A1 c1 A2 c2 A3 c3) 41])),wr=X.world∧k≤r.types.length∧i=.int .i64 k∧∀ i,i < k→(!typeDup r.types i)=true) (fun i _=>r.types.length - (intOf i).toNat)
 case atStart=>exact ⟨0,Ext.here _ _,rfl,Nat.zero_le _,rfl,fun _ h=>by omega⟩
 case round =>
  obtain ⟨k,X,rfl,hk,rfl,hno⟩:=hrel
  have HN:=Lib.hid hno
  clear hno
  by_cases hlt:k < r.types.length
  ·obtain ⟨b,off,x,rfl,hb,hx,hc⟩:=H2.out.flatX HL.out k hlt
   have hc0:=hc 0 _ rfl;have hc1:=hc 1 _ rfl;have hc2:=hc 2 _ rfl;have hc3:=hc 3 _ rfl;have hc4:=hc 4 _ rfl;have hc5:=hc 5 _ rfl;have hc6:=hc 6 _ rfl;simp only [Nat.add_zero] at hc0
   have HTD:=Lib.hid (show typeDup r.types k=(r.types.take k).any fun q=>q.id == x.id by unfold typeDup;rw [getD_some hx])
   have HZ:=Lib.hid (HLS.out X)
   have hA:Below X.world.heap.size X.world (X.world.alloc (.cells #[.int .i64 x.id,.int .i64 x.w,.int .i64 x.h,.int .i64 x.d,.int .i64 x.tare,.int .i64 x.gram,.int .i64 x.cost] 142)):=(Below.refl _ _).alloc (Nat.le_refl _) _
   have HC:=containsFuncType_any 317 #[.pointer (some ⟨X.world.heap.size,0,none⟩)] (fun q=>q.id == x.id) _ (r.types.take k) (X.world.alloc (.cells #[.int .i64 x.id,.int .i64 x.w,.int .i64 x.h,.int .i64 x.d,.int .i64 x.tare,.int .i64 x.gram,.int .i64 x.cost] 142)) ((H2.out.next (flat_mono _) (bstep (HL.out X) hA)).take k (by omega)) (run_enter Tryz.func317 (by kernel_rfl) (by kernel_rfl))
    (fun W y hW _=>namesOk1_any y x.id X.world.heap.size W ((hW.cell (p:=⟨X.world.heap.size,0,none⟩) (by simp)).trans (by simp)))
   rw [← HTD.out] at HC
   have HF:=Lib.hid (fun h:typeDup r.types k=true=>names_types (range_all_false (f:=fun i=>!typeDup r.types i) hlt (by rw [h];rfl)))
   have HS:=Lib.hid (fun h:typeDup r.types k=false=>below_step (f:=fun i=>!typeDup r.types i) HN.out (by rw [h];rfl))
   obtain ⟨q,hqq⟩:∃ q,typeDup r.types k=q:=⟨_,rfl⟩
   rw [hqq] at HC HF HS
   have HC:=Lib.hid HC
   have HA:=Lib.hid hA
   have hkc:(k:Int)≤(c2:Int):=by omega
   clear hc hx hA hqq
   go_wp2_with fail
   refine HC.out.mono ?_
   rintro e w2 ⟨rfl,hb2'⟩
   have HY:=Lib.hid (X.ok.trans ((bstep HA.out hb2').mono HZ.out))
   cases q
   ·go_wp2
    (go_roundw;(case rel=>exact ⟨k + 1,⟨w2,HY.out⟩,rfl,hlt,by go_num,HS.out (by simp)⟩);(case measure=>(simp [intOf];omega)))
   ·go_wp2
    go_ret
    go_light
    exact ⟨ret_bool (HF.out (by simp)).out.symm,HL.out ⟨w2,HY.out⟩⟩
  ·have HT:=Lib.hid (range_all_true (f:=fun i=>!typeDup r.types i) (n:=r.types.length) (fun i hi=>HN.out i (by omega)))
   go_wp2
   go_loopw [27] (fun i wr=>∃ (k:Nat) (X:X.Of),wr=X.world∧k≤r.items.length∧i=.int .i64 k∧∀ i,i < k→(!itemBad r.classes r.items i)=true) (fun i _=>r.items.length - (intOf i).toNat)
   case atStart=>exact ⟨0,X,rfl,Nat.zero_le _,rfl,fun _ h=>by omega⟩
   case round =>
    obtain ⟨k,X,rfl,hk,rfl,hno⟩:=hrel
    have HN:=Lib.hid hno
    clear hno
    by_cases hlt:k < r.items.length
    ·obtain ⟨b,off,x,rfl,hb,hx,hc⟩:=H3.out.flatX HL.out k hlt
     have hc0:=hc 0 _ rfl;have hc1:=hc 1 _ rfl;have hc2:=hc 2 _ rfl;have hc3:=hc 3 _ rfl;have hc4:=hc 4 _ rfl;have hc5:=hc 5 _ rfl;have hc6:=hc 6 _ rfl;simp only [Nat.add_zero] at hc0
     have HTD:=Lib.hid (show itemBad r.classes r.items k=(decide (r.classes≤x.cls) || (r.items.take k).any fun q=>q.id == x.id) by unfold itemBad itemDup;rw [getD_some hx])
     have HZ:=Lib.hid (HLS.out X)
     have hA:Below X.world.heap.size X.world (X.world.alloc (.cells #[.int .i64 x.id,.int .i64 x.w,.int .i64 x.h,.int .i64 x.d,.int .i64 x.gram,.int .i64 x.cls,.int .i64 x.count] 152)):=(Below.refl _ _).alloc (Nat.le_refl _) _
     have HC:=containsFuncItem_any 318 #[.pointer (some ⟨X.world.heap.size,0,none⟩)] (fun q=>q.id == x.id) _ (r.items.take k) (X.world.alloc (.cells #[.int .i64 x.id,.int .i64 x.w,.int .i64 x.h,.int .i64 x.d,.int .i64 x.gram,.int .i64 x.cls,.int .i64 x.count] 152)) ((H3.out.next (flat_mono _) (bstep (HL.out X) hA)).take k (by omega)) (run_enter Tryz.func318 (by kernel_rfl) (by kernel_rfl))
      (fun W y hW _=>namesOk2_any y x.id X.world.heap.size W ((hW.cell (p:=⟨X.world.heap.size,0,none⟩) (by simp)).trans (by simp)))
     have HF:=Lib.hid (fun h:itemBad r.classes r.items k=true=>names_items (range_all_false (f:=fun i=>!itemBad r.classes r.items i) hlt (by rw [h];rfl)))
     have HS:=Lib.hid (fun h:itemBad r.classes r.items k=false=>below_step (f:=fun i=>!itemBad r.classes r.items i) HN.out (by rw [h];rfl))
     obtain ⟨q,hqq⟩:∃ q,((r.items.take k).any fun q=>q.id == x.id)=q:=⟨_,rfl⟩
     rw [hqq] at HC HTD
     have HC:=Lib.hid HC
     have HA:=Lib.hid hA
     have hkc:(k:Int)≤(c3:Int):=by omega
     clear hc hx hqq
     by_cases hcl:r.classes≤x.cls
     ·go_wp2
      go_ret
      go_light
      have hb3:=bstep (HL.out X) HA.out
      exact ⟨ret_bool (HF.out (by rw [HTD.out];simp [hcl])).out.symm,hb3⟩
     have hcl':decide (r.classes≤x.cls)=false:=by simp;omega
     have hcl2:x.cls < r.classes:=by omega
     clear hA
     go_wp2_with fail
     refine HC.out.mono ?_
     rintro e w2 ⟨rfl,hb2'⟩
     have HY:=Lib.hid (X.ok.trans ((bstep HA.out hb2').mono HZ.out))
     cases q
     ·go_wp2
      (go_roundw;(case rel=>exact ⟨k + 1,⟨w2,HY.out⟩,rfl,hlt,by go_num,HS.out (by rw [HTD.out];simp;omega)⟩);(case measure=>(simp [intOf];omega)))
     ·go_wp2
      go_ret
      go_light
      exact ⟨ret_bool (HF.out (by rw [HTD.out];simp)).out.symm,HL.out ⟨w2,HY.out⟩⟩
    ·have HU:=Lib.hid (range_all_true (f:=fun i=>!itemBad r.classes r.items i) (n:=r.items.length) (fun i hi=>HN.out i (by omega)))
     cases mo
     ·have HA:=Lib.hid (show namesOk r=false by unfold namesOk;rw [HMM.out];simp)
      go_wp2_with (go_at_call 259;(first | refine (HM.out _).mono ?_ | refine (HM.out (Ext.here _ _)).mono ?_);rintro e w' ⟨rfl,Y,rfl⟩)
      go_ret
      go_light
      have hy1:=HL.out Y
      have hy2:=hy1.size
      exact ⟨ret_bool HA.out.symm,(by repeat' with_reducible first | assumption | exact bR | apply bD | apply bA | apply bC | apply bN | simp <;> omega)⟩
     ·have HA:=Lib.hid (show namesOk r = !qp by
       have h1:=HT.out
       have h2:=HU.out
       unfold namesOk
       rw [h1,h2,HMM.out,HQP.out];simp)
      go_wp2_with (first | (go_at_call 259;(first | refine (HM.out _).mono ?_ | refine (HM.out (Ext.here _ _)).mono ?_);rintro e w' ⟨rfl,Y,rfl⟩) | (go_at_call 312;refine (HC3.out _ (Y.ok.trans ((Below.refl _ _).alloc (HLS.out Y) _))).mono ?_;rintro e w2 ⟨rfl,hb2⟩))
      go_ret
      go_light
      have hy1:=HL.out Y
      have hy2:=hy1.size
      exact ⟨ret_bool HA.out.symm,(hy1.alloc hy2 _).trans (hb2.mono (by simp;omega))⟩
end Go.Proofs.YtioijfplbgpjpaaGreat
namespace Go.Proofs.YtioijfplbgpjpaaGreat
set_option linter.unusedVariables false
set_option linter.unusedSimpArgs false
set_option maxRecDepth 100000
open Go.RowKit
theorem OPlan.base {w:World} {B B':Nat} {v:Value} {p:Plan} {fp:List Nat} (h:OPlan w B v p fp) (hB:B'≤B):OPlan w B' v p fp:=by
 obtain ⟨v1,v2,f1,f2,rfl,h1,h2,rfl,hn⟩:=h
 exact ⟨v1,v2,f1,f2,rfl,OL.base h1 hB,OL.base h2 hB,rfl,hn⟩
theorem OPlan.stored {w:World} {B g:Nat} {v:Value} {p:Plan} {fp:List Nat} (h:OPlan w B v p fp) (hg:g < B) (u1 u2:Value):OPlan ((w.setCell ⟨g,0,none⟩ u1).setCell ⟨g,1,none⟩ u2) B v p fp:=by
 refine OPlan.keep h (by simp) (fun b hb=>?_)
 have:=(h.lt b hb).1
 rw [Below.heap_setCell,Below.heap_setCell] <;> simp <;> omega
end Go.Proofs.YtioijfplbgpjpaaGreat
