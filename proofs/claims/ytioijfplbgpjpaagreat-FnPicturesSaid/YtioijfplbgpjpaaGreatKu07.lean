/-
  A shelf with a box more: the reference's walk.
-/
import Derived.Test.YtioijfplbgpjpaaGreatKu06
import Derived.Deep.RegionHeld3
import Derived.Deep.DeepCutAuto
import Derived.Deep.RegionLaw
import Derived.Deep.RegionWith
import Derived.StillTailTactics
namespace Go.Proofs.YtioijfplbgpjpaaGreat
set_option linter.unusedVariables false
set_option linter.unusedSimpArgs false
set_option maxRecDepth 100000
open Go.RowKit Go.WideShapes Go.ChangeShapes Go.ChangeAt Go.Deep
set_option maxRecDepth 100000 in
set_option maxHeartbeats 6000000 in
theorem l10Add_any (s:Shelf) (u:Value) (i:Int) (b:Box) (w:World) (h:RInts 16777216 w w.heap.size u s.list) (hl:s.list.length≤1048576) :
  Calls Tryz.prog 301 #[.agg #[u,.int .i64 s.w,.int .i64 s.d,.int .i64 s.h,.int .i64 s.gram],.int .i64 i,b.val] w fun e w'=>∃ u' fp,e=.returned (.agg #[u',.int .i64 (shelfAdd s i b).w,.int .i64 (shelfAdd s i b).d,.int .i64 (shelfAdd s i b).h,.int .i64 (shelfAdd s i b).gram])∧OF cI 3 1 w' w.heap.size u' (shelfAdd s i b).list fp∧Below w.heap.size w w':=by
 have HS:=Lib.hid h
 obtain ⟨E,e,rfl,hbd,_⟩:=h
 have hS:=(((Sit.here w).alloc #[.slice E s.list.length e,.int .i64 s.w,.int .i64 s.d,.int .i64 s.h,.int .i64 s.gram] 218).alloc #[.int .i64 b.w,.int .i64 b.d,.int .i64 b.h,.int .i64 b.gram] 75).alloc #[.slice none 0 0,.int .i64 0,.int .i64 0,.int .i64 0,.int .i64 0] 218
 simp only [World.size_alloc] at hS
 have SN:=Lib.hid hS
 have hn1 : ¬ (w.heap.size=w.heap.size + 1 + 1):=by omega
 have hn2 : ¬ (w.heap.size + 1 + 1=w.heap.size):=by omega
 clear hS
 go_enter Tryz.func301,Tryz.ntmps301
 have k0:=SN.out.box (.tail _ (.tail _ (.head _)))
 have k1:=SN.out.box (.tail _ (.head _))
 have k2:=SN.out.box (.head _)
 have f2:=SN.out.free (.head _)
 have HCC:=Lib.hid (show ∀ (X:World) (l:List Fact),Sit w X l→fBox w.heap.size #[.slice E s.list.length e,.int .i64 s.w,.int .i64 s.d,.int .i64 s.h,.int .i64 s.gram] 218∈l→fBox (w.heap.size + 1) #[.int .i64 b.w,.int .i64 b.d,.int .i64 b.h,.int .i64 b.gram] 75∈l→(X.cell? ⟨w.heap.size,0,none⟩=some (.slice E s.list.length e)∧X.cell? ⟨w.heap.size,1,none⟩=some (.int .i64 s.w)∧X.cell? ⟨w.heap.size,2,none⟩=some (.int .i64 s.d)∧X.cell? ⟨w.heap.size,3,none⟩=some (.int .i64 s.h)∧X.cell? ⟨w.heap.size,4,none⟩=some (.int .i64 s.gram))∧X.cell? ⟨w.heap.size + 1,0,none⟩=some (.int .i64 b.w)∧X.cell? ⟨w.heap.size + 1,1,none⟩=some (.int .i64 b.d)∧X.cell? ⟨w.heap.size + 1,2,none⟩=some (.int .i64 b.h)∧X.cell? ⟨w.heap.size + 1,3,none⟩=some (.int .i64 b.gram) from fun X l hs h0 h1=>by
  have c0:=hs.box h0
  have c1:=hs.box h1
  exact ⟨⟨c0 0,c0 1,c0 2,c0 3,c0 4⟩,c1 0,c1 1,c1 2,c1 3⟩)
 go_wp2
 go_region_held3 (fun W'=>(W'.cell? ⟨w.heap.size,0,none⟩=some (.slice E s.list.length e)∧W'.cell? ⟨w.heap.size,1,none⟩=some (.int .i64 s.w)∧W'.cell? ⟨w.heap.size,2,none⟩=some (.int .i64 s.d)∧W'.cell? ⟨w.heap.size,3,none⟩=some (.int .i64 s.h)∧W'.cell? ⟨w.heap.size,4,none⟩=some (.int .i64 s.gram))∧W'.cell? ⟨w.heap.size + 1,0,none⟩=some (.int .i64 b.w)∧W'.cell? ⟨w.heap.size + 1,1,none⟩=some (.int .i64 b.d)∧W'.cell? ⟨w.heap.size + 1,2,none⟩=some (.int .i64 b.h)∧W'.cell? ⟨w.heap.size + 1,3,none⟩=some (.int .i64 b.gram))
  (first | (refine HCC.out _ _ SC.out (by repeat first | with_reducible exact .head _ | refine .tail _ ?_) (by repeat first | with_reducible exact .head _ | refine .tail _ ?_);done) | (refine HCC.out _ _ SB.out (by repeat first | with_reducible exact .head _ | refine .tail _ ?_) (by repeat first | with_reducible exact .head _ | refine .tail _ ?_);done) | (refine HCC.out _ _ (SB.out.next ?_) (by repeat first | with_reducible exact .head _ | refine .tail _ ?_) (by repeat first | with_reducible exact .head _ | refine .tail _ ?_);(repeat' with_reducible first | assumption | exact bR | apply bD | apply bA | apply bC | apply bW | omega | simp <;> omega);done) | go_keep)
  (first
   |(first
     |(have hA:=(SN.out.drew.alloc #[] 3).boxNil cI 1;simp only [World.size_alloc,World.size_drew] at hA;have SA:=Lib.hid hA;clear hA;refine sappAll_Int _ _ rfl rfl rfl rfl (HS.out.next (flat_mono _) SA.out.low) (SA.out.list (.head _)) (by first | omega | (simp;omega)) (by have:=SA.out.low.size;first | omega | (simp;omega)) ?_;intro v7 w7 ha;obtain ⟨g7,S7⟩:=SA.out.app ha;have SB:=Lib.hid S7;clear S7 ha;obtain ⟨C7,c7,rfl,_⟩:=(SB.out.list (.head _)).form)
     |(have hA:=(((SN.out.drew.alloc #[] 3).boxNil cI 1).alloc #[.int .i64 i] 3).rot2;simp only [World.size_alloc,World.size_drew] at hA;have SA:=Lib.hid hA;clear hA;refine sappAll_Int _ _ rfl rfl rfl rfl (HS.out.next (flat_mono _) SA.out.low) (SA.out.list (.head _)) (by first | omega | (simp;omega)) (by have:=SA.out.low.size;first | omega | (simp;omega)) ?_;intro v7 w7 ha;obtain ⟨g7,S7⟩:=SA.out.app ha;have SB:=Lib.hid S7;clear S7 ha;obtain ⟨C7,c7,rfl,_⟩:=(SB.out.list (.head _)).form)
     |(have hA:=((SN.out.drew.alloc #[.int .i64 i] 3).alloc #[] 3).boxNil cI 1;simp only [World.size_alloc,World.size_drew] at hA;have SA:=Lib.hid hA;clear hA;refine sappAll_Int _ _ rfl rfl rfl rfl (HS.out.next (flat_mono _) SA.out.low) (SA.out.list (.head _)) (by first | omega | (simp;omega)) (by have:=SA.out.low.size;first | omega | (simp;omega)) ?_;intro v7 w7 ha;obtain ⟨g7,S7⟩:=SA.out.app ha;have SB:=Lib.hid S7;clear S7 ha;obtain ⟨C7,c7,rfl,_⟩:=(SB.out.list (.head _)).form)
     |(refine sapp_Int _ _ rfl rfl (i) rfl rfl (heap_alloc_new _ _) rfl ((SB.out.list (.head _)).next (by repeat' with_reducible first | assumption | exact bR | apply bD | apply bA | apply bC | apply bN | simp <;> omega)) (by first | omega | (simp;omega)) (by have:=SB.out.low.size;first | omega | (simp;omega)) ?_;intro v9 w9 ha;obtain ⟨g9,S9⟩:=(SB.out.next (by repeat' with_reducible first | assumption | exact bR | apply bD | apply bA | apply bC | apply bN | simp <;> omega)).app ha;have SC:=Lib.hid (S9);clear S9 ha;obtain ⟨C9,c9,rfl,_⟩:=(SC.out.list (.head _)).form;have k9:=SC.out.box (.tail _ (.head _));have f9:=SC.out.free (.tail _ (.head _)))
     |(refine sapp_Int _ _ rfl rfl (i) rfl rfl (SB.out.on _ (.tail _ (.head _))) rfl (SB.out.list (.head _)) (by first | omega | (simp;omega)) (by have:=SB.out.low.size;first | omega | (simp;omega)) ?_;intro v9 w9 ha;obtain ⟨g9,S9⟩:=SB.out.app ha;have SC:=Lib.hid (S9.rot2.drop);clear S9 ha;obtain ⟨C9,c9,rfl,_⟩:=(SC.out.list (.head _)).form;have k9:=SC.out.box (.tail _ (.head _));have f9:=SC.out.free (.tail _ (.head _))))
   |(go_at_call 90;refine (l1Max_any _ _ _).mono ?_;rintro e w' ⟨rfl,rfl⟩))
 all_goals go_wp2
 all_goals (try simp only [wrapE])
 all_goals refine bodyPost_ret (v:=.agg #[.slice C9 (s.list ++ [i]).length c9,.int .i64 (wrap64 (s.w + b.w)),.int .i64 (max s.d b.d),.int .i64 (max s.h b.h),.int .i64 (wrap64 (s.gram + b.gram))]) (by simp [results,Tryz.results301,go_sem,k9,f9]) rfl ?_
 all_goals have SD:=Lib.hid (((((SC.out.rot2.store 0 (.slice C9 (s.list ++ [i]).length c9)).store 1 (.int .i64 (wrap64 (s.w + b.w)))).store 2 (.int .i64 (max s.d b.d))).store 3 (.int .i64 (max s.h b.h))).store 4 (.int .i64 (wrap64 (s.gram + b.gram))))
 all_goals (simp only [List.length_append,List.length_cons,List.length_nil,Nat.zero_add] at SD ⊢)
 all_goals exact ⟨_,_,rfl,SD.out.list (.tail _ (.head _)),SD.out.low⟩
end Go.Proofs.YtioijfplbgpjpaaGreat
