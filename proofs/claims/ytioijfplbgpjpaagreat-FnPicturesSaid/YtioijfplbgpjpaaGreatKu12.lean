/-
  Is there room for a unit more: the reference's walk. And laws for 'append(append([]int{}, xs...), y)' in a region that draws its order.
-/
import Derived.Test.YtioijfplbgpjpaaGreatKu11
import Derived.Deep.RegionHeld3
import Derived.Deep.DeepCutAuto
import Derived.Deep.RegionLaw
import Derived.Deep.RegionWith
import Derived.StillTailTactics
namespace Go.Proofs.YtioijfplbgpjpaaGreat
set_option linter.unusedVariables false
set_option linter.unusedSimpArgs false
set_option maxRecDepth 100000
open Go.RowKit Go.WideShapes Go.ChangeShapes Go.ChangeAt Go.Deep
set_option maxRecDepth 100000 in
set_option maxHeartbeats 4000000 in
theorem l7Room_any (v va vc:Value) (r:Request) (all cs:List Int) (t:GType) (u:Int) (w:World) (h:RReq 16777216 w w.heap.size v r) (ha:RInts 16777216 w w.heap.size va all) (hc:RInts 16777216 w w.heap.size vc cs) (hi:∀ (i:Nat) (n:Int),all[i]? = some n→0≤n∧n.toNat < r.items.length) (hl:cs.length≤1048576) :
  Calls Tryz.prog 349 #[v,va,t.val,vc,.int .i64 u] w fun e w'=>e=.returned (.bool (roomR r all t cs u))∧Below w.heap.size w w':=by
 have HR:=Lib.hid h
 have HA:=Lib.hid ha
 have HCS:=Lib.hid hc
 have HI:=Lib.hid hi
 obtain ⟨A1,c1,A2,c2,A3,c3,rfl,_⟩:=h.opn
 obtain ⟨E,e,rfl,hbd,_⟩:=hc
 obtain ⟨D,d,rfl,_⟩:=ha
 have hS:=((Sit.here w).alloc (cR r A1 c1 A2 c2 A3 c3) 41).alloc #[.int .i64 t.id,.int .i64 t.w,.int .i64 t.h,.int .i64 t.d,.int .i64 t.tare,.int .i64 t.gram,.int .i64 t.cost] 142
 simp only [World.size_alloc] at hS
 have SN:=Lib.hid hS
 obtain ⟨G,hG⟩:∃ G,loadOf r all (cs ++ [u])=G:=⟨_,rfl⟩
 have HG:=Lib.hid hG
 obtain ⟨V,hV⟩:∃ V,vol t.w t.h t.d=V:=⟨_,rfl⟩
 have HV:=Lib.hid hV
 have HM2:=Lib.hid (show roomR r all t cs u=(decide (G.1≤V) && decide (G.2≤t.gram)) by unfold roomR;rw [hG];unfold loadFits;rw [hV])
 clear h hS hi hG hV
 go_enter Tryz.func349,Tryz.ntmps349
 go_upto_region 1 with fail
 generalize hW0:(w.alloc (.cells (cR r A1 c1 A2 c2 A3 c3) 41)).alloc (.cells #[.int .i64 t.id,.int .i64 t.w,.int .i64 t.h,.int .i64 t.d,.int .i64 t.tare,.int .i64 t.gram,.int .i64 t.cost] 142)=w0 at SN ⊢
 have HCC:=Lib.hid (show ∀ X:World,Below w0.heap.size w0 X→(cS10 (X) (w.heap.size) (r) (.slice A1 r.pairs.length c1) (.slice A2 r.types.length c2) (.slice A3 r.items.length c3)) from fun X hX=>by
  have c0:=(SN.out.next hX).box (.tail _ (.head _))
  exact ⟨c0 0,c0 1,c0 2,c0 3,c0 4,c0 5,c0 6,c0 7,c0 8,c0 9⟩)
 have k0:=SN.out.box (.tail _ (.head _))
 have l0:=SN.out.boxlt (.tail _ (.head _))
 clear hW0
 go_cut [11] (fun v8 X=>∃ g8,v8=.pointer (some ⟨g8,0,none⟩)∧Hid (Sit w X [fBox g8 #[.int .i64 G.1,.int .i64 G.2] 270,fBox (w.heap.size + 1) #[.int .i64 t.id,.int .i64 t.w,.int .i64 t.h,.int .i64 t.d,.int .i64 t.tare,.int .i64 t.gram,.int .i64 t.cost] 142,fBox w.heap.size (cR r A1 c1 A2 c2 A3 c3) 41]))
 case first =>
  go_region_held3 (fun W'=>(cS10 (W') (w.heap.size) (r) (.slice A1 r.pairs.length c1) (.slice A2 r.types.length c2) (.slice A3 r.items.length c3))) (first | (refine HCC.out _ ?_;(repeat' with_reducible first | assumption | exact bR | apply bD | apply bA | apply bC | apply bW | omega | simp <;> omega);done) | go_keep)
   (first
    |(have hA:Sit _ _ _:=(((Sit.here w0).drew.alloc #[] 3)).boxNil cI 1;(try simp only [World.size_alloc,World.size_drew] at hA);have SA:=Lib.hid hA;clear hA;refine sappAll_Int (.tmp 14) (.tmp 15) rfl rfl rfl rfl (HCS.out.next (flat_mono _) (bstep SN.out.low SA.out.low)) (SA.out.list (.head _)) (by first | omega | (simp;done) | (simp;omega)) (by have:=SA.out.low.size;first | omega | (simp;done) | (simp;omega)) ?_;intro v7 w7 ha;obtain ⟨g7,S7⟩:=SA.out.app ha;have SB:=Lib.hid S7;have hn7:=S7.low;have hz7:=S7.low.size;clear S7 ha;obtain ⟨C7,c7,rfl,_⟩:=(SB.out.list (.head _)).form;simp only [List.nil_append] at SB)
    |(have hA:Sit _ _ _:=((((Sit.here w0).drew.alloc #[] 3).alloc #[.int .i64 u] 3).rot2).boxNil cI 1;(try simp only [World.size_alloc,World.size_drew] at hA);have SA:=Lib.hid hA;clear hA;refine sappAll_Int (.tmp 14) (.tmp 15) rfl rfl rfl rfl (HCS.out.next (flat_mono _) (bstep SN.out.low SA.out.low)) (SA.out.list (.head _)) (by first | omega | (simp;done) | (simp;omega)) (by have:=SA.out.low.size;first | omega | (simp;done) | (simp;omega)) ?_;intro v7 w7 ha;obtain ⟨g7,S7⟩:=SA.out.app ha;have SB:=Lib.hid S7;have hn7:=S7.low;have hz7:=S7.low.size;clear S7 ha;obtain ⟨C7,c7,rfl,_⟩:=(SB.out.list (.head _)).form;simp only [List.nil_append] at SB)
    |(have hA:Sit _ _ _:=((((Sit.here w0).drew.alloc #[] 3).alloc #[.int .i64 0,.int .i64 0] 270).rot2).boxNil cI 1;(try simp only [World.size_alloc,World.size_drew] at hA);have SA:=Lib.hid hA;clear hA;refine sappAll_Int (.tmp 14) (.tmp 15) rfl rfl rfl rfl (HCS.out.next (flat_mono _) (bstep SN.out.low SA.out.low)) (SA.out.list (.head _)) (by first | omega | (simp;done) | (simp;omega)) (by have:=SA.out.low.size;first | omega | (simp;done) | (simp;omega)) ?_;intro v7 w7 ha;obtain ⟨g7,S7⟩:=SA.out.app ha;have SB:=Lib.hid S7;have hn7:=S7.low;have hz7:=S7.low.size;clear S7 ha;obtain ⟨C7,c7,rfl,_⟩:=(SB.out.list (.head _)).form;simp only [List.nil_append] at SB)
    |(have hA:Sit _ _ _:=((((Sit.here w0).drew.alloc #[.int .i64 u] 3).alloc #[] 3)).boxNil cI 1;(try simp only [World.size_alloc,World.size_drew] at hA);have SA:=Lib.hid hA;clear hA;refine sappAll_Int (.tmp 14) (.tmp 15) rfl rfl rfl rfl (HCS.out.next (flat_mono _) (bstep SN.out.low SA.out.low)) (SA.out.list (.head _)) (by first | omega | (simp;done) | (simp;omega)) (by have:=SA.out.low.size;first | omega | (simp;done) | (simp;omega)) ?_;intro v7 w7 ha;obtain ⟨g7,S7⟩:=SA.out.app ha;have SB:=Lib.hid S7;have hn7:=S7.low;have hz7:=S7.low.size;clear S7 ha;obtain ⟨C7,c7,rfl,_⟩:=(SB.out.list (.head _)).form;simp only [List.nil_append] at SB)
    |(have hA:Sit _ _ _:=((((Sit.here w0).drew.alloc #[.int .i64 0,.int .i64 0] 270).alloc #[] 3)).boxNil cI 1;(try simp only [World.size_alloc,World.size_drew] at hA);have SA:=Lib.hid hA;clear hA;refine sappAll_Int (.tmp 14) (.tmp 15) rfl rfl rfl rfl (HCS.out.next (flat_mono _) (bstep SN.out.low SA.out.low)) (SA.out.list (.head _)) (by first | omega | (simp;done) | (simp;omega)) (by have:=SA.out.low.size;first | omega | (simp;done) | (simp;omega)) ?_;intro v7 w7 ha;obtain ⟨g7,S7⟩:=SA.out.app ha;have SB:=Lib.hid S7;have hn7:=S7.low;have hz7:=S7.low.size;clear S7 ha;obtain ⟨C7,c7,rfl,_⟩:=(SB.out.list (.head _)).form;simp only [List.nil_append] at SB)
    |(have hA:Sit _ _ _:=(((((Sit.here w0).drew.alloc #[] 3).alloc #[.int .i64 u] 3).alloc #[.int .i64 0,.int .i64 0] 270).rot3).boxNil cI 1;(try simp only [World.size_alloc,World.size_drew] at hA);have SA:=Lib.hid hA;clear hA;refine sappAll_Int (.tmp 14) (.tmp 15) rfl rfl rfl rfl (HCS.out.next (flat_mono _) (bstep SN.out.low SA.out.low)) (SA.out.list (.head _)) (by first | omega | (simp;done) | (simp;omega)) (by have:=SA.out.low.size;first | omega | (simp;done) | (simp;omega)) ?_;intro v7 w7 ha;obtain ⟨g7,S7⟩:=SA.out.app ha;have SB:=Lib.hid S7;have hn7:=S7.low;have hz7:=S7.low.size;clear S7 ha;obtain ⟨C7,c7,rfl,_⟩:=(SB.out.list (.head _)).form;simp only [List.nil_append] at SB)
    |(have hA:Sit _ _ _:=(((((Sit.here w0).drew.alloc #[] 3).alloc #[.int .i64 0,.int .i64 0] 270).alloc #[.int .i64 u] 3).rot3).boxNil cI 1;(try simp only [World.size_alloc,World.size_drew] at hA);have SA:=Lib.hid hA;clear hA;refine sappAll_Int (.tmp 14) (.tmp 15) rfl rfl rfl rfl (HCS.out.next (flat_mono _) (bstep SN.out.low SA.out.low)) (SA.out.list (.head _)) (by first | omega | (simp;done) | (simp;omega)) (by have:=SA.out.low.size;first | omega | (simp;done) | (simp;omega)) ?_;intro v7 w7 ha;obtain ⟨g7,S7⟩:=SA.out.app ha;have SB:=Lib.hid S7;have hn7:=S7.low;have hz7:=S7.low.size;clear S7 ha;obtain ⟨C7,c7,rfl,_⟩:=(SB.out.list (.head _)).form;simp only [List.nil_append] at SB)
    |(have hA:Sit _ _ _:=(((((Sit.here w0).drew.alloc #[.int .i64 u] 3).alloc #[] 3).alloc #[.int .i64 0,.int .i64 0] 270).rot2).boxNil cI 1;(try simp only [World.size_alloc,World.size_drew] at hA);have SA:=Lib.hid hA;clear hA;refine sappAll_Int (.tmp 14) (.tmp 15) rfl rfl rfl rfl (HCS.out.next (flat_mono _) (bstep SN.out.low SA.out.low)) (SA.out.list (.head _)) (by first | omega | (simp;done) | (simp;omega)) (by have:=SA.out.low.size;first | omega | (simp;done) | (simp;omega)) ?_;intro v7 w7 ha;obtain ⟨g7,S7⟩:=SA.out.app ha;have SB:=Lib.hid S7;have hn7:=S7.low;have hz7:=S7.low.size;clear S7 ha;obtain ⟨C7,c7,rfl,_⟩:=(SB.out.list (.head _)).form;simp only [List.nil_append] at SB)
    |(have hA:Sit _ _ _:=(((((Sit.here w0).drew.alloc #[.int .i64 u] 3).alloc #[.int .i64 0,.int .i64 0] 270).alloc #[] 3)).boxNil cI 1;(try simp only [World.size_alloc,World.size_drew] at hA);have SA:=Lib.hid hA;clear hA;refine sappAll_Int (.tmp 14) (.tmp 15) rfl rfl rfl rfl (HCS.out.next (flat_mono _) (bstep SN.out.low SA.out.low)) (SA.out.list (.head _)) (by first | omega | (simp;done) | (simp;omega)) (by have:=SA.out.low.size;first | omega | (simp;done) | (simp;omega)) ?_;intro v7 w7 ha;obtain ⟨g7,S7⟩:=SA.out.app ha;have SB:=Lib.hid S7;have hn7:=S7.low;have hz7:=S7.low.size;clear S7 ha;obtain ⟨C7,c7,rfl,_⟩:=(SB.out.list (.head _)).form;simp only [List.nil_append] at SB)
    |(have hA:Sit _ _ _:=(((((Sit.here w0).drew.alloc #[.int .i64 0,.int .i64 0] 270).alloc #[] 3).alloc #[.int .i64 u] 3).rot2).boxNil cI 1;(try simp only [World.size_alloc,World.size_drew] at hA);have SA:=Lib.hid hA;clear hA;refine sappAll_Int (.tmp 14) (.tmp 15) rfl rfl rfl rfl (HCS.out.next (flat_mono _) (bstep SN.out.low SA.out.low)) (SA.out.list (.head _)) (by first | omega | (simp;done) | (simp;omega)) (by have:=SA.out.low.size;first | omega | (simp;done) | (simp;omega)) ?_;intro v7 w7 ha;obtain ⟨g7,S7⟩:=SA.out.app ha;have SB:=Lib.hid S7;have hn7:=S7.low;have hz7:=S7.low.size;clear S7 ha;obtain ⟨C7,c7,rfl,_⟩:=(SB.out.list (.head _)).form;simp only [List.nil_append] at SB)
    |(have hA:Sit _ _ _:=(((((Sit.here w0).drew.alloc #[.int .i64 0,.int .i64 0] 270).alloc #[.int .i64 u] 3).alloc #[] 3)).boxNil cI 1;(try simp only [World.size_alloc,World.size_drew] at hA);have SA:=Lib.hid hA;clear hA;refine sappAll_Int (.tmp 14) (.tmp 15) rfl rfl rfl rfl (HCS.out.next (flat_mono _) (bstep SN.out.low SA.out.low)) (SA.out.list (.head _)) (by first | omega | (simp;done) | (simp;omega)) (by have:=SA.out.low.size;first | omega | (simp;done) | (simp;omega)) ?_;intro v7 w7 ha;obtain ⟨g7,S7⟩:=SA.out.app ha;have SB:=Lib.hid S7;have hn7:=S7.low;have hz7:=S7.low.size;clear S7 ha;obtain ⟨C7,c7,rfl,_⟩:=(SB.out.list (.head _)).form;simp only [List.nil_append] at SB)
    |(have hA:Sit _ _ _:=SB.out;(try simp only [World.size_alloc,World.size_drew] at hA);have SX:=Lib.hid hA;clear hA;refine sapp_Int (.tmp 16) (.tmp 18) rfl rfl (u) rfl rfl (SX.out.on _ (.tail _ (.head _))) rfl (SX.out.list (.head _)) (by first | omega | (simp;done) | (simp;omega)) (by have:=SX.out.low.size;first | omega | (simp;done) | (simp;omega)) ?_;intro v9 w9 ha;obtain ⟨g9,S9⟩:=SX.out.app ha;have SC:=Lib.hid S9;have hn9:=S9.low;have hz9:=S9.low.size;clear S9 ha;obtain ⟨C9,c9,rfl,_⟩:=(SC.out.list (.head _)).form;simp only [List.length_append,List.length_cons,List.length_nil,Nat.zero_add] at SC)
    |(have hA:Sit _ _ _:=SB.out;(try simp only [World.size_alloc,World.size_drew] at hA);have SX:=Lib.hid hA;clear hA;refine sapp_Int (.tmp 16) (.tmp 18) rfl rfl (u) rfl rfl (SX.out.on _ (.tail _ (.tail _ (.head _)))) rfl (SX.out.list (.head _)) (by first | omega | (simp;done) | (simp;omega)) (by have:=SX.out.low.size;first | omega | (simp;done) | (simp;omega)) ?_;intro v9 w9 ha;obtain ⟨g9,S9⟩:=SX.out.app ha;have SC:=Lib.hid S9;have hn9:=S9.low;have hz9:=S9.low.size;clear S9 ha;obtain ⟨C9,c9,rfl,_⟩:=(SC.out.list (.head _)).form;simp only [List.length_append,List.length_cons,List.length_nil,Nat.zero_add] at SC)
    |(have hA:Sit _ _ _:=((SB.out.alloc #[.int .i64 u] 3).rot2);(try simp only [World.size_alloc,World.size_drew] at hA);have SX:=Lib.hid hA;clear hA;refine sapp_Int (.tmp 16) (.tmp 18) rfl rfl (u) rfl rfl (SX.out.on _ (.tail _ (.head _))) rfl (SX.out.list (.head _)) (by first | omega | (simp;done) | (simp;omega)) (by have:=SX.out.low.size;first | omega | (simp;done) | (simp;omega)) ?_;intro v9 w9 ha;obtain ⟨g9,S9⟩:=SX.out.app ha;have SC:=Lib.hid S9;have hn9:=S9.low;have hz9:=S9.low.size;clear S9 ha;obtain ⟨C9,c9,rfl,_⟩:=(SC.out.list (.head _)).form;simp only [List.length_append,List.length_cons,List.length_nil,Nat.zero_add] at SC)
    |(have hA:Sit _ _ _:=((SB.out.alloc #[.int .i64 0,.int .i64 0] 270).rot2);(try simp only [World.size_alloc,World.size_drew] at hA);have SX:=Lib.hid hA;clear hA;refine sapp_Int (.tmp 16) (.tmp 18) rfl rfl (u) rfl rfl (SX.out.on _ (.tail _ (.tail _ (.head _)))) rfl (SX.out.list (.head _)) (by first | omega | (simp;done) | (simp;omega)) (by have:=SX.out.low.size;first | omega | (simp;done) | (simp;omega)) ?_;intro v9 w9 ha;obtain ⟨g9,S9⟩:=SX.out.app ha;have SC:=Lib.hid S9;have hn9:=S9.low;have hz9:=S9.low.size;clear S9 ha;obtain ⟨C9,c9,rfl,_⟩:=(SC.out.list (.head _)).form;simp only [List.length_append,List.length_cons,List.length_nil,Nat.zero_add] at SC)
    |(have hA:Sit _ _ _:=((SB.out.alloc #[.int .i64 0,.int .i64 0] 270).rot2);(try simp only [World.size_alloc,World.size_drew] at hA);have SX:=Lib.hid hA;clear hA;refine sapp_Int (.tmp 16) (.tmp 18) rfl rfl (u) rfl rfl (SX.out.on _ (.tail _ (.tail _ (.tail _ (.head _))))) rfl (SX.out.list (.head _)) (by first | omega | (simp;done) | (simp;omega)) (by have:=SX.out.low.size;first | omega | (simp;done) | (simp;omega)) ?_;intro v9 w9 ha;obtain ⟨g9,S9⟩:=SX.out.app ha;have SC:=Lib.hid S9;have hn9:=S9.low;have hz9:=S9.low.size;clear S9 ha;obtain ⟨C9,c9,rfl,_⟩:=(SC.out.list (.head _)).form;simp only [List.length_append,List.length_cons,List.length_nil,Nat.zero_add] at SC)
    |(have hA:Sit _ _ _:=(((SB.out.alloc #[.int .i64 u] 3).alloc #[.int .i64 0,.int .i64 0] 270).rot3);(try simp only [World.size_alloc,World.size_drew] at hA);have SX:=Lib.hid hA;clear hA;refine sapp_Int (.tmp 16) (.tmp 18) rfl rfl (u) rfl rfl (SX.out.on _ (.tail _ (.tail _ (.head _)))) rfl (SX.out.list (.head _)) (by first | omega | (simp;done) | (simp;omega)) (by have:=SX.out.low.size;first | omega | (simp;done) | (simp;omega)) ?_;intro v9 w9 ha;obtain ⟨g9,S9⟩:=SX.out.app ha;have SC:=Lib.hid S9;have hn9:=S9.low;have hz9:=S9.low.size;clear S9 ha;obtain ⟨C9,c9,rfl,_⟩:=(SC.out.list (.head _)).form;simp only [List.length_append,List.length_cons,List.length_nil,Nat.zero_add] at SC)
    |(have hA:Sit _ _ _:=(((SB.out.alloc #[.int .i64 0,.int .i64 0] 270).alloc #[.int .i64 u] 3).rot3);(try simp only [World.size_alloc,World.size_drew] at hA);have SX:=Lib.hid hA;clear hA;refine sapp_Int (.tmp 16) (.tmp 18) rfl rfl (u) rfl rfl (SX.out.on _ (.tail _ (.head _))) rfl (SX.out.list (.head _)) (by first | omega | (simp;done) | (simp;omega)) (by have:=SX.out.low.size;first | omega | (simp;done) | (simp;omega)) ?_;intro v9 w9 ha;obtain ⟨g9,S9⟩:=SX.out.app ha;have SC:=Lib.hid S9;have hn9:=S9.low;have hz9:=S9.low.size;clear S9 ha;obtain ⟨C9,c9,rfl,_⟩:=(SC.out.list (.head _)).form;simp only [List.length_append,List.length_cons,List.length_nil,Nat.zero_add] at SC)
    |(go_at_call 310;(first | (have hA:Sit _ _ _:=SC.out.alloc #[.int .i64 0,.int .i64 0] 270;refine (l7Of_any _ _ _ r all (cs ++ [u]) _ (HR.out.next (bstep SN.out.low hA.low)) (HA.out.next (flat_mono _) (bstep SN.out.low hA.low)) (OInts.read (hA.list (.tail _ (.head _))) (by simp;omega)) HI.out).mono ?_;rintro e w2 ⟨rfl,hb2⟩;rw [HG.out];have SD:=Lib.hid (hA.next hb2);have hnD:=SD.out.low;have hzD:=SD.out.low.size;clear hA;have kt:=SD.out.box (.head _);have ft:=SD.out.free (.head _)) | (refine (l7Of_any _ _ _ r all (cs ++ [u]) _ (HR.out.next (bstep SN.out.low SC.out.low)) (HA.out.next (flat_mono _) (bstep SN.out.low SC.out.low)) (OInts.read (SC.out.list (.head _)) (by simp;omega)) HI.out).mono ?_;rintro e w2 ⟨rfl,hb2⟩;rw [HG.out];have SD:=Lib.hid (SC.out.next hb2);have hnD:=SD.out.low;have hzD:=SD.out.low.size;(try have kt1:=SD.out.box (.tail _ (.head _)));(try have ft1:=SD.out.free (.tail _ (.head _)));(try have kt2:=SD.out.box (.tail _ (.tail _ (.head _))));(try have ft2:=SD.out.free (.tail _ (.tail _ (.head _))))))))
  all_goals (go_wp2_with fail;go_meet)
  all_goals first
   |exact ⟨_,rfl,Lib.hid (SN.out.join (Sit.take (l1:=[_]) (SD.out.alloc _ _)))⟩
   |exact ⟨_,rfl,Lib.hid (SN.out.join (Sit.take (l1:=[_]) (SD.out.overL [.int .i64 G.1,.int .i64 G.2] 0)))⟩
   |exact ⟨_,rfl,Lib.hid (SN.out.join (Sit.take (l1:=[_]) (SD.out.rot2.overL [.int .i64 G.1,.int .i64 G.2] 0)))⟩
   |exact ⟨_,rfl,Lib.hid (SN.out.join (Sit.take (l1:=[_]) (SD.out.rot3.overL [.int .i64 G.1,.int .i64 G.2] 0)))⟩
 case rest =>
  obtain ⟨g8,rfl,SN2⟩:=hcut
  have SN:=SN2
  clear SN2 k0 l0
  obtain ⟨db,hdb⟩:∃ db,decide (G.1≤V)=db:=⟨_,rfl⟩
  rw [hdb] at HM2
  cases db
  all_goals have h0:wc.cell? ⟨g8,0,none⟩=some (.int .i64 G.1):=SN.out.box (.head _) 0
  all_goals have h1:wc.cell? ⟨g8,1,none⟩=some (.int .i64 G.2):=SN.out.box (.head _) 1
  all_goals have h2:wc.cell? ⟨w.heap.size + 1,1,none⟩=some (.int .i64 t.w):=SN.out.box (.tail _ (.head _)) 1
  all_goals have h3:wc.cell? ⟨w.heap.size + 1,2,none⟩=some (.int .i64 t.h):=SN.out.box (.tail _ (.head _)) 2
  all_goals have h4:wc.cell? ⟨w.heap.size + 1,3,none⟩=some (.int .i64 t.d):=SN.out.box (.tail _ (.head _)) 3
  all_goals have h5:wc.cell? ⟨w.heap.size + 1,5,none⟩=some (.int .i64 t.gram):=SN.out.box (.tail _ (.head _)) 5
  all_goals go_wp2
  all_goals refine wp_region_still_lit (by kernel_rfl) (by kernel_rfl) ?_
  all_goals (repeat still_step)
  all_goals still_call (by have h:=sVolume_any t.w t.h t.d wc.drew;rw [HV.out] at h;exact still_of h)
  all_goals (repeat still_step)
  all_goals refine wpStill_nil ?_
  all_goals go_wp2
  all_goals go_ret
  all_goals exact ⟨by rw [HM2.out];rfl,SN.out.drew.low⟩
end Go.Proofs.YtioijfplbgpjpaaGreat
