/-
  Words and walks that these laws need beyond the others': see each theorem.
-/
import Derived.Test.YtioijfplbgpjpaaGreatKu00
import Derived.Test.YtioijfplbgpjpaaGreatKu01
import Derived.Test.YtioijfplbgpjpaaGreatKu02
import Derived.Test.YtioijfplbgpjpaaGreatKu43
import Derived.Test.YtioijfplbgpjpaaGreatKu03
import Derived.Test.YtioijfplbgpjpaaGreatKu04
import Derived.Test.YtioijfplbgpjpaaGreatKu05
import Derived.Test.YtioijfplbgpjpaaGreatKu06
import Derived.Test.YtioijfplbgpjpaaGreatKu09
import Derived.Test.YtioijfplbgpjpaaGreatKu22
import Derived.Test.YtioijfplbgpjpaaGreatKu24
import Derived.Test.YtioijfplbgpjpaaGreatKu25
import Derived.Test.YtioijfplbgpjpaaGreatKu10
import Derived.Test.YtioijfplbgpjpaaGreatKu11
import Derived.Test.YtioijfplbgpjpaaGreatKu26
import Derived.Test.YtioijfplbgpjpaaGreatKu29
import Derived.Test.YtioijfplbgpjpaaGreatKu27
import Derived.Test.YtioijfplbgpjpaaGreatKu28
import Derived.Test.YtioijfplbgpjpaaGreatKu23
import Derived.Test.YtioijfplbgpjpaaGreatKu07
import Derived.Test.YtioijfplbgpjpaaGreatKu08
import Derived.Test.YtioijfplbgpjpaaGreatKu12
import Derived.Test.YtioijfplbgpjpaaGreatKu13
import Derived.Test.YtioijfplbgpjpaaGreatKu14
import Derived.Test.YtioijfplbgpjpaaGreatKu15
import Derived.Test.YtioijfplbgpjpaaGreatKu16
import Derived.Test.YtioijfplbgpjpaaGreatKu17
import Derived.Test.YtioijfplbgpjpaaGreatKu18
import Derived.Test.YtioijfplbgpjpaaGreatKu19
import Derived.Test.YtioijfplbgpjpaaGreatKu20
import Derived.Test.YtioijfplbgpjpaaGreatKu21
import Derived.Test.YtioijfplbgpjpaaGreatKu32
import Derived.WalkKit
import Derived.WalkSpells
import Derived.WalkLawsBesides
import Derived.BigQuiet
import Derived.Deep.QuietTactic
import Derived.IntWalk
import Derived.Lib.Hide
import Derived.Laws.OwnMore
import Derived.Deep.Draws
import Derived.Deep.RegionHeld3
import Derived.Maps.AppendAt
import Derived.Deep.AppendLies
import Derived.RegionTactic
import Derived.OwnWalk
import Derived.ProofKit
import Derived.OpenShut
import Derived.ShutString
import Derived.WideKeyArgs
import Derived.Carry
import Derived.Deep.Slices
import Derived.Deep.Fields
import Derived.Deep.Strs
import Derived.ChangeSame
import Derived.Deep.Light
import Derived.Laws.StructEq
import Derived.Sort.OwnSortedInts
import Derived.StillTail
import Derived.Deep.RegionHeld
import Derived.Deep.RegionLaw
import Derived.Deep.DeepCutAuto
import Derived.Deep.RegionWith
import Derived.StillTailTactics
import Derived.Laws.CopyOwn
import Derived.Deep.CutBlock
import Derived.Laws.IdiomStrings
namespace Go.Proofs.YtioijfplbgpjpaaGreat
set_option linter.unusedVariables false
set_option linter.unusedSimpArgs false
set_option maxRecDepth 100000
open Go.RowKit
def benB (r:Request) (x:Plan) (i j:Int):Bool:=decide (wrap64 ((spotAt x j).z + (boxAt r x j).h)≤(spotAt x i).z) && overB (boxAt r x i) (spotAt x i) (boxAt r x j) { spotAt x j with z:=(spotAt x i).z }
def beneathI (r:Request) (x:Plan) (i:Int):List Int:=if (inB i 0 ((x.cartons.length:Int) - 1) && feasible r x)=true then (onPal x (spotAt x i).pallet).filter (benB r x i) else []
def benS (r:Request) (x:Plan) (i:Int) (k:Nat):Bool:=!decide ((k:Int)=i) && (decide (wrap64 ((spotAt x k).z + (boxAt r x k).h)≤(spotAt x i).z) && overB (boxAt r x i) { spotAt x i with z:=(spotAt x k).z } (boxAt r x k) (spotAt x k))
def beneathS (r:Request) (x:Plan) (i:Int):List Int:=if (feasible r x && inB i 0 ((x.cartons.length:Int) - 1))=true then ((List.range x.cartons.length).filter (benS r x i)).map Int.ofNat else []
theorem place_of {b:Box} {s:Spot} (hw:0 < b.w∧b.w≤2000) (hd:0 < b.d∧b.d≤2000) (hh:0 < b.h∧b.h≤2000) (hx:0≤s.x∧s.x≤2000) (hy:0≤s.y∧s.y≤2000) (hz:0≤s.z∧s.z≤2000):placeB b s=true:=by
 simp only [placeB,inB,Bool.and_eq_true,decide_eq_true_eq]
 omega
theorem beneath_eq (r:Request) (x:Plan) (i:Int):beneathI r x i=beneathS r x i:=by
 unfold beneathI beneathS
 rw [Bool.and_comm]
 by_cases hc:(feasible r x && inB i 0 ((x.cartons.length:Int) - 1))=true
 ·rw [if_pos hc,if_pos hc]
  simp only [Bool.and_eq_true,inB,decide_eq_true_eq] at hc
  obtain ⟨hf,h0,h1⟩:=hc
  obtain ⟨n,rfl⟩:∃ n:Nat,i=n:=⟨i.toNat,by omega⟩
  obtain ⟨hl,_⟩:=feas_len hf
  unfold onPal
  rw [if_pos hl.symm,hl,List.filter_map,List.filter_filter]
  congr 1
  refine List.filter_congr fun j hj=>?_
  have hj:=List.mem_range.1 hj
  have hn:n < x.cartons.length:=by omega
  obtain ⟨a1,a2,a3,a4,a5,a6,a7,a8,a9⟩:=within_facts (feas_inside hf hn)
  obtain ⟨b1,b2,b3,b4,b5,b6,b7,b8,b9⟩:=within_facts (feas_inside hf hj)
  have e0:x.spots.getD j default=spotAt x (j:Int):=by unfold spotAt;rw [Int.toNat_natCast]
  show ((benB r x n (j:Int)) && onAt x (spotAt x n).pallet j)=benS r x n j
  unfold onAt
  rw [e0]
  by_cases hjn:j=n
  ·subst hjn
   have e1:benB r x (j:Int) (j:Int)=false:=by unfold benB;rw [wrap_sum b6 b3,decide_eq_false (by omega)];rfl
   rw [e1]
   unfold benS
   simp
  have hji : ¬ ((j:Int)=(n:Int)):=by omega
  unfold benB benS overB
  rw [place_of a1 a2 a3 a4 a5 a6,place_of b1 b2 b3 b4 b5 (s:={ spotAt x (j:Int) with z:=(spotAt x (n:Int)).z }) a6,place_of a1 a2 a3 a4 a5 (s:={ spotAt x (n:Int) with z:=(spotAt x (j:Int)).z }) b6,place_of b1 b2 b3 b4 b5 b6]
  rw [wrap_sum b6 b3]
  generalize spotAt x (n:Int)=s at *
  generalize spotAt x (j:Int)=t at *
  generalize boxAt r x (n:Int)=b at *
  generalize boxAt r x (j:Int)=c at *
  rw [Bool.eq_iff_iff]
  simp only [crossB,Bool.and_eq_true,decide_eq_true_eq,beq_iff_eq,Bool.not_eq_true',decide_eq_false_iff_not,true_and]
  constructor
  ·rintro ⟨⟨h2,h3,h4,h5,h6⟩,h7⟩
   exact ⟨hji,h2,h7.symm,h4,h5,by omega⟩
  ·rintro ⟨h2,h3,h4,h5,h6,h7⟩
   exact ⟨⟨h3,h4,h5,h6,by omega⟩,h4.symm⟩
 ·rw [if_neg hc,if_neg hc]
end Go.Proofs.YtioijfplbgpjpaaGreat
namespace Go.Proofs.YtioijfplbgpjpaaGreat
set_option linter.unusedVariables false
set_option linter.unusedSimpArgs false
set_option maxRecDepth 100000
open Go.RowKit
section
variable {r:Request} {x:Plan} {k z px py:Int}
end
end Go.Proofs.YtioijfplbgpjpaaGreat
namespace Go.Proofs.YtioijfplbgpjpaaGreat
set_option linter.unusedVariables false
set_option linter.unusedSimpArgs false
set_option maxRecDepth 100000
open Go.RowKit
section
variable {r:Request} {x:Plan} {k z:Int}
end
end Go.Proofs.YtioijfplbgpjpaaGreat
namespace Go.Proofs.YtioijfplbgpjpaaGreat
set_option linter.unusedVariables false
set_option linter.unusedSimpArgs false
set_option maxRecDepth 100000
open Go.RowKit
section
variable {r:Request} {x:Plan} {k:Int}
end
end Go.Proofs.YtioijfplbgpjpaaGreat
namespace Go.Proofs.YtioijfplbgpjpaaGreat
set_option linter.unusedVariables false
set_option linter.unusedSimpArgs false
set_option maxRecDepth 100000
open Go.RowKit Go.WideShapes Go.ChangeShapes Go.ChangeAt Go.Deep
theorem boxAt_nat {r:Request} {x:Plan} {i:Nat} {c:Carton} (h:x.cartons[i]? = some c):boxAt r x (i:Int)=boxR r c:=by unfold boxAt;rw [cartAt_at h]
theorem box_field2 (a b c d:Int) (W:World):(Instr.field 75 (.agg #[.int .i64 a,.int .i64 b,.int .i64 c,.int .i64 d]) 2).run Tryz.prog W=.ok (.int .i64 c) W:=by first | rfl | (simp [Instr.field,go_sem,Tryz.underlying75])
end Go.Proofs.YtioijfplbgpjpaaGreat
namespace Go.Proofs.YtioijfplbgpjpaaGreat
set_option linter.unusedVariables false
set_option linter.unusedSimpArgs false
set_option maxRecDepth 100000
open Go.RowKit Go.WideShapes Go.ChangeShapes Go.ChangeAt Go.Deep
set_option maxRecDepth 100000
end Go.Proofs.YtioijfplbgpjpaaGreat
namespace Go.Proofs.YtioijfplbgpjpaaGreat
set_option linter.unusedVariables false
set_option linter.unusedSimpArgs false
set_option maxRecDepth 100000
open Go.RowKit Go.WideShapes Go.ChangeShapes Go.ChangeAt Go.Deep
theorem filter_step {l:List Int} {j:Nat} {i:Int} {p:Int→Bool} {f:Bool} (h:l[j]? = some i) (hf:p i=f):(l.take (j + 1)).filter p=(l.take j).filter p ++ (if f=true then [i] else []):=by
 rw [List.take_add_one,h,List.filter_append]
 simp only [Option.toList_some,List.filter_cons,List.filter_nil,hf]
theorem filter_take_le {l:List Int} {j:Nat} (p:Int→Bool):((l.take j).filter p).length≤j:=Nat.le_trans (List.length_filter_le _ _) (by rw [List.length_take];omega)
end Go.Proofs.YtioijfplbgpjpaaGreat
namespace Go.Proofs.YtioijfplbgpjpaaGreat
set_option linter.unusedVariables false
set_option linter.unusedSimpArgs false
set_option maxRecDepth 100000
open Go.RowKit Go.WideShapes Go.ChangeShapes Go.ChangeAt Go.Deep
theorem wrap_pred {n:Nat} (h:n≤16777216):wrap64 ((n:Int) - 1)=(n:Int) - 1:=by unfold wrap64;omega
set_option maxRecDepth 100000 in
set_option maxHeartbeats 20000000 in
theorem iBeneath_any (v vx:Value) (r:Request) (x:Plan) (i:Int) (w:World) (h:RReq 16777216 w w.heap.size v r) (hx:RPlan 16777216 w w.heap.size vx x) (hL:x.bulk≤16777216):Calls Tryz.prog 37 #[v,vx,.int .i64 i] w (MInts w (beneathI r x i)):=by
 have HR:=Lib.hid h
 have HX:=Lib.hid hx
 obtain ⟨A1,c1,A2,c2,A3,c3,rfl,_⟩:=h.opn
 obtain ⟨PA,ca,PB,cb,rfl,HPA,HPB,hla,hlb⟩:=hx.opn
 have hS:=((Sit.here w).alloc (cR r A1 c1 A2 c2 A3 c3) 41).alloc #[.slice PA x.cartons.length ca,.slice PB x.spots.length cb] 46
 simp only [World.size_alloc] at hS
 have SN:=Lib.hid hS
 have hwp:=wrap_pred hla
 have hwq:IntKind.i64.wrap ((x.cartons.length:Int) - 1)=(x.cartons.length:Int) - 1:=by rw [wrapE];exact hwp
 obtain ⟨f,hf⟩:∃ f,inB i 0 ((x.cartons.length:Int) - 1)=f:=⟨_,rfl⟩
 have HF:=Lib.hid hf
 obtain ⟨q,hq⟩:∃ q,feasible r x=q:=⟨_,rfl⟩
 have HQ:=Lib.hid hq
 have HM:=Lib.hid (show beneathI r x i=if (f && q)=true then (onPal x (spotAt x i).pallet).filter (benB r x i) else [] by unfold beneathI;rw [hf,hq])
 clear h hx hS hf hq hwp
 go_enter Tryz.func37,Tryz.ntmps37
 have k0:=SN.out.box (.tail _ (.head _));have l0:=SN.out.boxlt (.tail _ (.head _));have k1:=SN.out.box (.head _);have l1:=SN.out.boxlt (.head _)
 cases f
 ·have SN:=Lib.hid (SN.out.addNil (f:=cI) (e:=3) (K:=1) w.heap.size)
  go_wp2_with (go_at_call 114;(try simp only [wrapE]);refine (in_any _ _ _ _).mono ?_;rintro e w' ⟨rfl,rfl⟩;rw [HF.out])
  go_ret
  rw [HM.out]
  exact SN.out.ints
 go_wp2_with (go_at_call 114;(try simp only [wrapE]);refine (in_any _ _ _ _).mono ?_;rintro e w' ⟨rfl,rfl⟩;rw [HF.out])
 refine (iFeasible_any _ _ r x _ (HR.out.next SN.out.low) (HX.out.next SN.out.low) hL).mono ?_
 rintro e1 w1 ⟨rfl,hb1⟩
 rw [HQ.out]
 have SN:=Lib.hid (SN.out.next hb1)
 clear k0 l0 k1 l1 hb1
 cases q
 ·have SN:=Lib.hid (SN.out.addNil (f:=cI) (e:=3) (K:=1) w.heap.size)
  go_wp2
  go_ret
  rw [HM.out]
  exact SN.out.ints
 obtain ⟨h0,h1⟩:=inB_iff.1 HF.out
 obtain ⟨n,rfl⟩:∃ n:Nat,i=n:=⟨i.toNat,by omega⟩
 obtain ⟨hfl,_⟩:=feas_len HQ.out
 have hn1:n < x.cartons.length:=by omega
 have hn2:n < x.spots.length:=by omega
 clear h0 h1 hfl
 obtain ⟨b,off,c,U,cu,rfl,hb,hc,HU,HC⟩:=HPA.out.one n hn1
 obtain ⟨b2,off2,s,rfl,hb2,hs,HC2⟩:=HPB.out.one n hn2
 obtain ⟨bx,hbx⟩:∃ bx,boxR r c=bx:=⟨_,rfl⟩
 have HBX:=Lib.hid hbx
 have HSA:=Lib.hid (spotAt_at hs)
 have HBA:=Lib.hid (show boxAt r x (n:Int)=bx by rw [boxAt_nat hc,hbx])
 have HCC:=Lib.hid (show ∀ X:World,Below w1.heap.size w1 X→(cS10 (X) (w.heap.size) (r) (.slice A1 r.pairs.length c1) (.slice A2 r.types.length c2) (.slice A3 r.items.length c3))∧(X.cell? ⟨w.heap.size + 1,0,none⟩=some (.slice (some ⟨b,off,none⟩) x.cartons.length ca)∧X.cell? ⟨w.heap.size + 1,1,none⟩=some (.slice (some ⟨b2,off2,none⟩) x.spots.length cb))∧(cC3 (X) (b) (off) (n) (c) (.slice U c.units.length cu))∧cS4 (X) (b2) (off2) (n) (s) from fun X hX=>by
  have hX:=SN.out.next hX
  have c0:=hX.box (.tail _ (.head _))
  exact ⟨⟨c0 0,c0 1,c0 2,c0 3,c0 4,c0 5,c0 6,c0 7,c0 8,c0 9⟩,⟨hX.box (.head _) 0,hX.box (.head _) 1⟩,HC.out X hX.low,HC2.out X hX.low⟩)
 clear hc hs hbx
 go_upto_region 3 with fail
 go_cut [7,8] (fun v7 v8 X=>∃ g7 g8,v7=.pointer (some ⟨g7,0,none⟩)∧v8=.pointer (some ⟨g8,0,none⟩)∧Hid (Sit w X [fBox g7 #[.int .i64 bx.w,.int .i64 bx.d,.int .i64 bx.h,.int .i64 bx.gram] 75,fBox g8 #[.int .i64 s.pallet,.int .i64 s.x,.int .i64 s.y,.int .i64 s.z] 72,fBox (w.heap.size + 1) #[.slice (some ⟨b,off,none⟩) x.cartons.length ca,.slice (some ⟨b2,off2,none⟩) x.spots.length cb] 46,fBox w.heap.size (cR r A1 c1 A2 c2 A3 c3) 41]))
 case first =>
  clear HPA HPB HX HF HM HQ HBA HSA HC HC2 hla hlb hwq hL
  refine regu (S:=(fun W'=>((cS10 (W') (w.heap.size) (r) (.slice A1 r.pairs.length c1) (.slice A2 r.types.length c2) (.slice A3 r.items.length c3)))∧(W'.cell? ⟨w.heap.size + 1,0,none⟩=some (.slice (some ⟨b,off,none⟩) x.cartons.length ca)∧W'.cell? ⟨w.heap.size + 1,1,none⟩=some (.slice (some ⟨b2,off2,none⟩) x.spots.length cb))∧(cC3 (W') (b) (off) (n) (c) (.slice U c.units.length cu))∧cS4 (W') (b2) (off2) (n) (s))) (by kernel_rfl) (fun _ _ _ _ _=>id) ?_ fun hHeld=>?_
  ·(first | (refine HCC.out _ ?_;(repeat' with_reducible first | assumption | exact bR | apply bD | apply bA | apply bC | apply bW | omega | simp <;> omega);done) | go_keep)
  have SN:=Lib.hid SN.out.drew
  refine tku (b:=?_) [0,1,2,3,4,5,7,8,9,10,11] (by kernel_rfl) hHeld ?_ ?_
  rotate_left
  ·repeat first
   |exact .nil
   |refine .yes (v:=?_) rfl (by rfl) ?_ ?_
    rotate_left
    ·intro w9 hSw;(try dsimp only at hSw);go_simp;(try with_reducible rfl)
    (try simp only [aP,aZ,aS,aG,aH,aI])
  refine smu [6,12,13] (by kernel_rfl) ?_
  refine .cons rfl (by kernel_rfl) (fun K hK=>?_) ?_
  ·go_simp
   ((go_at_call 53;refine (iBoxOf_any _ _ r c _ (HR.out.next SN.out.low) (HU.out.next (flat_mono _) SN.out.low)).mono ?_;rintro e w2 ⟨rfl,hb2⟩;rw [HBX.out];have hn2:=bstep (a:=w1) (by (repeat' with_reducible first | assumption | exact bR | apply bD | apply bA | apply bC | apply bW | omega | simp <;> omega)) hb2;have SN:=Lib.hid (SN.out.next hb2);(try (have hg7:=SN.out.on (fBox _ #[.int .i64 0,.int .i64 0,.int .i64 0,.int .i64 0] 75) (by first | exact .head _ | exact .tail _ (.head _));have hgc7:=fun j=>cell_of_row _ _ j _ _ (0,0) hg7;have hgf7:=fun j=>frozen_of_row _ _ j _ _ hg7;have hgl7:=lt_of_block hg7;(try simp only [World.size_alloc,World.size_drew] at hg7 hgc7 hgf7 hgl7)));(try (have hg8:=SN.out.on (fBox _ #[.int .i64 0,.int .i64 0,.int .i64 0,.int .i64 0] 72) (by first | exact .head _ | exact .tail _ (.head _));have hgc8:=fun j=>cell_of_row _ _ j _ _ (0,0) hg8;have hgf8:=fun j=>frozen_of_row _ _ j _ _ hg8;have hgl8:=lt_of_block hg8;(try simp only [World.size_alloc,World.size_drew] at hg8 hgc8 hgf8 hgl8)))))
   refine hK.out _ _ ?_ (fun hHeld=>?_)
   ·(first | (refine HCC.out _ ?_;(repeat' with_reducible first | assumption | exact bR | apply bD | apply bA | apply bC | apply bW | omega | simp <;> omega);done) | go_keep)
   clear hK K
   (try simp only [aP,aZ,aS,aG,aH,aI])
   refine smu [12,13] (by kernel_rfl) ?_
   refine .cons rfl (by kernel_rfl) (fun K hK=>?_) ?_
   ·go_simp
    (have SN:=Lib.hid (SN.out.alloc #[.int .i64 0,.int .i64 0,.int .i64 0,.int .i64 0] 75))
    refine hK.out _ _ ?_ (fun hHeld=>?_)
    ·(first | (refine HCC.out _ ?_;(repeat' with_reducible first | assumption | exact bR | apply bD | apply bA | apply bC | apply bW | omega | simp <;> omega);done) | go_keep)
    clear hK K
    (try simp only [aP,aZ,aS,aG,aH,aI])
    refine onu 13 rfl (by kernel_rfl) fun K hK=>?_
    go_simp
    (have SN:=Lib.hid (SN.out.alloc #[.int .i64 0,.int .i64 0,.int .i64 0,.int .i64 0] 72))
    refine hK.out _ _ ?_ (fun hHeld=>?_)
    ·(first | (refine HCC.out _ ?_;(repeat' with_reducible first | assumption | exact bR | apply bD | apply bA | apply bC | apply bW | omega | simp <;> omega);done) | go_keep)
    clear hK K
    (try simp only [aP,aZ,aS,aG,aH,aI])
    refine onu 14 rfl (by kernel_rfl) fun K hK=>?_
    go_simp
    (have SN:=Lib.hid (Sit.overL (t:=75) (cs:=[.int .i64 0,.int .i64 0,.int .i64 0,.int .i64 0]) [.int .i64 bx.w,.int .i64 bx.d,.int .i64 bx.h,.int .i64 bx.gram] 0 (by first | exact SN.out | exact SN.out.rot2)))
    refine hK.out _ _ ?_ (fun hHeld=>?_)
    ·(first | (refine HCC.out _ ?_;(repeat' with_reducible first | assumption | exact bR | apply bD | apply bA | apply bC | apply bW | omega | simp <;> omega);done) | go_keep)
    clear hK K
    (try simp only [aP,aZ,aS,aG,aH,aI])
    refine lsu 15 rfl (by kernel_rfl) fun K hK=>?_
    go_simp
    (have SN:=Lib.hid (Sit.overL (t:=72) (cs:=[.int .i64 0,.int .i64 0,.int .i64 0,.int .i64 0]) [.int .i64 s.pallet,.int .i64 s.x,.int .i64 s.y,.int .i64 s.z] 0 (by first | exact SN.out | exact SN.out.rot2)))
    refine hK.out _ _ ?_
    clear hK K
    (try simp only [aP,aZ,aS,aG,aH,aI])
    go_wp2_with fail
    go_meet
    refine ⟨_,_,rfl,rfl,?_⟩
    (have HSN:=SN.out.rot2;clear HCC HR HU HBX SN hn2;(first | simp [setW,setL,World.setCell_alloc_at,World.setCell_alloc_past,World.size_alloc,hgl7,hgl8] at HSN | simp [setW,setL,World.setCell_alloc_at,World.setCell_alloc_past,World.size_alloc,hgl7] at HSN | simp [setW,setL,World.setCell_alloc_at,World.setCell_alloc_past,World.size_alloc,hgl8] at HSN | simp [setW,setL,World.setCell_alloc_at,World.setCell_alloc_past,World.size_alloc] at HSN);refine Lib.hid ?_;with_reducible exact HSN)
   refine .cons rfl (by kernel_rfl) (fun K hK=>?_) ?_
   ·go_simp
    (have SN:=Lib.hid (SN.out.alloc #[.int .i64 0,.int .i64 0,.int .i64 0,.int .i64 0] 72))
    refine hK.out _ _ ?_ (fun hHeld=>?_)
    ·(first | (refine HCC.out _ ?_;(repeat' with_reducible first | assumption | exact bR | apply bD | apply bA | apply bC | apply bW | omega | simp <;> omega);done) | go_keep)
    clear hK K
    (try simp only [aP,aZ,aS,aG,aH,aI])
    refine onu 12 rfl (by kernel_rfl) fun K hK=>?_
    go_simp
    (have SN:=Lib.hid (SN.out.alloc #[.int .i64 0,.int .i64 0,.int .i64 0,.int .i64 0] 75))
    refine hK.out _ _ ?_ (fun hHeld=>?_)
    ·(first | (refine HCC.out _ ?_;(repeat' with_reducible first | assumption | exact bR | apply bD | apply bA | apply bC | apply bW | omega | simp <;> omega);done) | go_keep)
    clear hK K
    (try simp only [aP,aZ,aS,aG,aH,aI])
    refine onu 14 rfl (by kernel_rfl) fun K hK=>?_
    go_simp
    (have SN:=Lib.hid (Sit.overL (t:=75) (cs:=[.int .i64 0,.int .i64 0,.int .i64 0,.int .i64 0]) [.int .i64 bx.w,.int .i64 bx.d,.int .i64 bx.h,.int .i64 bx.gram] 0 (by first | exact SN.out | exact SN.out.rot2)))
    refine hK.out _ _ ?_ (fun hHeld=>?_)
    ·(first | (refine HCC.out _ ?_;(repeat' with_reducible first | assumption | exact bR | apply bD | apply bA | apply bC | apply bW | omega | simp <;> omega);done) | go_keep)
    clear hK K
    (try simp only [aP,aZ,aS,aG,aH,aI])
    refine lsu 15 rfl (by kernel_rfl) fun K hK=>?_
    go_simp
    (have SN:=Lib.hid (Sit.overL (t:=72) (cs:=[.int .i64 0,.int .i64 0,.int .i64 0,.int .i64 0]) [.int .i64 s.pallet,.int .i64 s.x,.int .i64 s.y,.int .i64 s.z] 0 (by first | exact SN.out | exact SN.out.rot2)))
    refine hK.out _ _ ?_
    clear hK K
    (try simp only [aP,aZ,aS,aG,aH,aI])
    go_wp2_with fail
    go_meet
    refine ⟨_,_,rfl,rfl,?_⟩
    (have HSN:=SN.out.rot2;clear HCC HR HU HBX SN hn2;(first | simp [setW,setL,World.setCell_alloc_at,World.setCell_alloc_past,World.size_alloc,hgl7,hgl8] at HSN | simp [setW,setL,World.setCell_alloc_at,World.setCell_alloc_past,World.size_alloc,hgl7] at HSN | simp [setW,setL,World.setCell_alloc_at,World.setCell_alloc_past,World.size_alloc,hgl8] at HSN | simp [setW,setL,World.setCell_alloc_at,World.setCell_alloc_past,World.size_alloc] at HSN);refine Lib.hid ?_;with_reducible exact HSN)
   exact .nil
  refine .cons rfl (by kernel_rfl) (fun K hK=>?_) ?_
  ·go_simp
   (have SN:=Lib.hid (SN.out.alloc #[.int .i64 0,.int .i64 0,.int .i64 0,.int .i64 0] 75))
   refine hK.out _ _ ?_ (fun hHeld=>?_)
   ·(first | (refine HCC.out _ ?_;(repeat' with_reducible first | assumption | exact bR | apply bD | apply bA | apply bC | apply bW | omega | simp <;> omega);done) | go_keep)
   clear hK K
   (try simp only [aP,aZ,aS,aG,aH,aI])
   refine smu [6,13] (by kernel_rfl) ?_
   refine .cons rfl (by kernel_rfl) (fun K hK=>?_) ?_
   ·go_simp
    ((go_at_call 53;refine (iBoxOf_any _ _ r c _ (HR.out.next SN.out.low) (HU.out.next (flat_mono _) SN.out.low)).mono ?_;rintro e w2 ⟨rfl,hb2⟩;rw [HBX.out];have hn2:=bstep (a:=w1) (by (repeat' with_reducible first | assumption | exact bR | apply bD | apply bA | apply bC | apply bW | omega | simp <;> omega)) hb2;have SN:=Lib.hid (SN.out.next hb2);(try (have hg7:=SN.out.on (fBox _ #[.int .i64 0,.int .i64 0,.int .i64 0,.int .i64 0] 75) (by first | exact .head _ | exact .tail _ (.head _));have hgc7:=fun j=>cell_of_row _ _ j _ _ (0,0) hg7;have hgf7:=fun j=>frozen_of_row _ _ j _ _ hg7;have hgl7:=lt_of_block hg7;(try simp only [World.size_alloc,World.size_drew] at hg7 hgc7 hgf7 hgl7)));(try (have hg8:=SN.out.on (fBox _ #[.int .i64 0,.int .i64 0,.int .i64 0,.int .i64 0] 72) (by first | exact .head _ | exact .tail _ (.head _));have hgc8:=fun j=>cell_of_row _ _ j _ _ (0,0) hg8;have hgf8:=fun j=>frozen_of_row _ _ j _ _ hg8;have hgl8:=lt_of_block hg8;(try simp only [World.size_alloc,World.size_drew] at hg8 hgc8 hgf8 hgl8)))))
    refine hK.out _ _ ?_ (fun hHeld=>?_)
    ·(first | (refine HCC.out _ ?_;(repeat' with_reducible first | assumption | exact bR | apply bD | apply bA | apply bC | apply bW | omega | simp <;> omega);done) | go_keep)
    clear hK K
    (try simp only [aP,aZ,aS,aG,aH,aI])
    refine onu 13 rfl (by kernel_rfl) fun K hK=>?_
    go_simp
    (have SN:=Lib.hid (SN.out.alloc #[.int .i64 0,.int .i64 0,.int .i64 0,.int .i64 0] 72))
    refine hK.out _ _ ?_ (fun hHeld=>?_)
    ·(first | (refine HCC.out _ ?_;(repeat' with_reducible first | assumption | exact bR | apply bD | apply bA | apply bC | apply bW | omega | simp <;> omega);done) | go_keep)
    clear hK K
    (try simp only [aP,aZ,aS,aG,aH,aI])
    refine onu 14 rfl (by kernel_rfl) fun K hK=>?_
    go_simp
    (have SN:=Lib.hid (Sit.overL (t:=75) (cs:=[.int .i64 0,.int .i64 0,.int .i64 0,.int .i64 0]) [.int .i64 bx.w,.int .i64 bx.d,.int .i64 bx.h,.int .i64 bx.gram] 0 (by first | exact SN.out | exact SN.out.rot2)))
    refine hK.out _ _ ?_ (fun hHeld=>?_)
    ·(first | (refine HCC.out _ ?_;(repeat' with_reducible first | assumption | exact bR | apply bD | apply bA | apply bC | apply bW | omega | simp <;> omega);done) | go_keep)
    clear hK K
    (try simp only [aP,aZ,aS,aG,aH,aI])
    refine lsu 15 rfl (by kernel_rfl) fun K hK=>?_
    go_simp
    (have SN:=Lib.hid (Sit.overL (t:=72) (cs:=[.int .i64 0,.int .i64 0,.int .i64 0,.int .i64 0]) [.int .i64 s.pallet,.int .i64 s.x,.int .i64 s.y,.int .i64 s.z] 0 (by first | exact SN.out | exact SN.out.rot2)))
    refine hK.out _ _ ?_
    clear hK K
    (try simp only [aP,aZ,aS,aG,aH,aI])
    go_wp2_with fail
    go_meet
    refine ⟨_,_,rfl,rfl,?_⟩
    (have HSN:=SN.out.rot2;clear HCC HR HU HBX SN hn2;(first | simp [setW,setL,World.setCell_alloc_at,World.setCell_alloc_past,World.size_alloc,hgl7,hgl8] at HSN | simp [setW,setL,World.setCell_alloc_at,World.setCell_alloc_past,World.size_alloc,hgl7] at HSN | simp [setW,setL,World.setCell_alloc_at,World.setCell_alloc_past,World.size_alloc,hgl8] at HSN | simp [setW,setL,World.setCell_alloc_at,World.setCell_alloc_past,World.size_alloc] at HSN);refine Lib.hid ?_;with_reducible exact HSN)
   refine .cons rfl (by kernel_rfl) (fun K hK=>?_) ?_
   ·go_simp
    (have SN:=Lib.hid (SN.out.alloc #[.int .i64 0,.int .i64 0,.int .i64 0,.int .i64 0] 72))
    refine hK.out _ _ ?_ (fun hHeld=>?_)
    ·(first | (refine HCC.out _ ?_;(repeat' with_reducible first | assumption | exact bR | apply bD | apply bA | apply bC | apply bW | omega | simp <;> omega);done) | go_keep)
    clear hK K
    (try simp only [aP,aZ,aS,aG,aH,aI])
    refine onu 6 rfl (by kernel_rfl) fun K hK=>?_
    go_simp
    ((go_at_call 53;refine (iBoxOf_any _ _ r c _ (HR.out.next SN.out.low) (HU.out.next (flat_mono _) SN.out.low)).mono ?_;rintro e w2 ⟨rfl,hb2⟩;rw [HBX.out];have hn2:=bstep (a:=w1) (by (repeat' with_reducible first | assumption | exact bR | apply bD | apply bA | apply bC | apply bW | omega | simp <;> omega)) hb2;have SN:=Lib.hid (SN.out.next hb2);(try (have hg7:=SN.out.on (fBox _ #[.int .i64 0,.int .i64 0,.int .i64 0,.int .i64 0] 75) (by first | exact .head _ | exact .tail _ (.head _));have hgc7:=fun j=>cell_of_row _ _ j _ _ (0,0) hg7;have hgf7:=fun j=>frozen_of_row _ _ j _ _ hg7;have hgl7:=lt_of_block hg7;(try simp only [World.size_alloc,World.size_drew] at hg7 hgc7 hgf7 hgl7)));(try (have hg8:=SN.out.on (fBox _ #[.int .i64 0,.int .i64 0,.int .i64 0,.int .i64 0] 72) (by first | exact .head _ | exact .tail _ (.head _));have hgc8:=fun j=>cell_of_row _ _ j _ _ (0,0) hg8;have hgf8:=fun j=>frozen_of_row _ _ j _ _ hg8;have hgl8:=lt_of_block hg8;(try simp only [World.size_alloc,World.size_drew] at hg8 hgc8 hgf8 hgl8)))))
    refine hK.out _ _ ?_ (fun hHeld=>?_)
    ·(first | (refine HCC.out _ ?_;(repeat' with_reducible first | assumption | exact bR | apply bD | apply bA | apply bC | apply bW | omega | simp <;> omega);done) | go_keep)
    clear hK K
    (try simp only [aP,aZ,aS,aG,aH,aI])
    refine onu 14 rfl (by kernel_rfl) fun K hK=>?_
    go_simp
    (have SN:=Lib.hid (Sit.overL (t:=75) (cs:=[.int .i64 0,.int .i64 0,.int .i64 0,.int .i64 0]) [.int .i64 bx.w,.int .i64 bx.d,.int .i64 bx.h,.int .i64 bx.gram] 0 (by first | exact SN.out | exact SN.out.rot2)))
    refine hK.out _ _ ?_ (fun hHeld=>?_)
    ·(first | (refine HCC.out _ ?_;(repeat' with_reducible first | assumption | exact bR | apply bD | apply bA | apply bC | apply bW | omega | simp <;> omega);done) | go_keep)
    clear hK K
    (try simp only [aP,aZ,aS,aG,aH,aI])
    refine lsu 15 rfl (by kernel_rfl) fun K hK=>?_
    go_simp
    (have SN:=Lib.hid (Sit.overL (t:=72) (cs:=[.int .i64 0,.int .i64 0,.int .i64 0,.int .i64 0]) [.int .i64 s.pallet,.int .i64 s.x,.int .i64 s.y,.int .i64 s.z] 0 (by first | exact SN.out | exact SN.out.rot2)))
    refine hK.out _ _ ?_
    clear hK K
    (try simp only [aP,aZ,aS,aG,aH,aI])
    go_wp2_with fail
    go_meet
    refine ⟨_,_,rfl,rfl,?_⟩
    (have HSN:=SN.out.rot2;clear HCC HR HU HBX SN hn2;(first | simp [setW,setL,World.setCell_alloc_at,World.setCell_alloc_past,World.size_alloc,hgl7,hgl8] at HSN | simp [setW,setL,World.setCell_alloc_at,World.setCell_alloc_past,World.size_alloc,hgl7] at HSN | simp [setW,setL,World.setCell_alloc_at,World.setCell_alloc_past,World.size_alloc,hgl8] at HSN | simp [setW,setL,World.setCell_alloc_at,World.setCell_alloc_past,World.size_alloc] at HSN);refine Lib.hid ?_;with_reducible exact HSN)
   exact .nil
  refine .cons rfl (by kernel_rfl) (fun K hK=>?_) ?_
  ·go_simp
   (have SN:=Lib.hid (SN.out.alloc #[.int .i64 0,.int .i64 0,.int .i64 0,.int .i64 0] 72))
   refine hK.out _ _ ?_ (fun hHeld=>?_)
   ·(first | (refine HCC.out _ ?_;(repeat' with_reducible first | assumption | exact bR | apply bD | apply bA | apply bC | apply bW | omega | simp <;> omega);done) | go_keep)
   clear hK K
   (try simp only [aP,aZ,aS,aG,aH,aI])
   refine smu [6,12] (by kernel_rfl) ?_
   refine .cons rfl (by kernel_rfl) (fun K hK=>?_) ?_
   ·go_simp
    ((go_at_call 53;refine (iBoxOf_any _ _ r c _ (HR.out.next SN.out.low) (HU.out.next (flat_mono _) SN.out.low)).mono ?_;rintro e w2 ⟨rfl,hb2⟩;rw [HBX.out];have hn2:=bstep (a:=w1) (by (repeat' with_reducible first | assumption | exact bR | apply bD | apply bA | apply bC | apply bW | omega | simp <;> omega)) hb2;have SN:=Lib.hid (SN.out.next hb2);(try (have hg7:=SN.out.on (fBox _ #[.int .i64 0,.int .i64 0,.int .i64 0,.int .i64 0] 75) (by first | exact .head _ | exact .tail _ (.head _));have hgc7:=fun j=>cell_of_row _ _ j _ _ (0,0) hg7;have hgf7:=fun j=>frozen_of_row _ _ j _ _ hg7;have hgl7:=lt_of_block hg7;(try simp only [World.size_alloc,World.size_drew] at hg7 hgc7 hgf7 hgl7)));(try (have hg8:=SN.out.on (fBox _ #[.int .i64 0,.int .i64 0,.int .i64 0,.int .i64 0] 72) (by first | exact .head _ | exact .tail _ (.head _));have hgc8:=fun j=>cell_of_row _ _ j _ _ (0,0) hg8;have hgf8:=fun j=>frozen_of_row _ _ j _ _ hg8;have hgl8:=lt_of_block hg8;(try simp only [World.size_alloc,World.size_drew] at hg8 hgc8 hgf8 hgl8)))))
    refine hK.out _ _ ?_ (fun hHeld=>?_)
    ·(first | (refine HCC.out _ ?_;(repeat' with_reducible first | assumption | exact bR | apply bD | apply bA | apply bC | apply bW | omega | simp <;> omega);done) | go_keep)
    clear hK K
    (try simp only [aP,aZ,aS,aG,aH,aI])
    refine onu 12 rfl (by kernel_rfl) fun K hK=>?_
    go_simp
    (have SN:=Lib.hid (SN.out.alloc #[.int .i64 0,.int .i64 0,.int .i64 0,.int .i64 0] 75))
    refine hK.out _ _ ?_ (fun hHeld=>?_)
    ·(first | (refine HCC.out _ ?_;(repeat' with_reducible first | assumption | exact bR | apply bD | apply bA | apply bC | apply bW | omega | simp <;> omega);done) | go_keep)
    clear hK K
    (try simp only [aP,aZ,aS,aG,aH,aI])
    refine onu 14 rfl (by kernel_rfl) fun K hK=>?_
    go_simp
    (have SN:=Lib.hid (Sit.overL (t:=75) (cs:=[.int .i64 0,.int .i64 0,.int .i64 0,.int .i64 0]) [.int .i64 bx.w,.int .i64 bx.d,.int .i64 bx.h,.int .i64 bx.gram] 0 (by first | exact SN.out | exact SN.out.rot2)))
    refine hK.out _ _ ?_ (fun hHeld=>?_)
    ·(first | (refine HCC.out _ ?_;(repeat' with_reducible first | assumption | exact bR | apply bD | apply bA | apply bC | apply bW | omega | simp <;> omega);done) | go_keep)
    clear hK K
    (try simp only [aP,aZ,aS,aG,aH,aI])
    refine lsu 15 rfl (by kernel_rfl) fun K hK=>?_
    go_simp
    (have SN:=Lib.hid (Sit.overL (t:=72) (cs:=[.int .i64 0,.int .i64 0,.int .i64 0,.int .i64 0]) [.int .i64 s.pallet,.int .i64 s.x,.int .i64 s.y,.int .i64 s.z] 0 (by first | exact SN.out | exact SN.out.rot2)))
    refine hK.out _ _ ?_
    clear hK K
    (try simp only [aP,aZ,aS,aG,aH,aI])
    go_wp2_with fail
    go_meet
    refine ⟨_,_,rfl,rfl,?_⟩
    (have HSN:=SN.out.rot2;clear HCC HR HU HBX SN hn2;(first | simp [setW,setL,World.setCell_alloc_at,World.setCell_alloc_past,World.size_alloc,hgl7,hgl8] at HSN | simp [setW,setL,World.setCell_alloc_at,World.setCell_alloc_past,World.size_alloc,hgl7] at HSN | simp [setW,setL,World.setCell_alloc_at,World.setCell_alloc_past,World.size_alloc,hgl8] at HSN | simp [setW,setL,World.setCell_alloc_at,World.setCell_alloc_past,World.size_alloc] at HSN);refine Lib.hid ?_;with_reducible exact HSN)
   refine .cons rfl (by kernel_rfl) (fun K hK=>?_) ?_
   ·go_simp
    (have SN:=Lib.hid (SN.out.alloc #[.int .i64 0,.int .i64 0,.int .i64 0,.int .i64 0] 75))
    refine hK.out _ _ ?_ (fun hHeld=>?_)
    ·(first | (refine HCC.out _ ?_;(repeat' with_reducible first | assumption | exact bR | apply bD | apply bA | apply bC | apply bW | omega | simp <;> omega);done) | go_keep)
    clear hK K
    (try simp only [aP,aZ,aS,aG,aH,aI])
    refine onu 6 rfl (by kernel_rfl) fun K hK=>?_
    go_simp
    ((go_at_call 53;refine (iBoxOf_any _ _ r c _ (HR.out.next SN.out.low) (HU.out.next (flat_mono _) SN.out.low)).mono ?_;rintro e w2 ⟨rfl,hb2⟩;rw [HBX.out];have hn2:=bstep (a:=w1) (by (repeat' with_reducible first | assumption | exact bR | apply bD | apply bA | apply bC | apply bW | omega | simp <;> omega)) hb2;have SN:=Lib.hid (SN.out.next hb2);(try (have hg7:=SN.out.on (fBox _ #[.int .i64 0,.int .i64 0,.int .i64 0,.int .i64 0] 75) (by first | exact .head _ | exact .tail _ (.head _));have hgc7:=fun j=>cell_of_row _ _ j _ _ (0,0) hg7;have hgf7:=fun j=>frozen_of_row _ _ j _ _ hg7;have hgl7:=lt_of_block hg7;(try simp only [World.size_alloc,World.size_drew] at hg7 hgc7 hgf7 hgl7)));(try (have hg8:=SN.out.on (fBox _ #[.int .i64 0,.int .i64 0,.int .i64 0,.int .i64 0] 72) (by first | exact .head _ | exact .tail _ (.head _));have hgc8:=fun j=>cell_of_row _ _ j _ _ (0,0) hg8;have hgf8:=fun j=>frozen_of_row _ _ j _ _ hg8;have hgl8:=lt_of_block hg8;(try simp only [World.size_alloc,World.size_drew] at hg8 hgc8 hgf8 hgl8)))))
    refine hK.out _ _ ?_ (fun hHeld=>?_)
    ·(first | (refine HCC.out _ ?_;(repeat' with_reducible first | assumption | exact bR | apply bD | apply bA | apply bC | apply bW | omega | simp <;> omega);done) | go_keep)
    clear hK K
    (try simp only [aP,aZ,aS,aG,aH,aI])
    refine onu 14 rfl (by kernel_rfl) fun K hK=>?_
    go_simp
    (have SN:=Lib.hid (Sit.overL (t:=75) (cs:=[.int .i64 0,.int .i64 0,.int .i64 0,.int .i64 0]) [.int .i64 bx.w,.int .i64 bx.d,.int .i64 bx.h,.int .i64 bx.gram] 0 (by first | exact SN.out | exact SN.out.rot2)))
    refine hK.out _ _ ?_ (fun hHeld=>?_)
    ·(first | (refine HCC.out _ ?_;(repeat' with_reducible first | assumption | exact bR | apply bD | apply bA | apply bC | apply bW | omega | simp <;> omega);done) | go_keep)
    clear hK K
    (try simp only [aP,aZ,aS,aG,aH,aI])
    refine lsu 15 rfl (by kernel_rfl) fun K hK=>?_
    go_simp
    (have SN:=Lib.hid (Sit.overL (t:=72) (cs:=[.int .i64 0,.int .i64 0,.int .i64 0,.int .i64 0]) [.int .i64 s.pallet,.int .i64 s.x,.int .i64 s.y,.int .i64 s.z] 0 (by first | exact SN.out | exact SN.out.rot2)))
    refine hK.out _ _ ?_
    clear hK K
    (try simp only [aP,aZ,aS,aG,aH,aI])
    go_wp2_with fail
    go_meet
    refine ⟨_,_,rfl,rfl,?_⟩
    (have HSN:=SN.out.rot2;clear HCC HR HU HBX SN hn2;(first | simp [setW,setL,World.setCell_alloc_at,World.setCell_alloc_past,World.size_alloc,hgl7,hgl8] at HSN | simp [setW,setL,World.setCell_alloc_at,World.setCell_alloc_past,World.size_alloc,hgl7] at HSN | simp [setW,setL,World.setCell_alloc_at,World.setCell_alloc_past,World.size_alloc,hgl8] at HSN | simp [setW,setL,World.setCell_alloc_at,World.setCell_alloc_past,World.size_alloc] at HSN);refine Lib.hid ?_;with_reducible exact HSN)
   exact .nil
  exact .nil
 case rest =>
 obtain ⟨g7,g8,rfl,rfl,SN2⟩:=hcut
 have hS:=SN2.out.alloc #[] 3
 have SN:=Lib.hid (hS.boxNil cI 1)
 have HM:=Lib.hid (show beneathI r x (n:Int)=(onPal x s.pallet).filter (benB r x (n:Int)) by rw [HM.out,HSA.out];rfl)
 have hol:=onPal_le x s.pallet
 clear hS SN2 HCC
 have k1:=SN.out.box (.tail _ (.tail _ (.tail _ (.head _))))
 have l1:=SN.out.boxlt (.tail _ (.tail _ (.tail _ (.head _))))
 have k8:=SN.out.box (.tail _ (.tail _ (.head _)))
 have l8:=SN.out.boxlt (.tail _ (.tail _ (.head _)))
 go_wp2_with fail
 refine (iOnPallet_any _ x s.pallet _ (HX.out.next SN.out.low)).mono ?_
 intro e2 w2 hm
 obtain ⟨v2,fk,rfl,hS⟩:=SN.out.gotInts hm
 obtain ⟨D,d,rfl,_⟩:=(hS.list (.head _)).form
 have SN:=Lib.hid hS.rot2
 clear k1 l1 k8 l8 hS hm
 go_wp2
 go_loopw [9,45] (fun vv i wr=>∃ (j:Nat) (fp:List Nat),j≤(onPal x s.pallet).length∧i=.int .i64 j∧Hid (Sit w wr [fOF cI 3 1 w.heap.size vv (((onPal x s.pallet).take j).filter (benB r x (n:Int))) fp,fOF cI 3 1 w.heap.size (.slice D (onPal x s.pallet).length d) (onPal x s.pallet) fk,fBox g7 #[.int .i64 bx.w,.int .i64 bx.d,.int .i64 bx.h,.int .i64 bx.gram] 75,fBox g8 #[.int .i64 s.pallet,.int .i64 s.x,.int .i64 s.y,.int .i64 s.z] 72,fBox (w.heap.size + 1) #[.slice (some ⟨b,off,none⟩) x.cartons.length ca,.slice (some ⟨b2,off2,none⟩) x.spots.length cb] 46,fBox w.heap.size (cR r A1 c1 A2 c2 A3 c3) 41])) (fun _ i _=>(onPal x s.pallet).length - (intOf i).toNat)
 case atStart=>exact ⟨0,_,Nat.zero_le _,rfl,SN⟩
 case round =>
  clear SN
  obtain ⟨j,fp,hj,rfl,SN⟩:=hrel
  by_cases hlt:j < (onPal x s.pallet).length
  ·obtain ⟨i,hi⟩:∃ i,(onPal x s.pallet)[j]? = some i:=⟨_,List.getElem?_eq_getElem hlt⟩
   obtain ⟨m,rfl,hm1,hm2⟩:=onPal_in hi
   obtain ⟨gd,rfl⟩:=head_ptr (SN.out.list (.tail _ (.head _))) hi
   have hcu:=(SN.out.list (.tail _ (.head _))).cells (fun z=>rfl) hi 0 (.int .i64 (m:Int)) rfl
   rw [Nat.mul_one,Nat.add_zero] at hcu
   obtain ⟨Ao_,co_,rfl,_⟩:=(SN.out.list (.head _)).form
   obtain ⟨_,_,c',U',cu',heq,_,hc',HU',HC'⟩:=HPA.out.one m hm1
   cases heq
   obtain ⟨_,_,t,heq,_,ht,HT2⟩:=HPB.out.one m hm2
   cases heq
   obtain ⟨by_,hby⟩:∃ bx,boxR r c'=bx:=⟨_,rfl⟩
   have HBY:=Lib.hid hby
   obtain ⟨f,hf⟩:∃ f,overB bx s by_ { t with z:=s.z } = f:=⟨_,rfl⟩
   have HF:=Lib.hid hf
   have HBN:=Lib.hid (show benB r x (n:Int) (m:Int)=(decide (wrap64 (t.z + by_.h)≤s.z) && f) by unfold benB;rw [HSA.out,HBA.out,spotAt_at ht,boxAt_nat hc',hby,hf])
   have HSTP:=Lib.hid (fun g (hg:benB r x (n:Int) (m:Int)=g)=>filter_step (p:=benB r x (n:Int)) hi hg)
   have hln:=filter_take_le (l:=onPal x s.pallet) (j:=j) (benB r x (n:Int))
   have HCC:=Lib.hid (show ∀ X:World,Below wr.heap.size wr X→(cS10 (X) (w.heap.size) (r) (.slice A1 r.pairs.length c1) (.slice A2 r.types.length c2) (.slice A3 r.items.length c3))∧(X.cell? ⟨w.heap.size + 1,0,none⟩=some (.slice (some ⟨b,off,none⟩) x.cartons.length ca)∧X.cell? ⟨w.heap.size + 1,1,none⟩=some (.slice (some ⟨b2,off2,none⟩) x.spots.length cb))∧(cC3 (X) (b) (off) (m) (c') (.slice U' c'.units.length cu'))∧cS4 (X) (b2) (off2) (m) (t) from fun X hX=>by
    have hX:=SN.out.next hX
    have c0:=hX.box (.tail _ (.tail _ (.tail _ (.tail _ (.tail _ (.head _))))))
    exact ⟨⟨c0 0,c0 1,c0 2,c0 3,c0 4,c0 5,c0 6,c0 7,c0 8,c0 9⟩,⟨hX.box (.tail _ (.tail _ (.tail _ (.tail _ (.head _))))) 0,hX.box (.tail _ (.tail _ (.tail _ (.tail _ (.head _))))) 1⟩,HC'.out X hX.low,HT2.out X hX.low⟩)
   clear hi hc' ht hby hf
   go_upto_region 8 with fail
   clear hcu
   go_cut [12,13] (fun v7 v8 X=>∃ g12 g13,v7=.pointer (some ⟨g12,0,none⟩)∧v8=.pointer (some ⟨g13,0,none⟩)∧Hid (Sit w X [fBox g12 #[.int .i64 by_.w,.int .i64 by_.d,.int .i64 by_.h,.int .i64 by_.gram] 75,fBox g13 #[.int .i64 t.pallet,.int .i64 t.x,.int .i64 t.y,.int .i64 t.z] 72,fOF cI 3 1 w.heap.size (.slice Ao_ (((onPal x s.pallet).take j).filter (benB r x (n:Int))).length co_) (((onPal x s.pallet).take j).filter (benB r x (n:Int))) fp,fOF cI 3 1 w.heap.size (.slice (some ⟨gd,0,none⟩) (onPal x s.pallet).length d) (onPal x s.pallet) fk,fBox g7 #[.int .i64 bx.w,.int .i64 bx.d,.int .i64 bx.h,.int .i64 bx.gram] 75,fBox g8 #[.int .i64 s.pallet,.int .i64 s.x,.int .i64 s.y,.int .i64 s.z] 72,fBox (w.heap.size + 1) #[.slice (some ⟨b,off,none⟩) x.cartons.length ca,.slice (some ⟨b2,off2,none⟩) x.spots.length cb] 46,fBox w.heap.size (cR r A1 c1 A2 c2 A3 c3) 41]))
   case first =>
    clear HPA HPB HX HSTP HBN HF HM HQ HBX HBA HSA HU HC HC2 HC' HT2 hln hol hla hlb hn1 hn2 hj hlt hwq hL
    refine regu (S:=(fun W'=>((cS10 (W') (w.heap.size) (r) (.slice A1 r.pairs.length c1) (.slice A2 r.types.length c2) (.slice A3 r.items.length c3)))∧(W'.cell? ⟨w.heap.size + 1,0,none⟩=some (.slice (some ⟨b,off,none⟩) x.cartons.length ca)∧W'.cell? ⟨w.heap.size + 1,1,none⟩=some (.slice (some ⟨b2,off2,none⟩) x.spots.length cb))∧(cC3 (W') (b) (off) (m) (c') (.slice U' c'.units.length cu'))∧cS4 (W') (b2) (off2) (m) (t))) (by kernel_rfl) (fun _ _ _ _ _=>id) ?_ fun hHeld=>?_
    ·(first | (refine HCC.out _ ?_;(repeat' with_reducible first | assumption | exact bR | apply bD | apply bA | apply bC | apply bW | omega | simp <;> omega);done) | go_keep)
    have SN:=Lib.hid SN.out.drew
    refine tku (b:=?_) [0,1,2,3,4,5,7,8,9,10,11] (by kernel_rfl) hHeld ?_ ?_
    rotate_left
    ·repeat first
     |exact .nil
     |refine .yes (v:=?_) rfl (by rfl) ?_ ?_
      rotate_left
      ·intro w9 hSw;(try dsimp only at hSw);go_simp;(try with_reducible rfl)
      (try simp only [aP,aZ,aS,aG,aH,aI])
    refine smu [6,12,13] (by kernel_rfl) ?_
    refine .cons rfl (by kernel_rfl) (fun K hK=>?_) ?_
    ·go_simp
     ((go_at_call 53;refine (iBoxOf_any _ _ r c' _ (HR.out.next SN.out.low) (HU'.out.next (flat_mono _) SN.out.low)).mono ?_;rintro e w2 ⟨rfl,hb2⟩;rw [HBY.out];have hn2:=bstep (a:=wr) (by (repeat' with_reducible first | assumption | exact bR | apply bD | apply bA | apply bC | apply bW | omega | simp <;> omega)) hb2;have SN:=Lib.hid (SN.out.next hb2);(try (have hg7:=SN.out.on (fBox _ #[.int .i64 0,.int .i64 0,.int .i64 0,.int .i64 0] 75) (by first | exact .head _ | exact .tail _ (.head _));have hgc7:=fun j=>cell_of_row _ _ j _ _ (0,0) hg7;have hgf7:=fun j=>frozen_of_row _ _ j _ _ hg7;have hgl7:=lt_of_block hg7;(try simp only [World.size_alloc,World.size_drew] at hg7 hgc7 hgf7 hgl7)));(try (have hg8:=SN.out.on (fBox _ #[.int .i64 0,.int .i64 0,.int .i64 0,.int .i64 0] 72) (by first | exact .head _ | exact .tail _ (.head _));have hgc8:=fun j=>cell_of_row _ _ j _ _ (0,0) hg8;have hgf8:=fun j=>frozen_of_row _ _ j _ _ hg8;have hgl8:=lt_of_block hg8;(try simp only [World.size_alloc,World.size_drew] at hg8 hgc8 hgf8 hgl8)))))
     refine hK.out _ _ ?_ (fun hHeld=>?_)
     ·(first | (refine HCC.out _ ?_;(repeat' with_reducible first | assumption | exact bR | apply bD | apply bA | apply bC | apply bW | omega | simp <;> omega);done) | go_keep)
     clear hK K
     (try simp only [aP,aZ,aS,aG,aH,aI])
     refine smu [12,13] (by kernel_rfl) ?_
     refine .cons rfl (by kernel_rfl) (fun K hK=>?_) ?_
     ·go_simp
      (have SN:=Lib.hid (SN.out.alloc #[.int .i64 0,.int .i64 0,.int .i64 0,.int .i64 0] 75))
      refine hK.out _ _ ?_ (fun hHeld=>?_)
      ·(first | (refine HCC.out _ ?_;(repeat' with_reducible first | assumption | exact bR | apply bD | apply bA | apply bC | apply bW | omega | simp <;> omega);done) | go_keep)
      clear hK K
      (try simp only [aP,aZ,aS,aG,aH,aI])
      refine onu 13 rfl (by kernel_rfl) fun K hK=>?_
      go_simp
      (have SN:=Lib.hid (SN.out.alloc #[.int .i64 0,.int .i64 0,.int .i64 0,.int .i64 0] 72))
      refine hK.out _ _ ?_ (fun hHeld=>?_)
      ·(first | (refine HCC.out _ ?_;(repeat' with_reducible first | assumption | exact bR | apply bD | apply bA | apply bC | apply bW | omega | simp <;> omega);done) | go_keep)
      clear hK K
      (try simp only [aP,aZ,aS,aG,aH,aI])
      refine onu 14 rfl (by kernel_rfl) fun K hK=>?_
      go_simp
      (have SN:=Lib.hid (Sit.overL (t:=75) (cs:=[.int .i64 0,.int .i64 0,.int .i64 0,.int .i64 0]) [.int .i64 by_.w,.int .i64 by_.d,.int .i64 by_.h,.int .i64 by_.gram] 0 (by first | exact SN.out | exact SN.out.rot2)))
      refine hK.out _ _ ?_ (fun hHeld=>?_)
      ·(first | (refine HCC.out _ ?_;(repeat' with_reducible first | assumption | exact bR | apply bD | apply bA | apply bC | apply bW | omega | simp <;> omega);done) | go_keep)
      clear hK K
      (try simp only [aP,aZ,aS,aG,aH,aI])
      refine lsu 15 rfl (by kernel_rfl) fun K hK=>?_
      go_simp
      (have SN:=Lib.hid (Sit.overL (t:=72) (cs:=[.int .i64 0,.int .i64 0,.int .i64 0,.int .i64 0]) [.int .i64 t.pallet,.int .i64 t.x,.int .i64 t.y,.int .i64 t.z] 0 (by first | exact SN.out | exact SN.out.rot2)))
      refine hK.out _ _ ?_
      clear hK K
      (try simp only [aP,aZ,aS,aG,aH,aI])
      go_wp2_with fail
      go_meet
      refine ⟨_,_,rfl,rfl,?_⟩
      (have HSN:=SN.out.rot2;clear HCC HR HU' HBY SN hn2;(first | simp [setW,setL,World.setCell_alloc_at,World.setCell_alloc_past,World.size_alloc,hgl7,hgl8] at HSN | simp [setW,setL,World.setCell_alloc_at,World.setCell_alloc_past,World.size_alloc,hgl7] at HSN | simp [setW,setL,World.setCell_alloc_at,World.setCell_alloc_past,World.size_alloc,hgl8] at HSN | simp [setW,setL,World.setCell_alloc_at,World.setCell_alloc_past,World.size_alloc] at HSN);refine Lib.hid ?_;with_reducible exact HSN)
     refine .cons rfl (by kernel_rfl) (fun K hK=>?_) ?_
     ·go_simp
      (have SN:=Lib.hid (SN.out.alloc #[.int .i64 0,.int .i64 0,.int .i64 0,.int .i64 0] 72))
      refine hK.out _ _ ?_ (fun hHeld=>?_)
      ·(first | (refine HCC.out _ ?_;(repeat' with_reducible first | assumption | exact bR | apply bD | apply bA | apply bC | apply bW | omega | simp <;> omega);done) | go_keep)
      clear hK K
      (try simp only [aP,aZ,aS,aG,aH,aI])
      refine onu 12 rfl (by kernel_rfl) fun K hK=>?_
      go_simp
      (have SN:=Lib.hid (SN.out.alloc #[.int .i64 0,.int .i64 0,.int .i64 0,.int .i64 0] 75))
      refine hK.out _ _ ?_ (fun hHeld=>?_)
      ·(first | (refine HCC.out _ ?_;(repeat' with_reducible first | assumption | exact bR | apply bD | apply bA | apply bC | apply bW | omega | simp <;> omega);done) | go_keep)
      clear hK K
      (try simp only [aP,aZ,aS,aG,aH,aI])
      refine onu 14 rfl (by kernel_rfl) fun K hK=>?_
      go_simp
      (have SN:=Lib.hid (Sit.overL (t:=75) (cs:=[.int .i64 0,.int .i64 0,.int .i64 0,.int .i64 0]) [.int .i64 by_.w,.int .i64 by_.d,.int .i64 by_.h,.int .i64 by_.gram] 0 (by first | exact SN.out | exact SN.out.rot2)))
      refine hK.out _ _ ?_ (fun hHeld=>?_)
      ·(first | (refine HCC.out _ ?_;(repeat' with_reducible first | assumption | exact bR | apply bD | apply bA | apply bC | apply bW | omega | simp <;> omega);done) | go_keep)
      clear hK K
      (try simp only [aP,aZ,aS,aG,aH,aI])
      refine lsu 15 rfl (by kernel_rfl) fun K hK=>?_
      go_simp
      (have SN:=Lib.hid (Sit.overL (t:=72) (cs:=[.int .i64 0,.int .i64 0,.int .i64 0,.int .i64 0]) [.int .i64 t.pallet,.int .i64 t.x,.int .i64 t.y,.int .i64 t.z] 0 (by first | exact SN.out | exact SN.out.rot2)))
      refine hK.out _ _ ?_
      clear hK K
      (try simp only [aP,aZ,aS,aG,aH,aI])
      go_wp2_with fail
      go_meet
      refine ⟨_,_,rfl,rfl,?_⟩
      (have HSN:=SN.out.rot2;clear HCC HR HU' HBY SN hn2;(first | simp [setW,setL,World.setCell_alloc_at,World.setCell_alloc_past,World.size_alloc,hgl7,hgl8] at HSN | simp [setW,setL,World.setCell_alloc_at,World.setCell_alloc_past,World.size_alloc,hgl7] at HSN | simp [setW,setL,World.setCell_alloc_at,World.setCell_alloc_past,World.size_alloc,hgl8] at HSN | simp [setW,setL,World.setCell_alloc_at,World.setCell_alloc_past,World.size_alloc] at HSN);refine Lib.hid ?_;with_reducible exact HSN)
     exact .nil
    refine .cons rfl (by kernel_rfl) (fun K hK=>?_) ?_
    ·go_simp
     (have SN:=Lib.hid (SN.out.alloc #[.int .i64 0,.int .i64 0,.int .i64 0,.int .i64 0] 75))
     refine hK.out _ _ ?_ (fun hHeld=>?_)
     ·(first | (refine HCC.out _ ?_;(repeat' with_reducible first | assumption | exact bR | apply bD | apply bA | apply bC | apply bW | omega | simp <;> omega);done) | go_keep)
     clear hK K
     (try simp only [aP,aZ,aS,aG,aH,aI])
     refine smu [6,13] (by kernel_rfl) ?_
     refine .cons rfl (by kernel_rfl) (fun K hK=>?_) ?_
     ·go_simp
      ((go_at_call 53;refine (iBoxOf_any _ _ r c' _ (HR.out.next SN.out.low) (HU'.out.next (flat_mono _) SN.out.low)).mono ?_;rintro e w2 ⟨rfl,hb2⟩;rw [HBY.out];have hn2:=bstep (a:=wr) (by (repeat' with_reducible first | assumption | exact bR | apply bD | apply bA | apply bC | apply bW | omega | simp <;> omega)) hb2;have SN:=Lib.hid (SN.out.next hb2);(try (have hg7:=SN.out.on (fBox _ #[.int .i64 0,.int .i64 0,.int .i64 0,.int .i64 0] 75) (by first | exact .head _ | exact .tail _ (.head _));have hgc7:=fun j=>cell_of_row _ _ j _ _ (0,0) hg7;have hgf7:=fun j=>frozen_of_row _ _ j _ _ hg7;have hgl7:=lt_of_block hg7;(try simp only [World.size_alloc,World.size_drew] at hg7 hgc7 hgf7 hgl7)));(try (have hg8:=SN.out.on (fBox _ #[.int .i64 0,.int .i64 0,.int .i64 0,.int .i64 0] 72) (by first | exact .head _ | exact .tail _ (.head _));have hgc8:=fun j=>cell_of_row _ _ j _ _ (0,0) hg8;have hgf8:=fun j=>frozen_of_row _ _ j _ _ hg8;have hgl8:=lt_of_block hg8;(try simp only [World.size_alloc,World.size_drew] at hg8 hgc8 hgf8 hgl8)))))
      refine hK.out _ _ ?_ (fun hHeld=>?_)
      ·(first | (refine HCC.out _ ?_;(repeat' with_reducible first | assumption | exact bR | apply bD | apply bA | apply bC | apply bW | omega | simp <;> omega);done) | go_keep)
      clear hK K
      (try simp only [aP,aZ,aS,aG,aH,aI])
      refine onu 13 rfl (by kernel_rfl) fun K hK=>?_
      go_simp
      (have SN:=Lib.hid (SN.out.alloc #[.int .i64 0,.int .i64 0,.int .i64 0,.int .i64 0] 72))
      refine hK.out _ _ ?_ (fun hHeld=>?_)
      ·(first | (refine HCC.out _ ?_;(repeat' with_reducible first | assumption | exact bR | apply bD | apply bA | apply bC | apply bW | omega | simp <;> omega);done) | go_keep)
      clear hK K
      (try simp only [aP,aZ,aS,aG,aH,aI])
      refine onu 14 rfl (by kernel_rfl) fun K hK=>?_
      go_simp
      (have SN:=Lib.hid (Sit.overL (t:=75) (cs:=[.int .i64 0,.int .i64 0,.int .i64 0,.int .i64 0]) [.int .i64 by_.w,.int .i64 by_.d,.int .i64 by_.h,.int .i64 by_.gram] 0 (by first | exact SN.out | exact SN.out.rot2)))
      refine hK.out _ _ ?_ (fun hHeld=>?_)
      ·(first | (refine HCC.out _ ?_;(repeat' with_reducible first | assumption | exact bR | apply bD | apply bA | apply bC | apply bW | omega | simp <;> omega);done) | go_keep)
      clear hK K
      (try simp only [aP,aZ,aS,aG,aH,aI])
      refine lsu 15 rfl (by kernel_rfl) fun K hK=>?_
      go_simp
      (have SN:=Lib.hid (Sit.overL (t:=72) (cs:=[.int .i64 0,.int .i64 0,.int .i64 0,.int .i64 0]) [.int .i64 t.pallet,.int .i64 t.x,.int .i64 t.y,.int .i64 t.z] 0 (by first | exact SN.out | exact SN.out.rot2)))
      refine hK.out _ _ ?_
      clear hK K
      (try simp only [aP,aZ,aS,aG,aH,aI])
      go_wp2_with fail
      go_meet
      refine ⟨_,_,rfl,rfl,?_⟩
      (have HSN:=SN.out.rot2;clear HCC HR HU' HBY SN hn2;(first | simp [setW,setL,World.setCell_alloc_at,World.setCell_alloc_past,World.size_alloc,hgl7,hgl8] at HSN | simp [setW,setL,World.setCell_alloc_at,World.setCell_alloc_past,World.size_alloc,hgl7] at HSN | simp [setW,setL,World.setCell_alloc_at,World.setCell_alloc_past,World.size_alloc,hgl8] at HSN | simp [setW,setL,World.setCell_alloc_at,World.setCell_alloc_past,World.size_alloc] at HSN);refine Lib.hid ?_;with_reducible exact HSN)
     refine .cons rfl (by kernel_rfl) (fun K hK=>?_) ?_
     ·go_simp
      (have SN:=Lib.hid (SN.out.alloc #[.int .i64 0,.int .i64 0,.int .i64 0,.int .i64 0] 72))
      refine hK.out _ _ ?_ (fun hHeld=>?_)
      ·(first | (refine HCC.out _ ?_;(repeat' with_reducible first | assumption | exact bR | apply bD | apply bA | apply bC | apply bW | omega | simp <;> omega);done) | go_keep)
      clear hK K
      (try simp only [aP,aZ,aS,aG,aH,aI])
      refine onu 6 rfl (by kernel_rfl) fun K hK=>?_
      go_simp
      ((go_at_call 53;refine (iBoxOf_any _ _ r c' _ (HR.out.next SN.out.low) (HU'.out.next (flat_mono _) SN.out.low)).mono ?_;rintro e w2 ⟨rfl,hb2⟩;rw [HBY.out];have hn2:=bstep (a:=wr) (by (repeat' with_reducible first | assumption | exact bR | apply bD | apply bA | apply bC | apply bW | omega | simp <;> omega)) hb2;have SN:=Lib.hid (SN.out.next hb2);(try (have hg7:=SN.out.on (fBox _ #[.int .i64 0,.int .i64 0,.int .i64 0,.int .i64 0] 75) (by first | exact .head _ | exact .tail _ (.head _));have hgc7:=fun j=>cell_of_row _ _ j _ _ (0,0) hg7;have hgf7:=fun j=>frozen_of_row _ _ j _ _ hg7;have hgl7:=lt_of_block hg7;(try simp only [World.size_alloc,World.size_drew] at hg7 hgc7 hgf7 hgl7)));(try (have hg8:=SN.out.on (fBox _ #[.int .i64 0,.int .i64 0,.int .i64 0,.int .i64 0] 72) (by first | exact .head _ | exact .tail _ (.head _));have hgc8:=fun j=>cell_of_row _ _ j _ _ (0,0) hg8;have hgf8:=fun j=>frozen_of_row _ _ j _ _ hg8;have hgl8:=lt_of_block hg8;(try simp only [World.size_alloc,World.size_drew] at hg8 hgc8 hgf8 hgl8)))))
      refine hK.out _ _ ?_ (fun hHeld=>?_)
      ·(first | (refine HCC.out _ ?_;(repeat' with_reducible first | assumption | exact bR | apply bD | apply bA | apply bC | apply bW | omega | simp <;> omega);done) | go_keep)
      clear hK K
      (try simp only [aP,aZ,aS,aG,aH,aI])
      refine onu 14 rfl (by kernel_rfl) fun K hK=>?_
      go_simp
      (have SN:=Lib.hid (Sit.overL (t:=75) (cs:=[.int .i64 0,.int .i64 0,.int .i64 0,.int .i64 0]) [.int .i64 by_.w,.int .i64 by_.d,.int .i64 by_.h,.int .i64 by_.gram] 0 (by first | exact SN.out | exact SN.out.rot2)))
      refine hK.out _ _ ?_ (fun hHeld=>?_)
      ·(first | (refine HCC.out _ ?_;(repeat' with_reducible first | assumption | exact bR | apply bD | apply bA | apply bC | apply bW | omega | simp <;> omega);done) | go_keep)
      clear hK K
      (try simp only [aP,aZ,aS,aG,aH,aI])
      refine lsu 15 rfl (by kernel_rfl) fun K hK=>?_
      go_simp
      (have SN:=Lib.hid (Sit.overL (t:=72) (cs:=[.int .i64 0,.int .i64 0,.int .i64 0,.int .i64 0]) [.int .i64 t.pallet,.int .i64 t.x,.int .i64 t.y,.int .i64 t.z] 0 (by first | exact SN.out | exact SN.out.rot2)))
      refine hK.out _ _ ?_
      clear hK K
      (try simp only [aP,aZ,aS,aG,aH,aI])
      go_wp2_with fail
      go_meet
      refine ⟨_,_,rfl,rfl,?_⟩
      (have HSN:=SN.out.rot2;clear HCC HR HU' HBY SN hn2;(first | simp [setW,setL,World.setCell_alloc_at,World.setCell_alloc_past,World.size_alloc,hgl7,hgl8] at HSN | simp [setW,setL,World.setCell_alloc_at,World.setCell_alloc_past,World.size_alloc,hgl7] at HSN | simp [setW,setL,World.setCell_alloc_at,World.setCell_alloc_past,World.size_alloc,hgl8] at HSN | simp [setW,setL,World.setCell_alloc_at,World.setCell_alloc_past,World.size_alloc] at HSN);refine Lib.hid ?_;with_reducible exact HSN)
     exact .nil
    refine .cons rfl (by kernel_rfl) (fun K hK=>?_) ?_
    ·go_simp
     (have SN:=Lib.hid (SN.out.alloc #[.int .i64 0,.int .i64 0,.int .i64 0,.int .i64 0] 72))
     refine hK.out _ _ ?_ (fun hHeld=>?_)
     ·(first | (refine HCC.out _ ?_;(repeat' with_reducible first | assumption | exact bR | apply bD | apply bA | apply bC | apply bW | omega | simp <;> omega);done) | go_keep)
     clear hK K
     (try simp only [aP,aZ,aS,aG,aH,aI])
     refine smu [6,12] (by kernel_rfl) ?_
     refine .cons rfl (by kernel_rfl) (fun K hK=>?_) ?_
     ·go_simp
      ((go_at_call 53;refine (iBoxOf_any _ _ r c' _ (HR.out.next SN.out.low) (HU'.out.next (flat_mono _) SN.out.low)).mono ?_;rintro e w2 ⟨rfl,hb2⟩;rw [HBY.out];have hn2:=bstep (a:=wr) (by (repeat' with_reducible first | assumption | exact bR | apply bD | apply bA | apply bC | apply bW | omega | simp <;> omega)) hb2;have SN:=Lib.hid (SN.out.next hb2);(try (have hg7:=SN.out.on (fBox _ #[.int .i64 0,.int .i64 0,.int .i64 0,.int .i64 0] 75) (by first | exact .head _ | exact .tail _ (.head _));have hgc7:=fun j=>cell_of_row _ _ j _ _ (0,0) hg7;have hgf7:=fun j=>frozen_of_row _ _ j _ _ hg7;have hgl7:=lt_of_block hg7;(try simp only [World.size_alloc,World.size_drew] at hg7 hgc7 hgf7 hgl7)));(try (have hg8:=SN.out.on (fBox _ #[.int .i64 0,.int .i64 0,.int .i64 0,.int .i64 0] 72) (by first | exact .head _ | exact .tail _ (.head _));have hgc8:=fun j=>cell_of_row _ _ j _ _ (0,0) hg8;have hgf8:=fun j=>frozen_of_row _ _ j _ _ hg8;have hgl8:=lt_of_block hg8;(try simp only [World.size_alloc,World.size_drew] at hg8 hgc8 hgf8 hgl8)))))
      refine hK.out _ _ ?_ (fun hHeld=>?_)
      ·(first | (refine HCC.out _ ?_;(repeat' with_reducible first | assumption | exact bR | apply bD | apply bA | apply bC | apply bW | omega | simp <;> omega);done) | go_keep)
      clear hK K
      (try simp only [aP,aZ,aS,aG,aH,aI])
      refine onu 12 rfl (by kernel_rfl) fun K hK=>?_
      go_simp
      (have SN:=Lib.hid (SN.out.alloc #[.int .i64 0,.int .i64 0,.int .i64 0,.int .i64 0] 75))
      refine hK.out _ _ ?_ (fun hHeld=>?_)
      ·(first | (refine HCC.out _ ?_;(repeat' with_reducible first | assumption | exact bR | apply bD | apply bA | apply bC | apply bW | omega | simp <;> omega);done) | go_keep)
      clear hK K
      (try simp only [aP,aZ,aS,aG,aH,aI])
      refine onu 14 rfl (by kernel_rfl) fun K hK=>?_
      go_simp
      (have SN:=Lib.hid (Sit.overL (t:=75) (cs:=[.int .i64 0,.int .i64 0,.int .i64 0,.int .i64 0]) [.int .i64 by_.w,.int .i64 by_.d,.int .i64 by_.h,.int .i64 by_.gram] 0 (by first | exact SN.out | exact SN.out.rot2)))
      refine hK.out _ _ ?_ (fun hHeld=>?_)
      ·(first | (refine HCC.out _ ?_;(repeat' with_reducible first | assumption | exact bR | apply bD | apply bA | apply bC | apply bW | omega | simp <;> omega);done) | go_keep)
      clear hK K
      (try simp only [aP,aZ,aS,aG,aH,aI])
      refine lsu 15 rfl (by kernel_rfl) fun K hK=>?_
      go_simp
      (have SN:=Lib.hid (Sit.overL (t:=72) (cs:=[.int .i64 0,.int .i64 0,.int .i64 0,.int .i64 0]) [.int .i64 t.pallet,.int .i64 t.x,.int .i64 t.y,.int .i64 t.z] 0 (by first | exact SN.out | exact SN.out.rot2)))
      refine hK.out _ _ ?_
      clear hK K
      (try simp only [aP,aZ,aS,aG,aH,aI])
      go_wp2_with fail
      go_meet
      refine ⟨_,_,rfl,rfl,?_⟩
      (have HSN:=SN.out.rot2;clear HCC HR HU' HBY SN hn2;(first | simp [setW,setL,World.setCell_alloc_at,World.setCell_alloc_past,World.size_alloc,hgl7,hgl8] at HSN | simp [setW,setL,World.setCell_alloc_at,World.setCell_alloc_past,World.size_alloc,hgl7] at HSN | simp [setW,setL,World.setCell_alloc_at,World.setCell_alloc_past,World.size_alloc,hgl8] at HSN | simp [setW,setL,World.setCell_alloc_at,World.setCell_alloc_past,World.size_alloc] at HSN);refine Lib.hid ?_;with_reducible exact HSN)
     refine .cons rfl (by kernel_rfl) (fun K hK=>?_) ?_
     ·go_simp
      (have SN:=Lib.hid (SN.out.alloc #[.int .i64 0,.int .i64 0,.int .i64 0,.int .i64 0] 75))
      refine hK.out _ _ ?_ (fun hHeld=>?_)
      ·(first | (refine HCC.out _ ?_;(repeat' with_reducible first | assumption | exact bR | apply bD | apply bA | apply bC | apply bW | omega | simp <;> omega);done) | go_keep)
      clear hK K
      (try simp only [aP,aZ,aS,aG,aH,aI])
      refine onu 6 rfl (by kernel_rfl) fun K hK=>?_
      go_simp
      ((go_at_call 53;refine (iBoxOf_any _ _ r c' _ (HR.out.next SN.out.low) (HU'.out.next (flat_mono _) SN.out.low)).mono ?_;rintro e w2 ⟨rfl,hb2⟩;rw [HBY.out];have hn2:=bstep (a:=wr) (by (repeat' with_reducible first | assumption | exact bR | apply bD | apply bA | apply bC | apply bW | omega | simp <;> omega)) hb2;have SN:=Lib.hid (SN.out.next hb2);(try (have hg7:=SN.out.on (fBox _ #[.int .i64 0,.int .i64 0,.int .i64 0,.int .i64 0] 75) (by first | exact .head _ | exact .tail _ (.head _));have hgc7:=fun j=>cell_of_row _ _ j _ _ (0,0) hg7;have hgf7:=fun j=>frozen_of_row _ _ j _ _ hg7;have hgl7:=lt_of_block hg7;(try simp only [World.size_alloc,World.size_drew] at hg7 hgc7 hgf7 hgl7)));(try (have hg8:=SN.out.on (fBox _ #[.int .i64 0,.int .i64 0,.int .i64 0,.int .i64 0] 72) (by first | exact .head _ | exact .tail _ (.head _));have hgc8:=fun j=>cell_of_row _ _ j _ _ (0,0) hg8;have hgf8:=fun j=>frozen_of_row _ _ j _ _ hg8;have hgl8:=lt_of_block hg8;(try simp only [World.size_alloc,World.size_drew] at hg8 hgc8 hgf8 hgl8)))))
      refine hK.out _ _ ?_ (fun hHeld=>?_)
      ·(first | (refine HCC.out _ ?_;(repeat' with_reducible first | assumption | exact bR | apply bD | apply bA | apply bC | apply bW | omega | simp <;> omega);done) | go_keep)
      clear hK K
      (try simp only [aP,aZ,aS,aG,aH,aI])
      refine onu 14 rfl (by kernel_rfl) fun K hK=>?_
      go_simp
      (have SN:=Lib.hid (Sit.overL (t:=75) (cs:=[.int .i64 0,.int .i64 0,.int .i64 0,.int .i64 0]) [.int .i64 by_.w,.int .i64 by_.d,.int .i64 by_.h,.int .i64 by_.gram] 0 (by first | exact SN.out | exact SN.out.rot2)))
      refine hK.out _ _ ?_ (fun hHeld=>?_)
      ·(first | (refine HCC.out _ ?_;(repeat' with_reducible first | assumption | exact bR | apply bD | apply bA | apply bC | apply bW | omega | simp <;> omega);done) | go_keep)
      clear hK K
      (try simp only [aP,aZ,aS,aG,aH,aI])
      refine lsu 15 rfl (by kernel_rfl) fun K hK=>?_
      go_simp
      (have SN:=Lib.hid (Sit.overL (t:=72) (cs:=[.int .i64 0,.int .i64 0,.int .i64 0,.int .i64 0]) [.int .i64 t.pallet,.int .i64 t.x,.int .i64 t.y,.int .i64 t.z] 0 (by first | exact SN.out | exact SN.out.rot2)))
      refine hK.out _ _ ?_
      clear hK K
      (try simp only [aP,aZ,aS,aG,aH,aI])
      go_wp2_with fail
      go_meet
      refine ⟨_,_,rfl,rfl,?_⟩
      (have HSN:=SN.out.rot2;clear HCC HR HU' HBY SN hn2;(first | simp [setW,setL,World.setCell_alloc_at,World.setCell_alloc_past,World.size_alloc,hgl7,hgl8] at HSN | simp [setW,setL,World.setCell_alloc_at,World.setCell_alloc_past,World.size_alloc,hgl7] at HSN | simp [setW,setL,World.setCell_alloc_at,World.setCell_alloc_past,World.size_alloc,hgl8] at HSN | simp [setW,setL,World.setCell_alloc_at,World.setCell_alloc_past,World.size_alloc] at HSN);refine Lib.hid ?_;with_reducible exact HSN)
     exact .nil
    exact .nil
   case rest =>
    obtain ⟨g12,g13,rfl,rfl,SN2⟩:=hcut
    have SN:=SN2
    clear SN2 HCC
    have k12:=SN.out.box (.head _)
    have l12:=SN.out.boxlt (.head _)
    have k13:=SN.out.box (.tail _ (.head _))
    have l13:=SN.out.boxlt (.tail _ (.head _))
    have hg13:=SN.out.on (fBox g13 #[.int .i64 t.pallet,.int .i64 t.x,.int .i64 t.y,.int .i64 t.z] 72) (.tail _ (.head _))
    have hf13:=fun j=>frozen_of_row _ _ j _ _ hg13
    clear hg13
    have k8:=SN.out.box (.tail _ (.tail _ (.tail _ (.tail _ (.tail _ (.head _))))))
    have l8:=SN.out.boxlt (.tail _ (.tail _ (.tail _ (.tail _ (.tail _ (.head _))))))
    by_cases hgt:s.z < IntKind.i64.wrap (t.z + by_.h)
    ·have HST:=Lib.hid (HSTP.out false (by rw [HBN.out,decide_eq_false (by rw [← wrapE];omega)];rfl))
     have hd:decide (s.z < IntKind.i64.wrap (t.z + by_.h))=true:=decide_eq_true hgt
     have hd2:decide (s.z < wrap64 (t.z + by_.h))=true:=by rw [← wrapE];exact hd
     clear HSTP HBN
     go_wp2
     go_roundw
     case rel=>exact ⟨j + 1,_,hlt,by go_num,by rw [HST.out];simpa using Lib.hid SN.out.drop.drop⟩
     case measure=>simp [intOf] <;> omega
    ·have HST:=Lib.hid (HSTP.out f (by rw [HBN.out,decide_eq_true (by rw [← wrapE];omega)];rfl))
     have hd:decide (s.z < IntKind.i64.wrap (t.z + by_.h))=false:=decide_eq_false hgt
     have hd2:decide (s.z < wrap64 (t.z + by_.h))=false:=by rw [← wrapE];exact hd
     have hS:=SN.out.rot2.store 3 (.int .i64 s.z)
     obtain ⟨W2,hW2⟩:∃ W2,wc.setCell ⟨g13,3,none⟩ (.int .i64 s.z)=W2:=⟨_,rfl⟩
     rw [hW2] at hS
     have q13:∀ j,W2.cell? ⟨g13,j,none⟩=(#[.int .i64 t.pallet,.int .i64 t.x,.int .i64 t.y,.int .i64 s.z]:Array Value)[j]?:=hS.box (.head _)
     have q12:=hS.box (.tail _ (.head _))
     have q7:=hS.box (.tail _ (.tail _ (.tail _ (.tail _ (.head _)))))
     have q8:=hS.box (.tail _ (.tail _ (.tail _ (.tail _ (.tail _ (.head _))))))
     have SN:=Lib.hid hS.drop.drop
     clear HSTP HBN hgt hS
     cases f
     ·go_wp2_with (go_at_call 115;refine (iOverlap_any bx s by_ { t with z:=s.z } _).mono ?_;rintro e w5 ⟨rfl,hb5⟩;rw [HF.out];have SN:=Lib.hid (SN.out.next hb5))
      go_roundw
      case rel=>exact ⟨j + 1,_,hlt,by go_num,by rw [HST.out];simpa using SN⟩
      case measure=>simp [intOf] <;> omega
     ·go_wp2_with (first | (go_at_call 115;refine (iOverlap_any bx s by_ { t with z:=s.z } _).mono ?_;rintro e w5 ⟨rfl,hb5⟩;rw [HF.out];have SN:=Lib.hid (SN.out.next hb5)) | (at_builtin;refine papp_Int _ _ rfl rfl ((m:Int)) rfl rfl (alloc_at (by first | rfl | (simp;done) | (simp;omega))) rfl ((SN.out.list (.head _)).next (by repeat' with_reducible first | assumption | exact bR | apply bD | apply bA | apply bC | apply bN | simp <;> omega)) (by first | omega | (simp;omega)) (by have:=SN.out.low.size;first | omega | (simp;done) | (simp;omega) | (simp at this ⊢;omega)) ?_;intro v7 w7 ha;obtain ⟨g7,S7⟩:=(SN.out.next (by repeat' with_reducible first | assumption | exact bR | apply bD | apply bA | apply bC | apply bN | simp <;> omega)).app ha;have S8:=Lib.hid S7;clear S7 ha))
      go_roundw
      case rel=>exact ⟨j + 1,_,hlt,by go_num,by rw [HST.out];exact S8⟩
      case measure=>simp [intOf] <;> omega
  ·obtain rfl:j=(onPal x s.pallet).length:=by omega
   rw [List.take_length] at SN
   go_wp2
   go_ret
   rw [HM.out]
   exact SN.out.ints
end Go.Proofs.YtioijfplbgpjpaaGreat
namespace Go.Proofs.YtioijfplbgpjpaaGreat
set_option linter.unusedVariables false
set_option linter.unusedSimpArgs false
set_option maxRecDepth 100000
open Go.RowKit Go.WideShapes Go.ChangeShapes Go.ChangeAt Go.Deep
theorem wrap_pred2 {n:Nat} (h:n≤16777216):wrap64 ((n:Int) - 1)=(n:Int) - 1:=by unfold wrap64;omega
theorem rng_step {p:Nat→Bool} {j:Nat} {f:Bool} (h:p j=f):((List.range (j + 1)).filter p).map Int.ofNat=((List.range j).filter p).map Int.ofNat ++ (if f=true then [(j:Int)] else []):=by
 rw [List.range_succ,List.filter_append,List.map_append]
 cases f <;> simp [List.filter_cons,h]
theorem range_le (p:Nat→Bool) (j:Nat):(((List.range j).filter p).map Int.ofNat).length≤j:=by
 rw [List.length_map];exact Nat.le_trans (List.length_filter_le _ _) (by simp)
theorem beneath_len (r:Request) (x:Plan) (i:Int):(beneathI r x i).length≤x.cartons.length:=by
 rw [beneath_eq];unfold beneathS;split
 ·exact range_le _ _
 ·simp
set_option maxRecDepth 100000 in
set_option maxHeartbeats 20000000 in
theorem sBeneath_any (v vx:Value) (r:Request) (x:Plan) (i:Int) (w:World) (h:RReq 16777216 w w.heap.size v r) (hx:RPlan 16777216 w w.heap.size vx x) (hL:x.bulk≤16777216):Calls Tryz.prog 36 #[v,vx,.int .i64 i] w (MInts w (beneathI r x i)):=by
 rw [beneath_eq]
 have HR:=Lib.hid h
 have HX:=Lib.hid hx
 obtain ⟨A1,c1,A2,c2,A3,c3,rfl,_⟩:=h.opn
 obtain ⟨PA,ca,PB,cb,rfl,HPA,HPB,hla,hlb⟩:=hx.opn
 have hS:=(((Sit.here w).alloc (cR r A1 c1 A2 c2 A3 c3) 41).alloc #[.slice PA x.cartons.length ca,.slice PB x.spots.length cb] 46).alloc #[] 3
 simp only [World.size_alloc] at hS
 have SN:=Lib.hid (hS.boxNil cI 1)
 have hwp:=wrap_pred2 hla
 have hwq:IntKind.i64.wrap ((x.cartons.length:Int) - 1)=(x.cartons.length:Int) - 1:=by rw [wrapE];exact hwp
 obtain ⟨f,hf⟩:∃ f,inB i 0 ((x.cartons.length:Int) - 1)=f:=⟨_,rfl⟩
 have HF:=Lib.hid hf
 obtain ⟨q,hq⟩:∃ q,feasible r x=q:=⟨_,rfl⟩
 have HQ:=Lib.hid hq
 have HM:=Lib.hid (show beneathS r x i=if (q && f)=true then ((List.range x.cartons.length).filter (benS r x i)).map Int.ofNat else [] by unfold beneathS;rw [hf,hq])
 clear h hx hS hf hq hwp
 go_enter Tryz.func36,Tryz.ntmps36
 have k1:=SN.out.box (.tail _ (.head _));have l1:=SN.out.boxlt (.tail _ (.head _));have k0:=SN.out.box (.tail _ (.tail _ (.head _)));have l0:=SN.out.boxlt (.tail _ (.tail _ (.head _)))
 go_wp2_with fail
 refine (sFeasible_any _ _ r x _ (HR.out.next SN.out.low) (HX.out.next SN.out.low) hL).mono ?_
 rintro e1 w1 ⟨rfl,hb1⟩
 rw [HQ.out]
 have SN:=Lib.hid (SN.out.next hb1)
 clear k0 l0 k1 l1 hb1
 cases q
 ·go_wp2
  go_ret
  rw [HM.out]
  exact SN.out.ints
 have k1:=SN.out.box (.tail _ (.head _))
 have l1:=SN.out.boxlt (.tail _ (.head _))
 cases f
 ·go_wp2_with (go_at_call 104;(try simp only [wrapE]);refine (l1In_any _ _ _ _).mono ?_;rintro e w' ⟨rfl,rfl⟩;rw [HF.out])
  go_ret
  rw [HM.out]
  exact SN.out.ints
 obtain ⟨h0,h1⟩:=inB_iff.1 HF.out
 obtain ⟨n,rfl⟩:∃ n:Nat,i=n:=⟨i.toNat,by omega⟩
 obtain ⟨hfl,_⟩:=feas_len HQ.out
 have hn1:n < x.cartons.length:=by omega
 have hn2:n < x.spots.length:=by omega
 have HFL:=Lib.hid hfl
 clear hfl
 have hidx:(0:Int)≤(n:Int):=by omega
 clear h0 h1
 obtain ⟨b,off,c,U,cu,rfl,hb,hc,HU,HC⟩:=HPA.out.one n hn1
 obtain ⟨b2,off2,s,rfl,hb2,hs,HC2⟩:=HPB.out.one n hn2
 obtain ⟨bx,hbx⟩:∃ bx,boxR r c=bx:=⟨_,rfl⟩
 have HBX:=Lib.hid hbx
 have HSA:=Lib.hid (spotAt_at hs)
 have HBA:=Lib.hid (show boxAt r x (n:Int)=bx by rw [boxAt_nat hc,hbx])
 have HM:=Lib.hid (show beneathS r x (n:Int)=((List.range x.cartons.length).filter (benS r x (n:Int))).map Int.ofNat by rw [HM.out];rfl)
 have HCC:=Lib.hid (show ∀ X:World,Below w1.heap.size w1 X→(cS10 (X) (w.heap.size) (r) (.slice A1 r.pairs.length c1) (.slice A2 r.types.length c2) (.slice A3 r.items.length c3))∧X.cell? ⟨w.heap.size + 1,0,none⟩=some (.slice (some ⟨b,off,none⟩) x.cartons.length ca)∧(cC3 (X) (b) (off) (n) (c) (.slice U c.units.length cu)) from fun X hX=>by
  have hX:=SN.out.next hX
  have c0:=hX.box (.tail _ (.tail _ (.head _)))
  exact ⟨⟨c0 0,c0 1,c0 2,c0 3,c0 4,c0 5,c0 6,c0 7,c0 8,c0 9⟩,hX.box (.tail _ (.head _)) 0,HC.out X hX.low⟩)
 clear hc hs hbx
 go_upto_region 4 with (go_at_call 104;(try simp only [wrapE]);refine (l1In_any _ _ _ _).mono ?_;rintro e w' ⟨rfl,rfl⟩;rw [HF.out])
 clear k1 l1
 go_cut [8] (fun v8 X=>∃ g8,v8=.pointer (some ⟨g8,0,none⟩)∧Hid (Sit w X [fBox g8 #[.int .i64 bx.w,.int .i64 bx.d,.int .i64 bx.h,.int .i64 bx.gram] 75,fOF cI 3 1 w.heap.size (.slice (some ⟨w.heap.size + 1 + 1,0,none⟩) 0 0) (([]:List Int)) [w.heap.size + 1 + 1],fBox (w.heap.size + 1) #[.slice (some ⟨b,off,none⟩) x.cartons.length ca,.slice (some ⟨b2,off2,none⟩) x.spots.length cb] 46,fBox w.heap.size (cR r A1 c1 A2 c2 A3 c3) 41]))
 case first =>
  go_region_held3 (fun W'=>((cS10 (W') (w.heap.size) (r) (.slice A1 r.pairs.length c1) (.slice A2 r.types.length c2) (.slice A3 r.items.length c3)))∧W'.cell? ⟨w.heap.size + 1,0,none⟩=some (.slice (some ⟨b,off,none⟩) x.cartons.length ca)∧(cC3 (W') (b) (off) (n) (c) (.slice U c.units.length cu))) (first | (refine HCC.out _ ?_;(repeat' with_reducible first | assumption | exact bR | apply bD | apply bA | apply bC | apply bW | omega | simp <;> omega);done) | go_keep) (first | (go_at_call 91;(try (first | refine calls_new ?_ | refine calls_newd ?_);intro hg);refine (sBoxOf_any _ _ r c _ (HR.out.next (SN.out.next (by (repeat' with_reducible first | assumption | exact bR | apply bD | apply bA | apply bC | apply bW | omega | simp <;> omega))).low) (HU.out.next (flat_mono _) (SN.out.next (by (repeat' with_reducible first | assumption | exact bR | apply bD | apply bA | apply bC | apply bW | omega | simp <;> omega))).low)).mono ?_;rintro e w2 ⟨rfl,hb2⟩;rw [HBX.out];have hn2:=bstep (a:=w1) (by (repeat' with_reducible first | assumption | exact bR | apply bD | apply bA | apply bC | apply bW | omega | simp <;> omega)) hb2;have hz2:=hn2.size;have hj2:=hb2.size;(try simp only [World.size_alloc,World.size_drew] at hj2);have SE:=Lib.hid ((SN.out.drew.alloc #[.int .i64 0,.int .i64 0,.int .i64 0,.int .i64 0] 75));(first | (have SE:=Lib.hid (SE.out.next hb2)) | skip);have SN:=Lib.hid ((SN.out.next (by (repeat' with_reducible first | assumption | exact bR | apply bD | apply bA | apply bC | apply bW | omega | simp <;> omega))).next hb2);(try (have hg:=blk_next hg hb2;have hgc:=fun j=>cell_of_row _ _ j _ _ (0,0) hg;have hgf:=fun j=>frozen_of_row _ _ j _ _ hg;have hgl:=lt_of_block hg))))
  (all_goals (go_wp2_with fail;go_meet));(first | (exact ⟨_,rfl,Lib.hid (SN.out.alloc _ _)⟩) | skip);(all_goals exact ⟨_,rfl,Lib.hid (SE.out.overL [.int .i64 bx.w,.int .i64 bx.d,.int .i64 bx.h,.int .i64 bx.gram] 0)⟩)
 case rest =>
 obtain ⟨g8,rfl,SN2⟩:=hcut
 have SN:=Lib.hid SN2.out.rot2
 clear SN2 HCC
 have k1:=SN.out.box (.tail _ (.tail _ (.head _)))
 have l1:=SN.out.boxlt (.tail _ (.tail _ (.head _)))
 go_wp2
 clear k1 l1
 go_loopw [7,9] (fun vv k wr=>∃ (j:Nat) (fp:List Nat),j≤x.cartons.length∧k=.int .i64 j∧Hid (Sit w wr [fOF cI 3 1 w.heap.size vv (((List.range j).filter (benS r x (n:Int))).map Int.ofNat) fp,fBox g8 #[.int .i64 bx.w,.int .i64 bx.d,.int .i64 bx.h,.int .i64 bx.gram] 75,fBox (w.heap.size + 1) #[.slice (some ⟨b,off,none⟩) x.cartons.length ca,.slice (some ⟨b2,off2,none⟩) x.spots.length cb] 46,fBox w.heap.size (cR r A1 c1 A2 c2 A3 c3) 41])) (fun _ k _=>x.cartons.length - (intOf k).toNat)
 case atStart=>exact ⟨0,_,Nat.zero_le _,rfl,SN⟩
 case round =>
  clear SN
  obtain ⟨j,fp,hj,rfl,SN⟩:=hrel
  obtain ⟨O,hO⟩:∃ O,((List.range j).filter (benS r x (n:Int))).map Int.ofNat=O:=⟨_,rfl⟩
  have hln:O.length≤j:=by rw [← hO];exact range_le _ _
  rw [hO] at SN
  have k1:=SN.out.box (.tail _ (.tail _ (.head _)))
  have l1:=SN.out.boxlt (.tail _ (.tail _ (.head _)))
  by_cases hlt:j < x.cartons.length
  ·have hj2:j < x.spots.length:=by rw [HFL.out];exact hlt
   have HO:=Lib.hid hO
   clear hO
   obtain ⟨Ao_,co_,rfl,_⟩:=(SN.out.list (.head _)).form
   obtain ⟨_,_,c',U',cu',heq,_,hc',HU',HC'⟩:=HPA.out.one j hlt
   cases heq
   obtain ⟨_,_,t,heq,_,ht,HT2⟩:=HPB.out.one j hj2
   cases heq
   obtain ⟨by_,hby⟩:∃ bx,boxR r c'=bx:=⟨_,rfl⟩
   have HBY:=Lib.hid hby
   obtain ⟨f,hf⟩:∃ f,overB bx { s with z:=t.z } by_ t=f:=⟨_,rfl⟩
   have HF2:=Lib.hid hf
   have HBN:=Lib.hid (show benS r x (n:Int) j=(!decide ((j:Int)=(n:Int)) && (decide (wrap64 (t.z + by_.h)≤s.z) && f)) by unfold benS;rw [HSA.out,HBA.out,spotAt_at ht,boxAt_nat hc',hby,hf])
   have HCC:=Lib.hid (show ∀ X:World,Below wr.heap.size wr X→(cS10 (X) (w.heap.size) (r) (.slice A1 r.pairs.length c1) (.slice A2 r.types.length c2) (.slice A3 r.items.length c3))∧X.cell? ⟨w.heap.size + 1,0,none⟩=some (.slice (some ⟨b,off,none⟩) x.cartons.length ca)∧(cC3 (X) (b) (off) (j) (c') (.slice U' c'.units.length cu')) from fun X hX=>by
    have hX:=SN.out.next hX
    have c0:=hX.box (.tail _ (.tail _ (.tail _ (.head _))))
    exact ⟨⟨c0 0,c0 1,c0 2,c0 3,c0 4,c0 5,c0 6,c0 7,c0 8,c0 9⟩,hX.box (.tail _ (.tail _ (.head _))) 0,HC'.out X hX.low⟩)
   clear hc' ht hby hf
   go_upto_region 8 with fail
   clear k1 l1
   go_cut [10] (fun v8 X=>∃ g10,v8=.pointer (some ⟨g10,0,none⟩)∧Hid (Sit w X [fBox g10 #[.int .i64 by_.w,.int .i64 by_.d,.int .i64 by_.h,.int .i64 by_.gram] 75,fOF cI 3 1 w.heap.size (.slice Ao_ O.length co_) (O) fp,fBox g8 #[.int .i64 bx.w,.int .i64 bx.d,.int .i64 bx.h,.int .i64 bx.gram] 75,fBox (w.heap.size + 1) #[.slice (some ⟨b,off,none⟩) x.cartons.length ca,.slice (some ⟨b2,off2,none⟩) x.spots.length cb] 46,fBox w.heap.size (cR r A1 c1 A2 c2 A3 c3) 41]))
   case first =>
    go_region_held3 (fun W'=>((cS10 (W') (w.heap.size) (r) (.slice A1 r.pairs.length c1) (.slice A2 r.types.length c2) (.slice A3 r.items.length c3)))∧W'.cell? ⟨w.heap.size + 1,0,none⟩=some (.slice (some ⟨b,off,none⟩) x.cartons.length ca)∧(cC3 (W') (b) (off) (j) (c') (.slice U' c'.units.length cu'))) (first | (refine HCC.out _ ?_;(repeat' with_reducible first | assumption | exact bR | apply bD | apply bA | apply bC | apply bW | omega | simp <;> omega);done) | go_keep) (first | (go_at_call 91;(try (first | refine calls_new ?_ | refine calls_newd ?_);intro hg);refine (sBoxOf_any _ _ r c' _ (HR.out.next (SN.out.next (by (repeat' with_reducible first | assumption | exact bR | apply bD | apply bA | apply bC | apply bW | omega | simp <;> omega))).low) (HU'.out.next (flat_mono _) (SN.out.next (by (repeat' with_reducible first | assumption | exact bR | apply bD | apply bA | apply bC | apply bW | omega | simp <;> omega))).low)).mono ?_;rintro e w2 ⟨rfl,hb2⟩;rw [HBY.out];have hn2:=bstep (a:=wr) (by (repeat' with_reducible first | assumption | exact bR | apply bD | apply bA | apply bC | apply bW | omega | simp <;> omega)) hb2;have hz2:=hn2.size;have hj2:=hb2.size;(try simp only [World.size_alloc,World.size_drew] at hj2);have SE:=Lib.hid ((SN.out.drew.alloc #[.int .i64 0,.int .i64 0,.int .i64 0,.int .i64 0] 75));(first | (have SE:=Lib.hid (SE.out.next hb2)) | skip);have SN:=Lib.hid ((SN.out.next (by (repeat' with_reducible first | assumption | exact bR | apply bD | apply bA | apply bC | apply bW | omega | simp <;> omega))).next hb2);(try (have hg:=blk_next hg hb2;have hgc:=fun j=>cell_of_row _ _ j _ _ (0,0) hg;have hgf:=fun j=>frozen_of_row _ _ j _ _ hg;have hgl:=lt_of_block hg))))
    (all_goals (go_wp2_with fail;go_meet));(first | (exact ⟨_,rfl,Lib.hid (SN.out.alloc _ _)⟩) | skip);(all_goals exact ⟨_,rfl,Lib.hid (SE.out.overL [.int .i64 by_.w,.int .i64 by_.d,.int .i64 by_.h,.int .i64 by_.gram] 0)⟩)
   case rest =>
    obtain ⟨g10,rfl,SN2⟩:=hcut
    have hS:=SN2.out.alloc #[.int .i64 s.pallet,.int .i64 s.x,.int .i64 s.y,.int .i64 s.z] 72
    have k1:wc.cell? ⟨w.heap.size + 1,1,none⟩=some (.slice (some ⟨b2,off2,none⟩) x.spots.length cb):=SN2.out.box (.tail _ (.tail _ (.tail _ (.head _)))) 1
    obtain ⟨kn0,kn1,kn2,kn3⟩:=HC2.out wc SN2.out.low
    obtain ⟨W1,hW1⟩:∃ W1,wc.alloc (.cells #[.int .i64 s.pallet,.int .i64 s.x,.int .i64 s.y,.int .i64 s.z] 72)=W1:=⟨_,rfl⟩
    rw [hW1] at hS
    obtain ⟨kj0,kj1,kj2,kj3⟩:=HT2.out W1 hS.low
    have k2:W1.cell? ⟨w.heap.size + 1,1,none⟩=some (.slice (some ⟨b2,off2,none⟩) x.spots.length cb):=hS.box (.tail _ (.tail _ (.tail _ (.tail _ (.head _))))) 1
    have q11:=hS.box (.head _)
    have hf11:=fun j=>frozen_of_row _ _ j _ _ (hS.on _ (.head _))
    have hS2:=hS.store 3 (.int .i64 t.z)
    obtain ⟨W2,hW2⟩:∃ W2,W1.setCell ⟨wc.heap.size,3,none⟩ (.int .i64 t.z)=W2:=⟨_,rfl⟩
    rw [hW2] at hS2
    have SM:=Lib.hid hS2
    clear SN2 HCC hS hS2
    have HC9:=Lib.hid (show ∀ X:World,Below W2.heap.size W2 X→X.cell? ⟨w.heap.size + 1,1,none⟩=some (.slice (some ⟨b2,off2,none⟩) x.spots.length cb)∧(cS4 (X) (b2) (off2) (j) (t))∧(cS4 (X) (b2) (off2) (n) (s))∧(X.cell? ⟨g10,0,none⟩=some (.int .i64 by_.w)∧X.cell? ⟨g10,1,none⟩=some (.int .i64 by_.d)∧X.cell? ⟨g10,2,none⟩=some (.int .i64 by_.h)∧X.cell? ⟨g10,3,none⟩=some (.int .i64 by_.gram))∧(X.cell? ⟨g8,0,none⟩=some (.int .i64 bx.w)∧X.cell? ⟨g8,1,none⟩=some (.int .i64 bx.d)∧X.cell? ⟨g8,2,none⟩=some (.int .i64 bx.h)∧X.cell? ⟨g8,3,none⟩=some (.int .i64 bx.gram))∧X.cell? ⟨wc.heap.size,0,none⟩=some (.int .i64 s.pallet)∧X.cell? ⟨wc.heap.size,1,none⟩=some (.int .i64 s.x)∧X.cell? ⟨wc.heap.size,2,none⟩=some (.int .i64 s.y)∧X.cell? ⟨wc.heap.size,3,none⟩=some (.int .i64 t.z) from fun X hX=>by
     have hX:=SM.out.next hX
     have c0:=hX.box (.head _);have c1:=hX.box (.tail _ (.head _));have c3:=hX.box (.tail _ (.tail _ (.tail _ (.head _))))
     exact ⟨hX.box (.tail _ (.tail _ (.tail _ (.tail _ (.head _))))) 1,HT2.out X hX.low,HC2.out X hX.low,⟨c1 0,c1 1,c1 2,c1 3⟩,⟨c3 0,c3 1,c3 2,c3 3⟩,c0 0,c0 1,c0 2,c0 3⟩)
    have SN:=Lib.hid SM.out.drop.drop
    clear SM
    go_wp2
    clear k1 k2 kn0 kn1 kn2 kn3 kj0 kj1 kj2 kj3 q11 hf11 hW1 hW2
    by_cases hjn:(j:Int)=(n:Int)
    ·have HBN:=Lib.hid (show benS r x (n:Int) j=false by rw [HBN.out,decide_eq_true hjn];rfl)
     have e1:((j:Int) == (n:Int))=true:=by simpa using hjn
     have e2:((j:Int) != (n:Int))=false:=by simpa using hjn
     have e3:decide ((j:Int)=(n:Int))=true:=decide_eq_true hjn
     clear hjn
     refine regu (S:=(fun W'=>W'.cell? ⟨w.heap.size + 1,1,none⟩=some (.slice (some ⟨b2,off2,none⟩) x.spots.length cb)∧(cS4 (W') (b2) (off2) (j) (t))∧(cS4 (W') (b2) (off2) (n) (s))∧(W'.cell? ⟨g10,0,none⟩=some (.int .i64 by_.w)∧W'.cell? ⟨g10,1,none⟩=some (.int .i64 by_.d)∧W'.cell? ⟨g10,2,none⟩=some (.int .i64 by_.h)∧W'.cell? ⟨g10,3,none⟩=some (.int .i64 by_.gram))∧(W'.cell? ⟨g8,0,none⟩=some (.int .i64 bx.w)∧W'.cell? ⟨g8,1,none⟩=some (.int .i64 bx.d)∧W'.cell? ⟨g8,2,none⟩=some (.int .i64 bx.h)∧W'.cell? ⟨g8,3,none⟩=some (.int .i64 bx.gram))∧W'.cell? ⟨wc.heap.size,0,none⟩=some (.int .i64 s.pallet)∧W'.cell? ⟨wc.heap.size,1,none⟩=some (.int .i64 s.x)∧W'.cell? ⟨wc.heap.size,2,none⟩=some (.int .i64 s.y)∧W'.cell? ⟨wc.heap.size,3,none⟩=some (.int .i64 t.z))) (by kernel_rfl) (fun _ _ _ _ _=>id) ?_ fun hHeld=>?_
     ·(first | (refine HC9.out _ ?_;(repeat' with_reducible first | assumption | exact bR | apply bD | apply bA | apply bC | apply bW | omega | simp <;> omega);done) | go_keep)
     refine tku (b:=?_) [0,1,2,3] (by kernel_rfl) hHeld ?_ ?_
     rotate_left
     ·repeat first
      |exact .nil
      |refine .yes (v:=?_) rfl (by rfl) ?_ ?_
       rotate_left
       ·intro w9 hSw;(try dsimp only at hSw);go_simp;(try with_reducible rfl)
       (try simp only [aP,aZ,aS,aG,aH,aI])
     refine tku (b:=?_) [4,5,6,7,8,9,10,11,12,13,14,15,16,17,18,19] (by kernel_rfl) hHeld ?_ ?_
     rotate_left
     ·repeat first
      |exact .nil
      |refine .no rfl (by rfl) ?_
       (try simp only [aP,aZ,aS,aG,aH,aI])
     refine tku (b:=?_) [20,21] (by kernel_rfl) hHeld ?_ ?_
     rotate_left
     ·repeat first
      |exact .nil
      |refine .yes (v:=?_) rfl (by rfl) ?_ ?_
       rotate_left
       ·intro w9 hSw;(try dsimp only at hSw);go_simp;(try with_reducible rfl)
       (try simp only [aP,aZ,aS,aG,aH,aI])
     refine tku (b:=?_) [22,23,24,25,26,27,28,29] (by kernel_rfl) hHeld ?_ ?_
     rotate_left
     ·repeat first
      |exact .nil
      |refine .no rfl (by rfl) ?_
       (try simp only [aP,aZ,aS,aG,aH,aI])
     refine onu 30 rfl (by kernel_rfl) fun K hK=>?_
     go_simp
     (skip)
     refine hK.out _ _ ?_ (fun hHeld=>?_)
     ·(first | (refine HC9.out _ ?_;(repeat' with_reducible first | assumption | exact bR | apply bD | apply bA | apply bC | apply bW | omega | simp <;> omega);done) | go_keep)
     clear hK K
     (try simp only [aP,aZ,aS,aG,aH,aI])
     refine lsu 31 rfl (by kernel_rfl) fun K hK=>?_
     go_simp
     refine hK.out _ _ ?_
     clear hK K
     (try simp only [aP,aZ,aS,aG,aH,aI])
     skip
     go_wp2
     go_roundw
     case rel=>exact ⟨j + 1,_,hlt,by go_num,by rw [rng_step (HBN.out),HO.out];simpa using Lib.hid (SN.out.next (by repeat' with_reducible first | assumption | exact bR | apply bD | apply bA | apply bC | apply bN | simp <;> omega))⟩
     case measure=>simp [intOf] <;> omega
    have e1:((j:Int) == (n:Int))=false:=by simpa using hjn
    have e2:((j:Int) != (n:Int))=true:=by simpa using hjn
    have e3:decide ((j:Int)=(n:Int))=false:=decide_eq_false hjn
    clear hjn
    by_cases hle:IntKind.i64.wrap (t.z + by_.h)≤s.z
    ·have HBN:=Lib.hid (show benS r x (n:Int) j=f by rw [HBN.out,e3,decide_eq_true (by rw [← wrapE];exact hle)];simp)
     have hd:decide (IntKind.i64.wrap (t.z + by_.h)≤s.z)=true:=decide_eq_true hle
     clear hle
     refine regu (S:=(fun W'=>W'.cell? ⟨w.heap.size + 1,1,none⟩=some (.slice (some ⟨b2,off2,none⟩) x.spots.length cb)∧(cS4 (W') (b2) (off2) (j) (t))∧(cS4 (W') (b2) (off2) (n) (s))∧(W'.cell? ⟨g10,0,none⟩=some (.int .i64 by_.w)∧W'.cell? ⟨g10,1,none⟩=some (.int .i64 by_.d)∧W'.cell? ⟨g10,2,none⟩=some (.int .i64 by_.h)∧W'.cell? ⟨g10,3,none⟩=some (.int .i64 by_.gram))∧(W'.cell? ⟨g8,0,none⟩=some (.int .i64 bx.w)∧W'.cell? ⟨g8,1,none⟩=some (.int .i64 bx.d)∧W'.cell? ⟨g8,2,none⟩=some (.int .i64 bx.h)∧W'.cell? ⟨g8,3,none⟩=some (.int .i64 bx.gram))∧W'.cell? ⟨wc.heap.size,0,none⟩=some (.int .i64 s.pallet)∧W'.cell? ⟨wc.heap.size,1,none⟩=some (.int .i64 s.x)∧W'.cell? ⟨wc.heap.size,2,none⟩=some (.int .i64 s.y)∧W'.cell? ⟨wc.heap.size,3,none⟩=some (.int .i64 t.z))) (by kernel_rfl) (fun _ _ _ _ _=>id) ?_ fun hHeld=>?_
     ·(first | (refine HC9.out _ ?_;(repeat' with_reducible first | assumption | exact bR | apply bD | apply bA | apply bC | apply bW | omega | simp <;> omega);done) | go_keep)
     refine tku (b:=?_) [0,1,2,3,4,5,6,7,8,9,10,11,12,13,14,15,16,17,18,19,20,21,22,23,24,25,26,27,28,29] (by kernel_rfl) hHeld ?_ ?_
     rotate_left
     ·repeat first
      |exact .nil
      |refine .yes (v:=?_) rfl (by rfl) ?_ ?_
       rotate_left
       ·intro w9 hSw;(try dsimp only at hSw);go_simp;(try with_reducible rfl)
       (try simp only [aP,aZ,aS,aG,aH,aI])
     refine onu 30 rfl (by kernel_rfl) fun K hK=>?_
     go_simp
     ((go_at_call 113;refine (sOverlap_any bx { s with z:=t.z } by_ t _).mono ?_;rintro e w5 ⟨rfl,hb5⟩;rw [HF2.out];have hn5:=bstep (a:=W2) (by (repeat' with_reducible first | assumption | exact bR | apply bD | apply bA | apply bC | apply bW | omega | simp <;> omega)) hb5))
     refine hK.out _ _ ?_ (fun hHeld=>?_)
     ·(first | (refine HC9.out _ ?_;(repeat' with_reducible first | assumption | exact bR | apply bD | apply bA | apply bC | apply bW | omega | simp <;> omega);done) | go_keep)
     clear hK K
     (try simp only [aP,aZ,aS,aG,aH,aI])
     refine lsu 31 rfl (by kernel_rfl) fun K hK=>?_
     go_simp
     refine hK.out _ _ ?_
     clear hK K
     (try simp only [aP,aZ,aS,aG,aH,aI])
     skip
     have SN:=Lib.hid (SN.out.next hn5)
     cases f
     ·go_wp2
      go_roundw
      case rel=>exact ⟨j + 1,_,hlt,by go_num,by rw [rng_step (HBN.out),HO.out];simpa using SN⟩
      case measure=>simp [intOf] <;> omega
     ·go_wp2_with (at_builtin;refine papp_Int _ _ rfl rfl ((j:Int)) rfl rfl (alloc_at (by first | rfl | (simp;done) | (simp;omega))) rfl ((SN.out.list (.head _)).next (by repeat' with_reducible first | assumption | exact bR | apply bD | apply bA | apply bC | apply bN | simp <;> omega)) (by first | omega | (simp;omega)) (by have:=SN.out.low.size;first | omega | (simp;done) | (simp;omega) | (simp at this ⊢;omega)) ?_;intro v7 w7 ha;obtain ⟨g7,S7⟩:=(SN.out.next (by repeat' with_reducible first | assumption | exact bR | apply bD | apply bA | apply bC | apply bN | simp <;> omega)).app ha;have S8:=Lib.hid S7;clear S7 ha)
      go_roundw
      case rel=>exact ⟨j + 1,_,hlt,by go_num,by rw [rng_step HBN.out,HO.out];exact S8⟩
      case measure=>simp [intOf] <;> omega
    ·have HBN:=Lib.hid (show benS r x (n:Int) j=false by rw [HBN.out,e3,decide_eq_false (by rw [← wrapE];exact hle)];simp)
     have hd:decide (IntKind.i64.wrap (t.z + by_.h)≤s.z)=false:=decide_eq_false hle
     clear hle
     refine regu (S:=(fun W'=>W'.cell? ⟨w.heap.size + 1,1,none⟩=some (.slice (some ⟨b2,off2,none⟩) x.spots.length cb)∧(cS4 (W') (b2) (off2) (j) (t))∧(cS4 (W') (b2) (off2) (n) (s))∧(W'.cell? ⟨g10,0,none⟩=some (.int .i64 by_.w)∧W'.cell? ⟨g10,1,none⟩=some (.int .i64 by_.d)∧W'.cell? ⟨g10,2,none⟩=some (.int .i64 by_.h)∧W'.cell? ⟨g10,3,none⟩=some (.int .i64 by_.gram))∧(W'.cell? ⟨g8,0,none⟩=some (.int .i64 bx.w)∧W'.cell? ⟨g8,1,none⟩=some (.int .i64 bx.d)∧W'.cell? ⟨g8,2,none⟩=some (.int .i64 bx.h)∧W'.cell? ⟨g8,3,none⟩=some (.int .i64 bx.gram))∧W'.cell? ⟨wc.heap.size,0,none⟩=some (.int .i64 s.pallet)∧W'.cell? ⟨wc.heap.size,1,none⟩=some (.int .i64 s.x)∧W'.cell? ⟨wc.heap.size,2,none⟩=some (.int .i64 s.y)∧W'.cell? ⟨wc.heap.size,3,none⟩=some (.int .i64 t.z))) (by kernel_rfl) (fun _ _ _ _ _=>id) ?_ fun hHeld=>?_
     ·(first | (refine HC9.out _ ?_;(repeat' with_reducible first | assumption | exact bR | apply bD | apply bA | apply bC | apply bW | omega | simp <;> omega);done) | go_keep)
     refine tku (b:=?_) [0,1,2,3,4,5,6,7,8,9,10,11,12,13,14,15,16,17,18,19,20,21] (by kernel_rfl) hHeld ?_ ?_
     rotate_left
     ·repeat first
      |exact .nil
      |refine .yes (v:=?_) rfl (by rfl) ?_ ?_
       rotate_left
       ·intro w9 hSw;(try dsimp only at hSw);go_simp;(try with_reducible rfl)
       (try simp only [aP,aZ,aS,aG,aH,aI])
     refine tku (b:=?_) [22,23,24,25,26,27,28,29] (by kernel_rfl) hHeld ?_ ?_
     rotate_left
     ·repeat first
      |exact .nil
      |refine .no rfl (by rfl) ?_
       (try simp only [aP,aZ,aS,aG,aH,aI])
     refine onu 30 rfl (by kernel_rfl) fun K hK=>?_
     go_simp
     (skip)
     refine hK.out _ _ ?_ (fun hHeld=>?_)
     ·(first | (refine HC9.out _ ?_;(repeat' with_reducible first | assumption | exact bR | apply bD | apply bA | apply bC | apply bW | omega | simp <;> omega);done) | go_keep)
     clear hK K
     (try simp only [aP,aZ,aS,aG,aH,aI])
     refine lsu 31 rfl (by kernel_rfl) fun K hK=>?_
     go_simp
     refine hK.out _ _ ?_
     clear hK K
     (try simp only [aP,aZ,aS,aG,aH,aI])
     skip
     go_wp2
     go_roundw
     case rel=>exact ⟨j + 1,_,hlt,by go_num,by rw [rng_step (HBN.out),HO.out];simpa using Lib.hid (SN.out.next (by repeat' with_reducible first | assumption | exact bR | apply bD | apply bA | apply bC | apply bN | simp <;> omega))⟩
     case measure=>simp [intOf] <;> omega
  ·obtain rfl:j=x.cartons.length:=by omega
   go_wp2
   go_ret
   rw [HM.out,hO]
   exact SN.out.ints
end Go.Proofs.YtioijfplbgpjpaaGreat
namespace Go.Proofs.YtioijfplbgpjpaaGreat
set_option linter.unusedVariables false
set_option linter.unusedSimpArgs false
set_option maxRecDepth 100000
open Go.RowKit
def Spot.down (s:Spot):Spot:={ s with z:=s.z - 1 }
def fall (free:Spot→Bool):Nat→Spot→Spot
 |0,s=>s
 |f + 1,s=>if (decide (0 < s.z) && free s.down)=true then fall free f s.down else s
def freeAt (r:Request) (x:Plan) (S:List Spot) (i:Nat) (s:Spot):Bool:=(List.range x.cartons.length).all fun k=>decide (k=i) || !overB (boxAt r x i) s (boxAt r x k) (S.getD k default)
def dropOne (r:Request) (x:Plan) (S:List Spot) (i:Nat):List Spot:=S.set i (fall (freeAt r x S i) (S.getD i default).z.toNat (S.getD i default))
def dropSpots (r:Request) (x:Plan) (n:Nat):List Spot:=(List.range n).foldl (dropOne r x) x.spots
def droppedR (r:Request) (x:Plan):Plan:=if feasible r x=true then ⟨x.cartons,dropSpots r x x.cartons.length⟩ else x
def Spot.under (s t:Spot):Prop:=s.pallet=t.pallet∧s.x=t.x∧s.y=t.y∧s.z≤t.z∧(0≤t.z→0≤s.z)
theorem Spot.under_refl (s:Spot):s.under s:=⟨rfl,rfl,rfl,Int.le_refl _,id⟩
theorem Spot.under_trans {s t u:Spot} (h1:s.under t) (h2:t.under u):s.under u:=⟨h1.1.trans h2.1,h1.2.1.trans h2.2.1,h1.2.2.1.trans h2.2.2.1,Int.le_trans h1.2.2.2.1 h2.2.2.2.1,fun h=>h1.2.2.2.2 (h2.2.2.2.2 h)⟩
theorem fall_under (free:Spot→Bool):∀ (f:Nat) (s:Spot),(fall free f s).under s
 |0,s=>s.under_refl
 |f + 1,s=>by
  unfold fall
  split
  ·rename_i h
   simp only [Bool.and_eq_true,decide_eq_true_eq] at h
   exact Spot.under_trans (fall_under free f s.down) ⟨rfl,rfl,rfl,by show s.z - 1≤s.z;omega,fun _=>by show 0≤s.z - 1;omega⟩
  ·exact s.under_refl
theorem fall_free (free:Spot→Bool):∀ (f:Nat) (s:Spot),free s=true→free (fall free f s)=true
 |0,_,h=>h
 |f + 1,s,h=>by
  unfold fall
  split
  ·rename_i hc
   simp only [Bool.and_eq_true,decide_eq_true_eq] at hc
   exact fall_free free f s.down hc.2
  ·exact h
theorem drop_len (r:Request) (x:Plan):∀ n,(dropSpots r x n).length=x.spots.length
 |0=>rfl
 |n + 1=>by
  unfold dropSpots
  rw [List.range_succ,List.foldl_append]
  show (dropOne r x (dropSpots r x n) n).length=_
  unfold dropOne
  rw [List.length_set]
  exact drop_len r x n
theorem drop_succ (r:Request) (x:Plan) (n:Nat):dropSpots r x (n + 1)=dropOne r x (dropSpots r x n) n:=by
 unfold dropSpots
 rw [List.range_succ,List.foldl_append]
 rfl
theorem getD_set {α:Type} [Inhabited α] {S:List α} {i j:Nat} {s:α} (hi:i < S.length):(S.set i s).getD j default=if j=i then s else S.getD j default:=by
 rw [List.getD_eq_getElem?_getD,List.getD_eq_getElem?_getD,List.getElem?_set]
 by_cases h:i=j
 ·subst h
  rw [if_pos rfl,if_pos hi,if_pos rfl]
  rfl
 ·rw [if_neg h,if_neg (fun e=>h e.symm)]
theorem drop_under (r:Request) (x:Plan):∀ n,n≤x.spots.length→∀ j,((dropSpots r x n).getD j default).under (x.spots.getD j default)
 |0,_,j=>Spot.under_refl _
 |n + 1,hn,j=>by
  have ih:=drop_under r x n (by omega)
  rw [drop_succ]
  unfold dropOne
  rw [getD_set (by rw [drop_len];omega)]
  split
  ·rename_i e
   subst e
   exact Spot.under_trans (fall_under _ _ _) (ih j)
  ·exact ih j
theorem over_comm (a b:Box) (s t:Spot):overB a s b t=overB b t a s:=by
 rw [Bool.eq_iff_iff]
 unfold overB crossB
 simp only [Bool.and_eq_true,decide_eq_true_eq,beq_iff_eq]
 constructor
 ·rintro ⟨h1,h2,h3,⟨h4,h5⟩,⟨h6,h7⟩,h8,h9⟩
  exact ⟨h2,h1,h3.symm,⟨h5,h4⟩,⟨h7,h6⟩,h9,h8⟩
 ·rintro ⟨h1,h2,h3,⟨h4,h5⟩,⟨h6,h7⟩,h8,h9⟩
  exact ⟨h2,h1,h3.symm,⟨h5,h4⟩,⟨h7,h6⟩,h9,h8⟩
def Apart2 (r:Request) (x:Plan) (S:List Spot):Prop:=∀ i j,i < x.cartons.length→j < x.cartons.length→i ≠ j→overB (boxAt r x i) (S.getD i default) (boxAt r x j) (S.getD j default)=false
theorem apart_of {r:Request} {x:Plan} (h:feasible r x=true):Apart2 r x x.spots:=by
 intro i j hi hj hne
 have e:∀ n:Nat,x.spots.getD n default=spotAt x (n:Int):=fun n=>by unfold spotAt;rw [Int.toNat_natCast]
 rw [e,e]
 rcases Nat.lt_or_ge j i with hl | hl
 ·exact feas_apart h hi hl
 ·rw [over_comm]
  exact feas_apart h hj (by omega)
theorem drop_apart {r:Request} {x:Plan} (h:feasible r x=true):∀ n,n≤x.cartons.length→Apart2 r x (dropSpots r x n)
 |0,_=>apart_of h
 |n + 1,hn=>by
  have ih:=drop_apart h n (by omega)
  have hl:=feas_len h
  have hn2:n < (dropSpots r x n).length:=by rw [drop_len];omega
  have hfr:freeAt r x (dropSpots r x n) n ((dropSpots r x n).getD n default)=true:=by
   unfold freeAt
   rw [List.all_eq_true]
   intro k hk
   have hk:=List.mem_range.1 hk
   by_cases e:k=n
   ·simp [e]
   ·rw [ih n k (by omega) hk (fun e2=>e e2.symm)];simp
  have hf2:=fall_free (freeAt r x (dropSpots r x n) n) ((dropSpots r x n).getD n default).z.toNat _ hfr
  rw [drop_succ]
  unfold dropOne
  generalize fall (freeAt r x (dropSpots r x n) n) ((dropSpots r x n).getD n default).z.toNat ((dropSpots r x n).getD n default)=s at hf2 ⊢
  have hs:∀ k,k < x.cartons.length→k ≠ n→overB (boxAt r x n) s (boxAt r x k) ((dropSpots r x n).getD k default)=false:=by
   intro k hk hkn
   unfold freeAt at hf2
   have:=List.all_eq_true.1 hf2 k (List.mem_range.2 hk)
   simpa [hkn] using this
  intro i j hi hj hne
  rw [getD_set hn2,getD_set hn2]
  by_cases e1:i=n
  ·subst e1
   rw [if_pos rfl,if_neg (fun e=>hne e.symm)]
   exact hs j hj (fun e=>hne e.symm)
  ·rw [if_neg e1]
   by_cases e2:j=n
   ·subst e2
    rw [if_pos rfl,over_comm]
    exact hs i hi e1
   ·rw [if_neg e2]
    exact ih i j hi hj hne
section
variable {r:Request} {x y:Plan}
theorem spotAt_nat (x:Plan) (n:Nat):spotAt x (n:Int)=x.spots.getD n default:=by unfold spotAt;rw [Int.toNat_natCast]
theorem feas_turn (h:feasible r x=true) (S:List Spot) (hl:S.length=x.spots.length) (hp:∀ j:Nat,j < x.cartons.length→(S.getD j default).pallet=(x.spots.getD j default).pallet) (hw:∀ j:Nat,j < x.cartons.length→withinB r.pallet (boxAt r x j) (S.getD j default)=true) (ha:Apart2 r x S):feasible r ⟨x.cartons,S⟩=true:=by
 obtain ⟨f1,f2,f3,f4,f5,f6⟩:=feasible_iff.1 h
 have hlx:=feas_len h
 refine feasible_iff.2 ⟨f1,?_,f3,f4,f5,?_⟩
 ·unfold planOk at f2 ⊢
  simp only [Bool.and_eq_true,decide_eq_true_eq,List.all_eq_true,List.mem_range] at f2 ⊢
  refine ⟨⟨by omega,f2.1.2⟩,fun i hi=>⟨(f2.2 i hi).1,?_⟩⟩
  have h1:=(f2.2 i hi).2
  obtain ⟨_,_,_,b4,b5,b6,_⟩:=within_facts (hw i hi)
  simp only [spotOk,inB,Bool.and_eq_true,decide_eq_true_eq] at h1 ⊢
  rw [hp i hi]
  omega
 ·obtain ⟨g1,g2,g3⟩:=spotsFault_zero f6
  have hpal:∀ k,onPal ⟨x.cartons,S⟩ k=onPal x k:=fun k=>by
   unfold onPal
   show (if x.cartons.length=S.length then _ else _)=_
   rw [if_pos (by omega),if_pos (by omega),hl]
   congr 1
   refine List.filter_congr fun j hj=>?_
   have hj:=List.mem_range.1 hj
   show ((S.getD j default).pallet == k)=((x.spots.getD j default).pallet == k)
   rw [hp j (by omega)]
  have hpn:palletsR S=palletsR x.spots:=by
   unfold palletsR
   have e:S.map (·.pallet)=x.spots.map (·.pallet):=by
    refine List.ext_getElem (by simp [hl]) fun j h1 h2=>?_
    have hj:j < x.spots.length:=by simpa using h2
    have hj2:j < S.length:=by omega
    have:=hp j (by omega)
    rw [List.getD_eq_getElem?_getD,List.getElem?_eq_getElem hj2,List.getD_eq_getElem?_getD,List.getElem?_eq_getElem hj] at this
    simpa using this
   have e2:∀ (l:List Spot) (n:Int),l.foldl palStep n=(l.map (·.pallet)).foldl (fun n q=>if inB q 0 999999=true then max n (wrap64 (q + 1)) else n) n:=by
    intro l
    induction l with
    |nil=>intro n;rfl
    |cons a l ih=>intro n;rw [List.map_cons,List.foldl_cons,List.foldl_cons];exact ih _
   rw [e2,e2,e]
  unfold spotsFault
  show (if (List.range x.cartons.length).all (insideI r ⟨x.cartons,S⟩)=true then (if (List.range x.cartons.length).all (apartI r ⟨x.cartons,S⟩)=true then (if (List.range (palletsR S).toNat).all (palletK r ⟨x.cartons,S⟩)=true then (0:Int) else 9) else 8) else 7)=0
  rw [hpn,if_pos,if_pos,if_pos]
  ·rw [List.all_eq_true] at g3 ⊢
   intro k hk
   have:=g3 k hk
   unfold palletK palGram at this ⊢
   rw [hpal]
   exact this
  ·rw [List.all_eq_true]
   intro i hi
   have hi:=List.mem_range.1 hi
   unfold apartI
   rw [List.all_eq_true]
   intro j hj
   have hj:=List.mem_range.1 hj
   have:=ha i j hi (by omega) (by omega)
   unfold overIJ
   rw [spotAt_nat,spotAt_nat]
   show (!overB (boxAt r x i) (S.getD i default) (boxAt r x j) (S.getD j default))=true
   rw [this]
   rfl
  ·rw [List.all_eq_true]
   intro i hi
   have hi:=List.mem_range.1 hi
   unfold insideI
   rw [spotAt_nat]
   exact hw i hi
theorem within_under {p:Pallet} {b:Box} {s t:Spot} (h:withinB p b t=true) (hu:s.under t):withinB p b s=true:=by
 have h0:=within_facts h
 obtain ⟨u1,u2,u3,u4,u5⟩:=hu
 simp only [withinB,placeB,inB,Bool.and_eq_true,decide_eq_true_eq]
 have:=u5 (by omega)
 omega
theorem dropped_feas (h:feasible r x=true):feasible r (droppedR r x)=true:=by
 have hl:=feas_len h
 unfold droppedR
 rw [if_pos h]
 refine feas_turn h _ (drop_len r x _) (fun j hj=>(drop_under r x _ (by omega) j).1) (fun j hj=>?_) (drop_apart h _ (Nat.le_refl _))
 refine within_under ?_ (drop_under r x _ (by omega) j)
 have:=feas_inside h hj
 rw [spotAt_nat] at this
 exact this
end
end Go.Proofs.YtioijfplbgpjpaaGreat
namespace Go.Proofs.YtioijfplbgpjpaaGreat
set_option linter.unusedVariables false
set_option linter.unusedSimpArgs false
set_option maxRecDepth 100000
open Go.RowKit Go.WideShapes Go.ChangeShapes Go.ChangeAt
abbrev fOC (base:Nat) (v:Value) (xs:List Carton) (fp:List Nat):Fact:=⟨fun W=>OCartons W base v xs fp,fp⟩
theorem fOC_ok (base:Nat) (v:Value) (xs:List Carton) (fp:List Nat):(fOC base v xs fp).ok:=fun _ _ h _ hk=>OL.keepF h ECarton_fr hk
section
variable {w W:World} {l:List Fact} {B:Nat} {v:Value} {x:Plan} {fp:List Nat}
theorem Sit.upE {q q1 q2 q3 q4:Fact} (h:Sit w W (q1::q2::q3::q4::q::l)):Sit w W (q::q1::q2::q3::q4::l):=h.perm (List.perm_middle (l₁:=[q1,q2,q3,q4]))
theorem Sit.downE {q q1 q2 q3 q4:Fact} (h:Sit w W (q::q1::q2::q3::q4::l)):Sit w W (q1::q2::q3::q4::q::l):=h.perm (List.perm_middle (l₁:=[q1,q2,q3,q4])).symm
theorem Sit.planOpen (h:Sit w W (fOP B v x fp::l)):∃ A1 c1 A2 c2 f1 f2,v=.agg #[.slice A1 x.cartons.length c1,.slice A2 x.spots.length c2]∧Sit w W (fOF Spot.cells 72 4 B (.slice A2 x.spots.length c2) x.spots f2::fOC B (.slice A1 x.cartons.length c1) x.cartons f1::l):=by
 obtain ⟨v1,v2,f1,f2,rfl,h1,h2,rfl,hn⟩:=h.on _ (.head _)
 obtain ⟨h3,rfl⟩:=own_of_OL h2 (fun _=>rfl)
 obtain ⟨A1,c1,rfl⟩:=OL.form h1
 obtain ⟨A2,c2,rfl,_⟩:=own_form2 h3
 have hd:=(List.nodup_append.1 hn).2.2
 refine ⟨A1,c1,A2,c2,f1,_,rfl,Sit.step (l1:=[_]) (fp:=[]) h (Tch.refl _ _) (by simp) [fOF Spot.cells 72 4 B (.slice A2 x.spots.length c2) x.spots (Value.slice A2 x.spots.length c2).ownBlock.toList,fOC B (.slice A1 x.cartons.length c1) x.cartons f1] ?_ ?_ ?_ ?_⟩
 ·intro p hp b hb
  simp only [List.mem_cons,List.not_mem_nil,or_false] at hp
  rcases hp with rfl | rfl
  ·exact .inl ⟨_,.head _,List.mem_append.2 (.inr hb)⟩
  ·exact .inl ⟨_,.head _,List.mem_append.2 (.inl hb)⟩
 ·intro p hp
  simp only [List.mem_cons,List.not_mem_nil,or_false] at hp
  rcases hp with rfl | rfl
  ·exact fOF_ok _ _ _ _ _ _ _
  ·exact fOC_ok _ _ _ _
 ·intro p hp
  simp only [List.mem_cons,List.not_mem_nil,or_false] at hp
  rcases hp with rfl | rfl
  ·exact OF.mk h3
  ·exact h1
 ·refine List.pairwise_cons.2 ⟨fun q hq b hb1 hb2=>?_,List.pairwise_singleton _ _⟩
  simp only [List.mem_cons,List.not_mem_nil,or_false] at hq
  subst hq
  exact hd b hb2 b hb1 rfl
theorem Sit.planShut {v1 v2:Value} {C:List Carton} {S:List Spot} {f1 f2:List Nat} (h:Sit w W (fOF Spot.cells 72 4 B v2 S f2::fOC B v1 C f1::l)):∃ fp,OPlan W B (.agg #[v1,v2]) ⟨C,S⟩ fp:=by
 obtain ⟨h2,rfl⟩:=h.on _ (.head _)
 have h1:OCartons W B v1 C f1:=h.on _ (.tail _ (.head _))
 have hap:=(List.pairwise_cons.1 h.apart).1 _ (.head _)
 refine ⟨f1 ++ v2.ownBlock.toList,v1,v2,f1,_,rfl,h1,OL_of_own h2 (fun _=>rfl),rfl,List.nodup_append.2 ⟨OL.nodup h1,by cases v2.ownBlock <;> simp,fun a ha b hb e=>?_⟩⟩
 subst e
 exact hap _ hb ha
end
end Go.Proofs.YtioijfplbgpjpaaGreat
namespace Go.Proofs.YtioijfplbgpjpaaGreat
set_option linter.unusedVariables false
set_option linter.unusedSimpArgs false
set_option maxRecDepth 100000
open Go.RowKit Go.WideShapes Go.ChangeShapes Go.ChangeAt Go.Deep
def hitTo (r:Request) (x:Plan) (S:List Spot) (i:Nat) (s:Spot) (j:Nat):Bool:=(List.range j).any fun k=>!decide (k=i) && overB (boxAt r x i) s (boxAt r x k) (S.getD k default)
theorem hit_step {r:Request} {x:Plan} {S:List Spot} {i:Nat} {s:Spot} {j:Nat} : hitTo r x S i s (j + 1)=(hitTo r x S i s j || (!decide (j=i) && overB (boxAt r x i) s (boxAt r x j) (S.getD j default))):=by
 unfold hitTo
 rw [List.range_succ,List.any_append]
 simp
theorem hit_free {r:Request} {x:Plan} {S:List Spot} {i:Nat} {s:Spot} : freeAt r x S i s = !hitTo r x S i s x.cartons.length:=by
 unfold hitTo freeAt
 rw [List.not_any_eq_all_not]
 congr 1
 funext k
 cases decide (k=i) <;> simp
theorem fall_stuck {f:Spot→Bool} {s:Spot} {n:Nat} (h:f s.down=false):fall f n s=s:=by
 cases n with
 |zero=>rfl
 |succ n=>unfold fall;rw [h];simp
theorem fall_down {f:Spot→Bool} {s:Spot} {n:Nat} (h:f s.down=true) (hz:0 < s.z):fall f (n + 1) s=fall f n s.down:=by
 rw [fall,h,decide_eq_true hz]
 rfl
theorem set_same {α:Type} {S:List α} {i:Nat} {s:α} (h:S[i]? = some s):S.set i s=S:=by
 refine List.ext_getElem? fun j=>?_
 by_cases e:i=j
 ·subst e;rw [List.getElem?_set_self (List.getElem?_eq_some_iff.1 h).1,h]
 ·rw [List.getElem?_set_ne e]
set_option maxRecDepth 100000 in
set_option maxHeartbeats 20000000 in
theorem iDropped_any (v vx:Value) (r:Request) (x:Plan) (w:World) (h:RReq 16777216 w w.heap.size v r) (hx:RPlan 16777216 w w.heap.size vx x) (hL:x.bulk≤16777216):Calls Tryz.prog 52 #[v,vx] w fun e w'=>∃ u fp,e=.returned u∧OPlan w' w.heap.size u (droppedR r x) fp∧Below w.heap.size w w':=by
 have HR:=Lib.hid h
 have HX:=Lib.hid hx
 obtain ⟨A1,c1,A2,c2,A3,c3,rfl,_⟩:=h.opn
 obtain ⟨PA,ca,PB,cb,rfl,HPA,HPB,hla,hlb⟩:=hx.opn
 have hS:=(((Sit.here w).alloc (cR r A1 c1 A2 c2 A3 c3) 41).alloc #[.slice PA x.cartons.length ca,.slice PB x.spots.length cb] 46).alloc #[.slice none 0 0,.slice none 0 0] 46
 simp only [World.size_alloc] at hS
 have SN:=Lib.hid hS
 obtain ⟨q,hq⟩:∃ q,feasible r x=q:=⟨_,rfl⟩
 have HQ:=Lib.hid hq
 have HM:=Lib.hid (show droppedR r x=if q=true then ⟨x.cartons,dropSpots r x x.cartons.length⟩ else x by unfold droppedR;rw [hq])
 clear h hx hS hq
 go_enter Tryz.func52,Tryz.ntmps52
 have k1:=SN.out.box (.tail _ (.head _))
 have l1:=SN.out.boxlt (.tail _ (.head _))
 go_wp2_with fail
 refine (clonePlan_any _ x _ (HX.out.next SN.out.low)).mono ?_
 rintro e w1 ⟨u,fp,rfl,ho,hb⟩
 have hS:=SN.out.gotPlan ho hb
 obtain ⟨B0,hB0⟩:∃ B,B=(((w.alloc (.cells (cR r A1 c1 A2 c2 A3 c3) 41)).alloc (.cells #[.slice PA x.cartons.length ca,.slice PB x.spots.length cb] 46)).alloc (.cells #[.slice none 0 0,.slice none 0 0] 46)).heap.size:=⟨_,rfl⟩
 rw [← hB0] at hS
 have hBw:w.heap.size≤B0:=by rw [hB0];simp;omega
 obtain ⟨D1,d1,D2,d2,f1,f2,rfl,hS2⟩:=hS.planOpen
 have SN:=Lib.hid (hS2.alloc #[.slice D1 x.cartons.length d1,.slice D2 x.spots.length d2] 46)
 obtain ⟨b5,hb5⟩:∃ b,w1.heap.size=b:=⟨_,rfl⟩
 rw [hb5] at SN
 clear hS hS2 ho hb k1 l1 hB0
 go_upto_region 2 with fail
 (try rw [hb5])
 generalize w1.alloc (.cells #[.slice D1 x.cartons.length d1,.slice D2 x.spots.length d2] 46)=W2 at SN ⊢
 clear hb5
 have k1:=SN.out.box (g:=w.heap.size + 1) (cs:=#[.slice PA x.cartons.length ca,.slice PB x.spots.length cb]) (t:=46) mq
 have l1:=SN.out.boxlt (g:=w.heap.size + 1) (cs:=#[.slice PA x.cartons.length ca,.slice PB x.spots.length cb]) (t:=46) mq
 have k0:=SN.out.box (g:=w.heap.size) (cs:=(cR r A1 c1 A2 c2 A3 c3)) (t:=41) mq
 have l0:=SN.out.boxlt (g:=w.heap.size) (cs:=(cR r A1 c1 A2 c2 A3 c3)) (t:=41) mq
 go_wp2_with fail
 refine (iFeasible_any _ _ r x _ (HR.out.next SN.out.low) (HX.out.next SN.out.low) hL).mono ?_
 rintro e2 w2 ⟨rfl,hb2⟩
 rw [HQ.out]
 have SN:=Lib.hid (SN.out.next hb2)
 clear k0 l0 k1 l1 hb2
 cases q
 ·have k5:=SN.out.box (.head _)
  have kr:=SN.out.box (g:=w.heap.size + 2) (cs:=#[.slice none 0 0,.slice none 0 0]) (t:=46) mq
  have fr:=SN.out.free (g:=w.heap.size + 2) (cs:=#[.slice none 0 0,.slice none 0 0]) (t:=46) mq
  go_wp2
  refine bodyPost_ret (v:=.agg #[.slice D1 x.cartons.length d1,.slice D2 x.spots.length d2]) (by simp [results,Tryz.results52,go_sem,kr,fr]) rfl ?_
  rw [HM.out]
  have SF:=(SN.out.rot4).overL [.slice D1 x.cartons.length d1,.slice D2 x.spots.length d2] 0
  obtain ⟨fp,hp⟩:=SF.drop.drop.planShut
  exact ⟨_,fp,rfl,hp.base hBw,SF.low⟩
 obtain ⟨hfl,h100⟩:=feas_len HQ.out
 have hfl':=hfl
 obtain ⟨n,hn⟩:∃ n,x.cartons.length=n:=⟨_,rfl⟩
 have HFL:=Lib.hid hfl
 have SN:=Lib.hid ((SN.out.alloc #[] 75).boxNil Box.cells 4)
 clear hfl hfl'
 clear hn n
 have k1:=SN.out.box (g:=w.heap.size + 1) (cs:=#[.slice PA x.cartons.length ca,.slice PB x.spots.length cb]) (t:=46) mq
 have l1:=SN.out.boxlt (g:=w.heap.size + 1) (cs:=#[.slice PA x.cartons.length ca,.slice PB x.spots.length cb]) (t:=46) mq
 go_wp2
 clear k1 l1
 go_loopw [6,26] (fun vv i wr=>∃ (k:Nat) (fb:List Nat),k≤x.cartons.length∧i=.int .i64 k∧Hid (Sit w wr [fOF Box.cells 75 4 w.heap.size vv ((x.cartons.take k).map (boxR r)) fb,fBox b5 #[.slice D1 x.cartons.length d1,.slice D2 x.spots.length d2] 46,fOF Spot.cells 72 4 B0 (.slice D2 x.spots.length d2) x.spots f2,fOC B0 (.slice D1 x.cartons.length d1) x.cartons f1,fBox (w.heap.size + 2) #[.slice none 0 0,.slice none 0 0] 46,fBox (w.heap.size + 1) #[.slice PA x.cartons.length ca,.slice PB x.spots.length cb] 46,fBox w.heap.size (cR r A1 c1 A2 c2 A3 c3) 41])) (fun _ i _=>x.cartons.length - (intOf i).toNat)
 case atStart=>exact ⟨0,_,Nat.zero_le _,rfl,SN⟩
 case round =>
  clear SN
  obtain ⟨k,fb,hk,rfl,SN⟩:=hrel
  by_cases hlt:k < x.cartons.length
  ·obtain ⟨b,off,c,U,cu,rfl,hb,hx,HU,HC⟩:=HPA.out.one k hlt
   obtain ⟨hc0,hc1,hc2⟩:=HC.out wr SN.out.low
   obtain ⟨bx,hbx⟩:∃ bx,boxR r c=bx:=⟨_,rfl⟩
   have HBX:=Lib.hid hbx
   have HTK:=Lib.hid (show (x.cartons.take (k + 1)).map (boxR r)=(x.cartons.take k).map (boxR r) ++ [bx] by rw [List.take_add_one,hx,List.map_append,← hbx];rfl)
   have hln:((x.cartons.take k).map (boxR r)).length≤100:=by rw [List.length_map,List.length_take];omega
   obtain ⟨BK,hBK⟩:∃ BK,(x.cartons.take k).map (boxR r)=BK:=⟨_,rfl⟩
   rw [hBK] at SN HTK hln
   have k0:=SN.out.box (g:=w.heap.size) (cs:=(cR r A1 c1 A2 c2 A3 c3)) (t:=41) mq
   have l0:=SN.out.boxlt (g:=w.heap.size) (cs:=(cR r A1 c1 A2 c2 A3 c3)) (t:=41) mq
   have SM:=Lib.hid (SN.out.alloc #[.int .i64 c.type,.int .i64 c.group,.slice U c.units.length cu] 78)
   clear hx hbx hBK
   go_wp2_with fail
   refine (iBoxOf_any _ _ r c _ (HR.out.next SM.out.low) (HU.out.next (flat_mono _) SM.out.low)).mono ?_
   rintro e1 w1 ⟨rfl,hb1⟩
   rw [HBX.out]
   have SN:=Lib.hid ((SM.out.next hb1).drop)
   clear k0 l0 hb1 hc0 hc1 hc2 SM
   go_wp2_with (at_builtin;refine papp_Box _ _ rfl rfl bx rfl rfl (heap_alloc_new _ _) rfl ((SN.out.list (.head _)).next (by repeat' with_reducible first | assumption | exact bR | apply bD | apply bA | apply bC | apply bN | simp <;> omega)) (by first | omega | (simp;omega)) (by have:=SN.out.low.size;first | omega | (simp;done) | (simp;omega) | (simp at this ⊢;omega)) ?_;intro v7 w7 ha;obtain ⟨g7,S7⟩:=(SN.out.next (by repeat' with_reducible first | assumption | exact bR | apply bD | apply bA | apply bC | apply bN | simp <;> omega)).app ha;have S8:=Lib.hid S7;clear S7 ha)
   go_roundw
   case rel=>exact ⟨k + 1,_,hlt,by go_num,by rw [HTK.out];exact S8⟩
   case measure=>simp [intOf] <;> omega
  ·obtain rfl:k=x.cartons.length:=by omega
   rw [List.take_length] at SN
   obtain ⟨BS,hBS⟩:∃ BS,x.cartons.map (boxR r)=BS:=⟨_,rfl⟩
   have HBS:=Lib.hid hBS
   have hbl:BS.length=x.cartons.length:=by rw [← hBS,List.length_map]
   rw [hBS] at SN
   obtain ⟨D,d,rfl,_⟩:=(SN.out.list (.head _)).form
   rw [hbl] at SN ⊢
   clear hBS hbl
   go_wp2
   go_loopw [39] (fun i wr=>∃ (k:Nat),k≤x.cartons.length∧i=.int .i64 k∧Hid (Sit w wr [fOF Box.cells 75 4 w.heap.size (.slice D x.cartons.length d) BS fb,fBox b5 #[.slice D1 x.cartons.length d1,.slice D2 x.spots.length d2] 46,fOF Spot.cells 72 4 B0 (.slice D2 x.spots.length d2) (dropSpots r x k) f2,fOC B0 (.slice D1 x.cartons.length d1) x.cartons f1,fBox (w.heap.size + 2) #[.slice none 0 0,.slice none 0 0] 46,fBox (w.heap.size + 1) #[.slice PA x.cartons.length ca,.slice PB x.spots.length cb] 46,fBox w.heap.size (cR r A1 c1 A2 c2 A3 c3) 41])) (fun i _=>x.cartons.length - (intOf i).toNat)
   case atStart=>exact ⟨0,Nat.zero_le _,rfl,SN⟩
   case round =>
    clear SN
    obtain ⟨i,hi,rfl,SN⟩:=hrel
    by_cases hlt:i < x.cartons.length
    ·obtain ⟨c,hc⟩:∃ c,x.cartons[i]? = some c:=⟨_,List.getElem?_eq_getElem hlt⟩
     obtain ⟨bx,hbx⟩:∃ bx,boxR r c=bx:=⟨_,rfl⟩
     have hbk:BS[i]? = some bx:=by rw [← HBS.out,List.getElem?_map,hc,← hbx];rfl
     have hlt2:i < x.spots.length:=by rw [HFL.out];exact hlt
     obtain ⟨S0,hS0⟩:∃ S,dropSpots r x i=S:=⟨_,rfl⟩
     have hsl:S0.length=x.spots.length:=by rw [← hS0];exact drop_len r x i
     obtain ⟨s0,hs0⟩:∃ s,S0[i]? = some s:=⟨_,List.getElem?_eq_getElem (by rw [hsl];exact hlt2)⟩
     have hu0:S0.getD i default=s0:=by rw [List.getD_eq_getElem?_getD,hs0];rfl
     have hz0:0≤s0.z∧s0.z≤2000:=by
      obtain ⟨_,_,_,_,_,a6,_⟩:=within_facts (feas_inside HQ.out hlt)
      have hu:=drop_under r x i (by omega) i
      rw [hS0,hu0] at hu
      rw [spotAt_nat] at a6
      have h4:=hu.2.2.2.1
      have h5:=hu.2.2.2.2
      exact ⟨h5 a6.1,by omega⟩
     obtain ⟨FR,hFR⟩:∃ FR,freeAt r x S0 i=FR:=⟨_,rfl⟩
     obtain ⟨FIN,hFIN⟩:∃ F,fall FR s0.z.toNat s0=F:=⟨_,rfl⟩
     have HDS:=Lib.hid (show dropSpots r x (i + 1)=S0.set i FIN by rw [drop_succ,hS0];unfold dropOne;rw [hu0,hFR,hFIN])
     have HFR:=Lib.hid hFR
     have HBXI:=Lib.hid (show boxAt r x (i:Int)=bx by rw [boxAt_nat hc,hbx])
     have HSL:=Lib.hid hsl
     have HFIN:=Lib.hid hFIN
     rw [hS0] at SN
     obtain ⟨gb,rfl⟩:=head_ptr (SN.out.list (.head _)) hbk
     obtain ⟨ge,rfl⟩:=head_ptr (SN.out.list (.tail _ (.tail _ (.head _)))) hs0
     have hq1:=(SN.out.list (.head _)).cells (fun _=>rfl) hbk
     have hbc:=And.intro (hq1 0 (.int .i64 bx.w) rfl) (And.intro (hq1 1 (.int .i64 bx.d) rfl) (And.intro (hq1 2 (.int .i64 bx.h) rfl) (hq1 3 (.int .i64 bx.gram) rfl)))
     rw [Nat.add_zero] at hbc
     have HS0:=Lib.hid hs0
     obtain ⟨b10,hb10⟩:∃ b,wr.heap.size=b:=⟨_,rfl⟩
     have SM:=Lib.hid (SN.out.alloc #[.int .i64 bx.w,.int .i64 bx.d,.int .i64 bx.h,.int .i64 bx.gram] 75)
     rw [hb10] at SM
     clear hc hbx hbk hS0 hsl hs0 hu0 hFR hFIN hq1 SN
     go_wp2
     (try rw [hb10])
     generalize wr.alloc (.cells #[.int .i64 bx.w,.int .i64 bx.d,.int .i64 bx.h,.int .i64 bx.gram] 75)=W3 at SM ⊢
     clear hb10 hbc
     go_loopw [] (fun wr=>∃ s:Spot,Hid (fall FR s.z.toNat s=FIN)∧(0≤s.z∧s.z≤2000)∧Hid (Sit w wr [fBox b10 #[.int .i64 bx.w,.int .i64 bx.d,.int .i64 bx.h,.int .i64 bx.gram] 75,fOF Box.cells 75 4 w.heap.size (.slice (some ⟨gb,0,none⟩) x.cartons.length d) BS fb,fBox b5 #[.slice D1 x.cartons.length d1,.slice (some ⟨ge,0,none⟩) x.spots.length d2] 46,fOF Spot.cells 72 4 B0 (.slice (some ⟨ge,0,none⟩) x.spots.length d2) (S0.set i s) f2,fOC B0 (.slice D1 x.cartons.length d1) x.cartons f1,fBox (w.heap.size + 2) #[.slice none 0 0,.slice none 0 0] 46,fBox (w.heap.size + 1) #[.slice PA x.cartons.length ca,.slice PB x.spots.length cb] 46,fBox w.heap.size (cR r A1 c1 A2 c2 A3 c3) 41])) (fun wr=>(intOf ((wr.cell? ⟨ge,i * 4 + 3,none⟩).getD (.int .i64 0))).toNat)
     case atStart=>exact ⟨s0,HFIN,hz0,by rw [set_same HS0.out];exact SM⟩
     case round =>
      clear SM
      obtain ⟨s,HF,hz,SN⟩:=hrel
      obtain ⟨wr2,rfl⟩:∃ y,y=wr:=⟨_,rfl⟩
      have hset:(S0.set i s)[i]? = some s:=by rw [List.getElem?_set_self (by rw [HSL.out];exact hlt2)]
      have HSET:=Lib.hid hset
      have hq2:=(SN.out.list (.tail _ (.tail _ (.tail _ (.head _))))).cells (fun _=>rfl) hset
      have hsc:=And.intro (hq2 0 (.int .i64 s.pallet) rfl) (And.intro (hq2 1 (.int .i64 s.x) rfl) (And.intro (hq2 2 (.int .i64 s.y) rfl) (hq2 3 (.int .i64 s.z) rfl)))
      rw [Nat.add_zero] at hsc
      have hz3:=hsc.2.2.2
      have HZ3:=Lib.hid hz3
      have k5:=SN.out.box (.tail _ (.tail _ (.head _)))
      clear hset hq2
      by_cases hpos:0 < s.z
      ·have hwz:IntKind.i64.wrap (s.z - 1)=s.z - 1:=by rw [wrapE];unfold wrap64;omega
       have hwz2:wrap64 (s.z - 1)=s.z - 1:=by unfold wrap64;omega
       have SM:=Lib.hid (SN.out.alloc #[.int .i64 s.pallet,.int .i64 s.x,.int .i64 s.y,.int .i64 (s.z - 1)] 72)
       go_wp2
       obtain ⟨b11,hb11⟩:∃ b,wr2.heap.size=b:=⟨_,rfl⟩
       rw [hb11] at SM
       (try rw [hb11])
       generalize wr2.alloc (.cells #[.int .i64 s.pallet,.int .i64 s.x,.int .i64 s.y,.int .i64 (s.z - 1)] 72)=W4 at SM ⊢
       clear hb11 k5 hsc hz3
       go_loopw [12,62] (fun hh j wr=>∃ (j':Nat) (hit:Bool),j'≤x.cartons.length∧j=.int .i64 j'∧hh=.bool hit∧Hid (hitTo r x S0 i s.down j'=hit)∧Hid (Sit w wr [fBox b11 #[.int .i64 s.pallet,.int .i64 s.x,.int .i64 s.y,.int .i64 (s.z - 1)] 72,fBox b10 #[.int .i64 bx.w,.int .i64 bx.d,.int .i64 bx.h,.int .i64 bx.gram] 75,fOF Box.cells 75 4 w.heap.size (.slice (some ⟨gb,0,none⟩) x.cartons.length d) BS fb,fBox b5 #[.slice D1 x.cartons.length d1,.slice (some ⟨ge,0,none⟩) x.spots.length d2] 46,fOF Spot.cells 72 4 B0 (.slice (some ⟨ge,0,none⟩) x.spots.length d2) (S0.set i s) f2,fOC B0 (.slice D1 x.cartons.length d1) x.cartons f1,fBox (w.heap.size + 2) #[.slice none 0 0,.slice none 0 0] 46,fBox (w.heap.size + 1) #[.slice PA x.cartons.length ca,.slice PB x.spots.length cb] 46,fBox w.heap.size (cR r A1 c1 A2 c2 A3 c3) 41])) (fun _ j _=>x.cartons.length - (intOf j).toNat)
       case atStart=>exact ⟨0,false,Nat.zero_le _,rfl,rfl,Lib.hid rfl,SM⟩
       case round =>
        clear SM
        obtain ⟨j,hit,hj,rfl,rfl,HH,SN⟩:=hrel
        obtain ⟨wr3,rfl⟩:∃ y,y=wr:=⟨_,rfl⟩
        by_cases hltj:j < x.cartons.length
        ·obtain ⟨c',hc'⟩:∃ c,x.cartons[j]? = some c:=⟨_,List.getElem?_eq_getElem hltj⟩
         obtain ⟨by_,hby⟩:∃ bx,boxR r c'=bx:=⟨_,rfl⟩
         have hbk':BS[j]? = some by_:=by rw [← HBS.out,List.getElem?_map,hc',← hby];rfl
         have hltj2:j < x.spots.length:=by rw [HFL.out];exact hltj
         obtain ⟨t,ht⟩:∃ t,(S0.set i s)[j]? = some t:=⟨_,List.getElem?_eq_getElem (by rw [List.length_set,HSL.out];exact hltj2)⟩
         have HBYI:=Lib.hid (show boxAt r x (j:Int)=by_ by rw [boxAt_nat hc',hby])
         have hq1:=(SN.out.list (.tail _ (.tail _ (.head _)))).cells (fun _=>rfl) hbk'
         have hbc:=And.intro (hq1 0 (.int .i64 by_.w) rfl) (And.intro (hq1 1 (.int .i64 by_.d) rfl) (And.intro (hq1 2 (.int .i64 by_.h) rfl) (hq1 3 (.int .i64 by_.gram) rfl)))
         rw [Nat.add_zero] at hbc
         have SM:=Lib.hid (SN.out.alloc #[.int .i64 by_.w,.int .i64 by_.d,.int .i64 by_.h,.int .i64 by_.gram] 75)
         obtain ⟨b14,hb14⟩:∃ b,wr3.heap.size=b:=⟨_,rfl⟩
         rw [hb14] at SM
         have HT:=Lib.hid ht
         clear hc' hby hbk' hq1 ht SN
         go_upto_region 20 with fail
         (try rw [hb14])
         generalize wr3.alloc (.cells #[.int .i64 by_.w,.int .i64 by_.d,.int .i64 by_.h,.int .i64 by_.gram] 75)=W5 at SM ⊢
         clear hb14 hbc
         have hq3:=(SM.out.list (.tail _ (.tail _ (.tail _ (.tail _ (.tail _ (.head _))))))).cells (fun _=>rfl) HT.out
         have hsc:=And.intro (hq3 0 (.int .i64 t.pallet) rfl) (And.intro (hq3 1 (.int .i64 t.x) rfl) (And.intro (hq3 2 (.int .i64 t.y) rfl) (hq3 3 (.int .i64 t.z) rfl)))
         rw [Nat.add_zero] at hsc
         have k14:=SM.out.box (.head _)
         have k11:=SM.out.box (.tail _ (.head _))
         have k10:=SM.out.box (.tail _ (.tail _ (.head _)))
         have k5:=SM.out.box (.tail _ (.tail _ (.tail _ (.tail _ (.head _))))) 1
         rw [show (#[.slice D1 x.cartons.length d1,.slice (some ⟨ge,0,none⟩) x.spots.length d2]:Array Value)[1]? = some (.slice (some ⟨ge,0,none⟩) x.spots.length d2) from rfl] at k5
         clear hq3
         have HST:=Lib.hid (hit_step (r:=r) (x:=x) (S:=S0) (i:=i) (s:=s.down) (j:=j))
         rw [HH.out] at HST
         cases hit
         ·by_cases hji:j=i
          ·have HST:=Lib.hid (show hitTo r x S0 i s.down (j + 1)=false by rw [HST.out,decide_eq_true hji];rfl)
           have e1:((j:Int) == (i:Int))=true:=beq_iff_eq.2 (by omega)
           have e2:((j:Int) != (i:Int))=false:=by rw [hji];simp
           clear hji
           refine regu (S:=(fun W'=>True)) (by kernel_rfl) (fun _ _ _ _ _=>id) ?_ fun hHeld=>?_
           ·trivial
           refine tku (b:=?_) [0,1,2,3,4,5] (by kernel_rfl) hHeld ?_ ?_
           rotate_left
           ·repeat first
            |exact .nil
            |refine .yes (v:=?_) rfl (by rfl) ?_ ?_
             rotate_left
             ·intro w9 hSw;(try dsimp only at hSw);go_simp;(try with_reducible rfl)
             (try simp only [aP,aZ,aS,aG,aH,aI])
           refine tku (b:=?_) [6,7,8,9,10,11,12,13] (by kernel_rfl) hHeld ?_ ?_
           rotate_left
           ·repeat first
            |exact .nil
            |refine .no rfl (by rfl) ?_
             (try simp only [aP,aZ,aS,aG,aH,aI])
           refine onu 14 rfl (by kernel_rfl) fun K hK=>?_
           go_simp
           (skip)
           refine hK.out _ _ ?_ (fun hHeld=>?_)
           ·trivial
           clear hK K
           (try simp only [aP,aZ,aS,aG,aH,aI])
           refine tku (b:=?_) [15,16] (by kernel_rfl) hHeld ?_ ?_
           rotate_left
           ·repeat first
            |exact .nil
            |refine .yes (v:=?_) rfl (by rfl) ?_ ?_
             rotate_left
             ·intro w9 hSw;(try dsimp only at hSw);go_simp;(try with_reducible rfl)
             (try simp only [aP,aZ,aS,aG,aH,aI])
           refine lsu 17 rfl (by kernel_rfl) fun K hK=>?_
           go_simp
           refine hK.out _ _ ?_
           clear hK K
           (try simp only [aP,aZ,aS,aG,aH,aI])
           go_wp2_with fail
           go_roundw
           case rel=>exact ⟨j + 1,false,hltj,by go_num,rfl,HST,Lib.hid SM.out.drop.drew⟩
           case measure=>simp [intOf] <;> omega
          ·obtain ⟨f,hf⟩:∃ f,overB bx s.down by_ t=f:=⟨_,rfl⟩
           have HF:=Lib.hid hf
           have HST:=Lib.hid (show hitTo r x S0 i s.down (j + 1)=f by
            have ht0:S0.getD j default=t:=by
             have:=HT.out
             rw [List.getElem?_set_ne (fun e=>hji e.symm)] at this
             rw [List.getD_eq_getElem?_getD,this];rfl
            rw [HST.out,decide_eq_false hji,HBXI.out,HBYI.out,ht0,hf];simp)
           have e1:((j:Int) == (i:Int))=false:=beq_eq_false_iff_ne.2 (by omega)
           have e2:((j:Int) != (i:Int))=true:=bne_iff_ne.2 (by omega)
           have HCC:=Lib.hid (show ∀ X:World,Below W5.heap.size W5 X→X.cell? ⟨b5,1,none⟩=some (.slice (some ⟨ge,0,none⟩) x.spots.length d2)∧(X.cell? ⟨b14,0,none⟩=some (.int .i64 by_.w)∧X.cell? ⟨b14,1,none⟩=some (.int .i64 by_.d)∧X.cell? ⟨b14,2,none⟩=some (.int .i64 by_.h)∧X.cell? ⟨b14,3,none⟩=some (.int .i64 by_.gram))∧(X.cell? ⟨b11,0,none⟩=some (.int .i64 s.pallet)∧X.cell? ⟨b11,1,none⟩=some (.int .i64 s.x)∧X.cell? ⟨b11,2,none⟩=some (.int .i64 s.y)∧X.cell? ⟨b11,3,none⟩=some (.int .i64 (s.z - 1)))∧(X.cell? ⟨b10,0,none⟩=some (.int .i64 bx.w)∧X.cell? ⟨b10,1,none⟩=some (.int .i64 bx.d)∧X.cell? ⟨b10,2,none⟩=some (.int .i64 bx.h)∧X.cell? ⟨b10,3,none⟩=some (.int .i64 bx.gram))∧(X.cell? ⟨ge,j * 4,none⟩=some (.int .i64 t.pallet)∧X.cell? ⟨ge,j * 4 + 1,none⟩=some (.int .i64 t.x)∧X.cell? ⟨ge,j * 4 + 2,none⟩=some (.int .i64 t.y)∧X.cell? ⟨ge,j * 4 + 3,none⟩=some (.int .i64 t.z)) from fun X hX=>by
            have hX:=SM.out.next hX
            have c14:=hX.box (.head _)
            have c11:=hX.box (.tail _ (.head _))
            have c10:=hX.box (.tail _ (.tail _ (.head _)))
            have c5:=hX.box (.tail _ (.tail _ (.tail _ (.tail _ (.head _)))))
            have q:=(hX.list (.tail _ (.tail _ (.tail _ (.tail _ (.tail _ (.head _))))))).cells (fun _=>rfl) HT.out
            exact ⟨c5 1,⟨c14 0,c14 1,c14 2,c14 3⟩,⟨c11 0,c11 1,c11 2,c11 3⟩,⟨c10 0,c10 1,c10 2,c10 3⟩,q 0 _ rfl,q 1 _ rfl,q 2 _ rfl,q 3 _ rfl⟩)
           clear hji hf
           refine regu (S:=(fun W'=>W'.cell? ⟨b5,1,none⟩=some (.slice (some ⟨ge,0,none⟩) x.spots.length d2)∧(W'.cell? ⟨b14,0,none⟩=some (.int .i64 by_.w)∧W'.cell? ⟨b14,1,none⟩=some (.int .i64 by_.d)∧W'.cell? ⟨b14,2,none⟩=some (.int .i64 by_.h)∧W'.cell? ⟨b14,3,none⟩=some (.int .i64 by_.gram))∧(W'.cell? ⟨b11,0,none⟩=some (.int .i64 s.pallet)∧W'.cell? ⟨b11,1,none⟩=some (.int .i64 s.x)∧W'.cell? ⟨b11,2,none⟩=some (.int .i64 s.y)∧W'.cell? ⟨b11,3,none⟩=some (.int .i64 (s.z - 1)))∧(W'.cell? ⟨b10,0,none⟩=some (.int .i64 bx.w)∧W'.cell? ⟨b10,1,none⟩=some (.int .i64 bx.d)∧W'.cell? ⟨b10,2,none⟩=some (.int .i64 bx.h)∧W'.cell? ⟨b10,3,none⟩=some (.int .i64 bx.gram))∧(W'.cell? ⟨ge,j * 4,none⟩=some (.int .i64 t.pallet)∧W'.cell? ⟨ge,j * 4 + 1,none⟩=some (.int .i64 t.x)∧W'.cell? ⟨ge,j * 4 + 2,none⟩=some (.int .i64 t.y)∧W'.cell? ⟨ge,j * 4 + 3,none⟩=some (.int .i64 t.z)))) (by kernel_rfl) (fun _ _ _ _ _=>id) ?_ fun hHeld=>?_
           ·(first | (refine HCC.out _ ?_;(repeat' with_reducible first | assumption | exact bR | apply bD | apply bA | apply bC | apply bW | omega | simp <;> omega);done) | go_keep)
           refine tku (b:=?_) [0,1,2,3,4,5,6,7,8,9,10,11,12,13] (by kernel_rfl) hHeld ?_ ?_
           rotate_left
           ·repeat first
            |exact .nil
            |refine .yes (v:=?_) rfl (by rfl) ?_ ?_
             rotate_left
             ·intro w9 hSw;(try dsimp only at hSw);go_simp;(try with_reducible rfl)
             (try simp only [aP,aZ,aS,aG,aH,aI])
           refine onu 14 rfl (by kernel_rfl) fun K hK=>?_
           go_simp
           ((go_at_call 115;refine (iOverlap_any bx s.down by_ t _).mono ?_;rintro e w5 ⟨rfl,hb5⟩;rw [HF.out];have hn5:=bstep (a:=W5) (by (repeat' with_reducible first | assumption | exact bR | apply bD | apply bA | apply bC | apply bW | omega | simp <;> omega)) hb5))
           refine hK.out _ _ ?_ (fun hHeld=>?_)
           ·(first | (refine HCC.out _ ?_;(repeat' with_reducible first | assumption | exact bR | apply bD | apply bA | apply bC | apply bW | omega | simp <;> omega);done) | go_keep)
           clear hK K
           (try simp only [aP,aZ,aS,aG,aH,aI])
           refine tku (b:=?_) [15,16] (by kernel_rfl) hHeld ?_ ?_
           rotate_left
           ·repeat first
            |exact .nil
            |refine .yes (v:=?_) rfl (by rfl) ?_ ?_
             rotate_left
             ·intro w9 hSw;(try dsimp only at hSw);go_simp;(try with_reducible rfl)
             (try simp only [aP,aZ,aS,aG,aH,aI])
           refine lsu 17 rfl (by kernel_rfl) fun K hK=>?_
           go_simp
           refine hK.out _ _ ?_
           clear hK K
           (try simp only [aP,aZ,aS,aG,aH,aI])
           go_wp2_with fail
           go_roundw
           case rel=>exact ⟨j + 1,f,hltj,by go_num,rfl,HST,Lib.hid (SM.out.next (by (repeat' with_reducible first | assumption | exact bR | apply bD | apply bA | apply bC | apply bW | omega | simp <;> omega))).drop⟩
           case measure=>simp [intOf] <;> omega
         ·have HST:=Lib.hid (show hitTo r x S0 i s.down (j + 1)=true by rw [HST.out];rfl)
          refine regu (S:=(fun W'=>True)) (by kernel_rfl) (fun _ _ _ _ _=>id) ?_ fun hHeld=>?_
          ·trivial
          refine tku (b:=?_) [0,1] (by kernel_rfl) hHeld ?_ ?_
          rotate_left
          ·repeat first
           |exact .nil
           |refine .yes (v:=?_) rfl (by rfl) ?_ ?_
            rotate_left
            ·intro w9 hSw;(try dsimp only at hSw);go_simp;(try with_reducible rfl)
            (try simp only [aP,aZ,aS,aG,aH,aI])
          refine tku (b:=?_) [2,3,4,5,6,7,8,9,10,11,12,13] (by kernel_rfl) hHeld ?_ ?_
          rotate_left
          ·repeat first
           |exact .nil
           |refine .no rfl (by rfl) ?_
            (try simp only [aP,aZ,aS,aG,aH,aI])
          refine onu 14 rfl (by kernel_rfl) fun K hK=>?_
          go_simp
          (skip)
          refine hK.out _ _ ?_ (fun hHeld=>?_)
          ·trivial
          clear hK K
          (try simp only [aP,aZ,aS,aG,aH,aI])
          refine tku (b:=?_) [15] (by kernel_rfl) hHeld ?_ ?_
          rotate_left
          ·repeat first
           |exact .nil
           |refine .no rfl (by rfl) ?_
            (try simp only [aP,aZ,aS,aG,aH,aI])
          refine tku (b:=?_) [16] (by kernel_rfl) hHeld ?_ ?_
          rotate_left
          ·repeat first
           |exact .nil
           |refine .yes (v:=?_) rfl (by rfl) ?_ ?_
            rotate_left
            ·intro w9 hSw;(try dsimp only at hSw);go_simp;(try with_reducible rfl)
            (try simp only [aP,aZ,aS,aG,aH,aI])
          refine lsu 17 rfl (by kernel_rfl) fun K hK=>?_
          go_simp
          refine hK.out _ _ ?_
          clear hK K
          (try simp only [aP,aZ,aS,aG,aH,aI])
          go_wp2_with fail
          go_roundw
          case rel=>exact ⟨j + 1,true,hltj,by go_num,rfl,HST,Lib.hid SM.out.drop.drew⟩
          case measure=>simp [intOf] <;> omega
        ·obtain rfl:j=x.cartons.length:=by omega
         have HFF:=Lib.hid (show FR s.down = !hit by rw [← HFR.out,hit_free,HH.out])
         obtain ⟨m,hm⟩:∃ m,s.z.toNat=m + 1:=⟨s.z.toNat - 1,by omega⟩
         have k5:=SN.out.box (.tail _ (.tail _ (.tail _ (.head _))))
         have k11:=SN.out.box (.head _)
         have hq4:=(SN.out.list (.tail _ (.tail _ (.tail _ (.tail _ (.head _)))))).cells (fun _=>rfl) HSET.out
         have hs4:=And.intro (hq4 0 (.int .i64 s.pallet) rfl) (And.intro (hq4 1 (.int .i64 s.x) rfl) (And.intro (hq4 2 (.int .i64 s.y) rfl) (hq4 3 (.int .i64 s.z) rfl)))
         rw [Nat.add_zero] at hs4
         clear hq4
         have fsp:=fun o=>(SN.out.list (.tail _ (.tail _ (.tail _ (.tail _ (.head _)))))).free o
         cases hit
         ·have HE:=Lib.hid (show fall FR (s.z - 1).toNat s.down=FIN by rw [show (s.z - 1).toNat=m by omega,← fall_down HFF.out hpos,← hm];exact HF.out)
          have hS:=Sit.put (us:=[.int .i64 s.pallet,.int .i64 s.x,.int .i64 s.y,.int .i64 (s.z - 1)]) (j:=0) (y:=s.down) SN.out.upE (fun _=>rfl) HSET.out (by simp) rfl
          rw [List.set_set] at hS
          have hnew:=(hS.list (.head _)).cells (fun _=>rfl) (show (S0.set i s.down)[i]? = some s.down by rw [List.getElem?_set_self (by rw [HSL.out];exact hlt2)]) 3 _ rfl
          have SF:=Lib.hid hS.downE.drop
          have HNW:=Lib.hid hnew
          clear hS hnew
          go_wp2
          go_roundw
          case rel=>exact ⟨s.down,HE,by show 0≤s.z - 1∧s.z - 1≤2000;omega,SF⟩
          case measure =>
           have h1:=HNW.out
           have h2:=HZ3.out
           simp only [setW,Nat.add_zero] at h1
           rw [h1,h2]
           show (s.z - 1).toNat < s.z.toNat
           omega
         ·have HE:=Lib.hid (show s=FIN by rw [← HF.out];exact (fall_stuck HFF.out).symm)
          go_wp2
          go_roundw
          case rel=>exact ⟨i + 1,hlt,by go_num,by rw [HDS.out,← HE.out];exact Lib.hid SN.out.drop.drop⟩
          case measure=>simp [intOf] <;> omega
      ·have HE:=Lib.hid (show s=FIN by rw [← HF.out,show s.z.toNat=0 by omega];rfl)
       go_wp2
       go_roundw
       case rel=>exact ⟨i + 1,hlt,by go_num,by rw [HDS.out,← HE.out];exact Lib.hid SN.out.drop⟩
       case measure=>simp [intOf] <;> omega
    ·obtain rfl:i=x.cartons.length:=by omega
     have k5:=SN.out.box (.tail _ (.head _))
     have kr:=SN.out.box (g:=w.heap.size + 2) (cs:=#[.slice none 0 0,.slice none 0 0]) (t:=46) mq
     have fr:=SN.out.free (g:=w.heap.size + 2) (cs:=#[.slice none 0 0,.slice none 0 0]) (t:=46) mq
     go_wp2
     refine bodyPost_ret (v:=.agg #[.slice D1 x.cartons.length d1,.slice D2 x.spots.length d2]) (by simp [results,Tryz.results52,go_sem,kr,fr]) rfl ?_
     rw [HM.out]
     have SF:=(SN.out.drop.rot4).overL [.slice D1 x.cartons.length d1,.slice D2 x.spots.length d2] 0
     obtain ⟨fp,hp⟩:=SF.drop.drop.planShut
     exact ⟨_,fp,rfl,hp.base hBw,SF.low⟩
end Go.Proofs.YtioijfplbgpjpaaGreat
namespace Go.Proofs.YtioijfplbgpjpaaGreat
set_option linter.unusedVariables false
set_option linter.unusedSimpArgs false
set_option maxRecDepth 100000
open Go.RowKit Go.WideShapes Go.ChangeShapes Go.ChangeAt Go.Deep
section
variable {w W:World} {l:List Fact} {q q1 q2 q3 q4 q5 q6 q7:Fact}
theorem Sit.up6 (h:Sit w W (q1::q2::q3::q4::q5::q6::q::l)):Sit w W (q::q1::q2::q3::q4::q5::q6::l):=h.perm (List.perm_middle (l₁:=[q1,q2,q3,q4,q5,q6]))
variable {L:List Fact} {vc:Value} {x:Plan} {fp:List Nat} {g o n c i:Nat} {s:Spot}
theorem Sit.spotCell (h:Sit w W L) (hm:fRp vc (.slice (some ⟨g,o,none⟩) n c) x fp∈L) (hx:x.spots[i]? = some s) (j:Nat) (u:Value) (hu:s.cells[j]? = some u):W.cell? ⟨g,o + i * 4 + j,none⟩=some u:=by
 obtain ⟨zs,f1,f2,h0,hd,h1,h2,h3,⟨A,c',hv,hc,hr⟩,h5⟩:=h.on _ hm
 obtain ⟨b',o',e4,hb,hel⟩:=hr (by have:=(List.getElem?_eq_some_iff.1 hx).1;omega)
 injection hv with e1 e2 e3
 rw [← e1] at e4
 injection e4 with e5
 injection e5 with e6 e7
 subst e6 e7
 exact hel i s hx j u hu
theorem Sit.spotFree (h:Sit w W L) (hm:fRp vc (.slice (some ⟨g,o,none⟩) n c) x fp∈L) (hn:0 < x.spots.length) (j:Nat):W.frozen? ⟨g,j,none⟩=false:=by
 obtain ⟨zs,f1,f2,h0,hd,h1,h2,h3,⟨A,c',hv,hc,hr⟩,h5⟩:=h.on _ hm
 obtain ⟨b',o',e4,hb,hel⟩:=hr hn
 injection hv with e1 e2 e3
 rw [← e1] at e4
 injection e4 with e5
 injection e5 with e6 e7
 subst e6
 obtain ⟨cs,t,hcs⟩:=h5 g hb
 exact frozen_of_row _ _ j _ _ hcs
end
set_option maxRecDepth 100000 in
set_option maxHeartbeats 40000000 in
theorem l21Raised_any (v:Value) (xs:List Int) (w W:World) (L:List Fact) (hS:Sit w W L) (hx:RBytes w w.heap.size v xs):Calls Tryz.prog 132 #[v] W fun e w'=>∃ u r fp vc vs x fq,e=.returned (.tuple #[u,.agg #[vc,vs]])∧Sit w w' (fRq u r fp::fRp vc vs x fq::L)∧r.bulk≤80∧PlanSmall x:=by
 have HB:=Lib.hid hx
 have SN:=Lib.hid ((hS.alloc cZ 41).alloc #[.slice none 0 0,.slice none 0 0] 46)
 simp only [World.size_alloc] at SN
 clear hS hx
 go_enter Tryz.func132,Tryz.ntmps132
 go_upto_region 1 with fail
 generalize hW1:(W.alloc (.cells cZ 41)).alloc (.cells #[.slice none 0 0,.slice none 0 0] 46)=W1 at SN ⊢
 clear hW1
 go_wp2_with fail
 refine (l13Draw_any v xs _ _ _ SN.out HB.out).mono ?_
 rintro e w2 ⟨u,r,fp,vc,vs,x,fq,rfl,SN1,hbk,hsx⟩
 obtain ⟨vp,vt,vi,rfl,⟨A1,c1,rfl,_⟩,⟨A2,c2,rfl,_⟩,⟨A3,c3,rfl,_⟩⟩:=SN1.on _ (.head _)
 obtain ⟨zs2,hz2,⟨A7,c7,rfl,_⟩,_,⟨A8,c8,rfl,hc8,hel8⟩⟩:=RpOn.open (SN1.on _ (.tail _ (.head _)))
 have hA8:0 < x.spots.length→∃ g o,A8=some ⟨g,o,none⟩:=fun hn=>by obtain ⟨b,o,e,_⟩:=hel8 hn;exact ⟨b,o,e⟩
 have HZ2:=Lib.hid hz2
 have hbt:=SN1.boxlt (.tail _ (.tail _ (.head _)))
 clear hel8 hz2
 have SQ:=Lib.hid ((SN1.alloc (cR r A1 c1 A2 c2 A3 c3) 41).alloc #[.slice A7 zs2.length c7,.slice A8 x.spots.length c8] 46)
 simp only [World.size_alloc] at SQ
 obtain ⟨b4,hb4⟩:∃ b,w2.heap.size=b:=⟨_,rfl⟩
 rw [hb4] at SQ hbt
 clear SN SN1
 have SN:=SQ
 clear SQ
 go_upto_region 2 with fail
 generalize (w2.alloc (.cells (cR r A1 c1 A2 c2 A3 c3) 41)).alloc (.cells #[.slice A7 zs2.length c7,.slice A8 x.spots.length c8] 46)=W3 at SN ⊢
 clear hb4
 have hn1 : ¬ (b4=W.heap.size):=(by omega);have hn2 : ¬ (b4=W.heap.size + 1):=(by omega);have hn3 : ¬ (b4 + 1=W.heap.size):=(by omega);have hn4 : ¬ (b4 + 1=W.heap.size + 1):=(by omega);have hn5 : ¬ (W.heap.size=b4):=(by omega);have hn6 : ¬ (W.heap.size + 1=b4):=(by omega);have hn7 : ¬ (W.heap.size=b4 + 1):=(by omega);have hn8 : ¬ (W.heap.size + 1=b4 + 1):=(by omega);have hn9 : ¬ (b4=b4 + 1):=(by omega);have hn10 : ¬ (b4 + 1=b4):=(by omega)
 go_wp2_with fail
 refine (new_sit SN.out HB.out).mono ?_
 rintro e1 w6 ⟨g,rfl,SN1⟩
 have SN2:=Lib.hid SN1
 clear SN SN1
 have SN:=SN2
 clear SN2
 have k5:=SN.out.box (g:=b4 + 1) (cs:=#[.slice A7 zs2.length c7,.slice A8 x.spots.length c8]) (t:=46) mq
 go_upto_region 3 with fail
 go_cut [31] (fun v31 X=>∃ b:Bool,v31=.bool b∧(b=true→0 < x.spots.length)∧Hid (Sit w X (fCur g v xs.length::fBox (b4 + 1) #[.slice A7 zs2.length c7,.slice A8 x.spots.length c8] 46::fBox b4 (cR r A1 c1 A2 c2 A3 c3) 41::fRq (.agg (cR r A1 c1 A2 c2 A3 c3)) r fp::fRp (.slice A7 zs2.length c7) (.slice A8 x.spots.length c8) x fq::fBox (W.heap.size + 1) #[.slice none 0 0,.slice none 0 0] 46::fBox W.heap.size cZ 41::L)))
 case first =>
  by_cases h0:0 < x.spots.length
  ·have h0i:(0:Int) < (x.spots.length:Int):=by omega
   by_cases hl:x.spots.length=zs2.length
   ·have hq:((x.spots.length:Int) == (zs2.length:Int))=true:=beq_iff_eq.2 (by omega)
    have hq2:decide ((x.spots.length:Int)=(zs2.length:Int))=true:=decide_eq_true (by omega)
    have HL:=Lib.hid hl
    clear hl
    go_wp2_with fail
    refine (once_sit SN.out HB.out (.head _) _ (by first | decide | omega)).mono ?_
    rintro e w7 ⟨o1,rfl,SN1⟩
    have SN2:=Lib.hid SN1
    go_wp2_with fail
    go_meet
    exact ⟨o1,rfl,fun _=>h0,SN2⟩
   ·have hq:((x.spots.length:Int) == (zs2.length:Int))=false:=beq_eq_false_iff_ne.2 (by omega)
    have hq2:decide ((x.spots.length:Int)=(zs2.length:Int))=false:=decide_eq_false (by omega)
    go_wp2_with fail
    go_meet
    exact ⟨false,rfl,nofun,SN⟩
  ·have h0i : ¬ ((0:Int) < (x.spots.length:Int)):=by omega
   go_wp2_with fail
   go_meet
   exact ⟨false,rfl,nofun,SN⟩
 case rest =>
  obtain ⟨b,rfl,hbt2,SN2⟩:=hcut
  clear SN k5
  have SN:=SN2
  clear SN2
  cases b
  ·have k4:=SN.out.box (g:=b4) (cs:=(cR r A1 c1 A2 c2 A3 c3)) (t:=41) mq;have k5:=SN.out.box (g:=b4 + 1) (cs:=#[.slice A7 zs2.length c7,.slice A8 x.spots.length c8]) (t:=46) mq;have k2:=SN.out.box (g:=W.heap.size) (cs:=cZ) (t:=41) mq;have f2:=SN.out.free (g:=W.heap.size) (cs:=cZ) (t:=41) mq;have k3:=SN.out.box (g:=W.heap.size + 1) (cs:=#[.slice none 0 0,.slice none 0 0]) (t:=46) mq;have f3:=SN.out.free (g:=W.heap.size + 1) (cs:=#[.slice none 0 0,.slice none 0 0]) (t:=46) mq;have m40:=k4 0;have m41:=k4 1;have m42:=k4 2;have m43:=k4 3;have m44:=k4 4;have m45:=k4 5;have m46:=k4 6;have m47:=k4 7;have m48:=k4 8;have m49:=k4 9;have m50:=k5 0;have m51:=k5 1;simp at m40 m41 m42 m43 m44 m45 m46 m47 m48 m49 m50 m51;clear k4 k5
   go_wp2_with fail
   refine regu (S:=(fun W'=>(cS10 (W') (b4) (r) (.slice A1 r.pairs.length c1) (.slice A2 r.types.length c2) (.slice A3 r.items.length c3))∧W'.cell? ⟨b4 + 1,0,none⟩=some (.slice A7 zs2.length c7)∧W'.cell? ⟨b4 + 1,1,none⟩=some (.slice A8 x.spots.length c8))) (by kernel_rfl) (fun _ _ _ _ _=>id) ?_ fun hHeld=>?_
   ·go_keep
   refine tku (b:=?_) [0,1] (by kernel_rfl) hHeld ?_ ?_
   rotate_left
   ·repeat first
    |exact .nil
    |refine .yes (v:=?_) rfl (by rfl) ?_ ?_
     rotate_left
     ·intro w9 hSw;(try dsimp only at hSw);go_simp;(try with_reducible rfl)
     (try simp only [aP,aZ,aS,aG,aH,aI])
   refine onu 2 rfl (by kernel_rfl) fun K hK=>?_
   go_simp
   refine hK.out _ _ ?_ (fun hHeld=>?_)
   ·go_keep
   clear hK K
   (try simp only [aP,aZ,aS,aG,aH,aI])
   refine lsu 3 rfl (by kernel_rfl) fun K hK=>?_
   go_simp
   refine hK.out _ _ ?_
   clear hK K
   (try simp only [aP,aZ,aS,aG,aH,aI])
   go_wp2_with fail
   refine bodyPost_ret (v:=.tuple #[.agg (cR r A1 c1 A2 c2 A3 c3),.agg #[.slice A7 zs2.length c7,.slice A8 x.spots.length c8]]) (by simp [results,Tryz.results132,go_sem,k2,f2,k3,f3]) rfl ?_
   exact ⟨_,r,fp,_,_,x,_,rfl,(((((SN.out.up6).up6.rot2).sub (.cons_cons _ (.cons_cons _ (.cons _ (.cons _ (.cons _ (List.Sublist.refl _))))))).overL [.int .i64 r.way,.int .i64 r.pallet.w,.int .i64 r.pallet.d,.int .i64 r.pallet.h,.int .i64 r.pallet.gram,.int .i64 r.classes,.slice A1 r.pairs.length c1,.slice A2 r.types.length c2,.int .i64 r.master,.slice A3 r.items.length c3] 0).rot2.overL [.slice A7 zs2.length c7,.slice A8 x.spots.length c8] 0).drop.drop.drew,hbk,hsx⟩
  ·have h0:=hbt2 rfl
   obtain ⟨gs,off,rfl⟩:=hA8 h0
   obtain ⟨m,hm⟩:∃ m,m=x.spots.length - 1:=⟨_,rfl⟩
   have hmlt:m < x.spots.length:=by omega
   have hmi:(m:Int) < (x.spots.length:Int):=by omega
   obtain ⟨s,hs⟩:∃ s,x.spots[m]? = some s:=⟨_,List.getElem?_eq_getElem hmlt⟩
   have HS:=Lib.hid hs
   have hs100:=hsx.spots
   have hw1:wrap64 ((x.spots.length:Int) - 1)=(m:Int):=by unfold wrap64;omega
   have hw2:IntKind.i64.wrap ((x.spots.length:Int) - 1)=(m:Int):=by rw [wrapE];exact hw1
   have k5:=SN.out.box (g:=b4 + 1) (cs:=#[.slice A7 zs2.length c7,.slice (some ⟨gs,off,none⟩) x.spots.length c8]) (t:=46) mq
   have k51:=k5 1
   simp at k51
   have hcz:=SN.out.spotCell (vc:=.slice A7 zs2.length c7) (x:=x) (fp:=fq) (by repeat first | with_reducible exact List.mem_cons_self | with_reducible exact .head _ | refine .tail _ ?_) HS.out 3 _ rfl
   have hfz:=SN.out.spotFree (vc:=.slice A7 zs2.length c7) (x:=x) (fp:=fq) (g:=gs) (o:=off) (n:=x.spots.length) (c:=c8) (by repeat first | with_reducible exact List.mem_cons_self | with_reducible exact .head _ | refine .tail _ ?_) h0
   clear hs hm
   go_wp2_with fail
   refine regu (S:=(fun W'=>W'.cell? ⟨b4 + 1,1,none⟩=some (.slice (some ⟨gs,off,none⟩) x.spots.length c8)∧W'.cell? ⟨gs,off + m * 4 + 3,none⟩=some (.int .i64 s.z))) (by kernel_rfl) (fun _ _ _ _ _=>id) ?_ fun hHeld=>?_
   ·(first | exact ⟨k51,hcz⟩ | go_keep)
   refine tku (b:=?_) [0,1,2,3,4,5,6,7,8,9] (by kernel_rfl) hHeld ?_ ?_
   rotate_left
   ·repeat first
    |exact .nil
    |refine .yes (v:=?_) rfl (by rfl) ?_ ?_
     rotate_left
     ·intro w9 hSw;(try dsimp only at hSw);go_simp;(try with_reducible rfl)
     (try simp only [aP,aZ,aS,aG,aH,aI])
   refine onu 10 rfl (by kernel_rfl) fun K hK=>?_
   go_simp
   ((go_at_call 133;refine Sit.cs SN.out fun SN0=>?_;(try simp only [World.size_alloc,World.size_drew] at SN0);refine (below_sit SN0 HB.out (.head _) _ (by first | decide | omega)).mono ?_;rintro e w7 ⟨y,rfl,hy,SN1,T1⟩;clear k5 k51 hcz hfz;have SN2:=Lib.hid SN1;clear SN SN0 SN1 T1;have SN:=SN2;clear SN2;have k5:=SN.out.box (g:=b4 + 1) (cs:=#[.slice A7 zs2.length c7,.slice (some ⟨gs,off,none⟩) x.spots.length c8]) (t:=46) mq;have k51:=k5 1;simp at k51;have hcz:=SN.out.spotCell (vc:=.slice A7 zs2.length c7) (x:=x) (fp:=fq) (by repeat first | with_reducible exact List.mem_cons_self | with_reducible exact .head _ | refine .tail _ ?_) HS.out 3 _ rfl;have hfz:=SN.out.spotFree (vc:=.slice A7 zs2.length c7) (x:=x) (fp:=fq) (g:=gs) (o:=off) (n:=x.spots.length) (c:=c8) (by repeat first | with_reducible exact List.mem_cons_self | with_reducible exact .head _ | refine .tail _ ?_) h0))
   refine hK.out _ _ ?_ (fun hHeld=>?_)
   ·(first | exact ⟨k51,hcz⟩ | go_keep)
   clear hK K
   (try simp only [aP,aZ,aS,aG,aH,aI])
   refine tku (b:=?_) [11,12,13] (by kernel_rfl) hHeld ?_ ?_
   rotate_left
   ·repeat first
    |exact .nil
    |refine .yes (v:=?_) rfl (by rfl) ?_ ?_
     rotate_left
     ·intro w9 hSw;(try dsimp only at hSw);go_simp;(try with_reducible rfl)
     (try simp only [aP,aZ,aS,aG,aH,aI])
   refine lsu 14 rfl (by kernel_rfl) fun K hK=>?_
   go_simp
   refine hK.out _ _ ?_
   clear hK K
   (try simp only [aP,aZ,aS,aG,aH,aI])
   have SQ:=Lib.hid ((SN.out.up4.putS (j:=3) (s':=⟨s.pallet,s.x,s.y,IntKind.i64.wrap (s.z + y)⟩) (u:=.int .i64 (IntKind.i64.wrap (s.z + y))) HS.out (by decide) rfl).down4)
   generalize w7.setCell ⟨gs,off + m * 4 + 3,none⟩ (.int .i64 (IntKind.i64.wrap (s.z + y)))=W8 at SQ ⊢
   clear SN k5 k51 hcz hfz
   have SN:=SQ
   clear SQ
   have k4:=SN.out.box (g:=b4) (cs:=(cR r A1 c1 A2 c2 A3 c3)) (t:=41) mq;have k5:=SN.out.box (g:=b4 + 1) (cs:=#[.slice A7 zs2.length c7,.slice (some ⟨gs,off,none⟩) x.spots.length c8]) (t:=46) mq;have k2:=SN.out.box (g:=W.heap.size) (cs:=cZ) (t:=41) mq;have f2:=SN.out.free (g:=W.heap.size) (cs:=cZ) (t:=41) mq;have k3:=SN.out.box (g:=W.heap.size + 1) (cs:=#[.slice none 0 0,.slice none 0 0]) (t:=46) mq;have f3:=SN.out.free (g:=W.heap.size + 1) (cs:=#[.slice none 0 0,.slice none 0 0]) (t:=46) mq;have m40:=k4 0;have m41:=k4 1;have m42:=k4 2;have m43:=k4 3;have m44:=k4 4;have m45:=k4 5;have m46:=k4 6;have m47:=k4 7;have m48:=k4 8;have m49:=k4 9;have m50:=k5 0;have m51:=k5 1;simp at m40 m41 m42 m43 m44 m45 m46 m47 m48 m49 m50 m51;clear k4 k5
   go_wp2_with fail
   refine regu (S:=(fun W'=>(cS10 (W') (b4) (r) (.slice A1 r.pairs.length c1) (.slice A2 r.types.length c2) (.slice A3 r.items.length c3))∧W'.cell? ⟨b4 + 1,0,none⟩=some (.slice A7 zs2.length c7)∧W'.cell? ⟨b4 + 1,1,none⟩=some (.slice (some ⟨gs,off,none⟩) x.spots.length c8))) (by kernel_rfl) (fun _ _ _ _ _=>id) ?_ fun hHeld=>?_
   ·go_keep
   refine tku (b:=?_) [0,1] (by kernel_rfl) hHeld ?_ ?_
   rotate_left
   ·repeat first
    |exact .nil
    |refine .yes (v:=?_) rfl (by rfl) ?_ ?_
     rotate_left
     ·intro w9 hSw;(try dsimp only at hSw);go_simp;(try with_reducible rfl)
     (try simp only [aP,aZ,aS,aG,aH,aI])
   refine onu 2 rfl (by kernel_rfl) fun K hK=>?_
   go_simp
   refine hK.out _ _ ?_ (fun hHeld=>?_)
   ·go_keep
   clear hK K
   (try simp only [aP,aZ,aS,aG,aH,aI])
   refine lsu 3 rfl (by kernel_rfl) fun K hK=>?_
   go_simp
   refine hK.out _ _ ?_
   clear hK K
   (try simp only [aP,aZ,aS,aG,aH,aI])
   go_wp2_with fail
   refine bodyPost_ret (v:=.tuple #[.agg (cR r A1 c1 A2 c2 A3 c3),.agg #[.slice A7 zs2.length c7,.slice (some ⟨gs,off,none⟩) x.spots.length c8]]) (by simp [results,Tryz.results132,go_sem,k2,f2,k3,f3]) rfl ?_
   exact ⟨_,r,fp,_,_,_,_,rfl,(((((SN.out.up6).up6.rot2).sub (.cons_cons _ (.cons_cons _ (.cons _ (.cons _ (.cons _ (List.Sublist.refl _))))))).overL [.int .i64 r.way,.int .i64 r.pallet.w,.int .i64 r.pallet.d,.int .i64 r.pallet.h,.int .i64 r.pallet.gram,.int .i64 r.classes,.slice A1 r.pairs.length c1,.slice A2 r.types.length c2,.int .i64 r.master,.slice A3 r.items.length c3] 0).rot2.overL [.slice A7 zs2.length c7,.slice (some ⟨gs,off,none⟩) x.spots.length c8] 0).drop.drop.drew,hbk,hsx.setS m ⟨s.pallet,s.x,s.y,IntKind.i64.wrap (s.z + y)⟩⟩
end Go.Proofs.YtioijfplbgpjpaaGreat
namespace Go.Proofs.YtioijfplbgpjpaaGreat
set_option linter.unusedVariables false
set_option linter.unusedSimpArgs false
set_option maxRecDepth 100000
open Go.RowKit Go.WideShapes Go.ChangeShapes Go.ChangeAt Go.Deep
set_option maxRecDepth 100000 in
set_option maxHeartbeats 40000000 in
theorem DrawBeneath_any (v:Value) (xs:List Int) (w W:World) (L:List Fact) (hS:Sit w W L) (hx:RBytes w w.heap.size v xs):Calls Tryz.prog 50 #[v] W fun e w'=>∃ (u:Value) (r:Request) (fp:List Nat) (vc vs:Value) (x:Plan) (fq:List Nat) (n0:Int),e=.returned (.tuple #[u,.agg #[vc,vs],.int .i64 n0])∧Sit w w' (fRq u r fp::fRp vc vs x fq::L)∧r.bulk≤80∧PlanSmall x:=by
 have HB:=Lib.hid hx
 have SN:=Lib.hid ((hS.alloc cZ 41).alloc #[.slice none 0 0,.slice none 0 0] 46)
 simp only [World.size_alloc] at SN
 clear hS hx
 go_enter Tryz.func50,Tryz.ntmps50
 go_upto_region 1 with fail
 generalize hW1:(W.alloc (.cells cZ 41)).alloc (.cells #[.slice none 0 0,.slice none 0 0] 46)=W1 at SN ⊢
 clear hW1
 go_wp2_with fail
 refine (l21Raised_any v xs _ _ _ SN.out HB.out).mono ?_
 rintro e w2 ⟨u,r,fp,vc,vs,x,fq,rfl,SN1,hbk,hsx⟩
 obtain ⟨vp,vt,vi,rfl,⟨A1,c1,rfl,_⟩,⟨A2,c2,rfl,_⟩,⟨A3,c3,rfl,_⟩⟩:=SN1.on _ (.head _)
 obtain ⟨zs2,hz2,⟨A7,c7,rfl,_⟩,_,⟨A8,c8,rfl,_⟩⟩:=RpOn.open (SN1.on _ (.tail _ (.head _)))
 have HZ2:=Lib.hid hz2
 have hbt:=SN1.boxlt (.tail _ (.tail _ (.head _)))
 clear hz2
 have hzl:zs2.length≤100:=by have:=hsx.cartons;rw [← HZ2.out,List.length_map] at this;exact this
 have hw2:IntKind.i64.wrap ((zs2.length:Int) + 2)=(zs2.length:Int) + 2:=by rw [wrapE];unfold wrap64;omega
 have hw3:wrap64 ((zs2.length:Int) + 2)=(zs2.length:Int) + 2:=by unfold wrap64;omega
 have hbig:(zs2.length:Int) + 2≤9223372036854775807:=Int.le_trans (Int.add_le_add_right (Int.ofNat_le.2 hzl) 2) (by decide)
 have SQ:=Lib.hid ((SN1.alloc (cR r A1 c1 A2 c2 A3 c3) 41).alloc #[.slice A7 zs2.length c7,.slice A8 x.spots.length c8] 46)
 simp only [World.size_alloc] at SQ
 obtain ⟨b4,hb4⟩:∃ b,w2.heap.size=b:=⟨_,rfl⟩
 rw [hb4] at SQ hbt
 clear SN SN1
 have SN:=SQ
 clear SQ
 go_upto_region 2 with fail
 generalize (w2.alloc (.cells (cR r A1 c1 A2 c2 A3 c3) 41)).alloc (.cells #[.slice A7 zs2.length c7,.slice A8 x.spots.length c8] 46)=W3 at SN ⊢
 clear hb4
 have hn1 : ¬ (b4=W.heap.size):=(by omega);have hn2 : ¬ (b4=W.heap.size + 1):=(by omega);have hn3 : ¬ (b4 + 1=W.heap.size):=(by omega);have hn4 : ¬ (b4 + 1=W.heap.size + 1):=(by omega);have hn5 : ¬ (W.heap.size=b4):=(by omega);have hn6 : ¬ (W.heap.size + 1=b4):=(by omega);have hn7 : ¬ (W.heap.size=b4 + 1):=(by omega);have hn8 : ¬ (W.heap.size + 1=b4 + 1):=(by omega);have hn9 : ¬ (b4=b4 + 1):=(by omega);have hn10 : ¬ (b4 + 1=b4):=(by omega)
 have k4:=SN.out.box (g:=b4) (cs:=(cR r A1 c1 A2 c2 A3 c3)) (t:=41) mq;have k5:=SN.out.box (g:=b4 + 1) (cs:=#[.slice A7 zs2.length c7,.slice A8 x.spots.length c8]) (t:=46) mq;have k2:=SN.out.box (g:=W.heap.size) (cs:=cZ) (t:=41) mq;have f2:=SN.out.free (g:=W.heap.size) (cs:=cZ) (t:=41) mq;have k3:=SN.out.box (g:=W.heap.size + 1) (cs:=#[.slice none 0 0,.slice none 0 0]) (t:=46) mq;have f3:=SN.out.free (g:=W.heap.size + 1) (cs:=#[.slice none 0 0,.slice none 0 0]) (t:=46) mq;have m40:=k4 0;have m41:=k4 1;have m42:=k4 2;have m43:=k4 3;have m44:=k4 4;have m45:=k4 5;have m46:=k4 6;have m47:=k4 7;have m48:=k4 8;have m49:=k4 9;have m50:=k5 0;have m51:=k5 1;simp at m40 m41 m42 m43 m44 m45 m46 m47 m48 m49 m50 m51;clear k4 k5
 go_wp2_with fail
 refine regu (S:=(fun W'=>(cS10 (W') (b4) (r) (.slice A1 r.pairs.length c1) (.slice A2 r.types.length c2) (.slice A3 r.items.length c3))∧W'.cell? ⟨b4 + 1,0,none⟩=some (.slice A7 zs2.length c7)∧W'.cell? ⟨b4 + 1,1,none⟩=some (.slice A8 x.spots.length c8))) (by kernel_rfl) (fun _ _ _ _ _=>id) ?_ fun hHeld=>?_
 ·go_keep
 refine tku (b:=?_) [0,1,2,4,5,6,7] (by kernel_rfl) hHeld ?_ ?_
 rotate_left
 ·repeat first
  |exact .nil
  |refine .yes (v:=?_) rfl (by rfl) ?_ ?_
   rotate_left
   ·intro w9 hSw;(try dsimp only at hSw);go_simp;(try with_reducible rfl)
   (try simp only [aP,aZ,aS,aG,aH,aI])
 refine onu 3 rfl (by kernel_rfl) fun K hK=>?_
 go_simp
 ((go_at_call 134;refine Sit.cs SN.out fun SN0=>?_;(try simp only [World.size_alloc,World.size_drew] at SN0);refine (new_sit SN0 HB.out).mono ?_;rintro e w1 ⟨g,rfl,SN1⟩;clear m40 m41 m42 m43 m44 m45 m46 m47 m48 m49 m50 m51 k2 f2 k3 f3;have SN2:=Lib.hid SN1;clear SN SN0 SN1;have SN:=SN2;clear SN2;have k4:=SN.out.box (g:=b4) (cs:=(cR r A1 c1 A2 c2 A3 c3)) (t:=41) mq;have k5:=SN.out.box (g:=b4 + 1) (cs:=#[.slice A7 zs2.length c7,.slice A8 x.spots.length c8]) (t:=46) mq;have k2:=SN.out.box (g:=W.heap.size) (cs:=cZ) (t:=41) mq;have f2:=SN.out.free (g:=W.heap.size) (cs:=cZ) (t:=41) mq;have k3:=SN.out.box (g:=W.heap.size + 1) (cs:=#[.slice none 0 0,.slice none 0 0]) (t:=46) mq;have f3:=SN.out.free (g:=W.heap.size + 1) (cs:=#[.slice none 0 0,.slice none 0 0]) (t:=46) mq;have m40:=k4 0;have m41:=k4 1;have m42:=k4 2;have m43:=k4 3;have m44:=k4 4;have m45:=k4 5;have m46:=k4 6;have m47:=k4 7;have m48:=k4 8;have m49:=k4 9;have m50:=k5 0;have m51:=k5 1;simp at m40 m41 m42 m43 m44 m45 m46 m47 m48 m49 m50 m51;clear k4 k5))
 refine hK.out _ _ ?_ (fun hHeld=>?_)
 ·go_keep
 clear hK K
 (try simp only [aP,aZ,aS,aG,aH,aI])
 refine onu 8 rfl (by kernel_rfl) fun K hK=>?_
 go_simp
 ((go_at_call 133;refine Sit.cs SN.out fun SN0=>?_;(try simp only [World.size_alloc,World.size_drew] at SN0);refine (below_sit SN0 HB.out (by repeat first | with_reducible exact List.mem_cons_self | with_reducible exact .head _ | refine .tail _ ?_) _ (hbig)).mono ?_;rintro e w1 ⟨y,rfl,hy,SN1,T1⟩;clear hy;clear m40 m41 m42 m43 m44 m45 m46 m47 m48 m49 m50 m51 k2 f2 k3 f3;have SN2:=Lib.hid SN1;clear SN SN0 SN1 T1;have SN:=SN2;clear SN2;have k4:=SN.out.box (g:=b4) (cs:=(cR r A1 c1 A2 c2 A3 c3)) (t:=41) mq;have k5:=SN.out.box (g:=b4 + 1) (cs:=#[.slice A7 zs2.length c7,.slice A8 x.spots.length c8]) (t:=46) mq;have k2:=SN.out.box (g:=W.heap.size) (cs:=cZ) (t:=41) mq;have f2:=SN.out.free (g:=W.heap.size) (cs:=cZ) (t:=41) mq;have k3:=SN.out.box (g:=W.heap.size + 1) (cs:=#[.slice none 0 0,.slice none 0 0]) (t:=46) mq;have f3:=SN.out.free (g:=W.heap.size + 1) (cs:=#[.slice none 0 0,.slice none 0 0]) (t:=46) mq;have m40:=k4 0;have m41:=k4 1;have m42:=k4 2;have m43:=k4 3;have m44:=k4 4;have m45:=k4 5;have m46:=k4 6;have m47:=k4 7;have m48:=k4 8;have m49:=k4 9;have m50:=k5 0;have m51:=k5 1;simp at m40 m41 m42 m43 m44 m45 m46 m47 m48 m49 m50 m51;clear k4 k5))
 refine hK.out _ _ ?_ (fun hHeld=>?_)
 ·go_keep
 clear hK K
 (try simp only [aP,aZ,aS,aG,aH,aI])
 refine tku (b:=?_) [9] (by kernel_rfl) hHeld ?_ ?_
 rotate_left
 ·repeat first
  |exact .nil
  |refine .yes (v:=?_) rfl (by rfl) ?_ ?_
   rotate_left
   ·intro w9 hSw;(try dsimp only at hSw);go_simp;(try with_reducible rfl)
   (try simp only [aP,aZ,aS,aG,aH,aI])
 refine onu 10 rfl (by kernel_rfl) fun K hK=>?_
 go_simp
 refine hK.out _ _ ?_ (fun hHeld=>?_)
 ·go_keep
 clear hK K
 (try simp only [aP,aZ,aS,aG,aH,aI])
 refine onu 11 rfl (by kernel_rfl) fun K hK=>?_
 go_simp
 refine hK.out _ _ ?_ (fun hHeld=>?_)
 ·go_keep
 clear hK K
 (try simp only [aP,aZ,aS,aG,aH,aI])
 refine lsu 12 rfl (by kernel_rfl) fun K hK=>?_
 go_simp
 refine hK.out _ _ ?_
 clear hK K
 (try simp only [aP,aZ,aS,aG,aH,aI])
 go_wp2_with fail
 refine bodyPost_ret (v:=.tuple #[.agg (cR r A1 c1 A2 c2 A3 c3),.agg #[.slice A7 zs2.length c7,.slice A8 x.spots.length c8],.int .i64 (IntKind.i64.wrap (y - 1))]) (by simp [results,Tryz.results50,go_sem,k2,f2,k3,f3]) rfl ?_
 exact ⟨_,r,fp,_,_,x,_,_,rfl,(((((SN.out.up6).up6.rot2).sub (.cons_cons _ (.cons_cons _ (.cons _ (.cons _ (.cons _ ((.cons_cons _ (.cons_cons _ (List.Sublist.refl _)))))))))).overL [.int .i64 r.way,.int .i64 r.pallet.w,.int .i64 r.pallet.d,.int .i64 r.pallet.h,.int .i64 r.pallet.gram,.int .i64 r.classes,.slice A1 r.pairs.length c1,.slice A2 r.types.length c2,.int .i64 r.master,.slice A3 r.items.length c3] 0).rot2.overL [.slice A7 zs2.length c7,.slice A8 x.spots.length c8] 0).drop.drop,hbk,hsx⟩
end Go.Proofs.YtioijfplbgpjpaaGreat
namespace Go.Proofs.YtioijfplbgpjpaaGreat
set_option linter.unusedVariables false
set_option linter.unusedSimpArgs false
set_option maxRecDepth 100000
open Go.RowKit
end Go.Proofs.YtioijfplbgpjpaaGreat
namespace Go.Proofs.YtioijfplbgpjpaaGreat
set_option linter.unusedVariables false
set_option linter.unusedSimpArgs false
set_option maxRecDepth 100000
open Go.RowKit Go.WideShapes Go.ChangeShapes Go.ChangeAt Go.Deep
@[simp] abbrev cB5 (X:World) (b o m:Nat) (s:Box):Prop:=X.cell? ⟨b,o + m * 4,none⟩=some (.int .i64 s.w)∧X.cell? ⟨b,o + m * 4 + 1,none⟩=some (.int .i64 s.d)∧X.cell? ⟨b,o + m * 4 + 2,none⟩=some (.int .i64 s.h)∧X.cell? ⟨b,o + m * 4 + 3,none⟩=some (.int .i64 s.gram)
abbrev RBoxes (w:World) (B:Nat) (v:Value) (xs:List Box):Prop:=RL 16777216 4 (flat Box.cells) w B v xs
theorem RBoxes.one {w:World} {A:Option Addr} {n c:Nat} {xs:List Box} (h:RBoxes w w.heap.size (.slice A n c) xs) (i:Nat) (hi:i < xs.length) :
  ∃ b off s,A=some ⟨b,off,none⟩∧b < w.heap.size∧xs[i]? = some s∧Hid (∀ X:World,Below w.heap.size w X→cB5 X b off i s):=by
 obtain ⟨b,off,s,cs,rfl,hb,hx,_,rfl,hc⟩:=h.at_ i hi
 exact ⟨b,off,s,rfl,hb,hx,Lib.hid fun X hX=>⟨(hX.cell (p:=⟨b,_,none⟩) hb).trans (hc 0 _ rfl),(hX.cell (p:=⟨b,_,none⟩) hb).trans (hc 1 _ rfl),(hX.cell (p:=⟨b,_,none⟩) hb).trans (hc 2 _ rfl),(hX.cell (p:=⟨b,_,none⟩) hb).trans (hc 3 _ rfl)⟩⟩
end Go.Proofs.YtioijfplbgpjpaaGreat
namespace Go.Proofs.YtioijfplbgpjpaaGreat
set_option linter.unusedVariables false
set_option linter.unusedSimpArgs false
set_option maxRecDepth 100000
open Go.RowKit
section
variable {r:Request} {x:Plan} {k:Int}
end
end Go.Proofs.YtioijfplbgpjpaaGreat
namespace Go.Proofs.YtioijfplbgpjpaaGreat
set_option linter.unusedVariables false
set_option linter.unusedSimpArgs false
set_option maxRecDepth 100000
open Go.RowKit
section
variable {r:Request} {x:Plan}
end
end Go.Proofs.YtioijfplbgpjpaaGreat
namespace Go.Proofs.YtioijfplbgpjpaaGreat
set_option linter.unusedVariables false
set_option linter.unusedSimpArgs false
set_option maxRecDepth 100000
open Go.RowKit Go.WideShapes Go.ChangeShapes Go.ChangeAt Go.Deep
end Go.Proofs.YtioijfplbgpjpaaGreat
namespace Go.Proofs.YtioijfplbgpjpaaGreat
set_option linter.unusedVariables false
set_option linter.unusedSimpArgs false
set_option maxRecDepth 100000
open Go.RowKit Go.WideShapes Go.ChangeShapes Go.ChangeAt Go.Deep
section
variable {w W:World} {l:List Fact} {B k j:Nat} {zs:List (List Int×Nat)} {z:List Int×Nat} {u:Int}
end
def grid (c:Nat→Nat→Int) (Wn Dn:Nat):List (List Int):=(List.range Dn).map fun y=>(List.range Wn).map fun q=>c q y
section
variable {c c':Nat→Nat→Int} {Wn Dn:Nat} {zs:List (List Int×Nat)} {z:List Int×Nat}
end
end Go.Proofs.YtioijfplbgpjpaaGreat
namespace Go.Proofs.YtioijfplbgpjpaaGreat
set_option linter.unusedVariables false
set_option linter.unusedSimpArgs false
set_option maxRecDepth 100000
open Go.RowKit Go.WideShapes Go.ChangeShapes Go.ChangeAt Go.Deep
end Go.Proofs.YtioijfplbgpjpaaGreat
namespace Go.Proofs.YtioijfplbgpjpaaGreat
set_option linter.unusedVariables false
set_option linter.unusedSimpArgs false
set_option maxRecDepth 100000
open Go.RowKit
theorem fall_stop (free:Spot→Bool):∀ (f:Nat) (s:Spot),s.z=f→(fall free f s).z=0 ∨ free (fall free f s).down=false
 |0,s,h=>.inl (by unfold fall;omega)
 |f + 1,s,h=>by
  unfold fall
  split
  ·exact fall_stop free f s.down (by show s.z - 1=f;omega)
  ·rename_i hc
   simp only [Bool.and_eq_true,decide_eq_true_eq,not_and] at hc
   refine .inr (Bool.eq_false_iff.2 (hc (by omega)))
theorem fall_above (free:Spot→Bool) (c:Int):∀ (f:Nat) (s:Spot),c≤s.z→(∀ t:Spot,t.pallet=s.pallet→t.x=s.x→t.y=s.y→t.z=c - 1→free t=false)→c≤(fall free f s).z
 |0,s,h,_=>h
 |f + 1,s,h,hf=>by
  unfold fall
  split
  ·rename_i hc
   simp only [Bool.and_eq_true,decide_eq_true_eq] at hc
   refine fall_above free c f s.down ?_ hf
   rcases Int.lt_or_le (s.z - 1) c with h1 | h1
   ·exfalso
    have:=hf s.down rfl rfl rfl (by show s.z - 1=c - 1;omega)
    rw [this] at hc
    simp at hc
   ·exact h1
  ·exact h
theorem drop_other (r:Request) (x:Plan):∀ n j,n≤j→n≤x.spots.length→(dropSpots r x n).getD j default=x.spots.getD j default
 |0,j,_,_=>rfl
 |n + 1,j,h,hl=>by
  rw [drop_succ]
  unfold dropOne
  rw [getD_set (by rw [drop_len];omega),if_neg (by omega)]
  exact drop_other r x n j (by omega) (by omega)
theorem drop_done (r:Request) (x:Plan) (j:Nat):∀ n,j < n→n≤x.spots.length→(dropSpots r x n).getD j default=(dropSpots r x (j + 1)).getD j default
 |0,h,_=>by omega
 |n + 1,h,hl=>by
  by_cases e:j=n
  ·subst e;rfl
  ·rw [drop_succ]
   unfold dropOne
   rw [getD_set (by rw [drop_len];omega),if_neg e]
   exact drop_done r x j n (by omega) (by omega)
theorem drop_at (r:Request) (x:Plan) {j:Nat} (h:j < x.spots.length):(dropSpots r x (j + 1)).getD j default=fall (freeAt r x (dropSpots r x j) j) (x.spots.getD j default).z.toNat (x.spots.getD j default):=by
 rw [drop_succ]
 unfold dropOne
 rw [getD_set (by rw [drop_len];omega),if_pos rfl,drop_other r x j j (Nat.le_refl _) (by omega)]
def standsOn (r:Request) (x:Plan) (k i:Nat):Prop:=k ≠ i∧(spotAt x k).pallet=(spotAt x i).pallet∧crossB (spotAt x i).x (boxAt r x i).w (spotAt x k).x (boxAt r x k).w=true∧crossB (spotAt x i).y (boxAt r x i).d (spotAt x k).y (boxAt r x k).d=true∧endZ r x k=(spotAt x i).z
def Stands (r:Request) (x:Plan) (l:List Nat):Prop:=∀ i∈l,i < x.cartons.length∧((spotAt x i).z=0 ∨ ∃ k∈l,standsOn r x k i)
section
variable {r:Request} {x:Plan} {l:List Nat}
theorem under_of (h:feasible r x=true) {n j:Nat} (hn:n≤x.cartons.length):((dropSpots r x n).getD j default).under (spotAt x j):=by
 have hl:=feas_len h
 rw [spotAt_nat]
 exact drop_under r x n (by omega) j
theorem within_at (h:feasible r x=true) {n j:Nat} (hn:n≤x.cartons.length) (hj:j < x.cartons.length):withinB r.pallet (boxAt r x j) ((dropSpots r x n).getD j default)=true:=within_under (feas_inside h hj) (under_of h hn)
theorem stands_stay (h:feasible r x=true) (hs:Stands r x l):∀ n,n≤x.cartons.length→∀ i∈l,(dropSpots r x n).getD i default=spotAt x i
 |0,_,i,_=>by rw [spotAt_nat];rfl
 |n + 1,hn,i,hi=>by
  have hl:=feas_len h
  have ih:=stands_stay h hs n (by omega)
  rw [drop_succ]
  unfold dropOne
  rw [getD_set (by rw [drop_len];omega)]
  split
  ·rename_i e
   subst e
   rw [ih i hi]
   obtain ⟨hic,h0 | ⟨k,hk,hne,hp,hx,hy,hz⟩⟩:=hs i hi
   ·rw [h0];rfl
   ·have ai:=within_facts (feas_inside h hic)
    have hkc:=(hs k hk).1
    have ak:=within_facts (feas_inside h hkc)
    have hfr:freeAt r x (dropSpots r x i) i (spotAt x i).down=false:=by
     unfold freeAt
     rw [List.all_eq_false]
     refine ⟨k,List.mem_range.2 hkc,?_⟩
     rw [ih k hk]
     have:overB (boxAt r x i) (spotAt x i).down (boxAt r x k) (spotAt x k)=true:=by
      unfold overB endZ at *
      rw [place_of ai.1 ai.2.1 ai.2.2.1 (s:=(spotAt x i).down) ai.2.2.2.1 ai.2.2.2.2.1 (by show 0≤(spotAt x i).z - 1∧(spotAt x i).z - 1≤2000;omega),place_of ak.1 ak.2.1 ak.2.2.1 ak.2.2.2.1 ak.2.2.2.2.1 ak.2.2.2.2.2.1]
      show (true && (true && ((spotAt x i).pallet == (spotAt x k).pallet && (crossB (spotAt x i).x _ _ _ && (crossB (spotAt x i).y _ _ _ && crossB ((spotAt x i).z - 1) _ _ _)))))=true
      rw [hx,hy,hp]
      simp only [crossB,Bool.true_and,beq_self_eq_true,Bool.and_eq_true,decide_eq_true_eq]
      omega
     rw [this]
     simp [hne]
    cases hf:(spotAt x i).z.toNat with
    |zero=>rfl
    |succ f =>
     unfold fall
     rw [hfr]
     simp
  ·exact ih i hi
theorem dropped_spot (h:feasible r x=true) (j:Nat):spotAt (droppedR r x) j=(dropSpots r x x.cartons.length).getD j default:=by
 rw [spotAt_nat]
 unfold droppedR
 rw [if_pos h]
theorem dropped_cartons:(droppedR r x).cartons=x.cartons:=by unfold droppedR;split <;> rfl
theorem dropped_box (u:Int):boxAt r (droppedR r x) u=boxAt r x u:=by unfold boxAt cartAt;rw [dropped_cartons]
theorem stands_dropped (h:feasible r x=true) (hs:Stands r x l):(∀ i∈l,spotAt (droppedR r x) i=spotAt x i)∧Stands r (droppedR r x) l:=by
 have e:∀ i∈l,spotAt (droppedR r x) i=spotAt x i:=fun i hi=>by
  rw [dropped_spot h]
  exact stands_stay h hs _ (Nat.le_refl _) i hi
 refine ⟨e,fun i hi=>?_⟩
 obtain ⟨h1,h2⟩:=hs i hi
 refine ⟨by rw [dropped_cartons];exact h1,?_⟩
 rcases h2 with h2 | ⟨k,hk,h3⟩
 ·exact .inl (by rw [e i hi];exact h2)
 ·refine .inr ⟨k,hk,?_⟩
  unfold standsOn endZ at *
  rw [e i hi,e k hk,dropped_box,dropped_box]
  exact h3
theorem lowest (x:Plan):∀ (m:List Nat),m ≠ []→∃ i∈m,∀ j∈m,(spotAt x i).z≤(spotAt x j).z
 |[],h=>absurd rfl h
 |[a],_=>⟨a,by simp,fun j hj=>by simp at hj;rw [hj];exact Int.le_refl _⟩
 |a::b::m,_=>by
  obtain ⟨i,hi,hle⟩:=lowest x (b::m) (by simp)
  by_cases hc:(spotAt x a).z≤(spotAt x i).z
  ·refine ⟨a,by simp,fun j hj=>?_⟩
   rcases List.mem_cons.1 hj with rfl | hj
   ·exact Int.le_refl _
   ·have:=hle j hj;omega
  ·refine ⟨i,List.mem_cons_of_mem _ hi,fun j hj=>?_⟩
   rcases List.mem_cons.1 hj with rfl | hj
   ·omega
   ·exact hle j hj
theorem stands_more (h:feasible r x=true) (hs:Stands r x l) {i:Nat} (hi:i < x.cartons.length) (hmin:∀ j,j < x.cartons.length→j ∉ l→(spotAt x i).z≤(spotAt x j).z):Stands r (droppedR r x) (i::l):=by
 have hl:=feas_len h
 obtain ⟨e,hs2⟩:=stands_dropped h hs
 have hic:i < x.spots.length:=by omega
 have hsi:spotAt (droppedR r x) i=fall (freeAt r x (dropSpots r x i) i) (spotAt x i).z.toNat (spotAt x i):=by
  rw [dropped_spot h,drop_done r x i _ hi (by omega),drop_at r x hic,spotAt_nat]
 have ai:=within_facts (feas_inside h hi)
 obtain ⟨s,hse⟩:∃ s,fall (freeAt r x (dropSpots r x i) i) (spotAt x i).z.toNat (spotAt x i)=s:=⟨_,rfl⟩
 have hun:s.under (spotAt x i):=by rw [← hse];exact fall_under _ _ _
 have hap:=drop_apart h i (by omega)
 have hself:(dropSpots r x i).getD i default=spotAt x i:=by rw [drop_other r x i i (Nat.le_refl _) (by omega),spotAt_nat]
 have hfree0:freeAt r x (dropSpots r x i) i (spotAt x i)=true:=by
  unfold freeAt
  rw [List.all_eq_true]
  intro k hk
  have hk:=List.mem_range.1 hk
  by_cases ek:k=i
  ·simp [ek]
  ·have:=hap i k hi hk (fun e2=>ek e2.symm)
   rw [hself] at this
   rw [this];simp
 have hfree:freeAt r x (dropSpots r x i) i s=true:=by rw [← hse];exact fall_free _ _ _ hfree0
 have hstop:=fall_stop (freeAt r x (dropSpots r x i) i) (spotAt x i).z.toNat (spotAt x i) (by omega)
 rw [hse] at hsi hstop
 intro j hj
 rcases List.mem_cons.1 hj with rfl | hj
 rotate_left
 ·obtain ⟨g1,g2⟩:=hs2 j hj
  exact ⟨g1,g2.imp id (fun ⟨k,hk,g3⟩=>⟨k,List.mem_cons_of_mem _ hk,g3⟩)⟩
 refine ⟨by rw [dropped_cartons];exact hi,?_⟩
 rw [hsi]
 rcases hstop with hstop | hstop
 ·exact .inl hstop
 ·right
  unfold freeAt at hstop
  rw [List.all_eq_false] at hstop
  obtain ⟨k,hk,hov⟩:=hstop
  have hk:=List.mem_range.1 hk
  simp only [Bool.or_eq_true,decide_eq_true_eq,Bool.not_eq_true',not_or,Bool.not_eq_false] at hov
  obtain ⟨hkj,hov⟩:=hov
  have hnov:overB (boxAt r x j) s (boxAt r x k) ((dropSpots r x j).getD k default)=false:=by
   unfold freeAt at hfree
   have:=List.all_eq_true.1 hfree k (List.mem_range.2 hk)
   simpa [hkj] using this
  have ak:=within_facts (within_at h (n:=j) (by omega) hk)
  have uk:=under_of h (n:=j) (j:=k) (by omega)
  have aS:=within_facts (within_under (feas_inside h hi) hun)
  obtain ⟨t,ht⟩:∃ t,(dropSpots r x j).getD k default=t:=⟨_,rfl⟩
  rw [ht] at hov hnov ak uk
  have hov2:=hov
  unfold overB at hov hnov
  simp only [Bool.and_eq_true,beq_iff_eq] at hov
  obtain ⟨pd,pk,hp,hx,hy,hz⟩:=hov
  have hp:s.pallet=t.pallet:=hp
  have hx:crossB s.x (boxAt r x j).w t.x (boxAt r x k).w=true:=hx
  have hy:crossB s.y (boxAt r x j).d t.y (boxAt r x k).d=true:=hy
  rw [place_of aS.1 aS.2.1 aS.2.2.1 aS.2.2.2.1 aS.2.2.2.2.1 aS.2.2.2.2.2.1,pk,hx,hy,hp] at hnov
  simp only [Bool.true_and,beq_self_eq_true] at hnov
  have hend:t.z + (boxAt r x k).h=s.z:=by
   have hz:crossB (s.z - 1) (boxAt r x j).h t.z (boxAt r x k).h=true:=hz
   unfold crossB at hz hnov
   simp only [Bool.and_eq_true,decide_eq_true_eq] at hz
   simp only [Bool.and_eq_false_iff,decide_eq_false_iff_not] at hnov
   omega
  have hkl:k∈l:=by
   refine Classical.byContradiction fun hkn=>?_
   have hm:=hmin k hk hkn
   rcases Nat.lt_or_ge k j with hlt | hge
   ·-- k fell earlier in this turn: not through j
    have hkc:k < x.spots.length:=by omega
    have htk:t=fall (freeAt r x (dropSpots r x k) k) (spotAt x k).z.toNat (spotAt x k):=by
     rw [← ht,drop_done r x k j hlt (by omega),drop_at r x hkc,spotAt_nat]
    have hxs:crossB (spotAt x j).x (boxAt r x j).w (spotAt x k).x (boxAt r x k).w=true:=by rw [← hun.2.1,← uk.2.1];exact hx
    have hys:crossB (spotAt x j).y (boxAt r x j).d (spotAt x k).y (boxAt r x k).d=true:=by rw [← hun.2.2.1,← uk.2.2.1];exact hy
    have hps:(spotAt x j).pallet=(spotAt x k).pallet:=by rw [← hun.1,← uk.1];exact hp
    have bk:=within_facts (feas_inside h hk)
    have hno:=apart_of h j k hi hk (fun e2=>hkj e2.symm)
    rw [← spotAt_nat,← spotAt_nat] at hno
    unfold overB at hno
    rw [place_of ai.1 ai.2.1 ai.2.2.1 ai.2.2.2.1 ai.2.2.2.2.1 ai.2.2.2.2.2.1,place_of bk.1 bk.2.1 bk.2.2.1 bk.2.2.2.1 bk.2.2.2.2.1 bk.2.2.2.2.2.1,hxs,hys,hps] at hno
    simp only [Bool.true_and,beq_self_eq_true] at hno
    unfold crossB at hno
    simp only [Bool.and_eq_false_iff,decide_eq_false_iff_not] at hno
    have hab:=fall_above (freeAt r x (dropSpots r x k) k) ((spotAt x j).z + (boxAt r x j).h) (spotAt x k).z.toNat (spotAt x k) (by omega) (fun q q1 q2 q3 q4=>by
     unfold freeAt
     rw [List.all_eq_false]
     refine ⟨j,List.mem_range.2 hi,?_⟩
     rw [drop_other r x k j (by omega) (by omega),← spotAt_nat]
     have:overB (boxAt r x k) q (boxAt r x j) (spotAt x j)=true:=by
      unfold overB
      rw [place_of bk.1 bk.2.1 bk.2.2.1 (s:=q) (by rw [q2];exact bk.2.2.2.1) (by rw [q3];exact bk.2.2.2.2.1) (by omega),place_of ai.1 ai.2.1 ai.2.2.1 ai.2.2.2.1 ai.2.2.2.2.1 ai.2.2.2.2.2.1]
      unfold crossB at hxs hys ⊢
      rw [q1,q2,q3,q4,hps]
      simp only [Bool.and_eq_true,decide_eq_true_eq,beq_self_eq_true,true_and] at hxs hys ⊢
      omega
     rw [this]
     simp
     omega)
    rw [← htk] at hab
    have:=hun.2.2.2.1
    omega
   ·have hge:j < k:=by omega
    have htk:t=spotAt x k:=by rw [← ht,drop_other r x j k (by omega) (by omega),spotAt_nat]
    rw [htk] at hend
    have:=hun.2.2.2.1
    have bk:=within_facts (feas_inside h hk)
    omega
  refine ⟨k,List.mem_cons_of_mem _ hkl,hkj,?_⟩
  have hst:t=spotAt x k:=by rw [← ht];exact stands_stay h hs j (by omega) k hkl
  unfold endZ
  rw [hsi,e k hkl,dropped_box,dropped_box,← hst]
  exact ⟨hp.symm,hx,hy,hend⟩
theorem perm_restN:∀ (l m:List Nat),l.Nodup→(∀ u∈l,u∈m)→∃ rest,m.Perm (l ++ rest)
 |[],m,_,_=>⟨m,List.Perm.refl _⟩
 |a::l,m,hn,h=>by
  have hn2:=List.nodup_cons.1 hn
  obtain ⟨rest,hr⟩:=perm_restN l (m.erase a) hn2.2 (fun u hu=>(List.mem_erase_of_ne (fun e=>hn2.1 (by rw [← e];exact hu))).2 (h u (List.mem_cons_of_mem _ hu)))
  exact ⟨rest,(List.perm_cons_erase (h a (List.mem_cons_self))).trans (hr.cons a)⟩
def dropsR (r:Request) (x:Plan):Nat→Plan
 |0=>x
 |n + 1=>droppedR r (dropsR r x n)
theorem drops_feas (h:feasible r x=true):∀ t,feasible r (dropsR r x t)=true∧(dropsR r x t).cartons=x.cartons
 |0=>⟨h,rfl⟩
 |t + 1=>⟨dropped_feas (drops_feas h t).1,by show (droppedR r (dropsR r x t)).cartons=_;rw [dropped_cartons];exact (drops_feas h t).2⟩
theorem drops_stands (h:feasible r x=true):∀ t,∃ l:List Nat,l.Nodup∧Stands r (dropsR r x t) l∧(t≤l.length ∨ ∀ i,i < x.cartons.length→i∈l)
 |0=>⟨[],List.nodup_nil,fun _ hi=>by simp at hi,.inl (Nat.le_refl _)⟩
 |t + 1=>by
  obtain ⟨l,h1,h2,h3⟩:=drops_stands h t
  have hf:=(drops_feas h t).1
  have hc:=(drops_feas h t).2
  by_cases ha:∀ i,i < x.cartons.length→i∈l
  ·exact ⟨l,h1,(stands_dropped hf h2).2,.inr ha⟩
  ·obtain ⟨i0,hi0⟩:=Classical.not_forall.1 ha
   obtain ⟨hi1,hi2⟩:=Classical.not_imp.1 hi0
   obtain ⟨i,hi,hmin⟩:=lowest (dropsR r x t) ((List.range x.cartons.length).filter fun j=>!l.contains j) (fun e=>by
    have:i0∈(List.range x.cartons.length).filter fun j=>!l.contains j:=List.mem_filter.2 ⟨List.mem_range.2 hi1,by simpa using hi2⟩
    rw [e] at this;simp at this)
   obtain ⟨m1,m2⟩:=List.mem_filter.1 hi
   have m1:=List.mem_range.1 m1
   have hin:i ∉ l:=by simpa using m2
   refine ⟨i::l,List.nodup_cons.2 ⟨hin,h1⟩,stands_more hf h2 (by rw [hc];exact m1) (fun j hj hjl=>hmin j (List.mem_filter.2 ⟨List.mem_range.2 (by rw [← hc];exact hj),by simpa using hjl⟩)),.inl ?_⟩
   rcases h3 with h3 | h3
   ·simp;exact h3
   ·exact absurd (h3 i m1) hin
theorem drops_all (h:feasible r x=true) {t:Nat} (ht:x.cartons.length≤t) {i:Nat} (hi:i < x.cartons.length):(spotAt (dropsR r x t) i).z=0 ∨ ∃ k:Nat,k < x.cartons.length∧standsOn r (dropsR r x t) k i:=by
 obtain ⟨l,h1,h2,h3⟩:=drops_stands h t
 have hc:=(drops_feas h t).2
 have hall:i∈l:=by
  rcases h3 with h3 | h3
  ·refine Classical.byContradiction fun hn=>?_
   obtain ⟨rest,hr⟩:=perm_restN (i::l) (List.range x.cartons.length) (List.nodup_cons.2 ⟨hn,h1⟩) (fun u hu=>by
    rcases List.mem_cons.1 hu with rfl | hu
    ·exact List.mem_range.2 hi
    ·have:=(h2 u hu).1
     rw [hc] at this
     exact List.mem_range.2 this)
   have:=hr.length_eq
   rw [List.length_range,List.length_append,List.length_cons] at this
   omega
  ·exact h3 i hi
 obtain ⟨_,g⟩:=h2 i hall
 refine g.imp id (fun ⟨k,hk,g⟩=>⟨k,?_,g⟩)
 have:=(h2 k hk).1
 rw [hc] at this
 exact this
theorem stand_top (h:feasible r x=true) {t:Nat} (ht:x.cartons.length≤t) {i:Nat} (hi:i < x.cartons.length):(spotAt (dropsR r x t) i).z=(beneathI r (dropsR r x t) i).foldl (fun n j=>max n (endZ r (dropsR r x t) j)) 0:=by
 have hf:=(drops_feas h t).1
 have hc:=(drops_feas h t).2
 have hst:=drops_all h ht hi
 obtain ⟨y,hy⟩:∃ y,dropsR r x t=y:=⟨_,rfl⟩
 rw [hy] at hf hc hst ⊢
 have hiy:i < y.cartons.length:=by rw [hc];exact hi
 have ai:=within_facts (feas_inside hf hiy)
 have hben:∀ u∈beneathI r y i,endZ r y u≤(spotAt y i).z∧1≤endZ r y u:=by
  intro u hu
  unfold beneathI at hu
  rw [if_pos (by rw [hf];simp only [inB,Bool.and_true,Bool.and_eq_true,decide_eq_true_eq];omega)] at hu
  obtain ⟨hu1,hu2⟩:=List.mem_filter.1 hu
  obtain ⟨j,rfl,hj,hp⟩:=(onPal_feas hf).1 hu1
  have aj:=within_facts (feas_inside hf hj)
  unfold benB at hu2
  rw [wrap_sum aj.2.2.2.2.2.1 aj.2.2.1] at hu2
  simp only [Bool.and_eq_true,decide_eq_true_eq] at hu2
  unfold endZ
  omega
 obtain ⟨f1,f2,f3⟩:=fold_max (endZ r y) (beneathI r y i) 0
 rcases hst with hz | ⟨k,hk,hne,hp,hx,hyy,he⟩
 ·rcases f3 with f3 | ⟨u,hu,f3⟩
  ·rw [f3];exact hz
  ·have:=hben u hu
   omega
 ·have hky:k < y.cartons.length:=by rw [hc];exact hk
  have ak:=within_facts (feas_inside hf hky)
  have hm:(k:Int)∈beneathI r y i:=by
   unfold beneathI
   rw [if_pos (by rw [hf];simp only [inB,Bool.and_true,Bool.and_eq_true,decide_eq_true_eq];omega)]
   refine List.mem_filter.2 ⟨(onPal_feas hf).2 ⟨k,rfl,hky,hp⟩,?_⟩
   unfold benB
   rw [wrap_sum ak.2.2.2.2.2.1 ak.2.2.1]
   unfold overB endZ at *
   rw [place_of ai.1 ai.2.1 ai.2.2.1 ai.2.2.2.1 ai.2.2.2.2.1 ai.2.2.2.2.2.1,place_of ak.1 ak.2.1 ak.2.2.1 (s:={ spotAt y (k:Int) with z:=(spotAt y (i:Int)).z }) ak.2.2.2.1 ak.2.2.2.2.1 ai.2.2.2.2.2.1]
   show (decide _ && (true && (true && ((spotAt y i).pallet == (spotAt y k).pallet && (crossB (spotAt y i).x _ (spotAt y k).x _ && (crossB (spotAt y i).y _ (spotAt y k).y _ && crossB (spotAt y i).z _ (spotAt y i).z _))))))=true
   rw [hx,hyy,hp]
   simp only [crossB,Bool.true_and,beq_self_eq_true,Bool.and_eq_true,decide_eq_true_eq]
   omega
  have g1:=f2 _ hm
  rcases f3 with f3 | ⟨u,hu,f3⟩
  ·have:=hben _ hm;omega
  ·have:=hben u hu;omega
end
end Go.Proofs.YtioijfplbgpjpaaGreat
namespace Go.Proofs.YtioijfplbgpjpaaGreat
set_option linter.unusedVariables false
set_option linter.unusedSimpArgs false
set_option maxRecDepth 100000
open Go.RowKit Go.WideShapes Go.ChangeShapes Go.ChangeAt Go.Deep
section
variable {x:Plan} {F:Nat→Spot→Spot} {k:Nat} {s:Spot}
end
end Go.Proofs.YtioijfplbgpjpaaGreat
