/-
  Words and walks that these laws need beyond the others': see each theorem.
-/
import Derived.Test.YtioijfplbgpjpaaGreatKx00
import Derived.Test.YtioijfplbgpjpaaGreatKx01
import Derived.Test.YtioijfplbgpjpaaGreatKx02
import Derived.Test.YtioijfplbgpjpaaGreatKx03
import Derived.Test.YtioijfplbgpjpaaGreatKx04
import Derived.Test.YtioijfplbgpjpaaGreatKx05
import Derived.Test.YtioijfplbgpjpaaGreatKx06
import Derived.Test.YtioijfplbgpjpaaGreatKx09
import Derived.Test.YtioijfplbgpjpaaGreatKx22
import Derived.Test.YtioijfplbgpjpaaGreatKx24
import Derived.Test.YtioijfplbgpjpaaGreatKx25
import Derived.Test.YtioijfplbgpjpaaGreatKx10
import Derived.Test.YtioijfplbgpjpaaGreatKx11
import Derived.Test.YtioijfplbgpjpaaGreatKx26
import Derived.Test.YtioijfplbgpjpaaGreatKx29
import Derived.Test.YtioijfplbgpjpaaGreatKx27
import Derived.Test.YtioijfplbgpjpaaGreatKx28
import Derived.Test.YtioijfplbgpjpaaGreatKx30
import Derived.Test.YtioijfplbgpjpaaGreatKx23
import Derived.Test.YtioijfplbgpjpaaGreatKx32
import Derived.WalkKit
import Derived.WalkSpells
import Derived.WalkLawsBesides
import Derived.BigQuiet
import Derived.Deep.QuietTactic
import Derived.IntWalk
import Derived.Lib.Hide
import Derived.Laws.OwnMore
import Derived.Deep.Draws
import Derived.Deep.RegionHeld3
import Derived.Maps.AppendAt
import Derived.Deep.AppendLies
import Derived.RegionTactic
import Derived.OwnWalk
import Derived.ProofKit
import Derived.OpenShut
import Derived.ShutString
import Derived.WideKeyArgs
import Derived.Carry
import Derived.Deep.Slices
import Derived.Deep.Fields
import Derived.Deep.Strs
import Derived.ChangeSame
import Derived.Deep.Light
import Derived.Laws.StructEq
import Derived.Sort.OwnSortedInts
import Derived.StillTail
import Derived.Deep.RegionHeld
import Derived.Deep.RegionLaw
import Derived.Deep.DeepCutAuto
import Derived.Deep.RegionWith
import Derived.StillTailTactics
import Derived.Laws.CopyOwn
namespace Go.Proofs.YtioijfplbgpjpaaGreat
set_option linter.unusedVariables false
set_option linter.unusedSimpArgs false
set_option maxRecDepth 100000
open Go.RowKit Go.WideShapes Go.ChangeShapes Go.ChangeAt Go.Deep
end Go.Proofs.YtioijfplbgpjpaaGreat
namespace Go.Proofs.YtioijfplbgpjpaaGreat
set_option linter.unusedVariables false
set_option linter.unusedSimpArgs false
set_option maxRecDepth 100000
open Go.RowKit
theorem feasible_iff {r : Request} {x : Plan} : feasible r x = true ↔ soundR r = true ∧ planOk x = true ∧ emptyC x = false ∧ unitsFit (unitsR r).length (x.cartons.flatMap (·.units)) = true ∧ cartonsFault r x = 0 ∧ spotsFault r x = 0 := by
 unfold feasible checkR
 by_cases h1 : soundR r = true
 ·rw [if_pos h1]
  by_cases h2 : (planOk x && !emptyC x) = true
  ·rw [if_pos h2]
   simp only [Bool.and_eq_true, Bool.not_eq_true'] at h2
   by_cases h3 : unitsFit (unitsR r).length (x.cartons.flatMap (·.units)) = true
   ·rw [if_pos h3]
    by_cases h4 : cartonsFault r x = 0
    ·rw [if_pos h4, beq_iff_eq]
     exact ⟨fun h => ⟨h1, h2.1, h2.2, h3, h4, h⟩, fun h => h.2.2.2.2.2⟩
    ·rw [if_neg h4, beq_iff_eq]
     exact ⟨fun h => absurd h h4, fun h => absurd h.2.2.2.2.1 h4⟩
   ·rw [if_neg h3]
    exact ⟨fun h => by simp at h, fun h => absurd h.2.2.2.1 h3⟩
  ·rw [if_neg h2]
   simp only [Bool.and_eq_true, Bool.not_eq_true', not_and] at h2
   exact ⟨fun h => by simp at h, fun h => absurd h.2.2.1 (h2 h.2.1)⟩
 ·rw [if_neg h1]
  exact ⟨fun h => by simp at h, fun h => absurd h.1 h1⟩
theorem spotsFault_zero {r : Request} {x : Plan} (h : spotsFault r x = 0) : (List.range x.cartons.length).all (insideI r x) = true ∧ (List.range x.cartons.length).all (apartI r x) = true ∧ (List.range (palletsR x.spots).toNat).all (palletK r x) = true := by
 unfold spotsFault at h
 by_cases h1 : (List.range x.cartons.length).all (insideI r x) = true
 ·rw [if_pos h1] at h
  by_cases h2 : (List.range x.cartons.length).all (apartI r x) = true
  ·rw [if_pos h2] at h
   by_cases h3 : (List.range (palletsR x.spots).toNat).all (palletK r x) = true
   ·exact ⟨h1, h2, h3⟩
   ·rw [if_neg h3] at h; simp at h
  ·rw [if_neg h2] at h; simp at h
 ·rw [if_neg h1] at h; simp at h
end Go.Proofs.YtioijfplbgpjpaaGreat
namespace Go.Proofs.YtioijfplbgpjpaaGreat
set_option linter.unusedVariables false
set_option linter.unusedSimpArgs false
set_option maxRecDepth 100000
open Go.RowKit Go.WideShapes Go.ChangeShapes Go.ChangeAt Go.Deep
end Go.Proofs.YtioijfplbgpjpaaGreat
namespace Go.Proofs.YtioijfplbgpjpaaGreat
set_option linter.unusedVariables false
set_option linter.unusedSimpArgs false
set_option maxRecDepth 100000
open Go.RowKit
def benB (r : Request) (x : Plan) (i j : Int) : Bool := decide (wrap64 ((spotAt x j).z + (boxAt r x j).h) ≤ (spotAt x i).z) && overB (boxAt r x i) (spotAt x i) (boxAt r x j) { spotAt x j with z := (spotAt x i).z }
def beneathI (r : Request) (x : Plan) (i : Int) : List Int := if (inB i 0 ((x.cartons.length : Int) - 1) && feasible r x) = true then (onPal x (spotAt x i).pallet).filter (benB r x i) else []
def benS (r : Request) (x : Plan) (i : Int) (k : Nat) : Bool := !decide ((k : Int) = i) && (decide (wrap64 ((spotAt x k).z + (boxAt r x k).h) ≤ (spotAt x i).z) && overB (boxAt r x i) { spotAt x i with z := (spotAt x k).z } (boxAt r x k) (spotAt x k))
def beneathS (r : Request) (x : Plan) (i : Int) : List Int := if (feasible r x && inB i 0 ((x.cartons.length : Int) - 1)) = true then ((List.range x.cartons.length).filter (benS r x i)).map Int.ofNat else []
theorem feas_len {r : Request} {x : Plan} (h : feasible r x = true) : x.spots.length = x.cartons.length ∧ x.cartons.length ≤ 100 := by
 have hp := (feasible_iff.1 h).2.1
 unfold planOk at hp
 simp only [Bool.and_eq_true, decide_eq_true_eq] at hp
 exact ⟨hp.1.1, hp.1.2⟩
theorem feas_inside {r : Request} {x : Plan} (h : feasible r x = true) {i : Nat} (hi : i < x.cartons.length) : withinB r.pallet (boxAt r x i) (spotAt x i) = true :=
 List.all_eq_true.1 (spotsFault_zero (feasible_iff.1 h).2.2.2.2.2).1 i (List.mem_range.2 hi)
theorem within_facts {p : Pallet} {b : Box} {s : Spot} (h : withinB p b s = true) : (0 < b.w ∧ b.w ≤ 2000) ∧ (0 < b.d ∧ b.d ≤ 2000) ∧ (0 < b.h ∧ b.h ≤ 2000) ∧ (0 ≤ s.x ∧ s.x ≤ 2000) ∧ (0 ≤ s.y ∧ s.y ≤ 2000) ∧ (0 ≤ s.z ∧ s.z ≤ 2000) ∧ s.x + b.w ≤ p.w ∧ s.y + b.d ≤ p.d ∧ s.z + b.h ≤ p.h := by
 simp only [withinB, placeB, inB, Bool.and_eq_true, decide_eq_true_eq] at h
 omega
theorem place_of {b : Box} {s : Spot} (hw : 0 < b.w ∧ b.w ≤ 2000) (hd : 0 < b.d ∧ b.d ≤ 2000) (hh : 0 < b.h ∧ b.h ≤ 2000) (hx : 0 ≤ s.x ∧ s.x ≤ 2000) (hy : 0 ≤ s.y ∧ s.y ≤ 2000) (hz : 0 ≤ s.z ∧ s.z ≤ 2000) : placeB b s = true := by
 simp only [placeB, inB, Bool.and_eq_true, decide_eq_true_eq]
 omega
theorem wrap_sum {a b : Int} (ha : 0 ≤ a ∧ a ≤ 2000) (hb : 0 < b ∧ b ≤ 2000) : wrap64 (a + b) = a + b := by unfold wrap64; omega
theorem beneath_eq (r : Request) (x : Plan) (i : Int) : beneathI r x i = beneathS r x i := by
 unfold beneathI beneathS
 rw [Bool.and_comm]
 by_cases hc : (feasible r x && inB i 0 ((x.cartons.length : Int) - 1)) = true
 ·rw [if_pos hc, if_pos hc]
  simp only [Bool.and_eq_true, inB, decide_eq_true_eq] at hc
  obtain ⟨hf, h0, h1⟩ := hc
  obtain ⟨n, rfl⟩ : ∃ n : Nat, i = n := ⟨i.toNat, by omega⟩
  obtain ⟨hl, _⟩ := feas_len hf
  unfold onPal
  rw [if_pos hl.symm, hl, List.filter_map, List.filter_filter]
  congr 1
  refine List.filter_congr fun j hj => ?_
  have hj := List.mem_range.1 hj
  have hn : n < x.cartons.length := by omega
  obtain ⟨a1, a2, a3, a4, a5, a6, a7, a8, a9⟩ := within_facts (feas_inside hf hn)
  obtain ⟨b1, b2, b3, b4, b5, b6, b7, b8, b9⟩ := within_facts (feas_inside hf hj)
  have e0 : x.spots.getD j default = spotAt x (j : Int) := by unfold spotAt; rw [Int.toNat_natCast]
  show ((benB r x n (j : Int)) && onAt x (spotAt x n).pallet j) = benS r x n j
  unfold onAt
  rw [e0]
  by_cases hjn : j = n
  ·subst hjn
   have e1 : benB r x (j : Int) (j : Int) = false := by unfold benB; rw [wrap_sum b6 b3, decide_eq_false (by omega)]; rfl
   rw [e1]
   unfold benS
   simp
  have hji : ¬ ((j : Int) = (n : Int)) := by omega
  unfold benB benS overB
  rw [place_of a1 a2 a3 a4 a5 a6, place_of b1 b2 b3 b4 b5 (s := { spotAt x (j : Int) with z := (spotAt x (n : Int)).z }) a6, place_of a1 a2 a3 a4 a5 (s := { spotAt x (n : Int) with z := (spotAt x (j : Int)).z }) b6, place_of b1 b2 b3 b4 b5 b6]
  rw [wrap_sum b6 b3]
  generalize spotAt x (n : Int) = s at *
  generalize spotAt x (j : Int) = t at *
  generalize boxAt r x (n : Int) = b at *
  generalize boxAt r x (j : Int) = c at *
  rw [Bool.eq_iff_iff]
  simp only [crossB, Bool.and_eq_true, decide_eq_true_eq, beq_iff_eq, Bool.not_eq_true', decide_eq_false_iff_not, true_and]
  constructor
  ·rintro ⟨⟨h2, h3, h4, h5, h6⟩, h7⟩
   exact ⟨hji, h2, h7.symm, h4, h5, by omega⟩
  ·rintro ⟨h2, h3, h4, h5, h6, h7⟩
   exact ⟨⟨h3, h4, h5, h6, by omega⟩, h4.symm⟩
 ·rw [if_neg hc, if_neg hc]
end Go.Proofs.YtioijfplbgpjpaaGreat
namespace Go.Proofs.YtioijfplbgpjpaaGreat
set_option linter.unusedVariables false
set_option linter.unusedSimpArgs false
set_option maxRecDepth 100000
open Go.RowKit
section
variable {r : Request} {x : Plan} {k z px py : Int}
end
end Go.Proofs.YtioijfplbgpjpaaGreat
namespace Go.Proofs.YtioijfplbgpjpaaGreat
set_option linter.unusedVariables false
set_option linter.unusedSimpArgs false
set_option maxRecDepth 100000
open Go.RowKit
section
variable {r : Request} {x : Plan} {k z : Int}
end
end Go.Proofs.YtioijfplbgpjpaaGreat
namespace Go.Proofs.YtioijfplbgpjpaaGreat
set_option linter.unusedVariables false
set_option linter.unusedSimpArgs false
set_option maxRecDepth 100000
open Go.RowKit Go.WideShapes Go.ChangeShapes Go.ChangeAt Go.Deep
theorem filter_step {l : List Int} {j : Nat} {i : Int} {p : Int → Bool} {f : Bool} (h : l[j]? = some i) (hf : p i = f) : (l.take (j + 1)).filter p = (l.take j).filter p ++ (if f = true then [i] else []) := by
 rw [List.take_add_one, h, List.filter_append]
 simp only [Option.toList_some, List.filter_cons, List.filter_nil, hf]
theorem filter_take_le {l : List Int} {j : Nat} (p : Int → Bool) : ((l.take j).filter p).length ≤ j := Nat.le_trans (List.length_filter_le _ _) (by rw [List.length_take]; omega)
end Go.Proofs.YtioijfplbgpjpaaGreat
namespace Go.Proofs.YtioijfplbgpjpaaGreat
set_option linter.unusedVariables false
set_option linter.unusedSimpArgs false
set_option maxRecDepth 100000
open Go.RowKit Go.WideShapes Go.ChangeShapes Go.ChangeAt Go.Deep
theorem wrap_pred {n : Nat} (h : n ≤ 16777216) : wrap64 ((n : Int) - 1) = (n : Int) - 1 := by unfold wrap64; omega
set_option maxRecDepth 100000 in
set_option maxHeartbeats 20000000 in
theorem iBeneath_any (v vx : Value) (r : Request) (x : Plan) (i : Int) (w : World) (h : RReq 16777216 w w.heap.size v r) (hx : RPlan 16777216 w w.heap.size vx x) (hL : x.bulk ≤ 16777216) : Calls Tryz.prog 37 #[v, vx, .int .i64 i] w (MInts w (beneathI r x i)) := by
 have HR := Lib.hid h
 have HX := Lib.hid hx
 obtain ⟨A1, c1, A2, c2, A3, c3, rfl, _⟩ := h.opn
 obtain ⟨PA, ca, PB, cb, rfl, HPA, HPB, hla, hlb⟩ := hx.opn
 have hS := ((Sit.here w).alloc #[.int .i64 r.way, .int .i64 r.pallet.w, .int .i64 r.pallet.d, .int .i64 r.pallet.h, .int .i64 r.pallet.gram, .int .i64 r.classes, .slice A1 r.pairs.length c1, .slice A2 r.types.length c2, .int .i64 r.master, .slice A3 r.items.length c3] 41).alloc #[.slice PA x.cartons.length ca, .slice PB x.spots.length cb] 46
 simp only [World.size_alloc] at hS
 have SN := Lib.hid hS
 have hwp := wrap_pred hla
 have hwq : IntKind.i64.wrap ((x.cartons.length : Int) - 1) = (x.cartons.length : Int) - 1 := by rw [wrapE]; exact hwp
 obtain ⟨f, hf⟩ : ∃ f, inB i 0 ((x.cartons.length : Int) - 1) = f := ⟨_, rfl⟩
 have HF := Lib.hid hf
 obtain ⟨q, hq⟩ : ∃ q, feasible r x = q := ⟨_, rfl⟩
 have HQ := Lib.hid hq
 have HM := Lib.hid (show beneathI r x i = if (f && q) = true then (onPal x (spotAt x i).pallet).filter (benB r x i) else [] by unfold beneathI; rw [hf, hq])
 clear h hx hS hf hq hwp
 go_enter Tryz.func37, Tryz.ntmps37
 have k0 := SN.out.box (.tail _ (.head _)); have l0 := SN.out.boxlt (.tail _ (.head _)); have k1 := SN.out.box (.head _); have l1 := SN.out.boxlt (.head _)
 cases f
 ·have SN := Lib.hid (SN.out.addNil (f := cI) (e := 3) (K := 1) w.heap.size)
  go_wp2_with (go_at_call 114; (try simp only [wrapE]); refine (in_any _ _ _ _).mono ?_; rintro e w' ⟨rfl, rfl⟩; rw [HF.out])
  go_ret
  rw [HM.out]
  exact SN.out.ints
 go_wp2_with (go_at_call 114; (try simp only [wrapE]); refine (in_any _ _ _ _).mono ?_; rintro e w' ⟨rfl, rfl⟩; rw [HF.out])
 refine (iFeasible_any _ _ r x _ (HR.out.next SN.out.low) (HX.out.next SN.out.low) hL).mono ?_
 rintro e1 w1 ⟨rfl, hb1⟩
 rw [HQ.out]
 have SN := Lib.hid (SN.out.next hb1)
 clear k0 l0 k1 l1 hb1
 cases q
 ·have SN := Lib.hid (SN.out.addNil (f := cI) (e := 3) (K := 1) w.heap.size)
  go_wp2
  go_ret
  rw [HM.out]
  exact SN.out.ints
 obtain ⟨h0, h1⟩ := inB_iff.1 HF.out
 obtain ⟨n, rfl⟩ : ∃ n : Nat, i = n := ⟨i.toNat, by omega⟩
 obtain ⟨hfl, _⟩ := feas_len HQ.out
 have hn1 : n < x.cartons.length := by omega
 have hn2 : n < x.spots.length := by omega
 clear h0 h1 hfl
 obtain ⟨b, off, c, U, cu, rfl, hb, hc, HU, HC⟩ := HPA.out.one n hn1
 obtain ⟨b2, off2, s, rfl, hb2, hs, HC2⟩ := HPB.out.one n hn2
 obtain ⟨bx, hbx⟩ : ∃ bx, boxR r c = bx := ⟨_, rfl⟩
 have HBX := Lib.hid hbx
 have HSA := Lib.hid (spotAt_at hs)
 have HBA := Lib.hid (show boxAt r x (n : Int) = bx by rw [boxAt_nat hc, hbx])
 have HCC := Lib.hid (show ∀ X : World, Below w1.heap.size w1 X → (X.cell? ⟨w.heap.size, 0, none⟩ = some (.int .i64 r.way) ∧ X.cell? ⟨w.heap.size, 1, none⟩ = some (.int .i64 r.pallet.w) ∧ X.cell? ⟨w.heap.size, 2, none⟩ = some (.int .i64 r.pallet.d) ∧ X.cell? ⟨w.heap.size, 3, none⟩ = some (.int .i64 r.pallet.h) ∧ X.cell? ⟨w.heap.size, 4, none⟩ = some (.int .i64 r.pallet.gram) ∧ X.cell? ⟨w.heap.size, 5, none⟩ = some (.int .i64 r.classes) ∧ X.cell? ⟨w.heap.size, 6, none⟩ = some (.slice A1 r.pairs.length c1) ∧ X.cell? ⟨w.heap.size, 7, none⟩ = some (.slice A2 r.types.length c2) ∧ X.cell? ⟨w.heap.size, 8, none⟩ = some (.int .i64 r.master) ∧ X.cell? ⟨w.heap.size, 9, none⟩ = some (.slice A3 r.items.length c3)) ∧ (X.cell? ⟨w.heap.size + 1, 0, none⟩ = some (.slice (some ⟨b, off, none⟩) x.cartons.length ca) ∧ X.cell? ⟨w.heap.size + 1, 1, none⟩ = some (.slice (some ⟨b2, off2, none⟩) x.spots.length cb)) ∧ ((X.cell? ⟨b, off + n * 3, none⟩ = some (.int .i64 c.type) ∧ X.cell? ⟨b, off + n * 3 + 1, none⟩ = some (.int .i64 c.group) ∧ X.cell? ⟨b, off + n * 3 + 2, none⟩ = some (.slice U c.units.length cu))) ∧ (X.cell? ⟨b2, off2 + n * 4, none⟩ = some (.int .i64 s.pallet) ∧ X.cell? ⟨b2, off2 + n * 4 + 1, none⟩ = some (.int .i64 s.x) ∧ X.cell? ⟨b2, off2 + n * 4 + 2, none⟩ = some (.int .i64 s.y) ∧ X.cell? ⟨b2, off2 + n * 4 + 3, none⟩ = some (.int .i64 s.z)) from fun X hX => by
  have hX := SN.out.next hX
  have c0 := hX.box (.tail _ (.head _))
  exact ⟨⟨c0 0, c0 1, c0 2, c0 3, c0 4, c0 5, c0 6, c0 7, c0 8, c0 9⟩, ⟨hX.box (.head _) 0, hX.box (.head _) 1⟩, HC.out X hX.low, HC2.out X hX.low⟩)
 clear hc hs hbx
 go_upto_region 3 with fail
 go_cut [7, 8] (fun v7 v8 X => ∃ g7 g8, v7 = .pointer (some ⟨g7, 0, none⟩) ∧ v8 = .pointer (some ⟨g8, 0, none⟩) ∧ Hid (Sit w X [fBox g7 #[.int .i64 bx.w, .int .i64 bx.d, .int .i64 bx.h, .int .i64 bx.gram] 75, fBox g8 #[.int .i64 s.pallet, .int .i64 s.x, .int .i64 s.y, .int .i64 s.z] 72, fBox (w.heap.size + 1) #[.slice (some ⟨b, off, none⟩) x.cartons.length ca, .slice (some ⟨b2, off2, none⟩) x.spots.length cb] 46, fBox w.heap.size #[.int .i64 r.way, .int .i64 r.pallet.w, .int .i64 r.pallet.d, .int .i64 r.pallet.h, .int .i64 r.pallet.gram, .int .i64 r.classes, .slice A1 r.pairs.length c1, .slice A2 r.types.length c2, .int .i64 r.master, .slice A3 r.items.length c3] 41]))
 case first =>
  clear HPA HPB HX HF HM HQ HBA HSA HC HC2 hla hlb hwq hL
  refine wp_region_S (S := (fun W' => ((W'.cell? ⟨w.heap.size, 0, none⟩ = some (.int .i64 r.way) ∧ W'.cell? ⟨w.heap.size, 1, none⟩ = some (.int .i64 r.pallet.w) ∧ W'.cell? ⟨w.heap.size, 2, none⟩ = some (.int .i64 r.pallet.d) ∧ W'.cell? ⟨w.heap.size, 3, none⟩ = some (.int .i64 r.pallet.h) ∧ W'.cell? ⟨w.heap.size, 4, none⟩ = some (.int .i64 r.pallet.gram) ∧ W'.cell? ⟨w.heap.size, 5, none⟩ = some (.int .i64 r.classes) ∧ W'.cell? ⟨w.heap.size, 6, none⟩ = some (.slice A1 r.pairs.length c1) ∧ W'.cell? ⟨w.heap.size, 7, none⟩ = some (.slice A2 r.types.length c2) ∧ W'.cell? ⟨w.heap.size, 8, none⟩ = some (.int .i64 r.master) ∧ W'.cell? ⟨w.heap.size, 9, none⟩ = some (.slice A3 r.items.length c3))) ∧ (W'.cell? ⟨w.heap.size + 1, 0, none⟩ = some (.slice (some ⟨b, off, none⟩) x.cartons.length ca) ∧ W'.cell? ⟨w.heap.size + 1, 1, none⟩ = some (.slice (some ⟨b2, off2, none⟩) x.spots.length cb)) ∧ ((W'.cell? ⟨b, off + n * 3, none⟩ = some (.int .i64 c.type) ∧ W'.cell? ⟨b, off + n * 3 + 1, none⟩ = some (.int .i64 c.group) ∧ W'.cell? ⟨b, off + n * 3 + 2, none⟩ = some (.slice U c.units.length cu))) ∧ (W'.cell? ⟨b2, off2 + n * 4, none⟩ = some (.int .i64 s.pallet) ∧ W'.cell? ⟨b2, off2 + n * 4 + 1, none⟩ = some (.int .i64 s.x) ∧ W'.cell? ⟨b2, off2 + n * 4 + 2, none⟩ = some (.int .i64 s.y) ∧ W'.cell? ⟨b2, off2 + n * 4 + 3, none⟩ = some (.int .i64 s.z)))) (by kernel_rfl) ?_ (fun hHeld => ?_)
  ·(first | (refine HCC.out _ ?_; (repeat' (first | with_reducible exact Below.refl _ _ | with_reducible assumption | with_reducible refine Below.drew ?_ | with_reducible refine Below.alloc ?_ ?_ _ | with_reducible refine Below.setCell ?_ ?_ _ | with_reducible refine Below.setW ?_ _ _ _ ?_ | omega | (simp; done) | (simp; omega))); done) | go_keep)
  have SN := Lib.hid SN.out.drew
  refine wpS_take (i := 0) (v := ?_) rfl (by kernel_rfl) (fun _ _ _ h => h) (Or.inl ⟨by rfl, ?_⟩) (by assumption) ?_
  rotate_left
  ·(intro w9 hSw; (try dsimp only at hSw); go_simp; (try with_reducible rfl))
  (try simp only [Act.put, List.getElem_toArray, List.getElem_cons_zero, List.getElem_cons_succ, List.setIfInBounds_toArray, List.set_cons_zero, List.set_cons_succ])
  refine wpS_take (i := 1) (v := ?_) rfl (by kernel_rfl) (fun _ _ _ h => h) (Or.inl ⟨by rfl, ?_⟩) (by assumption) ?_
  rotate_left
  ·(intro w9 hSw; (try dsimp only at hSw); go_simp; (try with_reducible rfl))
  (try simp only [Act.put, List.getElem_toArray, List.getElem_cons_zero, List.getElem_cons_succ, List.setIfInBounds_toArray, List.set_cons_zero, List.set_cons_succ])
  refine wpS_take (i := 2) (v := ?_) rfl (by kernel_rfl) (fun _ _ _ h => h) (Or.inl ⟨by rfl, ?_⟩) (by assumption) ?_
  rotate_left
  ·(intro w9 hSw; (try dsimp only at hSw); go_simp; (try with_reducible rfl))
  (try simp only [Act.put, List.getElem_toArray, List.getElem_cons_zero, List.getElem_cons_succ, List.setIfInBounds_toArray, List.set_cons_zero, List.set_cons_succ])
  refine wpS_take (i := 3) (v := ?_) rfl (by kernel_rfl) (fun _ _ _ h => h) (Or.inl ⟨by rfl, ?_⟩) (by assumption) ?_
  rotate_left
  ·(intro w9 hSw; (try dsimp only at hSw); go_simp; (try with_reducible rfl))
  (try simp only [Act.put, List.getElem_toArray, List.getElem_cons_zero, List.getElem_cons_succ, List.setIfInBounds_toArray, List.set_cons_zero, List.set_cons_succ])
  refine wpS_take (i := 4) (v := ?_) rfl (by kernel_rfl) (fun _ _ _ h => h) (Or.inl ⟨by rfl, ?_⟩) (by assumption) ?_
  rotate_left
  ·(intro w9 hSw; (try dsimp only at hSw); go_simp; (try with_reducible rfl))
  (try simp only [Act.put, List.getElem_toArray, List.getElem_cons_zero, List.getElem_cons_succ, List.setIfInBounds_toArray, List.set_cons_zero, List.set_cons_succ])
  refine wpS_take (i := 5) (v := ?_) rfl (by kernel_rfl) (fun _ _ _ h => h) (Or.inl ⟨by rfl, ?_⟩) (by assumption) ?_
  rotate_left
  ·(intro w9 hSw; (try dsimp only at hSw); go_simp; (try with_reducible rfl))
  (try simp only [Act.put, List.getElem_toArray, List.getElem_cons_zero, List.getElem_cons_succ, List.setIfInBounds_toArray, List.set_cons_zero, List.set_cons_succ])
  refine wpS_take (i := 7) (v := ?_) rfl (by kernel_rfl) (fun _ _ _ h => h) (Or.inl ⟨by rfl, ?_⟩) (by assumption) ?_
  rotate_left
  ·(intro w9 hSw; (try dsimp only at hSw); go_simp; (try with_reducible rfl))
  (try simp only [Act.put, List.getElem_toArray, List.getElem_cons_zero, List.getElem_cons_succ, List.setIfInBounds_toArray, List.set_cons_zero, List.set_cons_succ])
  refine wpS_take (i := 8) (v := ?_) rfl (by kernel_rfl) (fun _ _ _ h => h) (Or.inl ⟨by rfl, ?_⟩) (by assumption) ?_
  rotate_left
  ·(intro w9 hSw; (try dsimp only at hSw); go_simp; (try with_reducible rfl))
  (try simp only [Act.put, List.getElem_toArray, List.getElem_cons_zero, List.getElem_cons_succ, List.setIfInBounds_toArray, List.set_cons_zero, List.set_cons_succ])
  refine wpS_take (i := 9) (v := ?_) rfl (by kernel_rfl) (fun _ _ _ h => h) (Or.inl ⟨by rfl, ?_⟩) (by assumption) ?_
  rotate_left
  ·(intro w9 hSw; (try dsimp only at hSw); go_simp; (try with_reducible rfl))
  (try simp only [Act.put, List.getElem_toArray, List.getElem_cons_zero, List.getElem_cons_succ, List.setIfInBounds_toArray, List.set_cons_zero, List.set_cons_succ])
  refine wpS_take (i := 10) (v := ?_) rfl (by kernel_rfl) (fun _ _ _ h => h) (Or.inl ⟨by rfl, ?_⟩) (by assumption) ?_
  rotate_left
  ·(intro w9 hSw; (try dsimp only at hSw); go_simp; (try with_reducible rfl))
  (try simp only [Act.put, List.getElem_toArray, List.getElem_cons_zero, List.getElem_cons_succ, List.setIfInBounds_toArray, List.set_cons_zero, List.set_cons_succ])
  refine wpS_take (i := 11) (v := ?_) rfl (by kernel_rfl) (fun _ _ _ h => h) (Or.inl ⟨by rfl, ?_⟩) (by assumption) ?_
  rotate_left
  ·(intro w9 hSw; (try dsimp only at hSw); go_simp; (try with_reducible rfl))
  (try simp only [Act.put, List.getElem_toArray, List.getElem_cons_zero, List.getElem_cons_succ, List.setIfInBounds_toArray, List.set_cons_zero, List.set_cons_succ])
  refine wpS_ready (rs := [6, 12, 13]) (by kernel_rfl) (by simp) ?_
  refine AllReadyS.cons rfl (by kernel_rfl) (fun K hK => ?_) ?_
  ·go_simp
   ((go_at_call 53; refine (iBoxOf_any _ _ r c _ (HR.out.next SN.out.low) (HU.out.next (flat_mono _) SN.out.low)).mono ?_; rintro e w2 ⟨rfl, hb2⟩; rw [HBX.out]; have hn2 := bstep (a := w1) (by (repeat' (first | with_reducible exact Below.refl _ _ | with_reducible assumption | with_reducible refine Below.drew ?_ | with_reducible refine Below.alloc ?_ ?_ _ | with_reducible refine Below.setCell ?_ ?_ _ | with_reducible refine Below.setW ?_ _ _ _ ?_ | omega | (simp; done) | (simp; omega)))) hb2; have SN := Lib.hid (SN.out.next hb2); (try (have hg7 := SN.out.on (fBox _ #[.int .i64 0, .int .i64 0, .int .i64 0, .int .i64 0] 75) (by first | exact .head _ | exact .tail _ (.head _)); have hgc7 := fun j => cell_of_row _ _ j _ _ (0, 0) hg7; have hgf7 := fun j => frozen_of_row _ _ j _ _ hg7; have hgl7 := lt_of_block hg7; (try simp only [World.size_alloc, World.size_drew] at hg7 hgc7 hgf7 hgl7))); (try (have hg8 := SN.out.on (fBox _ #[.int .i64 0, .int .i64 0, .int .i64 0, .int .i64 0] 72) (by first | exact .head _ | exact .tail _ (.head _)); have hgc8 := fun j => cell_of_row _ _ j _ _ (0, 0) hg8; have hgf8 := fun j => frozen_of_row _ _ j _ _ hg8; have hgl8 := lt_of_block hg8; (try simp only [World.size_alloc, World.size_drew] at hg8 hgc8 hgf8 hgl8)))))
   refine hK.out _ _ ?_ (fun hHeld => ?_)
   ·(first | (refine HCC.out _ ?_; (repeat' (first | with_reducible exact Below.refl _ _ | with_reducible assumption | with_reducible refine Below.drew ?_ | with_reducible refine Below.alloc ?_ ?_ _ | with_reducible refine Below.setCell ?_ ?_ _ | with_reducible refine Below.setW ?_ _ _ _ ?_ | omega | (simp; done) | (simp; omega))); done) | go_keep)
   clear hK K
   (try simp only [Act.put, List.getElem_toArray, List.getElem_cons_zero, List.getElem_cons_succ, List.setIfInBounds_toArray, List.set_cons_zero, List.set_cons_succ])
   refine wpS_ready (rs := [12, 13]) (by kernel_rfl) (by simp) ?_
   refine AllReadyS.cons rfl (by kernel_rfl) (fun K hK => ?_) ?_
   ·go_simp
    (have SN := Lib.hid (SN.out.alloc #[.int .i64 0, .int .i64 0, .int .i64 0, .int .i64 0] 75))
    refine hK.out _ _ ?_ (fun hHeld => ?_)
    ·(first | (refine HCC.out _ ?_; (repeat' (first | with_reducible exact Below.refl _ _ | with_reducible assumption | with_reducible refine Below.drew ?_ | with_reducible refine Below.alloc ?_ ?_ _ | with_reducible refine Below.setCell ?_ ?_ _ | with_reducible refine Below.setW ?_ _ _ _ ?_ | omega | (simp; done) | (simp; omega))); done) | go_keep)
    clear hK K
    (try simp only [Act.put, List.getElem_toArray, List.getElem_cons_zero, List.getElem_cons_succ, List.setIfInBounds_toArray, List.set_cons_zero, List.set_cons_succ])
    refine wpS_ready (rs := [13]) (by kernel_rfl) (by simp) ?_
    refine AllReadyS.cons rfl (by kernel_rfl) (fun K hK => ?_) AllReadyS.nil
    go_simp
    (have SN := Lib.hid (SN.out.alloc #[.int .i64 0, .int .i64 0, .int .i64 0, .int .i64 0] 72))
    refine hK.out _ _ ?_ (fun hHeld => ?_)
    ·(first | (refine HCC.out _ ?_; (repeat' (first | with_reducible exact Below.refl _ _ | with_reducible assumption | with_reducible refine Below.drew ?_ | with_reducible refine Below.alloc ?_ ?_ _ | with_reducible refine Below.setCell ?_ ?_ _ | with_reducible refine Below.setW ?_ _ _ _ ?_ | omega | (simp; done) | (simp; omega))); done) | go_keep)
    clear hK K
    (try simp only [Act.put, List.getElem_toArray, List.getElem_cons_zero, List.getElem_cons_succ, List.setIfInBounds_toArray, List.set_cons_zero, List.set_cons_succ])
    refine wpS_ready (rs := [14]) (by kernel_rfl) (by simp) ?_
    refine AllReadyS.cons rfl (by kernel_rfl) (fun K hK => ?_) AllReadyS.nil
    go_simp
    (have SN := Lib.hid (Sit.overL (t := 75) (cs := [.int .i64 0, .int .i64 0, .int .i64 0, .int .i64 0]) [.int .i64 bx.w, .int .i64 bx.d, .int .i64 bx.h, .int .i64 bx.gram] 0 (by first | exact SN.out | exact SN.out.rot2)))
    refine hK.out _ _ ?_ (fun hHeld => ?_)
    ·(first | (refine HCC.out _ ?_; (repeat' (first | with_reducible exact Below.refl _ _ | with_reducible assumption | with_reducible refine Below.drew ?_ | with_reducible refine Below.alloc ?_ ?_ _ | with_reducible refine Below.setCell ?_ ?_ _ | with_reducible refine Below.setW ?_ _ _ _ ?_ | omega | (simp; done) | (simp; omega))); done) | go_keep)
    clear hK K
    (try simp only [Act.put, List.getElem_toArray, List.getElem_cons_zero, List.getElem_cons_succ, List.setIfInBounds_toArray, List.set_cons_zero, List.set_cons_succ])
    refine wpS_ready (rs := [15]) (by kernel_rfl) (by simp) ?_
    refine AllReadyS.last rfl (by kernel_rfl) (fun K hK => ?_)
    go_simp
    (have SN := Lib.hid (Sit.overL (t := 72) (cs := [.int .i64 0, .int .i64 0, .int .i64 0, .int .i64 0]) [.int .i64 s.pallet, .int .i64 s.x, .int .i64 s.y, .int .i64 s.z] 0 (by first | exact SN.out | exact SN.out.rot2)))
    refine hK.out _ _ ?_
    clear hK K
    (try simp only [Act.put, List.getElem_toArray, List.getElem_cons_zero, List.getElem_cons_succ, List.setIfInBounds_toArray, List.set_cons_zero, List.set_cons_succ])
    refine wpS_done (by kernel_rfl) ?_ _
    go_wp2_with fail
    go_meet
    refine ⟨_, _, rfl, rfl, ?_⟩
    (have HSN := SN.out.rot2; clear HCC HR HU HBX SN hn2; (first | simp [setW, setL, World.setCell_alloc_at, World.setCell_alloc_past, World.size_alloc, hgl7, hgl8] at HSN | simp [setW, setL, World.setCell_alloc_at, World.setCell_alloc_past, World.size_alloc, hgl7] at HSN | simp [setW, setL, World.setCell_alloc_at, World.setCell_alloc_past, World.size_alloc, hgl8] at HSN | simp [setW, setL, World.setCell_alloc_at, World.setCell_alloc_past, World.size_alloc] at HSN); refine Lib.hid ?_; with_reducible exact HSN)
   refine AllReadyS.cons rfl (by kernel_rfl) (fun K hK => ?_) ?_
   ·go_simp
    (have SN := Lib.hid (SN.out.alloc #[.int .i64 0, .int .i64 0, .int .i64 0, .int .i64 0] 72))
    refine hK.out _ _ ?_ (fun hHeld => ?_)
    ·(first | (refine HCC.out _ ?_; (repeat' (first | with_reducible exact Below.refl _ _ | with_reducible assumption | with_reducible refine Below.drew ?_ | with_reducible refine Below.alloc ?_ ?_ _ | with_reducible refine Below.setCell ?_ ?_ _ | with_reducible refine Below.setW ?_ _ _ _ ?_ | omega | (simp; done) | (simp; omega))); done) | go_keep)
    clear hK K
    (try simp only [Act.put, List.getElem_toArray, List.getElem_cons_zero, List.getElem_cons_succ, List.setIfInBounds_toArray, List.set_cons_zero, List.set_cons_succ])
    refine wpS_ready (rs := [12]) (by kernel_rfl) (by simp) ?_
    refine AllReadyS.cons rfl (by kernel_rfl) (fun K hK => ?_) AllReadyS.nil
    go_simp
    (have SN := Lib.hid (SN.out.alloc #[.int .i64 0, .int .i64 0, .int .i64 0, .int .i64 0] 75))
    refine hK.out _ _ ?_ (fun hHeld => ?_)
    ·(first | (refine HCC.out _ ?_; (repeat' (first | with_reducible exact Below.refl _ _ | with_reducible assumption | with_reducible refine Below.drew ?_ | with_reducible refine Below.alloc ?_ ?_ _ | with_reducible refine Below.setCell ?_ ?_ _ | with_reducible refine Below.setW ?_ _ _ _ ?_ | omega | (simp; done) | (simp; omega))); done) | go_keep)
    clear hK K
    (try simp only [Act.put, List.getElem_toArray, List.getElem_cons_zero, List.getElem_cons_succ, List.setIfInBounds_toArray, List.set_cons_zero, List.set_cons_succ])
    refine wpS_ready (rs := [14]) (by kernel_rfl) (by simp) ?_
    refine AllReadyS.cons rfl (by kernel_rfl) (fun K hK => ?_) AllReadyS.nil
    go_simp
    (have SN := Lib.hid (Sit.overL (t := 75) (cs := [.int .i64 0, .int .i64 0, .int .i64 0, .int .i64 0]) [.int .i64 bx.w, .int .i64 bx.d, .int .i64 bx.h, .int .i64 bx.gram] 0 (by first | exact SN.out | exact SN.out.rot2)))
    refine hK.out _ _ ?_ (fun hHeld => ?_)
    ·(first | (refine HCC.out _ ?_; (repeat' (first | with_reducible exact Below.refl _ _ | with_reducible assumption | with_reducible refine Below.drew ?_ | with_reducible refine Below.alloc ?_ ?_ _ | with_reducible refine Below.setCell ?_ ?_ _ | with_reducible refine Below.setW ?_ _ _ _ ?_ | omega | (simp; done) | (simp; omega))); done) | go_keep)
    clear hK K
    (try simp only [Act.put, List.getElem_toArray, List.getElem_cons_zero, List.getElem_cons_succ, List.setIfInBounds_toArray, List.set_cons_zero, List.set_cons_succ])
    refine wpS_ready (rs := [15]) (by kernel_rfl) (by simp) ?_
    refine AllReadyS.last rfl (by kernel_rfl) (fun K hK => ?_)
    go_simp
    (have SN := Lib.hid (Sit.overL (t := 72) (cs := [.int .i64 0, .int .i64 0, .int .i64 0, .int .i64 0]) [.int .i64 s.pallet, .int .i64 s.x, .int .i64 s.y, .int .i64 s.z] 0 (by first | exact SN.out | exact SN.out.rot2)))
    refine hK.out _ _ ?_
    clear hK K
    (try simp only [Act.put, List.getElem_toArray, List.getElem_cons_zero, List.getElem_cons_succ, List.setIfInBounds_toArray, List.set_cons_zero, List.set_cons_succ])
    refine wpS_done (by kernel_rfl) ?_ _
    go_wp2_with fail
    go_meet
    refine ⟨_, _, rfl, rfl, ?_⟩
    (have HSN := SN.out.rot2; clear HCC HR HU HBX SN hn2; (first | simp [setW, setL, World.setCell_alloc_at, World.setCell_alloc_past, World.size_alloc, hgl7, hgl8] at HSN | simp [setW, setL, World.setCell_alloc_at, World.setCell_alloc_past, World.size_alloc, hgl7] at HSN | simp [setW, setL, World.setCell_alloc_at, World.setCell_alloc_past, World.size_alloc, hgl8] at HSN | simp [setW, setL, World.setCell_alloc_at, World.setCell_alloc_past, World.size_alloc] at HSN); refine Lib.hid ?_; with_reducible exact HSN)
   exact AllReadyS.nil
  refine AllReadyS.cons rfl (by kernel_rfl) (fun K hK => ?_) ?_
  ·go_simp
   (have SN := Lib.hid (SN.out.alloc #[.int .i64 0, .int .i64 0, .int .i64 0, .int .i64 0] 75))
   refine hK.out _ _ ?_ (fun hHeld => ?_)
   ·(first | (refine HCC.out _ ?_; (repeat' (first | with_reducible exact Below.refl _ _ | with_reducible assumption | with_reducible refine Below.drew ?_ | with_reducible refine Below.alloc ?_ ?_ _ | with_reducible refine Below.setCell ?_ ?_ _ | with_reducible refine Below.setW ?_ _ _ _ ?_ | omega | (simp; done) | (simp; omega))); done) | go_keep)
   clear hK K
   (try simp only [Act.put, List.getElem_toArray, List.getElem_cons_zero, List.getElem_cons_succ, List.setIfInBounds_toArray, List.set_cons_zero, List.set_cons_succ])
   refine wpS_ready (rs := [6, 13]) (by kernel_rfl) (by simp) ?_
   refine AllReadyS.cons rfl (by kernel_rfl) (fun K hK => ?_) ?_
   ·go_simp
    ((go_at_call 53; refine (iBoxOf_any _ _ r c _ (HR.out.next SN.out.low) (HU.out.next (flat_mono _) SN.out.low)).mono ?_; rintro e w2 ⟨rfl, hb2⟩; rw [HBX.out]; have hn2 := bstep (a := w1) (by (repeat' (first | with_reducible exact Below.refl _ _ | with_reducible assumption | with_reducible refine Below.drew ?_ | with_reducible refine Below.alloc ?_ ?_ _ | with_reducible refine Below.setCell ?_ ?_ _ | with_reducible refine Below.setW ?_ _ _ _ ?_ | omega | (simp; done) | (simp; omega)))) hb2; have SN := Lib.hid (SN.out.next hb2); (try (have hg7 := SN.out.on (fBox _ #[.int .i64 0, .int .i64 0, .int .i64 0, .int .i64 0] 75) (by first | exact .head _ | exact .tail _ (.head _)); have hgc7 := fun j => cell_of_row _ _ j _ _ (0, 0) hg7; have hgf7 := fun j => frozen_of_row _ _ j _ _ hg7; have hgl7 := lt_of_block hg7; (try simp only [World.size_alloc, World.size_drew] at hg7 hgc7 hgf7 hgl7))); (try (have hg8 := SN.out.on (fBox _ #[.int .i64 0, .int .i64 0, .int .i64 0, .int .i64 0] 72) (by first | exact .head _ | exact .tail _ (.head _)); have hgc8 := fun j => cell_of_row _ _ j _ _ (0, 0) hg8; have hgf8 := fun j => frozen_of_row _ _ j _ _ hg8; have hgl8 := lt_of_block hg8; (try simp only [World.size_alloc, World.size_drew] at hg8 hgc8 hgf8 hgl8)))))
    refine hK.out _ _ ?_ (fun hHeld => ?_)
    ·(first | (refine HCC.out _ ?_; (repeat' (first | with_reducible exact Below.refl _ _ | with_reducible assumption | with_reducible refine Below.drew ?_ | with_reducible refine Below.alloc ?_ ?_ _ | with_reducible refine Below.setCell ?_ ?_ _ | with_reducible refine Below.setW ?_ _ _ _ ?_ | omega | (simp; done) | (simp; omega))); done) | go_keep)
    clear hK K
    (try simp only [Act.put, List.getElem_toArray, List.getElem_cons_zero, List.getElem_cons_succ, List.setIfInBounds_toArray, List.set_cons_zero, List.set_cons_succ])
    refine wpS_ready (rs := [13]) (by kernel_rfl) (by simp) ?_
    refine AllReadyS.cons rfl (by kernel_rfl) (fun K hK => ?_) AllReadyS.nil
    go_simp
    (have SN := Lib.hid (SN.out.alloc #[.int .i64 0, .int .i64 0, .int .i64 0, .int .i64 0] 72))
    refine hK.out _ _ ?_ (fun hHeld => ?_)
    ·(first | (refine HCC.out _ ?_; (repeat' (first | with_reducible exact Below.refl _ _ | with_reducible assumption | with_reducible refine Below.drew ?_ | with_reducible refine Below.alloc ?_ ?_ _ | with_reducible refine Below.setCell ?_ ?_ _ | with_reducible refine Below.setW ?_ _ _ _ ?_ | omega | (simp; done) | (simp; omega))); done) | go_keep)
    clear hK K
    (try simp only [Act.put, List.getElem_toArray, List.getElem_cons_zero, List.getElem_cons_succ, List.setIfInBounds_toArray, List.set_cons_zero, List.set_cons_succ])
    refine wpS_ready (rs := [14]) (by kernel_rfl) (by simp) ?_
    refine AllReadyS.cons rfl (by kernel_rfl) (fun K hK => ?_) AllReadyS.nil
    go_simp
    (have SN := Lib.hid (Sit.overL (t := 75) (cs := [.int .i64 0, .int .i64 0, .int .i64 0, .int .i64 0]) [.int .i64 bx.w, .int .i64 bx.d, .int .i64 bx.h, .int .i64 bx.gram] 0 (by first | exact SN.out | exact SN.out.rot2)))
    refine hK.out _ _ ?_ (fun hHeld => ?_)
    ·(first | (refine HCC.out _ ?_; (repeat' (first | with_reducible exact Below.refl _ _ | with_reducible assumption | with_reducible refine Below.drew ?_ | with_reducible refine Below.alloc ?_ ?_ _ | with_reducible refine Below.setCell ?_ ?_ _ | with_reducible refine Below.setW ?_ _ _ _ ?_ | omega | (simp; done) | (simp; omega))); done) | go_keep)
    clear hK K
    (try simp only [Act.put, List.getElem_toArray, List.getElem_cons_zero, List.getElem_cons_succ, List.setIfInBounds_toArray, List.set_cons_zero, List.set_cons_succ])
    refine wpS_ready (rs := [15]) (by kernel_rfl) (by simp) ?_
    refine AllReadyS.last rfl (by kernel_rfl) (fun K hK => ?_)
    go_simp
    (have SN := Lib.hid (Sit.overL (t := 72) (cs := [.int .i64 0, .int .i64 0, .int .i64 0, .int .i64 0]) [.int .i64 s.pallet, .int .i64 s.x, .int .i64 s.y, .int .i64 s.z] 0 (by first | exact SN.out | exact SN.out.rot2)))
    refine hK.out _ _ ?_
    clear hK K
    (try simp only [Act.put, List.getElem_toArray, List.getElem_cons_zero, List.getElem_cons_succ, List.setIfInBounds_toArray, List.set_cons_zero, List.set_cons_succ])
    refine wpS_done (by kernel_rfl) ?_ _
    go_wp2_with fail
    go_meet
    refine ⟨_, _, rfl, rfl, ?_⟩
    (have HSN := SN.out.rot2; clear HCC HR HU HBX SN hn2; (first | simp [setW, setL, World.setCell_alloc_at, World.setCell_alloc_past, World.size_alloc, hgl7, hgl8] at HSN | simp [setW, setL, World.setCell_alloc_at, World.setCell_alloc_past, World.size_alloc, hgl7] at HSN | simp [setW, setL, World.setCell_alloc_at, World.setCell_alloc_past, World.size_alloc, hgl8] at HSN | simp [setW, setL, World.setCell_alloc_at, World.setCell_alloc_past, World.size_alloc] at HSN); refine Lib.hid ?_; with_reducible exact HSN)
   refine AllReadyS.cons rfl (by kernel_rfl) (fun K hK => ?_) ?_
   ·go_simp
    (have SN := Lib.hid (SN.out.alloc #[.int .i64 0, .int .i64 0, .int .i64 0, .int .i64 0] 72))
    refine hK.out _ _ ?_ (fun hHeld => ?_)
    ·(first | (refine HCC.out _ ?_; (repeat' (first | with_reducible exact Below.refl _ _ | with_reducible assumption | with_reducible refine Below.drew ?_ | with_reducible refine Below.alloc ?_ ?_ _ | with_reducible refine Below.setCell ?_ ?_ _ | with_reducible refine Below.setW ?_ _ _ _ ?_ | omega | (simp; done) | (simp; omega))); done) | go_keep)
    clear hK K
    (try simp only [Act.put, List.getElem_toArray, List.getElem_cons_zero, List.getElem_cons_succ, List.setIfInBounds_toArray, List.set_cons_zero, List.set_cons_succ])
    refine wpS_ready (rs := [6]) (by kernel_rfl) (by simp) ?_
    refine AllReadyS.cons rfl (by kernel_rfl) (fun K hK => ?_) AllReadyS.nil
    go_simp
    ((go_at_call 53; refine (iBoxOf_any _ _ r c _ (HR.out.next SN.out.low) (HU.out.next (flat_mono _) SN.out.low)).mono ?_; rintro e w2 ⟨rfl, hb2⟩; rw [HBX.out]; have hn2 := bstep (a := w1) (by (repeat' (first | with_reducible exact Below.refl _ _ | with_reducible assumption | with_reducible refine Below.drew ?_ | with_reducible refine Below.alloc ?_ ?_ _ | with_reducible refine Below.setCell ?_ ?_ _ | with_reducible refine Below.setW ?_ _ _ _ ?_ | omega | (simp; done) | (simp; omega)))) hb2; have SN := Lib.hid (SN.out.next hb2); (try (have hg7 := SN.out.on (fBox _ #[.int .i64 0, .int .i64 0, .int .i64 0, .int .i64 0] 75) (by first | exact .head _ | exact .tail _ (.head _)); have hgc7 := fun j => cell_of_row _ _ j _ _ (0, 0) hg7; have hgf7 := fun j => frozen_of_row _ _ j _ _ hg7; have hgl7 := lt_of_block hg7; (try simp only [World.size_alloc, World.size_drew] at hg7 hgc7 hgf7 hgl7))); (try (have hg8 := SN.out.on (fBox _ #[.int .i64 0, .int .i64 0, .int .i64 0, .int .i64 0] 72) (by first | exact .head _ | exact .tail _ (.head _)); have hgc8 := fun j => cell_of_row _ _ j _ _ (0, 0) hg8; have hgf8 := fun j => frozen_of_row _ _ j _ _ hg8; have hgl8 := lt_of_block hg8; (try simp only [World.size_alloc, World.size_drew] at hg8 hgc8 hgf8 hgl8)))))
    refine hK.out _ _ ?_ (fun hHeld => ?_)
    ·(first | (refine HCC.out _ ?_; (repeat' (first | with_reducible exact Below.refl _ _ | with_reducible assumption | with_reducible refine Below.drew ?_ | with_reducible refine Below.alloc ?_ ?_ _ | with_reducible refine Below.setCell ?_ ?_ _ | with_reducible refine Below.setW ?_ _ _ _ ?_ | omega | (simp; done) | (simp; omega))); done) | go_keep)
    clear hK K
    (try simp only [Act.put, List.getElem_toArray, List.getElem_cons_zero, List.getElem_cons_succ, List.setIfInBounds_toArray, List.set_cons_zero, List.set_cons_succ])
    refine wpS_ready (rs := [14]) (by kernel_rfl) (by simp) ?_
    refine AllReadyS.cons rfl (by kernel_rfl) (fun K hK => ?_) AllReadyS.nil
    go_simp
    (have SN := Lib.hid (Sit.overL (t := 75) (cs := [.int .i64 0, .int .i64 0, .int .i64 0, .int .i64 0]) [.int .i64 bx.w, .int .i64 bx.d, .int .i64 bx.h, .int .i64 bx.gram] 0 (by first | exact SN.out | exact SN.out.rot2)))
    refine hK.out _ _ ?_ (fun hHeld => ?_)
    ·(first | (refine HCC.out _ ?_; (repeat' (first | with_reducible exact Below.refl _ _ | with_reducible assumption | with_reducible refine Below.drew ?_ | with_reducible refine Below.alloc ?_ ?_ _ | with_reducible refine Below.setCell ?_ ?_ _ | with_reducible refine Below.setW ?_ _ _ _ ?_ | omega | (simp; done) | (simp; omega))); done) | go_keep)
    clear hK K
    (try simp only [Act.put, List.getElem_toArray, List.getElem_cons_zero, List.getElem_cons_succ, List.setIfInBounds_toArray, List.set_cons_zero, List.set_cons_succ])
    refine wpS_ready (rs := [15]) (by kernel_rfl) (by simp) ?_
    refine AllReadyS.last rfl (by kernel_rfl) (fun K hK => ?_)
    go_simp
    (have SN := Lib.hid (Sit.overL (t := 72) (cs := [.int .i64 0, .int .i64 0, .int .i64 0, .int .i64 0]) [.int .i64 s.pallet, .int .i64 s.x, .int .i64 s.y, .int .i64 s.z] 0 (by first | exact SN.out | exact SN.out.rot2)))
    refine hK.out _ _ ?_
    clear hK K
    (try simp only [Act.put, List.getElem_toArray, List.getElem_cons_zero, List.getElem_cons_succ, List.setIfInBounds_toArray, List.set_cons_zero, List.set_cons_succ])
    refine wpS_done (by kernel_rfl) ?_ _
    go_wp2_with fail
    go_meet
    refine ⟨_, _, rfl, rfl, ?_⟩
    (have HSN := SN.out.rot2; clear HCC HR HU HBX SN hn2; (first | simp [setW, setL, World.setCell_alloc_at, World.setCell_alloc_past, World.size_alloc, hgl7, hgl8] at HSN | simp [setW, setL, World.setCell_alloc_at, World.setCell_alloc_past, World.size_alloc, hgl7] at HSN | simp [setW, setL, World.setCell_alloc_at, World.setCell_alloc_past, World.size_alloc, hgl8] at HSN | simp [setW, setL, World.setCell_alloc_at, World.setCell_alloc_past, World.size_alloc] at HSN); refine Lib.hid ?_; with_reducible exact HSN)
   exact AllReadyS.nil
  refine AllReadyS.cons rfl (by kernel_rfl) (fun K hK => ?_) ?_
  ·go_simp
   (have SN := Lib.hid (SN.out.alloc #[.int .i64 0, .int .i64 0, .int .i64 0, .int .i64 0] 72))
   refine hK.out _ _ ?_ (fun hHeld => ?_)
   ·(first | (refine HCC.out _ ?_; (repeat' (first | with_reducible exact Below.refl _ _ | with_reducible assumption | with_reducible refine Below.drew ?_ | with_reducible refine Below.alloc ?_ ?_ _ | with_reducible refine Below.setCell ?_ ?_ _ | with_reducible refine Below.setW ?_ _ _ _ ?_ | omega | (simp; done) | (simp; omega))); done) | go_keep)
   clear hK K
   (try simp only [Act.put, List.getElem_toArray, List.getElem_cons_zero, List.getElem_cons_succ, List.setIfInBounds_toArray, List.set_cons_zero, List.set_cons_succ])
   refine wpS_ready (rs := [6, 12]) (by kernel_rfl) (by simp) ?_
   refine AllReadyS.cons rfl (by kernel_rfl) (fun K hK => ?_) ?_
   ·go_simp
    ((go_at_call 53; refine (iBoxOf_any _ _ r c _ (HR.out.next SN.out.low) (HU.out.next (flat_mono _) SN.out.low)).mono ?_; rintro e w2 ⟨rfl, hb2⟩; rw [HBX.out]; have hn2 := bstep (a := w1) (by (repeat' (first | with_reducible exact Below.refl _ _ | with_reducible assumption | with_reducible refine Below.drew ?_ | with_reducible refine Below.alloc ?_ ?_ _ | with_reducible refine Below.setCell ?_ ?_ _ | with_reducible refine Below.setW ?_ _ _ _ ?_ | omega | (simp; done) | (simp; omega)))) hb2; have SN := Lib.hid (SN.out.next hb2); (try (have hg7 := SN.out.on (fBox _ #[.int .i64 0, .int .i64 0, .int .i64 0, .int .i64 0] 75) (by first | exact .head _ | exact .tail _ (.head _)); have hgc7 := fun j => cell_of_row _ _ j _ _ (0, 0) hg7; have hgf7 := fun j => frozen_of_row _ _ j _ _ hg7; have hgl7 := lt_of_block hg7; (try simp only [World.size_alloc, World.size_drew] at hg7 hgc7 hgf7 hgl7))); (try (have hg8 := SN.out.on (fBox _ #[.int .i64 0, .int .i64 0, .int .i64 0, .int .i64 0] 72) (by first | exact .head _ | exact .tail _ (.head _)); have hgc8 := fun j => cell_of_row _ _ j _ _ (0, 0) hg8; have hgf8 := fun j => frozen_of_row _ _ j _ _ hg8; have hgl8 := lt_of_block hg8; (try simp only [World.size_alloc, World.size_drew] at hg8 hgc8 hgf8 hgl8)))))
    refine hK.out _ _ ?_ (fun hHeld => ?_)
    ·(first | (refine HCC.out _ ?_; (repeat' (first | with_reducible exact Below.refl _ _ | with_reducible assumption | with_reducible refine Below.drew ?_ | with_reducible refine Below.alloc ?_ ?_ _ | with_reducible refine Below.setCell ?_ ?_ _ | with_reducible refine Below.setW ?_ _ _ _ ?_ | omega | (simp; done) | (simp; omega))); done) | go_keep)
    clear hK K
    (try simp only [Act.put, List.getElem_toArray, List.getElem_cons_zero, List.getElem_cons_succ, List.setIfInBounds_toArray, List.set_cons_zero, List.set_cons_succ])
    refine wpS_ready (rs := [12]) (by kernel_rfl) (by simp) ?_
    refine AllReadyS.cons rfl (by kernel_rfl) (fun K hK => ?_) AllReadyS.nil
    go_simp
    (have SN := Lib.hid (SN.out.alloc #[.int .i64 0, .int .i64 0, .int .i64 0, .int .i64 0] 75))
    refine hK.out _ _ ?_ (fun hHeld => ?_)
    ·(first | (refine HCC.out _ ?_; (repeat' (first | with_reducible exact Below.refl _ _ | with_reducible assumption | with_reducible refine Below.drew ?_ | with_reducible refine Below.alloc ?_ ?_ _ | with_reducible refine Below.setCell ?_ ?_ _ | with_reducible refine Below.setW ?_ _ _ _ ?_ | omega | (simp; done) | (simp; omega))); done) | go_keep)
    clear hK K
    (try simp only [Act.put, List.getElem_toArray, List.getElem_cons_zero, List.getElem_cons_succ, List.setIfInBounds_toArray, List.set_cons_zero, List.set_cons_succ])
    refine wpS_ready (rs := [14]) (by kernel_rfl) (by simp) ?_
    refine AllReadyS.cons rfl (by kernel_rfl) (fun K hK => ?_) AllReadyS.nil
    go_simp
    (have SN := Lib.hid (Sit.overL (t := 75) (cs := [.int .i64 0, .int .i64 0, .int .i64 0, .int .i64 0]) [.int .i64 bx.w, .int .i64 bx.d, .int .i64 bx.h, .int .i64 bx.gram] 0 (by first | exact SN.out | exact SN.out.rot2)))
    refine hK.out _ _ ?_ (fun hHeld => ?_)
    ·(first | (refine HCC.out _ ?_; (repeat' (first | with_reducible exact Below.refl _ _ | with_reducible assumption | with_reducible refine Below.drew ?_ | with_reducible refine Below.alloc ?_ ?_ _ | with_reducible refine Below.setCell ?_ ?_ _ | with_reducible refine Below.setW ?_ _ _ _ ?_ | omega | (simp; done) | (simp; omega))); done) | go_keep)
    clear hK K
    (try simp only [Act.put, List.getElem_toArray, List.getElem_cons_zero, List.getElem_cons_succ, List.setIfInBounds_toArray, List.set_cons_zero, List.set_cons_succ])
    refine wpS_ready (rs := [15]) (by kernel_rfl) (by simp) ?_
    refine AllReadyS.last rfl (by kernel_rfl) (fun K hK => ?_)
    go_simp
    (have SN := Lib.hid (Sit.overL (t := 72) (cs := [.int .i64 0, .int .i64 0, .int .i64 0, .int .i64 0]) [.int .i64 s.pallet, .int .i64 s.x, .int .i64 s.y, .int .i64 s.z] 0 (by first | exact SN.out | exact SN.out.rot2)))
    refine hK.out _ _ ?_
    clear hK K
    (try simp only [Act.put, List.getElem_toArray, List.getElem_cons_zero, List.getElem_cons_succ, List.setIfInBounds_toArray, List.set_cons_zero, List.set_cons_succ])
    refine wpS_done (by kernel_rfl) ?_ _
    go_wp2_with fail
    go_meet
    refine ⟨_, _, rfl, rfl, ?_⟩
    (have HSN := SN.out.rot2; clear HCC HR HU HBX SN hn2; (first | simp [setW, setL, World.setCell_alloc_at, World.setCell_alloc_past, World.size_alloc, hgl7, hgl8] at HSN | simp [setW, setL, World.setCell_alloc_at, World.setCell_alloc_past, World.size_alloc, hgl7] at HSN | simp [setW, setL, World.setCell_alloc_at, World.setCell_alloc_past, World.size_alloc, hgl8] at HSN | simp [setW, setL, World.setCell_alloc_at, World.setCell_alloc_past, World.size_alloc] at HSN); refine Lib.hid ?_; with_reducible exact HSN)
   refine AllReadyS.cons rfl (by kernel_rfl) (fun K hK => ?_) ?_
   ·go_simp
    (have SN := Lib.hid (SN.out.alloc #[.int .i64 0, .int .i64 0, .int .i64 0, .int .i64 0] 75))
    refine hK.out _ _ ?_ (fun hHeld => ?_)
    ·(first | (refine HCC.out _ ?_; (repeat' (first | with_reducible exact Below.refl _ _ | with_reducible assumption | with_reducible refine Below.drew ?_ | with_reducible refine Below.alloc ?_ ?_ _ | with_reducible refine Below.setCell ?_ ?_ _ | with_reducible refine Below.setW ?_ _ _ _ ?_ | omega | (simp; done) | (simp; omega))); done) | go_keep)
    clear hK K
    (try simp only [Act.put, List.getElem_toArray, List.getElem_cons_zero, List.getElem_cons_succ, List.setIfInBounds_toArray, List.set_cons_zero, List.set_cons_succ])
    refine wpS_ready (rs := [6]) (by kernel_rfl) (by simp) ?_
    refine AllReadyS.cons rfl (by kernel_rfl) (fun K hK => ?_) AllReadyS.nil
    go_simp
    ((go_at_call 53; refine (iBoxOf_any _ _ r c _ (HR.out.next SN.out.low) (HU.out.next (flat_mono _) SN.out.low)).mono ?_; rintro e w2 ⟨rfl, hb2⟩; rw [HBX.out]; have hn2 := bstep (a := w1) (by (repeat' (first | with_reducible exact Below.refl _ _ | with_reducible assumption | with_reducible refine Below.drew ?_ | with_reducible refine Below.alloc ?_ ?_ _ | with_reducible refine Below.setCell ?_ ?_ _ | with_reducible refine Below.setW ?_ _ _ _ ?_ | omega | (simp; done) | (simp; omega)))) hb2; have SN := Lib.hid (SN.out.next hb2); (try (have hg7 := SN.out.on (fBox _ #[.int .i64 0, .int .i64 0, .int .i64 0, .int .i64 0] 75) (by first | exact .head _ | exact .tail _ (.head _)); have hgc7 := fun j => cell_of_row _ _ j _ _ (0, 0) hg7; have hgf7 := fun j => frozen_of_row _ _ j _ _ hg7; have hgl7 := lt_of_block hg7; (try simp only [World.size_alloc, World.size_drew] at hg7 hgc7 hgf7 hgl7))); (try (have hg8 := SN.out.on (fBox _ #[.int .i64 0, .int .i64 0, .int .i64 0, .int .i64 0] 72) (by first | exact .head _ | exact .tail _ (.head _)); have hgc8 := fun j => cell_of_row _ _ j _ _ (0, 0) hg8; have hgf8 := fun j => frozen_of_row _ _ j _ _ hg8; have hgl8 := lt_of_block hg8; (try simp only [World.size_alloc, World.size_drew] at hg8 hgc8 hgf8 hgl8)))))
    refine hK.out _ _ ?_ (fun hHeld => ?_)
    ·(first | (refine HCC.out _ ?_; (repeat' (first | with_reducible exact Below.refl _ _ | with_reducible assumption | with_reducible refine Below.drew ?_ | with_reducible refine Below.alloc ?_ ?_ _ | with_reducible refine Below.setCell ?_ ?_ _ | with_reducible refine Below.setW ?_ _ _ _ ?_ | omega | (simp; done) | (simp; omega))); done) | go_keep)
    clear hK K
    (try simp only [Act.put, List.getElem_toArray, List.getElem_cons_zero, List.getElem_cons_succ, List.setIfInBounds_toArray, List.set_cons_zero, List.set_cons_succ])
    refine wpS_ready (rs := [14]) (by kernel_rfl) (by simp) ?_
    refine AllReadyS.cons rfl (by kernel_rfl) (fun K hK => ?_) AllReadyS.nil
    go_simp
    (have SN := Lib.hid (Sit.overL (t := 75) (cs := [.int .i64 0, .int .i64 0, .int .i64 0, .int .i64 0]) [.int .i64 bx.w, .int .i64 bx.d, .int .i64 bx.h, .int .i64 bx.gram] 0 (by first | exact SN.out | exact SN.out.rot2)))
    refine hK.out _ _ ?_ (fun hHeld => ?_)
    ·(first | (refine HCC.out _ ?_; (repeat' (first | with_reducible exact Below.refl _ _ | with_reducible assumption | with_reducible refine Below.drew ?_ | with_reducible refine Below.alloc ?_ ?_ _ | with_reducible refine Below.setCell ?_ ?_ _ | with_reducible refine Below.setW ?_ _ _ _ ?_ | omega | (simp; done) | (simp; omega))); done) | go_keep)
    clear hK K
    (try simp only [Act.put, List.getElem_toArray, List.getElem_cons_zero, List.getElem_cons_succ, List.setIfInBounds_toArray, List.set_cons_zero, List.set_cons_succ])
    refine wpS_ready (rs := [15]) (by kernel_rfl) (by simp) ?_
    refine AllReadyS.last rfl (by kernel_rfl) (fun K hK => ?_)
    go_simp
    (have SN := Lib.hid (Sit.overL (t := 72) (cs := [.int .i64 0, .int .i64 0, .int .i64 0, .int .i64 0]) [.int .i64 s.pallet, .int .i64 s.x, .int .i64 s.y, .int .i64 s.z] 0 (by first | exact SN.out | exact SN.out.rot2)))
    refine hK.out _ _ ?_
    clear hK K
    (try simp only [Act.put, List.getElem_toArray, List.getElem_cons_zero, List.getElem_cons_succ, List.setIfInBounds_toArray, List.set_cons_zero, List.set_cons_succ])
    refine wpS_done (by kernel_rfl) ?_ _
    go_wp2_with fail
    go_meet
    refine ⟨_, _, rfl, rfl, ?_⟩
    (have HSN := SN.out.rot2; clear HCC HR HU HBX SN hn2; (first | simp [setW, setL, World.setCell_alloc_at, World.setCell_alloc_past, World.size_alloc, hgl7, hgl8] at HSN | simp [setW, setL, World.setCell_alloc_at, World.setCell_alloc_past, World.size_alloc, hgl7] at HSN | simp [setW, setL, World.setCell_alloc_at, World.setCell_alloc_past, World.size_alloc, hgl8] at HSN | simp [setW, setL, World.setCell_alloc_at, World.setCell_alloc_past, World.size_alloc] at HSN); refine Lib.hid ?_; with_reducible exact HSN)
   exact AllReadyS.nil
  exact AllReadyS.nil
 case rest =>
 obtain ⟨g7, g8, rfl, rfl, SN2⟩ := hcut
 have hS := SN2.out.alloc #[] 3
 have SN := Lib.hid (hS.boxNil cI 1)
 have HM := Lib.hid (show beneathI r x (n : Int) = (onPal x s.pallet).filter (benB r x (n : Int)) by rw [HM.out, HSA.out]; rfl)
 have hol := onPal_le x s.pallet
 clear hS SN2 HCC
 have k1 := SN.out.box (.tail _ (.tail _ (.tail _ (.head _))))
 have l1 := SN.out.boxlt (.tail _ (.tail _ (.tail _ (.head _))))
 have k8 := SN.out.box (.tail _ (.tail _ (.head _)))
 have l8 := SN.out.boxlt (.tail _ (.tail _ (.head _)))
 go_wp2_with fail
 refine (iOnPallet_any _ x s.pallet _ (HX.out.next SN.out.low)).mono ?_
 intro e2 w2 hm
 obtain ⟨v2, fk, rfl, hS⟩ := SN.out.gotInts hm
 obtain ⟨D, d, rfl, _⟩ := (hS.list (.head _)).form
 have SN := Lib.hid hS.rot2
 clear k1 l1 k8 l8 hS hm
 go_wp2
 go_loopw [9, 45] (fun vv i wr => ∃ (j : Nat) (fp : List Nat), j ≤ (onPal x s.pallet).length ∧ i = .int .i64 j ∧ Hid (Sit w wr [fOF cI 3 1 w.heap.size vv (((onPal x s.pallet).take j).filter (benB r x (n : Int))) fp, fOF cI 3 1 w.heap.size (.slice D (onPal x s.pallet).length d) (onPal x s.pallet) fk, fBox g7 #[.int .i64 bx.w, .int .i64 bx.d, .int .i64 bx.h, .int .i64 bx.gram] 75, fBox g8 #[.int .i64 s.pallet, .int .i64 s.x, .int .i64 s.y, .int .i64 s.z] 72, fBox (w.heap.size + 1) #[.slice (some ⟨b, off, none⟩) x.cartons.length ca, .slice (some ⟨b2, off2, none⟩) x.spots.length cb] 46, fBox w.heap.size #[.int .i64 r.way, .int .i64 r.pallet.w, .int .i64 r.pallet.d, .int .i64 r.pallet.h, .int .i64 r.pallet.gram, .int .i64 r.classes, .slice A1 r.pairs.length c1, .slice A2 r.types.length c2, .int .i64 r.master, .slice A3 r.items.length c3] 41])) (fun _ i _ => (onPal x s.pallet).length - (intOf i).toNat)
 case atStart => exact ⟨0, _, Nat.zero_le _, rfl, SN⟩
 case round =>
  clear SN
  obtain ⟨j, fp, hj, rfl, SN⟩ := hrel
  by_cases hlt : j < (onPal x s.pallet).length
  ·obtain ⟨i, hi⟩ : ∃ i, (onPal x s.pallet)[j]? = some i := ⟨_, List.getElem?_eq_getElem hlt⟩
   obtain ⟨m, rfl, hm1, hm2⟩ := onPal_in hi
   obtain ⟨gd, rfl⟩ := head_ptr (SN.out.list (.tail _ (.head _))) hi
   have hcu := (SN.out.list (.tail _ (.head _))).cells (fun z => rfl) hi 0 (.int .i64 (m : Int)) rfl
   rw [Nat.mul_one, Nat.add_zero] at hcu
   obtain ⟨Ao_, co_, rfl, _⟩ := (SN.out.list (.head _)).form
   obtain ⟨_, _, c', U', cu', heq, _, hc', HU', HC'⟩ := HPA.out.one m hm1
   cases heq
   obtain ⟨_, _, t, heq, _, ht, HT2⟩ := HPB.out.one m hm2
   cases heq
   obtain ⟨by_, hby⟩ : ∃ bx, boxR r c' = bx := ⟨_, rfl⟩
   have HBY := Lib.hid hby
   obtain ⟨f, hf⟩ : ∃ f, overB bx s by_ { t with z := s.z } = f := ⟨_, rfl⟩
   have HF := Lib.hid hf
   have HBN := Lib.hid (show benB r x (n : Int) (m : Int) = (decide (wrap64 (t.z + by_.h) ≤ s.z) && f) by unfold benB; rw [HSA.out, HBA.out, spotAt_at ht, boxAt_nat hc', hby, hf])
   have HSTP := Lib.hid (fun g (hg : benB r x (n : Int) (m : Int) = g) => filter_step (p := benB r x (n : Int)) hi hg)
   have hln := filter_take_le (l := onPal x s.pallet) (j := j) (benB r x (n : Int))
   have HCC := Lib.hid (show ∀ X : World, Below wr.heap.size wr X → (X.cell? ⟨w.heap.size, 0, none⟩ = some (.int .i64 r.way) ∧ X.cell? ⟨w.heap.size, 1, none⟩ = some (.int .i64 r.pallet.w) ∧ X.cell? ⟨w.heap.size, 2, none⟩ = some (.int .i64 r.pallet.d) ∧ X.cell? ⟨w.heap.size, 3, none⟩ = some (.int .i64 r.pallet.h) ∧ X.cell? ⟨w.heap.size, 4, none⟩ = some (.int .i64 r.pallet.gram) ∧ X.cell? ⟨w.heap.size, 5, none⟩ = some (.int .i64 r.classes) ∧ X.cell? ⟨w.heap.size, 6, none⟩ = some (.slice A1 r.pairs.length c1) ∧ X.cell? ⟨w.heap.size, 7, none⟩ = some (.slice A2 r.types.length c2) ∧ X.cell? ⟨w.heap.size, 8, none⟩ = some (.int .i64 r.master) ∧ X.cell? ⟨w.heap.size, 9, none⟩ = some (.slice A3 r.items.length c3)) ∧ (X.cell? ⟨w.heap.size + 1, 0, none⟩ = some (.slice (some ⟨b, off, none⟩) x.cartons.length ca) ∧ X.cell? ⟨w.heap.size + 1, 1, none⟩ = some (.slice (some ⟨b2, off2, none⟩) x.spots.length cb)) ∧ ((X.cell? ⟨b, off + m * 3, none⟩ = some (.int .i64 c'.type) ∧ X.cell? ⟨b, off + m * 3 + 1, none⟩ = some (.int .i64 c'.group) ∧ X.cell? ⟨b, off + m * 3 + 2, none⟩ = some (.slice U' c'.units.length cu'))) ∧ (X.cell? ⟨b2, off2 + m * 4, none⟩ = some (.int .i64 t.pallet) ∧ X.cell? ⟨b2, off2 + m * 4 + 1, none⟩ = some (.int .i64 t.x) ∧ X.cell? ⟨b2, off2 + m * 4 + 2, none⟩ = some (.int .i64 t.y) ∧ X.cell? ⟨b2, off2 + m * 4 + 3, none⟩ = some (.int .i64 t.z)) from fun X hX => by
    have hX := SN.out.next hX
    have c0 := hX.box (.tail _ (.tail _ (.tail _ (.tail _ (.tail _ (.head _))))))
    exact ⟨⟨c0 0, c0 1, c0 2, c0 3, c0 4, c0 5, c0 6, c0 7, c0 8, c0 9⟩, ⟨hX.box (.tail _ (.tail _ (.tail _ (.tail _ (.head _))))) 0, hX.box (.tail _ (.tail _ (.tail _ (.tail _ (.head _))))) 1⟩, HC'.out X hX.low, HT2.out X hX.low⟩)
   clear hi hc' ht hby hf
   go_upto_region 8 with fail
   clear hcu
   go_cut [12, 13] (fun v7 v8 X => ∃ g12 g13, v7 = .pointer (some ⟨g12, 0, none⟩) ∧ v8 = .pointer (some ⟨g13, 0, none⟩) ∧ Hid (Sit w X [fBox g12 #[.int .i64 by_.w, .int .i64 by_.d, .int .i64 by_.h, .int .i64 by_.gram] 75, fBox g13 #[.int .i64 t.pallet, .int .i64 t.x, .int .i64 t.y, .int .i64 t.z] 72, fOF cI 3 1 w.heap.size (.slice Ao_ (((onPal x s.pallet).take j).filter (benB r x (n : Int))).length co_) (((onPal x s.pallet).take j).filter (benB r x (n : Int))) fp, fOF cI 3 1 w.heap.size (.slice (some ⟨gd, 0, none⟩) (onPal x s.pallet).length d) (onPal x s.pallet) fk, fBox g7 #[.int .i64 bx.w, .int .i64 bx.d, .int .i64 bx.h, .int .i64 bx.gram] 75, fBox g8 #[.int .i64 s.pallet, .int .i64 s.x, .int .i64 s.y, .int .i64 s.z] 72, fBox (w.heap.size + 1) #[.slice (some ⟨b, off, none⟩) x.cartons.length ca, .slice (some ⟨b2, off2, none⟩) x.spots.length cb] 46, fBox w.heap.size #[.int .i64 r.way, .int .i64 r.pallet.w, .int .i64 r.pallet.d, .int .i64 r.pallet.h, .int .i64 r.pallet.gram, .int .i64 r.classes, .slice A1 r.pairs.length c1, .slice A2 r.types.length c2, .int .i64 r.master, .slice A3 r.items.length c3] 41]))
   case first =>
    clear HPA HPB HX HSTP HBN HF HM HQ HBX HBA HSA HU HC HC2 HC' HT2 hln hol hla hlb hn1 hn2 hj hlt hwq hL
    refine wp_region_S (S := (fun W' => ((W'.cell? ⟨w.heap.size, 0, none⟩ = some (.int .i64 r.way) ∧ W'.cell? ⟨w.heap.size, 1, none⟩ = some (.int .i64 r.pallet.w) ∧ W'.cell? ⟨w.heap.size, 2, none⟩ = some (.int .i64 r.pallet.d) ∧ W'.cell? ⟨w.heap.size, 3, none⟩ = some (.int .i64 r.pallet.h) ∧ W'.cell? ⟨w.heap.size, 4, none⟩ = some (.int .i64 r.pallet.gram) ∧ W'.cell? ⟨w.heap.size, 5, none⟩ = some (.int .i64 r.classes) ∧ W'.cell? ⟨w.heap.size, 6, none⟩ = some (.slice A1 r.pairs.length c1) ∧ W'.cell? ⟨w.heap.size, 7, none⟩ = some (.slice A2 r.types.length c2) ∧ W'.cell? ⟨w.heap.size, 8, none⟩ = some (.int .i64 r.master) ∧ W'.cell? ⟨w.heap.size, 9, none⟩ = some (.slice A3 r.items.length c3))) ∧ (W'.cell? ⟨w.heap.size + 1, 0, none⟩ = some (.slice (some ⟨b, off, none⟩) x.cartons.length ca) ∧ W'.cell? ⟨w.heap.size + 1, 1, none⟩ = some (.slice (some ⟨b2, off2, none⟩) x.spots.length cb)) ∧ ((W'.cell? ⟨b, off + m * 3, none⟩ = some (.int .i64 c'.type) ∧ W'.cell? ⟨b, off + m * 3 + 1, none⟩ = some (.int .i64 c'.group) ∧ W'.cell? ⟨b, off + m * 3 + 2, none⟩ = some (.slice U' c'.units.length cu'))) ∧ (W'.cell? ⟨b2, off2 + m * 4, none⟩ = some (.int .i64 t.pallet) ∧ W'.cell? ⟨b2, off2 + m * 4 + 1, none⟩ = some (.int .i64 t.x) ∧ W'.cell? ⟨b2, off2 + m * 4 + 2, none⟩ = some (.int .i64 t.y) ∧ W'.cell? ⟨b2, off2 + m * 4 + 3, none⟩ = some (.int .i64 t.z)))) (by kernel_rfl) ?_ (fun hHeld => ?_)
    ·(first | (refine HCC.out _ ?_; (repeat' (first | with_reducible exact Below.refl _ _ | with_reducible assumption | with_reducible refine Below.drew ?_ | with_reducible refine Below.alloc ?_ ?_ _ | with_reducible refine Below.setCell ?_ ?_ _ | with_reducible refine Below.setW ?_ _ _ _ ?_ | omega | (simp; done) | (simp; omega))); done) | go_keep)
    have SN := Lib.hid SN.out.drew
    refine wpS_take (i := 0) (v := ?_) rfl (by kernel_rfl) (fun _ _ _ h => h) (Or.inl ⟨by rfl, ?_⟩) (by assumption) ?_
    rotate_left
    ·(intro w9 hSw; (try dsimp only at hSw); go_simp; (try with_reducible rfl))
    (try simp only [Act.put, List.getElem_toArray, List.getElem_cons_zero, List.getElem_cons_succ, List.setIfInBounds_toArray, List.set_cons_zero, List.set_cons_succ])
    refine wpS_take (i := 1) (v := ?_) rfl (by kernel_rfl) (fun _ _ _ h => h) (Or.inl ⟨by rfl, ?_⟩) (by assumption) ?_
    rotate_left
    ·(intro w9 hSw; (try dsimp only at hSw); go_simp; (try with_reducible rfl))
    (try simp only [Act.put, List.getElem_toArray, List.getElem_cons_zero, List.getElem_cons_succ, List.setIfInBounds_toArray, List.set_cons_zero, List.set_cons_succ])
    refine wpS_take (i := 2) (v := ?_) rfl (by kernel_rfl) (fun _ _ _ h => h) (Or.inl ⟨by rfl, ?_⟩) (by assumption) ?_
    rotate_left
    ·(intro w9 hSw; (try dsimp only at hSw); go_simp; (try with_reducible rfl))
    (try simp only [Act.put, List.getElem_toArray, List.getElem_cons_zero, List.getElem_cons_succ, List.setIfInBounds_toArray, List.set_cons_zero, List.set_cons_succ])
    refine wpS_take (i := 3) (v := ?_) rfl (by kernel_rfl) (fun _ _ _ h => h) (Or.inl ⟨by rfl, ?_⟩) (by assumption) ?_
    rotate_left
    ·(intro w9 hSw; (try dsimp only at hSw); go_simp; (try with_reducible rfl))
    (try simp only [Act.put, List.getElem_toArray, List.getElem_cons_zero, List.getElem_cons_succ, List.setIfInBounds_toArray, List.set_cons_zero, List.set_cons_succ])
    refine wpS_take (i := 4) (v := ?_) rfl (by kernel_rfl) (fun _ _ _ h => h) (Or.inl ⟨by rfl, ?_⟩) (by assumption) ?_
    rotate_left
    ·(intro w9 hSw; (try dsimp only at hSw); go_simp; (try with_reducible rfl))
    (try simp only [Act.put, List.getElem_toArray, List.getElem_cons_zero, List.getElem_cons_succ, List.setIfInBounds_toArray, List.set_cons_zero, List.set_cons_succ])
    refine wpS_take (i := 5) (v := ?_) rfl (by kernel_rfl) (fun _ _ _ h => h) (Or.inl ⟨by rfl, ?_⟩) (by assumption) ?_
    rotate_left
    ·(intro w9 hSw; (try dsimp only at hSw); go_simp; (try with_reducible rfl))
    (try simp only [Act.put, List.getElem_toArray, List.getElem_cons_zero, List.getElem_cons_succ, List.setIfInBounds_toArray, List.set_cons_zero, List.set_cons_succ])
    refine wpS_take (i := 7) (v := ?_) rfl (by kernel_rfl) (fun _ _ _ h => h) (Or.inl ⟨by rfl, ?_⟩) (by assumption) ?_
    rotate_left
    ·(intro w9 hSw; (try dsimp only at hSw); go_simp; (try with_reducible rfl))
    (try simp only [Act.put, List.getElem_toArray, List.getElem_cons_zero, List.getElem_cons_succ, List.setIfInBounds_toArray, List.set_cons_zero, List.set_cons_succ])
    refine wpS_take (i := 8) (v := ?_) rfl (by kernel_rfl) (fun _ _ _ h => h) (Or.inl ⟨by rfl, ?_⟩) (by assumption) ?_
    rotate_left
    ·(intro w9 hSw; (try dsimp only at hSw); go_simp; (try with_reducible rfl))
    (try simp only [Act.put, List.getElem_toArray, List.getElem_cons_zero, List.getElem_cons_succ, List.setIfInBounds_toArray, List.set_cons_zero, List.set_cons_succ])
    refine wpS_take (i := 9) (v := ?_) rfl (by kernel_rfl) (fun _ _ _ h => h) (Or.inl ⟨by rfl, ?_⟩) (by assumption) ?_
    rotate_left
    ·(intro w9 hSw; (try dsimp only at hSw); go_simp; (try with_reducible rfl))
    (try simp only [Act.put, List.getElem_toArray, List.getElem_cons_zero, List.getElem_cons_succ, List.setIfInBounds_toArray, List.set_cons_zero, List.set_cons_succ])
    refine wpS_take (i := 10) (v := ?_) rfl (by kernel_rfl) (fun _ _ _ h => h) (Or.inl ⟨by rfl, ?_⟩) (by assumption) ?_
    rotate_left
    ·(intro w9 hSw; (try dsimp only at hSw); go_simp; (try with_reducible rfl))
    (try simp only [Act.put, List.getElem_toArray, List.getElem_cons_zero, List.getElem_cons_succ, List.setIfInBounds_toArray, List.set_cons_zero, List.set_cons_succ])
    refine wpS_take (i := 11) (v := ?_) rfl (by kernel_rfl) (fun _ _ _ h => h) (Or.inl ⟨by rfl, ?_⟩) (by assumption) ?_
    rotate_left
    ·(intro w9 hSw; (try dsimp only at hSw); go_simp; (try with_reducible rfl))
    (try simp only [Act.put, List.getElem_toArray, List.getElem_cons_zero, List.getElem_cons_succ, List.setIfInBounds_toArray, List.set_cons_zero, List.set_cons_succ])
    refine wpS_ready (rs := [6, 12, 13]) (by kernel_rfl) (by simp) ?_
    refine AllReadyS.cons rfl (by kernel_rfl) (fun K hK => ?_) ?_
    ·go_simp
     ((go_at_call 53; refine (iBoxOf_any _ _ r c' _ (HR.out.next SN.out.low) (HU'.out.next (flat_mono _) SN.out.low)).mono ?_; rintro e w2 ⟨rfl, hb2⟩; rw [HBY.out]; have hn2 := bstep (a := wr) (by (repeat' (first | with_reducible exact Below.refl _ _ | with_reducible assumption | with_reducible refine Below.drew ?_ | with_reducible refine Below.alloc ?_ ?_ _ | with_reducible refine Below.setCell ?_ ?_ _ | with_reducible refine Below.setW ?_ _ _ _ ?_ | omega | (simp; done) | (simp; omega)))) hb2; have SN := Lib.hid (SN.out.next hb2); (try (have hg7 := SN.out.on (fBox _ #[.int .i64 0, .int .i64 0, .int .i64 0, .int .i64 0] 75) (by first | exact .head _ | exact .tail _ (.head _)); have hgc7 := fun j => cell_of_row _ _ j _ _ (0, 0) hg7; have hgf7 := fun j => frozen_of_row _ _ j _ _ hg7; have hgl7 := lt_of_block hg7; (try simp only [World.size_alloc, World.size_drew] at hg7 hgc7 hgf7 hgl7))); (try (have hg8 := SN.out.on (fBox _ #[.int .i64 0, .int .i64 0, .int .i64 0, .int .i64 0] 72) (by first | exact .head _ | exact .tail _ (.head _)); have hgc8 := fun j => cell_of_row _ _ j _ _ (0, 0) hg8; have hgf8 := fun j => frozen_of_row _ _ j _ _ hg8; have hgl8 := lt_of_block hg8; (try simp only [World.size_alloc, World.size_drew] at hg8 hgc8 hgf8 hgl8)))))
     refine hK.out _ _ ?_ (fun hHeld => ?_)
     ·(first | (refine HCC.out _ ?_; (repeat' (first | with_reducible exact Below.refl _ _ | with_reducible assumption | with_reducible refine Below.drew ?_ | with_reducible refine Below.alloc ?_ ?_ _ | with_reducible refine Below.setCell ?_ ?_ _ | with_reducible refine Below.setW ?_ _ _ _ ?_ | omega | (simp; done) | (simp; omega))); done) | go_keep)
     clear hK K
     (try simp only [Act.put, List.getElem_toArray, List.getElem_cons_zero, List.getElem_cons_succ, List.setIfInBounds_toArray, List.set_cons_zero, List.set_cons_succ])
     refine wpS_ready (rs := [12, 13]) (by kernel_rfl) (by simp) ?_
     refine AllReadyS.cons rfl (by kernel_rfl) (fun K hK => ?_) ?_
     ·go_simp
      (have SN := Lib.hid (SN.out.alloc #[.int .i64 0, .int .i64 0, .int .i64 0, .int .i64 0] 75))
      refine hK.out _ _ ?_ (fun hHeld => ?_)
      ·(first | (refine HCC.out _ ?_; (repeat' (first | with_reducible exact Below.refl _ _ | with_reducible assumption | with_reducible refine Below.drew ?_ | with_reducible refine Below.alloc ?_ ?_ _ | with_reducible refine Below.setCell ?_ ?_ _ | with_reducible refine Below.setW ?_ _ _ _ ?_ | omega | (simp; done) | (simp; omega))); done) | go_keep)
      clear hK K
      (try simp only [Act.put, List.getElem_toArray, List.getElem_cons_zero, List.getElem_cons_succ, List.setIfInBounds_toArray, List.set_cons_zero, List.set_cons_succ])
      refine wpS_ready (rs := [13]) (by kernel_rfl) (by simp) ?_
      refine AllReadyS.cons rfl (by kernel_rfl) (fun K hK => ?_) AllReadyS.nil
      go_simp
      (have SN := Lib.hid (SN.out.alloc #[.int .i64 0, .int .i64 0, .int .i64 0, .int .i64 0] 72))
      refine hK.out _ _ ?_ (fun hHeld => ?_)
      ·(first | (refine HCC.out _ ?_; (repeat' (first | with_reducible exact Below.refl _ _ | with_reducible assumption | with_reducible refine Below.drew ?_ | with_reducible refine Below.alloc ?_ ?_ _ | with_reducible refine Below.setCell ?_ ?_ _ | with_reducible refine Below.setW ?_ _ _ _ ?_ | omega | (simp; done) | (simp; omega))); done) | go_keep)
      clear hK K
      (try simp only [Act.put, List.getElem_toArray, List.getElem_cons_zero, List.getElem_cons_succ, List.setIfInBounds_toArray, List.set_cons_zero, List.set_cons_succ])
      refine wpS_ready (rs := [14]) (by kernel_rfl) (by simp) ?_
      refine AllReadyS.cons rfl (by kernel_rfl) (fun K hK => ?_) AllReadyS.nil
      go_simp
      (have SN := Lib.hid (Sit.overL (t := 75) (cs := [.int .i64 0, .int .i64 0, .int .i64 0, .int .i64 0]) [.int .i64 by_.w, .int .i64 by_.d, .int .i64 by_.h, .int .i64 by_.gram] 0 (by first | exact SN.out | exact SN.out.rot2)))
      refine hK.out _ _ ?_ (fun hHeld => ?_)
      ·(first | (refine HCC.out _ ?_; (repeat' (first | with_reducible exact Below.refl _ _ | with_reducible assumption | with_reducible refine Below.drew ?_ | with_reducible refine Below.alloc ?_ ?_ _ | with_reducible refine Below.setCell ?_ ?_ _ | with_reducible refine Below.setW ?_ _ _ _ ?_ | omega | (simp; done) | (simp; omega))); done) | go_keep)
      clear hK K
      (try simp only [Act.put, List.getElem_toArray, List.getElem_cons_zero, List.getElem_cons_succ, List.setIfInBounds_toArray, List.set_cons_zero, List.set_cons_succ])
      refine wpS_ready (rs := [15]) (by kernel_rfl) (by simp) ?_
      refine AllReadyS.last rfl (by kernel_rfl) (fun K hK => ?_)
      go_simp
      (have SN := Lib.hid (Sit.overL (t := 72) (cs := [.int .i64 0, .int .i64 0, .int .i64 0, .int .i64 0]) [.int .i64 t.pallet, .int .i64 t.x, .int .i64 t.y, .int .i64 t.z] 0 (by first | exact SN.out | exact SN.out.rot2)))
      refine hK.out _ _ ?_
      clear hK K
      (try simp only [Act.put, List.getElem_toArray, List.getElem_cons_zero, List.getElem_cons_succ, List.setIfInBounds_toArray, List.set_cons_zero, List.set_cons_succ])
      refine wpS_done (by kernel_rfl) ?_ _
      go_wp2_with fail
      go_meet
      refine ⟨_, _, rfl, rfl, ?_⟩
      (have HSN := SN.out.rot2; clear HCC HR HU' HBY SN hn2; (first | simp [setW, setL, World.setCell_alloc_at, World.setCell_alloc_past, World.size_alloc, hgl7, hgl8] at HSN | simp [setW, setL, World.setCell_alloc_at, World.setCell_alloc_past, World.size_alloc, hgl7] at HSN | simp [setW, setL, World.setCell_alloc_at, World.setCell_alloc_past, World.size_alloc, hgl8] at HSN | simp [setW, setL, World.setCell_alloc_at, World.setCell_alloc_past, World.size_alloc] at HSN); refine Lib.hid ?_; with_reducible exact HSN)
     refine AllReadyS.cons rfl (by kernel_rfl) (fun K hK => ?_) ?_
     ·go_simp
      (have SN := Lib.hid (SN.out.alloc #[.int .i64 0, .int .i64 0, .int .i64 0, .int .i64 0] 72))
      refine hK.out _ _ ?_ (fun hHeld => ?_)
      ·(first | (refine HCC.out _ ?_; (repeat' (first | with_reducible exact Below.refl _ _ | with_reducible assumption | with_reducible refine Below.drew ?_ | with_reducible refine Below.alloc ?_ ?_ _ | with_reducible refine Below.setCell ?_ ?_ _ | with_reducible refine Below.setW ?_ _ _ _ ?_ | omega | (simp; done) | (simp; omega))); done) | go_keep)
      clear hK K
      (try simp only [Act.put, List.getElem_toArray, List.getElem_cons_zero, List.getElem_cons_succ, List.setIfInBounds_toArray, List.set_cons_zero, List.set_cons_succ])
      refine wpS_ready (rs := [12]) (by kernel_rfl) (by simp) ?_
      refine AllReadyS.cons rfl (by kernel_rfl) (fun K hK => ?_) AllReadyS.nil
      go_simp
      (have SN := Lib.hid (SN.out.alloc #[.int .i64 0, .int .i64 0, .int .i64 0, .int .i64 0] 75))
      refine hK.out _ _ ?_ (fun hHeld => ?_)
      ·(first | (refine HCC.out _ ?_; (repeat' (first | with_reducible exact Below.refl _ _ | with_reducible assumption | with_reducible refine Below.drew ?_ | with_reducible refine Below.alloc ?_ ?_ _ | with_reducible refine Below.setCell ?_ ?_ _ | with_reducible refine Below.setW ?_ _ _ _ ?_ | omega | (simp; done) | (simp; omega))); done) | go_keep)
      clear hK K
      (try simp only [Act.put, List.getElem_toArray, List.getElem_cons_zero, List.getElem_cons_succ, List.setIfInBounds_toArray, List.set_cons_zero, List.set_cons_succ])
      refine wpS_ready (rs := [14]) (by kernel_rfl) (by simp) ?_
      refine AllReadyS.cons rfl (by kernel_rfl) (fun K hK => ?_) AllReadyS.nil
      go_simp
      (have SN := Lib.hid (Sit.overL (t := 75) (cs := [.int .i64 0, .int .i64 0, .int .i64 0, .int .i64 0]) [.int .i64 by_.w, .int .i64 by_.d, .int .i64 by_.h, .int .i64 by_.gram] 0 (by first | exact SN.out | exact SN.out.rot2)))
      refine hK.out _ _ ?_ (fun hHeld => ?_)
      ·(first | (refine HCC.out _ ?_; (repeat' (first | with_reducible exact Below.refl _ _ | with_reducible assumption | with_reducible refine Below.drew ?_ | with_reducible refine Below.alloc ?_ ?_ _ | with_reducible refine Below.setCell ?_ ?_ _ | with_reducible refine Below.setW ?_ _ _ _ ?_ | omega | (simp; done) | (simp; omega))); done) | go_keep)
      clear hK K
      (try simp only [Act.put, List.getElem_toArray, List.getElem_cons_zero, List.getElem_cons_succ, List.setIfInBounds_toArray, List.set_cons_zero, List.set_cons_succ])
      refine wpS_ready (rs := [15]) (by kernel_rfl) (by simp) ?_
      refine AllReadyS.last rfl (by kernel_rfl) (fun K hK => ?_)
      go_simp
      (have SN := Lib.hid (Sit.overL (t := 72) (cs := [.int .i64 0, .int .i64 0, .int .i64 0, .int .i64 0]) [.int .i64 t.pallet, .int .i64 t.x, .int .i64 t.y, .int .i64 t.z] 0 (by first | exact SN.out | exact SN.out.rot2)))
      refine hK.out _ _ ?_
      clear hK K
      (try simp only [Act.put, List.getElem_toArray, List.getElem_cons_zero, List.getElem_cons_succ, List.setIfInBounds_toArray, List.set_cons_zero, List.set_cons_succ])
      refine wpS_done (by kernel_rfl) ?_ _
      go_wp2_with fail
      go_meet
      refine ⟨_, _, rfl, rfl, ?_⟩
      (have HSN := SN.out.rot2; clear HCC HR HU' HBY SN hn2; (first | simp [setW, setL, World.setCell_alloc_at, World.setCell_alloc_past, World.size_alloc, hgl7, hgl8] at HSN | simp [setW, setL, World.setCell_alloc_at, World.setCell_alloc_past, World.size_alloc, hgl7] at HSN | simp [setW, setL, World.setCell_alloc_at, World.setCell_alloc_past, World.size_alloc, hgl8] at HSN | simp [setW, setL, World.setCell_alloc_at, World.setCell_alloc_past, World.size_alloc] at HSN); refine Lib.hid ?_; with_reducible exact HSN)
     exact AllReadyS.nil
    refine AllReadyS.cons rfl (by kernel_rfl) (fun K hK => ?_) ?_
    ·go_simp
     (have SN := Lib.hid (SN.out.alloc #[.int .i64 0, .int .i64 0, .int .i64 0, .int .i64 0] 75))
     refine hK.out _ _ ?_ (fun hHeld => ?_)
     ·(first | (refine HCC.out _ ?_; (repeat' (first | with_reducible exact Below.refl _ _ | with_reducible assumption | with_reducible refine Below.drew ?_ | with_reducible refine Below.alloc ?_ ?_ _ | with_reducible refine Below.setCell ?_ ?_ _ | with_reducible refine Below.setW ?_ _ _ _ ?_ | omega | (simp; done) | (simp; omega))); done) | go_keep)
     clear hK K
     (try simp only [Act.put, List.getElem_toArray, List.getElem_cons_zero, List.getElem_cons_succ, List.setIfInBounds_toArray, List.set_cons_zero, List.set_cons_succ])
     refine wpS_ready (rs := [6, 13]) (by kernel_rfl) (by simp) ?_
     refine AllReadyS.cons rfl (by kernel_rfl) (fun K hK => ?_) ?_
     ·go_simp
      ((go_at_call 53; refine (iBoxOf_any _ _ r c' _ (HR.out.next SN.out.low) (HU'.out.next (flat_mono _) SN.out.low)).mono ?_; rintro e w2 ⟨rfl, hb2⟩; rw [HBY.out]; have hn2 := bstep (a := wr) (by (repeat' (first | with_reducible exact Below.refl _ _ | with_reducible assumption | with_reducible refine Below.drew ?_ | with_reducible refine Below.alloc ?_ ?_ _ | with_reducible refine Below.setCell ?_ ?_ _ | with_reducible refine Below.setW ?_ _ _ _ ?_ | omega | (simp; done) | (simp; omega)))) hb2; have SN := Lib.hid (SN.out.next hb2); (try (have hg7 := SN.out.on (fBox _ #[.int .i64 0, .int .i64 0, .int .i64 0, .int .i64 0] 75) (by first | exact .head _ | exact .tail _ (.head _)); have hgc7 := fun j => cell_of_row _ _ j _ _ (0, 0) hg7; have hgf7 := fun j => frozen_of_row _ _ j _ _ hg7; have hgl7 := lt_of_block hg7; (try simp only [World.size_alloc, World.size_drew] at hg7 hgc7 hgf7 hgl7))); (try (have hg8 := SN.out.on (fBox _ #[.int .i64 0, .int .i64 0, .int .i64 0, .int .i64 0] 72) (by first | exact .head _ | exact .tail _ (.head _)); have hgc8 := fun j => cell_of_row _ _ j _ _ (0, 0) hg8; have hgf8 := fun j => frozen_of_row _ _ j _ _ hg8; have hgl8 := lt_of_block hg8; (try simp only [World.size_alloc, World.size_drew] at hg8 hgc8 hgf8 hgl8)))))
      refine hK.out _ _ ?_ (fun hHeld => ?_)
      ·(first | (refine HCC.out _ ?_; (repeat' (first | with_reducible exact Below.refl _ _ | with_reducible assumption | with_reducible refine Below.drew ?_ | with_reducible refine Below.alloc ?_ ?_ _ | with_reducible refine Below.setCell ?_ ?_ _ | with_reducible refine Below.setW ?_ _ _ _ ?_ | omega | (simp; done) | (simp; omega))); done) | go_keep)
      clear hK K
      (try simp only [Act.put, List.getElem_toArray, List.getElem_cons_zero, List.getElem_cons_succ, List.setIfInBounds_toArray, List.set_cons_zero, List.set_cons_succ])
      refine wpS_ready (rs := [13]) (by kernel_rfl) (by simp) ?_
      refine AllReadyS.cons rfl (by kernel_rfl) (fun K hK => ?_) AllReadyS.nil
      go_simp
      (have SN := Lib.hid (SN.out.alloc #[.int .i64 0, .int .i64 0, .int .i64 0, .int .i64 0] 72))
      refine hK.out _ _ ?_ (fun hHeld => ?_)
      ·(first | (refine HCC.out _ ?_; (repeat' (first | with_reducible exact Below.refl _ _ | with_reducible assumption | with_reducible refine Below.drew ?_ | with_reducible refine Below.alloc ?_ ?_ _ | with_reducible refine Below.setCell ?_ ?_ _ | with_reducible refine Below.setW ?_ _ _ _ ?_ | omega | (simp; done) | (simp; omega))); done) | go_keep)
      clear hK K
      (try simp only [Act.put, List.getElem_toArray, List.getElem_cons_zero, List.getElem_cons_succ, List.setIfInBounds_toArray, List.set_cons_zero, List.set_cons_succ])
      refine wpS_ready (rs := [14]) (by kernel_rfl) (by simp) ?_
      refine AllReadyS.cons rfl (by kernel_rfl) (fun K hK => ?_) AllReadyS.nil
      go_simp
      (have SN := Lib.hid (Sit.overL (t := 75) (cs := [.int .i64 0, .int .i64 0, .int .i64 0, .int .i64 0]) [.int .i64 by_.w, .int .i64 by_.d, .int .i64 by_.h, .int .i64 by_.gram] 0 (by first | exact SN.out | exact SN.out.rot2)))
      refine hK.out _ _ ?_ (fun hHeld => ?_)
      ·(first | (refine HCC.out _ ?_; (repeat' (first | with_reducible exact Below.refl _ _ | with_reducible assumption | with_reducible refine Below.drew ?_ | with_reducible refine Below.alloc ?_ ?_ _ | with_reducible refine Below.setCell ?_ ?_ _ | with_reducible refine Below.setW ?_ _ _ _ ?_ | omega | (simp; done) | (simp; omega))); done) | go_keep)
      clear hK K
      (try simp only [Act.put, List.getElem_toArray, List.getElem_cons_zero, List.getElem_cons_succ, List.setIfInBounds_toArray, List.set_cons_zero, List.set_cons_succ])
      refine wpS_ready (rs := [15]) (by kernel_rfl) (by simp) ?_
      refine AllReadyS.last rfl (by kernel_rfl) (fun K hK => ?_)
      go_simp
      (have SN := Lib.hid (Sit.overL (t := 72) (cs := [.int .i64 0, .int .i64 0, .int .i64 0, .int .i64 0]) [.int .i64 t.pallet, .int .i64 t.x, .int .i64 t.y, .int .i64 t.z] 0 (by first | exact SN.out | exact SN.out.rot2)))
      refine hK.out _ _ ?_
      clear hK K
      (try simp only [Act.put, List.getElem_toArray, List.getElem_cons_zero, List.getElem_cons_succ, List.setIfInBounds_toArray, List.set_cons_zero, List.set_cons_succ])
      refine wpS_done (by kernel_rfl) ?_ _
      go_wp2_with fail
      go_meet
      refine ⟨_, _, rfl, rfl, ?_⟩
      (have HSN := SN.out.rot2; clear HCC HR HU' HBY SN hn2; (first | simp [setW, setL, World.setCell_alloc_at, World.setCell_alloc_past, World.size_alloc, hgl7, hgl8] at HSN | simp [setW, setL, World.setCell_alloc_at, World.setCell_alloc_past, World.size_alloc, hgl7] at HSN | simp [setW, setL, World.setCell_alloc_at, World.setCell_alloc_past, World.size_alloc, hgl8] at HSN | simp [setW, setL, World.setCell_alloc_at, World.setCell_alloc_past, World.size_alloc] at HSN); refine Lib.hid ?_; with_reducible exact HSN)
     refine AllReadyS.cons rfl (by kernel_rfl) (fun K hK => ?_) ?_
     ·go_simp
      (have SN := Lib.hid (SN.out.alloc #[.int .i64 0, .int .i64 0, .int .i64 0, .int .i64 0] 72))
      refine hK.out _ _ ?_ (fun hHeld => ?_)
      ·(first | (refine HCC.out _ ?_; (repeat' (first | with_reducible exact Below.refl _ _ | with_reducible assumption | with_reducible refine Below.drew ?_ | with_reducible refine Below.alloc ?_ ?_ _ | with_reducible refine Below.setCell ?_ ?_ _ | with_reducible refine Below.setW ?_ _ _ _ ?_ | omega | (simp; done) | (simp; omega))); done) | go_keep)
      clear hK K
      (try simp only [Act.put, List.getElem_toArray, List.getElem_cons_zero, List.getElem_cons_succ, List.setIfInBounds_toArray, List.set_cons_zero, List.set_cons_succ])
      refine wpS_ready (rs := [6]) (by kernel_rfl) (by simp) ?_
      refine AllReadyS.cons rfl (by kernel_rfl) (fun K hK => ?_) AllReadyS.nil
      go_simp
      ((go_at_call 53; refine (iBoxOf_any _ _ r c' _ (HR.out.next SN.out.low) (HU'.out.next (flat_mono _) SN.out.low)).mono ?_; rintro e w2 ⟨rfl, hb2⟩; rw [HBY.out]; have hn2 := bstep (a := wr) (by (repeat' (first | with_reducible exact Below.refl _ _ | with_reducible assumption | with_reducible refine Below.drew ?_ | with_reducible refine Below.alloc ?_ ?_ _ | with_reducible refine Below.setCell ?_ ?_ _ | with_reducible refine Below.setW ?_ _ _ _ ?_ | omega | (simp; done) | (simp; omega)))) hb2; have SN := Lib.hid (SN.out.next hb2); (try (have hg7 := SN.out.on (fBox _ #[.int .i64 0, .int .i64 0, .int .i64 0, .int .i64 0] 75) (by first | exact .head _ | exact .tail _ (.head _)); have hgc7 := fun j => cell_of_row _ _ j _ _ (0, 0) hg7; have hgf7 := fun j => frozen_of_row _ _ j _ _ hg7; have hgl7 := lt_of_block hg7; (try simp only [World.size_alloc, World.size_drew] at hg7 hgc7 hgf7 hgl7))); (try (have hg8 := SN.out.on (fBox _ #[.int .i64 0, .int .i64 0, .int .i64 0, .int .i64 0] 72) (by first | exact .head _ | exact .tail _ (.head _)); have hgc8 := fun j => cell_of_row _ _ j _ _ (0, 0) hg8; have hgf8 := fun j => frozen_of_row _ _ j _ _ hg8; have hgl8 := lt_of_block hg8; (try simp only [World.size_alloc, World.size_drew] at hg8 hgc8 hgf8 hgl8)))))
      refine hK.out _ _ ?_ (fun hHeld => ?_)
      ·(first | (refine HCC.out _ ?_; (repeat' (first | with_reducible exact Below.refl _ _ | with_reducible assumption | with_reducible refine Below.drew ?_ | with_reducible refine Below.alloc ?_ ?_ _ | with_reducible refine Below.setCell ?_ ?_ _ | with_reducible refine Below.setW ?_ _ _ _ ?_ | omega | (simp; done) | (simp; omega))); done) | go_keep)
      clear hK K
      (try simp only [Act.put, List.getElem_toArray, List.getElem_cons_zero, List.getElem_cons_succ, List.setIfInBounds_toArray, List.set_cons_zero, List.set_cons_succ])
      refine wpS_ready (rs := [14]) (by kernel_rfl) (by simp) ?_
      refine AllReadyS.cons rfl (by kernel_rfl) (fun K hK => ?_) AllReadyS.nil
      go_simp
      (have SN := Lib.hid (Sit.overL (t := 75) (cs := [.int .i64 0, .int .i64 0, .int .i64 0, .int .i64 0]) [.int .i64 by_.w, .int .i64 by_.d, .int .i64 by_.h, .int .i64 by_.gram] 0 (by first | exact SN.out | exact SN.out.rot2)))
      refine hK.out _ _ ?_ (fun hHeld => ?_)
      ·(first | (refine HCC.out _ ?_; (repeat' (first | with_reducible exact Below.refl _ _ | with_reducible assumption | with_reducible refine Below.drew ?_ | with_reducible refine Below.alloc ?_ ?_ _ | with_reducible refine Below.setCell ?_ ?_ _ | with_reducible refine Below.setW ?_ _ _ _ ?_ | omega | (simp; done) | (simp; omega))); done) | go_keep)
      clear hK K
      (try simp only [Act.put, List.getElem_toArray, List.getElem_cons_zero, List.getElem_cons_succ, List.setIfInBounds_toArray, List.set_cons_zero, List.set_cons_succ])
      refine wpS_ready (rs := [15]) (by kernel_rfl) (by simp) ?_
      refine AllReadyS.last rfl (by kernel_rfl) (fun K hK => ?_)
      go_simp
      (have SN := Lib.hid (Sit.overL (t := 72) (cs := [.int .i64 0, .int .i64 0, .int .i64 0, .int .i64 0]) [.int .i64 t.pallet, .int .i64 t.x, .int .i64 t.y, .int .i64 t.z] 0 (by first | exact SN.out | exact SN.out.rot2)))
      refine hK.out _ _ ?_
      clear hK K
      (try simp only [Act.put, List.getElem_toArray, List.getElem_cons_zero, List.getElem_cons_succ, List.setIfInBounds_toArray, List.set_cons_zero, List.set_cons_succ])
      refine wpS_done (by kernel_rfl) ?_ _
      go_wp2_with fail
      go_meet
      refine ⟨_, _, rfl, rfl, ?_⟩
      (have HSN := SN.out.rot2; clear HCC HR HU' HBY SN hn2; (first | simp [setW, setL, World.setCell_alloc_at, World.setCell_alloc_past, World.size_alloc, hgl7, hgl8] at HSN | simp [setW, setL, World.setCell_alloc_at, World.setCell_alloc_past, World.size_alloc, hgl7] at HSN | simp [setW, setL, World.setCell_alloc_at, World.setCell_alloc_past, World.size_alloc, hgl8] at HSN | simp [setW, setL, World.setCell_alloc_at, World.setCell_alloc_past, World.size_alloc] at HSN); refine Lib.hid ?_; with_reducible exact HSN)
     exact AllReadyS.nil
    refine AllReadyS.cons rfl (by kernel_rfl) (fun K hK => ?_) ?_
    ·go_simp
     (have SN := Lib.hid (SN.out.alloc #[.int .i64 0, .int .i64 0, .int .i64 0, .int .i64 0] 72))
     refine hK.out _ _ ?_ (fun hHeld => ?_)
     ·(first | (refine HCC.out _ ?_; (repeat' (first | with_reducible exact Below.refl _ _ | with_reducible assumption | with_reducible refine Below.drew ?_ | with_reducible refine Below.alloc ?_ ?_ _ | with_reducible refine Below.setCell ?_ ?_ _ | with_reducible refine Below.setW ?_ _ _ _ ?_ | omega | (simp; done) | (simp; omega))); done) | go_keep)
     clear hK K
     (try simp only [Act.put, List.getElem_toArray, List.getElem_cons_zero, List.getElem_cons_succ, List.setIfInBounds_toArray, List.set_cons_zero, List.set_cons_succ])
     refine wpS_ready (rs := [6, 12]) (by kernel_rfl) (by simp) ?_
     refine AllReadyS.cons rfl (by kernel_rfl) (fun K hK => ?_) ?_
     ·go_simp
      ((go_at_call 53; refine (iBoxOf_any _ _ r c' _ (HR.out.next SN.out.low) (HU'.out.next (flat_mono _) SN.out.low)).mono ?_; rintro e w2 ⟨rfl, hb2⟩; rw [HBY.out]; have hn2 := bstep (a := wr) (by (repeat' (first | with_reducible exact Below.refl _ _ | with_reducible assumption | with_reducible refine Below.drew ?_ | with_reducible refine Below.alloc ?_ ?_ _ | with_reducible refine Below.setCell ?_ ?_ _ | with_reducible refine Below.setW ?_ _ _ _ ?_ | omega | (simp; done) | (simp; omega)))) hb2; have SN := Lib.hid (SN.out.next hb2); (try (have hg7 := SN.out.on (fBox _ #[.int .i64 0, .int .i64 0, .int .i64 0, .int .i64 0] 75) (by first | exact .head _ | exact .tail _ (.head _)); have hgc7 := fun j => cell_of_row _ _ j _ _ (0, 0) hg7; have hgf7 := fun j => frozen_of_row _ _ j _ _ hg7; have hgl7 := lt_of_block hg7; (try simp only [World.size_alloc, World.size_drew] at hg7 hgc7 hgf7 hgl7))); (try (have hg8 := SN.out.on (fBox _ #[.int .i64 0, .int .i64 0, .int .i64 0, .int .i64 0] 72) (by first | exact .head _ | exact .tail _ (.head _)); have hgc8 := fun j => cell_of_row _ _ j _ _ (0, 0) hg8; have hgf8 := fun j => frozen_of_row _ _ j _ _ hg8; have hgl8 := lt_of_block hg8; (try simp only [World.size_alloc, World.size_drew] at hg8 hgc8 hgf8 hgl8)))))
      refine hK.out _ _ ?_ (fun hHeld => ?_)
      ·(first | (refine HCC.out _ ?_; (repeat' (first | with_reducible exact Below.refl _ _ | with_reducible assumption | with_reducible refine Below.drew ?_ | with_reducible refine Below.alloc ?_ ?_ _ | with_reducible refine Below.setCell ?_ ?_ _ | with_reducible refine Below.setW ?_ _ _ _ ?_ | omega | (simp; done) | (simp; omega))); done) | go_keep)
      clear hK K
      (try simp only [Act.put, List.getElem_toArray, List.getElem_cons_zero, List.getElem_cons_succ, List.setIfInBounds_toArray, List.set_cons_zero, List.set_cons_succ])
      refine wpS_ready (rs := [12]) (by kernel_rfl) (by simp) ?_
      refine AllReadyS.cons rfl (by kernel_rfl) (fun K hK => ?_) AllReadyS.nil
      go_simp
      (have SN := Lib.hid (SN.out.alloc #[.int .i64 0, .int .i64 0, .int .i64 0, .int .i64 0] 75))
      refine hK.out _ _ ?_ (fun hHeld => ?_)
      ·(first | (refine HCC.out _ ?_; (repeat' (first | with_reducible exact Below.refl _ _ | with_reducible assumption | with_reducible refine Below.drew ?_ | with_reducible refine Below.alloc ?_ ?_ _ | with_reducible refine Below.setCell ?_ ?_ _ | with_reducible refine Below.setW ?_ _ _ _ ?_ | omega | (simp; done) | (simp; omega))); done) | go_keep)
      clear hK K
      (try simp only [Act.put, List.getElem_toArray, List.getElem_cons_zero, List.getElem_cons_succ, List.setIfInBounds_toArray, List.set_cons_zero, List.set_cons_succ])
      refine wpS_ready (rs := [14]) (by kernel_rfl) (by simp) ?_
      refine AllReadyS.cons rfl (by kernel_rfl) (fun K hK => ?_) AllReadyS.nil
      go_simp
      (have SN := Lib.hid (Sit.overL (t := 75) (cs := [.int .i64 0, .int .i64 0, .int .i64 0, .int .i64 0]) [.int .i64 by_.w, .int .i64 by_.d, .int .i64 by_.h, .int .i64 by_.gram] 0 (by first | exact SN.out | exact SN.out.rot2)))
      refine hK.out _ _ ?_ (fun hHeld => ?_)
      ·(first | (refine HCC.out _ ?_; (repeat' (first | with_reducible exact Below.refl _ _ | with_reducible assumption | with_reducible refine Below.drew ?_ | with_reducible refine Below.alloc ?_ ?_ _ | with_reducible refine Below.setCell ?_ ?_ _ | with_reducible refine Below.setW ?_ _ _ _ ?_ | omega | (simp; done) | (simp; omega))); done) | go_keep)
      clear hK K
      (try simp only [Act.put, List.getElem_toArray, List.getElem_cons_zero, List.getElem_cons_succ, List.setIfInBounds_toArray, List.set_cons_zero, List.set_cons_succ])
      refine wpS_ready (rs := [15]) (by kernel_rfl) (by simp) ?_
      refine AllReadyS.last rfl (by kernel_rfl) (fun K hK => ?_)
      go_simp
      (have SN := Lib.hid (Sit.overL (t := 72) (cs := [.int .i64 0, .int .i64 0, .int .i64 0, .int .i64 0]) [.int .i64 t.pallet, .int .i64 t.x, .int .i64 t.y, .int .i64 t.z] 0 (by first | exact SN.out | exact SN.out.rot2)))
      refine hK.out _ _ ?_
      clear hK K
      (try simp only [Act.put, List.getElem_toArray, List.getElem_cons_zero, List.getElem_cons_succ, List.setIfInBounds_toArray, List.set_cons_zero, List.set_cons_succ])
      refine wpS_done (by kernel_rfl) ?_ _
      go_wp2_with fail
      go_meet
      refine ⟨_, _, rfl, rfl, ?_⟩
      (have HSN := SN.out.rot2; clear HCC HR HU' HBY SN hn2; (first | simp [setW, setL, World.setCell_alloc_at, World.setCell_alloc_past, World.size_alloc, hgl7, hgl8] at HSN | simp [setW, setL, World.setCell_alloc_at, World.setCell_alloc_past, World.size_alloc, hgl7] at HSN | simp [setW, setL, World.setCell_alloc_at, World.setCell_alloc_past, World.size_alloc, hgl8] at HSN | simp [setW, setL, World.setCell_alloc_at, World.setCell_alloc_past, World.size_alloc] at HSN); refine Lib.hid ?_; with_reducible exact HSN)
     refine AllReadyS.cons rfl (by kernel_rfl) (fun K hK => ?_) ?_
     ·go_simp
      (have SN := Lib.hid (SN.out.alloc #[.int .i64 0, .int .i64 0, .int .i64 0, .int .i64 0] 75))
      refine hK.out _ _ ?_ (fun hHeld => ?_)
      ·(first | (refine HCC.out _ ?_; (repeat' (first | with_reducible exact Below.refl _ _ | with_reducible assumption | with_reducible refine Below.drew ?_ | with_reducible refine Below.alloc ?_ ?_ _ | with_reducible refine Below.setCell ?_ ?_ _ | with_reducible refine Below.setW ?_ _ _ _ ?_ | omega | (simp; done) | (simp; omega))); done) | go_keep)
      clear hK K
      (try simp only [Act.put, List.getElem_toArray, List.getElem_cons_zero, List.getElem_cons_succ, List.setIfInBounds_toArray, List.set_cons_zero, List.set_cons_succ])
      refine wpS_ready (rs := [6]) (by kernel_rfl) (by simp) ?_
      refine AllReadyS.cons rfl (by kernel_rfl) (fun K hK => ?_) AllReadyS.nil
      go_simp
      ((go_at_call 53; refine (iBoxOf_any _ _ r c' _ (HR.out.next SN.out.low) (HU'.out.next (flat_mono _) SN.out.low)).mono ?_; rintro e w2 ⟨rfl, hb2⟩; rw [HBY.out]; have hn2 := bstep (a := wr) (by (repeat' (first | with_reducible exact Below.refl _ _ | with_reducible assumption | with_reducible refine Below.drew ?_ | with_reducible refine Below.alloc ?_ ?_ _ | with_reducible refine Below.setCell ?_ ?_ _ | with_reducible refine Below.setW ?_ _ _ _ ?_ | omega | (simp; done) | (simp; omega)))) hb2; have SN := Lib.hid (SN.out.next hb2); (try (have hg7 := SN.out.on (fBox _ #[.int .i64 0, .int .i64 0, .int .i64 0, .int .i64 0] 75) (by first | exact .head _ | exact .tail _ (.head _)); have hgc7 := fun j => cell_of_row _ _ j _ _ (0, 0) hg7; have hgf7 := fun j => frozen_of_row _ _ j _ _ hg7; have hgl7 := lt_of_block hg7; (try simp only [World.size_alloc, World.size_drew] at hg7 hgc7 hgf7 hgl7))); (try (have hg8 := SN.out.on (fBox _ #[.int .i64 0, .int .i64 0, .int .i64 0, .int .i64 0] 72) (by first | exact .head _ | exact .tail _ (.head _)); have hgc8 := fun j => cell_of_row _ _ j _ _ (0, 0) hg8; have hgf8 := fun j => frozen_of_row _ _ j _ _ hg8; have hgl8 := lt_of_block hg8; (try simp only [World.size_alloc, World.size_drew] at hg8 hgc8 hgf8 hgl8)))))
      refine hK.out _ _ ?_ (fun hHeld => ?_)
      ·(first | (refine HCC.out _ ?_; (repeat' (first | with_reducible exact Below.refl _ _ | with_reducible assumption | with_reducible refine Below.drew ?_ | with_reducible refine Below.alloc ?_ ?_ _ | with_reducible refine Below.setCell ?_ ?_ _ | with_reducible refine Below.setW ?_ _ _ _ ?_ | omega | (simp; done) | (simp; omega))); done) | go_keep)
      clear hK K
      (try simp only [Act.put, List.getElem_toArray, List.getElem_cons_zero, List.getElem_cons_succ, List.setIfInBounds_toArray, List.set_cons_zero, List.set_cons_succ])
      refine wpS_ready (rs := [14]) (by kernel_rfl) (by simp) ?_
      refine AllReadyS.cons rfl (by kernel_rfl) (fun K hK => ?_) AllReadyS.nil
      go_simp
      (have SN := Lib.hid (Sit.overL (t := 75) (cs := [.int .i64 0, .int .i64 0, .int .i64 0, .int .i64 0]) [.int .i64 by_.w, .int .i64 by_.d, .int .i64 by_.h, .int .i64 by_.gram] 0 (by first | exact SN.out | exact SN.out.rot2)))
      refine hK.out _ _ ?_ (fun hHeld => ?_)
      ·(first | (refine HCC.out _ ?_; (repeat' (first | with_reducible exact Below.refl _ _ | with_reducible assumption | with_reducible refine Below.drew ?_ | with_reducible refine Below.alloc ?_ ?_ _ | with_reducible refine Below.setCell ?_ ?_ _ | with_reducible refine Below.setW ?_ _ _ _ ?_ | omega | (simp; done) | (simp; omega))); done) | go_keep)
      clear hK K
      (try simp only [Act.put, List.getElem_toArray, List.getElem_cons_zero, List.getElem_cons_succ, List.setIfInBounds_toArray, List.set_cons_zero, List.set_cons_succ])
      refine wpS_ready (rs := [15]) (by kernel_rfl) (by simp) ?_
      refine AllReadyS.last rfl (by kernel_rfl) (fun K hK => ?_)
      go_simp
      (have SN := Lib.hid (Sit.overL (t := 72) (cs := [.int .i64 0, .int .i64 0, .int .i64 0, .int .i64 0]) [.int .i64 t.pallet, .int .i64 t.x, .int .i64 t.y, .int .i64 t.z] 0 (by first | exact SN.out | exact SN.out.rot2)))
      refine hK.out _ _ ?_
      clear hK K
      (try simp only [Act.put, List.getElem_toArray, List.getElem_cons_zero, List.getElem_cons_succ, List.setIfInBounds_toArray, List.set_cons_zero, List.set_cons_succ])
      refine wpS_done (by kernel_rfl) ?_ _
      go_wp2_with fail
      go_meet
      refine ⟨_, _, rfl, rfl, ?_⟩
      (have HSN := SN.out.rot2; clear HCC HR HU' HBY SN hn2; (first | simp [setW, setL, World.setCell_alloc_at, World.setCell_alloc_past, World.size_alloc, hgl7, hgl8] at HSN | simp [setW, setL, World.setCell_alloc_at, World.setCell_alloc_past, World.size_alloc, hgl7] at HSN | simp [setW, setL, World.setCell_alloc_at, World.setCell_alloc_past, World.size_alloc, hgl8] at HSN | simp [setW, setL, World.setCell_alloc_at, World.setCell_alloc_past, World.size_alloc] at HSN); refine Lib.hid ?_; with_reducible exact HSN)
     exact AllReadyS.nil
    exact AllReadyS.nil
   case rest =>
    obtain ⟨g12, g13, rfl, rfl, SN2⟩ := hcut
    have SN := SN2
    clear SN2 HCC
    have k12 := SN.out.box (.head _)
    have l12 := SN.out.boxlt (.head _)
    have k13 := SN.out.box (.tail _ (.head _))
    have l13 := SN.out.boxlt (.tail _ (.head _))
    have hg13 := SN.out.on (fBox g13 #[.int .i64 t.pallet, .int .i64 t.x, .int .i64 t.y, .int .i64 t.z] 72) (.tail _ (.head _))
    have hf13 := fun j => frozen_of_row _ _ j _ _ hg13
    clear hg13
    have k8 := SN.out.box (.tail _ (.tail _ (.tail _ (.tail _ (.tail _ (.head _))))))
    have l8 := SN.out.boxlt (.tail _ (.tail _ (.tail _ (.tail _ (.tail _ (.head _))))))
    by_cases hgt : s.z < IntKind.i64.wrap (t.z + by_.h)
    ·have HST := Lib.hid (HSTP.out false (by rw [HBN.out, decide_eq_false (by rw [← wrapE]; omega)]; rfl))
     have hd : decide (s.z < IntKind.i64.wrap (t.z + by_.h)) = true := decide_eq_true hgt
     have hd2 : decide (s.z < wrap64 (t.z + by_.h)) = true := by rw [← wrapE]; exact hd
     clear HSTP HBN
     go_wp2
     go_roundw
     case rel => exact ⟨j + 1, _, hlt, by go_num, by rw [HST.out]; simpa using Lib.hid SN.out.drop.drop⟩
     case measure => simp [intOf] <;> omega
    ·have HST := Lib.hid (HSTP.out f (by rw [HBN.out, decide_eq_true (by rw [← wrapE]; omega)]; rfl))
     have hd : decide (s.z < IntKind.i64.wrap (t.z + by_.h)) = false := decide_eq_false hgt
     have hd2 : decide (s.z < wrap64 (t.z + by_.h)) = false := by rw [← wrapE]; exact hd
     have hS := SN.out.rot2.store 3 (.int .i64 s.z)
     obtain ⟨W2, hW2⟩ : ∃ W2, wc.setCell ⟨g13, 3, none⟩ (.int .i64 s.z) = W2 := ⟨_, rfl⟩
     rw [hW2] at hS
     have q13 : ∀ j, W2.cell? ⟨g13, j, none⟩ = (#[.int .i64 t.pallet, .int .i64 t.x, .int .i64 t.y, .int .i64 s.z] : Array Value)[j]? := hS.box (.head _)
     have q12 := hS.box (.tail _ (.head _))
     have q7 := hS.box (.tail _ (.tail _ (.tail _ (.tail _ (.head _)))))
     have q8 := hS.box (.tail _ (.tail _ (.tail _ (.tail _ (.tail _ (.head _))))))
     have SN := Lib.hid hS.drop.drop
     clear HSTP HBN hgt hS
     cases f
     ·go_wp2_with (go_at_call 115; refine (iOverlap_any bx s by_ { t with z := s.z } _).mono ?_; rintro e w5 ⟨rfl, hb5⟩; rw [HF.out]; have SN := Lib.hid (SN.out.next hb5))
      go_roundw
      case rel => exact ⟨j + 1, _, hlt, by go_num, by rw [HST.out]; simpa using SN⟩
      case measure => simp [intOf] <;> omega
     ·go_wp2_with (first | (go_at_call 115; refine (iOverlap_any bx s by_ { t with z := s.z } _).mono ?_; rintro e w5 ⟨rfl, hb5⟩; rw [HF.out]; have SN := Lib.hid (SN.out.next hb5)) | (at_builtin; refine papp_Int _ _ rfl rfl ((m : Int)) rfl rfl (alloc_at (by first | rfl | (simp; done) | (simp; omega))) rfl ((SN.out.list (.head _)).next (by repeat' (first | with_reducible exact Below.refl _ _ | with_reducible assumption | with_reducible refine Below.drew ?_ | with_reducible refine Below.alloc ?_ ?_ _ | with_reducible refine Below.setCell ?_ ?_ _ | with_reducible refine below_drewN ?_ _ | (simp; done) | (simp; omega)))) (by first | omega | (simp; omega)) (by have := SN.out.low.size; first | omega | (simp; done) | (simp; omega) | (simp at this ⊢; omega)) ?_; intro v7 w7 ha; obtain ⟨g7, S7⟩ := (SN.out.next (by repeat' (first | with_reducible exact Below.refl _ _ | with_reducible assumption | with_reducible refine Below.drew ?_ | with_reducible refine Below.alloc ?_ ?_ _ | with_reducible refine Below.setCell ?_ ?_ _ | with_reducible refine below_drewN ?_ _ | (simp; done) | (simp; omega)))).app ha; have S8 := Lib.hid S7; clear S7 ha))
      go_roundw
      case rel => exact ⟨j + 1, _, hlt, by go_num, by rw [HST.out]; exact S8⟩
      case measure => simp [intOf] <;> omega
  ·obtain rfl : j = (onPal x s.pallet).length := by omega
   rw [List.take_length] at SN
   go_wp2
   go_ret
   rw [HM.out]
   exact SN.out.ints
end Go.Proofs.YtioijfplbgpjpaaGreat
namespace Go.Proofs.YtioijfplbgpjpaaGreat
set_option linter.unusedVariables false
set_option linter.unusedSimpArgs false
set_option maxRecDepth 100000
open Go.RowKit Go.WideShapes Go.ChangeShapes Go.ChangeAt Go.Deep
theorem wrap_pred2 {n : Nat} (h : n ≤ 16777216) : wrap64 ((n : Int) - 1) = (n : Int) - 1 := by unfold wrap64; omega
theorem rng_step {p : Nat → Bool} {j : Nat} {f : Bool} (h : p j = f) : ((List.range (j + 1)).filter p).map Int.ofNat = ((List.range j).filter p).map Int.ofNat ++ (if f = true then [(j : Int)] else []) := by
 rw [List.range_succ, List.filter_append, List.map_append]
 cases f <;> simp [List.filter_cons, h]
theorem range_le (p : Nat → Bool) (j : Nat) : (((List.range j).filter p).map Int.ofNat).length ≤ j := by
 rw [List.length_map]; exact Nat.le_trans (List.length_filter_le _ _) (by simp)
theorem beneath_len (r : Request) (x : Plan) (i : Int) : (beneathI r x i).length ≤ x.cartons.length := by
 rw [beneath_eq]; unfold beneathS; split
 ·exact range_le _ _
 ·simp
set_option maxRecDepth 100000 in
set_option maxHeartbeats 20000000 in
theorem sBeneath_any (v vx : Value) (r : Request) (x : Plan) (i : Int) (w : World) (h : RReq 16777216 w w.heap.size v r) (hx : RPlan 16777216 w w.heap.size vx x) (hL : x.bulk ≤ 16777216) : Calls Tryz.prog 36 #[v, vx, .int .i64 i] w (MInts w (beneathI r x i)) := by
 rw [beneath_eq]
 have HR := Lib.hid h
 have HX := Lib.hid hx
 obtain ⟨A1, c1, A2, c2, A3, c3, rfl, _⟩ := h.opn
 obtain ⟨PA, ca, PB, cb, rfl, HPA, HPB, hla, hlb⟩ := hx.opn
 have hS := (((Sit.here w).alloc #[.int .i64 r.way, .int .i64 r.pallet.w, .int .i64 r.pallet.d, .int .i64 r.pallet.h, .int .i64 r.pallet.gram, .int .i64 r.classes, .slice A1 r.pairs.length c1, .slice A2 r.types.length c2, .int .i64 r.master, .slice A3 r.items.length c3] 41).alloc #[.slice PA x.cartons.length ca, .slice PB x.spots.length cb] 46).alloc #[] 3
 simp only [World.size_alloc] at hS
 have SN := Lib.hid (hS.boxNil cI 1)
 have hwp := wrap_pred2 hla
 have hwq : IntKind.i64.wrap ((x.cartons.length : Int) - 1) = (x.cartons.length : Int) - 1 := by rw [wrapE]; exact hwp
 obtain ⟨f, hf⟩ : ∃ f, inB i 0 ((x.cartons.length : Int) - 1) = f := ⟨_, rfl⟩
 have HF := Lib.hid hf
 obtain ⟨q, hq⟩ : ∃ q, feasible r x = q := ⟨_, rfl⟩
 have HQ := Lib.hid hq
 have HM := Lib.hid (show beneathS r x i = if (q && f) = true then ((List.range x.cartons.length).filter (benS r x i)).map Int.ofNat else [] by unfold beneathS; rw [hf, hq])
 clear h hx hS hf hq hwp
 go_enter Tryz.func36, Tryz.ntmps36
 have k1 := SN.out.box (.tail _ (.head _)); have l1 := SN.out.boxlt (.tail _ (.head _)); have k0 := SN.out.box (.tail _ (.tail _ (.head _))); have l0 := SN.out.boxlt (.tail _ (.tail _ (.head _)))
 go_wp2_with fail
 refine (sFeasible_any _ _ r x _ (HR.out.next SN.out.low) (HX.out.next SN.out.low) hL).mono ?_
 rintro e1 w1 ⟨rfl, hb1⟩
 rw [HQ.out]
 have SN := Lib.hid (SN.out.next hb1)
 clear k0 l0 k1 l1 hb1
 cases q
 ·go_wp2
  go_ret
  rw [HM.out]
  exact SN.out.ints
 have k1 := SN.out.box (.tail _ (.head _))
 have l1 := SN.out.boxlt (.tail _ (.head _))
 cases f
 ·go_wp2_with (go_at_call 104; (try simp only [wrapE]); refine (l1In_any _ _ _ _).mono ?_; rintro e w' ⟨rfl, rfl⟩; rw [HF.out])
  go_ret
  rw [HM.out]
  exact SN.out.ints
 obtain ⟨h0, h1⟩ := inB_iff.1 HF.out
 obtain ⟨n, rfl⟩ : ∃ n : Nat, i = n := ⟨i.toNat, by omega⟩
 obtain ⟨hfl, _⟩ := feas_len HQ.out
 have hn1 : n < x.cartons.length := by omega
 have hn2 : n < x.spots.length := by omega
 have HFL := Lib.hid hfl
 clear hfl
 have hidx : (0 : Int) ≤ (n : Int) := by omega
 clear h0 h1
 obtain ⟨b, off, c, U, cu, rfl, hb, hc, HU, HC⟩ := HPA.out.one n hn1
 obtain ⟨b2, off2, s, rfl, hb2, hs, HC2⟩ := HPB.out.one n hn2
 obtain ⟨bx, hbx⟩ : ∃ bx, boxR r c = bx := ⟨_, rfl⟩
 have HBX := Lib.hid hbx
 have HSA := Lib.hid (spotAt_at hs)
 have HBA := Lib.hid (show boxAt r x (n : Int) = bx by rw [boxAt_nat hc, hbx])
 have HM := Lib.hid (show beneathS r x (n : Int) = ((List.range x.cartons.length).filter (benS r x (n : Int))).map Int.ofNat by rw [HM.out]; rfl)
 have HCC := Lib.hid (show ∀ X : World, Below w1.heap.size w1 X → (X.cell? ⟨w.heap.size, 0, none⟩ = some (.int .i64 r.way) ∧ X.cell? ⟨w.heap.size, 1, none⟩ = some (.int .i64 r.pallet.w) ∧ X.cell? ⟨w.heap.size, 2, none⟩ = some (.int .i64 r.pallet.d) ∧ X.cell? ⟨w.heap.size, 3, none⟩ = some (.int .i64 r.pallet.h) ∧ X.cell? ⟨w.heap.size, 4, none⟩ = some (.int .i64 r.pallet.gram) ∧ X.cell? ⟨w.heap.size, 5, none⟩ = some (.int .i64 r.classes) ∧ X.cell? ⟨w.heap.size, 6, none⟩ = some (.slice A1 r.pairs.length c1) ∧ X.cell? ⟨w.heap.size, 7, none⟩ = some (.slice A2 r.types.length c2) ∧ X.cell? ⟨w.heap.size, 8, none⟩ = some (.int .i64 r.master) ∧ X.cell? ⟨w.heap.size, 9, none⟩ = some (.slice A3 r.items.length c3)) ∧ X.cell? ⟨w.heap.size + 1, 0, none⟩ = some (.slice (some ⟨b, off, none⟩) x.cartons.length ca) ∧ ((X.cell? ⟨b, off + n * 3, none⟩ = some (.int .i64 c.type) ∧ X.cell? ⟨b, off + n * 3 + 1, none⟩ = some (.int .i64 c.group) ∧ X.cell? ⟨b, off + n * 3 + 2, none⟩ = some (.slice U c.units.length cu))) from fun X hX => by
  have hX := SN.out.next hX
  have c0 := hX.box (.tail _ (.tail _ (.head _)))
  exact ⟨⟨c0 0, c0 1, c0 2, c0 3, c0 4, c0 5, c0 6, c0 7, c0 8, c0 9⟩, hX.box (.tail _ (.head _)) 0, HC.out X hX.low⟩)
 clear hc hs hbx
 go_upto_region 4 with (go_at_call 104; (try simp only [wrapE]); refine (l1In_any _ _ _ _).mono ?_; rintro e w' ⟨rfl, rfl⟩; rw [HF.out])
 clear k1 l1
 go_cut [8] (fun v8 X => ∃ g8, v8 = .pointer (some ⟨g8, 0, none⟩) ∧ Hid (Sit w X [fBox g8 #[.int .i64 bx.w, .int .i64 bx.d, .int .i64 bx.h, .int .i64 bx.gram] 75, fOF cI 3 1 w.heap.size (.slice (some ⟨w.heap.size + 1 + 1, 0, none⟩) 0 0) (([] : List Int)) [w.heap.size + 1 + 1], fBox (w.heap.size + 1) #[.slice (some ⟨b, off, none⟩) x.cartons.length ca, .slice (some ⟨b2, off2, none⟩) x.spots.length cb] 46, fBox w.heap.size #[.int .i64 r.way, .int .i64 r.pallet.w, .int .i64 r.pallet.d, .int .i64 r.pallet.h, .int .i64 r.pallet.gram, .int .i64 r.classes, .slice A1 r.pairs.length c1, .slice A2 r.types.length c2, .int .i64 r.master, .slice A3 r.items.length c3] 41]))
 case first =>
  go_region_held3 (fun W' => ((W'.cell? ⟨w.heap.size, 0, none⟩ = some (.int .i64 r.way) ∧ W'.cell? ⟨w.heap.size, 1, none⟩ = some (.int .i64 r.pallet.w) ∧ W'.cell? ⟨w.heap.size, 2, none⟩ = some (.int .i64 r.pallet.d) ∧ W'.cell? ⟨w.heap.size, 3, none⟩ = some (.int .i64 r.pallet.h) ∧ W'.cell? ⟨w.heap.size, 4, none⟩ = some (.int .i64 r.pallet.gram) ∧ W'.cell? ⟨w.heap.size, 5, none⟩ = some (.int .i64 r.classes) ∧ W'.cell? ⟨w.heap.size, 6, none⟩ = some (.slice A1 r.pairs.length c1) ∧ W'.cell? ⟨w.heap.size, 7, none⟩ = some (.slice A2 r.types.length c2) ∧ W'.cell? ⟨w.heap.size, 8, none⟩ = some (.int .i64 r.master) ∧ W'.cell? ⟨w.heap.size, 9, none⟩ = some (.slice A3 r.items.length c3))) ∧ W'.cell? ⟨w.heap.size + 1, 0, none⟩ = some (.slice (some ⟨b, off, none⟩) x.cartons.length ca) ∧ ((W'.cell? ⟨b, off + n * 3, none⟩ = some (.int .i64 c.type) ∧ W'.cell? ⟨b, off + n * 3 + 1, none⟩ = some (.int .i64 c.group) ∧ W'.cell? ⟨b, off + n * 3 + 2, none⟩ = some (.slice U c.units.length cu)))) (first | (refine HCC.out _ ?_; (repeat' (first | with_reducible exact Below.refl _ _ | with_reducible assumption | with_reducible refine Below.drew ?_ | with_reducible refine Below.alloc ?_ ?_ _ | with_reducible refine Below.setCell ?_ ?_ _ | with_reducible refine Below.setW ?_ _ _ _ ?_ | omega | (simp; done) | (simp; omega))); done) | go_keep) (first | (go_at_call 91; (try (first | refine calls_new ?_ | refine calls_newd ?_); intro hg); refine (sBoxOf_any _ _ r c _ (HR.out.next (SN.out.next (by (repeat' (first | with_reducible exact Below.refl _ _ | with_reducible assumption | with_reducible refine Below.drew ?_ | with_reducible refine Below.alloc ?_ ?_ _ | with_reducible refine Below.setCell ?_ ?_ _ | with_reducible refine Below.setW ?_ _ _ _ ?_ | omega | (simp; done) | (simp; omega))))).low) (HU.out.next (flat_mono _) (SN.out.next (by (repeat' (first | with_reducible exact Below.refl _ _ | with_reducible assumption | with_reducible refine Below.drew ?_ | with_reducible refine Below.alloc ?_ ?_ _ | with_reducible refine Below.setCell ?_ ?_ _ | with_reducible refine Below.setW ?_ _ _ _ ?_ | omega | (simp; done) | (simp; omega))))).low)).mono ?_; rintro e w2 ⟨rfl, hb2⟩; rw [HBX.out]; have hn2 := bstep (a := w1) (by (repeat' (first | with_reducible exact Below.refl _ _ | with_reducible assumption | with_reducible refine Below.drew ?_ | with_reducible refine Below.alloc ?_ ?_ _ | with_reducible refine Below.setCell ?_ ?_ _ | with_reducible refine Below.setW ?_ _ _ _ ?_ | omega | (simp; done) | (simp; omega)))) hb2; have hz2 := hn2.size; have hj2 := hb2.size; (try simp only [World.size_alloc, World.size_drew] at hj2); have SE := Lib.hid ((SN.out.drew.alloc #[.int .i64 0, .int .i64 0, .int .i64 0, .int .i64 0] 75)); (first | (have SE := Lib.hid (SE.out.next hb2)) | skip); have SN := Lib.hid ((SN.out.next (by (repeat' (first | with_reducible exact Below.refl _ _ | with_reducible assumption | with_reducible refine Below.drew ?_ | with_reducible refine Below.alloc ?_ ?_ _ | with_reducible refine Below.setCell ?_ ?_ _ | with_reducible refine Below.setW ?_ _ _ _ ?_ | omega | (simp; done) | (simp; omega))))).next hb2); (try (have hg := blk_next hg hb2; have hgc := fun j => cell_of_row _ _ j _ _ (0, 0) hg; have hgf := fun j => frozen_of_row _ _ j _ _ hg; have hgl := lt_of_block hg))))
  (all_goals (go_wp2_with fail; go_meet)); (first | (exact ⟨_, rfl, Lib.hid (SN.out.alloc _ _)⟩) | skip); (all_goals exact ⟨_, rfl, Lib.hid (SE.out.overL [.int .i64 bx.w, .int .i64 bx.d, .int .i64 bx.h, .int .i64 bx.gram] 0)⟩)
 case rest =>
 obtain ⟨g8, rfl, SN2⟩ := hcut
 have SN := Lib.hid SN2.out.rot2
 clear SN2 HCC
 have k1 := SN.out.box (.tail _ (.tail _ (.head _)))
 have l1 := SN.out.boxlt (.tail _ (.tail _ (.head _)))
 go_wp2
 clear k1 l1
 go_loopw [7, 9] (fun vv k wr => ∃ (j : Nat) (fp : List Nat), j ≤ x.cartons.length ∧ k = .int .i64 j ∧ Hid (Sit w wr [fOF cI 3 1 w.heap.size vv (((List.range j).filter (benS r x (n : Int))).map Int.ofNat) fp, fBox g8 #[.int .i64 bx.w, .int .i64 bx.d, .int .i64 bx.h, .int .i64 bx.gram] 75, fBox (w.heap.size + 1) #[.slice (some ⟨b, off, none⟩) x.cartons.length ca, .slice (some ⟨b2, off2, none⟩) x.spots.length cb] 46, fBox w.heap.size #[.int .i64 r.way, .int .i64 r.pallet.w, .int .i64 r.pallet.d, .int .i64 r.pallet.h, .int .i64 r.pallet.gram, .int .i64 r.classes, .slice A1 r.pairs.length c1, .slice A2 r.types.length c2, .int .i64 r.master, .slice A3 r.items.length c3] 41])) (fun _ k _ => x.cartons.length - (intOf k).toNat)
 case atStart => exact ⟨0, _, Nat.zero_le _, rfl, SN⟩
 case round =>
  clear SN
  obtain ⟨j, fp, hj, rfl, SN⟩ := hrel
  obtain ⟨O, hO⟩ : ∃ O, ((List.range j).filter (benS r x (n : Int))).map Int.ofNat = O := ⟨_, rfl⟩
  have hln : O.length ≤ j := by rw [← hO]; exact range_le _ _
  rw [hO] at SN
  have k1 := SN.out.box (.tail _ (.tail _ (.head _)))
  have l1 := SN.out.boxlt (.tail _ (.tail _ (.head _)))
  by_cases hlt : j < x.cartons.length
  ·have hj2 : j < x.spots.length := by rw [HFL.out]; exact hlt
   have HO := Lib.hid hO
   clear hO
   obtain ⟨Ao_, co_, rfl, _⟩ := (SN.out.list (.head _)).form
   obtain ⟨_, _, c', U', cu', heq, _, hc', HU', HC'⟩ := HPA.out.one j hlt
   cases heq
   obtain ⟨_, _, t, heq, _, ht, HT2⟩ := HPB.out.one j hj2
   cases heq
   obtain ⟨by_, hby⟩ : ∃ bx, boxR r c' = bx := ⟨_, rfl⟩
   have HBY := Lib.hid hby
   obtain ⟨f, hf⟩ : ∃ f, overB bx { s with z := t.z } by_ t = f := ⟨_, rfl⟩
   have HF2 := Lib.hid hf
   have HBN := Lib.hid (show benS r x (n : Int) j = (!decide ((j : Int) = (n : Int)) && (decide (wrap64 (t.z + by_.h) ≤ s.z) && f)) by unfold benS; rw [HSA.out, HBA.out, spotAt_at ht, boxAt_nat hc', hby, hf])
   have HCC := Lib.hid (show ∀ X : World, Below wr.heap.size wr X → (X.cell? ⟨w.heap.size, 0, none⟩ = some (.int .i64 r.way) ∧ X.cell? ⟨w.heap.size, 1, none⟩ = some (.int .i64 r.pallet.w) ∧ X.cell? ⟨w.heap.size, 2, none⟩ = some (.int .i64 r.pallet.d) ∧ X.cell? ⟨w.heap.size, 3, none⟩ = some (.int .i64 r.pallet.h) ∧ X.cell? ⟨w.heap.size, 4, none⟩ = some (.int .i64 r.pallet.gram) ∧ X.cell? ⟨w.heap.size, 5, none⟩ = some (.int .i64 r.classes) ∧ X.cell? ⟨w.heap.size, 6, none⟩ = some (.slice A1 r.pairs.length c1) ∧ X.cell? ⟨w.heap.size, 7, none⟩ = some (.slice A2 r.types.length c2) ∧ X.cell? ⟨w.heap.size, 8, none⟩ = some (.int .i64 r.master) ∧ X.cell? ⟨w.heap.size, 9, none⟩ = some (.slice A3 r.items.length c3)) ∧ X.cell? ⟨w.heap.size + 1, 0, none⟩ = some (.slice (some ⟨b, off, none⟩) x.cartons.length ca) ∧ ((X.cell? ⟨b, off + j * 3, none⟩ = some (.int .i64 c'.type) ∧ X.cell? ⟨b, off + j * 3 + 1, none⟩ = some (.int .i64 c'.group) ∧ X.cell? ⟨b, off + j * 3 + 2, none⟩ = some (.slice U' c'.units.length cu'))) from fun X hX => by
    have hX := SN.out.next hX
    have c0 := hX.box (.tail _ (.tail _ (.tail _ (.head _))))
    exact ⟨⟨c0 0, c0 1, c0 2, c0 3, c0 4, c0 5, c0 6, c0 7, c0 8, c0 9⟩, hX.box (.tail _ (.tail _ (.head _))) 0, HC'.out X hX.low⟩)
   clear hc' ht hby hf
   go_upto_region 8 with fail
   clear k1 l1
   go_cut [10] (fun v8 X => ∃ g10, v8 = .pointer (some ⟨g10, 0, none⟩) ∧ Hid (Sit w X [fBox g10 #[.int .i64 by_.w, .int .i64 by_.d, .int .i64 by_.h, .int .i64 by_.gram] 75, fOF cI 3 1 w.heap.size (.slice Ao_ O.length co_) (O) fp, fBox g8 #[.int .i64 bx.w, .int .i64 bx.d, .int .i64 bx.h, .int .i64 bx.gram] 75, fBox (w.heap.size + 1) #[.slice (some ⟨b, off, none⟩) x.cartons.length ca, .slice (some ⟨b2, off2, none⟩) x.spots.length cb] 46, fBox w.heap.size #[.int .i64 r.way, .int .i64 r.pallet.w, .int .i64 r.pallet.d, .int .i64 r.pallet.h, .int .i64 r.pallet.gram, .int .i64 r.classes, .slice A1 r.pairs.length c1, .slice A2 r.types.length c2, .int .i64 r.master, .slice A3 r.items.length c3] 41]))
   case first =>
    go_region_held3 (fun W' => ((W'.cell? ⟨w.heap.size, 0, none⟩ = some (.int .i64 r.way) ∧ W'.cell? ⟨w.heap.size, 1, none⟩ = some (.int .i64 r.pallet.w) ∧ W'.cell? ⟨w.heap.size, 2, none⟩ = some (.int .i64 r.pallet.d) ∧ W'.cell? ⟨w.heap.size, 3, none⟩ = some (.int .i64 r.pallet.h) ∧ W'.cell? ⟨w.heap.size, 4, none⟩ = some (.int .i64 r.pallet.gram) ∧ W'.cell? ⟨w.heap.size, 5, none⟩ = some (.int .i64 r.classes) ∧ W'.cell? ⟨w.heap.size, 6, none⟩ = some (.slice A1 r.pairs.length c1) ∧ W'.cell? ⟨w.heap.size, 7, none⟩ = some (.slice A2 r.types.length c2) ∧ W'.cell? ⟨w.heap.size, 8, none⟩ = some (.int .i64 r.master) ∧ W'.cell? ⟨w.heap.size, 9, none⟩ = some (.slice A3 r.items.length c3))) ∧ W'.cell? ⟨w.heap.size + 1, 0, none⟩ = some (.slice (some ⟨b, off, none⟩) x.cartons.length ca) ∧ ((W'.cell? ⟨b, off + j * 3, none⟩ = some (.int .i64 c'.type) ∧ W'.cell? ⟨b, off + j * 3 + 1, none⟩ = some (.int .i64 c'.group) ∧ W'.cell? ⟨b, off + j * 3 + 2, none⟩ = some (.slice U' c'.units.length cu')))) (first | (refine HCC.out _ ?_; (repeat' (first | with_reducible exact Below.refl _ _ | with_reducible assumption | with_reducible refine Below.drew ?_ | with_reducible refine Below.alloc ?_ ?_ _ | with_reducible refine Below.setCell ?_ ?_ _ | with_reducible refine Below.setW ?_ _ _ _ ?_ | omega | (simp; done) | (simp; omega))); done) | go_keep) (first | (go_at_call 91; (try (first | refine calls_new ?_ | refine calls_newd ?_); intro hg); refine (sBoxOf_any _ _ r c' _ (HR.out.next (SN.out.next (by (repeat' (first | with_reducible exact Below.refl _ _ | with_reducible assumption | with_reducible refine Below.drew ?_ | with_reducible refine Below.alloc ?_ ?_ _ | with_reducible refine Below.setCell ?_ ?_ _ | with_reducible refine Below.setW ?_ _ _ _ ?_ | omega | (simp; done) | (simp; omega))))).low) (HU'.out.next (flat_mono _) (SN.out.next (by (repeat' (first | with_reducible exact Below.refl _ _ | with_reducible assumption | with_reducible refine Below.drew ?_ | with_reducible refine Below.alloc ?_ ?_ _ | with_reducible refine Below.setCell ?_ ?_ _ | with_reducible refine Below.setW ?_ _ _ _ ?_ | omega | (simp; done) | (simp; omega))))).low)).mono ?_; rintro e w2 ⟨rfl, hb2⟩; rw [HBY.out]; have hn2 := bstep (a := wr) (by (repeat' (first | with_reducible exact Below.refl _ _ | with_reducible assumption | with_reducible refine Below.drew ?_ | with_reducible refine Below.alloc ?_ ?_ _ | with_reducible refine Below.setCell ?_ ?_ _ | with_reducible refine Below.setW ?_ _ _ _ ?_ | omega | (simp; done) | (simp; omega)))) hb2; have hz2 := hn2.size; have hj2 := hb2.size; (try simp only [World.size_alloc, World.size_drew] at hj2); have SE := Lib.hid ((SN.out.drew.alloc #[.int .i64 0, .int .i64 0, .int .i64 0, .int .i64 0] 75)); (first | (have SE := Lib.hid (SE.out.next hb2)) | skip); have SN := Lib.hid ((SN.out.next (by (repeat' (first | with_reducible exact Below.refl _ _ | with_reducible assumption | with_reducible refine Below.drew ?_ | with_reducible refine Below.alloc ?_ ?_ _ | with_reducible refine Below.setCell ?_ ?_ _ | with_reducible refine Below.setW ?_ _ _ _ ?_ | omega | (simp; done) | (simp; omega))))).next hb2); (try (have hg := blk_next hg hb2; have hgc := fun j => cell_of_row _ _ j _ _ (0, 0) hg; have hgf := fun j => frozen_of_row _ _ j _ _ hg; have hgl := lt_of_block hg))))
    (all_goals (go_wp2_with fail; go_meet)); (first | (exact ⟨_, rfl, Lib.hid (SN.out.alloc _ _)⟩) | skip); (all_goals exact ⟨_, rfl, Lib.hid (SE.out.overL [.int .i64 by_.w, .int .i64 by_.d, .int .i64 by_.h, .int .i64 by_.gram] 0)⟩)
   case rest =>
    obtain ⟨g10, rfl, SN2⟩ := hcut
    have hS := SN2.out.alloc #[.int .i64 s.pallet, .int .i64 s.x, .int .i64 s.y, .int .i64 s.z] 72
    have k1 : wc.cell? ⟨w.heap.size + 1, 1, none⟩ = some (.slice (some ⟨b2, off2, none⟩) x.spots.length cb) := SN2.out.box (.tail _ (.tail _ (.tail _ (.head _)))) 1
    obtain ⟨kn0, kn1, kn2, kn3⟩ := HC2.out wc SN2.out.low
    obtain ⟨W1, hW1⟩ : ∃ W1, wc.alloc (.cells #[.int .i64 s.pallet, .int .i64 s.x, .int .i64 s.y, .int .i64 s.z] 72) = W1 := ⟨_, rfl⟩
    rw [hW1] at hS
    obtain ⟨kj0, kj1, kj2, kj3⟩ := HT2.out W1 hS.low
    have k2 : W1.cell? ⟨w.heap.size + 1, 1, none⟩ = some (.slice (some ⟨b2, off2, none⟩) x.spots.length cb) := hS.box (.tail _ (.tail _ (.tail _ (.tail _ (.head _))))) 1
    have q11 := hS.box (.head _)
    have hf11 := fun j => frozen_of_row _ _ j _ _ (hS.on _ (.head _))
    have hS2 := hS.store 3 (.int .i64 t.z)
    obtain ⟨W2, hW2⟩ : ∃ W2, W1.setCell ⟨wc.heap.size, 3, none⟩ (.int .i64 t.z) = W2 := ⟨_, rfl⟩
    rw [hW2] at hS2
    have SM := Lib.hid hS2
    clear SN2 HCC hS hS2
    have HC9 := Lib.hid (show ∀ X : World, Below W2.heap.size W2 X → X.cell? ⟨w.heap.size + 1, 1, none⟩ = some (.slice (some ⟨b2, off2, none⟩) x.spots.length cb) ∧ ((X.cell? ⟨b2, off2 + j * 4, none⟩ = some (.int .i64 t.pallet) ∧ X.cell? ⟨b2, off2 + j * 4 + 1, none⟩ = some (.int .i64 t.x) ∧ X.cell? ⟨b2, off2 + j * 4 + 2, none⟩ = some (.int .i64 t.y) ∧ X.cell? ⟨b2, off2 + j * 4 + 3, none⟩ = some (.int .i64 t.z))) ∧ ((X.cell? ⟨b2, off2 + n * 4, none⟩ = some (.int .i64 s.pallet) ∧ X.cell? ⟨b2, off2 + n * 4 + 1, none⟩ = some (.int .i64 s.x) ∧ X.cell? ⟨b2, off2 + n * 4 + 2, none⟩ = some (.int .i64 s.y) ∧ X.cell? ⟨b2, off2 + n * 4 + 3, none⟩ = some (.int .i64 s.z))) ∧ (X.cell? ⟨g10, 0, none⟩ = some (.int .i64 by_.w) ∧ X.cell? ⟨g10, 1, none⟩ = some (.int .i64 by_.d) ∧ X.cell? ⟨g10, 2, none⟩ = some (.int .i64 by_.h) ∧ X.cell? ⟨g10, 3, none⟩ = some (.int .i64 by_.gram)) ∧ (X.cell? ⟨g8, 0, none⟩ = some (.int .i64 bx.w) ∧ X.cell? ⟨g8, 1, none⟩ = some (.int .i64 bx.d) ∧ X.cell? ⟨g8, 2, none⟩ = some (.int .i64 bx.h) ∧ X.cell? ⟨g8, 3, none⟩ = some (.int .i64 bx.gram)) ∧ X.cell? ⟨wc.heap.size, 0, none⟩ = some (.int .i64 s.pallet) ∧ X.cell? ⟨wc.heap.size, 1, none⟩ = some (.int .i64 s.x) ∧ X.cell? ⟨wc.heap.size, 2, none⟩ = some (.int .i64 s.y) ∧ X.cell? ⟨wc.heap.size, 3, none⟩ = some (.int .i64 t.z) from fun X hX => by
     have hX := SM.out.next hX
     have c0 := hX.box (.head _); have c1 := hX.box (.tail _ (.head _)); have c3 := hX.box (.tail _ (.tail _ (.tail _ (.head _))))
     exact ⟨hX.box (.tail _ (.tail _ (.tail _ (.tail _ (.head _))))) 1, HT2.out X hX.low, HC2.out X hX.low, ⟨c1 0, c1 1, c1 2, c1 3⟩, ⟨c3 0, c3 1, c3 2, c3 3⟩, c0 0, c0 1, c0 2, c0 3⟩)
    have SN := Lib.hid SM.out.drop.drop
    clear SM
    go_wp2
    clear k1 k2 kn0 kn1 kn2 kn3 kj0 kj1 kj2 kj3 q11 hf11 hW1 hW2
    by_cases hjn : (j : Int) = (n : Int)
    ·have HBN := Lib.hid (show benS r x (n : Int) j = false by rw [HBN.out, decide_eq_true hjn]; rfl)
     have e1 : ((j : Int) == (n : Int)) = true := by simpa using hjn
     have e2 : ((j : Int) != (n : Int)) = false := by simpa using hjn
     have e3 : decide ((j : Int) = (n : Int)) = true := decide_eq_true hjn
     clear hjn
     refine wp_region_S (S := (fun W' => W'.cell? ⟨w.heap.size + 1, 1, none⟩ = some (.slice (some ⟨b2, off2, none⟩) x.spots.length cb) ∧ ((W'.cell? ⟨b2, off2 + j * 4, none⟩ = some (.int .i64 t.pallet) ∧ W'.cell? ⟨b2, off2 + j * 4 + 1, none⟩ = some (.int .i64 t.x) ∧ W'.cell? ⟨b2, off2 + j * 4 + 2, none⟩ = some (.int .i64 t.y) ∧ W'.cell? ⟨b2, off2 + j * 4 + 3, none⟩ = some (.int .i64 t.z))) ∧ ((W'.cell? ⟨b2, off2 + n * 4, none⟩ = some (.int .i64 s.pallet) ∧ W'.cell? ⟨b2, off2 + n * 4 + 1, none⟩ = some (.int .i64 s.x) ∧ W'.cell? ⟨b2, off2 + n * 4 + 2, none⟩ = some (.int .i64 s.y) ∧ W'.cell? ⟨b2, off2 + n * 4 + 3, none⟩ = some (.int .i64 s.z))) ∧ (W'.cell? ⟨g10, 0, none⟩ = some (.int .i64 by_.w) ∧ W'.cell? ⟨g10, 1, none⟩ = some (.int .i64 by_.d) ∧ W'.cell? ⟨g10, 2, none⟩ = some (.int .i64 by_.h) ∧ W'.cell? ⟨g10, 3, none⟩ = some (.int .i64 by_.gram)) ∧ (W'.cell? ⟨g8, 0, none⟩ = some (.int .i64 bx.w) ∧ W'.cell? ⟨g8, 1, none⟩ = some (.int .i64 bx.d) ∧ W'.cell? ⟨g8, 2, none⟩ = some (.int .i64 bx.h) ∧ W'.cell? ⟨g8, 3, none⟩ = some (.int .i64 bx.gram)) ∧ W'.cell? ⟨wc.heap.size, 0, none⟩ = some (.int .i64 s.pallet) ∧ W'.cell? ⟨wc.heap.size, 1, none⟩ = some (.int .i64 s.x) ∧ W'.cell? ⟨wc.heap.size, 2, none⟩ = some (.int .i64 s.y) ∧ W'.cell? ⟨wc.heap.size, 3, none⟩ = some (.int .i64 t.z))) (by kernel_rfl) ?_ (fun hHeld => ?_)
     ·(first | (refine HC9.out _ ?_; (repeat' (first | with_reducible exact Below.refl _ _ | with_reducible assumption | with_reducible refine Below.drew ?_ | with_reducible refine Below.alloc ?_ ?_ _ | with_reducible refine Below.setCell ?_ ?_ _ | with_reducible refine Below.setW ?_ _ _ _ ?_ | omega | (simp; done) | (simp; omega))); done) | go_keep)
     refine wpS_take (i := 0) (v := ?_) rfl (by kernel_rfl) (fun _ _ _ h => h) (Or.inl ⟨by rfl, ?_⟩) (by assumption) ?_
     rotate_left
     ·(intro w9 hSw; (try dsimp only at hSw); go_simp; (try with_reducible rfl))
     (try simp only [Act.put, List.getElem_toArray, List.getElem_cons_zero, List.getElem_cons_succ, List.setIfInBounds_toArray, List.set_cons_zero, List.set_cons_succ])
     refine wpS_take (i := 1) (v := ?_) rfl (by kernel_rfl) (fun _ _ _ h => h) (Or.inl ⟨by rfl, ?_⟩) (by assumption) ?_
     rotate_left
     ·(intro w9 hSw; (try dsimp only at hSw); go_simp; (try with_reducible rfl))
     (try simp only [Act.put, List.getElem_toArray, List.getElem_cons_zero, List.getElem_cons_succ, List.setIfInBounds_toArray, List.set_cons_zero, List.set_cons_succ])
     refine wpS_take (i := 2) (v := ?_) rfl (by kernel_rfl) (fun _ _ _ h => h) (Or.inl ⟨by rfl, ?_⟩) (by assumption) ?_
     rotate_left
     ·(intro w9 hSw; (try dsimp only at hSw); go_simp; (try with_reducible rfl))
     (try simp only [Act.put, List.getElem_toArray, List.getElem_cons_zero, List.getElem_cons_succ, List.setIfInBounds_toArray, List.set_cons_zero, List.set_cons_succ])
     refine wpS_take (i := 3) (v := ?_) rfl (by kernel_rfl) (fun _ _ _ h => h) (Or.inl ⟨by rfl, ?_⟩) (by assumption) ?_
     rotate_left
     ·(intro w9 hSw; (try dsimp only at hSw); go_simp; (try with_reducible rfl))
     (try simp only [Act.put, List.getElem_toArray, List.getElem_cons_zero, List.getElem_cons_succ, List.setIfInBounds_toArray, List.set_cons_zero, List.set_cons_succ])
     refine wpS_take (i := 4) (v := undef) rfl (by kernel_rfl) (fun _ _ _ h => h) (Or.inr ⟨by rfl, rfl⟩) (by assumption) ?_
     (try simp only [Act.put, List.getElem_toArray, List.getElem_cons_zero, List.getElem_cons_succ, List.setIfInBounds_toArray, List.set_cons_zero, List.set_cons_succ])
     refine wpS_take (i := 5) (v := undef) rfl (by kernel_rfl) (fun _ _ _ h => h) (Or.inr ⟨by rfl, rfl⟩) (by assumption) ?_
     (try simp only [Act.put, List.getElem_toArray, List.getElem_cons_zero, List.getElem_cons_succ, List.setIfInBounds_toArray, List.set_cons_zero, List.set_cons_succ])
     refine wpS_take (i := 6) (v := undef) rfl (by kernel_rfl) (fun _ _ _ h => h) (Or.inr ⟨by rfl, rfl⟩) (by assumption) ?_
     (try simp only [Act.put, List.getElem_toArray, List.getElem_cons_zero, List.getElem_cons_succ, List.setIfInBounds_toArray, List.set_cons_zero, List.set_cons_succ])
     refine wpS_take (i := 7) (v := undef) rfl (by kernel_rfl) (fun _ _ _ h => h) (Or.inr ⟨by rfl, rfl⟩) (by assumption) ?_
     (try simp only [Act.put, List.getElem_toArray, List.getElem_cons_zero, List.getElem_cons_succ, List.setIfInBounds_toArray, List.set_cons_zero, List.set_cons_succ])
     refine wpS_take (i := 8) (v := undef) rfl (by kernel_rfl) (fun _ _ _ h => h) (Or.inr ⟨by rfl, rfl⟩) (by assumption) ?_
     (try simp only [Act.put, List.getElem_toArray, List.getElem_cons_zero, List.getElem_cons_succ, List.setIfInBounds_toArray, List.set_cons_zero, List.set_cons_succ])
     refine wpS_take (i := 9) (v := undef) rfl (by kernel_rfl) (fun _ _ _ h => h) (Or.inr ⟨by rfl, rfl⟩) (by assumption) ?_
     (try simp only [Act.put, List.getElem_toArray, List.getElem_cons_zero, List.getElem_cons_succ, List.setIfInBounds_toArray, List.set_cons_zero, List.set_cons_succ])
     refine wpS_take (i := 10) (v := undef) rfl (by kernel_rfl) (fun _ _ _ h => h) (Or.inr ⟨by rfl, rfl⟩) (by assumption) ?_
     (try simp only [Act.put, List.getElem_toArray, List.getElem_cons_zero, List.getElem_cons_succ, List.setIfInBounds_toArray, List.set_cons_zero, List.set_cons_succ])
     refine wpS_take (i := 11) (v := undef) rfl (by kernel_rfl) (fun _ _ _ h => h) (Or.inr ⟨by rfl, rfl⟩) (by assumption) ?_
     (try simp only [Act.put, List.getElem_toArray, List.getElem_cons_zero, List.getElem_cons_succ, List.setIfInBounds_toArray, List.set_cons_zero, List.set_cons_succ])
     refine wpS_take (i := 12) (v := undef) rfl (by kernel_rfl) (fun _ _ _ h => h) (Or.inr ⟨by rfl, rfl⟩) (by assumption) ?_
     (try simp only [Act.put, List.getElem_toArray, List.getElem_cons_zero, List.getElem_cons_succ, List.setIfInBounds_toArray, List.set_cons_zero, List.set_cons_succ])
     refine wpS_take (i := 13) (v := undef) rfl (by kernel_rfl) (fun _ _ _ h => h) (Or.inr ⟨by rfl, rfl⟩) (by assumption) ?_
     (try simp only [Act.put, List.getElem_toArray, List.getElem_cons_zero, List.getElem_cons_succ, List.setIfInBounds_toArray, List.set_cons_zero, List.set_cons_succ])
     refine wpS_take (i := 14) (v := undef) rfl (by kernel_rfl) (fun _ _ _ h => h) (Or.inr ⟨by rfl, rfl⟩) (by assumption) ?_
     (try simp only [Act.put, List.getElem_toArray, List.getElem_cons_zero, List.getElem_cons_succ, List.setIfInBounds_toArray, List.set_cons_zero, List.set_cons_succ])
     refine wpS_take (i := 15) (v := undef) rfl (by kernel_rfl) (fun _ _ _ h => h) (Or.inr ⟨by rfl, rfl⟩) (by assumption) ?_
     (try simp only [Act.put, List.getElem_toArray, List.getElem_cons_zero, List.getElem_cons_succ, List.setIfInBounds_toArray, List.set_cons_zero, List.set_cons_succ])
     refine wpS_take (i := 16) (v := undef) rfl (by kernel_rfl) (fun _ _ _ h => h) (Or.inr ⟨by rfl, rfl⟩) (by assumption) ?_
     (try simp only [Act.put, List.getElem_toArray, List.getElem_cons_zero, List.getElem_cons_succ, List.setIfInBounds_toArray, List.set_cons_zero, List.set_cons_succ])
     refine wpS_take (i := 17) (v := undef) rfl (by kernel_rfl) (fun _ _ _ h => h) (Or.inr ⟨by rfl, rfl⟩) (by assumption) ?_
     (try simp only [Act.put, List.getElem_toArray, List.getElem_cons_zero, List.getElem_cons_succ, List.setIfInBounds_toArray, List.set_cons_zero, List.set_cons_succ])
     refine wpS_take (i := 18) (v := undef) rfl (by kernel_rfl) (fun _ _ _ h => h) (Or.inr ⟨by rfl, rfl⟩) (by assumption) ?_
     (try simp only [Act.put, List.getElem_toArray, List.getElem_cons_zero, List.getElem_cons_succ, List.setIfInBounds_toArray, List.set_cons_zero, List.set_cons_succ])
     refine wpS_take (i := 19) (v := undef) rfl (by kernel_rfl) (fun _ _ _ h => h) (Or.inr ⟨by rfl, rfl⟩) (by assumption) ?_
     (try simp only [Act.put, List.getElem_toArray, List.getElem_cons_zero, List.getElem_cons_succ, List.setIfInBounds_toArray, List.set_cons_zero, List.set_cons_succ])
     refine wpS_take (i := 20) (v := ?_) rfl (by kernel_rfl) (fun _ _ _ h => h) (Or.inl ⟨by rfl, ?_⟩) (by assumption) ?_
     rotate_left
     ·(intro w9 hSw; (try dsimp only at hSw); go_simp; (try with_reducible rfl))
     (try simp only [Act.put, List.getElem_toArray, List.getElem_cons_zero, List.getElem_cons_succ, List.setIfInBounds_toArray, List.set_cons_zero, List.set_cons_succ])
     refine wpS_take (i := 21) (v := ?_) rfl (by kernel_rfl) (fun _ _ _ h => h) (Or.inl ⟨by rfl, ?_⟩) (by assumption) ?_
     rotate_left
     ·(intro w9 hSw; (try dsimp only at hSw); go_simp; (try with_reducible rfl))
     (try simp only [Act.put, List.getElem_toArray, List.getElem_cons_zero, List.getElem_cons_succ, List.setIfInBounds_toArray, List.set_cons_zero, List.set_cons_succ])
     refine wpS_take (i := 22) (v := undef) rfl (by kernel_rfl) (fun _ _ _ h => h) (Or.inr ⟨by rfl, rfl⟩) (by assumption) ?_
     (try simp only [Act.put, List.getElem_toArray, List.getElem_cons_zero, List.getElem_cons_succ, List.setIfInBounds_toArray, List.set_cons_zero, List.set_cons_succ])
     refine wpS_take (i := 23) (v := undef) rfl (by kernel_rfl) (fun _ _ _ h => h) (Or.inr ⟨by rfl, rfl⟩) (by assumption) ?_
     (try simp only [Act.put, List.getElem_toArray, List.getElem_cons_zero, List.getElem_cons_succ, List.setIfInBounds_toArray, List.set_cons_zero, List.set_cons_succ])
     refine wpS_take (i := 24) (v := undef) rfl (by kernel_rfl) (fun _ _ _ h => h) (Or.inr ⟨by rfl, rfl⟩) (by assumption) ?_
     (try simp only [Act.put, List.getElem_toArray, List.getElem_cons_zero, List.getElem_cons_succ, List.setIfInBounds_toArray, List.set_cons_zero, List.set_cons_succ])
     refine wpS_take (i := 25) (v := undef) rfl (by kernel_rfl) (fun _ _ _ h => h) (Or.inr ⟨by rfl, rfl⟩) (by assumption) ?_
     (try simp only [Act.put, List.getElem_toArray, List.getElem_cons_zero, List.getElem_cons_succ, List.setIfInBounds_toArray, List.set_cons_zero, List.set_cons_succ])
     refine wpS_take (i := 26) (v := undef) rfl (by kernel_rfl) (fun _ _ _ h => h) (Or.inr ⟨by rfl, rfl⟩) (by assumption) ?_
     (try simp only [Act.put, List.getElem_toArray, List.getElem_cons_zero, List.getElem_cons_succ, List.setIfInBounds_toArray, List.set_cons_zero, List.set_cons_succ])
     refine wpS_take (i := 27) (v := undef) rfl (by kernel_rfl) (fun _ _ _ h => h) (Or.inr ⟨by rfl, rfl⟩) (by assumption) ?_
     (try simp only [Act.put, List.getElem_toArray, List.getElem_cons_zero, List.getElem_cons_succ, List.setIfInBounds_toArray, List.set_cons_zero, List.set_cons_succ])
     refine wpS_take (i := 28) (v := undef) rfl (by kernel_rfl) (fun _ _ _ h => h) (Or.inr ⟨by rfl, rfl⟩) (by assumption) ?_
     (try simp only [Act.put, List.getElem_toArray, List.getElem_cons_zero, List.getElem_cons_succ, List.setIfInBounds_toArray, List.set_cons_zero, List.set_cons_succ])
     refine wpS_take (i := 29) (v := undef) rfl (by kernel_rfl) (fun _ _ _ h => h) (Or.inr ⟨by rfl, rfl⟩) (by assumption) ?_
     (try simp only [Act.put, List.getElem_toArray, List.getElem_cons_zero, List.getElem_cons_succ, List.setIfInBounds_toArray, List.set_cons_zero, List.set_cons_succ])
     refine wpS_ready (rs := [30]) (by kernel_rfl) (by simp) ?_
     refine AllReadyS.cons rfl (by kernel_rfl) (fun K hK => ?_) AllReadyS.nil
     go_simp
     (skip)
     refine hK.out _ _ ?_ (fun hHeld => ?_)
     ·(first | (refine HC9.out _ ?_; (repeat' (first | with_reducible exact Below.refl _ _ | with_reducible assumption | with_reducible refine Below.drew ?_ | with_reducible refine Below.alloc ?_ ?_ _ | with_reducible refine Below.setCell ?_ ?_ _ | with_reducible refine Below.setW ?_ _ _ _ ?_ | omega | (simp; done) | (simp; omega))); done) | go_keep)
     clear hK K
     (try simp only [Act.put, List.getElem_toArray, List.getElem_cons_zero, List.getElem_cons_succ, List.setIfInBounds_toArray, List.set_cons_zero, List.set_cons_succ])
     refine wpS_ready (rs := [31]) (by kernel_rfl) (by simp) ?_
     refine AllReadyS.last rfl (by kernel_rfl) (fun K hK => ?_)
     go_simp
     refine hK.out _ _ ?_
     clear hK K
     (try simp only [Act.put, List.getElem_toArray, List.getElem_cons_zero, List.getElem_cons_succ, List.setIfInBounds_toArray, List.set_cons_zero, List.set_cons_succ])
     refine wpS_done (by kernel_rfl) ?_ _
     skip
     go_wp2
     go_roundw
     case rel => exact ⟨j + 1, _, hlt, by go_num, by rw [rng_step (HBN.out), HO.out]; simpa using Lib.hid (SN.out.next (by repeat' (first | with_reducible exact Below.refl _ _ | with_reducible assumption | with_reducible refine Below.drew ?_ | with_reducible refine Below.alloc ?_ ?_ _ | with_reducible refine Below.setCell ?_ ?_ _ | with_reducible refine below_drewN ?_ _ | (simp; done) | (simp; omega))))⟩
     case measure => simp [intOf] <;> omega
    have e1 : ((j : Int) == (n : Int)) = false := by simpa using hjn
    have e2 : ((j : Int) != (n : Int)) = true := by simpa using hjn
    have e3 : decide ((j : Int) = (n : Int)) = false := decide_eq_false hjn
    clear hjn
    by_cases hle : IntKind.i64.wrap (t.z + by_.h) ≤ s.z
    ·have HBN := Lib.hid (show benS r x (n : Int) j = f by rw [HBN.out, e3, decide_eq_true (by rw [← wrapE]; exact hle)]; simp)
     have hd : decide (IntKind.i64.wrap (t.z + by_.h) ≤ s.z) = true := decide_eq_true hle
     clear hle
     refine wp_region_S (S := (fun W' => W'.cell? ⟨w.heap.size + 1, 1, none⟩ = some (.slice (some ⟨b2, off2, none⟩) x.spots.length cb) ∧ ((W'.cell? ⟨b2, off2 + j * 4, none⟩ = some (.int .i64 t.pallet) ∧ W'.cell? ⟨b2, off2 + j * 4 + 1, none⟩ = some (.int .i64 t.x) ∧ W'.cell? ⟨b2, off2 + j * 4 + 2, none⟩ = some (.int .i64 t.y) ∧ W'.cell? ⟨b2, off2 + j * 4 + 3, none⟩ = some (.int .i64 t.z))) ∧ ((W'.cell? ⟨b2, off2 + n * 4, none⟩ = some (.int .i64 s.pallet) ∧ W'.cell? ⟨b2, off2 + n * 4 + 1, none⟩ = some (.int .i64 s.x) ∧ W'.cell? ⟨b2, off2 + n * 4 + 2, none⟩ = some (.int .i64 s.y) ∧ W'.cell? ⟨b2, off2 + n * 4 + 3, none⟩ = some (.int .i64 s.z))) ∧ (W'.cell? ⟨g10, 0, none⟩ = some (.int .i64 by_.w) ∧ W'.cell? ⟨g10, 1, none⟩ = some (.int .i64 by_.d) ∧ W'.cell? ⟨g10, 2, none⟩ = some (.int .i64 by_.h) ∧ W'.cell? ⟨g10, 3, none⟩ = some (.int .i64 by_.gram)) ∧ (W'.cell? ⟨g8, 0, none⟩ = some (.int .i64 bx.w) ∧ W'.cell? ⟨g8, 1, none⟩ = some (.int .i64 bx.d) ∧ W'.cell? ⟨g8, 2, none⟩ = some (.int .i64 bx.h) ∧ W'.cell? ⟨g8, 3, none⟩ = some (.int .i64 bx.gram)) ∧ W'.cell? ⟨wc.heap.size, 0, none⟩ = some (.int .i64 s.pallet) ∧ W'.cell? ⟨wc.heap.size, 1, none⟩ = some (.int .i64 s.x) ∧ W'.cell? ⟨wc.heap.size, 2, none⟩ = some (.int .i64 s.y) ∧ W'.cell? ⟨wc.heap.size, 3, none⟩ = some (.int .i64 t.z))) (by kernel_rfl) ?_ (fun hHeld => ?_)
     ·(first | (refine HC9.out _ ?_; (repeat' (first | with_reducible exact Below.refl _ _ | with_reducible assumption | with_reducible refine Below.drew ?_ | with_reducible refine Below.alloc ?_ ?_ _ | with_reducible refine Below.setCell ?_ ?_ _ | with_reducible refine Below.setW ?_ _ _ _ ?_ | omega | (simp; done) | (simp; omega))); done) | go_keep)
     refine wpS_take (i := 0) (v := ?_) rfl (by kernel_rfl) (fun _ _ _ h => h) (Or.inl ⟨by rfl, ?_⟩) (by assumption) ?_
     rotate_left
     ·(intro w9 hSw; (try dsimp only at hSw); go_simp; (try with_reducible rfl))
     (try simp only [Act.put, List.getElem_toArray, List.getElem_cons_zero, List.getElem_cons_succ, List.setIfInBounds_toArray, List.set_cons_zero, List.set_cons_succ])
     refine wpS_take (i := 1) (v := ?_) rfl (by kernel_rfl) (fun _ _ _ h => h) (Or.inl ⟨by rfl, ?_⟩) (by assumption) ?_
     rotate_left
     ·(intro w9 hSw; (try dsimp only at hSw); go_simp; (try with_reducible rfl))
     (try simp only [Act.put, List.getElem_toArray, List.getElem_cons_zero, List.getElem_cons_succ, List.setIfInBounds_toArray, List.set_cons_zero, List.set_cons_succ])
     refine wpS_take (i := 2) (v := ?_) rfl (by kernel_rfl) (fun _ _ _ h => h) (Or.inl ⟨by rfl, ?_⟩) (by assumption) ?_
     rotate_left
     ·(intro w9 hSw; (try dsimp only at hSw); go_simp; (try with_reducible rfl))
     (try simp only [Act.put, List.getElem_toArray, List.getElem_cons_zero, List.getElem_cons_succ, List.setIfInBounds_toArray, List.set_cons_zero, List.set_cons_succ])
     refine wpS_take (i := 3) (v := ?_) rfl (by kernel_rfl) (fun _ _ _ h => h) (Or.inl ⟨by rfl, ?_⟩) (by assumption) ?_
     rotate_left
     ·(intro w9 hSw; (try dsimp only at hSw); go_simp; (try with_reducible rfl))
     (try simp only [Act.put, List.getElem_toArray, List.getElem_cons_zero, List.getElem_cons_succ, List.setIfInBounds_toArray, List.set_cons_zero, List.set_cons_succ])
     refine wpS_take (i := 4) (v := ?_) rfl (by kernel_rfl) (fun _ _ _ h => h) (Or.inl ⟨by rfl, ?_⟩) (by assumption) ?_
     rotate_left
     ·(intro w9 hSw; (try dsimp only at hSw); go_simp; (try with_reducible rfl))
     (try simp only [Act.put, List.getElem_toArray, List.getElem_cons_zero, List.getElem_cons_succ, List.setIfInBounds_toArray, List.set_cons_zero, List.set_cons_succ])
     refine wpS_take (i := 5) (v := ?_) rfl (by kernel_rfl) (fun _ _ _ h => h) (Or.inl ⟨by rfl, ?_⟩) (by assumption) ?_
     rotate_left
     ·(intro w9 hSw; (try dsimp only at hSw); go_simp; (try with_reducible rfl))
     (try simp only [Act.put, List.getElem_toArray, List.getElem_cons_zero, List.getElem_cons_succ, List.setIfInBounds_toArray, List.set_cons_zero, List.set_cons_succ])
     refine wpS_take (i := 6) (v := ?_) rfl (by kernel_rfl) (fun _ _ _ h => h) (Or.inl ⟨by rfl, ?_⟩) (by assumption) ?_
     rotate_left
     ·(intro w9 hSw; (try dsimp only at hSw); go_simp; (try with_reducible rfl))
     (try simp only [Act.put, List.getElem_toArray, List.getElem_cons_zero, List.getElem_cons_succ, List.setIfInBounds_toArray, List.set_cons_zero, List.set_cons_succ])
     refine wpS_take (i := 7) (v := ?_) rfl (by kernel_rfl) (fun _ _ _ h => h) (Or.inl ⟨by rfl, ?_⟩) (by assumption) ?_
     rotate_left
     ·(intro w9 hSw; (try dsimp only at hSw); go_simp; (try with_reducible rfl))
     (try simp only [Act.put, List.getElem_toArray, List.getElem_cons_zero, List.getElem_cons_succ, List.setIfInBounds_toArray, List.set_cons_zero, List.set_cons_succ])
     refine wpS_take (i := 8) (v := ?_) rfl (by kernel_rfl) (fun _ _ _ h => h) (Or.inl ⟨by rfl, ?_⟩) (by assumption) ?_
     rotate_left
     ·(intro w9 hSw; (try dsimp only at hSw); go_simp; (try with_reducible rfl))
     (try simp only [Act.put, List.getElem_toArray, List.getElem_cons_zero, List.getElem_cons_succ, List.setIfInBounds_toArray, List.set_cons_zero, List.set_cons_succ])
     refine wpS_take (i := 9) (v := ?_) rfl (by kernel_rfl) (fun _ _ _ h => h) (Or.inl ⟨by rfl, ?_⟩) (by assumption) ?_
     rotate_left
     ·(intro w9 hSw; (try dsimp only at hSw); go_simp; (try with_reducible rfl))
     (try simp only [Act.put, List.getElem_toArray, List.getElem_cons_zero, List.getElem_cons_succ, List.setIfInBounds_toArray, List.set_cons_zero, List.set_cons_succ])
     refine wpS_take (i := 10) (v := ?_) rfl (by kernel_rfl) (fun _ _ _ h => h) (Or.inl ⟨by rfl, ?_⟩) (by assumption) ?_
     rotate_left
     ·(intro w9 hSw; (try dsimp only at hSw); go_simp; (try with_reducible rfl))
     (try simp only [Act.put, List.getElem_toArray, List.getElem_cons_zero, List.getElem_cons_succ, List.setIfInBounds_toArray, List.set_cons_zero, List.set_cons_succ])
     refine wpS_take (i := 11) (v := ?_) rfl (by kernel_rfl) (fun _ _ _ h => h) (Or.inl ⟨by rfl, ?_⟩) (by assumption) ?_
     rotate_left
     ·(intro w9 hSw; (try dsimp only at hSw); go_simp; (try with_reducible rfl))
     (try simp only [Act.put, List.getElem_toArray, List.getElem_cons_zero, List.getElem_cons_succ, List.setIfInBounds_toArray, List.set_cons_zero, List.set_cons_succ])
     refine wpS_take (i := 12) (v := ?_) rfl (by kernel_rfl) (fun _ _ _ h => h) (Or.inl ⟨by rfl, ?_⟩) (by assumption) ?_
     rotate_left
     ·(intro w9 hSw; (try dsimp only at hSw); go_simp; (try with_reducible rfl))
     (try simp only [Act.put, List.getElem_toArray, List.getElem_cons_zero, List.getElem_cons_succ, List.setIfInBounds_toArray, List.set_cons_zero, List.set_cons_succ])
     refine wpS_take (i := 13) (v := ?_) rfl (by kernel_rfl) (fun _ _ _ h => h) (Or.inl ⟨by rfl, ?_⟩) (by assumption) ?_
     rotate_left
     ·(intro w9 hSw; (try dsimp only at hSw); go_simp; (try with_reducible rfl))
     (try simp only [Act.put, List.getElem_toArray, List.getElem_cons_zero, List.getElem_cons_succ, List.setIfInBounds_toArray, List.set_cons_zero, List.set_cons_succ])
     refine wpS_take (i := 14) (v := ?_) rfl (by kernel_rfl) (fun _ _ _ h => h) (Or.inl ⟨by rfl, ?_⟩) (by assumption) ?_
     rotate_left
     ·(intro w9 hSw; (try dsimp only at hSw); go_simp; (try with_reducible rfl))
     (try simp only [Act.put, List.getElem_toArray, List.getElem_cons_zero, List.getElem_cons_succ, List.setIfInBounds_toArray, List.set_cons_zero, List.set_cons_succ])
     refine wpS_take (i := 15) (v := ?_) rfl (by kernel_rfl) (fun _ _ _ h => h) (Or.inl ⟨by rfl, ?_⟩) (by assumption) ?_
     rotate_left
     ·(intro w9 hSw; (try dsimp only at hSw); go_simp; (try with_reducible rfl))
     (try simp only [Act.put, List.getElem_toArray, List.getElem_cons_zero, List.getElem_cons_succ, List.setIfInBounds_toArray, List.set_cons_zero, List.set_cons_succ])
     refine wpS_take (i := 16) (v := ?_) rfl (by kernel_rfl) (fun _ _ _ h => h) (Or.inl ⟨by rfl, ?_⟩) (by assumption) ?_
     rotate_left
     ·(intro w9 hSw; (try dsimp only at hSw); go_simp; (try with_reducible rfl))
     (try simp only [Act.put, List.getElem_toArray, List.getElem_cons_zero, List.getElem_cons_succ, List.setIfInBounds_toArray, List.set_cons_zero, List.set_cons_succ])
     refine wpS_take (i := 17) (v := ?_) rfl (by kernel_rfl) (fun _ _ _ h => h) (Or.inl ⟨by rfl, ?_⟩) (by assumption) ?_
     rotate_left
     ·(intro w9 hSw; (try dsimp only at hSw); go_simp; (try with_reducible rfl))
     (try simp only [Act.put, List.getElem_toArray, List.getElem_cons_zero, List.getElem_cons_succ, List.setIfInBounds_toArray, List.set_cons_zero, List.set_cons_succ])
     refine wpS_take (i := 18) (v := ?_) rfl (by kernel_rfl) (fun _ _ _ h => h) (Or.inl ⟨by rfl, ?_⟩) (by assumption) ?_
     rotate_left
     ·(intro w9 hSw; (try dsimp only at hSw); go_simp; (try with_reducible rfl))
     (try simp only [Act.put, List.getElem_toArray, List.getElem_cons_zero, List.getElem_cons_succ, List.setIfInBounds_toArray, List.set_cons_zero, List.set_cons_succ])
     refine wpS_take (i := 19) (v := ?_) rfl (by kernel_rfl) (fun _ _ _ h => h) (Or.inl ⟨by rfl, ?_⟩) (by assumption) ?_
     rotate_left
     ·(intro w9 hSw; (try dsimp only at hSw); go_simp; (try with_reducible rfl))
     (try simp only [Act.put, List.getElem_toArray, List.getElem_cons_zero, List.getElem_cons_succ, List.setIfInBounds_toArray, List.set_cons_zero, List.set_cons_succ])
     refine wpS_take (i := 20) (v := ?_) rfl (by kernel_rfl) (fun _ _ _ h => h) (Or.inl ⟨by rfl, ?_⟩) (by assumption) ?_
     rotate_left
     ·(intro w9 hSw; (try dsimp only at hSw); go_simp; (try with_reducible rfl))
     (try simp only [Act.put, List.getElem_toArray, List.getElem_cons_zero, List.getElem_cons_succ, List.setIfInBounds_toArray, List.set_cons_zero, List.set_cons_succ])
     refine wpS_take (i := 21) (v := ?_) rfl (by kernel_rfl) (fun _ _ _ h => h) (Or.inl ⟨by rfl, ?_⟩) (by assumption) ?_
     rotate_left
     ·(intro w9 hSw; (try dsimp only at hSw); go_simp; (try with_reducible rfl))
     (try simp only [Act.put, List.getElem_toArray, List.getElem_cons_zero, List.getElem_cons_succ, List.setIfInBounds_toArray, List.set_cons_zero, List.set_cons_succ])
     refine wpS_take (i := 22) (v := ?_) rfl (by kernel_rfl) (fun _ _ _ h => h) (Or.inl ⟨by rfl, ?_⟩) (by assumption) ?_
     rotate_left
     ·(intro w9 hSw; (try dsimp only at hSw); go_simp; (try with_reducible rfl))
     (try simp only [Act.put, List.getElem_toArray, List.getElem_cons_zero, List.getElem_cons_succ, List.setIfInBounds_toArray, List.set_cons_zero, List.set_cons_succ])
     refine wpS_take (i := 23) (v := ?_) rfl (by kernel_rfl) (fun _ _ _ h => h) (Or.inl ⟨by rfl, ?_⟩) (by assumption) ?_
     rotate_left
     ·(intro w9 hSw; (try dsimp only at hSw); go_simp; (try with_reducible rfl))
     (try simp only [Act.put, List.getElem_toArray, List.getElem_cons_zero, List.getElem_cons_succ, List.setIfInBounds_toArray, List.set_cons_zero, List.set_cons_succ])
     refine wpS_take (i := 24) (v := ?_) rfl (by kernel_rfl) (fun _ _ _ h => h) (Or.inl ⟨by rfl, ?_⟩) (by assumption) ?_
     rotate_left
     ·(intro w9 hSw; (try dsimp only at hSw); go_simp; (try with_reducible rfl))
     (try simp only [Act.put, List.getElem_toArray, List.getElem_cons_zero, List.getElem_cons_succ, List.setIfInBounds_toArray, List.set_cons_zero, List.set_cons_succ])
     refine wpS_take (i := 25) (v := ?_) rfl (by kernel_rfl) (fun _ _ _ h => h) (Or.inl ⟨by rfl, ?_⟩) (by assumption) ?_
     rotate_left
     ·(intro w9 hSw; (try dsimp only at hSw); go_simp; (try with_reducible rfl))
     (try simp only [Act.put, List.getElem_toArray, List.getElem_cons_zero, List.getElem_cons_succ, List.setIfInBounds_toArray, List.set_cons_zero, List.set_cons_succ])
     refine wpS_take (i := 26) (v := ?_) rfl (by kernel_rfl) (fun _ _ _ h => h) (Or.inl ⟨by rfl, ?_⟩) (by assumption) ?_
     rotate_left
     ·(intro w9 hSw; (try dsimp only at hSw); go_simp; (try with_reducible rfl))
     (try simp only [Act.put, List.getElem_toArray, List.getElem_cons_zero, List.getElem_cons_succ, List.setIfInBounds_toArray, List.set_cons_zero, List.set_cons_succ])
     refine wpS_take (i := 27) (v := ?_) rfl (by kernel_rfl) (fun _ _ _ h => h) (Or.inl ⟨by rfl, ?_⟩) (by assumption) ?_
     rotate_left
     ·(intro w9 hSw; (try dsimp only at hSw); go_simp; (try with_reducible rfl))
     (try simp only [Act.put, List.getElem_toArray, List.getElem_cons_zero, List.getElem_cons_succ, List.setIfInBounds_toArray, List.set_cons_zero, List.set_cons_succ])
     refine wpS_take (i := 28) (v := ?_) rfl (by kernel_rfl) (fun _ _ _ h => h) (Or.inl ⟨by rfl, ?_⟩) (by assumption) ?_
     rotate_left
     ·(intro w9 hSw; (try dsimp only at hSw); go_simp; (try with_reducible rfl))
     (try simp only [Act.put, List.getElem_toArray, List.getElem_cons_zero, List.getElem_cons_succ, List.setIfInBounds_toArray, List.set_cons_zero, List.set_cons_succ])
     refine wpS_take (i := 29) (v := ?_) rfl (by kernel_rfl) (fun _ _ _ h => h) (Or.inl ⟨by rfl, ?_⟩) (by assumption) ?_
     rotate_left
     ·(intro w9 hSw; (try dsimp only at hSw); go_simp; (try with_reducible rfl))
     (try simp only [Act.put, List.getElem_toArray, List.getElem_cons_zero, List.getElem_cons_succ, List.setIfInBounds_toArray, List.set_cons_zero, List.set_cons_succ])
     refine wpS_ready (rs := [30]) (by kernel_rfl) (by simp) ?_
     refine AllReadyS.cons rfl (by kernel_rfl) (fun K hK => ?_) AllReadyS.nil
     go_simp
     ((go_at_call 113; refine (sOverlap_any bx { s with z := t.z } by_ t _).mono ?_; rintro e w5 ⟨rfl, hb5⟩; rw [HF2.out]; have hn5 := bstep (a := W2) (by (repeat' (first | with_reducible exact Below.refl _ _ | with_reducible assumption | with_reducible refine Below.drew ?_ | with_reducible refine Below.alloc ?_ ?_ _ | with_reducible refine Below.setCell ?_ ?_ _ | with_reducible refine Below.setW ?_ _ _ _ ?_ | omega | (simp; done) | (simp; omega)))) hb5))
     refine hK.out _ _ ?_ (fun hHeld => ?_)
     ·(first | (refine HC9.out _ ?_; (repeat' (first | with_reducible exact Below.refl _ _ | with_reducible assumption | with_reducible refine Below.drew ?_ | with_reducible refine Below.alloc ?_ ?_ _ | with_reducible refine Below.setCell ?_ ?_ _ | with_reducible refine Below.setW ?_ _ _ _ ?_ | omega | (simp; done) | (simp; omega))); done) | go_keep)
     clear hK K
     (try simp only [Act.put, List.getElem_toArray, List.getElem_cons_zero, List.getElem_cons_succ, List.setIfInBounds_toArray, List.set_cons_zero, List.set_cons_succ])
     refine wpS_ready (rs := [31]) (by kernel_rfl) (by simp) ?_
     refine AllReadyS.last rfl (by kernel_rfl) (fun K hK => ?_)
     go_simp
     refine hK.out _ _ ?_
     clear hK K
     (try simp only [Act.put, List.getElem_toArray, List.getElem_cons_zero, List.getElem_cons_succ, List.setIfInBounds_toArray, List.set_cons_zero, List.set_cons_succ])
     refine wpS_done (by kernel_rfl) ?_ _
     skip
     have SN := Lib.hid (SN.out.next hn5)
     cases f
     ·go_wp2
      go_roundw
      case rel => exact ⟨j + 1, _, hlt, by go_num, by rw [rng_step (HBN.out), HO.out]; simpa using SN⟩
      case measure => simp [intOf] <;> omega
     ·go_wp2_with (at_builtin; refine papp_Int _ _ rfl rfl ((j : Int)) rfl rfl (alloc_at (by first | rfl | (simp; done) | (simp; omega))) rfl ((SN.out.list (.head _)).next (by repeat' (first | with_reducible exact Below.refl _ _ | with_reducible assumption | with_reducible refine Below.drew ?_ | with_reducible refine Below.alloc ?_ ?_ _ | with_reducible refine Below.setCell ?_ ?_ _ | with_reducible refine below_drewN ?_ _ | (simp; done) | (simp; omega)))) (by first | omega | (simp; omega)) (by have := SN.out.low.size; first | omega | (simp; done) | (simp; omega) | (simp at this ⊢; omega)) ?_; intro v7 w7 ha; obtain ⟨g7, S7⟩ := (SN.out.next (by repeat' (first | with_reducible exact Below.refl _ _ | with_reducible assumption | with_reducible refine Below.drew ?_ | with_reducible refine Below.alloc ?_ ?_ _ | with_reducible refine Below.setCell ?_ ?_ _ | with_reducible refine below_drewN ?_ _ | (simp; done) | (simp; omega)))).app ha; have S8 := Lib.hid S7; clear S7 ha)
      go_roundw
      case rel => exact ⟨j + 1, _, hlt, by go_num, by rw [rng_step HBN.out, HO.out]; exact S8⟩
      case measure => simp [intOf] <;> omega
    ·have HBN := Lib.hid (show benS r x (n : Int) j = false by rw [HBN.out, e3, decide_eq_false (by rw [← wrapE]; exact hle)]; simp)
     have hd : decide (IntKind.i64.wrap (t.z + by_.h) ≤ s.z) = false := decide_eq_false hle
     clear hle
     refine wp_region_S (S := (fun W' => W'.cell? ⟨w.heap.size + 1, 1, none⟩ = some (.slice (some ⟨b2, off2, none⟩) x.spots.length cb) ∧ ((W'.cell? ⟨b2, off2 + j * 4, none⟩ = some (.int .i64 t.pallet) ∧ W'.cell? ⟨b2, off2 + j * 4 + 1, none⟩ = some (.int .i64 t.x) ∧ W'.cell? ⟨b2, off2 + j * 4 + 2, none⟩ = some (.int .i64 t.y) ∧ W'.cell? ⟨b2, off2 + j * 4 + 3, none⟩ = some (.int .i64 t.z))) ∧ ((W'.cell? ⟨b2, off2 + n * 4, none⟩ = some (.int .i64 s.pallet) ∧ W'.cell? ⟨b2, off2 + n * 4 + 1, none⟩ = some (.int .i64 s.x) ∧ W'.cell? ⟨b2, off2 + n * 4 + 2, none⟩ = some (.int .i64 s.y) ∧ W'.cell? ⟨b2, off2 + n * 4 + 3, none⟩ = some (.int .i64 s.z))) ∧ (W'.cell? ⟨g10, 0, none⟩ = some (.int .i64 by_.w) ∧ W'.cell? ⟨g10, 1, none⟩ = some (.int .i64 by_.d) ∧ W'.cell? ⟨g10, 2, none⟩ = some (.int .i64 by_.h) ∧ W'.cell? ⟨g10, 3, none⟩ = some (.int .i64 by_.gram)) ∧ (W'.cell? ⟨g8, 0, none⟩ = some (.int .i64 bx.w) ∧ W'.cell? ⟨g8, 1, none⟩ = some (.int .i64 bx.d) ∧ W'.cell? ⟨g8, 2, none⟩ = some (.int .i64 bx.h) ∧ W'.cell? ⟨g8, 3, none⟩ = some (.int .i64 bx.gram)) ∧ W'.cell? ⟨wc.heap.size, 0, none⟩ = some (.int .i64 s.pallet) ∧ W'.cell? ⟨wc.heap.size, 1, none⟩ = some (.int .i64 s.x) ∧ W'.cell? ⟨wc.heap.size, 2, none⟩ = some (.int .i64 s.y) ∧ W'.cell? ⟨wc.heap.size, 3, none⟩ = some (.int .i64 t.z))) (by kernel_rfl) ?_ (fun hHeld => ?_)
     ·(first | (refine HC9.out _ ?_; (repeat' (first | with_reducible exact Below.refl _ _ | with_reducible assumption | with_reducible refine Below.drew ?_ | with_reducible refine Below.alloc ?_ ?_ _ | with_reducible refine Below.setCell ?_ ?_ _ | with_reducible refine Below.setW ?_ _ _ _ ?_ | omega | (simp; done) | (simp; omega))); done) | go_keep)
     refine wpS_take (i := 0) (v := ?_) rfl (by kernel_rfl) (fun _ _ _ h => h) (Or.inl ⟨by rfl, ?_⟩) (by assumption) ?_
     rotate_left
     ·(intro w9 hSw; (try dsimp only at hSw); go_simp; (try with_reducible rfl))
     (try simp only [Act.put, List.getElem_toArray, List.getElem_cons_zero, List.getElem_cons_succ, List.setIfInBounds_toArray, List.set_cons_zero, List.set_cons_succ])
     refine wpS_take (i := 1) (v := ?_) rfl (by kernel_rfl) (fun _ _ _ h => h) (Or.inl ⟨by rfl, ?_⟩) (by assumption) ?_
     rotate_left
     ·(intro w9 hSw; (try dsimp only at hSw); go_simp; (try with_reducible rfl))
     (try simp only [Act.put, List.getElem_toArray, List.getElem_cons_zero, List.getElem_cons_succ, List.setIfInBounds_toArray, List.set_cons_zero, List.set_cons_succ])
     refine wpS_take (i := 2) (v := ?_) rfl (by kernel_rfl) (fun _ _ _ h => h) (Or.inl ⟨by rfl, ?_⟩) (by assumption) ?_
     rotate_left
     ·(intro w9 hSw; (try dsimp only at hSw); go_simp; (try with_reducible rfl))
     (try simp only [Act.put, List.getElem_toArray, List.getElem_cons_zero, List.getElem_cons_succ, List.setIfInBounds_toArray, List.set_cons_zero, List.set_cons_succ])
     refine wpS_take (i := 3) (v := ?_) rfl (by kernel_rfl) (fun _ _ _ h => h) (Or.inl ⟨by rfl, ?_⟩) (by assumption) ?_
     rotate_left
     ·(intro w9 hSw; (try dsimp only at hSw); go_simp; (try with_reducible rfl))
     (try simp only [Act.put, List.getElem_toArray, List.getElem_cons_zero, List.getElem_cons_succ, List.setIfInBounds_toArray, List.set_cons_zero, List.set_cons_succ])
     refine wpS_take (i := 4) (v := ?_) rfl (by kernel_rfl) (fun _ _ _ h => h) (Or.inl ⟨by rfl, ?_⟩) (by assumption) ?_
     rotate_left
     ·(intro w9 hSw; (try dsimp only at hSw); go_simp; (try with_reducible rfl))
     (try simp only [Act.put, List.getElem_toArray, List.getElem_cons_zero, List.getElem_cons_succ, List.setIfInBounds_toArray, List.set_cons_zero, List.set_cons_succ])
     refine wpS_take (i := 5) (v := ?_) rfl (by kernel_rfl) (fun _ _ _ h => h) (Or.inl ⟨by rfl, ?_⟩) (by assumption) ?_
     rotate_left
     ·(intro w9 hSw; (try dsimp only at hSw); go_simp; (try with_reducible rfl))
     (try simp only [Act.put, List.getElem_toArray, List.getElem_cons_zero, List.getElem_cons_succ, List.setIfInBounds_toArray, List.set_cons_zero, List.set_cons_succ])
     refine wpS_take (i := 6) (v := ?_) rfl (by kernel_rfl) (fun _ _ _ h => h) (Or.inl ⟨by rfl, ?_⟩) (by assumption) ?_
     rotate_left
     ·(intro w9 hSw; (try dsimp only at hSw); go_simp; (try with_reducible rfl))
     (try simp only [Act.put, List.getElem_toArray, List.getElem_cons_zero, List.getElem_cons_succ, List.setIfInBounds_toArray, List.set_cons_zero, List.set_cons_succ])
     refine wpS_take (i := 7) (v := ?_) rfl (by kernel_rfl) (fun _ _ _ h => h) (Or.inl ⟨by rfl, ?_⟩) (by assumption) ?_
     rotate_left
     ·(intro w9 hSw; (try dsimp only at hSw); go_simp; (try with_reducible rfl))
     (try simp only [Act.put, List.getElem_toArray, List.getElem_cons_zero, List.getElem_cons_succ, List.setIfInBounds_toArray, List.set_cons_zero, List.set_cons_succ])
     refine wpS_take (i := 8) (v := ?_) rfl (by kernel_rfl) (fun _ _ _ h => h) (Or.inl ⟨by rfl, ?_⟩) (by assumption) ?_
     rotate_left
     ·(intro w9 hSw; (try dsimp only at hSw); go_simp; (try with_reducible rfl))
     (try simp only [Act.put, List.getElem_toArray, List.getElem_cons_zero, List.getElem_cons_succ, List.setIfInBounds_toArray, List.set_cons_zero, List.set_cons_succ])
     refine wpS_take (i := 9) (v := ?_) rfl (by kernel_rfl) (fun _ _ _ h => h) (Or.inl ⟨by rfl, ?_⟩) (by assumption) ?_
     rotate_left
     ·(intro w9 hSw; (try dsimp only at hSw); go_simp; (try with_reducible rfl))
     (try simp only [Act.put, List.getElem_toArray, List.getElem_cons_zero, List.getElem_cons_succ, List.setIfInBounds_toArray, List.set_cons_zero, List.set_cons_succ])
     refine wpS_take (i := 10) (v := ?_) rfl (by kernel_rfl) (fun _ _ _ h => h) (Or.inl ⟨by rfl, ?_⟩) (by assumption) ?_
     rotate_left
     ·(intro w9 hSw; (try dsimp only at hSw); go_simp; (try with_reducible rfl))
     (try simp only [Act.put, List.getElem_toArray, List.getElem_cons_zero, List.getElem_cons_succ, List.setIfInBounds_toArray, List.set_cons_zero, List.set_cons_succ])
     refine wpS_take (i := 11) (v := ?_) rfl (by kernel_rfl) (fun _ _ _ h => h) (Or.inl ⟨by rfl, ?_⟩) (by assumption) ?_
     rotate_left
     ·(intro w9 hSw; (try dsimp only at hSw); go_simp; (try with_reducible rfl))
     (try simp only [Act.put, List.getElem_toArray, List.getElem_cons_zero, List.getElem_cons_succ, List.setIfInBounds_toArray, List.set_cons_zero, List.set_cons_succ])
     refine wpS_take (i := 12) (v := ?_) rfl (by kernel_rfl) (fun _ _ _ h => h) (Or.inl ⟨by rfl, ?_⟩) (by assumption) ?_
     rotate_left
     ·(intro w9 hSw; (try dsimp only at hSw); go_simp; (try with_reducible rfl))
     (try simp only [Act.put, List.getElem_toArray, List.getElem_cons_zero, List.getElem_cons_succ, List.setIfInBounds_toArray, List.set_cons_zero, List.set_cons_succ])
     refine wpS_take (i := 13) (v := ?_) rfl (by kernel_rfl) (fun _ _ _ h => h) (Or.inl ⟨by rfl, ?_⟩) (by assumption) ?_
     rotate_left
     ·(intro w9 hSw; (try dsimp only at hSw); go_simp; (try with_reducible rfl))
     (try simp only [Act.put, List.getElem_toArray, List.getElem_cons_zero, List.getElem_cons_succ, List.setIfInBounds_toArray, List.set_cons_zero, List.set_cons_succ])
     refine wpS_take (i := 14) (v := ?_) rfl (by kernel_rfl) (fun _ _ _ h => h) (Or.inl ⟨by rfl, ?_⟩) (by assumption) ?_
     rotate_left
     ·(intro w9 hSw; (try dsimp only at hSw); go_simp; (try with_reducible rfl))
     (try simp only [Act.put, List.getElem_toArray, List.getElem_cons_zero, List.getElem_cons_succ, List.setIfInBounds_toArray, List.set_cons_zero, List.set_cons_succ])
     refine wpS_take (i := 15) (v := ?_) rfl (by kernel_rfl) (fun _ _ _ h => h) (Or.inl ⟨by rfl, ?_⟩) (by assumption) ?_
     rotate_left
     ·(intro w9 hSw; (try dsimp only at hSw); go_simp; (try with_reducible rfl))
     (try simp only [Act.put, List.getElem_toArray, List.getElem_cons_zero, List.getElem_cons_succ, List.setIfInBounds_toArray, List.set_cons_zero, List.set_cons_succ])
     refine wpS_take (i := 16) (v := ?_) rfl (by kernel_rfl) (fun _ _ _ h => h) (Or.inl ⟨by rfl, ?_⟩) (by assumption) ?_
     rotate_left
     ·(intro w9 hSw; (try dsimp only at hSw); go_simp; (try with_reducible rfl))
     (try simp only [Act.put, List.getElem_toArray, List.getElem_cons_zero, List.getElem_cons_succ, List.setIfInBounds_toArray, List.set_cons_zero, List.set_cons_succ])
     refine wpS_take (i := 17) (v := ?_) rfl (by kernel_rfl) (fun _ _ _ h => h) (Or.inl ⟨by rfl, ?_⟩) (by assumption) ?_
     rotate_left
     ·(intro w9 hSw; (try dsimp only at hSw); go_simp; (try with_reducible rfl))
     (try simp only [Act.put, List.getElem_toArray, List.getElem_cons_zero, List.getElem_cons_succ, List.setIfInBounds_toArray, List.set_cons_zero, List.set_cons_succ])
     refine wpS_take (i := 18) (v := ?_) rfl (by kernel_rfl) (fun _ _ _ h => h) (Or.inl ⟨by rfl, ?_⟩) (by assumption) ?_
     rotate_left
     ·(intro w9 hSw; (try dsimp only at hSw); go_simp; (try with_reducible rfl))
     (try simp only [Act.put, List.getElem_toArray, List.getElem_cons_zero, List.getElem_cons_succ, List.setIfInBounds_toArray, List.set_cons_zero, List.set_cons_succ])
     refine wpS_take (i := 19) (v := ?_) rfl (by kernel_rfl) (fun _ _ _ h => h) (Or.inl ⟨by rfl, ?_⟩) (by assumption) ?_
     rotate_left
     ·(intro w9 hSw; (try dsimp only at hSw); go_simp; (try with_reducible rfl))
     (try simp only [Act.put, List.getElem_toArray, List.getElem_cons_zero, List.getElem_cons_succ, List.setIfInBounds_toArray, List.set_cons_zero, List.set_cons_succ])
     refine wpS_take (i := 20) (v := ?_) rfl (by kernel_rfl) (fun _ _ _ h => h) (Or.inl ⟨by rfl, ?_⟩) (by assumption) ?_
     rotate_left
     ·(intro w9 hSw; (try dsimp only at hSw); go_simp; (try with_reducible rfl))
     (try simp only [Act.put, List.getElem_toArray, List.getElem_cons_zero, List.getElem_cons_succ, List.setIfInBounds_toArray, List.set_cons_zero, List.set_cons_succ])
     refine wpS_take (i := 21) (v := ?_) rfl (by kernel_rfl) (fun _ _ _ h => h) (Or.inl ⟨by rfl, ?_⟩) (by assumption) ?_
     rotate_left
     ·(intro w9 hSw; (try dsimp only at hSw); go_simp; (try with_reducible rfl))
     (try simp only [Act.put, List.getElem_toArray, List.getElem_cons_zero, List.getElem_cons_succ, List.setIfInBounds_toArray, List.set_cons_zero, List.set_cons_succ])
     refine wpS_take (i := 22) (v := undef) rfl (by kernel_rfl) (fun _ _ _ h => h) (Or.inr ⟨by rfl, rfl⟩) (by assumption) ?_
     (try simp only [Act.put, List.getElem_toArray, List.getElem_cons_zero, List.getElem_cons_succ, List.setIfInBounds_toArray, List.set_cons_zero, List.set_cons_succ])
     refine wpS_take (i := 23) (v := undef) rfl (by kernel_rfl) (fun _ _ _ h => h) (Or.inr ⟨by rfl, rfl⟩) (by assumption) ?_
     (try simp only [Act.put, List.getElem_toArray, List.getElem_cons_zero, List.getElem_cons_succ, List.setIfInBounds_toArray, List.set_cons_zero, List.set_cons_succ])
     refine wpS_take (i := 24) (v := undef) rfl (by kernel_rfl) (fun _ _ _ h => h) (Or.inr ⟨by rfl, rfl⟩) (by assumption) ?_
     (try simp only [Act.put, List.getElem_toArray, List.getElem_cons_zero, List.getElem_cons_succ, List.setIfInBounds_toArray, List.set_cons_zero, List.set_cons_succ])
     refine wpS_take (i := 25) (v := undef) rfl (by kernel_rfl) (fun _ _ _ h => h) (Or.inr ⟨by rfl, rfl⟩) (by assumption) ?_
     (try simp only [Act.put, List.getElem_toArray, List.getElem_cons_zero, List.getElem_cons_succ, List.setIfInBounds_toArray, List.set_cons_zero, List.set_cons_succ])
     refine wpS_take (i := 26) (v := undef) rfl (by kernel_rfl) (fun _ _ _ h => h) (Or.inr ⟨by rfl, rfl⟩) (by assumption) ?_
     (try simp only [Act.put, List.getElem_toArray, List.getElem_cons_zero, List.getElem_cons_succ, List.setIfInBounds_toArray, List.set_cons_zero, List.set_cons_succ])
     refine wpS_take (i := 27) (v := undef) rfl (by kernel_rfl) (fun _ _ _ h => h) (Or.inr ⟨by rfl, rfl⟩) (by assumption) ?_
     (try simp only [Act.put, List.getElem_toArray, List.getElem_cons_zero, List.getElem_cons_succ, List.setIfInBounds_toArray, List.set_cons_zero, List.set_cons_succ])
     refine wpS_take (i := 28) (v := undef) rfl (by kernel_rfl) (fun _ _ _ h => h) (Or.inr ⟨by rfl, rfl⟩) (by assumption) ?_
     (try simp only [Act.put, List.getElem_toArray, List.getElem_cons_zero, List.getElem_cons_succ, List.setIfInBounds_toArray, List.set_cons_zero, List.set_cons_succ])
     refine wpS_take (i := 29) (v := undef) rfl (by kernel_rfl) (fun _ _ _ h => h) (Or.inr ⟨by rfl, rfl⟩) (by assumption) ?_
     (try simp only [Act.put, List.getElem_toArray, List.getElem_cons_zero, List.getElem_cons_succ, List.setIfInBounds_toArray, List.set_cons_zero, List.set_cons_succ])
     refine wpS_ready (rs := [30]) (by kernel_rfl) (by simp) ?_
     refine AllReadyS.cons rfl (by kernel_rfl) (fun K hK => ?_) AllReadyS.nil
     go_simp
     (skip)
     refine hK.out _ _ ?_ (fun hHeld => ?_)
     ·(first | (refine HC9.out _ ?_; (repeat' (first | with_reducible exact Below.refl _ _ | with_reducible assumption | with_reducible refine Below.drew ?_ | with_reducible refine Below.alloc ?_ ?_ _ | with_reducible refine Below.setCell ?_ ?_ _ | with_reducible refine Below.setW ?_ _ _ _ ?_ | omega | (simp; done) | (simp; omega))); done) | go_keep)
     clear hK K
     (try simp only [Act.put, List.getElem_toArray, List.getElem_cons_zero, List.getElem_cons_succ, List.setIfInBounds_toArray, List.set_cons_zero, List.set_cons_succ])
     refine wpS_ready (rs := [31]) (by kernel_rfl) (by simp) ?_
     refine AllReadyS.last rfl (by kernel_rfl) (fun K hK => ?_)
     go_simp
     refine hK.out _ _ ?_
     clear hK K
     (try simp only [Act.put, List.getElem_toArray, List.getElem_cons_zero, List.getElem_cons_succ, List.setIfInBounds_toArray, List.set_cons_zero, List.set_cons_succ])
     refine wpS_done (by kernel_rfl) ?_ _
     skip
     go_wp2
     go_roundw
     case rel => exact ⟨j + 1, _, hlt, by go_num, by rw [rng_step (HBN.out), HO.out]; simpa using Lib.hid (SN.out.next (by repeat' (first | with_reducible exact Below.refl _ _ | with_reducible assumption | with_reducible refine Below.drew ?_ | with_reducible refine Below.alloc ?_ ?_ _ | with_reducible refine Below.setCell ?_ ?_ _ | with_reducible refine below_drewN ?_ _ | (simp; done) | (simp; omega))))⟩
     case measure => simp [intOf] <;> omega
  ·obtain rfl : j = x.cartons.length := by omega
   go_wp2
   go_ret
   rw [HM.out, hO]
   exact SN.out.ints
end Go.Proofs.YtioijfplbgpjpaaGreat
namespace Go.Proofs.YtioijfplbgpjpaaGreat
set_option linter.unusedVariables false
set_option linter.unusedSimpArgs false
set_option maxRecDepth 100000
open Go.RowKit
def Spot.down (s : Spot) : Spot := { s with z := s.z - 1 }
def fall (free : Spot → Bool) : Nat → Spot → Spot
 |0, s => s
 |f + 1, s => if (decide (0 < s.z) && free s.down) = true then fall free f s.down else s
section
variable {r : Request} {x y : Plan}
end
end Go.Proofs.YtioijfplbgpjpaaGreat
