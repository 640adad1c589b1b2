/-
  Plain laws on heights: at each something is covered, below the least nothing. No function is named here.
-/
import Derived.Test.YtioijfplbgpjpaaGreatKx29
import Derived.Test.YtioijfplbgpjpaaGreatKx22
import Derived.Test.YtioijfplbgpjpaaGreatKx28
import Derived.Deep.RegionHeld3
import Derived.Deep.DeepCutAuto
import Derived.Deep.RegionLaw
import Derived.Deep.RegionWith
import Derived.StillTailTactics
import Derived.Test.YtioijfplbgpjpaaGreatKx00
import Derived.Test.YtioijfplbgpjpaaGreatKx01
namespace Go.Proofs.YtioijfplbgpjpaaGreat
set_option linter.unusedVariables false
set_option linter.unusedSimpArgs false
set_option maxRecDepth 100000
open Go.RowKit
def heightsR (r : Request) (x : Plan) (k : Int) : List Int := if feasible r x = true then kindsM (zsOn x k) else []
section
variable {r : Request} {x : Plan} {k : Int}
theorem heights_len : (heightsR r x k).length ≤ (onPal x k).length := by
 unfold heightsR
 split
 ·exact Nat.le_trans (kindsM_le _) (by unfold zsOn; rw [List.length_map]; exact Nat.le_refl _)
 ·simp
end
end Go.Proofs.YtioijfplbgpjpaaGreat
namespace Go.Proofs.YtioijfplbgpjpaaGreat
set_option linter.unusedVariables false
set_option linter.unusedSimpArgs false
set_option maxRecDepth 100000
open Go.RowKit Go.WideShapes Go.ChangeShapes Go.ChangeAt Go.Deep
theorem boxAt_nat {r : Request} {x : Plan} {i : Nat} {c : Carton} (h : x.cartons[i]? = some c) : boxAt r x (i : Int) = boxR r c := by unfold boxAt; rw [cartAt_at h]
theorem box_field2 (a b c d : Int) (W : World) : (Instr.field 75 (.agg #[.int .i64 a, .int .i64 b, .int .i64 c, .int .i64 d]) 2).run Tryz.prog W = .ok (.int .i64 c) W := by first | rfl | (simp [Instr.field, go_sem, Tryz.underlying75])
set_option maxRecDepth 100000 in
set_option maxHeartbeats 2000000 in
theorem iTop_any (v vx : Value) (r : Request) (x : Plan) (k : Int) (w : World) (h : RReq 16777216 w w.heap.size v r) (hx : RPlan 16777216 w w.heap.size vx x) (hL : x.bulk ≤ 16777216) : Calls Tryz.prog 24 #[v, vx, .int .i64 k] w fun e w' => e = .returned (.int .i64 (topR r x k)) ∧ Below w.heap.size w w' := by
 have HR := Lib.hid h
 have HX := Lib.hid hx
 obtain ⟨A1, c1, A2, c2, A3, c3, rfl, _⟩ := h.opn
 obtain ⟨PA, ca, PB, cb, rfl, HPA, HPB, hla, hlb⟩ := hx.opn
 have hol := onPal_le x k
 have hS := ((Sit.here w).alloc #[.int .i64 r.way, .int .i64 r.pallet.w, .int .i64 r.pallet.d, .int .i64 r.pallet.h, .int .i64 r.pallet.gram, .int .i64 r.classes, .slice A1 r.pairs.length c1, .slice A2 r.types.length c2, .int .i64 r.master, .slice A3 r.items.length c3] 41).alloc #[.slice PA x.cartons.length ca, .slice PB x.spots.length cb] 46
 simp only [World.size_alloc] at hS
 have SN := Lib.hid hS
 obtain ⟨q, hq⟩ : ∃ q, feasible r x = q := ⟨_, rfl⟩
 have HQ := Lib.hid hq
 have HM := Lib.hid (show topR r x k = if q = true then (onPal x k).foldl (topStep r x) 0 else 0 by unfold topR; rw [hq])
 clear h hx hS hq
 go_enter Tryz.func24, Tryz.ntmps24
 have k0 := SN.out.box (.tail _ (.head _)); have l0 := SN.out.boxlt (.tail _ (.head _)); have k1 := SN.out.box (.head _); have l1 := SN.out.boxlt (.head _)
 go_wp2_with fail
 refine (iFeasible_any _ _ r x _ (HR.out.next SN.out.low) (HX.out.next SN.out.low) hL).mono ?_
 rintro e1 w1 ⟨rfl, hb1⟩
 rw [HQ.out]
 have SN := Lib.hid (SN.out.next hb1)
 clear k0 l0 k1 l1 hb1
 cases q
 ·go_wp2
  go_ret
  exact ⟨by rw [HM.out]; rfl, SN.out.low⟩
 have k1 := SN.out.box (.head _)
 have l1 := SN.out.boxlt (.head _)
 go_wp2_with fail
 refine (iOnPallet_any _ x k _ (HX.out.next SN.out.low)).mono ?_
 intro e2 w2 hm
 obtain ⟨v2, fk, rfl, hS⟩ := SN.out.gotInts hm
 obtain ⟨D, d, rfl, _⟩ := (hS.list (.head _)).form
 have SN := Lib.hid hS
 clear k1 l1 hS hm
 go_wp2
 go_loopw [7, 18] (fun n i wr => ∃ (j : Nat), j ≤ (onPal x k).length ∧ i = .int .i64 j ∧ n = .int .i64 (((onPal x k).take j).foldl (topStep r x) 0) ∧ Hid (Sit w wr [fOF cI 3 1 w.heap.size (.slice D (onPal x k).length d) (onPal x k) fk, fBox (w.heap.size + 1) #[.slice PA x.cartons.length ca, .slice PB x.spots.length cb] 46, fBox w.heap.size #[.int .i64 r.way, .int .i64 r.pallet.w, .int .i64 r.pallet.d, .int .i64 r.pallet.h, .int .i64 r.pallet.gram, .int .i64 r.classes, .slice A1 r.pairs.length c1, .slice A2 r.types.length c2, .int .i64 r.master, .slice A3 r.items.length c3] 41])) (fun _ i _ => (onPal x k).length - (intOf i).toNat)
 case atStart => exact ⟨0, Nat.zero_le _, rfl, rfl, SN⟩
 case round =>
  clear SN
  obtain ⟨j, hj, rfl, rfl, SN⟩ := hrel
  by_cases hlt : j < (onPal x k).length
  ·obtain ⟨i, hi⟩ : ∃ i, (onPal x k)[j]? = some i := ⟨_, List.getElem?_eq_getElem hlt⟩
   obtain ⟨m, rfl, hm1, hm2⟩ := onPal_in hi
   obtain ⟨gd, rfl⟩ := head_ptr (SN.out.list (.head _)) hi
   have hcu := (SN.out.list (.head _)).cells (fun z => rfl) hi 0 (.int .i64 (m : Int)) rfl
   rw [Nat.mul_one, Nat.add_zero] at hcu
   obtain ⟨b, off, c, U, cu, rfl, hb, hc, HU, HC⟩ := HPA.out.one m hm1
   obtain ⟨b2, off2, s, rfl, hb2, hs, HC2⟩ := HPB.out.one m hm2
   have HST := Lib.hid (foldl_take_step (f := topStep r x) (b := 0) hi)
   obtain ⟨G, hG⟩ : ∃ G, ((onPal x k).take j).foldl (topStep r x) 0 = G := ⟨_, rfl⟩
   obtain ⟨bx, hbx⟩ : ∃ bx, boxR r c = bx := ⟨_, rfl⟩
   have HBX := Lib.hid hbx
   have HG := Lib.hid (show topStep r x G (m : Int) = max G (wrap64 (s.z + bx.h)) by unfold topStep; rw [spotAt_at hs, boxAt_nat hc, hbx])
   rw [hG] at HST ⊢
   have HCC := Lib.hid (show ∀ X : World, Below wr.heap.size wr X → (X.cell? ⟨w.heap.size, 0, none⟩ = some (.int .i64 r.way) ∧ X.cell? ⟨w.heap.size, 1, none⟩ = some (.int .i64 r.pallet.w) ∧ X.cell? ⟨w.heap.size, 2, none⟩ = some (.int .i64 r.pallet.d) ∧ X.cell? ⟨w.heap.size, 3, none⟩ = some (.int .i64 r.pallet.h) ∧ X.cell? ⟨w.heap.size, 4, none⟩ = some (.int .i64 r.pallet.gram) ∧ X.cell? ⟨w.heap.size, 5, none⟩ = some (.int .i64 r.classes) ∧ X.cell? ⟨w.heap.size, 6, none⟩ = some (.slice A1 r.pairs.length c1) ∧ X.cell? ⟨w.heap.size, 7, none⟩ = some (.slice A2 r.types.length c2) ∧ X.cell? ⟨w.heap.size, 8, none⟩ = some (.int .i64 r.master) ∧ X.cell? ⟨w.heap.size, 9, none⟩ = some (.slice A3 r.items.length c3)) ∧ (X.cell? ⟨w.heap.size + 1, 0, none⟩ = some (.slice (some ⟨b, off, none⟩) x.cartons.length ca) ∧ X.cell? ⟨w.heap.size + 1, 1, none⟩ = some (.slice (some ⟨b2, off2, none⟩) x.spots.length cb)) ∧ ((X.cell? ⟨b, off + m * 3, none⟩ = some (.int .i64 c.type) ∧ X.cell? ⟨b, off + m * 3 + 1, none⟩ = some (.int .i64 c.group) ∧ X.cell? ⟨b, off + m * 3 + 2, none⟩ = some (.slice U c.units.length cu))) ∧ (X.cell? ⟨b2, off2 + m * 4, none⟩ = some (.int .i64 s.pallet) ∧ X.cell? ⟨b2, off2 + m * 4 + 1, none⟩ = some (.int .i64 s.x) ∧ X.cell? ⟨b2, off2 + m * 4 + 2, none⟩ = some (.int .i64 s.y) ∧ X.cell? ⟨b2, off2 + m * 4 + 3, none⟩ = some (.int .i64 s.z)) from fun X hX => by
    have hX := SN.out.next hX
    have c0 := hX.box (.tail _ (.tail _ (.head _)))
    exact ⟨⟨c0 0, c0 1, c0 2, c0 3, c0 4, c0 5, c0 6, c0 7, c0 8, c0 9⟩, ⟨hX.box (.tail _ (.head _)) 0, hX.box (.tail _ (.head _)) 1⟩, HC.out X hX.low, HC2.out X hX.low⟩)
   have hfld := fun W => box_field2 bx.w bx.d bx.h bx.gram W
   clear hi hc hs hG hbx
   go_wp2
   refine wp_region_S (S := (fun W' => ((W'.cell? ⟨w.heap.size, 0, none⟩ = some (.int .i64 r.way) ∧ W'.cell? ⟨w.heap.size, 1, none⟩ = some (.int .i64 r.pallet.w) ∧ W'.cell? ⟨w.heap.size, 2, none⟩ = some (.int .i64 r.pallet.d) ∧ W'.cell? ⟨w.heap.size, 3, none⟩ = some (.int .i64 r.pallet.h) ∧ W'.cell? ⟨w.heap.size, 4, none⟩ = some (.int .i64 r.pallet.gram) ∧ W'.cell? ⟨w.heap.size, 5, none⟩ = some (.int .i64 r.classes) ∧ W'.cell? ⟨w.heap.size, 6, none⟩ = some (.slice A1 r.pairs.length c1) ∧ W'.cell? ⟨w.heap.size, 7, none⟩ = some (.slice A2 r.types.length c2) ∧ W'.cell? ⟨w.heap.size, 8, none⟩ = some (.int .i64 r.master) ∧ W'.cell? ⟨w.heap.size, 9, none⟩ = some (.slice A3 r.items.length c3))) ∧ (W'.cell? ⟨w.heap.size + 1, 0, none⟩ = some (.slice (some ⟨b, off, none⟩) x.cartons.length ca) ∧ W'.cell? ⟨w.heap.size + 1, 1, none⟩ = some (.slice (some ⟨b2, off2, none⟩) x.spots.length cb)) ∧ ((W'.cell? ⟨b, off + m * 3, none⟩ = some (.int .i64 c.type) ∧ W'.cell? ⟨b, off + m * 3 + 1, none⟩ = some (.int .i64 c.group) ∧ W'.cell? ⟨b, off + m * 3 + 2, none⟩ = some (.slice U c.units.length cu))) ∧ (W'.cell? ⟨b2, off2 + m * 4, none⟩ = some (.int .i64 s.pallet) ∧ W'.cell? ⟨b2, off2 + m * 4 + 1, none⟩ = some (.int .i64 s.x) ∧ W'.cell? ⟨b2, off2 + m * 4 + 2, none⟩ = some (.int .i64 s.y) ∧ W'.cell? ⟨b2, off2 + m * 4 + 3, none⟩ = some (.int .i64 s.z)))) (by kernel_rfl) ?_ (fun hHeld => ?_)
   ·(first | (refine HCC.out _ ?_; (repeat' (first | with_reducible exact Below.refl _ _ | with_reducible assumption | with_reducible refine Below.drew ?_ | with_reducible refine Below.alloc ?_ ?_ _ | with_reducible refine Below.setCell ?_ ?_ _ | with_reducible refine Below.setW ?_ _ _ _ ?_ | omega | (simp; done) | (simp; omega))); done) | go_keep)
   refine wpS_take (i := 0) (v := ?_) rfl (by kernel_rfl) (fun _ _ _ h => h) (Or.inl ⟨by rfl, ?_⟩) (by assumption) ?_
   rotate_left
   ·(intro w9 hSw; (try dsimp only at hSw); go_simp; (try with_reducible rfl))
   (try simp only [Act.put, List.getElem_toArray, List.getElem_cons_zero, List.getElem_cons_succ, List.setIfInBounds_toArray, List.set_cons_zero, List.set_cons_succ])
   refine wpS_take (i := 1) (v := ?_) rfl (by kernel_rfl) (fun _ _ _ h => h) (Or.inl ⟨by rfl, ?_⟩) (by assumption) ?_
   rotate_left
   ·(intro w9 hSw; (try dsimp only at hSw); go_simp; (try with_reducible rfl))
   (try simp only [Act.put, List.getElem_toArray, List.getElem_cons_zero, List.getElem_cons_succ, List.setIfInBounds_toArray, List.set_cons_zero, List.set_cons_succ])
   refine wpS_take (i := 2) (v := ?_) rfl (by kernel_rfl) (fun _ _ _ h => h) (Or.inl ⟨by rfl, ?_⟩) (by assumption) ?_
   rotate_left
   ·(intro w9 hSw; (try dsimp only at hSw); go_simp; (try with_reducible rfl))
   (try simp only [Act.put, List.getElem_toArray, List.getElem_cons_zero, List.getElem_cons_succ, List.setIfInBounds_toArray, List.set_cons_zero, List.set_cons_succ])
   refine wpS_take (i := 3) (v := ?_) rfl (by kernel_rfl) (fun _ _ _ h => h) (Or.inl ⟨by rfl, ?_⟩) (by assumption) ?_
   rotate_left
   ·(intro w9 hSw; (try dsimp only at hSw); go_simp; (try with_reducible rfl))
   (try simp only [Act.put, List.getElem_toArray, List.getElem_cons_zero, List.getElem_cons_succ, List.setIfInBounds_toArray, List.set_cons_zero, List.set_cons_succ])
   refine wpS_take (i := 4) (v := ?_) rfl (by kernel_rfl) (fun _ _ _ h => h) (Or.inl ⟨by rfl, ?_⟩) (by assumption) ?_
   rotate_left
   ·(intro w9 hSw; (try dsimp only at hSw); go_simp; (try with_reducible rfl))
   (try simp only [Act.put, List.getElem_toArray, List.getElem_cons_zero, List.getElem_cons_succ, List.setIfInBounds_toArray, List.set_cons_zero, List.set_cons_succ])
   refine wpS_take (i := 5) (v := ?_) rfl (by kernel_rfl) (fun _ _ _ h => h) (Or.inl ⟨by rfl, ?_⟩) (by assumption) ?_
   rotate_left
   ·(intro w9 hSw; (try dsimp only at hSw); go_simp; (try with_reducible rfl))
   (try simp only [Act.put, List.getElem_toArray, List.getElem_cons_zero, List.getElem_cons_succ, List.setIfInBounds_toArray, List.set_cons_zero, List.set_cons_succ])
   refine wpS_take (i := 6) (v := ?_) rfl (by kernel_rfl) (fun _ _ _ h => h) (Or.inl ⟨by rfl, ?_⟩) (by assumption) ?_
   rotate_left
   ·(intro w9 hSw; (try dsimp only at hSw); go_simp; (try with_reducible rfl))
   (try simp only [Act.put, List.getElem_toArray, List.getElem_cons_zero, List.getElem_cons_succ, List.setIfInBounds_toArray, List.set_cons_zero, List.set_cons_succ])
   refine wpS_take (i := 7) (v := ?_) rfl (by kernel_rfl) (fun _ _ _ h => h) (Or.inl ⟨by rfl, ?_⟩) (by assumption) ?_
   rotate_left
   ·(intro w9 hSw; (try dsimp only at hSw); go_simp; (try with_reducible rfl))
   (try simp only [Act.put, List.getElem_toArray, List.getElem_cons_zero, List.getElem_cons_succ, List.setIfInBounds_toArray, List.set_cons_zero, List.set_cons_succ])
   refine wpS_take (i := 8) (v := ?_) rfl (by kernel_rfl) (fun _ _ _ h => h) (Or.inl ⟨by rfl, ?_⟩) (by assumption) ?_
   rotate_left
   ·(intro w9 hSw; (try dsimp only at hSw); go_simp; (try with_reducible rfl))
   (try simp only [Act.put, List.getElem_toArray, List.getElem_cons_zero, List.getElem_cons_succ, List.setIfInBounds_toArray, List.set_cons_zero, List.set_cons_succ])
   refine wpS_take (i := 9) (v := ?_) rfl (by kernel_rfl) (fun _ _ _ h => h) (Or.inl ⟨by rfl, ?_⟩) (by assumption) ?_
   rotate_left
   ·(intro w9 hSw; (try dsimp only at hSw); go_simp; (try with_reducible rfl))
   (try simp only [Act.put, List.getElem_toArray, List.getElem_cons_zero, List.getElem_cons_succ, List.setIfInBounds_toArray, List.set_cons_zero, List.set_cons_succ])
   refine wpS_take (i := 10) (v := ?_) rfl (by kernel_rfl) (fun _ _ _ h => h) (Or.inl ⟨by rfl, ?_⟩) (by assumption) ?_
   rotate_left
   ·(intro w9 hSw; (try dsimp only at hSw); go_simp; (try with_reducible rfl))
   (try simp only [Act.put, List.getElem_toArray, List.getElem_cons_zero, List.getElem_cons_succ, List.setIfInBounds_toArray, List.set_cons_zero, List.set_cons_succ])
   refine wpS_take (i := 11) (v := ?_) rfl (by kernel_rfl) (fun _ _ _ h => h) (Or.inl ⟨by rfl, ?_⟩) (by assumption) ?_
   rotate_left
   ·(intro w9 hSw; (try dsimp only at hSw); go_simp; (try with_reducible rfl))
   (try simp only [Act.put, List.getElem_toArray, List.getElem_cons_zero, List.getElem_cons_succ, List.setIfInBounds_toArray, List.set_cons_zero, List.set_cons_succ])
   refine wpS_take (i := 12) (v := ?_) rfl (by kernel_rfl) (fun _ _ _ h => h) (Or.inl ⟨by rfl, ?_⟩) (by assumption) ?_
   rotate_left
   ·(intro w9 hSw; (try dsimp only at hSw); go_simp; (try with_reducible rfl))
   (try simp only [Act.put, List.getElem_toArray, List.getElem_cons_zero, List.getElem_cons_succ, List.setIfInBounds_toArray, List.set_cons_zero, List.set_cons_succ])
   refine wpS_ready (rs := [13]) (by kernel_rfl) (by simp) ?_
   refine AllReadyS.cons rfl (by kernel_rfl) (fun K hK => ?_) AllReadyS.nil
   go_simp
   ((go_at_call 53; refine (iBoxOf_any _ _ r c _ (HR.out.next (SN.out.next (by (repeat' (first | with_reducible exact Below.refl _ _ | with_reducible assumption | with_reducible refine Below.drew ?_ | with_reducible refine Below.alloc ?_ ?_ _ | with_reducible refine Below.setCell ?_ ?_ _ | with_reducible refine Below.setW ?_ _ _ _ ?_ | omega | (simp; done) | (simp; omega))))).low) (HU.out.next (flat_mono _) (SN.out.next (by (repeat' (first | with_reducible exact Below.refl _ _ | with_reducible assumption | with_reducible refine Below.drew ?_ | with_reducible refine Below.alloc ?_ ?_ _ | with_reducible refine Below.setCell ?_ ?_ _ | with_reducible refine Below.setW ?_ _ _ _ ?_ | omega | (simp; done) | (simp; omega))))).low)).mono ?_; rintro e w3 ⟨rfl, hb3⟩; rw [HBX.out]; have hn3 := bstep (a := wr) (by (repeat' (first | with_reducible exact Below.refl _ _ | with_reducible assumption | with_reducible refine Below.drew ?_ | with_reducible refine Below.alloc ?_ ?_ _ | with_reducible refine Below.setCell ?_ ?_ _ | with_reducible refine Below.setW ?_ _ _ _ ?_ | omega | (simp; done) | (simp; omega)))) hb3))
   refine hK.out _ _ ?_ (fun hHeld => ?_)
   ·(first | (refine HCC.out _ ?_; (repeat' (first | with_reducible exact Below.refl _ _ | with_reducible assumption | with_reducible refine Below.drew ?_ | with_reducible refine Below.alloc ?_ ?_ _ | with_reducible refine Below.setCell ?_ ?_ _ | with_reducible refine Below.setW ?_ _ _ _ ?_ | omega | (simp; done) | (simp; omega))); done) | go_keep)
   clear hK K
   (try simp only [Act.put, List.getElem_toArray, List.getElem_cons_zero, List.getElem_cons_succ, List.setIfInBounds_toArray, List.set_cons_zero, List.set_cons_succ])
   refine wpS_take (i := 14) (v := ?_) rfl (by kernel_rfl) (fun _ _ _ h => h) (Or.inl ⟨by rfl, ?_⟩) (by assumption) ?_
   rotate_left
   ·(intro w9 hSw; (try dsimp only at hSw); go_simp; (try with_reducible rfl))
   (try simp only [Act.put, List.getElem_toArray, List.getElem_cons_zero, List.getElem_cons_succ, List.setIfInBounds_toArray, List.set_cons_zero, List.set_cons_succ])
   refine wpS_take (i := 15) (v := ?_) rfl (by kernel_rfl) (fun _ _ _ h => h) (Or.inl ⟨by rfl, ?_⟩) (by assumption) ?_
   rotate_left
   ·(intro w9 hSw; (try dsimp only at hSw); go_simp; (try with_reducible rfl))
   (try simp only [Act.put, List.getElem_toArray, List.getElem_cons_zero, List.getElem_cons_succ, List.setIfInBounds_toArray, List.set_cons_zero, List.set_cons_succ])
   refine wpS_take (i := 16) (v := ?_) rfl (by kernel_rfl) (fun _ _ _ h => h) (Or.inl ⟨by rfl, ?_⟩) (by assumption) ?_
   rotate_left
   ·(intro w9 hSw; (try dsimp only at hSw); go_simp; (try with_reducible rfl))
   (try simp only [Act.put, List.getElem_toArray, List.getElem_cons_zero, List.getElem_cons_succ, List.setIfInBounds_toArray, List.set_cons_zero, List.set_cons_succ])
   refine wpS_ready (rs := [17]) (by kernel_rfl) (by simp) ?_
   refine AllReadyS.last rfl (by kernel_rfl) (fun K hK => ?_)
   go_simp
   refine hK.out _ _ ?_
   clear hK K
   (try simp only [Act.put, List.getElem_toArray, List.getElem_cons_zero, List.getElem_cons_succ, List.setIfInBounds_toArray, List.set_cons_zero, List.set_cons_succ])
   refine wpS_done (by kernel_rfl) ?_ _
   go_wp2_with fail
   go_roundw
   case rel => exact ⟨j + 1, hlt, by go_num, by rw [HST.out, HG.out]; (try simp only [wrapE]), Lib.hid (SN.out.next (by (repeat' (first | with_reducible exact Below.refl _ _ | with_reducible assumption | with_reducible refine Below.drew ?_ | with_reducible refine Below.alloc ?_ ?_ _ | with_reducible refine Below.setCell ?_ ?_ _ | with_reducible refine Below.setW ?_ _ _ _ ?_ | omega | (simp; done) | (simp; omega)))))⟩
   case measure => simp [intOf] <;> omega
  ·obtain rfl : j = (onPal x k).length := by omega
   rw [List.take_length]
   go_wp2
   go_ret
   exact ⟨by rw [HM.out]; rfl, SN.out.low⟩
set_option maxRecDepth 100000 in
set_option maxHeartbeats 2000000 in
theorem sTop_any (v vx : Value) (r : Request) (x : Plan) (k : Int) (w : World) (h : RReq 16777216 w w.heap.size v r) (hx : RPlan 16777216 w w.heap.size vx x) (hL : x.bulk ≤ 16777216) : Calls Tryz.prog 21 #[v, vx, .int .i64 k] w fun e w' => e = .returned (.int .i64 (topR r x k)) ∧ Below w.heap.size w w' := by
 have HR := Lib.hid h
 have HX := Lib.hid hx
 obtain ⟨A1, c1, A2, c2, A3, c3, rfl, _⟩ := h.opn
 obtain ⟨PA, ca, PB, cb, rfl, HPA, HPB, hla, hlb⟩ := hx.opn
 have hol := onPal_le x k
 have hS := ((Sit.here w).alloc #[.int .i64 r.way, .int .i64 r.pallet.w, .int .i64 r.pallet.d, .int .i64 r.pallet.h, .int .i64 r.pallet.gram, .int .i64 r.classes, .slice A1 r.pairs.length c1, .slice A2 r.types.length c2, .int .i64 r.master, .slice A3 r.items.length c3] 41).alloc #[.slice PA x.cartons.length ca, .slice PB x.spots.length cb] 46
 simp only [World.size_alloc] at hS
 have SN := Lib.hid hS
 obtain ⟨q, hq⟩ : ∃ q, feasible r x = q := ⟨_, rfl⟩
 have HQ := Lib.hid hq
 have HM := Lib.hid (show topR r x k = if q = true then (onPal x k).foldl (topStep r x) 0 else 0 by unfold topR; rw [hq])
 clear h hx hS hq
 go_enter Tryz.func21, Tryz.ntmps21
 have k0 := SN.out.box (.tail _ (.head _)); have l0 := SN.out.boxlt (.tail _ (.head _)); have k1 := SN.out.box (.head _); have l1 := SN.out.boxlt (.head _)
 go_wp2_with fail
 refine (sFeasible_any _ _ r x _ (HR.out.next SN.out.low) (HX.out.next SN.out.low) hL).mono ?_
 rintro e1 w1 ⟨rfl, hb1⟩
 rw [HQ.out]
 have SN := Lib.hid (SN.out.next hb1)
 clear k0 l0 k1 l1 hb1
 cases q
 ·go_wp2
  go_ret
  exact ⟨by rw [HM.out]; rfl, SN.out.low⟩
 have k1 := SN.out.box (.head _)
 have l1 := SN.out.boxlt (.head _)
 go_wp2_with fail
 refine (sOnPallet_any _ x k _ (HX.out.next SN.out.low)).mono ?_
 intro e2 w2 hm
 obtain ⟨v2, fk, rfl, hS⟩ := SN.out.gotInts hm
 obtain ⟨D, d, rfl, _⟩ := (hS.list (.head _)).form
 have SN := Lib.hid hS
 clear k1 l1 hS hm
 go_wp2
 go_loopw [7, 9] (fun n i wr => ∃ (j : Nat), j ≤ (onPal x k).length ∧ i = .int .i64 j ∧ n = .int .i64 (((onPal x k).take j).foldl (topStep r x) 0) ∧ Hid (Sit w wr [fOF cI 3 1 w.heap.size (.slice D (onPal x k).length d) (onPal x k) fk, fBox (w.heap.size + 1) #[.slice PA x.cartons.length ca, .slice PB x.spots.length cb] 46, fBox w.heap.size #[.int .i64 r.way, .int .i64 r.pallet.w, .int .i64 r.pallet.d, .int .i64 r.pallet.h, .int .i64 r.pallet.gram, .int .i64 r.classes, .slice A1 r.pairs.length c1, .slice A2 r.types.length c2, .int .i64 r.master, .slice A3 r.items.length c3] 41])) (fun _ i _ => (onPal x k).length - (intOf i).toNat)
 case atStart => exact ⟨0, Nat.zero_le _, rfl, rfl, SN⟩
 case round =>
  clear SN
  obtain ⟨j, hj, rfl, rfl, SN⟩ := hrel
  by_cases hlt : j < (onPal x k).length
  ·obtain ⟨i, hi⟩ : ∃ i, (onPal x k)[j]? = some i := ⟨_, List.getElem?_eq_getElem hlt⟩
   obtain ⟨m, rfl, hm1, hm2⟩ := onPal_in hi
   obtain ⟨gd, rfl⟩ := head_ptr (SN.out.list (.head _)) hi
   have HI := Lib.hid hi
   obtain ⟨b, off, c, U, cu, rfl, hb, hc, HU, HC⟩ := HPA.out.one m hm1
   obtain ⟨b2, off2, s, rfl, hb2, hs, HC2⟩ := HPB.out.one m hm2
   have HST := Lib.hid (foldl_take_step (f := topStep r x) (b := 0) hi)
   obtain ⟨G, hG⟩ : ∃ G, ((onPal x k).take j).foldl (topStep r x) 0 = G := ⟨_, rfl⟩
   obtain ⟨bx, hbx⟩ : ∃ bx, boxR r c = bx := ⟨_, rfl⟩
   have HBX := Lib.hid hbx
   have HG := Lib.hid (show topStep r x G (m : Int) = max G (wrap64 (s.z + bx.h)) by unfold topStep; rw [spotAt_at hs, boxAt_nat hc, hbx])
   rw [hG] at HST ⊢
   have HCC := Lib.hid (show ∀ X : World, Below wr.heap.size wr X → (X.cell? ⟨w.heap.size, 0, none⟩ = some (.int .i64 r.way) ∧ X.cell? ⟨w.heap.size, 1, none⟩ = some (.int .i64 r.pallet.w) ∧ X.cell? ⟨w.heap.size, 2, none⟩ = some (.int .i64 r.pallet.d) ∧ X.cell? ⟨w.heap.size, 3, none⟩ = some (.int .i64 r.pallet.h) ∧ X.cell? ⟨w.heap.size, 4, none⟩ = some (.int .i64 r.pallet.gram) ∧ X.cell? ⟨w.heap.size, 5, none⟩ = some (.int .i64 r.classes) ∧ X.cell? ⟨w.heap.size, 6, none⟩ = some (.slice A1 r.pairs.length c1) ∧ X.cell? ⟨w.heap.size, 7, none⟩ = some (.slice A2 r.types.length c2) ∧ X.cell? ⟨w.heap.size, 8, none⟩ = some (.int .i64 r.master) ∧ X.cell? ⟨w.heap.size, 9, none⟩ = some (.slice A3 r.items.length c3)) ∧ (X.cell? ⟨w.heap.size + 1, 0, none⟩ = some (.slice (some ⟨b, off, none⟩) x.cartons.length ca) ∧ X.cell? ⟨w.heap.size + 1, 1, none⟩ = some (.slice (some ⟨b2, off2, none⟩) x.spots.length cb)) ∧ X.cell? ⟨gd, j, none⟩ = some (.int .i64 (m : Int)) ∧ ((X.cell? ⟨b, off + m * 3, none⟩ = some (.int .i64 c.type) ∧ X.cell? ⟨b, off + m * 3 + 1, none⟩ = some (.int .i64 c.group) ∧ X.cell? ⟨b, off + m * 3 + 2, none⟩ = some (.slice U c.units.length cu))) ∧ (X.cell? ⟨b2, off2 + m * 4, none⟩ = some (.int .i64 s.pallet) ∧ X.cell? ⟨b2, off2 + m * 4 + 1, none⟩ = some (.int .i64 s.x) ∧ X.cell? ⟨b2, off2 + m * 4 + 2, none⟩ = some (.int .i64 s.y) ∧ X.cell? ⟨b2, off2 + m * 4 + 3, none⟩ = some (.int .i64 s.z)) from fun X hX => by
    have hX := SN.out.next hX
    have c0 := hX.box (.tail _ (.tail _ (.head _)))
    have hcu := (hX.list (.head _)).cells (fun z => rfl) HI.out 0 (.int .i64 (m : Int)) rfl
    rw [Nat.mul_one, Nat.add_zero] at hcu
    exact ⟨⟨c0 0, c0 1, c0 2, c0 3, c0 4, c0 5, c0 6, c0 7, c0 8, c0 9⟩, ⟨hX.box (.tail _ (.head _)) 0, hX.box (.tail _ (.head _)) 1⟩, hcu, HC.out X hX.low, HC2.out X hX.low⟩)
   have hfld := fun W => box_field2 bx.w bx.d bx.h bx.gram W
   clear hi hc hs hG hbx
   go_wp2
   refine wp_region_S (S := (fun W' => ((W'.cell? ⟨w.heap.size, 0, none⟩ = some (.int .i64 r.way) ∧ W'.cell? ⟨w.heap.size, 1, none⟩ = some (.int .i64 r.pallet.w) ∧ W'.cell? ⟨w.heap.size, 2, none⟩ = some (.int .i64 r.pallet.d) ∧ W'.cell? ⟨w.heap.size, 3, none⟩ = some (.int .i64 r.pallet.h) ∧ W'.cell? ⟨w.heap.size, 4, none⟩ = some (.int .i64 r.pallet.gram) ∧ W'.cell? ⟨w.heap.size, 5, none⟩ = some (.int .i64 r.classes) ∧ W'.cell? ⟨w.heap.size, 6, none⟩ = some (.slice A1 r.pairs.length c1) ∧ W'.cell? ⟨w.heap.size, 7, none⟩ = some (.slice A2 r.types.length c2) ∧ W'.cell? ⟨w.heap.size, 8, none⟩ = some (.int .i64 r.master) ∧ W'.cell? ⟨w.heap.size, 9, none⟩ = some (.slice A3 r.items.length c3))) ∧ (W'.cell? ⟨w.heap.size + 1, 0, none⟩ = some (.slice (some ⟨b, off, none⟩) x.cartons.length ca) ∧ W'.cell? ⟨w.heap.size + 1, 1, none⟩ = some (.slice (some ⟨b2, off2, none⟩) x.spots.length cb)) ∧ W'.cell? ⟨gd, j, none⟩ = some (.int .i64 (m : Int)) ∧ ((W'.cell? ⟨b, off + m * 3, none⟩ = some (.int .i64 c.type) ∧ W'.cell? ⟨b, off + m * 3 + 1, none⟩ = some (.int .i64 c.group) ∧ W'.cell? ⟨b, off + m * 3 + 2, none⟩ = some (.slice U c.units.length cu))) ∧ (W'.cell? ⟨b2, off2 + m * 4, none⟩ = some (.int .i64 s.pallet) ∧ W'.cell? ⟨b2, off2 + m * 4 + 1, none⟩ = some (.int .i64 s.x) ∧ W'.cell? ⟨b2, off2 + m * 4 + 2, none⟩ = some (.int .i64 s.y) ∧ W'.cell? ⟨b2, off2 + m * 4 + 3, none⟩ = some (.int .i64 s.z)))) (by kernel_rfl) ?_ (fun hHeld => ?_)
   ·(first | (refine HCC.out _ ?_; (repeat' (first | with_reducible exact Below.refl _ _ | with_reducible assumption | with_reducible refine Below.drew ?_ | with_reducible refine Below.alloc ?_ ?_ _ | with_reducible refine Below.setCell ?_ ?_ _ | with_reducible refine Below.setW ?_ _ _ _ ?_ | omega | (simp; done) | (simp; omega))); done) | go_keep)
   refine wpS_take (i := 0) (v := ?_) rfl (by kernel_rfl) (fun _ _ _ h => h) (Or.inl ⟨by rfl, ?_⟩) (by assumption) ?_
   rotate_left
   ·(intro w9 hSw; (try dsimp only at hSw); go_simp; (try with_reducible rfl))
   (try simp only [Act.put, List.getElem_toArray, List.getElem_cons_zero, List.getElem_cons_succ, List.setIfInBounds_toArray, List.set_cons_zero, List.set_cons_succ])
   refine wpS_take (i := 1) (v := ?_) rfl (by kernel_rfl) (fun _ _ _ h => h) (Or.inl ⟨by rfl, ?_⟩) (by assumption) ?_
   rotate_left
   ·(intro w9 hSw; (try dsimp only at hSw); go_simp; (try with_reducible rfl))
   (try simp only [Act.put, List.getElem_toArray, List.getElem_cons_zero, List.getElem_cons_succ, List.setIfInBounds_toArray, List.set_cons_zero, List.set_cons_succ])
   refine wpS_take (i := 2) (v := ?_) rfl (by kernel_rfl) (fun _ _ _ h => h) (Or.inl ⟨by rfl, ?_⟩) (by assumption) ?_
   rotate_left
   ·(intro w9 hSw; (try dsimp only at hSw); go_simp; (try with_reducible rfl))
   (try simp only [Act.put, List.getElem_toArray, List.getElem_cons_zero, List.getElem_cons_succ, List.setIfInBounds_toArray, List.set_cons_zero, List.set_cons_succ])
   refine wpS_take (i := 3) (v := ?_) rfl (by kernel_rfl) (fun _ _ _ h => h) (Or.inl ⟨by rfl, ?_⟩) (by assumption) ?_
   rotate_left
   ·(intro w9 hSw; (try dsimp only at hSw); go_simp; (try with_reducible rfl))
   (try simp only [Act.put, List.getElem_toArray, List.getElem_cons_zero, List.getElem_cons_succ, List.setIfInBounds_toArray, List.set_cons_zero, List.set_cons_succ])
   refine wpS_take (i := 4) (v := ?_) rfl (by kernel_rfl) (fun _ _ _ h => h) (Or.inl ⟨by rfl, ?_⟩) (by assumption) ?_
   rotate_left
   ·(intro w9 hSw; (try dsimp only at hSw); go_simp; (try with_reducible rfl))
   (try simp only [Act.put, List.getElem_toArray, List.getElem_cons_zero, List.getElem_cons_succ, List.setIfInBounds_toArray, List.set_cons_zero, List.set_cons_succ])
   refine wpS_take (i := 5) (v := ?_) rfl (by kernel_rfl) (fun _ _ _ h => h) (Or.inl ⟨by rfl, ?_⟩) (by assumption) ?_
   rotate_left
   ·(intro w9 hSw; (try dsimp only at hSw); go_simp; (try with_reducible rfl))
   (try simp only [Act.put, List.getElem_toArray, List.getElem_cons_zero, List.getElem_cons_succ, List.setIfInBounds_toArray, List.set_cons_zero, List.set_cons_succ])
   refine wpS_take (i := 6) (v := ?_) rfl (by kernel_rfl) (fun _ _ _ h => h) (Or.inl ⟨by rfl, ?_⟩) (by assumption) ?_
   rotate_left
   ·(intro w9 hSw; (try dsimp only at hSw); go_simp; (try with_reducible rfl))
   (try simp only [Act.put, List.getElem_toArray, List.getElem_cons_zero, List.getElem_cons_succ, List.setIfInBounds_toArray, List.set_cons_zero, List.set_cons_succ])
   refine wpS_take (i := 7) (v := ?_) rfl (by kernel_rfl) (fun _ _ _ h => h) (Or.inl ⟨by rfl, ?_⟩) (by assumption) ?_
   rotate_left
   ·(intro w9 hSw; (try dsimp only at hSw); go_simp; (try with_reducible rfl))
   (try simp only [Act.put, List.getElem_toArray, List.getElem_cons_zero, List.getElem_cons_succ, List.setIfInBounds_toArray, List.set_cons_zero, List.set_cons_succ])
   refine wpS_take (i := 8) (v := ?_) rfl (by kernel_rfl) (fun _ _ _ h => h) (Or.inl ⟨by rfl, ?_⟩) (by assumption) ?_
   rotate_left
   ·(intro w9 hSw; (try dsimp only at hSw); go_simp; (try with_reducible rfl))
   (try simp only [Act.put, List.getElem_toArray, List.getElem_cons_zero, List.getElem_cons_succ, List.setIfInBounds_toArray, List.set_cons_zero, List.set_cons_succ])
   refine wpS_take (i := 9) (v := ?_) rfl (by kernel_rfl) (fun _ _ _ h => h) (Or.inl ⟨by rfl, ?_⟩) (by assumption) ?_
   rotate_left
   ·(intro w9 hSw; (try dsimp only at hSw); go_simp; (try with_reducible rfl))
   (try simp only [Act.put, List.getElem_toArray, List.getElem_cons_zero, List.getElem_cons_succ, List.setIfInBounds_toArray, List.set_cons_zero, List.set_cons_succ])
   refine wpS_take (i := 10) (v := ?_) rfl (by kernel_rfl) (fun _ _ _ h => h) (Or.inl ⟨by rfl, ?_⟩) (by assumption) ?_
   rotate_left
   ·(intro w9 hSw; (try dsimp only at hSw); go_simp; (try with_reducible rfl))
   (try simp only [Act.put, List.getElem_toArray, List.getElem_cons_zero, List.getElem_cons_succ, List.setIfInBounds_toArray, List.set_cons_zero, List.set_cons_succ])
   refine wpS_take (i := 11) (v := ?_) rfl (by kernel_rfl) (fun _ _ _ h => h) (Or.inl ⟨by rfl, ?_⟩) (by assumption) ?_
   rotate_left
   ·(intro w9 hSw; (try dsimp only at hSw); go_simp; (try with_reducible rfl))
   (try simp only [Act.put, List.getElem_toArray, List.getElem_cons_zero, List.getElem_cons_succ, List.setIfInBounds_toArray, List.set_cons_zero, List.set_cons_succ])
   refine wpS_take (i := 12) (v := ?_) rfl (by kernel_rfl) (fun _ _ _ h => h) (Or.inl ⟨by rfl, ?_⟩) (by assumption) ?_
   rotate_left
   ·(intro w9 hSw; (try dsimp only at hSw); go_simp; (try with_reducible rfl))
   (try simp only [Act.put, List.getElem_toArray, List.getElem_cons_zero, List.getElem_cons_succ, List.setIfInBounds_toArray, List.set_cons_zero, List.set_cons_succ])
   refine wpS_take (i := 13) (v := ?_) rfl (by kernel_rfl) (fun _ _ _ h => h) (Or.inl ⟨by rfl, ?_⟩) (by assumption) ?_
   rotate_left
   ·(intro w9 hSw; (try dsimp only at hSw); go_simp; (try with_reducible rfl))
   (try simp only [Act.put, List.getElem_toArray, List.getElem_cons_zero, List.getElem_cons_succ, List.setIfInBounds_toArray, List.set_cons_zero, List.set_cons_succ])
   refine wpS_take (i := 14) (v := ?_) rfl (by kernel_rfl) (fun _ _ _ h => h) (Or.inl ⟨by rfl, ?_⟩) (by assumption) ?_
   rotate_left
   ·(intro w9 hSw; (try dsimp only at hSw); go_simp; (try with_reducible rfl))
   (try simp only [Act.put, List.getElem_toArray, List.getElem_cons_zero, List.getElem_cons_succ, List.setIfInBounds_toArray, List.set_cons_zero, List.set_cons_succ])
   refine wpS_take (i := 15) (v := ?_) rfl (by kernel_rfl) (fun _ _ _ h => h) (Or.inl ⟨by rfl, ?_⟩) (by assumption) ?_
   rotate_left
   ·(intro w9 hSw; (try dsimp only at hSw); go_simp; (try with_reducible rfl))
   (try simp only [Act.put, List.getElem_toArray, List.getElem_cons_zero, List.getElem_cons_succ, List.setIfInBounds_toArray, List.set_cons_zero, List.set_cons_succ])
   refine wpS_take (i := 16) (v := ?_) rfl (by kernel_rfl) (fun _ _ _ h => h) (Or.inl ⟨by rfl, ?_⟩) (by assumption) ?_
   rotate_left
   ·(intro w9 hSw; (try dsimp only at hSw); go_simp; (try with_reducible rfl))
   (try simp only [Act.put, List.getElem_toArray, List.getElem_cons_zero, List.getElem_cons_succ, List.setIfInBounds_toArray, List.set_cons_zero, List.set_cons_succ])
   refine wpS_take (i := 17) (v := ?_) rfl (by kernel_rfl) (fun _ _ _ h => h) (Or.inl ⟨by rfl, ?_⟩) (by assumption) ?_
   rotate_left
   ·(intro w9 hSw; (try dsimp only at hSw); go_simp; (try with_reducible rfl))
   (try simp only [Act.put, List.getElem_toArray, List.getElem_cons_zero, List.getElem_cons_succ, List.setIfInBounds_toArray, List.set_cons_zero, List.set_cons_succ])
   refine wpS_take (i := 18) (v := ?_) rfl (by kernel_rfl) (fun _ _ _ h => h) (Or.inl ⟨by rfl, ?_⟩) (by assumption) ?_
   rotate_left
   ·(intro w9 hSw; (try dsimp only at hSw); go_simp; (try with_reducible rfl))
   (try simp only [Act.put, List.getElem_toArray, List.getElem_cons_zero, List.getElem_cons_succ, List.setIfInBounds_toArray, List.set_cons_zero, List.set_cons_succ])
   refine wpS_ready (rs := [19]) (by kernel_rfl) (by simp) ?_
   refine AllReadyS.cons rfl (by kernel_rfl) (fun K hK => ?_) AllReadyS.nil
   go_simp
   ((go_at_call 91; refine (sBoxOf_any _ _ r c _ (HR.out.next (SN.out.next (by (repeat' (first | with_reducible exact Below.refl _ _ | with_reducible assumption | with_reducible refine Below.drew ?_ | with_reducible refine Below.alloc ?_ ?_ _ | with_reducible refine Below.setCell ?_ ?_ _ | with_reducible refine Below.setW ?_ _ _ _ ?_ | omega | (simp; done) | (simp; omega))))).low) (HU.out.next (flat_mono _) (SN.out.next (by (repeat' (first | with_reducible exact Below.refl _ _ | with_reducible assumption | with_reducible refine Below.drew ?_ | with_reducible refine Below.alloc ?_ ?_ _ | with_reducible refine Below.setCell ?_ ?_ _ | with_reducible refine Below.setW ?_ _ _ _ ?_ | omega | (simp; done) | (simp; omega))))).low)).mono ?_; rintro e w3 ⟨rfl, hb3⟩; rw [HBX.out]; have hn3 := bstep (a := wr) (by (repeat' (first | with_reducible exact Below.refl _ _ | with_reducible assumption | with_reducible refine Below.drew ?_ | with_reducible refine Below.alloc ?_ ?_ _ | with_reducible refine Below.setCell ?_ ?_ _ | with_reducible refine Below.setW ?_ _ _ _ ?_ | omega | (simp; done) | (simp; omega)))) hb3))
   refine hK.out _ _ ?_ (fun hHeld => ?_)
   ·(first | (refine HCC.out _ ?_; (repeat' (first | with_reducible exact Below.refl _ _ | with_reducible assumption | with_reducible refine Below.drew ?_ | with_reducible refine Below.alloc ?_ ?_ _ | with_reducible refine Below.setCell ?_ ?_ _ | with_reducible refine Below.setW ?_ _ _ _ ?_ | omega | (simp; done) | (simp; omega))); done) | go_keep)
   clear hK K
   (try simp only [Act.put, List.getElem_toArray, List.getElem_cons_zero, List.getElem_cons_succ, List.setIfInBounds_toArray, List.set_cons_zero, List.set_cons_succ])
   refine wpS_take (i := 20) (v := ?_) rfl (by kernel_rfl) (fun _ _ _ h => h) (Or.inl ⟨by rfl, ?_⟩) (by assumption) ?_
   rotate_left
   ·(intro w9 hSw; (try dsimp only at hSw); go_simp; (try with_reducible rfl))
   (try simp only [Act.put, List.getElem_toArray, List.getElem_cons_zero, List.getElem_cons_succ, List.setIfInBounds_toArray, List.set_cons_zero, List.set_cons_succ])
   refine wpS_take (i := 21) (v := ?_) rfl (by kernel_rfl) (fun _ _ _ h => h) (Or.inl ⟨by rfl, ?_⟩) (by assumption) ?_
   rotate_left
   ·(intro w9 hSw; (try dsimp only at hSw); go_simp; (try with_reducible rfl))
   (try simp only [Act.put, List.getElem_toArray, List.getElem_cons_zero, List.getElem_cons_succ, List.setIfInBounds_toArray, List.set_cons_zero, List.set_cons_succ])
   refine wpS_ready (rs := [22]) (by kernel_rfl) (by simp) ?_
   refine AllReadyS.cons rfl (by kernel_rfl) (fun K hK => ?_) AllReadyS.nil
   go_simp
   ((go_at_call 90; refine (l1Max_any _ _ _).mono ?_; rintro e w' ⟨rfl, rfl⟩))
   refine hK.out _ _ ?_ (fun hHeld => ?_)
   ·(first | (refine HCC.out _ ?_; (repeat' (first | with_reducible exact Below.refl _ _ | with_reducible assumption | with_reducible refine Below.drew ?_ | with_reducible refine Below.alloc ?_ ?_ _ | with_reducible refine Below.setCell ?_ ?_ _ | with_reducible refine Below.setW ?_ _ _ _ ?_ | omega | (simp; done) | (simp; omega))); done) | go_keep)
   clear hK K
   (try simp only [Act.put, List.getElem_toArray, List.getElem_cons_zero, List.getElem_cons_succ, List.setIfInBounds_toArray, List.set_cons_zero, List.set_cons_succ])
   refine wpS_ready (rs := [23]) (by kernel_rfl) (by simp) ?_
   refine AllReadyS.last rfl (by kernel_rfl) (fun K hK => ?_)
   go_simp
   refine hK.out _ _ ?_
   clear hK K
   (try simp only [Act.put, List.getElem_toArray, List.getElem_cons_zero, List.getElem_cons_succ, List.setIfInBounds_toArray, List.set_cons_zero, List.set_cons_succ])
   refine wpS_done (by kernel_rfl) ?_ _
   go_wp2_with fail
   go_roundw
   case rel => exact ⟨j + 1, hlt, by go_num, by rw [HST.out, HG.out]; (try simp only [wrapE]), Lib.hid (SN.out.next (by (repeat' (first | with_reducible exact Below.refl _ _ | with_reducible assumption | with_reducible refine Below.drew ?_ | with_reducible refine Below.alloc ?_ ?_ _ | with_reducible refine Below.setCell ?_ ?_ _ | with_reducible refine Below.setW ?_ _ _ _ ?_ | omega | (simp; done) | (simp; omega)))))⟩
   case measure => simp [intOf] <;> omega
  ·obtain rfl : j = (onPal x k).length := by omega
   rw [List.take_length]
   go_wp2
   go_ret
   exact ⟨by rw [HM.out]; rfl, SN.out.low⟩
end Go.Proofs.YtioijfplbgpjpaaGreat
namespace Go.Proofs.YtioijfplbgpjpaaGreat
set_option linter.unusedVariables false
set_option linter.unusedSimpArgs false
set_option maxRecDepth 100000
open Go.RowKit Go.WideShapes Go.ChangeShapes Go.ChangeAt Go.Deep
set_option maxRecDepth 100000
theorem tells_Carton {H : Type} {enc : TypeId × Value → H} {w : World} {B : Nat} : Tells enc Tryz.prog w true 163 B 3 (RCarton 9223372036854775807) := fun n cs y h hB => by
 obtain ⟨hl, hf⟩ := trod_fields Tryz.underlying163 (by kernel_rfl) (by kernel_rfl) h
 obtain ⟨_, c0, _, g0, _, t0⟩ := hf 0 _ rfl
 obtain ⟨_, c1, _, g1, _, t1⟩ := hf 1 _ rfl
 obtain ⟨n2, c2, y2, g2, s2, t2⟩ := hf 2 _ rfl
 obtain ⟨a0, e0, _⟩ := DataW.trod_int Tryz.underlying3 t0
 obtain ⟨a1, e1, _⟩ := DataW.trod_int Tryz.underlying3 t1
 obtain ⟨v, xs, e2, hr⟩ := tells_slice Tryz.underlying53 (by kernel_rfl) (by omega) (tells_int Tryz.underlying3) t2 (fun p hp => hB p (s2 p hp))
 injection e0 with e0
 injection e1 with e1
 injection e2 with e2
 subst e0 e1 e2
 match cs, hl with
 |[d0, d1, d2], _ =>
  simp only [List.getElem?_cons_zero, List.getElem?_cons_succ, Option.some.injEq] at g0 g1 g2
  subst g0 g1 g2
  exact ⟨⟨a0, a1, xs⟩, rfl, _, rfl, hr⟩
theorem read_Plan {H : Type} {enc : TypeId × Value → H} {w : World} {b0 : Nat} {v : Value} {d : DataW H} {ps : List MemPlace} (hv : Value.okWide Tryz.prog w .any b0 32 v) (h : DataW.Trod enc Tryz.prog w 0 (fun _ => true) true 32 v d ps) (hlt : ∀ p ∈ ps, p.block < w.heap.size) :
  ∃ p, RPlan 9223372036854775807 w w.heap.size v p := by
 obtain ⟨cs, rfl, hsz⟩ := okWide_struct Tryz.underlying32 hv
 obtain ⟨n, hn⟩ := h
 obtain ⟨hl, hf⟩ := trod_fields Tryz.underlying32 (by kernel_rfl) (by kernel_rfl) hn
 obtain ⟨n0, c0, y0, g0, s0, t0⟩ := hf 0 _ rfl
 obtain ⟨n1, c1, y1, g1, s1, t1⟩ := hf 1 _ rfl
 obtain ⟨v0, xs, e0, hr0⟩ := tells_slice Tryz.underlying29 (by kernel_rfl) (by omega) tells_Carton t0 (fun p hp => hlt p (s0 p hp))
 obtain ⟨v1, ys, e1, hr1⟩ := tells_slice Tryz.underlying30 (by kernel_rfl) (by omega) tells_Spot t1 (fun p hp => hlt p (s1 p hp))
 injection e0 with e0
 injection e1 with e1
 subst e0 e1
 obtain ⟨l⟩ := cs
 match l, hl with
 |[d0, d1], _ =>
  simp only [Value.cells, List.getElem?_cons_zero, List.getElem?_cons_succ, Option.some.injEq] at g0 g1
  subst g0 g1
  exact ⟨⟨xs, ys⟩, _, _, rfl, hr0, hr1⟩
end Go.Proofs.YtioijfplbgpjpaaGreat
