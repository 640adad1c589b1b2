/-
  The law FnExactScaled: whatever the order and the factor, the program's Scaled answers what the reference's answers, in memory of its own, and leaves the order alone.
-/
import Derived.Test.YteamlfcfillbjaaGreatRzs
import Derived.Test.YteamlfcfillbjaaGreatSi
import Derived.Test.YteamlfcfillbjaaGreatFr
import Derived.Deep.Light
import Derived.Deep.DeepCutAuto
import Derived.Deep.RegionHeld3
namespace Go.Proofs.YteamlfcfillbjaaGreat
set_option linter.unusedVariables false
set_option linter.unusedSimpArgs false
set_option maxRecDepth 100000
open Go.RowKit Go.WideShapes Go.ChangeShapes Go.ChangeAt Go.Deep
open Go.ChangeMaps (open_string shut_string)
set_option maxRecDepth 100000 in
set_option maxHeartbeats 4000000 in
theorem FnExactScaled_walk (v0 : Value) (x : Int) (w : World) (h0 : ∃ p, RReq 9223372036854775807 w w.heap.size v0 p) (h1 : (Lit.int .i64 x).wf = true) :
    Calls Tryz.prog 6 #[v0, .int .i64 x] w fun e w' => e = .returned (.bool true) ∧ Below w.heap.size w w' := by
  obtain ⟨p, h0⟩ := h0
  obtain ⟨A1, a1, A2, a2, A3, a3, rfl, _, lb1, lb2, lb3, lc1, lc2, lc3⟩ := h0.opn
  have H0 := Lib.hid h0
  have hS := ((Sit.here w).alloc #[.int .i64 p.way, .int .i64 p.pallet.w, .int .i64 p.pallet.d, .int .i64 p.pallet.h, .int .i64 p.pallet.gram, .int .i64 p.classes, .slice A1 p.pairs.length a1, .slice A2 p.types.length a2, .int .i64 p.master, .slice A3 p.items.length a3] 28)
  obtain ⟨l, hl⟩ : ∃ l, [fBox w.heap.size #[.int .i64 p.way, .int .i64 p.pallet.w, .int .i64 p.pallet.d, .int .i64 p.pallet.h, .int .i64 p.pallet.gram, .int .i64 p.classes, .slice A1 p.pairs.length a1, .slice A2 p.types.length a2, .int .i64 p.master, .slice A3 p.items.length a3] 28] = l := ⟨_, rfl⟩
  have MA := Lib.hid (show fBox w.heap.size #[.int .i64 p.way, .int .i64 p.pallet.w, .int .i64 p.pallet.d, .int .i64 p.pallet.h, .int .i64 p.pallet.gram, .int .i64 p.classes, .slice A1 p.pairs.length a1, .slice A2 p.types.length a2, .int .i64 p.master, .slice A3 p.items.length a3] 28 ∈ l by rw [← hl]; simp)
  rw [hl] at hS
  have SN := Lib.hid hS
  have hz := szRequest_any _ p 1048576 _ (H0.out.next hS.low) (by omega) (by omega)
  obtain ⟨t0, ht⟩ : ∃ t, szR 1048576 ((p).bulk : Nat) = t := ⟨_, rfl⟩
  rw [ht] at hz
  have HT0 := Lib.hid ht
  have HZ := Lib.hid hz
  clear h0 hS hz ht hl
  go_enter Tryz.func6, Tryz.ntmps6
  go_wp2_with fail
  refine HZ.out.mono ?_
  rintro e w1 ⟨rfl, hb⟩
  have SN := Lib.hid (SN.out.next hb)
  clear HZ hb
  by_cases hneg : t0 < 0
  · go_wp2
    go_ret
    exact ⟨rfl, SN.out.low⟩
  have hle0 := szR_ok (show 0 ≤ szR 1048576 ((p).bulk : Nat) by rw [HT0.out]; omega)
  have H0 := Lib.hid (H0.out.wide (show (p).bulk ≤ 16777216 by omega))
  have hL : p.bulk ≤ 1048576 := by omega
  clear HT0 hle0
  obtain ⟨q, b, hq⟩ : ∃ q b, scaled p x = (q, b) := ⟨_, _, rfl⟩
  have HI := Lib.hid fun (v : Value) (W : World) (h : RReq 16777216 W W.heap.size v p) => iScaled_any v p x W h hL
  have HP := Lib.hid fun (v : Value) (W : World) (h : RReq 16777216 W W.heap.size v p) => sScaled_any v p x W h hL
  rw [hq] at HI HP
  dsimp only at HI HP
  have hqb : q.bulk ≤ 1048577 := by
    have h : q = (scaled p x).1 := by rw [hq]
    rw [h]
    have := scaled_bulk p x
    omega
  have hcp : cntR p ≤ 7340032 := by have := cntR_le p; omega
  have hcq : cntR q ≤ 7340039 := by have := cntR_le q; omega
  clear hq
  have kA := SN.out.box MA.out
  have lA := SN.out.boxlt MA.out
  go_wp2_with fail
  refine (toRequest_any _ p _ (H0.out.next SN.out.low)).mono ?_
  rintro e w2 ⟨u, f2, rfl, ho, hb⟩
  have SN := Lib.hid (SN.out.next hb)
  clear hb
  go_wp2_with fail
  refine (HP.out _ _ (ho.read (by omega))).mono ?_
  rintro e w3 ⟨u, f3, rfl, ho, hb⟩
  obtain ⟨E1, e1, E2, e2, E3, e3, rfl⟩ := ho.form
  have SN := Lib.hid (SN.out.req hb ho)
  clear ho hb
  have SN := Lib.hid (SN.out.alloc #[.int .i64 q.way, .int .i64 q.pallet.w, .int .i64 q.pallet.d, .int .i64 q.pallet.h, .int .i64 q.pallet.gram, .int .i64 q.classes, .slice E1 q.pairs.length e1, .slice E2 q.types.length e2, .int .i64 q.master, .slice E3 q.items.length e3] 37)
  clear kA lA
  have kA := SN.out.box (.tail _ (.tail _ MA.out))
  have lA := SN.out.boxlt (.tail _ (.tail _ MA.out))
  go_wp2_with fail
  refine (toRequest_any _ p _ (H0.out.next SN.out.low)).mono ?_
  rintro e w4 ⟨u, f4, rfl, ho, hb⟩
  obtain ⟨X1, x1, X2, x2, X3, x3, rfl⟩ := ho.form
  have SN := Lib.hid (SN.out.req hb ho)
  clear ho hb
  have SN := Lib.hid (SN.out.alloc #[.int .i64 p.way, .int .i64 p.pallet.w, .int .i64 p.pallet.d, .int .i64 p.pallet.h, .int .i64 p.pallet.gram, .int .i64 p.classes, .slice X1 p.pairs.length x1, .slice X2 p.types.length x2, .int .i64 p.master, .slice X3 p.items.length x3] 37)
  clear kA lA
  have kbx := SN.out.box (.head _)
  have lbx := SN.out.boxlt (.head _)
  go_wp2_with fail
  refine (HI.out _ _ ((SN.out.own (.tail _ (.head _))).read (by omega))).mono ?_
  rintro e w5 ⟨u, f5, rfl, ho, hb⟩
  obtain ⟨G1, g1, G2, g2, G3, g3, rfl⟩ := ho.form
  have SN := Lib.hid (SN.out.req hb ho)
  clear ho hb
  have SN := Lib.hid (SN.out.alloc #[.int .i64 q.way, .int .i64 q.pallet.w, .int .i64 q.pallet.d, .int .i64 q.pallet.h, .int .i64 q.pallet.gram, .int .i64 q.classes, .slice G1 q.pairs.length g1, .slice G2 q.types.length g2, .int .i64 q.master, .slice G3 q.items.length g3] 37)
  clear kbx lbx
  have kbg := SN.out.box (.head _)
  have lbg := SN.out.boxlt (.head _)
  have kbe := SN.out.box (.tail _ (.tail _ (.tail _ (.tail _ (.head _)))))
  have lbe := SN.out.boxlt (.tail _ (.tail _ (.tail _ (.tail _ (.head _)))))
  go_wp2_with fail
  refine (eqRequest_any _ _ q q _ ((SN.out.own (.tail _ (.head _))).read (by omega)) ((SN.out.own (.tail _ (.tail _ (.tail _ (.tail _ (.tail _ (.head _))))))).read (by omega))).mono ?_
  rintro e w6 ⟨rfl, hb⟩
  have SN := Lib.hid (SN.out.next hb)
  clear hb
  clear kbg lbg kbe lbe
  have HC := Lib.hid (show ∀ (X : World) (_ : Below w6.heap.size w6 X), (X.cell? ⟨w4.heap.size, 0, none⟩ = some (.int .i64 p.way) ∧ X.cell? ⟨w4.heap.size, 1, none⟩ = some (.int .i64 p.pallet.w) ∧ X.cell? ⟨w4.heap.size, 2, none⟩ = some (.int .i64 p.pallet.d) ∧ X.cell? ⟨w4.heap.size, 3, none⟩ = some (.int .i64 p.pallet.h) ∧ X.cell? ⟨w4.heap.size, 4, none⟩ = some (.int .i64 p.pallet.gram) ∧ X.cell? ⟨w4.heap.size, 5, none⟩ = some (.int .i64 p.classes) ∧ X.cell? ⟨w4.heap.size, 6, none⟩ = some (.slice X1 p.pairs.length x1) ∧ X.cell? ⟨w4.heap.size, 7, none⟩ = some (.slice X2 p.types.length x2) ∧ X.cell? ⟨w4.heap.size, 8, none⟩ = some (.int .i64 p.master) ∧ X.cell? ⟨w4.heap.size, 9, none⟩ = some (.slice X3 p.items.length x3)) ∧ (X.cell? ⟨w.heap.size, 0, none⟩ = some (.int .i64 p.way) ∧ X.cell? ⟨w.heap.size, 1, none⟩ = some (.int .i64 p.pallet.w) ∧ X.cell? ⟨w.heap.size, 2, none⟩ = some (.int .i64 p.pallet.d) ∧ X.cell? ⟨w.heap.size, 3, none⟩ = some (.int .i64 p.pallet.h) ∧ X.cell? ⟨w.heap.size, 4, none⟩ = some (.int .i64 p.pallet.gram) ∧ X.cell? ⟨w.heap.size, 5, none⟩ = some (.int .i64 p.classes) ∧ X.cell? ⟨w.heap.size, 6, none⟩ = some (.slice A1 p.pairs.length a1) ∧ X.cell? ⟨w.heap.size, 7, none⟩ = some (.slice A2 p.types.length a2) ∧ X.cell? ⟨w.heap.size, 8, none⟩ = some (.int .i64 p.master) ∧ X.cell? ⟨w.heap.size, 9, none⟩ = some (.slice A3 p.items.length a3)) from fun X h => by
    have c0 := (SN.out.next h).box (.tail _ (.tail _ (.head _)))
    have c1 := (SN.out.next h).box (.tail _ (.tail _ (.tail _ (.tail _ (.tail _ (.tail _ MA.out))))))
    exact ⟨⟨c0 0, c0 1, c0 2, c0 3, c0 4, c0 5, c0 6, c0 7, c0 8, c0 9⟩, c1 0, c1 1, c1 2, c1 3, c1 4, c1 5, c1 6, c1 7, c1 8, c1 9⟩)
  have kbx := SN.out.box (.tail _ (.tail _ (.head _)))
  have lbx := SN.out.boxlt (.tail _ (.tail _ (.head _)))
  have kA := SN.out.box (.tail _ (.tail _ (.tail _ (.tail _ (.tail _ (.tail _ MA.out))))))
  have lA := SN.out.boxlt (.tail _ (.tail _ (.tail _ (.tail _ (.tail _ (.tail _ MA.out))))))
  go_wp2_with fail
  go_region_held3 (fun W' => (W'.cell? ⟨w4.heap.size, 0, none⟩ = some (.int .i64 p.way) ∧ W'.cell? ⟨w4.heap.size, 1, none⟩ = some (.int .i64 p.pallet.w) ∧ W'.cell? ⟨w4.heap.size, 2, none⟩ = some (.int .i64 p.pallet.d) ∧ W'.cell? ⟨w4.heap.size, 3, none⟩ = some (.int .i64 p.pallet.h) ∧ W'.cell? ⟨w4.heap.size, 4, none⟩ = some (.int .i64 p.pallet.gram) ∧ W'.cell? ⟨w4.heap.size, 5, none⟩ = some (.int .i64 p.classes) ∧ W'.cell? ⟨w4.heap.size, 6, none⟩ = some (.slice X1 p.pairs.length x1) ∧ W'.cell? ⟨w4.heap.size, 7, none⟩ = some (.slice X2 p.types.length x2) ∧ W'.cell? ⟨w4.heap.size, 8, none⟩ = some (.int .i64 p.master) ∧ W'.cell? ⟨w4.heap.size, 9, none⟩ = some (.slice X3 p.items.length x3)) ∧ (W'.cell? ⟨w.heap.size, 0, none⟩ = some (.int .i64 p.way) ∧ W'.cell? ⟨w.heap.size, 1, none⟩ = some (.int .i64 p.pallet.w) ∧ W'.cell? ⟨w.heap.size, 2, none⟩ = some (.int .i64 p.pallet.d) ∧ W'.cell? ⟨w.heap.size, 3, none⟩ = some (.int .i64 p.pallet.h) ∧ W'.cell? ⟨w.heap.size, 4, none⟩ = some (.int .i64 p.pallet.gram) ∧ W'.cell? ⟨w.heap.size, 5, none⟩ = some (.int .i64 p.classes) ∧ W'.cell? ⟨w.heap.size, 6, none⟩ = some (.slice A1 p.pairs.length a1) ∧ W'.cell? ⟨w.heap.size, 7, none⟩ = some (.slice A2 p.types.length a2) ∧ W'.cell? ⟨w.heap.size, 8, none⟩ = some (.int .i64 p.master) ∧ W'.cell? ⟨w.heap.size, 9, none⟩ = some (.slice A3 p.items.length a3)))
    (first | (refine HC.out _ ?_; (repeat' (first | with_reducible exact Below.refl _ _ | with_reducible assumption | with_reducible refine Below.drew ?_ | with_reducible refine Below.alloc ?_ ?_ _ | with_reducible refine Below.setCell ?_ ?_ _ | with_reducible refine Below.setW ?_ _ _ _ ?_ | omega | (simp; done) | (simp; omega))); done) | go_keep)
    (first
      | (go_at_call 9; refine (toRequest_any _ p _ (H0.out.next (SN.out.next (by (repeat' (first | with_reducible exact Below.refl _ _ | with_reducible assumption | with_reducible refine Below.drew ?_ | with_reducible refine Below.alloc ?_ ?_ _ | with_reducible refine Below.setCell ?_ ?_ _ | with_reducible refine Below.setW ?_ _ _ _ ?_ | omega | (simp; done) | (simp; omega))))).low)).mono ?_; rintro e w7 ⟨u2, f2, rfl, ho2, hb7⟩; have hn7 := bstep (a := w6) (by (repeat' (first | with_reducible exact Below.refl _ _ | with_reducible assumption | with_reducible refine Below.drew ?_ | with_reducible refine Below.alloc ?_ ?_ _ | with_reducible refine Below.setCell ?_ ?_ _ | with_reducible refine Below.setW ?_ _ _ _ ?_ | omega | (simp; done) | (simp; omega)))) hb7)
      | (go_at_call 12; refine (eqRequest_any _ _ p p _ (((SN.out.next (show Below w6.heap.size w6 _ by (repeat' (first | with_reducible exact Below.refl _ _ | with_reducible assumption | with_reducible refine Below.drew ?_ | with_reducible refine Below.alloc ?_ ?_ _ | with_reducible refine Below.setCell ?_ ?_ _ | with_reducible refine Below.setW ?_ _ _ _ ?_ | omega | (simp; done) | (simp; omega))))).own (.tail _ (.tail _ (.tail _ (.head _))))).read (by omega)) (ho2.read (by omega))).mono ?_; rintro e w8 ⟨rfl, hb8⟩; have hn8 := bstep (a := w6) (by (repeat' (first | with_reducible exact Below.refl _ _ | with_reducible assumption | with_reducible refine Below.drew ?_ | with_reducible refine Below.alloc ?_ ?_ _ | with_reducible refine Below.setCell ?_ ?_ _ | with_reducible refine Below.setW ?_ _ _ _ ?_ | omega | (simp; done) | (simp; omega)))) hb8))
  have SN := Lib.hid (SN.out.next hn8)
  clear HC hn8 hb8 hn7 hb7 ho2
  clear kbx lbx kA lA
  have kbx := SN.out.box (.tail _ (.tail _ (.head _)))
  have lbx := SN.out.boxlt (.tail _ (.tail _ (.head _)))
  go_wp2_with fail
  refine (markRequest_any _ p _ (1) _ _ (SN.out.own (.tail _ (.tail _ (.tail _ (.head _))))) (by omega) (by omega) (by omega)).mono ?_
  rintro e w9 ⟨rfl, ho, ht⟩
  have SN := Lib.hid (Sit.mark (l1 := [_, _, _]) SN.out ht ho)
  dsimp only [List.cons_append, List.nil_append] at SN
  clear ho ht
  clear kbx lbx
  have kbg := SN.out.box (.head _)
  have lbg := SN.out.boxlt (.head _)
  have kbe := SN.out.box (.tail _ (.tail _ (.tail _ (.tail _ (.head _)))))
  have lbe := SN.out.boxlt (.tail _ (.tail _ (.tail _ (.tail _ (.head _)))))
  go_wp2_with fail
  refine (eqRequest_any _ _ q q _ ((SN.out.own (.tail _ (.head _))).read (by omega)) ((SN.out.own (.tail _ (.tail _ (.tail _ (.tail _ (.tail _ (.head _))))))).read (by omega))).mono ?_
  rintro e w10 ⟨rfl, hb⟩
  have SN := Lib.hid (SN.out.next hb)
  clear hb
  clear kbg lbg kbe lbe
  have kbg := SN.out.box (.head _)
  have lbg := SN.out.boxlt (.head _)
  go_wp2_with fail
  refine (markRequest_any _ q _ (1) _ _ (SN.out.own (.tail _ (.head _))) (by omega) (by omega) (by omega)).mono ?_
  rintro e w11 ⟨rfl, ho, ht⟩
  have SN := Lib.hid (Sit.mark (l1 := [_]) SN.out ht ho)
  dsimp only [List.cons_append, List.nil_append] at SN
  clear ho ht
  clear kbg lbg
  have kbg := SN.out.box (.head _)
  have lbg := SN.out.boxlt (.head _)
  go_wp2_with fail
  refine (heldRequest_any _ q (1) _ ((SN.out.own (.tail _ (.head _))).read (by rw [mkR_bulk]; omega)) (by omega) (by omega) (by omega)).mono ?_
  rintro e w12 ⟨rfl, hb⟩
  have SN := Lib.hid (SN.out.next hb)
  clear hb
  clear kbg lbg
  have kA := SN.out.box (.tail _ (.tail _ (.tail _ (.tail _ (.tail _ (.tail _ MA.out))))))
  have lA := SN.out.boxlt (.tail _ (.tail _ (.tail _ (.tail _ (.tail _ (.tail _ MA.out))))))
  go_wp2_with fail
  refine (toRequest_any _ p _ (H0.out.next SN.out.low)).mono ?_
  rintro e w13 ⟨u, f13, rfl, ho, hb⟩
  have SN := Lib.hid (SN.out.next hb)
  clear hb
  go_wp2_with fail
  refine (HI.out _ _ (ho.read (by omega))).mono ?_
  rintro e w14 ⟨u, f14, rfl, ho, hb⟩
  obtain ⟨H1, h1, H2, h2, H3, h3, rfl⟩ := ho.form
  have SN := Lib.hid (SN.out.req hb ho)
  clear ho hb
  have SN := Lib.hid (SN.out.alloc #[.int .i64 q.way, .int .i64 q.pallet.w, .int .i64 q.pallet.d, .int .i64 q.pallet.h, .int .i64 q.pallet.gram, .int .i64 q.classes, .slice H1 q.pairs.length h1, .slice H2 q.types.length h2, .int .i64 q.master, .slice H3 q.items.length h3] 37)
  clear kA lA
  have kbh := SN.out.box (.head _)
  have lbh := SN.out.boxlt (.head _)
  have kbe := SN.out.box (.tail _ (.tail _ (.tail _ (.tail _ (.tail _ (.tail _ (.head _)))))))
  have lbe := SN.out.boxlt (.tail _ (.tail _ (.tail _ (.tail _ (.tail _ (.tail _ (.head _)))))))
  go_wp2_with fail
  refine (eqRequest_any _ _ q q _ ((SN.out.own (.tail _ (.head _))).read (by omega)) ((SN.out.own (.tail _ (.tail _ (.tail _ (.tail _ (.tail _ (.tail _ (.tail _ (.head _))))))))).read (by omega))).mono ?_
  rintro e w15 ⟨rfl, hb⟩
  have SN := Lib.hid (SN.out.next hb)
  clear hb
  clear kbh lbh kbe lbe
  have kbg := SN.out.box (.tail _ (.tail _ (.head _)))
  have lbg := SN.out.boxlt (.tail _ (.tail _ (.head _)))
  go_wp2_with fail
  refine (heldRequest_any _ q (1) _ ((SN.out.own (.tail _ (.tail _ (.tail _ (.head _))))).read (by rw [mkR_bulk]; omega)) (by omega) (by omega) (by omega)).mono ?_
  rintro e w16 ⟨rfl, hb⟩
  have SN := Lib.hid (SN.out.next hb)
  clear hb
  clear kbg lbg
  go_wp2
  go_ret
  exact ⟨rfl, SN.out.low⟩
set_option maxRecDepth 100000 in
theorem FnExactScaled_lifted (os : Os) (started : os.Started) (H : Type) (enc : TypeId × Value → H) :
    ReturnsInHanded {} Tryz.checked os 6 .any (Rows.fnExactScaledSpec.pre6 enc Tryz.prog Tryz.f6 Rows.fnExactScaledRow.domain false) (Rows.fnExactScaledSpec.post enc Tryz.prog Tryz.f6 false true false false) := by
  refine returnsInHanded_of_change (C := Tryz.checked) own_ started (by kernel_rfl) Tryz.func6
    (ChangeSpec.witness6 (enc := enc) (C := Tryz.checked) false ⟨#[], #[.agg #[.int .i64 0, .int .i64 0, .int .i64 0, .int .i64 0, .int .i64 0, .int .i64 0, .slice none 0 0, .slice none 0 0, .int .i64 0, .slice none 0 0], .int .i64 0], []⟩ 8 (by kernel_rfl) (by kernel_rfl) (by kernel_rfl) (by kernel_rfl)) ?_
  intro W base args ds gs before hval0 hW hcnd _
  have hval : ∀ (j : Nat) t v, Tryz.f6.params[j]? = some t → args[j]? = some v → Value.okWide Tryz.prog W .any base t v := hval0
  have hW' := hW
  obtain ⟨p, q, hA0, hV, rfl, hfz, hnd⟩ := hW
  have hA : DataW.TrodAll enc Tryz.prog W 0 (fun _ => true) true Tryz.f6.params.toList args.toList ds p := hA0
  rw [Tryz.params6] at hA hval
  obtain ⟨v0, vs0, d0, ds0, p0, q0, hargs, rfl, rfl, h0, r0⟩ := trodAll_cons hA
  obtain ⟨v1, vs1, d1, ds1, p1, q1, rfl, rfl, rfl, h1, r1⟩ := trodAll_cons r0
  obtain ⟨rfl, rfl, rfl⟩ := trodAll_nil r1
  obtain rfl : args = #[v0, v1] := by cases args; simp_all
  obtain ⟨rfl, rfl⟩ := trodVars_none hV
  clear hA0 hval0 hA
  simp only [List.append_nil] at hW'
  have hlt : ∀ x ∈ p0 ++ p1, x.block < W.heap.size := fun x hx => hW'.lt x (by simpa using hx)
  have k0 := h0
  have w0 := read_Request (hval 0 28 v0 rfl rfl) h0 (fun x hx => hlt x (by simp [hx]))
  have k1 := h1
  obtain ⟨a1, rfl, rfl, rfl, w1⟩ := open_int Tryz.underlying3 (hval 1 3 v1 rfl rfl) h1
  refine (FnExactScaled_walk v0 a1 W w0 w1).mono fun e W' ⟨he, hb⟩ => ?_
  subst he
  exact ⟨_, rfl, post_of_below (pa := p0 ++ ([] ++ [])) (pv := []) hW' (fun _ _ _ => (trodAll_cons_mk (shut_bool Tryz.underlying4 _) trodAll_mk0)) (fun sp hsp => (trodAll_cons_mk (stays laidOut_ (by kernel_rfl) (of_decide_eq_true (by kernel_rfl)) k0 hb (fun x hx => hlt x (by simp [hx])) (fun x hx => hsp x (by simp [hx]))) (trodAll_cons_mk (stays laidOut_ (by kernel_rfl) (of_decide_eq_true (by kernel_rfl)) k1 hb (fun x hx => by cases hx) (fun x hx => by cases hx)) trodAll_mk0))) (fun _ _ => rfl) (by simp) hb
    (ok_one (by kernel_rfl) rfl (okWide_bool_mk Tryz.underlying4 _))⟩
theorem FnExactScaled_over : Rows.fnExactScaledRow.holds Tryz.pinned (OpenSpec.ofChange Rows.fnExactScaledSpec) :=
  OpenClaim.holds_of_wide 6 Tryz.f6 rfl rfl rfl rfl rfl rfl rfl ⟨rfl, rfl, rfl, rfl, rfl⟩ rfl rfl rfl rfl rfl (by kernel_rfl) Tryz.func6 (by kernel_rfl)
    (of_decide_eq_true (by kernel_rfl)) (by unfold Func.isWrapper; first | (rw [if_pos (by decide +kernel)]; kernel_rfl) | (rw [if_neg (by decide +kernel)]; exact ⟨rfl, rfl⟩))
    (fun os started H enc _ => FnExactScaled_lifted os started H enc)
theorem FnExactScaled_proved : Rows.FnExactScaledSaid := FnExactScaled_over
end Go.Proofs.YteamlfcfillbjaaGreat
