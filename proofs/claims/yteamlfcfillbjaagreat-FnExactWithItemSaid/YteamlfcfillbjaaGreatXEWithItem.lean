/-
  The law FnExactWithItem: whatever the order and the item, the program's WithItem answers what the reference's answers, in memory of its own, and leaves the order alone.
-/
import Derived.Test.YteamlfcfillbjaaGreatRu
import Derived.Test.YteamlfcfillbjaaGreatSi
import Derived.Test.YteamlfcfillbjaaGreatFr
import Derived.Deep.Light
import Derived.Deep.DeepCutAuto
import Derived.Deep.RegionHeld3
namespace Go.Proofs.YteamlfcfillbjaaGreat
set_option linter.unusedVariables false
set_option linter.unusedSimpArgs false
set_option maxRecDepth 100000
open Go.RowKit Go.WideShapes Go.ChangeShapes Go.ChangeAt Go.Deep
open Go.ChangeMaps (open_string shut_string)
set_option maxRecDepth 100000 in
theorem read_Item {H : Type} {enc : TypeId × Value → H} {w : World} {b0 : Nat} {v : Value} {d : DataW H} {ps : List MemPlace} (hv : Value.okWide Tryz.prog w .any b0 30 v) (h : DataW.Trod enc Tryz.prog w 0 (fun _ => true) true 30 v d ps) (_hlt : ∀ p ∈ ps, p.block < w.heap.size) :
    ∃ x : Item, v = x.val := by
  obtain ⟨cs, rfl, hsz⟩ := okWide_struct Tryz.underlying30 hv
  obtain ⟨n, hn⟩ := h
  obtain ⟨hl, hf⟩ := trod_fields Tryz.underlying30 (by kernel_rfl) (by kernel_rfl) hn
  obtain ⟨_, c0, _, g0, _, t0⟩ := hf 0 _ rfl
  obtain ⟨_, c1, _, g1, _, t1⟩ := hf 1 _ rfl
  obtain ⟨_, c2, _, g2, _, t2⟩ := hf 2 _ rfl
  obtain ⟨_, c3, _, g3, _, t3⟩ := hf 3 _ rfl
  obtain ⟨_, c4, _, g4, _, t4⟩ := hf 4 _ rfl
  obtain ⟨_, c5, _, g5, _, t5⟩ := hf 5 _ rfl
  obtain ⟨_, c6, _, g6, _, t6⟩ := hf 6 _ rfl
  obtain ⟨a0, e0, _, _⟩ := DataW.trod_int Tryz.underlying3 t0
  injection e0 with e0
  subst e0
  obtain ⟨a1, e1, _, _⟩ := DataW.trod_int Tryz.underlying3 t1
  injection e1 with e1
  subst e1
  obtain ⟨a2, e2, _, _⟩ := DataW.trod_int Tryz.underlying3 t2
  injection e2 with e2
  subst e2
  obtain ⟨a3, e3, _, _⟩ := DataW.trod_int Tryz.underlying3 t3
  injection e3 with e3
  subst e3
  obtain ⟨a4, e4, _, _⟩ := DataW.trod_int Tryz.underlying3 t4
  injection e4 with e4
  subst e4
  obtain ⟨a5, e5, _, _⟩ := DataW.trod_int Tryz.underlying3 t5
  injection e5 with e5
  subst e5
  obtain ⟨a6, e6, _, _⟩ := DataW.trod_int Tryz.underlying3 t6
  injection e6 with e6
  subst e6
  obtain ⟨l⟩ := cs
  match l, hl with
  | [d0, d1, d2, d3, d4, d5, d6], _ =>
    simp only [Value.cells, List.getElem?_cons_zero, List.getElem?_cons_succ, Option.some.injEq] at g0 g1 g2 g3 g4 g5 g6
    subst g0 g1 g2 g3 g4 g5 g6
    exact ⟨⟨a0, a1, a2, a3, a4, a5, a6⟩, rfl⟩
theorem withItem_bulk (r : Request) (x : Item) : (withItem r x).1.bulk ≤ r.bulk + 1 := by
  unfold withItem
  split
  · unfold plusItem Request.bulk
    simp
    omega
  · simp
set_option maxRecDepth 100000 in
set_option maxHeartbeats 4000000 in
theorem FnExactWithItem_walk (v0 v1 : Value) (w : World) (h0 : ∃ p, RReq 9223372036854775807 w w.heap.size v0 p) (h1 : ∃ x : Item, v1 = x.val) :
    Calls Tryz.prog 3 #[v0, v1] w fun e w' => e = .returned (.bool true) ∧ Below w.heap.size w w' := by
  obtain ⟨p, h0⟩ := h0
  obtain ⟨x, rfl⟩ := h1
  obtain ⟨A1, a1, A2, a2, A3, a3, rfl, _, lb1, lb2, lb3, lc1, lc2, lc3⟩ := h0.opn
  have H0 := Lib.hid h0
  have hS := (((Sit.here w).alloc #[.int .i64 p.way, .int .i64 p.pallet.w, .int .i64 p.pallet.d, .int .i64 p.pallet.h, .int .i64 p.pallet.gram, .int .i64 p.classes, .slice A1 p.pairs.length a1, .slice A2 p.types.length a2, .int .i64 p.master, .slice A3 p.items.length a3] 28).alloc #[.int .i64 x.id, .int .i64 x.w, .int .i64 x.h, .int .i64 x.d, .int .i64 x.gram, .int .i64 x.cls, .int .i64 x.count] 30)
  rw [World.size_alloc] at hS
  obtain ⟨l, hl⟩ : ∃ l, [fBox (w.heap.size + 1) #[.int .i64 x.id, .int .i64 x.w, .int .i64 x.h, .int .i64 x.d, .int .i64 x.gram, .int .i64 x.cls, .int .i64 x.count] 30, fBox w.heap.size #[.int .i64 p.way, .int .i64 p.pallet.w, .int .i64 p.pallet.d, .int .i64 p.pallet.h, .int .i64 p.pallet.gram, .int .i64 p.classes, .slice A1 p.pairs.length a1, .slice A2 p.types.length a2, .int .i64 p.master, .slice A3 p.items.length a3] 28] = l := ⟨_, rfl⟩
  have MA := Lib.hid (show fBox w.heap.size #[.int .i64 p.way, .int .i64 p.pallet.w, .int .i64 p.pallet.d, .int .i64 p.pallet.h, .int .i64 p.pallet.gram, .int .i64 p.classes, .slice A1 p.pairs.length a1, .slice A2 p.types.length a2, .int .i64 p.master, .slice A3 p.items.length a3] 28 ∈ l by rw [← hl]; simp)
  have MI := Lib.hid (show fBox (w.heap.size + 1) #[.int .i64 x.id, .int .i64 x.w, .int .i64 x.h, .int .i64 x.d, .int .i64 x.gram, .int .i64 x.cls, .int .i64 x.count] 30 ∈ l by rw [← hl]; simp)
  rw [hl] at hS
  have SN := Lib.hid hS
  have hz := szRequest_any _ p 1048576 _ (H0.out.next hS.low) (by omega) (by omega)
  obtain ⟨t0, ht⟩ : ∃ t, szR 1048576 ((p).bulk : Nat) = t := ⟨_, rfl⟩
  rw [ht] at hz
  have HT0 := Lib.hid ht
  have HZ := Lib.hid hz
  clear h0 hS hz ht hl
  go_enter Tryz.func3, Tryz.ntmps3
  go_wp2_with fail
  refine HZ.out.mono ?_
  rintro e w1 ⟨rfl, hb⟩
  have SN := Lib.hid (SN.out.next hb)
  clear HZ hb
  by_cases hneg : t0 < 0
  · go_wp2
    go_ret
    exact ⟨rfl, SN.out.low⟩
  have hle0 := szR_ok (show 0 ≤ szR 1048576 ((p).bulk : Nat) by rw [HT0.out]; omega)
  have H0 := Lib.hid (H0.out.wide (show (p).bulk ≤ 16777216 by omega))
  have hL : p.bulk ≤ 1048576 := by omega
  clear HT0 hle0
  obtain ⟨q, b, hq⟩ : ∃ q b, withItem p x = (q, b) := ⟨_, _, rfl⟩
  have HI := Lib.hid fun (v : Value) (W : World) (h : RReq 16777216 W W.heap.size v p) => iWithItem_any v p x W h hL
  have HP := Lib.hid fun (v : Value) (W : World) (h : RReq 16777216 W W.heap.size v p) => sWithItem_any v p x W h hL
  rw [hq] at HI HP
  dsimp only at HI HP
  have hqb : q.bulk ≤ 1048577 := by
    have h : q = (withItem p x).1 := by rw [hq]
    rw [h]
    have := withItem_bulk p x
    omega
  have hcp : cntR p ≤ 7340032 := by have := cntR_le p; omega
  have hcq : cntR q ≤ 7340039 := by have := cntR_le q; omega
  clear hq
  have HC := Lib.hid (show ∀ (X : World) (_ : Below w1.heap.size w1 X), (X.cell? ⟨w.heap.size, 0, none⟩ = some (.int .i64 p.way) ∧ X.cell? ⟨w.heap.size, 1, none⟩ = some (.int .i64 p.pallet.w) ∧ X.cell? ⟨w.heap.size, 2, none⟩ = some (.int .i64 p.pallet.d) ∧ X.cell? ⟨w.heap.size, 3, none⟩ = some (.int .i64 p.pallet.h) ∧ X.cell? ⟨w.heap.size, 4, none⟩ = some (.int .i64 p.pallet.gram) ∧ X.cell? ⟨w.heap.size, 5, none⟩ = some (.int .i64 p.classes) ∧ X.cell? ⟨w.heap.size, 6, none⟩ = some (.slice A1 p.pairs.length a1) ∧ X.cell? ⟨w.heap.size, 7, none⟩ = some (.slice A2 p.types.length a2) ∧ X.cell? ⟨w.heap.size, 8, none⟩ = some (.int .i64 p.master) ∧ X.cell? ⟨w.heap.size, 9, none⟩ = some (.slice A3 p.items.length a3)) ∧ (X.cell? ⟨w.heap.size + 1, 0, none⟩ = some (.int .i64 x.id) ∧ X.cell? ⟨w.heap.size + 1, 1, none⟩ = some (.int .i64 x.w) ∧ X.cell? ⟨w.heap.size + 1, 2, none⟩ = some (.int .i64 x.h) ∧ X.cell? ⟨w.heap.size + 1, 3, none⟩ = some (.int .i64 x.d) ∧ X.cell? ⟨w.heap.size + 1, 4, none⟩ = some (.int .i64 x.gram) ∧ X.cell? ⟨w.heap.size + 1, 5, none⟩ = some (.int .i64 x.cls) ∧ X.cell? ⟨w.heap.size + 1, 6, none⟩ = some (.int .i64 x.count)) from fun X h => by
    have c0 := (SN.out.next h).box MI.out
    have c1 := (SN.out.next h).box MA.out
    exact ⟨⟨c1 0, c1 1, c1 2, c1 3, c1 4, c1 5, c1 6, c1 7, c1 8, c1 9⟩, c0 0, c0 1, c0 2, c0 3, c0 4, c0 5, c0 6⟩)
  have kA := SN.out.box MA.out
  have lA := SN.out.boxlt MA.out
  have kI := SN.out.box MI.out
  have lI := SN.out.boxlt MI.out
  go_upto_region 5 with fail
  go_cut [6, 7] (fun v6 v7 X => ∃ ge fe E1 e1 E2 e2 E3 e3, v6 = .pointer (some ⟨ge, 0, none⟩) ∧ v7 = .bool b ∧ Hid (Sit w X (fBox ge #[.int .i64 q.way, .int .i64 q.pallet.w, .int .i64 q.pallet.d, .int .i64 q.pallet.h, .int .i64 q.pallet.gram, .int .i64 q.classes, .slice E1 q.pairs.length e1, .slice E2 q.types.length e2, .int .i64 q.master, .slice E3 q.items.length e3] 37 :: fReq w1.heap.size (.agg #[.int .i64 q.way, .int .i64 q.pallet.w, .int .i64 q.pallet.d, .int .i64 q.pallet.h, .int .i64 q.pallet.gram, .int .i64 q.classes, .slice E1 q.pairs.length e1, .slice E2 q.types.length e2, .int .i64 q.master, .slice E3 q.items.length e3]) q fe :: l)))
  case first =>
    go_region_held3 (fun W' => (W'.cell? ⟨w.heap.size, 0, none⟩ = some (.int .i64 p.way) ∧ W'.cell? ⟨w.heap.size, 1, none⟩ = some (.int .i64 p.pallet.w) ∧ W'.cell? ⟨w.heap.size, 2, none⟩ = some (.int .i64 p.pallet.d) ∧ W'.cell? ⟨w.heap.size, 3, none⟩ = some (.int .i64 p.pallet.h) ∧ W'.cell? ⟨w.heap.size, 4, none⟩ = some (.int .i64 p.pallet.gram) ∧ W'.cell? ⟨w.heap.size, 5, none⟩ = some (.int .i64 p.classes) ∧ W'.cell? ⟨w.heap.size, 6, none⟩ = some (.slice A1 p.pairs.length a1) ∧ W'.cell? ⟨w.heap.size, 7, none⟩ = some (.slice A2 p.types.length a2) ∧ W'.cell? ⟨w.heap.size, 8, none⟩ = some (.int .i64 p.master) ∧ W'.cell? ⟨w.heap.size, 9, none⟩ = some (.slice A3 p.items.length a3)) ∧ (W'.cell? ⟨w.heap.size + 1, 0, none⟩ = some (.int .i64 x.id) ∧ W'.cell? ⟨w.heap.size + 1, 1, none⟩ = some (.int .i64 x.w) ∧ W'.cell? ⟨w.heap.size + 1, 2, none⟩ = some (.int .i64 x.h) ∧ W'.cell? ⟨w.heap.size + 1, 3, none⟩ = some (.int .i64 x.d) ∧ W'.cell? ⟨w.heap.size + 1, 4, none⟩ = some (.int .i64 x.gram) ∧ W'.cell? ⟨w.heap.size + 1, 5, none⟩ = some (.int .i64 x.cls) ∧ W'.cell? ⟨w.heap.size + 1, 6, none⟩ = some (.int .i64 x.count)))
      (first | (refine HC.out _ ?_; (repeat' (first | with_reducible exact Below.refl _ _ | with_reducible assumption | with_reducible refine Below.drew ?_ | with_reducible refine Below.alloc ?_ ?_ _ | with_reducible refine Below.setCell ?_ ?_ _ | with_reducible refine Below.setW ?_ _ _ _ ?_ | omega | (simp; done) | (simp; omega))); done) | go_keep)
      (first
        | (go_at_call 9; (try (first | refine calls_new ?_ | refine calls_newd ?_); intro hg); refine (toRequest_any _ p _ (H0.out.next (SN.out.next (by (repeat' (first | with_reducible exact Below.refl _ _ | with_reducible assumption | with_reducible refine Below.drew ?_ | with_reducible refine Below.alloc ?_ ?_ _ | with_reducible refine Below.setCell ?_ ?_ _ | with_reducible refine Below.setW ?_ _ _ _ ?_ | omega | (simp; done) | (simp; omega))))).low)).mono ?_; rintro e w2 ⟨u2, f2, rfl, ho2, hb2⟩; have hn2 := bstep (a := w1) (by (repeat' (first | with_reducible exact Below.refl _ _ | with_reducible assumption | with_reducible refine Below.drew ?_ | with_reducible refine Below.alloc ?_ ?_ _ | with_reducible refine Below.setCell ?_ ?_ _ | with_reducible refine Below.setW ?_ _ _ _ ?_ | omega | (simp; done) | (simp; omega)))) hb2; have hz2 := hn2.size; have hj2 := hb2.size; (try simp only [World.size_alloc, World.size_drew] at hj2); (try have hg := blk_next hg hb2); (try (have hgc := fun j => cell_of_row _ _ j _ _ (0, 0) hg; have hgf := fun j => frozen_of_row _ _ j _ _ hg; have hgl := lt_of_block hg)))
        | (go_at_call 10; (try (first | refine calls_new ?_ | refine calls_newd ?_); intro hg); refine (toItem_any x _).mono ?_; rintro e w3 ⟨rfl, hb3⟩; have hn3 := bstep (a := w1) (by (repeat' (first | with_reducible exact Below.refl _ _ | with_reducible assumption | with_reducible refine Below.drew ?_ | with_reducible refine Below.alloc ?_ ?_ _ | with_reducible refine Below.setCell ?_ ?_ _ | with_reducible refine Below.setW ?_ _ _ _ ?_ | omega | (simp; done) | (simp; omega)))) hb3; have hz3 := hn3.size; have hj3 := hb3.size; (try simp only [World.size_alloc, World.size_drew] at hj3); (try have hg := blk_next hg hb3); (try (have hgc := fun j => cell_of_row _ _ j _ _ (0, 0) hg; have hgf := fun j => frozen_of_row _ _ j _ _ hg; have hgl := lt_of_block hg)); have ho3 := (ho2.next (by (repeat' (first | with_reducible exact Below.refl _ _ | with_reducible assumption | with_reducible refine Below.drew ?_ | with_reducible refine Below.alloc ?_ ?_ _ | with_reducible refine Below.setCell ?_ ?_ _ | with_reducible refine Below.setW ?_ _ _ _ ?_ | omega | (simp; done) | (simp; omega))))).next hb3)
        | (go_at_call 8; (try (first | refine calls_new ?_ | refine calls_newd ?_); intro hg); refine (HP.out _ _ ((ho3.next (by (repeat' (first | with_reducible exact Below.refl _ _ | with_reducible assumption | with_reducible refine Below.drew ?_ | with_reducible refine Below.alloc ?_ ?_ _ | with_reducible refine Below.setCell ?_ ?_ _ | with_reducible refine Below.setW ?_ _ _ _ ?_ | omega | (simp; done) | (simp; omega))))).read (by omega))).mono ?_; rintro e w4 ⟨u4, f4, rfl, ho4, hb4⟩; have hn4 := bstep (a := w1) (by (repeat' (first | with_reducible exact Below.refl _ _ | with_reducible assumption | with_reducible refine Below.drew ?_ | with_reducible refine Below.alloc ?_ ?_ _ | with_reducible refine Below.setCell ?_ ?_ _ | with_reducible refine Below.setW ?_ _ _ _ ?_ | omega | (simp; done) | (simp; omega)))) hb4; have hz4 := hn4.size; have hj4 := hb4.size; (try simp only [World.size_alloc, World.size_drew] at hj4); (try have hg := blk_next hg hb4); (try (have hgc := fun j => cell_of_row _ _ j _ _ (0, 0) hg; have hgf := fun j => frozen_of_row _ _ j _ _ hg; have hgl := lt_of_block hg)); obtain ⟨D1, d1, D2, d2, D3, d3, rfl⟩ := ho4.form))
    all_goals (go_wp2_with fail; go_meet)
    · exact ⟨_, _, _, _, _, _, _, _, rfl, rfl, Lib.hid (SN.out.fresh hn4 ho4 (by (try simp only [World.size_alloc, World.size_drew]); omega) _ _)⟩
    all_goals refine ⟨_, _, _, _, _, _, _, _, rfl, rfl, Lib.hid (SN.out.early hn4 ho4 ?_ hg ?_ ?_)⟩
    all_goals ((try simp only [World.size_alloc, World.size_drew]); omega)
  case rest =>
  obtain ⟨ge, fe, E1, e1, E2, e2, E3, e3, rfl, rfl, SN2⟩ := hcut
  have SN := SN2
  clear SN2 HC
  obtain ⟨w4, rfl⟩ : ∃ W, W = wc := ⟨_, rfl⟩
  have kA := SN.out.box (.tail _ (.tail _ MA.out))
  have lA := SN.out.boxlt (.tail _ (.tail _ MA.out))
  go_wp2_with fail
  refine (toRequest_any _ p _ (H0.out.next SN.out.low)).mono ?_
  rintro e w5 ⟨u, f5, rfl, ho, hb⟩
  obtain ⟨X1, x1, X2, x2, X3, x3, rfl⟩ := ho.form
  have SN := Lib.hid (SN.out.req hb ho)
  clear ho hb
  have SN := Lib.hid (SN.out.alloc #[.int .i64 p.way, .int .i64 p.pallet.w, .int .i64 p.pallet.d, .int .i64 p.pallet.h, .int .i64 p.pallet.gram, .int .i64 p.classes, .slice X1 p.pairs.length x1, .slice X2 p.types.length x2, .int .i64 p.master, .slice X3 p.items.length x3] 37)
  go_upto_region 7 with fail
  generalize w5.alloc (.cells #[.int .i64 p.way, .int .i64 p.pallet.w, .int .i64 p.pallet.d, .int .i64 p.pallet.h, .int .i64 p.pallet.gram, .int .i64 p.classes, .slice X1 p.pairs.length x1, .slice X2 p.types.length x2, .int .i64 p.master, .slice X3 p.items.length x3] 37) = w6 at SN ⊢
  clear kA lA
  have HC := Lib.hid (show ∀ (X : World) (_ : Below w6.heap.size w6 X), (X.cell? ⟨w5.heap.size, 0, none⟩ = some (.int .i64 p.way) ∧ X.cell? ⟨w5.heap.size, 1, none⟩ = some (.int .i64 p.pallet.w) ∧ X.cell? ⟨w5.heap.size, 2, none⟩ = some (.int .i64 p.pallet.d) ∧ X.cell? ⟨w5.heap.size, 3, none⟩ = some (.int .i64 p.pallet.h) ∧ X.cell? ⟨w5.heap.size, 4, none⟩ = some (.int .i64 p.pallet.gram) ∧ X.cell? ⟨w5.heap.size, 5, none⟩ = some (.int .i64 p.classes) ∧ X.cell? ⟨w5.heap.size, 6, none⟩ = some (.slice X1 p.pairs.length x1) ∧ X.cell? ⟨w5.heap.size, 7, none⟩ = some (.slice X2 p.types.length x2) ∧ X.cell? ⟨w5.heap.size, 8, none⟩ = some (.int .i64 p.master) ∧ X.cell? ⟨w5.heap.size, 9, none⟩ = some (.slice X3 p.items.length x3)) ∧ (X.cell? ⟨w.heap.size + 1, 0, none⟩ = some (.int .i64 x.id) ∧ X.cell? ⟨w.heap.size + 1, 1, none⟩ = some (.int .i64 x.w) ∧ X.cell? ⟨w.heap.size + 1, 2, none⟩ = some (.int .i64 x.h) ∧ X.cell? ⟨w.heap.size + 1, 3, none⟩ = some (.int .i64 x.d) ∧ X.cell? ⟨w.heap.size + 1, 4, none⟩ = some (.int .i64 x.gram) ∧ X.cell? ⟨w.heap.size + 1, 5, none⟩ = some (.int .i64 x.cls) ∧ X.cell? ⟨w.heap.size + 1, 6, none⟩ = some (.int .i64 x.count)) from fun X h => by
    have c0 := (SN.out.next h).box (.tail _ (.tail _ (.tail _ (.tail _ MI.out))))
    have c1 := (SN.out.next h).box (.head _)
    exact ⟨⟨c1 0, c1 1, c1 2, c1 3, c1 4, c1 5, c1 6, c1 7, c1 8, c1 9⟩, c0 0, c0 1, c0 2, c0 3, c0 4, c0 5, c0 6⟩)
  have kbx := SN.out.box (.head _)
  have lbx := SN.out.boxlt (.head _)
  have kI := SN.out.box (.tail _ (.tail _ (.tail _ (.tail _ MI.out))))
  have lI := SN.out.boxlt (.tail _ (.tail _ (.tail _ (.tail _ MI.out))))
  go_cut [9, 10] (fun v6 v7 X => ∃ gg fg G1 g1 G2 g2 G3 g3, v6 = .pointer (some ⟨gg, 0, none⟩) ∧ v7 = .bool b ∧ Hid (Sit w X (fBox gg #[.int .i64 q.way, .int .i64 q.pallet.w, .int .i64 q.pallet.d, .int .i64 q.pallet.h, .int .i64 q.pallet.gram, .int .i64 q.classes, .slice G1 q.pairs.length g1, .slice G2 q.types.length g2, .int .i64 q.master, .slice G3 q.items.length g3] 37 :: fReq w6.heap.size (.agg #[.int .i64 q.way, .int .i64 q.pallet.w, .int .i64 q.pallet.d, .int .i64 q.pallet.h, .int .i64 q.pallet.gram, .int .i64 q.classes, .slice G1 q.pairs.length g1, .slice G2 q.types.length g2, .int .i64 q.master, .slice G3 q.items.length g3]) q fg :: fBox w5.heap.size #[.int .i64 p.way, .int .i64 p.pallet.w, .int .i64 p.pallet.d, .int .i64 p.pallet.h, .int .i64 p.pallet.gram, .int .i64 p.classes, .slice X1 p.pairs.length x1, .slice X2 p.types.length x2, .int .i64 p.master, .slice X3 p.items.length x3] 37 :: fReq w4.heap.size (.agg #[.int .i64 p.way, .int .i64 p.pallet.w, .int .i64 p.pallet.d, .int .i64 p.pallet.h, .int .i64 p.pallet.gram, .int .i64 p.classes, .slice X1 p.pairs.length x1, .slice X2 p.types.length x2, .int .i64 p.master, .slice X3 p.items.length x3]) p f5 :: fBox ge #[.int .i64 q.way, .int .i64 q.pallet.w, .int .i64 q.pallet.d, .int .i64 q.pallet.h, .int .i64 q.pallet.gram, .int .i64 q.classes, .slice E1 q.pairs.length e1, .slice E2 q.types.length e2, .int .i64 q.master, .slice E3 q.items.length e3] 37 :: fReq w1.heap.size (.agg #[.int .i64 q.way, .int .i64 q.pallet.w, .int .i64 q.pallet.d, .int .i64 q.pallet.h, .int .i64 q.pallet.gram, .int .i64 q.classes, .slice E1 q.pairs.length e1, .slice E2 q.types.length e2, .int .i64 q.master, .slice E3 q.items.length e3]) q fe :: l)))
  case first =>
    go_region_held3 (fun W' => (W'.cell? ⟨w5.heap.size, 0, none⟩ = some (.int .i64 p.way) ∧ W'.cell? ⟨w5.heap.size, 1, none⟩ = some (.int .i64 p.pallet.w) ∧ W'.cell? ⟨w5.heap.size, 2, none⟩ = some (.int .i64 p.pallet.d) ∧ W'.cell? ⟨w5.heap.size, 3, none⟩ = some (.int .i64 p.pallet.h) ∧ W'.cell? ⟨w5.heap.size, 4, none⟩ = some (.int .i64 p.pallet.gram) ∧ W'.cell? ⟨w5.heap.size, 5, none⟩ = some (.int .i64 p.classes) ∧ W'.cell? ⟨w5.heap.size, 6, none⟩ = some (.slice X1 p.pairs.length x1) ∧ W'.cell? ⟨w5.heap.size, 7, none⟩ = some (.slice X2 p.types.length x2) ∧ W'.cell? ⟨w5.heap.size, 8, none⟩ = some (.int .i64 p.master) ∧ W'.cell? ⟨w5.heap.size, 9, none⟩ = some (.slice X3 p.items.length x3)) ∧ (W'.cell? ⟨w.heap.size + 1, 0, none⟩ = some (.int .i64 x.id) ∧ W'.cell? ⟨w.heap.size + 1, 1, none⟩ = some (.int .i64 x.w) ∧ W'.cell? ⟨w.heap.size + 1, 2, none⟩ = some (.int .i64 x.h) ∧ W'.cell? ⟨w.heap.size + 1, 3, none⟩ = some (.int .i64 x.d) ∧ W'.cell? ⟨w.heap.size + 1, 4, none⟩ = some (.int .i64 x.gram) ∧ W'.cell? ⟨w.heap.size + 1, 5, none⟩ = some (.int .i64 x.cls) ∧ W'.cell? ⟨w.heap.size + 1, 6, none⟩ = some (.int .i64 x.count)))
      (first | (refine HC.out _ ?_; (repeat' (first | with_reducible exact Below.refl _ _ | with_reducible assumption | with_reducible refine Below.drew ?_ | with_reducible refine Below.alloc ?_ ?_ _ | with_reducible refine Below.setCell ?_ ?_ _ | with_reducible refine Below.setW ?_ _ _ _ ?_ | omega | (simp; done) | (simp; omega))); done) | go_keep)
      (first
        | (go_at_call 10; (try (first | refine calls_new ?_ | refine calls_newd ?_); intro hg); refine (toItem_any x _).mono ?_; rintro e w7 ⟨rfl, hb7⟩; have hn7 := bstep (a := w6) (by (repeat' (first | with_reducible exact Below.refl _ _ | with_reducible assumption | with_reducible refine Below.drew ?_ | with_reducible refine Below.alloc ?_ ?_ _ | with_reducible refine Below.setCell ?_ ?_ _ | with_reducible refine Below.setW ?_ _ _ _ ?_ | omega | (simp; done) | (simp; omega)))) hb7; have hz7 := hn7.size; have hj7 := hb7.size; (try simp only [World.size_alloc, World.size_drew] at hj7); (try have hg := blk_next hg hb7); (try (have hgc := fun j => cell_of_row _ _ j _ _ (0, 0) hg; have hgf := fun j => frozen_of_row _ _ j _ _ hg; have hgl := lt_of_block hg)))
        | (go_at_call 11; (try (first | refine calls_new ?_ | refine calls_newd ?_); intro hg); refine (HI.out _ _ (((SN.out.next (show Below w6.heap.size w6 _ by (repeat' (first | with_reducible exact Below.refl _ _ | with_reducible assumption | with_reducible refine Below.drew ?_ | with_reducible refine Below.alloc ?_ ?_ _ | with_reducible refine Below.setCell ?_ ?_ _ | with_reducible refine Below.setW ?_ _ _ _ ?_ | omega | (simp; done) | (simp; omega))))).own (.tail _ (.head _))).read (by omega))).mono ?_; rintro e w8 ⟨u4, f4, rfl, ho4, hb8⟩; have hn8 := bstep (a := w6) (by (repeat' (first | with_reducible exact Below.refl _ _ | with_reducible assumption | with_reducible refine Below.drew ?_ | with_reducible refine Below.alloc ?_ ?_ _ | with_reducible refine Below.setCell ?_ ?_ _ | with_reducible refine Below.setW ?_ _ _ _ ?_ | omega | (simp; done) | (simp; omega)))) hb8; have hz8 := hn8.size; have hj8 := hb8.size; (try simp only [World.size_alloc, World.size_drew] at hj8); (try have hg := blk_next hg hb8); (try (have hgc := fun j => cell_of_row _ _ j _ _ (0, 0) hg; have hgf := fun j => frozen_of_row _ _ j _ _ hg; have hgl := lt_of_block hg)); obtain ⟨D1, d1, D2, d2, D3, d3, rfl⟩ := ho4.form))
    all_goals (go_wp2_with fail; go_meet)
    · exact ⟨_, _, _, _, _, _, _, _, rfl, rfl, Lib.hid (SN.out.fresh hn8 ho4 (by (try simp only [World.size_alloc, World.size_drew]); omega) _ _)⟩
    all_goals refine ⟨_, _, _, _, _, _, _, _, rfl, rfl, Lib.hid (SN.out.early hn8 ho4 ?_ hg ?_ ?_)⟩
    all_goals ((try simp only [World.size_alloc, World.size_drew]); omega)
  case rest =>
  obtain ⟨gg, fg, G1, g1, G2, g2, G3, g3, rfl, rfl, SN2⟩ := hcut
  have SN := SN2
  clear SN2 HC
  obtain ⟨w8, rfl⟩ : ∃ W, W = wc := ⟨_, rfl⟩
  have kbg := SN.out.box (.head _)
  have lbg := SN.out.boxlt (.head _)
  have kbe := SN.out.box (.tail _ (.tail _ (.tail _ (.tail _ (.head _)))))
  have lbe := SN.out.boxlt (.tail _ (.tail _ (.tail _ (.tail _ (.head _)))))
  go_wp2_with fail
  refine (eqRequest_any _ _ q q _ ((SN.out.own (.tail _ (.head _))).read (by omega)) ((SN.out.own (.tail _ (.tail _ (.tail _ (.tail _ (.tail _ (.head _))))))).read (by omega))).mono ?_
  rintro e w9 ⟨rfl, hb⟩
  have SN := Lib.hid (SN.out.next hb)
  clear hb
  clear kbg lbg kbe lbe
  have HC := Lib.hid (show ∀ (X : World) (_ : Below w9.heap.size w9 X), (X.cell? ⟨w5.heap.size, 0, none⟩ = some (.int .i64 p.way) ∧ X.cell? ⟨w5.heap.size, 1, none⟩ = some (.int .i64 p.pallet.w) ∧ X.cell? ⟨w5.heap.size, 2, none⟩ = some (.int .i64 p.pallet.d) ∧ X.cell? ⟨w5.heap.size, 3, none⟩ = some (.int .i64 p.pallet.h) ∧ X.cell? ⟨w5.heap.size, 4, none⟩ = some (.int .i64 p.pallet.gram) ∧ X.cell? ⟨w5.heap.size, 5, none⟩ = some (.int .i64 p.classes) ∧ X.cell? ⟨w5.heap.size, 6, none⟩ = some (.slice X1 p.pairs.length x1) ∧ X.cell? ⟨w5.heap.size, 7, none⟩ = some (.slice X2 p.types.length x2) ∧ X.cell? ⟨w5.heap.size, 8, none⟩ = some (.int .i64 p.master) ∧ X.cell? ⟨w5.heap.size, 9, none⟩ = some (.slice X3 p.items.length x3)) ∧ (X.cell? ⟨w.heap.size, 0, none⟩ = some (.int .i64 p.way) ∧ X.cell? ⟨w.heap.size, 1, none⟩ = some (.int .i64 p.pallet.w) ∧ X.cell? ⟨w.heap.size, 2, none⟩ = some (.int .i64 p.pallet.d) ∧ X.cell? ⟨w.heap.size, 3, none⟩ = some (.int .i64 p.pallet.h) ∧ X.cell? ⟨w.heap.size, 4, none⟩ = some (.int .i64 p.pallet.gram) ∧ X.cell? ⟨w.heap.size, 5, none⟩ = some (.int .i64 p.classes) ∧ X.cell? ⟨w.heap.size, 6, none⟩ = some (.slice A1 p.pairs.length a1) ∧ X.cell? ⟨w.heap.size, 7, none⟩ = some (.slice A2 p.types.length a2) ∧ X.cell? ⟨w.heap.size, 8, none⟩ = some (.int .i64 p.master) ∧ X.cell? ⟨w.heap.size, 9, none⟩ = some (.slice A3 p.items.length a3)) from fun X h => by
    have c0 := (SN.out.next h).box (.tail _ (.tail _ (.head _)))
    have c1 := (SN.out.next h).box (.tail _ (.tail _ (.tail _ (.tail _ (.tail _ (.tail _ MA.out))))))
    exact ⟨⟨c0 0, c0 1, c0 2, c0 3, c0 4, c0 5, c0 6, c0 7, c0 8, c0 9⟩, c1 0, c1 1, c1 2, c1 3, c1 4, c1 5, c1 6, c1 7, c1 8, c1 9⟩)
  have kbx := SN.out.box (.tail _ (.tail _ (.head _)))
  have lbx := SN.out.boxlt (.tail _ (.tail _ (.head _)))
  have kA := SN.out.box (.tail _ (.tail _ (.tail _ (.tail _ (.tail _ (.tail _ MA.out))))))
  have lA := SN.out.boxlt (.tail _ (.tail _ (.tail _ (.tail _ (.tail _ (.tail _ MA.out))))))
  go_wp2_with fail
  go_region_held3 (fun W' => (W'.cell? ⟨w5.heap.size, 0, none⟩ = some (.int .i64 p.way) ∧ W'.cell? ⟨w5.heap.size, 1, none⟩ = some (.int .i64 p.pallet.w) ∧ W'.cell? ⟨w5.heap.size, 2, none⟩ = some (.int .i64 p.pallet.d) ∧ W'.cell? ⟨w5.heap.size, 3, none⟩ = some (.int .i64 p.pallet.h) ∧ W'.cell? ⟨w5.heap.size, 4, none⟩ = some (.int .i64 p.pallet.gram) ∧ W'.cell? ⟨w5.heap.size, 5, none⟩ = some (.int .i64 p.classes) ∧ W'.cell? ⟨w5.heap.size, 6, none⟩ = some (.slice X1 p.pairs.length x1) ∧ W'.cell? ⟨w5.heap.size, 7, none⟩ = some (.slice X2 p.types.length x2) ∧ W'.cell? ⟨w5.heap.size, 8, none⟩ = some (.int .i64 p.master) ∧ W'.cell? ⟨w5.heap.size, 9, none⟩ = some (.slice X3 p.items.length x3)) ∧ (W'.cell? ⟨w.heap.size, 0, none⟩ = some (.int .i64 p.way) ∧ W'.cell? ⟨w.heap.size, 1, none⟩ = some (.int .i64 p.pallet.w) ∧ W'.cell? ⟨w.heap.size, 2, none⟩ = some (.int .i64 p.pallet.d) ∧ W'.cell? ⟨w.heap.size, 3, none⟩ = some (.int .i64 p.pallet.h) ∧ W'.cell? ⟨w.heap.size, 4, none⟩ = some (.int .i64 p.pallet.gram) ∧ W'.cell? ⟨w.heap.size, 5, none⟩ = some (.int .i64 p.classes) ∧ W'.cell? ⟨w.heap.size, 6, none⟩ = some (.slice A1 p.pairs.length a1) ∧ W'.cell? ⟨w.heap.size, 7, none⟩ = some (.slice A2 p.types.length a2) ∧ W'.cell? ⟨w.heap.size, 8, none⟩ = some (.int .i64 p.master) ∧ W'.cell? ⟨w.heap.size, 9, none⟩ = some (.slice A3 p.items.length a3)))
    (first | (refine HC.out _ ?_; (repeat' (first | with_reducible exact Below.refl _ _ | with_reducible assumption | with_reducible refine Below.drew ?_ | with_reducible refine Below.alloc ?_ ?_ _ | with_reducible refine Below.setCell ?_ ?_ _ | with_reducible refine Below.setW ?_ _ _ _ ?_ | omega | (simp; done) | (simp; omega))); done) | go_keep)
    (first
      | (go_at_call 9; refine (toRequest_any _ p _ (H0.out.next (SN.out.next (by (repeat' (first | with_reducible exact Below.refl _ _ | with_reducible assumption | with_reducible refine Below.drew ?_ | with_reducible refine Below.alloc ?_ ?_ _ | with_reducible refine Below.setCell ?_ ?_ _ | with_reducible refine Below.setW ?_ _ _ _ ?_ | omega | (simp; done) | (simp; omega))))).low)).mono ?_; rintro e w10 ⟨u2, f2, rfl, ho2, hb10⟩; have hn10 := bstep (a := w9) (by (repeat' (first | with_reducible exact Below.refl _ _ | with_reducible assumption | with_reducible refine Below.drew ?_ | with_reducible refine Below.alloc ?_ ?_ _ | with_reducible refine Below.setCell ?_ ?_ _ | with_reducible refine Below.setW ?_ _ _ _ ?_ | omega | (simp; done) | (simp; omega)))) hb10)
      | (go_at_call 12; refine (eqRequest_any _ _ p p _ (((SN.out.next (show Below w9.heap.size w9 _ by (repeat' (first | with_reducible exact Below.refl _ _ | with_reducible assumption | with_reducible refine Below.drew ?_ | with_reducible refine Below.alloc ?_ ?_ _ | with_reducible refine Below.setCell ?_ ?_ _ | with_reducible refine Below.setW ?_ _ _ _ ?_ | omega | (simp; done) | (simp; omega))))).own (.tail _ (.tail _ (.tail _ (.head _))))).read (by omega)) (ho2.read (by omega))).mono ?_; rintro e w11 ⟨rfl, hb11⟩; have hn11 := bstep (a := w9) (by (repeat' (first | with_reducible exact Below.refl _ _ | with_reducible assumption | with_reducible refine Below.drew ?_ | with_reducible refine Below.alloc ?_ ?_ _ | with_reducible refine Below.setCell ?_ ?_ _ | with_reducible refine Below.setW ?_ _ _ _ ?_ | omega | (simp; done) | (simp; omega)))) hb11))
  have SN := Lib.hid (SN.out.next hn11)
  clear HC hn11 hb11 hn10 hb10 ho2
  clear kbx lbx kA lA
  have kbx := SN.out.box (.tail _ (.tail _ (.head _)))
  have lbx := SN.out.boxlt (.tail _ (.tail _ (.head _)))
  go_wp2_with fail
  refine (markRequest_any _ p _ (1) _ _ (SN.out.own (.tail _ (.tail _ (.tail _ (.head _))))) (by omega) (by omega) (by omega)).mono ?_
  rintro e w12 ⟨rfl, ho, ht⟩
  have SN := Lib.hid (Sit.mark (l1 := [_, _, _]) SN.out ht ho)
  dsimp only [List.cons_append, List.nil_append] at SN
  clear ho ht
  clear kbx lbx
  have kbg := SN.out.box (.head _)
  have lbg := SN.out.boxlt (.head _)
  have kbe := SN.out.box (.tail _ (.tail _ (.tail _ (.tail _ (.head _)))))
  have lbe := SN.out.boxlt (.tail _ (.tail _ (.tail _ (.tail _ (.head _)))))
  go_wp2_with fail
  refine (eqRequest_any _ _ q q _ ((SN.out.own (.tail _ (.head _))).read (by omega)) ((SN.out.own (.tail _ (.tail _ (.tail _ (.tail _ (.tail _ (.head _))))))).read (by omega))).mono ?_
  rintro e w13 ⟨rfl, hb⟩
  have SN := Lib.hid (SN.out.next hb)
  clear hb
  clear kbg lbg kbe lbe
  have kbg := SN.out.box (.head _)
  have lbg := SN.out.boxlt (.head _)
  go_wp2_with fail
  refine (markRequest_any _ q _ (1) _ _ (SN.out.own (.tail _ (.head _))) (by omega) (by omega) (by omega)).mono ?_
  rintro e w14 ⟨rfl, ho, ht⟩
  have SN := Lib.hid (Sit.mark (l1 := [_]) SN.out ht ho)
  dsimp only [List.cons_append, List.nil_append] at SN
  clear ho ht
  clear kbg lbg
  have kbg := SN.out.box (.head _)
  have lbg := SN.out.boxlt (.head _)
  go_wp2_with fail
  refine (heldRequest_any _ q (1) _ ((SN.out.own (.tail _ (.head _))).read (by rw [mkR_bulk]; omega)) (by omega) (by omega) (by omega)).mono ?_
  rintro e w15 ⟨rfl, hb⟩
  have SN := Lib.hid (SN.out.next hb)
  clear hb
  clear kbg lbg
  have HC := Lib.hid (show ∀ (X : World) (_ : Below w15.heap.size w15 X), (X.cell? ⟨w.heap.size, 0, none⟩ = some (.int .i64 p.way) ∧ X.cell? ⟨w.heap.size, 1, none⟩ = some (.int .i64 p.pallet.w) ∧ X.cell? ⟨w.heap.size, 2, none⟩ = some (.int .i64 p.pallet.d) ∧ X.cell? ⟨w.heap.size, 3, none⟩ = some (.int .i64 p.pallet.h) ∧ X.cell? ⟨w.heap.size, 4, none⟩ = some (.int .i64 p.pallet.gram) ∧ X.cell? ⟨w.heap.size, 5, none⟩ = some (.int .i64 p.classes) ∧ X.cell? ⟨w.heap.size, 6, none⟩ = some (.slice A1 p.pairs.length a1) ∧ X.cell? ⟨w.heap.size, 7, none⟩ = some (.slice A2 p.types.length a2) ∧ X.cell? ⟨w.heap.size, 8, none⟩ = some (.int .i64 p.master) ∧ X.cell? ⟨w.heap.size, 9, none⟩ = some (.slice A3 p.items.length a3)) ∧ (X.cell? ⟨w.heap.size + 1, 0, none⟩ = some (.int .i64 x.id) ∧ X.cell? ⟨w.heap.size + 1, 1, none⟩ = some (.int .i64 x.w) ∧ X.cell? ⟨w.heap.size + 1, 2, none⟩ = some (.int .i64 x.h) ∧ X.cell? ⟨w.heap.size + 1, 3, none⟩ = some (.int .i64 x.d) ∧ X.cell? ⟨w.heap.size + 1, 4, none⟩ = some (.int .i64 x.gram) ∧ X.cell? ⟨w.heap.size + 1, 5, none⟩ = some (.int .i64 x.cls) ∧ X.cell? ⟨w.heap.size + 1, 6, none⟩ = some (.int .i64 x.count)) from fun X h => by
    have c0 := (SN.out.next h).box (.tail _ (.tail _ (.tail _ (.tail _ (.tail _ (.tail _ MI.out))))))
    have c1 := (SN.out.next h).box (.tail _ (.tail _ (.tail _ (.tail _ (.tail _ (.tail _ MA.out))))))
    exact ⟨⟨c1 0, c1 1, c1 2, c1 3, c1 4, c1 5, c1 6, c1 7, c1 8, c1 9⟩, c0 0, c0 1, c0 2, c0 3, c0 4, c0 5, c0 6⟩)
  have kA := SN.out.box (.tail _ (.tail _ (.tail _ (.tail _ (.tail _ (.tail _ MA.out))))))
  have lA := SN.out.boxlt (.tail _ (.tail _ (.tail _ (.tail _ (.tail _ (.tail _ MA.out))))))
  have kI := SN.out.box (.tail _ (.tail _ (.tail _ (.tail _ (.tail _ (.tail _ MI.out))))))
  have lI := SN.out.boxlt (.tail _ (.tail _ (.tail _ (.tail _ (.tail _ (.tail _ MI.out))))))
  go_upto_region 24 with fail
  go_cut [14, 15] (fun v6 v7 X => ∃ gh fh H1 h1 H2 h2 H3 h3, v6 = .pointer (some ⟨gh, 0, none⟩) ∧ v7 = .bool b ∧ Hid (Sit w X (fBox gh #[.int .i64 q.way, .int .i64 q.pallet.w, .int .i64 q.pallet.d, .int .i64 q.pallet.h, .int .i64 q.pallet.gram, .int .i64 q.classes, .slice H1 q.pairs.length h1, .slice H2 q.types.length h2, .int .i64 q.master, .slice H3 q.items.length h3] 37 :: fReq w15.heap.size (.agg #[.int .i64 q.way, .int .i64 q.pallet.w, .int .i64 q.pallet.d, .int .i64 q.pallet.h, .int .i64 q.pallet.gram, .int .i64 q.classes, .slice H1 q.pairs.length h1, .slice H2 q.types.length h2, .int .i64 q.master, .slice H3 q.items.length h3]) q fh :: fBox gg #[.int .i64 q.way, .int .i64 q.pallet.w, .int .i64 q.pallet.d, .int .i64 q.pallet.h, .int .i64 q.pallet.gram, .int .i64 q.classes, .slice G1 q.pairs.length g1, .slice G2 q.types.length g2, .int .i64 q.master, .slice G3 q.items.length g3] 37 :: fReq w6.heap.size (.agg #[.int .i64 q.way, .int .i64 q.pallet.w, .int .i64 q.pallet.d, .int .i64 q.pallet.h, .int .i64 q.pallet.gram, .int .i64 q.classes, .slice G1 q.pairs.length g1, .slice G2 q.types.length g2, .int .i64 q.master, .slice G3 q.items.length g3]) (mkR 1 q) fg :: fBox w5.heap.size #[.int .i64 p.way, .int .i64 p.pallet.w, .int .i64 p.pallet.d, .int .i64 p.pallet.h, .int .i64 p.pallet.gram, .int .i64 p.classes, .slice X1 p.pairs.length x1, .slice X2 p.types.length x2, .int .i64 p.master, .slice X3 p.items.length x3] 37 :: fReq w4.heap.size (.agg #[.int .i64 p.way, .int .i64 p.pallet.w, .int .i64 p.pallet.d, .int .i64 p.pallet.h, .int .i64 p.pallet.gram, .int .i64 p.classes, .slice X1 p.pairs.length x1, .slice X2 p.types.length x2, .int .i64 p.master, .slice X3 p.items.length x3]) (mkR 1 p) f5 :: fBox ge #[.int .i64 q.way, .int .i64 q.pallet.w, .int .i64 q.pallet.d, .int .i64 q.pallet.h, .int .i64 q.pallet.gram, .int .i64 q.classes, .slice E1 q.pairs.length e1, .slice E2 q.types.length e2, .int .i64 q.master, .slice E3 q.items.length e3] 37 :: fReq w1.heap.size (.agg #[.int .i64 q.way, .int .i64 q.pallet.w, .int .i64 q.pallet.d, .int .i64 q.pallet.h, .int .i64 q.pallet.gram, .int .i64 q.classes, .slice E1 q.pairs.length e1, .slice E2 q.types.length e2, .int .i64 q.master, .slice E3 q.items.length e3]) q fe :: l)))
  case first =>
    go_region_held3 (fun W' => (W'.cell? ⟨w.heap.size, 0, none⟩ = some (.int .i64 p.way) ∧ W'.cell? ⟨w.heap.size, 1, none⟩ = some (.int .i64 p.pallet.w) ∧ W'.cell? ⟨w.heap.size, 2, none⟩ = some (.int .i64 p.pallet.d) ∧ W'.cell? ⟨w.heap.size, 3, none⟩ = some (.int .i64 p.pallet.h) ∧ W'.cell? ⟨w.heap.size, 4, none⟩ = some (.int .i64 p.pallet.gram) ∧ W'.cell? ⟨w.heap.size, 5, none⟩ = some (.int .i64 p.classes) ∧ W'.cell? ⟨w.heap.size, 6, none⟩ = some (.slice A1 p.pairs.length a1) ∧ W'.cell? ⟨w.heap.size, 7, none⟩ = some (.slice A2 p.types.length a2) ∧ W'.cell? ⟨w.heap.size, 8, none⟩ = some (.int .i64 p.master) ∧ W'.cell? ⟨w.heap.size, 9, none⟩ = some (.slice A3 p.items.length a3)) ∧ (W'.cell? ⟨w.heap.size + 1, 0, none⟩ = some (.int .i64 x.id) ∧ W'.cell? ⟨w.heap.size + 1, 1, none⟩ = some (.int .i64 x.w) ∧ W'.cell? ⟨w.heap.size + 1, 2, none⟩ = some (.int .i64 x.h) ∧ W'.cell? ⟨w.heap.size + 1, 3, none⟩ = some (.int .i64 x.d) ∧ W'.cell? ⟨w.heap.size + 1, 4, none⟩ = some (.int .i64 x.gram) ∧ W'.cell? ⟨w.heap.size + 1, 5, none⟩ = some (.int .i64 x.cls) ∧ W'.cell? ⟨w.heap.size + 1, 6, none⟩ = some (.int .i64 x.count)))
      (first | (refine HC.out _ ?_; (repeat' (first | with_reducible exact Below.refl _ _ | with_reducible assumption | with_reducible refine Below.drew ?_ | with_reducible refine Below.alloc ?_ ?_ _ | with_reducible refine Below.setCell ?_ ?_ _ | with_reducible refine Below.setW ?_ _ _ _ ?_ | omega | (simp; done) | (simp; omega))); done) | go_keep)
      (first
        | (go_at_call 9; (try (first | refine calls_new ?_ | refine calls_newd ?_); intro hg); refine (toRequest_any _ p _ (H0.out.next (SN.out.next (by (repeat' (first | with_reducible exact Below.refl _ _ | with_reducible assumption | with_reducible refine Below.drew ?_ | with_reducible refine Below.alloc ?_ ?_ _ | with_reducible refine Below.setCell ?_ ?_ _ | with_reducible refine Below.setW ?_ _ _ _ ?_ | omega | (simp; done) | (simp; omega))))).low)).mono ?_; rintro e w16 ⟨u2, f2, rfl, ho2, hb16⟩; have hn16 := bstep (a := w15) (by (repeat' (first | with_reducible exact Below.refl _ _ | with_reducible assumption | with_reducible refine Below.drew ?_ | with_reducible refine Below.alloc ?_ ?_ _ | with_reducible refine Below.setCell ?_ ?_ _ | with_reducible refine Below.setW ?_ _ _ _ ?_ | omega | (simp; done) | (simp; omega)))) hb16; have hz16 := hn16.size; have hj16 := hb16.size; (try simp only [World.size_alloc, World.size_drew] at hj16); (try have hg := blk_next hg hb16); (try (have hgc := fun j => cell_of_row _ _ j _ _ (0, 0) hg; have hgf := fun j => frozen_of_row _ _ j _ _ hg; have hgl := lt_of_block hg)))
        | (go_at_call 10; (try (first | refine calls_new ?_ | refine calls_newd ?_); intro hg); refine (toItem_any x _).mono ?_; rintro e w17 ⟨rfl, hb17⟩; have hn17 := bstep (a := w15) (by (repeat' (first | with_reducible exact Below.refl _ _ | with_reducible assumption | with_reducible refine Below.drew ?_ | with_reducible refine Below.alloc ?_ ?_ _ | with_reducible refine Below.setCell ?_ ?_ _ | with_reducible refine Below.setW ?_ _ _ _ ?_ | omega | (simp; done) | (simp; omega)))) hb17; have hz17 := hn17.size; have hj17 := hb17.size; (try simp only [World.size_alloc, World.size_drew] at hj17); (try have hg := blk_next hg hb17); (try (have hgc := fun j => cell_of_row _ _ j _ _ (0, 0) hg; have hgf := fun j => frozen_of_row _ _ j _ _ hg; have hgl := lt_of_block hg)); have ho3 := (ho2.next (by (repeat' (first | with_reducible exact Below.refl _ _ | with_reducible assumption | with_reducible refine Below.drew ?_ | with_reducible refine Below.alloc ?_ ?_ _ | with_reducible refine Below.setCell ?_ ?_ _ | with_reducible refine Below.setW ?_ _ _ _ ?_ | omega | (simp; done) | (simp; omega))))).next hb17)
        | (go_at_call 11; (try (first | refine calls_new ?_ | refine calls_newd ?_); intro hg); refine (HI.out _ _ ((ho3.next (by (repeat' (first | with_reducible exact Below.refl _ _ | with_reducible assumption | with_reducible refine Below.drew ?_ | with_reducible refine Below.alloc ?_ ?_ _ | with_reducible refine Below.setCell ?_ ?_ _ | with_reducible refine Below.setW ?_ _ _ _ ?_ | omega | (simp; done) | (simp; omega))))).read (by omega))).mono ?_; rintro e w18 ⟨u4, f4, rfl, ho4, hb18⟩; have hn18 := bstep (a := w15) (by (repeat' (first | with_reducible exact Below.refl _ _ | with_reducible assumption | with_reducible refine Below.drew ?_ | with_reducible refine Below.alloc ?_ ?_ _ | with_reducible refine Below.setCell ?_ ?_ _ | with_reducible refine Below.setW ?_ _ _ _ ?_ | omega | (simp; done) | (simp; omega)))) hb18; have hz18 := hn18.size; have hj18 := hb18.size; (try simp only [World.size_alloc, World.size_drew] at hj18); (try have hg := blk_next hg hb18); (try (have hgc := fun j => cell_of_row _ _ j _ _ (0, 0) hg; have hgf := fun j => frozen_of_row _ _ j _ _ hg; have hgl := lt_of_block hg)); obtain ⟨D1, d1, D2, d2, D3, d3, rfl⟩ := ho4.form))
    all_goals (go_wp2_with fail; go_meet)
    · exact ⟨_, _, _, _, _, _, _, _, rfl, rfl, Lib.hid (SN.out.fresh hn18 ho4 (by (try simp only [World.size_alloc, World.size_drew]); omega) _ _)⟩
    all_goals refine ⟨_, _, _, _, _, _, _, _, rfl, rfl, Lib.hid (SN.out.early hn18 ho4 ?_ hg ?_ ?_)⟩
    all_goals ((try simp only [World.size_alloc, World.size_drew]); omega)
  case rest =>
  obtain ⟨gh, fh, H1, h1, H2, h2, H3, h3, rfl, rfl, SN2⟩ := hcut
  have SN := SN2
  clear SN2 HC
  obtain ⟨w18, rfl⟩ : ∃ W, W = wc := ⟨_, rfl⟩
  have kbh := SN.out.box (.head _)
  have lbh := SN.out.boxlt (.head _)
  have kbe := SN.out.box (.tail _ (.tail _ (.tail _ (.tail _ (.tail _ (.tail _ (.head _)))))))
  have lbe := SN.out.boxlt (.tail _ (.tail _ (.tail _ (.tail _ (.tail _ (.tail _ (.head _)))))))
  go_wp2_with fail
  refine (eqRequest_any _ _ q q _ ((SN.out.own (.tail _ (.head _))).read (by omega)) ((SN.out.own (.tail _ (.tail _ (.tail _ (.tail _ (.tail _ (.tail _ (.tail _ (.head _))))))))).read (by omega))).mono ?_
  rintro e w19 ⟨rfl, hb⟩
  have SN := Lib.hid (SN.out.next hb)
  clear hb
  clear kbh lbh kbe lbe
  have kbg := SN.out.box (.tail _ (.tail _ (.head _)))
  have lbg := SN.out.boxlt (.tail _ (.tail _ (.head _)))
  go_wp2_with fail
  refine (heldRequest_any _ q (1) _ ((SN.out.own (.tail _ (.tail _ (.tail _ (.head _))))).read (by rw [mkR_bulk]; omega)) (by omega) (by omega) (by omega)).mono ?_
  rintro e w20 ⟨rfl, hb⟩
  have SN := Lib.hid (SN.out.next hb)
  clear hb
  clear kbg lbg
  go_wp2
  go_ret
  exact ⟨rfl, SN.out.low⟩
set_option maxRecDepth 100000 in
theorem FnExactWithItem_lifted (os : Os) (started : os.Started) (H : Type) (enc : TypeId × Value → H) :
    ReturnsInHanded {} Tryz.checked os 3 .any (Rows.fnExactWithItemSpec.pre6 enc Tryz.prog Tryz.f3 Rows.fnExactWithItemRow.domain false) (Rows.fnExactWithItemSpec.post enc Tryz.prog Tryz.f3 false true false false) := by
  refine returnsInHanded_of_change (C := Tryz.checked) own_ started (by kernel_rfl) Tryz.func3
    (ChangeSpec.witness6 (enc := enc) (C := Tryz.checked) false ⟨#[], #[.agg #[.int .i64 0, .int .i64 0, .int .i64 0, .int .i64 0, .int .i64 0, .int .i64 0, .slice none 0 0, .slice none 0 0, .int .i64 0, .slice none 0 0], .agg #[.int .i64 0, .int .i64 0, .int .i64 0, .int .i64 0, .int .i64 0, .int .i64 0, .int .i64 0]], []⟩ 8 (by kernel_rfl) (by kernel_rfl) (by kernel_rfl) (by kernel_rfl)) ?_
  intro W base args ds gs before hval0 hW hcnd _
  have hval : ∀ (j : Nat) t v, Tryz.f3.params[j]? = some t → args[j]? = some v → Value.okWide Tryz.prog W .any base t v := hval0
  have hW' := hW
  obtain ⟨p, q, hA0, hV, rfl, hfz, hnd⟩ := hW
  have hA : DataW.TrodAll enc Tryz.prog W 0 (fun _ => true) true Tryz.f3.params.toList args.toList ds p := hA0
  rw [Tryz.params3] at hA hval
  obtain ⟨v0, vs0, d0, ds0, p0, q0, hargs, rfl, rfl, h0, r0⟩ := trodAll_cons hA
  obtain ⟨v1, vs1, d1, ds1, p1, q1, rfl, rfl, rfl, h1, r1⟩ := trodAll_cons r0
  obtain ⟨rfl, rfl, rfl⟩ := trodAll_nil r1
  obtain rfl : args = #[v0, v1] := by cases args; simp_all
  obtain ⟨rfl, rfl⟩ := trodVars_none hV
  clear hA0 hval0 hA
  simp only [List.append_nil] at hW'
  have hlt : ∀ x ∈ p0 ++ p1, x.block < W.heap.size := fun x hx => hW'.lt x (by simpa using hx)
  have k0 := h0
  have w0 := read_Request (hval 0 28 v0 rfl rfl) h0 (fun x hx => hlt x (by simp [hx]))
  have k1 := h1
  have w1 := read_Item (hval 1 30 v1 rfl rfl) h1 (fun x hx => hlt x (by simp [hx]))
  refine (FnExactWithItem_walk v0 v1 W w0 w1).mono fun e W' ⟨he, hb⟩ => ?_
  subst he
  exact ⟨_, rfl, post_of_below (pa := p0 ++ (p1 ++ [])) (pv := []) hW' (fun _ _ _ => (trodAll_cons_mk (shut_bool Tryz.underlying4 _) trodAll_mk0)) (fun sp hsp => (trodAll_cons_mk (stays laidOut_ (by kernel_rfl) (of_decide_eq_true (by kernel_rfl)) k0 hb (fun x hx => hlt x (by simp [hx])) (fun x hx => hsp x (by simp [hx]))) (trodAll_cons_mk (stays laidOut_ (by kernel_rfl) (of_decide_eq_true (by kernel_rfl)) k1 hb (fun x hx => hlt x (by simp [hx])) (fun x hx => hsp x (by simp [hx]))) trodAll_mk0))) (fun _ _ => rfl) (by simp) hb
    (ok_one (by kernel_rfl) rfl (okWide_bool_mk Tryz.underlying4 _))⟩
theorem FnExactWithItem_over : Rows.fnExactWithItemRow.holds Tryz.pinned (OpenSpec.ofChange Rows.fnExactWithItemSpec) :=
  OpenClaim.holds_of_wide 3 Tryz.f3 rfl rfl rfl rfl rfl rfl rfl ⟨rfl, rfl, rfl, rfl, rfl⟩ rfl rfl rfl rfl rfl (by kernel_rfl) Tryz.func3 (by kernel_rfl)
    (of_decide_eq_true (by kernel_rfl)) (by unfold Func.isWrapper; first | (rw [if_pos (by decide +kernel)]; kernel_rfl) | (rw [if_neg (by decide +kernel)]; exact ⟨rfl, rfl⟩))
    (fun os started H enc _ => FnExactWithItem_lifted os started H enc)
theorem FnExactWithItem_proved : Rows.FnExactWithItemSaid := FnExactWithItem_over
end Go.Proofs.YteamlfcfillbjaaGreat
