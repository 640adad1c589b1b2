/-
  The walks over Fits, both sides.
-/
import Derived.Test.YteamlfcfillbjaaGreatQb
import Derived.Test.YteamlfcfillbjaaGreatSu
import Derived.Test.YteamlfcfillbjaaGreatLb
namespace Go.Proofs.YteamlfcfillbjaaGreat
set_option linter.unusedVariables false
set_option linter.unusedSimpArgs false
set_option maxRecDepth 100000
open Go.RowKit
theorem flat_lit (xs : List Int) : xs.flatMap cI = xs.map (Value.int .i64) := flat_cI xs
/-- a list just built of n numbers -/
theorem own_lit (w : World) (base : Nat) (hB : base ≤ w.heap.size) (xs : List Int) (hl : xs.length ≤ 16777216) (w' : World) (h : w'.heap[w.heap.size]? = some (.cells (xs.map (Value.int .i64)).toArray 3 (0, 0))) :
    OInts w' base (.slice (some ⟨w.heap.size, 0, none⟩) xs.length xs.length) xs [w.heap.size] := by
  refine ⟨⟨by rw [flat_cI]; simp, .inr ⟨w.heap.size, xs.length, _, rfl, hB, h, Nat.le_refl _, by unfold maxLen; omega, by simp, ?_⟩⟩, rfl⟩
  rw [flat_cI]
  simp only [Nat.mul_one]
  exact List.take_of_length_le (by simp)
/-- three numbers in a block of their own -/
theorem own_at3 {w : World} {B g : Nat} {a b c : Int} (hB : B ≤ g) (h : w.heap[g]? = some (.cells #[.int .i64 a, .int .i64 b, .int .i64 c] 3 (0, 0))) : OInts w B (.slice (some ⟨g, 0, none⟩) 3 3) [a, b, c] [g] :=
  ⟨⟨rfl, .inr ⟨g, 3, _, rfl, hB, h, Nat.le_refl _, by unfold maxLen; omega, rfl, rfl⟩⟩, rfl⟩
theorem len3 {α : Type} {l : List α} (h : l.length = 3) : ∃ a b c, l = [a, b, c] := by
  match l, h with
  | [a, b, c], _ => exact ⟨a, b, c, rfl⟩
theorem sides_len (a b c : Int) : (sides a b c).length = 3 := by unfold sides; rw [sortI_length]; rfl
set_option maxRecDepth 100000 in
set_option maxHeartbeats 1000000 in
theorem l5Sides_any (a b c : Int) (w : World) : Calls Tryz.prog 74 #[.int .i64 a, .int .i64 b, .int .i64 c] w (MInts w (sides a b c)) := by
  have hb0 : Below w.heap.size w (w.alloc (.cells #[.int .i64 a, .int .i64 b, .int .i64 c] 3)) := (by repeat' (first | with_reducible exact Below.refl _ _ | with_reducible assumption | with_reducible refine Below.drew ?_ | with_reducible refine Below.alloc ?_ ?_ _ | with_reducible refine Below.setCell ?_ ?_ _ | with_reducible refine below_drewN ?_ _ | (simp; done) | (simp; omega)))
  have hR := (own_lit w w.heap.size (Nat.le_refl _) [a, b, c] (by simp) (w.alloc (.cells #[.int .i64 a, .int .i64 b, .int .i64 c] 3)) (by simpa using heap_alloc_new w (.cells #[.int .i64 a, .int .i64 b, .int .i64 c] 3))).read (by simp)
  have HC := Lib.hid (sSortUp_any _ [a, b, c] _ hR)
  have hlen : (argUp [a, b, c]).length = 3 := argUp_length _
  obtain ⟨p0, p1, p2, hp⟩ := len3 hlen
  have hm : ∀ p ∈ argUp [a, b, c], p < 3 := fun p h => argUp_mem.1 h
  have HS := Lib.hid (argUp_keys [a, b, c])
  rw [hp] at hm HS HC
  have h0 := hm p0 (by simp)
  have h1 := hm p1 (by simp)
  have h2 := hm p2 (by simp)
  obtain ⟨k0, hk0⟩ : ∃ k, keyAt [a, b, c] p0 = k := ⟨_, rfl⟩
  obtain ⟨k1, hk1⟩ : ∃ k, keyAt [a, b, c] p1 = k := ⟨_, rfl⟩
  obtain ⟨k2, hk2⟩ : ∃ k, keyAt [a, b, c] p2 = k := ⟨_, rfl⟩
  have HS := Lib.hid (show sides a b c = [k0, k1, k2] by unfold sides; rw [← HS.out, ← hk0, ← hk1, ← hk2]; rfl)
  have hcell : ∀ p, p < 3 → (w.alloc (.cells #[.int .i64 a, .int .i64 b, .int .i64 c] 3)).cell? ⟨w.heap.size, p, none⟩ = some (.int .i64 (keyAt [a, b, c] p)) := by
    intro p hp
    rw [cell_of_row _ _ p _ _ (0, 0) (heap_alloc_new w _)]
    obtain rfl | rfl | rfl : p = 0 ∨ p = 1 ∨ p = 2 := by omega
    all_goals rfl
  have HCL := Lib.hid hcell
  clear hp hm hlen hcell hR
  go_enter Tryz.func74, Tryz.ntmps74
  go_wp2_with fail
  refine HC.out.mono ?_
  rintro e w2 ⟨v', fp, rfl, ho, hb2⟩
  have hrd := ho.read (by simp [ints])
  obtain ⟨A, cc, rfl, hcc, hA⟩ := hrd
  obtain ⟨g, off, rfl, hg, hce⟩ := hA (by simp [ints])
  obtain ⟨_, _, rfl, e0⟩ := hce 0 (p0 : Int) rfl
  obtain ⟨_, _, rfl, e1⟩ := hce 1 (p1 : Int) rfl
  obtain ⟨_, _, rfl, e2⟩ := hce 2 (p2 : Int) rfl
  have q0 := e0 0 _ rfl
  have q1 := e1 0 _ rfl
  have q2 := e2 0 _ rfl
  simp only [Nat.add_zero, Nat.zero_mul, Nat.one_mul, Nat.mul_one] at q0 q1 q2
  have r0 := (hb2.cell (p := ⟨w.heap.size, p0, none⟩) (by simp)).trans (HCL.out p0 h0)
  have r1 := (hb2.cell (p := ⟨w.heap.size, p1, none⟩) (by simp)).trans (HCL.out p1 h1)
  have r2 := (hb2.cell (p := ⟨w.heap.size, p2, none⟩) (by simp)).trans (HCL.out p2 h2)
  rw [hk0] at r0
  rw [hk1] at r1
  rw [hk2] at r2
  obtain ⟨i0, i1, i2, i3, i4, i5⟩ : (0 : Int) ≤ p0 ∧ (p0 : Int) < 3 ∧ (0 : Int) ≤ p1 ∧ (p1 : Int) < 3 ∧ (0 : Int) ≤ p2 ∧ (p2 : Int) < 3 := by omega
  have hW := Lib.hid (bstep hb0 hb2)
  have hil : (ints [p0, p1, p2]).length = 3 := rfl
  rw [hil]
  clear hce e0 e1 e2 hA ho hb0 hb2 hcc hk0 hk1 hk2 hil
  go_wp2
  go_region_held3 (fun W' => W'.cell? ⟨g, off, none⟩ = some (.int .i64 p0) ∧ W'.cell? ⟨g, off + 1, none⟩ = some (.int .i64 p1) ∧ W'.cell? ⟨g, off + 2, none⟩ = some (.int .i64 p2) ∧ W'.cell? ⟨w.heap.size, p0, none⟩ = some (.int .i64 k0) ∧ W'.cell? ⟨w.heap.size, p1, none⟩ = some (.int .i64 k1) ∧ W'.cell? ⟨w.heap.size, p2, none⟩ = some (.int .i64 k2)) (go_keep) (fail)
  go_wp2
  go_ret
  rw [HS.out]
  refine MInts.mk (own_lit w2 w2.heap.size (Nat.le_refl _) [k0, k1, k2] (by simp) _ ?_) hW.out.size ?_
  · exact heap_alloc_new w2 (.cells #[.int .i64 k0, .int .i64 k1, .int .i64 k2] 3)
  · have := hW.out
    have := this.size
    (repeat' (first | with_reducible exact Below.refl _ _ | with_reducible assumption | with_reducible refine Below.drew ?_ | with_reducible refine Below.alloc ?_ ?_ _ | with_reducible refine Below.setCell ?_ ?_ _ | with_reducible refine below_drewN ?_ _ | (simp; done) | (simp; omega)))
/-- the cells of a list of three -/
theorem OInts.three {w : World} {base : Nat} {v : Value} {x0 x1 x2 : Int} {fp : List Nat} (h : OInts w base v [x0, x1, x2] fp) {B : Nat} (hB : w.heap.size ≤ B) {W : World} (hb : Below w.heap.size w W) :
    ∃ g c, v = .slice (some ⟨g, 0, none⟩) 3 c ∧ (∀ X : Ext B W, X.world.cell? ⟨g, 0, none⟩ = some (.int .i64 x0)) ∧ (∀ X : Ext B W, X.world.cell? ⟨g, 1, none⟩ = some (.int .i64 x1)) ∧ (∀ X : Ext B W, X.world.cell? ⟨g, 2, none⟩ = some (.int .i64 x2)) := by
  obtain ⟨g, cap, cur, rfl, _, hlt, _⟩ := own_ints_shape h.1 (by simp)
  have hc := fun j (hj : j < 3) => h.1.cellAt j (by simpa using hj)
  exact ⟨g, cap, rfl, fun X => ((X.low hb hB).cell (p := ⟨g, 0, none⟩) hlt).trans (hc 0 (by omega)), fun X => ((X.low hb hB).cell (p := ⟨g, 1, none⟩) hlt).trans (hc 1 (by omega)), fun X => ((X.low hb hB).cell (p := ⟨g, 2, none⟩) hlt).trans (hc 2 (by omega))⟩
set_option maxRecDepth 100000 in
set_option maxHeartbeats 1000000 in
theorem sFits_any (x : Item) (t : GType) (w : World) : Calls Tryz.prog 56 #[x.val, t.val] w fun e w' => e = .returned (.bool (fits x t)) ∧ Below w.heap.size w w' := by
  have hq0 := lay_box0 w [.cells #[.int .i64 x.id, .int .i64 x.w, .int .i64 x.h, .int .i64 x.d, .int .i64 x.gram, .int .i64 x.cls, .int .i64 x.count] 41, .cells #[.int .i64 t.id, .int .i64 t.w, .int .i64 t.h, .int .i64 t.d, .int .i64 t.tare, .int .i64 t.gram, .int .i64 t.cost] 67] _ _ rfl
  have hq1 := lay_box w [.cells #[.int .i64 x.id, .int .i64 x.w, .int .i64 x.h, .int .i64 x.d, .int .i64 x.gram, .int .i64 x.cls, .int .i64 x.count] 41, .cells #[.int .i64 t.id, .int .i64 t.w, .int .i64 t.h, .int .i64 t.d, .int .i64 t.tare, .int .i64 t.gram, .int .i64 t.cost] 67] 1 _ _ rfl
  have HL := Lib.hid (lay_low w [.cells #[.int .i64 x.id, .int .i64 x.w, .int .i64 x.h, .int .i64 x.d, .int .i64 x.gram, .int .i64 x.cls, .int .i64 x.count] 41, .cells #[.int .i64 t.id, .int .i64 t.w, .int .i64 t.h, .int .i64 t.d, .int .i64 t.tare, .int .i64 t.gram, .int .i64 t.cost] 67])
  have HZ := Lib.hid (lay_size w [.cells #[.int .i64 x.id, .int .i64 x.w, .int .i64 x.h, .int .i64 x.d, .int .i64 x.gram, .int .i64 x.cls, .int .i64 x.count] 41, .cells #[.int .i64 t.id, .int .i64 t.w, .int .i64 t.h, .int .i64 t.d, .int .i64 t.tare, .int .i64 t.gram, .int .i64 t.cost] 67])
  obtain ⟨a0, a1, a2, ha⟩ := len3 (sides_len x.w x.h x.d)
  obtain ⟨b0, b1, b2, hb⟩ := len3 (sides_len t.w t.h t.d)
  have C1 := Lib.hid (l5Sides_any x.w x.h x.d)
  have C2 := Lib.hid (l5Sides_any t.w t.h t.d)
  rw [ha] at C1
  rw [hb] at C2
  have HF := Lib.hid (show fits x t = (decide (a0 ≤ b0) && decide (a1 ≤ b1) && decide (a2 ≤ b2) && decide (x.gram ≤ t.gram)) by unfold fits; rw [ha, hb]; rfl)
  clear ha hb
  go_enter Tryz.func56, Tryz.ntmps56
  go_wp2_with fail
  refine (C1.out _).mono ?_
  rintro e w2 ⟨v1, f1, rfl, ho1, hb1⟩
  have hw2 : Below (w.heap.size + 2) (lay w [.cells #[.int .i64 x.id, .int .i64 x.w, .int .i64 x.h, .int .i64 x.d, .int .i64 x.gram, .int .i64 x.cls, .int .i64 x.count] 41, .cells #[.int .i64 t.id, .int .i64 t.w, .int .i64 t.h, .int .i64 t.d, .int .i64 t.tare, .int .i64 t.gram, .int .i64 t.cost] 67]) w2 := hb1.mono (by simp)
  obtain ⟨X2, rfl⟩ : ∃ X : Ext (w.heap.size + 2) (lay w [.cells #[.int .i64 x.id, .int .i64 x.w, .int .i64 x.h, .int .i64 x.d, .int .i64 x.gram, .int .i64 x.cls, .int .i64 x.count] 41, .cells #[.int .i64 t.id, .int .i64 t.w, .int .i64 t.h, .int .i64 t.d, .int .i64 t.tare, .int .i64 t.gram, .int .i64 t.cost] 67]), w2 = X.world := ⟨⟨w2, hw2⟩, rfl⟩
  have HO1 := Lib.hid ho1
  clear hw2 ho1 hb1
  go_wp2_with fail
  refine (C2.out _).mono ?_
  rintro e w3 ⟨v2, f2, rfl, ho2, hb2⟩
  have hw3 : Below (w.heap.size + 2) (lay w [.cells #[.int .i64 x.id, .int .i64 x.w, .int .i64 x.h, .int .i64 x.d, .int .i64 x.gram, .int .i64 x.cls, .int .i64 x.count] 41, .cells #[.int .i64 t.id, .int .i64 t.w, .int .i64 t.h, .int .i64 t.d, .int .i64 t.tare, .int .i64 t.gram, .int .i64 t.cost] 67]) w3 := X2.ok.trans (hb2.mono (HZ.out X2))
  obtain ⟨g1, d1, rfl, p0, p1, p2⟩ := HO1.out.three (B := w3.heap.size) hb2.size hb2
  obtain ⟨g2, d2, rfl, r0, r1, r2⟩ := ho2.three (B := w3.heap.size) (Nat.le_refl _) (Below.refl _ w3)
  have hlz : w.heap.size + 2 ≤ w3.heap.size := HZ.out ⟨w3, hw3⟩
  have s0 := fun (X : Ext w3.heap.size w3) (j : Nat) => (X.cells (b := w.heap.size) (o := j) (by omega)).trans (hq0 ⟨w3, hw3⟩ j)
  have s1 := fun (X : Ext w3.heap.size w3) (j : Nat) => (X.cells (b := w.heap.size + 1) (o := j) (by omega)).trans (hq1 ⟨w3, hw3⟩ j)
  have HB : Hid (Below w.heap.size w w3) := Lib.hid (HL.out ⟨w3, hw3⟩)
  clear hw3 hlz ho2 hb2 hq0 hq1
  by_cases e0 : a0 ≤ b0
  · have e0' : decide (a0 ≤ b0) = true := by simpa using e0
    by_cases e1 : a1 ≤ b1
    · have e1' : decide (a1 ≤ b1) = true := by simpa using e1
      by_cases e2 : a2 ≤ b2
      · have e2' : decide (a2 ≤ b2) = true := by simpa using e2
        have HR := Lib.hid (show fits x t = decide (x.gram ≤ t.gram) by rw [HF.out, e0', e1', e2']; simp)
        go_wp2
        refine wp_region_at (B := w3.heap.size) (by kernel_rfl) (by kernel_rfl) ?_; (repeat (go_big_quiet_step (fail))); refine wpQuiet_nil ?_; intro _ hw'; obtain ⟨Y, rfl⟩ := hw'
        go_wp2
        go_ret
        exact ⟨ret_bool HR.out.symm, bstep HB.out Y.ok⟩
      · have e2' : decide (a2 ≤ b2) = false := by simp; omega
        have HR := Lib.hid (show fits x t = false by rw [HF.out, e2']; simp)
        clear e2
        go_wp2
        refine wp_region_at (B := w3.heap.size) (by kernel_rfl) (by kernel_rfl) ?_; (repeat (go_big_quiet_step (fail))); refine wpQuiet_nil ?_; intro _ hw'; obtain ⟨Y, rfl⟩ := hw'
        go_wp2
        go_ret
        exact ⟨ret_bool HR.out.symm, bstep HB.out Y.ok⟩
    · have e1' : decide (a1 ≤ b1) = false := by simp; omega
      have HR := Lib.hid (show fits x t = false by rw [HF.out, e1']; simp)
      clear e1
      go_wp2
      refine wp_region_at (B := w3.heap.size) (by kernel_rfl) (by kernel_rfl) ?_; (repeat (go_big_quiet_step (fail))); refine wpQuiet_nil ?_; intro _ hw'; obtain ⟨Y, rfl⟩ := hw'
      go_wp2
      go_ret
      exact ⟨ret_bool HR.out.symm, bstep HB.out Y.ok⟩
  · have e0' : decide (a0 ≤ b0) = false := by simp; omega
    have HR := Lib.hid (show fits x t = false by rw [HF.out, e0']; simp)
    clear e0
    go_wp2
    refine wp_region_at (B := w3.heap.size) (by kernel_rfl) (by kernel_rfl) ?_; (repeat (go_big_quiet_step (fail))); refine wpQuiet_nil ?_; intro _ hw'; obtain ⟨Y, rfl⟩ := hw'
    go_wp2
    go_ret
    exact ⟨ret_bool HR.out.symm, bstep HB.out Y.ok⟩
set_option maxRecDepth 100000 in
set_option maxHeartbeats 1000000 in
theorem iFits_any (x : Item) (t : GType) (w : World) : Calls Tryz.prog 85 #[x.val, t.val] w fun e w' => e = .returned (.bool (fits x t)) ∧ Below w.heap.size w w' := by
  obtain ⟨W0, hW0⟩ : ∃ W, W = lay w [.cells #[.int .i64 x.id, .int .i64 x.w, .int .i64 x.h, .int .i64 x.d, .int .i64 x.gram, .int .i64 x.cls, .int .i64 x.count] 41, .cells #[.int .i64 t.id, .int .i64 t.w, .int .i64 t.h, .int .i64 t.d, .int .i64 t.tare, .int .i64 t.gram, .int .i64 t.cost] 67] := ⟨_, rfl⟩
  have hq0 : ∀ j, W0.cell? ⟨w.heap.size, j, none⟩ = (#[.int .i64 x.id, .int .i64 x.w, .int .i64 x.h, .int .i64 x.d, .int .i64 x.gram, .int .i64 x.cls, .int .i64 x.count] : Array Value)[j]? := by rw [hW0]; exact lay_box0 w [.cells #[.int .i64 x.id, .int .i64 x.w, .int .i64 x.h, .int .i64 x.d, .int .i64 x.gram, .int .i64 x.cls, .int .i64 x.count] 41, .cells #[.int .i64 t.id, .int .i64 t.w, .int .i64 t.h, .int .i64 t.d, .int .i64 t.tare, .int .i64 t.gram, .int .i64 t.cost] 67] _ _ rfl (Ext.here _ _)
  have hq1 : ∀ j, W0.cell? ⟨w.heap.size + 1, j, none⟩ = (#[.int .i64 t.id, .int .i64 t.w, .int .i64 t.h, .int .i64 t.d, .int .i64 t.tare, .int .i64 t.gram, .int .i64 t.cost] : Array Value)[j]? := by rw [hW0]; exact lay_box w [.cells #[.int .i64 x.id, .int .i64 x.w, .int .i64 x.h, .int .i64 x.d, .int .i64 x.gram, .int .i64 x.cls, .int .i64 x.count] 41, .cells #[.int .i64 t.id, .int .i64 t.w, .int .i64 t.h, .int .i64 t.d, .int .i64 t.tare, .int .i64 t.gram, .int .i64 t.cost] 67] 1 _ _ rfl (Ext.here _ _)
  have hB : Below w.heap.size w W0 := by rw [hW0]; exact lay_below _ _
  have hN : W0.heap.size = w.heap.size + 2 := by rw [hW0]; exact lay_heap _ _
  have HW0 := Lib.hid hW0
  obtain ⟨a0, a1, a2, ha⟩ := len3 (sides_len x.w x.h x.d)
  obtain ⟨b0, b1, b2, hb⟩ := len3 (sides_len t.w t.h t.d)
  have HA := Lib.hid (show sortI [x.w, x.h, x.d] = [a0, a1, a2] from ha)
  have HB := Lib.hid (show sortI [t.w, t.h, t.d] = [b0, b1, b2] from hb)
  have HF := Lib.hid (show fits x t = (decide (a0 ≤ b0) && decide (a1 ≤ b1) && decide (a2 ≤ b2) && decide (x.gram ≤ t.gram)) by unfold fits; rw [ha, hb]; rfl)
  have hc0 := hq0 1
  have hc1 := hq0 2
  have hc2 := hq0 3
  have hd0 := hq1 1
  have hd1 := hq1 2
  have hd2 := hq1 3
  simp at hc0 hc1 hc2 hd0 hd1 hd2
  have HQ0 := Lib.hid hq0
  have HQ1 := Lib.hid hq1
  have HBL := Lib.hid hB
  have HNN := Lib.hid hN
  clear ha hb hq0 hq1 hB hN
  go_enter Tryz.func85, Tryz.ntmps85
  go_wp2
  rw [show (w.alloc (.cells #[.int .i64 x.id, .int .i64 x.w, .int .i64 x.h, .int .i64 x.d, .int .i64 x.gram, .int .i64 x.cls, .int .i64 x.count] 41)).alloc (.cells #[.int .i64 t.id, .int .i64 t.w, .int .i64 t.h, .int .i64 t.d, .int .i64 t.tare, .int .i64 t.gram, .int .i64 t.cost] 67) = W0 from HW0.out.symm]
  clear hW0
  go_region_held3 (fun W' => W'.cell? ⟨w.heap.size, 1, none⟩ = some (.int .i64 x.w) ∧ W'.cell? ⟨w.heap.size, 2, none⟩ = some (.int .i64 x.h) ∧ W'.cell? ⟨w.heap.size, 3, none⟩ = some (.int .i64 x.d) ∧ W'.cell? ⟨w.heap.size + 1, 1, none⟩ = some (.int .i64 t.w) ∧ W'.cell? ⟨w.heap.size + 1, 2, none⟩ = some (.int .i64 t.h) ∧ W'.cell? ⟨w.heap.size + 1, 3, none⟩ = some (.int .i64 t.d)) (go_keep) (fail)
  all_goals clear hc0 hc1 hc2 hd0 hd1 hd2
  all_goals
    first
    | (have hB1 : Below W0.heap.size W0 ((W0.alloc (.cells #[.int .i64 x.w, .int .i64 x.h, .int .i64 x.d] 3)).alloc (.cells #[.int .i64 t.w, .int .i64 t.h, .int .i64 t.d] 3)).drew := (by repeat' (first | with_reducible exact Below.refl _ _ | with_reducible assumption | with_reducible refine Below.drew ?_ | with_reducible refine Below.alloc ?_ ?_ _ | with_reducible refine Below.setCell ?_ ?_ _ | with_reducible refine below_drewN ?_ _ | (simp; done) | (simp; omega)))
       have hh0 : ((W0.alloc (.cells #[.int .i64 x.w, .int .i64 x.h, .int .i64 x.d] 3)).alloc (.cells #[.int .i64 t.w, .int .i64 t.h, .int .i64 t.d] 3)).drew.heap[W0.heap.size]? = some (.cells #[.int .i64 x.w, .int .i64 x.h, .int .i64 x.d] 3 (0, 0)) := (show ((W0.alloc (.cells #[.int .i64 x.w, .int .i64 x.h, .int .i64 x.d] 3)).alloc (.cells #[.int .i64 t.w, .int .i64 t.h, .int .i64 t.d] 3)).heap[W0.heap.size]? = some (.cells #[.int .i64 x.w, .int .i64 x.h, .int .i64 x.d] 3 (0, 0)) by (simp only [heap_alloc_if, World.size_alloc]; repeat (first | rw [if_neg (by omega)] | rw [if_pos (by omega)] | rw [if_pos trivial])))
       have hh1 : ((W0.alloc (.cells #[.int .i64 x.w, .int .i64 x.h, .int .i64 x.d] 3)).alloc (.cells #[.int .i64 t.w, .int .i64 t.h, .int .i64 t.d] 3)).drew.heap[W0.heap.size + 1]? = some (.cells #[.int .i64 t.w, .int .i64 t.h, .int .i64 t.d] 3 (0, 0)) := (show ((W0.alloc (.cells #[.int .i64 x.w, .int .i64 x.h, .int .i64 x.d] 3)).alloc (.cells #[.int .i64 t.w, .int .i64 t.h, .int .i64 t.d] 3)).heap[W0.heap.size + 1]? = some (.cells #[.int .i64 t.w, .int .i64 t.h, .int .i64 t.d] 3 (0, 0)) by (simp only [heap_alloc_if, World.size_alloc]; repeat (first | rw [if_neg (by omega)] | rw [if_pos (by omega)] | rw [if_pos trivial])))
       obtain ⟨W1, hW1⟩ : ∃ W1, W1 = ((W0.alloc (.cells #[.int .i64 x.w, .int .i64 x.h, .int .i64 x.d] 3)).alloc (.cells #[.int .i64 t.w, .int .i64 t.h, .int .i64 t.d] 3)).drew := ⟨_, rfl⟩
       rw [← hW1] at hB1 hh0 hh1 ⊢
       have hoa : OInts W1 W0.heap.size (.slice (some ⟨W0.heap.size, 0, none⟩) 3 3) [x.w, x.h, x.d] [W0.heap.size] := own_at3 (Nat.le_refl _) hh0
       have hob : OInts W1 W0.heap.size (.slice (some ⟨W0.heap.size + 1, 0, none⟩) 3 3) [t.w, t.h, t.d] [W0.heap.size + 1] := own_at3 (Nat.le_succ _) hh1
       have hdis : ∀ k ∈ [W0.heap.size], k ∈ [W0.heap.size + 1] → False := by intro k h1 h2; simp at h1 h2; omega
       have hga : ∀ k ∈ [W0.heap.size], W0.heap.size ≤ k := by intro k h1; simp at h1; omega
       have hgb : ∀ k ∈ [W0.heap.size + 1], W0.heap.size ≤ k := by intro k h1; simp at h1; omega
       clear hW1 hh0 hh1)
    | (have hB1 : Below W0.heap.size W0 ((W0.alloc (.cells #[.int .i64 t.w, .int .i64 t.h, .int .i64 t.d] 3)).alloc (.cells #[.int .i64 x.w, .int .i64 x.h, .int .i64 x.d] 3)).drew := (by repeat' (first | with_reducible exact Below.refl _ _ | with_reducible assumption | with_reducible refine Below.drew ?_ | with_reducible refine Below.alloc ?_ ?_ _ | with_reducible refine Below.setCell ?_ ?_ _ | with_reducible refine below_drewN ?_ _ | (simp; done) | (simp; omega)))
       have hh0 : ((W0.alloc (.cells #[.int .i64 t.w, .int .i64 t.h, .int .i64 t.d] 3)).alloc (.cells #[.int .i64 x.w, .int .i64 x.h, .int .i64 x.d] 3)).drew.heap[W0.heap.size]? = some (.cells #[.int .i64 t.w, .int .i64 t.h, .int .i64 t.d] 3 (0, 0)) := (show ((W0.alloc (.cells #[.int .i64 t.w, .int .i64 t.h, .int .i64 t.d] 3)).alloc (.cells #[.int .i64 x.w, .int .i64 x.h, .int .i64 x.d] 3)).heap[W0.heap.size]? = some (.cells #[.int .i64 t.w, .int .i64 t.h, .int .i64 t.d] 3 (0, 0)) by (simp only [heap_alloc_if, World.size_alloc]; repeat (first | rw [if_neg (by omega)] | rw [if_pos (by omega)] | rw [if_pos trivial])))
       have hh1 : ((W0.alloc (.cells #[.int .i64 t.w, .int .i64 t.h, .int .i64 t.d] 3)).alloc (.cells #[.int .i64 x.w, .int .i64 x.h, .int .i64 x.d] 3)).drew.heap[W0.heap.size + 1]? = some (.cells #[.int .i64 x.w, .int .i64 x.h, .int .i64 x.d] 3 (0, 0)) := (show ((W0.alloc (.cells #[.int .i64 t.w, .int .i64 t.h, .int .i64 t.d] 3)).alloc (.cells #[.int .i64 x.w, .int .i64 x.h, .int .i64 x.d] 3)).heap[W0.heap.size + 1]? = some (.cells #[.int .i64 x.w, .int .i64 x.h, .int .i64 x.d] 3 (0, 0)) by (simp only [heap_alloc_if, World.size_alloc]; repeat (first | rw [if_neg (by omega)] | rw [if_pos (by omega)] | rw [if_pos trivial])))
       obtain ⟨W1, hW1⟩ : ∃ W1, W1 = ((W0.alloc (.cells #[.int .i64 t.w, .int .i64 t.h, .int .i64 t.d] 3)).alloc (.cells #[.int .i64 x.w, .int .i64 x.h, .int .i64 x.d] 3)).drew := ⟨_, rfl⟩
       rw [← hW1] at hB1 hh0 hh1 ⊢
       have hoa : OInts W1 W0.heap.size (.slice (some ⟨W0.heap.size + 1, 0, none⟩) 3 3) [x.w, x.h, x.d] [W0.heap.size + 1] := own_at3 (Nat.le_succ _) hh1
       have hob : OInts W1 W0.heap.size (.slice (some ⟨W0.heap.size, 0, none⟩) 3 3) [t.w, t.h, t.d] [W0.heap.size] := own_at3 (Nat.le_refl _) hh0
       have hdis : ∀ k ∈ [W0.heap.size + 1], k ∈ [W0.heap.size] → False := by intro k h1 h2; simp at h1 h2; omega
       have hga : ∀ k ∈ [W0.heap.size + 1], W0.heap.size ≤ k := by intro k h1; simp at h1; omega
       have hgb : ∀ k ∈ [W0.heap.size], W0.heap.size ≤ k := by intro k h1; simp at h1; omega
       clear hW1 hh0 hh1)
  all_goals
    go_wp2_with fail
    refine (sortInt_any _ [x.w, x.h, x.d] _ _ _ hoa (by simp)).mono ?_
    rintro e w2 ⟨rfl, ho2, ht2⟩
    rw [HA.out] at ho2
    have hob2 := hob.tch ht2 (fun k h1 h2 => hdis k h2 h1)
    have hB2 := hB1.trans (ht2.below hB1.size hga)
    clear hoa hob hB1 ht2
    go_wp2_with fail
    refine (sortInt_any _ [t.w, t.h, t.d] _ _ _ hob2 (by simp)).mono ?_
    rintro e w3 ⟨rfl, ho3, ht3⟩
    rw [HB.out] at ho3
    have hoa3 := ho2.tch ht3 hdis
    have hB3 := hB2.trans (ht3.below hB2.size hgb)
    obtain ⟨g1, d1, hv1, p0, p1, p2⟩ := hoa3.three (B := w3.heap.size) (Nat.le_refl _) (Below.refl _ w3)
    obtain ⟨g2, d2, hv2, r0, r1, r2⟩ := ho3.three (B := w3.heap.size) (Nat.le_refl _) (Below.refl _ w3)
    cases hv1
    cases hv2
    have hlz : w.heap.size + 2 ≤ w3.heap.size := by have := hB3.size; have := HNN.out; omega
    have s0 := fun (X : Ext w3.heap.size w3) (j : Nat) => (X.cells (b := w.heap.size) (o := j) (by omega)).trans ((hB3.cell (p := ⟨w.heap.size, j, none⟩) (by have := HNN.out; show w.heap.size < W0.heap.size; omega)).trans (HQ0.out j))
    have s1 := fun (X : Ext w3.heap.size w3) (j : Nat) => (X.cells (b := w.heap.size + 1) (o := j) (by omega)).trans ((hB3.cell (p := ⟨w.heap.size + 1, j, none⟩) (by have := HNN.out; show w.heap.size + 1 < W0.heap.size; omega)).trans (HQ1.out j))
    have HBW := Lib.hid (bstep HBL.out hB3)
    clear ho2 hob2 hB2 ho3 ht3 hoa3 hB3 hlz hdis hga hgb
    by_cases e0 : a0 ≤ b0
    · have e0' : decide (a0 ≤ b0) = true := by simpa using e0
      by_cases e1 : a1 ≤ b1
      · have e1' : decide (a1 ≤ b1) = true := by simpa using e1
        by_cases e2 : a2 ≤ b2
        · have e2' : decide (a2 ≤ b2) = true := by simpa using e2
          have HR := Lib.hid (show fits x t = decide (x.gram ≤ t.gram) by rw [HF.out, e0', e1', e2']; simp)
          go_wp2
          refine wp_region_at (B := w3.heap.size) (by kernel_rfl) (by kernel_rfl) ?_; (repeat (go_big_quiet_step (fail))); refine wpQuiet_nil ?_; intro _ hw'; obtain ⟨Y, rfl⟩ := hw'
          go_wp2
          go_ret
          exact ⟨ret_bool HR.out.symm, bstep HBW.out Y.ok⟩
        · have e2' : decide (a2 ≤ b2) = false := by simp; omega
          have HR := Lib.hid (show fits x t = false by rw [HF.out, e2']; simp)
          clear e2
          go_wp2
          refine wp_region_at (B := w3.heap.size) (by kernel_rfl) (by kernel_rfl) ?_; (repeat (go_big_quiet_step (fail))); refine wpQuiet_nil ?_; intro _ hw'; obtain ⟨Y, rfl⟩ := hw'
          go_wp2
          go_ret
          exact ⟨ret_bool HR.out.symm, bstep HBW.out Y.ok⟩
      · have e1' : decide (a1 ≤ b1) = false := by simp; omega
        have HR := Lib.hid (show fits x t = false by rw [HF.out, e1']; simp)
        clear e1
        go_wp2
        refine wp_region_at (B := w3.heap.size) (by kernel_rfl) (by kernel_rfl) ?_; (repeat (go_big_quiet_step (fail))); refine wpQuiet_nil ?_; intro _ hw'; obtain ⟨Y, rfl⟩ := hw'
        go_wp2
        go_ret
        exact ⟨ret_bool HR.out.symm, bstep HBW.out Y.ok⟩
    · have e0' : decide (a0 ≤ b0) = false := by simp; omega
      have HR := Lib.hid (show fits x t = false by rw [HF.out, e0']; simp)
      clear e0
      go_wp2
      refine wp_region_at (B := w3.heap.size) (by kernel_rfl) (by kernel_rfl) ?_; (repeat (go_big_quiet_step (fail))); refine wpQuiet_nil ?_; intro _ hw'; obtain ⟨Y, rfl⟩ := hw'
      go_wp2
      go_ret
      exact ⟨ret_bool HR.out.symm, bstep HBW.out Y.ok⟩
end Go.Proofs.YteamlfcfillbjaaGreat
