/-
  The walks over the program's Digits (by the library's numerals) and over BillText, both sides.
-/
import Derived.Test.YtjmokahibcbjlaaDoorDg
import Derived.Test.YtjmokahibcbjlaaDoorShelf
namespace Go.Proofs.YtjmokahibcbjlaaDoor
set_option linter.unusedVariables false
set_option linter.unusedSimpArgs false
open Go.RowKit
/-- the library's table of powers lies as it was laid -/
def Tab (w : World) : Prop := Lib.TabIs Tryd.prog w "internal/strconv.uint64pow10" .u64 Lib.pow10Tab
theorem Tab.next {w w' : World} (h : Tab w) (hb : Below w.heap.size w w') : Tab w' := Go.Joins.tab_stays (g := 0) (by kernel_rfl) h hb (Nat.le_refl _)
theorem dgt_size (n : Int) (h0 : -9223372036854775808 ≤ n) (h1 : n ≤ 9223372036854775807) : (dgt n).size ≤ 21 := Lib.itoa_length_le n h0 h1
set_option maxHeartbeats 400000 in
theorem iDigits_any (n : Int) (w : World) (h0 : -9223372036854775808 ≤ n) (h1 : n ≤ 9223372036854775807) (ht : Tab w) :
    Calls Tryd.prog 16 #[.int .i64 n] w fun e w' => e = .returned (.string (dgt n)) ∧ Below w.heap.size w w' := by
  have HC := Lib.hid (Tryd.strconv_Itoa n h0 h1 w ht)
  clear h0 h1 ht
  go_enter Tryd.func16, Tryd.ntmps16
  go_wp2_with fail
  refine HC.out.mono ?_
  rintro e w' ⟨rfl, k, os, rfl⟩
  go_wp2
  go_ret
  exact ⟨rfl, rfl, rfl, rfl, by show w.heap.size ≤ (w.heap ++ os).size; rw [Array.size_append]; omega, fun _ hj => Go.Sort.heap_grow_old (w.drewN k) os hj⟩
theorem wf_fits {n : Int} (h : (Lit.int .i64 n).wf = true) : -9223372036854775808 ≤ n ∧ n ≤ 9223372036854775807 := by
  have h1 : IntKind.i64.min ≤ n ∧ n ≤ IntKind.i64.max := by simpa [Lit.wf] using h
  rw [show IntKind.i64.min = -9223372036854775808 from rfl, show IntKind.i64.max = 9223372036854775807 from rfl] at h1
  exact h1
def sp1 : ByteArray := ⟨#[32]⟩
def billText (b : Bill) : ByteArray := if b.code = 0 then dgt b.cartons ++ sp1 ++ dgt b.pallets ++ sp1 ++ dgt b.cost ++ sp1 ++ dgt b.gram else ⟨#[33, 32]⟩ ++ clsText b.code
def Bill.fits (b : Bill) : Prop := ∀ n ∈ [b.code, b.cartons, b.pallets, b.cost, b.gram], -9223372036854775808 ≤ n ∧ n ≤ 9223372036854775807
theorem clsText_size (k : Int) : (clsText k).size ≤ 6 := by
  unfold clsText
  split
  · rename_i h
    obtain ⟨n, rfl⟩ : ∃ n : Nat, k = n := ⟨k.toNat, by omega⟩
    have hn : n ≤ 6 := by omega
    obtain rfl | rfl | rfl | rfl | rfl | rfl | rfl : n = 0 ∨ n = 1 ∨ n = 2 ∨ n = 3 ∨ n = 4 ∨ n = 5 ∨ n = 6 := by omega
    all_goals decide
  · decide
set_option maxHeartbeats 400000 in
theorem sBillText_any (b : Bill) (w : World) (hf : b.fits) :
    Calls Tryd.prog 5 #[b.val] w fun e w' => e = .returned (.string (billText b)) ∧ Below w.heap.size w w' := by
  have hW : Below w.heap.size w (w.alloc (.cells #[.int .i64 b.code, .int .i64 b.cartons, .int .i64 b.pallets, .int .i64 b.cost, .int .i64 b.gram] 25)) := (by repeat' (first | with_reducible exact Below.refl _ _ | with_reducible assumption | with_reducible refine Below.drew ?_ | with_reducible refine Below.alloc ?_ ?_ _ | with_reducible refine Below.setCell ?_ ?_ _ | with_reducible refine below_drewN ?_ _ | (simp; done) | (simp; omega)))
  by_cases hc : b.code = 0
  · have hq : (b.code != 0) = false := by simp [hc]
    have HT := Lib.hid (show billText b = dgt b.cartons ++ sp1 ++ dgt b.pallets ++ sp1 ++ dgt b.cost ++ sp1 ++ dgt b.gram by unfold billText; rw [if_pos hc])
    have f1 := hf b.cartons (by simp)
    have f2 := hf b.pallets (by simp)
    have f3 := hf b.cost (by simp)
    have f4 := hf b.gram (by simp)
    have s1 := dgt_size _ f1.1 f1.2
    have s2 := dgt_size _ f2.1 f2.2
    have s3 := dgt_size _ f3.1 f3.2
    have s4 := dgt_size _ f4.1 f4.2
    have HX := heap_alloc_new w (.cells #[.int .i64 b.code, .int .i64 b.cartons, .int .i64 b.pallets, .int .i64 b.cost, .int .i64 b.gram] 25)
    have hE := fun (n : Int) (h0 : -9223372036854775808 ≤ n) (h1 : n ≤ 9223372036854775807) (X : Ext (w.alloc (.cells #[.int .i64 b.code, .int .i64 b.cartons, .int .i64 b.pallets, .int .i64 b.cost, .int .i64 b.gram] 25)).heap.size (w.alloc (.cells #[.int .i64 b.code, .int .i64 b.cartons, .int .i64 b.pallets, .int .i64 b.cost, .int .i64 b.gram] 25))) => ext_call (x := X) (Nat.le_refl _) (sDigits_any n X.world h0 h1)
    have E1 := Lib.hid (hE b.cartons f1.1 f1.2)
    have E2 := Lib.hid (hE b.pallets f2.1 f2.2)
    have E3 := Lib.hid (hE b.cost f3.1 f3.2)
    have E4 := Lib.hid (hE b.gram f4.1 f4.2)
    have hq0 := fun (j : Nat) (X : Ext (w.alloc (.cells #[.int .i64 b.code, .int .i64 b.cartons, .int .i64 b.pallets, .int .i64 b.cost, .int .i64 b.gram] 25)).heap.size (w.alloc (.cells #[.int .i64 b.code, .int .i64 b.cartons, .int .i64 b.pallets, .int .i64 b.cost, .int .i64 b.gram] 25))) => (X.cells (b := w.heap.size) (o := j) (by simp)).trans (cell_of_row _ _ j _ _ (0, 0) HX)
    obtain ⟨d1, e1⟩ : ∃ d, d = dgt b.cartons := ⟨_, rfl⟩
    obtain ⟨d2, e2⟩ : ∃ d, d = dgt b.pallets := ⟨_, rfl⟩
    obtain ⟨d3, e3⟩ : ∃ d, d = dgt b.cost := ⟨_, rfl⟩
    obtain ⟨d4, e4⟩ : ∃ d, d = dgt b.gram := ⟨_, rfl⟩
    rw [← e1] at s1 E1 HT
    rw [← e2] at s2 E2 HT
    rw [← e3] at s3 E3 HT
    rw [← e4] at s4 E4 HT
    clear hf hE f1 f2 f3 f4 HX e1 e2 e3 e4 hc
    go_enter Tryd.func5, Tryd.ntmps5
    go_wp2
    refine wp_region_ext (w.alloc (.cells #[.int .i64 b.code, .int .i64 b.cartons, .int .i64 b.pallets, .int .i64 b.cost, .int .i64 b.gram] 25)).heap.size (by kernel_rfl) (by kernel_rfl) ?_
    repeat (go_big_quiet_step (first | with_reducible exact E1.out _ | with_reducible exact E2.out _ | with_reducible exact E3.out _ | with_reducible exact E4.out _))
    refine wpQuiet_nil ?_
    intro _ hw'
    obtain ⟨X, rfl⟩ := hw'
    go_wp2
    go_ret
    exact ⟨ret_str (by rw [HT.out]; rfl), hW.trans (X.ok.mono hW.size)⟩
  · have hq : (b.code != 0) = true := by simpa using hc
    have HT := Lib.hid (show billText b = ⟨#[33, 32]⟩ ++ clsText b.code by unfold billText; rw [if_neg hc])
    have hs := clsText_size b.code
    obtain ⟨d, e1⟩ : ∃ d, d = clsText b.code := ⟨_, rfl⟩
    rw [← e1] at hs HT
    have HE := Lib.hid e1
    clear hc hf e1
    go_enter Tryd.func5, Tryd.ntmps5
    go_wp2_with (go_at_call 13; refine (sClassText_any b.code _).mono ?_; rintro e w' ⟨rfl, hb1⟩; rw [← HE.out])
    go_ret
    exact ⟨ret_str HT.out.symm, bstep hW hb1⟩
set_option maxHeartbeats 400000 in
theorem refused_any (k : Int) (w : World) : Calls Tryd.prog 15 #[.int .i64 k] w fun e w' => e = .returned (.string (⟨#[33, 32]⟩ ++ clsText k)) ∧ Below w.heap.size w w' := by
  have hs := clsText_size k
  obtain ⟨d, e1⟩ : ∃ d, d = clsText k := ⟨_, rfl⟩
  rw [← e1] at hs ⊢
  have HE := Lib.hid e1
  clear e1
  go_enter Tryd.func15, Tryd.ntmps15
  go_wp2_with (go_at_call 31; refine (iClassText_any k _).mono ?_; rintro e w' ⟨rfl, hb1⟩; rw [← HE.out])
  go_ret
  exact ⟨rfl, hb1⟩
set_option maxHeartbeats 400000 in
theorem iBillText_any (b : Bill) (w : World) (hf : b.fits) (ht : Tab w) :
    Calls Tryd.prog 7 #[b.val] w fun e w' => e = .returned (.string (billText b)) ∧ Below w.heap.size w w' := by
  have hW : Below w.heap.size w (w.alloc (.cells #[.int .i64 b.code, .int .i64 b.cartons, .int .i64 b.pallets, .int .i64 b.cost, .int .i64 b.gram] 25)) := (by repeat' (first | with_reducible exact Below.refl _ _ | with_reducible assumption | with_reducible refine Below.drew ?_ | with_reducible refine Below.alloc ?_ ?_ _ | with_reducible refine Below.setCell ?_ ?_ _ | with_reducible refine below_drewN ?_ _ | (simp; done) | (simp; omega)))
  by_cases hc : b.code = 0
  · have hq : (b.code != 0) = false := by simp [hc]
    have HT := Lib.hid (show billText b = dgt b.cartons ++ sp1 ++ dgt b.pallets ++ sp1 ++ dgt b.cost ++ sp1 ++ dgt b.gram by unfold billText; rw [if_pos hc])
    have f1 := hf b.cartons (by simp)
    have f2 := hf b.pallets (by simp)
    have f3 := hf b.cost (by simp)
    have f4 := hf b.gram (by simp)
    have s1 := dgt_size _ f1.1 f1.2
    have s2 := dgt_size _ f2.1 f2.2
    have s3 := dgt_size _ f3.1 f3.2
    have s4 := dgt_size _ f4.1 f4.2
    have HX := heap_alloc_new w (.cells #[.int .i64 b.code, .int .i64 b.cartons, .int .i64 b.pallets, .int .i64 b.cost, .int .i64 b.gram] 25)
    have hE := fun (n : Int) (h0 : -9223372036854775808 ≤ n) (h1 : n ≤ 9223372036854775807) (X : Ext (w.alloc (.cells #[.int .i64 b.code, .int .i64 b.cartons, .int .i64 b.pallets, .int .i64 b.cost, .int .i64 b.gram] 25)).heap.size (w.alloc (.cells #[.int .i64 b.code, .int .i64 b.cartons, .int .i64 b.pallets, .int .i64 b.cost, .int .i64 b.gram] 25))) => ext_call (x := X) (Nat.le_refl _) (iDigits_any n X.world h0 h1 ((ht.next hW).next (X.ok)))
    have E1 := Lib.hid (hE b.cartons f1.1 f1.2)
    have E2 := Lib.hid (hE b.pallets f2.1 f2.2)
    have E3 := Lib.hid (hE b.cost f3.1 f3.2)
    have E4 := Lib.hid (hE b.gram f4.1 f4.2)
    have hq0 := fun (j : Nat) (X : Ext (w.alloc (.cells #[.int .i64 b.code, .int .i64 b.cartons, .int .i64 b.pallets, .int .i64 b.cost, .int .i64 b.gram] 25)).heap.size (w.alloc (.cells #[.int .i64 b.code, .int .i64 b.cartons, .int .i64 b.pallets, .int .i64 b.cost, .int .i64 b.gram] 25))) => (X.cells (b := w.heap.size) (o := j) (by simp)).trans (cell_of_row _ _ j _ _ (0, 0) HX)
    obtain ⟨d1, e1⟩ : ∃ d, d = dgt b.cartons := ⟨_, rfl⟩
    obtain ⟨d2, e2⟩ : ∃ d, d = dgt b.pallets := ⟨_, rfl⟩
    obtain ⟨d3, e3⟩ : ∃ d, d = dgt b.cost := ⟨_, rfl⟩
    obtain ⟨d4, e4⟩ : ∃ d, d = dgt b.gram := ⟨_, rfl⟩
    rw [← e1] at s1 E1 HT
    rw [← e2] at s2 E2 HT
    rw [← e3] at s3 E3 HT
    rw [← e4] at s4 E4 HT
    clear hf hE f1 f2 f3 f4 HX e1 e2 e3 e4 hc
    go_enter Tryd.func7, Tryd.ntmps7
    go_wp2
    refine wp_region_ext (w.alloc (.cells #[.int .i64 b.code, .int .i64 b.cartons, .int .i64 b.pallets, .int .i64 b.cost, .int .i64 b.gram] 25)).heap.size (by kernel_rfl) (by kernel_rfl) ?_
    repeat (go_big_quiet_step (first | with_reducible exact E1.out _ | with_reducible exact E2.out _ | with_reducible exact E3.out _ | with_reducible exact E4.out _))
    refine wpQuiet_nil ?_
    intro _ hw'
    obtain ⟨X, rfl⟩ := hw'
    go_wp2
    go_ret
    exact ⟨ret_str (by rw [HT.out]; rfl), hW.trans (X.ok.mono hW.size)⟩
  · have hq : (b.code != 0) = true := by simpa using hc
    have HT := Lib.hid (show billText b = ⟨#[33, 32]⟩ ++ clsText b.code by unfold billText; rw [if_neg hc])
    have hs := clsText_size b.code
    obtain ⟨d, e1⟩ : ∃ d, d = clsText b.code := ⟨_, rfl⟩
    rw [← e1] at hs HT
    have HE := Lib.hid e1
    clear hc hf e1
    go_enter Tryd.func7, Tryd.ntmps7
    go_wp2_with (go_at_call 15; refine (refused_any b.code _).mono ?_; rintro e w' ⟨rfl, hb1⟩; rw [← HE.out])
    go_ret
    exact ⟨ret_str HT.out.symm, bstep hW hb1⟩
end Go.Proofs.YtjmokahibcbjlaaDoor
