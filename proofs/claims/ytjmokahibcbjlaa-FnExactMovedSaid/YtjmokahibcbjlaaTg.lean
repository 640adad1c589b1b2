/-
  The walks over Together, both sides: the units that lie with one.
-/
import Derived.Test.YtjmokahibcbjlaaSu
import Derived.Test.YtjmokahibcbjlaaLb
import Derived.Test.YtjmokahibcbjlaaCw
namespace Go.Proofs.Ytjmokahibcbjlaa
set_option linter.unusedVariables false
set_option linter.unusedSimpArgs false
open Go.RowKit
/-- the units that lie with u in the first carton that has it -/
def tog (p : Plan) (u : Int) : List Int := if cwith p.cartons u < 0 then [] else (sortI (p.cartons.getD (cwith p.cartons u).toNat default).units).filter fun y => !decide (y = u)
/-- the units of all cartons -/
def allU (cs : List Carton) : List Int := cs.flatMap (·.units)
theorem allU_snoc {cs : List Carton} {k : Nat} {x : Carton} (h : cs[k]? = some x) : allU (cs.take (k + 1)) = allU (cs.take k) ++ x.units := by
  unfold allU; rw [List.take_add_one, h]; simp
theorem allU_len (cs : List Carton) : (allU cs).length = tot (fun c => c.units.length) cs := by
  unfold allU tot; rw [List.length_flatMap]
theorem allU_take (cs : List Carton) (k : Nat) : (allU (cs.take k)).length ≤ (allU cs).length := by
  have : allU cs = allU (cs.take k) ++ allU (cs.drop k) := by unfold allU; rw [← List.flatMap_append, List.take_append_drop]
  rw [this, List.length_append]; omega
theorem allU_bulk (p : Plan) : (allU p.cartons).length ≤ p.bulk := by rw [allU_len]; unfold Plan.bulk; omega
theorem tog_len (p : Plan) (u : Int) : (tog p u).length ≤ p.bulk := by
  unfold tog
  split
  · simp
  · refine Nat.le_trans (List.length_filter_le _ _) ?_
    rw [sortI_length]
    cases h : p.cartons[(cwith p.cartons u).toNat]? with
    | none => simp [List.getD, h]; exact Nat.zero_le _
    | some x => simp [List.getD, h]; exact units_le (List.mem_of_getElem? h)
set_option maxHeartbeats 400000 in
theorem sSortUp_any (kv : Value) (keys : List Int) (w : World) (h : RInts 16777216 w w.heap.size kv keys) : Calls Try.prog 37 #[kv] w (MInts w (ints (argUp keys))) := by
  have H := Lib.hid h
  obtain ⟨A, c, rfl, hbd, _⟩ := h
  go_enter Try.func37, Try.ntmps37
  go_wp2_with fail
  refine (l1Places_any keys.length _ (by omega)).mono ?_
  rintro e w1 ⟨v1, f1, rfl, ho1, hb1⟩
  go_wp2_with fail
  refine (l1Merge_any false keys keys.length _ _ (List.range keys.length) _ (by simp) (by simp; omega) (fun p hp => by simpa using hp) (H.out.next (flat_mono _) hb1) (ho1.read (by rw [ints_length]; simp; omega))).mono ?_
  rintro e w2 ⟨v2, f2, rfl, ho2, hb2⟩
  go_wp2
  go_ret
  exact MInts.mk ho2 hb1.size (bstep hb1 hb2)
set_option maxHeartbeats 400000 in
theorem l15Flat_any (v : Value) (p : Plan) (w : World) (h : RPlan 16777216 w w.heap.size v p) (hL : p.bulk ≤ 16777216) : Calls Try.prog 43 #[v] w (MInts w (allU p.cartons)) := by
  obtain ⟨v1, v2, rfl, h1, _⟩ := h
  have H := Lib.hid h1
  obtain ⟨A, c, rfl, hbd, _⟩ := h1
  have hal := Nat.le_trans (allU_bulk p) hL
  obtain ⟨N, hN⟩ : ∃ n, (allU p.cartons).length = n := ⟨_, rfl⟩
  rw [hN] at hal
  have HN := Lib.hid hN
  clear hN
  have hb0 := (Below.refl w.heap.size w).alloc (Nat.le_refl _) (.cells #[.slice A p.cartons.length c, v2] 30)
  have hb1 := hb0.alloc (by simp) (.cells #[] 3)
  go_enter Try.func43, Try.ntmps43
  go_wp2
  go_loopw [3, 4] (fun v i wr => ∃ k : Nat, k ≤ p.cartons.length ∧ i = .int .i64 k ∧ wr.ownsRow (w.heap.size + 1) 3 1 v (allU (p.cartons.take k)).length ((allU (p.cartons.take k)).flatMap cI) ∧
      wr.heap[w.heap.size]? = some (.cells #[.slice A p.cartons.length c, v2] 30 (0, 0)) ∧ Below w.heap.size w wr) (fun _ i _ => p.cartons.length - (intOf i).toNat)
  case atStart => exact ⟨0, Nat.zero_le _, rfl, own_nil (by simp) (by (simp only [heap_alloc_if, World.size_alloc]; repeat (first | rw [if_neg (by omega)] | rw [if_pos (by omega)] | rw [if_pos trivial]))), by (simp only [heap_alloc_if, World.size_alloc]; repeat (first | rw [if_neg (by omega)] | rw [if_pos (by omega)] | rw [if_pos trivial])), hb1⟩
  case round =>
    obtain ⟨k, hk, rfl, hown, hbox, hbl⟩ := hrel
    have hbc := fun j => cell_of_row _ _ j _ _ (0, 0) hbox
    have HBX := Lib.hid hbox
    clear hbox
    by_cases hlt : k < p.cartons.length
    · obtain ⟨b, off, x, _, rfl, hb, hx, _, ⟨vx, rfl, hrx⟩, hc⟩ := (H.out.below (RCarton_mono _) hbl).at_ k hlt
      have hc2 := hc 2 _ rfl
      have hsn := allU_snoc hx
      have hat := allU_take p.cartons (k + 1)
      rw [HN.out, hsn, List.length_append] at hat
      have HS := Lib.hid hsn
      have HO := Lib.hid hown
      have hsz := hbl.size
      have hlb : w.heap.size < wr.heap.size := lt_of_block HBX.out
      obtain ⟨Ax, cx, rfl⟩ : ∃ A c, vx = .slice A x.units.length c := by obtain ⟨A, c, h, _⟩ := hrx; exact ⟨A, c, h⟩
      have HRX := Lib.hid hrx
      clear hc hrx hsn hown
      go_wp2_with (at_builtin; refine at_app (.tmp 13) (.tmp 19) 36 rfl ?_; refine appAll_Int (.tmp 13) (.tmp 19) rfl rfl rfl rfl HRX.out HO.out (by omega) (by omega) ?_; intro v' w' ho hb hg hn)
      go_roundw
      case rel => exact ⟨k + 1, hlt, by go_num, by rw [HS.out]; exact ho, (hg.block w.heap.size hlb (fun e => by have := (HO.out.lt _ e.symm).1; omega)).trans HBX.out, hbl.trans (hb.mono (by omega))⟩
      case measure => simp [intOf]; omega
    · obtain rfl : k = p.cartons.length := by omega
      rw [List.take_length] at hown
      go_wp2
      go_ret
      exact MInts.row hown (by omega) hbl
set_option maxHeartbeats 400000 in
theorem allUnits_any (v : Value) (p : Plan) (w : World) (h : RPlan 16777216 w w.heap.size v p) (hL : p.bulk ≤ 16777216) : Calls Try.prog 46 #[v] w (MInts w (allU p.cartons)) := by
  obtain ⟨v1, v2, rfl, h1, _⟩ := h
  have H := Lib.hid h1
  obtain ⟨A, c, rfl, hbd, _⟩ := h1
  have hal := Nat.le_trans (allU_bulk p) hL
  obtain ⟨N, hN⟩ : ∃ n, (allU p.cartons).length = n := ⟨_, rfl⟩
  rw [hN] at hal
  have HN := Lib.hid hN
  clear hN
  have hb0 := (Below.refl w.heap.size w).alloc (Nat.le_refl _) (.cells #[.slice A p.cartons.length c, v2] 30)
  have hb1 := hb0.alloc (by simp) (.cells #[] 3)
  go_enter Try.func46, Try.ntmps46
  go_wp2
  go_loopw [3, 10] (fun v i wr => ∃ k : Nat, k ≤ p.cartons.length ∧ i = .int .i64 k ∧ wr.ownsRow (w.heap.size + 1) 3 1 v (allU (p.cartons.take k)).length ((allU (p.cartons.take k)).flatMap cI) ∧ Below w.heap.size w wr ∧ w.heap.size < wr.heap.size) (fun _ i _ => p.cartons.length - (intOf i).toNat)
  case atStart => exact ⟨0, Nat.zero_le _, rfl, own_nil (by simp) (by (simp only [heap_alloc_if, World.size_alloc]; repeat (first | rw [if_neg (by omega)] | rw [if_pos (by omega)] | rw [if_pos trivial]))), hb1, by simp; omega⟩
  case round =>
    obtain ⟨k, hk, rfl, hown, hbl, hlb⟩ := hrel
    by_cases hlt : k < p.cartons.length
    · obtain ⟨b, off, x, _, rfl, hb, hx, _, ⟨vx, rfl, hrx⟩, hc⟩ := (H.out.below (RCarton_mono _) hbl).at_ k hlt
      have hc0 := hc 0 _ rfl
      have hc1 := hc 1 _ rfl
      have hc2 := hc 2 _ rfl
      simp only [Nat.add_zero] at hc0
      have hsn := allU_snoc hx
      have hat := allU_take p.cartons (k + 1)
      rw [HN.out, hsn, List.length_append] at hat
      have HS := Lib.hid hsn
      have HO := Lib.hid hown
      have hsz := hbl.size
      obtain ⟨Ax, cx, rfl⟩ : ∃ A c, vx = .slice A x.units.length c := by obtain ⟨A, c, h, _⟩ := hrx; exact ⟨A, c, h⟩
      have HRX := Lib.hid hrx
      have hba : Below w.heap.size w (wr.alloc (.cells #[.int .i64 x.type, .int .i64 x.group, .slice Ax x.units.length cx] 56)) := hbl.alloc hsz _
      clear hc hrx hsn hown
      go_wp2_with (at_builtin; refine at_app (.tmp 14) (.tmp 16) 36 rfl ?_; refine appAll_Int (.tmp 14) (.tmp 16) rfl rfl rfl rfl (HRX.out.below (flat_mono _) ((Below.refl _ _).alloc hsz _)) (HO.out.alloc _) (by omega) (by simp; omega) ?_; intro v' w' ho hb hg hn)
      go_roundw
      case rel => exact ⟨k + 1, hlt, by go_num, by rw [HS.out]; exact ho, hba.trans (hb.mono (by omega)), by have := hb.size; simp at this; omega⟩
      case measure => simp [intOf]; omega
    · obtain rfl : k = p.cartons.length := by omega
      rw [List.take_length] at hown
      go_wp2
      go_ret
      exact MInts.row hown (by omega) hbl
end Go.Proofs.Ytjmokahibcbjlaa
