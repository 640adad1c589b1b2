/-
  The walks over Dearest, Sum and Total (chapters 1, 25).
-/
import Derived.Test.YtgljohibcglnbaaFa
namespace Go.Proofs.Ytgljohibcglnbaa
set_option linter.unusedVariables false
set_option linter.unusedSimpArgs false
open Go.RowKit
/-- the place of the first dearest good bill among the first k; -1 -/
def dst (xs : List Bill) : Nat → Int
  | 0 => -1
  | k + 1 => if (xs.getD k default).code = 0 ∧ (dst xs k < 0 ∨ (xs.getD (dst xs k).toNat default).cost < (xs.getD k default).cost) then k else dst xs k
theorem dst_cases (xs : List Bill) : ∀ k, dst xs k = -1 ∨ ∃ j : Nat, dst xs k = j ∧ j < k
  | 0 => .inl rfl
  | k + 1 => by
    unfold dst
    split
    · exact .inr ⟨k, rfl, by omega⟩
    · rcases dst_cases xs k with h | ⟨j, h, hj⟩
      · exact .inl h
      · exact .inr ⟨j, h, by omega⟩
theorem dst_yes {xs : List Bill} {k : Nat} {x : Bill} (hx : xs[k]? = some x) (h : x.code = 0) (h2 : dst xs k = -1) : dst xs (k + 1) = k := by
  unfold dst; rw [if_pos]; simp [List.getD, hx, h, h2]
theorem dst_yes2 {xs : List Bill} {k j : Nat} {x y : Bill} (hx : xs[k]? = some x) (h : x.code = 0) (h2 : dst xs k = j) (hy : xs[j]? = some y) (hc : y.cost < x.cost) : dst xs (k + 1) = k := by
  unfold dst; rw [if_pos]; simp [List.getD, hx, hy, h, h2, hc]
theorem dst_no {xs : List Bill} {k : Nat} {x : Bill} (hx : xs[k]? = some x) (h : ¬ x.code = 0) : dst xs (k + 1) = dst xs k := by
  rw [dst, if_neg]; simp [List.getD, hx, h]
theorem dst_no2 {xs : List Bill} {k j : Nat} {x y : Bill} (hx : xs[k]? = some x) (h2 : dst xs k = j) (hy : xs[j]? = some y) (hc : ¬ y.cost < x.cost) : dst xs (k + 1) = dst xs k := by
  rw [dst, if_neg]; simp [List.getD, hx, hy, h2, hc]
set_option maxHeartbeats 400000 in
theorem sDearest_any (v : Value) (xs : List Bill) (w : World) (h : RL 16777216 5 (flat Bill.cells) w w.heap.size v xs) :
    Calls Try.prog 19 #[v] w fun e w' => e = .returned (.int .i64 (dst xs xs.length)) ∧ Below w.heap.size w w' := by
  have h' := h
  obtain ⟨A, c, rfl, hbd, _⟩ := h
  have H := Lib.hid h'
  clear h'
  go_enter Try.func19, Try.ntmps19
  go_wp2
  go_loopw [3, 4] (fun m i wr => ∃ k : Nat, k ≤ xs.length ∧ i = .int .i64 k ∧ m = .int .i64 (dst xs k) ∧ Below w.heap.size w wr) (fun _ i _ => xs.length - (intOf i).toNat)
  case atStart => exact ⟨0, Nat.zero_le _, rfl, rfl, Below.refl _ _⟩
  case round =>
    obtain ⟨k, hk, rfl, rfl, hbl⟩ := hrel
    by_cases hlt : k < xs.length
    · have HB := Lib.hid (H.out.below (flat_mono _) hbl)
      obtain ⟨b, off, x, _, rfl, hb, hx, _, rfl, hc⟩ := HB.out.at_ k hlt
      have hc0 := hc 0 _ rfl
      have hc3 := hc 3 _ rfl
      simp only [Nat.add_zero] at hc0
      clear hc
      by_cases hcode : x.code = 0
      · have hq1 : (x.code == 0) = true := by simp [hcode]
        rcases dst_cases xs k with hd | ⟨j, hd, hj⟩
        · have hst := dst_yes hx hcode hd
          have HS := Lib.hid hst
          rw [hd]
          clear hst hd hcode
          go_wp2
          go_quiet (fail)
          go_wp2
          go_roundw
          case rel => exact ⟨k + 1, hlt, by go_num, by rw [HS.out], below_drewN hbl _⟩
          case measure => simp [intOf]; omega
        · obtain ⟨b', off', y, _, hA, hb', hy, _, rfl, hc'⟩ := HB.out.at_ j (by omega)
          injection hA with hA
          injection hA with hA1 hA2
          subst hA1
          subst hA2
          have hd3 := hc' 3 _ rfl
          clear hc'
          have hj2 : j < xs.length := by omega
          by_cases hcost : y.cost < x.cost
          · have hq2 : decide (y.cost < x.cost) = true := by simp [hcost]
            have HS := Lib.hid (dst_yes2 hx hcode hd hy hcost)
            rw [hd]
            clear hd hcode hcost
            go_wp2
            go_quiet (fail)
            go_wp2
            go_roundw
            case rel => exact ⟨k + 1, hlt, by go_num, by rw [HS.out], below_drewN hbl _⟩
            case measure => simp [intOf]; omega
          · have hq2 : decide (y.cost < x.cost) = false := by simp [hcost]
            have HS := Lib.hid ((dst_no2 hx hd hy hcost).trans hd)
            rw [hd]
            clear hd hcode hcost
            go_wp2
            go_quiet (fail)
            go_wp2
            go_roundw
            case rel => exact ⟨k + 1, hlt, by go_num, by rw [HS.out], below_drewN hbl _⟩
            case measure => simp [intOf]; omega
      · have hq1 : (x.code == 0) = false := by simp [hcode]
        have HS := Lib.hid (dst_no hx hcode)
        clear hcode
        go_wp2
        go_quiet (fail)
        go_wp2
        go_roundw
        case rel => exact ⟨k + 1, hlt, by go_num, by rw [HS.out], below_drewN hbl _⟩
        case measure => simp [intOf]; omega
    · obtain rfl : k = xs.length := by omega
      go_wp2
      go_ret
      exact ⟨rfl, hbl⟩
set_option maxHeartbeats 400000 in
theorem iDearest_any (v : Value) (xs : List Bill) (w : World) (h : RL 16777216 5 (flat Bill.cells) w w.heap.size v xs) :
    Calls Try.prog 21 #[v] w fun e w' => e = .returned (.int .i64 (dst xs xs.length)) ∧ Below w.heap.size w w' := by
  have h' := h
  obtain ⟨A, c, rfl, hbd, _⟩ := h
  have H := Lib.hid h'
  clear h'
  go_enter Try.func21, Try.ntmps21
  go_wp2
  go_loopw [3, 8] (fun m i wr => ∃ k : Nat, k ≤ xs.length ∧ i = .int .i64 k ∧ m = .int .i64 (dst xs k) ∧ Below w.heap.size w wr) (fun _ i _ => xs.length - (intOf i).toNat)
  case atStart => exact ⟨0, Nat.zero_le _, rfl, rfl, Below.refl _ _⟩
  case round =>
    obtain ⟨k, hk, rfl, rfl, hbl⟩ := hrel
    by_cases hlt : k < xs.length
    · have HB := Lib.hid (H.out.below (flat_mono _) hbl)
      obtain ⟨b, off, x, _, rfl, hb, hx, _, rfl, hc⟩ := HB.out.at_ k hlt
      have hc0 := hc 0 _ rfl
      have hc1 := hc 1 _ rfl
      have hc2 := hc 2 _ rfl
      have hc3 := hc 3 _ rfl
      have hc4 := hc 4 _ rfl
      have hb1 : b < wr.heap.size := Nat.lt_of_lt_of_le hb hbl.size
      simp only [Nat.add_zero] at hc0
      clear hc
      by_cases hcode : x.code = 0
      · have hq1 : (x.code == 0) = true := by simp [hcode]
        rcases dst_cases xs k with hd | ⟨j, hd, hj⟩
        · have hst := dst_yes hx hcode hd
          have HS := Lib.hid hst
          rw [hd]
          clear hst hd hcode
          go_wp2
          go_quiet (fail)
          go_wp2
          go_roundw
          case rel => exact ⟨k + 1, hlt, by go_num, by rw [HS.out], below_drewN (hbl.alloc hbl.size _) _⟩
          case measure => simp [intOf]; omega
        · obtain ⟨b', off', y, _, hA, hb', hy, _, rfl, hc'⟩ := HB.out.at_ j (by omega)
          injection hA with hA
          injection hA with hA1 hA2
          subst hA1
          subst hA2
          have hd3 := hc' 3 _ rfl
          clear hc'
          have hj2 : j < xs.length := by omega
          by_cases hcost : y.cost < x.cost
          · have hq2 : decide (y.cost < x.cost) = true := by simp [hcost]
            have HS := Lib.hid (dst_yes2 hx hcode hd hy hcost)
            rw [hd]
            clear hd hcode hcost
            go_wp2
            go_quiet (fail)
            go_wp2
            go_roundw
            case rel => exact ⟨k + 1, hlt, by go_num, by rw [HS.out], below_drewN (hbl.alloc hbl.size _) _⟩
            case measure => simp [intOf]; omega
          · have hq2 : decide (y.cost < x.cost) = false := by simp [hcost]
            have HS := Lib.hid ((dst_no2 hx hd hy hcost).trans hd)
            rw [hd]
            clear hd hcode hcost
            go_wp2
            go_quiet (fail)
            go_wp2
            go_roundw
            case rel => exact ⟨k + 1, hlt, by go_num, by rw [HS.out], below_drewN (hbl.alloc hbl.size _) _⟩
            case measure => simp [intOf]; omega
      · have hq1 : (x.code == 0) = false := by simp [hcode]
        have HS := Lib.hid (dst_no hx hcode)
        clear hcode
        go_wp2
        go_quiet (fail)
        go_wp2
        go_roundw
        case rel => exact ⟨k + 1, hlt, by go_num, by rw [HS.out], below_drewN (hbl.alloc hbl.size _) _⟩
        case measure => simp [intOf]; omega
    · obtain rfl : k = xs.length := by omega
      go_wp2
      go_ret
      exact ⟨rfl, hbl⟩
end Go.Proofs.Ytgljohibcglnbaa
