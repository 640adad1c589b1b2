/-
  The walks over Count (chapter 24) and over the sizes of lists of texts.
-/
import Derived.Test.YtgljohibcglnbaaFa
namespace Go.Proofs.Ytgljohibcglnbaa
set_option linter.unusedVariables false
set_option linter.unusedSimpArgs false
open Go.RowKit
def tot {α : Type} (f : α → Nat) (xs : List α) : Nat := (xs.map f).sum
theorem tot_take {α : Type} (f : α → Nat) {xs : List α} {k : Nat} {x : α} (h : xs[k]? = some x) : tot f (xs.take (k + 1)) = tot f (xs.take k) + f x := by
  unfold tot
  rw [List.take_add_one, h]
  simp
theorem tot_append {α : Type} (f : α → Nat) (xs ys : List α) : tot f (xs ++ ys) = tot f xs + tot f ys := by unfold tot; simp
theorem tot_le {α : Type} (f : α → Nat) (xs : List α) (k : Nat) : tot f (xs.take k) ≤ tot f xs := by
  have : tot f xs = tot f (xs.take k) + tot f (xs.drop k) := by rw [← tot_append, List.take_append_drop]
  omega
theorem tot_all {α : Type} (f : α → Nat) {xs : List α} {k : Nat} (h : xs.length ≤ k) : tot f (xs.take k) = tot f xs := by rw [List.take_of_length_le h]
theorem tot_ge {α : Type} (f : α → Nat) {xs : List α} {k : Nat} {x : α} (h : xs[k]? = some x) : tot f (xs.take k) + f x ≤ tot f xs := by
  rw [← tot_take f h]; exact tot_le f xs (k + 1)
theorem tot_mono {α : Type} {f g : α → Nat} (h : ∀ x, f x ≤ g x) : ∀ xs : List α, tot f xs ≤ tot g xs
  | [] => Nat.le_refl _
  | x :: xs => by have := tot_mono h xs; have := h x; simp only [tot, List.map_cons, List.sum_cons] at *; omega
set_option maxHeartbeats 400000 in
theorem szStringS_any (v : Value) (xs : List ByteArray) (left : Int) (w : World) (h : RL 9223372036854775807 1 (flat cS) w w.heap.size v xs) (hs : ∀ s ∈ xs, s.size ≤ 9223372036854775807) (h0 : 0 ≤ left) (h1 : left ≤ 1048576) :
    Calls Try.prog 13 #[v, .int .i64 left] w fun e w' => e = .returned (.int .i64 (szR left ((xs.length + tot ByteArray.size xs : Nat) : Int))) ∧ w = w' := by
  have h' := h
  obtain ⟨A, c, rfl, hbd, _⟩ := h
  have H := Lib.hid h'
  have HZ := Lib.hid hs
  clear h' hs
  have hT : 0 ≤ tot ByteArray.size xs := Nat.zero_le _
  by_cases hn : left < xs.length
  · have hr : szR left ((xs.length + tot ByteArray.size xs : Nat) : Int) = -1 := by unfold szR; rw [if_pos (by omega)]
    have HR := Lib.hid hr
    clear hr hT
    go_enter Try.func13, Try.ntmps13
    go_wp2
    all_goals go_ret
    all_goals first | exact ⟨ret_int HR.out.symm, rfl⟩ | (exfalso; omega)
  · clear hT
    have hd0 : decide (left - (xs.length : Int) < 0) = false := by simp; omega
    have hl : xs.length ≤ 1048576 := by omega
    go_enter Try.func13, Try.ntmps13
    go_wp2
    go_loop [1, 5] (fun l i => ∃ k : Nat, ∃ m : Int, k ≤ xs.length ∧ 0 ≤ m ∧ m ≤ 1048576 ∧ i = .int .i64 k ∧ l = .int .i64 m ∧ m = left - xs.length - ((tot ByteArray.size (xs.take k) : Nat) : Int)) (fun _ i => xs.length - (intOf i).toNat)
    case atStart => exact ⟨0, _, Nat.zero_le _, by omega, by omega, rfl, rfl, by simp [tot]⟩
    case round =>
      obtain ⟨k, m, hk, hm0, hm1, rfl, rfl, hm⟩ := hrel
      have HM := Lib.hid hm
      clear hm
      by_cases hlt : k < xs.length
      · obtain ⟨b, off, s, rfl, hb, hx, hc⟩ := H.out.at1 k hlt
        have hc0 := hc _ rfl
        have hsz := HZ.out s (List.mem_of_getElem? hx)
        clear hc
        by_cases hneg : m < s.size
        · have hr : szR left ((xs.length + tot ByteArray.size xs : Nat) : Int) = -1 := by
            have := HM.out
            have := tot_ge ByteArray.size hx
            unfold szR; rw [if_pos (by omega)]
          have HR := Lib.hid hr
          clear hr
          go_wp2
          all_goals first | (go_ret; exact ⟨ret_int HR.out.symm, rfl⟩) | skip
          all_goals (exfalso; omega)
        · have hd1 : decide (m - (s.size : Int) < 0) = false := by simp; omega
          go_wp2
          go_round
          case rel => exact ⟨k + 1, m - s.size, by omega, by omega, by omega, by go_num, rfl, by have := HM.out; rw [tot_take _ hx]; omega⟩
          case measure => simp [intOf]; omega
      · have hr : szR left ((xs.length + tot ByteArray.size xs : Nat) : Int) = m := by
          have := HM.out
          rw [tot_all _ (by omega)] at this
          unfold szR; rw [if_neg (by omega)]; omega
        have HR := Lib.hid hr
        clear hr
        go_wp2
        go_ret
        exact ⟨ret_int HR.out.symm, rfl⟩
def cntB (n : Int) (s : ByteArray) : Nat := (s.data.toList.filter fun c => (c.toNat : Int) == n).length
def cntL (n : Int) (l : List UInt8) : Nat := (l.filter fun c => (c.toNat : Int) == n).length
theorem cntL_take (n : Int) (s : ByteArray) (k : Nat) (hk : k < s.size) : cntL n (s.data.toList.take (k + 1)) = cntL n (s.data.toList.take k) + if (((s[k].toNat : Nat) : Int) == n) = true then 1 else 0 := by
  have : s.data.toList[k]? = some s[k] := by rw [List.getElem?_eq_getElem (by simpa using hk)]; rfl
  unfold cntL
  rw [List.take_add_one, this, List.filter_append]
  by_cases h : (((s[k].toNat : Nat) : Int) == n) = true <;> simp [List.filter_cons, h]
theorem cntL_le (n : Int) (l : List UInt8) : cntL n l ≤ l.length := List.length_filter_le _ _
theorem cntB_le (n : Int) (s : ByteArray) : cntB n s ≤ s.size := by have := cntL_le n s.data.toList; rw [Array.length_toList] at this; exact this
theorem cntL_all (n : Int) (s : ByteArray) {k : Nat} (h : s.size ≤ k) : cntL n (s.data.toList.take k) = cntB n s := by unfold cntB cntL; rw [List.take_of_length_le (by simpa using h)]
set_option maxHeartbeats 400000 in
theorem l1Bit_any (b : Bool) (w : World) :
    Calls Try.prog 35 #[.bool b] w fun e w' => e = .returned (.int .i64 (if b = true then 1 else 0)) ∧ w = w' := by
  cases b <;>
  · go_enter Try.func35, Try.ntmps35
    go_wp2
    go_ret
    exact ⟨rfl, rfl⟩
set_option maxHeartbeats 400000 in
theorem sCount_any (v : Value) (xs : List ByteArray) (n : Int) (w : World) (h : RL 16777216 1 (flat cS) w w.heap.size v xs) (hs : tot ByteArray.size xs ≤ 1048576) :
    Calls Try.prog 14 #[v, .int .u8 n] w fun e w' => e = .returned (.int .i64 (tot (cntB n) xs : Nat)) ∧ w = w' := by
  have h' := h
  obtain ⟨A, c, rfl, hbd, _⟩ := h
  have H := Lib.hid h'
  have hT : tot (cntB n) xs ≤ 1048576 := Nat.le_trans (tot_mono (cntB_le n) xs) hs
  have HT := Lib.hid hT
  have HS := Lib.hid hs
  clear h' hs hT
  go_enter Try.func14, Try.ntmps14
  go_wp2
  go_loop [5, 6, 7] (fun l i _ => ∃ k : Nat, k ≤ xs.length ∧ i = .int .i64 k ∧ l = .int .i64 (tot (cntB n) (xs.take k) : Nat)) (fun _ i _ => xs.length - (intOf i).toNat)
  case atStart => exact ⟨0, Nat.zero_le _, rfl, rfl⟩
  case round =>
    obtain ⟨k, hk, rfl, rfl⟩ := hrel
    by_cases hlt : k < xs.length
    · obtain ⟨b, off, s, rfl, hb, hx, hc⟩ := H.out.at1 k hlt
      have hc0 := hc _ rfl
      have hsz : s.size ≤ 1048576 := Nat.le_trans (Nat.le_trans (Nat.le_add_left _ _) (tot_ge ByteArray.size hx)) HS.out
      have hb1 : tot (cntB n) (xs.take k) + cntB n s ≤ 1048576 := Nat.le_trans (tot_ge (cntB n) hx) HT.out
      clear hc
      obtain ⟨t, ht⟩ : ∃ t, t = tot (cntB n) (xs.take k) := ⟨_, rfl⟩
      rw [← ht] at hb1 ⊢
      have HTt := Lib.hid ht
      clear ht
      go_wp2
      go_loop [5, 7] (fun l i => ∃ j : Nat, ∃ m : Nat, j ≤ s.size ∧ m ≤ j ∧ i = .int .i64 j ∧ l = .int .i64 ((t : Int) + (m : Int)) ∧ m = cntL n (s.data.toList.take j)) (fun _ i => s.size - (intOf i).toNat)
      case atStart => exact ⟨0, 0, Nat.zero_le _, Nat.le_refl _, rfl, by simp, rfl⟩
      case round =>
        obtain ⟨j, m, hj, hmj, rfl, rfl, hm⟩ := hrel
        have HM := Lib.hid hm
        have ht2 : t ≤ 1048576 := by omega
        clear hm
        by_cases hjl : j < s.size
        · have hstep := Lib.hid (cntL_take n s j hjl)
          by_cases hq : (((s[j].toNat : Nat) : Int) == n) = true
          · go_wp2_with (go_at_call 35; refine (l1Bit_any _ _).mono ?_; rintro e w' ⟨rfl, rfl⟩)
            go_round
            case rel => exact ⟨j + 1, m + 1, by omega, by omega, by go_num, by go_num, by rw [HM.out, hstep.out, if_pos hq]⟩
            case measure => simp [intOf]; omega
          · have hq' : (((s[j].toNat : Nat) : Int) == n) = false := by simpa using hq
            clear hq
            go_wp2_with (go_at_call 35; refine (l1Bit_any _ _).mono ?_; rintro e w' ⟨rfl, rfl⟩)
            go_round
            case rel => exact ⟨j + 1, m, by omega, by omega, by go_num, by go_num, by rw [HM.out, hstep.out, hq']; simp⟩
            case measure => simp [intOf]; omega
        · go_wp2
          go_round
          case rel => exact ⟨k + 1, by omega, by go_num, by rw [tot_take _ hx, ← HTt.out, HM.out, cntL_all n s (by omega)]; go_num⟩
          case measure => simp [intOf]; omega
    · go_wp2
      go_ret
      exact ⟨ret_int (by rw [tot_all _ (by omega)]), rfl⟩
set_option maxHeartbeats 400000 in
theorem iCount_any (v : Value) (xs : List ByteArray) (n : Int) (w : World) (h : RL 16777216 1 (flat cS) w w.heap.size v xs) (hs : tot ByteArray.size xs ≤ 1048576) :
    Calls Try.prog 16 #[v, .int .u8 n] w fun e w' => e = .returned (.int .i64 (tot (cntB n) xs : Nat)) ∧ w = w' := by
  have h' := h
  obtain ⟨A, c, rfl, hbd, _⟩ := h
  have H := Lib.hid h'
  have hT : tot (cntB n) xs ≤ 1048576 := Nat.le_trans (tot_mono (cntB_le n) xs) hs
  have HT := Lib.hid hT
  have HS := Lib.hid hs
  clear h' hs hT
  go_enter Try.func16, Try.ntmps16
  go_wp2
  go_loop [5, 7, 8, 11, 17] (fun l _ _ i _ => ∃ k : Nat, k ≤ xs.length ∧ i = .int .i64 k ∧ l = .int .i64 (tot (cntB n) (xs.take k) : Nat)) (fun _ _ _ i _ => xs.length - (intOf i).toNat)
  case atStart => exact ⟨0, Nat.zero_le _, rfl, rfl⟩
  case round =>
    obtain ⟨k, hk, rfl, rfl⟩ := hrel
    by_cases hlt : k < xs.length
    · obtain ⟨b, off, s, rfl, hb, hx, hc⟩ := H.out.at1 k hlt
      have hc0 := hc _ rfl
      have hsz : s.size ≤ 1048576 := Nat.le_trans (Nat.le_trans (Nat.le_add_left _ _) (tot_ge ByteArray.size hx)) HS.out
      have hb1 : tot (cntB n) (xs.take k) + cntB n s ≤ 1048576 := Nat.le_trans (tot_ge (cntB n) hx) HT.out
      clear hc
      obtain ⟨t, ht⟩ : ∃ t, t = tot (cntB n) (xs.take k) := ⟨_, rfl⟩
      rw [← ht] at hb1 ⊢
      have HTt := Lib.hid ht
      clear ht
      go_wp2
      go_loop [5, 8, 17] (fun l _ i => ∃ j : Nat, ∃ m : Nat, j ≤ s.size ∧ m ≤ j ∧ i = .int .i64 j ∧ l = .int .i64 ((t : Int) + (m : Int)) ∧ m = cntL n (s.data.toList.take j)) (fun _ _ i => s.size - (intOf i).toNat)
      case atStart => exact ⟨0, 0, Nat.zero_le _, Nat.le_refl _, rfl, by simp, rfl⟩
      case round =>
        obtain ⟨j, m, hj, hmj, rfl, rfl, hm⟩ := hrel
        have HM := Lib.hid hm
        have ht2 : t ≤ 1048576 := by omega
        clear hm
        by_cases hjl : j < s.size
        · have hstep := Lib.hid (cntL_take n s j hjl)
          by_cases hq : (((s[j].toNat : Nat) : Int) == n) = true
          · go_wp2
            go_round
            case rel => exact ⟨j + 1, m + 1, by omega, by omega, by go_num, by go_num, by rw [HM.out, hstep.out, if_pos hq]⟩
            case measure => simp [intOf]; omega
          · have hq' : (((s[j].toNat : Nat) : Int) == n) = false := by simpa using hq
            clear hq
            go_wp2
            go_round
            case rel => exact ⟨j + 1, m, by omega, by omega, by go_num, by go_num, by rw [HM.out, hstep.out, hq']; simp⟩
            case measure => simp [intOf]; omega
        · go_wp2
          go_round
          case rel => exact ⟨k + 1, by omega, by go_num, by rw [tot_take _ hx, ← HTt.out, HM.out, cntL_all n s (by omega)]; go_num⟩
          case measure => simp [intOf]; omega
    · go_wp2
      go_ret
      exact ⟨ret_int (by rw [tot_all _ (by omega)]), rfl⟩
end Go.Proofs.Ytgljohibcglnbaa
