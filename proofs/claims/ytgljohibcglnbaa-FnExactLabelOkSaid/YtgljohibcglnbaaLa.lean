/-
  The walks over the labels' functions (chapter 22) and over 'in'.
-/
import Derived.Test.YtgljohibcglnbaaRows
import Derived.Test.YtgljohibcglnbaaBs
import Derived.Test.YtgljohibcglnbaaMo
namespace Go.Proofs.Ytgljohibcglnbaa
open Go.RowKit
set_option maxHeartbeats 400000 in
theorem in_any (a b c : Int) (w : World) :
    Calls Try.prog 49 #[.int .i64 a, .int .i64 b, .int .i64 c] w fun e w' => e = .returned (.bool (inB a b c)) ∧ w = w' := by
  go_enter Try.func49, Try.ntmps49
  go_wp2
  all_goals go_ret
  all_goals (refine ⟨?_, rfl⟩; unfold inB; congr 2; simp; try omega)
set_option maxHeartbeats 400000 in
theorem l1In_any (a b c : Int) (w : World) :
    Calls Try.prog 50 #[.int .i64 a, .int .i64 b, .int .i64 c] w fun e w' => e = .returned (.bool (inB a b c)) ∧ w = w' := by
  go_enter Try.func50, Try.ntmps50
  go_wp2
  all_goals go_ret
  all_goals (refine ⟨?_, rfl⟩; unfold inB; congr 2; simp; try omega)
set_option maxHeartbeats 400000 in
theorem sLabelSum_any (s : ByteArray) (w : World) (hs : s.size ≤ maxLen) :
    Calls Try.prog 31 #[.string s] w fun e w' => e = .returned (.int .i64 (labelSum s.data.toList)) ∧ w = w' := by
  unfold maxLen at hs
  by_cases h0 : s.size = 0
  · go_enter Try.func31, Try.ntmps31
    go_wp2
    go_ret
    exact ⟨ret_int (by simp [labelSum, h0]), rfl⟩
  by_cases h1 : 40 < s.size
  · go_enter Try.func31, Try.ntmps31
    go_wp2
    all_goals go_ret
    all_goals exact ⟨ret_int (by simp [labelSum, h1]), rfl⟩
  have hl : labelSum s.data.toList = lsum s.data.toList 0 := by unfold labelSum; rw [if_neg (by rw [Array.length_toList]; show ¬(s.size = 0 ∨ 40 < s.size); omega)]
  have HL := Lib.hid hl
  clear hl
  have h0' : ((s.size : Int) == 0) = false := by simpa using h0
  have h2 : s.size ≤ 40 := by omega
  clear h0 h1
  go_enter Try.func31, Try.ntmps31
  go_wp2
  go_loop [3, 4] (fun n i => ∃ k : Nat, ∃ m : Int, k ≤ s.size ∧ 0 ≤ m ∧ m ≤ 96 ∧ i = .int .i64 k ∧ n = .int .i64 m ∧ lsum s.data.toList 0 = lsum (s.data.toList.drop k) m) (fun _ i => s.size - (intOf i).toNat)
  case atStart => exact ⟨0, 0, Nat.zero_le _, by omega, by omega, rfl, rfl, rfl⟩
  case round =>
    obtain ⟨k, m, hk, hm0, hm1, rfl, rfl, hsum⟩ := hrel
    have HS := Lib.hid hsum
    clear hsum
    by_cases hlt : k < s.size
    · have hd : s.data.toList.drop k = s[k] :: s.data.toList.drop (k + 1) := by
        rw [List.drop_eq_getElem_cons (by simpa using hlt)]; rfl
      have HD := Lib.hid hd
      clear hd
      have hu : (s[k].toNat : Int) ≤ 255 := by have := s[k].toNat_lt; omega
      by_cases hdig : 48 ≤ (s[k].toNat : Int) ∧ (s[k].toNat : Int) ≤ 57
      · have hA := hdig.1
        have hB := hdig.2
        go_wp2
        go_round
        case rel => exact ⟨k + 1, (10 * m + (s[k].toNat - 48)) % 97, by omega, by omega, by omega, by go_num, by go_num, by rw [HS.out, HD.out, lsum_cons _ _ _ hdig]⟩
        case measure => simp [intOf]; omega
      · go_wp2
        all_goals first | (exfalso; simp at *; omega) | skip
        all_goals go_ret
        all_goals exact ⟨ret_int (by rw [HL.out, HS.out, HD.out, lsum_bad _ _ _ hdig]), rfl⟩
    · go_wp2
      go_ret
      exact ⟨ret_int (by rw [HL.out, HS.out]; simp [List.drop_of_length_le, show s.size ≤ k by omega, lsum]), rfl⟩
set_option maxHeartbeats 400000 in
theorem iLabelSum_any (s : ByteArray) (w : World) (hs : s.size ≤ maxLen) :
    Calls Try.prog 32 #[.string s] w fun e w' => e = .returned (.int .i64 (labelSum s.data.toList)) ∧ w = w' := by
  unfold maxLen at hs
  by_cases hin : inB s.size 1 40 = false
  · have hr : labelSum s.data.toList = -1 := by
      unfold labelSum; rw [if_pos]; simp [inB] at hin; rw [Array.length_toList]; show s.size = 0 ∨ 40 < s.size; omega
    have HR := Lib.hid hr
    clear hr
    go_enter Try.func32, Try.ntmps32
    go_wp2_with (go_at_call 49; refine (in_any _ _ _ _).mono ?_; rintro e w' ⟨rfl, rfl⟩)
    go_ret
    exact ⟨ret_int HR.out.symm, rfl⟩
  have hin : inB s.size 1 40 = true := by simpa using hin
  have h1 : 1 ≤ s.size ∧ s.size ≤ 40 := by simp [inB] at hin; omega
  have hl : labelSum s.data.toList = lsum s.data.toList 0 := by unfold labelSum; rw [if_neg (by rw [Array.length_toList]; show ¬(s.size = 0 ∨ 40 < s.size); omega)]
  have HL := Lib.hid hl
  clear hl
  have h2 := h1.2
  have h3 := h1.1
  clear h1
  go_enter Try.func32, Try.ntmps32
  go_wp2_with (go_at_call 49; refine (in_any _ _ _ _).mono ?_; rintro e w' ⟨rfl, rfl⟩)
  go_loop [3, 4, 11] (fun n _ i => ∃ k : Nat, ∃ m : Int, k ≤ s.size ∧ 0 ≤ m ∧ m ≤ 96 ∧ i = .int .i64 k ∧ n = .int .i64 m ∧ lsum s.data.toList 0 = lsum (s.data.toList.drop k) m) (fun _ _ i => s.size - (intOf i).toNat)
  case atStart => exact ⟨0, 0, Nat.zero_le _, by omega, by omega, rfl, rfl, rfl⟩
  case round =>
    obtain ⟨k, m, hk, hm0, hm1, rfl, rfl, hsum⟩ := hrel
    have HS := Lib.hid hsum
    clear hsum
    by_cases hlt : k < s.size
    · have hd : s.data.toList.drop k = s[k] :: s.data.toList.drop (k + 1) := by
        rw [List.drop_eq_getElem_cons (by simpa using hlt)]; rfl
      have HD := Lib.hid hd
      clear hd
      have hu : (s[k].toNat : Int) ≤ 255 := by have := s[k].toNat_lt; omega
      by_cases hdig : 48 ≤ (s[k].toNat : Int) ∧ (s[k].toNat : Int) ≤ 57
      · have hA := hdig.1
        have hB := hdig.2
        go_wp2
        go_round
        case rel => exact ⟨k + 1, (10 * m + (s[k].toNat - 48)) % 97, by omega, by omega, by omega, by go_num, by go_num, by rw [HS.out, HD.out, lsum_cons _ _ _ hdig]⟩
        case measure => simp [intOf]; omega
      · go_wp2
        all_goals first | (exfalso; simp at *; omega) | skip
        all_goals go_ret
        all_goals exact ⟨ret_int (by rw [HL.out, HS.out, HD.out, lsum_bad _ _ _ hdig]), rfl⟩
    · go_wp2
      go_ret
      exact ⟨ret_int (by rw [HL.out, HS.out]; simp [List.drop_of_length_le, show s.size ≤ k by omega, lsum]), rfl⟩
set_option maxHeartbeats 400000 in
theorem sLabelOk_any (s : ByteArray) (w : World) (hs : s.size ≤ maxLen) :
    Calls Try.prog 9 #[.string s] w fun e w' => e = .returned (.bool (labelOk s.data.toList)) ∧ w = w' := by
  by_cases h : s.size = 12
  · have h' : ((s.size : Int) == 12) = true := by simp [h]
    have hr : labelOk s.data.toList = (labelSum s.data.toList == 1) := by unfold labelOk; rw [Array.length_toList]; show (decide (s.size = 12) && _) = _; simp [h]
    have HR := Lib.hid hr
    have HH := Lib.hid h
    clear hr h
    go_enter Try.func9, Try.ntmps9
    go_wp2_with (go_at_call 31; refine (sLabelSum_any _ _ hs).mono ?_; rintro e w' ⟨rfl, rfl⟩)
    all_goals go_ret
    all_goals exact ⟨ret_bool (by rw [HR.out]), rfl⟩
  · have h' : ((s.size : Int) == 12) = false := by simp; omega
    have hr : labelOk s.data.toList = false := by unfold labelOk; rw [Array.length_toList]; show (decide (s.size = 12) && _) = _; simp [h]
    have HR := Lib.hid hr
    clear hr h
    go_enter Try.func9, Try.ntmps9
    go_wp2_with (go_at_call 31; refine (sLabelSum_any _ _ hs).mono ?_; rintro e w' ⟨rfl, rfl⟩)
    all_goals go_ret
    all_goals exact ⟨ret_bool (by rw [HR.out]), rfl⟩
set_option maxHeartbeats 400000 in
theorem iLabelOk_any (s : ByteArray) (w : World) (hs : s.size ≤ maxLen) :
    Calls Try.prog 10 #[.string s] w fun e w' => e = .returned (.bool (labelOk s.data.toList)) ∧ w = w' := by
  by_cases h : s.size = 12
  · have h' : ((s.size : Int) == 12) = true := by simp [h]
    have hr : labelOk s.data.toList = (labelSum s.data.toList == 1) := by unfold labelOk; rw [Array.length_toList]; show (decide (s.size = 12) && _) = _; simp [h]
    have HR := Lib.hid hr
    have HH := Lib.hid h
    clear hr h
    go_enter Try.func10, Try.ntmps10
    go_wp2_with (go_at_call 32; refine (iLabelSum_any _ _ hs).mono ?_; rintro e w' ⟨rfl, rfl⟩)
    all_goals go_ret
    all_goals exact ⟨ret_bool (by rw [HR.out]), rfl⟩
  · have h' : ((s.size : Int) == 12) = false := by simp; omega
    have hr : labelOk s.data.toList = false := by unfold labelOk; rw [Array.length_toList]; show (decide (s.size = 12) && _) = _; simp [h]
    have HR := Lib.hid hr
    clear hr h
    go_enter Try.func10, Try.ntmps10
    go_wp2_with (go_at_call 32; refine (iLabelSum_any _ _ hs).mono ?_; rintro e w' ⟨rfl, rfl⟩)
    all_goals go_ret
    all_goals exact ⟨ret_bool (by rw [HR.out]), rfl⟩
end Go.Proofs.Ytgljohibcglnbaa
