/-
  The walks over the labels' functions (chapter 22) and over 'in'.
-/
import Derived.Test.YtjmokahibcbjlaaDoorRows
import Derived.Test.YtjmokahibcbjlaaDoorBs
import Derived.Test.YtjmokahibcbjlaaDoorMo
namespace Go.Proofs.YtjmokahibcbjlaaDoor
set_option linter.unusedVariables false
set_option linter.unusedSimpArgs false
open Go.RowKit
set_option maxHeartbeats 400000 in
theorem in_any (a b c : Int) (w : World) :
    Calls Tryd.prog 26 #[.int .i64 a, .int .i64 b, .int .i64 c] w fun e w' => e = .returned (.bool (inB a b c)) ∧ w = w' := by
  go_enter Tryd.func26, Tryd.ntmps26
  go_wp2
  all_goals go_ret
  all_goals (refine ⟨?_, rfl⟩; unfold inB; congr 2; simp; try omega)
set_option maxHeartbeats 400000 in
theorem l1In_any (a b c : Int) (w : World) :
    Calls Tryd.prog 20 #[.int .i64 a, .int .i64 b, .int .i64 c] w fun e w' => e = .returned (.bool (inB a b c)) ∧ w = w' := by
  go_enter Tryd.func20, Tryd.ntmps20
  go_wp2
  all_goals go_ret
  all_goals (refine ⟨?_, rfl⟩; unfold inB; congr 2; simp; try omega)
set_option maxHeartbeats 400000 in
theorem sLabelSum_any (s : ByteArray) (w : World) (hs : s.size ≤ maxLen) :
    Calls Tryd.prog 22 #[.string s] w fun e w' => e = .returned (.int .i64 (labelSum s.data.toList)) ∧ w = w' := by
  unfold maxLen at hs
  by_cases h0 : s.size = 0
  · go_enter Tryd.func22, Tryd.ntmps22
    go_wp2
    go_ret
    exact ⟨ret_int (by simp [labelSum, h0]), rfl⟩
  by_cases h1 : 40 < s.size
  · go_enter Tryd.func22, Tryd.ntmps22
    go_wp2
    all_goals go_ret
    all_goals exact ⟨ret_int (by simp [labelSum, h1]), rfl⟩
  have hl : labelSum s.data.toList = lsum s.data.toList 0 := by unfold labelSum; rw [if_neg (by rw [Array.length_toList]; show ¬(s.size = 0 ∨ 40 < s.size); omega)]
  have HL := Lib.hid hl
  clear hl
  have h0' : ((s.size : Int) == 0) = false := by simpa using h0
  have h2 : s.size ≤ 40 := by omega
  clear h0 h1
  go_enter Tryd.func22, Tryd.ntmps22
  go_wp2
  go_loop [3, 4] (fun n i => ∃ k : Nat, ∃ m : Int, k ≤ s.size ∧ 0 ≤ m ∧ m ≤ 96 ∧ i = .int .i64 k ∧ n = .int .i64 m ∧ lsum s.data.toList 0 = lsum (s.data.toList.drop k) m) (fun _ i => s.size - (intOf i).toNat)
  case atStart => exact ⟨0, 0, Nat.zero_le _, by omega, by omega, rfl, rfl, rfl⟩
  case round =>
    obtain ⟨k, m, hk, hm0, hm1, rfl, rfl, hsum⟩ := hrel
    have HS := Lib.hid hsum
    clear hsum
    by_cases hlt : k < s.size
    · have hd : s.data.toList.drop k = s[k] :: s.data.toList.drop (k + 1) := by
        rw [List.drop_eq_getElem_cons (by simpa using hlt)]; rfl
      have HD := Lib.hid hd
      clear hd
      have hu : (s[k].toNat : Int) ≤ 255 := by have := s[k].toNat_lt; omega
      by_cases hdig : 48 ≤ (s[k].toNat : Int) ∧ (s[k].toNat : Int) ≤ 57
      · have hA := hdig.1
        have hB := hdig.2
        go_wp2
        go_round
        case rel => exact ⟨k + 1, (10 * m + (s[k].toNat - 48)) % 97, by omega, by omega, by omega, by go_num, by go_num, by rw [HS.out, HD.out, lsum_cons _ _ _ hdig]⟩
        case measure => simp [intOf]; omega
      · go_wp2
        all_goals first | (exfalso; simp at *; omega) | skip
        all_goals go_ret
        all_goals exact ⟨ret_int (by rw [HL.out, HS.out, HD.out, lsum_bad _ _ _ hdig]), rfl⟩
    · go_wp2
      go_ret
      exact ⟨ret_int (by rw [HL.out, HS.out]; simp [List.drop_of_length_le, show s.size ≤ k by omega, lsum]), rfl⟩
set_option maxHeartbeats 400000 in
theorem iLabelSum_any (s : ByteArray) (w : World) (hs : s.size ≤ maxLen) :
    Calls Tryd.prog 28 #[.string s] w fun e w' => e = .returned (.int .i64 (labelSum s.data.toList)) ∧ w = w' := by
  unfold maxLen at hs
  by_cases hin : inB s.size 1 40 = false
  · have hr : labelSum s.data.toList = -1 := by
      unfold labelSum; rw [if_pos]; simp [inB] at hin; rw [Array.length_toList]; show s.size = 0 ∨ 40 < s.size; omega
    have HR := Lib.hid hr
    clear hr
    go_enter Tryd.func28, Tryd.ntmps28
    go_wp2_with (go_at_call 26; refine (in_any _ _ _ _).mono ?_; rintro e w' ⟨rfl, rfl⟩)
    go_ret
    exact ⟨ret_int HR.out.symm, rfl⟩
  have hin : inB s.size 1 40 = true := by simpa using hin
  have h1 : 1 ≤ s.size ∧ s.size ≤ 40 := by simp [inB] at hin; omega
  have hl : labelSum s.data.toList = lsum s.data.toList 0 := by unfold labelSum; rw [if_neg (by rw [Array.length_toList]; show ¬(s.size = 0 ∨ 40 < s.size); omega)]
  have HL := Lib.hid hl
  clear hl
  have h2 := h1.2
  have h3 := h1.1
  clear h1
  go_enter Tryd.func28, Tryd.ntmps28
  go_wp2_with (go_at_call 26; refine (in_any _ _ _ _).mono ?_; rintro e w' ⟨rfl, rfl⟩)
  go_loop [3, 4, 11] (fun n _ i => ∃ k : Nat, ∃ m : Int, k ≤ s.size ∧ 0 ≤ m ∧ m ≤ 96 ∧ i = .int .i64 k ∧ n = .int .i64 m ∧ lsum s.data.toList 0 = lsum (s.data.toList.drop k) m) (fun _ _ i => s.size - (intOf i).toNat)
  case atStart => exact ⟨0, 0, Nat.zero_le _, by omega, by omega, rfl, rfl, rfl⟩
  case round =>
    obtain ⟨k, m, hk, hm0, hm1, rfl, rfl, hsum⟩ := hrel
    have HS := Lib.hid hsum
    clear hsum
    by_cases hlt : k < s.size
    · have hd : s.data.toList.drop k = s[k] :: s.data.toList.drop (k + 1) := by
        rw [List.drop_eq_getElem_cons (by simpa using hlt)]; rfl
      have HD := Lib.hid hd
      clear hd
      have hu : (s[k].toNat : Int) ≤ 255 := by have := s[k].toNat_lt; omega
      by_cases hdig : 48 ≤ (s[k].toNat : Int) ∧ (s[k].toNat : Int) ≤ 57
      · have hA := hdig.1
        have hB := hdig.2
        go_wp2
        go_round
        case rel => exact ⟨k + 1, (10 * m + (s[k].toNat - 48)) % 97, by omega, by omega, by omega, by go_num, by go_num, by rw [HS.out, HD.out, lsum_cons _ _ _ hdig]⟩
        case measure => simp [intOf]; omega
      · go_wp2
        all_goals first | (exfalso; simp at *; omega) | skip
        all_goals go_ret
        all_goals exact ⟨ret_int (by rw [HL.out, HS.out, HD.out, lsum_bad _ _ _ hdig]), rfl⟩
    · go_wp2
      go_ret
      exact ⟨ret_int (by rw [HL.out, HS.out]; simp [List.drop_of_length_le, show s.size ≤ k by omega, lsum]), rfl⟩

theorem ext_all {s : ByteArray} (h : s.data.toList.all digB = true) (i j : Nat) : (s.extract i j).data.toList.all digB = true := by
  rw [List.all_eq_true] at h ⊢
  intro c hc
  refine h c ?_
  rw [ByteArray.data_extract, Array.toList_extract] at hc
  exact List.mem_of_mem_drop (List.mem_of_mem_take hc)
theorem ext_list (s : ByteArray) (i j : Nat) : (s.extract i j).data.toList = (s.data.toList.drop i).take (j - i) := by
  rw [ByteArray.data_extract, Array.toList_extract]

def labelReadV (s : ByteArray) : Value :=
  if labelOk s.data.toList = true then .tuple #[.int .i64 (figs (s.extract 0 3).data.toList 0), .int .i64 (figs (s.extract 3 7).data.toList 0), .int .i64 (figs (s.extract 7 10).data.toList 0), .bool true]
  else .tuple #[.int .i64 0, .int .i64 0, .int .i64 0, .bool false]
end Go.Proofs.YtjmokahibcbjlaaDoor
