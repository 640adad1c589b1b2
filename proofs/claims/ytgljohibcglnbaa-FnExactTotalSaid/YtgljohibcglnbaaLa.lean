/-
  The walks over the labels' functions (chapter 22) and over 'in'.
-/
import Derived.Test.YtgljohibcglnbaaRows
import Derived.Test.YtgljohibcglnbaaBs
import Derived.Test.YtgljohibcglnbaaMo
namespace Go.Proofs.Ytgljohibcglnbaa
set_option linter.unusedVariables false
set_option linter.unusedSimpArgs false
open Go.RowKit
set_option maxHeartbeats 400000 in
theorem in_any (a b c : Int) (w : World) :
    Calls Try.prog 49 #[.int .i64 a, .int .i64 b, .int .i64 c] w fun e w' => e = .returned (.bool (inB a b c)) ∧ w = w' := by
  go_enter Try.func49, Try.ntmps49
  go_wp2
  all_goals go_ret
  all_goals (refine ⟨?_, rfl⟩; unfold inB; congr 2; simp; try omega)
set_option maxHeartbeats 400000 in
theorem l1In_any (a b c : Int) (w : World) :
    Calls Try.prog 50 #[.int .i64 a, .int .i64 b, .int .i64 c] w fun e w' => e = .returned (.bool (inB a b c)) ∧ w = w' := by
  go_enter Try.func50, Try.ntmps50
  go_wp2
  all_goals go_ret
  all_goals (refine ⟨?_, rfl⟩; unfold inB; congr 2; simp; try omega)
set_option maxHeartbeats 400000 in
theorem sLabelSum_any (s : ByteArray) (w : World) (hs : s.size ≤ maxLen) :
    Calls Try.prog 31 #[.string s] w fun e w' => e = .returned (.int .i64 (labelSum s.data.toList)) ∧ w = w' := by
  unfold maxLen at hs
  by_cases h0 : s.size = 0
  · go_enter Try.func31, Try.ntmps31
    go_wp2
    go_ret
    exact ⟨ret_int (by simp [labelSum, h0]), rfl⟩
  by_cases h1 : 40 < s.size
  · go_enter Try.func31, Try.ntmps31
    go_wp2
    all_goals go_ret
    all_goals exact ⟨ret_int (by simp [labelSum, h1]), rfl⟩
  have hl : labelSum s.data.toList = lsum s.data.toList 0 := by unfold labelSum; rw [if_neg (by rw [Array.length_toList]; show ¬(s.size = 0 ∨ 40 < s.size); omega)]
  have HL := Lib.hid hl
  clear hl
  have h0' : ((s.size : Int) == 0) = false := by simpa using h0
  have h2 : s.size ≤ 40 := by omega
  clear h0 h1
  go_enter Try.func31, Try.ntmps31
  go_wp2
  go_loop [3, 4] (fun n i => ∃ k : Nat, ∃ m : Int, k ≤ s.size ∧ 0 ≤ m ∧ m ≤ 96 ∧ i = .int .i64 k ∧ n = .int .i64 m ∧ lsum s.data.toList 0 = lsum (s.data.toList.drop k) m) (fun _ i => s.size - (intOf i).toNat)
  case atStart => exact ⟨0, 0, Nat.zero_le _, by omega, by omega, rfl, rfl, rfl⟩
  case round =>
    obtain ⟨k, m, hk, hm0, hm1, rfl, rfl, hsum⟩ := hrel
    have HS := Lib.hid hsum
    clear hsum
    by_cases hlt : k < s.size
    · have hd : s.data.toList.drop k = s[k] :: s.data.toList.drop (k + 1) := by
        rw [List.drop_eq_getElem_cons (by simpa using hlt)]; rfl
      have HD := Lib.hid hd
      clear hd
      have hu : (s[k].toNat : Int) ≤ 255 := by have := s[k].toNat_lt; omega
      by_cases hdig : 48 ≤ (s[k].toNat : Int) ∧ (s[k].toNat : Int) ≤ 57
      · have hA := hdig.1
        have hB := hdig.2
        go_wp2
        go_round
        case rel => exact ⟨k + 1, (10 * m + (s[k].toNat - 48)) % 97, by omega, by omega, by omega, by go_num, by go_num, by rw [HS.out, HD.out, lsum_cons _ _ _ hdig]⟩
        case measure => simp [intOf]; omega
      · go_wp2
        all_goals first | (exfalso; simp at *; omega) | skip
        all_goals go_ret
        all_goals exact ⟨ret_int (by rw [HL.out, HS.out, HD.out, lsum_bad _ _ _ hdig]), rfl⟩
    · go_wp2
      go_ret
      exact ⟨ret_int (by rw [HL.out, HS.out]; simp [List.drop_of_length_le, show s.size ≤ k by omega, lsum]), rfl⟩
set_option maxHeartbeats 400000 in
theorem iLabelSum_any (s : ByteArray) (w : World) (hs : s.size ≤ maxLen) :
    Calls Try.prog 32 #[.string s] w fun e w' => e = .returned (.int .i64 (labelSum s.data.toList)) ∧ w = w' := by
  unfold maxLen at hs
  by_cases hin : inB s.size 1 40 = false
  · have hr : labelSum s.data.toList = -1 := by
      unfold labelSum; rw [if_pos]; simp [inB] at hin; rw [Array.length_toList]; show s.size = 0 ∨ 40 < s.size; omega
    have HR := Lib.hid hr
    clear hr
    go_enter Try.func32, Try.ntmps32
    go_wp2_with (go_at_call 49; refine (in_any _ _ _ _).mono ?_; rintro e w' ⟨rfl, rfl⟩)
    go_ret
    exact ⟨ret_int HR.out.symm, rfl⟩
  have hin : inB s.size 1 40 = true := by simpa using hin
  have h1 : 1 ≤ s.size ∧ s.size ≤ 40 := by simp [inB] at hin; omega
  have hl : labelSum s.data.toList = lsum s.data.toList 0 := by unfold labelSum; rw [if_neg (by rw [Array.length_toList]; show ¬(s.size = 0 ∨ 40 < s.size); omega)]
  have HL := Lib.hid hl
  clear hl
  have h2 := h1.2
  have h3 := h1.1
  clear h1
  go_enter Try.func32, Try.ntmps32
  go_wp2_with (go_at_call 49; refine (in_any _ _ _ _).mono ?_; rintro e w' ⟨rfl, rfl⟩)
  go_loop [3, 4, 11] (fun n _ i => ∃ k : Nat, ∃ m : Int, k ≤ s.size ∧ 0 ≤ m ∧ m ≤ 96 ∧ i = .int .i64 k ∧ n = .int .i64 m ∧ lsum s.data.toList 0 = lsum (s.data.toList.drop k) m) (fun _ _ i => s.size - (intOf i).toNat)
  case atStart => exact ⟨0, 0, Nat.zero_le _, by omega, by omega, rfl, rfl, rfl⟩
  case round =>
    obtain ⟨k, m, hk, hm0, hm1, rfl, rfl, hsum⟩ := hrel
    have HS := Lib.hid hsum
    clear hsum
    by_cases hlt : k < s.size
    · have hd : s.data.toList.drop k = s[k] :: s.data.toList.drop (k + 1) := by
        rw [List.drop_eq_getElem_cons (by simpa using hlt)]; rfl
      have HD := Lib.hid hd
      clear hd
      have hu : (s[k].toNat : Int) ≤ 255 := by have := s[k].toNat_lt; omega
      by_cases hdig : 48 ≤ (s[k].toNat : Int) ∧ (s[k].toNat : Int) ≤ 57
      · have hA := hdig.1
        have hB := hdig.2
        go_wp2
        go_round
        case rel => exact ⟨k + 1, (10 * m + (s[k].toNat - 48)) % 97, by omega, by omega, by omega, by go_num, by go_num, by rw [HS.out, HD.out, lsum_cons _ _ _ hdig]⟩
        case measure => simp [intOf]; omega
      · go_wp2
        all_goals first | (exfalso; simp at *; omega) | skip
        all_goals go_ret
        all_goals exact ⟨ret_int (by rw [HL.out, HS.out, HD.out, lsum_bad _ _ _ hdig]), rfl⟩
    · go_wp2
      go_ret
      exact ⟨ret_int (by rw [HL.out, HS.out]; simp [List.drop_of_length_le, show s.size ≤ k by omega, lsum]), rfl⟩
set_option maxHeartbeats 400000 in
theorem sLabelOk_any (s : ByteArray) (w : World) (hs : s.size ≤ maxLen) :
    Calls Try.prog 9 #[.string s] w fun e w' => e = .returned (.bool (labelOk s.data.toList)) ∧ w = w' := by
  by_cases h : s.size = 12
  · have h' : ((s.size : Int) == 12) = true := by simp [h]
    have hr : labelOk s.data.toList = (labelSum s.data.toList == 1) := by unfold labelOk; rw [Array.length_toList]; show (decide (s.size = 12) && _) = _; simp [h]
    have HR := Lib.hid hr
    have HH := Lib.hid h
    clear hr h
    go_enter Try.func9, Try.ntmps9
    go_wp2_with (go_at_call 31; refine (sLabelSum_any _ _ hs).mono ?_; rintro e w' ⟨rfl, rfl⟩)
    all_goals go_ret
    all_goals exact ⟨ret_bool (by rw [HR.out]), rfl⟩
  · have h' : ((s.size : Int) == 12) = false := by simp; omega
    have hr : labelOk s.data.toList = false := by unfold labelOk; rw [Array.length_toList]; show (decide (s.size = 12) && _) = _; simp [h]
    have HR := Lib.hid hr
    clear hr h
    go_enter Try.func9, Try.ntmps9
    go_wp2_with (go_at_call 31; refine (sLabelSum_any _ _ hs).mono ?_; rintro e w' ⟨rfl, rfl⟩)
    all_goals go_ret
    all_goals exact ⟨ret_bool (by rw [HR.out]), rfl⟩
set_option maxHeartbeats 400000 in
theorem iLabelOk_any (s : ByteArray) (w : World) (hs : s.size ≤ maxLen) :
    Calls Try.prog 10 #[.string s] w fun e w' => e = .returned (.bool (labelOk s.data.toList)) ∧ w = w' := by
  by_cases h : s.size = 12
  · have h' : ((s.size : Int) == 12) = true := by simp [h]
    have hr : labelOk s.data.toList = (labelSum s.data.toList == 1) := by unfold labelOk; rw [Array.length_toList]; show (decide (s.size = 12) && _) = _; simp [h]
    have HR := Lib.hid hr
    have HH := Lib.hid h
    clear hr h
    go_enter Try.func10, Try.ntmps10
    go_wp2_with (go_at_call 32; refine (iLabelSum_any _ _ hs).mono ?_; rintro e w' ⟨rfl, rfl⟩)
    all_goals go_ret
    all_goals exact ⟨ret_bool (by rw [HR.out]), rfl⟩
  · have h' : ((s.size : Int) == 12) = false := by simp; omega
    have hr : labelOk s.data.toList = false := by unfold labelOk; rw [Array.length_toList]; show (decide (s.size = 12) && _) = _; simp [h]
    have HR := Lib.hid hr
    clear hr h
    go_enter Try.func10, Try.ntmps10
    go_wp2_with (go_at_call 32; refine (iLabelSum_any _ _ hs).mono ?_; rintro e w' ⟨rfl, rfl⟩)
    all_goals go_ret
    all_goals exact ⟨ret_bool (by rw [HR.out]), rfl⟩

theorem ext_all {s : ByteArray} (h : s.data.toList.all digB = true) (i j : Nat) : (s.extract i j).data.toList.all digB = true := by
  rw [List.all_eq_true] at h ⊢
  intro c hc
  refine h c ?_
  rw [ByteArray.data_extract, Array.toList_extract] at hc
  exact List.mem_of_mem_drop (List.mem_of_mem_take hc)
theorem ext_list (s : ByteArray) (i j : Nat) : (s.extract i j).data.toList = (s.data.toList.drop i).take (j - i) := by
  rw [ByteArray.data_extract, Array.toList_extract]
set_option maxHeartbeats 400000 in
theorem l22Int_any (s : ByteArray) (w : World) (hs : s.size ≤ 5) (hd : s.data.toList.all digB = true) :
    Calls Try.prog 33 #[.string s] w fun e w' => e = .returned (.int .i64 (figs s.data.toList 0)) ∧ w = w' := by
  have HDi := Lib.hid hd
  clear hd
  go_enter Try.func33, Try.ntmps33
  go_wp2
  go_loop [3, 4] (fun n i => ∃ k : Nat, ∃ m : Int, k ≤ s.size ∧ 0 ≤ m ∧ m + 1 ≤ ((10 ^ k : Nat) : Int) ∧ i = .int .i64 k ∧ n = .int .i64 m ∧ figs s.data.toList 0 = figs (s.data.toList.drop k) m) (fun _ i => s.size - (intOf i).toNat)
  case atStart => exact ⟨0, 0, Nat.zero_le _, by omega, by omega, rfl, rfl, rfl⟩
  case round =>
    obtain ⟨k, m, hk, hm0, hm1, rfl, rfl, hsum⟩ := hrel
    have HS := Lib.hid hsum
    have HM := Lib.hid hm1
    clear hsum hm1
    by_cases hlt : k < s.size
    · have hd : s.data.toList.drop k = s[k] :: s.data.toList.drop (k + 1) := by
        rw [List.drop_eq_getElem_cons (by simpa using hlt)]; rfl
      have hc : digB s[k] = true := List.all_eq_true.1 HDi.out s[k] (by rw [show s[k] = s.data.toList[k]'(by simpa using hlt) from rfl]; exact List.getElem_mem _)
      have HD := Lib.hid hd
      clear hd
      have hA : 48 ≤ (s[k].toNat : Int) := by unfold digB at hc; simp at hc; omega
      have hB : (s[k].toNat : Int) ≤ 57 := by unfold digB at hc; simp at hc; omega
      have hm2 : m ≤ 10000 := by
        have h1 := HM.out
        have h2 : 10 ^ k ≤ 10 ^ 4 := Nat.pow_le_pow_right (by omega) (by omega)
        omega
      clear hc
      go_wp2
      go_round
      case rel => exact ⟨k + 1, 10 * m + (s[k].toNat - 48), by omega, by omega, by have h1 := HM.out; rw [Nat.pow_succ, Int.natCast_mul]; omega, by go_num, by go_num, by rw [HS.out, HD.out, figs_cons]⟩
      case measure => simp [intOf]; omega
    · go_wp2
      go_ret
      exact ⟨ret_int (by rw [HS.out]; simp [List.drop_of_length_le, show s.size ≤ k by omega, figs]), rfl⟩
set_option maxHeartbeats 400000 in
theorem figures_any (s : ByteArray) (w : World) (hs : s.size ≤ 5) (hd : s.data.toList.all digB = true) :
    Calls Try.prog 34 #[.string s] w fun e w' => e = .returned (.int .i64 (figs s.data.toList 0)) ∧ w = w' := by
  have HDi := Lib.hid hd
  clear hd
  go_enter Try.func34, Try.ntmps34
  go_wp2
  go_loop [3, 4, 7] (fun n _ i => ∃ k : Nat, ∃ m : Int, k ≤ s.size ∧ 0 ≤ m ∧ m + 1 ≤ ((10 ^ k : Nat) : Int) ∧ i = .int .i64 k ∧ n = .int .i64 m ∧ figs s.data.toList 0 = figs (s.data.toList.drop k) m) (fun _ _ i => s.size - (intOf i).toNat)
  case atStart => exact ⟨0, 0, Nat.zero_le _, by omega, by omega, rfl, rfl, rfl⟩
  case round =>
    obtain ⟨k, m, hk, hm0, hm1, rfl, rfl, hsum⟩ := hrel
    have HS := Lib.hid hsum
    have HM := Lib.hid hm1
    clear hsum hm1
    by_cases hlt : k < s.size
    · have hd : s.data.toList.drop k = s[k] :: s.data.toList.drop (k + 1) := by
        rw [List.drop_eq_getElem_cons (by simpa using hlt)]; rfl
      have hc : digB s[k] = true := List.all_eq_true.1 HDi.out s[k] (by rw [show s[k] = s.data.toList[k]'(by simpa using hlt) from rfl]; exact List.getElem_mem _)
      have HD := Lib.hid hd
      clear hd
      have hA : 48 ≤ (s[k].toNat : Int) := by unfold digB at hc; simp at hc; omega
      have hB : (s[k].toNat : Int) ≤ 57 := by unfold digB at hc; simp at hc; omega
      have hm2 : m ≤ 10000 := by
        have h1 := HM.out
        have h2 : 10 ^ k ≤ 10 ^ 4 := Nat.pow_le_pow_right (by omega) (by omega)
        omega
      clear hc
      go_wp2
      go_round
      case rel => exact ⟨k + 1, 10 * m + (s[k].toNat - 48), by omega, by omega, by have h1 := HM.out; rw [Nat.pow_succ, Int.natCast_mul]; omega, by go_num, by go_num, by rw [HS.out, HD.out, figs_cons]⟩
      case measure => simp [intOf]; omega
    · go_wp2
      go_ret
      exact ⟨ret_int (by rw [HS.out]; simp [List.drop_of_length_le, show s.size ≤ k by omega, figs]), rfl⟩

def labelReadV (s : ByteArray) : Value :=
  if labelOk s.data.toList = true then .tuple #[.int .i64 (figs (s.extract 0 3).data.toList 0), .int .i64 (figs (s.extract 3 7).data.toList 0), .int .i64 (figs (s.extract 7 10).data.toList 0), .bool true]
  else .tuple #[.int .i64 0, .int .i64 0, .int .i64 0, .bool false]
set_option maxHeartbeats 400000 in
theorem sLabelRead_any (s : ByteArray) (w : World) (hs : s.size ≤ maxLen) :
    Calls Try.prog 11 #[.string s] w fun e w' => e = .returned (labelReadV s) ∧ Below w.heap.size w w' := by
  by_cases h : labelOk s.data.toList = true
  · have hl : s.size = 12 := labelOk_len h
    have hall := labelOk_all h
    have hr : labelReadV s = .tuple #[.int .i64 (figs (s.extract 0 3).data.toList 0), .int .i64 (figs (s.extract 3 7).data.toList 0), .int .i64 (figs (s.extract 7 10).data.toList 0), .bool true] := by unfold labelReadV; rw [if_pos h]
    have HALL := Lib.hid hall
    have HR := Lib.hid hr
    have hs1 : 10 ≤ s.size := by omega
    clear hr hl hall
    go_enter Try.func11, Try.ntmps11
    go_wp2_with (go_at_call 9; refine (sLabelOk_any _ _ hs).mono ?_; rintro e w' ⟨rfl, rfl⟩)
    go_quiet (exact quiet_left (l22Int_any _ _ (by simp; omega) (ext_all HALL.out _ _)))
    go_wp2
    refine bodyPost_ret (results_tmp4 rfl _ _ _) rfl ?_
    exact ⟨by rw [HR.out]; rfl, below_drewN (Below.refl _ _) _⟩
  · have hr : labelReadV s = .tuple #[.int .i64 0, .int .i64 0, .int .i64 0, .bool false] := by unfold labelReadV; rw [if_neg h]
    have h : labelOk s.data.toList = false := by simpa using h
    have HR := Lib.hid hr
    clear hr
    go_enter Try.func11, Try.ntmps11
    go_wp2_with (go_at_call 9; refine (sLabelOk_any _ _ hs).mono ?_; rintro e w' ⟨rfl, rfl⟩)
    refine bodyPost_ret (results_tmp4 rfl _ _ _) rfl ?_
    exact ⟨by rw [HR.out]; rfl, Below.refl _ _⟩
set_option maxHeartbeats 400000 in
theorem iLabelRead_any (s : ByteArray) (w : World) (hs : s.size ≤ maxLen) :
    Calls Try.prog 12 #[.string s] w fun e w' => e = .returned (labelReadV s) ∧ Below w.heap.size w w' := by
  by_cases h : labelOk s.data.toList = true
  · have hl : s.size = 12 := labelOk_len h
    have hall := labelOk_all h
    have hr : labelReadV s = .tuple #[.int .i64 (figs (s.extract 0 3).data.toList 0), .int .i64 (figs (s.extract 3 7).data.toList 0), .int .i64 (figs (s.extract 7 10).data.toList 0), .bool true] := by unfold labelReadV; rw [if_pos h]
    have HALL := Lib.hid hall
    have HR := Lib.hid hr
    have hs1 : 10 ≤ s.size := by omega
    clear hr hl hall
    go_enter Try.func12, Try.ntmps12
    go_wp2_with (go_at_call 10; refine (iLabelOk_any _ _ hs).mono ?_; rintro e w' ⟨rfl, rfl⟩)
    go_quiet (exact quiet_left (figures_any _ _ (by simp; omega) (ext_all HALL.out _ _)))
    go_wp2
    refine bodyPost_ret (results_tmp4 rfl _ _ _) rfl ?_
    exact ⟨by rw [HR.out]; rfl, below_drewN (Below.refl _ _) _⟩
  · have hr : labelReadV s = .tuple #[.int .i64 0, .int .i64 0, .int .i64 0, .bool false] := by unfold labelReadV; rw [if_neg h]
    have h : labelOk s.data.toList = false := by simpa using h
    have HR := Lib.hid hr
    clear hr
    go_enter Try.func12, Try.ntmps12
    go_wp2_with (go_at_call 10; refine (iLabelOk_any _ _ hs).mono ?_; rintro e w' ⟨rfl, rfl⟩)
    refine bodyPost_ret (results_tmp4 rfl _ _ _) rfl ?_
    exact ⟨by rw [HR.out]; rfl, Below.refl _ _⟩
end Go.Proofs.Ytgljohibcglnbaa
