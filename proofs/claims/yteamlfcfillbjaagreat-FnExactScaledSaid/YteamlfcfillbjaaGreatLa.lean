/-
  The walks over the labels' functions (chapter 22) and over 'in'.
-/
import Derived.Test.YteamlfcfillbjaaGreatRows
import Derived.Test.YteamlfcfillbjaaGreatBs
import Derived.Test.YteamlfcfillbjaaGreatMo
namespace Go.Proofs.YteamlfcfillbjaaGreat
set_option linter.unusedVariables false
set_option linter.unusedSimpArgs false
set_option maxRecDepth 100000
open Go.RowKit
set_option maxHeartbeats 400000 in
theorem in_any (a b c : Int) (w : World) :
    Calls Tryz.prog 68 #[.int .i64 a, .int .i64 b, .int .i64 c] w fun e w' => e = .returned (.bool (inB a b c)) ∧ w = w' := by
  go_enter Tryz.func68, Tryz.ntmps68
  go_wp2
  all_goals go_ret
  all_goals (refine ⟨?_, rfl⟩; unfold inB; congr 2; simp; try omega)
set_option maxHeartbeats 400000 in
theorem l1In_any (a b c : Int) (w : World) :
    Calls Tryz.prog 43 #[.int .i64 a, .int .i64 b, .int .i64 c] w fun e w' => e = .returned (.bool (inB a b c)) ∧ w = w' := by
  go_enter Tryz.func43, Tryz.ntmps43
  go_wp2
  all_goals go_ret
  all_goals (refine ⟨?_, rfl⟩; unfold inB; congr 2; simp; try omega)

theorem ext_all {s : ByteArray} (h : s.data.toList.all digB = true) (i j : Nat) : (s.extract i j).data.toList.all digB = true := by
  rw [List.all_eq_true] at h ⊢
  intro c hc
  refine h c ?_
  rw [ByteArray.data_extract, Array.toList_extract] at hc
  exact List.mem_of_mem_drop (List.mem_of_mem_take hc)
theorem ext_list (s : ByteArray) (i j : Nat) : (s.extract i j).data.toList = (s.data.toList.drop i).take (j - i) := by
  rw [ByteArray.data_extract, Array.toList_extract]

def labelReadV (s : ByteArray) : Value :=
  if labelOk s.data.toList = true then .tuple #[.int .i64 (figs (s.extract 0 3).data.toList 0), .int .i64 (figs (s.extract 3 7).data.toList 0), .int .i64 (figs (s.extract 7 10).data.toList 0), .bool true]
  else .tuple #[.int .i64 0, .int .i64 0, .int .i64 0, .bool false]
end Go.Proofs.YteamlfcfillbjaaGreat
