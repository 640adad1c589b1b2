/-
  The walks over the table of kinds, both sides.
-/
import Derived.Test.YteamlfcfillbjaaGreatQd
namespace Go.Proofs.YteamlfcfillbjaaGreat
set_option linter.unusedVariables false
set_option linter.unusedSimpArgs false
set_option maxRecDepth 100000
open Go.RowKit
def tabG (ps : List Pair) (a b : Nat) : Bool := !(a == b && !beside ps a a) && (beside ps a b == beside ps b a)
def tabRow (ps : List Pair) (n a : Nat) : Bool := (List.range n).all fun b => tabG ps a b
theorem tableOk_rows (ps : List Pair) (n : Nat) : tableOk ps n = (inB n 1 4 && (List.range n).all fun a => tabRow ps n a) := by
  unfold tableOk
  rw [Int.toNat_natCast]
  congr 1
  rw [Bool.eq_iff_iff]
  simp only [List.all_eq_true, List.mem_range, tabRow, tabG, Bool.and_eq_true, Bool.not_eq_true', Bool.and_eq_false_iff, beq_iff_eq, Bool.not_eq_false', beq_eq_false_iff_ne]
  constructor
  · intro h a ha b hb
    refine ⟨?_, (h a ha).2 b hb⟩
    by_cases e : a = b
    · exact .inr (h a ha).1
    · exact .inl e
  · intro h a ha
    refine ⟨?_, fun b hb => (h a ha b hb).2⟩
    rcases (h a ha a ha).1 with e | e
    · exact absurd rfl e
    · exact e
set_option maxHeartbeats 1000000 in
theorem sTableOk_any (v : Value) (ps : List Pair) (n : Int) (w : World) (h : RPairs 16777216 w w.heap.size v ps) : Calls Tryz.prog 54 #[v, .int .i64 n] w fun e w' => e = .returned (.bool (tableOk ps n)) ∧ w = w' := by
  have HB := Lib.hid (fun a b => sBeside_any v ps a b w h)
  obtain ⟨A, c, rfl, hbd, _⟩ := h
  obtain ⟨q, hq⟩ : ∃ q, inB n 1 4 = q := ⟨_, rfl⟩
  have HQ := Lib.hid hq
  cases q
  · have HT := Lib.hid (show tableOk ps n = false by unfold tableOk; rw [hq]; rfl)
    clear hq
    go_enter Tryz.func54, Tryz.ntmps54
    go_wp2_with (go_at_call 43; refine (l1In_any n 1 4 _).mono ?_; rintro e w' ⟨rfl, rfl⟩; rw [HQ.out])
    go_ret
    exact ⟨ret_bool HT.out.symm, rfl⟩
  · have hn := hq
    unfold inB at hn
    simp only [Bool.and_eq_true, decide_eq_true_eq] at hn
    obtain ⟨N, rfl⟩ : ∃ N : Nat, n = N := ⟨n.toNat, by omega⟩
    have HT := Lib.hid (show tableOk ps N = (List.range N).all fun a => tabRow ps N a by rw [tableOk_rows, hq]; rfl)
    obtain ⟨hn1, hn4⟩ := hn
    clear hq
    go_enter Tryz.func54, Tryz.ntmps54
    go_wp2_with (go_at_call 43; refine (l1In_any (N : Int) 1 4 _).mono ?_; rintro e w' ⟨rfl, rfl⟩; rw [HQ.out])
    go_loop [5] (fun i => ∃ k : Nat, k ≤ N ∧ i = .int .i64 k ∧ ∀ i, i < k → tabRow ps N i = true) (fun i => N - (intOf i).toNat)
    case atStart => exact ⟨0, Nat.zero_le _, rfl, fun _ h => by omega⟩
    case round =>
      obtain ⟨k, hk, rfl, hno⟩ := hrel
      have HN := Lib.hid hno
      clear hno
      by_cases hlt : k < N
      · go_wp2
        go_loop [6] (fun i => ∃ m : Nat, m ≤ N ∧ i = .int .i64 m ∧ ∀ i, i < m → tabG ps k i = true) (fun i => N - (intOf i).toNat)
        case atStart => exact ⟨0, Nat.zero_le _, rfl, fun _ h => by omega⟩
        case round =>
          obtain ⟨m, hm, rfl, hno⟩ := hrel
          have HN2 := Lib.hid hno
          clear hno
          by_cases hlt2 : m < N
          · have HG := Lib.hid (show tabG ps k m = (!((k : Int) == (m : Int) && !beside ps k k) && (beside ps k m == beside ps m k)) by
              unfold tabG; congr 3; rw [Bool.eq_iff_iff]; simp; exact ⟨fun h => by omega, fun h => by omega⟩)
            have B1 := HB.out k k
            have B2 := HB.out k m
            have B3 := HB.out m k
            obtain ⟨b1, hb1⟩ : ∃ b, beside ps k k = b := ⟨_, rfl⟩
            obtain ⟨b2, hb2⟩ : ∃ b, beside ps k m = b := ⟨_, rfl⟩
            obtain ⟨b3, hb3⟩ : ∃ b, beside ps m k = b := ⟨_, rfl⟩
            rw [hb1] at B1 HG
            rw [hb2] at B2 HG
            rw [hb3] at B3 HG
            have B1 := Lib.hid B1
            have B2 := Lib.hid B2
            have B3 := Lib.hid B3
            have HX := Lib.hid (fun h : tabG ps k m = false => range_all_false (f := fun a => tabRow ps N a) hlt (by unfold tabRow; exact range_all_false hlt2 h))
            have HY := Lib.hid (fun h : tabG ps k m = true => below_step (f := fun i => tabG ps k i) HN2.out h)
            obtain ⟨e, he⟩ : ∃ e, ((k : Int) == (m : Int)) = e := ⟨_, rfl⟩
            rw [he] at HG
            clear hb1 hb2 hb3
            cases e <;> cases b1 <;> cases b2 <;> cases b3
            all_goals
              go_wp2_with (go_at_call 73; (first | (with_reducible refine (B1.out).mono ?_) | (with_reducible refine (B2.out).mono ?_) | (with_reducible refine (B3.out).mono ?_)); rintro e w' ⟨rfl, rfl⟩)
            all_goals first
              | (go_ret; exact ⟨ret_bool (by rw [HT.out, HX.out (by simp [HG.out])]), rfl⟩)
              | (go_round; (case rel => exact ⟨m + 1, hlt2, by go_num, HY.out (by simp [HG.out])⟩); (case measure => (simp [intOf]; omega)))
          · have HR := Lib.hid (show tabRow ps N k = true by unfold tabRow; exact range_all_true (fun i hi => HN2.out i (by omega)))
            have HS := Lib.hid (below_step (f := fun i => tabRow ps N i) HN.out HR.out)
            go_wp2
            go_round
            case rel => exact ⟨k + 1, hlt, by go_num, HS.out⟩
            case measure => simp [intOf]; omega
      · have HR := Lib.hid (show tableOk ps N = true by rw [HT.out]; exact range_all_true (fun i hi => HN.out i (by omega)))
        go_wp2
        go_ret
        exact ⟨ret_bool HR.out.symm, rfl⟩
def tabRow2 (ps : List Pair) (n a : Nat) : Bool := beside ps a a && (List.range n).all fun b => beside ps a b == beside ps b a
set_option maxHeartbeats 1000000 in
theorem iTableOk_any (v : Value) (ps : List Pair) (n : Int) (w : World) (h : RPairs 16777216 w w.heap.size v ps) : Calls Tryz.prog 82 #[v, .int .i64 n] w fun e w' => e = .returned (.bool (tableOk ps n)) ∧ Below w.heap.size w w' := by
  have HB := fun (a b : Int) => extC (B := w.heap.size) (W := w) (Nat.le_refl _) fun X => iBeside_any v ps a b X.world (h.next (flat_mono _) X.ok)
  obtain ⟨A, c, rfl, hbd, _⟩ := h
  obtain ⟨q, hq⟩ : ∃ q, inB n 1 4 = q := ⟨_, rfl⟩
  have HQ := Lib.hid hq
  have HB := Lib.hid HB
  cases q
  · have HT := Lib.hid (show tableOk ps n = false by unfold tableOk; rw [hq]; rfl)
    clear hq
    go_enter Tryz.func82, Tryz.ntmps82
    go_wp2_with (go_at_call 68; refine (in_any n 1 4 _).mono ?_; rintro e w' ⟨rfl, rfl⟩; rw [HQ.out])
    go_ret
    exact ⟨ret_bool HT.out.symm, Below.refl _ _⟩
  · have hn := hq
    unfold inB at hn
    simp only [Bool.and_eq_true, decide_eq_true_eq] at hn
    obtain ⟨N, rfl⟩ : ∃ N : Nat, n = N := ⟨n.toNat, by omega⟩
    have HT := Lib.hid (show tableOk ps N = (List.range N).all fun a => tabRow2 ps N a by unfold tableOk; rw [hq]; rfl)
    obtain ⟨hn1, hn4⟩ := hn
    clear hq
    go_enter Tryz.func82, Tryz.ntmps82
    go_wp2_with (go_at_call 68; refine (in_any (N : Int) 1 4 _).mono ?_; rintro e w' ⟨rfl, rfl⟩; rw [HQ.out])
    go_loopw [11] (fun i wr => ∃ (k : Nat) (X : Ext w.heap.size w), wr = X.world ∧ k ≤ N ∧ i = .int .i64 k ∧ ∀ i, i < k → tabRow2 ps N i = true) (fun i _ => N - (intOf i).toNat)
    case atStart => exact ⟨0, Ext.here _ _, rfl, Nat.zero_le _, rfl, fun _ h => by omega⟩
    case round =>
      obtain ⟨k, X, rfl, hk, rfl, hno⟩ := hrel
      have HN := Lib.hid hno
      clear hno
      by_cases hlt : k < N
      · have B0 := (HB.out k k).out
        obtain ⟨b0, hb0⟩ : ∃ b, beside ps k k = b := ⟨_, rfl⟩
        rw [hb0] at B0
        have B0 := Lib.hid B0
        have HB0 := Lib.hid hb0
        clear hb0
        cases b0
        · have HX := Lib.hid (show tableOk ps N = false by rw [HT.out]; exact range_all_false (f := fun a => tabRow2 ps N a) hlt (by unfold tabRow2; rw [HB0.out]; rfl))
          go_wp2_with (go_at_call 100; refine (B0.out _).mono ?_; rintro e w' ⟨rfl, Y, rfl⟩)
          go_ret
          exact ⟨ret_bool HX.out.symm, Y.ok⟩
        · go_wp2_with (go_at_call 100; refine (B0.out _).mono ?_; rintro e w' ⟨rfl, Y, rfl⟩)
          go_loopw [20] (fun i wr => ∃ (m : Nat) (X : Ext w.heap.size w), wr = X.world ∧ m ≤ N ∧ i = .int .i64 m ∧ ∀ i, i < m → (beside ps k i == beside ps i k) = true) (fun i _ => N - (intOf i).toNat)
          case atStart => exact ⟨0, Y, rfl, Nat.zero_le _, rfl, fun _ h => by omega⟩
          case round =>
            obtain ⟨m, X2, rfl, hm, rfl, hno⟩ := hrel
            have HN2 := Lib.hid hno
            clear hno
            by_cases hlt2 : m < N
            · have B2 := (HB.out k m).out
              have B3 := (HB.out m k).out
              obtain ⟨b2, hb2⟩ : ∃ b, beside ps k m = b := ⟨_, rfl⟩
              obtain ⟨b3, hb3⟩ : ∃ b, beside ps m k = b := ⟨_, rfl⟩
              have HE := Lib.hid (show (beside ps k m == beside ps m k) = (b2 == b3) by rw [hb2, hb3])
              rw [hb2] at B2
              rw [hb3] at B3
              have B2 := Lib.hid B2
              have B3 := Lib.hid B3
              have HX := Lib.hid (fun h : (beside ps k m == beside ps m k) = false => range_all_false (f := fun a => tabRow2 ps N a) hlt (by unfold tabRow2; rw [range_all_false hlt2 h]; simp))
              have HY := Lib.hid (fun h : (beside ps k m == beside ps m k) = true => below_step (f := fun i => beside ps k i == beside ps i k) HN2.out h)
              clear hb2 hb3
              cases b2 <;> cases b3
              all_goals
                go_wp2_with (go_at_call 100; (first | (with_reducible refine (B2.out _).mono ?_) | (with_reducible refine (B3.out _).mono ?_)); rintro e w' ⟨rfl, Y, rfl⟩)
              all_goals first
                | (go_ret; exact ⟨ret_bool (by rw [HT.out, HX.out (by rw [HE.out]; rfl)]), Y.ok⟩)
                | (go_roundw; (case rel => exact ⟨m + 1, Y, rfl, hlt2, by go_num, HY.out (by rw [HE.out]; rfl)⟩); (case measure => (simp [intOf]; omega)))
            · have HR := Lib.hid (show tabRow2 ps N k = true by unfold tabRow2; rw [HB0.out]; exact range_all_true (fun i hi => HN2.out i (by omega)))
              have HS := Lib.hid (below_step (f := fun i => tabRow2 ps N i) HN.out HR.out)
              go_wp2
              go_roundw
              case rel => exact ⟨k + 1, X2, rfl, hlt, by go_num, HS.out⟩
              case measure => simp [intOf]; omega
      · have HR := Lib.hid (show tableOk ps N = true by rw [HT.out]; exact range_all_true (fun i hi => HN.out i (by omega)))
        go_wp2
        go_ret
        exact ⟨ret_bool HR.out.symm, X.ok⟩
end Go.Proofs.YteamlfcfillbjaaGreat
