/-
  The walks over the laws' own helpers that write marks into memory of the call's own, and look whether they are still there. Written by wip/mkfam.py.
-/
import Derived.Test.YteamlfcfillbjaaGreatOi
namespace Go.Proofs.YteamlfcfillbjaaGreat
set_option linter.unusedVariables false
set_option linter.unusedSimpArgs false
set_option maxRecDepth 100000
open Go.RowKit
/-- n marks, K numbers each, from k on -/
def mkS {α : Type} (K : Nat) (g : Int → α) : Int → Nat → List α
  | _, 0 => []
  | k, n + 1 => g k :: mkS K g (k + K) n
theorem mkS_length {α : Type} (K : Nat) (g : Int → α) : ∀ (n : Nat) (k : Int), (mkS K g k n).length = n
  | 0, _ => rfl
  | n + 1, k => by simp [mkS, mkS_length K g n]
theorem mkS_get {α : Type} (K : Nat) (g : Int → α) : ∀ (n j : Nat) (k : Int), j < n → (mkS K g k n)[j]? = some (g (k + ((j * K : Nat) : Int)))
  | 0, _, _, h => by omega
  | n + 1, 0, k, _ => by simp [mkS]
  | n + 1, j + 1, k, h => by
    rw [mkS, List.getElem?_cons_succ, mkS_get K g n j _ (by omega), Nat.add_mul, Nat.one_mul]
    congr 2
    omega
theorem mkS_snoc {α : Type} (K : Nat) (g : Int → α) : ∀ (n : Nat) (k : Int), mkS K g k (n + 1) = mkS K g k n ++ [g (k + ((n * K : Nat) : Int))]
  | 0, k => by simp [mkS]
  | n + 1, k => by
    rw [mkS, mkS_snoc K g n (k + K), mkS, List.cons_append, Nat.add_mul, Nat.one_mul]
    congr 4
    omega
theorem mix_store {α : Type} {f : α → List Value} {K : Nat} (hK : ∀ x, (f x).length = K) {pre xs : List α} {j : Nat} (hp : pre.length = j) (hj : j < xs.length) (y : α) :
    setL ((pre ++ xs.drop j).flatMap f) (j * K) (f y) = ((pre ++ [y]) ++ xs.drop (j + 1)).flatMap f := by
  have hd : xs.drop j = xs[j] :: xs.drop (j + 1) := List.drop_eq_getElem_cons hj
  have hl : (pre.flatMap f).length = j * K := by
    rw [← hp]
    induction pre with
    | nil => simp
    | cons x l ih => rw [List.flatMap_cons, List.length_append, hK, List.length_cons, Nat.add_mul, Nat.one_mul, Nat.add_comm]; congr 1; clear ih hp; induction l with
      | nil => simp
      | cons x l ih => rw [List.flatMap_cons, List.length_append, hK, ih, List.length_cons, Nat.add_mul, Nat.one_mul, Nat.add_comm]
  have happ : ∀ (us l1 l2 : List Value), setL (l1 ++ l2) l1.length us = l1 ++ setL l2 0 us := by
    have gen : ∀ (us l1 l2 : List Value) (j : Nat), setL (l1 ++ l2) (l1.length + j) us = l1 ++ setL l2 j us := by
      intro us
      induction us with
      | nil => intro _ _ _; rfl
      | cons u us ih => intro l1 l2 j; unfold setL; rw [List.set_append_right _ _ (Nat.le_add_right _ _), Nat.add_sub_cancel_left, Nat.add_assoc]; exact ih l1 _ (j + 1)
    intro us l1 l2
    exact gen us l1 l2 0
  have hrow : ∀ (us l t : List Value), l.length = us.length → setL (l ++ t) 0 us = us ++ t := by
    have gen : ∀ (us d l t : List Value), l.length = us.length → setL (d ++ (l ++ t)) d.length us = d ++ (us ++ t) := by
      intro us
      induction us with
      | nil => intro d l t h; cases l <;> simp_all [setL]
      | cons u us ih =>
        intro d l t h
        cases l with
        | nil => simp at h
        | cons x l =>
          unfold setL
          rw [List.set_append_right _ _ (Nat.le_refl _), Nat.sub_self, List.cons_append, List.set_cons_zero]
          have := ih (d ++ [u]) l t (by simpa using h)
          simpa using this
    intro us l t h
    exact gen us [] l t h
  rw [hd, List.flatMap_append, List.flatMap_cons, ← hl, happ, hrow _ _ _ (by rw [hK, hK])]
  simp

abbrev mkPair (m : Int) : Pair := ⟨m, m + 1⟩
set_option maxHeartbeats 400000 in
theorem markPairS_any (v : Value) (xs : List Pair) (k : Int) (base : Nat) (w : World) (h : w.ownsRow base 81 2 v xs.length (xs.flatMap Pair.cells)) (hb : xs.length ≤ 16777216) (h0 : 0 ≤ k) (h1 : k ≤ 4294967296) :
    Calls Tryz.prog 36 #[v, .int .i64 k] w fun e w' => e = .returned (.int .i64 (k + ((xs.length * 2 : Nat) : Int))) ∧ w'.ownsRow base 81 2 v xs.length ((mkS 2 mkPair k xs.length).flatMap Pair.cells) ∧ Tch v.ownBlock.toList w w' := by
  obtain ⟨A, c, rfl⟩ := own_form h
  have H := Lib.hid h
  clear h
  obtain ⟨V, hV⟩ : ∃ V, V = Value.slice A xs.length c := ⟨_, rfl⟩
  go_enter Tryz.func36, Tryz.ntmps36
  go_wp2
  go_loopw [1, 5] (fun kk i wr => ∃ j : Nat, ∃ m : Int, j ≤ xs.length ∧ 0 ≤ m ∧ m ≤ 9223372036854775000 ∧ kk = .int .i64 m ∧ i = .int .i64 j ∧ m = k + ((j * 2 : Nat) : Int) ∧ wr.ownsRow base 81 2 (.slice A xs.length c) xs.length ((mkS 2 mkPair k j ++ xs.drop j).flatMap Pair.cells) ∧ Tch (Value.slice A xs.length c).ownBlock.toList w wr) (fun _ i _ => xs.length - (intOf i).toNat)
  case atStart => exact ⟨0, k, Nat.zero_le _, h0, by omega, rfl, rfl, by simp, by simpa [mkS] using H.out, Tch.refl _ _⟩
  case round =>
    obtain ⟨j, m, hj, hm0, hm1, rfl, rfl, hm, hown, ht⟩ := hrel
    have HM := Lib.hid hm
    by_cases hlt : j < xs.length
    · have hm2 : m ≤ 9223372036854774000 := by omega
      clear hm
      obtain ⟨g, rfl⟩ : ∃ g, A = some ⟨g, 0, none⟩ := by
        rcases hown.2 with ⟨hv, _⟩ | ⟨g, cap, cur, hv, _⟩
        · have hv' := congrArg (fun v => match v with | .slice _ m _ => m | _ => 0) hv; simp at hv'; omega
        · cases hv; exact ⟨g, rfl⟩
      have hf := hown.frozenAt
      obtain ⟨o0, ho0⟩ := own_room0 hown j hlt (by omega)
      obtain ⟨o1, ho1⟩ := own_room hown j 1 hlt (by omega)
      have hst := storedL [.int .i64 (m), .int .i64 (m + 1)] _ wr (j * 2) hown
      have hmk : mkS 2 mkPair k (j + 1) = mkS 2 mkPair k j ++ [mkPair m] := by rw [mkS_snoc, HM.out]
      have hst2 := mix_store (f := Pair.cells) (K := 2) (fun _ => rfl) (mkS_length 2 mkPair j k) hlt (mkPair m)
      rw [show Pair.cells (mkPair m) = [.int .i64 (m), .int .i64 (m + 1)] from rfl, ← hmk] at hst2
      rw [hst2] at hst
      clear hmk hst2
      have htc := Tch.setW (show g ∈ (Value.slice (some ⟨g, 0, none⟩) xs.length c).ownBlock.toList by simp [Value.ownBlock]) [.int .i64 (m), .int .i64 (m + 1)] wr (j * 2) ht
      have HST := Lib.hid hst
      have HTC := Lib.hid htc
      clear hst htc hown ht
      go_wp2
      go_roundw
      case rel => exact ⟨j + 1, m + 1 + 1, hlt, by omega, by omega, rfl, by go_num, by have := HM.out; omega, HST.out, HTC.out⟩
      case measure => simp [intOf]; omega
    · obtain rfl : j = xs.length := by omega
      rw [List.drop_length, List.append_nil] at hown
      clear hm
      go_wp2
      go_ret
      exact ⟨ret_int HM.out, hown, ht⟩
set_option maxHeartbeats 400000 in
theorem heldPairS_any (v : Value) (n : Nat) (k : Int) (w : World) (h : RL 16777216 2 (flat Pair.cells) w w.heap.size v (mkS 2 mkPair k n)) (h0 : 0 ≤ k) (h1 : k ≤ 4294967296) :
    Calls Tryz.prog 39 #[v, .int .i64 k] w fun e w' => e = .returned (.int .i64 (k + ((n * 2 : Nat) : Int))) ∧ w = w' := by
  have h' := h
  obtain ⟨A, c, rfl, hbd, _⟩ := h
  rw [mkS_length] at hbd
  have H := Lib.hid h'
  clear h'
  have hl : (mkS 2 mkPair k n).length = n := mkS_length _ _ _ _
  rw [hl] at H ⊢
  have HL := Lib.hid hl
  clear hl
  go_enter Tryz.func39, Tryz.ntmps39
  go_wp2
  go_loop [1, 5] (fun kk i => ∃ j : Nat, ∃ m : Int, j ≤ n ∧ 0 ≤ m ∧ m ≤ 9223372036854775000 ∧ kk = .int .i64 m ∧ i = .int .i64 j ∧ m = k + ((j * 2 : Nat) : Int)) (fun _ i => n - (intOf i).toNat)
  case atStart => exact ⟨0, k, Nat.zero_le _, h0, by omega, rfl, rfl, by simp⟩
  case round =>
    obtain ⟨j, m, hj, hm0, hm1, rfl, rfl, hm⟩ := hrel
    have HM := Lib.hid hm
    by_cases hlt : j < n
    · have hm2 : m ≤ 9223372036854774000 := by omega
      obtain ⟨b, off, x, _, rfl, hb, hx, _, hfx, hc⟩ := H.out.at_ j (by rw [HL.out]; exact hlt)
      rw [mkS_get _ _ _ _ _ hlt, ← hm] at hx
      cases hx
      cases hfx
      have hc0 := hc 0 _ rfl
      have hc1 := hc 1 _ rfl
      simp only [Nat.add_zero] at hc0
      clear hc hm
      go_wp2
      go_round
      case rel => exact ⟨j + 1, m + 1 + 1, hlt, by omega, by omega, rfl, by go_num, by have := HM.out; omega⟩
      case measure => simp [intOf]; omega
    · obtain rfl : j = n := by omega
      clear hm
      go_wp2
      go_ret
      exact ⟨ret_int (by have := HM.out; simpa using this), rfl⟩
abbrev mkType (m : Int) : GType := ⟨m, m + 1, m + 1 + 1, m + 1 + 1 + 1, m + 1 + 1 + 1 + 1, m + 1 + 1 + 1 + 1 + 1, m + 1 + 1 + 1 + 1 + 1 + 1⟩
set_option maxHeartbeats 400000 in
theorem markTypeS_any (v : Value) (xs : List GType) (k : Int) (base : Nat) (w : World) (h : w.ownsRow base 67 7 v xs.length (xs.flatMap GType.cells)) (hb : xs.length ≤ 16777216) (h0 : 0 ≤ k) (h1 : k ≤ 4294967296) :
    Calls Tryz.prog 37 #[v, .int .i64 k] w fun e w' => e = .returned (.int .i64 (k + ((xs.length * 7 : Nat) : Int))) ∧ w'.ownsRow base 67 7 v xs.length ((mkS 7 mkType k xs.length).flatMap GType.cells) ∧ Tch v.ownBlock.toList w w' := by
  obtain ⟨A, c, rfl⟩ := own_form h
  have H := Lib.hid h
  clear h
  obtain ⟨V, hV⟩ : ∃ V, V = Value.slice A xs.length c := ⟨_, rfl⟩
  go_enter Tryz.func37, Tryz.ntmps37
  go_wp2
  go_loopw [1, 5] (fun kk i wr => ∃ j : Nat, ∃ m : Int, j ≤ xs.length ∧ 0 ≤ m ∧ m ≤ 9223372036854775000 ∧ kk = .int .i64 m ∧ i = .int .i64 j ∧ m = k + ((j * 7 : Nat) : Int) ∧ wr.ownsRow base 67 7 (.slice A xs.length c) xs.length ((mkS 7 mkType k j ++ xs.drop j).flatMap GType.cells) ∧ Tch (Value.slice A xs.length c).ownBlock.toList w wr) (fun _ i _ => xs.length - (intOf i).toNat)
  case atStart => exact ⟨0, k, Nat.zero_le _, h0, by omega, rfl, rfl, by simp, by simpa [mkS] using H.out, Tch.refl _ _⟩
  case round =>
    obtain ⟨j, m, hj, hm0, hm1, rfl, rfl, hm, hown, ht⟩ := hrel
    have HM := Lib.hid hm
    by_cases hlt : j < xs.length
    · have hm2 : m ≤ 9223372036854774000 := by omega
      clear hm
      obtain ⟨g, rfl⟩ : ∃ g, A = some ⟨g, 0, none⟩ := by
        rcases hown.2 with ⟨hv, _⟩ | ⟨g, cap, cur, hv, _⟩
        · have hv' := congrArg (fun v => match v with | .slice _ m _ => m | _ => 0) hv; simp at hv'; omega
        · cases hv; exact ⟨g, rfl⟩
      have hf := hown.frozenAt
      obtain ⟨o0, ho0⟩ := own_room0 hown j hlt (by omega)
      obtain ⟨o1, ho1⟩ := own_room hown j 1 hlt (by omega)
      obtain ⟨o2, ho2⟩ := own_room hown j 2 hlt (by omega)
      obtain ⟨o3, ho3⟩ := own_room hown j 3 hlt (by omega)
      obtain ⟨o4, ho4⟩ := own_room hown j 4 hlt (by omega)
      obtain ⟨o5, ho5⟩ := own_room hown j 5 hlt (by omega)
      obtain ⟨o6, ho6⟩ := own_room hown j 6 hlt (by omega)
      have hst := storedL [.int .i64 (m), .int .i64 (m + 1), .int .i64 (m + 1 + 1), .int .i64 (m + 1 + 1 + 1), .int .i64 (m + 1 + 1 + 1 + 1), .int .i64 (m + 1 + 1 + 1 + 1 + 1), .int .i64 (m + 1 + 1 + 1 + 1 + 1 + 1)] _ wr (j * 7) hown
      have hmk : mkS 7 mkType k (j + 1) = mkS 7 mkType k j ++ [mkType m] := by rw [mkS_snoc, HM.out]
      have hst2 := mix_store (f := GType.cells) (K := 7) (fun _ => rfl) (mkS_length 7 mkType j k) hlt (mkType m)
      rw [show GType.cells (mkType m) = [.int .i64 (m), .int .i64 (m + 1), .int .i64 (m + 1 + 1), .int .i64 (m + 1 + 1 + 1), .int .i64 (m + 1 + 1 + 1 + 1), .int .i64 (m + 1 + 1 + 1 + 1 + 1), .int .i64 (m + 1 + 1 + 1 + 1 + 1 + 1)] from rfl, ← hmk] at hst2
      rw [hst2] at hst
      clear hmk hst2
      have htc := Tch.setW (show g ∈ (Value.slice (some ⟨g, 0, none⟩) xs.length c).ownBlock.toList by simp [Value.ownBlock]) [.int .i64 (m), .int .i64 (m + 1), .int .i64 (m + 1 + 1), .int .i64 (m + 1 + 1 + 1), .int .i64 (m + 1 + 1 + 1 + 1), .int .i64 (m + 1 + 1 + 1 + 1 + 1), .int .i64 (m + 1 + 1 + 1 + 1 + 1 + 1)] wr (j * 7) ht
      have HST := Lib.hid hst
      have HTC := Lib.hid htc
      clear hst htc hown ht
      go_wp2
      go_roundw
      case rel => exact ⟨j + 1, m + 1 + 1 + 1 + 1 + 1 + 1 + 1, hlt, by omega, by omega, rfl, by go_num, by have := HM.out; omega, HST.out, HTC.out⟩
      case measure => simp [intOf]; omega
    · obtain rfl : j = xs.length := by omega
      rw [List.drop_length, List.append_nil] at hown
      clear hm
      go_wp2
      go_ret
      exact ⟨ret_int HM.out, hown, ht⟩
set_option maxHeartbeats 400000 in
theorem heldTypeS_any (v : Value) (n : Nat) (k : Int) (w : World) (h : RL 16777216 7 (flat GType.cells) w w.heap.size v (mkS 7 mkType k n)) (h0 : 0 ≤ k) (h1 : k ≤ 4294967296) :
    Calls Tryz.prog 40 #[v, .int .i64 k] w fun e w' => e = .returned (.int .i64 (k + ((n * 7 : Nat) : Int))) ∧ w = w' := by
  have h' := h
  obtain ⟨A, c, rfl, hbd, _⟩ := h
  rw [mkS_length] at hbd
  have H := Lib.hid h'
  clear h'
  have hl : (mkS 7 mkType k n).length = n := mkS_length _ _ _ _
  rw [hl] at H ⊢
  have HL := Lib.hid hl
  clear hl
  go_enter Tryz.func40, Tryz.ntmps40
  go_wp2
  go_loop [1, 5] (fun kk i => ∃ j : Nat, ∃ m : Int, j ≤ n ∧ 0 ≤ m ∧ m ≤ 9223372036854775000 ∧ kk = .int .i64 m ∧ i = .int .i64 j ∧ m = k + ((j * 7 : Nat) : Int)) (fun _ i => n - (intOf i).toNat)
  case atStart => exact ⟨0, k, Nat.zero_le _, h0, by omega, rfl, rfl, by simp⟩
  case round =>
    obtain ⟨j, m, hj, hm0, hm1, rfl, rfl, hm⟩ := hrel
    have HM := Lib.hid hm
    by_cases hlt : j < n
    · have hm2 : m ≤ 9223372036854774000 := by omega
      obtain ⟨b, off, x, _, rfl, hb, hx, _, hfx, hc⟩ := H.out.at_ j (by rw [HL.out]; exact hlt)
      rw [mkS_get _ _ _ _ _ hlt, ← hm] at hx
      cases hx
      cases hfx
      have hc0 := hc 0 _ rfl
      have hc1 := hc 1 _ rfl
      have hc2 := hc 2 _ rfl
      have hc3 := hc 3 _ rfl
      have hc4 := hc 4 _ rfl
      have hc5 := hc 5 _ rfl
      have hc6 := hc 6 _ rfl
      simp only [Nat.add_zero] at hc0
      clear hc hm
      go_wp2
      go_round
      case rel => exact ⟨j + 1, m + 1 + 1 + 1 + 1 + 1 + 1 + 1, hlt, by omega, by omega, rfl, by go_num, by have := HM.out; omega⟩
      case measure => simp [intOf]; omega
    · obtain rfl : j = n := by omega
      clear hm
      go_wp2
      go_ret
      exact ⟨ret_int (by have := HM.out; simpa using this), rfl⟩
abbrev mkItem (m : Int) : Item := ⟨m, m + 1, m + 1 + 1, m + 1 + 1 + 1, m + 1 + 1 + 1 + 1, m + 1 + 1 + 1 + 1 + 1, m + 1 + 1 + 1 + 1 + 1 + 1⟩
set_option maxHeartbeats 400000 in
theorem markItemS_any (v : Value) (xs : List Item) (k : Int) (base : Nat) (w : World) (h : w.ownsRow base 41 7 v xs.length (xs.flatMap Item.cells)) (hb : xs.length ≤ 16777216) (h0 : 0 ≤ k) (h1 : k ≤ 4294967296) :
    Calls Tryz.prog 38 #[v, .int .i64 k] w fun e w' => e = .returned (.int .i64 (k + ((xs.length * 7 : Nat) : Int))) ∧ w'.ownsRow base 41 7 v xs.length ((mkS 7 mkItem k xs.length).flatMap Item.cells) ∧ Tch v.ownBlock.toList w w' := by
  obtain ⟨A, c, rfl⟩ := own_form h
  have H := Lib.hid h
  clear h
  obtain ⟨V, hV⟩ : ∃ V, V = Value.slice A xs.length c := ⟨_, rfl⟩
  go_enter Tryz.func38, Tryz.ntmps38
  go_wp2
  go_loopw [1, 5] (fun kk i wr => ∃ j : Nat, ∃ m : Int, j ≤ xs.length ∧ 0 ≤ m ∧ m ≤ 9223372036854775000 ∧ kk = .int .i64 m ∧ i = .int .i64 j ∧ m = k + ((j * 7 : Nat) : Int) ∧ wr.ownsRow base 41 7 (.slice A xs.length c) xs.length ((mkS 7 mkItem k j ++ xs.drop j).flatMap Item.cells) ∧ Tch (Value.slice A xs.length c).ownBlock.toList w wr) (fun _ i _ => xs.length - (intOf i).toNat)
  case atStart => exact ⟨0, k, Nat.zero_le _, h0, by omega, rfl, rfl, by simp, by simpa [mkS] using H.out, Tch.refl _ _⟩
  case round =>
    obtain ⟨j, m, hj, hm0, hm1, rfl, rfl, hm, hown, ht⟩ := hrel
    have HM := Lib.hid hm
    by_cases hlt : j < xs.length
    · have hm2 : m ≤ 9223372036854774000 := by omega
      clear hm
      obtain ⟨g, rfl⟩ : ∃ g, A = some ⟨g, 0, none⟩ := by
        rcases hown.2 with ⟨hv, _⟩ | ⟨g, cap, cur, hv, _⟩
        · have hv' := congrArg (fun v => match v with | .slice _ m _ => m | _ => 0) hv; simp at hv'; omega
        · cases hv; exact ⟨g, rfl⟩
      have hf := hown.frozenAt
      obtain ⟨o0, ho0⟩ := own_room0 hown j hlt (by omega)
      obtain ⟨o1, ho1⟩ := own_room hown j 1 hlt (by omega)
      obtain ⟨o2, ho2⟩ := own_room hown j 2 hlt (by omega)
      obtain ⟨o3, ho3⟩ := own_room hown j 3 hlt (by omega)
      obtain ⟨o4, ho4⟩ := own_room hown j 4 hlt (by omega)
      obtain ⟨o5, ho5⟩ := own_room hown j 5 hlt (by omega)
      obtain ⟨o6, ho6⟩ := own_room hown j 6 hlt (by omega)
      have hst := storedL [.int .i64 (m), .int .i64 (m + 1), .int .i64 (m + 1 + 1), .int .i64 (m + 1 + 1 + 1), .int .i64 (m + 1 + 1 + 1 + 1), .int .i64 (m + 1 + 1 + 1 + 1 + 1), .int .i64 (m + 1 + 1 + 1 + 1 + 1 + 1)] _ wr (j * 7) hown
      have hmk : mkS 7 mkItem k (j + 1) = mkS 7 mkItem k j ++ [mkItem m] := by rw [mkS_snoc, HM.out]
      have hst2 := mix_store (f := Item.cells) (K := 7) (fun _ => rfl) (mkS_length 7 mkItem j k) hlt (mkItem m)
      rw [show Item.cells (mkItem m) = [.int .i64 (m), .int .i64 (m + 1), .int .i64 (m + 1 + 1), .int .i64 (m + 1 + 1 + 1), .int .i64 (m + 1 + 1 + 1 + 1), .int .i64 (m + 1 + 1 + 1 + 1 + 1), .int .i64 (m + 1 + 1 + 1 + 1 + 1 + 1)] from rfl, ← hmk] at hst2
      rw [hst2] at hst
      clear hmk hst2
      have htc := Tch.setW (show g ∈ (Value.slice (some ⟨g, 0, none⟩) xs.length c).ownBlock.toList by simp [Value.ownBlock]) [.int .i64 (m), .int .i64 (m + 1), .int .i64 (m + 1 + 1), .int .i64 (m + 1 + 1 + 1), .int .i64 (m + 1 + 1 + 1 + 1), .int .i64 (m + 1 + 1 + 1 + 1 + 1), .int .i64 (m + 1 + 1 + 1 + 1 + 1 + 1)] wr (j * 7) ht
      have HST := Lib.hid hst
      have HTC := Lib.hid htc
      clear hst htc hown ht
      go_wp2
      go_roundw
      case rel => exact ⟨j + 1, m + 1 + 1 + 1 + 1 + 1 + 1 + 1, hlt, by omega, by omega, rfl, by go_num, by have := HM.out; omega, HST.out, HTC.out⟩
      case measure => simp [intOf]; omega
    · obtain rfl : j = xs.length := by omega
      rw [List.drop_length, List.append_nil] at hown
      clear hm
      go_wp2
      go_ret
      exact ⟨ret_int HM.out, hown, ht⟩
set_option maxHeartbeats 400000 in
theorem heldItemS_any (v : Value) (n : Nat) (k : Int) (w : World) (h : RL 16777216 7 (flat Item.cells) w w.heap.size v (mkS 7 mkItem k n)) (h0 : 0 ≤ k) (h1 : k ≤ 4294967296) :
    Calls Tryz.prog 41 #[v, .int .i64 k] w fun e w' => e = .returned (.int .i64 (k + ((n * 7 : Nat) : Int))) ∧ w = w' := by
  have h' := h
  obtain ⟨A, c, rfl, hbd, _⟩ := h
  rw [mkS_length] at hbd
  have H := Lib.hid h'
  clear h'
  have hl : (mkS 7 mkItem k n).length = n := mkS_length _ _ _ _
  rw [hl] at H ⊢
  have HL := Lib.hid hl
  clear hl
  go_enter Tryz.func41, Tryz.ntmps41
  go_wp2
  go_loop [1, 5] (fun kk i => ∃ j : Nat, ∃ m : Int, j ≤ n ∧ 0 ≤ m ∧ m ≤ 9223372036854775000 ∧ kk = .int .i64 m ∧ i = .int .i64 j ∧ m = k + ((j * 7 : Nat) : Int)) (fun _ i => n - (intOf i).toNat)
  case atStart => exact ⟨0, k, Nat.zero_le _, h0, by omega, rfl, rfl, by simp⟩
  case round =>
    obtain ⟨j, m, hj, hm0, hm1, rfl, rfl, hm⟩ := hrel
    have HM := Lib.hid hm
    by_cases hlt : j < n
    · have hm2 : m ≤ 9223372036854774000 := by omega
      obtain ⟨b, off, x, _, rfl, hb, hx, _, hfx, hc⟩ := H.out.at_ j (by rw [HL.out]; exact hlt)
      rw [mkS_get _ _ _ _ _ hlt, ← hm] at hx
      cases hx
      cases hfx
      have hc0 := hc 0 _ rfl
      have hc1 := hc 1 _ rfl
      have hc2 := hc 2 _ rfl
      have hc3 := hc 3 _ rfl
      have hc4 := hc 4 _ rfl
      have hc5 := hc 5 _ rfl
      have hc6 := hc 6 _ rfl
      simp only [Nat.add_zero] at hc0
      clear hc hm
      go_wp2
      go_round
      case rel => exact ⟨j + 1, m + 1 + 1 + 1 + 1 + 1 + 1 + 1, hlt, by omega, by omega, rfl, by go_num, by have := HM.out; omega⟩
      case measure => simp [intOf]; omega
    · obtain rfl : j = n := by omega
      clear hm
      go_wp2
      go_ret
      exact ⟨ret_int (by have := HM.out; simpa using this), rfl⟩
end Go.Proofs.YteamlfcfillbjaaGreat
