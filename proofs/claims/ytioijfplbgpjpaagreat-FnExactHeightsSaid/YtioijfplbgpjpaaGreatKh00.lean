/-
  Words and walks that these laws need beyond the others': see each theorem.
-/
import Derived.Test.YtioijfplbgpjpaaGreatKx00
import Derived.Test.YtioijfplbgpjpaaGreatKx01
import Derived.Test.YtioijfplbgpjpaaGreatKx02
import Derived.Test.YtioijfplbgpjpaaGreatKx03
import Derived.Test.YtioijfplbgpjpaaGreatKx04
import Derived.Test.YtioijfplbgpjpaaGreatKx05
import Derived.Test.YtioijfplbgpjpaaGreatKx06
import Derived.Test.YtioijfplbgpjpaaGreatKx09
import Derived.Test.YtioijfplbgpjpaaGreatKx22
import Derived.Test.YtioijfplbgpjpaaGreatKx24
import Derived.Test.YtioijfplbgpjpaaGreatKx25
import Derived.Test.YtioijfplbgpjpaaGreatKx10
import Derived.Test.YtioijfplbgpjpaaGreatKx11
import Derived.Test.YtioijfplbgpjpaaGreatKx26
import Derived.Test.YtioijfplbgpjpaaGreatKx29
import Derived.Test.YtioijfplbgpjpaaGreatKx27
import Derived.Test.YtioijfplbgpjpaaGreatKx28
import Derived.Test.YtioijfplbgpjpaaGreatKx30
import Derived.Test.YtioijfplbgpjpaaGreatKx31
import Derived.Test.YtioijfplbgpjpaaGreatKx23
import Derived.Test.YtioijfplbgpjpaaGreatKx32
import Derived.WalkKit
import Derived.WalkSpells
import Derived.WalkLawsBesides
import Derived.BigQuiet
import Derived.Deep.QuietTactic
import Derived.IntWalk
import Derived.Lib.Hide
import Derived.Laws.OwnMore
import Derived.Deep.Draws
import Derived.Deep.RegionHeld3
import Derived.Maps.AppendAt
import Derived.Deep.AppendLies
import Derived.RegionTactic
import Derived.OwnWalk
import Derived.ProofKit
import Derived.OpenShut
import Derived.ShutString
import Derived.WideKeyArgs
import Derived.Carry
import Derived.Deep.Slices
import Derived.Deep.Fields
import Derived.Deep.Strs
import Derived.ChangeSame
import Derived.Deep.Light
import Derived.Laws.StructEq
import Derived.Sort.OwnSortedInts
import Derived.StillTail
import Derived.Deep.RegionHeld
import Derived.Deep.RegionLaw
import Derived.Deep.DeepCutAuto
import Derived.Deep.RegionWith
import Derived.StillTailTactics
import Derived.Laws.CopyOwn
namespace Go.Proofs.YtioijfplbgpjpaaGreat
set_option linter.unusedVariables false
set_option linter.unusedSimpArgs false
set_option maxRecDepth 100000
open Go.RowKit

section
variable {α : Type} {bd k : Nat} {R : World → Nat → List Value → α → Prop} {w w' : World} {B B' : Nat} {v : Value} {xs : List α}
end

end Go.Proofs.YtioijfplbgpjpaaGreat

namespace Go.Proofs.YtioijfplbgpjpaaGreat
set_option linter.unusedVariables false
set_option linter.unusedSimpArgs false
set_option maxRecDepth 100000
open Go.RowKit

section
variable {α : Type} {e K : Nat} {E : World → List Value → α → List Nat → Prop} {w w' : World} {base : Nat} {v : Value} {xs : List α} {fp : List Nat} {k : Nat} {cs : List Value}

end

theorem own_of_OL {α : Type} {f : α → List Value} {e K base : Nat} {w : World} {v : Value} {xs : List α} {fp : List Nat} (h : OL e K (eflat f) w base v xs fp) (hK : ∀ x, (f x).length = K) : w.ownsRow base e K v xs.length (xs.flatMap f) ∧ fp = v.ownBlock.toList := by
  obtain ⟨cs, ifp, h1, rfl, h3, h4, fps, rfl, hfl, h5⟩ := h
  have hp : Pre K f xs xs.length cs := ⟨h1.1, fun i x hi hx j u hu => by
    obtain ⟨ecs, g, _, _, h6, h7⟩ := h5 i x hi hx
    rw [h6.1] at h7
    exact h7 j u hu⟩
  have hn : ∀ g ∈ fps, g = [] := by
    intro g hg
    obtain ⟨i, hi⟩ := List.mem_iff_getElem?.1 hg
    have hlt := (List.getElem?_eq_some_iff.1 hi).1
    obtain ⟨_, g', _, h6, h7, _⟩ := h5 i xs[i] (by omega) (List.getElem?_eq_getElem (by omega))
    rw [hi] at h6
    injection h6 with h6
    rw [h6]
    exact h7.2
  rw [hp.done hK] at h1
  exact ⟨h1, by rw [List.flatten_eq_nil_iff.2 (fun l hl => hn l hl)]; simp⟩
end Go.Proofs.YtioijfplbgpjpaaGreat

namespace Go.Proofs.YtioijfplbgpjpaaGreat
set_option linter.unusedVariables false
set_option linter.unusedSimpArgs false
set_option maxRecDepth 100000
open Go.RowKit

end Go.Proofs.YtioijfplbgpjpaaGreat

namespace Go.Proofs.YtioijfplbgpjpaaGreat
set_option linter.unusedVariables false
set_option linter.unusedSimpArgs false
set_option maxRecDepth 100000
open Go.RowKit
end Go.Proofs.YtioijfplbgpjpaaGreat

namespace Go.Proofs.YtioijfplbgpjpaaGreat
set_option linter.unusedVariables false
set_option linter.unusedSimpArgs false
set_option maxRecDepth 100000
open Go.RowKit
end Go.Proofs.YtioijfplbgpjpaaGreat

namespace Go.Proofs.YtioijfplbgpjpaaGreat
set_option linter.unusedVariables false
set_option linter.unusedSimpArgs false
set_option maxRecDepth 100000
open Go.RowKit
end Go.Proofs.YtioijfplbgpjpaaGreat

namespace Go.Proofs.YtioijfplbgpjpaaGreat
set_option linter.unusedVariables false
set_option linter.unusedSimpArgs false
set_option maxRecDepth 100000
open Go.RowKit
section
variable {w W : World} {B : Nat}
end
end Go.Proofs.YtioijfplbgpjpaaGreat

namespace Go.Proofs.YtioijfplbgpjpaaGreat
set_option linter.unusedVariables false
set_option linter.unusedSimpArgs false
set_option maxRecDepth 100000
end Go.Proofs.YtioijfplbgpjpaaGreat

namespace Go.Proofs.YtioijfplbgpjpaaGreat
set_option linter.unusedVariables false
set_option linter.unusedSimpArgs false
set_option maxRecDepth 100000
open Go.RowKit
end Go.Proofs.YtioijfplbgpjpaaGreat

namespace Go.Proofs.YtioijfplbgpjpaaGreat
set_option linter.unusedVariables false
set_option linter.unusedSimpArgs false
set_option maxRecDepth 100000
open Go.RowKit
section
variable {α β : Type}
end
section
variable {α β : Type}
end
end Go.Proofs.YtioijfplbgpjpaaGreat

namespace Go.Proofs.YtioijfplbgpjpaaGreat
set_option linter.unusedVariables false
set_option linter.unusedSimpArgs false
set_option maxRecDepth 100000
open Go.RowKit
section
set_option linter.unusedSectionVars false
variable {α : Type} [Inhabited α] {P : α → Prop} {xs : List α} {x : α}
end
end Go.Proofs.YtioijfplbgpjpaaGreat

namespace Go.Proofs.YtioijfplbgpjpaaGreat
set_option linter.unusedVariables false
set_option linter.unusedSimpArgs false
set_option maxRecDepth 100000
open Go.RowKit
variable {r : Request}
end Go.Proofs.YtioijfplbgpjpaaGreat

namespace Go.Proofs.YtioijfplbgpjpaaGreat
set_option linter.unusedVariables false
set_option linter.unusedSimpArgs false
set_option maxRecDepth 100000
open Go.RowKit
end Go.Proofs.YtioijfplbgpjpaaGreat

namespace Go.Proofs.YtioijfplbgpjpaaGreat
set_option linter.unusedVariables false
set_option linter.unusedSimpArgs false
set_option maxRecDepth 100000
open Go.RowKit
section
variable {P : Program}
end

end Go.Proofs.YtioijfplbgpjpaaGreat

namespace Go.Proofs.YtioijfplbgpjpaaGreat
set_option linter.unusedVariables false
set_option linter.unusedSimpArgs false
set_option maxRecDepth 100000
open Go.RowKit
section
variable {P : Program}
end
section
variable {w w' : World} {B0 base e K n : Nat} {v : Value} {xs : List Value}
end
section
variable {P : Program}
end
end Go.Proofs.YtioijfplbgpjpaaGreat

namespace Go.Proofs.YtioijfplbgpjpaaGreat
set_option linter.unusedVariables false
set_option linter.unusedSimpArgs false
set_option maxRecDepth 100000
open Go.RowKit
end Go.Proofs.YtioijfplbgpjpaaGreat

namespace Go.Proofs.YtioijfplbgpjpaaGreat
set_option linter.unusedVariables false
set_option linter.unusedSimpArgs false
set_option maxRecDepth 100000
open Go.RowKit
end Go.Proofs.YtioijfplbgpjpaaGreat

namespace Go.Proofs.YtioijfplbgpjpaaGreat
set_option linter.unusedVariables false
set_option linter.unusedSimpArgs false
set_option maxRecDepth 100000
open Go.RowKit
section
variable {α : Type} {f : α → List Value} {e K : Nat} {w w' : World} {bs B : Nat} {v : Value} {xs : List α} {fp fp' : List Nat}
end
section
variable {B : Nat} {W w w' : World} {g : Nat} {t : TypeId} {cs : Array Value}
end
end Go.Proofs.YtioijfplbgpjpaaGreat

namespace Go.Proofs.YtioijfplbgpjpaaGreat
set_option linter.unusedVariables false
set_option linter.unusedSimpArgs false
set_option maxRecDepth 100000
open Go.RowKit
/-- n marks, K numbers each, from k on -/
def mkS {α : Type} (K : Nat) (g : Int → α) : Int → Nat → List α
  | _, 0 => []
  | k, n + 1 => g k :: mkS K g (k + K) n
theorem mkS_length {α : Type} (K : Nat) (g : Int → α) : ∀ (n : Nat) (k : Int), (mkS K g k n).length = n
  | 0, _ => rfl
  | n + 1, k => by simp [mkS, mkS_length K g n]
theorem mkS_get {α : Type} (K : Nat) (g : Int → α) : ∀ (n j : Nat) (k : Int), j < n → (mkS K g k n)[j]? = some (g (k + ((j * K : Nat) : Int)))
  | 0, _, _, h => by omega
  | n + 1, 0, k, _ => by simp [mkS]
  | n + 1, j + 1, k, h => by
    rw [mkS, List.getElem?_cons_succ, mkS_get K g n j _ (by omega), Nat.add_mul, Nat.one_mul]
    congr 2
    omega
theorem mkS_snoc {α : Type} (K : Nat) (g : Int → α) : ∀ (n : Nat) (k : Int), mkS K g k (n + 1) = mkS K g k n ++ [g (k + ((n * K : Nat) : Int))]
  | 0, k => by simp [mkS]
  | n + 1, k => by
    rw [mkS, mkS_snoc K g n (k + K), mkS, List.cons_append, Nat.add_mul, Nat.one_mul]
    congr 4
    omega
theorem mix_store {α : Type} {f : α → List Value} {K : Nat} (hK : ∀ x, (f x).length = K) {pre xs : List α} {j : Nat} (hp : pre.length = j) (hj : j < xs.length) (y : α) :
    setL ((pre ++ xs.drop j).flatMap f) (j * K) (f y) = ((pre ++ [y]) ++ xs.drop (j + 1)).flatMap f := by
  have hd : xs.drop j = xs[j] :: xs.drop (j + 1) := List.drop_eq_getElem_cons hj
  have hl : (pre.flatMap f).length = j * K := by
    rw [← hp]
    induction pre with
    | nil => simp
    | cons x l ih => rw [List.flatMap_cons, List.length_append, hK, List.length_cons, Nat.add_mul, Nat.one_mul, Nat.add_comm]; congr 1; clear ih hp; induction l with
      | nil => simp
      | cons x l ih => rw [List.flatMap_cons, List.length_append, hK, ih, List.length_cons, Nat.add_mul, Nat.one_mul, Nat.add_comm]
  have happ : ∀ (us l1 l2 : List Value), setL (l1 ++ l2) l1.length us = l1 ++ setL l2 0 us := by
    have gen : ∀ (us l1 l2 : List Value) (j : Nat), setL (l1 ++ l2) (l1.length + j) us = l1 ++ setL l2 j us := by
      intro us
      induction us with
      | nil => intro _ _ _; rfl
      | cons u us ih => intro l1 l2 j; unfold setL; rw [List.set_append_right _ _ (Nat.le_add_right _ _), Nat.add_sub_cancel_left, Nat.add_assoc]; exact ih l1 _ (j + 1)
    intro us l1 l2
    exact gen us l1 l2 0
  have hrow : ∀ (us l t : List Value), l.length = us.length → setL (l ++ t) 0 us = us ++ t := by
    have gen : ∀ (us d l t : List Value), l.length = us.length → setL (d ++ (l ++ t)) d.length us = d ++ (us ++ t) := by
      intro us
      induction us with
      | nil => intro d l t h; cases l <;> simp_all [setL]
      | cons u us ih =>
        intro d l t h
        cases l with
        | nil => simp at h
        | cons x l =>
          unfold setL
          rw [List.set_append_right _ _ (Nat.le_refl _), Nat.sub_self, List.cons_append, List.set_cons_zero]
          have := ih (d ++ [u]) l t (by simpa using h)
          simpa using this
    intro us l t h
    exact gen us [] l t h
  rw [hd, List.flatMap_append, List.flatMap_cons, ← hl, happ, hrow _ _ _ (by rw [hK, hK])]
  simp

abbrev mkInt (m : Int) : Int := m
set_option maxHeartbeats 400000 in
theorem markIntS_any (v : Value) (xs : List Int) (k : Int) (base : Nat) (w : World) (h : w.ownsRow base 3 1 v xs.length (xs.flatMap cI)) (hb : xs.length ≤ 16777216) (h0 : 0 ≤ k) (h1 : k ≤ 4294967296) :
    Calls Tryz.prog 34 #[v, .int .i64 k] w fun e w' => e = .returned (.int .i64 (k + ((xs.length * 1 : Nat) : Int))) ∧ w'.ownsRow base 3 1 v xs.length ((mkS 1 mkInt k xs.length).flatMap cI) ∧ Tch v.ownBlock.toList w w' := by
  obtain ⟨A, c, rfl⟩ := own_form h
  have H := Lib.hid h
  clear h
  obtain ⟨V, hV⟩ : ∃ V, V = Value.slice A xs.length c := ⟨_, rfl⟩
  go_enter Tryz.func34, Tryz.ntmps34
  go_wp2
  go_loopw [1, 5] (fun kk i wr => ∃ j : Nat, ∃ m : Int, j ≤ xs.length ∧ 0 ≤ m ∧ m ≤ 9223372036854775000 ∧ kk = .int .i64 m ∧ i = .int .i64 j ∧ m = k + ((j * 1 : Nat) : Int) ∧ wr.ownsRow base 3 1 (.slice A xs.length c) xs.length ((mkS 1 mkInt k j ++ xs.drop j).flatMap cI) ∧ Tch (Value.slice A xs.length c).ownBlock.toList w wr) (fun _ i _ => xs.length - (intOf i).toNat)
  case atStart => exact ⟨0, k, Nat.zero_le _, h0, by omega, rfl, rfl, by simp, by simpa [mkS] using H.out, Tch.refl _ _⟩
  case round =>
    obtain ⟨j, m, hj, hm0, hm1, rfl, rfl, hm, hown, ht⟩ := hrel
    have HM := Lib.hid hm
    by_cases hlt : j < xs.length
    · have hm2 : m ≤ 9223372036854774000 := by omega
      clear hm
      obtain ⟨g, rfl⟩ : ∃ g, A = some ⟨g, 0, none⟩ := by
        rcases hown.2 with ⟨hv, _⟩ | ⟨g, cap, cur, hv, _⟩
        · have hv' := congrArg (fun v => match v with | .slice _ m _ => m | _ => 0) hv; simp at hv'; omega
        · cases hv; exact ⟨g, rfl⟩
      have hf := hown.frozenAt
      obtain ⟨o0, ho0⟩ := own_room0 hown j hlt (by omega)
      simp only [Nat.mul_one] at ho0
      have hst := storedL [.int .i64 (m)] _ wr (j * 1) hown
      have hmk : mkS 1 mkInt k (j + 1) = mkS 1 mkInt k j ++ [mkInt m] := by rw [mkS_snoc, HM.out]
      have hst2 := mix_store (f := cI) (K := 1) (fun _ => rfl) (mkS_length 1 mkInt j k) hlt (mkInt m)
      rw [show cI (mkInt m) = [.int .i64 (m)] from rfl, ← hmk] at hst2
      rw [hst2] at hst
      clear hmk hst2
      have htc := Tch.setW (show g ∈ (Value.slice (some ⟨g, 0, none⟩) xs.length c).ownBlock.toList by simp [Value.ownBlock]) [.int .i64 (m)] wr (j * 1) ht
      simp only [Nat.mul_one, setW] at hst htc
      have HST := Lib.hid hst
      have HTC := Lib.hid htc
      clear hst htc hown ht
      go_wp2
      go_roundw
      case rel => exact ⟨j + 1, m + 1, hlt, by omega, by omega, rfl, by go_num, by have := HM.out; omega, HST.out, HTC.out⟩
      case measure => simp [intOf]; omega
    · obtain rfl : j = xs.length := by omega
      rw [List.drop_length, List.append_nil] at hown
      clear hm
      go_wp2
      go_ret
      exact ⟨ret_int HM.out, hown, ht⟩
set_option maxHeartbeats 400000 in
theorem heldIntS_any (v : Value) (n : Nat) (k : Int) (w : World) (h : RL 16777216 1 (flat cI) w w.heap.size v (mkS 1 mkInt k n)) (h0 : 0 ≤ k) (h1 : k ≤ 4294967296) :
    Calls Tryz.prog 35 #[v, .int .i64 k] w fun e w' => e = .returned (.int .i64 (k + ((n * 1 : Nat) : Int))) ∧ w = w' := by
  have h' := h
  obtain ⟨A, c, rfl, hbd, _⟩ := h
  rw [mkS_length] at hbd
  have H := Lib.hid h'
  clear h'
  have hl : (mkS 1 mkInt k n).length = n := mkS_length _ _ _ _
  rw [hl] at H ⊢
  have HL := Lib.hid hl
  clear hl
  go_enter Tryz.func35, Tryz.ntmps35
  go_wp2
  go_loop [1, 5] (fun kk i => ∃ j : Nat, ∃ m : Int, j ≤ n ∧ 0 ≤ m ∧ m ≤ 9223372036854775000 ∧ kk = .int .i64 m ∧ i = .int .i64 j ∧ m = k + ((j * 1 : Nat) : Int)) (fun _ i => n - (intOf i).toNat)
  case atStart => exact ⟨0, k, Nat.zero_le _, h0, by omega, rfl, rfl, by simp⟩
  case round =>
    obtain ⟨j, m, hj, hm0, hm1, rfl, rfl, hm⟩ := hrel
    have HM := Lib.hid hm
    by_cases hlt : j < n
    · have hm2 : m ≤ 9223372036854774000 := by omega
      obtain ⟨b, off, x, _, rfl, hb, hx, _, hfx, hc⟩ := H.out.at_ j (by rw [HL.out]; exact hlt)
      rw [mkS_get _ _ _ _ _ hlt, ← hm] at hx
      cases hx
      cases hfx
      have hc0 := hc 0 _ rfl
      simp only [Nat.add_zero, Nat.mul_one] at hc0
      clear hc hm
      go_wp2
      go_round
      case rel => exact ⟨j + 1, m + 1, hlt, by omega, by omega, rfl, by go_num, by have := HM.out; omega⟩
      case measure => simp [intOf]; omega
    · obtain rfl : j = n := by omega
      clear hm
      go_wp2
      go_ret
      exact ⟨ret_int (by have := HM.out; simpa using this), rfl⟩
abbrev mkSpot (m : Int) : Spot := ⟨m, m + 1, m + 1 + 1, m + 1 + 1 + 1⟩
set_option maxHeartbeats 400000 in
theorem markSpotS_any (v : Value) (xs : List Spot) (k : Int) (base : Nat) (w : World) (h : w.ownsRow base 72 4 v xs.length (xs.flatMap Spot.cells)) (hb : xs.length ≤ 16777216) (h0 : 0 ≤ k) (h1 : k ≤ 4294967296) :
    Calls Tryz.prog 112 #[v, .int .i64 k] w fun e w' => e = .returned (.int .i64 (k + ((xs.length * 4 : Nat) : Int))) ∧ w'.ownsRow base 72 4 v xs.length ((mkS 4 mkSpot k xs.length).flatMap Spot.cells) ∧ Tch v.ownBlock.toList w w' := by
  obtain ⟨A, c, rfl⟩ := own_form h
  have H := Lib.hid h
  clear h
  obtain ⟨V, hV⟩ : ∃ V, V = Value.slice A xs.length c := ⟨_, rfl⟩
  go_enter Tryz.func112, Tryz.ntmps112
  go_wp2
  go_loopw [1, 5] (fun kk i wr => ∃ j : Nat, ∃ m : Int, j ≤ xs.length ∧ 0 ≤ m ∧ m ≤ 9223372036854775000 ∧ kk = .int .i64 m ∧ i = .int .i64 j ∧ m = k + ((j * 4 : Nat) : Int) ∧ wr.ownsRow base 72 4 (.slice A xs.length c) xs.length ((mkS 4 mkSpot k j ++ xs.drop j).flatMap Spot.cells) ∧ Tch (Value.slice A xs.length c).ownBlock.toList w wr) (fun _ i _ => xs.length - (intOf i).toNat)
  case atStart => exact ⟨0, k, Nat.zero_le _, h0, by omega, rfl, rfl, by simp, by simpa [mkS] using H.out, Tch.refl _ _⟩
  case round =>
    obtain ⟨j, m, hj, hm0, hm1, rfl, rfl, hm, hown, ht⟩ := hrel
    have HM := Lib.hid hm
    by_cases hlt : j < xs.length
    · have hm2 : m ≤ 9223372036854774000 := by omega
      clear hm
      obtain ⟨g, rfl⟩ : ∃ g, A = some ⟨g, 0, none⟩ := by
        rcases hown.2 with ⟨hv, _⟩ | ⟨g, cap, cur, hv, _⟩
        · have hv' := congrArg (fun v => match v with | .slice _ m _ => m | _ => 0) hv; simp at hv'; omega
        · cases hv; exact ⟨g, rfl⟩
      have hf := hown.frozenAt
      obtain ⟨o0, ho0⟩ := own_room0 hown j hlt (by omega)
      obtain ⟨o1, ho1⟩ := own_room hown j 1 hlt (by omega)
      obtain ⟨o2, ho2⟩ := own_room hown j 2 hlt (by omega)
      obtain ⟨o3, ho3⟩ := own_room hown j 3 hlt (by omega)
      have hst := storedL [.int .i64 (m), .int .i64 (m + 1), .int .i64 (m + 1 + 1), .int .i64 (m + 1 + 1 + 1)] _ wr (j * 4) hown
      have hmk : mkS 4 mkSpot k (j + 1) = mkS 4 mkSpot k j ++ [mkSpot m] := by rw [mkS_snoc, HM.out]
      have hst2 := mix_store (f := Spot.cells) (K := 4) (fun _ => rfl) (mkS_length 4 mkSpot j k) hlt (mkSpot m)
      rw [show Spot.cells (mkSpot m) = [.int .i64 (m), .int .i64 (m + 1), .int .i64 (m + 1 + 1), .int .i64 (m + 1 + 1 + 1)] from rfl, ← hmk] at hst2
      rw [hst2] at hst
      clear hmk hst2
      have htc := Tch.setW (show g ∈ (Value.slice (some ⟨g, 0, none⟩) xs.length c).ownBlock.toList by simp [Value.ownBlock]) [.int .i64 (m), .int .i64 (m + 1), .int .i64 (m + 1 + 1), .int .i64 (m + 1 + 1 + 1)] wr (j * 4) ht
      have HST := Lib.hid hst
      have HTC := Lib.hid htc
      clear hst htc hown ht
      go_wp2
      go_roundw
      case rel => exact ⟨j + 1, m + 1 + 1 + 1 + 1, hlt, by omega, by omega, rfl, by go_num, by have := HM.out; omega, HST.out, HTC.out⟩
      case measure => simp [intOf]; omega
    · obtain rfl : j = xs.length := by omega
      rw [List.drop_length, List.append_nil] at hown
      clear hm
      go_wp2
      go_ret
      exact ⟨ret_int HM.out, hown, ht⟩
abbrev mkPair (m : Int) : Pair := ⟨m, m + 1⟩
set_option maxHeartbeats 400000 in
theorem markPairS_any (v : Value) (xs : List Pair) (k : Int) (base : Nat) (w : World) (h : w.ownsRow base 165 2 v xs.length (xs.flatMap Pair.cells)) (hb : xs.length ≤ 16777216) (h0 : 0 ≤ k) (h1 : k ≤ 4294967296) :
    Calls Tryz.prog 108 #[v, .int .i64 k] w fun e w' => e = .returned (.int .i64 (k + ((xs.length * 2 : Nat) : Int))) ∧ w'.ownsRow base 165 2 v xs.length ((mkS 2 mkPair k xs.length).flatMap Pair.cells) ∧ Tch v.ownBlock.toList w w' := by
  obtain ⟨A, c, rfl⟩ := own_form h
  have H := Lib.hid h
  clear h
  obtain ⟨V, hV⟩ : ∃ V, V = Value.slice A xs.length c := ⟨_, rfl⟩
  go_enter Tryz.func108, Tryz.ntmps108
  go_wp2
  go_loopw [1, 5] (fun kk i wr => ∃ j : Nat, ∃ m : Int, j ≤ xs.length ∧ 0 ≤ m ∧ m ≤ 9223372036854775000 ∧ kk = .int .i64 m ∧ i = .int .i64 j ∧ m = k + ((j * 2 : Nat) : Int) ∧ wr.ownsRow base 165 2 (.slice A xs.length c) xs.length ((mkS 2 mkPair k j ++ xs.drop j).flatMap Pair.cells) ∧ Tch (Value.slice A xs.length c).ownBlock.toList w wr) (fun _ i _ => xs.length - (intOf i).toNat)
  case atStart => exact ⟨0, k, Nat.zero_le _, h0, by omega, rfl, rfl, by simp, by simpa [mkS] using H.out, Tch.refl _ _⟩
  case round =>
    obtain ⟨j, m, hj, hm0, hm1, rfl, rfl, hm, hown, ht⟩ := hrel
    have HM := Lib.hid hm
    by_cases hlt : j < xs.length
    · have hm2 : m ≤ 9223372036854774000 := by omega
      clear hm
      obtain ⟨g, rfl⟩ : ∃ g, A = some ⟨g, 0, none⟩ := by
        rcases hown.2 with ⟨hv, _⟩ | ⟨g, cap, cur, hv, _⟩
        · have hv' := congrArg (fun v => match v with | .slice _ m _ => m | _ => 0) hv; simp at hv'; omega
        · cases hv; exact ⟨g, rfl⟩
      have hf := hown.frozenAt
      obtain ⟨o0, ho0⟩ := own_room0 hown j hlt (by omega)
      obtain ⟨o1, ho1⟩ := own_room hown j 1 hlt (by omega)
      have hst := storedL [.int .i64 (m), .int .i64 (m + 1)] _ wr (j * 2) hown
      have hmk : mkS 2 mkPair k (j + 1) = mkS 2 mkPair k j ++ [mkPair m] := by rw [mkS_snoc, HM.out]
      have hst2 := mix_store (f := Pair.cells) (K := 2) (fun _ => rfl) (mkS_length 2 mkPair j k) hlt (mkPair m)
      rw [show Pair.cells (mkPair m) = [.int .i64 (m), .int .i64 (m + 1)] from rfl, ← hmk] at hst2
      rw [hst2] at hst
      clear hmk hst2
      have htc := Tch.setW (show g ∈ (Value.slice (some ⟨g, 0, none⟩) xs.length c).ownBlock.toList by simp [Value.ownBlock]) [.int .i64 (m), .int .i64 (m + 1)] wr (j * 2) ht
      have HST := Lib.hid hst
      have HTC := Lib.hid htc
      clear hst htc hown ht
      go_wp2
      go_roundw
      case rel => exact ⟨j + 1, m + 1 + 1, hlt, by omega, by omega, rfl, by go_num, by have := HM.out; omega, HST.out, HTC.out⟩
      case measure => simp [intOf]; omega
    · obtain rfl : j = xs.length := by omega
      rw [List.drop_length, List.append_nil] at hown
      clear hm
      go_wp2
      go_ret
      exact ⟨ret_int HM.out, hown, ht⟩
abbrev mkType (m : Int) : GType := ⟨m, m + 1, m + 1 + 1, m + 1 + 1 + 1, m + 1 + 1 + 1 + 1, m + 1 + 1 + 1 + 1 + 1, m + 1 + 1 + 1 + 1 + 1 + 1⟩
set_option maxHeartbeats 400000 in
theorem markTypeS_any (v : Value) (xs : List GType) (k : Int) (base : Nat) (w : World) (h : w.ownsRow base 142 7 v xs.length (xs.flatMap GType.cells)) (hb : xs.length ≤ 16777216) (h0 : 0 ≤ k) (h1 : k ≤ 4294967296) :
    Calls Tryz.prog 109 #[v, .int .i64 k] w fun e w' => e = .returned (.int .i64 (k + ((xs.length * 7 : Nat) : Int))) ∧ w'.ownsRow base 142 7 v xs.length ((mkS 7 mkType k xs.length).flatMap GType.cells) ∧ Tch v.ownBlock.toList w w' := by
  obtain ⟨A, c, rfl⟩ := own_form h
  have H := Lib.hid h
  clear h
  obtain ⟨V, hV⟩ : ∃ V, V = Value.slice A xs.length c := ⟨_, rfl⟩
  go_enter Tryz.func109, Tryz.ntmps109
  go_wp2
  go_loopw [1, 5] (fun kk i wr => ∃ j : Nat, ∃ m : Int, j ≤ xs.length ∧ 0 ≤ m ∧ m ≤ 9223372036854775000 ∧ kk = .int .i64 m ∧ i = .int .i64 j ∧ m = k + ((j * 7 : Nat) : Int) ∧ wr.ownsRow base 142 7 (.slice A xs.length c) xs.length ((mkS 7 mkType k j ++ xs.drop j).flatMap GType.cells) ∧ Tch (Value.slice A xs.length c).ownBlock.toList w wr) (fun _ i _ => xs.length - (intOf i).toNat)
  case atStart => exact ⟨0, k, Nat.zero_le _, h0, by omega, rfl, rfl, by simp, by simpa [mkS] using H.out, Tch.refl _ _⟩
  case round =>
    obtain ⟨j, m, hj, hm0, hm1, rfl, rfl, hm, hown, ht⟩ := hrel
    have HM := Lib.hid hm
    by_cases hlt : j < xs.length
    · have hm2 : m ≤ 9223372036854774000 := by omega
      clear hm
      obtain ⟨g, rfl⟩ : ∃ g, A = some ⟨g, 0, none⟩ := by
        rcases hown.2 with ⟨hv, _⟩ | ⟨g, cap, cur, hv, _⟩
        · have hv' := congrArg (fun v => match v with | .slice _ m _ => m | _ => 0) hv; simp at hv'; omega
        · cases hv; exact ⟨g, rfl⟩
      have hf := hown.frozenAt
      obtain ⟨o0, ho0⟩ := own_room0 hown j hlt (by omega)
      obtain ⟨o1, ho1⟩ := own_room hown j 1 hlt (by omega)
      obtain ⟨o2, ho2⟩ := own_room hown j 2 hlt (by omega)
      obtain ⟨o3, ho3⟩ := own_room hown j 3 hlt (by omega)
      obtain ⟨o4, ho4⟩ := own_room hown j 4 hlt (by omega)
      obtain ⟨o5, ho5⟩ := own_room hown j 5 hlt (by omega)
      obtain ⟨o6, ho6⟩ := own_room hown j 6 hlt (by omega)
      have hst := storedL [.int .i64 (m), .int .i64 (m + 1), .int .i64 (m + 1 + 1), .int .i64 (m + 1 + 1 + 1), .int .i64 (m + 1 + 1 + 1 + 1), .int .i64 (m + 1 + 1 + 1 + 1 + 1), .int .i64 (m + 1 + 1 + 1 + 1 + 1 + 1)] _ wr (j * 7) hown
      have hmk : mkS 7 mkType k (j + 1) = mkS 7 mkType k j ++ [mkType m] := by rw [mkS_snoc, HM.out]
      have hst2 := mix_store (f := GType.cells) (K := 7) (fun _ => rfl) (mkS_length 7 mkType j k) hlt (mkType m)
      rw [show GType.cells (mkType m) = [.int .i64 (m), .int .i64 (m + 1), .int .i64 (m + 1 + 1), .int .i64 (m + 1 + 1 + 1), .int .i64 (m + 1 + 1 + 1 + 1), .int .i64 (m + 1 + 1 + 1 + 1 + 1), .int .i64 (m + 1 + 1 + 1 + 1 + 1 + 1)] from rfl, ← hmk] at hst2
      rw [hst2] at hst
      clear hmk hst2
      have htc := Tch.setW (show g ∈ (Value.slice (some ⟨g, 0, none⟩) xs.length c).ownBlock.toList by simp [Value.ownBlock]) [.int .i64 (m), .int .i64 (m + 1), .int .i64 (m + 1 + 1), .int .i64 (m + 1 + 1 + 1), .int .i64 (m + 1 + 1 + 1 + 1), .int .i64 (m + 1 + 1 + 1 + 1 + 1), .int .i64 (m + 1 + 1 + 1 + 1 + 1 + 1)] wr (j * 7) ht
      have HST := Lib.hid hst
      have HTC := Lib.hid htc
      clear hst htc hown ht
      go_wp2
      go_roundw
      case rel => exact ⟨j + 1, m + 1 + 1 + 1 + 1 + 1 + 1 + 1, hlt, by omega, by omega, rfl, by go_num, by have := HM.out; omega, HST.out, HTC.out⟩
      case measure => simp [intOf]; omega
    · obtain rfl : j = xs.length := by omega
      rw [List.drop_length, List.append_nil] at hown
      clear hm
      go_wp2
      go_ret
      exact ⟨ret_int HM.out, hown, ht⟩
abbrev mkItem (m : Int) : Item := ⟨m, m + 1, m + 1 + 1, m + 1 + 1 + 1, m + 1 + 1 + 1 + 1, m + 1 + 1 + 1 + 1 + 1, m + 1 + 1 + 1 + 1 + 1 + 1⟩
set_option maxHeartbeats 400000 in
theorem markItemS_any (v : Value) (xs : List Item) (k : Int) (base : Nat) (w : World) (h : w.ownsRow base 152 7 v xs.length (xs.flatMap Item.cells)) (hb : xs.length ≤ 16777216) (h0 : 0 ≤ k) (h1 : k ≤ 4294967296) :
    Calls Tryz.prog 110 #[v, .int .i64 k] w fun e w' => e = .returned (.int .i64 (k + ((xs.length * 7 : Nat) : Int))) ∧ w'.ownsRow base 152 7 v xs.length ((mkS 7 mkItem k xs.length).flatMap Item.cells) ∧ Tch v.ownBlock.toList w w' := by
  obtain ⟨A, c, rfl⟩ := own_form h
  have H := Lib.hid h
  clear h
  obtain ⟨V, hV⟩ : ∃ V, V = Value.slice A xs.length c := ⟨_, rfl⟩
  go_enter Tryz.func110, Tryz.ntmps110
  go_wp2
  go_loopw [1, 5] (fun kk i wr => ∃ j : Nat, ∃ m : Int, j ≤ xs.length ∧ 0 ≤ m ∧ m ≤ 9223372036854775000 ∧ kk = .int .i64 m ∧ i = .int .i64 j ∧ m = k + ((j * 7 : Nat) : Int) ∧ wr.ownsRow base 152 7 (.slice A xs.length c) xs.length ((mkS 7 mkItem k j ++ xs.drop j).flatMap Item.cells) ∧ Tch (Value.slice A xs.length c).ownBlock.toList w wr) (fun _ i _ => xs.length - (intOf i).toNat)
  case atStart => exact ⟨0, k, Nat.zero_le _, h0, by omega, rfl, rfl, by simp, by simpa [mkS] using H.out, Tch.refl _ _⟩
  case round =>
    obtain ⟨j, m, hj, hm0, hm1, rfl, rfl, hm, hown, ht⟩ := hrel
    have HM := Lib.hid hm
    by_cases hlt : j < xs.length
    · have hm2 : m ≤ 9223372036854774000 := by omega
      clear hm
      obtain ⟨g, rfl⟩ : ∃ g, A = some ⟨g, 0, none⟩ := by
        rcases hown.2 with ⟨hv, _⟩ | ⟨g, cap, cur, hv, _⟩
        · have hv' := congrArg (fun v => match v with | .slice _ m _ => m | _ => 0) hv; simp at hv'; omega
        · cases hv; exact ⟨g, rfl⟩
      have hf := hown.frozenAt
      obtain ⟨o0, ho0⟩ := own_room0 hown j hlt (by omega)
      obtain ⟨o1, ho1⟩ := own_room hown j 1 hlt (by omega)
      obtain ⟨o2, ho2⟩ := own_room hown j 2 hlt (by omega)
      obtain ⟨o3, ho3⟩ := own_room hown j 3 hlt (by omega)
      obtain ⟨o4, ho4⟩ := own_room hown j 4 hlt (by omega)
      obtain ⟨o5, ho5⟩ := own_room hown j 5 hlt (by omega)
      obtain ⟨o6, ho6⟩ := own_room hown j 6 hlt (by omega)
      have hst := storedL [.int .i64 (m), .int .i64 (m + 1), .int .i64 (m + 1 + 1), .int .i64 (m + 1 + 1 + 1), .int .i64 (m + 1 + 1 + 1 + 1), .int .i64 (m + 1 + 1 + 1 + 1 + 1), .int .i64 (m + 1 + 1 + 1 + 1 + 1 + 1)] _ wr (j * 7) hown
      have hmk : mkS 7 mkItem k (j + 1) = mkS 7 mkItem k j ++ [mkItem m] := by rw [mkS_snoc, HM.out]
      have hst2 := mix_store (f := Item.cells) (K := 7) (fun _ => rfl) (mkS_length 7 mkItem j k) hlt (mkItem m)
      rw [show Item.cells (mkItem m) = [.int .i64 (m), .int .i64 (m + 1), .int .i64 (m + 1 + 1), .int .i64 (m + 1 + 1 + 1), .int .i64 (m + 1 + 1 + 1 + 1), .int .i64 (m + 1 + 1 + 1 + 1 + 1), .int .i64 (m + 1 + 1 + 1 + 1 + 1 + 1)] from rfl, ← hmk] at hst2
      rw [hst2] at hst
      clear hmk hst2
      have htc := Tch.setW (show g ∈ (Value.slice (some ⟨g, 0, none⟩) xs.length c).ownBlock.toList by simp [Value.ownBlock]) [.int .i64 (m), .int .i64 (m + 1), .int .i64 (m + 1 + 1), .int .i64 (m + 1 + 1 + 1), .int .i64 (m + 1 + 1 + 1 + 1), .int .i64 (m + 1 + 1 + 1 + 1 + 1), .int .i64 (m + 1 + 1 + 1 + 1 + 1 + 1)] wr (j * 7) ht
      have HST := Lib.hid hst
      have HTC := Lib.hid htc
      clear hst htc hown ht
      go_wp2
      go_roundw
      case rel => exact ⟨j + 1, m + 1 + 1 + 1 + 1 + 1 + 1 + 1, hlt, by omega, by omega, rfl, by go_num, by have := HM.out; omega, HST.out, HTC.out⟩
      case measure => simp [intOf]; omega
    · obtain rfl : j = xs.length := by omega
      rw [List.drop_length, List.append_nil] at hown
      clear hm
      go_wp2
      go_ret
      exact ⟨ret_int HM.out, hown, ht⟩
end Go.Proofs.YtioijfplbgpjpaaGreat

namespace Go.Proofs.YtioijfplbgpjpaaGreat
set_option linter.unusedVariables false
set_option linter.unusedSimpArgs false
set_option maxRecDepth 100000
open Go.RowKit Go.WideShapes Go.ChangeShapes Go.ChangeAt Go.Deep
open Go.ChangeMaps (open_string shut_string)

section
variable {H : Type} {enc : TypeId × Value → H} {P : Program}
end


section
variable {H : Type} {enc : TypeId × Value → H} {P : Program} {w : World} {held : Bool}
end
end Go.Proofs.YtioijfplbgpjpaaGreat

namespace Go.Proofs.YtioijfplbgpjpaaGreat
set_option linter.unusedVariables false
set_option linter.unusedSimpArgs false
set_option maxRecDepth 100000
open Go.RowKit Go.WideShapes Go.ChangeShapes Go.ChangeAt Go.Deep
set_option maxRecDepth 100000

end Go.Proofs.YtioijfplbgpjpaaGreat

namespace Go.Proofs.YtioijfplbgpjpaaGreat
set_option linter.unusedVariables false
set_option linter.unusedSimpArgs false
set_option maxRecDepth 100000
open Go.RowKit
end Go.Proofs.YtioijfplbgpjpaaGreat

namespace Go.Proofs.YtioijfplbgpjpaaGreat
set_option linter.unusedVariables false
set_option linter.unusedSimpArgs false
set_option maxRecDepth 100000
open Go.RowKit
end Go.Proofs.YtioijfplbgpjpaaGreat

namespace Go.Proofs.YtioijfplbgpjpaaGreat
set_option linter.unusedVariables false
set_option linter.unusedSimpArgs false
set_option maxRecDepth 100000
open Go.RowKit Go.WideShapes Go.ChangeShapes Go.ChangeAt Go.Deep
def mkR (k : Int) (r : Request) : Request := { r with pairs := mkS 2 mkPair k r.pairs.length, types := mkS 7 mkType (k + ((r.pairs.length * 2 : Nat) : Int)) r.types.length, items := mkS 7 mkItem (k + ((r.pairs.length * 2 : Nat) : Int) + ((r.types.length * 7 : Nat) : Int)) r.items.length }
set_option maxRecDepth 100000 in
set_option maxHeartbeats 1000000 in
theorem markRequest_any (v : Value) (r : Request) (fp : List Nat) (k : Int) (base : Nat) (w : World) (h : OReq w base v r fp) (hb : r.bulk ≤ 2097152) (h0 : 0 ≤ k) (h1 : k ≤ 1073741824) :
    Calls Tryz.prog 32 #[v, .int .i64 k] w fun e w' => e = .returned (.int .i64 (k + (cntR r : Nat))) ∧ OReq w' base v (mkR k r) fp ∧ Tch fp w w' := by
  have hlt := h.lt
  obtain ⟨vp, vt, vi, f1, f2, f3, rfl, o1, o2, o3, rfl, hn⟩ := h
  obtain ⟨A1, c1, rfl, _⟩ := o1.form
  obtain ⟨A2, c2, rfl, _⟩ := o2.form
  obtain ⟨A3, c3, rfl, _⟩ := o3.form
  have hbl : r.pairs.length ≤ 2097152 ∧ r.types.length ≤ 2097152 ∧ r.items.length ≤ 2097152 := by unfold Request.bulk at hb; omega
  obtain ⟨hb1, hb2, hb3⟩ := hbl
  have hW : Below w.heap.size w (w.alloc (.cells #[.int .i64 r.way, .int .i64 r.pallet.w, .int .i64 r.pallet.d, .int .i64 r.pallet.h, .int .i64 r.pallet.gram, .int .i64 r.classes, .slice A1 r.pairs.length c1, .slice A2 r.types.length c2, .int .i64 r.master, .slice A3 r.items.length c3] 41)) := (by repeat' (first | with_reducible exact Below.refl _ _ | with_reducible assumption | with_reducible refine Below.drew ?_ | with_reducible refine Below.alloc ?_ ?_ _ | with_reducible refine Below.setCell ?_ ?_ _ | with_reducible refine below_drewN ?_ _ | (simp; done) | (simp; omega)))
  have hn2 := hn
  rw [List.nodup_append, List.nodup_append] at hn2
  obtain ⟨_, ⟨_, _, d23⟩, d1⟩ := hn2
  have HD1 := Lib.hid (fun b (h1 : b ∈ f1) (h2 : b ∈ f2 ++ f3) => d1 b h1 b h2 rfl)
  have HD2 := Lib.hid (fun b (h1 : b ∈ f2) (h2 : b ∈ f3) => d23 b h1 b h2 rfl)
  have HN := Lib.hid hn
  have L1 := Lib.hid o1.lt
  have L2 := Lib.hid o2.lt
  have L3 := Lib.hid o3.lt
  have P1 := Lib.hid (o1.next hW)
  have P2 := Lib.hid (o2.next hW)
  have P3 := Lib.hid (o3.next hW)
  have HX := Lib.hid (heap_alloc_new w (.cells #[.int .i64 r.way, .int .i64 r.pallet.w, .int .i64 r.pallet.d, .int .i64 r.pallet.h, .int .i64 r.pallet.gram, .int .i64 r.classes, .slice A1 r.pairs.length c1, .slice A2 r.types.length c2, .int .i64 r.master, .slice A3 r.items.length c3] 41))
  have HT0 := Lib.hid (Tch.of hW (f1 ++ (f2 ++ f3)))
  clear hn d23 d1 o1 o2 o3 hW hlt
  go_enter Tryz.func32, Tryz.ntmps32
  go_wp2_with fail
  refine (markPairS_any _ r.pairs k base _ P1.out.1 (by omega) h0 (by omega)).mono ?_
  rintro e w2 ⟨rfl, q1, t1⟩
  rw [← P1.out.2] at t1
  have Q1 := Lib.hid (show OF Pair.cells 165 2 w2 base _ (mkS 2 mkPair k r.pairs.length) f1 from ⟨by rw [mkS_length]; exact q1, P1.out.2⟩)
  have P2 := Lib.hid (P2.out.tch t1 (fun b h2 h1 => HD1.out b h1 (by simp [h2])))
  have P3 := Lib.hid (P3.out.tch t1 (fun b h2 h1 => HD1.out b h1 (by simp [h2])))
  have HX := Lib.hid ((t1.block w.heap.size (by simp) (fun hm => by have := (L1.out _ hm).2; omega)).trans HX.out)
  have HT := Lib.hid (HT0.out.trans (t1.sub (fun k hk => by simp [hk])))
  have hx := fun j => cell_of_row _ _ j _ _ (0, 0) HX.out
  have hlt2 := lt_of_block HX.out
  clear q1 t1
  go_wp2_with fail
  refine (markTypeS_any _ r.types _ base _ P2.out.1 (by omega) (by omega) (by omega)).mono ?_
  rintro e w3 ⟨rfl, q2, t2⟩
  rw [← P2.out.2] at t2
  have Q2 := Lib.hid (show OF GType.cells 142 7 w3 base _ (mkS 7 mkType (k + ((r.pairs.length * 2 : Nat) : Int)) r.types.length) f2 from ⟨by rw [mkS_length]; exact q2, P2.out.2⟩)
  have Q1 := Lib.hid (Q1.out.tch t2 (fun b h1 h2 => HD1.out b h1 (by simp [h2])))
  have P3 := Lib.hid (P3.out.tch t2 (fun b h3 h2 => HD2.out b h2 h3))
  have HX := Lib.hid ((t2.block w.heap.size hlt2 (fun hm => by have := (L2.out _ hm).2; omega)).trans HX.out)
  have HT := Lib.hid (HT.out.trans (t2.sub (fun k hk => by simp [hk])))
  clear hx hlt2
  have hx := fun j => cell_of_row _ _ j _ _ (0, 0) HX.out
  have hlt2 := lt_of_block HX.out
  clear q2 t2
  go_wp2_with fail
  refine (markItemS_any _ r.items _ base _ P3.out.1 (by omega) (by omega) (by omega)).mono ?_
  rintro e w4 ⟨rfl, q3, t3⟩
  rw [← P3.out.2] at t3
  have Q3 := Lib.hid (show OF Item.cells 152 7 w4 base _ (mkS 7 mkItem (k + ((r.pairs.length * 2 : Nat) : Int) + ((r.types.length * 7 : Nat) : Int)) r.items.length) f3 from ⟨by rw [mkS_length]; exact q3, P3.out.2⟩)
  have Q1 := Lib.hid (Q1.out.tch t3 (fun b h1 h2 => HD1.out b h1 (by simp [h2])))
  have Q2 := Lib.hid (Q2.out.tch t3 (fun b h2 h3 => HD2.out b h2 h3))
  have HT := Lib.hid (HT.out.trans (t3.sub (fun k hk => by simp [hk])))
  clear hx hlt2 q3 t3
  go_wp2
  go_ret
  refine ⟨ret_int (by unfold cntR; omega), ⟨_, _, _, f1, f2, f3, ?_, Q1.out, Q2.out, Q3.out, rfl, HN.out⟩, HT.out⟩
  unfold mkR Request.row
  simp only [mkS_length]
section
variable {H : Type} {enc : TypeId × Value → H} {P : Program} {w : World} {held : Bool}
end
end Go.Proofs.YtioijfplbgpjpaaGreat

namespace Go.Proofs.YtioijfplbgpjpaaGreat
set_option linter.unusedVariables false
set_option linter.unusedSimpArgs false
set_option maxRecDepth 100000
open Go.RowKit
section
variable {w W W' : World} {l l1 l2 : List Fact} {q q' : Fact}
end
section
variable {w W W' : World} {l l1 l2 : List Fact} {g : Nat} {cs : Array Value} {t : TypeId} {v : Value} {r : Request} {fp : List Nat} {b : Nat}
theorem Sit.mark (h : Sit w W (l1 ++ fReq b v r fp :: l2)) (ht : Tch fp W W') {r' : Request} (ho : OReq W' b v r' fp) : Sit w W' (l1 ++ fReq b v r' fp :: l2) :=
  h.tch ht (fReq b v r' fp) rfl (fReq_ok _ _ _ _) ho
end
section
variable {w W W' : World} {l : List Fact} {q q2 : Fact} {g B : Nat} {t : TypeId} {v : Value} {r : Request} {fp : List Nat}
end
section
variable {w W W' : World} {l l1 l2 : List Fact} {g b j : Nat} {cs : Array Value} {t : TypeId} {u v v' : Value} {r r' : Request} {fp : List Nat}
end
end Go.Proofs.YtioijfplbgpjpaaGreat

namespace Go.Proofs.YtioijfplbgpjpaaGreat
set_option linter.unusedVariables false
set_option linter.unusedSimpArgs false
set_option maxRecDepth 100000
open Go.RowKit
section
variable {w W W' : World} {l l1 l2 : List Fact} {q q' : Fact}
end
section
variable {α : Type} {f : α → List Value} {e K base : Nat} {w W W' : World} {l : List Fact} {v v' : Value} {xs xs' : List α} {fp : List Nat}
end
section
variable {α : Type} {f : α → List Value} {e K base : Nat} {w W W' : World} {l : List Fact} {v : Value} {xs : List α} {fp : List Nat} {g n c k j : Nat} {x y : α} {us : List Value}
end
section
variable {α : Type} {F : α → α} {xs : List α} {k : Nat} {x : α}
end
end Go.Proofs.YtioijfplbgpjpaaGreat

namespace Go.Proofs.YtioijfplbgpjpaaGreat
set_option linter.unusedVariables false
set_option linter.unusedSimpArgs false
set_option maxRecDepth 100000
open Go.RowKit

end Go.Proofs.YtioijfplbgpjpaaGreat

namespace Go.Proofs.YtioijfplbgpjpaaGreat
set_option linter.unusedVariables false
set_option linter.unusedSimpArgs false
set_option maxRecDepth 100000
open Go.RowKit
end Go.Proofs.YtioijfplbgpjpaaGreat

namespace Go.Proofs.YtioijfplbgpjpaaGreat
set_option linter.unusedVariables false
set_option linter.unusedSimpArgs false
set_option maxRecDepth 100000
open Go.RowKit
section
variable {w W W' : World} {l l' : List Fact}
end
section
variable {α : Type} {f : α → List Value} {e K base : Nat} {w w' : World} {v : Value} {xs : List α} {fp : List Nat} {g n c k : Nat} {x : α}
end
section
variable {α : Type} {inn : α → List Int} {w W W' : World} {base B : Nat} {zs zs' : List (α × Value)} {fp fp' : List Nat} {l : List Fact} {k : Nat} {z : α × Value} {a : α} {v : Value} {ys : List Int}
end
end Go.Proofs.YtioijfplbgpjpaaGreat

namespace Go.Proofs.YtioijfplbgpjpaaGreat
set_option linter.unusedVariables false
set_option linter.unusedSimpArgs false
set_option maxRecDepth 100000
open Go.RowKit
section
variable {α : Type} {hd : α → Value → List Value} {inn : α → List Int}
end
end Go.Proofs.YtioijfplbgpjpaaGreat

namespace Go.Proofs.YtioijfplbgpjpaaGreat
set_option linter.unusedVariables false
set_option linter.unusedSimpArgs false
set_option maxRecDepth 100000
open Go.RowKit
section
variable {α : Type} {f : α → List Value} {e K : Nat} {w W W' : World} {l : List Fact} {b : Nat} {v : Value} {xs : List α} {fp : List Nat}
end
section
variable {α : Type} {hd : α → Value → List Value} {inn : α → List Int} {e K B : Nat} {w W1 W2 W3 W : World} {l : List Fact} {u v v' : Value} {zs : List (α × Value)} {f f1 f2 f3 : List Nat} {x : α} {ys : List Int} {g n c k j : Nat} {us : List Value}
end
end Go.Proofs.YtioijfplbgpjpaaGreat

namespace Go.Proofs.YtioijfplbgpjpaaGreat
set_option linter.unusedVariables false
set_option linter.unusedSimpArgs false
set_option maxRecDepth 100000
open Go.RowKit
end Go.Proofs.YtioijfplbgpjpaaGreat

namespace Go.Proofs.YtioijfplbgpjpaaGreat
set_option linter.unusedVariables false
set_option linter.unusedSimpArgs false
set_option maxRecDepth 100000
open Go.RowKit
end Go.Proofs.YtioijfplbgpjpaaGreat

namespace Go.Proofs.YtioijfplbgpjpaaGreat
set_option linter.unusedVariables false
set_option linter.unusedSimpArgs false
set_option maxRecDepth 100000
open Go.RowKit
set_option maxRecDepth 100000
end Go.Proofs.YtioijfplbgpjpaaGreat

namespace Go.Proofs.YtioijfplbgpjpaaGreat
set_option linter.unusedVariables false
set_option linter.unusedSimpArgs false
set_option maxRecDepth 100000
open Go.RowKit
end Go.Proofs.YtioijfplbgpjpaaGreat

namespace Go.Proofs.YtioijfplbgpjpaaGreat
set_option linter.unusedVariables false
set_option linter.unusedSimpArgs false
set_option maxRecDepth 100000
open Go.RowKit
end Go.Proofs.YtioijfplbgpjpaaGreat

namespace Go.Proofs.YtioijfplbgpjpaaGreat
set_option linter.unusedVariables false
set_option linter.unusedSimpArgs false
set_option maxRecDepth 100000
open Go.RowKit
section
variable {α : Type} {f : α → List Value} {inn : α → List Int} {W : World} {e K base n c g i k : Nat} {F : Option Addr} {xs : List α} {zs : List (α × Value)} {fp : List Nat} {x a : α} {u : Value} {y : Int}
end
end Go.Proofs.YtioijfplbgpjpaaGreat

namespace Go.Proofs.YtioijfplbgpjpaaGreat
set_option linter.unusedVariables false
set_option linter.unusedSimpArgs false
set_option maxRecDepth 100000
section
variable {P : Program} {ops : Array Oper} {Q : Exit → Act → World → Prop} {S : World → Prop}
end
end Go.Proofs.YtioijfplbgpjpaaGreat

namespace Go.Proofs.YtioijfplbgpjpaaGreat
set_option linter.unusedVariables false
set_option linter.unusedSimpArgs false
set_option maxRecDepth 100000
open Go.RowKit
end Go.Proofs.YtioijfplbgpjpaaGreat

namespace Go.Proofs.YtioijfplbgpjpaaGreat
set_option linter.unusedVariables false
set_option linter.unusedSimpArgs false
set_option maxRecDepth 100000
open Go.RowKit
end Go.Proofs.YtioijfplbgpjpaaGreat

namespace Go.Proofs.YtioijfplbgpjpaaGreat
set_option linter.unusedVariables false
set_option linter.unusedSimpArgs false
set_option maxRecDepth 100000
open Go.RowKit
end Go.Proofs.YtioijfplbgpjpaaGreat

namespace Go.Proofs.YtioijfplbgpjpaaGreat
set_option linter.unusedVariables false
set_option linter.unusedSimpArgs false
set_option maxRecDepth 100000
open Go.RowKit
end Go.Proofs.YtioijfplbgpjpaaGreat

namespace Go.Proofs.YtioijfplbgpjpaaGreat
set_option linter.unusedVariables false
set_option linter.unusedSimpArgs false
set_option maxRecDepth 100000
open Go.RowKit
end Go.Proofs.YtioijfplbgpjpaaGreat

namespace Go.Proofs.YtioijfplbgpjpaaGreat
set_option linter.unusedVariables false
set_option linter.unusedSimpArgs false
set_option maxRecDepth 100000
open Go.RowKit Go.WideShapes Go.ChangeShapes Go.ChangeAt Go.Deep
end Go.Proofs.YtioijfplbgpjpaaGreat

namespace Go.Proofs.YtioijfplbgpjpaaGreat
set_option linter.unusedVariables false
set_option linter.unusedSimpArgs false
set_option maxRecDepth 100000
open Go.RowKit Go.WideShapes Go.ChangeShapes Go.ChangeAt Go.Deep
end Go.Proofs.YtioijfplbgpjpaaGreat

namespace Go.Proofs.YtioijfplbgpjpaaGreat
set_option linter.unusedVariables false
set_option linter.unusedSimpArgs false
set_option maxRecDepth 100000
open Go.RowKit Go.WideShapes Go.ChangeShapes Go.ChangeAt Go.Deep
end Go.Proofs.YtioijfplbgpjpaaGreat

namespace Go.Proofs.YtioijfplbgpjpaaGreat
set_option linter.unusedVariables false
set_option linter.unusedSimpArgs false
set_option maxRecDepth 100000
open Go.RowKit Go.WideShapes Go.ChangeShapes Go.ChangeAt Go.Deep
end Go.Proofs.YtioijfplbgpjpaaGreat

namespace Go.Proofs.YtioijfplbgpjpaaGreat
set_option linter.unusedVariables false
set_option linter.unusedSimpArgs false
set_option maxRecDepth 100000
open Go.RowKit
theorem sortI_at {keys : List Int} {k p : Nat} (h : (argUp keys)[k]? = some p) : (sortI keys)[k]? = some (keyAt keys p) := by
  rw [← argUp_keys, List.getElem?_map, h]; rfl
end Go.Proofs.YtioijfplbgpjpaaGreat

namespace Go.Proofs.YtioijfplbgpjpaaGreat
set_option linter.unusedVariables false
set_option linter.unusedSimpArgs false
set_option maxRecDepth 100000
open Go.RowKit
theorem upTo_mem {d : Array Int} : ∀ {k : Nat} {u : Int}, u ∈ Lib.compactUpTo d k → ∃ j, j < k ∧ d[j]! = u := by
  intro k u h
  unfold Lib.compactUpTo at h
  obtain ⟨j, hj, rfl⟩ := List.mem_map.1 h
  exact ⟨j, List.mem_range.1 (List.mem_filter.1 hj).1, rfl⟩
theorem upTo_last {d : Array Int} : ∀ (k : Nat), ∃ l, Lib.compactUpTo d (k + 1) = l ++ [d[k]!]
  | 0 => ⟨[], by rw [Lib.compactUpTo_succ]; simp [Lib.compactUpTo, Lib.keeps]⟩
  | k + 1 => by
    rw [Lib.compactUpTo_succ]
    cases h : Lib.keeps d (k + 1) with
    | true => exact ⟨Lib.compactUpTo d (k + 1), by simp⟩
    | false =>
      obtain ⟨l, hl⟩ := upTo_last (d := d) k
      refine ⟨l, ?_⟩
      simp only [Lib.keeps, decide_eq_false_iff_not] at h
      have : d[k + 1]! = d[k]! := by
        refine Classical.byContradiction fun hn => h (.inr ?_)
        simpa using hn
      simpa [this] using hl
/-- one number more, of ascending ones: it stands there last already, or it is new -/
theorem dd_same {sl : List Int} {k : Nat} {u : Int} (hs : sl.Pairwise (· ≤ ·)) (hk : sl[k]? = some u) (q : Int → Bool) (h : ((Lib.compactUpTo sl.toArray k).filter q).getLast? = some u) :
    (Lib.compactUpTo sl.toArray (k + 1)).filter q = (Lib.compactUpTo sl.toArray k).filter q := by
  obtain ⟨hk1, hk2⟩ := List.getElem?_eq_some_iff.1 hk
  have hd : ∀ j, j < sl.length → sl.toArray[j]! = sl[j]! := fun j hj => by simp
  rw [Lib.compactUpTo_succ]
  cases hq : Lib.keeps sl.toArray k with
  | false => simp
  | true =>
    exfalso
    have hm := List.mem_of_getLast? h
    obtain ⟨j, hj, hju⟩ := upTo_mem (List.mem_filter.1 hm).1
    simp only [Lib.keeps, decide_eq_true_eq] at hq
    have hk0 : 0 < k := by omega
    rcases hq with hq | hq
    · omega
    · apply hq
      have e1 : sl.toArray[k]! = u := by simp [hk1, hk2]
      have h1 : sl[j]'(by omega) = u := by simpa [show j < sl.length by omega] using hju
      have h2 : sl[j]'(by omega) ≤ sl[k - 1]'(by omega) := by
        rcases Nat.lt_or_ge j (k - 1) with h | h
        · exact List.pairwise_iff_getElem.1 hs j (k - 1) (by omega) (by omega) h
        · obtain rfl : j = k - 1 := by omega
          exact Int.le_refl _
      have h3 : sl[k - 1]'(by omega) ≤ sl[k] := List.pairwise_iff_getElem.1 hs (k - 1) k (by omega) hk1 (by omega)
      rw [e1]
      simp [show k - 1 < sl.length by omega]
      omega
theorem dd_new {sl : List Int} {k : Nat} {u : Int} (hk : sl[k]? = some u) (q : Int → Bool) (h : ((Lib.compactUpTo sl.toArray k).filter q).getLast? ≠ some u) :
    (Lib.compactUpTo sl.toArray (k + 1)).filter q = (Lib.compactUpTo sl.toArray k).filter q ++ (if q u then [u] else []) := by
  obtain ⟨hk1, hk2⟩ := List.getElem?_eq_some_iff.1 hk
  have e1 : sl.toArray[k]! = u := by simp [hk1, hk2]
  rw [Lib.compactUpTo_succ, e1, List.filter_append]
  cases hq : Lib.keeps sl.toArray k with
  | true => simp [List.filter_cons]
  | false =>
    cases hqu : q u with
    | false => simp
    | true =>
      exfalso
      apply h
      simp only [Lib.keeps, decide_eq_false_iff_not] at hq
      obtain ⟨m, rfl⟩ : ∃ m, k = m + 1 := ⟨k - 1, by omega⟩
      have e2 : sl.toArray[m]! = u := by
        refine Classical.byContradiction fun hn => hq (.inr ?_)
        rw [e1]
        exact fun e => hn e.symm
      obtain ⟨l, hl⟩ := upTo_last (d := sl.toArray) m
      rw [hl, e2, List.filter_append]
      simp [hqu]
end Go.Proofs.YtioijfplbgpjpaaGreat

namespace Go.Proofs.YtioijfplbgpjpaaGreat
set_option linter.unusedVariables false
set_option linter.unusedSimpArgs false
set_option maxRecDepth 100000
open Go.RowKit
def zsOn (x : Plan) (k : Int) : List Int := (onPal x k).map fun i => (spotAt x i).z
end Go.Proofs.YtioijfplbgpjpaaGreat

namespace Go.Proofs.YtioijfplbgpjpaaGreat
set_option linter.unusedVariables false
set_option linter.unusedSimpArgs false
set_option maxRecDepth 100000
open Go.RowKit
section
variable {r : Request} {x : Plan} {k z px py : Int}
end
end Go.Proofs.YtioijfplbgpjpaaGreat

namespace Go.Proofs.YtioijfplbgpjpaaGreat
set_option linter.unusedVariables false
set_option linter.unusedSimpArgs false
set_option maxRecDepth 100000
open Go.RowKit
section
variable {r : Request} {x : Plan} {k z : Int}
end
end Go.Proofs.YtioijfplbgpjpaaGreat

namespace Go.Proofs.YtioijfplbgpjpaaGreat
set_option linter.unusedVariables false
set_option linter.unusedSimpArgs false
set_option maxRecDepth 100000
open Go.RowKit
def heightsR (r : Request) (x : Plan) (k : Int) : List Int := if feasible r x = true then kindsM (zsOn x k) else []
section
variable {r : Request} {x : Plan} {k : Int}
theorem heights_len : (heightsR r x k).length ≤ (onPal x k).length := by
  unfold heightsR
  split
  · exact Nat.le_trans (kindsM_le _) (by unfold zsOn; rw [List.length_map]; exact Nat.le_refl _)
  · simp
end
end Go.Proofs.YtioijfplbgpjpaaGreat

namespace Go.Proofs.YtioijfplbgpjpaaGreat
set_option linter.unusedVariables false
set_option linter.unusedSimpArgs false
set_option maxRecDepth 100000
open Go.RowKit Go.WideShapes Go.ChangeShapes Go.ChangeAt Go.Deep
end Go.Proofs.YtioijfplbgpjpaaGreat

namespace Go.Proofs.YtioijfplbgpjpaaGreat
set_option linter.unusedVariables false
set_option linter.unusedSimpArgs false
set_option maxRecDepth 100000
open Go.RowKit Go.WideShapes Go.ChangeShapes Go.ChangeAt Go.Deep
set_option maxRecDepth 100000
end Go.Proofs.YtioijfplbgpjpaaGreat

namespace Go.Proofs.YtioijfplbgpjpaaGreat
set_option linter.unusedVariables false
set_option linter.unusedSimpArgs false
set_option maxRecDepth 100000
open Go.RowKit Go.WideShapes Go.ChangeShapes Go.ChangeAt Go.Deep
theorem map_step {l : List Int} {j : Nat} {i : Int} (f : Int → Int) (h : l[j]? = some i) : (l.take (j + 1)).map f = (l.take j).map f ++ [f i] := by
  rw [List.take_add_one, h, List.map_append]; rfl
theorem map_take_le {l : List Int} {j : Nat} (f : Int → Int) : ((l.take j).map f).length ≤ j := by rw [List.length_map, List.length_take]; omega
theorem ddu_same {sl : List Int} {k : Nat} {u : Int} (hs : sl.Pairwise (· ≤ ·)) (hk : sl[k]? = some u) (h : (Lib.compactUpTo sl.toArray k).getLast? = some u) : Lib.compactUpTo sl.toArray (k + 1) = Lib.compactUpTo sl.toArray k := by
  have ft : ∀ l : List Int, l.filter (fun _ => true) = l := fun l => List.filter_eq_self.2 (by simp)
  have := dd_same hs hk (fun _ => true) (by rw [ft]; exact h)
  rwa [ft, ft] at this
theorem ddu_new {sl : List Int} {k : Nat} {u : Int} (hk : sl[k]? = some u) (h : (Lib.compactUpTo sl.toArray k).getLast? ≠ some u) : Lib.compactUpTo sl.toArray (k + 1) = Lib.compactUpTo sl.toArray k ++ [u] := by
  have ft : ∀ l : List Int, l.filter (fun _ => true) = l := fun l => List.filter_eq_self.2 (by simp)
  have := dd_new hk (fun _ => true) (by rw [ft]; exact h)
  rw [ft, ft] at this
  simpa using this
theorem upTo_le (sl : Array Int) (k : Nat) : (Lib.compactUpTo sl k).length ≤ k := by
  unfold Lib.compactUpTo; rw [List.length_map]; exact Nat.le_trans (List.length_filter_le _ _) (by simp)
theorem zsOn_le (x : Plan) (k : Int) : (zsOn x k).length ≤ x.cartons.length := by unfold zsOn; rw [List.length_map]; exact onPal_le x k
set_option maxRecDepth 100000 in
set_option maxHeartbeats 2000000 in
theorem iHeights_any (v vx : Value) (r : Request) (x : Plan) (k : Int) (w : World) (h : RReq 16777216 w w.heap.size v r) (hx : RPlan 16777216 w w.heap.size vx x) (hL : x.bulk ≤ 16777216) : Calls Tryz.prog 30 #[v, vx, .int .i64 k] w (MInts w (heightsR r x k)) := by
  have HR := Lib.hid h
  have HX := Lib.hid hx
  obtain ⟨A1, c1, A2, c2, A3, c3, rfl, _⟩ := h.opn
  obtain ⟨PA, ca, PB, cb, rfl, HPA, HPB, hla, hlb⟩ := hx.opn
  have hol := onPal_le x k
  have hzl := zsOn_le x k
  have hS := ((Sit.here w).alloc #[.int .i64 r.way, .int .i64 r.pallet.w, .int .i64 r.pallet.d, .int .i64 r.pallet.h, .int .i64 r.pallet.gram, .int .i64 r.classes, .slice A1 r.pairs.length c1, .slice A2 r.types.length c2, .int .i64 r.master, .slice A3 r.items.length c3] 41).alloc #[.slice PA x.cartons.length ca, .slice PB x.spots.length cb] 46
  simp only [World.size_alloc] at hS
  have SN := Lib.hid hS
  obtain ⟨q, hq⟩ : ∃ q, feasible r x = q := ⟨_, rfl⟩
  have HQ := Lib.hid hq
  have HM := Lib.hid (show heightsR r x k = if q = true then kindsM (zsOn x k) else [] by unfold heightsR; rw [hq])
  clear h hx hS hq
  go_enter Tryz.func30, Tryz.ntmps30
  have k0 := SN.out.box (.tail _ (.head _)); have l0 := SN.out.boxlt (.tail _ (.head _)); have k1 := SN.out.box (.head _); have l1 := SN.out.boxlt (.head _)
  go_wp2_with fail
  refine (iFeasible_any _ _ r x _ (HR.out.next SN.out.low) (HX.out.next SN.out.low) hL).mono ?_
  rintro e1 w1 ⟨rfl, hb1⟩
  rw [HQ.out]
  have SN := Lib.hid (SN.out.next hb1)
  clear k0 l0 k1 l1 hb1
  cases q
  · have SN := Lib.hid (SN.out.addNil (f := cI) (e := 3) (K := 1) w.heap.size)
    go_wp2
    go_ret
    rw [HM.out]
    exact SN.out.ints
  have hS := SN.out.alloc #[] 3
  have SN := Lib.hid (hS.boxNil cI 1)
  clear hS
  have k1 := SN.out.box (.tail _ (.head _))
  have l1 := SN.out.boxlt (.tail _ (.head _))
  go_wp2_with fail
  refine (iOnPallet_any _ x k _ (HX.out.next SN.out.low)).mono ?_
  intro e2 w2 hm
  obtain ⟨v2, fk, rfl, hS⟩ := SN.out.gotInts hm
  obtain ⟨D, d, rfl, _⟩ := (hS.list (.head _)).form
  have SN := Lib.hid hS.rot2
  clear k1 l1 hS hm
  go_wp2
  go_loopw [7, 19] (fun vv i wr => ∃ (j : Nat) (fp : List Nat), j ≤ (onPal x k).length ∧ i = .int .i64 j ∧ Hid (Sit w wr [fOF cI 3 1 w.heap.size vv (((onPal x k).take j).map (fun i => (spotAt x i).z)) fp, fOF cI 3 1 w.heap.size (.slice D (onPal x k).length d) (onPal x k) fk, fBox (w.heap.size + 1) #[.slice PA x.cartons.length ca, .slice PB x.spots.length cb] 46, fBox w.heap.size #[.int .i64 r.way, .int .i64 r.pallet.w, .int .i64 r.pallet.d, .int .i64 r.pallet.h, .int .i64 r.pallet.gram, .int .i64 r.classes, .slice A1 r.pairs.length c1, .slice A2 r.types.length c2, .int .i64 r.master, .slice A3 r.items.length c3] 41])) (fun _ i _ => (onPal x k).length - (intOf i).toNat)
  case atStart => exact ⟨0, _, Nat.zero_le _, rfl, SN⟩
  case round =>
    clear SN
    obtain ⟨j, fp, hj, rfl, SN⟩ := hrel
    by_cases hlt : j < (onPal x k).length
    · obtain ⟨i, hi⟩ : ∃ i, (onPal x k)[j]? = some i := ⟨_, List.getElem?_eq_getElem hlt⟩
      obtain ⟨m, rfl, hm1, hm2⟩ := onPal_in hi
      obtain ⟨gd, rfl⟩ := head_ptr (SN.out.list (.tail _ (.head _))) hi
      have hcu := (SN.out.list (.tail _ (.head _))).cells (fun z => rfl) hi 0 (.int .i64 (m : Int)) rfl
      rw [Nat.mul_one, Nat.add_zero] at hcu
      obtain ⟨b2, off2, s, rfl, hb2, hs, HC2⟩ := HPB.out.one m hm2
      obtain ⟨hc0, hc1, hc2, hc3⟩ := HC2.out wr SN.out.low
      have k11 : wr.cell? ⟨w.heap.size + 1, 1, none⟩ = some (.slice (some ⟨b2, off2, none⟩) x.spots.length cb) := SN.out.box (.tail _ (.tail _ (.head _))) 1
      have HST := Lib.hid (map_step (fun i => (spotAt x i).z) hi)
      have HZ := Lib.hid (show (spotAt x (m : Int)).z = s.z by rw [spotAt_at hs])
      have hln := map_take_le (l := onPal x k) (j := j) (fun i => (spotAt x i).z)
      clear hi hs hc0 hc1 hc2
      go_wp2_with (at_builtin; refine papp_Int _ _ rfl rfl (s.z) rfl rfl (alloc_at (by first | rfl | (simp; done) | (simp; omega))) rfl ((SN.out.list (.head _)).next (by repeat' (first | with_reducible exact Below.refl _ _ | with_reducible assumption | with_reducible refine Below.drew ?_ | with_reducible refine Below.alloc ?_ ?_ _ | with_reducible refine Below.setCell ?_ ?_ _ | with_reducible refine below_drewN ?_ _ | (simp; done) | (simp; omega)))) (by first | omega | (simp; omega)) (by have := SN.out.low.size; first | omega | (simp; done) | (simp; omega) | (simp at this ⊢; omega)) ?_; intro v7 w7 ha; obtain ⟨g7, S7⟩ := (SN.out.next (by repeat' (first | with_reducible exact Below.refl _ _ | with_reducible assumption | with_reducible refine Below.drew ?_ | with_reducible refine Below.alloc ?_ ?_ _ | with_reducible refine Below.setCell ?_ ?_ _ | with_reducible refine below_drewN ?_ _ | (simp; done) | (simp; omega)))).app ha; have S8 := Lib.hid S7; clear S7 ha)
      go_roundw
      case rel => exact ⟨j + 1, _, hlt, by go_num, by rw [HST.out]; simp only [HZ.out]; exact S8⟩
      case measure => simp [intOf] <;> omega
    · obtain rfl : j = (onPal x k).length := by omega
      rw [List.take_length] at SN
      go_wp2_with fail
      refine (kinds_any _ (zsOn x k) _ (OInts.read (SN.out.list (.head _)) (by omega))).mono ?_
      intro e3 w3 hm
      obtain ⟨v3, f3, rfl, hS⟩ := SN.out.gotInts hm
      have SN := Lib.hid hS
      clear hS hm
      go_wp2
      go_ret
      rw [HM.out]
      exact SN.out.ints
set_option maxRecDepth 100000 in
set_option maxHeartbeats 2000000 in
theorem sHeights_any (v vx : Value) (r : Request) (x : Plan) (k : Int) (w : World) (h : RReq 16777216 w w.heap.size v r) (hx : RPlan 16777216 w w.heap.size vx x) (hL : x.bulk ≤ 16777216) : Calls Tryz.prog 29 #[v, vx, .int .i64 k] w (MInts w (heightsR r x k)) := by
  have HR := Lib.hid h
  have HX := Lib.hid hx
  obtain ⟨A1, c1, A2, c2, A3, c3, rfl, _⟩ := h.opn
  obtain ⟨PA, ca, PB, cb, rfl, HPA, HPB, hla, hlb⟩ := hx.opn
  have hol := onPal_le x k
  have hzl := zsOn_le x k
  have hS := (((Sit.here w).alloc #[.int .i64 r.way, .int .i64 r.pallet.w, .int .i64 r.pallet.d, .int .i64 r.pallet.h, .int .i64 r.pallet.gram, .int .i64 r.classes, .slice A1 r.pairs.length c1, .slice A2 r.types.length c2, .int .i64 r.master, .slice A3 r.items.length c3] 41).alloc #[.slice PA x.cartons.length ca, .slice PB x.spots.length cb] 46).alloc #[] 3
  simp only [World.size_alloc] at hS
  have SN := Lib.hid (hS.boxNil cI 1)
  obtain ⟨q, hq⟩ : ∃ q, feasible r x = q := ⟨_, rfl⟩
  have HQ := Lib.hid hq
  have HM := Lib.hid (show heightsR r x k = if q = true then kindsM (zsOn x k) else [] by unfold heightsR; rw [hq])
  clear h hx hS hq
  go_enter Tryz.func29, Tryz.ntmps29
  have k1 := SN.out.box (.tail _ (.head _)); have l1 := SN.out.boxlt (.tail _ (.head _)); have k0 := SN.out.box (.tail _ (.tail _ (.head _))); have l0 := SN.out.boxlt (.tail _ (.tail _ (.head _)))
  go_wp2_with fail
  refine (sFeasible_any _ _ r x _ (HR.out.next SN.out.low) (HX.out.next SN.out.low) hL).mono ?_
  rintro e1 w1 ⟨rfl, hb1⟩
  rw [HQ.out]
  have SN := Lib.hid (SN.out.next hb1)
  clear k0 l0 k1 l1 hb1
  cases q
  · go_wp2
    go_ret
    rw [HM.out]
    exact SN.out.ints
  have k1 := SN.out.box (.tail _ (.head _))
  have l1 := SN.out.boxlt (.tail _ (.head _))
  go_wp2_with fail
  refine (sOnPallet_any _ x k _ (HX.out.next SN.out.low)).mono ?_
  intro e2 w2 hm
  obtain ⟨v2, fk, rfl, hS⟩ := SN.out.gotInts hm
  obtain ⟨D, d, rfl, _⟩ := (hS.list (.head _)).form
  have hS2 := hS.alloc #[] 3
  have SN := Lib.hid (hS2.boxNil cI 1)
  clear k1 l1 hS hS2 hm
  go_wp2
  go_loopw [9, 10] (fun vv i wr => ∃ (j : Nat) (fp : List Nat), j ≤ (onPal x k).length ∧ i = .int .i64 j ∧ Hid (Sit w wr [fOF cI 3 1 w.heap.size vv (((onPal x k).take j).map (fun i => (spotAt x i).z)) fp, fOF cI 3 1 w.heap.size (.slice D (onPal x k).length d) (onPal x k) fk, fOF cI 3 1 w.heap.size (.slice (some ⟨w.heap.size + 1 + 1, 0, none⟩) 0 0) (([] : List Int)) [w.heap.size + 1 + 1], fBox (w.heap.size + 1) #[.slice PA x.cartons.length ca, .slice PB x.spots.length cb] 46, fBox w.heap.size #[.int .i64 r.way, .int .i64 r.pallet.w, .int .i64 r.pallet.d, .int .i64 r.pallet.h, .int .i64 r.pallet.gram, .int .i64 r.classes, .slice A1 r.pairs.length c1, .slice A2 r.types.length c2, .int .i64 r.master, .slice A3 r.items.length c3] 41])) (fun _ i _ => (onPal x k).length - (intOf i).toNat)
  case atStart => exact ⟨0, _, Nat.zero_le _, rfl, SN⟩
  case round =>
    clear SN
    obtain ⟨j, fp, hj, rfl, SN⟩ := hrel
    by_cases hlt : j < (onPal x k).length
    · obtain ⟨i, hi⟩ : ∃ i, (onPal x k)[j]? = some i := ⟨_, List.getElem?_eq_getElem hlt⟩
      obtain ⟨m, rfl, hm1, hm2⟩ := onPal_in hi
      obtain ⟨gd, rfl⟩ := head_ptr (SN.out.list (.tail _ (.head _))) hi
      have hcu := (SN.out.list (.tail _ (.head _))).cells (fun z => rfl) hi 0 (.int .i64 (m : Int)) rfl
      rw [Nat.mul_one, Nat.add_zero] at hcu
      have HI := Lib.hid hi
      obtain ⟨b2, off2, s, rfl, hb2, hs, HC2⟩ := HPB.out.one m hm2
      have hd := HC2.out wr SN.out.low
      have k11 : wr.cell? ⟨w.heap.size + 1, 1, none⟩ = some (.slice (some ⟨b2, off2, none⟩) x.spots.length cb) := SN.out.box (.tail _ (.tail _ (.tail _ (.head _)))) 1
      have HST := Lib.hid (map_step (fun i => (spotAt x i).z) hi)
      have HZ := Lib.hid (show (spotAt x (m : Int)).z = s.z by rw [spotAt_at hs])
      have hln := map_take_le (l := onPal x k) (j := j) (fun i => (spotAt x i).z)
      clear hi hs
      go_wp2
      refine wp_region_S (S := (fun W' => W'.cell? ⟨gd, j, none⟩ = some (.int .i64 (m : Int)) ∧ W'.cell? ⟨w.heap.size + 1, 1, none⟩ = some (.slice (some ⟨b2, off2, none⟩) x.spots.length cb) ∧ (W'.cell? ⟨b2, off2 + m * 4, none⟩ = some (.int .i64 s.pallet) ∧ W'.cell? ⟨b2, off2 + m * 4 + 1, none⟩ = some (.int .i64 s.x) ∧ W'.cell? ⟨b2, off2 + m * 4 + 2, none⟩ = some (.int .i64 s.y) ∧ W'.cell? ⟨b2, off2 + m * 4 + 3, none⟩ = some (.int .i64 s.z)))) (by kernel_rfl) ?_ (fun hHeld => ?_)
      · (first | exact ⟨hcu2, k12, hd2⟩ | exact ⟨hcu, k11, hd⟩ | go_keep)
      refine wpS_take (i := 0) (v := ?_) rfl (by kernel_rfl) (fun _ _ _ h => h) (Or.inl ⟨by rfl, ?_⟩) (by assumption) ?_
      rotate_left
      · (intro w9 hSw; (try dsimp only at hSw); go_simp; (try with_reducible rfl))
      (try simp only [Act.put, List.getElem_toArray, List.getElem_cons_zero, List.getElem_cons_succ, List.setIfInBounds_toArray, List.set_cons_zero, List.set_cons_succ])
      refine wpS_take (i := 1) (v := ?_) rfl (by kernel_rfl) (fun _ _ _ h => h) (Or.inl ⟨by rfl, ?_⟩) (by assumption) ?_
      rotate_left
      · (intro w9 hSw; (try dsimp only at hSw); go_simp; (try with_reducible rfl))
      (try simp only [Act.put, List.getElem_toArray, List.getElem_cons_zero, List.getElem_cons_succ, List.setIfInBounds_toArray, List.set_cons_zero, List.set_cons_succ])
      refine wpS_take (i := 2) (v := ?_) rfl (by kernel_rfl) (fun _ _ _ h => h) (Or.inl ⟨by rfl, ?_⟩) (by assumption) ?_
      rotate_left
      · (intro w9 hSw; (try dsimp only at hSw); go_simp; (try with_reducible rfl))
      (try simp only [Act.put, List.getElem_toArray, List.getElem_cons_zero, List.getElem_cons_succ, List.setIfInBounds_toArray, List.set_cons_zero, List.set_cons_succ])
      refine wpS_take (i := 3) (v := ?_) rfl (by kernel_rfl) (fun _ _ _ h => h) (Or.inl ⟨by rfl, ?_⟩) (by assumption) ?_
      rotate_left
      · (intro w9 hSw; (try dsimp only at hSw); go_simp; (try with_reducible rfl))
      (try simp only [Act.put, List.getElem_toArray, List.getElem_cons_zero, List.getElem_cons_succ, List.setIfInBounds_toArray, List.set_cons_zero, List.set_cons_succ])
      refine wpS_take (i := 4) (v := ?_) rfl (by kernel_rfl) (fun _ _ _ h => h) (Or.inl ⟨by rfl, ?_⟩) (by assumption) ?_
      rotate_left
      · (intro w9 hSw; (try dsimp only at hSw); go_simp; (try with_reducible rfl))
      (try simp only [Act.put, List.getElem_toArray, List.getElem_cons_zero, List.getElem_cons_succ, List.setIfInBounds_toArray, List.set_cons_zero, List.set_cons_succ])
      refine wpS_take (i := 5) (v := ?_) rfl (by kernel_rfl) (fun _ _ _ h => h) (Or.inl ⟨by rfl, ?_⟩) (by assumption) ?_
      rotate_left
      · (intro w9 hSw; (try dsimp only at hSw); go_simp; (try with_reducible rfl))
      (try simp only [Act.put, List.getElem_toArray, List.getElem_cons_zero, List.getElem_cons_succ, List.setIfInBounds_toArray, List.set_cons_zero, List.set_cons_succ])
      refine wpS_take (i := 6) (v := ?_) rfl (by kernel_rfl) (fun _ _ _ h => h) (Or.inl ⟨by rfl, ?_⟩) (by assumption) ?_
      rotate_left
      · (intro w9 hSw; (try dsimp only at hSw); go_simp; (try with_reducible rfl))
      (try simp only [Act.put, List.getElem_toArray, List.getElem_cons_zero, List.getElem_cons_succ, List.setIfInBounds_toArray, List.set_cons_zero, List.set_cons_succ])
      refine wpS_take (i := 7) (v := ?_) rfl (by kernel_rfl) (fun _ _ _ h => h) (Or.inl ⟨by rfl, ?_⟩) (by assumption) ?_
      rotate_left
      · (intro w9 hSw; (try dsimp only at hSw); go_simp; (try with_reducible rfl))
      (try simp only [Act.put, List.getElem_toArray, List.getElem_cons_zero, List.getElem_cons_succ, List.setIfInBounds_toArray, List.set_cons_zero, List.set_cons_succ])
      refine wpS_take (i := 8) (v := ?_) rfl (by kernel_rfl) (fun _ _ _ h => h) (Or.inl ⟨by rfl, ?_⟩) (by assumption) ?_
      rotate_left
      · (intro w9 hSw; (try dsimp only at hSw); go_simp; (try with_reducible rfl))
      (try simp only [Act.put, List.getElem_toArray, List.getElem_cons_zero, List.getElem_cons_succ, List.setIfInBounds_toArray, List.set_cons_zero, List.set_cons_succ])
      refine wpS_take (i := 9) (v := ?_) rfl (by kernel_rfl) (fun _ _ _ h => h) (Or.inl ⟨by rfl, ?_⟩) (by assumption) ?_
      rotate_left
      · (intro w9 hSw; (try dsimp only at hSw); go_simp; (try with_reducible rfl))
      (try simp only [Act.put, List.getElem_toArray, List.getElem_cons_zero, List.getElem_cons_succ, List.setIfInBounds_toArray, List.set_cons_zero, List.set_cons_succ])
      refine wpS_ready (rs := [10]) (by kernel_rfl) (by simp) ?_
      refine AllReadyS.cons rfl (by kernel_rfl) (fun K hK => ?_) AllReadyS.nil
      go_simp
      refine hK.out _ _ ?_ (fun hHeld => ?_)
      · (first | exact ⟨hcu2, k12, hd2⟩ | exact ⟨hcu, k11, hd⟩ | go_keep)
      clear hK K
      (try simp only [Act.put, List.getElem_toArray, List.getElem_cons_zero, List.getElem_cons_succ, List.setIfInBounds_toArray, List.set_cons_zero, List.set_cons_succ])
      refine wpS_ready (rs := [11]) (by kernel_rfl) (by simp) ?_
      refine AllReadyS.cons rfl (by kernel_rfl) (fun K hK => ?_) AllReadyS.nil
      (refine sapp_Int (.tmp 29) (.tmp 39) rfl rfl s.z rfl rfl (heap_alloc_new _ _) rfl ((SN.out.list (.head _)).next (by repeat' (first | with_reducible exact Below.refl _ _ | with_reducible assumption | with_reducible refine Below.drew ?_ | with_reducible refine Below.alloc ?_ ?_ _ | with_reducible refine Below.setCell ?_ ?_ _ | with_reducible refine below_drewN ?_ _ | (simp; done) | (simp; omega)))) (by first | omega | (simp; done) | (simp; omega)) (by have := SN.out.low.size; first | omega | (simp; done) | (simp; omega)) ?_; intro v7 w7 ha; obtain ⟨g7, S7⟩ := (SN.out.next (by repeat' (first | with_reducible exact Below.refl _ _ | with_reducible assumption | with_reducible refine Below.drew ?_ | with_reducible refine Below.alloc ?_ ?_ _ | with_reducible refine Below.setCell ?_ ?_ _ | with_reducible refine below_drewN ?_ _ | (simp; done) | (simp; omega)))).app ha; have S8 := Lib.hid S7; have k12 : w7.cell? ⟨w.heap.size + 1, 1, none⟩ = some (.slice (some ⟨b2, off2, none⟩) x.spots.length cb) := S7.box (.tail _ (.tail _ (.tail _ (.head _)))) 1; have hd2 := HC2.out w7 S7.low; have hcu2 : w7.cell? ⟨gd, j, none⟩ = some (.int .i64 (m : Int)) := (by have h := (S7.list (.tail _ (.head _))).cells (fun z => rfl) HI.out 0 (.int .i64 (m : Int)) rfl; rw [Nat.mul_one, Nat.add_zero] at h; exact h); clear S7 ha)
      refine hK.out _ _ ?_ (fun hHeld => ?_)
      · (first | exact ⟨hcu2, k12, hd2⟩ | exact ⟨hcu, k11, hd⟩ | go_keep)
      clear hK K
      (try simp only [Act.put, List.getElem_toArray, List.getElem_cons_zero, List.getElem_cons_succ, List.setIfInBounds_toArray, List.set_cons_zero, List.set_cons_succ])
      refine wpS_ready (rs := [12]) (by kernel_rfl) (by simp) ?_
      refine AllReadyS.last rfl (by kernel_rfl) (fun K hK => ?_)
      go_simp
      refine hK.out _ _ ?_
      clear hK K
      (try simp only [Act.put, List.getElem_toArray, List.getElem_cons_zero, List.getElem_cons_succ, List.setIfInBounds_toArray, List.set_cons_zero, List.set_cons_succ])
      refine wpS_done (by kernel_rfl) ?_ _
      go_wp2_with fail
      go_roundw
      case rel => exact ⟨j + 1, _, hlt, by go_num, by rw [HST.out]; simp only [HZ.out]; exact S8⟩
      case measure => simp [intOf] <;> omega
    · obtain rfl : j = (onPal x k).length := by omega
      rw [List.take_length] at SN
      obtain ⟨zs, hzs⟩ : ∃ l, zsOn x k = l := ⟨_, rfl⟩
      rw [show (onPal x k).map (fun i => (spotAt x i).z) = zs from hzs] at SN
      rw [hzs] at hzl HM
      obtain ⟨sl, hsl⟩ : ∃ l, l = sortI zs := ⟨_, rfl⟩
      obtain ⟨au, hau⟩ : ∃ l, l = argUp zs := ⟨_, rfl⟩
      have hsll : sl.length = zs.length := by rw [hsl, sortI_length]
      have haul : au.length = zs.length := by rw [hau, argUp_length]
      have HM := Lib.hid (show heightsR r x k = Lib.compactUpTo sl.toArray zs.length by rw [HM.out, ← hsll, hsl]; rfl)
      have HSO := Lib.hid (show sl.Pairwise (· ≤ ·) by rw [hsl]; exact sortI_sorted _)
      have HG := Lib.hid (show ∀ k p, au[k]? = some p → sl[k]? = some (keyAt zs p) ∧ p < zs.length by
        intro k p hp
        rw [hau] at hp
        exact ⟨by rw [hsl]; exact sortI_at hp, argUp_mem.1 (List.mem_of_getElem? hp)⟩)
      have HU := Lib.hid (fun W v (hW : RInts 16777216 W W.heap.size v zs) => by have := sSortUp_any v zs W hW; rwa [← hau] at this)
      have HAL := Lib.hid haul
      obtain ⟨E1, d1, rfl, _⟩ := (SN.out.list (.head _)).form
      clear hzs hsl hau hsll haul
      go_wp2_with fail
      refine (HU.out _ _ (OInts.read (SN.out.list (.head _)) (by omega))).mono ?_
      intro e3 w3 hm
      obtain ⟨v3, f3, rfl, hS⟩ := SN.out.gotInts hm
      have hil : (ints au).length = zs.length := by rw [ints_length, HAL.out]
      obtain ⟨E2, d2, rfl, _⟩ := (hS.list (.head _)).form
      have SN := Lib.hid (hS.rot4.subl (.cons_cons _ (.cons_cons _ (.cons_cons _ (.cons _ (List.Sublist.refl _))))))
      rw [hil] at SN ⊢
      clear hS hm
      go_wp2
      go_loopw [7, 12] (fun vv i wr => ∃ (j : Nat) (f9 : List Nat), j ≤ zs.length ∧ i = .int .i64 j ∧ Hid (Sit w wr [fOF cI 3 1 w.heap.size vv (Lib.compactUpTo sl.toArray j) f9, fOF cI 3 1 w.heap.size (.slice E2 zs.length d2) (ints au) f3, fOF cI 3 1 w.heap.size (.slice E1 zs.length d1) (zs) fp, fBox (w.heap.size + 1) #[.slice PA x.cartons.length ca, .slice PB x.spots.length cb] 46, fBox w.heap.size #[.int .i64 r.way, .int .i64 r.pallet.w, .int .i64 r.pallet.d, .int .i64 r.pallet.h, .int .i64 r.pallet.gram, .int .i64 r.classes, .slice A1 r.pairs.length c1, .slice A2 r.types.length c2, .int .i64 r.master, .slice A3 r.items.length c3] 41])) (fun _ i _ => zs.length - (intOf i).toNat)
      case atStart => exact ⟨0, _, Nat.zero_le _, rfl, SN⟩
      case round =>
        clear SN
        obtain ⟨j, f9, hj, rfl, SN⟩ := hrel
        by_cases hlt : j < zs.length
        · obtain ⟨pl, hpl⟩ : ∃ q, au[j]? = some q := ⟨_, List.getElem?_eq_getElem (by rw [HAL.out]; exact hlt)⟩
          obtain ⟨hsk, hpu⟩ := HG.out j pl hpl
          have hpi : (ints au)[j]? = some (pl : Int) := by unfold ints; rw [List.getElem?_map, hpl]; rfl
          obtain ⟨gA, rfl⟩ := head_ptr (SN.out.list (.tail _ (.head _))) hpi
          have hca := (SN.out.list (.tail _ (.head _))).cells (fun z => rfl) hpi 0 (.int .i64 (pl : Int)) rfl
          obtain ⟨u, hu⟩ : ∃ y, zs[pl]? = some y := ⟨_, List.getElem?_eq_getElem hpu⟩
          obtain ⟨gB, rfl⟩ := head_ptr (SN.out.list (.tail _ (.tail _ (.head _)))) hu
          have hcb := (SN.out.list (.tail _ (.tail _ (.head _)))).cells (fun z => rfl) hu 0 (.int .i64 u) rfl
          rw [Nat.mul_one, Nat.add_zero] at hca hcb
          rw [show keyAt zs pl = u by have h := keyAt_get hpu; rw [hu] at h; exact (Option.some.inj h).symm] at hsk
          obtain ⟨out, hout⟩ : ∃ l, Lib.compactUpTo sl.toArray j = l := ⟨_, rfl⟩
          have hln : out.length ≤ j := by rw [← hout]; exact upTo_le _ _
          rw [hout] at SN
          rcases List.eq_nil_or_concat out with h0 | ⟨o', y, h0⟩
          · have HS := Lib.hid (show Lib.compactUpTo sl.toArray (j + 1) = [] ++ [u] by rw [ddu_new hsk (by rw [hout, h0]; simp), hout, h0])
            subst h0
            obtain ⟨Ao, co, rfl, _⟩ := (SN.out.list (.head _)).form
            clear hpl hsk hpi hu hout
            go_wp2
            refine wp_region_S (S := (fun W' => W'.cell? ⟨gA, j, none⟩ = some (.int .i64 (pl : Int)) ∧ W'.cell? ⟨gB, pl, none⟩ = some (.int .i64 u))) (by kernel_rfl) ?_ (fun hHeld => ?_)
            · (first | exact ⟨hca, hcb⟩ | go_keep)
            refine wpS_take (i := 0) (v := ?_) rfl (by kernel_rfl) (fun _ _ _ h => h) (Or.inl ⟨by rfl, ?_⟩) (by assumption) ?_
            rotate_left
            · (intro w9 hSw; (try dsimp only at hSw); go_simp; (try with_reducible rfl))
            (try simp only [Act.put, List.getElem_toArray, List.getElem_cons_zero, List.getElem_cons_succ, List.setIfInBounds_toArray, List.set_cons_zero, List.set_cons_succ])
            refine wpS_take (i := 1) (v := ?_) rfl (by kernel_rfl) (fun _ _ _ h => h) (Or.inl ⟨by rfl, ?_⟩) (by assumption) ?_
            rotate_left
            · (intro w9 hSw; (try dsimp only at hSw); go_simp; (try with_reducible rfl))
            (try simp only [Act.put, List.getElem_toArray, List.getElem_cons_zero, List.getElem_cons_succ, List.setIfInBounds_toArray, List.set_cons_zero, List.set_cons_succ])
            refine wpS_take (i := 2) (v := ?_) rfl (by kernel_rfl) (fun _ _ _ h => h) (Or.inl ⟨by rfl, ?_⟩) (by assumption) ?_
            rotate_left
            · (intro w9 hSw; (try dsimp only at hSw); go_simp; (try with_reducible rfl))
            (try simp only [Act.put, List.getElem_toArray, List.getElem_cons_zero, List.getElem_cons_succ, List.setIfInBounds_toArray, List.set_cons_zero, List.set_cons_succ])
            refine wpS_take (i := 3) (v := ?_) rfl (by kernel_rfl) (fun _ _ _ h => h) (Or.inl ⟨by rfl, ?_⟩) (by assumption) ?_
            rotate_left
            · (intro w9 hSw; (try dsimp only at hSw); go_simp; (try with_reducible rfl))
            (try simp only [Act.put, List.getElem_toArray, List.getElem_cons_zero, List.getElem_cons_succ, List.setIfInBounds_toArray, List.set_cons_zero, List.set_cons_succ])
            refine wpS_take (i := 4) (v := undef) rfl (by kernel_rfl) (fun _ _ _ h => h) (Or.inr ⟨by rfl, rfl⟩) (by assumption) ?_
            (try simp only [Act.put, List.getElem_toArray, List.getElem_cons_zero, List.getElem_cons_succ, List.setIfInBounds_toArray, List.set_cons_zero, List.set_cons_succ])
            refine wpS_take (i := 5) (v := undef) rfl (by kernel_rfl) (fun _ _ _ h => h) (Or.inr ⟨by rfl, rfl⟩) (by assumption) ?_
            (try simp only [Act.put, List.getElem_toArray, List.getElem_cons_zero, List.getElem_cons_succ, List.setIfInBounds_toArray, List.set_cons_zero, List.set_cons_succ])
            refine wpS_take (i := 6) (v := undef) rfl (by kernel_rfl) (fun _ _ _ h => h) (Or.inr ⟨by rfl, rfl⟩) (by assumption) ?_
            (try simp only [Act.put, List.getElem_toArray, List.getElem_cons_zero, List.getElem_cons_succ, List.setIfInBounds_toArray, List.set_cons_zero, List.set_cons_succ])
            refine wpS_take (i := 7) (v := undef) rfl (by kernel_rfl) (fun _ _ _ h => h) (Or.inr ⟨by rfl, rfl⟩) (by assumption) ?_
            (try simp only [Act.put, List.getElem_toArray, List.getElem_cons_zero, List.getElem_cons_succ, List.setIfInBounds_toArray, List.set_cons_zero, List.set_cons_succ])
            refine wpS_take (i := 8) (v := undef) rfl (by kernel_rfl) (fun _ _ _ h => h) (Or.inr ⟨by rfl, rfl⟩) (by assumption) ?_
            (try simp only [Act.put, List.getElem_toArray, List.getElem_cons_zero, List.getElem_cons_succ, List.setIfInBounds_toArray, List.set_cons_zero, List.set_cons_succ])
            refine wpS_take (i := 9) (v := undef) rfl (by kernel_rfl) (fun _ _ _ h => h) (Or.inr ⟨by rfl, rfl⟩) (by assumption) ?_
            (try simp only [Act.put, List.getElem_toArray, List.getElem_cons_zero, List.getElem_cons_succ, List.setIfInBounds_toArray, List.set_cons_zero, List.set_cons_succ])
            refine wpS_take (i := 10) (v := undef) rfl (by kernel_rfl) (fun _ _ _ h => h) (Or.inr ⟨by rfl, rfl⟩) (by assumption) ?_
            (try simp only [Act.put, List.getElem_toArray, List.getElem_cons_zero, List.getElem_cons_succ, List.setIfInBounds_toArray, List.set_cons_zero, List.set_cons_succ])
            refine wpS_take (i := 11) (v := undef) rfl (by kernel_rfl) (fun _ _ _ h => h) (Or.inr ⟨by rfl, rfl⟩) (by assumption) ?_
            (try simp only [Act.put, List.getElem_toArray, List.getElem_cons_zero, List.getElem_cons_succ, List.setIfInBounds_toArray, List.set_cons_zero, List.set_cons_succ])
            refine wpS_take (i := 12) (v := undef) rfl (by kernel_rfl) (fun _ _ _ h => h) (Or.inr ⟨by rfl, rfl⟩) (by assumption) ?_
            (try simp only [Act.put, List.getElem_toArray, List.getElem_cons_zero, List.getElem_cons_succ, List.setIfInBounds_toArray, List.set_cons_zero, List.set_cons_succ])
            refine wpS_take (i := 13) (v := undef) rfl (by kernel_rfl) (fun _ _ _ h => h) (Or.inr ⟨by rfl, rfl⟩) (by assumption) ?_
            (try simp only [Act.put, List.getElem_toArray, List.getElem_cons_zero, List.getElem_cons_succ, List.setIfInBounds_toArray, List.set_cons_zero, List.set_cons_succ])
            refine wpS_take (i := 14) (v := undef) rfl (by kernel_rfl) (fun _ _ _ h => h) (Or.inr ⟨by rfl, rfl⟩) (by assumption) ?_
            (try simp only [Act.put, List.getElem_toArray, List.getElem_cons_zero, List.getElem_cons_succ, List.setIfInBounds_toArray, List.set_cons_zero, List.set_cons_succ])
            refine wpS_take (i := 15) (v := undef) rfl (by kernel_rfl) (fun _ _ _ h => h) (Or.inr ⟨by rfl, rfl⟩) (by assumption) ?_
            (try simp only [Act.put, List.getElem_toArray, List.getElem_cons_zero, List.getElem_cons_succ, List.setIfInBounds_toArray, List.set_cons_zero, List.set_cons_succ])
            refine wpS_take (i := 16) (v := undef) rfl (by kernel_rfl) (fun _ _ _ h => h) (Or.inr ⟨by rfl, rfl⟩) (by assumption) ?_
            (try simp only [Act.put, List.getElem_toArray, List.getElem_cons_zero, List.getElem_cons_succ, List.setIfInBounds_toArray, List.set_cons_zero, List.set_cons_succ])
            refine wpS_take (i := 17) (v := undef) rfl (by kernel_rfl) (fun _ _ _ h => h) (Or.inr ⟨by rfl, rfl⟩) (by assumption) ?_
            (try simp only [Act.put, List.getElem_toArray, List.getElem_cons_zero, List.getElem_cons_succ, List.setIfInBounds_toArray, List.set_cons_zero, List.set_cons_succ])
            refine wpS_ready (rs := [18]) (by kernel_rfl) (by simp) ?_
            refine AllReadyS.last rfl (by kernel_rfl) (fun K hK => ?_)
            go_simp
            refine hK.out _ _ ?_
            clear hK K
            (try simp only [Act.put, List.getElem_toArray, List.getElem_cons_zero, List.getElem_cons_succ, List.setIfInBounds_toArray, List.set_cons_zero, List.set_cons_succ])
            refine wpS_done (by kernel_rfl) ?_ _
            skip
            go_wp2_with (at_builtin; refine papp_Int _ _ rfl rfl (u) rfl rfl (alloc_at (by first | rfl | (simp; done) | (simp; omega))) rfl ((SN.out.list (.head _)).next (by repeat' (first | with_reducible exact Below.refl _ _ | with_reducible assumption | with_reducible refine Below.drew ?_ | with_reducible refine Below.alloc ?_ ?_ _ | with_reducible refine Below.setCell ?_ ?_ _ | with_reducible refine below_drewN ?_ _ | (simp; done) | (simp; omega)))) (by first | omega | (simp; omega)) (by have := SN.out.low.size; first | omega | (simp; done) | (simp; omega) | (simp at this ⊢; omega)) ?_; intro v7 w7 ha; obtain ⟨g7, S7⟩ := (SN.out.next (by repeat' (first | with_reducible exact Below.refl _ _ | with_reducible assumption | with_reducible refine Below.drew ?_ | with_reducible refine Below.alloc ?_ ?_ _ | with_reducible refine Below.setCell ?_ ?_ _ | with_reducible refine below_drewN ?_ _ | (simp; done) | (simp; omega)))).app ha; have S8 := Lib.hid S7; clear S7 ha)
            go_roundw
            case rel => exact ⟨j + 1, _, hlt, by go_num, by rw [HS.out]; exact S8⟩
            case measure => simp [intOf] <;> omega
          · rw [List.concat_eq_append] at h0
            have HN := Lib.hid (fun h => ddu_new (u := u) hsk h)
            have HE := Lib.hid (fun h => ddu_same (u := u) HSO.out hsk h)
            rw [hout] at HN HE
            subst h0
            obtain ⟨Ao, co, rfl, _⟩ := (SN.out.list (.head _)).form
            have hyl : (o' ++ [y])[o'.length]? = some y := by simp
            obtain ⟨gC, rfl⟩ := head_ptr (SN.out.list (.head _)) hyl
            have hcc := (SN.out.list (.head _)).cells (fun z => rfl) hyl 0 (.int .i64 y) rfl
            rw [Nat.mul_one, Nat.add_zero] at hcc
            have hln2 : o'.length + 1 ≤ j := by simpa using hln
            simp only [List.length_append, List.length_singleton] at SN ⊢
            clear hpl hsk hpi hu hout hln hyl
            have hd1 : decide ((o'.length : Int) + 1 = 0) = false := decide_eq_false (by omega)
            have hd2 : (((o'.length + 1 : Nat) : Int) == 0) = false := by simp; omega
            have hd3 : (((o'.length : Int) + 1) == 0) = false := by simp; omega
            have hw1 : IntKind.i64.wrap (o'.length : Int) = o'.length := by rw [wrapE]; unfold wrap64; omega
            have hlt9 : (o'.length : Int) < (o'.length : Int) + 1 := by omega
            by_cases hyu : y = u
            · subst hyu
              have HS := Lib.hid (HE.out (by simp))
              clear HN HE
              go_wp2
              refine wp_region_S (S := (fun W' => W'.cell? ⟨gA, j, none⟩ = some (.int .i64 (pl : Int)) ∧ W'.cell? ⟨gB, pl, none⟩ = some (.int .i64 y) ∧ W'.cell? ⟨gC, o'.length, none⟩ = some (.int .i64 y))) (by kernel_rfl) ?_ (fun hHeld => ?_)
              · (first | exact ⟨hca, hcb, hcc⟩ | go_keep)
              refine wpS_take (i := 0) (v := ?_) rfl (by kernel_rfl) (fun _ _ _ h => h) (Or.inl ⟨by rfl, ?_⟩) (by assumption) ?_
              rotate_left
              · (intro w9 hSw; (try dsimp only at hSw); go_simp; (try with_reducible rfl))
              (try simp only [Act.put, List.getElem_toArray, List.getElem_cons_zero, List.getElem_cons_succ, List.setIfInBounds_toArray, List.set_cons_zero, List.set_cons_succ])
              refine wpS_take (i := 1) (v := ?_) rfl (by kernel_rfl) (fun _ _ _ h => h) (Or.inl ⟨by rfl, ?_⟩) (by assumption) ?_
              rotate_left
              · (intro w9 hSw; (try dsimp only at hSw); go_simp; (try with_reducible rfl))
              (try simp only [Act.put, List.getElem_toArray, List.getElem_cons_zero, List.getElem_cons_succ, List.setIfInBounds_toArray, List.set_cons_zero, List.set_cons_succ])
              refine wpS_take (i := 2) (v := ?_) rfl (by kernel_rfl) (fun _ _ _ h => h) (Or.inl ⟨by rfl, ?_⟩) (by assumption) ?_
              rotate_left
              · (intro w9 hSw; (try dsimp only at hSw); go_simp; (try with_reducible rfl))
              (try simp only [Act.put, List.getElem_toArray, List.getElem_cons_zero, List.getElem_cons_succ, List.setIfInBounds_toArray, List.set_cons_zero, List.set_cons_succ])
              refine wpS_take (i := 3) (v := ?_) rfl (by kernel_rfl) (fun _ _ _ h => h) (Or.inl ⟨by rfl, ?_⟩) (by assumption) ?_
              rotate_left
              · (intro w9 hSw; (try dsimp only at hSw); go_simp; (try with_reducible rfl))
              (try simp only [Act.put, List.getElem_toArray, List.getElem_cons_zero, List.getElem_cons_succ, List.setIfInBounds_toArray, List.set_cons_zero, List.set_cons_succ])
              refine wpS_take (i := 4) (v := ?_) rfl (by kernel_rfl) (fun _ _ _ h => h) (Or.inl ⟨by rfl, ?_⟩) (by assumption) ?_
              rotate_left
              · (intro w9 hSw; (try dsimp only at hSw); go_simp; (try with_reducible rfl))
              (try simp only [Act.put, List.getElem_toArray, List.getElem_cons_zero, List.getElem_cons_succ, List.setIfInBounds_toArray, List.set_cons_zero, List.set_cons_succ])
              refine wpS_take (i := 5) (v := ?_) rfl (by kernel_rfl) (fun _ _ _ h => h) (Or.inl ⟨by rfl, ?_⟩) (by assumption) ?_
              rotate_left
              · (intro w9 hSw; (try dsimp only at hSw); go_simp; (try with_reducible rfl))
              (try simp only [Act.put, List.getElem_toArray, List.getElem_cons_zero, List.getElem_cons_succ, List.setIfInBounds_toArray, List.set_cons_zero, List.set_cons_succ])
              refine wpS_take (i := 6) (v := ?_) rfl (by kernel_rfl) (fun _ _ _ h => h) (Or.inl ⟨by rfl, ?_⟩) (by assumption) ?_
              rotate_left
              · (intro w9 hSw; (try dsimp only at hSw); go_simp; (try with_reducible rfl))
              (try simp only [Act.put, List.getElem_toArray, List.getElem_cons_zero, List.getElem_cons_succ, List.setIfInBounds_toArray, List.set_cons_zero, List.set_cons_succ])
              refine wpS_take (i := 7) (v := ?_) rfl (by kernel_rfl) (fun _ _ _ h => h) (Or.inl ⟨by rfl, ?_⟩) (by assumption) ?_
              rotate_left
              · (intro w9 hSw; (try dsimp only at hSw); go_simp; (try with_reducible rfl))
              (try simp only [Act.put, List.getElem_toArray, List.getElem_cons_zero, List.getElem_cons_succ, List.setIfInBounds_toArray, List.set_cons_zero, List.set_cons_succ])
              refine wpS_take (i := 8) (v := ?_) rfl (by kernel_rfl) (fun _ _ _ h => h) (Or.inl ⟨by rfl, ?_⟩) (by assumption) ?_
              rotate_left
              · (intro w9 hSw; (try dsimp only at hSw); go_simp; (try with_reducible rfl))
              (try simp only [Act.put, List.getElem_toArray, List.getElem_cons_zero, List.getElem_cons_succ, List.setIfInBounds_toArray, List.set_cons_zero, List.set_cons_succ])
              refine wpS_take (i := 9) (v := ?_) rfl (by kernel_rfl) (fun _ _ _ h => h) (Or.inl ⟨by rfl, ?_⟩) (by assumption) ?_
              rotate_left
              · (intro w9 hSw; (try dsimp only at hSw); go_simp; (try with_reducible rfl))
              (try simp only [Act.put, List.getElem_toArray, List.getElem_cons_zero, List.getElem_cons_succ, List.setIfInBounds_toArray, List.set_cons_zero, List.set_cons_succ])
              refine wpS_take (i := 10) (v := ?_) rfl (by kernel_rfl) (fun _ _ _ h => h) (Or.inl ⟨by rfl, ?_⟩) (by assumption) ?_
              rotate_left
              · (intro w9 hSw; (try dsimp only at hSw); go_simp; (try with_reducible rfl))
              (try simp only [Act.put, List.getElem_toArray, List.getElem_cons_zero, List.getElem_cons_succ, List.setIfInBounds_toArray, List.set_cons_zero, List.set_cons_succ])
              refine wpS_take (i := 11) (v := ?_) rfl (by kernel_rfl) (fun _ _ _ h => h) (Or.inl ⟨by rfl, ?_⟩) (by assumption) ?_
              rotate_left
              · (intro w9 hSw; (try dsimp only at hSw); go_simp; (try with_reducible rfl))
              (try simp only [Act.put, List.getElem_toArray, List.getElem_cons_zero, List.getElem_cons_succ, List.setIfInBounds_toArray, List.set_cons_zero, List.set_cons_succ])
              refine wpS_take (i := 12) (v := ?_) rfl (by kernel_rfl) (fun _ _ _ h => h) (Or.inl ⟨by rfl, ?_⟩) (by assumption) ?_
              rotate_left
              · (intro w9 hSw; (try dsimp only at hSw); go_simp; (try with_reducible rfl))
              (try simp only [Act.put, List.getElem_toArray, List.getElem_cons_zero, List.getElem_cons_succ, List.setIfInBounds_toArray, List.set_cons_zero, List.set_cons_succ])
              refine wpS_take (i := 13) (v := ?_) rfl (by kernel_rfl) (fun _ _ _ h => h) (Or.inl ⟨by rfl, ?_⟩) (by assumption) ?_
              rotate_left
              · (intro w9 hSw; (try dsimp only at hSw); go_simp; (try with_reducible rfl))
              (try simp only [Act.put, List.getElem_toArray, List.getElem_cons_zero, List.getElem_cons_succ, List.setIfInBounds_toArray, List.set_cons_zero, List.set_cons_succ])
              refine wpS_take (i := 14) (v := ?_) rfl (by kernel_rfl) (fun _ _ _ h => h) (Or.inl ⟨by rfl, ?_⟩) (by assumption) ?_
              rotate_left
              · (intro w9 hSw; (try dsimp only at hSw); go_simp; (try with_reducible rfl))
              (try simp only [Act.put, List.getElem_toArray, List.getElem_cons_zero, List.getElem_cons_succ, List.setIfInBounds_toArray, List.set_cons_zero, List.set_cons_succ])
              refine wpS_take (i := 15) (v := ?_) rfl (by kernel_rfl) (fun _ _ _ h => h) (Or.inl ⟨by rfl, ?_⟩) (by assumption) ?_
              rotate_left
              · (intro w9 hSw; (try dsimp only at hSw); go_simp; (try with_reducible rfl))
              (try simp only [Act.put, List.getElem_toArray, List.getElem_cons_zero, List.getElem_cons_succ, List.setIfInBounds_toArray, List.set_cons_zero, List.set_cons_succ])
              refine wpS_take (i := 16) (v := ?_) rfl (by kernel_rfl) (fun _ _ _ h => h) (Or.inl ⟨by rfl, ?_⟩) (by assumption) ?_
              rotate_left
              · (intro w9 hSw; (try dsimp only at hSw); go_simp; (try with_reducible rfl))
              (try simp only [Act.put, List.getElem_toArray, List.getElem_cons_zero, List.getElem_cons_succ, List.setIfInBounds_toArray, List.set_cons_zero, List.set_cons_succ])
              refine wpS_take (i := 17) (v := ?_) rfl (by kernel_rfl) (fun _ _ _ h => h) (Or.inl ⟨by rfl, ?_⟩) (by assumption) ?_
              rotate_left
              · (intro w9 hSw; (try dsimp only at hSw); go_simp; (try with_reducible rfl))
              (try simp only [Act.put, List.getElem_toArray, List.getElem_cons_zero, List.getElem_cons_succ, List.setIfInBounds_toArray, List.set_cons_zero, List.set_cons_succ])
              refine wpS_ready (rs := [18]) (by kernel_rfl) (by simp) ?_
              refine AllReadyS.last rfl (by kernel_rfl) (fun K hK => ?_)
              go_simp
              refine hK.out _ _ ?_
              clear hK K
              (try simp only [Act.put, List.getElem_toArray, List.getElem_cons_zero, List.getElem_cons_succ, List.setIfInBounds_toArray, List.set_cons_zero, List.set_cons_succ])
              refine wpS_done (by kernel_rfl) ?_ _
              skip
              go_wp2
              go_roundw
              case rel => exact ⟨j + 1, _, hlt, by go_num, by rw [HS.out]; first | exact SN | exact Lib.hid SN.out.drew⟩
              case measure => simp [intOf] <;> omega
            · have HS := Lib.hid (HN.out (by simpa using hyu))
              have he1 : (y == u) = false := by simpa using hyu
              have he2 : (y != u) = true := by simpa using hyu
              have he3 : decide (y = u) = false := decide_eq_false hyu
              clear HN HE hyu
              go_wp2
              refine wp_region_S (S := (fun W' => W'.cell? ⟨gA, j, none⟩ = some (.int .i64 (pl : Int)) ∧ W'.cell? ⟨gB, pl, none⟩ = some (.int .i64 u) ∧ W'.cell? ⟨gC, o'.length, none⟩ = some (.int .i64 y))) (by kernel_rfl) ?_ (fun hHeld => ?_)
              · (first | exact ⟨hca, hcb, hcc⟩ | go_keep)
              refine wpS_take (i := 0) (v := ?_) rfl (by kernel_rfl) (fun _ _ _ h => h) (Or.inl ⟨by rfl, ?_⟩) (by assumption) ?_
              rotate_left
              · (intro w9 hSw; (try dsimp only at hSw); go_simp; (try with_reducible rfl))
              (try simp only [Act.put, List.getElem_toArray, List.getElem_cons_zero, List.getElem_cons_succ, List.setIfInBounds_toArray, List.set_cons_zero, List.set_cons_succ])
              refine wpS_take (i := 1) (v := ?_) rfl (by kernel_rfl) (fun _ _ _ h => h) (Or.inl ⟨by rfl, ?_⟩) (by assumption) ?_
              rotate_left
              · (intro w9 hSw; (try dsimp only at hSw); go_simp; (try with_reducible rfl))
              (try simp only [Act.put, List.getElem_toArray, List.getElem_cons_zero, List.getElem_cons_succ, List.setIfInBounds_toArray, List.set_cons_zero, List.set_cons_succ])
              refine wpS_take (i := 2) (v := ?_) rfl (by kernel_rfl) (fun _ _ _ h => h) (Or.inl ⟨by rfl, ?_⟩) (by assumption) ?_
              rotate_left
              · (intro w9 hSw; (try dsimp only at hSw); go_simp; (try with_reducible rfl))
              (try simp only [Act.put, List.getElem_toArray, List.getElem_cons_zero, List.getElem_cons_succ, List.setIfInBounds_toArray, List.set_cons_zero, List.set_cons_succ])
              refine wpS_take (i := 3) (v := ?_) rfl (by kernel_rfl) (fun _ _ _ h => h) (Or.inl ⟨by rfl, ?_⟩) (by assumption) ?_
              rotate_left
              · (intro w9 hSw; (try dsimp only at hSw); go_simp; (try with_reducible rfl))
              (try simp only [Act.put, List.getElem_toArray, List.getElem_cons_zero, List.getElem_cons_succ, List.setIfInBounds_toArray, List.set_cons_zero, List.set_cons_succ])
              refine wpS_take (i := 4) (v := ?_) rfl (by kernel_rfl) (fun _ _ _ h => h) (Or.inl ⟨by rfl, ?_⟩) (by assumption) ?_
              rotate_left
              · (intro w9 hSw; (try dsimp only at hSw); go_simp; (try with_reducible rfl))
              (try simp only [Act.put, List.getElem_toArray, List.getElem_cons_zero, List.getElem_cons_succ, List.setIfInBounds_toArray, List.set_cons_zero, List.set_cons_succ])
              refine wpS_take (i := 5) (v := ?_) rfl (by kernel_rfl) (fun _ _ _ h => h) (Or.inl ⟨by rfl, ?_⟩) (by assumption) ?_
              rotate_left
              · (intro w9 hSw; (try dsimp only at hSw); go_simp; (try with_reducible rfl))
              (try simp only [Act.put, List.getElem_toArray, List.getElem_cons_zero, List.getElem_cons_succ, List.setIfInBounds_toArray, List.set_cons_zero, List.set_cons_succ])
              refine wpS_take (i := 6) (v := ?_) rfl (by kernel_rfl) (fun _ _ _ h => h) (Or.inl ⟨by rfl, ?_⟩) (by assumption) ?_
              rotate_left
              · (intro w9 hSw; (try dsimp only at hSw); go_simp; (try with_reducible rfl))
              (try simp only [Act.put, List.getElem_toArray, List.getElem_cons_zero, List.getElem_cons_succ, List.setIfInBounds_toArray, List.set_cons_zero, List.set_cons_succ])
              refine wpS_take (i := 7) (v := ?_) rfl (by kernel_rfl) (fun _ _ _ h => h) (Or.inl ⟨by rfl, ?_⟩) (by assumption) ?_
              rotate_left
              · (intro w9 hSw; (try dsimp only at hSw); go_simp; (try with_reducible rfl))
              (try simp only [Act.put, List.getElem_toArray, List.getElem_cons_zero, List.getElem_cons_succ, List.setIfInBounds_toArray, List.set_cons_zero, List.set_cons_succ])
              refine wpS_take (i := 8) (v := ?_) rfl (by kernel_rfl) (fun _ _ _ h => h) (Or.inl ⟨by rfl, ?_⟩) (by assumption) ?_
              rotate_left
              · (intro w9 hSw; (try dsimp only at hSw); go_simp; (try with_reducible rfl))
              (try simp only [Act.put, List.getElem_toArray, List.getElem_cons_zero, List.getElem_cons_succ, List.setIfInBounds_toArray, List.set_cons_zero, List.set_cons_succ])
              refine wpS_take (i := 9) (v := ?_) rfl (by kernel_rfl) (fun _ _ _ h => h) (Or.inl ⟨by rfl, ?_⟩) (by assumption) ?_
              rotate_left
              · (intro w9 hSw; (try dsimp only at hSw); go_simp; (try with_reducible rfl))
              (try simp only [Act.put, List.getElem_toArray, List.getElem_cons_zero, List.getElem_cons_succ, List.setIfInBounds_toArray, List.set_cons_zero, List.set_cons_succ])
              refine wpS_take (i := 10) (v := ?_) rfl (by kernel_rfl) (fun _ _ _ h => h) (Or.inl ⟨by rfl, ?_⟩) (by assumption) ?_
              rotate_left
              · (intro w9 hSw; (try dsimp only at hSw); go_simp; (try with_reducible rfl))
              (try simp only [Act.put, List.getElem_toArray, List.getElem_cons_zero, List.getElem_cons_succ, List.setIfInBounds_toArray, List.set_cons_zero, List.set_cons_succ])
              refine wpS_take (i := 11) (v := ?_) rfl (by kernel_rfl) (fun _ _ _ h => h) (Or.inl ⟨by rfl, ?_⟩) (by assumption) ?_
              rotate_left
              · (intro w9 hSw; (try dsimp only at hSw); go_simp; (try with_reducible rfl))
              (try simp only [Act.put, List.getElem_toArray, List.getElem_cons_zero, List.getElem_cons_succ, List.setIfInBounds_toArray, List.set_cons_zero, List.set_cons_succ])
              refine wpS_take (i := 12) (v := ?_) rfl (by kernel_rfl) (fun _ _ _ h => h) (Or.inl ⟨by rfl, ?_⟩) (by assumption) ?_
              rotate_left
              · (intro w9 hSw; (try dsimp only at hSw); go_simp; (try with_reducible rfl))
              (try simp only [Act.put, List.getElem_toArray, List.getElem_cons_zero, List.getElem_cons_succ, List.setIfInBounds_toArray, List.set_cons_zero, List.set_cons_succ])
              refine wpS_take (i := 13) (v := ?_) rfl (by kernel_rfl) (fun _ _ _ h => h) (Or.inl ⟨by rfl, ?_⟩) (by assumption) ?_
              rotate_left
              · (intro w9 hSw; (try dsimp only at hSw); go_simp; (try with_reducible rfl))
              (try simp only [Act.put, List.getElem_toArray, List.getElem_cons_zero, List.getElem_cons_succ, List.setIfInBounds_toArray, List.set_cons_zero, List.set_cons_succ])
              refine wpS_take (i := 14) (v := ?_) rfl (by kernel_rfl) (fun _ _ _ h => h) (Or.inl ⟨by rfl, ?_⟩) (by assumption) ?_
              rotate_left
              · (intro w9 hSw; (try dsimp only at hSw); go_simp; (try with_reducible rfl))
              (try simp only [Act.put, List.getElem_toArray, List.getElem_cons_zero, List.getElem_cons_succ, List.setIfInBounds_toArray, List.set_cons_zero, List.set_cons_succ])
              refine wpS_take (i := 15) (v := ?_) rfl (by kernel_rfl) (fun _ _ _ h => h) (Or.inl ⟨by rfl, ?_⟩) (by assumption) ?_
              rotate_left
              · (intro w9 hSw; (try dsimp only at hSw); go_simp; (try with_reducible rfl))
              (try simp only [Act.put, List.getElem_toArray, List.getElem_cons_zero, List.getElem_cons_succ, List.setIfInBounds_toArray, List.set_cons_zero, List.set_cons_succ])
              refine wpS_take (i := 16) (v := ?_) rfl (by kernel_rfl) (fun _ _ _ h => h) (Or.inl ⟨by rfl, ?_⟩) (by assumption) ?_
              rotate_left
              · (intro w9 hSw; (try dsimp only at hSw); go_simp; (try with_reducible rfl))
              (try simp only [Act.put, List.getElem_toArray, List.getElem_cons_zero, List.getElem_cons_succ, List.setIfInBounds_toArray, List.set_cons_zero, List.set_cons_succ])
              refine wpS_take (i := 17) (v := ?_) rfl (by kernel_rfl) (fun _ _ _ h => h) (Or.inl ⟨by rfl, ?_⟩) (by assumption) ?_
              rotate_left
              · (intro w9 hSw; (try dsimp only at hSw); go_simp; (try with_reducible rfl))
              (try simp only [Act.put, List.getElem_toArray, List.getElem_cons_zero, List.getElem_cons_succ, List.setIfInBounds_toArray, List.set_cons_zero, List.set_cons_succ])
              refine wpS_ready (rs := [18]) (by kernel_rfl) (by simp) ?_
              refine AllReadyS.last rfl (by kernel_rfl) (fun K hK => ?_)
              go_simp
              refine hK.out _ _ ?_
              clear hK K
              (try simp only [Act.put, List.getElem_toArray, List.getElem_cons_zero, List.getElem_cons_succ, List.setIfInBounds_toArray, List.set_cons_zero, List.set_cons_succ])
              refine wpS_done (by kernel_rfl) ?_ _
              skip
              go_wp2_with (at_builtin; refine papp_Int _ _ rfl rfl (u) rfl rfl (alloc_at (by first | rfl | (simp; done) | (simp; omega))) rfl ((SN.out.list (.head _)).next (by repeat' (first | with_reducible exact Below.refl _ _ | with_reducible assumption | with_reducible refine Below.drew ?_ | with_reducible refine Below.alloc ?_ ?_ _ | with_reducible refine Below.setCell ?_ ?_ _ | with_reducible refine below_drewN ?_ _ | (simp; done) | (simp; omega)))) (by first | omega | (simp; omega)) (by have := SN.out.low.size; first | omega | (simp; done) | (simp; omega) | (simp at this ⊢; omega)) ?_; intro v7 w7 ha; obtain ⟨g7, S7⟩ := (SN.out.next (by repeat' (first | with_reducible exact Below.refl _ _ | with_reducible assumption | with_reducible refine Below.drew ?_ | with_reducible refine Below.alloc ?_ ?_ _ | with_reducible refine Below.setCell ?_ ?_ _ | with_reducible refine below_drewN ?_ _ | (simp; done) | (simp; omega)))).app ha; have S8 := Lib.hid S7; clear S7 ha)
              go_roundw
              case rel => exact ⟨j + 1, _, hlt, by go_num, by rw [HS.out]; exact S8⟩
              case measure => simp [intOf] <;> omega
        · obtain rfl : j = zs.length := by omega
          go_wp2
          go_ret
          rw [HM.out]
          exact SN.out.ints
end Go.Proofs.YtioijfplbgpjpaaGreat


namespace Go.Proofs.YtioijfplbgpjpaaGreat
set_option linter.unusedVariables false
set_option linter.unusedSimpArgs false
set_option maxRecDepth 100000
open Go.RowKit
theorem flat_apart {fps : List (List Nat)} (h : fps.flatten.Nodup) {i j : Nat} {f f' : List Nat} (hi : fps[i]? = some f) (hj : fps[j]? = some f') (hne : i ≠ j) {b : Nat} (hb : b ∈ f) (hb' : b ∈ f') : False := by
  have h2 := (List.pairwise_flatten.1 h).2
  rw [List.pairwise_iff_getElem] at h2
  obtain ⟨h3, rfl⟩ := List.getElem?_eq_some_iff.1 hi
  obtain ⟨h4, rfl⟩ := List.getElem?_eq_some_iff.1 hj
  rcases Nat.lt_or_gt_of_ne hne with h5 | h5
  · exact h2 i j h3 h4 h5 b hb b hb' rfl
  · exact h2 j i h4 h3 h5 b hb' b hb rfl
section
variable {α : Type} {e K : Nat} {E : World → List Value → α → List Nat → Prop} {w w' : World} {base : Nat} {v : Value} {xs : List α} {fp : List Nat}
/-- what may be put in the place of element j -/
def Back (e K : Nat) (E : World → List Value → α → List Nat → Prop) (w : World) (base : Nat) (v : Value) (xs : List α) (fp f : List Nat) (g j : Nat) : Prop :=
  ∀ (w' : World) (ecs' : List Value) (x' : α), ecs'.length = K → w.heap.size ≤ w'.heap.size → w'.heap[g]? = (setW w g (j * K) ecs').heap[g]? → (∀ b ∈ fp, b ≠ g → b ∉ f → w'.heap[b]? = w.heap[b]?) → E w' ecs' x' f → OL e K E w' base v (xs.set j x') fp
theorem OL.elem (h : OL e K E w base v xs fp) (hE : EFr E) {j : Nat} {x : α} (hx : xs[j]? = some x) :
    ∃ g c ecs f, (∀ b ∈ fp, b < w.heap.size) ∧ v = .slice (some ⟨g, 0, none⟩) xs.length c ∧ base ≤ g ∧ g < w.heap.size ∧ g ∈ fp ∧ g ∉ f ∧ (∀ b ∈ f, b ∈ fp) ∧ ecs.length = K ∧ E w ecs x f ∧
      (∀ (t : Nat) (u : Value), ecs[t]? = some u → w.cell? ⟨g, j * K + t, none⟩ = some u) ∧ (∀ o, w.frozen? ⟨g, o, none⟩ = false) ∧ Back e K E w base v xs fp f g j := by
  obtain ⟨cs, ifp, h1, rfl, hnd, hbd, fps, rfl, hfl, h5⟩ := h
  have hj := (List.getElem?_eq_some_iff.1 hx).1
  obtain ⟨ecs, f, h6, h7, h8, h9⟩ := h5 j x hj hx
  rcases h1.2 with ⟨_, h0⟩ | ⟨g, cap, cur, rfl, hg, _⟩
  · omega
  have hgm : g ∈ (Value.slice (some ⟨g, 0, none⟩) xs.length cap).ownBlock.toList ++ fps.flatten := by simp [Value.ownBlock]
  have hnd' := (List.nodup_append.1 hnd)
  have hfm : ∀ {f' : List Nat} {i : Nat}, fps[i]? = some f' → ∀ b ∈ f', b ∈ fps.flatten := fun hi b hb => List.mem_flatten.2 ⟨_, List.mem_of_getElem? hi, hb⟩
  have hgf : ∀ {f' : List Nat} {i : Nat}, fps[i]? = some f' → ∀ b ∈ f', b ≠ g := fun hi b hb e => hnd'.2.2 g (by simp [Value.ownBlock]) b (hfm hi b hb) e.symm
  refine ⟨g, cap, ecs, f, fun b hb => (hbd b hb).2, rfl, hg, (hbd g hgm).2, hgm, fun hm => hgf h7 g hm rfl, fun b hb => List.mem_append.2 (.inr (hfm h7 b hb)), h6, h8, fun t u hu => ?_, h1.frozenAt, fun w' ecs' x' hl hs hg' hk hE' => ?_⟩
  · have ht := (List.getElem?_eq_some_iff.1 hu).1
    have hlt : j * K + t < xs.length * K := by
      have : (j + 1) * K ≤ xs.length * K := Nat.mul_le_mul_right _ hj
      rw [Nat.add_mul] at this
      omega
    rw [h1.cellAt _ hlt]
    exact h9 t u hu
  · have hst := storedL ecs' cs w (j * K) h1
    have hle : j * K + K ≤ cs.length := by rw [h1.1, ← Nat.succ_mul]; exact Nat.mul_le_mul_right _ hj
    have hg2 := fun i => setL_get ecs' cs (j * K) i (by rw [hl]; exact hle)
    refine ⟨setL cs (j * K) ecs', fps.flatten, ?_, by simp, hnd, fun b hb => ⟨(hbd b hb).1, Nat.lt_of_lt_of_le (hbd b hb).2 hs⟩, fps, rfl, by simp [hfl], fun i y hi hy => ?_⟩
    · rw [List.length_set]
      exact own_block hst (fun b hb => by simp [Value.ownBlock] at hb; rw [← hb, hg'])
    · by_cases hij : i = j
      · subst hij
        rw [List.getElem?_set_self hj] at hy
        injection hy with hy
        subst hy
        refine ⟨ecs', f, hl, h7, hE', fun t u hu => ?_⟩
        have ht := (List.getElem?_eq_some_iff.1 hu).1
        rw [hg2, if_pos (by omega), show i * K + t - i * K = t by omega, hu]
      · rw [List.getElem?_set_ne (fun e => hij e.symm)] at hy
        obtain ⟨ecs2, f2, g1, g2, g3, g4⟩ := h5 i y (List.getElem?_eq_some_iff.1 hy).1 hy
        refine ⟨ecs2, f2, g1, g2, hE _ _ _ _ _ (fun b hb => hk b (List.mem_append.2 (.inr (hfm g2 b hb))) (hgf g2 b hb) (fun hb' => flat_apart hnd'.2.1 g2 h7 hij hb hb')) g3, fun t u hu => ?_⟩
        have ht := (List.getElem?_eq_some_iff.1 hu).1
        rw [hg2, if_neg ?_]
        · exact g4 t u hu
        · rcases Nat.lt_or_gt_of_ne hij with h | h
          · have : (i + 1) * K ≤ j * K := Nat.mul_le_mul_right _ h
            rw [Nat.add_mul] at this
            omega
          · have : (j + 1) * K ≤ i * K := Nat.mul_le_mul_right _ h
            rw [Nat.add_mul] at this
            omega
end
theorem setCell_same {w : World} {g o : Nat} {u : Value} (h : w.cell? ⟨g, o, none⟩ = some u) : (w.setCell ⟨g, o, none⟩ u).heap[g]? = w.heap[g]? := by
  unfold World.cell? at h
  simp only at h
  cases hg : w.heap[g]? with
  | none => simp [hg] at h
  | some ob =>
    rw [hg] at h
    obtain ⟨hlt, hg'⟩ := Array.getElem?_eq_some_iff.1 hg
    cases ob <;> simp at h
    rename_i c elem fr
    have : c.setIfInBounds o u = c := by
      apply Array.ext_getElem?
      intro i
      by_cases hi : i = o
      · subst hi
        rw [Array.getElem?_setIfInBounds_self, h]
        have := (Array.getElem?_eq_some_iff.1 h).1
        simp [this]
      · rw [Array.getElem?_setIfInBounds_ne (fun e => hi e.symm)]
    simp [World.setCell, Array.getElem?_modify, hg, this]
/-- marked cartons -/
def mkC : Int → List Carton → List Carton
  | _, [] => []
  | k, c :: cs => ⟨k, k + 1, mkS 1 mkInt (k + 1 + 1) c.units.length⟩ :: mkC (k + 1 + 1 + ((c.units.length * 1 : Nat) : Int)) cs
theorem mkC_length : ∀ (cs : List Carton) (k : Int), (mkC k cs).length = cs.length
  | [], _ => rfl
  | c :: cs, k => by simp [mkC, mkC_length cs]
theorem cntC_append : ∀ (a b : List Carton), cntC (a ++ b) = cntC a + cntC b
  | [], b => by simp [cntC]
  | c :: a, b => by simp [cntC, cntC_append a b]; omega
theorem mkC_append : ∀ (a b : List Carton) (k : Int), mkC k (a ++ b) = mkC k a ++ mkC (k + (cntC a : Nat)) b
  | [], b, k => by simp [mkC, cntC]
  | c :: a, b, k => by
    simp only [List.cons_append, mkC, mkC_append a b, cntC]
    congr 3
    omega
theorem mkC_snoc {xs : List Carton} {j : Nat} {x : Carton} (hx : xs[j]? = some x) (k : Int) : mkC k (xs.take (j + 1)) = mkC k (xs.take j) ++ [⟨k + (cntC (xs.take j) : Nat), k + (cntC (xs.take j) : Nat) + 1, mkS 1 mkInt (k + (cntC (xs.take j) : Nat) + 1 + 1) x.units.length⟩] := by
  rw [List.take_add_one, hx, Option.toList_some, mkC_append]
  rfl
theorem cntC_snoc {xs : List Carton} {j : Nat} {x : Carton} (hx : xs[j]? = some x) : cntC (xs.take (j + 1)) = cntC (xs.take j) + (2 + x.units.length) := by
  rw [List.take_add_one, hx, Option.toList_some, cntC_append]
  rfl
theorem cntC_take (xs : List Carton) (j : Nat) : cntC (xs.take j) ≤ cntC xs := by
  have h := cntC_append (xs.take j) (xs.drop j)
  rw [List.take_append_drop] at h
  omega
theorem set_mix {α : Type} {pre xs : List α} {j : Nat} (hp : pre.length = j) (hj : j < xs.length) (y : α) : (pre ++ xs.drop j).set j y = (pre ++ [y]) ++ xs.drop (j + 1) := by
  rw [← hp, List.set_append_right _ _ (Nat.le_refl _), Nat.sub_self, hp, List.drop_eq_getElem_cons hj, List.set_cons_zero]
  simp
set_option maxHeartbeats 400000 in
theorem markCartonS_any (v : Value) (xs : List Carton) (fp : List Nat) (k : Int) (base : Nat) (w : World) (h : OCartons w base v xs fp) (hb : cntC xs ≤ 16777216) (h0 : 0 ≤ k) (h1 : k ≤ 2147483648) :
    Calls Tryz.prog 111 #[v, .int .i64 k] w fun e w' => e = .returned (.int .i64 (k + (cntC xs : Nat))) ∧ OCartons w' base v (mkC k xs) fp ∧ Tch fp w w' := by
  obtain ⟨A, c, rfl⟩ := OL.form h
  have H := Lib.hid h
  have hlen : xs.length ≤ 16777216 := by rw [cntC_le] at hb; omega
  clear h
  go_enter Tryz.func111, Tryz.ntmps111
  go_wp2
  go_loopw [1, 5] (fun kk i wr => ∃ j : Nat, ∃ m : Int, j ≤ xs.length ∧ 0 ≤ m ∧ m ≤ 4294967296 ∧ kk = .int .i64 m ∧ i = .int .i64 j ∧ m = k + (cntC (xs.take j) : Nat) ∧ OCartons wr base (.slice A xs.length c) (mkC k (xs.take j) ++ xs.drop j) fp ∧ Tch fp w wr) (fun _ i _ => xs.length - (intOf i).toNat)
  case atStart => exact ⟨0, k, Nat.zero_le _, h0, by omega, rfl, rfl, by simp [cntC], by simpa [mkC] using H.out, Tch.refl _ _⟩
  case round =>
    obtain ⟨j, m, hj, hm0, hm1, rfl, rfl, hm, ho, ht⟩ := hrel
    have HM := Lib.hid hm
    by_cases hlt : j < xs.length
    · obtain ⟨x, hx⟩ : ∃ x, xs[j]? = some x := ⟨_, List.getElem?_eq_getElem hlt⟩
      have hpl : (mkC k (xs.take j)).length = j := by rw [mkC_length, List.length_take]; omega
      have hx' : (mkC k (xs.take j) ++ xs.drop j)[j]? = some x := by rw [List.getElem?_append_right (by omega), hpl, Nat.sub_self, List.getElem?_drop]; simpa using hx
      have hcn := cntC_snoc hx
      have hct := cntC_take xs (j + 1)
      have hul : x.units.length ≤ 16777216 := by omega
      have hm3 : m + 2 + x.units.length ≤ 4294967296 := by omega
      have HCN := Lib.hid hcn
      obtain ⟨g, c', ecs, f, hfl, heq, hg1, hg2, hgf, hgn, hff, hel, ⟨vu, rfl, hou, rfl⟩, hcell, hfr, hback⟩ := OL.elem ho ECarton_fr hx'
      injection heq with e1 e2 e3
      subst e1
      subst e3
      clear e2
      have hc0 := hcell 0 _ rfl
      have hc1 := hcell 1 _ rfl
      have hc2 := hcell 2 _ rfl
      simp only [Nat.add_zero] at hc0
      have HB := Lib.hid hback
      have HX := Lib.hid hx
      have HT := Lib.hid ht
      have HP := Lib.hid hpl
      have HE := Lib.hid hff
      have hgu : ∀ b, vu.ownBlock = some b → b ≠ g := fun b hb e => hgn (by rw [hb]; simpa using e.symm)
      have hkeep : ∀ b, b ≠ g → (setW wr g (j * 3) [.int .i64 m, .int .i64 (m + 1)]).heap[b]? = wr.heap[b]? := fun b hb => heap_setW hb _ _ _
      have hou2 := own_block (w' := setW wr g (j * 3) [.int .i64 m, .int .i64 (m + 1)]) hou (fun b hb => hkeep b (hgu b hb))
      have HK := Lib.hid hkeep
      have HO := Lib.hid hou2
      clear hcell hx hx' hback ht hpl hm hcn hct ho hou hou2 hgu hff hkeep
      go_wp2_with fail
      refine (markIntS_any vu x.units (m + 1 + 1) 0 _ HO.out (by omega) (by omega) (by omega)).mono ?_
      rintro e w2 ⟨rfl, ho2, ht2⟩
      go_wp2
      go_roundw
      case rel =>
        have hm' := HM.out
        have hmk : mkC k (xs.take (j + 1)) = mkC k (xs.take j) ++ [⟨m, m + 1, mkS 1 mkInt (m + 1 + 1) x.units.length⟩] := by rw [mkC_snoc HX.out, hm']
        refine ⟨j + 1, _, hlt, ?_, ?_, rfl, by go_num, ?_, ?_, ?_⟩
        · omega
        · omega
        · rw [HCN.out]; omega
        · rw [hmk, ← set_mix HP.out hlt]
          refine HB.out w2 [.int .i64 m, .int .i64 (m + 1), vu] _ rfl ?_ ?_ ?_ ⟨vu, rfl, by rw [mkS_length]; exact ho2, rfl⟩
          · exact Nat.le_trans (by rw [size_setW]; exact Nat.le_refl _) ht2.size
          · exact (ht2.block g (by rw [size_setW]; exact hg2) (fun hm => hgn hm)).trans (setCell_same (w := setW wr g (j * 3) [.int .i64 m, .int .i64 (m + 1)]) (o := j * 3 + 1 + 1) ((World.cell?_setCell_other _ _ _ _ (by simp)).trans ((World.cell?_setCell_other _ _ _ _ (by simp)).trans hc2))).symm
          · intro b hb hne hnf
            refine (ht2.block b ?_ hnf).trans (HK.out b hne)
            rw [size_setW]
            exact hfl b hb
        · refine HT.out.trans ((Tch.setW hgf [.int .i64 m, .int .i64 (m + 1)] wr (j * 3) (Tch.refl _ _)).trans (ht2.sub HE.out))
      case measure => simp [intOf]; omega
    · obtain rfl : j = xs.length := by omega
      rw [List.drop_length, List.append_nil, List.take_length] at ho
      rw [List.take_length] at HM
      clear hm
      go_wp2
      go_ret
      exact ⟨ret_int HM.out, ho, ht⟩
def mkP (k : Int) (p : Plan) : Plan := ⟨mkC k p.cartons, mkS 4 mkSpot (k + (cntC p.cartons : Nat)) p.spots.length⟩
set_option maxHeartbeats 400000 in
theorem markPlan_any (v : Value) (p : Plan) (fp : List Nat) (k : Int) (base : Nat) (w : World) (h : OPlan w base v p fp) (hb : p.bulk ≤ 1048576) (h0 : 0 ≤ k) (h1 : k ≤ 1073741824) :
    Calls Tryz.prog 33 #[v, .int .i64 k] w fun e w' => e = .returned (.int .i64 (k + (cntP p : Nat))) ∧ OPlan w' base v (mkP k p) fp ∧ Tch fp w w' := by
  have hlt := h.lt
  obtain ⟨v1, v2, f1, f2, rfl, ho1, ho2, rfl, hn⟩ := h
  have hcb : cntC p.cartons ≤ 2097152 := by rw [cntC_le]; unfold Plan.bulk at hb; omega
  have hsb : p.spots.length ≤ 1048576 := by unfold Plan.bulk at hb; omega
  obtain ⟨n1, hn1⟩ : ∃ x, x = cntC p.cartons := ⟨_, rfl⟩
  rw [← hn1] at hcb
  have hd1 := (List.nodup_append.1 hn).2.2
  obtain ⟨A1, c1, rfl⟩ := OL.form ho1
  obtain ⟨A2, c2, rfl⟩ := OL.form ho2
  have hW : Below w.heap.size w (w.alloc (.cells #[.slice A1 p.cartons.length c1, .slice A2 p.spots.length c2] 46)) := (by repeat' (first | with_reducible exact Below.refl _ _ | with_reducible assumption | with_reducible refine Below.drew ?_ | with_reducible refine Below.alloc ?_ ?_ _ | with_reducible refine Below.setCell ?_ ?_ _ | with_reducible refine below_drewN ?_ _ | (simp; done) | (simp; omega)))
  have hmk := fun W (hw : OCartons W base (.slice A1 p.cartons.length c1) p.cartons f1) => markCartonS_any _ p.cartons f1 k base W hw (by rw [← hn1]; omega) h0 (by omega)
  rw [← hn1] at hmk
  have HN1 := Lib.hid hn1
  have HM := Lib.hid hmk
  have H1 := Lib.hid (OL.below ho1 ECarton_fr hW (fun b hb => (OL.lt ho1 b hb).2))
  have H2 := Lib.hid (OL.below ho2 (eflat_fr _) hW (fun b hb => (OL.lt ho2 b hb).2))
  have hbox := heap_alloc_new w (.cells #[.slice A1 p.cartons.length c1, .slice A2 p.spots.length c2] 46)
  have HBX := Lib.hid hbox
  have HD := Lib.hid hd1
  have HN := Lib.hid hn
  have hlo : ∀ b ∈ f1 ++ f2, b < w.heap.size := fun b hb => (hlt b hb).2
  have HLO := Lib.hid hlo
  clear hn1 hmk ho1 ho2 hbox hd1 hlt hlo hn
  go_enter Tryz.func33, Tryz.ntmps33
  go_wp2_with fail
  refine (HM.out _ H1.out).mono ?_
  rintro e w1 ⟨rfl, ho1, ht1⟩
  have hbx1 := (ht1.block w.heap.size (by simp) (fun hm => by have := HLO.out _ (List.mem_append.2 (.inl hm)); omega)).trans HBX.out
  have hcx1 := fun j => cell_of_row _ _ j _ _ (0, 0) hbx1
  have HO1 := Lib.hid ho1
  have HT1 := Lib.hid ht1
  have ho2 := OL.tch H2.out (eflat_fr _) ht1 (fun b hb hm => HD.out b hm b hb rfl)
  obtain ⟨hrow, hf2⟩ := own_of_OL ho2 (fun _ => rfl)
  have HR := Lib.hid hrow
  have HF2 := Lib.hid hf2
  have HX1 := Lib.hid hbx1
  clear ho1 ht1 ho2 hrow hf2 hbx1
  go_wp2_with fail
  refine (markSpotS_any _ p.spots (k + (n1 : Int)) base _ HR.out (by omega) (by omega) (by omega)).mono ?_
  rintro e w2 ⟨rfl, ho2, ht2⟩
  have ht12 := ht2.sub (fp' := f1 ++ f2) (fun b hb => List.mem_append.2 (.inr (by rw [HF2.out]; exact hb)))
  have HT2 := Lib.hid ht12
  have HO2 := Lib.hid ho2
  have HT2' := Lib.hid ht2
  clear ht12 ho2 ht2
  go_wp2
  go_ret
  refine ⟨ret_int ?_, ⟨_, _, f1, f2, rfl, ?_, ?_, rfl, HN.out⟩, ?_⟩
  · have := HN1.out; unfold cntP; omega
  · refine (show OCartons _ _ _ (mkP k p).cartons f1 from ?_)
    rw [show (mkP k p).cartons = mkC k p.cartons from rfl]
    have := OL.tch HO1.out ECarton_fr HT2'.out (fun b hb hm => HD.out b hb b (by rw [HF2.out]; exact hm) rfl)
    exact this
  · rw [show (mkP k p).spots = mkS 4 mkSpot (k + (cntC p.cartons : Nat)) p.spots.length from rfl, HF2.out, ← HN1.out]
    refine OL_of_own ?_ (fun _ => rfl)
    rw [mkS_length]
    exact HO2.out
  · exact ((Tch.of hW _).trans (HT1.out.sub (fun b hb => List.mem_append.2 (.inl hb)))).trans HT2.out
end Go.Proofs.YtioijfplbgpjpaaGreat

namespace Go.Proofs.YtioijfplbgpjpaaGreat
set_option linter.unusedVariables false
set_option linter.unusedSimpArgs false
set_option maxRecDepth 100000
open Go.RowKit
section
variable {α : Type} {e K : Nat} {E : World → List Value → α → List Nat → Prop} {w w' : World} {base : Nat} {v : Value} {xs : List α} {fp : List Nat}
end
section
variable {w W W' : World} {L : List Fact} {v : Value} {p : Plan} {fp : List Nat} {b : Nat}
/-- a plan of the walk's own is written anew -/
theorem Sit.planTurn {l1 l2 : List Fact} {q : Plan} (h : Sit w W (l1 ++ fOP b v p fp :: l2)) (ht : Tch fp W W') (ho : OPlan W' b v q fp) : Sit w W' (l1 ++ fOP b v q fp :: l2) :=
  h.tch ht (fOP b v q fp) rfl (fOP_ok _ _ _ _) ho
end
end Go.Proofs.YtioijfplbgpjpaaGreat

namespace Go.Proofs.YtioijfplbgpjpaaGreat
set_option linter.unusedVariables false
set_option linter.unusedSimpArgs false
set_option maxRecDepth 100000
open Go.RowKit
theorem markInts_any (v : Value) (xs : List Int) (fp : List Nat) (k : Int) (base : Nat) (w : World) (h : OInts w base v xs fp) (hb : xs.length ≤ 16777216) (h0 : 0 ≤ k) (h1 : k ≤ 4294967296) :
    Calls Tryz.prog 34 #[v, .int .i64 k] w fun e w' => e = .returned (.int .i64 (k + ((xs.length * 1 : Nat) : Int))) ∧ OInts w' base v (mkS 1 mkInt k xs.length) fp ∧ Tch fp w w' := by
  obtain ⟨h, rfl⟩ := h
  exact (markIntS_any v xs k base w h hb h0 h1).mono fun e w' ⟨h1, h2, h3⟩ => ⟨h1, ⟨by rw [mkS_length]; exact h2, rfl⟩, h3⟩
theorem heldInts_any (v : Value) (xs : List Int) (k : Int) (w : World) (h : RInts 16777216 w w.heap.size v (mkS 1 mkInt k xs.length)) (_hb : xs.length ≤ 16777216) (h0 : 0 ≤ k) (h1 : k ≤ 4294967296) :
    Calls Tryz.prog 35 #[v, .int .i64 k] w fun e w' => e = .returned (.int .i64 (k + ((xs.length * 1 : Nat) : Int))) ∧ Below w.heap.size w w' :=
  (heldIntS_any v xs.length k w h h0 h1).mono fun e w' ⟨h1, h2⟩ => ⟨h1, h2 ▸ Below.refl _ _⟩
end Go.Proofs.YtioijfplbgpjpaaGreat

namespace Go.Proofs.YtioijfplbgpjpaaGreat
set_option linter.unusedVariables false
set_option linter.unusedSimpArgs false
set_option maxRecDepth 100000
end Go.Proofs.YtioijfplbgpjpaaGreat

