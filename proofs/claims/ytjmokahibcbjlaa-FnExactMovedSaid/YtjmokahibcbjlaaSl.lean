/-
  The walks over the library's functions on slices at the program's own types, and over the reference's searches in lists.
-/
import Derived.Test.YtjmokahibcbjlaaPl
namespace Go.Proofs.Ytjmokahibcbjlaa
set_option linter.unusedVariables false
set_option linter.unusedSimpArgs false
open Go.RowKit
/-- a call of a function value whose function has a body enters it -/
theorem run_enter {P : Program} {F : FuncId} {f : Func} (h : P.funcs[F]? = some f) (hn : (f.name == "runtime.NumGoroutine") = false) (hb : f.body.isNone = false) (args : Array Value) (W : World) : (callFunc F args).run P W = .ok (.enter F args) W := by
  have hn' : ¬ f.name = "runtime.NumGoroutine" := by simpa using hn
  have hb' : ¬ f.body = none := by intro e; rw [e] at hb; cases hb
  unfold callFunc
  simp [Sem.run_bind, Sem.run, program, h, hn', hb', Result.andThen]
/-- the place of the first element that p takes; -1 -/
def idxF {α : Type} (p : α → Bool) (xs : List α) : Int := match xs.findIdx? p with
  | some i => (i : Int)
  | none => -1
theorem idxF_hit {α : Type} {p : α → Bool} {xs : List α} {k : Nat} {x : α} (hx : xs[k]? = some x) (hp : p x = true) (h : ∀ i y, i < k → xs[i]? = some y → p y = false) : idxF p xs = k := by
  have hk := (List.getElem?_eq_some_iff.1 hx).1
  have : xs.findIdx? p = some k := by
    rw [List.findIdx?_eq_some_iff_getElem]
    refine ⟨hk, by rw [(List.getElem?_eq_some_iff.1 hx).2]; exact hp, fun j hj => ?_⟩
    rw [h j _ hj (List.getElem?_eq_getElem (by omega))]; simp
  unfold idxF; rw [this]
theorem idxF_miss {α : Type} {p : α → Bool} {xs : List α} (h : ∀ i y, i < xs.length → xs[i]? = some y → p y = false) : idxF p xs = -1 := by
  have : xs.findIdx? p = none := by
    rw [List.findIdx?_eq_none_iff]
    intro x hx
    obtain ⟨i, hi⟩ := List.mem_iff_getElem?.1 hx
    exact h i x (List.getElem?_eq_some_iff.1 hi).1 hi
  unfold idxF; rw [this]
theorem miss_step {α : Type} {p : α → Bool} {xs : List α} {k : Nat} {x : α} (h : ∀ i y, i < k → xs[i]? = some y → p y = false) (hx : xs[k]? = some x) (hp : p x = false) : ∀ i y, i < k + 1 → xs[i]? = some y → p y = false := by
  intro i y hi hy
  rcases Nat.lt_or_ge i k with h1 | h1
  · exact h i y h1 hy
  · obtain rfl : i = k := by omega
    rw [hx] at hy
    injection hy with hy
    rw [← hy]
    exact hp
theorem idxF_any {α : Type} (p : α → Bool) (xs : List α) : decide (0 ≤ idxF p xs) = xs.any p := by
  unfold idxF
  cases h : xs.findIdx? p with
  | none =>
    rw [List.findIdx?_eq_none_iff] at h
    have : xs.any p = false := by rw [List.any_eq_false]; intro x hx; simp [h x hx]
    rw [this]; rfl
  | some i =>
    obtain ⟨hi, hp, _⟩ := List.findIdx?_eq_some_iff_getElem.1 h
    have : xs.any p = true := List.any_eq_true.2 ⟨xs[i], List.getElem_mem _, hp⟩
    rw [this]; simp
theorem idxF_lt {α : Type} (p : α → Bool) (xs : List α) : -1 ≤ idxF p xs ∧ idxF p xs < xs.length := by
  unfold idxF
  cases h : xs.findIdx? p with
  | none => simp; omega
  | some i => obtain ⟨hi, _⟩ := List.findIdx?_eq_some_iff_getElem.1 h; simp; omega
set_option maxHeartbeats 400000 in
theorem indexInt_any (v : Value) (xs : List Int) (u : Int) (w : World) (h : RInts 16777216 w w.heap.size v xs) :
    Calls Try.prog 72 #[v, .int .i64 u] w fun e w' => e = .returned (.int .i64 (idxF (fun y => u == y) xs)) ∧ w = w' := by
  have h' := h
  obtain ⟨A, c, rfl, hbd, _⟩ := h
  have H := Lib.hid h'
  clear h'
  go_enter Try.func72, Try.ntmps72
  go_wp2
  go_loop [8] (fun i => ∃ k : Nat, k ≤ xs.length ∧ i = .int .i64 k ∧ ∀ i y, i < k → xs[i]? = some y → (u == y) = false) (fun i => xs.length - (intOf i).toNat)
  case atStart => exact ⟨0, Nat.zero_le _, rfl, fun _ _ h => by omega⟩
  case round =>
    obtain ⟨k, hk, rfl, hno⟩ := hrel
    have HN := Lib.hid hno
    clear hno
    by_cases hlt : k < xs.length
    · obtain ⟨b, off, x, rfl, hb, hx, hc⟩ := H.out.at1 k hlt
      have hc0 := hc _ rfl
      clear hc
      by_cases hq : (u == x) = true
      · have HI := Lib.hid (idxF_hit (p := fun y => u == y) hx hq HN.out)
        go_wp2
        go_ret
        exact ⟨ret_int HI.out.symm, rfl⟩
      · have hq' : (u == x) = false := by simpa using hq
        have HI := Lib.hid (miss_step HN.out hx hq')
        clear hq
        go_wp2
        go_round
        case rel => exact ⟨k + 1, hlt, by go_num, HI.out⟩
        case measure => simp [intOf]; omega
    · have HI := Lib.hid (idxF_miss (p := fun y => u == y) (xs := xs) (fun i y hi hy => HN.out i y (by omega) hy))
      go_wp2
      go_ret
      exact ⟨ret_int HI.out.symm, rfl⟩
set_option maxHeartbeats 400000 in
theorem containsInt_any (v : Value) (xs : List Int) (u : Int) (w : World) (h : RInts 16777216 w w.heap.size v xs) :
    Calls Try.prog 64 #[v, .int .i64 u] w fun e w' => e = .returned (.bool (xs.any fun y => u == y)) ∧ w = w' := by
  have HA := Lib.hid (idxF_any (fun y => u == y) xs)
  go_enter Try.func64, Try.ntmps64
  go_wp2_with (go_at_call 72; refine (indexInt_any _ xs _ _ h).mono ?_; rintro e w' ⟨rfl, rfl⟩)
  all_goals go_ret
  all_goals exact ⟨ret_bool (by rw [← HA.out]), rfl⟩
set_option maxHeartbeats 400000 in
theorem l1Has_any (v : Value) (xs : List Int) (u : Int) (w : World) (h : RInts 16777216 w w.heap.size v xs) :
    Calls Try.prog 59 #[v, .int .i64 u] w fun e w' => e = .returned (.bool (xs.any fun y => u == y)) ∧ w = w' := by
  have h' := h
  obtain ⟨A, c, rfl, hbd, _⟩ := h
  have H := Lib.hid h'
  clear h'
  go_enter Try.func59, Try.ntmps59
  go_wp2
  go_loop [5] (fun i => ∃ k : Nat, k ≤ xs.length ∧ i = .int .i64 k ∧ ∀ i y, i < k → xs[i]? = some y → (u == y) = false) (fun i => xs.length - (intOf i).toNat)
  case atStart => exact ⟨0, Nat.zero_le _, rfl, fun _ _ h => by omega⟩
  case round =>
    obtain ⟨k, hk, rfl, hno⟩ := hrel
    have HN := Lib.hid hno
    clear hno
    by_cases hlt : k < xs.length
    · obtain ⟨b, off, x, rfl, hb, hx, hc⟩ := H.out.at1 k hlt
      have hc0 := hc _ rfl
      clear hc
      by_cases hq : (u == x) = true
      · have hxm : (xs.any fun y => u == y) = true := List.any_eq_true.2 ⟨x, List.mem_of_getElem? hx, hq⟩
        have HI := Lib.hid hxm
        have hq2 : (x == u) = true := by rw [beq_iff_eq] at hq ⊢; exact hq.symm
        clear hxm hq
        go_wp2
        go_ret
        exact ⟨ret_bool HI.out.symm, rfl⟩
      · have hq' : (u == x) = false := by simpa using hq
        have HI := Lib.hid (miss_step HN.out hx hq')
        have hq2 : (x == u) = false := by rw [beq_eq_false_iff_ne] at hq' ⊢; exact fun e => hq' e.symm
        clear hq hq'
        go_wp2
        go_round
        case rel => exact ⟨k + 1, hlt, by go_num, HI.out⟩
        case measure => simp [intOf]; omega
    · have hxm : (xs.any fun y => u == y) = false := by
        rw [List.any_eq_false]
        intro y hy
        obtain ⟨i, hi⟩ := List.mem_iff_getElem?.1 hy
        rw [HN.out i y (by have := (List.getElem?_eq_some_iff.1 hi).1; omega) hi]
        simp
      have HI := Lib.hid hxm
      clear hxm
      go_wp2
      go_ret
      exact ⟨ret_bool HI.out.symm, rfl⟩
end Go.Proofs.Ytjmokahibcbjlaa
