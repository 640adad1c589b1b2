/-
  slices.IndexFunc and slices.ContainsFunc at the program's flat types. Written by wip/ixfam.py.
-/
import Derived.Test.YteamlfcfillbjaaGreatRq
import Derived.Test.YteamlfcfillbjaaGreatSl
namespace Go.Proofs.YteamlfcfillbjaaGreat
set_option linter.unusedVariables false
set_option linter.unusedSimpArgs false
set_option maxRecDepth 100000
open Go.RowKit
theorem idxF_any_ge {α : Type} (p : α → Bool) (xs : List α) : Hid (decide (0 ≤ idxF p xs) = xs.any p) := Lib.hid (idxF_any p xs)

set_option maxHeartbeats 400000 in
theorem indexFuncPair_any (fn : FuncId) (cap : Array Value) (p : Pair → Bool) (v : Value) (xs : List Pair) (w : World) (h : RL 16777216 2 (flat Pair.cells) w w.heap.size v xs) (hrun : ∀ args W, (callFunc fn args).run Tryz.prog W = .ok (.enter fn args) W)
    (hf : ∀ (W : World) (x : Pair), Below w.heap.size w W → x ∈ xs → Calls Tryz.prog fn (#[x.val] ++ cap) W fun e w' => e = .returned (.bool (p x)) ∧ Below W.heap.size W w') :
    Calls Tryz.prog 105 #[v, .func (.func fn) #[] cap] w fun e w' => e = .returned (.int .i64 (idxF p xs)) ∧ Below w.heap.size w w' := by
  have H := Lib.hid h
  have HF := Lib.hid fun (X : Ext w.heap.size w) (x : Pair) (hx : x ∈ xs) => ext_call (x := X) (Nat.le_refl _) (hf X.world x X.ok hx)
  obtain ⟨A, c, rfl, hbd, _⟩ := h
  clear hf
  go_enter Tryz.func105, Tryz.ntmps105
  go_wp2
  go_loopw [8] (fun i wr => ∃ (k : Nat) (X : Ext w.heap.size w), wr = X.world ∧ k ≤ xs.length ∧ i = .int .i64 k ∧ ∀ i y, i < k → xs[i]? = some y → p y = false) (fun i _ => xs.length - (intOf i).toNat)
  case atStart => exact ⟨0, Ext.here _ _, rfl, Nat.zero_le _, rfl, fun _ _ h => by omega⟩
  case round =>
    obtain ⟨k, X, rfl, hk, rfl, hno⟩ := hrel
    have HN := Lib.hid hno
    clear hno
    by_cases hlt : k < xs.length
    · obtain ⟨b, off, x, rfl, hb, hx, hc⟩ := H.out.flatX (fun X : Ext w.heap.size w => X.ok) k hlt
      have hc0 := hc 0 _ rfl
      have hc1 := hc 1 _ rfl
      simp only [Nat.add_zero] at hc0
      have HC := HF.out X x (List.mem_of_getElem? hx)
      obtain ⟨q, hq⟩ : ∃ q, p x = q := ⟨_, rfl⟩
      rw [hq] at HC
      have HC := Lib.hid HC
      have HI := Lib.hid (fun h : q = true => idxF_hit (p := p) hx (hq.trans h) HN.out)
      have HM := Lib.hid (fun h : q = false => miss_step HN.out hx (hq.trans h))
      clear hc hq
      go_wp2_with fail
      refine HC.out.mono ?_
      rintro e w2 ⟨rfl, Y, rfl⟩
      cases q
      · go_wp2
        (go_roundw; (case rel => exact ⟨k + 1, Y, rfl, hlt, by go_num, HM.out (by simp)⟩); (case measure => (simp [intOf]; omega)))
      · go_wp2
        go_ret
        exact ⟨ret_int (HI.out (by simp)).symm, Y.ok⟩
    · have HI := Lib.hid (idxF_miss (p := p) (xs := xs) (fun i y hi hy => HN.out i y (by omega) hy))
      go_wp2
      go_ret
      exact ⟨ret_int HI.out.symm, X.ok⟩
set_option maxHeartbeats 400000 in
theorem containsFuncPair_any (fn : FuncId) (cap : Array Value) (p : Pair → Bool) (v : Value) (xs : List Pair) (w : World) (h : RL 16777216 2 (flat Pair.cells) w w.heap.size v xs) (hrun : ∀ args W, (callFunc fn args).run Tryz.prog W = .ok (.enter fn args) W)
    (hf : ∀ (W : World) (x : Pair), Below w.heap.size w W → x ∈ xs → Calls Tryz.prog fn (#[x.val] ++ cap) W fun e w' => e = .returned (.bool (p x)) ∧ Below W.heap.size W w') :
    Calls Tryz.prog 92 #[v, .func (.func fn) #[] cap] w fun e w' => e = .returned (.bool (xs.any p)) ∧ Below w.heap.size w w' := by
  have HA := Lib.hid (idxF_any p xs)
  have HC := Lib.hid (indexFuncPair_any fn cap p v xs w h hrun hf)
  clear h hf hrun
  go_enter Tryz.func92, Tryz.ntmps92
  go_wp2_with fail
  refine HC.out.mono ?_
  rintro e w2 ⟨rfl, hb2⟩
  go_wp2
  go_ret
  exact ⟨ret_bool HA.out, hb2⟩
set_option maxHeartbeats 400000 in
theorem indexFuncType_any (fn : FuncId) (cap : Array Value) (p : GType → Bool) (v : Value) (xs : List GType) (w : World) (h : RL 16777216 7 (flat GType.cells) w w.heap.size v xs) (hrun : ∀ args W, (callFunc fn args).run Tryz.prog W = .ok (.enter fn args) W)
    (hf : ∀ (W : World) (x : GType), Below w.heap.size w W → x ∈ xs → Calls Tryz.prog fn (#[x.val] ++ cap) W fun e w' => e = .returned (.bool (p x)) ∧ Below W.heap.size W w') :
    Calls Tryz.prog 102 #[v, .func (.func fn) #[] cap] w fun e w' => e = .returned (.int .i64 (idxF p xs)) ∧ Below w.heap.size w w' := by
  have H := Lib.hid h
  have HF := Lib.hid fun (X : Ext w.heap.size w) (x : GType) (hx : x ∈ xs) => ext_call (x := X) (Nat.le_refl _) (hf X.world x X.ok hx)
  obtain ⟨A, c, rfl, hbd, _⟩ := h
  clear hf
  go_enter Tryz.func102, Tryz.ntmps102
  go_wp2
  go_loopw [8] (fun i wr => ∃ (k : Nat) (X : Ext w.heap.size w), wr = X.world ∧ k ≤ xs.length ∧ i = .int .i64 k ∧ ∀ i y, i < k → xs[i]? = some y → p y = false) (fun i _ => xs.length - (intOf i).toNat)
  case atStart => exact ⟨0, Ext.here _ _, rfl, Nat.zero_le _, rfl, fun _ _ h => by omega⟩
  case round =>
    obtain ⟨k, X, rfl, hk, rfl, hno⟩ := hrel
    have HN := Lib.hid hno
    clear hno
    by_cases hlt : k < xs.length
    · obtain ⟨b, off, x, rfl, hb, hx, hc⟩ := H.out.flatX (fun X : Ext w.heap.size w => X.ok) k hlt
      have hc0 := hc 0 _ rfl
      have hc1 := hc 1 _ rfl
      have hc2 := hc 2 _ rfl
      have hc3 := hc 3 _ rfl
      have hc4 := hc 4 _ rfl
      have hc5 := hc 5 _ rfl
      have hc6 := hc 6 _ rfl
      simp only [Nat.add_zero] at hc0
      have HC := HF.out X x (List.mem_of_getElem? hx)
      obtain ⟨q, hq⟩ : ∃ q, p x = q := ⟨_, rfl⟩
      rw [hq] at HC
      have HC := Lib.hid HC
      have HI := Lib.hid (fun h : q = true => idxF_hit (p := p) hx (hq.trans h) HN.out)
      have HM := Lib.hid (fun h : q = false => miss_step HN.out hx (hq.trans h))
      clear hc hq
      go_wp2_with fail
      refine HC.out.mono ?_
      rintro e w2 ⟨rfl, Y, rfl⟩
      cases q
      · go_wp2
        (go_roundw; (case rel => exact ⟨k + 1, Y, rfl, hlt, by go_num, HM.out (by simp)⟩); (case measure => (simp [intOf]; omega)))
      · go_wp2
        go_ret
        exact ⟨ret_int (HI.out (by simp)).symm, Y.ok⟩
    · have HI := Lib.hid (idxF_miss (p := p) (xs := xs) (fun i y hi hy => HN.out i y (by omega) hy))
      go_wp2
      go_ret
      exact ⟨ret_int HI.out.symm, X.ok⟩
set_option maxHeartbeats 400000 in
theorem containsFuncType_any (fn : FuncId) (cap : Array Value) (p : GType → Bool) (v : Value) (xs : List GType) (w : World) (h : RL 16777216 7 (flat GType.cells) w w.heap.size v xs) (hrun : ∀ args W, (callFunc fn args).run Tryz.prog W = .ok (.enter fn args) W)
    (hf : ∀ (W : World) (x : GType), Below w.heap.size w W → x ∈ xs → Calls Tryz.prog fn (#[x.val] ++ cap) W fun e w' => e = .returned (.bool (p x)) ∧ Below W.heap.size W w') :
    Calls Tryz.prog 86 #[v, .func (.func fn) #[] cap] w fun e w' => e = .returned (.bool (xs.any p)) ∧ Below w.heap.size w w' := by
  have HA := Lib.hid (idxF_any p xs)
  have HC := Lib.hid (indexFuncType_any fn cap p v xs w h hrun hf)
  clear h hf hrun
  go_enter Tryz.func86, Tryz.ntmps86
  go_wp2_with fail
  refine HC.out.mono ?_
  rintro e w2 ⟨rfl, hb2⟩
  go_wp2
  go_ret
  exact ⟨ret_bool HA.out, hb2⟩
set_option maxHeartbeats 400000 in
theorem indexFuncItem_any (fn : FuncId) (cap : Array Value) (p : Item → Bool) (v : Value) (xs : List Item) (w : World) (h : RL 16777216 7 (flat Item.cells) w w.heap.size v xs) (hrun : ∀ args W, (callFunc fn args).run Tryz.prog W = .ok (.enter fn args) W)
    (hf : ∀ (W : World) (x : Item), Below w.heap.size w W → x ∈ xs → Calls Tryz.prog fn (#[x.val] ++ cap) W fun e w' => e = .returned (.bool (p x)) ∧ Below W.heap.size W w') :
    Calls Tryz.prog 76 #[v, .func (.func fn) #[] cap] w fun e w' => e = .returned (.int .i64 (idxF p xs)) ∧ Below w.heap.size w w' := by
  have H := Lib.hid h
  have HF := Lib.hid fun (X : Ext w.heap.size w) (x : Item) (hx : x ∈ xs) => ext_call (x := X) (Nat.le_refl _) (hf X.world x X.ok hx)
  obtain ⟨A, c, rfl, hbd, _⟩ := h
  clear hf
  go_enter Tryz.func76, Tryz.ntmps76
  go_wp2
  go_loopw [8] (fun i wr => ∃ (k : Nat) (X : Ext w.heap.size w), wr = X.world ∧ k ≤ xs.length ∧ i = .int .i64 k ∧ ∀ i y, i < k → xs[i]? = some y → p y = false) (fun i _ => xs.length - (intOf i).toNat)
  case atStart => exact ⟨0, Ext.here _ _, rfl, Nat.zero_le _, rfl, fun _ _ h => by omega⟩
  case round =>
    obtain ⟨k, X, rfl, hk, rfl, hno⟩ := hrel
    have HN := Lib.hid hno
    clear hno
    by_cases hlt : k < xs.length
    · obtain ⟨b, off, x, rfl, hb, hx, hc⟩ := H.out.flatX (fun X : Ext w.heap.size w => X.ok) k hlt
      have hc0 := hc 0 _ rfl
      have hc1 := hc 1 _ rfl
      have hc2 := hc 2 _ rfl
      have hc3 := hc 3 _ rfl
      have hc4 := hc 4 _ rfl
      have hc5 := hc 5 _ rfl
      have hc6 := hc 6 _ rfl
      simp only [Nat.add_zero] at hc0
      have HC := HF.out X x (List.mem_of_getElem? hx)
      obtain ⟨q, hq⟩ : ∃ q, p x = q := ⟨_, rfl⟩
      rw [hq] at HC
      have HC := Lib.hid HC
      have HI := Lib.hid (fun h : q = true => idxF_hit (p := p) hx (hq.trans h) HN.out)
      have HM := Lib.hid (fun h : q = false => miss_step HN.out hx (hq.trans h))
      clear hc hq
      go_wp2_with fail
      refine HC.out.mono ?_
      rintro e w2 ⟨rfl, Y, rfl⟩
      cases q
      · go_wp2
        (go_roundw; (case rel => exact ⟨k + 1, Y, rfl, hlt, by go_num, HM.out (by simp)⟩); (case measure => (simp [intOf]; omega)))
      · go_wp2
        go_ret
        exact ⟨ret_int (HI.out (by simp)).symm, Y.ok⟩
    · have HI := Lib.hid (idxF_miss (p := p) (xs := xs) (fun i y hi hy => HN.out i y (by omega) hy))
      go_wp2
      go_ret
      exact ⟨ret_int HI.out.symm, X.ok⟩
set_option maxHeartbeats 400000 in
theorem containsFuncItem_any (fn : FuncId) (cap : Array Value) (p : Item → Bool) (v : Value) (xs : List Item) (w : World) (h : RL 16777216 7 (flat Item.cells) w w.heap.size v xs) (hrun : ∀ args W, (callFunc fn args).run Tryz.prog W = .ok (.enter fn args) W)
    (hf : ∀ (W : World) (x : Item), Below w.heap.size w W → x ∈ xs → Calls Tryz.prog fn (#[x.val] ++ cap) W fun e w' => e = .returned (.bool (p x)) ∧ Below W.heap.size W w') :
    Calls Tryz.prog 83 #[v, .func (.func fn) #[] cap] w fun e w' => e = .returned (.bool (xs.any p)) ∧ Below w.heap.size w w' := by
  have HA := Lib.hid (idxF_any p xs)
  have HC := Lib.hid (indexFuncItem_any fn cap p v xs w h hrun hf)
  clear h hf hrun
  go_enter Tryz.func83, Tryz.ntmps83
  go_wp2_with fail
  refine HC.out.mono ?_
  rintro e w2 ⟨rfl, hb2⟩
  go_wp2
  go_ret
  exact ⟨ret_bool HA.out, hb2⟩
end Go.Proofs.YteamlfcfillbjaaGreat
