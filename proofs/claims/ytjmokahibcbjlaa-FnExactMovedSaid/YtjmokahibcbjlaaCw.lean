/-
  The walks over CartonWith (chapter 23).
-/
import Derived.Test.YtjmokahibcbjlaaSl
namespace Go.Proofs.Ytjmokahibcbjlaa
set_option linter.unusedVariables false
set_option linter.unusedSimpArgs false
open Go.RowKit
def hasU (u : Int) (c : Carton) : Bool := c.units.any fun y => u == y
def cwith (xs : List Carton) (u : Int) : Int := idxF (hasU u) xs
set_option maxHeartbeats 400000 in
theorem sCartonWith_any (v : Value) (p : Plan) (u : Int) (w : World) (h : RPlan 16777216 w w.heap.size v p) :
    Calls Try.prog 36 #[v, .int .i64 u] w fun e w' => e = .returned (.int .i64 (cwith p.cartons u)) ∧ Below w.heap.size w w' := by
  obtain ⟨v1, v2, rfl, h1, _⟩ := h
  have h' := h1
  obtain ⟨A, c, rfl, hbd, _⟩ := h1
  have H := Lib.hid h'
  clear h'
  go_enter Try.func36, Try.ntmps36
  go_wp2
  have hb0 := (Below.refl w.heap.size w).alloc (Nat.le_refl _) (.cells #[.slice A p.cartons.length c, v2] 30)
  go_loopw [5] (fun i wr => ∃ k : Nat, k ≤ p.cartons.length ∧ i = .int .i64 k ∧ (∀ i y, i < k → p.cartons[i]? = some y → hasU u y = false) ∧ wr.heap[w.heap.size]? = some (.cells #[.slice A p.cartons.length c, v2] 30 (0, 0)) ∧ Below w.heap.size w wr) (fun i _ => p.cartons.length - (intOf i).toNat)
  case atStart => exact ⟨0, Nat.zero_le _, rfl, fun _ _ h => by omega, by (simp only [heap_alloc_if, World.size_alloc]; repeat (first | rw [if_neg (by omega)] | rw [if_pos (by omega)] | rw [if_pos trivial])), hb0⟩
  case round =>
    obtain ⟨k, hk, rfl, hno, hbox, hbl⟩ := hrel
    have HN := Lib.hid hno
    clear hno
    have hbc := fun j => cell_of_row _ _ j _ _ (0, 0) hbox
    have HBX := Lib.hid hbox
    clear hbox
    by_cases hlt : k < p.cartons.length
    · obtain ⟨b, off, x, _, rfl, hb, hx, _, ⟨vx, rfl, hrx⟩, hc⟩ := (H.out.below (RCarton_mono _) hbl).at_ k hlt
      have hc2 := hc 2 _ rfl
      have HRX := Lib.hid (hrx.more (flat_mono _) hbl.size)
      clear hc hrx
      by_cases hq : hasU u x = true
      · have HI := Lib.hid (idxF_hit (p := hasU u) hx hq HN.out)
        have hq2 : (x.units.any fun y => u == y) = true := hq
        go_wp2_with (go_at_call 59; refine (l1Has_any vx x.units u _ HRX.out).mono ?_; rintro e w' ⟨rfl, rfl⟩; rw [hq2])
        go_ret
        exact ⟨ret_int HI.out.symm, hbl⟩
      · have hq' : hasU u x = false := by simpa using hq
        have hq2 : (x.units.any fun y => u == y) = false := hq'
        have HI := Lib.hid (miss_step HN.out hx hq')
        clear hq
        go_wp2_with (go_at_call 59; refine (l1Has_any vx x.units u _ HRX.out).mono ?_; rintro e w' ⟨rfl, rfl⟩; rw [hq2])
        go_roundw
        case rel => exact ⟨k + 1, hlt, by go_num, HI.out, HBX.out, hbl⟩
        case measure => simp [intOf]; omega
    · have HI := Lib.hid (idxF_miss (p := hasU u) (xs := p.cartons) (fun i y hi hy => HN.out i y (by omega) hy))
      go_wp2
      go_ret
      exact ⟨ret_int HI.out.symm, hbl⟩
set_option maxHeartbeats 400000 in
theorem indexFuncCarton_any (fn : FuncId) (cap : Array Value) (p : Carton → Bool) (v : Value) (xs : List Carton) (w : World) (h : RCartons 16777216 w w.heap.size v xs) (hrun : ∀ args W, (callFunc fn args).run Try.prog W = .ok (.enter fn args) W)
    (hf : ∀ (W : World) (x : Carton) (u : Value), Below w.heap.size w W → RInts 16777216 W W.heap.size u x.units → Calls Try.prog fn (#[.agg #[.int .i64 x.type, .int .i64 x.group, u]] ++ cap) W fun e w' => e = .returned (.bool (p x)) ∧ Below W.heap.size W w') :
    Calls Try.prog 62 #[v, .func (.func fn) #[] cap] w fun e w' => e = .returned (.int .i64 (idxF p xs)) ∧ Below w.heap.size w w' := by
  have h' := h
  obtain ⟨A, c, rfl, hbd, _⟩ := h
  have H := Lib.hid h'
  have HF := Lib.hid hf
  clear h' hf
  go_enter Try.func62, Try.ntmps62
  go_wp2
  go_loopw [8] (fun i wr => ∃ k : Nat, k ≤ xs.length ∧ i = .int .i64 k ∧ (∀ i y, i < k → xs[i]? = some y → p y = false) ∧ Below w.heap.size w wr) (fun i _ => xs.length - (intOf i).toNat)
  case atStart => exact ⟨0, Nat.zero_le _, rfl, fun _ _ h => by omega, Below.refl _ _⟩
  case round =>
    obtain ⟨k, hk, rfl, hno, hbl⟩ := hrel
    have HN := Lib.hid hno
    clear hno
    by_cases hlt : k < xs.length
    · obtain ⟨b, off, x, _, rfl, hb, hx, _, ⟨vx, rfl, hrx⟩, hc⟩ := (H.out.below (RCarton_mono _) hbl).at_ k hlt
      have hc0 := hc 0 _ rfl
      have hc1 := hc 1 _ rfl
      have hc2 := hc 2 _ rfl
      simp only [Nat.add_zero] at hc0
      have HC := Lib.hid (HF.out wr x vx hbl (hrx.more (flat_mono _) hbl.size))
      clear hc hrx
      by_cases hq : p x = true
      · have HI := Lib.hid (idxF_hit (p := p) hx hq HN.out)
        go_wp2_with fail
        refine HC.out.mono ?_
        rintro e w2 ⟨rfl, hb2⟩
        rw [hq]
        go_wp2
        go_ret
        exact ⟨ret_int HI.out.symm, hbl.trans (hb2.mono hbl.size)⟩
      · have hq' : p x = false := by simpa using hq
        have HI := Lib.hid (miss_step HN.out hx hq')
        clear hq
        go_wp2_with fail
        refine HC.out.mono ?_
        rintro e w2 ⟨rfl, hb2⟩
        rw [hq']
        go_wp2
        go_roundw
        case rel => exact ⟨k + 1, hlt, by go_num, HI.out, hbl.trans (hb2.mono hbl.size)⟩
        case measure => simp [intOf]; omega
    · have HI := Lib.hid (idxF_miss (p := p) (xs := xs) (fun i y hi hy => HN.out i y (by omega) hy))
      go_wp2
      go_ret
      exact ⟨ret_int HI.out.symm, hbl⟩
set_option maxHeartbeats 400000 in
theorem cartonWith1_any (x : Carton) (v : Value) (u : Int) (b : Nat) (w : World) (hr : RInts 16777216 w w.heap.size v x.units) (hc : w.cell? ⟨b, 0, none⟩ = some (.int .i64 u)) :
    Calls Try.prog 63 #[.agg #[.int .i64 x.type, .int .i64 x.group, v], .pointer (some ⟨b, 0, none⟩)] w fun e w' => e = .returned (.bool (hasU u x)) ∧ Below w.heap.size w w' := by
  have hb := World.block_lt_of_cell? w _ hc
  have HR := Lib.hid hr
  clear hr
  go_enter Try.func63, Try.ntmps63
  go_wp2_with fail
  refine (containsInt_any v x.units u _ (HR.out.next (flat_mono _) ((Below.refl _ _).alloc (Nat.le_refl _) _))).mono ?_
  rintro e w' ⟨rfl, rfl⟩
  go_wp2
  go_ret
  exact ⟨rfl, (by repeat' (first | with_reducible exact Below.refl _ _ | with_reducible assumption | with_reducible refine Below.drew ?_ | with_reducible refine Below.alloc ?_ ?_ _ | with_reducible refine Below.setCell ?_ ?_ _ | with_reducible refine below_drewN ?_ _ | (simp; done) | (simp; omega)))⟩
set_option maxHeartbeats 400000 in
theorem iCartonWith_any (v : Value) (p : Plan) (u : Int) (w : World) (h : RPlan 16777216 w w.heap.size v p) :
    Calls Try.prog 38 #[v, .int .i64 u] w fun e w' => e = .returned (.int .i64 (cwith p.cartons u)) ∧ Below w.heap.size w w' := by
  obtain ⟨v1, v2, rfl, h1, _⟩ := h
  have H := Lib.hid h1
  clear h1
  have hb0 : Below w.heap.size w ((w.alloc (.cells #[v1, v2] 30)).alloc (.cells #[.int .i64 u] 3)) := (by repeat' (first | with_reducible exact Below.refl _ _ | with_reducible assumption | with_reducible refine Below.drew ?_ | with_reducible refine Below.alloc ?_ ?_ _ | with_reducible refine Below.setCell ?_ ?_ _ | with_reducible refine below_drewN ?_ _ | (simp; done) | (simp; omega)))
  have hq : ((w.alloc (.cells #[v1, v2] 30)).alloc (.cells #[.int .i64 u] 3)).cell? ⟨w.heap.size + 1, 0, none⟩ = some (.int .i64 u) := by simp
  go_enter Try.func38, Try.ntmps38
  go_wp2_with fail
  refine (indexFuncCarton_any 63 #[.pointer (some ⟨w.heap.size + 1, 0, none⟩)] (hasU u) v1 p.cartons _ (H.out.next (RCarton_mono _) hb0) (run_enter Try.func63 (by kernel_rfl) (by kernel_rfl))
    (fun W x vx hW hr => cartonWith1_any x vx u (w.heap.size + 1) W hr ((hW.cell (p := ⟨w.heap.size + 1, 0, none⟩) (by simp)).trans hq))).mono ?_
  rintro e w2 ⟨rfl, hb2⟩
  go_wp2
  go_ret
  exact ⟨rfl, bstep hb0 hb2⟩
end Go.Proofs.Ytjmokahibcbjlaa
