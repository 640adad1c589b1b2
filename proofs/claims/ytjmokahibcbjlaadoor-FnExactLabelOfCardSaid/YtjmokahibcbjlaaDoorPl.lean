/-
  The walks over the laws' helpers for cartons and plans: sizes, copies, comparisons.
-/
import Derived.Test.YtjmokahibcbjlaaDoorCt
namespace Go.Proofs.YtjmokahibcbjlaaDoor
set_option linter.unusedVariables false
set_option linter.unusedSimpArgs false
open Go.RowKit
def RCarton (bd : Nat) : World → Nat → List Value → Carton → Prop := fun w B cs x => ∃ v, cs = [.int .i64 x.type, .int .i64 x.group, v] ∧ RInts bd w B v x.units
theorem RCarton_mono (bd : Nat) : RMono (RCarton bd) := fun _ _ _ _ _ _ hk hB ⟨v, h1, h2⟩ => ⟨v, h1, h2.keep (flat_mono _) hk hB⟩
abbrev RCartons (bd : Nat) (w : World) (B : Nat) (v : Value) (xs : List Carton) : Prop := RL bd 3 (RCarton bd) w B v xs
abbrev RSpots (bd : Nat) (w : World) (B : Nat) (v : Value) (xs : List Spot) : Prop := RL bd 4 (flat Spot.cells) w B v xs
def RPlan (bd : Nat) (w : World) (B : Nat) (v : Value) (p : Plan) : Prop := ∃ v1 v2, v = .agg #[v1, v2] ∧ RCartons bd w B v1 p.cartons ∧ RSpots bd w B v2 p.spots
theorem RPlan.keep {bd : Nat} {w w' : World} {B B' : Nat} {v : Value} {p : Plan} (h : RPlan bd w B v p) (hk : ∀ q : Addr, q.block < B → w'.cell? q = w.cell? q) (hB : B ≤ B') : RPlan bd w' B' v p := by
  obtain ⟨v1, v2, rfl, h1, h2⟩ := h
  exact ⟨v1, v2, rfl, h1.keep (RCarton_mono bd) hk hB, h2.keep (flat_mono _) hk hB⟩
/-- carried to a later world, its bound the later heap -/
theorem RPlan.next {bd : Nat} {w w' : World} {v : Value} {p : Plan} (h : RPlan bd w w.heap.size v p) (hb : Below w.heap.size w w') : RPlan bd w' w'.heap.size v p := h.keep (fun _ hp => hb.cell hp) hb.size
/-- how much a plan holds -/
def Plan.bulk (p : Plan) : Nat := p.cartons.length + tot (fun c => c.units.length) p.cartons + p.spots.length
theorem units_le {p : Plan} {c : Carton} (h : c ∈ p.cartons) : c.units.length ≤ p.bulk := by
  obtain ⟨i, hi⟩ := List.mem_iff_getElem?.1 h
  have := tot_ge (fun c : Carton => c.units.length) hi
  unfold Plan.bulk
  omega
theorem RCarton.wide {bd bd' : Nat} {w : World} {B : Nat} {cs : List Value} {x : Carton} (h : RCarton bd w B cs x) (hb : x.units.length ≤ bd') : RCarton bd' w B cs x := by
  obtain ⟨v, h1, h2⟩ := h
  exact ⟨v, h1, h2.wide hb⟩
theorem RPlan.wide {bd bd' : Nat} {w : World} {B : Nat} {v : Value} {p : Plan} (h : RPlan bd w B v p) (hb : p.bulk ≤ bd') : RPlan bd' w B v p := by
  obtain ⟨v1, v2, rfl, h1, h2⟩ := h
  exact ⟨v1, v2, rfl, h1.weaken (by unfold Plan.bulk at hb; omega) (fun cs x hx hc => hc.wide (Nat.le_trans (units_le hx) hb)), h2.wide (by unfold Plan.bulk at hb; omega)⟩

/-- a carton whose units the call owns -/
def ECarton : World → List Value → Carton → List Nat → Prop := fun w cs x f => ∃ v, cs = [.int .i64 x.type, .int .i64 x.group, v] ∧ w.ownsRow 0 3 1 v x.units.length (x.units.flatMap cI) ∧ f = v.ownBlock.toList
theorem mem_ownBlock {v : Value} {g : Nat} (h : v.ownBlock = some g) : g ∈ v.ownBlock.toList := by rw [h]; simp
theorem ownBlock_mem {v : Value} {g : Nat} (h : g ∈ v.ownBlock.toList) : v.ownBlock = some g := by cases hv : v.ownBlock <;> simp [hv] at h; rw [h]
theorem ECarton_fr : EFr ECarton := fun _ _ _ _ _ hk ⟨v, h1, h2, h3⟩ => ⟨v, h1, own_block h2 (fun g hg => hk g (by rw [h3]; exact mem_ownBlock hg)), h3⟩
theorem own_ints {w : World} {base e : Nat} {v : Value} {xs : List Int} (h : w.ownsRow base e 1 v xs.length (xs.flatMap cI)) (hl : xs.length ≤ 16777216) : RInts 16777216 w w.heap.size v xs :=
  OL.read (OL_of_own h (fun _ => rfl)) (fun cs x f h h' => eflat_read cs x f h h') hl
theorem ECarton_read {w : World} (cs : List Value) (x : Carton) (f : List Nat) (h : ECarton w cs x f) (_ : ∀ b ∈ f, b < w.heap.size) (hl : x.units.length ≤ 16777216) : RCarton 16777216 w w.heap.size cs x := by
  obtain ⟨v, h1, h2, h3⟩ := h
  exact ⟨v, h1, own_ints h2 hl⟩
def OCartons (w : World) (base : Nat) (v : Value) (xs : List Carton) (fp : List Nat) : Prop := OL 49 3 ECarton w base v xs fp
def OSpots (w : World) (base : Nat) (v : Value) (xs : List Spot) (fp : List Nat) : Prop := OL 51 4 (eflat Spot.cells) w base v xs fp
/-- a plan of the call's own; fp: all its blocks -/
def OPlan (w : World) (base : Nat) (v : Value) (p : Plan) (fp : List Nat) : Prop := ∃ v1 v2 f1 f2, v = .agg #[v1, v2] ∧ OCartons w base v1 p.cartons f1 ∧ OSpots w base v2 p.spots f2 ∧ fp = f1 ++ f2 ∧ fp.Nodup
theorem OPlan.read {w : World} {base : Nat} {v : Value} {p : Plan} {fp : List Nat} (h : OPlan w base v p fp) (hb : p.bulk ≤ 16777216) : RPlan 16777216 w w.heap.size v p := by
  obtain ⟨v1, v2, f1, f2, rfl, h1, h2, _⟩ := h
  have hw : ∀ c ∈ p.cartons, c.units.length ≤ 16777216 := fun c hc => Nat.le_trans (units_le hc) hb
  have h1' : RL 16777216 3 (fun w B cs x => x.units.length ≤ 16777216 → RCarton 16777216 w B cs x) w w.heap.size v1 p.cartons := OL.read h1 (fun cs x f h h' hl => ECarton_read cs x f h h' hl) (by unfold Plan.bulk at hb; omega)
  exact ⟨v1, v2, rfl, h1'.weaken (by unfold Plan.bulk at hb; omega) (fun cs x hx h => h (hw x hx)), OL.read h2 (fun cs x f h h' => eflat_read cs x f h h') (by unfold Plan.bulk at hb; omega)⟩
theorem OL.base {α : Type} {e K : Nat} {E : World → List Value → α → List Nat → Prop} {w : World} {B B' : Nat} {v : Value} {xs : List α} {fp : List Nat} (h : OL e K E w B v xs fp) (hB : B' ≤ B) : OL e K E w B' v xs fp := by
  obtain ⟨cs, ifp, h1, h2, h3, h4, h5⟩ := h
  exact ⟨cs, ifp, own_base h1 hB, h2, h3, fun b hb => ⟨Nat.le_trans hB (h4 b hb).1, (h4 b hb).2⟩, h5⟩
theorem OL.form {α : Type} {e K : Nat} {E : World → List Value → α → List Nat → Prop} {w : World} {B : Nat} {v : Value} {xs : List α} {fp : List Nat} (h : OL e K E w B v xs fp) : ∃ A c, v = .slice A xs.length c := by
  obtain ⟨cs, ifp, h1, _⟩ := h
  exact own_form h1
theorem OPlan.form {w : World} {base : Nat} {v : Value} {p : Plan} {fp : List Nat} (h : OPlan w base v p fp) : ∃ A1 n1 c1 A2 n2 c2, v = .agg #[.slice A1 n1 c1, .slice A2 n2 c2] := by
  obtain ⟨v1, v2, f1, f2, rfl, h1, h2, _⟩ := h
  obtain ⟨A1, c1, rfl⟩ := OL.form h1
  obtain ⟨A2, c2, rfl⟩ := OL.form h2
  exact ⟨_, _, _, _, _, _, rfl⟩
theorem OPlan.lt {w : World} {base : Nat} {v : Value} {p : Plan} {fp : List Nat} (h : OPlan w base v p fp) : ∀ b ∈ fp, base ≤ b ∧ b < w.heap.size := by
  obtain ⟨v1, v2, f1, f2, rfl, h1, h2, rfl, _⟩ := h
  intro b hb
  rcases List.mem_append.1 hb with hb | hb
  · exact OL.lt h1 b hb
  · exact OL.lt h2 b hb
theorem OPlan.keep {w w' : World} {base : Nat} {v : Value} {p : Plan} {fp : List Nat} (h : OPlan w base v p fp) (hs : w.heap.size ≤ w'.heap.size) (hk : ∀ b ∈ fp, w'.heap[b]? = w.heap[b]?) : OPlan w' base v p fp := by
  obtain ⟨v1, v2, f1, f2, rfl, h1, h2, rfl, hn⟩ := h
  exact ⟨v1, v2, f1, f2, rfl, OL.keep h1 ECarton_fr hs (fun b hb => hk b (by simp [hb])), OL.keep h2 (eflat_fr _) hs (fun b hb => hk b (by simp [hb])), rfl, hn⟩
theorem OPlan.next {w w' : World} {base : Nat} {v : Value} {p : Plan} {fp : List Nat} (h : OPlan w base v p fp) (hb : Below w.heap.size w w') : OPlan w' base v p fp := h.keep hb.size (fun b hm => hb.block b (h.lt b hm).2)
set_option maxHeartbeats 400000 in
theorem szCarton_any (a b : Int) (A : Option Addr) (n c : Nat) (left : Int) (w : World) (hn : n ≤ maxLen) (h0 : 0 ≤ left) (h1 : left ≤ 1048576) :
    Calls Tryd.prog 33 #[.agg #[.int .i64 a, .int .i64 b, .slice A n c], .int .i64 left] w fun e w' => e = .returned (.int .i64 (szR left n)) ∧ Below w.heap.size w w' := by
  have hz := fun W => szIntS_any A n c left W hn h0 h1
  obtain ⟨t, ht⟩ : ∃ t, szR left n = t := ⟨_, rfl⟩
  rw [ht] at hz ⊢
  have HZ := Lib.hid hz
  have hneg : t < 0 → t = -1 := by intro h; unfold szR at ht; split at ht <;> omega
  have HN := Lib.hid hneg
  clear hz ht hneg
  by_cases h : t < 0
  · go_enter Tryd.func33, Tryd.ntmps33
    go_wp2_with (go_at_call 43; refine (HZ.out _).mono ?_; rintro e w' ⟨rfl, rfl⟩)
    go_ret
    exact ⟨ret_int (HN.out h).symm, (by repeat' (first | with_reducible exact Below.refl _ _ | with_reducible assumption | with_reducible refine Below.drew ?_ | with_reducible refine Below.alloc ?_ ?_ _ | with_reducible refine Below.setCell ?_ ?_ _ | with_reducible refine below_drewN ?_ _ | (simp; done) | (simp; omega)))⟩
  · go_enter Tryd.func33, Tryd.ntmps33
    go_wp2_with (go_at_call 43; refine (HZ.out _).mono ?_; rintro e w' ⟨rfl, rfl⟩)
    go_ret
    exact ⟨rfl, (by repeat' (first | with_reducible exact Below.refl _ _ | with_reducible assumption | with_reducible refine Below.drew ?_ | with_reducible refine Below.alloc ?_ ?_ _ | with_reducible refine Below.setCell ?_ ?_ _ | with_reducible refine below_drewN ?_ _ | (simp; done) | (simp; omega)))⟩
set_option maxHeartbeats 400000 in
theorem szCartonS_any (v : Value) (xs : List Carton) (left : Int) (w : World) (h : RCartons 9223372036854775807 w w.heap.size v xs) (h0 : 0 ≤ left) (h1 : left ≤ 1048576) :
    Calls Tryd.prog 17 #[v, .int .i64 left] w fun e w' => e = .returned (.int .i64 (szR left ((xs.length + tot (fun c => c.units.length) xs : Nat) : Int))) ∧ Below w.heap.size w w' := by
  have h' := h
  obtain ⟨A, c, rfl, hbd, _⟩ := h
  have H := Lib.hid h'
  clear h'
  obtain ⟨T, hT⟩ : ∃ T, T = tot (fun c : Carton => c.units.length) xs := ⟨_, rfl⟩
  rw [← hT]
  have HT := Lib.hid hT
  clear hT
  by_cases hn : left < xs.length
  · have hr : szR left ((xs.length + T : Nat) : Int) = -1 := by unfold szR; rw [if_pos (by omega)]
    have HR := Lib.hid hr
    clear hr
    go_enter Tryd.func17, Tryd.ntmps17
    go_wp2
    all_goals go_ret
    all_goals first | exact ⟨ret_int HR.out.symm, Below.refl _ _⟩ | (exfalso; omega)
  · have hd0 : decide (left - (xs.length : Int) < 0) = false := by simp; omega
    have hl : xs.length ≤ 1048576 := by omega
    go_enter Tryd.func17, Tryd.ntmps17
    go_wp2
    go_loopw [1, 5] (fun l i wr => ∃ k : Nat, ∃ m : Int, k ≤ xs.length ∧ 0 ≤ m ∧ m ≤ 1048576 ∧ i = .int .i64 k ∧ l = .int .i64 m ∧ m = left - xs.length - ((tot (fun c : Carton => c.units.length) (xs.take k) : Nat) : Int) ∧ Below w.heap.size w wr) (fun _ i _ => xs.length - (intOf i).toNat)
    case atStart => exact ⟨0, _, Nat.zero_le _, by omega, by omega, rfl, rfl, by simp [tot], Below.refl _ _⟩
    case round =>
      obtain ⟨k, m, hk, hm0, hm1, rfl, rfl, hm, hbl⟩ := hrel
      have HM := Lib.hid hm
      clear hm
      by_cases hlt : k < xs.length
      · obtain ⟨b, off, s, _, rfl, hb, hx, _, ⟨vu, rfl, Au, cu, rfl, hun, _⟩, hc⟩ := (H.out.below (RCarton_mono _) hbl).at_ k hlt
        have hc0 := hc 0 _ rfl
        have hc1 := hc 1 _ rfl
        have hc2 := hc 2 _ rfl
        simp only [Nat.add_zero] at hc0
        clear hc
        have hz := fun W => szCarton_any s.type s.group Au s.units.length cu m W (by unfold maxLen; omega) hm0 hm1
        have hge := tot_ge (fun c : Carton => c.units.length) hx
        obtain ⟨t, ht⟩ : ∃ t, szR m s.units.length = t := ⟨_, rfl⟩
        rw [ht] at hz
        have HZ := Lib.hid hz
        have HX := Lib.hid ht
        have HG := Lib.hid hge
        clear hz ht hge
        by_cases hneg : t < 0
        · have hr : szR left ((xs.length + T : Nat) : Int) = -1 := by
            have := HM.out
            have h3 := szR_neg (show szR m s.units.length < 0 by rw [HX.out]; exact hneg) (by omega)
            have h4 := HG.out
            rw [← HT.out] at h4
            unfold szR; rw [if_pos (by omega)]
          have HR := Lib.hid hr
          clear hr
          go_wp2_with (go_at_call 33; refine (HZ.out _).mono ?_; rintro e w2 ⟨rfl, hb2⟩)
          go_ret
          exact ⟨ret_int HR.out.symm, hbl.trans (hb2.mono hbl.size)⟩
        · have hm2 : t = m - s.units.length := by
            have := szR_eq (show 0 ≤ szR m s.units.length by rw [HX.out]; omega)
            rw [HX.out] at this
            exact this
          have HM2 := Lib.hid hm2
          have hm3 : t ≤ 1048576 := by omega
          clear hm2
          go_wp2_with (go_at_call 33; refine (HZ.out _).mono ?_; rintro e w2 ⟨rfl, hb2⟩)
          go_roundw
          case rel => exact ⟨k + 1, t, by omega, by omega, by omega, by go_num, rfl, by have h5 := HM.out; have h6 := HM2.out; rw [tot_take _ hx]; omega, hbl.trans (hb2.mono hbl.size)⟩
          case measure => simp [intOf]; omega
      · have hr : szR left ((xs.length + T : Nat) : Int) = m := by
          have := HM.out
          rw [tot_all _ (by omega), ← HT.out] at this
          unfold szR; rw [if_neg (by omega)]; omega
        have HR := Lib.hid hr
        clear hr
        go_wp2
        go_ret
        exact ⟨ret_int HR.out.symm, hbl⟩
set_option maxHeartbeats 400000 in
theorem szPlan_any (v : Value) (p : Plan) (left : Int) (w : World) (h : RPlan 9223372036854775807 w w.heap.size v p) (h0 : 0 ≤ left) (h1 : left ≤ 1048576) :
    Calls Tryd.prog 8 #[v, .int .i64 left] w fun e w' => e = .returned (.int .i64 (szR left (p.bulk : Nat))) ∧ Below w.heap.size w w' := by
  obtain ⟨v1, v2, rfl, hc, A, c, rfl, hsn, _⟩ := h
  have hz := fun (W : World) (hW : RCartons 9223372036854775807 W W.heap.size v1 p.cartons) => szCartonS_any v1 p.cartons left W hW h0 h1
  obtain ⟨t, ht⟩ : ∃ t, szR left ((p.cartons.length + tot (fun c => c.units.length) p.cartons : Nat) : Int) = t := ⟨_, rfl⟩
  rw [ht] at hz
  have HZ := Lib.hid hz
  have HX := Lib.hid ht
  have HC := Lib.hid hc
  clear hz ht hc
  by_cases hneg : t < 0
  · have hr : szR left (p.bulk : Nat) = -1 := by
      have h3 := szR_neg (show szR left ((p.cartons.length + tot (fun c => c.units.length) p.cartons : Nat) : Int) < 0 by rw [HX.out]; exact hneg) (by omega)
      unfold szR Plan.bulk; rw [if_pos (by omega)]
    have HR := Lib.hid hr
    clear hr
    go_enter Tryd.func8, Tryd.ntmps8
    go_wp2_with fail
    refine (HZ.out _ ((HC.out.below (RCarton_mono _) ((Below.refl _ _).alloc (Nat.le_refl _) _)).more (RCarton_mono _) (by simp))).mono ?_
    rintro e w2 ⟨rfl, hb2⟩
    go_wp2
    go_ret
    exact ⟨ret_int HR.out.symm, bstep ((Below.refl _ _).alloc (Nat.le_refl _) _) hb2⟩
  · have hm2 : t = left - ((p.cartons.length + tot (fun c => c.units.length) p.cartons : Nat) : Int) := by
      have := szR_eq (show 0 ≤ szR left ((p.cartons.length + tot (fun c => c.units.length) p.cartons : Nat) : Int) by rw [HX.out]; omega)
      rw [HX.out] at this
      exact this
    have hm3 : t ≤ 1048576 := by omega
    have hz2 := fun (W : World) => szSpotS_any A p.spots.length c t W (by unfold maxLen; omega) (by omega) hm3
    obtain ⟨t2, ht2⟩ : ∃ t2, szR t p.spots.length = t2 := ⟨_, rfl⟩
    have hr : szR left (p.bulk : Nat) = t2 := by
      rw [← ht2]
      unfold szR Plan.bulk
      split <;> split <;> omega
    have hn2 : t2 < 0 → t2 = -1 := by intro h; unfold szR at ht2; split at ht2 <;> omega
    rw [ht2] at hz2
    have HZ2 := Lib.hid hz2
    have HR := Lib.hid hr
    have HN2 := Lib.hid hn2
    clear hz2 hr hn2 ht2 hm2
    have hd1 : decide (t < 0) = false := by simpa using hneg
    by_cases hneg2 : t2 < 0
    · go_enter Tryd.func8, Tryd.ntmps8
      go_wp2_with fail
      refine (HZ.out _ ((HC.out.below (RCarton_mono _) ((Below.refl _ _).alloc (Nat.le_refl _) _)).more (RCarton_mono _) (by simp))).mono ?_
      rintro e w2 ⟨rfl, hb2⟩
      have hx2 := (hb2.block w.heap.size (by simp)).trans (heap_alloc_new w _)
      have hc2 := fun j => cell_of_row _ _ j _ _ (0, 0) hx2
      clear hx2
      go_wp2_with (go_at_call 18; refine (HZ2.out _).mono ?_; rintro e w3 ⟨rfl, rfl⟩)
      go_ret
      exact ⟨ret_int (by rw [HR.out, HN2.out hneg2]), bstep ((Below.refl _ _).alloc (Nat.le_refl _) _) hb2⟩
    · go_enter Tryd.func8, Tryd.ntmps8
      go_wp2_with fail
      refine (HZ.out _ ((HC.out.below (RCarton_mono _) ((Below.refl _ _).alloc (Nat.le_refl _) _)).more (RCarton_mono _) (by simp))).mono ?_
      rintro e w2 ⟨rfl, hb2⟩
      have hx2 := (hb2.block w.heap.size (by simp)).trans (heap_alloc_new w _)
      have hc2 := fun j => cell_of_row _ _ j _ _ (0, 0) hx2
      clear hx2
      go_wp2_with (go_at_call 18; refine (HZ2.out _).mono ?_; rintro e w3 ⟨rfl, rfl⟩)
      go_ret
      exact ⟨ret_int HR.out.symm, bstep ((Below.refl _ _).alloc (Nat.le_refl _) _) hb2⟩
set_option maxHeartbeats 400000 in
theorem toCarton_any (x : Carton) (v : Value) (w : World) (hr : RInts 16777216 w w.heap.size v x.units) :
    Calls Tryd.prog 35 #[.agg #[.int .i64 x.type, .int .i64 x.group, v]] w fun e w' => ∃ A c, e = .returned (.agg #[.int .i64 x.type, .int .i64 x.group, .slice A x.units.length c]) ∧ w'.ownsRow w.heap.size 3 1 (.slice A x.units.length c) x.units.length (x.units.flatMap cI) ∧ Below w.heap.size w w' := by
  have HR := Lib.hid hr
  clear hr
  go_enter Tryd.func35, Tryd.ntmps35
  go_wp2_with fail
  have hb0 : Below w.heap.size w (((w.alloc (.cells #[.int .i64 x.type, .int .i64 x.group, v] 60)).alloc (.cells #[.int .i64 0, .int .i64 0, .slice none 0 0] 49)).alloc (.cells #[.int .i64 x.type, .int .i64 x.group, .slice none 0 0] 49)) := (by repeat' (first | with_reducible exact Below.refl _ _ | with_reducible assumption | with_reducible refine Below.drew ?_ | with_reducible refine Below.alloc ?_ ?_ _ | with_reducible refine Below.setCell ?_ ?_ _ | with_reducible refine below_drewN ?_ _ | (simp; done) | (simp; omega)))
  refine (toIntS_any v x.units _ (HR.out.next (flat_mono _) hb0)).mono ?_
  rintro e w2 ⟨v', rfl, ho, hb2⟩
  obtain ⟨A', c', rfl⟩ := own_form ho
  have hx1 : w2.heap[w.heap.size + 1]? = some (.cells #[.int .i64 0, .int .i64 0, .slice none 0 0] 49 (0, 0)) := (hb2.block (w.heap.size + 1) (by simp)).trans (by (simp only [heap_alloc_if, World.size_alloc]; repeat (first | rw [if_neg (by omega)] | rw [if_pos (by omega)] | rw [if_pos trivial])))
  have hx2 : w2.heap[w.heap.size + 2]? = some (.cells #[.int .i64 x.type, .int .i64 x.group, .slice none 0 0] 49 (0, 0)) := (hb2.block (w.heap.size + 2) (by simp)).trans (by (simp only [heap_alloc_if, World.size_alloc]; repeat (first | rw [if_neg (by omega)] | rw [if_pos (by omega)] | rw [if_pos trivial])))
  have hc1 := fun j => cell_of_row _ _ j _ _ (0, 0) hx1
  have hf1 := fun j => frozen_of_row _ _ j _ _ hx1
  have hc2 := fun j => cell_of_row _ _ j _ _ (0, 0) hx2
  have hf2 := fun j => frozen_of_row _ _ j _ _ hx2
  have hblk := ho.lt
  have HB := Lib.hid hblk
  have HO := Lib.hid ho
  have hsz := hb2.size
  have hle := lt_of_block hx2
  clear hx1 hx2 ho hblk
  go_wp2
  refine bodyPost_ret (v := .agg #[.int .i64 x.type, .int .i64 x.group, .slice A' x.units.length c']) (by simp [results, Tryd.results35, go_sem, hc1]) rfl ?_
  have hb3 : Below w.heap.size w w2 := bstep hb0 hb2
  refine ⟨A', c', rfl, own_base (own_block HO.out (fun g hg => ?_)) (by simp; omega), ?_⟩
  · have h1 := (HB.out g hg).1
    simp at h1
    rw [Below.heap_setCell, Below.heap_setCell, Below.heap_setCell, Below.heap_setCell] <;> simp <;> omega
  · (repeat' (first | with_reducible exact Below.refl _ _ | with_reducible assumption | with_reducible refine Below.drew ?_ | with_reducible refine Below.alloc ?_ ?_ _ | with_reducible refine Below.setCell ?_ ?_ _ | with_reducible refine below_drewN ?_ _ | (simp; done) | (simp; omega)))
theorem info_Carton : (Tryd.prog.info? 49).map (fun i => (i.zero, i.size, i.bytes)) = some (some (.agg #[.int .i64 0, .int .i64 0, .slice none 0 0]), 3, 40) := by kernel_rfl
set_option maxHeartbeats 400000 in
theorem toCartonS_any (v : Value) (xs : List Carton) (w : World) (h : RCartons 16777216 w w.heap.size v xs) :
    Calls Tryd.prog 23 #[v] w fun e w' => ∃ v' fp, e = .returned v' ∧ OCartons w' w.heap.size v' xs fp ∧ Below w.heap.size w w' := by
  obtain ⟨i0, hi, hz0, hz1, hz2⟩ := info_parts info_Carton
  have h' := h
  obtain ⟨A, c, rfl, hbd, _⟩ := h
  have H := Lib.hid h'
  clear h'
  go_enter Tryd.func23, Tryd.ntmps23
  go_wp2_with (at_make; refine wpList_make_full _ rfl _ _ 34 rfl w.heap.size 49 i0 _ 3 Tryd.underlying34 hi hz0 hz1 _ _ _ _ xs.length rfl rfl rfl rfl (by rw [hz2]; omega) (by unfold maxLen; omega) (by simp) ?_; intro w1 hown hg)
  have hb1 : Below w.heap.size w w1 := (Below.refl _ _).grown hg (Nat.le_refl _) (fun k hk => by cases hk)
  clear hi hz0 hz1 hz2 hg
  go_loopw [4] (fun i wr => ∃ k : Nat, ∃ cs fp, k ≤ xs.length ∧ i = .int .i64 k ∧ wr.ownsRow w.heap.size 49 3 (.slice (some ⟨w.heap.size, 0, none⟩) xs.length xs.length) xs.length cs ∧ PO 3 ECarton wr xs k cs fp ∧ (fp.Nodup ∧ ∀ b ∈ fp, w.heap.size < b ∧ b < wr.heap.size) ∧ Below w.heap.size w wr) (fun i _ => xs.length - (intOf i).toNat)
  case atStart => exact ⟨0, _, [], Nat.zero_le _, rfl, hown, PO.zero, ⟨by simp, by simp⟩, hb1⟩
  case round =>
    obtain ⟨k, cs, fp, hk, rfl, hown, hpo, hfp, hbl⟩ := hrel
    by_cases hlt : k < xs.length
    · obtain ⟨b, off, x, _, rfl, hb, hx, _, ⟨vu, rfl, hru⟩, hc⟩ := (H.out.below (RCarton_mono _) hbl).at_ k hlt
      have hru' := hru.more (flat_mono _) hbl.size
      obtain ⟨Au, cu, rfl, hun, _⟩ := hru
      have hc0 := hc 0 _ rfl
      have hc1 := hc 1 _ rfl
      have hc2 := hc 2 _ rfl
      have hg0 := hown.lt _ rfl
      have HRU := Lib.hid hru'
      clear hc hru'
      simp only [Nat.add_zero] at hc0
      go_wp2_with (go_at_call 35; refine (toCarton_any x _ _ HRU.out).mono ?_; rintro e w2 ⟨A2, c2, rfl, ho2, hb2⟩; have hown2 := own_below hown hb2 (fun g hg => (hown.lt g hg).2); clear hown; have hf := hown2.frozenAt; obtain ⟨o0, ho0⟩ := own_room0 hown2 k hlt (by omega); obtain ⟨o1, ho1⟩ := own_room hown2 k 1 hlt (by omega); obtain ⟨o2, ho2'⟩ := own_room hown2 k 2 hlt (by omega))
      have hlen := hown2.1
      have hpo2 := hpo.below ECarton_fr hb2 (fun b hb => (hfp.2 b hb).2)
      have hblk := ho2.lt
      have hE : ECarton (setW w2 w.heap.size (k * 3) [.int .i64 x.type, .int .i64 x.group, .slice A2 x.units.length c2]) [.int .i64 x.type, .int .i64 x.group, .slice A2 x.units.length c2] x (Value.slice A2 x.units.length c2).ownBlock.toList :=
        ⟨_, rfl, own_base (own_block ho2 (fun g hg => heap_setW (by have := (hblk g hg).1; omega) _ _ _)) (Nat.zero_le _), rfl⟩
      go_roundw
      case rel =>
        have hW : setW w2 w.heap.size (k * 3) [.int .i64 x.type, .int .i64 x.group, .slice A2 x.units.length c2] = ((w2.setCell ⟨w.heap.size, k * 3, none⟩ (.int .i64 x.type)).setCell ⟨w.heap.size, k * 3 + 1, none⟩ (.int .i64 x.group)).setCell ⟨w.heap.size, k * 3 + 2, none⟩ (.slice A2 x.units.length c2) := rfl
        rw [← hW]
        refine ⟨k + 1, _, _, hlt, by go_num, storedL [.int .i64 x.type, .int .i64 x.group, .slice A2 x.units.length c2] cs w2 (k * 3) hown2, (hpo2.keep ECarton_fr (fun b hb => heap_setW (by have := (hfp.2 b hb).1; omega) _ _ _)).step hx hlen rfl hE, ⟨?_, fun b hb => ?_⟩, Below.setW (Nat.le_refl _) [.int .i64 x.type, .int .i64 x.group, .slice A2 x.units.length c2] w2 (k * 3) (hbl.trans (hb2.mono (Nat.le_of_lt hg0.2)))⟩
        · rw [List.nodup_append]
          refine ⟨hfp.1, by cases (Value.slice A2 x.units.length c2).ownBlock <;> simp, fun p hp q hq e => ?_⟩
          have h1 := (hblk q (ownBlock_mem hq)).1
          have h2 := (hfp.2 p hp).2
          omega
        · have hs2 := hb2.size
          have h5 : (setW w2 w.heap.size (k * 3) [.int .i64 x.type, .int .i64 x.group, .slice A2 x.units.length c2]).heap.size = w2.heap.size := size_setW _ _ _
          rcases List.mem_append.1 hb with hb | hb
          · have h2 := hfp.2 b hb
            exact ⟨h2.1, Nat.lt_of_lt_of_le h2.2 (by rw [← h5] at hs2; exact hs2)⟩
          · have h1 := hblk b (ownBlock_mem hb)
            exact ⟨by omega, by rw [← h5] at h1; exact h1.2⟩
      case measure => simp [intOf]; omega
    · go_wp2
      go_ret
      obtain rfl : k = xs.length := by omega
      refine ⟨_, w.heap.size :: fp, rfl, ⟨cs, fp, hown, by simp [Value.ownBlock], ?_, fun b hb => ?_, hpo⟩, hbl⟩
      · rw [List.nodup_cons]
        exact ⟨fun hm => by have := (hfp.2 _ hm).1; omega, hfp.1⟩
      · rcases List.mem_cons.1 hb with rfl | hb
        · exact hown.lt _ rfl
        · have := hfp.2 b hb
          omega
set_option maxHeartbeats 400000 in
theorem toPlan_any (v : Value) (p : Plan) (w : World) (h : RPlan 16777216 w w.heap.size v p) :
    Calls Tryd.prog 10 #[v] w fun e w' => ∃ v' fp, e = .returned v' ∧ OPlan w' w.heap.size v' p fp ∧ Below w.heap.size w w' := by
  obtain ⟨v1, v2, rfl, h1, h2⟩ := h
  have H1 := Lib.hid h1
  have H2 := Lib.hid h2
  clear h1 h2
  go_enter Tryd.func10, Tryd.ntmps10
  go_wp2_with fail
  have hb0 : Below w.heap.size w (((w.alloc (.cells #[v1, v2] 31)).alloc (.cells #[.slice none 0 0, .slice none 0 0] 37)).alloc (.cells #[.slice none 0 0, .slice none 0 0] 37)) := (by repeat' (first | with_reducible exact Below.refl _ _ | with_reducible assumption | with_reducible refine Below.drew ?_ | with_reducible refine Below.alloc ?_ ?_ _ | with_reducible refine Below.setCell ?_ ?_ _ | with_reducible refine below_drewN ?_ _ | (simp; done) | (simp; omega)))
  have hq1 : (((w.alloc (.cells #[v1, v2] 31)).alloc (.cells #[.slice none 0 0, .slice none 0 0] 37)).alloc (.cells #[.slice none 0 0, .slice none 0 0] 37)).heap[w.heap.size]? = some (.cells #[v1, v2] 31 (0, 0)) := by (simp only [heap_alloc_if, World.size_alloc]; repeat (first | rw [if_neg (by omega)] | rw [if_pos (by omega)] | rw [if_pos trivial]))
  have hq2 : (((w.alloc (.cells #[v1, v2] 31)).alloc (.cells #[.slice none 0 0, .slice none 0 0] 37)).alloc (.cells #[.slice none 0 0, .slice none 0 0] 37)).heap[w.heap.size + 1]? = some (.cells #[.slice none 0 0, .slice none 0 0] 37 (0, 0)) := by (simp only [heap_alloc_if, World.size_alloc]; repeat (first | rw [if_neg (by omega)] | rw [if_pos (by omega)] | rw [if_pos trivial]))
  have hq3 : (((w.alloc (.cells #[v1, v2] 31)).alloc (.cells #[.slice none 0 0, .slice none 0 0] 37)).alloc (.cells #[.slice none 0 0, .slice none 0 0] 37)).heap[w.heap.size + 2]? = some (.cells #[.slice none 0 0, .slice none 0 0] 37 (0, 0)) := by (simp only [heap_alloc_if, World.size_alloc]; repeat (first | rw [if_neg (by omega)] | rw [if_pos (by omega)] | rw [if_pos trivial]))
  have hqs : (((w.alloc (.cells #[v1, v2] 31)).alloc (.cells #[.slice none 0 0, .slice none 0 0] 37)).alloc (.cells #[.slice none 0 0, .slice none 0 0] 37)).heap.size = w.heap.size + 3 := by simp
  generalize (((w.alloc (.cells #[v1, v2] 31)).alloc (.cells #[.slice none 0 0, .slice none 0 0] 37)).alloc (.cells #[.slice none 0 0, .slice none 0 0] 37)) = W at *
  refine (toCartonS_any v1 p.cartons _ (H1.out.next (RCarton_mono _) hb0)).mono ?_
  rintro e w2 ⟨u1, f1, rfl, ho1, hb2⟩
  obtain ⟨A1, c1, rfl⟩ := OL.form ho1
  have hx1 := (hb2.block w.heap.size (by omega)).trans hq1
  have hx2 := (hb2.block (w.heap.size + 1) (by omega)).trans hq2
  have hx3 := (hb2.block (w.heap.size + 2) (by omega)).trans hq3
  have hc1 := fun j => cell_of_row _ _ j _ _ (0, 0) hx1
  have hc3 := fun j => cell_of_row _ _ j _ _ (0, 0) hx3
  have hf3 := fun j => frozen_of_row _ _ j _ _ hx3
  have hsz := hb2.size
  have HO1 := Lib.hid ho1
  have HX1 := Lib.hid hx1
  have HX2 := Lib.hid hx2
  have HX3 := Lib.hid hx3
  have HQS := Lib.hid hqs
  have hbw2 : Below w.heap.size w w2 := bstep hb0 hb2
  have hlt3 := lt_of_block hx3
  clear hq1 hq2 hq3 hx1 hx2 hx3 ho1 hqs
  go_wp2_with fail
  have hb3 : Below w.heap.size w (w2.setCell ⟨w.heap.size + 2, 0, none⟩ (.slice A1 p.cartons.length c1)) := (by repeat' (first | with_reducible exact Below.refl _ _ | with_reducible assumption | with_reducible refine Below.drew ?_ | with_reducible refine Below.alloc ?_ ?_ _ | with_reducible refine Below.setCell ?_ ?_ _ | with_reducible refine below_drewN ?_ _ | (simp; done) | (simp; omega)))
  refine (toSpotS_any v2 p.spots _ (H2.out.next (flat_mono _) hb3)).mono ?_
  rintro e w3 ⟨u2, rfl, ho2, hb4⟩
  obtain ⟨A2, c2, rfl⟩ := own_form ho2
  have hs2 : (w2.setCell ⟨w.heap.size + 2, 0, none⟩ (.slice A1 p.cartons.length c1)).heap.size = w2.heap.size := by simp [World.setCell]
  have hx2 := (hb4.block (w.heap.size + 1) (by omega)).trans ((Below.heap_setCell _ _ _ _ (by simp)).trans HX2.out)
  have hx3 := (hb4.block (w.heap.size + 2) (by omega)).trans (heap_setCell_same w2 (w.heap.size + 2) 0 _ _ _ HX3.out)
  have hc2 := fun j => cell_of_row _ _ j _ _ (0, 0) hx2
  have hf2 := fun j => frozen_of_row _ _ j _ _ hx2
  have hd3 := fun j => cell_of_row _ _ j _ _ (0, 0) hx3
  have hg3 := fun j => frozen_of_row _ _ j _ _ hx3
  have hsz3 := hb4.size
  have HO2 := Lib.hid ho2
  have HS2 := Lib.hid hs2
  have hb5 : Below w.heap.size w w3 := bstep hb3 hb4
  have hlt4 := lt_of_block hx3
  clear hx2 hx3 ho2 hs2 hc1 hc3 hf3
  go_wp2
  refine bodyPost_ret (v := .agg #[.slice A1 p.cartons.length c1, .slice A2 p.spots.length c2]) (by simp [results, Tryd.results10, go_sem, hc2]) rfl ?_
  have hne : ∀ b, w2.heap.size ≤ b ∨ (W.heap.size ≤ b ∧ b < w2.heap.size) → b ≠ w.heap.size + 1 ∧ b ≠ w.heap.size + 2 := fun b hb => by have := HQS.out; omega
  have hk1 : ∀ b, b ≠ w.heap.size + 1 ∧ b ≠ w.heap.size + 2 → (((w3.setCell ⟨w.heap.size + 2, 1, none⟩ (.slice A2 p.spots.length c2)).setCell ⟨w.heap.size + 1, 0, none⟩ (.slice A1 p.cartons.length c1)).setCell ⟨w.heap.size + 1, 1, none⟩ (.slice A2 p.spots.length c2)).heap[b]? = w3.heap[b]? := fun b hb => by
    rw [Below.heap_setCell _ _ _ _ hb.1, Below.heap_setCell _ _ _ _ hb.1, Below.heap_setCell _ _ _ _ hb.2]
  have hk2 : (((w3.setCell ⟨w.heap.size + 2, 1, none⟩ (.slice A2 p.spots.length c2)).setCell ⟨w.heap.size + 1, 0, none⟩ (.slice A1 p.cartons.length c1)).setCell ⟨w.heap.size + 1, 1, none⟩ (.slice A2 p.spots.length c2)).heap.size = w3.heap.size := by simp [World.setCell]
  have hl1 := OL.lt HO1.out
  have ho2 := OL_of_own HO2.out (fun _ => rfl)
  have hl2 := OL.lt ho2
  have hs2 := HS2.out
  have hq := HQS.out
  refine ⟨_, f1 ++ (Value.slice A2 p.spots.length c2).ownBlock.toList, rfl, ⟨_, _, f1, _, rfl, OL.base (OL.keep HO1.out ECarton_fr (by rw [hk2]; omega) (fun b hb => ?_)) (by omega), OL.base (OL.keep ho2 (eflat_fr _) (by rw [hk2]; omega) (fun b hb => ?_)) (by omega), rfl, ?_⟩, ?_⟩
  · have h1 := hl1 b hb
    rw [hk1 b (hne b (.inr ⟨h1.1, h1.2⟩)), hb4.block b (by rw [hs2]; exact h1.2), Below.heap_setCell _ _ _ _ (hne b (.inr ⟨h1.1, h1.2⟩)).2]
  · have h1 := (hl2 b hb).1
    rw [hs2] at h1
    exact hk1 b (hne b (.inl h1))
  · rw [List.nodup_append]
    refine ⟨OL.nodup HO1.out, OL.nodup ho2, fun a ha b hb e => ?_⟩
    have h1 := (hl1 a ha).2
    have h2 := (hl2 b hb).1
    omega
  · (repeat' (first | with_reducible exact Below.refl _ _ | with_reducible assumption | with_reducible refine Below.drew ?_ | with_reducible refine Below.alloc ?_ ?_ _ | with_reducible refine Below.setCell ?_ ?_ _ | with_reducible refine below_drewN ?_ _ | (simp; done) | (simp; omega)))
set_option maxHeartbeats 400000 in
theorem eqCarton_any (x y : Carton) (v u : Value) (w : World) (hv : RInts 16777216 w w.heap.size v x.units) (hu : RInts 16777216 w w.heap.size u y.units) :
    Calls Tryd.prog 40 #[.agg #[.int .i64 x.type, .int .i64 x.group, v], .agg #[.int .i64 y.type, .int .i64 y.group, u]] w fun e w' => e = .returned (.bool (decide (x = y))) ∧ Below w.heap.size w w' := by
  have HV := Lib.hid hv
  have HU := Lib.hid hu
  clear hv hu
  have hd : decide (x = y) = (decide (x.type = y.type) && decide (x.group = y.group) && decide (x.units = y.units)) := by
    cases x; cases y; simp [Bool.and_assoc]
  by_cases h1 : x.type = y.type
  · by_cases h2 : x.group = y.group
    · have hq1 : (x.type != y.type) = false := by simp [h1]
      have hq2 : (x.group != y.group) = false := by simp [h2]
      have hr : decide (x = y) = decide (x.units = y.units) := by rw [hd]; simp [h1, h2]
      have HR := Lib.hid hr
      clear hd hr h1 h2
      have hb0 : Below w.heap.size w ((w.alloc (.cells #[.int .i64 x.type, .int .i64 x.group, v] 49)).alloc (.cells #[.int .i64 y.type, .int .i64 y.group, u] 49)) := (by repeat' (first | with_reducible exact Below.refl _ _ | with_reducible assumption | with_reducible refine Below.drew ?_ | with_reducible refine Below.alloc ?_ ?_ _ | with_reducible refine Below.setCell ?_ ?_ _ | with_reducible refine below_drewN ?_ _ | (simp; done) | (simp; omega)))
      by_cases h3 : x.units = y.units
      · have hq3 : decide (x.units = y.units) = true := by simp [h3]
        have HQ := Lib.hid h3
        clear h3
        go_enter Tryd.func40, Tryd.ntmps40
        go_wp2_with fail
        refine (eqIntS_any v u x.units y.units _ (HV.out.next (flat_mono _) hb0) (HU.out.next (flat_mono _) hb0)).mono ?_
        rintro e w2 ⟨rfl, hb2⟩
        go_wp2
        go_ret
        exact ⟨ret_bool (by rw [HR.out]; exact hq3.symm), bstep hb0 hb2⟩
      · have hq3 : decide (x.units = y.units) = false := by simp [h3]
        have HQ := Lib.hid h3
        clear h3
        go_enter Tryd.func40, Tryd.ntmps40
        go_wp2_with fail
        refine (eqIntS_any v u x.units y.units _ (HV.out.next (flat_mono _) hb0) (HU.out.next (flat_mono _) hb0)).mono ?_
        rintro e w2 ⟨rfl, hb2⟩
        go_wp2
        go_ret
        exact ⟨ret_bool (by rw [HR.out]; exact hq3.symm), bstep hb0 hb2⟩
    · have hr : decide (x = y) = false := by rw [hd]; simp [h2]
      have hq2 : (x.group != y.group) = true := by simpa using h2
      have hq1 : (x.type != y.type) = false := by simp [h1]
      have HR := Lib.hid hr
      clear hd hr h1 h2
      go_enter Tryd.func40, Tryd.ntmps40
      go_wp2_with fail
      go_ret
      exact ⟨ret_bool HR.out.symm, (by repeat' (first | with_reducible exact Below.refl _ _ | with_reducible assumption | with_reducible refine Below.drew ?_ | with_reducible refine Below.alloc ?_ ?_ _ | with_reducible refine Below.setCell ?_ ?_ _ | with_reducible refine below_drewN ?_ _ | (simp; done) | (simp; omega)))⟩
  · have hr : decide (x = y) = false := by rw [hd]; simp [h1]
    have hq1 : (x.type != y.type) = true := by simpa using h1
    have HR := Lib.hid hr
    clear hd hr h1
    go_enter Tryd.func40, Tryd.ntmps40
    go_wp2_with fail
    go_ret
    exact ⟨ret_bool HR.out.symm, (by repeat' (first | with_reducible exact Below.refl _ _ | with_reducible assumption | with_reducible refine Below.drew ?_ | with_reducible refine Below.alloc ?_ ?_ _ | with_reducible refine Below.setCell ?_ ?_ _ | with_reducible refine below_drewN ?_ _ | (simp; done) | (simp; omega)))⟩
set_option maxHeartbeats 400000 in
theorem eqCartonS_any (v u : Value) (xs ys : List Carton) (w : World) (h : RCartons 16777216 w w.heap.size v xs) (h2 : RCartons 16777216 w w.heap.size u ys) :
    Calls Tryd.prog 29 #[v, u] w fun e w' => e = .returned (.bool (decide (xs = ys))) ∧ Below w.heap.size w w' := by
  have h' := h
  obtain ⟨A, c, rfl, hbd, _⟩ := h
  have H := Lib.hid h'
  clear h'
  have h' := h2
  obtain ⟨A2, c2, rfl, hbd2, _⟩ := h2
  have H2 := Lib.hid h'
  clear h'
  by_cases hl : xs.length = ys.length
  · have hl0 : ((xs.length : Int) != (ys.length : Int)) = false := by simp [hl]
    have HL := Lib.hid hl
    clear hl
    go_enter Tryd.func29, Tryd.ntmps29
    go_wp2
    go_loopw [5] (fun i wr => ∃ k : Nat, k ≤ xs.length ∧ i = .int .i64 k ∧ (∀ i, i < k → xs[i]? = ys[i]?) ∧ Below w.heap.size w wr) (fun i _ => xs.length - (intOf i).toNat)
    case atStart => exact ⟨0, Nat.zero_le _, rfl, fun _ h => by omega, Below.refl _ _⟩
    case round =>
      obtain ⟨k, hk, rfl, heq, hbl⟩ := hrel
      have HE := Lib.hid heq
      clear heq
      by_cases hlt : k < xs.length
      · obtain ⟨b, off, x, _, rfl, hb, hx, _, ⟨vx, rfl, hrx⟩, hc⟩ := (H.out.below (RCarton_mono _) hbl).at_ k hlt
        obtain ⟨b2, off2, y, _, rfl, hb2, hy, _, ⟨vy, rfl, hry⟩, hc2⟩ := (H2.out.below (RCarton_mono _) hbl).at_ k (HL.out ▸ hlt)
        have hsz := hbl.size
        have hlt2 : k < ys.length := HL.out ▸ hlt
        have hq0 := fun X : Ext wr.heap.size wr => (X.cells (o := off + k * 3) (Nat.lt_of_lt_of_le hb hsz)).trans (hc 0 _ rfl)
        have hq1 := fun X : Ext wr.heap.size wr => (X.cells (o := off + k * 3 + 1) (Nat.lt_of_lt_of_le hb hsz)).trans (hc 1 _ rfl)
        have hq2 := fun X : Ext wr.heap.size wr => (X.cells (o := off + k * 3 + 2) (Nat.lt_of_lt_of_le hb hsz)).trans (hc 2 _ rfl)
        have hp0 := fun X : Ext wr.heap.size wr => (X.cells (o := off2 + k * 3) (Nat.lt_of_lt_of_le hb2 hsz)).trans (hc2 0 _ rfl)
        have hp1 := fun X : Ext wr.heap.size wr => (X.cells (o := off2 + k * 3 + 1) (Nat.lt_of_lt_of_le hb2 hsz)).trans (hc2 1 _ rfl)
        have hp2 := fun X : Ext wr.heap.size wr => (X.cells (o := off2 + k * 3 + 2) (Nat.lt_of_lt_of_le hb2 hsz)).trans (hc2 2 _ rfl)
        have hcall := fun X : Ext wr.heap.size wr => eqCarton_any x y vx vy X.world ((hrx.more (flat_mono _) hsz).keep (flat_mono _) (fun _ hp => X.ok.cell hp) X.size) ((hry.more (flat_mono _) hsz).keep (flat_mono _) (fun _ hp => X.ok.cell hp) X.size)
        have HC := Lib.hid hcall
        clear hc hc2 hrx hry hcall
        by_cases hxy : x = y
        · have hdx : decide (x = y) = true := by simp [hxy]
          have HXY := Lib.hid hxy
          clear hxy
          go_wp2
          refine wp_region_ext wr.heap.size (by kernel_rfl) (by kernel_rfl) ?_
          repeat (go_big_quiet_step (exact ext_call (Nat.le_refl _) (HC.out _)))
          refine wpQuiet_nil ?_
          intro _ hw'
          obtain ⟨X, rfl⟩ := hw'
          go_wp2
          go_roundw
          case rel => exact ⟨k + 1, hlt, by go_num, eq_upto HE.out hx (by rw [hy, HXY.out]), hbl.trans (X.ok.mono hsz)⟩
          case measure => simp [intOf]; omega
        · have hne := list_ne_of hx hy hxy
          have HN := Lib.hid hne
          have hdx : decide (x = y) = false := by simp [hxy]
          clear hne hxy
          go_wp2
          refine wp_region_ext wr.heap.size (by kernel_rfl) (by kernel_rfl) ?_
          repeat (go_big_quiet_step (exact ext_call (Nat.le_refl _) (HC.out _)))
          refine wpQuiet_nil ?_
          intro _ hw'
          obtain ⟨X, rfl⟩ := hw'
          go_wp2
          go_ret
          exact ⟨ret_bool (by simp [HN.out]), hbl.trans (X.ok.mono hsz)⟩
      · have heq := list_eq_of HL.out (show k = xs.length by omega) HE.out
        have HN := Lib.hid heq
        clear heq
        go_wp2
        go_ret
        exact ⟨ret_bool (by simp [HN.out]), hbl⟩
  · have hl0 : ((xs.length : Int) != (ys.length : Int)) = true := by rw [bne_iff_ne]; omega
    have hne : xs ≠ ys := fun e => hl (by rw [e])
    have HN := Lib.hid hne
    clear hne hl
    go_enter Tryd.func29, Tryd.ntmps29
    go_wp2
    go_ret
    exact ⟨ret_bool (by simp [HN.out]), Below.refl _ _⟩
set_option maxHeartbeats 400000 in
theorem eqPlan_any (v u : Value) (p q : Plan) (w : World) (h : RPlan 16777216 w w.heap.size v p) (h2 : RPlan 16777216 w w.heap.size u q) :
    Calls Tryd.prog 12 #[v, u] w fun e w' => e = .returned (.bool (decide (p = q))) ∧ Below w.heap.size w w' := by
  obtain ⟨v1, v2, rfl, hv1, hv2⟩ := h
  obtain ⟨u1, u2, rfl, hu1, hu2⟩ := h2
  have HV1 := Lib.hid hv1
  have HV2 := Lib.hid hv2
  have HU1 := Lib.hid hu1
  have HU2 := Lib.hid hu2
  clear hv1 hv2 hu1 hu2
  have hd : decide (p = q) = (decide (p.cartons = q.cartons) && decide (p.spots = q.spots)) := by cases p; cases q; simp
  have hb0 : Below w.heap.size w ((w.alloc (.cells #[v1, v2] 37)).alloc (.cells #[u1, u2] 37)) := (by repeat' (first | with_reducible exact Below.refl _ _ | with_reducible assumption | with_reducible refine Below.drew ?_ | with_reducible refine Below.alloc ?_ ?_ _ | with_reducible refine Below.setCell ?_ ?_ _ | with_reducible refine below_drewN ?_ _ | (simp; done) | (simp; omega)))
  by_cases h1 : p.cartons = q.cartons
  · have hq1 : decide (p.cartons = q.cartons) = true := by simp [h1]
    have hr : decide (p = q) = decide (p.spots = q.spots) := by rw [hd]; simp [h1]
    have HR := Lib.hid hr
    have HD := Lib.hid h1
    clear h1 hr hd
    by_cases h2 : p.spots = q.spots
    all_goals
      first | (have hq2 : decide (p.spots = q.spots) = true := by simp [h2]) | (have hq2 : decide (p.spots = q.spots) = false := by simp [h2])
      clear h2
      go_enter Tryd.func12, Tryd.ntmps12
      go_wp2_with fail
      refine (eqCartonS_any v1 u1 p.cartons q.cartons _ (HV1.out.next (RCarton_mono _) hb0) (HU1.out.next (RCarton_mono _) hb0)).mono ?_
      rintro e w2 ⟨rfl, hb2⟩
      have hx1 := (hb2.block w.heap.size (by simp <;> omega)).trans (show _ = some (.cells #[v1, v2] 37 (0, 0)) from by (simp only [heap_alloc_if, World.size_alloc]; repeat (first | rw [if_neg (by omega)] | rw [if_pos (by omega)] | rw [if_pos trivial])))
      have hx2 := (hb2.block (w.heap.size + 1) (by simp <;> omega)).trans (show _ = some (.cells #[u1, u2] 37 (0, 0)) from by (simp only [heap_alloc_if, World.size_alloc]; repeat (first | rw [if_neg (by omega)] | rw [if_pos (by omega)] | rw [if_pos trivial])))
      have hc1 := fun j => cell_of_row _ _ j _ _ (0, 0) hx1
      have hc2 := fun j => cell_of_row _ _ j _ _ (0, 0) hx2
      have hb02 := bstep hb0 hb2
      clear hx1 hx2
      go_wp2_with fail
      refine (eqSpotS_any v2 u2 p.spots q.spots _ (HV2.out.next (flat_mono _) hb02) (HU2.out.next (flat_mono _) hb02)).mono ?_
      rintro e w3 ⟨rfl, hb3⟩
      go_wp2
      go_ret
      exact ⟨ret_bool (by rw [HR.out]; exact hq2.symm), bstep hb02 hb3⟩
  · have hq1 : decide (p.cartons = q.cartons) = false := by simp [h1]
    have hr : decide (p = q) = false := by rw [hd]; simp [h1]
    have HR := Lib.hid hr
    clear h1 hr hd
    go_enter Tryd.func12, Tryd.ntmps12
    go_wp2_with fail
    refine (eqCartonS_any v1 u1 p.cartons q.cartons _ (HV1.out.next (RCarton_mono _) hb0) (HU1.out.next (RCarton_mono _) hb0)).mono ?_
    rintro e w2 ⟨rfl, hb2⟩
    go_wp2
    go_ret
    exact ⟨ret_bool HR.out.symm, bstep hb0 hb2⟩
end Go.Proofs.YtjmokahibcbjlaaDoor
