/-
  The walks over Sum and Total (chapters 1, 25).
-/
import Derived.Test.YtgljohibcglnbaaAp
import Derived.Test.YtgljohibcglnbaaFa
import Derived.Test.YtgljohibcglnbaaLa
namespace Go.Proofs.Ytgljohibcglnbaa
set_option linter.unusedVariables false
set_option linter.unusedSimpArgs false
open Go.RowKit
def sumR (l : List Int) : Int := (l.map fun x => if inB x (-1000000000) 1000000000 = true then x else 0).sum
theorem sumR_take {l : List Int} {k : Nat} {x : Int} (h : l[k]? = some x) : sumR (l.take (k + 1)) = sumR (l.take k) + if inB x (-1000000000) 1000000000 = true then x else 0 := by
  unfold sumR
  rw [List.take_add_one, h]
  simp
theorem sumR_all {l : List Int} {k : Nat} (h : l.length ≤ k) : sumR (l.take k) = sumR l := by rw [List.take_of_length_le h]
theorem inB_iff {n lo hi : Int} : inB n lo hi = true ↔ lo ≤ n ∧ n ≤ hi := by unfold inB; simp
set_option maxHeartbeats 400000 in
theorem sSum_any (v : Value) (xs : List Int) (w : World) (h : RInts 16777216 w w.heap.size v xs) :
    Calls Try.prog 37 #[v] w fun e w' => e = .returned (.int .i64 (sumR xs)) ∧ w = w' := by
  have h' := h
  obtain ⟨A, c, rfl, hbd, _⟩ := h
  have H := Lib.hid h'
  clear h'
  go_enter Try.func37, Try.ntmps37
  go_wp2
  go_loop [3, 4] (fun m i => ∃ k : Nat, ∃ s : Int, k ≤ xs.length ∧ i = .int .i64 k ∧ m = .int .i64 s ∧ -((k : Int) * 1000000000) ≤ s ∧ s ≤ (k : Int) * 1000000000 ∧ s = sumR (xs.take k)) (fun _ i => xs.length - (intOf i).toNat)
  case atStart => exact ⟨0, 0, Nat.zero_le _, rfl, rfl, by omega, by omega, rfl⟩
  case round =>
    obtain ⟨k, s, hk, rfl, rfl, hs1, hs2, hs⟩ := hrel
    have HS := Lib.hid hs
    clear hs
    by_cases hlt : k < xs.length
    · obtain ⟨b, off, x, rfl, hb, hx, hc⟩ := H.out.at1 k hlt
      have hc0 := hc _ rfl
      clear hc
      have hst := sumR_take hx
      by_cases hin : inB x (-1000000000) 1000000000 = true
      · have hi := inB_iff.1 hin
        rw [if_pos hin] at hst
        have HST := Lib.hid hst
        clear hst
        go_wp2_with (go_at_call 50; refine (l1In_any _ _ _ _).mono ?_; rintro e w' ⟨rfl, rfl⟩)
        go_round
        case rel => exact ⟨k + 1, s + x, hlt, by go_num, by go_num, by omega, by omega, by rw [HST.out, HS.out]⟩
        case measure => simp [intOf]; omega
      · rw [if_neg hin] at hst
        have hin : inB x (-1000000000) 1000000000 = false := by simpa using hin
        have HST := Lib.hid hst
        clear hst
        go_wp2_with (go_at_call 50; refine (l1In_any _ _ _ _).mono ?_; rintro e w' ⟨rfl, rfl⟩)
        go_round
        case rel => exact ⟨k + 1, s, hlt, by go_num, rfl, by omega, by omega, by rw [HST.out, HS.out]; simp⟩
        case measure => simp [intOf]; omega
    · go_wp2
      go_ret
      exact ⟨ret_int (by rw [HS.out, sumR_all (by omega)]), rfl⟩
set_option maxHeartbeats 400000 in
theorem iSum_any (v : Value) (xs : List Int) (w : World) (h : RInts 16777216 w w.heap.size v xs) :
    Calls Try.prog 38 #[v] w fun e w' => e = .returned (.int .i64 (sumR xs)) ∧ w = w' := by
  have h' := h
  obtain ⟨A, c, rfl, hbd, _⟩ := h
  have H := Lib.hid h'
  clear h'
  go_enter Try.func38, Try.ntmps38
  go_wp2
  go_loop [3, 8] (fun m i => ∃ k : Nat, ∃ s : Int, k ≤ xs.length ∧ i = .int .i64 k ∧ m = .int .i64 s ∧ -((k : Int) * 1000000000) ≤ s ∧ s ≤ (k : Int) * 1000000000 ∧ s = sumR (xs.take k)) (fun _ i => xs.length - (intOf i).toNat)
  case atStart => exact ⟨0, 0, Nat.zero_le _, rfl, rfl, by omega, by omega, rfl⟩
  case round =>
    obtain ⟨k, s, hk, rfl, rfl, hs1, hs2, hs⟩ := hrel
    have HS := Lib.hid hs
    clear hs
    by_cases hlt : k < xs.length
    · obtain ⟨b, off, x, rfl, hb, hx, hc⟩ := H.out.at1 k hlt
      have hc0 := hc _ rfl
      clear hc
      have hst := sumR_take hx
      by_cases hin : inB x (-1000000000) 1000000000 = true
      · have hi := inB_iff.1 hin
        rw [if_pos hin] at hst
        have HST := Lib.hid hst
        clear hst
        go_wp2_with (go_at_call 49; refine (in_any _ _ _ _).mono ?_; rintro e w' ⟨rfl, rfl⟩)
        go_round
        case rel => exact ⟨k + 1, s + x, hlt, by go_num, by go_num, by omega, by omega, by rw [HST.out, HS.out]⟩
        case measure => simp [intOf]; omega
      · rw [if_neg hin] at hst
        have hin : inB x (-1000000000) 1000000000 = false := by simpa using hin
        have HST := Lib.hid hst
        clear hst
        go_wp2_with (go_at_call 49; refine (in_any _ _ _ _).mono ?_; rintro e w' ⟨rfl, rfl⟩)
        go_round
        case rel => exact ⟨k + 1, s, hlt, by go_num, rfl, by omega, by omega, by rw [HST.out, HS.out]; simp⟩
        case measure => simp [intOf]; omega
    · go_wp2
      go_ret
      exact ⟨ret_int (by rw [HS.out, sumR_all (by omega)]), rfl⟩
def goods (xs : List Bill) : List Bill := xs.filter fun x => x.code == 0
def totB (xs : List Bill) : Bill := ⟨((xs.filter fun x => x.code != 0).length : Nat), sumR ((goods xs).map (·.cartons)), sumR ((goods xs).map (·.pallets)), sumR ((goods xs).map (·.cost)), sumR ((goods xs).map (·.gram))⟩
def colI (f : Bill → Int) (xs : List Bill) : List Value := (goods xs).map fun x => Value.int .i64 (f x)
theorem goods_yes {xs : List Bill} {k : Nat} {x : Bill} (h : xs[k]? = some x) (hc : x.code = 0) : goods (xs.take (k + 1)) = goods (xs.take k) ++ [x] := by
  unfold goods; rw [List.take_add_one, h, List.filter_append]; simp [List.filter_cons, hc]
theorem goods_no {xs : List Bill} {k : Nat} {x : Bill} (h : xs[k]? = some x) (hc : ¬ x.code = 0) : goods (xs.take (k + 1)) = goods (xs.take k) := by
  unfold goods; rw [List.take_add_one, h, List.filter_append]; simp [List.filter_cons, hc]
theorem bads_yes {xs : List Bill} {k : Nat} {x : Bill} (h : xs[k]? = some x) (hc : x.code = 0) : ((xs.take (k + 1)).filter fun x => x.code != 0).length = ((xs.take k).filter fun x => x.code != 0).length := by
  rw [List.take_add_one, h, List.filter_append]; simp [List.filter_cons, hc]
theorem bads_no {xs : List Bill} {k : Nat} {x : Bill} (h : xs[k]? = some x) (hc : ¬ x.code = 0) : ((xs.take (k + 1)).filter fun x => x.code != 0).length = ((xs.take k).filter fun x => x.code != 0).length + 1 := by
  rw [List.take_add_one, h, List.filter_append]; simp [List.filter_cons, hc]
theorem goods_len (xs : List Bill) (k : Nat) : (goods (xs.take k)).length ≤ k := Nat.le_trans (List.length_filter_le _ _) (List.length_take_le _ _)
theorem colI_snoc {f : Bill → Int} {xs : List Bill} {k : Nat} {x : Bill} (h : goods (xs.take (k + 1)) = goods (xs.take k) ++ [x]) : colI f (xs.take (k + 1)) = colI f (xs.take k) ++ [Value.int .i64 (f x)] := by
  unfold colI; rw [h]; simp
theorem colI_flat (f : Bill → Int) (xs : List Bill) : colI f xs = ((goods xs).map f).flatMap cI := by
  unfold colI; induction goods xs with
  | nil => rfl
  | cons x l ih => simp only [List.map_cons, List.flatMap_cons, ih]; rfl
theorem own_empty {w : World} {base e K g : Nat} (hb : base ≤ g) (h : w.heap[g]? = some (.cells #[] e (0, 0))) : w.ownsRow base e K (.slice (some ⟨g, 0, none⟩) 0 0) 0 [] :=
  ⟨by simp, .inr ⟨g, 0, #[], rfl, hb, h, Nat.le_refl _, by unfold maxLen; omega, by simp, by simp⟩⟩
/-- four rows of one-cell elements of the call's own, apart -/
structure R4 (base e : Nat) (w : World) (v1 v2 v3 v4 : Value) (c1 c2 c3 c4 : List Value) : Prop where
  o1 : w.ownsRow base e 1 v1 c1.length c1
  o2 : w.ownsRow base e 1 v2 c2.length c2
  o3 : w.ownsRow base e 1 v3 c3.length c3
  o4 : w.ownsRow base e 1 v4 c4.length c4
  ap : Apart [v1, v2, v3, v4]
section
variable {base e : Nat} {w w' : World} {v1 v2 v3 v4 v' : Value} {c1 c2 c3 c4 : List Value} {u : Value}
theorem own_len {n m : Nat} {v : Value} {xs : List Value} (h : w.ownsRow base e 1 v n xs) (hn : n = m) : w.ownsRow base e 1 v m xs := hn ▸ h
theorem R4.alloc (h : R4 base e w v1 v2 v3 v4 c1 c2 c3 c4) (o : Obj) : R4 base e (w.alloc o) v1 v2 v3 v4 c1 c2 c3 c4 := ⟨h.o1.alloc o, h.o2.alloc o, h.o3.alloc o, h.o4.alloc o, h.ap⟩
theorem R4.setBelow (h : R4 base e w v1 v2 v3 v4 c1 c2 c3 c4) {a : Addr} (ha : a.block < base) (u : Value) : R4 base e (w.setCell a u) v1 v2 v3 v4 c1 c2 c3 c4 := ⟨ownsRow_setCell_below h.o1 ha u, ownsRow_setCell_below h.o2 ha u, ownsRow_setCell_below h.o3 ha u, ownsRow_setCell_below h.o4 ha u, h.ap⟩
theorem R4.step1 (h : R4 base e w v1 v2 v3 v4 c1 c2 c3 c4) (ho : w'.ownsRow base e 1 v' (c1.length + 1) (c1 ++ [u])) (hg : w.grownBy w' v1.ownBlock) (hn : v'.ownBlock = v1.ownBlock ∨ ∃ g, v'.ownBlock = some g ∧ w.heap.size ≤ g) : R4 base e w' v' v2 v3 v4 (c1 ++ [u]) c2 c3 c4 :=
  ⟨own_len ho (by simp), h.o2.kept hg (Apart.ne (l1 := []) (l2 := [v2, v3, v4]) h.ap (by simp)), h.o3.kept hg (Apart.ne (l1 := []) (l2 := [v2, v3, v4]) h.ap (by simp)), h.o4.kept hg (Apart.ne (l1 := []) (l2 := [v2, v3, v4]) h.ap (by simp)),
    Apart.swap (l1 := []) (l2 := [v2, v3, v4]) h.ap (fun u hu g hg => by simp at hu; rcases hu with rfl | rfl | rfl <;> first | exact (h.o2.lt g hg).2 | exact (h.o3.lt g hg).2 | exact (h.o4.lt g hg).2) hn⟩
theorem R4.step2 (h : R4 base e w v1 v2 v3 v4 c1 c2 c3 c4) (ho : w'.ownsRow base e 1 v' (c2.length + 1) (c2 ++ [u])) (hg : w.grownBy w' v2.ownBlock) (hn : v'.ownBlock = v2.ownBlock ∨ ∃ g, v'.ownBlock = some g ∧ w.heap.size ≤ g) : R4 base e w' v1 v' v3 v4 c1 (c2 ++ [u]) c3 c4 :=
  ⟨h.o1.kept hg (Apart.ne (l1 := [v1]) (l2 := [v3, v4]) h.ap (by simp)), own_len ho (by simp), h.o3.kept hg (Apart.ne (l1 := [v1]) (l2 := [v3, v4]) h.ap (by simp)), h.o4.kept hg (Apart.ne (l1 := [v1]) (l2 := [v3, v4]) h.ap (by simp)),
    Apart.swap (l1 := [v1]) (l2 := [v3, v4]) h.ap (fun u hu g hg => by simp at hu; rcases hu with rfl | rfl | rfl <;> first | exact (h.o1.lt g hg).2 | exact (h.o3.lt g hg).2 | exact (h.o4.lt g hg).2) hn⟩
theorem R4.step3 (h : R4 base e w v1 v2 v3 v4 c1 c2 c3 c4) (ho : w'.ownsRow base e 1 v' (c3.length + 1) (c3 ++ [u])) (hg : w.grownBy w' v3.ownBlock) (hn : v'.ownBlock = v3.ownBlock ∨ ∃ g, v'.ownBlock = some g ∧ w.heap.size ≤ g) : R4 base e w' v1 v2 v' v4 c1 c2 (c3 ++ [u]) c4 :=
  ⟨h.o1.kept hg (Apart.ne (l1 := [v1, v2]) (l2 := [v4]) h.ap (by simp)), h.o2.kept hg (Apart.ne (l1 := [v1, v2]) (l2 := [v4]) h.ap (by simp)), own_len ho (by simp), h.o4.kept hg (Apart.ne (l1 := [v1, v2]) (l2 := [v4]) h.ap (by simp)),
    Apart.swap (l1 := [v1, v2]) (l2 := [v4]) h.ap (fun u hu g hg => by simp at hu; rcases hu with rfl | rfl | rfl <;> first | exact (h.o1.lt g hg).2 | exact (h.o2.lt g hg).2 | exact (h.o4.lt g hg).2) hn⟩
theorem R4.step4 (h : R4 base e w v1 v2 v3 v4 c1 c2 c3 c4) (ho : w'.ownsRow base e 1 v' (c4.length + 1) (c4 ++ [u])) (hg : w.grownBy w' v4.ownBlock) (hn : v'.ownBlock = v4.ownBlock ∨ ∃ g, v'.ownBlock = some g ∧ w.heap.size ≤ g) : R4 base e w' v1 v2 v3 v' c1 c2 c3 (c4 ++ [u]) :=
  ⟨h.o1.kept hg (Apart.ne (l1 := [v1, v2, v3]) (l2 := []) h.ap (by simp)), h.o2.kept hg (Apart.ne (l1 := [v1, v2, v3]) (l2 := []) h.ap (by simp)), h.o3.kept hg (Apart.ne (l1 := [v1, v2, v3]) (l2 := []) h.ap (by simp)), own_len ho (by simp),
    Apart.swap (l1 := [v1, v2, v3]) (l2 := []) h.ap (fun u hu g hg => by simp at hu; rcases hu with rfl | rfl | rfl <;> first | exact (h.o1.lt g hg).2 | exact (h.o2.lt g hg).2 | exact (h.o3.lt g hg).2) hn⟩
end
theorem col_read {f : Bill → Int} {xs : List Bill} {w : World} {base e : Nat} {v : Value} (h : w.ownsRow base e 1 v (colI f xs).length (colI f xs)) (hl : xs.length ≤ 16777216) : RInts 16777216 w w.heap.size v ((goods xs).map f) := by
  rw [colI_flat] at h
  have hn : (((goods xs).map f).flatMap cI).length = ((goods xs).map f).length := by
    rw [← colI_flat]; unfold colI; simp
  rw [hn] at h
  exact OL.read (OL_of_own h (fun _ => rfl)) (fun cs x f h h' => eflat_read cs x f h h') (by rw [List.length_map]; exact Nat.le_trans (List.length_filter_le _ _) hl)
set_option maxHeartbeats 1000000 in
theorem sTotal_any (v : Value) (xs : List Bill) (w : World) (h : RL 16777216 5 (flat Bill.cells) w w.heap.size v xs) :
    Calls Try.prog 23 #[v] w fun e w' => e = .returned (totB xs).val ∧ Below w.heap.size w w' := by
  obtain ⟨i0, hi, hz0, hz1, hz2⟩ := info_parts info_int
  have h' := h
  obtain ⟨A, c, rfl, hbd, _⟩ := h
  have H := Lib.hid h'
  clear h'
  go_enter Try.func23, Try.ntmps23
  go_wp2
  go_loopw [3, 4, 5, 6, 7, 8] (fun v1 v2 v3 v4 m i wr => ∃ k : Nat, k ≤ xs.length ∧ i = .int .i64 k ∧ m = .int .i64 (((xs.take k).filter fun x => x.code != 0).length : Nat) ∧
      R4 (w.heap.size + 1) 3 wr v1 v2 v3 v4 (colI (·.cartons) (xs.take k)) (colI (·.pallets) (xs.take k)) (colI (·.cost) (xs.take k)) (colI (·.gram) (xs.take k)) ∧
      wr.heap[w.heap.size]? = some (.cells #[.int .i64 0, .int .i64 0, .int .i64 0, .int .i64 0, .int .i64 0] 39 (0, 0)) ∧ Below w.heap.size w wr) (fun _ _ _ _ _ i _ => xs.length - (intOf i).toNat)
  case atStart =>
    refine ⟨0, Nat.zero_le _, rfl, rfl, ⟨own_empty (by omega) (by (simp only [heap_alloc_if, World.size_alloc]; repeat (first | rw [if_neg (by omega)] | rw [if_pos (by omega)] | rw [if_pos trivial]))), own_empty (by omega) (by (simp only [heap_alloc_if, World.size_alloc]; repeat (first | rw [if_neg (by omega)] | rw [if_pos (by omega)] | rw [if_pos trivial]))), own_empty (by omega) (by (simp only [heap_alloc_if, World.size_alloc]; repeat (first | rw [if_neg (by omega)] | rw [if_pos (by omega)] | rw [if_pos trivial]))), own_empty (by omega) (by (simp only [heap_alloc_if, World.size_alloc]; repeat (first | rw [if_neg (by omega)] | rw [if_pos (by omega)] | rw [if_pos trivial]))), ?_⟩, ?_, ?_⟩
    · simp [Apart, Value.ownBlock]
    · (simp only [heap_alloc_if, World.size_alloc]; repeat (first | rw [if_neg (by omega)] | rw [if_pos (by omega)] | rw [if_pos trivial]))
    · (repeat' (first | with_reducible exact Below.refl _ _ | with_reducible assumption | with_reducible refine Below.drew ?_ | with_reducible refine Below.alloc ?_ ?_ _ | with_reducible refine Below.setCell ?_ ?_ _ | with_reducible refine below_drewN ?_ _ | (simp; done) | (simp; omega)))
  case round =>
    obtain ⟨k, hk, rfl, rfl, hR, hbox, hbl⟩ := hrel
    by_cases hlt : k < xs.length
    · obtain ⟨b, off, x, _, rfl, hb, hx, _, rfl, hc⟩ := H.out.at_ k hlt
      have hc0 := hc 0 _ rfl
      have hc1 := hc 1 _ rfl
      have hc2 := hc 2 _ rfl
      have hc3 := hc 3 _ rfl
      have hc4 := hc 4 _ rfl
      simp only [Nat.add_zero] at hc0
      clear hc
      have hr := (bcell hbl).1
      by_cases hcode : x.code = 0
      · have hq : (x.code != 0) = false := by simp [hcode]
        have HC := Lib.hid hcode
        clear hcode
        have hB0 : w.heap.size + 1 ≤ wr.heap.size := by have := lt_of_block hbox; omega
        have hgl := goods_len xs k
        have hl1 : (colI (·.cartons) (xs.take k)).length ≤ k := by unfold colI; rw [List.length_map]; exact hgl
        have hl2 : (colI (·.pallets) (xs.take k)).length ≤ k := by unfold colI; rw [List.length_map]; exact hgl
        have hl3 : (colI (·.cost) (xs.take k)).length ≤ k := by unfold colI; rw [List.length_map]; exact hgl
        have hl4 : (colI (·.gram) (xs.take k)).length ≤ k := by unfold colI; rw [List.length_map]; exact hgl
        go_wp2_with (first
          | (at_builtin; refine at_app (.tmp 27) (.tmp 33) 59 rfl ?_; refine wpList_app1 _ rfl (.tmp 27) (.tmp 33) 59 rfl (w.heap.size + 1) 3 i0 _ 1 8 Try.underlying59 hi hz0 hz1 hz2 rfl (by omega) u3 _ _ rfl hR.o1 _ _ rfl (by simp) rfl (by simp [Value.oneCell']) (by unfold maxLen; omega) (by omega) hB0 ?_; intro v1' w1 ho hg hn; have R1 := hR.step1 ho hg hn; have hbl1 := below_grown hbl (own_base hR.o1 (Nat.le_succ _)) hg (hbl).size; have hB1 : w.heap.size + 1 ≤ w1.heap.size := Nat.le_trans hB0 hg.size; have hbox1 := (hg.block w.heap.size (by omega) (fun e => by have := (hR.o1.lt _ e.symm).1; omega)).trans hbox; clear ho hg hn; have hr1 := (bcell hbl1).1)
          | (at_builtin; refine at_app (.tmp 35) (.tmp 41) 59 rfl ?_; refine wpList_app1 _ rfl (.tmp 35) (.tmp 41) 59 rfl (w.heap.size + 1) 3 i0 _ 1 8 Try.underlying59 hi hz0 hz1 hz2 rfl (by omega) u4 _ _ rfl R1.o2 _ _ rfl (by simp) rfl (by simp [Value.oneCell']) (by unfold maxLen; omega) (by omega) hB1 ?_; intro v2' w2 ho hg hn; have R2 := R1.step2 ho hg hn; have hbl2 := below_grown hbl1 (own_base R1.o2 (Nat.le_succ _)) hg (hbl1).size; have hB2 : w.heap.size + 1 ≤ w2.heap.size := Nat.le_trans hB1 hg.size; have hbox2 := (hg.block w.heap.size (by omega) (fun e => by have := (R1.o2.lt _ e.symm).1; omega)).trans hbox1; clear ho hg hn; have hr2 := (bcell hbl2).1)
          | (at_builtin; refine at_app (.tmp 43) (.tmp 49) 59 rfl ?_; refine wpList_app1 _ rfl (.tmp 43) (.tmp 49) 59 rfl (w.heap.size + 1) 3 i0 _ 1 8 Try.underlying59 hi hz0 hz1 hz2 rfl (by omega) u5 _ _ rfl R2.o3 _ _ rfl (by simp) rfl (by simp [Value.oneCell']) (by unfold maxLen; omega) (by omega) hB2 ?_; intro v3' w3 ho hg hn; have R3 := R2.step3 ho hg hn; have hbl3 := below_grown hbl2 (own_base R2.o3 (Nat.le_succ _)) hg (hbl2).size; have hB3 : w.heap.size + 1 ≤ w3.heap.size := Nat.le_trans hB2 hg.size; have hbox3 := (hg.block w.heap.size (by omega) (fun e => by have := (R2.o3.lt _ e.symm).1; omega)).trans hbox2; clear ho hg hn; have hr3 := (bcell hbl3).1)
          | (at_builtin; refine at_app (.tmp 51) (.tmp 57) 59 rfl ?_; refine wpList_app1 _ rfl (.tmp 51) (.tmp 57) 59 rfl (w.heap.size + 1) 3 i0 _ 1 8 Try.underlying59 hi hz0 hz1 hz2 rfl (by omega) u6 _ _ rfl R3.o4 _ _ rfl (by simp) rfl (by simp [Value.oneCell']) (by unfold maxLen; omega) (by omega) hB3 ?_; intro v4' w4 ho hg hn; have R4 := R3.step4 ho hg hn; have hbl4 := below_grown hbl3 (own_base R3.o4 (Nat.le_succ _)) hg (hbl3).size; have hB4 : w.heap.size + 1 ≤ w4.heap.size := Nat.le_trans hB3 hg.size; have hbox4 := (hg.block w.heap.size (by omega) (fun e => by have := (R3.o4.lt _ e.symm).1; omega)).trans hbox3; clear ho hg hn; have hr4 := (bcell hbl4).1))
        have hy := goods_yes hx HC.out
        go_roundw
        case rel => exact ⟨k + 1, hlt, by go_num, by rw [bads_yes hx HC.out], by rw [colI_snoc hy, colI_snoc hy, colI_snoc hy, colI_snoc hy]; exact R4, hbox4, hbl4⟩
        case measure => simp [intOf]; omega
      · have hq : (x.code != 0) = true := by simp [hcode]
        have HC := Lib.hid hcode
        have hbd2 : ((xs.take k).filter fun x => x.code != 0).length ≤ k := Nat.le_trans (List.length_filter_le _ _) (List.length_take_le _ _)
        clear hcode
        go_wp2
        have hy := goods_no hx HC.out
        go_roundw
        case rel => exact ⟨k + 1, hlt, by go_num, by rw [bads_no hx HC.out]; go_num, by unfold colI at hR ⊢; rw [hy]; exact hR, hbox, hbl⟩
        case measure => simp [intOf]; omega
    · obtain rfl : k = xs.length := by omega
      rw [List.take_length] at hR
      rw [List.take_length]
      have r1 := col_read hR.o1 hbd
      have r2 := col_read hR.o2 hbd
      have r3 := col_read hR.o3 hbd
      have r4 := col_read hR.o4 hbd
      have hbc : ∀ j, wr.cell? ⟨w.heap.size, j, none⟩ = (#[Value.int .i64 0, .int .i64 0, .int .i64 0, .int .i64 0, .int .i64 0] : Array Value)[j]? := fun j => cell_of_row _ _ _ _ _ (0, 0) hbox
      have hbf : ∀ j, wr.frozen? ⟨w.heap.size, j, none⟩ = false := fun j => frozen_of_row _ _ _ _ _ hbox
      go_wp2_with (go_at_call 37; refine (sSum_any _ _ _ (by first | exact r1 | exact r2 | exact r3 | exact r4)).mono ?_; rintro e w' ⟨rfl, rfl⟩)
      refine bodyPost_ret (v := (totB xs).val) (by simp [results, Try.results23, go_sem, hbc, totB]) rfl ⟨rfl, ?_⟩
      (repeat' (first | with_reducible exact Below.refl _ _ | with_reducible assumption | with_reducible refine Below.drew ?_ | with_reducible refine Below.alloc ?_ ?_ _ | with_reducible refine Below.setCell ?_ ?_ _ | with_reducible refine below_drewN ?_ _ | (simp; done) | (simp; omega)))
set_option maxHeartbeats 1000000 in
theorem iTotal_any (v : Value) (xs : List Bill) (w : World) (h : RL 16777216 5 (flat Bill.cells) w w.heap.size v xs) :
    Calls Try.prog 24 #[v] w fun e w' => e = .returned (totB xs).val ∧ Below w.heap.size w w' := by
  obtain ⟨i0, hi, hz0, hz1, hz2⟩ := info_parts info_int
  have h' := h
  obtain ⟨A, c, rfl, hbd, _⟩ := h
  have H := Lib.hid h'
  clear h'
  go_enter Try.func24, Try.ntmps24
  go_wp2
  go_loopw [3, 4, 5, 6, 13] (fun v1 v2 v3 v4 i wr => ∃ k : Nat, k ≤ xs.length ∧ i = .int .i64 k ∧
      R4 (w.heap.size + 2) 3 wr v1 v2 v3 v4 (colI (·.cartons) (xs.take k)) (colI (·.pallets) (xs.take k)) (colI (·.cost) (xs.take k)) (colI (·.gram) (xs.take k)) ∧
      wr.heap[w.heap.size]? = some (.cells #[.int .i64 0, .int .i64 0, .int .i64 0, .int .i64 0, .int .i64 0] 39 (0, 0)) ∧
      wr.heap[w.heap.size + 1]? = some (.cells #[.int .i64 (((xs.take k).filter fun x => x.code != 0).length : Nat), .int .i64 0, .int .i64 0, .int .i64 0, .int .i64 0] 39 (0, 0)) ∧ Below w.heap.size w wr) (fun _ _ _ _ i _ => xs.length - (intOf i).toNat)
  case atStart =>
    refine ⟨0, Nat.zero_le _, rfl, ⟨World.ownsRow_nil _ _ _ _, World.ownsRow_nil _ _ _ _, World.ownsRow_nil _ _ _ _, World.ownsRow_nil _ _ _ _, by simp [Apart, Value.ownBlock]⟩, ?_, ?_, ?_⟩
    · (simp only [heap_alloc_if, World.size_alloc]; repeat (first | rw [if_neg (by omega)] | rw [if_pos (by omega)] | rw [if_pos trivial]))
    · (simp only [heap_alloc_if, World.size_alloc]; repeat (first | rw [if_neg (by omega)] | rw [if_pos (by omega)] | rw [if_pos trivial])); rfl
    · (repeat' (first | with_reducible exact Below.refl _ _ | with_reducible assumption | with_reducible refine Below.drew ?_ | with_reducible refine Below.alloc ?_ ?_ _ | with_reducible refine Below.setCell ?_ ?_ _ | with_reducible refine below_drewN ?_ _ | (simp; done) | (simp; omega)))
  case round =>
    obtain ⟨k, hk, rfl, hR, hbox, hres, hbl⟩ := hrel
    by_cases hlt : k < xs.length
    · obtain ⟨b, off, x, _, rfl, hb, hx, _, rfl, hc⟩ := (H.out.below (flat_mono _) hbl).at_ k hlt
      have hc0 := hc 0 _ rfl
      have hc1 := hc 1 _ rfl
      have hc2 := hc 2 _ rfl
      have hc3 := hc 3 _ rfl
      have hc4 := hc 4 _ rfl
      simp only [Nat.add_zero] at hc0
      clear hc
      have hlw := lt_of_block hres
      by_cases hcode : x.code = 0
      · have hq : (x.code != 0) = false := by simp [hcode]
        have HC := Lib.hid hcode
        clear hcode
        have hRa := hR.alloc (.cells #[.int .i64 x.code, .int .i64 x.cartons, .int .i64 x.pallets, .int .i64 x.cost, .int .i64 x.gram] 39)
        have hBa : w.heap.size + 2 ≤ (wr.alloc (.cells #[.int .i64 x.code, .int .i64 x.cartons, .int .i64 x.pallets, .int .i64 x.cost, .int .i64 x.gram] 39)).heap.size := by rw [World.size_alloc]; omega
        have hbla := hbl.alloc hbl.size (.cells #[.int .i64 x.code, .int .i64 x.cartons, .int .i64 x.pallets, .int .i64 x.cost, .int .i64 x.gram] 39)
        have hboxa := (heap_alloc_if wr (.cells #[.int .i64 x.code, .int .i64 x.cartons, .int .i64 x.pallets, .int .i64 x.cost, .int .i64 x.gram] 39) w.heap.size).trans ((if_neg (by omega)).trans hbox)
        have hresa := (heap_alloc_if wr (.cells #[.int .i64 x.code, .int .i64 x.cartons, .int .i64 x.pallets, .int .i64 x.cost, .int .i64 x.gram] 39) (w.heap.size + 1)).trans ((if_neg (by omega)).trans hres)
        have hxa := heap_alloc_new wr (.cells #[.int .i64 x.code, .int .i64 x.cartons, .int .i64 x.pallets, .int .i64 x.cost, .int .i64 x.gram] 39)
        have hgl := goods_len xs k
        have hl1 : (colI (·.cartons) (xs.take k)).length ≤ k := by unfold colI; rw [List.length_map]; exact hgl
        have hl2 : (colI (·.pallets) (xs.take k)).length ≤ k := by unfold colI; rw [List.length_map]; exact hgl
        have hl3 : (colI (·.cost) (xs.take k)).length ≤ k := by unfold colI; rw [List.length_map]; exact hgl
        have hl4 : (colI (·.gram) (xs.take k)).length ≤ k := by unfold colI; rw [List.length_map]; exact hgl
        have HXA := Lib.hid hxa
        have HBA := Lib.hid hboxa
        have HRA := Lib.hid hresa
        go_wp2_with (first
          | (at_builtin; refine at_app (.tmp 24) (.tmp 27) 59 rfl ?_; refine wpList_app1 _ rfl (.tmp 24) (.tmp 27) 59 rfl (w.heap.size + 2) 3 i0 _ 1 8 Try.underlying59 hi hz0 hz1 hz2 rfl (by omega) u3 _ _ rfl hRa.o1 _ _ rfl (by simp) rfl (by simp [Value.oneCell']) (by unfold maxLen; omega) (by omega) hBa ?_; intro v1' w1 ho hg hn; have R1 := hRa.step1 ho hg hn; have hbl1 := below_grown hbla (own_base hRa.o1 (by omega)) hg hbla.size; have hB1 : w.heap.size + 2 ≤ w1.heap.size := Nat.le_trans hBa hg.size; have hbox1 := grown_blk hg hboxa (fun g e => by have := (hR.o1.lt g e).1; omega); have hres1 := grown_blk hg hresa (fun g e => by have := (hR.o1.lt g e).1; omega); have hx1 := grown_blk hg hxa (fun g e => by have := (hR.o1.lt g e).2; omega); clear ho hg hn; have hy1 := fun j => cell_of_row _ _ j _ _ (0, 0) hx1)
          | (at_builtin; refine at_app (.tmp 29) (.tmp 32) 59 rfl ?_; refine wpList_app1 _ rfl (.tmp 29) (.tmp 32) 59 rfl (w.heap.size + 2) 3 i0 _ 1 8 Try.underlying59 hi hz0 hz1 hz2 rfl (by omega) u4 _ _ rfl R1.o2 _ _ rfl (by simp) rfl (by simp [Value.oneCell']) (by unfold maxLen; omega) (by omega) hB1 ?_; intro v2' w2 ho hg hn; have R2 := R1.step2 ho hg hn; have hbl2 := below_grown hbl1 (own_base R1.o2 (by omega)) hg hbl1.size; have hB2 : w.heap.size + 2 ≤ w2.heap.size := Nat.le_trans hB1 hg.size; have hbox2 := grown_blk hg hbox1 (fun g e => by have := (hR.o2.lt g e).1; omega); have hres2 := grown_blk hg hres1 (fun g e => by have := (hR.o2.lt g e).1; omega); have hx2 := grown_blk hg hx1 (fun g e => by have := (hR.o2.lt g e).2; omega); clear ho hg hn; have hy2 := fun j => cell_of_row _ _ j _ _ (0, 0) hx2)
          | (at_builtin; refine at_app (.tmp 34) (.tmp 37) 59 rfl ?_; refine wpList_app1 _ rfl (.tmp 34) (.tmp 37) 59 rfl (w.heap.size + 2) 3 i0 _ 1 8 Try.underlying59 hi hz0 hz1 hz2 rfl (by omega) u5 _ _ rfl R2.o3 _ _ rfl (by simp) rfl (by simp [Value.oneCell']) (by unfold maxLen; omega) (by omega) hB2 ?_; intro v3' w3 ho hg hn; have R3 := R2.step3 ho hg hn; have hbl3 := below_grown hbl2 (own_base R2.o3 (by omega)) hg hbl2.size; have hB3 : w.heap.size + 2 ≤ w3.heap.size := Nat.le_trans hB2 hg.size; have hbox3 := grown_blk hg hbox2 (fun g e => by have := (hR.o3.lt g e).1; omega); have hres3 := grown_blk hg hres2 (fun g e => by have := (hR.o3.lt g e).1; omega); have hx3 := grown_blk hg hx2 (fun g e => by have := (hR.o3.lt g e).2; omega); clear ho hg hn; have hy3 := fun j => cell_of_row _ _ j _ _ (0, 0) hx3)
          | (at_builtin; refine at_app (.tmp 39) (.tmp 42) 59 rfl ?_; refine wpList_app1 _ rfl (.tmp 39) (.tmp 42) 59 rfl (w.heap.size + 2) 3 i0 _ 1 8 Try.underlying59 hi hz0 hz1 hz2 rfl (by omega) u6 _ _ rfl R3.o4 _ _ rfl (by simp) rfl (by simp [Value.oneCell']) (by unfold maxLen; omega) (by omega) hB3 ?_; intro v4' w4 ho hg hn; have R4 := R3.step4 ho hg hn; have hbl4 := below_grown hbl3 (own_base R3.o4 (by omega)) hg hbl3.size; have hB4 : w.heap.size + 2 ≤ w4.heap.size := Nat.le_trans hB3 hg.size; have hbox4 := grown_blk hg hbox3 (fun g e => by have := (hR.o4.lt g e).1; omega); have hres4 := grown_blk hg hres3 (fun g e => by have := (hR.o4.lt g e).1; omega); have hx4 := grown_blk hg hx3 (fun g e => by have := (hR.o4.lt g e).2; omega); clear ho hg hn; have hy4 := fun j => cell_of_row _ _ j _ _ (0, 0) hx4))
        have hy := goods_yes hx HC.out
        go_roundw
        case rel => exact ⟨k + 1, hlt, by go_num, by rw [colI_snoc hy, colI_snoc hy, colI_snoc hy, colI_snoc hy]; exact R4, hbox4, by rw [bads_yes hx HC.out]; exact hres4, hbl4⟩
        case measure => simp [intOf]; omega
      · have hq : (x.code != 0) = true := by simp [hcode]
        have HC := Lib.hid hcode
        have hbd2 : ((xs.take k).filter fun x => x.code != 0).length ≤ k := Nat.le_trans (List.length_filter_le _ _) (List.length_take_le _ _)
        have hrc := fun j => cell_of_row _ _ j _ _ (0, 0) hres
        have hrf := fun j => frozen_of_row _ _ j _ _ hres
        clear hcode
        go_wp2
        have hy := goods_no hx HC.out
        go_roundw
        case rel =>
          refine ⟨k + 1, hlt, by go_num, ?_, ?_, ?_, (hbl.setCell (by simp) _).alloc (by simp; exact hbl.size) _⟩
          · have hR' := (hR.setBelow (a := ⟨w.heap.size + 1, 0, none⟩) (by simp) (.int .i64 ((((xs.take k).filter fun x => x.code != 0).length : Nat) + 1))).alloc (.cells #[.int .i64 x.code, .int .i64 x.cartons, .int .i64 x.pallets, .int .i64 x.cost, .int .i64 x.gram] 39)
            unfold colI at hR' ⊢
            rw [hy]
            exact hR'
          · rw [heap_alloc_if, if_neg (by simp; omega), Below.heap_setCell _ _ _ _ (by simp)]; exact hbox
          · rw [heap_alloc_if, if_neg (by simp; omega), bads_no hx HC.out]
            exact heap_setCell_same wr (w.heap.size + 1) 0 _ _ _ hres
        case measure => simp [intOf]; omega
    · obtain rfl : k = xs.length := by omega
      rw [List.take_length] at hR hres
      have r1 := col_read hR.o1 hbd
      have r2 := col_read hR.o2 hbd
      have r3 := col_read hR.o3 hbd
      have r4 := col_read hR.o4 hbd
      have hbc : ∀ j, wr.cell? ⟨w.heap.size, j, none⟩ = (#[Value.int .i64 0, .int .i64 0, .int .i64 0, .int .i64 0, .int .i64 0] : Array Value)[j]? := fun j => cell_of_row _ _ _ _ _ (0, 0) hbox
      have hbf : ∀ j, wr.frozen? ⟨w.heap.size, j, none⟩ = false := fun j => frozen_of_row _ _ _ _ _ hbox
      have hrc := fun j => cell_of_row _ _ j _ _ (0, 0) hres
      have hrf := fun j => frozen_of_row _ _ j _ _ hres
      go_wp2_with (go_at_call 38; refine (iSum_any _ _ _ (by first | exact r1 | exact r2 | exact r3 | exact r4)).mono ?_; rintro e w' ⟨rfl, rfl⟩)
      refine bodyPost_ret (v := (totB xs).val) (by simp [results, Try.results24, go_sem, hbc, totB]) rfl ⟨rfl, ?_⟩
      (repeat' (first | with_reducible exact Below.refl _ _ | with_reducible assumption | with_reducible refine Below.drew ?_ | with_reducible refine Below.alloc ?_ ?_ _ | with_reducible refine Below.setCell ?_ ?_ _ | with_reducible refine below_drewN ?_ _ | (simp; done) | (simp; omega)))
end Go.Proofs.Ytgljohibcglnbaa
