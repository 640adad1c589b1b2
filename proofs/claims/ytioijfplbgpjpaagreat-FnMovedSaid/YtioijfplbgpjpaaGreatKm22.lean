/-
  Plain laws on what moved: it is ascending, it moved both ways, it lies with others. No function is named here.
-/
import Derived.Test.YtioijfplbgpjpaaGreatKm09
import Derived.Test.YtioijfplbgpjpaaGreatKm01
import Derived.Test.YtioijfplbgpjpaaGreatKm00
namespace Go.Proofs.YtioijfplbgpjpaaGreat
set_option linter.unusedVariables false
set_option linter.unusedSimpArgs false
set_option maxRecDepth 100000
open Go.RowKit
theorem upTo_asc {sl : List Int} (hs : sl.Pairwise (· ≤ ·)) : ∀ k, k ≤ sl.length → (Lib.compactUpTo sl.toArray k).Pairwise (· < ·) ∧ (∀ u, u ∈ Lib.compactUpTo sl.toArray k ↔ u ∈ sl.take k)
 |0, _ => ⟨by simp [Lib.compactUpTo], fun u => by simp [Lib.compactUpTo]⟩
 |k + 1, hk => by
  obtain ⟨h1, h2⟩ := upTo_asc hs k (by omega)
  have hk1 : k < sl.length := hk
  have e1 : sl.toArray[k]! = sl[k] := by simp [hk1]
  rw [Lib.compactUpTo_succ, e1, List.take_add_one, List.getElem?_eq_getElem hk1]
  have hle : ∀ u ∈ sl.take k, u ≤ sl[k] := fun u hu => by
   obtain ⟨j, hj, rfl⟩ := List.getElem_of_mem hu
   have hj2 : j < k := by simp at hj; omega
   rw [List.getElem_take]
   exact List.pairwise_iff_getElem.1 hs j k (by omega) hk1 hj2
  cases hq : Lib.keeps sl.toArray k with
  |true =>
   simp only [Lib.keeps, decide_eq_true_eq, e1] at hq
   simp only [if_true]
   refine ⟨List.pairwise_append.2 ⟨h1, by simp, fun u hu y hy => ?_⟩, fun u => by simp only [List.mem_append, h2, Option.toList_some]⟩
   simp at hy
   subst hy
   have hu2 := (h2 u).1 hu
   have hlu := hle u hu2
   rcases hq with hq | hq
   ·subst hq; simp at hu2
   ·have hk0 : 0 < k := by
     rcases Nat.eq_zero_or_pos k with h | h
     ·subst h; simp at hu2
     ·exact h
    have e2 : sl.toArray[k - 1]! = sl[k - 1] := by simp [show k - 1 < sl.length by omega]
    rw [e2] at hq
    obtain ⟨j, hj, rfl⟩ := List.getElem_of_mem hu2
    have hj2 : j < k := by simp at hj; omega
    rw [List.getElem_take] at hlu ⊢
    have h3 : sl[j] ≤ sl[k - 1] := by
     rcases Nat.lt_or_ge j (k - 1) with h | h
     ·exact List.pairwise_iff_getElem.1 hs j (k - 1) (by omega) (by omega) h
     ·obtain rfl : j = k - 1 := by omega
      exact Int.le_refl _
    have h4 : sl[k - 1] ≤ sl[k] := List.pairwise_iff_getElem.1 hs (k - 1) k (by omega) hk1 (by omega)
    have h5 : sl[k] ≠ sl[k - 1] := hq
    omega
  |false =>
   simp only [Lib.keeps, decide_eq_false_iff_not, not_or, e1] at hq
   have hk0 : 0 < k := by omega
   have e2 : sl.toArray[k - 1]! = sl[k - 1] := by simp [show k - 1 < sl.length by omega]
   have hq2 : sl[k] = sl[k - 1] := by
    refine Classical.byContradiction fun hn => hq.2 ?_
    rw [e2]
    exact hn
   have hm : sl[k] ∈ sl.take k := by
    rw [hq2]
    exact List.mem_iff_getElem.2 ⟨k - 1, by simp; omega, by rw [List.getElem_take]⟩
   refine ⟨by simpa using h1, fun u => ?_⟩
   simp only [Bool.false_eq_true, if_false, List.append_nil, h2, List.mem_append, Option.toList_some, List.mem_singleton]
   exact ⟨.inl, fun h => h.elim id (fun h => h ▸ hm)⟩
theorem kindsM_asc (xs : List Int) : (kindsM xs).Pairwise (· < ·) := by
 unfold kindsM Lib.compact
 exact (upTo_asc (sortI_sorted xs) _ (Nat.le_refl _)).1
theorem kindsM_mem {xs : List Int} {u : Int} : u ∈ kindsM xs ↔ u ∈ xs := by
 unfold kindsM Lib.compact
 rw [(upTo_asc (sortI_sorted xs) _ (Nat.le_refl _)).2, List.take_length, sortI_mem]
theorem cwith_mem {cs : List Carton} {u : Int} : 0 ≤ cwith cs u ↔ u ∈ allU cs := by
 have h := idxF_any (hasU u) cs
 unfold cwith
 have e : (0 ≤ idxF (hasU u) cs) ↔ cs.any (hasU u) = true := by rw [← h, decide_eq_true_eq]
 rw [e, List.any_eq_true]
 unfold allU
 rw [List.mem_flatMap]
 constructor
 ·rintro ⟨c, hc, hu⟩
  refine ⟨c, hc, ?_⟩
  unfold hasU at hu
  rw [List.any_eq_true] at hu
  obtain ⟨y, hy, he⟩ := hu
  simp at he
  rw [he]; exact hy
 ·rintro ⟨c, hc, hu⟩
  exact ⟨c, hc, by unfold hasU; rw [List.any_eq_true]; exact ⟨u, hu, by simp⟩⟩
theorem mov_mem {a b : Plan} {u : Int} : u ∈ mov a b ↔ (u ∈ allU a.cartons ∧ u ∈ allU b.cartons) ∧ ¬ tog a u = tog b u := by
 unfold mov
 rw [List.mem_filter, kindsM_mem]
 unfold movF
 simp only [Bool.and_eq_true, decide_eq_true_eq, Bool.not_eq_true', decide_eq_false_iff_not, cwith_mem]
 exact ⟨fun h => ⟨⟨h.1, h.2.1⟩, h.2.2⟩, fun h => ⟨h.1.1, h.1.2, h.2⟩⟩
theorem mov_asc (a b : Plan) : (mov a b).Pairwise (· < ·) := (kindsM_asc _).filter _
theorem mov_comm (a b : Plan) : mov b a = mov a b := by
 have n1 : ∀ l : List Int, l.Pairwise (· < ·) → l.Nodup := fun l h => h.imp (fun h => by omega)
 refine eq_of_sorted ((List.perm_ext_iff_of_nodup (n1 _ (mov_asc b a)) (n1 _ (mov_asc a b))).2 fun u => ?_) ((mov_asc b a).imp (fun h => by omega)) ((mov_asc a b).imp (fun h => by omega))
 rw [mov_mem, mov_mem]
 exact ⟨fun h => ⟨⟨h.1.2, h.1.1⟩, fun e => h.2 e.symm⟩, fun h => ⟨⟨h.1.2, h.1.1⟩, fun e => h.2 e.symm⟩⟩
theorem mov_at {a b : Plan} {k : Nat} {u : Int} (h : (mov a b)[k]? = some u) : decide (tog a u = tog b u) = false ∧ ¬ cwith a.cartons u < 0 ∧ ¬ cwith b.cartons u < 0 := by
 have h1 := mov_mem.1 (List.mem_of_getElem? h)
 have h2 := cwith_mem.2 h1.1.1
 have h3 := cwith_mem.2 h1.1.2
 exact ⟨decide_eq_false h1.2, by omega, by omega⟩
theorem mov_step {a b : Plan} {k : Nat} {u y : Int} (h : (mov a b)[k + 1]? = some u) (h2 : (mov a b)[k]? = some y) : ¬ u ≤ y := by
 obtain ⟨i1, e1⟩ := List.getElem?_eq_some_iff.1 h
 obtain ⟨i2, e2⟩ := List.getElem?_eq_some_iff.1 h2
 have := List.pairwise_iff_getElem.1 (mov_asc a b) k (k + 1) i2 i1 (by omega)
 omega
end Go.Proofs.YtioijfplbgpjpaaGreat
namespace Go.Proofs.YtioijfplbgpjpaaGreat
set_option linter.unusedVariables false
set_option linter.unusedSimpArgs false
set_option maxRecDepth 100000
open Go.RowKit
set_option maxHeartbeats 400000 in
theorem sameInts_any (v u : Value) (xs ys : List Int) (w : World) (h : RL 16777216 1 (flat cI) w w.heap.size v xs) (h2 : RL 16777216 1 (flat cI) w w.heap.size u ys) :
  Calls Tryz.prog 46 #[v, u] w fun e w' => e = .returned (.bool (decide (xs = ys))) ∧ Below w.heap.size w w' := by
 have h' := h
 obtain ⟨A, c, rfl, hbd, _⟩ := h
 have H := Lib.hid h'
 clear h'
 have h' := h2
 obtain ⟨A2, c2, rfl, hbd2, _⟩ := h2
 have H2 := Lib.hid h'
 clear h'
 by_cases hl : xs.length = ys.length
 ·have hl0 : ((xs.length : Int) != (ys.length : Int)) = false := by simp [hl]
  have HL := Lib.hid hl
  clear hl
  go_enter Tryz.func46, Tryz.ntmps46
  go_wp2
  go_loopw [5] (fun i wr => ∃ k : Nat, k ≤ xs.length ∧ i = .int .i64 k ∧ (∀ i, i < k → xs[i]? = ys[i]?) ∧ Below w.heap.size w wr) (fun i _ => xs.length - (intOf i).toNat)
  case atStart => exact ⟨0, Nat.zero_le _, rfl, fun _ h => by omega, Below.refl _ _⟩
  case round =>
   obtain ⟨k, hk, rfl, heq, hbl⟩ := hrel
   have HE := Lib.hid heq
   clear heq
   by_cases hlt : k < xs.length
   ·obtain ⟨b, off, x, _, rfl, hb, hx, _, rfl, hc⟩ := (H.out.below (flat_mono _) hbl).at_ k hlt
    obtain ⟨b2, off2, y, _, rfl, hb2, hy, _, rfl, hc2⟩ := (H2.out.below (flat_mono _) hbl).at_ k (HL.out ▸ hlt)
    have hc0 := hc 0 _ rfl
    have hd0 := hc2 0 _ rfl
    simp only [Nat.add_zero, Nat.mul_one] at hc0 hd0
    have hlt2 : k < ys.length := HL.out ▸ hlt
    clear hc hc2
    by_cases hxy : x = y
    ·subst hxy
     have hdx : (x != x) = false := by simp
     go_wp2
     go_quiet (fail)
     go_wp2
     go_roundw
     case rel => exact ⟨k + 1, hlt, by go_num, eq_upto HE.out hx hy, below_drewN hbl _⟩
     case measure => simp [intOf]; omega
    ·have hne := list_ne_of hx hy hxy
     have HN := Lib.hid hne
     have hdx : (x != y) = true := by simpa using hxy
     clear hne hxy
     go_wp2
     go_quiet (fail)
     go_wp2
     go_ret
     exact ⟨ret_bool (by simp [HN.out]), below_drewN hbl _⟩
   ·have heq := list_eq_of HL.out (show k = xs.length by omega) HE.out
    have HN := Lib.hid heq
    clear heq
    go_wp2
    go_ret
    exact ⟨ret_bool (by simp [HN.out]), hbl⟩
 ·have hl0 : ((xs.length : Int) != (ys.length : Int)) = true := by rw [bne_iff_ne]; omega
  have hne : xs ≠ ys := fun e => hl (by rw [e])
  have HN := Lib.hid hne
  clear hne hl
  go_enter Tryz.func46, Tryz.ntmps46
  go_wp2
  go_ret
  exact ⟨ret_bool (by simp [HN.out]), Below.refl _ _⟩
end Go.Proofs.YtioijfplbgpjpaaGreat
namespace Go.Proofs.YtioijfplbgpjpaaGreat
set_option linter.unusedVariables false
set_option linter.unusedSimpArgs false
set_option maxRecDepth 100000
open Go.RowKit
end Go.Proofs.YtioijfplbgpjpaaGreat
