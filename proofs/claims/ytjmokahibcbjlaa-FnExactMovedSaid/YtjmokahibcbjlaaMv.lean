/-
  The walks over Moved, both sides.
-/
import Derived.Test.YtjmokahibcbjlaaTh
namespace Go.Proofs.Ytjmokahibcbjlaa
set_option linter.unusedVariables false
set_option linter.unusedSimpArgs false
open Go.RowKit
/-- the numbers of a list, ascending, each once -/
def kindsM (xs : List Int) : List Int := Lib.compact (sortI xs)
def movF (a b : Plan) (u : Int) : Bool := decide (0 ≤ cwith b.cartons u) && !decide (tog a u = tog b u)
def mov (a b : Plan) : List Int := (kindsM (allU a.cartons)).filter (movF a b)
theorem compact_le (xs : List Int) : (Lib.compact xs).length ≤ xs.length := by unfold Lib.compact Lib.compactUpTo; rw [List.length_map]; exact Nat.le_trans (List.length_filter_le _ _) (by simp)
theorem kindsM_le (xs : List Int) : (kindsM xs).length ≤ xs.length := by unfold kindsM; exact Nat.le_trans (compact_le _) (Nat.le_of_eq (sortI_length _))
theorem upTo_mem {d : Array Int} : ∀ {k : Nat} {u : Int}, u ∈ Lib.compactUpTo d k → ∃ j, j < k ∧ d[j]! = u := by
  intro k u h
  unfold Lib.compactUpTo at h
  obtain ⟨j, hj, rfl⟩ := List.mem_map.1 h
  exact ⟨j, List.mem_range.1 (List.mem_filter.1 hj).1, rfl⟩
theorem upTo_last {d : Array Int} : ∀ (k : Nat), ∃ l, Lib.compactUpTo d (k + 1) = l ++ [d[k]!]
  | 0 => ⟨[], by rw [Lib.compactUpTo_succ]; simp [Lib.compactUpTo, Lib.keeps]⟩
  | k + 1 => by
    rw [Lib.compactUpTo_succ]
    cases h : Lib.keeps d (k + 1) with
    | true => exact ⟨Lib.compactUpTo d (k + 1), by simp⟩
    | false =>
      obtain ⟨l, hl⟩ := upTo_last (d := d) k
      refine ⟨l, ?_⟩
      simp only [Lib.keeps, decide_eq_false_iff_not] at h
      have : d[k + 1]! = d[k]! := by
        refine Classical.byContradiction fun hn => h (.inr ?_)
        simpa using hn
      simpa [this] using hl
/-- one number more, of ascending ones: it stands there last already, or it is new -/
theorem dd_same {sl : List Int} {k : Nat} {u : Int} (hs : sl.Pairwise (· ≤ ·)) (hk : sl[k]? = some u) (q : Int → Bool) (h : ((Lib.compactUpTo sl.toArray k).filter q).getLast? = some u) :
    (Lib.compactUpTo sl.toArray (k + 1)).filter q = (Lib.compactUpTo sl.toArray k).filter q := by
  obtain ⟨hk1, hk2⟩ := List.getElem?_eq_some_iff.1 hk
  have hd : ∀ j, j < sl.length → sl.toArray[j]! = sl[j]! := fun j hj => by simp
  rw [Lib.compactUpTo_succ]
  cases hq : Lib.keeps sl.toArray k with
  | false => simp
  | true =>
    exfalso
    have hm := List.mem_of_getLast? h
    obtain ⟨j, hj, hju⟩ := upTo_mem (List.mem_filter.1 hm).1
    simp only [Lib.keeps, decide_eq_true_eq] at hq
    have hk0 : 0 < k := by omega
    rcases hq with hq | hq
    · omega
    · apply hq
      have e1 : sl.toArray[k]! = u := by simp [hk1, hk2]
      have h1 : sl[j]'(by omega) = u := by simpa [show j < sl.length by omega] using hju
      have h2 : sl[j]'(by omega) ≤ sl[k - 1]'(by omega) := by
        rcases Nat.lt_or_ge j (k - 1) with h | h
        · exact List.pairwise_iff_getElem.1 hs j (k - 1) (by omega) (by omega) h
        · obtain rfl : j = k - 1 := by omega
          exact Int.le_refl _
      have h3 : sl[k - 1]'(by omega) ≤ sl[k] := List.pairwise_iff_getElem.1 hs (k - 1) k (by omega) hk1 (by omega)
      rw [e1]
      simp [show k - 1 < sl.length by omega]
      omega
theorem dd_new {sl : List Int} {k : Nat} {u : Int} (hk : sl[k]? = some u) (q : Int → Bool) (h : ((Lib.compactUpTo sl.toArray k).filter q).getLast? ≠ some u) :
    (Lib.compactUpTo sl.toArray (k + 1)).filter q = (Lib.compactUpTo sl.toArray k).filter q ++ (if q u then [u] else []) := by
  obtain ⟨hk1, hk2⟩ := List.getElem?_eq_some_iff.1 hk
  have e1 : sl.toArray[k]! = u := by simp [hk1, hk2]
  rw [Lib.compactUpTo_succ, e1, List.filter_append]
  cases hq : Lib.keeps sl.toArray k with
  | true => simp [List.filter_cons]
  | false =>
    cases hqu : q u with
    | false => simp
    | true =>
      exfalso
      apply h
      simp only [Lib.keeps, decide_eq_false_iff_not] at hq
      obtain ⟨m, rfl⟩ : ∃ m, k = m + 1 := ⟨k - 1, by omega⟩
      have e2 : sl.toArray[m]! = u := by
        refine Classical.byContradiction fun hn => hq (.inr ?_)
        rw [e1]
        exact fun e => hn e.symm
      obtain ⟨l, hl⟩ := upTo_last (d := sl.toArray) m
      rw [hl, e2, List.filter_append]
      simp [hqu]
set_option maxHeartbeats 400000 in
theorem l1Same_any (v u : Value) (xs ys : List Int) (w : World) (h : RL 16777216 1 (flat cI) w w.heap.size v xs) (h2 : RL 16777216 1 (flat cI) w w.heap.size u ys) :
    Calls Try.prog 44 #[v, u] w fun e w' => e = .returned (.bool (decide (xs = ys))) ∧ Below w.heap.size w w' := by
  have h' := h
  obtain ⟨A, c, rfl, hbd, _⟩ := h
  have H := Lib.hid h'
  clear h'
  have h' := h2
  obtain ⟨A2, c2, rfl, hbd2, _⟩ := h2
  have H2 := Lib.hid h'
  clear h'
  by_cases hl : xs.length = ys.length
  · have hl0 : ((xs.length : Int) != (ys.length : Int)) = false := by simp [hl]
    have HL := Lib.hid hl
    clear hl
    go_enter Try.func44, Try.ntmps44
    go_wp2
    go_loopw [5] (fun i wr => ∃ k : Nat, k ≤ xs.length ∧ i = .int .i64 k ∧ (∀ i, i < k → xs[i]? = ys[i]?) ∧ Below w.heap.size w wr) (fun i _ => xs.length - (intOf i).toNat)
    case atStart => exact ⟨0, Nat.zero_le _, rfl, fun _ h => by omega, Below.refl _ _⟩
    case round =>
      obtain ⟨k, hk, rfl, heq, hbl⟩ := hrel
      have HE := Lib.hid heq
      clear heq
      by_cases hlt : k < xs.length
      · obtain ⟨b, off, x, _, rfl, hb, hx, _, rfl, hc⟩ := (H.out.below (flat_mono _) hbl).at_ k hlt
        obtain ⟨b2, off2, y, _, rfl, hb2, hy, _, rfl, hc2⟩ := (H2.out.below (flat_mono _) hbl).at_ k (HL.out ▸ hlt)
        have hc0 := hc 0 _ rfl
        have hd0 := hc2 0 _ rfl
        simp only [Nat.add_zero, Nat.mul_one] at hc0 hd0
        have hlt2 : k < ys.length := HL.out ▸ hlt
        clear hc hc2
        by_cases hxy : x = y
        · subst hxy
          have hdx : (x != x) = false := by simp
          go_wp2
          go_quiet (fail)
          go_wp2
          go_roundw
          case rel => exact ⟨k + 1, hlt, by go_num, eq_upto HE.out hx hy, below_drewN hbl _⟩
          case measure => simp [intOf]; omega
        · have hne := list_ne_of hx hy hxy
          have HN := Lib.hid hne
          have hdx : (x != y) = true := by simpa using hxy
          clear hne hxy
          go_wp2
          go_quiet (fail)
          go_wp2
          go_ret
          exact ⟨ret_bool (by simp [HN.out]), below_drewN hbl _⟩
      · have heq := list_eq_of HL.out (show k = xs.length by omega) HE.out
        have HN := Lib.hid heq
        clear heq
        go_wp2
        go_ret
        exact ⟨ret_bool (by simp [HN.out]), hbl⟩
  · have hl0 : ((xs.length : Int) != (ys.length : Int)) = true := by rw [bne_iff_ne]; omega
    have hne : xs ≠ ys := fun e => hl (by rw [e])
    have HN := Lib.hid hne
    clear hne hl
    go_enter Try.func44, Try.ntmps44
    go_wp2
    go_ret
    exact ⟨ret_bool (by simp [HN.out]), Below.refl _ _⟩
set_option maxHeartbeats 400000 in
theorem kinds_any (v : Value) (xs : List Int) (w : World) (h : RInts 16777216 w w.heap.size v xs) : Calls Try.prog 45 #[v] w (MInts w (kindsM xs)) := by
  have H := Lib.hid h
  have hl := h.len
  clear h
  go_enter Try.func45, Try.ntmps45
  go_wp2_with fail
  refine (cloneInts_any _ xs _ H.out).mono ?_
  rintro e w1 ⟨v1, f1, rfl, ho1, hb1⟩
  have hlo := fun b hb => (ho1.lt b hb).1
  have HLO := Lib.hid hlo
  have HO1 := Lib.hid ho1
  clear ho1 hlo
  go_wp2_with fail
  refine (sortInt_any v1 _ f1 _ _ HO1.out (by omega)).mono ?_
  rintro e w2 ⟨rfl, ho2, ht2⟩
  have HB2 := Lib.hid (hb1.trans (ht2.below hb1.size HLO.out))
  have HO2 := Lib.hid ho2
  clear ho2 ht2
  go_wp2_with fail
  refine (compactInt_any v1 _ f1 _ _ HO2.out (by rw [sortI_length]; omega)).mono ?_
  rintro e w3 ⟨v3, rfl, ho3, ht3⟩
  have HB3 := Lib.hid (HB2.out.trans (ht3.below HB2.out.size HLO.out))
  have HO3 := Lib.hid ho3
  clear ho3 ht3
  go_wp2
  go_ret
  exact MInts.mk HO3.out (Nat.le_refl _) HB3.out
set_option maxHeartbeats 1000000 in
theorem iMoved_any (va vb : Value) (a b : Plan) (w : World) (ha : RPlan 16777216 w w.heap.size va a) (hb : RPlan 16777216 w w.heap.size vb b) (hLa : a.bulk ≤ 16777216) (hLb : b.bulk ≤ 16777216) : Calls Try.prog 19 #[va, vb] w (MInts w (mov a b)) := by
  have HA := Lib.hid ha
  have HB := Lib.hid hb
  obtain ⟨a1, a2, rfl, _, _⟩ := ha
  obtain ⟨b1, b2, rfl, _, _⟩ := hb
  have hW0 : Below w.heap.size w (((w.alloc (.cells #[a1, a2] 30)).alloc (.cells #[b1, b2] 30)).alloc (.cells #[] 3)) := (by repeat' (first | with_reducible exact Below.refl _ _ | with_reducible assumption | with_reducible refine Below.drew ?_ | with_reducible refine Below.alloc ?_ ?_ _ | with_reducible refine Below.setCell ?_ ?_ _ | with_reducible refine below_drewN ?_ _ | (simp; done) | (simp; omega)))
  have HX0 : Hid ((((w.alloc (.cells #[a1, a2] 30)).alloc (.cells #[b1, b2] 30)).alloc (.cells #[] 3)).heap[w.heap.size]? = some (.cells #[a1, a2] 30 (0, 0))) := Lib.hid (by (simp only [heap_alloc_if, World.size_alloc]; repeat (first | rw [if_neg (by omega)] | rw [if_pos (by omega)] | rw [if_pos trivial])))
  have HY0 : Hid ((((w.alloc (.cells #[a1, a2] 30)).alloc (.cells #[b1, b2] 30)).alloc (.cells #[] 3)).heap[w.heap.size + 1]? = some (.cells #[b1, b2] 30 (0, 0))) := Lib.hid (by (simp only [heap_alloc_if, World.size_alloc]; repeat (first | rw [if_neg (by omega)] | rw [if_pos (by omega)] | rw [if_pos trivial])))
  have HZ0 : Hid ((((w.alloc (.cells #[a1, a2] 30)).alloc (.cells #[b1, b2] 30)).alloc (.cells #[] 3)).heap[w.heap.size + 2]? = some (.cells #[] 3 (0, 0))) := Lib.hid (by (simp only [heap_alloc_if, World.size_alloc]; repeat (first | rw [if_neg (by omega)] | rw [if_pos (by omega)] | rw [if_pos trivial])))
  have hAl := Nat.le_trans (allU_bulk a) hLa
  go_enter Try.func19, Try.ntmps19
  go_wp2_with fail
  refine (allUnits_any _ a _ (HA.out.next hW0) hLa).mono ?_
  rintro e w1 ⟨v1, f1, rfl, ho1, hb1⟩
  have HO1 := Lib.hid ho1
  clear ho1
  go_wp2_with fail
  refine (kinds_any _ _ _ (HO1.out.read hAl)).mono ?_
  rintro e w2 ⟨v2, f2, rfl, ho2, hb2⟩
  have HX2 := Lib.hid (blk_next (blk_next HX0.out hb1) hb2)
  have HY2 := Lib.hid (blk_next (blk_next HY0.out hb1) hb2)
  have HZ2 := Lib.hid (blk_next (blk_next HZ0.out hb1) hb2)
  have hW2 := bstep (bstep hW0 hb1) hb2
  obtain ⟨ks, hks⟩ : ∃ l, l = kindsM (allU a.cartons) := ⟨_, rfl⟩
  have hkl : ks.length ≤ 16777216 := by rw [hks]; exact Nat.le_trans (kindsM_le _) hAl
  have HM := Lib.hid (show mov a b = ks.filter (movF a b) by rw [hks]; rfl)
  rw [← hks] at ho2
  have HK := Lib.hid (ho2.read hkl)
  obtain ⟨A2, c2, rfl, hc2⟩ := OInts.form ho2
  have hlX := lt_of_block HX2.out
  have hlY := lt_of_block HY2.out
  have hlZ := lt_of_block HZ2.out
  have hw02 := hW2.size
  clear ho2 hks hb1 hb2
  go_wp2
  go_loopw [5, 13] (fun v iv wr => ∃ k : Nat, k ≤ ks.length ∧ iv = .int .i64 k ∧ ownsZ wr w.heap.size w2.heap.size 3 1 v ((ks.take k).filter (movF a b)).length (((ks.take k).filter (movF a b)).flatMap cI) ∧ Below w2.heap.size w2 wr) (fun _ iv _ => ks.length - (intOf iv).toNat)
  case atStart => exact ⟨0, Nat.zero_le _, rfl, ownsZ_start (g := w.heap.size + 2) (by omega) hlZ HZ2.out, Below.refl _ _⟩
  case round =>
    obtain ⟨k, hk, rfl, hown, hbl⟩ := hrel
    have HO := Lib.hid hown
    have HWr := Lib.hid (hW2.trans (hbl.mono hw02))
    have hbx := (hbl.block _ hlX).trans HX2.out
    have hby := (hbl.block _ hlY).trans HY2.out
    have hsz := hbl.size
    clear hown
    by_cases hlt : k < ks.length
    · obtain ⟨u, hu⟩ : ∃ u, ks[k]? = some u := ⟨_, List.getElem?_eq_getElem hlt⟩
      obtain ⟨bk, ok, x, rfl, hbk, hx, hcx⟩ := RL.at1 (HK.out.below (flat_mono _) hbl) k hlt
      rw [hu] at hx
      cases hx
      have hcu := hcx _ rfl
      have htk : ks.take (k + 1) = ks.take k ++ [u] := by rw [List.take_add_one, hu]; rfl
      have HTK := Lib.hid htk
      have hle : ((ks.take k).filter (movF a b)).length ≤ k := Nat.le_trans (List.length_filter_le _ _) (List.length_take_le _ _)
      have hq1 : wr.cell? ⟨w.heap.size, 0, none⟩ = some a1 := cell_of_row _ _ 0 _ _ (0, 0) hbx
      have hq2 : wr.cell? ⟨w.heap.size, 1, none⟩ = some a2 := cell_of_row _ _ 1 _ _ (0, 0) hbx
      have hq3 : wr.cell? ⟨w.heap.size + 1, 0, none⟩ = some b1 := cell_of_row _ _ 0 _ _ (0, 0) hby
      have hq4 : wr.cell? ⟨w.heap.size + 1, 1, none⟩ = some b2 := cell_of_row _ _ 1 _ _ (0, 0) hby
      have hlX' : w.heap.size < wr.heap.size := by omega
      have hlY' : w.heap.size + 1 < wr.heap.size := by omega
      have hbd : Below wr.heap.size wr wr.drew := (Below.refl _ _).drew
      obtain ⟨cw, hcw⟩ : ∃ x, cwith b.cartons u = x := ⟨_, rfl⟩
      have HCW := Lib.hid hcw
      have HWd := Lib.hid (bstep HWr.out hbd)
      clear hcx hu htk hbx hby hcw
      by_cases hneg : cw < 0
      · have hd1 : decide (0 ≤ cw) = false := by simp; omega
        have HF := Lib.hid (show movF a b u = false by unfold movF; rw [HCW.out, hd1]; rfl)
        have hE := fun X : Ext wr.heap.size wr => ext_call (x := X) (Nat.le_refl _) (iCartonWith_any _ b u _ (HB.out.next (bstep HWr.out X.ok)))
        simp only [HCW.out] at hE
        have HE := Lib.hid hE
        have he3 := fun X : Ext wr.heap.size wr => (X.cells (o := 0) hlY').trans hq3
        have he4 := fun X : Ext wr.heap.size wr => (X.cells (o := 1) hlY').trans hq4
        clear hq1 hq2 hq3 hq4 hE
        go_wp2
        refine wp_region_ext wr.heap.size (by kernel_rfl) (by kernel_rfl) ?_
        repeat (go_big_quiet_step (exact HE.out _))
        refine wpQuiet_nil ?_
        intro _ hw'
        obtain ⟨X, rfl⟩ := hw'
        go_wp2
        go_roundw
        case rel => exact ⟨k + 1, hlt, by go_num, by rw [HTK.out, List.filter_append]; simpa [HF.out] using (HO.out.next X.ok), hbl.trans (X.ok.mono hsz)⟩
        case measure => simp [intOf]; omega
      · have hd1 : decide (0 ≤ cw) = true := by simp; omega
        obtain ⟨ta, hta⟩ : ∃ l, l = tog a u := ⟨_, rfl⟩
        obtain ⟨tb, htb⟩ : ∃ l, l = tog b u := ⟨_, rfl⟩
        have htal : ta.length ≤ 16777216 := by rw [hta]; exact Nat.le_trans (tog_len a u) hLa
        have htbl : tb.length ≤ 16777216 := by rw [htb]; exact Nat.le_trans (tog_len b u) hLb
        have HF := Lib.hid (show movF a b u = !decide (ta = tb) by unfold movF; rw [HCW.out, hd1, hta, htb]; rfl)
        have HTA := Lib.hid (fun W (hW : RPlan 16777216 W W.heap.size (.agg #[a1, a2]) a) => by have := iTogether_any _ a u W hW hLa; rwa [← hta] at this)
        have HTB := Lib.hid (fun W (hW : RPlan 16777216 W W.heap.size (.agg #[b1, b2]) b) => by have := iTogether_any _ b u W hW hLb; rwa [← htb] at this)
        have HD := Lib.hid hd1
        have hge : 0 ≤ cw := by omega
        clear hta htb hneg hd1
        go_wp2
        go_region_held3 (fun W' => W'.cell? ⟨w.heap.size, 0, none⟩ = some a1 ∧ W'.cell? ⟨w.heap.size, 1, none⟩ = some a2 ∧ W'.cell? ⟨w.heap.size + 1, 0, none⟩ = some b1 ∧ W'.cell? ⟨w.heap.size + 1, 1, none⟩ = some b2)
          (first | go_keep | exact ⟨k1, k2, k3, k4⟩ | exact ⟨l1, l2, l3, l4⟩ | exact ⟨m1, m2, m3, m4⟩ | exact ⟨n1, n2, n3, n4⟩)
          (first
            | (go_at_call 38; refine (iCartonWith_any _ b u _ (HB.out.next HWd.out)).mono ?_; rintro e w5 ⟨rfl, hb5⟩; rw [HCW.out]; have k1 := (hb5.cell (p := ⟨w.heap.size, 0, none⟩) hlX').trans hq1; have k2 := (hb5.cell (p := ⟨w.heap.size, 1, none⟩) hlX').trans hq2; have k3 := (hb5.cell (p := ⟨w.heap.size + 1, 0, none⟩) hlY').trans hq3; have k4 := (hb5.cell (p := ⟨w.heap.size + 1, 1, none⟩) hlY').trans hq4; have hs5 := hb5.size; have HW5 := Lib.hid (bstep HWd.out hb5))
            | (go_at_call 14; ((with_reducible refine (HTA.out _ (HA.out.next HW5.out)).mono ?_)); rintro e w6 ⟨u6, f6, rfl, ho6, hb6⟩; have l1 := (hb6.cell (p := ⟨w.heap.size, 0, none⟩) (Nat.lt_of_lt_of_le hlX' hs5)).trans k1; have l2 := (hb6.cell (p := ⟨w.heap.size, 1, none⟩) (Nat.lt_of_lt_of_le hlX' hs5)).trans k2; have l3 := (hb6.cell (p := ⟨w.heap.size + 1, 0, none⟩) (Nat.lt_of_lt_of_le hlY' hs5)).trans k3; have l4 := (hb6.cell (p := ⟨w.heap.size + 1, 1, none⟩) (Nat.lt_of_lt_of_le hlY' hs5)).trans k4; have hs6 := Nat.le_trans hs5 hb6.size; have HW6 := Lib.hid (bstep HW5.out hb6); have HO6 := Lib.hid ho6; clear ho6)
            | (go_at_call 14; ((with_reducible refine (HTB.out _ (HB.out.next HW6.out)).mono ?_)); rintro e w7 ⟨u7, f7, rfl, ho7, hb7⟩; have m1 := (hb7.cell (p := ⟨w.heap.size, 0, none⟩) (Nat.lt_of_lt_of_le hlX' hs6)).trans l1; have m2 := (hb7.cell (p := ⟨w.heap.size, 1, none⟩) (Nat.lt_of_lt_of_le hlX' hs6)).trans l2; have m3 := (hb7.cell (p := ⟨w.heap.size + 1, 0, none⟩) (Nat.lt_of_lt_of_le hlY' hs6)).trans l3; have m4 := (hb7.cell (p := ⟨w.heap.size + 1, 1, none⟩) (Nat.lt_of_lt_of_le hlY' hs6)).trans l4; have hs7 := Nat.le_trans hs6 hb7.size; have HW7 := Lib.hid (bstep HW6.out hb7); have HO7 := Lib.hid ho7; have HO67 := Lib.hid (HO6.out.next hb7); clear ho7)
            | (go_at_call 47; refine (equalInt_any _ _ ta tb _ (HO67.out.read htal) (HO7.out.read htbl)).mono ?_; rintro e w8 ⟨rfl, hb8⟩; have n1 := (hb8.cell (p := ⟨w.heap.size, 0, none⟩) (Nat.lt_of_lt_of_le hlX' hs7)).trans m1; have n2 := (hb8.cell (p := ⟨w.heap.size, 1, none⟩) (Nat.lt_of_lt_of_le hlX' hs7)).trans m2; have n3 := (hb8.cell (p := ⟨w.heap.size + 1, 0, none⟩) (Nat.lt_of_lt_of_le hlY' hs7)).trans m3; have n4 := (hb8.cell (p := ⟨w.heap.size + 1, 1, none⟩) (Nat.lt_of_lt_of_le hlY' hs7)).trans m4))
        have HB8 := Lib.hid (bstep (bstep (bstep (bstep hbd hb5) hb6) hb7) hb8)
        have HO8 := Lib.hid (HO.out.next HB8.out)
        have hs8 : w2.heap.size ≤ w8.heap.size := Nat.le_trans hsz HB8.out.size
        clear hq1 hq2 hq3 hq4 k1 k2 k3 k4 l1 l2 l3 l4 m1 m2 m3 m4 n1 n2 n3 n4 hb5 hb6 hb7 hb8
        by_cases heq : ta = tb
        · have HF2 := Lib.hid (show movF a b u = false by rw [HF.out]; simp [heq])
          have hde : decide (ta = tb) = true := by simp [heq]
          rw [hde]
          clear heq hde
          go_wp2
          go_roundw
          case rel => exact ⟨k + 1, hlt, by go_num, by rw [HTK.out, List.filter_append]; simpa [HF2.out] using HO8.out, hbl.trans (HB8.out.mono hsz)⟩
          case measure => simp [intOf]; omega
        · have HF2 := Lib.hid (show movF a b u = true by rw [HF.out]; simp [heq])
          have hde : decide (ta = tb) = false := by simp [heq]
          rw [hde]
          clear heq hde
          go_wp2_with (at_builtin; refine at_app (.tmp 31) (.tmp 33) 36 rfl ?_; refine appZ1_Int (.tmp 31) (.tmp 33) rfl rfl _ rfl rfl rfl rfl HO8.out (by omega) hs8 ?_; intro v' w' ho hb _ _)
          go_roundw
          case rel => exact ⟨k + 1, hlt, by go_num, by rw [HTK.out, List.filter_append]; simpa [HF2.out] using ho, (hbl.trans (HB8.out.mono hsz)).trans hb⟩
          case measure => simp [intOf]; omega
    · obtain rfl : k = ks.length := by omega
      rw [List.take_length] at HO
      go_wp2
      go_ret
      rw [HM.out]
      exact MInts.row (HO.out.own hw02) (Nat.le_refl _) HWr.out
set_option maxHeartbeats 1000000 in
theorem sMoved_any (va vb : Value) (a b : Plan) (w : World) (ha : RPlan 16777216 w w.heap.size va a) (hb : RPlan 16777216 w w.heap.size vb b) (hLa : a.bulk ≤ 16777216) (hLb : b.bulk ≤ 16777216) : Calls Try.prog 18 #[va, vb] w (MInts w (mov a b)) := by
  have HA := Lib.hid ha
  have HB := Lib.hid hb
  obtain ⟨a1, a2, rfl, _, _⟩ := ha
  obtain ⟨b1, b2, rfl, _, _⟩ := hb
  have hW0 : Below w.heap.size w (((w.alloc (.cells #[a1, a2] 30)).alloc (.cells #[b1, b2] 30)).alloc (.cells #[] 3)) := (by repeat' (first | with_reducible exact Below.refl _ _ | with_reducible assumption | with_reducible refine Below.drew ?_ | with_reducible refine Below.alloc ?_ ?_ _ | with_reducible refine Below.setCell ?_ ?_ _ | with_reducible refine below_drewN ?_ _ | (simp; done) | (simp; omega)))
  have HX0 : Hid ((((w.alloc (.cells #[a1, a2] 30)).alloc (.cells #[b1, b2] 30)).alloc (.cells #[] 3)).heap[w.heap.size]? = some (.cells #[a1, a2] 30 (0, 0))) := Lib.hid (by (simp only [heap_alloc_if, World.size_alloc]; repeat (first | rw [if_neg (by omega)] | rw [if_pos (by omega)] | rw [if_pos trivial])))
  have HY0 : Hid ((((w.alloc (.cells #[a1, a2] 30)).alloc (.cells #[b1, b2] 30)).alloc (.cells #[] 3)).heap[w.heap.size + 1]? = some (.cells #[b1, b2] 30 (0, 0))) := Lib.hid (by (simp only [heap_alloc_if, World.size_alloc]; repeat (first | rw [if_neg (by omega)] | rw [if_pos (by omega)] | rw [if_pos trivial])))
  have HZ0 : Hid ((((w.alloc (.cells #[a1, a2] 30)).alloc (.cells #[b1, b2] 30)).alloc (.cells #[] 3)).heap[w.heap.size + 2]? = some (.cells #[] 3 (0, 0))) := Lib.hid (by (simp only [heap_alloc_if, World.size_alloc]; repeat (first | rw [if_neg (by omega)] | rw [if_pos (by omega)] | rw [if_pos trivial])))
  have hAl := Nat.le_trans (allU_bulk a) hLa
  obtain ⟨fl, hfl⟩ : ∃ l, l = allU a.cartons := ⟨_, rfl⟩
  obtain ⟨sl, hsl⟩ : ∃ l, l = sortI fl := ⟨_, rfl⟩
  obtain ⟨au, hau⟩ : ∃ l, l = argUp fl := ⟨_, rfl⟩
  rw [← hfl] at hAl
  have hsll : sl.length = fl.length := by rw [hsl, sortI_length]
  have haul : au.length = fl.length := by rw [hau, argUp_length]
  have HM := Lib.hid (show mov a b = (Lib.compactUpTo sl.toArray fl.length).filter (movF a b) by rw [← hsll, hsl, hfl]; rfl)
  have HSO := Lib.hid (show sl.Pairwise (· ≤ ·) by rw [hsl]; exact sortI_sorted _)
  have HG := Lib.hid (show ∀ k p, au[k]? = some p → sl[k]? = some (keyAt fl p) ∧ p < fl.length by
    intro k p hp
    rw [hau] at hp
    exact ⟨by rw [hsl]; exact sortI_at hp, argUp_mem.1 (List.mem_of_getElem? hp)⟩)
  have HF1 := Lib.hid (fun W (hW : RPlan 16777216 W W.heap.size (.agg #[a1, a2]) a) => by have := l15Flat_any _ a W hW hLa; rwa [← hfl] at this)
  have HU := Lib.hid (fun W v (hW : RInts 16777216 W W.heap.size v fl) => by have := sSortUp_any v fl W hW; rwa [← hau] at this)
  have HSL := Lib.hid hsll
  have HAL := Lib.hid haul
  clear hfl hsl hau hsll haul
  go_enter Try.func18, Try.ntmps18
  go_wp2_with fail
  refine (HF1.out _ (HA.out.next hW0)).mono ?_
  rintro e w1 ⟨v1, f1, rfl, ho1, hb1⟩
  have HO1 := Lib.hid ho1
  clear ho1
  go_wp2_with fail
  refine (HU.out _ _ (HO1.out.read hAl)).mono ?_
  rintro e w2 ⟨v2, f2, rfl, ho2, hb2⟩
  have HX2 := Lib.hid (blk_next (blk_next HX0.out hb1) hb2)
  have HY2 := Lib.hid (blk_next (blk_next HY0.out hb1) hb2)
  have HZ2 := Lib.hid (blk_next (blk_next HZ0.out hb1) hb2)
  have hW2 := bstep (bstep hW0 hb1) hb2
  have HKF := Lib.hid ((HO1.out.next hb2).read hAl)
  have HKA := Lib.hid (ho2.read (by rw [ints_length, HAL.out]; exact hAl))
  obtain ⟨A1, c1, rfl, hc1⟩ := OInts.form HO1.out
  obtain ⟨A2, c2, rfl, hc2⟩ := OInts.form ho2
  rw [ints_length, HAL.out] at HKA ⊢
  have hlX := lt_of_block HX2.out
  have hlY := lt_of_block HY2.out
  have hlZ := lt_of_block HZ2.out
  have hw02 := hW2.size
  clear ho2 hb1 hb2 hc2
  go_wp2
  go_loopw [5, 8] (fun v iv wr => ∃ k : Nat, k ≤ fl.length ∧ iv = .int .i64 k ∧ ownsZ wr w.heap.size w2.heap.size 3 1 v ((Lib.compactUpTo sl.toArray k).filter (movF a b)).length (((Lib.compactUpTo sl.toArray k).filter (movF a b)).flatMap cI) ∧ Below w2.heap.size w2 wr) (fun _ iv _ => fl.length - (intOf iv).toNat)
  case atStart => exact ⟨0, Nat.zero_le _, rfl, ownsZ_start (g := w.heap.size + 2) (by omega) hlZ HZ2.out, Below.refl _ _⟩
  case round =>
    obtain ⟨k, hk, rfl, hown, hbl⟩ := hrel
    have HWr := Lib.hid (hW2.trans (hbl.mono hw02))
    have hsz := hbl.size
    by_cases hlt : k < fl.length
    · obtain ⟨pl, hpl⟩ : ∃ q, au[k]? = some q := ⟨_, List.getElem?_eq_getElem (by rw [HAL.out]; exact hlt)⟩
      obtain ⟨hsk, hpu⟩ := HG.out k pl hpl
      obtain ⟨ba, oa, rfl, hba, hca⟩ := ints_read (HKA.out.below (flat_mono _) hbl) k hpl
      obtain ⟨bu, ou, xu, rfl, hbu, hxu, hcu⟩ := RL.at1 (HKF.out.below (flat_mono _) hbl) pl hpu
      rw [keyAt_get hpu] at hxu
      cases hxu
      have hcu' := hcu _ rfl
      obtain ⟨u, hu⟩ : ∃ y, keyAt fl pl = y := ⟨_, rfl⟩
      rw [hu] at hcu' hsk
      have HSK := Lib.hid hsk
      have hbx := (hbl.block _ hlX).trans HX2.out
      have hby := (hbl.block _ hlY).trans HY2.out
      have hq1 : wr.cell? ⟨w.heap.size, 0, none⟩ = some a1 := cell_of_row _ _ 0 _ _ (0, 0) hbx
      have hq2 : wr.cell? ⟨w.heap.size, 1, none⟩ = some a2 := cell_of_row _ _ 1 _ _ (0, 0) hbx
      have hq3 : wr.cell? ⟨w.heap.size + 1, 0, none⟩ = some b1 := cell_of_row _ _ 0 _ _ (0, 0) hby
      have hq4 : wr.cell? ⟨w.heap.size + 1, 1, none⟩ = some b2 := cell_of_row _ _ 1 _ _ (0, 0) hby
      have hlX' : w.heap.size < wr.heap.size := by omega
      have hlY' : w.heap.size + 1 < wr.heap.size := by omega
      obtain ⟨out, hout⟩ : ∃ l, l = (Lib.compactUpTo sl.toArray k).filter (movF a b) := ⟨_, rfl⟩
      have hol : out.length ≤ k := by
        rw [hout]; refine Nat.le_trans (List.length_filter_le _ _) ?_
        unfold Lib.compactUpTo; rw [List.length_map]; exact Nat.le_trans (List.length_filter_le _ _) (by simp)
      rw [← hout] at hown
      have HOUT := Lib.hid hout
      clear hcu hpl hu hsk hbx hby hout
      by_cases hlast : out.getLast? = some u
      · have HS := Lib.hid (show (Lib.compactUpTo sl.toArray (k + 1)).filter (movF a b) = out by rw [dd_same HSO.out HSK.out _ (by rw [← HOUT.out]; exact hlast), HOUT.out])
        obtain ⟨out', rfl⟩ : ∃ l, out = l ++ [u] := by
          rw [List.getLast?_eq_some_iff] at hlast
          exact hlast
        have hr := own_ints (hown.own hw02) (by omega)
        obtain ⟨Ao, co, rfl⟩ := own_form (hown.own hw02)
        obtain ⟨bo, oo, y, rfl, _, hy, hcy⟩ := RL.at1 hr out'.length (by simp)
        have hy' : y = u := by simpa using hy.symm
        subst hy'
        have hcl := hcy _ rfl
        have HO := Lib.hid hown
        have hol2 : out'.length + 1 ≤ k := by simpa using hol
        clear hr hcy hy hown hlast hol hq1 hq2 hq3 hq4
        rw [List.length_append, List.length_singleton] at HO ⊢
        go_wp2
        go_roundw
        case rel => exact ⟨k + 1, hlt, by go_num, by rw [HS.out, List.length_append]; exact HO.out, hbl⟩
        case measure => simp [intOf]; omega
      · have HS := Lib.hid (dd_new HSK.out (movF a b) (by rw [← HOUT.out]; exact hlast))
        obtain ⟨cw, hcw⟩ : ∃ x, cwith b.cartons u = x := ⟨_, rfl⟩
        have HCW := Lib.hid hcw
        have hcwl : decide (0 ≤ cw) = !decide (cw < 0) := by rw [Bool.eq_iff_iff]; simp
        have HCL := Lib.hid hcwl
        obtain ⟨ta, hta⟩ : ∃ l, l = tog a u := ⟨_, rfl⟩
        obtain ⟨tb, htb⟩ : ∃ l, l = tog b u := ⟨_, rfl⟩
        have htal : ta.length ≤ 16777216 := by rw [hta]; exact Nat.le_trans (tog_len a u) hLa
        have htbl : tb.length ≤ 16777216 := by rw [htb]; exact Nat.le_trans (tog_len b u) hLb
        have HF := Lib.hid (show movF a b u = (!decide (cw < 0) && !decide (ta = tb)) by unfold movF; rw [HCW.out, hcwl, hta, htb])
        have HTA := Lib.hid (fun W (hW : RPlan 16777216 W W.heap.size (.agg #[a1, a2]) a) => by have := sTogether_any _ a u W hW hLa; rwa [← hta] at this)
        have HTB := Lib.hid (fun W (hW : RPlan 16777216 W W.heap.size (.agg #[b1, b2]) b) => by have := sTogether_any _ b u W hW hLb; rwa [← htb] at this)
        have HO := Lib.hid hown
        have hcases : out.length = 0 ∨ ∃ bo oo co y n, u5 = .slice (some ⟨bo, oo, none⟩) (n + 1) co ∧ out.length = n + 1 ∧ wr.cell? ⟨bo, oo + n, none⟩ = some (.int .i64 y) ∧ y ≠ u := by
          rcases Nat.eq_zero_or_pos out.length with h0 | h0
          · exact .inl h0
          · right
            have hr := own_ints (hown.own hw02) (by omega)
            obtain ⟨Ao, co, rfl⟩ := own_form (hown.own hw02)
            obtain ⟨bo, oo, y, rfl, _, hy, hcy⟩ := RL.at1 hr (out.length - 1) (by omega)
            refine ⟨bo, oo, co, y, out.length - 1, by rw [Nat.sub_add_cancel h0], by omega, hcy _ rfl, fun e => hlast ?_⟩
            rw [List.getLast?_eq_getElem?, hy, e]
        have hform : ∃ Ao co, u5 = .slice Ao out.length co := own_form (hown.own hw02)
        clear hcw hcwl hta htb hlast hown
        rcases hcases with h0 | ⟨bo, oo, co, y, n, rfl, hn, hcl, hyu⟩
        · obtain ⟨Ao, co, rfl⟩ := hform
          have hn0 : out = [] := List.eq_nil_of_length_eq_zero h0
          subst hn0
          clear h0
          by_cases hneg : cw < 0
          · have HF2 := Lib.hid (show movF a b u = false by rw [HF.out]; simp [hneg])
            go_wp2_with (go_at_call 36; refine (sCartonWith_any _ b u _ (HB.out.next HWr.out)).mono ?_; rintro e w5 ⟨rfl, hb5⟩; rw [HCW.out])
            go_roundw
            case rel => exact ⟨k + 1, hlt, by go_num, by rw [HS.out, HF2.out, ← HOUT.out]; simpa using HO.out.next hb5, hbl.trans (hb5.mono hsz)⟩
            case measure => simp [intOf]; omega
          · have hge : 0 ≤ cw := by omega
            have hd2 : decide (cw < 0) = false := by simp; omega
            have HF2 := Lib.hid (show movF a b u = !decide (ta = tb) by rw [HF.out, hd2]; rfl)
            clear hd2 hneg
            go_wp2_with (go_at_call 36; refine (sCartonWith_any _ b u _ (HB.out.next HWr.out)).mono ?_; rintro e w5 ⟨rfl, hb5⟩; rw [HCW.out]; have k1 := (hb5.cell (p := ⟨w.heap.size, 0, none⟩) hlX').trans hq1; have k2 := (hb5.cell (p := ⟨w.heap.size, 1, none⟩) hlX').trans hq2; have k3 := (hb5.cell (p := ⟨w.heap.size + 1, 0, none⟩) hlY').trans hq3; have k4 := (hb5.cell (p := ⟨w.heap.size + 1, 1, none⟩) hlY').trans hq4; clear hq1 hq2 hq3 hq4)
            have hs5 := hb5.size
            have hlX5 : w.heap.size < w5.heap.size := by omega
            have hlY5 : w.heap.size + 1 < w5.heap.size := by omega
            have hbd : Below w5.heap.size w5 w5.drew := (Below.refl _ _).drew
            have HW5 := Lib.hid (bstep (bstep HWr.out hb5) hbd)
            go_region_held3 (fun W' => W'.cell? ⟨w.heap.size, 0, none⟩ = some a1 ∧ W'.cell? ⟨w.heap.size, 1, none⟩ = some a2 ∧ W'.cell? ⟨w.heap.size + 1, 0, none⟩ = some b1 ∧ W'.cell? ⟨w.heap.size + 1, 1, none⟩ = some b2)
              (first | go_keep | exact ⟨l1, l2, l3, l4⟩ | exact ⟨m1, m2, m3, m4⟩ | exact ⟨n1, n2, n3, n4⟩)
              (first
                | (go_at_call 13; ((with_reducible refine (HTA.out _ (HA.out.next HW5.out)).mono ?_)); rintro e w6 ⟨u6, f6, rfl, ho6, hb6⟩; have l1 := (hb6.cell (p := ⟨w.heap.size, 0, none⟩) hlX5).trans k1; have l2 := (hb6.cell (p := ⟨w.heap.size, 1, none⟩) hlX5).trans k2; have l3 := (hb6.cell (p := ⟨w.heap.size + 1, 0, none⟩) hlY5).trans k3; have l4 := (hb6.cell (p := ⟨w.heap.size + 1, 1, none⟩) hlY5).trans k4; have hs6 := hb6.size; have HW6 := Lib.hid (bstep HW5.out hb6); have HO6 := Lib.hid ho6; clear ho6)
                | (go_at_call 13; ((with_reducible refine (HTB.out _ (HB.out.next HW6.out)).mono ?_)); rintro e w7 ⟨u7, f7, rfl, ho7, hb7⟩; have m1 := (hb7.cell (p := ⟨w.heap.size, 0, none⟩) (Nat.lt_of_lt_of_le hlX5 hs6)).trans l1; have m2 := (hb7.cell (p := ⟨w.heap.size, 1, none⟩) (Nat.lt_of_lt_of_le hlX5 hs6)).trans l2; have m3 := (hb7.cell (p := ⟨w.heap.size + 1, 0, none⟩) (Nat.lt_of_lt_of_le hlY5 hs6)).trans l3; have m4 := (hb7.cell (p := ⟨w.heap.size + 1, 1, none⟩) (Nat.lt_of_lt_of_le hlY5 hs6)).trans l4; have hs7 := Nat.le_trans hs6 hb7.size; have HW7 := Lib.hid (bstep HW6.out hb7); have HO7 := Lib.hid ho7; have HO67 := Lib.hid (HO6.out.next hb7); clear ho7)
                | (go_at_call 44; refine (l1Same_any _ _ ta tb _ (HO67.out.read htal) (HO7.out.read htbl)).mono ?_; rintro e w8 ⟨rfl, hb8⟩; have n1 := (hb8.cell (p := ⟨w.heap.size, 0, none⟩) (Nat.lt_of_lt_of_le hlX5 hs7)).trans m1; have n2 := (hb8.cell (p := ⟨w.heap.size, 1, none⟩) (Nat.lt_of_lt_of_le hlX5 hs7)).trans m2; have n3 := (hb8.cell (p := ⟨w.heap.size + 1, 0, none⟩) (Nat.lt_of_lt_of_le hlY5 hs7)).trans m3; have n4 := (hb8.cell (p := ⟨w.heap.size + 1, 1, none⟩) (Nat.lt_of_lt_of_le hlY5 hs7)).trans m4))
            have HB8 := Lib.hid (bstep (bstep (bstep (bstep hb5 hbd) hb6) hb7) hb8)
            have HO8 := Lib.hid (HO.out.next HB8.out)
            have hs8 : w2.heap.size ≤ w8.heap.size := Nat.le_trans hsz HB8.out.size
            clear k1 k2 k3 k4 l1 l2 l3 l4 m1 m2 m3 m4 n1 n2 n3 n4 hb5 hb6 hb7 hb8
            by_cases heq : ta = tb
            · have HF3 := Lib.hid (show movF a b u = false by rw [HF2.out]; simp [heq])
              have hde : decide (ta = tb) = true := by simp [heq]
              rw [hde]
              clear heq hde
              go_wp2
              go_roundw
              case rel => exact ⟨k + 1, hlt, by go_num, by rw [HS.out, HF3.out, ← HOUT.out]; simpa using HO8.out, hbl.trans (HB8.out.mono hsz)⟩
              case measure => simp [intOf]; omega
            · have HF3 := Lib.hid (show movF a b u = true by rw [HF2.out]; simp [heq])
              have hde : decide (ta = tb) = false := by simp [heq]
              rw [hde]
              clear heq hde
              go_wp2_with (at_builtin; refine at_app (.tmp 55) (.tmp 57) 36 rfl ?_; refine appZ1_Int (.tmp 55) (.tmp 57) rfl rfl _ rfl rfl rfl rfl HO8.out (by omega) hs8 ?_; intro v' w' ho hb _ _)
              go_roundw
              case rel => exact ⟨k + 1, hlt, by go_num, by rw [HS.out, HF3.out, ← HOUT.out]; simpa using ho, (hbl.trans (HB8.out.mono hsz)).trans hb⟩
              case measure => simp [intOf]; omega
        · have hqy : (y == u) = false := by simpa using hyu
          have hn1 : n + 1 ≤ k := by omega
          clear hform hyu hn
          by_cases hneg : cw < 0
          · have HF2 := Lib.hid (show movF a b u = false by rw [HF.out]; simp [hneg])
            go_wp2_with (go_at_call 36; refine (sCartonWith_any _ b u _ (HB.out.next HWr.out)).mono ?_; rintro e w5 ⟨rfl, hb5⟩; rw [HCW.out])
            go_roundw
            case rel => exact ⟨k + 1, hlt, by go_num, by rw [HS.out, HF2.out, ← HOUT.out]; simpa using HO.out.next hb5, hbl.trans (hb5.mono hsz)⟩
            case measure => simp [intOf]; omega
          · have hge : 0 ≤ cw := by omega
            have hd2 : decide (cw < 0) = false := by simp; omega
            have HF2 := Lib.hid (show movF a b u = !decide (ta = tb) by rw [HF.out, hd2]; rfl)
            clear hd2 hneg
            go_wp2_with (go_at_call 36; refine (sCartonWith_any _ b u _ (HB.out.next HWr.out)).mono ?_; rintro e w5 ⟨rfl, hb5⟩; rw [HCW.out]; have k1 := (hb5.cell (p := ⟨w.heap.size, 0, none⟩) hlX').trans hq1; have k2 := (hb5.cell (p := ⟨w.heap.size, 1, none⟩) hlX').trans hq2; have k3 := (hb5.cell (p := ⟨w.heap.size + 1, 0, none⟩) hlY').trans hq3; have k4 := (hb5.cell (p := ⟨w.heap.size + 1, 1, none⟩) hlY').trans hq4; clear hq1 hq2 hq3 hq4)
            have hs5 := hb5.size
            have hlX5 : w.heap.size < w5.heap.size := by omega
            have hlY5 : w.heap.size + 1 < w5.heap.size := by omega
            have hbd : Below w5.heap.size w5 w5.drew := (Below.refl _ _).drew
            have HW5 := Lib.hid (bstep (bstep HWr.out hb5) hbd)
            go_region_held3 (fun W' => W'.cell? ⟨w.heap.size, 0, none⟩ = some a1 ∧ W'.cell? ⟨w.heap.size, 1, none⟩ = some a2 ∧ W'.cell? ⟨w.heap.size + 1, 0, none⟩ = some b1 ∧ W'.cell? ⟨w.heap.size + 1, 1, none⟩ = some b2)
              (first | go_keep | exact ⟨l1, l2, l3, l4⟩ | exact ⟨m1, m2, m3, m4⟩ | exact ⟨n1, n2, n3, n4⟩)
              (first
                | (go_at_call 13; ((with_reducible refine (HTA.out _ (HA.out.next HW5.out)).mono ?_)); rintro e w6 ⟨u6, f6, rfl, ho6, hb6⟩; have l1 := (hb6.cell (p := ⟨w.heap.size, 0, none⟩) hlX5).trans k1; have l2 := (hb6.cell (p := ⟨w.heap.size, 1, none⟩) hlX5).trans k2; have l3 := (hb6.cell (p := ⟨w.heap.size + 1, 0, none⟩) hlY5).trans k3; have l4 := (hb6.cell (p := ⟨w.heap.size + 1, 1, none⟩) hlY5).trans k4; have hs6 := hb6.size; have HW6 := Lib.hid (bstep HW5.out hb6); have HO6 := Lib.hid ho6; clear ho6)
                | (go_at_call 13; ((with_reducible refine (HTB.out _ (HB.out.next HW6.out)).mono ?_)); rintro e w7 ⟨u7, f7, rfl, ho7, hb7⟩; have m1 := (hb7.cell (p := ⟨w.heap.size, 0, none⟩) (Nat.lt_of_lt_of_le hlX5 hs6)).trans l1; have m2 := (hb7.cell (p := ⟨w.heap.size, 1, none⟩) (Nat.lt_of_lt_of_le hlX5 hs6)).trans l2; have m3 := (hb7.cell (p := ⟨w.heap.size + 1, 0, none⟩) (Nat.lt_of_lt_of_le hlY5 hs6)).trans l3; have m4 := (hb7.cell (p := ⟨w.heap.size + 1, 1, none⟩) (Nat.lt_of_lt_of_le hlY5 hs6)).trans l4; have hs7 := Nat.le_trans hs6 hb7.size; have HW7 := Lib.hid (bstep HW6.out hb7); have HO7 := Lib.hid ho7; have HO67 := Lib.hid (HO6.out.next hb7); clear ho7)
                | (go_at_call 44; refine (l1Same_any _ _ ta tb _ (HO67.out.read htal) (HO7.out.read htbl)).mono ?_; rintro e w8 ⟨rfl, hb8⟩; have n1 := (hb8.cell (p := ⟨w.heap.size, 0, none⟩) (Nat.lt_of_lt_of_le hlX5 hs7)).trans m1; have n2 := (hb8.cell (p := ⟨w.heap.size, 1, none⟩) (Nat.lt_of_lt_of_le hlX5 hs7)).trans m2; have n3 := (hb8.cell (p := ⟨w.heap.size + 1, 0, none⟩) (Nat.lt_of_lt_of_le hlY5 hs7)).trans m3; have n4 := (hb8.cell (p := ⟨w.heap.size + 1, 1, none⟩) (Nat.lt_of_lt_of_le hlY5 hs7)).trans m4))
            have HB8 := Lib.hid (bstep (bstep (bstep (bstep hb5 hbd) hb6) hb7) hb8)
            have HO8 := Lib.hid (HO.out.next HB8.out)
            have hs8 : w2.heap.size ≤ w8.heap.size := Nat.le_trans hsz HB8.out.size
            clear k1 k2 k3 k4 l1 l2 l3 l4 m1 m2 m3 m4 n1 n2 n3 n4 hb5 hb6 hb7 hb8
            by_cases heq : ta = tb
            · have HF3 := Lib.hid (show movF a b u = false by rw [HF2.out]; simp [heq])
              have hde : decide (ta = tb) = true := by simp [heq]
              rw [hde]
              clear heq hde
              go_wp2
              go_roundw
              case rel => exact ⟨k + 1, hlt, by go_num, by rw [HS.out, HF3.out, ← HOUT.out]; simpa using HO8.out, hbl.trans (HB8.out.mono hsz)⟩
              case measure => simp [intOf]; omega
            · have HF3 := Lib.hid (show movF a b u = true by rw [HF2.out]; simp [heq])
              have hde : decide (ta = tb) = false := by simp [heq]
              rw [hde]
              clear heq hde
              go_wp2_with (at_builtin; refine at_app (.tmp 55) (.tmp 57) 36 rfl ?_; refine appZ1_Int (.tmp 55) (.tmp 57) rfl rfl _ rfl rfl rfl rfl HO8.out (by omega) hs8 ?_; intro v' w' ho hb _ _)
              go_roundw
              case rel => exact ⟨k + 1, hlt, by go_num, by rw [HS.out, HF3.out, ← HOUT.out]; simpa using ho, (hbl.trans (HB8.out.mono hsz)).trans hb⟩
              case measure => simp [intOf]; omega
    · obtain rfl : k = fl.length := by omega
      go_wp2
      go_ret
      rw [HM.out]
      exact MInts.row (hown.own hw02) (Nat.le_refl _) HWr.out
theorem mov_len (a b : Plan) : (mov a b).length ≤ a.bulk := by
  unfold mov
  exact Nat.le_trans (List.length_filter_le _ _) (Nat.le_trans (kindsM_le _) (allU_bulk a))
end Go.Proofs.Ytjmokahibcbjlaa
