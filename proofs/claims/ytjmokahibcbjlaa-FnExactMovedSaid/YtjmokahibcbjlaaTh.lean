/-
  The walks over Together, both sides.
-/
import Derived.Test.YtjmokahibcbjlaaTg
namespace Go.Proofs.Ytjmokahibcbjlaa
set_option linter.unusedVariables false
set_option linter.unusedSimpArgs false
open Go.RowKit
theorem cwith_at {cs : List Carton} {u : Int} (h : ¬ cwith cs u < 0) : ∃ (j : Nat) (x : Carton), cwith cs u = j ∧ cs[j]? = some x ∧ cs.getD (cwith cs u).toNat default = x ∧ hasU u x = true := by
  unfold cwith idxF at *
  cases hf : cs.findIdx? (hasU u) with
  | none => rw [hf] at h; simp at h
  | some i =>
    obtain ⟨h1, h2, _⟩ := List.findIdx?_eq_some_iff_getElem.1 hf
    exact ⟨i, cs[i], rfl, List.getElem?_eq_getElem h1, by simp [List.getD, h1], h2⟩
theorem sortI_at {keys : List Int} {k p : Nat} (h : (argUp keys)[k]? = some p) : (sortI keys)[k]? = some (keyAt keys p) := by
  rw [← argUp_keys, List.getElem?_map, h]; rfl
set_option maxHeartbeats 400000 in
theorem together1_gives (u x : Int) (B : Nat) (W : World) (hc : W.cell? ⟨B, 0, none⟩ = some (.int .i64 u)) :
    FnGives Try.prog 41 #[.pointer (some ⟨B, 0, none⟩)] #[.int .i64 x] (.bool (decide (x = u))) W := by
  show Calls Try.prog 41 #[.int .i64 x, .pointer (some ⟨B, 0, none⟩)] W _
  go_enter Try.func41, Try.ntmps41
  go_wp2
  go_ret
  exact ⟨ret_bool (by rw [Bool.eq_iff_iff]; simp), 0, rfl⟩
theorem deleteInts_any (fn : Nat) (lb : Array Value) (p : Int → Bool) (v : Value) (xs : List Int) (fp : List Nat) (base : Nat) (w : World) (h : OInts w base v xs fp) (hb : xs.length ≤ 33554432) (hn : 0 < xs.length)
    (eg : ∀ args w, (callFunc fn args).run Try.prog w = .ok (.enter fn args) w) (hg : ∀ (W : World) (x : Int), (∀ b, b < w.heap.size → b ∉ fp → W.heap[b]? = w.heap[b]?) → FnGives Try.prog fn lb #[.int .i64 x] (.bool (p x)) W) :
    Calls Try.prog 39 #[v, .func (.func fn) #[] lb] w fun e w' => ∃ v', e = .returned v' ∧ OInts w' base v' (xs.filter fun x => !p x) fp ∧ Tch fp w w' := by
  obtain ⟨h, rfl⟩ := h
  obtain ⟨g, cap, cur, rfl, h1, h2, h3, h4, h5, h6, h7⟩ := own_ints_shape h hn
  have hle : (xs.filter fun x => !p x).length ≤ xs.length := List.length_filter_le _ _
  have hsz : xs.toArray.size = xs.length := by simp
  have hc := Try.slices_DeleteFunc (Value.int .i64) (fun _ => rfl) p fn lb eg 0 Try.zeroValue3 g 0 cap xs.toArray w
    (fun W x hW => hg W x (fun b hb _ => hW.block b hb))
    (fun n os dk x _ => hg _ x (fun b hb hne => by
      have hbg : b ≠ g := fun e => hne (by rw [e]; simp [Value.ownBlock])
      unfold sortWorld
      rw [Go.Sort.heap_grow_old _ _ (by rw [Go.Sort.size_putRow]; exact hb)]
      simp [Go.Sort.putRow, Go.Sort.mapBlock, Go.Sort.ahead, Array.getElem?_modify]
      intro e
      exact absurd e.symm hbg))
    (holds_of_blockI h3 h7) (by rw [hsz]; omega) (by rw [hsz]; exact h4)
  rw [hsz] at hc
  refine hc.mono fun e w' ⟨e1, q, e2⟩ => ⟨_, e1, ⟨?_, rfl⟩, ?_⟩
  · have how := ownsRow_sortedI (n := q) (os := #[]) (ss := xs) (ts := (xs.filter fun x => !p x) ++ List.replicate (xs.length - (xs.filter fun x => !p x).length) 0) (by simp; omega) h1 h3 h4 h5 h6
    rw [Go.Sort.grow_empty, ← e2] at how
    have hcu := own_cut how hle
    rw [Nat.mul_one, List.map_append, List.take_left' (by simp), ← flat_cI] at hcu
    exact hcu
  · have := grownBy_sortedI (w := w) (g := g) (n := q) (os := #[]) ((xs.filter fun x => !p x) ++ List.replicate (xs.length - (xs.filter fun x => !p x).length) 0).toArray
    rw [Go.Sort.grow_empty, ← e2] at this
    exact (grown_tch this).sub (fun k hk => by simpa [Value.ownBlock] using hk)
set_option maxHeartbeats 400000 in
theorem sTogether_any (v : Value) (p : Plan) (u : Int) (w : World) (h : RPlan 16777216 w w.heap.size v p) (hL : p.bulk ≤ 16777216) : Calls Try.prog 13 #[v, .int .i64 u] w (MInts w (tog p u)) := by
  have HP := Lib.hid h
  obtain ⟨v1, v2, rfl, h1, _⟩ := h
  have H := Lib.hid h1
  obtain ⟨A, c, rfl, hbd, _⟩ := h1
  have hb0 : Below w.heap.size w ((w.alloc (.cells #[.slice A p.cartons.length c, v2] 30)).alloc (.cells #[] 3)) := (by repeat' (first | with_reducible exact Below.refl _ _ | with_reducible assumption | with_reducible refine Below.drew ?_ | with_reducible refine Below.alloc ?_ ?_ _ | with_reducible refine Below.setCell ?_ ?_ _ | with_reducible refine below_drewN ?_ _ | (simp; done) | (simp; omega)))
  have hbx : ((w.alloc (.cells #[.slice A p.cartons.length c, v2] 30)).alloc (.cells #[] 3)).heap[w.heap.size]? = some (.cells #[.slice A p.cartons.length c, v2] 30 (0, 0)) := by (simp only [heap_alloc_if, World.size_alloc]; repeat (first | rw [if_neg (by omega)] | rw [if_pos (by omega)] | rw [if_pos trivial]))
  have hby : ((w.alloc (.cells #[.slice A p.cartons.length c, v2] 30)).alloc (.cells #[] 3)).heap[w.heap.size + 1]? = some (.cells #[] 3 (0, 0)) := by (simp only [heap_alloc_if, World.size_alloc]; repeat (first | rw [if_neg (by omega)] | rw [if_pos (by omega)] | rw [if_pos trivial]))
  have HX := Lib.hid hbx
  have HY := Lib.hid hby
  clear hbx hby
  go_enter Try.func13, Try.ntmps13
  go_wp2_with fail
  refine (sCartonWith_any _ p u _ (HP.out.next hb0)).mono ?_
  rintro e w1 ⟨rfl, hb1⟩
  have HX1 := Lib.hid (blk_next HX.out hb1)
  have HY1 := Lib.hid (blk_next HY.out hb1)
  have hcx := fun j => cell_of_row _ _ j _ _ (0, 0) HX1.out
  have hlx := lt_of_block HX1.out
  have hly := lt_of_block HY1.out
  have hb01 := bstep hb0 hb1
  by_cases hneg : cwith p.cartons u < 0
  · have ht : tog p u = [] := by unfold tog; rw [if_pos hneg]
    have HT := Lib.hid ht
    clear ht
    go_wp2
    go_ret
    rw [HT.out]
    exact MInts.row (xs := []) (B := w.heap.size) (own_nil (α := Int) (f := cI) (Nat.le_succ _) HY1.out) (Nat.le_refl _) hb01
  · obtain ⟨j, x, hj, hx, hx2, _⟩ := cwith_at hneg
    have ht : tog p u = (sortI x.units).filter fun y => !decide (y = u) := by unfold tog; rw [if_neg hneg, hx2]
    have HT := Lib.hid ht
    rw [hj]
    have hjl := (List.getElem?_eq_some_iff.1 hx).1
    obtain ⟨b, off, x', _, rfl, hb, hx3, _, ⟨vx, rfl, hrx⟩, hc⟩ := (H.out.below (RCarton_mono _) hb01).at_ j hjl
    rw [hx] at hx3
    cases hx3
    have hc2 := hc 2 _ rfl
    have HRX := Lib.hid hrx
    obtain ⟨Ax, cx, rfl, hxl, _⟩ := hrx
    clear hc hx hx2 hneg hj ht
    obtain ⟨sl, hsl⟩ : ∃ l, l = sortI x.units := ⟨_, rfl⟩
    obtain ⟨au, hau⟩ : ∃ l, l = argUp x.units := ⟨_, rfl⟩
    have hsll : sl.length = x.units.length := by rw [hsl, sortI_length]
    have haul : au.length = x.units.length := by rw [hau, argUp_length]
    rw [← hsl] at HT
    have HG := Lib.hid (show ∀ k p, au[k]? = some p → sl[k]? = some (keyAt x.units p) ∧ p < x.units.length by
      intro k p hp
      rw [hau] at hp
      exact ⟨by rw [hsl]; exact sortI_at hp, argUp_mem.1 (List.mem_of_getElem? hp)⟩)
    have HU := Lib.hid (fun W (hW : Below w1.heap.size w1 W) => by have := sSortUp_any _ x.units W (RL.keep HRX.out (flat_mono _) (fun p hp => hW.cell (Nat.lt_of_lt_of_le hp hb01.size)) (Nat.le_trans hb01.size hW.size)); rwa [← hau] at this)
    have HLS := Lib.hid hsll
    have HLA := Lib.hid haul
    clear hsl hau
    go_wp2_with fail
    refine (HU.out _ (Below.refl _ _)).mono ?_
    rintro e w2 ⟨va, fa, rfl, hoa, hb2⟩
    have HX2 := Lib.hid (blk_next HX1.out hb2)
    have HY2 := Lib.hid (blk_next HY1.out hb2)
    have hb02 := bstep hb01 hb2
    obtain ⟨Aa, ca, rfl, _⟩ := OInts.form hoa
    have HA := Lib.hid (hoa.read (by rw [ints_length]; omega))
    rw [ints_length, haul] at HA ⊢
    have hw02 := hb02.size
    have hw12 := hb2.size
    clear hoa hcx
    go_wp2
    go_loopw [5, 9] (fun v iv wr => ∃ k : Nat, k ≤ x.units.length ∧ iv = .int .i64 k ∧ ownsZ wr w.heap.size w2.heap.size 3 1 v ((sl.take k).filter fun y => !decide (y = u)).length (((sl.take k).filter fun y => !decide (y = u)).flatMap cI) ∧ Below w2.heap.size w2 wr) (fun _ iv _ => x.units.length - (intOf iv).toNat)
    case atStart => exact ⟨0, Nat.zero_le _, rfl, ownsZ_start (Nat.le_succ _) (by omega) HY2.out, Below.refl _ _⟩
    case round =>
      obtain ⟨k, hk, rfl, hown, hbl⟩ := hrel
      by_cases hlt : k < x.units.length
      · obtain ⟨pl, hpl⟩ : ∃ q, au[k]? = some q := ⟨_, List.getElem?_eq_getElem (by rw [HLA.out]; exact hlt)⟩
        obtain ⟨hsk, hpu⟩ := HG.out k pl hpl
        obtain ⟨ba, oa, rfl, hba, hca⟩ := ints_read (HA.out.below (flat_mono _) hbl) k hpl
        obtain ⟨bu, ou, xu, rfl, hbu, hxu, hcu⟩ := RL.at1 (RL.keep (w' := wr) HRX.out (flat_mono _) (fun p hp => (hb2.trans (hbl.mono hw12)).cell (Nat.lt_of_lt_of_le hp hb01.size)) (Nat.le_refl _)) pl hpu
        rw [keyAt_get hpu] at hxu
        cases hxu
        have hcu' := hcu _ rfl
        obtain ⟨y, hy⟩ : ∃ y, keyAt x.units pl = y := ⟨_, rfl⟩
        rw [hy] at hcu' hsk
        have hle : ((sl.take k).filter fun y => !decide (y = u)).length ≤ k := Nat.le_trans (List.length_filter_le _ _) (List.length_take_le _ _)
        have htk : sl.take (k + 1) = sl.take k ++ [y] := by rw [List.take_add_one, hsk]; rfl
        have HTK := Lib.hid htk
        have HO := Lib.hid hown
        have hsz := hbl.size
        clear hcu hpl hy hsk htk hown
        by_cases hyu : y = u
        · have hq : (y != u) = false := by simp [hyu]
          have hd : decide (y = u) = true := by simp [hyu]
          have HD := Lib.hid hd
          clear hyu hd
          go_wp2
          go_roundw
          case rel => exact ⟨k + 1, hlt, by go_num, by rw [HTK.out, List.filter_append]; simpa [HD.out] using HO.out, hbl⟩
          case measure => simp [intOf]; omega
        · have hq : (y != u) = true := by simpa using hyu
          have hd : decide (y = u) = false := by simp [hyu]
          have HD := Lib.hid hd
          clear hyu hd
          go_wp2_with (at_builtin; refine at_app (.tmp 40) (.tmp 48) 36 rfl ?_; refine appZ1_Int (.tmp 40) (.tmp 48) rfl rfl _ rfl rfl rfl rfl HO.out (by omega) hsz ?_; intro v' w' ho hb _ _)
          go_roundw
          case rel => exact ⟨k + 1, hlt, by go_num, by rw [HTK.out, List.filter_append]; simpa [HD.out] using ho, hbl.trans hb⟩
          case measure => simp [intOf]; omega
      · obtain rfl : k = x.units.length := by omega
        rw [List.take_of_length_le (by omega)] at hown
        go_wp2
        go_ret
        rw [HT.out]
        exact MInts.row (hown.own hw02) (Nat.le_refl _) (hb02.trans (hbl.mono hw02))
set_option maxHeartbeats 400000 in
theorem iTogether_any (v : Value) (p : Plan) (u : Int) (w : World) (h : RPlan 16777216 w w.heap.size v p) (hL : p.bulk ≤ 16777216) : Calls Try.prog 14 #[v, .int .i64 u] w (MInts w (tog p u)) := by
  have HP := Lib.hid h
  obtain ⟨v1, v2, rfl, h1, _⟩ := h
  have H := Lib.hid h1
  obtain ⟨A, c, rfl, hbd, _⟩ := h1
  have hb0 : Below w.heap.size w ((w.alloc (.cells #[.slice A p.cartons.length c, v2] 30)).alloc (.cells #[.int .i64 u] 3)) := (by repeat' (first | with_reducible exact Below.refl _ _ | with_reducible assumption | with_reducible refine Below.drew ?_ | with_reducible refine Below.alloc ?_ ?_ _ | with_reducible refine Below.setCell ?_ ?_ _ | with_reducible refine below_drewN ?_ _ | (simp; done) | (simp; omega)))
  have hbx : ((w.alloc (.cells #[.slice A p.cartons.length c, v2] 30)).alloc (.cells #[.int .i64 u] 3)).heap[w.heap.size]? = some (.cells #[.slice A p.cartons.length c, v2] 30 (0, 0)) := by (simp only [heap_alloc_if, World.size_alloc]; repeat (first | rw [if_neg (by omega)] | rw [if_pos (by omega)] | rw [if_pos trivial]))
  have hby : ((w.alloc (.cells #[.slice A p.cartons.length c, v2] 30)).alloc (.cells #[.int .i64 u] 3)).heap[w.heap.size + 1]? = some (.cells #[.int .i64 u] 3 (0, 0)) := by (simp only [heap_alloc_if, World.size_alloc]; repeat (first | rw [if_neg (by omega)] | rw [if_pos (by omega)] | rw [if_pos trivial]))
  have HX := Lib.hid hbx
  have HY := Lib.hid hby
  clear hbx hby
  have eg : ∀ args W, (callFunc 41 args).run Try.prog W = .ok (.enter 41 args) W := fun args W => run_enter Try.func41 (by kernel_rfl) rfl args W
  go_enter Try.func14, Try.ntmps14
  go_wp2_with fail
  refine (iCartonWith_any _ p u _ (HP.out.next hb0)).mono ?_
  rintro e w1 ⟨rfl, hb1⟩
  have HX1 := Lib.hid (blk_next HX.out hb1)
  have HY1 := Lib.hid (blk_next HY.out hb1)
  have hcx := fun j => cell_of_row _ _ j _ _ (0, 0) HX1.out
  have hlx := lt_of_block HX1.out
  have hb01 := bstep hb0 hb1
  by_cases hneg : cwith p.cartons u < 0
  · have HT := Lib.hid (show tog p u = [] by unfold tog; rw [if_pos hneg])
    go_wp2
    go_ret
    rw [HT.out]
    exact MInts.row (xs := []) (B := w.heap.size) (World.ownsRow_nil _ _ _ _) (Nat.le_refl _) hb01
  · obtain ⟨j, x, hj, hx, hx2, hux⟩ := cwith_at hneg
    have HT := Lib.hid (show tog p u = sortI (x.units.filter fun y => !decide (y = u)) by unfold tog; rw [if_neg hneg, hx2, sortI_filter])
    rw [hj]
    have hjl := (List.getElem?_eq_some_iff.1 hx).1
    obtain ⟨b, off, x', _, rfl, hb, hx3, _, ⟨vx, rfl, hrx⟩, hc⟩ := (H.out.below (RCarton_mono _) hb01).at_ j hjl
    rw [hx] at hx3
    cases hx3
    have hc2 := hc 2 _ rfl
    have HRX := Lib.hid (hrx.more (flat_mono _) hb01.size)
    obtain ⟨Ax, cx, rfl, hxl, _⟩ := hrx
    have hn : 0 < x.units.length := by
      unfold hasU at hux
      obtain ⟨y, hy, _⟩ := List.any_eq_true.1 hux
      exact List.length_pos_of_mem hy
    clear hc hx hx2 hneg hj hux
    go_wp2_with fail
    refine (cloneInts_any _ x.units _ HRX.out).mono ?_
    rintro e w2 ⟨v3, f3, rfl, ho3, hb2⟩
    have HY2 := Lib.hid (blk_next HY1.out hb2)
    have hlt3 := ho3.lt
    have hly := lt_of_block HY1.out
    have hg : ∀ (W : World) (y : Int), (∀ b, b < w2.heap.size → b ∉ f3 → W.heap[b]? = w2.heap[b]?) → FnGives Try.prog 41 #[.pointer (some ⟨w.heap.size + 1, 0, none⟩)] #[.int .i64 y] (.bool (decide (y = u))) W := by
      intro W y hW
      refine together1_gives u y (w.heap.size + 1) W ?_
      have hq := (hW (w.heap.size + 1) (by have := hb2.size; omega) (fun hm => by have := (hlt3 _ hm).1; omega)).trans HY2.out
      rw [cell_of_row _ _ 0 _ _ (0, 0) hq]
      rfl
    have hd := deleteInts_any 41 #[.pointer (some ⟨w.heap.size + 1, 0, none⟩)] (fun y => decide (y = u)) v3 x.units f3 w1.heap.size w2 ho3 (by omega) hn eg hg
    have HD := Lib.hid hd
    have hb02 := bstep hb01 hb2
    have hlo : ∀ b ∈ f3, w.heap.size ≤ b := fun b hb => Nat.le_trans hb01.size (hlt3 b hb).1
    have HLO := Lib.hid hlo
    have hle : (x.units.filter fun y => !decide (y = u)).length ≤ 33554432 := Nat.le_trans (List.length_filter_le _ _) (by omega)
    clear hg hd hlo hlt3 ho3 hcx eg
    go_wp2_with fail
    refine HD.out.mono ?_
    rintro e w3 ⟨v4, rfl, ho4, ht3⟩
    have HB3 := Lib.hid (hb02.trans (ht3.below hb02.size HLO.out))
    have HO4 := Lib.hid ho4
    clear ho4 ht3
    go_wp2_with fail
    refine (sortInt_any v4 _ f3 _ _ HO4.out hle).mono ?_
    rintro e w4 ⟨rfl, ho5, ht4⟩
    have HO5 := Lib.hid ho5
    have HB4 := Lib.hid (HB3.out.trans (ht4.below HB3.out.size HLO.out))
    clear ho5 ht4
    go_wp2
    go_ret
    rw [HT.out]
    exact MInts.mk HO5.out hb01.size HB4.out
end Go.Proofs.Ytjmokahibcbjlaa
