/-
  A label that is drawn, a plan and a number to scale it by: the reference's walks.
-/
import Derived.Test.YtlhniekjdoeidaaKa19
import Derived.Test.YtlhniekjdoeidaaKa22
import Derived.Deep.RegionHeld3
import Derived.Deep.DeepCutAuto
import Derived.StillTailTactics
import Derived.Test.YtlhniekjdoeidaaKa00
namespace Go.Proofs.Ytlhniekjdoeidaa
set_option linter.unusedVariables false
set_option linter.unusedSimpArgs false
set_option maxRecDepth 100000
open Go.RowKit Go.WideShapes Go.ChangeShapes Go.ChangeAt Go.Deep
theorem labelOf_size (p : Plan) (i : Int) : (labelOf p i).size ≤ 12 := by
  unfold labelOf
  split
  · rename_i h
    simp only [Bool.and_eq_true, inB, decide_eq_true_eq] at h
    obtain ⟨n, rfl⟩ : ∃ n : Nat, i = n := ⟨i.toNat, by omega⟩
    rw [Int.toNat_natCast]
    have hr := lrest_range (i := n) h.1 (by omega)
    obtain ⟨r, hr2⟩ : ∃ r : Nat, lrest p n = r := ⟨(lrest p n).toNat, by omega⟩
    rw [list_size, List.length_append, (lhead_dig h.1 (by omega)).2, hr2, wide_len (m := 1) (by omega)]
    omega
  · simp
theorem strs_toList (m : Nat) : ∀ (l : List Value), (∀ u ∈ l, ∃ x : ByteArray, u = .string x ∧ x.size ≤ m) → ∃ ys : List ByteArray, l = ys.flatMap cS ∧ ys.length = l.length ∧ ∀ y ∈ ys, y.size ≤ m
  | [], _ => ⟨[], rfl, rfl, by simp⟩
  | u :: l, h => by
    obtain ⟨x, rfl, hx⟩ := h u (by simp)
    obtain ⟨ys, rfl, hl, hy⟩ := strs_toList m l (fun u hu => h u (by simp [hu]))
    exact ⟨x :: ys, rfl, by simp [hl], by simpa using ⟨hx, hy⟩⟩
section
variable {w W W' : World} {L : List Fact} {g q : Nat} {v : Value} {xs : List Int} {cs : Array Value}
theorem pickS_sit (h : Sit w W L) (hx : RBytes w w.heap.size v xs) (hm : fCur g v xs.length ∈ L) (hb : fBox q cs 9 ∈ L) (n c m : Nat) (hn : n = cs.size) (hn0 : 0 < n) (hn1 : n ≤ 100) (hi : ∀ u ∈ cs.toList, ∃ x : ByteArray, u = .string x ∧ x.size ≤ m) : Calls Try.prog 18 #[.pointer (some ⟨g, 0, none⟩), .slice (some ⟨q, 0, none⟩) n c] W fun e w' => ∃ x : ByteArray, e = .returned (.string x) ∧ x.size ≤ m ∧ Sit w w' L := by
  obtain ⟨ys, hys, hyl, hym⟩ := strs_toList m cs.toList hi
  have hn' : n = ys.length := by rw [hyl, hn]; simp
  subst hn'
  have hqg : q ≠ g := by
    rintro rfl
    obtain ⟨_, _, _, _, h1⟩ := h.on _ hm
    have h2 : W.heap[q]? = some (.cells cs 9 (0, 0)) := h.on _ hb
    rw [h1] at h2
    simp at h2
  refine (l1Pick_any g q v xs ys cs c W w.heap.size (h.on _ hm) (hx.keep (flat_mono _) (fun p hp => h.low.cell hp) (Nat.le_refl _)) (h.lt _ hm g (by simp)).1 (h.on _ hb) hys (by omega) (by omega) hqg).mono ?_
  rintro e w1 ⟨_, rfl, ⟨x, rfl, hxm⟩, hc1, ht1⟩
  exact ⟨x, rfl, hym x hxm, h.again1 hm ht1 hc1⟩
end
set_option maxRecDepth 100000 in
set_option maxHeartbeats 4000000 in
theorem l22Label_any (v : Value) (xs : List Int) (w W : World) (L : List Fact) (hS : Sit w W L) (hx : RBytes w w.heap.size v xs) : Calls Try.prog 17 #[v] W fun e w' => ∃ s, e = .returned (.string s) ∧ s.size ≤ 12 ∧ Sit w w' L := by
  have HB := Lib.hid hx
  have SN := Lib.hid hS
  clear hS hx
  have hcv := fun w s => run_bytes_of_string (P := Try.prog) w 9 22 5 s Try.underlying9 Try.underlying22 Try.underlying5
  go_enter Try.func17, Try.ntmps17
  go_wp2_with fail
  refine (l13Draw_any v xs _ _ _ SN.out HB.out).mono ?_
  rintro e w1 ⟨u, r, fp, vc, vs, x, fq, rfl, SN1, hbk, hsx⟩
  obtain ⟨vp, vt, vi, rfl, ⟨A1, c1, rfl, _⟩, ⟨A2, c2, rfl, _⟩, ⟨A3, c3, rfl, _⟩⟩ := SN1.on _ (.head _)
  obtain ⟨zs2, hz2, ⟨A7, c7, rfl, _⟩, _, ⟨A8, c8, rfl, _⟩⟩ := SN1.on _ (.tail _ (.head _))
  have hzl : zs2.length = x.cartons.length := map_fst_len hz2
  have hcl : x.cartons.length ≤ 100 := hsx.cartons
  rw [hzl] at SN1 ⊢
  have HSX := Lib.hid hsx
  clear hz2 hsx hbk hzl
  have SQ := Lib.hid ((SN1.alloc #[.int .i64 r.way, .int .i64 r.pallet.w, .int .i64 r.pallet.d, .int .i64 r.pallet.h, .int .i64 r.pallet.gram, .int .i64 r.classes, .slice A1 r.pairs.length c1, .slice A2 r.types.length c2, .int .i64 r.master, .slice A3 r.items.length c3] 50).alloc #[.slice A7 x.cartons.length c7, .slice A8 x.spots.length c8] 30)
  simp only [World.size_alloc] at SQ
  obtain ⟨b4, hb4⟩ : ∃ b, w1.heap.size = b := ⟨_, rfl⟩
  rw [hb4] at SQ
  clear SN SN1
  have SN := SQ
  clear SQ
  go_upto_region 2 with fail
  generalize (w1.alloc (.cells #[.int .i64 r.way, .int .i64 r.pallet.w, .int .i64 r.pallet.d, .int .i64 r.pallet.h, .int .i64 r.pallet.gram, .int .i64 r.classes, .slice A1 r.pairs.length c1, .slice A2 r.types.length c2, .int .i64 r.master, .slice A3 r.items.length c3] 50)).alloc (.cells #[.slice A7 x.cartons.length c7, .slice A8 x.spots.length c8] 30) = W3 at SN ⊢
  clear hb4
  go_wp2_with fail
  refine (new_sit SN.out HB.out).mono ?_
  rintro e1 w6 ⟨g, rfl, SN1⟩
  have SN2 := Lib.hid SN1
  clear SN SN1
  have SN := SN2
  clear SN2
  have k4 := SN.out.box (g := b4 + 1) (cs := #[.slice A7 x.cartons.length c7, .slice A8 x.spots.length c8]) (t := 30) (by repeat (first | with_reducible exact List.mem_cons_self | with_reducible exact List.Mem.head _ | refine List.Mem.tail _ ?_))
  have k40 := k4 0
  have k41 := k4 1
  simp at k40 k41
  obtain ⟨m, hm⟩ : ∃ m, max (x.cartons.length : Int) 1 = m := ⟨_, rfl⟩
  have HM := Lib.hid hm
  have hm1 : m ≤ 100 := by omega
  clear hm
  go_wp2_with fail
  refine wp_region_S (S := (fun W' => W'.cell? ⟨b4 + 1, 0, none⟩ = some (.slice A7 x.cartons.length c7) ∧ W'.cell? ⟨b4 + 1, 1, none⟩ = some (.slice A8 x.spots.length c8))) (by kernel_rfl) ?_ (fun hHeld => ?_)
  · (first | exact ⟨k40, k41⟩ | go_keep)
  refine wpS_take (i := 0) (v := ?_) rfl (by kernel_rfl) (fun _ _ _ h => h) (Or.inl ⟨by rfl, ?_⟩) (by assumption) ?_
  rotate_left
  · (intro w9 hSw; (try dsimp only at hSw); go_simp; (try with_reducible rfl))
  (try simp only [Act.put, List.setIfInBounds_toArray, List.set_cons_zero, List.set_cons_succ])
  refine wpS_take (i := 1) (v := ?_) rfl (by kernel_rfl) (fun _ _ _ h => h) (Or.inl ⟨by rfl, ?_⟩) (by assumption) ?_
  rotate_left
  · (intro w9 hSw; (try dsimp only at hSw); go_simp; (try with_reducible rfl))
  (try simp only [Act.put, List.setIfInBounds_toArray, List.set_cons_zero, List.set_cons_succ])
  refine wpS_take (i := 2) (v := ?_) rfl (by kernel_rfl) (fun _ _ _ h => h) (Or.inl ⟨by rfl, ?_⟩) (by assumption) ?_
  rotate_left
  · (intro w9 hSw; (try dsimp only at hSw); go_simp; (try with_reducible rfl))
  (try simp only [Act.put, List.setIfInBounds_toArray, List.set_cons_zero, List.set_cons_succ])
  refine wpS_take (i := 3) (v := ?_) rfl (by kernel_rfl) (fun _ _ _ h => h) (Or.inl ⟨by rfl, ?_⟩) (by assumption) ?_
  rotate_left
  · (intro w9 hSw; (try dsimp only at hSw); go_simp; (try with_reducible rfl))
  (try simp only [Act.put, List.setIfInBounds_toArray, List.set_cons_zero, List.set_cons_succ])
  refine wpS_take (i := 4) (v := ?_) rfl (by kernel_rfl) (fun _ _ _ h => h) (Or.inl ⟨by rfl, ?_⟩) (by assumption) ?_
  rotate_left
  · (intro w9 hSw; (try dsimp only at hSw); go_simp; (try with_reducible rfl))
  (try simp only [Act.put, List.setIfInBounds_toArray, List.set_cons_zero, List.set_cons_succ])
  refine wpS_ready (rs := [5]) (by kernel_rfl) (by simp) ?_
  refine AllReadyS.cons rfl (by kernel_rfl) (fun K hK => ?_) AllReadyS.nil
  go_simp
  ((go_at_call 30; refine (l1Max_any (x.cartons.length : Int) 1 _).mono ?_; rintro e w' ⟨rfl, rfl⟩; rw [HM.out]))
  refine hK.out _ _ ?_ (fun hHeld => ?_)
  · (first | exact ⟨k40, k41⟩ | go_keep)
  clear hK K
  (try simp only [Act.put, List.setIfInBounds_toArray, List.set_cons_zero, List.set_cons_succ])
  refine wpS_ready (rs := [6]) (by kernel_rfl) (by simp) ?_
  refine AllReadyS.cons rfl (by kernel_rfl) (fun K hK => ?_) AllReadyS.nil
  go_simp
  ((go_at_call 28; (first | with_reducible refine Sit.calls0 SN.out (fun SN0 => ?_) | with_reducible refine Sit.calls1 SN.out (fun SN0 => ?_) | with_reducible refine Sit.calls2 SN.out (fun SN0 => ?_) | with_reducible refine Sit.calls0d SN.out (fun SN0 => ?_) | with_reducible refine Sit.calls1d SN.out (fun SN0 => ?_) | with_reducible refine Sit.calls2d SN.out (fun SN0 => ?_)); (try simp only [World.size_alloc, World.size_drew] at SN0); refine (below_sit SN0 HB.out (.head _) _ (by first | decide | omega)).mono ?_; rintro e w1 ⟨y, rfl, hy, SN1, T1⟩; have SN2 := Lib.hid SN1; clear SN SN0 SN1 T1; have SN := SN2; clear SN2; have k4 := SN.out.box (g := b4 + 1) (cs := #[.slice A7 x.cartons.length c7, .slice A8 x.spots.length c8]) (t := 30) (by repeat (first | with_reducible exact List.mem_cons_self | with_reducible exact List.Mem.head _ | refine List.Mem.tail _ ?_)); have k40 := k4 0; have k41 := k4 1; simp at k40 k41))
  refine hK.out _ _ ?_ (fun hHeld => ?_)
  · (first | exact ⟨k40, k41⟩ | go_keep)
  clear hK K
  (try simp only [Act.put, List.setIfInBounds_toArray, List.set_cons_zero, List.set_cons_succ])
  refine wpS_ready (rs := [7]) (by kernel_rfl) (by simp) ?_
  refine AllReadyS.cons rfl (by kernel_rfl) (fun K hK => ?_) AllReadyS.nil
  go_simp
  ((go_at_call 29; refine (sLabelOf_any (.agg #[.slice A7 x.cartons.length c7, .slice A8 x.spots.length c8]) x y _ (SN.out.rp (by repeat (first | with_reducible exact List.mem_cons_self | with_reducible exact List.Mem.head _ | refine List.Mem.tail _ ?_)) (by omega) (fun c hc => by have := HSX.out.units c hc; omega) (by have := HSX.out.spots; omega))).mono ?_; rintro e w2 ⟨rfl, hb2⟩; have SN2 := Lib.hid (SN.out.next hb2); clear SN; have SN := SN2; clear SN2; have k4 := SN.out.box (g := b4 + 1) (cs := #[.slice A7 x.cartons.length c7, .slice A8 x.spots.length c8]) (t := 30) (by repeat (first | with_reducible exact List.mem_cons_self | with_reducible exact List.Mem.head _ | refine List.Mem.tail _ ?_)); have k40 := k4 0; have k41 := k4 1; simp at k40 k41))
  refine hK.out _ _ ?_ (fun hHeld => ?_)
  · (first | exact ⟨k40, k41⟩ | go_keep)
  clear hK K
  (try simp only [Act.put, List.setIfInBounds_toArray, List.set_cons_zero, List.set_cons_succ])
  refine wpS_ready (rs := [8]) (by kernel_rfl) (by simp) ?_
  refine AllReadyS.last rfl (by kernel_rfl) (fun K hK => ?_)
  go_simp
  refine hK.out _ _ ?_
  clear hK K
  (try simp only [Act.put, List.setIfInBounds_toArray, List.set_cons_zero, List.set_cons_succ])
  refine wpS_done (by kernel_rfl) ?_ _
  obtain ⟨s, hs⟩ : ∃ s, labelOf x y = s := ⟨_, rfl⟩
  have hsz : s.size ≤ 12 := by rw [← hs]; exact labelOf_size _ _
  rw [hs]
  clear hs k4 k40 k41
  have hgc := grownCap_ge w2 s.size 0 5
  have SQ := Lib.hid (SN.out.bytes s (grownCap w2 s.size 0 5))
  have hn12 : w2.heap.size = w2.heap.size := rfl
  go_upto_region 5 with fail
  generalize grownCap w2 s.size 0 5 = gc at SQ hgc ⊢
  generalize (w2.alloc (.cells (bytesRow s gc) 5 ((bytesRow s gc).size, (bytesRow s gc).size + 1))).drew = W8 at SQ ⊢
  generalize w2.heap.size = bb at SQ ⊢
  have hll : s.data.toList.length = s.size := by simp
  obtain ⟨l, hl⟩ : ∃ l, s.data.toList = l := ⟨_, rfl⟩
  rw [hl] at SQ hll
  clear SN hl hn12
  have SN := SQ
  clear SQ
  generalize s.size = n at *
  by_cases hn0 : n = 0
  · have hcb := SN.out.back_bytes (P := Try.prog) (.head _) 22 9 n gc (by omega) Try.underlying22 Try.underlying5 Try.underlying9
    subst hn0
    go_wp2_with fail
    go_ret
    exact ⟨_, rfl, by rw [list_size]; simp, SN.out.sub (.cons _ (.cons _ (.cons _ (.cons _ (.cons _ (.cons _ (List.Sublist.refl _)))))))⟩
  · have hn1 : (0 : Int) < n := by omega
    go_wp2_with fail
    refine (below_sit SN.out HB.out (.tail _ (.head _)) _ (by omega)).mono ?_
    rintro e3 w9 ⟨kk, rfl, hkk, SN1, T1⟩
    have SN2 := Lib.hid SN1
    clear SN SN1 T1
    have SN := SN2
    clear SN2
    by_cases h0 : kk = 0
    · subst h0
      go_wp2_with fail
      refine (below_sit SN.out HB.out (.tail _ (.head _)) _ (by omega)).mono ?_
      rintro e4 w10 ⟨jj, rfl, hjj, SN1, T1⟩
      have SN2 := Lib.hid SN1
      clear SN SN1 T1
      have SN := SN2
      clear SN2
      obtain ⟨j, rfl⟩ : ∃ j : Nat, jj = j := ⟨jj.toNat, by omega⟩
      have hjn : j < n := by omega
      go_wp2_with fail
      refine (below_sit SN.out HB.out (.tail _ (.head _)) _ (by omega)).mono ?_
      rintro e5 w11 ⟨dd, rfl, hdd, SN1, T1⟩
      have SN2 := Lib.hid SN1
      clear SN SN1 T1
      have SN := SN2
      clear SN2
      obtain ⟨d, rfl⟩ : ∃ d : Nat, dd = d := ⟨dd.toNat, by omega⟩
      have hfr := SN.out.byFree (.head _) (i := j) (by omega)
      have hce := SN.out.byCell (.head _) (List.getElem?_eq_getElem (show j < l.length by omega))
      have hbv : ((UInt8.ofNat (48 + d)).toNat : Int) = 48 + (d : Int) := by rw [UInt8.toNat_ofNat']; omega
      have SQ := Lib.hid (SN.out.byStore j (UInt8.ofNat (48 + d)))
      rw [hbv] at SQ
      go_upto_region 11 with fail
      generalize w11.setCell ⟨bb, j, none⟩ (.int .u8 (48 + (d : Int))) = W9 at SQ ⊢
      have hcb := SQ.out.back_bytes (P := Try.prog) (.head _) 22 9 n gc (by simp; omega) Try.underlying22 Try.underlying5 Try.underlying9
      go_wp2_with fail
      go_ret
      exact ⟨_, rfl, by rw [list_size]; simp; omega, SQ.out.sub (.cons _ (.cons _ (.cons _ (.cons _ (.cons _ (.cons _ (List.Sublist.refl _)))))))⟩
    · by_cases h1 : kk = 1
      · subst h1
        go_wp2_with fail
        refine (below_sit SN.out HB.out (.tail _ (.head _)) _ (by omega)).mono ?_
        rintro e4 w10 ⟨jj, rfl, hjj, SN1, T1⟩
        have SN2 := Lib.hid SN1
        clear SN SN1 T1
        have SN := SN2
        clear SN2
        obtain ⟨j, rfl⟩ : ∃ j : Nat, jj = j := ⟨jj.toNat, by omega⟩
        have hjn : j ≤ n := by omega
        have hjc : j ≤ gc := by omega
        have hcb := SN.out.back_bytes (P := Try.prog) (.head _) 22 9 j gc (by omega) Try.underlying22 Try.underlying5 Try.underlying9
        go_wp2_with fail
        go_ret
        exact ⟨_, rfl, by rw [list_size]; simp; omega, SN.out.sub (.cons _ (.cons _ (.cons _ (.cons _ (.cons _ (.cons _ (List.Sublist.refl _)))))))⟩
      · have hcb := SN.out.back_bytes (P := Try.prog) (.head _) 22 9 n gc (by omega) Try.underlying22 Try.underlying5 Try.underlying9
        go_wp2_with fail
        go_ret
        exact ⟨_, rfl, by rw [list_size]; simp; omega, SN.out.sub (.cons _ (.cons _ (.cons _ (.cons _ (.cons _ (.cons _ (List.Sublist.refl _)))))))⟩
set_option maxRecDepth 100000 in
set_option maxHeartbeats 4000000 in
theorem DrawLabelSum_any (v : Value) (xs : List Int) (w W : World) (L : List Fact) (hS : Sit w W L) (hx : RBytes w w.heap.size v xs) : Calls Try.prog 6 #[v] W fun e w' => ∃ s, e = .returned (.string s) ∧ s.size ≤ 41 ∧ Sit w w' L := by
  have HB := Lib.hid hx
  have SN := Lib.hid hS
  clear hS hx
  go_enter Try.func6, Try.ntmps6
  go_wp2_with fail
  refine (new_sit SN.out HB.out).mono ?_
  rintro e1 w6 ⟨g, rfl, SN1⟩
  have SN2 := Lib.hid SN1
  clear SN SN1
  have SN := SN2
  clear SN2
  go_wp2_with fail
  refine (once_sit SN.out HB.out (.head _) _ (by omega)).mono ?_
  rintro e2 w7 ⟨o, rfl, SN1⟩
  have SN2 := Lib.hid SN1
  clear SN SN1
  have SN := SN2
  clear SN2
  cases o
  · go_wp2_with fail
    refine Sit.calls1 SN.out (fun SN0 => ?_)
    refine (pickS_sit SN0 HB.out (.tail _ (.head _)) (.head _) _ _ 41 (by rfl) (by decide) (by decide) (by
      intro u hu
      simp only [List.mem_cons, List.not_mem_nil, or_false] at hu
      rcases hu with rfl | rfl | rfl | rfl | rfl | rfl | rfl
      all_goals exact ⟨_, rfl, by decide⟩)).mono ?_
    rintro e3 w8 ⟨s, rfl, hs, SN1⟩
    go_wp2
    go_ret
    exact ⟨s, rfl, hs, SN1.drop.drop⟩
  · go_wp2_with fail
    refine (l22Label_any v xs _ _ _ SN.out HB.out).mono ?_
    rintro e3 w8 ⟨s, rfl, hs, SN1⟩
    go_wp2
    go_ret
    exact ⟨s, rfl, by omega, SN1.drop⟩
end Go.Proofs.Ytlhniekjdoeidaa

/-
  Plain laws on a label's sum: it goes on from the left. No program is named here.
-/
namespace Go.Proofs.Ytlhniekjdoeidaa
set_option linter.unusedVariables false
set_option linter.unusedSimpArgs false
set_option maxRecDepth 100000
open Go.RowKit
theorem lsum_range2 : ∀ (l : List UInt8) (n : Int), 0 ≤ n → n ≤ 96 → -1 ≤ lsum l n ∧ lsum l n ≤ 96
  | [], n, h0, h1 => ⟨by unfold lsum; omega, by unfold lsum; omega⟩
  | c :: l, n, h0, h1 => by
    by_cases hc : 48 ≤ (c.toNat : Int) ∧ (c.toNat : Int) ≤ 57
    · rw [lsum_cons _ _ _ hc]
      exact lsum_range2 l _ (by omega) (by omega)
    · rw [lsum_bad _ _ _ hc]; omega
theorem labelSum_range (l : List UInt8) : -1 ≤ labelSum l ∧ labelSum l ≤ 96 := by
  unfold labelSum
  split
  · omega
  · exact lsum_range2 l 0 (by omega) (by omega)
theorem lsum_snoc : ∀ (l : List UInt8) (c : UInt8) (d n : Int), (c.toNat : Int) = 48 + d → 0 ≤ d → d ≤ 9 → 0 ≤ n → n ≤ 96 → lsum (l ++ [c]) n = if lsum l n = -1 then -1 else (10 * lsum l n + d) % 97
  | [], c, d, n, hc, h0, h1, h2, h3 => by
    have e : ∀ m, lsum [] m = m := fun _ => rfl
    rw [List.nil_append, lsum_cons _ _ _ (by omega), e, e, if_neg (by omega), hc]
    congr 1
    omega
  | b :: l, c, d, n, hc, h0, h1, h2, h3 => by
    rw [List.cons_append]
    by_cases hb : 48 ≤ (b.toNat : Int) ∧ (b.toNat : Int) ≤ 57
    · rw [lsum_cons _ _ _ hb, lsum_cons _ _ _ hb]
      exact lsum_snoc l c d _ hc h0 h1 (by omega) (by omega)
    · rw [lsum_bad _ _ _ hb, lsum_bad _ _ _ hb, if_pos rfl]
theorem labelSum_far {l : List UInt8} {c : UInt8} {d : Int} (hc : (c.toNat : Int) = 48 + d) (h0 : 0 ≤ d) (h1 : d ≤ 9) (h : labelSum l < 0 ∨ 40 ≤ l.length) : labelSum (l ++ [c]) = -1 ∨ (l = [] ∧ labelSum (l ++ [c]) = d) := by
  cases l with
  | nil =>
    refine .inr ⟨rfl, ?_⟩
    unfold labelSum
    have e : lsum [] 0 = 0 := rfl
    rw [if_neg (by simp), lsum_snoc [] c d 0 hc h0 h1 (by omega) (by omega), e, if_neg (by omega)]
    omega
  | cons b l =>
    refine .inl ?_
    unfold labelSum at h ⊢
    by_cases h40 : 40 < ((b :: l) ++ [c]).length
    · rw [if_pos (.inr h40)]
    · rw [List.length_append, List.length_singleton] at h40
      rw [if_neg (by rw [List.length_append]; simp; simp at h40; omega)]
      rw [if_neg (by simp at h40 ⊢; omega)] at h
      rw [lsum_snoc _ c d 0 hc h0 h1 (by omega) (by omega), if_pos]
      have := lsum_range2 (b :: l) 0 (by omega) (by omega)
      omega
theorem labelSum_near {l : List UInt8} {c : UInt8} {d : Int} (hc : (c.toNat : Int) = 48 + d) (h0 : 0 ≤ d) (h1 : d ≤ 9) (h : 0 ≤ labelSum l) (hl : l.length < 40) : labelSum (l ++ [c]) = (10 * labelSum l + d) % 97 := by
  unfold labelSum at h ⊢
  by_cases hn : l.length = 0 ∨ 40 < l.length
  · rw [if_pos hn] at h; omega
  · rw [if_neg hn] at h ⊢
    rw [if_neg (by rw [List.length_append, List.length_singleton]; omega), lsum_snoc _ c d 0 hc h0 h1 (by omega) (by omega), if_neg (by omega)]
end Go.Proofs.Ytlhniekjdoeidaa
