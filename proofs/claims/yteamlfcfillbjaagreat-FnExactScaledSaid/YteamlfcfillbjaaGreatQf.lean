/-
  The walks over the names of an order, both sides.
-/
import Derived.Test.YteamlfcfillbjaaGreatQe
namespace Go.Proofs.YteamlfcfillbjaaGreat
set_option linter.unusedVariables false
set_option linter.unusedSimpArgs false
set_option maxRecDepth 100000
open Go.RowKit
theorem any_cons {α : Type} {p : α → Bool} {xs : List α} {k : Nat} {x : α} (h : (xs.drop k).any p = xs.any p) (hx : xs[k]? = some x) : Hid (xs.any p = (p x || (xs.drop (k + 1)).any p)) := Lib.hid (by rw [← h, dropC hx]; rfl)
theorem any_end {α : Type} {p : α → Bool} {xs : List α} {k : Nat} (h : (xs.drop k).any p = xs.any p) (hk : ¬ k < xs.length) : Hid (xs.any p = false) := Lib.hid (by rw [← h, List.drop_of_length_le (by omega)]; rfl)
theorem beq_ne {a b : Int} (h : (a == b) = false) : ¬ b = a := fun e => by rw [e] at h; simp at h
theorem take_get {α : Type} {xs : List α} {i k : Nat} {x : α} (h : xs[k]? = some x) (hk : k < i) : (xs.take i)[k]? = some x := by rw [List.getElem?_take, if_pos hk]; exact h
theorem names_types {r : Request} (h : ((List.range r.types.length).all fun i => !typeDup r.types i) = false) : Hid (namesOk r = false) := Lib.hid (by unfold namesOk; rw [h]; rfl)
theorem names_items {r : Request} (h : ((List.range r.items.length).all fun i => !itemBad r.classes r.items i) = false) : Hid (namesOk r = false) := Lib.hid (by unfold namesOk; rw [h]; simp)
theorem names_pairs {r : Request} (h : r.pairs.any (pairOut r.classes) = true) : Hid (namesOk r = false) := Lib.hid (by unfold namesOk; rw [h]; simp)
theorem names_all {r : Request} (h1 : ((List.range r.types.length).all fun i => !typeDup r.types i) = true) (h2 : ((List.range r.items.length).all fun i => !itemBad r.classes r.items i) = true) (h3 : r.pairs.any (pairOut r.classes) = false) : Hid (namesOk r = (masterOf r).2) := Lib.hid (by unfold namesOk; rw [h1, h2, h3]; simp)
set_option maxHeartbeats 1000000 in
theorem l5Names_any (v : Value) (r : Request) (w : World) (h : RReq 16777216 w w.heap.size v r) : Calls Tryz.prog 53 #[v] w fun e w' => e = .returned (.bool (namesOk r)) ∧ Below w.heap.size w w' := by
  have HRQ := Lib.hid h
  obtain ⟨A1, c1, A2, c2, A3, c3, rfl, ⟨H1, H2, H3⟩, hb1, hb2, hb3, _⟩ := h.opn
  have hq := lay_box0 w [.cells #[.int .i64 r.way, .int .i64 r.pallet.w, .int .i64 r.pallet.d, .int .i64 r.pallet.h, .int .i64 r.pallet.gram, .int .i64 r.classes, .slice A1 r.pairs.length c1, .slice A2 r.types.length c2, .int .i64 r.master, .slice A3 r.items.length c3] 37] _ _ rfl
  have HL := Lib.hid (lay_low w [.cells #[.int .i64 r.way, .int .i64 r.pallet.w, .int .i64 r.pallet.d, .int .i64 r.pallet.h, .int .i64 r.pallet.gram, .int .i64 r.classes, .slice A1 r.pairs.length c1, .slice A2 r.types.length c2, .int .i64 r.master, .slice A3 r.items.length c3] 37])
  have HM := extC (lay_le w [.cells #[.int .i64 r.way, .int .i64 r.pallet.w, .int .i64 r.pallet.d, .int .i64 r.pallet.h, .int .i64 r.pallet.gram, .int .i64 r.classes, .slice A1 r.pairs.length c1, .slice A2 r.types.length c2, .int .i64 r.master, .slice A3 r.items.length c3] 37]) fun X => sMasterOf_any _ r X.world (HRQ.out.next (HL.out X))
  obtain ⟨mm, hmm⟩ : ∃ m, masterOf r = m := ⟨_, rfl⟩
  have HMM := Lib.hid hmm
  rw [hmm] at HM
  obtain ⟨mt, mo⟩ := mm
  clear hmm
  go_enter Tryz.func53, Tryz.ntmps53
  go_wp2
  go_loopw [3] (fun i wr => ∃ (k : Nat) (X : Ext (w.heap.size + 1) (lay w [.cells #[.int .i64 r.way, .int .i64 r.pallet.w, .int .i64 r.pallet.d, .int .i64 r.pallet.h, .int .i64 r.pallet.gram, .int .i64 r.classes, .slice A1 r.pairs.length c1, .slice A2 r.types.length c2, .int .i64 r.master, .slice A3 r.items.length c3] 37])), wr = X.world ∧ k ≤ r.types.length ∧ i = .int .i64 k ∧ ∀ i, i < k → (!typeDup r.types i) = true) (fun i _ => r.types.length - (intOf i).toNat)
  case atStart => exact ⟨0, Ext.here _ _, rfl, Nat.zero_le _, rfl, fun _ h => by omega⟩
  case round =>
    obtain ⟨k, X, rfl, hk, rfl, hno⟩ := hrel
    have HN := Lib.hid hno
    clear hno
    by_cases hlt : k < r.types.length
    · obtain ⟨b, off, x, rfl, hb, hx, hc⟩ := H2.out.flatX HL.out k hlt
      have hc0 := hc 0 _ rfl
      simp only [Nat.add_zero] at hc0
      have HX := Lib.hid hx
      have HTD := Lib.hid (show typeDup r.types k = (r.types.take k).any fun q => q.id == x.id by unfold typeDup; rw [getD_some hx])
      obtain ⟨hl0, hl1⟩ : (0 : Int) ≤ (k : Int) ∧ (k : Int) < (r.types.length : Int) := by omega
      clear hc hx
      go_wp2
      go_loopw [4] (fun i wr => ∃ (m : Nat) (X : X.Of), wr = X.world ∧ m ≤ k ∧ i = .int .i64 m ∧ ((r.types.take k).drop m).any (fun q => q.id == x.id) = (r.types.take k).any (fun q => q.id == x.id)) (fun i _ => k - (intOf i).toNat)
      case atStart => exact ⟨0, X, rfl, Nat.zero_le _, rfl, rfl⟩
      case round =>
        obtain ⟨m, X2, rfl, hm, rfl, hin⟩ := hrel
        by_cases hlt2 : m < k
        · obtain ⟨b', off', y, hA, hb', hy, hd⟩ := H2.out.flatX HL.out m (by omega)
          cases hA
          have hd0 := hd 0 _ rfl
          simp only [Nat.add_zero] at hd0
          obtain ⟨hl2, hl3⟩ : (0 : Int) ≤ (m : Int) ∧ (m : Int) < (r.types.length : Int) := by omega
          have HD := any_cons hin (take_get hy hlt2)
          have HF := Lib.hid (fun h : typeDup r.types k = true => names_types (range_all_false (f := fun i => !typeDup r.types i) hlt (by rw [h]; rfl)))
          clear hd hin hy
          go_wp2
          refine wp_region_in (by kernel_rfl) (by kernel_rfl) ?_; (repeat (go_big_quiet_step (fail))); refine wpQuiet_nil ?_; intro _ hw'; obtain ⟨Y, rfl⟩ := hw'
          go_wp2
          all_goals first
            | (go_ret; go_light; exact ⟨ret_bool (HF.out (by have he : y.id = x.id := (beq_iff_eq.1 (by assumption : (x.id == y.id) = true)).symm; rw [HTD.out, HD.out]; simp [he])).out.symm, HL.out _⟩)
            | (go_roundw; (case rel => go_light; exact ⟨m + 1, Y, rfl, hlt2, by go_num, by have hne : ¬ y.id = x.id := beq_ne (by assumption : (x.id == y.id) = false); rw [HD.out]; simp [hne]⟩); (case measure => (simp [intOf]; omega)))
        · have HD := any_end hin (by rw [List.length_take]; omega)
          have HS := Lib.hid (below_step (f := fun i => !typeDup r.types i) HN.out (by rw [HTD.out, HD.out]; rfl))
          clear hin
          go_wp2
          go_roundw
          case rel => exact ⟨k + 1, X2, rfl, hlt, by go_num, HS.out⟩
          case measure => simp [intOf]; omega
    · have HT := Lib.hid (range_all_true (f := fun i => !typeDup r.types i) (n := r.types.length) (fun i hi => HN.out i (by omega)))
      go_wp2
      go_loopw [5] (fun i wr => ∃ (k : Nat) (X : X.Of), wr = X.world ∧ k ≤ r.items.length ∧ i = .int .i64 k ∧ ∀ i, i < k → (!itemBad r.classes r.items i) = true) (fun i _ => r.items.length - (intOf i).toNat)
      case atStart => exact ⟨0, X, rfl, Nat.zero_le _, rfl, fun _ h => by omega⟩
      case round =>
        obtain ⟨k, X, rfl, hk, rfl, hno⟩ := hrel
        have HN := Lib.hid hno
        clear hno
        by_cases hlt : k < r.items.length
        · obtain ⟨b, off, x, rfl, hb, hx, hc⟩ := H3.out.flatX HL.out k hlt
          have hc0 := hc 0 _ rfl
          have hc5 := hc 5 _ rfl
          simp only [Nat.add_zero] at hc0
          have HTD := Lib.hid (show itemBad r.classes r.items k = (decide (r.classes ≤ x.cls) || (r.items.take k).any fun q => q.id == x.id) by unfold itemBad itemDup; rw [getD_some hx])
          have HF := Lib.hid (fun h : itemBad r.classes r.items k = true => names_items (range_all_false (f := fun i => !itemBad r.classes r.items i) hlt (by rw [h]; rfl)))
          obtain ⟨hl0, hl1⟩ : (0 : Int) ≤ (k : Int) ∧ (k : Int) < (r.items.length : Int) := by omega
          clear hc hx
          by_cases hcl : r.classes ≤ x.cls
          · go_wp2
            refine wp_region_in (by kernel_rfl) (by kernel_rfl) ?_; (repeat (go_big_quiet_step (fail))); refine wpQuiet_nil ?_; intro _ hw'; obtain ⟨Y, rfl⟩ := hw'
            go_wp2
            go_ret
            go_light
            exact ⟨ret_bool (HF.out (by rw [HTD.out]; simp [hcl])).out.symm, HL.out _⟩
          have hcl' : x.cls < r.classes := by omega
          go_wp2
          refine wp_region_in (by kernel_rfl) (by kernel_rfl) ?_; (repeat (go_big_quiet_step (fail))); refine wpQuiet_nil ?_; intro _ hw'; obtain ⟨Y, rfl⟩ := hw'
          go_wp2
          go_loopw [6] (fun i wr => ∃ (m : Nat) (X : X.Of), wr = X.world ∧ m ≤ k ∧ i = .int .i64 m ∧ ((r.items.take k).drop m).any (fun q => q.id == x.id) = (r.items.take k).any (fun q => q.id == x.id)) (fun i _ => k - (intOf i).toNat)
          case atStart => exact ⟨0, Y, rfl, Nat.zero_le _, rfl, rfl⟩
          case round =>
            obtain ⟨m, X2, rfl, hm, rfl, hin⟩ := hrel
            by_cases hlt2 : m < k
            · obtain ⟨b', off', y, hA, hb', hy, hd⟩ := H3.out.flatX HL.out m (by omega)
              cases hA
              have hd0 := hd 0 _ rfl
              simp only [Nat.add_zero] at hd0
              obtain ⟨hl2, hl3⟩ : (0 : Int) ≤ (m : Int) ∧ (m : Int) < (r.items.length : Int) := by omega
              have HD := any_cons hin (take_get hy hlt2)
              clear hd hin hy
              go_wp2
              refine wp_region_in (by kernel_rfl) (by kernel_rfl) ?_; (repeat (go_big_quiet_step (fail))); refine wpQuiet_nil ?_; intro _ hw'; obtain ⟨Y, rfl⟩ := hw'
              go_wp2
              all_goals first
                | (go_ret; go_light; exact ⟨ret_bool (HF.out (by have he : y.id = x.id := (beq_iff_eq.1 (by assumption : (x.id == y.id) = true)).symm; rw [HTD.out, HD.out]; simp [he])).out.symm, HL.out _⟩)
                | (go_roundw; (case rel => go_light; exact ⟨m + 1, Y, rfl, hlt2, by go_num, by have hne : ¬ y.id = x.id := beq_ne (by assumption : (x.id == y.id) = false); rw [HD.out]; simp [hne]⟩); (case measure => (simp [intOf]; omega)))
            · have HD := any_end hin (by rw [List.length_take]; omega)
              have HS := Lib.hid (below_step (f := fun i => !itemBad r.classes r.items i) HN.out (by rw [HTD.out, HD.out]; simp; omega))
              clear hin
              go_wp2
              go_roundw
              case rel => exact ⟨k + 1, X2, rfl, hlt, by go_num, HS.out⟩
              case measure => simp [intOf]; omega
        · have HU := Lib.hid (range_all_true (f := fun i => !itemBad r.classes r.items i) (n := r.items.length) (fun i hi => HN.out i (by omega)))
          go_wp2
          go_loopw [7] (fun i wr => ∃ (k : Nat) (X : X.Of), wr = X.world ∧ k ≤ r.pairs.length ∧ i = .int .i64 k ∧ (r.pairs.drop k).any (pairOut r.classes) = r.pairs.any (pairOut r.classes)) (fun i _ => r.pairs.length - (intOf i).toNat)
          case atStart => exact ⟨0, X, rfl, Nat.zero_le _, rfl, rfl⟩
          case round =>
            obtain ⟨k, X, rfl, hk, rfl, hin⟩ := hrel
            by_cases hlt : k < r.pairs.length
            · obtain ⟨b, off, x, rfl, hb, hx, hc⟩ := H1.out.flatX HL.out k hlt
              have hc0 := hc 0 _ rfl; have hc1 := hc 1 _ rfl; simp only [Nat.add_zero] at hc0
              have HD := any_cons hin hx
              obtain ⟨hl0, hl1⟩ : (0 : Int) ≤ (k : Int) ∧ (k : Int) < (r.pairs.length : Int) := by omega
              clear hc hx hin
              by_cases ha : r.classes ≤ x.a
              · go_wp2
                refine wp_region_in (by kernel_rfl) (by kernel_rfl) ?_; (repeat (go_big_quiet_step (fail))); refine wpQuiet_nil ?_; intro _ hw'; obtain ⟨Y, rfl⟩ := hw'
                go_wp2
                go_ret
                go_light
                exact ⟨ret_bool (names_pairs (by rw [HD.out]; simp [pairOut, ha])).out.symm, HL.out _⟩
              have ha' : decide (r.classes ≤ x.a) = false := by simp; omega
              by_cases hb' : r.classes ≤ x.b
              · have hb2 : decide (r.classes ≤ x.b) = true := by simp; omega
                go_wp2
                refine wp_region_in (by kernel_rfl) (by kernel_rfl) ?_; (repeat (go_big_quiet_step (fail))); refine wpQuiet_nil ?_; intro _ hw'; obtain ⟨Y, rfl⟩ := hw'
                go_wp2
                go_ret
                go_light
                exact ⟨ret_bool (names_pairs (by rw [HD.out]; simp [pairOut, hb'])).out.symm, HL.out _⟩
              have hb2 : decide (r.classes ≤ x.b) = false := by simp; omega
              have HP := Lib.hid (show pairOut r.classes x = false by unfold pairOut; rw [ha', hb2]; rfl)
              go_wp2
              refine wp_region_in (by kernel_rfl) (by kernel_rfl) ?_; (repeat (go_big_quiet_step (fail))); refine wpQuiet_nil ?_; intro _ hw'; obtain ⟨Y, rfl⟩ := hw'
              go_wp2
              go_roundw
              case rel => exact ⟨k + 1, Y, rfl, hlt, by go_num, by rw [HD.out, HP.out]; rfl⟩
              case measure => simp [intOf]; omega
            · have HE := any_end hin hlt
              have HA := Lib.hid (names_all HT.out HU.out HE.out)
              clear hin
              go_wp2_with (go_at_call 55; (first | refine (HM.out _).mono ?_ | refine (HM.out (Ext.here _ _)).mono ?_); rintro e w' ⟨rfl, Y, rfl⟩)
              go_ret
              go_light
              have hy1 := HL.out Y
              have hy2 := hy1.size
              exact ⟨ret_bool (by rw [HA.out.out, HMM.out]), (by repeat' (first | with_reducible exact Below.refl _ _ | with_reducible assumption | with_reducible refine Below.drew ?_ | with_reducible refine Below.alloc ?_ ?_ _ | with_reducible refine Below.setCell ?_ ?_ _ | with_reducible refine below_drewN ?_ _ | (simp; done) | (simp; omega)))⟩
set_option maxHeartbeats 400000 in
theorem namesOk1_any (x : GType) (id : Int) (b : Nat) (w : World) (hc : w.cell? ⟨b, 0, none⟩ = some (.int .i64 id)) :
    Calls Tryz.prog 97 #[x.val, .pointer (some ⟨b, 0, none⟩)] w fun e w' => e = .returned (.bool (x.id == id)) ∧ Below w.heap.size w w' := by
  have hb := World.block_lt_of_cell? w _ hc
  go_enter Tryz.func97, Tryz.ntmps97
  go_wp2
  go_ret
  exact ⟨rfl, (by repeat' (first | with_reducible exact Below.refl _ _ | with_reducible assumption | with_reducible refine Below.drew ?_ | with_reducible refine Below.alloc ?_ ?_ _ | with_reducible refine Below.setCell ?_ ?_ _ | with_reducible refine below_drewN ?_ _ | (simp; done) | (simp; omega)))⟩
set_option maxHeartbeats 400000 in
theorem namesOk2_any (x : Item) (id : Int) (b : Nat) (w : World) (hc : w.cell? ⟨b, 0, none⟩ = some (.int .i64 id)) :
    Calls Tryz.prog 98 #[x.val, .pointer (some ⟨b, 0, none⟩)] w fun e w' => e = .returned (.bool (x.id == id)) ∧ Below w.heap.size w w' := by
  have hb := World.block_lt_of_cell? w _ hc
  go_enter Tryz.func98, Tryz.ntmps98
  go_wp2
  go_ret
  exact ⟨rfl, (by repeat' (first | with_reducible exact Below.refl _ _ | with_reducible assumption | with_reducible refine Below.drew ?_ | with_reducible refine Below.alloc ?_ ?_ _ | with_reducible refine Below.setCell ?_ ?_ _ | with_reducible refine below_drewN ?_ _ | (simp; done) | (simp; omega)))⟩
set_option maxHeartbeats 400000 in
theorem namesOk3_any (x : Pair) (c : Int) (b : Nat) (w : World) (hc : w.cell? ⟨b, 5, none⟩ = some (.int .i64 c)) :
    Calls Tryz.prog 99 #[x.val, .pointer (some ⟨b, 0, none⟩)] w fun e w' => e = .returned (.bool (pairOut c x)) ∧ Below w.heap.size w w' := by
  have hb := World.block_lt_of_cell? w _ hc
  go_enter Tryz.func99, Tryz.ntmps99
  go_wp2
  all_goals go_ret
  all_goals exact ⟨ret_bool (by unfold pairOut; simp [*]), (by repeat' (first | with_reducible exact Below.refl _ _ | with_reducible assumption | with_reducible refine Below.drew ?_ | with_reducible refine Below.alloc ?_ ?_ _ | with_reducible refine Below.setCell ?_ ?_ _ | with_reducible refine below_drewN ?_ _ | (simp; done) | (simp; omega)))⟩
set_option maxHeartbeats 1000000 in
theorem iNamesOk_any (v : Value) (r : Request) (w : World) (h : RReq 16777216 w w.heap.size v r) : Calls Tryz.prog 81 #[v] w fun e w' => e = .returned (.bool (namesOk r)) ∧ Below w.heap.size w w' := by
  have HRQ := Lib.hid h
  obtain ⟨A1, c1, A2, c2, A3, c3, rfl, ⟨H1, H2, H3⟩, hb1, hb2, hb3, _, hcap2, hcap3⟩ := h.opn
  have hq := lay_box0 w [.cells #[.int .i64 r.way, .int .i64 r.pallet.w, .int .i64 r.pallet.d, .int .i64 r.pallet.h, .int .i64 r.pallet.gram, .int .i64 r.classes, .slice A1 r.pairs.length c1, .slice A2 r.types.length c2, .int .i64 r.master, .slice A3 r.items.length c3] 37] _ _ rfl
  have HL := Lib.hid (lay_low w [.cells #[.int .i64 r.way, .int .i64 r.pallet.w, .int .i64 r.pallet.d, .int .i64 r.pallet.h, .int .i64 r.pallet.gram, .int .i64 r.classes, .slice A1 r.pairs.length c1, .slice A2 r.types.length c2, .int .i64 r.master, .slice A3 r.items.length c3] 37])
  have HLS := Lib.hid (lay_size w [.cells #[.int .i64 r.way, .int .i64 r.pallet.w, .int .i64 r.pallet.d, .int .i64 r.pallet.h, .int .i64 r.pallet.gram, .int .i64 r.classes, .slice A1 r.pairs.length c1, .slice A2 r.types.length c2, .int .i64 r.master, .slice A3 r.items.length c3] 37])
  have hgt := fun X : Ext (w.heap.size + 1) (lay w [.cells #[.int .i64 r.way, .int .i64 r.pallet.w, .int .i64 r.pallet.d, .int .i64 r.pallet.h, .int .i64 r.pallet.gram, .int .i64 r.classes, .slice A1 r.pairs.length c1, .slice A2 r.types.length c2, .int .i64 r.master, .slice A3 r.items.length c3] 37]) => (show w.heap.size < X.world.heap.size from HLS.out X)
  have HM := extC (lay_le w [.cells #[.int .i64 r.way, .int .i64 r.pallet.w, .int .i64 r.pallet.d, .int .i64 r.pallet.h, .int .i64 r.pallet.gram, .int .i64 r.classes, .slice A1 r.pairs.length c1, .slice A2 r.types.length c2, .int .i64 r.master, .slice A3 r.items.length c3] 37]) fun X => iMasterOf_any _ r X.world (HRQ.out.next (HL.out X))
  obtain ⟨qp, hqp⟩ : ∃ q, r.pairs.any (pairOut r.classes) = q := ⟨_, rfl⟩
  have HQP := Lib.hid hqp
  have HC3 := Lib.hid fun (W : World) (hW : Below (w.heap.size + 1) (lay w [.cells #[.int .i64 r.way, .int .i64 r.pallet.w, .int .i64 r.pallet.d, .int .i64 r.pallet.h, .int .i64 r.pallet.gram, .int .i64 r.classes, .slice A1 r.pairs.length c1, .slice A2 r.types.length c2, .int .i64 r.master, .slice A3 r.items.length c3] 37]) W) => containsFuncPair_any 99 #[.pointer (some ⟨w.heap.size, 0, none⟩)] (pairOut r.classes) _ r.pairs W (H1.out.next (flat_mono _) (HL.out ⟨W, hW⟩)) (run_enter Tryz.func99 (by kernel_rfl) (by kernel_rfl))
    (fun W' x hW' _ => namesOk3_any x r.classes w.heap.size W' ((hW'.cell (p := ⟨w.heap.size, 5, none⟩) (by have := HLS.out ⟨W, hW⟩; simp at this ⊢; omega)).trans (hq ⟨W, hW⟩ 5)))
  simp only [hqp] at HC3
  clear hqp
  obtain ⟨mm, hmm⟩ : ∃ m, masterOf r = m := ⟨_, rfl⟩
  have HMM := Lib.hid hmm
  rw [hmm] at HM
  obtain ⟨mt, mo⟩ := mm
  clear hmm
  go_enter Tryz.func81, Tryz.ntmps81
  go_wp2
  go_loopw [12] (fun i wr => ∃ (k : Nat) (X : Ext (w.heap.size + 1) (lay w [.cells #[.int .i64 r.way, .int .i64 r.pallet.w, .int .i64 r.pallet.d, .int .i64 r.pallet.h, .int .i64 r.pallet.gram, .int .i64 r.classes, .slice A1 r.pairs.length c1, .slice A2 r.types.length c2, .int .i64 r.master, .slice A3 r.items.length c3] 37])), wr = X.world ∧ k ≤ r.types.length ∧ i = .int .i64 k ∧ ∀ i, i < k → (!typeDup r.types i) = true) (fun i _ => r.types.length - (intOf i).toNat)
  case atStart => exact ⟨0, Ext.here _ _, rfl, Nat.zero_le _, rfl, fun _ h => by omega⟩
  case round =>
    obtain ⟨k, X, rfl, hk, rfl, hno⟩ := hrel
    have HN := Lib.hid hno
    clear hno
    by_cases hlt : k < r.types.length
    · obtain ⟨b, off, x, rfl, hb, hx, hc⟩ := H2.out.flatX HL.out k hlt
      have hc0 := hc 0 _ rfl; have hc1 := hc 1 _ rfl; have hc2 := hc 2 _ rfl; have hc3 := hc 3 _ rfl; have hc4 := hc 4 _ rfl; have hc5 := hc 5 _ rfl; have hc6 := hc 6 _ rfl; simp only [Nat.add_zero] at hc0
      have HTD := Lib.hid (show typeDup r.types k = (r.types.take k).any fun q => q.id == x.id by unfold typeDup; rw [getD_some hx])
      have HZ := Lib.hid (HLS.out X)
      have hA : Below X.world.heap.size X.world (X.world.alloc (.cells #[.int .i64 x.id, .int .i64 x.w, .int .i64 x.h, .int .i64 x.d, .int .i64 x.tare, .int .i64 x.gram, .int .i64 x.cost] 67)) := (Below.refl _ _).alloc (Nat.le_refl _) _
      have HC := containsFuncType_any 97 #[.pointer (some ⟨X.world.heap.size, 0, none⟩)] (fun q => q.id == x.id) _ (r.types.take k) (X.world.alloc (.cells #[.int .i64 x.id, .int .i64 x.w, .int .i64 x.h, .int .i64 x.d, .int .i64 x.tare, .int .i64 x.gram, .int .i64 x.cost] 67)) ((H2.out.next (flat_mono _) (bstep (HL.out X) hA)).take k (by omega)) (run_enter Tryz.func97 (by kernel_rfl) (by kernel_rfl))
        (fun W y hW _ => namesOk1_any y x.id X.world.heap.size W ((hW.cell (p := ⟨X.world.heap.size, 0, none⟩) (by simp)).trans (by simp)))
      rw [← HTD.out] at HC
      have HF := Lib.hid (fun h : typeDup r.types k = true => names_types (range_all_false (f := fun i => !typeDup r.types i) hlt (by rw [h]; rfl)))
      have HS := Lib.hid (fun h : typeDup r.types k = false => below_step (f := fun i => !typeDup r.types i) HN.out (by rw [h]; rfl))
      obtain ⟨q, hqq⟩ : ∃ q, typeDup r.types k = q := ⟨_, rfl⟩
      rw [hqq] at HC HF HS
      have HC := Lib.hid HC
      have HA := Lib.hid hA
      have hkc : (k : Int) ≤ (c2 : Int) := by omega
      clear hc hx hA hqq
      go_wp2_with fail
      refine HC.out.mono ?_
      rintro e w2 ⟨rfl, hb2'⟩
      have HY := Lib.hid (X.ok.trans ((bstep HA.out hb2').mono HZ.out))
      cases q
      · go_wp2
        (go_roundw; (case rel => exact ⟨k + 1, ⟨w2, HY.out⟩, rfl, hlt, by go_num, HS.out (by simp)⟩); (case measure => (simp [intOf]; omega)))
      · go_wp2
        go_ret
        go_light
        exact ⟨ret_bool (HF.out (by simp)).out.symm, HL.out ⟨w2, HY.out⟩⟩
    · have HT := Lib.hid (range_all_true (f := fun i => !typeDup r.types i) (n := r.types.length) (fun i hi => HN.out i (by omega)))
      go_wp2
      go_loopw [27] (fun i wr => ∃ (k : Nat) (X : X.Of), wr = X.world ∧ k ≤ r.items.length ∧ i = .int .i64 k ∧ ∀ i, i < k → (!itemBad r.classes r.items i) = true) (fun i _ => r.items.length - (intOf i).toNat)
      case atStart => exact ⟨0, X, rfl, Nat.zero_le _, rfl, fun _ h => by omega⟩
      case round =>
        obtain ⟨k, X, rfl, hk, rfl, hno⟩ := hrel
        have HN := Lib.hid hno
        clear hno
        by_cases hlt : k < r.items.length
        · obtain ⟨b, off, x, rfl, hb, hx, hc⟩ := H3.out.flatX HL.out k hlt
          have hc0 := hc 0 _ rfl; have hc1 := hc 1 _ rfl; have hc2 := hc 2 _ rfl; have hc3 := hc 3 _ rfl; have hc4 := hc 4 _ rfl; have hc5 := hc 5 _ rfl; have hc6 := hc 6 _ rfl; simp only [Nat.add_zero] at hc0
          have HTD := Lib.hid (show itemBad r.classes r.items k = (decide (r.classes ≤ x.cls) || (r.items.take k).any fun q => q.id == x.id) by unfold itemBad itemDup; rw [getD_some hx])
          have HZ := Lib.hid (HLS.out X)
          have hA : Below X.world.heap.size X.world (X.world.alloc (.cells #[.int .i64 x.id, .int .i64 x.w, .int .i64 x.h, .int .i64 x.d, .int .i64 x.gram, .int .i64 x.cls, .int .i64 x.count] 41)) := (Below.refl _ _).alloc (Nat.le_refl _) _
          have HC := containsFuncItem_any 98 #[.pointer (some ⟨X.world.heap.size, 0, none⟩)] (fun q => q.id == x.id) _ (r.items.take k) (X.world.alloc (.cells #[.int .i64 x.id, .int .i64 x.w, .int .i64 x.h, .int .i64 x.d, .int .i64 x.gram, .int .i64 x.cls, .int .i64 x.count] 41)) ((H3.out.next (flat_mono _) (bstep (HL.out X) hA)).take k (by omega)) (run_enter Tryz.func98 (by kernel_rfl) (by kernel_rfl))
            (fun W y hW _ => namesOk2_any y x.id X.world.heap.size W ((hW.cell (p := ⟨X.world.heap.size, 0, none⟩) (by simp)).trans (by simp)))
          have HF := Lib.hid (fun h : itemBad r.classes r.items k = true => names_items (range_all_false (f := fun i => !itemBad r.classes r.items i) hlt (by rw [h]; rfl)))
          have HS := Lib.hid (fun h : itemBad r.classes r.items k = false => below_step (f := fun i => !itemBad r.classes r.items i) HN.out (by rw [h]; rfl))
          obtain ⟨q, hqq⟩ : ∃ q, ((r.items.take k).any fun q => q.id == x.id) = q := ⟨_, rfl⟩
          rw [hqq] at HC HTD
          have HC := Lib.hid HC
          have HA := Lib.hid hA
          have hkc : (k : Int) ≤ (c3 : Int) := by omega
          clear hc hx hqq
          by_cases hcl : r.classes ≤ x.cls
          · go_wp2
            go_ret
            go_light
            have hb3 := bstep (HL.out X) HA.out
            exact ⟨ret_bool (HF.out (by rw [HTD.out]; simp [hcl])).out.symm, hb3⟩
          have hcl' : decide (r.classes ≤ x.cls) = false := by simp; omega
          have hcl2 : x.cls < r.classes := by omega
          clear hA
          go_wp2_with fail
          refine HC.out.mono ?_
          rintro e w2 ⟨rfl, hb2'⟩
          have HY := Lib.hid (X.ok.trans ((bstep HA.out hb2').mono HZ.out))
          cases q
          · go_wp2
            (go_roundw; (case rel => exact ⟨k + 1, ⟨w2, HY.out⟩, rfl, hlt, by go_num, HS.out (by rw [HTD.out]; simp; omega)⟩); (case measure => (simp [intOf]; omega)))
          · go_wp2
            go_ret
            go_light
            exact ⟨ret_bool (HF.out (by rw [HTD.out]; simp)).out.symm, HL.out ⟨w2, HY.out⟩⟩
        · have HU := Lib.hid (range_all_true (f := fun i => !itemBad r.classes r.items i) (n := r.items.length) (fun i hi => HN.out i (by omega)))
          cases mo
          · have HA := Lib.hid (show namesOk r = false by unfold namesOk; rw [HMM.out]; simp)
            go_wp2_with (go_at_call 79; (first | refine (HM.out _).mono ?_ | refine (HM.out (Ext.here _ _)).mono ?_); rintro e w' ⟨rfl, Y, rfl⟩)
            go_ret
            go_light
            have hy1 := HL.out Y
            have hy2 := hy1.size
            exact ⟨ret_bool HA.out.symm, (by repeat' (first | with_reducible exact Below.refl _ _ | with_reducible assumption | with_reducible refine Below.drew ?_ | with_reducible refine Below.alloc ?_ ?_ _ | with_reducible refine Below.setCell ?_ ?_ _ | with_reducible refine below_drewN ?_ _ | (simp; done) | (simp; omega)))⟩
          · have HA := Lib.hid (show namesOk r = !qp by
              have h1 := HT.out
              have h2 := HU.out
              unfold namesOk
              rw [h1, h2, HMM.out, HQP.out]; simp)
            go_wp2_with (first | (go_at_call 79; (first | refine (HM.out _).mono ?_ | refine (HM.out (Ext.here _ _)).mono ?_); rintro e w' ⟨rfl, Y, rfl⟩) | (go_at_call 92; refine (HC3.out _ (Y.ok.trans ((Below.refl _ _).alloc (HLS.out Y) _))).mono ?_; rintro e w2 ⟨rfl, hb2⟩))
            go_ret
            go_light
            have hy1 := HL.out Y
            have hy2 := hy1.size
            exact ⟨ret_bool HA.out.symm, (hy1.alloc hy2 _).trans (hb2.mono (by simp; omega))⟩
end Go.Proofs.YteamlfcfillbjaaGreat
