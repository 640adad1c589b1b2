/-
  The walks over Beside, TypeById, MasterOf, both sides.
-/
import Derived.Test.YteamlfcfillbjaaGreatQb
import Derived.Test.YteamlfcfillbjaaGreatIx
import Derived.Test.YteamlfcfillbjaaGreatSe
namespace Go.Proofs.YteamlfcfillbjaaGreat
set_option linter.unusedVariables false
set_option linter.unusedSimpArgs false
set_option maxRecDepth 100000
open Go.RowKit
theorem idxF_find {α : Type} (p : α → Bool) (xs : List α) : (idxF p xs = -1 ∧ xs.find? p = none) ∨ ∃ (i : Nat) (x : α), idxF p xs = i ∧ i < xs.length ∧ xs[i]? = some x ∧ xs.find? p = some x := by
  unfold idxF
  cases h : xs.findIdx? p with
  | none =>
    rw [List.findIdx?_eq_none_iff] at h
    exact .inl ⟨rfl, List.find?_eq_none.2 (fun x hx => by simp [h x hx])⟩
  | some i =>
    obtain ⟨hi, hp, hn⟩ := List.findIdx?_eq_some_iff_getElem.1 h
    refine .inr ⟨i, xs[i], rfl, hi, List.getElem?_eq_getElem hi, ?_⟩
    rw [List.find?_eq_some_iff_getElem]
    exact ⟨hp, i, hi, rfl, fun j hj => by have := hn j hj; simpa using this⟩
set_option maxHeartbeats 400000 in
theorem indexPair_any (v : Value) (xs : List Pair) (u : Pair) (w : World) (h : RPairs 16777216 w w.heap.size v xs) :
    Calls Tryz.prog 109 #[v, u.val] w fun e w' => e = .returned (.int .i64 (idxF (fun y => y == u) xs)) ∧ Below w.heap.size w w' := by
  have H := Lib.hid h
  obtain ⟨A, c, rfl, hbd, _⟩ := h
  have hq := lay_box0 w [.cells #[.int .i64 u.a, .int .i64 u.b] 81] _ _ rfl
  have HL := Lib.hid (lay_low w [.cells #[.int .i64 u.a, .int .i64 u.b] 81])
  go_enter Tryz.func109, Tryz.ntmps109
  go_wp2
  go_loopw [8] (fun i wr => ∃ (k : Nat) (X : Ext (w.heap.size + 1) (lay w [.cells #[.int .i64 u.a, .int .i64 u.b] 81])), wr = X.world ∧ k ≤ xs.length ∧ i = .int .i64 k ∧ ∀ i y, i < k → xs[i]? = some y → (y == u) = false) (fun i _ => xs.length - (intOf i).toNat)
  case atStart => exact ⟨0, Ext.here _ _, rfl, Nat.zero_le _, rfl, fun _ _ h => by omega⟩
  case round =>
    obtain ⟨k, X, rfl, hk, rfl, hno⟩ := hrel
    have HN := Lib.hid hno
    clear hno
    by_cases hlt : k < xs.length
    · obtain ⟨b, off, x, rfl, hb, hx, hc⟩ := H.out.flatX HL.out k hlt
      have hc0 := hc 0 _ rfl
      have hc1 := hc 1 _ rfl
      simp only [Nat.add_zero] at hc0
      have hlt' : (0 : Int) ≤ (k : Int) ∧ (k : Int) < (xs.length : Int) := by omega
      obtain ⟨hl0, hl1⟩ := hlt'
      have hel := eql_Pair u x
      have hgu := fun p q => guard_Pair .eql p q u x
      have HP := Lib.hid (show (x == u) = decide (u = x) by rw [Bool.eq_iff_iff, beq_iff_eq, decide_eq_true_iff]; exact eq_comm)
      have HI := Lib.hid (fun h : (x == u) = true => idxF_hit (p := fun y => y == u) hx h HN.out)
      have HM := Lib.hid (fun h : (x == u) = false => miss_step HN.out hx h)
      clear hc
      go_wp2
      refine wp_region_in (by kernel_rfl) (by kernel_rfl) ?_
      repeat (go_big_quiet_step (fail))
      refine wpQuiet_nil ?_
      intro _ hw'
      obtain ⟨Y, rfl⟩ := hw'
      go_wp2
      all_goals first
        | (go_ret; exact ⟨ret_int (HI.out (by rw [HP.out]; simp [*])).symm, HL.out Y⟩)
        | (go_roundw; (case rel => exact ⟨k + 1, Y, rfl, hlt, by go_num, HM.out (by rw [HP.out]; simp_all)⟩); (case measure => (simp [intOf]; omega)))
    · have HI := Lib.hid (idxF_miss (p := fun y => y == u) (xs := xs) (fun i y hi hy => HN.out i y (by omega) hy))
      go_wp2
      go_ret
      exact ⟨ret_int HI.out.symm, HL.out X⟩
set_option maxHeartbeats 400000 in
theorem containsPair_any (v : Value) (xs : List Pair) (u : Pair) (w : World) (h : RPairs 16777216 w w.heap.size v xs) :
    Calls Tryz.prog 106 #[v, u.val] w fun e w' => e = .returned (.bool (xs.any fun y => y == u)) ∧ Below w.heap.size w w' := by
  have HA := Lib.hid (idxF_any (fun y => y == u) xs)
  have hb0 : Below w.heap.size w (w.alloc (.cells #[.int .i64 u.a, .int .i64 u.b] 81)) := (by repeat' (first | with_reducible exact Below.refl _ _ | with_reducible assumption | with_reducible refine Below.drew ?_ | with_reducible refine Below.alloc ?_ ?_ _ | with_reducible refine Below.setCell ?_ ?_ _ | with_reducible refine below_drewN ?_ _ | (simp; done) | (simp; omega)))
  have HC := Lib.hid (indexPair_any v xs u _ (h.next (flat_mono _) hb0))
  go_enter Tryz.func106, Tryz.ntmps106
  go_wp2_with fail
  refine HC.out.mono ?_
  rintro e w2 ⟨rfl, hb2⟩
  go_wp2
  go_ret
  exact ⟨ret_bool HA.out, bstep hb0 hb2⟩
set_option maxHeartbeats 400000 in
theorem iBeside_any (v : Value) (ps : List Pair) (a b : Int) (w : World) (h : RPairs 16777216 w w.heap.size v ps) : Calls Tryz.prog 100 #[v, .int .i64 a, .int .i64 b] w fun e w' => e = .returned (.bool (beside ps a b)) ∧ Below w.heap.size w w' := by
  have HC := Lib.hid (containsPair_any v ps ⟨a, b⟩ w h)
  have HB := Lib.hid (show (ps.any fun y => y == (⟨a, b⟩ : Pair)) = beside ps a b by
    unfold beside
    congr 1
    funext y
    obtain ⟨c, d⟩ := y
    rw [Bool.eq_iff_iff]; simp)
  go_enter Tryz.func100, Tryz.ntmps100
  go_wp2_with fail
  refine HC.out.mono ?_
  rintro e w2 ⟨rfl, hb2⟩
  go_wp2
  go_ret
  exact ⟨ret_bool HB.out, hb2⟩
set_option maxHeartbeats 400000 in
theorem typeById1_any (x : GType) (id : Int) (b : Nat) (w : World) (hc : w.cell? ⟨b, 0, none⟩ = some (.int .i64 id)) :
    Calls Tryz.prog 103 #[x.val, .pointer (some ⟨b, 0, none⟩)] w fun e w' => e = .returned (.bool (x.id == id)) ∧ Below w.heap.size w w' := by
  have hb := World.block_lt_of_cell? w _ hc
  go_enter Tryz.func103, Tryz.ntmps103
  go_wp2
  go_ret
  exact ⟨rfl, (by repeat' (first | with_reducible exact Below.refl _ _ | with_reducible assumption | with_reducible refine Below.drew ?_ | with_reducible refine Below.alloc ?_ ?_ _ | with_reducible refine Below.setCell ?_ ?_ _ | with_reducible refine below_drewN ?_ _ | (simp; done) | (simp; omega)))⟩
set_option maxHeartbeats 1000000 in
theorem typeById_any (v : Value) (r : Request) (id : Int) (w : World) (h : RReq 16777216 w w.heap.size v r) :
    Calls Tryz.prog 90 #[v, .int .i64 id] w fun e w' => e = .returned (.tuple #[(typeById r id).1.val, .bool (typeById r id).2]) ∧ Below w.heap.size w w' := by
  obtain ⟨A1, c1, A2, c2, A3, c3, rfl, ⟨_, H2, _⟩, _, hbt, _⟩ := h.opn
  have hq0 := lay_box0 w [.cells #[.int .i64 r.way, .int .i64 r.pallet.w, .int .i64 r.pallet.d, .int .i64 r.pallet.h, .int .i64 r.pallet.gram, .int .i64 r.classes, .slice A1 r.pairs.length c1, .slice A2 r.types.length c2, .int .i64 r.master, .slice A3 r.items.length c3] 37, .cells #[.int .i64 id] 3, .cells #[.int .i64 0, .int .i64 0, .int .i64 0, .int .i64 0, .int .i64 0, .int .i64 0, .int .i64 0] 67] _ _ rfl
  have hq1 := lay_box w [.cells #[.int .i64 r.way, .int .i64 r.pallet.w, .int .i64 r.pallet.d, .int .i64 r.pallet.h, .int .i64 r.pallet.gram, .int .i64 r.classes, .slice A1 r.pairs.length c1, .slice A2 r.types.length c2, .int .i64 r.master, .slice A3 r.items.length c3] 37, .cells #[.int .i64 id] 3, .cells #[.int .i64 0, .int .i64 0, .int .i64 0, .int .i64 0, .int .i64 0, .int .i64 0, .int .i64 0] 67] 1 _ _ rfl
  have hq2 := lay_box w [.cells #[.int .i64 r.way, .int .i64 r.pallet.w, .int .i64 r.pallet.d, .int .i64 r.pallet.h, .int .i64 r.pallet.gram, .int .i64 r.classes, .slice A1 r.pairs.length c1, .slice A2 r.types.length c2, .int .i64 r.master, .slice A3 r.items.length c3] 37, .cells #[.int .i64 id] 3, .cells #[.int .i64 0, .int .i64 0, .int .i64 0, .int .i64 0, .int .i64 0, .int .i64 0, .int .i64 0] 67] 2 _ _ rfl
  have hf2 := lay_free w [.cells #[.int .i64 r.way, .int .i64 r.pallet.w, .int .i64 r.pallet.d, .int .i64 r.pallet.h, .int .i64 r.pallet.gram, .int .i64 r.classes, .slice A1 r.pairs.length c1, .slice A2 r.types.length c2, .int .i64 r.master, .slice A3 r.items.length c3] 37, .cells #[.int .i64 id] 3, .cells #[.int .i64 0, .int .i64 0, .int .i64 0, .int .i64 0, .int .i64 0, .int .i64 0, .int .i64 0] 67] 2 _ _ rfl
  have HL := Lib.hid (lay_low w [.cells #[.int .i64 r.way, .int .i64 r.pallet.w, .int .i64 r.pallet.d, .int .i64 r.pallet.h, .int .i64 r.pallet.gram, .int .i64 r.classes, .slice A1 r.pairs.length c1, .slice A2 r.types.length c2, .int .i64 r.master, .slice A3 r.items.length c3] 37, .cells #[.int .i64 id] 3, .cells #[.int .i64 0, .int .i64 0, .int .i64 0, .int .i64 0, .int .i64 0, .int .i64 0, .int .i64 0] 67])
  have HI := extC (lay_le w [.cells #[.int .i64 r.way, .int .i64 r.pallet.w, .int .i64 r.pallet.d, .int .i64 r.pallet.h, .int .i64 r.pallet.gram, .int .i64 r.classes, .slice A1 r.pairs.length c1, .slice A2 r.types.length c2, .int .i64 r.master, .slice A3 r.items.length c3] 37, .cells #[.int .i64 id] 3, .cells #[.int .i64 0, .int .i64 0, .int .i64 0, .int .i64 0, .int .i64 0, .int .i64 0, .int .i64 0] 67]) fun X => indexFuncType_any 103 #[.pointer (some ⟨w.heap.size + 1, 0, none⟩)] (fun t => t.id == id) _ r.types X.world (H2.out.next (flat_mono _) (HL.out X)) (run_enter Tryz.func103 (by kernel_rfl) (by kernel_rfl))
    (fun W x hW _ => typeById1_any x id (w.heap.size + 1) W ((hW.cell (p := ⟨w.heap.size + 1, 0, none⟩) (by have := lay_size w [.cells #[.int .i64 r.way, .int .i64 r.pallet.w, .int .i64 r.pallet.d, .int .i64 r.pallet.h, .int .i64 r.pallet.gram, .int .i64 r.classes, .slice A1 r.pairs.length c1, .slice A2 r.types.length c2, .int .i64 r.master, .slice A3 r.items.length c3] 37, .cells #[.int .i64 id] 3, .cells #[.int .i64 0, .int .i64 0, .int .i64 0, .int .i64 0, .int .i64 0, .int .i64 0, .int .i64 0] 67] X; simp at this ⊢; omega)).trans (hq1 X 0)))
  have hfi := idxF_find (fun t : GType => t.id == id) r.types
  clear hq1
  obtain ⟨i, hi⟩ : ∃ i, i = idxF (fun t : GType => t.id == id) r.types := ⟨_, rfl⟩
  rw [← hi] at HI hfi
  clear hi
  rcases hfi with ⟨rfl, hn⟩ | ⟨i, x, rfl, hlt, hx, hn⟩
  · have HT := Lib.hid (show typeById r id = (⟨0, 0, 0, 0, 0, 0, 0⟩, false) by unfold typeById; rw [hn])
    clear hn
    go_enter Tryz.func90, Tryz.ntmps90
    go_wp2_with fail
    refine (HI.out (Ext.here _ _)).mono ?_
    rintro e w2 ⟨rfl, Y, rfl⟩
    go_wp2
    refine bodyPost_ret (v := .tuple #[.agg #[.int .i64 0, .int .i64 0, .int .i64 0, .int .i64 0, .int .i64 0, .int .i64 0, .int .i64 0], .bool false]) (by simp [results, Tryz.results90, go_sem, hq2, hf2]) rfl ⟨by rw [HT.out], ?_⟩
    have := HL.out Y
    (repeat' (first | with_reducible exact Below.refl _ _ | with_reducible assumption | with_reducible refine Below.drew ?_ | with_reducible refine Below.alloc ?_ ?_ _ | with_reducible refine Below.setCell ?_ ?_ _ | with_reducible refine below_drewN ?_ _ | (simp; done) | (simp; omega)))
  · have HT := Lib.hid (show typeById r id = (x, true) by unfold typeById; rw [hn])
    obtain ⟨b, off, x', rfl, hb, hx', hc⟩ := H2.out.flatX HL.out i hlt
    rw [hx] at hx'
    cases hx'
    have hc0 := hc 0 _ rfl
    have hc1 := hc 1 _ rfl
    have hc2 := hc 2 _ rfl
    have hc3 := hc 3 _ rfl
    have hc4 := hc 4 _ rfl
    have hc5 := hc 5 _ rfl
    have hc6 := hc 6 _ rfl
    simp only [Nat.add_zero] at hc0
    clear hc hn hx
    go_enter Tryz.func90, Tryz.ntmps90
    go_wp2_with fail
    refine (HI.out (Ext.here _ _)).mono ?_
    rintro e w2 ⟨rfl, Y, rfl⟩
    go_wp2
    refine bodyPost_ret (v := .tuple #[x.val, .bool true]) (by simp [results, Tryz.results90, go_sem, hq2, hf2]) rfl ⟨by rw [HT.out], ?_⟩
    have := HL.out Y
    (repeat' (first | with_reducible exact Below.refl _ _ | with_reducible assumption | with_reducible refine Below.drew ?_ | with_reducible refine Below.alloc ?_ ?_ _ | with_reducible refine Below.setCell ?_ ?_ _ | with_reducible refine below_drewN ?_ _ | (simp; done) | (simp; omega)))
set_option maxHeartbeats 1000000 in
theorem iMasterOf_any (v : Value) (r : Request) (w : World) (h : RReq 16777216 w w.heap.size v r) :
    Calls Tryz.prog 79 #[v] w fun e w' => e = .returned (.tuple #[(masterOf r).1.val, .bool (masterOf r).2]) ∧ Below w.heap.size w w' := by
  have HR := Lib.hid h
  obtain ⟨A1, c1, A2, c2, A3, c3, rfl, _, _⟩ := h.opn
  have hq0 := lay_box0 w [.cells #[.int .i64 r.way, .int .i64 r.pallet.w, .int .i64 r.pallet.d, .int .i64 r.pallet.h, .int .i64 r.pallet.gram, .int .i64 r.classes, .slice A1 r.pairs.length c1, .slice A2 r.types.length c2, .int .i64 r.master, .slice A3 r.items.length c3] 37, .cells #[.int .i64 0, .int .i64 0, .int .i64 0, .int .i64 0, .int .i64 0, .int .i64 0, .int .i64 0] 67] _ _ rfl
  have hq1 := lay_box w [.cells #[.int .i64 r.way, .int .i64 r.pallet.w, .int .i64 r.pallet.d, .int .i64 r.pallet.h, .int .i64 r.pallet.gram, .int .i64 r.classes, .slice A1 r.pairs.length c1, .slice A2 r.types.length c2, .int .i64 r.master, .slice A3 r.items.length c3] 37, .cells #[.int .i64 0, .int .i64 0, .int .i64 0, .int .i64 0, .int .i64 0, .int .i64 0, .int .i64 0] 67] 1 _ _ rfl
  have hf1 := lay_free w [.cells #[.int .i64 r.way, .int .i64 r.pallet.w, .int .i64 r.pallet.d, .int .i64 r.pallet.h, .int .i64 r.pallet.gram, .int .i64 r.classes, .slice A1 r.pairs.length c1, .slice A2 r.types.length c2, .int .i64 r.master, .slice A3 r.items.length c3] 37, .cells #[.int .i64 0, .int .i64 0, .int .i64 0, .int .i64 0, .int .i64 0, .int .i64 0, .int .i64 0] 67] 1 _ _ rfl
  have HL := Lib.hid (lay_low w [.cells #[.int .i64 r.way, .int .i64 r.pallet.w, .int .i64 r.pallet.d, .int .i64 r.pallet.h, .int .i64 r.pallet.gram, .int .i64 r.classes, .slice A1 r.pairs.length c1, .slice A2 r.types.length c2, .int .i64 r.master, .slice A3 r.items.length c3] 37, .cells #[.int .i64 0, .int .i64 0, .int .i64 0, .int .i64 0, .int .i64 0, .int .i64 0, .int .i64 0] 67])
  have HC := extC (lay_le w [.cells #[.int .i64 r.way, .int .i64 r.pallet.w, .int .i64 r.pallet.d, .int .i64 r.pallet.h, .int .i64 r.pallet.gram, .int .i64 r.classes, .slice A1 r.pairs.length c1, .slice A2 r.types.length c2, .int .i64 r.master, .slice A3 r.items.length c3] 37, .cells #[.int .i64 0, .int .i64 0, .int .i64 0, .int .i64 0, .int .i64 0, .int .i64 0, .int .i64 0] 67]) fun X => typeById_any _ r r.master X.world (HR.out.next (HL.out X))
  obtain ⟨m, hm⟩ : ∃ m, m = masterOf r := ⟨_, rfl⟩
  rw [show typeById r r.master = m from hm.symm] at HC
  rw [← hm]
  obtain ⟨x, ok⟩ := m
  go_enter Tryz.func79, Tryz.ntmps79
  go_wp2_with fail
  refine (HC.out (Ext.here _ _)).mono ?_
  rintro e w2 ⟨rfl, Y, rfl⟩
  go_wp2
  refine bodyPost_ret (v := .tuple #[x.val, .bool ok]) (by simp [results, Tryz.results79, go_sem, hq1, hf1]) rfl ⟨rfl, ?_⟩
  have := HL.out Y
  (repeat' (first | with_reducible exact Below.refl _ _ | with_reducible assumption | with_reducible refine Below.drew ?_ | with_reducible refine Below.alloc ?_ ?_ _ | with_reducible refine Below.setCell ?_ ?_ _ | with_reducible refine below_drewN ?_ _ | (simp; done) | (simp; omega)))
set_option maxHeartbeats 1000000 in
theorem sMasterOf_any (v : Value) (r : Request) (w : World) (h : RReq 16777216 w w.heap.size v r) :
    Calls Tryz.prog 55 #[v] w fun e w' => e = .returned (.tuple #[(masterOf r).1.val, .bool (masterOf r).2]) ∧ Below w.heap.size w w' := by
  obtain ⟨A1, c1, A2, c2, A3, c3, rfl, ⟨_, H2, _⟩, _, hbt, _⟩ := h.opn
  have hq0 := lay_box0 w [.cells #[.int .i64 r.way, .int .i64 r.pallet.w, .int .i64 r.pallet.d, .int .i64 r.pallet.h, .int .i64 r.pallet.gram, .int .i64 r.classes, .slice A1 r.pairs.length c1, .slice A2 r.types.length c2, .int .i64 r.master, .slice A3 r.items.length c3] 37, .cells #[.int .i64 0, .int .i64 0, .int .i64 0, .int .i64 0, .int .i64 0, .int .i64 0, .int .i64 0] 67] _ _ rfl
  have hq1 := lay_box w [.cells #[.int .i64 r.way, .int .i64 r.pallet.w, .int .i64 r.pallet.d, .int .i64 r.pallet.h, .int .i64 r.pallet.gram, .int .i64 r.classes, .slice A1 r.pairs.length c1, .slice A2 r.types.length c2, .int .i64 r.master, .slice A3 r.items.length c3] 37, .cells #[.int .i64 0, .int .i64 0, .int .i64 0, .int .i64 0, .int .i64 0, .int .i64 0, .int .i64 0] 67] 1 _ _ rfl
  have hf1 := lay_free w [.cells #[.int .i64 r.way, .int .i64 r.pallet.w, .int .i64 r.pallet.d, .int .i64 r.pallet.h, .int .i64 r.pallet.gram, .int .i64 r.classes, .slice A1 r.pairs.length c1, .slice A2 r.types.length c2, .int .i64 r.master, .slice A3 r.items.length c3] 37, .cells #[.int .i64 0, .int .i64 0, .int .i64 0, .int .i64 0, .int .i64 0, .int .i64 0, .int .i64 0] 67] 1 _ _ rfl
  have HL := Lib.hid (lay_low w [.cells #[.int .i64 r.way, .int .i64 r.pallet.w, .int .i64 r.pallet.d, .int .i64 r.pallet.h, .int .i64 r.pallet.gram, .int .i64 r.classes, .slice A1 r.pairs.length c1, .slice A2 r.types.length c2, .int .i64 r.master, .slice A3 r.items.length c3] 37, .cells #[.int .i64 0, .int .i64 0, .int .i64 0, .int .i64 0, .int .i64 0, .int .i64 0, .int .i64 0] 67])
  go_enter Tryz.func55, Tryz.ntmps55
  go_wp2
  go_loopw [4] (fun i wr => ∃ (k : Nat) (X : Ext (w.heap.size + 2) (lay w [.cells #[.int .i64 r.way, .int .i64 r.pallet.w, .int .i64 r.pallet.d, .int .i64 r.pallet.h, .int .i64 r.pallet.gram, .int .i64 r.classes, .slice A1 r.pairs.length c1, .slice A2 r.types.length c2, .int .i64 r.master, .slice A3 r.items.length c3] 37, .cells #[.int .i64 0, .int .i64 0, .int .i64 0, .int .i64 0, .int .i64 0, .int .i64 0, .int .i64 0] 67])), wr = X.world ∧ k ≤ r.types.length ∧ i = .int .i64 k ∧ (r.types.drop k).find? (fun t => t.id == r.master) = r.types.find? (fun t => t.id == r.master)) (fun i _ => r.types.length - (intOf i).toNat)
  case atStart => exact ⟨0, Ext.here _ _, rfl, Nat.zero_le _, rfl, rfl⟩
  case round =>
    obtain ⟨k, X, rfl, hk, rfl, hin⟩ := hrel
    by_cases hlt : k < r.types.length
    · obtain ⟨b, off, x, rfl, hb, hx, hc⟩ := H2.out.flatX HL.out k hlt
      have hc0 := hc 0 _ rfl
      have hc1 := hc 1 _ rfl
      have hc2 := hc 2 _ rfl
      have hc3 := hc 3 _ rfl
      have hc4 := hc 4 _ rfl
      have hc5 := hc 5 _ rfl
      have hc6 := hc 6 _ rfl
      simp only [Nat.add_zero] at hc0
      obtain ⟨hl0, hl1⟩ : (0 : Int) ≤ (k : Int) ∧ (k : Int) < (r.types.length : Int) := by omega
      have HD := Lib.hid (show r.types.find? (fun t => t.id == r.master) = if (x.id == r.master) = true then some x else (r.types.drop (k + 1)).find? (fun t => t.id == r.master) by rw [← hin, dropC hx]; cases hq : (x.id == r.master) <;> simp [List.find?_cons, hq])
      clear hc hin
      go_wp2
      refine wp_region_in (by kernel_rfl) (by kernel_rfl) ?_
      repeat (go_big_quiet_step (fail))
      refine wpQuiet_nil ?_
      intro _ hw'
      obtain ⟨Y, rfl⟩ := hw'
      go_wp2
      all_goals first
        | (refine bodyPost_ret (v := .tuple #[x.val, .bool true]) (by simp [results, Tryz.results55, go_sem, hq1, hf1]) rfl ⟨?_, ?_⟩
           · rw [show masterOf r = (x, true) by unfold masterOf typeById; rw [HD.out, if_pos (by simp [*])]]
           · have := HL.out Y
             (repeat' (first | with_reducible exact Below.refl _ _ | with_reducible assumption | with_reducible refine Below.drew ?_ | with_reducible refine Below.alloc ?_ ?_ _ | with_reducible refine Below.setCell ?_ ?_ _ | with_reducible refine below_drewN ?_ _ | (simp; done) | (simp; omega))))
        | (go_roundw; (case rel => exact ⟨k + 1, Y, rfl, hlt, by go_num, by rw [HD.out, if_neg (by simp [*])]⟩); (case measure => (simp [intOf]; omega)))
    · have HD := Lib.hid (show r.types.find? (fun t => t.id == r.master) = none by rw [← hin, List.drop_of_length_le (by omega)]; rfl)
      clear hin
      go_wp2
      refine bodyPost_ret (v := .tuple #[.agg #[.int .i64 0, .int .i64 0, .int .i64 0, .int .i64 0, .int .i64 0, .int .i64 0, .int .i64 0], .bool false]) (by simp [results, Tryz.results55, go_sem, hq1, hf1]) rfl ⟨?_, ?_⟩
      · rw [show masterOf r = (⟨0, 0, 0, 0, 0, 0, 0⟩, false) by unfold masterOf typeById; rw [HD.out]]
      · have := HL.out X
        (repeat' (first | with_reducible exact Below.refl _ _ | with_reducible assumption | with_reducible refine Below.drew ?_ | with_reducible refine Below.alloc ?_ ?_ _ | with_reducible refine Below.setCell ?_ ?_ _ | with_reducible refine below_drewN ?_ _ | (simp; done) | (simp; omega)))
end Go.Proofs.YteamlfcfillbjaaGreat
