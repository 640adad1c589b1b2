/-
  TypeById and BoxesOk: the reference's walks.
-/
import Derived.Test.YtioijfplbgpjpaaGreatKm06
import Derived.Deep.RegionHeld3
import Derived.Deep.DeepCutAuto
import Derived.Deep.RegionLaw
import Derived.Deep.RegionWith
import Derived.StillTailTactics
import Derived.Test.YtioijfplbgpjpaaGreatKm02
namespace Go.Proofs.YtioijfplbgpjpaaGreat
set_option linter.unusedVariables false
set_option linter.unusedSimpArgs false
set_option maxRecDepth 100000
open Go.RowKit Go.WideShapes Go.ChangeShapes Go.ChangeAt Go.Deep
set_option maxHeartbeats 1000000 in
theorem sTypeById_any (v : Value) (r : Request) (id : Int) (w : World) (h : RReq 16777216 w w.heap.size v r) :
    Calls Tryz.prog 167 #[v, .int .i64 id] w fun e w' => e = .returned (.tuple #[(typeById r id).1.val, .bool (typeById r id).2]) ∧ Below w.heap.size w w' := by
  obtain ⟨A1, c1, A2, c2, A3, c3, rfl, ⟨_, H2, _⟩, _, hbt, _⟩ := h.opn
  have hq0 := lay_box0 w [.cells #[.int .i64 r.way, .int .i64 r.pallet.w, .int .i64 r.pallet.d, .int .i64 r.pallet.h, .int .i64 r.pallet.gram, .int .i64 r.classes, .slice A1 r.pairs.length c1, .slice A2 r.types.length c2, .int .i64 r.master, .slice A3 r.items.length c3] 41, .cells #[.int .i64 0, .int .i64 0, .int .i64 0, .int .i64 0, .int .i64 0, .int .i64 0, .int .i64 0] 142] _ _ rfl
  have hq1 := lay_box w [.cells #[.int .i64 r.way, .int .i64 r.pallet.w, .int .i64 r.pallet.d, .int .i64 r.pallet.h, .int .i64 r.pallet.gram, .int .i64 r.classes, .slice A1 r.pairs.length c1, .slice A2 r.types.length c2, .int .i64 r.master, .slice A3 r.items.length c3] 41, .cells #[.int .i64 0, .int .i64 0, .int .i64 0, .int .i64 0, .int .i64 0, .int .i64 0, .int .i64 0] 142] 1 _ _ rfl
  have hf1 := lay_free w [.cells #[.int .i64 r.way, .int .i64 r.pallet.w, .int .i64 r.pallet.d, .int .i64 r.pallet.h, .int .i64 r.pallet.gram, .int .i64 r.classes, .slice A1 r.pairs.length c1, .slice A2 r.types.length c2, .int .i64 r.master, .slice A3 r.items.length c3] 41, .cells #[.int .i64 0, .int .i64 0, .int .i64 0, .int .i64 0, .int .i64 0, .int .i64 0, .int .i64 0] 142] 1 _ _ rfl
  have HL := Lib.hid (lay_low w [.cells #[.int .i64 r.way, .int .i64 r.pallet.w, .int .i64 r.pallet.d, .int .i64 r.pallet.h, .int .i64 r.pallet.gram, .int .i64 r.classes, .slice A1 r.pairs.length c1, .slice A2 r.types.length c2, .int .i64 r.master, .slice A3 r.items.length c3] 41, .cells #[.int .i64 0, .int .i64 0, .int .i64 0, .int .i64 0, .int .i64 0, .int .i64 0, .int .i64 0] 142])
  go_enter Tryz.func167, Tryz.ntmps167
  go_wp2
  go_loopw [6] (fun i wr => ∃ (k : Nat) (X : Ext (w.heap.size + 2) (lay w [.cells #[.int .i64 r.way, .int .i64 r.pallet.w, .int .i64 r.pallet.d, .int .i64 r.pallet.h, .int .i64 r.pallet.gram, .int .i64 r.classes, .slice A1 r.pairs.length c1, .slice A2 r.types.length c2, .int .i64 r.master, .slice A3 r.items.length c3] 41, .cells #[.int .i64 0, .int .i64 0, .int .i64 0, .int .i64 0, .int .i64 0, .int .i64 0, .int .i64 0] 142])), wr = X.world ∧ k ≤ r.types.length ∧ i = .int .i64 k ∧ (r.types.drop k).find? (fun t => t.id == id) = r.types.find? (fun t => t.id == id)) (fun i _ => r.types.length - (intOf i).toNat)
  case atStart => exact ⟨0, Ext.here _ _, rfl, Nat.zero_le _, rfl, rfl⟩
  case round =>
    obtain ⟨k, X, rfl, hk, rfl, hin⟩ := hrel
    by_cases hlt : k < r.types.length
    · obtain ⟨b, off, x, rfl, hb, hx, hc⟩ := H2.out.flatX HL.out k hlt
      have hc0 := hc 0 _ rfl
      have hc1 := hc 1 _ rfl
      have hc2 := hc 2 _ rfl
      have hc3 := hc 3 _ rfl
      have hc4 := hc 4 _ rfl
      have hc5 := hc 5 _ rfl
      have hc6 := hc 6 _ rfl
      simp only [Nat.add_zero] at hc0
      obtain ⟨hl0, hl1⟩ : (0 : Int) ≤ (k : Int) ∧ (k : Int) < (r.types.length : Int) := by omega
      have HD := Lib.hid (show r.types.find? (fun t => t.id == id) = if (x.id == id) = true then some x else (r.types.drop (k + 1)).find? (fun t => t.id == id) by rw [← hin, dropC hx]; cases hq : (x.id == id) <;> simp [List.find?_cons, hq])
      clear hc hin
      go_wp2
      all_goals first
        | (refine bodyPost_ret (v := .tuple #[x.val, .bool true]) (by simp [results, Tryz.results167, go_sem, hq1, hf1]) rfl ⟨?_, ?_⟩
           · rw [show typeById r id = (x, true) by unfold typeById; rw [HD.out, if_pos (by simp [*])]]
           · have := HL.out X
             (repeat' (first | with_reducible exact Below.refl _ _ | with_reducible assumption | with_reducible refine Below.drew ?_ | with_reducible refine Below.alloc ?_ ?_ _ | with_reducible refine Below.setCell ?_ ?_ _ | with_reducible refine below_drewN ?_ _ | (simp; done) | (simp; omega))))
        | (go_roundw; (case rel => exact ⟨k + 1, X, rfl, hlt, by go_num, by rw [HD.out, if_neg (by simp [*])]⟩); (case measure => (simp [intOf]; omega)))
    · have HD := Lib.hid (show r.types.find? (fun t => t.id == id) = none by rw [← hin, List.drop_of_length_le (by omega)]; rfl)
      clear hin
      go_wp2
      refine bodyPost_ret (v := .tuple #[.agg #[.int .i64 0, .int .i64 0, .int .i64 0, .int .i64 0, .int .i64 0, .int .i64 0, .int .i64 0], .bool false]) (by simp [results, Tryz.results167, go_sem, hq1, hf1]) rfl ⟨?_, ?_⟩
      · rw [show typeById r id = (⟨0, 0, 0, 0, 0, 0, 0⟩, false) by unfold typeById; rw [HD.out]]
      · have := HL.out X
        (repeat' (first | with_reducible exact Below.refl _ _ | with_reducible assumption | with_reducible refine Below.drew ?_ | with_reducible refine Below.alloc ?_ ?_ _ | with_reducible refine Below.setCell ?_ ?_ _ | with_reducible refine below_drewN ?_ _ | (simp; done) | (simp; omega)))
set_option maxRecDepth 100000 in
set_option maxHeartbeats 1000000 in
theorem sBoxesOk_any (p : Pallet) (v : Value) (ss : List Box) (w : World) (h : RL 16777216 4 (flat Box.cells) w w.heap.size v ss) : Calls Tryz.prog 234 #[p.val, v] w fun e w' => e = .returned (.bool (boxesOk p ss)) ∧ Below w.heap.size w w' := by
 have HS := Lib.hid h
 obtain ⟨E, e, rfl, hbd, _⟩ := h
 have SN := Lib.hid ((Sit.here w).alloc #[.int .i64 p.w, .int .i64 p.d, .int .i64 p.h, .int .i64 p.gram] 36)
 obtain ⟨bp, hbp⟩ : ∃ b, palletOk p = b := ⟨_, rfl⟩
 have HBP := Lib.hid hbp
 have HM := Lib.hid (show boxesOk p ss = (bp && ss.all (boxOk p)) by unfold boxesOk; rw [hbp])
 clear hbp
 go_enter Tryz.func234, Tryz.ntmps234
 have k0 := SN.out.box (.head _)
 go_wp2_with fail
 refine (sPalletOk_any p _).mono ?_
 rintro e1 w1 ⟨rfl, hb1⟩
 rw [HBP.out]
 have SN := Lib.hid (SN.out.next hb1)
 clear k0 hb1
 cases bp
 ·go_wp2
  go_ret
  exact ⟨by rw [HM.out]; rfl, SN.out.low⟩
 ·go_wp2
  go_loopw [5] (fun i wr => ∃ (k : Nat), k ≤ ss.length ∧ i = .int .i64 k ∧ Hid ((ss.drop k).all (boxOk p) = boxesOk p ss) ∧ Hid (Sit w wr [fBox w.heap.size #[.int .i64 p.w, .int .i64 p.d, .int .i64 p.h, .int .i64 p.gram] 36])) (fun i _ => ss.length - (intOf i).toNat)
  case atStart => exact ⟨0, Nat.zero_le _, rfl, Lib.hid (by rw [HM.out]; rfl), SN⟩
  case round =>
   clear SN
   obtain ⟨k, hk, rfl, HD, SN⟩ := hrel
   by_cases hlt : k < ss.length
   ·obtain ⟨b, off, x, _, rfl, hb, hx, _, rfl, hc⟩ := (HS.out.next (flat_mono _) SN.out.low).at_ k hlt
    have hc0 := hc 0 _ rfl; have hc1 := hc 1 _ rfl; have hc2 := hc 2 _ rfl; have hc3 := hc 3 _ rfl; simp only [Nat.add_zero] at hc0
    have k0 := SN.out.box (.head _)
    have l0 := SN.out.boxlt (.head _)
    obtain ⟨f1, h1⟩ : ∃ f, inB x.w 1 p.w = f := ⟨_, rfl⟩
    obtain ⟨f2, h2⟩ : ∃ f, inB x.d 1 p.d = f := ⟨_, rfl⟩
    obtain ⟨f3, h3⟩ : ∃ f, inB x.h 1 p.h = f := ⟨_, rfl⟩
    obtain ⟨f4, h4⟩ : ∃ f, inB x.gram 1 p.gram = f := ⟨_, rfl⟩
    have HST := Lib.hid (show (ss.drop k).all (boxOk p) = ((f1 && f2 && f3 && f4) && (ss.drop (k + 1)).all (boxOk p)) by rw [drop_cons hx, List.all_cons]; unfold boxOk; rw [h1, h2, h3, h4])
    have H1 := Lib.hid h1
    have H2 := Lib.hid h2
    have H3 := Lib.hid h3
    have H4 := Lib.hid h4
    have SM := Lib.hid (SN.out.alloc #[.int .i64 x.w, .int .i64 x.d, .int .i64 x.h, .int .i64 x.gram] 75)
    clear hc hx h1 h2 h3 h4
    cases f1 <;> cases f2 <;> cases f3 <;> cases f4
    all_goals go_wp2_with (go_at_call 104; refine (l1In_any _ _ _ _).mono ?_; rintro e w' ⟨rfl, rfl⟩; first | rw [H1.out] | rw [H2.out] | rw [H3.out] | rw [H4.out])
    all_goals first | (go_ret; exact ⟨by rw [← HD.out, HST.out]; rfl, SM.out.low⟩) | go_roundw
    all_goals first | (case rel => exact ⟨k + 1, hlt, by go_num, Lib.hid (by rw [← HD.out, HST.out]; simp), Lib.hid SM.out.drop⟩) | (case measure => simp [intOf] <;> omega)
   ·have HE := Lib.hid (show boxesOk p ss = true by rw [← HD.out, List.drop_eq_nil_of_le (by omega)]; rfl)
    go_wp2
    go_ret
    exact ⟨by rw [HE.out]; rfl, SN.out.low⟩
end Go.Proofs.YtioijfplbgpjpaaGreat
namespace Go.Proofs.YtioijfplbgpjpaaGreat
set_option linter.unusedVariables false
set_option linter.unusedSimpArgs false
set_option maxRecDepth 100000
open Go.RowKit Go.WideShapes Go.ChangeShapes Go.ChangeAt Go.Deep
set_option maxRecDepth 100000 in
set_option maxHeartbeats 1000000 in
theorem sGramOf_any (v vu : Value) (r : Request) (us : List Int) (w : World) (h : RReq 16777216 w w.heap.size v r) (hu : RInts 16777216 w w.heap.size vu us) : Calls Tryz.prog 239 #[v, vu] w fun e w' => e = .returned (.int .i64 (gramOf r us)) ∧ Below w.heap.size w w' := by
 have HR := Lib.hid h
 have HU := Lib.hid hu
 have HI := Lib.hid (show ∀ (i : Nat) (n : Int), (unitsC r)[i]? = some n → 0 ≤ n ∧ n.toNat < r.items.length from fun i n hn => by
  unfold unitsC at hn
  split at hn
  ·have := units_item hn; exact ⟨this.1, this.2.2⟩
  ·simp at hn)
 have hcl : (unitsC r).length ≤ 12 := by
  unfold unitsC
  split
  ·rename_i hs; exact (right_of hs).nunits
  ·simp
 obtain ⟨A1, c1, A2, c2, A3, c3, rfl, _⟩ := h.opn
 obtain ⟨E, e, rfl, hbd, _⟩ := hu
 have SN := Lib.hid ((Sit.here w).alloc #[.int .i64 r.way, .int .i64 r.pallet.w, .int .i64 r.pallet.d, .int .i64 r.pallet.h, .int .i64 r.pallet.gram, .int .i64 r.classes, .slice A1 r.pairs.length c1, .slice A2 r.types.length c2, .int .i64 r.master, .slice A3 r.items.length c3] 41)
 clear h
 go_enter Tryz.func239, Tryz.ntmps239
 have k0 := SN.out.box (.head _)
 have l0 := SN.out.boxlt (.head _)
 go_wp2_with fail
 refine (unitsC_any _ r _ (HR.out.next SN.out.low)).mono ?_
 intro e1 w1 hm
 obtain ⟨v1, fp, rfl, hS⟩ := SN.out.gotInts hm
 obtain ⟨D, d, rfl, _⟩ := (hS.list (.head _)).form
 have SN := Lib.hid hS
 clear k0 l0 hS hm
 go_wp2
 go_loopw [6, 7] (fun n i wr => ∃ (k : Nat), k ≤ us.length ∧ i = .int .i64 k ∧ n = .int .i64 ((us.take k).foldl (gramStep r) 0) ∧ Hid (Sit w wr [fOF cI 3 1 w.heap.size (.slice D (unitsC r).length d) (unitsC r) fp, fBox w.heap.size #[.int .i64 r.way, .int .i64 r.pallet.w, .int .i64 r.pallet.d, .int .i64 r.pallet.h, .int .i64 r.pallet.gram, .int .i64 r.classes, .slice A1 r.pairs.length c1, .slice A2 r.types.length c2, .int .i64 r.master, .slice A3 r.items.length c3] 41])) (fun _ i _ => us.length - (intOf i).toNat)
 case atStart => exact ⟨0, Nat.zero_le _, rfl, rfl, SN⟩
 case round =>
  clear SN
  obtain ⟨k, hk, rfl, rfl, SN⟩ := hrel
  by_cases hlt : k < us.length
  ·obtain ⟨b, off, u, rfl, hb, hx, hc⟩ := HU.out.at1 k hlt
   have hc0 := hc _ rfl
   have HCK := Lib.hid (show ∀ X : World, Below w.heap.size w X → X.cell? ⟨b, off + k, none⟩ = some (.int .i64 u) from fun X hX => (hX.cell (p := ⟨b, off + k, none⟩) hb).trans hc0)
   have HS := Lib.hid (foldl_take_step (f := gramStep r) (b := 0) hx)
   obtain ⟨G, hG⟩ : ∃ G, (us.take k).foldl (gramStep r) 0 = G := ⟨_, rfl⟩
   obtain ⟨q, hq⟩ : ∃ q, itemOf r (unitsC r) u = q := ⟨_, rfl⟩
   have HQ := Lib.hid hq
   have HG := Lib.hid (show gramStep r G u = wrap64 (G + q.1.gram) by unfold gramStep; rw [hq])
   rw [hG] at HS ⊢
   clear hc hc0 hx hG hq
   go_upto_region 6 with fail
   go_cut [8, 9] (fun v8 v9 X => ∃ g8, v8 = .pointer (some ⟨g8, 0, none⟩) ∧ v9 = .bool q.2 ∧ Hid (Sit w X [fBox g8 #[.int .i64 q.1.id, .int .i64 q.1.w, .int .i64 q.1.h, .int .i64 q.1.d, .int .i64 q.1.gram, .int .i64 q.1.cls, .int .i64 q.1.count] 152, fOF cI 3 1 w.heap.size (.slice D (unitsC r).length d) (unitsC r) fp, fBox w.heap.size #[.int .i64 r.way, .int .i64 r.pallet.w, .int .i64 r.pallet.d, .int .i64 r.pallet.h, .int .i64 r.pallet.gram, .int .i64 r.classes, .slice A1 r.pairs.length c1, .slice A2 r.types.length c2, .int .i64 r.master, .slice A3 r.items.length c3] 41]))
   case first =>
    have HCC := Lib.hid (show ∀ X : World, Below wr.heap.size wr X → (X.cell? ⟨w.heap.size, 0, none⟩ = some (.int .i64 r.way) ∧ X.cell? ⟨w.heap.size, 1, none⟩ = some (.int .i64 r.pallet.w) ∧ X.cell? ⟨w.heap.size, 2, none⟩ = some (.int .i64 r.pallet.d) ∧ X.cell? ⟨w.heap.size, 3, none⟩ = some (.int .i64 r.pallet.h) ∧ X.cell? ⟨w.heap.size, 4, none⟩ = some (.int .i64 r.pallet.gram) ∧ X.cell? ⟨w.heap.size, 5, none⟩ = some (.int .i64 r.classes) ∧ X.cell? ⟨w.heap.size, 6, none⟩ = some (.slice A1 r.pairs.length c1) ∧ X.cell? ⟨w.heap.size, 7, none⟩ = some (.slice A2 r.types.length c2) ∧ X.cell? ⟨w.heap.size, 8, none⟩ = some (.int .i64 r.master) ∧ X.cell? ⟨w.heap.size, 9, none⟩ = some (.slice A3 r.items.length c3)) ∧ X.cell? ⟨b, off + k, none⟩ = some (.int .i64 u) from fun X hX => by
     have hX := SN.out.next hX
     have c0 := hX.box (.tail _ (.head _))
     exact ⟨⟨c0 0, c0 1, c0 2, c0 3, c0 4, c0 5, c0 6, c0 7, c0 8, c0 9⟩, HCK.out _ hX.low⟩)
    go_region_held3 (fun W' => ((W'.cell? ⟨w.heap.size, 0, none⟩ = some (.int .i64 r.way) ∧ W'.cell? ⟨w.heap.size, 1, none⟩ = some (.int .i64 r.pallet.w) ∧ W'.cell? ⟨w.heap.size, 2, none⟩ = some (.int .i64 r.pallet.d) ∧ W'.cell? ⟨w.heap.size, 3, none⟩ = some (.int .i64 r.pallet.h) ∧ W'.cell? ⟨w.heap.size, 4, none⟩ = some (.int .i64 r.pallet.gram) ∧ W'.cell? ⟨w.heap.size, 5, none⟩ = some (.int .i64 r.classes) ∧ W'.cell? ⟨w.heap.size, 6, none⟩ = some (.slice A1 r.pairs.length c1) ∧ W'.cell? ⟨w.heap.size, 7, none⟩ = some (.slice A2 r.types.length c2) ∧ W'.cell? ⟨w.heap.size, 8, none⟩ = some (.int .i64 r.master) ∧ W'.cell? ⟨w.heap.size, 9, none⟩ = some (.slice A3 r.items.length c3))) ∧ W'.cell? ⟨b, off + k, none⟩ = some (.int .i64 u)) (first | (refine HCC.out _ ?_; (repeat' (first | with_reducible exact Below.refl _ _ | with_reducible assumption | with_reducible refine Below.drew ?_ | with_reducible refine Below.alloc ?_ ?_ _ | with_reducible refine Below.setCell ?_ ?_ _ | with_reducible refine Below.setW ?_ _ _ _ ?_ | omega | (simp; done) | (simp; omega))); done) | go_keep) (first | (go_at_call 255; (try (first | refine calls_new ?_ | refine calls_newd ?_); intro hg); refine (l6Item_any _ _ r _ u _ (HR.out.next (SN.out.next (by (repeat' (first | with_reducible exact Below.refl _ _ | with_reducible assumption | with_reducible refine Below.drew ?_ | with_reducible refine Below.alloc ?_ ?_ _ | with_reducible refine Below.setCell ?_ ?_ _ | with_reducible refine Below.setW ?_ _ _ _ ?_ | omega | (simp; done) | (simp; omega))))).low) (OInts.read ((SN.out.next (by (repeat' (first | with_reducible exact Below.refl _ _ | with_reducible assumption | with_reducible refine Below.drew ?_ | with_reducible refine Below.alloc ?_ ?_ _ | with_reducible refine Below.setCell ?_ ?_ _ | with_reducible refine Below.setW ?_ _ _ _ ?_ | omega | (simp; done) | (simp; omega))))).list (.head _)) (by omega)) HI.out).mono ?_; rintro e w2 ⟨rfl, hb2⟩; rw [HQ.out]; have hn2 := bstep (a := wr) (by (repeat' (first | with_reducible exact Below.refl _ _ | with_reducible assumption | with_reducible refine Below.drew ?_ | with_reducible refine Below.alloc ?_ ?_ _ | with_reducible refine Below.setCell ?_ ?_ _ | with_reducible refine Below.setW ?_ _ _ _ ?_ | omega | (simp; done) | (simp; omega)))) hb2; have hz2 := hn2.size; have hj2 := hb2.size; (try simp only [World.size_alloc, World.size_drew] at hj2); have SE := Lib.hid ((SN.out.drew.alloc #[.int .i64 0, .int .i64 0, .int .i64 0, .int .i64 0, .int .i64 0, .int .i64 0, .int .i64 0] 152)); (first | (have SE := Lib.hid (SE.out.next hb2)) | skip); have SN := Lib.hid ((SN.out.next (by (repeat' (first | with_reducible exact Below.refl _ _ | with_reducible assumption | with_reducible refine Below.drew ?_ | with_reducible refine Below.alloc ?_ ?_ _ | with_reducible refine Below.setCell ?_ ?_ _ | with_reducible refine Below.setW ?_ _ _ _ ?_ | omega | (simp; done) | (simp; omega))))).next hb2); (try (have hg := blk_next hg hb2; have hgc := fun j => cell_of_row _ _ j _ _ (0, 0) hg; have hgf := fun j => frozen_of_row _ _ j _ _ hg; have hgl := lt_of_block hg))))
    all_goals (go_wp2_with fail; go_meet)
    ·exact ⟨_, rfl, rfl, Lib.hid (SN.out.alloc _ _)⟩
    all_goals exact ⟨_, rfl, rfl, Lib.hid (SE.out.overL [.int .i64 q.1.id, .int .i64 q.1.w, .int .i64 q.1.h, .int .i64 q.1.d, .int .i64 q.1.gram, .int .i64 q.1.cls, .int .i64 q.1.count] 0)⟩
   case rest =>
    obtain ⟨g8, rfl, rfl, SN2⟩ := hcut
    have SN := SN2
    clear SN2
    have k8 := SN.out.box (.head _)
    go_wp2
    go_roundw
    case rel => exact ⟨k + 1, hlt, by go_num, by rw [HS.out, HG.out], Lib.hid SN.out.drop⟩
    case measure => simp [intOf] <;> omega
  ·obtain rfl : k = us.length := by omega
   have HM := Lib.hid (show (us.take us.length).foldl (gramStep r) 0 = gramOf r us by rw [List.take_length]; rfl)
   go_wp2
   go_ret
   exact ⟨by rw [HM.out]; rfl, SN.out.low⟩
end Go.Proofs.YtioijfplbgpjpaaGreat
namespace Go.Proofs.YtioijfplbgpjpaaGreat
set_option linter.unusedVariables false
set_option linter.unusedSimpArgs false
set_option maxRecDepth 100000
open Go.RowKit Go.WideShapes Go.ChangeShapes Go.ChangeAt Go.Deep
theorem still_of {P : Program} {f : FuncId} {args : Array Value} {w : World} {v : Value} (h : Calls P f args w fun e w' => e = .returned v ∧ w = w') : Calls P f args w fun e w'' => e = .returned v ∧ w'' = w := h.mono (fun _ _ h => ⟨h.1, h.2.symm⟩)
set_option maxRecDepth 100000 in
set_option maxHeartbeats 1000000 in
theorem l7Of_any (v va vu : Value) (r : Request) (all us : List Int) (w : World) (h : RReq 16777216 w w.heap.size v r) (ha : RInts 16777216 w w.heap.size va all) (hu : RInts 16777216 w w.heap.size vu us) (hi : ∀ (i : Nat) (n : Int), all[i]? = some n → 0 ≤ n ∧ n.toNat < r.items.length) :
  Calls Tryz.prog 310 #[v, va, vu] w fun e w' => e = .returned (.agg #[.int .i64 (loadOf r all us).1, .int .i64 (loadOf r all us).2]) ∧ Below w.heap.size w w' := by
 have HR := Lib.hid h
 have HA := Lib.hid ha
 have HU := Lib.hid hu
 have HI := Lib.hid hi
 obtain ⟨A1, c1, A2, c2, A3, c3, rfl, _⟩ := h.opn
 obtain ⟨E, e, rfl, hbd, _⟩ := hu
 obtain ⟨D, d, rfl, hbda, _⟩ := ha
 have hS := (((Sit.here w).alloc #[.int .i64 r.way, .int .i64 r.pallet.w, .int .i64 r.pallet.d, .int .i64 r.pallet.h, .int .i64 r.pallet.gram, .int .i64 r.classes, .slice A1 r.pairs.length c1, .slice A2 r.types.length c2, .int .i64 r.master, .slice A3 r.items.length c3] 41).alloc #[.int .i64 0, .int .i64 0] 270).alloc #[.int .i64 0, .int .i64 0] 270
 simp only [World.size_alloc] at hS
 have SN := Lib.hid hS
 clear h hS hi
 go_enter Tryz.func310, Tryz.ntmps310
 go_wp2
 go_loopw [8] (fun i wr => ∃ (k : Nat), k ≤ us.length ∧ i = .int .i64 k ∧ Hid (Sit w wr [fBox (w.heap.size + 1 + 1) #[.int .i64 ((us.take k).foldl (loadStep r all) (0, 0)).1, .int .i64 ((us.take k).foldl (loadStep r all) (0, 0)).2] 270, fBox (w.heap.size + 1) #[.int .i64 0, .int .i64 0] 270, fBox w.heap.size #[.int .i64 r.way, .int .i64 r.pallet.w, .int .i64 r.pallet.d, .int .i64 r.pallet.h, .int .i64 r.pallet.gram, .int .i64 r.classes, .slice A1 r.pairs.length c1, .slice A2 r.types.length c2, .int .i64 r.master, .slice A3 r.items.length c3] 41])) (fun i _ => us.length - (intOf i).toNat)
 case atStart => exact ⟨0, Nat.zero_le _, rfl, SN⟩
 case round =>
  clear SN
  obtain ⟨k, hk, rfl, SN⟩ := hrel
  by_cases hlt : k < us.length
  ·obtain ⟨b, off, u, rfl, hb, hx, hc⟩ := HU.out.at1 k hlt
   have hc0 := hc _ rfl
   have HCK := Lib.hid (show ∀ X : World, Below w.heap.size w X → X.cell? ⟨b, off + k, none⟩ = some (.int .i64 u) from fun X hX => (hX.cell (p := ⟨b, off + k, none⟩) hb).trans hc0)
   have HS := Lib.hid (foldl_take_step (f := loadStep r all) (b := ((0 : Int), (0 : Int))) hx)
   obtain ⟨G, hG⟩ : ∃ G, (us.take k).foldl (loadStep r all) (0, 0) = G := ⟨_, rfl⟩
   obtain ⟨q, hq⟩ : ∃ q, itemOf r all u = q := ⟨_, rfl⟩
   have HQ := Lib.hid hq
   obtain ⟨vv, hvv⟩ : ∃ vv, vol q.1.w q.1.h q.1.d = vv := ⟨_, rfl⟩
   have HV := Lib.hid hvv
   have HG := Lib.hid (show loadStep r all G u = (wrap64 (G.1 + vv), wrap64 (G.2 + q.1.gram)) by unfold loadStep; rw [hq, hvv])
   rw [hG] at HS SN
   clear hc hc0 hx hG hq hvv
   go_upto_region 5 with fail
   go_cut [9, 10] (fun v8 v9 X => ∃ g8, v8 = .pointer (some ⟨g8, 0, none⟩) ∧ v9 = .bool q.2 ∧ Hid (Sit w X (fBox g8 #[.int .i64 q.1.id, .int .i64 q.1.w, .int .i64 q.1.h, .int .i64 q.1.d, .int .i64 q.1.gram, .int .i64 q.1.cls, .int .i64 q.1.count] 152 :: [fBox (w.heap.size + 1 + 1) #[.int .i64 G.1, .int .i64 G.2] 270, fBox (w.heap.size + 1) #[.int .i64 0, .int .i64 0] 270, fBox w.heap.size #[.int .i64 r.way, .int .i64 r.pallet.w, .int .i64 r.pallet.d, .int .i64 r.pallet.h, .int .i64 r.pallet.gram, .int .i64 r.classes, .slice A1 r.pairs.length c1, .slice A2 r.types.length c2, .int .i64 r.master, .slice A3 r.items.length c3] 41])))
   case first =>
    have HCC := Lib.hid (show ∀ X : World, Below wr.heap.size wr X → (X.cell? ⟨w.heap.size, 0, none⟩ = some (.int .i64 r.way) ∧ X.cell? ⟨w.heap.size, 1, none⟩ = some (.int .i64 r.pallet.w) ∧ X.cell? ⟨w.heap.size, 2, none⟩ = some (.int .i64 r.pallet.d) ∧ X.cell? ⟨w.heap.size, 3, none⟩ = some (.int .i64 r.pallet.h) ∧ X.cell? ⟨w.heap.size, 4, none⟩ = some (.int .i64 r.pallet.gram) ∧ X.cell? ⟨w.heap.size, 5, none⟩ = some (.int .i64 r.classes) ∧ X.cell? ⟨w.heap.size, 6, none⟩ = some (.slice A1 r.pairs.length c1) ∧ X.cell? ⟨w.heap.size, 7, none⟩ = some (.slice A2 r.types.length c2) ∧ X.cell? ⟨w.heap.size, 8, none⟩ = some (.int .i64 r.master) ∧ X.cell? ⟨w.heap.size, 9, none⟩ = some (.slice A3 r.items.length c3)) ∧ X.cell? ⟨b, off + k, none⟩ = some (.int .i64 u) from fun X hX => by
     have hX := SN.out.next hX
     have c0 := hX.box (g := w.heap.size) (cs := #[.int .i64 r.way, .int .i64 r.pallet.w, .int .i64 r.pallet.d, .int .i64 r.pallet.h, .int .i64 r.pallet.gram, .int .i64 r.classes, .slice A1 r.pairs.length c1, .slice A2 r.types.length c2, .int .i64 r.master, .slice A3 r.items.length c3]) (t := 41) (by repeat (first | with_reducible exact List.mem_cons_self | with_reducible exact List.Mem.head _ | refine List.Mem.tail _ ?_))
     exact ⟨⟨c0 0, c0 1, c0 2, c0 3, c0 4, c0 5, c0 6, c0 7, c0 8, c0 9⟩, HCK.out _ hX.low⟩)
    go_region_held3 (fun W' => ((W'.cell? ⟨w.heap.size, 0, none⟩ = some (.int .i64 r.way) ∧ W'.cell? ⟨w.heap.size, 1, none⟩ = some (.int .i64 r.pallet.w) ∧ W'.cell? ⟨w.heap.size, 2, none⟩ = some (.int .i64 r.pallet.d) ∧ W'.cell? ⟨w.heap.size, 3, none⟩ = some (.int .i64 r.pallet.h) ∧ W'.cell? ⟨w.heap.size, 4, none⟩ = some (.int .i64 r.pallet.gram) ∧ W'.cell? ⟨w.heap.size, 5, none⟩ = some (.int .i64 r.classes) ∧ W'.cell? ⟨w.heap.size, 6, none⟩ = some (.slice A1 r.pairs.length c1) ∧ W'.cell? ⟨w.heap.size, 7, none⟩ = some (.slice A2 r.types.length c2) ∧ W'.cell? ⟨w.heap.size, 8, none⟩ = some (.int .i64 r.master) ∧ W'.cell? ⟨w.heap.size, 9, none⟩ = some (.slice A3 r.items.length c3))) ∧ W'.cell? ⟨b, off + k, none⟩ = some (.int .i64 u)) (first | (refine HCC.out _ ?_; (repeat' (first | with_reducible exact Below.refl _ _ | with_reducible assumption | with_reducible refine Below.drew ?_ | with_reducible refine Below.alloc ?_ ?_ _ | with_reducible refine Below.setCell ?_ ?_ _ | with_reducible refine Below.setW ?_ _ _ _ ?_ | omega | (simp; done) | (simp; omega))); done) | go_keep) (first | (go_at_call 255; (try (first | refine calls_new ?_ | refine calls_newd ?_); intro hg); refine (l6Item_any _ _ r _ u _ (HR.out.next (SN.out.next (by (repeat' (first | with_reducible exact Below.refl _ _ | with_reducible assumption | with_reducible refine Below.drew ?_ | with_reducible refine Below.alloc ?_ ?_ _ | with_reducible refine Below.setCell ?_ ?_ _ | with_reducible refine Below.setW ?_ _ _ _ ?_ | omega | (simp; done) | (simp; omega))))).low) (HA.out.next (flat_mono _) (SN.out.next (by (repeat' (first | with_reducible exact Below.refl _ _ | with_reducible assumption | with_reducible refine Below.drew ?_ | with_reducible refine Below.alloc ?_ ?_ _ | with_reducible refine Below.setCell ?_ ?_ _ | with_reducible refine Below.setW ?_ _ _ _ ?_ | omega | (simp; done) | (simp; omega))))).low) HI.out).mono ?_; rintro e w2 ⟨rfl, hb2⟩; rw [HQ.out]; have hn2 := bstep (a := wr) (by (repeat' (first | with_reducible exact Below.refl _ _ | with_reducible assumption | with_reducible refine Below.drew ?_ | with_reducible refine Below.alloc ?_ ?_ _ | with_reducible refine Below.setCell ?_ ?_ _ | with_reducible refine Below.setW ?_ _ _ _ ?_ | omega | (simp; done) | (simp; omega)))) hb2; have hz2 := hn2.size; have hj2 := hb2.size; (try simp only [World.size_alloc, World.size_drew] at hj2); have SE := Lib.hid ((SN.out.drew.alloc #[.int .i64 0, .int .i64 0, .int .i64 0, .int .i64 0, .int .i64 0, .int .i64 0, .int .i64 0] 152)); (first | (have SE := Lib.hid (SE.out.next hb2)) | skip); have SN := Lib.hid ((SN.out.next (by (repeat' (first | with_reducible exact Below.refl _ _ | with_reducible assumption | with_reducible refine Below.drew ?_ | with_reducible refine Below.alloc ?_ ?_ _ | with_reducible refine Below.setCell ?_ ?_ _ | with_reducible refine Below.setW ?_ _ _ _ ?_ | omega | (simp; done) | (simp; omega))))).next hb2); (try (have hg := blk_next hg hb2; have hgc := fun j => cell_of_row _ _ j _ _ (0, 0) hg; have hgf := fun j => frozen_of_row _ _ j _ _ hg; have hgl := lt_of_block hg))))
    all_goals (go_wp2_with fail; go_meet)
    ·exact ⟨_, rfl, rfl, Lib.hid (SN.out.alloc _ _)⟩
    all_goals exact ⟨_, rfl, rfl, Lib.hid (SE.out.overL [.int .i64 q.1.id, .int .i64 q.1.w, .int .i64 q.1.h, .int .i64 q.1.d, .int .i64 q.1.gram, .int .i64 q.1.cls, .int .i64 q.1.count] 0)⟩
   case rest =>
    obtain ⟨g8, rfl, rfl, SN2⟩ := hcut
    have SN := SN2
    clear SN2
    have k8 := SN.out.box (.head _)
    have k81 := k8 1
    have k82 := k8 2
    have k83 := k8 3
    have k84 := k8 4
    have k7 := SN.out.box (.tail _ (.head _))
    have k70 := k7 0
    have k71 := k7 1
    have f7 := SN.out.free (.tail _ (.head _))
    simp at k81 k82 k83 k84 k70 k71
    clear k8 k7
    go_wp2
    go_still_tail 11, (by kernel_rfl)
    still_call (by have h := sVolume_any q.1.w q.1.h q.1.d wc.drew; rw [HV.out] at h; exact still_of h)
    repeat still_step
    refine wpStill_nil ?_
    change wpList _ _ _ _ _ wc.drew
    have SN := Lib.hid SN.out.drew
    clear k81 k82 k83 k84 k70 k71 f7
    generalize wc.drew = wc2 at SN ⊢
    have k8 := SN.out.box (.head _)
    have k7 := SN.out.box (.tail _ (.head _))
    have f7 := SN.out.free (.tail _ (.head _))
    have k84 := k8 4
    have k70 := k7 0
    have k71 := k7 1
    simp at k84 k70 k71
    clear k8 k7
    go_wp2
    go_roundw
    case rel => exact ⟨k + 1, hlt, by go_num, by rw [HS.out, HG.out]; exact Lib.hid (by (try simp only [wrapE]); exact (SN.out.drop.store 0 _).store 1 _)⟩
    case measure => simp [intOf] <;> omega
  ·obtain rfl : k = us.length := by omega
   rw [List.take_length] at SN
   have k7 := SN.out.box (.head _)
   have k6 := SN.out.box (.tail _ (.head _))
   have f6 := SN.out.free (.tail _ (.head _))
   obtain ⟨G, hG⟩ : ∃ G, us.foldl (loadStep r all) (0, 0) = G := ⟨_, rfl⟩
   have HM := Lib.hid (show loadOf r all us = G from hG)
   rw [hG] at k7
   clear hG
   go_wp2
   refine bodyPost_ret (v := .agg #[.int .i64 G.1, .int .i64 G.2]) (by simp [results, Tryz.results310, go_sem, k6, f6]) rfl ?_
   rw [HM.out]
   exact ⟨rfl, by have := SN.out.low; (repeat' (first | with_reducible exact Below.refl _ _ | with_reducible assumption | with_reducible refine Below.drew ?_ | with_reducible refine Below.alloc ?_ ?_ _ | with_reducible refine Below.setCell ?_ ?_ _ | with_reducible refine Below.setW ?_ _ _ _ ?_ | omega | (simp; done) | (simp; omega)))⟩
end Go.Proofs.YtioijfplbgpjpaaGreat
namespace Go.Proofs.YtioijfplbgpjpaaGreat
set_option linter.unusedVariables false
set_option linter.unusedSimpArgs false
set_option maxRecDepth 100000
open Go.RowKit Go.WideShapes Go.ChangeShapes Go.ChangeAt Go.Deep
set_option maxRecDepth 100000 in
set_option maxHeartbeats 1000000 in
theorem sGross_any (v u : Value) (r : Request) (x : Carton) (w : World) (h : RReq 16777216 w w.heap.size v r) (hu : RInts 16777216 w w.heap.size u x.units) : Calls Tryz.prog 168 #[v, .agg #[.int .i64 x.type, .int .i64 x.group, u]] w fun e w' => e = .returned (.int .i64 (gross r x)) ∧ Below w.heap.size w w' := by
 have HR := Lib.hid h
 have HU := Lib.hid hu
 obtain ⟨A1, c1, A2, c2, A3, c3, rfl, _⟩ := h.opn
 obtain ⟨E, e, rfl, hbd, _⟩ := hu
 have hS := ((Sit.here w).alloc #[.int .i64 r.way, .int .i64 r.pallet.w, .int .i64 r.pallet.d, .int .i64 r.pallet.h, .int .i64 r.pallet.gram, .int .i64 r.classes, .slice A1 r.pairs.length c1, .slice A2 r.types.length c2, .int .i64 r.master, .slice A3 r.items.length c3] 41).alloc #[.int .i64 x.type, .int .i64 x.group, .slice E x.units.length e] 78
 simp only [World.size_alloc] at hS
 have SN := Lib.hid hS
 obtain ⟨t, ht⟩ : ∃ t, typeById r x.type = t := ⟨_, rfl⟩
 have HT := Lib.hid ht
 obtain ⟨c, hc⟩ : ∃ c, classOf r = c := ⟨_, rfl⟩
 have HC := Lib.hid hc
 obtain ⟨G, hG⟩ : ∃ G, gramOf r x.units = G := ⟨_, rfl⟩
 have HGR := Lib.hid hG
 have HM := Lib.hid (show gross r x = if c = 0 ∧ t.2 = true then wrap64 (t.1.tare + G) else 0 by unfold gross; rw [sound_dec, hc, ht, hG]; simp only [Bool.and_eq_true, decide_eq_true_eq])
 clear h hS ht hc hG
 go_enter Tryz.func168, Tryz.ntmps168
 have k0 := SN.out.box (.tail _ (.head _))
 have l0 := SN.out.boxlt (.tail _ (.head _))
 have k1 := SN.out.box (.head _)
 go_wp2_with fail
 refine (sTypeById_any _ r x.type _ (HR.out.next SN.out.low)).mono ?_
 rintro e1 w1 ⟨rfl, hb1⟩
 rw [HT.out]
 obtain ⟨t, tb⟩ := t
 have SN := Lib.hid ((SN.out.next hb1).alloc #[.int .i64 t.id, .int .i64 t.w, .int .i64 t.h, .int .i64 t.d, .int .i64 t.tare, .int .i64 t.gram, .int .i64 t.cost] 142)
 clear k0 l0 k1 hb1
 have k0 := SN.out.box (.tail _ (.tail _ (.head _)))
 have l0 := SN.out.boxlt (.tail _ (.tail _ (.head _)))
 go_wp2_with fail
 refine (sClass_any _ r _ (HR.out.next SN.out.low)).mono ?_
 rintro e2 w2 ⟨rfl, hb2⟩
 rw [HC.out]
 have SN := Lib.hid (SN.out.next hb2)
 clear k0 l0 hb2
 have k0 := SN.out.box (.tail _ (.tail _ (.head _)))
 have k1 := SN.out.box (.tail _ (.head _))
 have k5 := SN.out.box (.head _)
 by_cases hz : c = 0
 ·cases tb
  ·subst hz
   go_wp2
   go_ret
   exact ⟨by rw [HM.out]; rfl, SN.out.low⟩
  ·subst hz
   have HCC := Lib.hid (show ∀ X : World, Below w2.heap.size w2 X → (X.cell? ⟨w.heap.size, 0, none⟩ = some (.int .i64 r.way) ∧ X.cell? ⟨w.heap.size, 1, none⟩ = some (.int .i64 r.pallet.w) ∧ X.cell? ⟨w.heap.size, 2, none⟩ = some (.int .i64 r.pallet.d) ∧ X.cell? ⟨w.heap.size, 3, none⟩ = some (.int .i64 r.pallet.h) ∧ X.cell? ⟨w.heap.size, 4, none⟩ = some (.int .i64 r.pallet.gram) ∧ X.cell? ⟨w.heap.size, 5, none⟩ = some (.int .i64 r.classes) ∧ X.cell? ⟨w.heap.size, 6, none⟩ = some (.slice A1 r.pairs.length c1) ∧ X.cell? ⟨w.heap.size, 7, none⟩ = some (.slice A2 r.types.length c2) ∧ X.cell? ⟨w.heap.size, 8, none⟩ = some (.int .i64 r.master) ∧ X.cell? ⟨w.heap.size, 9, none⟩ = some (.slice A3 r.items.length c3)) ∧ X.cell? ⟨w.heap.size + 1, 2, none⟩ = some (.slice E x.units.length e) ∧ X.cell? ⟨w1.heap.size, 4, none⟩ = some (.int .i64 t.tare) from fun X hX => by
    have hX := SN.out.next hX
    have c0 := hX.box (.tail _ (.tail _ (.head _)))
    exact ⟨⟨c0 0, c0 1, c0 2, c0 3, c0 4, c0 5, c0 6, c0 7, c0 8, c0 9⟩, hX.box (.tail _ (.head _)) 2, hX.box (.head _) 4⟩)
   go_wp2
   go_region_held3 (fun W' => (W'.cell? ⟨w.heap.size, 0, none⟩ = some (.int .i64 r.way) ∧ W'.cell? ⟨w.heap.size, 1, none⟩ = some (.int .i64 r.pallet.w) ∧ W'.cell? ⟨w.heap.size, 2, none⟩ = some (.int .i64 r.pallet.d) ∧ W'.cell? ⟨w.heap.size, 3, none⟩ = some (.int .i64 r.pallet.h) ∧ W'.cell? ⟨w.heap.size, 4, none⟩ = some (.int .i64 r.pallet.gram) ∧ W'.cell? ⟨w.heap.size, 5, none⟩ = some (.int .i64 r.classes) ∧ W'.cell? ⟨w.heap.size, 6, none⟩ = some (.slice A1 r.pairs.length c1) ∧ W'.cell? ⟨w.heap.size, 7, none⟩ = some (.slice A2 r.types.length c2) ∧ W'.cell? ⟨w.heap.size, 8, none⟩ = some (.int .i64 r.master) ∧ W'.cell? ⟨w.heap.size, 9, none⟩ = some (.slice A3 r.items.length c3)) ∧ W'.cell? ⟨w.heap.size + 1, 2, none⟩ = some (.slice E x.units.length e) ∧ W'.cell? ⟨w1.heap.size, 4, none⟩ = some (.int .i64 t.tare)) (first | (refine HCC.out _ ?_; (repeat' (first | with_reducible exact Below.refl _ _ | with_reducible assumption | with_reducible refine Below.drew ?_ | with_reducible refine Below.alloc ?_ ?_ _ | with_reducible refine Below.setCell ?_ ?_ _ | with_reducible refine Below.setW ?_ _ _ _ ?_ | omega | (simp; done) | (simp; omega))); done) | go_keep)
    (first | (go_at_call 239; refine (sGramOf_any _ _ r x.units _ (HR.out.next (SN.out.next (by (repeat' (first | with_reducible exact Below.refl _ _ | with_reducible assumption | with_reducible refine Below.drew ?_ | with_reducible refine Below.alloc ?_ ?_ _ | with_reducible refine Below.setCell ?_ ?_ _ | with_reducible refine Below.setW ?_ _ _ _ ?_ | omega | (simp; done) | (simp; omega))))).low) (HU.out.next (flat_mono _) (SN.out.next (by (repeat' (first | with_reducible exact Below.refl _ _ | with_reducible assumption | with_reducible refine Below.drew ?_ | with_reducible refine Below.alloc ?_ ?_ _ | with_reducible refine Below.setCell ?_ ?_ _ | with_reducible refine Below.setW ?_ _ _ _ ?_ | omega | (simp; done) | (simp; omega))))).low)).mono ?_; rintro e w3 ⟨rfl, hb3⟩; rw [HGR.out]; have hn3 := bstep (a := w2) (by (repeat' (first | with_reducible exact Below.refl _ _ | with_reducible assumption | with_reducible refine Below.drew ?_ | with_reducible refine Below.alloc ?_ ?_ _ | with_reducible refine Below.setCell ?_ ?_ _ | with_reducible refine Below.setW ?_ _ _ _ ?_ | omega | (simp; done) | (simp; omega)))) hb3))
   have SN := Lib.hid (SN.out.next hn3)
   go_wp2
   go_ret
   exact ⟨by rw [HM.out]; simp only [wrapE]; rfl, SN.out.low⟩
 ·have hz' : (c != 0) = true := by simpa using hz
  have HM2 := Lib.hid (show gross r x = 0 by rw [HM.out]; simp [hz])
  clear hz
  go_wp2
  go_ret
  exact ⟨by rw [HM2.out]; rfl, SN.out.low⟩
set_option maxRecDepth 100000 in
set_option maxHeartbeats 1000000 in
theorem sBoxOf_any (v u : Value) (r : Request) (x : Carton) (w : World) (h : RReq 16777216 w w.heap.size v r) (hu : RInts 16777216 w w.heap.size u x.units) : Calls Tryz.prog 91 #[v, .agg #[.int .i64 x.type, .int .i64 x.group, u]] w fun e w' => e = .returned (boxR r x).val ∧ Below w.heap.size w w' := by
 have HR := Lib.hid h
 have HU := Lib.hid hu
 obtain ⟨A1, c1, A2, c2, A3, c3, rfl, _⟩ := h.opn
 obtain ⟨E, e, rfl, hbd, _⟩ := hu
 have hS := (((Sit.here w).alloc #[.int .i64 r.way, .int .i64 r.pallet.w, .int .i64 r.pallet.d, .int .i64 r.pallet.h, .int .i64 r.pallet.gram, .int .i64 r.classes, .slice A1 r.pairs.length c1, .slice A2 r.types.length c2, .int .i64 r.master, .slice A3 r.items.length c3] 41).alloc #[.int .i64 x.type, .int .i64 x.group, .slice E x.units.length e] 78).alloc #[.int .i64 0, .int .i64 0, .int .i64 0, .int .i64 0] 75
 simp only [World.size_alloc] at hS
 have SN := Lib.hid hS
 obtain ⟨t, ht⟩ : ∃ t, typeById r x.type = t := ⟨_, rfl⟩
 have HT := Lib.hid ht
 obtain ⟨c, hc⟩ : ∃ c, classOf r = c := ⟨_, rfl⟩
 have HC := Lib.hid hc
 obtain ⟨G, hG⟩ : ∃ G, gross r x = G := ⟨_, rfl⟩
 have HGR := Lib.hid hG
 have HM := Lib.hid (show boxR r x = if c = 0 ∧ t.2 = true then ⟨t.1.w, t.1.d, t.1.h, G⟩ else ⟨0, 0, 0, 0⟩ by unfold boxR; rw [sound_dec, hc, ht, hG]; simp only [Bool.and_eq_true, decide_eq_true_eq])
 clear h hS ht hc hG
 go_enter Tryz.func91, Tryz.ntmps91
 have k0 := SN.out.box (.tail _ (.tail _ (.head _)))
 have l0 := SN.out.boxlt (.tail _ (.tail _ (.head _)))
 have k1 := SN.out.box (.tail _ (.head _))
 go_wp2_with fail
 refine (sTypeById_any _ r x.type _ (HR.out.next SN.out.low)).mono ?_
 rintro e1 w1 ⟨rfl, hb1⟩
 rw [HT.out]
 obtain ⟨t, tb⟩ := t
 have SN := Lib.hid ((SN.out.next hb1).alloc #[.int .i64 t.id, .int .i64 t.w, .int .i64 t.h, .int .i64 t.d, .int .i64 t.tare, .int .i64 t.gram, .int .i64 t.cost] 142)
 clear k0 l0 k1 hb1
 have k0 := SN.out.box (.tail _ (.tail _ (.tail _ (.head _))))
 have l0 := SN.out.boxlt (.tail _ (.tail _ (.tail _ (.head _))))
 go_wp2_with fail
 refine (sClass_any _ r _ (HR.out.next SN.out.low)).mono ?_
 rintro e2 w2 ⟨rfl, hb2⟩
 rw [HC.out]
 have SN := Lib.hid (SN.out.next hb2)
 clear k0 l0 hb2
 have k0 := SN.out.box (.tail _ (.tail _ (.tail _ (.head _))))
 have k1 := SN.out.box (.tail _ (.tail _ (.head _)))
 have k4 := SN.out.box (.tail _ (.head _))
 have f4 := SN.out.free (.tail _ (.head _))
 have k5 := SN.out.box (.head _)
 by_cases hz : c = 0
 ·cases tb
  ·subst hz
   go_wp2
   refine bodyPost_ret (v := .agg #[.int .i64 0, .int .i64 0, .int .i64 0, .int .i64 0]) (by simp [results, Tryz.results91, go_sem, k4, f4]) rfl ?_
   exact ⟨by rw [HM.out]; rfl, by have := SN.out.low; (repeat' (first | with_reducible exact Below.refl _ _ | with_reducible assumption | with_reducible refine Below.drew ?_ | with_reducible refine Below.alloc ?_ ?_ _ | with_reducible refine Below.setCell ?_ ?_ _ | with_reducible refine Below.setW ?_ _ _ _ ?_ | omega | (simp; done) | (simp; omega)))⟩
  ·subst hz
   have HCC := Lib.hid (show ∀ X : World, Below w2.heap.size w2 X → (X.cell? ⟨w.heap.size, 0, none⟩ = some (.int .i64 r.way) ∧ X.cell? ⟨w.heap.size, 1, none⟩ = some (.int .i64 r.pallet.w) ∧ X.cell? ⟨w.heap.size, 2, none⟩ = some (.int .i64 r.pallet.d) ∧ X.cell? ⟨w.heap.size, 3, none⟩ = some (.int .i64 r.pallet.h) ∧ X.cell? ⟨w.heap.size, 4, none⟩ = some (.int .i64 r.pallet.gram) ∧ X.cell? ⟨w.heap.size, 5, none⟩ = some (.int .i64 r.classes) ∧ X.cell? ⟨w.heap.size, 6, none⟩ = some (.slice A1 r.pairs.length c1) ∧ X.cell? ⟨w.heap.size, 7, none⟩ = some (.slice A2 r.types.length c2) ∧ X.cell? ⟨w.heap.size, 8, none⟩ = some (.int .i64 r.master) ∧ X.cell? ⟨w.heap.size, 9, none⟩ = some (.slice A3 r.items.length c3)) ∧ (X.cell? ⟨w.heap.size + 1, 0, none⟩ = some (.int .i64 x.type) ∧ X.cell? ⟨w.heap.size + 1, 1, none⟩ = some (.int .i64 x.group) ∧ X.cell? ⟨w.heap.size + 1, 2, none⟩ = some (.slice E x.units.length e)) ∧ X.cell? ⟨w1.heap.size, 1, none⟩ = some (.int .i64 t.w) ∧ X.cell? ⟨w1.heap.size, 2, none⟩ = some (.int .i64 t.h) ∧ X.cell? ⟨w1.heap.size, 3, none⟩ = some (.int .i64 t.d) from fun X hX => by
    have hX := SN.out.next hX
    have c0 := hX.box (.tail _ (.tail _ (.tail _ (.head _))))
    have c1 := hX.box (.tail _ (.tail _ (.head _)))
    have c5 := hX.box (.head _)
    exact ⟨⟨c0 0, c0 1, c0 2, c0 3, c0 4, c0 5, c0 6, c0 7, c0 8, c0 9⟩, ⟨c1 0, c1 1, c1 2⟩, c5 1, c5 2, c5 3⟩)
   have hn0 : ¬ (w.heap.size + 1 + 1 = w1.heap.size) := by have := SN.out.apart; simp only [List.pairwise_cons, List.mem_cons, forall_eq_or_imp, List.not_mem_nil, or_false, forall_eq] at this; intro he; exact this.1.1 he.symm
   have hn01 : ¬ (w1.heap.size = w.heap.size + 1 + 1) := fun e => hn0 e.symm
   have hn1 : ¬ (w.heap.size = w.heap.size + 1 + 1) := by omega
   have hn2 : ¬ (w.heap.size + 1 + 1 = w.heap.size) := by omega
   go_wp2
   go_region_held3 (fun W' => (W'.cell? ⟨w.heap.size, 0, none⟩ = some (.int .i64 r.way) ∧ W'.cell? ⟨w.heap.size, 1, none⟩ = some (.int .i64 r.pallet.w) ∧ W'.cell? ⟨w.heap.size, 2, none⟩ = some (.int .i64 r.pallet.d) ∧ W'.cell? ⟨w.heap.size, 3, none⟩ = some (.int .i64 r.pallet.h) ∧ W'.cell? ⟨w.heap.size, 4, none⟩ = some (.int .i64 r.pallet.gram) ∧ W'.cell? ⟨w.heap.size, 5, none⟩ = some (.int .i64 r.classes) ∧ W'.cell? ⟨w.heap.size, 6, none⟩ = some (.slice A1 r.pairs.length c1) ∧ W'.cell? ⟨w.heap.size, 7, none⟩ = some (.slice A2 r.types.length c2) ∧ W'.cell? ⟨w.heap.size, 8, none⟩ = some (.int .i64 r.master) ∧ W'.cell? ⟨w.heap.size, 9, none⟩ = some (.slice A3 r.items.length c3)) ∧ (W'.cell? ⟨w.heap.size + 1, 0, none⟩ = some (.int .i64 x.type) ∧ W'.cell? ⟨w.heap.size + 1, 1, none⟩ = some (.int .i64 x.group) ∧ W'.cell? ⟨w.heap.size + 1, 2, none⟩ = some (.slice E x.units.length e)) ∧ W'.cell? ⟨w1.heap.size, 1, none⟩ = some (.int .i64 t.w) ∧ W'.cell? ⟨w1.heap.size, 2, none⟩ = some (.int .i64 t.h) ∧ W'.cell? ⟨w1.heap.size, 3, none⟩ = some (.int .i64 t.d)) (first | (refine HCC.out _ ?_; (repeat' (first | with_reducible exact Below.refl _ _ | with_reducible assumption | with_reducible refine Below.drew ?_ | with_reducible refine Below.alloc ?_ ?_ _ | with_reducible refine Below.setCell ?_ ?_ _ | with_reducible refine Below.setW ?_ _ _ _ ?_ | omega | (simp; done) | (simp; omega))); done) | go_keep)
    (first | (go_at_call 168; refine (sGross_any _ _ r x _ (HR.out.next (SN.out.next (by (repeat' (first | with_reducible exact Below.refl _ _ | with_reducible assumption | with_reducible refine Below.drew ?_ | with_reducible refine Below.alloc ?_ ?_ _ | with_reducible refine Below.setCell ?_ ?_ _ | with_reducible refine Below.setW ?_ _ _ _ ?_ | omega | (simp; done) | (simp; omega))))).low) (HU.out.next (flat_mono _) (SN.out.next (by (repeat' (first | with_reducible exact Below.refl _ _ | with_reducible assumption | with_reducible refine Below.drew ?_ | with_reducible refine Below.alloc ?_ ?_ _ | with_reducible refine Below.setCell ?_ ?_ _ | with_reducible refine Below.setW ?_ _ _ _ ?_ | omega | (simp; done) | (simp; omega))))).low)).mono ?_; rintro e w3 ⟨rfl, hb3⟩; rw [HGR.out]; have hn3 := bstep (a := w2) (by (repeat' (first | with_reducible exact Below.refl _ _ | with_reducible assumption | with_reducible refine Below.drew ?_ | with_reducible refine Below.alloc ?_ ?_ _ | with_reducible refine Below.setCell ?_ ?_ _ | with_reducible refine Below.setW ?_ _ _ _ ?_ | omega | (simp; done) | (simp; omega)))) hb3; have SM := Lib.hid (SN.out.next hn3); have k9 := SM.out.box (.tail _ (.head _)); have f9 := SM.out.free (.tail _ (.head _))))
   go_wp2
   refine bodyPost_ret (v := .agg #[.int .i64 t.w, .int .i64 t.d, .int .i64 t.h, .int .i64 G]) (by simp [results, Tryz.results91, go_sem, k9, f9]) rfl ?_
   exact ⟨by rw [HM.out]; rfl, by have := SM.out.low; (repeat' (first | with_reducible exact Below.refl _ _ | with_reducible assumption | with_reducible refine Below.drew ?_ | with_reducible refine Below.alloc ?_ ?_ _ | with_reducible refine Below.setCell ?_ ?_ _ | with_reducible refine Below.setW ?_ _ _ _ ?_ | omega | (simp; done) | (simp; omega)))⟩
 ·have hz' : (c != 0) = true := by simpa using hz
  have HM2 := Lib.hid (show boxR r x = ⟨0, 0, 0, 0⟩ by rw [HM.out]; simp [hz])
  clear hz
  go_wp2
  refine bodyPost_ret (v := .agg #[.int .i64 0, .int .i64 0, .int .i64 0, .int .i64 0]) (by simp [results, Tryz.results91, go_sem, k4, f4]) rfl ?_
  exact ⟨by rw [HM2.out], by have := SN.out.low; (repeat' (first | with_reducible exact Below.refl _ _ | with_reducible assumption | with_reducible refine Below.drew ?_ | with_reducible refine Below.alloc ?_ ?_ _ | with_reducible refine Below.setCell ?_ ?_ _ | with_reducible refine Below.setW ?_ _ _ _ ?_ | omega | (simp; done) | (simp; omega)))⟩
end Go.Proofs.YtioijfplbgpjpaaGreat
namespace Go.Proofs.YtioijfplbgpjpaaGreat
set_option linter.unusedVariables false
set_option linter.unusedSimpArgs false
set_option maxRecDepth 100000
open Go.RowKit
theorem cwith_at {cs : List Carton} {u : Int} (h : ¬ cwith cs u < 0) : ∃ (j : Nat) (x : Carton), cwith cs u = j ∧ cs[j]? = some x ∧ cs.getD (cwith cs u).toNat default = x ∧ hasU u x = true := by
 unfold cwith idxF at *
 cases hf : cs.findIdx? (hasU u) with
 |none => rw [hf] at h; simp at h
 |some i =>
  obtain ⟨h1, h2, _⟩ := List.findIdx?_eq_some_iff_getElem.1 hf
  exact ⟨i, cs[i], rfl, List.getElem?_eq_getElem h1, by simp [List.getD, h1], h2⟩
theorem sortI_at {keys : List Int} {k p : Nat} (h : (argUp keys)[k]? = some p) : (sortI keys)[k]? = some (keyAt keys p) := by
 rw [← argUp_keys, List.getElem?_map, h]; rfl
set_option maxHeartbeats 400000 in
theorem together1_gives (u x : Int) (B : Nat) (W : World) (hc : W.cell? ⟨B, 0, none⟩ = some (.int .i64 u)) :
  FnGives Tryz.prog 127 #[.pointer (some ⟨B, 0, none⟩)] #[.int .i64 x] (.bool (decide (x = u))) W := by
 show Calls Tryz.prog 127 #[.int .i64 x, .pointer (some ⟨B, 0, none⟩)] W _
 go_enter Tryz.func127, Tryz.ntmps127
 go_wp2
 go_ret
 exact ⟨ret_bool (by rw [Bool.eq_iff_iff]; simp), 0, rfl⟩
theorem deleteInts_any (fn : Nat) (lb : Array Value) (p : Int → Bool) (v : Value) (xs : List Int) (fp : List Nat) (base : Nat) (w : World) (h : OInts w base v xs fp) (hb : xs.length ≤ 33554432) (hn : 0 < xs.length)
  (eg : ∀ args w, (callFunc fn args).run Tryz.prog w = .ok (.enter fn args) w) (hg : ∀ (W : World) (x : Int), (∀ b, b < w.heap.size → b ∉ fp → W.heap[b]? = w.heap[b]?) → FnGives Tryz.prog fn lb #[.int .i64 x] (.bool (p x)) W) :
  Calls Tryz.prog 125 #[v, .func (.func fn) #[] lb] w fun e w' => ∃ v', e = .returned v' ∧ OInts w' base v' (xs.filter fun x => !p x) fp ∧ Tch fp w w' := by
 obtain ⟨h, rfl⟩ := h
 obtain ⟨g, cap, cur, rfl, h1, h2, h3, h4, h5, h6, h7⟩ := own_ints_shape h hn
 have hle : (xs.filter fun x => !p x).length ≤ xs.length := List.length_filter_le _ _
 have hsz : xs.toArray.size = xs.length := by simp
 have hc := Tryz.slices_DeleteFunc (Value.int .i64) (fun _ => rfl) p fn lb eg 0 Tryz.zeroValue3 g 0 cap xs.toArray w
  (fun W x hW => hg W x (fun b hb _ => hW.block b hb))
  (fun n os dk x _ => hg _ x (fun b hb hne => by
   have hbg : b ≠ g := fun e => hne (by rw [e]; simp [Value.ownBlock])
   unfold sortWorld
   rw [Go.Sort.heap_grow_old _ _ (by rw [Go.Sort.size_putRow]; exact hb)]
   simp [Go.Sort.putRow, Go.Sort.mapBlock, Go.Sort.ahead, Array.getElem?_modify]
   intro e
   exact absurd e.symm hbg))
  (holds_of_blockI h3 h7) (by rw [hsz]; omega) (by rw [hsz]; exact h4)
 rw [hsz] at hc
 refine hc.mono fun e w' ⟨e1, q, e2⟩ => ⟨_, e1, ⟨?_, rfl⟩, ?_⟩
 ·have how := ownsRow_sortedI (n := q) (os := #[]) (ss := xs) (ts := (xs.filter fun x => !p x) ++ List.replicate (xs.length - (xs.filter fun x => !p x).length) 0) (by simp; omega) h1 h3 h4 h5 h6
  rw [Go.Sort.grow_empty, ← e2] at how
  have hcu := own_cut how hle
  rw [Nat.mul_one, List.map_append, List.take_left' (by simp), ← flat_cI] at hcu
  exact hcu
 ·have := grownBy_sortedI (w := w) (g := g) (n := q) (os := #[]) ((xs.filter fun x => !p x) ++ List.replicate (xs.length - (xs.filter fun x => !p x).length) 0).toArray
  rw [Go.Sort.grow_empty, ← e2] at this
  exact (grown_tch this).sub (fun k hk => by simpa [Value.ownBlock] using hk)
set_option maxHeartbeats 400000 in
theorem sTogether_any (v : Value) (p : Plan) (u : Int) (w : World) (h : RPlan 16777216 w w.heap.size v p) (hL : p.bulk ≤ 16777216) : Calls Tryz.prog 69 #[v, .int .i64 u] w (MInts w (tog p u)) := by
 have HP := Lib.hid h
 obtain ⟨v1, v2, rfl, h1, _⟩ := h
 have H := Lib.hid h1
 obtain ⟨A, c, rfl, hbd, _⟩ := h1
 have hb0 : Below w.heap.size w ((w.alloc (.cells #[.slice A p.cartons.length c, v2] 46)).alloc (.cells #[] 3)) := (by repeat' (first | with_reducible exact Below.refl _ _ | with_reducible assumption | with_reducible refine Below.drew ?_ | with_reducible refine Below.alloc ?_ ?_ _ | with_reducible refine Below.setCell ?_ ?_ _ | with_reducible refine below_drewN ?_ _ | (simp; done) | (simp; omega)))
 have hbx : ((w.alloc (.cells #[.slice A p.cartons.length c, v2] 46)).alloc (.cells #[] 3)).heap[w.heap.size]? = some (.cells #[.slice A p.cartons.length c, v2] 46 (0, 0)) := by (simp only [heap_alloc_if, World.size_alloc]; repeat (first | rw [if_neg (by omega)] | rw [if_pos (by omega)] | rw [if_pos trivial]))
 have hby : ((w.alloc (.cells #[.slice A p.cartons.length c, v2] 46)).alloc (.cells #[] 3)).heap[w.heap.size + 1]? = some (.cells #[] 3 (0, 0)) := by (simp only [heap_alloc_if, World.size_alloc]; repeat (first | rw [if_neg (by omega)] | rw [if_pos (by omega)] | rw [if_pos trivial]))
 have HX := Lib.hid hbx
 have HY := Lib.hid hby
 clear hbx hby
 go_enter Tryz.func69, Tryz.ntmps69
 go_wp2_with fail
 refine (sCartonWith_any _ p u _ (HP.out.next hb0)).mono ?_
 rintro e w1 ⟨rfl, hb1⟩
 have HX1 := Lib.hid (blk_next HX.out hb1)
 have HY1 := Lib.hid (blk_next HY.out hb1)
 have hcx := fun j => cell_of_row _ _ j _ _ (0, 0) HX1.out
 have hlx := lt_of_block HX1.out
 have hly := lt_of_block HY1.out
 have hb01 := bstep hb0 hb1
 by_cases hneg : cwith p.cartons u < 0
 ·have ht : tog p u = [] := by unfold tog; rw [if_pos hneg]
  have HT := Lib.hid ht
  clear ht
  go_wp2
  go_ret
  rw [HT.out]
  exact MInts.row (xs := []) (B := w.heap.size) (own_nil (α := Int) (f := cI) (Nat.le_succ _) HY1.out) (Nat.le_refl _) hb01
 ·obtain ⟨j, x, hj, hx, hx2, _⟩ := cwith_at hneg
  have ht : tog p u = (sortI x.units).filter fun y => !decide (y = u) := by unfold tog; rw [if_neg hneg, hx2]
  have HT := Lib.hid ht
  rw [hj]
  have hjl := (List.getElem?_eq_some_iff.1 hx).1
  obtain ⟨b, off, x', _, rfl, hb, hx3, _, ⟨vx, rfl, hrx⟩, hc⟩ := (H.out.below (RCarton_mono _) hb01).at_ j hjl
  rw [hx] at hx3
  cases hx3
  have hc2 := hc 2 _ rfl
  have HRX := Lib.hid hrx
  obtain ⟨Ax, cx, rfl, hxl, _⟩ := hrx
  clear hc hx hx2 hneg hj ht
  obtain ⟨sl, hsl⟩ : ∃ l, l = sortI x.units := ⟨_, rfl⟩
  obtain ⟨au, hau⟩ : ∃ l, l = argUp x.units := ⟨_, rfl⟩
  have hsll : sl.length = x.units.length := by rw [hsl, sortI_length]
  have haul : au.length = x.units.length := by rw [hau, argUp_length]
  rw [← hsl] at HT
  have HG := Lib.hid (show ∀ k p, au[k]? = some p → sl[k]? = some (keyAt x.units p) ∧ p < x.units.length by
   intro k p hp
   rw [hau] at hp
   exact ⟨by rw [hsl]; exact sortI_at hp, argUp_mem.1 (List.mem_of_getElem? hp)⟩)
  have HU := Lib.hid (fun W (hW : Below w1.heap.size w1 W) => by have := sSortUp_any _ x.units W (RL.keep HRX.out (flat_mono _) (fun p hp => hW.cell (Nat.lt_of_lt_of_le hp hb01.size)) (Nat.le_trans hb01.size hW.size)); rwa [← hau] at this)
  have HLS := Lib.hid hsll
  have HLA := Lib.hid haul
  clear hsl hau
  go_wp2_with fail
  refine (HU.out _ (Below.refl _ _)).mono ?_
  rintro e w2 ⟨va, fa, rfl, hoa, hb2⟩
  have HX2 := Lib.hid (blk_next HX1.out hb2)
  have HY2 := Lib.hid (blk_next HY1.out hb2)
  have hb02 := bstep hb01 hb2
  obtain ⟨Aa, ca, rfl, _⟩ := OInts.form hoa
  have HA := Lib.hid (hoa.read (by rw [ints_length]; omega))
  rw [ints_length, haul] at HA ⊢
  have hw02 := hb02.size
  have hw12 := hb2.size
  clear hoa hcx
  go_wp2
  go_loopw [5, 9] (fun v iv wr => ∃ k : Nat, k ≤ x.units.length ∧ iv = .int .i64 k ∧ ownsZ wr w.heap.size w2.heap.size 3 1 v ((sl.take k).filter fun y => !decide (y = u)).length (((sl.take k).filter fun y => !decide (y = u)).flatMap cI) ∧ Below w2.heap.size w2 wr) (fun _ iv _ => x.units.length - (intOf iv).toNat)
  case atStart => exact ⟨0, Nat.zero_le _, rfl, ownsZ_start (Nat.le_succ _) (by omega) HY2.out, Below.refl _ _⟩
  case round =>
   obtain ⟨k, hk, rfl, hown, hbl⟩ := hrel
   by_cases hlt : k < x.units.length
   ·obtain ⟨pl, hpl⟩ : ∃ q, au[k]? = some q := ⟨_, List.getElem?_eq_getElem (by rw [HLA.out]; exact hlt)⟩
    obtain ⟨hsk, hpu⟩ := HG.out k pl hpl
    obtain ⟨ba, oa, rfl, hba, hca⟩ := ints_read (HA.out.below (flat_mono _) hbl) k hpl
    obtain ⟨bu, ou, xu, rfl, hbu, hxu, hcu⟩ := RL.at1 (RL.keep (w' := wr) HRX.out (flat_mono _) (fun p hp => (hb2.trans (hbl.mono hw12)).cell (Nat.lt_of_lt_of_le hp hb01.size)) (Nat.le_refl _)) pl hpu
    rw [keyAt_get hpu] at hxu
    cases hxu
    have hcu' := hcu _ rfl
    obtain ⟨y, hy⟩ : ∃ y, keyAt x.units pl = y := ⟨_, rfl⟩
    rw [hy] at hcu' hsk
    have hle : ((sl.take k).filter fun y => !decide (y = u)).length ≤ k := Nat.le_trans (List.length_filter_le _ _) (List.length_take_le _ _)
    have htk : sl.take (k + 1) = sl.take k ++ [y] := by rw [List.take_add_one, hsk]; rfl
    have HTK := Lib.hid htk
    have HO := Lib.hid hown
    have hsz := hbl.size
    clear hcu hpl hy hsk htk hown
    by_cases hyu : y = u
    ·have hq : (y != u) = false := by simp [hyu]
     have hd : decide (y = u) = true := by simp [hyu]
     have HD := Lib.hid hd
     clear hyu hd
     go_wp2
     go_roundw
     case rel => exact ⟨k + 1, hlt, by go_num, by rw [HTK.out, List.filter_append]; simpa [HD.out] using HO.out, hbl⟩
     case measure => simp [intOf]; omega
    ·have hq : (y != u) = true := by simpa using hyu
     have hd : decide (y = u) = false := by simp [hyu]
     have HD := Lib.hid hd
     clear hyu hd
     go_wp2_with (at_builtin; refine at_app (.tmp 40) (.tmp 48) 53 rfl ?_; refine appZ1_Int (.tmp 40) (.tmp 48) rfl rfl _ rfl rfl rfl rfl HO.out (by omega) hsz ?_; intro v' w' ho hb _ _)
     go_roundw
     case rel => exact ⟨k + 1, hlt, by go_num, by rw [HTK.out, List.filter_append]; simpa [HD.out] using ho, hbl.trans hb⟩
     case measure => simp [intOf]; omega
   ·obtain rfl : k = x.units.length := by omega
    rw [List.take_of_length_le (by omega)] at hown
    go_wp2
    go_ret
    rw [HT.out]
    exact MInts.row (hown.own hw02) (Nat.le_refl _) (hb02.trans (hbl.mono hw02))
set_option maxHeartbeats 400000 in
theorem iTogether_any (v : Value) (p : Plan) (u : Int) (w : World) (h : RPlan 16777216 w w.heap.size v p) (hL : p.bulk ≤ 16777216) : Calls Tryz.prog 48 #[v, .int .i64 u] w (MInts w (tog p u)) := by
 have HP := Lib.hid h
 obtain ⟨v1, v2, rfl, h1, _⟩ := h
 have H := Lib.hid h1
 obtain ⟨A, c, rfl, hbd, _⟩ := h1
 have hb0 : Below w.heap.size w ((w.alloc (.cells #[.slice A p.cartons.length c, v2] 46)).alloc (.cells #[.int .i64 u] 3)) := (by repeat' (first | with_reducible exact Below.refl _ _ | with_reducible assumption | with_reducible refine Below.drew ?_ | with_reducible refine Below.alloc ?_ ?_ _ | with_reducible refine Below.setCell ?_ ?_ _ | with_reducible refine below_drewN ?_ _ | (simp; done) | (simp; omega)))
 have hbx : ((w.alloc (.cells #[.slice A p.cartons.length c, v2] 46)).alloc (.cells #[.int .i64 u] 3)).heap[w.heap.size]? = some (.cells #[.slice A p.cartons.length c, v2] 46 (0, 0)) := by (simp only [heap_alloc_if, World.size_alloc]; repeat (first | rw [if_neg (by omega)] | rw [if_pos (by omega)] | rw [if_pos trivial]))
 have hby : ((w.alloc (.cells #[.slice A p.cartons.length c, v2] 46)).alloc (.cells #[.int .i64 u] 3)).heap[w.heap.size + 1]? = some (.cells #[.int .i64 u] 3 (0, 0)) := by (simp only [heap_alloc_if, World.size_alloc]; repeat (first | rw [if_neg (by omega)] | rw [if_pos (by omega)] | rw [if_pos trivial]))
 have HX := Lib.hid hbx
 have HY := Lib.hid hby
 clear hbx hby
 have eg : ∀ args W, (callFunc 127 args).run Tryz.prog W = .ok (.enter 127 args) W := fun args W => run_enter Tryz.func127 (by kernel_rfl) rfl args W
 go_enter Tryz.func48, Tryz.ntmps48
 go_wp2_with fail
 refine (iCartonWith_any _ p u _ (HP.out.next hb0)).mono ?_
 rintro e w1 ⟨rfl, hb1⟩
 have HX1 := Lib.hid (blk_next HX.out hb1)
 have HY1 := Lib.hid (blk_next HY.out hb1)
 have hcx := fun j => cell_of_row _ _ j _ _ (0, 0) HX1.out
 have hlx := lt_of_block HX1.out
 have hb01 := bstep hb0 hb1
 by_cases hneg : cwith p.cartons u < 0
 ·have HT := Lib.hid (show tog p u = [] by unfold tog; rw [if_pos hneg])
  go_wp2
  go_ret
  rw [HT.out]
  exact MInts.row (xs := []) (B := w.heap.size) (World.ownsRow_nil _ _ _ _) (Nat.le_refl _) hb01
 ·obtain ⟨j, x, hj, hx, hx2, hux⟩ := cwith_at hneg
  have HT := Lib.hid (show tog p u = sortI (x.units.filter fun y => !decide (y = u)) by unfold tog; rw [if_neg hneg, hx2, sortI_filter])
  rw [hj]
  have hjl := (List.getElem?_eq_some_iff.1 hx).1
  obtain ⟨b, off, x', _, rfl, hb, hx3, _, ⟨vx, rfl, hrx⟩, hc⟩ := (H.out.below (RCarton_mono _) hb01).at_ j hjl
  rw [hx] at hx3
  cases hx3
  have hc2 := hc 2 _ rfl
  have HRX := Lib.hid (hrx.more (flat_mono _) hb01.size)
  obtain ⟨Ax, cx, rfl, hxl, _⟩ := hrx
  have hn : 0 < x.units.length := by
   unfold hasU at hux
   obtain ⟨y, hy, _⟩ := List.any_eq_true.1 hux
   exact List.length_pos_of_mem hy
  clear hc hx hx2 hneg hj hux
  go_wp2_with fail
  refine (cloneInts_any _ x.units _ HRX.out).mono ?_
  rintro e w2 ⟨v3, f3, rfl, ho3, hb2⟩
  have HY2 := Lib.hid (blk_next HY1.out hb2)
  have hlt3 := ho3.lt
  have hly := lt_of_block HY1.out
  have hg : ∀ (W : World) (y : Int), (∀ b, b < w2.heap.size → b ∉ f3 → W.heap[b]? = w2.heap[b]?) → FnGives Tryz.prog 127 #[.pointer (some ⟨w.heap.size + 1, 0, none⟩)] #[.int .i64 y] (.bool (decide (y = u))) W := by
   intro W y hW
   refine together1_gives u y (w.heap.size + 1) W ?_
   have hq := (hW (w.heap.size + 1) (by have := hb2.size; omega) (fun hm => by have := (hlt3 _ hm).1; omega)).trans HY2.out
   rw [cell_of_row _ _ 0 _ _ (0, 0) hq]
   rfl
  have hd := deleteInts_any 127 #[.pointer (some ⟨w.heap.size + 1, 0, none⟩)] (fun y => decide (y = u)) v3 x.units f3 w1.heap.size w2 ho3 (by omega) hn eg hg
  have HD := Lib.hid hd
  have hb02 := bstep hb01 hb2
  have hlo : ∀ b ∈ f3, w.heap.size ≤ b := fun b hb => Nat.le_trans hb01.size (hlt3 b hb).1
  have HLO := Lib.hid hlo
  have hle : (x.units.filter fun y => !decide (y = u)).length ≤ 33554432 := Nat.le_trans (List.length_filter_le _ _) (by omega)
  clear hg hd hlo hlt3 ho3 hcx eg
  go_wp2_with fail
  refine HD.out.mono ?_
  rintro e w3 ⟨v4, rfl, ho4, ht3⟩
  have HB3 := Lib.hid (hb02.trans (ht3.below hb02.size HLO.out))
  have HO4 := Lib.hid ho4
  clear ho4 ht3
  go_wp2_with fail
  refine (sortInt_any v4 _ f3 _ _ HO4.out hle).mono ?_
  rintro e w4 ⟨rfl, ho5, ht4⟩
  have HO5 := Lib.hid ho5
  have HB4 := Lib.hid (HB3.out.trans (ht4.below HB3.out.size HLO.out))
  clear ho5 ht4
  go_wp2
  go_ret
  rw [HT.out]
  exact MInts.mk HO5.out hb01.size HB4.out
end Go.Proofs.YtioijfplbgpjpaaGreat
namespace Go.Proofs.YtioijfplbgpjpaaGreat
set_option linter.unusedVariables false
set_option linter.unusedSimpArgs false
set_option maxRecDepth 100000
open Go.RowKit
def kindsM (xs : List Int) : List Int := Lib.compact (sortI xs)
def movF (a b : Plan) (u : Int) : Bool := decide (0 ≤ cwith b.cartons u) && !decide (tog a u = tog b u)
def mov (a b : Plan) : List Int := (kindsM (allU a.cartons)).filter (movF a b)
theorem compact_le (xs : List Int) : (Lib.compact xs).length ≤ xs.length := by unfold Lib.compact Lib.compactUpTo; rw [List.length_map]; exact Nat.le_trans (List.length_filter_le _ _) (by simp)
theorem kindsM_le (xs : List Int) : (kindsM xs).length ≤ xs.length := by unfold kindsM; exact Nat.le_trans (compact_le _) (Nat.le_of_eq (sortI_length _))
theorem upTo_mem {d : Array Int} : ∀ {k : Nat} {u : Int}, u ∈ Lib.compactUpTo d k → ∃ j, j < k ∧ d[j]! = u := by
 intro k u h
 unfold Lib.compactUpTo at h
 obtain ⟨j, hj, rfl⟩ := List.mem_map.1 h
 exact ⟨j, List.mem_range.1 (List.mem_filter.1 hj).1, rfl⟩
theorem upTo_last {d : Array Int} : ∀ (k : Nat), ∃ l, Lib.compactUpTo d (k + 1) = l ++ [d[k]!]
 |0 => ⟨[], by rw [Lib.compactUpTo_succ]; simp [Lib.compactUpTo, Lib.keeps]⟩
 |k + 1 => by
  rw [Lib.compactUpTo_succ]
  cases h : Lib.keeps d (k + 1) with
  |true => exact ⟨Lib.compactUpTo d (k + 1), by simp⟩
  |false =>
   obtain ⟨l, hl⟩ := upTo_last (d := d) k
   refine ⟨l, ?_⟩
   simp only [Lib.keeps, decide_eq_false_iff_not] at h
   have : d[k + 1]! = d[k]! := by
    refine Classical.byContradiction fun hn => h (.inr ?_)
    simpa using hn
   simpa [this] using hl
theorem dd_same {sl : List Int} {k : Nat} {u : Int} (hs : sl.Pairwise (· ≤ ·)) (hk : sl[k]? = some u) (q : Int → Bool) (h : ((Lib.compactUpTo sl.toArray k).filter q).getLast? = some u) :
  (Lib.compactUpTo sl.toArray (k + 1)).filter q = (Lib.compactUpTo sl.toArray k).filter q := by
 obtain ⟨hk1, hk2⟩ := List.getElem?_eq_some_iff.1 hk
 have hd : ∀ j, j < sl.length → sl.toArray[j]! = sl[j]! := fun j hj => by simp
 rw [Lib.compactUpTo_succ]
 cases hq : Lib.keeps sl.toArray k with
 |false => simp
 |true =>
  exfalso
  have hm := List.mem_of_getLast? h
  obtain ⟨j, hj, hju⟩ := upTo_mem (List.mem_filter.1 hm).1
  simp only [Lib.keeps, decide_eq_true_eq] at hq
  have hk0 : 0 < k := by omega
  rcases hq with hq | hq
  ·omega
  ·apply hq
   have e1 : sl.toArray[k]! = u := by simp [hk1, hk2]
   have h1 : sl[j]'(by omega) = u := by simpa [show j < sl.length by omega] using hju
   have h2 : sl[j]'(by omega) ≤ sl[k - 1]'(by omega) := by
    rcases Nat.lt_or_ge j (k - 1) with h | h
    ·exact List.pairwise_iff_getElem.1 hs j (k - 1) (by omega) (by omega) h
    ·obtain rfl : j = k - 1 := by omega
     exact Int.le_refl _
   have h3 : sl[k - 1]'(by omega) ≤ sl[k] := List.pairwise_iff_getElem.1 hs (k - 1) k (by omega) hk1 (by omega)
   rw [e1]
   simp [show k - 1 < sl.length by omega]
   omega
theorem dd_new {sl : List Int} {k : Nat} {u : Int} (hk : sl[k]? = some u) (q : Int → Bool) (h : ((Lib.compactUpTo sl.toArray k).filter q).getLast? ≠ some u) :
  (Lib.compactUpTo sl.toArray (k + 1)).filter q = (Lib.compactUpTo sl.toArray k).filter q ++ (if q u then [u] else []) := by
 obtain ⟨hk1, hk2⟩ := List.getElem?_eq_some_iff.1 hk
 have e1 : sl.toArray[k]! = u := by simp [hk1, hk2]
 rw [Lib.compactUpTo_succ, e1, List.filter_append]
 cases hq : Lib.keeps sl.toArray k with
 |true => simp [List.filter_cons]
 |false =>
  cases hqu : q u with
  |false => simp
  |true =>
   exfalso
   apply h
   simp only [Lib.keeps, decide_eq_false_iff_not] at hq
   obtain ⟨m, rfl⟩ : ∃ m, k = m + 1 := ⟨k - 1, by omega⟩
   have e2 : sl.toArray[m]! = u := by
    refine Classical.byContradiction fun hn => hq (.inr ?_)
    rw [e1]
    exact fun e => hn e.symm
   obtain ⟨l, hl⟩ := upTo_last (d := sl.toArray) m
   rw [hl, e2, List.filter_append]
   simp [hqu]
set_option maxHeartbeats 400000 in
theorem kinds_any (v : Value) (xs : List Int) (w : World) (h : RInts 16777216 w w.heap.size v xs) : Calls Tryz.prog 107 #[v] w (MInts w (kindsM xs)) := by
 have H := Lib.hid h
 have hl := h.len
 clear h
 go_enter Tryz.func107, Tryz.ntmps107
 go_wp2_with fail
 refine (cloneInts_any _ xs _ H.out).mono ?_
 rintro e w1 ⟨v1, f1, rfl, ho1, hb1⟩
 have hlo := fun b hb => (ho1.lt b hb).1
 have HLO := Lib.hid hlo
 have HO1 := Lib.hid ho1
 clear ho1 hlo
 go_wp2_with fail
 refine (sortInt_any v1 _ f1 _ _ HO1.out (by omega)).mono ?_
 rintro e w2 ⟨rfl, ho2, ht2⟩
 have HB2 := Lib.hid (hb1.trans (ht2.below hb1.size HLO.out))
 have HO2 := Lib.hid ho2
 clear ho2 ht2
 go_wp2_with fail
 refine (compactInt_any v1 _ f1 _ _ HO2.out (by rw [sortI_length]; omega)).mono ?_
 rintro e w3 ⟨v3, rfl, ho3, ht3⟩
 have HB3 := Lib.hid (HB2.out.trans (ht3.below HB2.out.size HLO.out))
 have HO3 := Lib.hid ho3
 clear ho3 ht3
 go_wp2
 go_ret
 exact MInts.mk HO3.out (Nat.le_refl _) HB3.out
set_option maxHeartbeats 1000000 in
theorem iMoved_any (va vb : Value) (a b : Plan) (w : World) (ha : RPlan 16777216 w w.heap.size va a) (hb : RPlan 16777216 w w.heap.size vb b) (hLa : a.bulk ≤ 16777216) (hLb : b.bulk ≤ 16777216) : Calls Tryz.prog 45 #[va, vb] w (MInts w (mov a b)) := by
 have HA := Lib.hid ha
 have HB := Lib.hid hb
 obtain ⟨a1, a2, rfl, _, _⟩ := ha
 obtain ⟨b1, b2, rfl, _, _⟩ := hb
 have hW0 : Below w.heap.size w (((w.alloc (.cells #[a1, a2] 46)).alloc (.cells #[b1, b2] 46)).alloc (.cells #[] 3)) := (by repeat' (first | with_reducible exact Below.refl _ _ | with_reducible assumption | with_reducible refine Below.drew ?_ | with_reducible refine Below.alloc ?_ ?_ _ | with_reducible refine Below.setCell ?_ ?_ _ | with_reducible refine below_drewN ?_ _ | (simp; done) | (simp; omega)))
 have HX0 : Hid ((((w.alloc (.cells #[a1, a2] 46)).alloc (.cells #[b1, b2] 46)).alloc (.cells #[] 3)).heap[w.heap.size]? = some (.cells #[a1, a2] 46 (0, 0))) := Lib.hid (by (simp only [heap_alloc_if, World.size_alloc]; repeat (first | rw [if_neg (by omega)] | rw [if_pos (by omega)] | rw [if_pos trivial])))
 have HY0 : Hid ((((w.alloc (.cells #[a1, a2] 46)).alloc (.cells #[b1, b2] 46)).alloc (.cells #[] 3)).heap[w.heap.size + 1]? = some (.cells #[b1, b2] 46 (0, 0))) := Lib.hid (by (simp only [heap_alloc_if, World.size_alloc]; repeat (first | rw [if_neg (by omega)] | rw [if_pos (by omega)] | rw [if_pos trivial])))
 have HZ0 : Hid ((((w.alloc (.cells #[a1, a2] 46)).alloc (.cells #[b1, b2] 46)).alloc (.cells #[] 3)).heap[w.heap.size + 2]? = some (.cells #[] 3 (0, 0))) := Lib.hid (by (simp only [heap_alloc_if, World.size_alloc]; repeat (first | rw [if_neg (by omega)] | rw [if_pos (by omega)] | rw [if_pos trivial])))
 have hAl := Nat.le_trans (allU_bulk a) hLa
 go_enter Tryz.func45, Tryz.ntmps45
 go_wp2_with fail
 refine (allUnits_any _ a _ (HA.out.next hW0) hLa).mono ?_
 rintro e w1 ⟨v1, f1, rfl, ho1, hb1⟩
 have HO1 := Lib.hid ho1
 clear ho1
 go_wp2_with fail
 refine (kinds_any _ _ _ (HO1.out.read hAl)).mono ?_
 rintro e w2 ⟨v2, f2, rfl, ho2, hb2⟩
 have HX2 := Lib.hid (blk_next (blk_next HX0.out hb1) hb2)
 have HY2 := Lib.hid (blk_next (blk_next HY0.out hb1) hb2)
 have HZ2 := Lib.hid (blk_next (blk_next HZ0.out hb1) hb2)
 have hW2 := bstep (bstep hW0 hb1) hb2
 obtain ⟨ks, hks⟩ : ∃ l, l = kindsM (allU a.cartons) := ⟨_, rfl⟩
 have hkl : ks.length ≤ 16777216 := by rw [hks]; exact Nat.le_trans (kindsM_le _) hAl
 have HM := Lib.hid (show mov a b = ks.filter (movF a b) by rw [hks]; rfl)
 rw [← hks] at ho2
 have HK := Lib.hid (ho2.read hkl)
 obtain ⟨A2, c2, rfl, hc2⟩ := OInts.form ho2
 have hlX := lt_of_block HX2.out
 have hlY := lt_of_block HY2.out
 have hlZ := lt_of_block HZ2.out
 have hw02 := hW2.size
 clear ho2 hks hb1 hb2
 go_wp2
 go_loopw [5, 13] (fun v iv wr => ∃ k : Nat, k ≤ ks.length ∧ iv = .int .i64 k ∧ ownsZ wr w.heap.size w2.heap.size 3 1 v ((ks.take k).filter (movF a b)).length (((ks.take k).filter (movF a b)).flatMap cI) ∧ Below w2.heap.size w2 wr) (fun _ iv _ => ks.length - (intOf iv).toNat)
 case atStart => exact ⟨0, Nat.zero_le _, rfl, ownsZ_start (g := w.heap.size + 2) (by omega) hlZ HZ2.out, Below.refl _ _⟩
 case round =>
  obtain ⟨k, hk, rfl, hown, hbl⟩ := hrel
  have HO := Lib.hid hown
  have HWr := Lib.hid (hW2.trans (hbl.mono hw02))
  have hbx := (hbl.block _ hlX).trans HX2.out
  have hby := (hbl.block _ hlY).trans HY2.out
  have hsz := hbl.size
  clear hown
  by_cases hlt : k < ks.length
  ·obtain ⟨u, hu⟩ : ∃ u, ks[k]? = some u := ⟨_, List.getElem?_eq_getElem hlt⟩
   obtain ⟨bk, ok, x, rfl, hbk, hx, hcx⟩ := RL.at1 (HK.out.below (flat_mono _) hbl) k hlt
   rw [hu] at hx
   cases hx
   have hcu := hcx _ rfl
   have htk : ks.take (k + 1) = ks.take k ++ [u] := by rw [List.take_add_one, hu]; rfl
   have HTK := Lib.hid htk
   have hle : ((ks.take k).filter (movF a b)).length ≤ k := Nat.le_trans (List.length_filter_le _ _) (List.length_take_le _ _)
   have hq1 : wr.cell? ⟨w.heap.size, 0, none⟩ = some a1 := cell_of_row _ _ 0 _ _ (0, 0) hbx
   have hq2 : wr.cell? ⟨w.heap.size, 1, none⟩ = some a2 := cell_of_row _ _ 1 _ _ (0, 0) hbx
   have hq3 : wr.cell? ⟨w.heap.size + 1, 0, none⟩ = some b1 := cell_of_row _ _ 0 _ _ (0, 0) hby
   have hq4 : wr.cell? ⟨w.heap.size + 1, 1, none⟩ = some b2 := cell_of_row _ _ 1 _ _ (0, 0) hby
   have hlX' : w.heap.size < wr.heap.size := by omega
   have hlY' : w.heap.size + 1 < wr.heap.size := by omega
   have hbd : Below wr.heap.size wr wr.drew := (Below.refl _ _).drew
   obtain ⟨cw, hcw⟩ : ∃ x, cwith b.cartons u = x := ⟨_, rfl⟩
   have HCW := Lib.hid hcw
   have HWd := Lib.hid (bstep HWr.out hbd)
   clear hcx hu htk hbx hby hcw
   by_cases hneg : cw < 0
   ·have hd1 : decide (0 ≤ cw) = false := by simp; omega
    have HF := Lib.hid (show movF a b u = false by unfold movF; rw [HCW.out, hd1]; rfl)
    have hE := fun X : Ext wr.heap.size wr => ext_call (x := X) (Nat.le_refl _) (iCartonWith_any _ b u _ (HB.out.next (bstep HWr.out X.ok)))
    simp only [HCW.out] at hE
    have HE := Lib.hid hE
    have he3 := fun X : Ext wr.heap.size wr => (X.cells (o := 0) hlY').trans hq3
    have he4 := fun X : Ext wr.heap.size wr => (X.cells (o := 1) hlY').trans hq4
    clear hq1 hq2 hq3 hq4 hE
    go_wp2
    refine wp_region_ext wr.heap.size (by kernel_rfl) (by kernel_rfl) ?_
    repeat (go_big_quiet_step (exact HE.out _))
    refine wpQuiet_nil ?_
    intro _ hw'
    obtain ⟨X, rfl⟩ := hw'
    go_wp2
    go_roundw
    case rel => exact ⟨k + 1, hlt, by go_num, by rw [HTK.out, List.filter_append]; simpa [HF.out] using (HO.out.next X.ok), hbl.trans (X.ok.mono hsz)⟩
    case measure => simp [intOf]; omega
   ·have hd1 : decide (0 ≤ cw) = true := by simp; omega
    obtain ⟨ta, hta⟩ : ∃ l, l = tog a u := ⟨_, rfl⟩
    obtain ⟨tb, htb⟩ : ∃ l, l = tog b u := ⟨_, rfl⟩
    have htal : ta.length ≤ 16777216 := by rw [hta]; exact Nat.le_trans (tog_len a u) hLa
    have htbl : tb.length ≤ 16777216 := by rw [htb]; exact Nat.le_trans (tog_len b u) hLb
    have HF := Lib.hid (show movF a b u = !decide (ta = tb) by unfold movF; rw [HCW.out, hd1, hta, htb]; rfl)
    have HTA := Lib.hid (fun W (hW : RPlan 16777216 W W.heap.size (.agg #[a1, a2]) a) => by have := iTogether_any _ a u W hW hLa; rwa [← hta] at this)
    have HTB := Lib.hid (fun W (hW : RPlan 16777216 W W.heap.size (.agg #[b1, b2]) b) => by have := iTogether_any _ b u W hW hLb; rwa [← htb] at this)
    have HD := Lib.hid hd1
    have hge : 0 ≤ cw := by omega
    clear hta htb hneg hd1
    go_wp2
    go_region_held3 (fun W' => W'.cell? ⟨w.heap.size, 0, none⟩ = some a1 ∧ W'.cell? ⟨w.heap.size, 1, none⟩ = some a2 ∧ W'.cell? ⟨w.heap.size + 1, 0, none⟩ = some b1 ∧ W'.cell? ⟨w.heap.size + 1, 1, none⟩ = some b2)
     (first | go_keep | exact ⟨k1, k2, k3, k4⟩ | exact ⟨l1, l2, l3, l4⟩ | exact ⟨m1, m2, m3, m4⟩ | exact ⟨n1, n2, n3, n4⟩)
     (first
      |(go_at_call 49; refine (iCartonWith_any _ b u _ (HB.out.next HWd.out)).mono ?_; rintro e w5 ⟨rfl, hb5⟩; rw [HCW.out]; have k1 := (hb5.cell (p := ⟨w.heap.size, 0, none⟩) hlX').trans hq1; have k2 := (hb5.cell (p := ⟨w.heap.size, 1, none⟩) hlX').trans hq2; have k3 := (hb5.cell (p := ⟨w.heap.size + 1, 0, none⟩) hlY').trans hq3; have k4 := (hb5.cell (p := ⟨w.heap.size + 1, 1, none⟩) hlY').trans hq4; have hs5 := hb5.size; have HW5 := Lib.hid (bstep HWd.out hb5))
      |(go_at_call 48; ((with_reducible refine (HTA.out _ (HA.out.next HW5.out)).mono ?_)); rintro e w6 ⟨u6, f6, rfl, ho6, hb6⟩; have l1 := (hb6.cell (p := ⟨w.heap.size, 0, none⟩) (Nat.lt_of_lt_of_le hlX' hs5)).trans k1; have l2 := (hb6.cell (p := ⟨w.heap.size, 1, none⟩) (Nat.lt_of_lt_of_le hlX' hs5)).trans k2; have l3 := (hb6.cell (p := ⟨w.heap.size + 1, 0, none⟩) (Nat.lt_of_lt_of_le hlY' hs5)).trans k3; have l4 := (hb6.cell (p := ⟨w.heap.size + 1, 1, none⟩) (Nat.lt_of_lt_of_le hlY' hs5)).trans k4; have hs6 := Nat.le_trans hs5 hb6.size; have HW6 := Lib.hid (bstep HW5.out hb6); have HO6 := Lib.hid ho6; clear ho6)
      |(go_at_call 48; ((with_reducible refine (HTB.out _ (HB.out.next HW6.out)).mono ?_)); rintro e w7 ⟨u7, f7, rfl, ho7, hb7⟩; have m1 := (hb7.cell (p := ⟨w.heap.size, 0, none⟩) (Nat.lt_of_lt_of_le hlX' hs6)).trans l1; have m2 := (hb7.cell (p := ⟨w.heap.size, 1, none⟩) (Nat.lt_of_lt_of_le hlX' hs6)).trans l2; have m3 := (hb7.cell (p := ⟨w.heap.size + 1, 0, none⟩) (Nat.lt_of_lt_of_le hlY' hs6)).trans l3; have m4 := (hb7.cell (p := ⟨w.heap.size + 1, 1, none⟩) (Nat.lt_of_lt_of_le hlY' hs6)).trans l4; have hs7 := Nat.le_trans hs6 hb7.size; have HW7 := Lib.hid (bstep HW6.out hb7); have HO7 := Lib.hid ho7; have HO67 := Lib.hid (HO6.out.next hb7); clear ho7)
      |(go_at_call 122; refine (equalInt_any _ _ ta tb _ (HO67.out.read htal) (HO7.out.read htbl)).mono ?_; rintro e w8 ⟨rfl, hb8⟩; have n1 := (hb8.cell (p := ⟨w.heap.size, 0, none⟩) (Nat.lt_of_lt_of_le hlX' hs7)).trans m1; have n2 := (hb8.cell (p := ⟨w.heap.size, 1, none⟩) (Nat.lt_of_lt_of_le hlX' hs7)).trans m2; have n3 := (hb8.cell (p := ⟨w.heap.size + 1, 0, none⟩) (Nat.lt_of_lt_of_le hlY' hs7)).trans m3; have n4 := (hb8.cell (p := ⟨w.heap.size + 1, 1, none⟩) (Nat.lt_of_lt_of_le hlY' hs7)).trans m4))
    have HB8 := Lib.hid (bstep (bstep (bstep (bstep hbd hb5) hb6) hb7) hb8)
    have HO8 := Lib.hid (HO.out.next HB8.out)
    have hs8 : w2.heap.size ≤ w8.heap.size := Nat.le_trans hsz HB8.out.size
    clear hq1 hq2 hq3 hq4 k1 k2 k3 k4 l1 l2 l3 l4 m1 m2 m3 m4 n1 n2 n3 n4 hb5 hb6 hb7 hb8
    by_cases heq : ta = tb
    ·have HF2 := Lib.hid (show movF a b u = false by rw [HF.out]; simp [heq])
     have hde : decide (ta = tb) = true := by simp [heq]
     rw [hde]
     clear heq hde
     go_wp2
     go_roundw
     case rel => exact ⟨k + 1, hlt, by go_num, by rw [HTK.out, List.filter_append]; simpa [HF2.out] using HO8.out, hbl.trans (HB8.out.mono hsz)⟩
     case measure => simp [intOf]; omega
    ·have HF2 := Lib.hid (show movF a b u = true by rw [HF.out]; simp [heq])
     have hde : decide (ta = tb) = false := by simp [heq]
     rw [hde]
     clear heq hde
     go_wp2_with (at_builtin; refine at_app (.tmp 31) (.tmp 33) 53 rfl ?_; refine appZ1_Int (.tmp 31) (.tmp 33) rfl rfl _ rfl rfl rfl rfl HO8.out (by omega) hs8 ?_; intro v' w' ho hb _ _)
     go_roundw
     case rel => exact ⟨k + 1, hlt, by go_num, by rw [HTK.out, List.filter_append]; simpa [HF2.out] using ho, (hbl.trans (HB8.out.mono hsz)).trans hb⟩
     case measure => simp [intOf]; omega
  ·obtain rfl : k = ks.length := by omega
   rw [List.take_length] at HO
   go_wp2
   go_ret
   rw [HM.out]
   exact MInts.row (HO.out.own hw02) (Nat.le_refl _) HWr.out
set_option maxHeartbeats 1000000 in
theorem sMoved_any (va vb : Value) (a b : Plan) (w : World) (ha : RPlan 16777216 w w.heap.size va a) (hb : RPlan 16777216 w w.heap.size vb b) (hLa : a.bulk ≤ 16777216) (hLb : b.bulk ≤ 16777216) : Calls Tryz.prog 47 #[va, vb] w (MInts w (mov a b)) := by
 have HA := Lib.hid ha
 have HB := Lib.hid hb
 obtain ⟨a1, a2, rfl, _, _⟩ := ha
 obtain ⟨b1, b2, rfl, _, _⟩ := hb
 have hW0 : Below w.heap.size w (((w.alloc (.cells #[a1, a2] 46)).alloc (.cells #[b1, b2] 46)).alloc (.cells #[] 3)) := (by repeat' (first | with_reducible exact Below.refl _ _ | with_reducible assumption | with_reducible refine Below.drew ?_ | with_reducible refine Below.alloc ?_ ?_ _ | with_reducible refine Below.setCell ?_ ?_ _ | with_reducible refine below_drewN ?_ _ | (simp; done) | (simp; omega)))
 have HX0 : Hid ((((w.alloc (.cells #[a1, a2] 46)).alloc (.cells #[b1, b2] 46)).alloc (.cells #[] 3)).heap[w.heap.size]? = some (.cells #[a1, a2] 46 (0, 0))) := Lib.hid (by (simp only [heap_alloc_if, World.size_alloc]; repeat (first | rw [if_neg (by omega)] | rw [if_pos (by omega)] | rw [if_pos trivial])))
 have HY0 : Hid ((((w.alloc (.cells #[a1, a2] 46)).alloc (.cells #[b1, b2] 46)).alloc (.cells #[] 3)).heap[w.heap.size + 1]? = some (.cells #[b1, b2] 46 (0, 0))) := Lib.hid (by (simp only [heap_alloc_if, World.size_alloc]; repeat (first | rw [if_neg (by omega)] | rw [if_pos (by omega)] | rw [if_pos trivial])))
 have HZ0 : Hid ((((w.alloc (.cells #[a1, a2] 46)).alloc (.cells #[b1, b2] 46)).alloc (.cells #[] 3)).heap[w.heap.size + 2]? = some (.cells #[] 3 (0, 0))) := Lib.hid (by (simp only [heap_alloc_if, World.size_alloc]; repeat (first | rw [if_neg (by omega)] | rw [if_pos (by omega)] | rw [if_pos trivial])))
 have hAl := Nat.le_trans (allU_bulk a) hLa
 obtain ⟨fl, hfl⟩ : ∃ l, l = allU a.cartons := ⟨_, rfl⟩
 obtain ⟨sl, hsl⟩ : ∃ l, l = sortI fl := ⟨_, rfl⟩
 obtain ⟨au, hau⟩ : ∃ l, l = argUp fl := ⟨_, rfl⟩
 rw [← hfl] at hAl
 have hsll : sl.length = fl.length := by rw [hsl, sortI_length]
 have haul : au.length = fl.length := by rw [hau, argUp_length]
 have HM := Lib.hid (show mov a b = (Lib.compactUpTo sl.toArray fl.length).filter (movF a b) by rw [← hsll, hsl, hfl]; rfl)
 have HSO := Lib.hid (show sl.Pairwise (· ≤ ·) by rw [hsl]; exact sortI_sorted _)
 have HG := Lib.hid (show ∀ k p, au[k]? = some p → sl[k]? = some (keyAt fl p) ∧ p < fl.length by
  intro k p hp
  rw [hau] at hp
  exact ⟨by rw [hsl]; exact sortI_at hp, argUp_mem.1 (List.mem_of_getElem? hp)⟩)
 have HF1 := Lib.hid (fun W (hW : RPlan 16777216 W W.heap.size (.agg #[a1, a2]) a) => by have := l15Flat_any _ a W hW hLa; rwa [← hfl] at this)
 have HU := Lib.hid (fun W v (hW : RInts 16777216 W W.heap.size v fl) => by have := sSortUp_any v fl W hW; rwa [← hau] at this)
 have HSL := Lib.hid hsll
 have HAL := Lib.hid haul
 clear hfl hsl hau hsll haul
 go_enter Tryz.func47, Tryz.ntmps47
 go_wp2_with fail
 refine (HF1.out _ (HA.out.next hW0)).mono ?_
 rintro e w1 ⟨v1, f1, rfl, ho1, hb1⟩
 have HO1 := Lib.hid ho1
 clear ho1
 go_wp2_with fail
 refine (HU.out _ _ (HO1.out.read hAl)).mono ?_
 rintro e w2 ⟨v2, f2, rfl, ho2, hb2⟩
 have HX2 := Lib.hid (blk_next (blk_next HX0.out hb1) hb2)
 have HY2 := Lib.hid (blk_next (blk_next HY0.out hb1) hb2)
 have HZ2 := Lib.hid (blk_next (blk_next HZ0.out hb1) hb2)
 have hW2 := bstep (bstep hW0 hb1) hb2
 have HKF := Lib.hid ((HO1.out.next hb2).read hAl)
 have HKA := Lib.hid (ho2.read (by rw [ints_length, HAL.out]; exact hAl))
 obtain ⟨A1, c1, rfl, hc1⟩ := OInts.form HO1.out
 obtain ⟨A2, c2, rfl, hc2⟩ := OInts.form ho2
 rw [ints_length, HAL.out] at HKA ⊢
 have hlX := lt_of_block HX2.out
 have hlY := lt_of_block HY2.out
 have hlZ := lt_of_block HZ2.out
 have hw02 := hW2.size
 clear ho2 hb1 hb2 hc2
 go_wp2
 go_loopw [5, 8] (fun v iv wr => ∃ k : Nat, k ≤ fl.length ∧ iv = .int .i64 k ∧ ownsZ wr w.heap.size w2.heap.size 3 1 v ((Lib.compactUpTo sl.toArray k).filter (movF a b)).length (((Lib.compactUpTo sl.toArray k).filter (movF a b)).flatMap cI) ∧ Below w2.heap.size w2 wr) (fun _ iv _ => fl.length - (intOf iv).toNat)
 case atStart => exact ⟨0, Nat.zero_le _, rfl, ownsZ_start (g := w.heap.size + 2) (by omega) hlZ HZ2.out, Below.refl _ _⟩
 case round =>
  obtain ⟨k, hk, rfl, hown, hbl⟩ := hrel
  have HWr := Lib.hid (hW2.trans (hbl.mono hw02))
  have hsz := hbl.size
  by_cases hlt : k < fl.length
  ·obtain ⟨pl, hpl⟩ : ∃ q, au[k]? = some q := ⟨_, List.getElem?_eq_getElem (by rw [HAL.out]; exact hlt)⟩
   obtain ⟨hsk, hpu⟩ := HG.out k pl hpl
   obtain ⟨ba, oa, rfl, hba, hca⟩ := ints_read (HKA.out.below (flat_mono _) hbl) k hpl
   obtain ⟨bu, ou, xu, rfl, hbu, hxu, hcu⟩ := RL.at1 (HKF.out.below (flat_mono _) hbl) pl hpu
   rw [keyAt_get hpu] at hxu
   cases hxu
   have hcu' := hcu _ rfl
   obtain ⟨u, hu⟩ : ∃ y, keyAt fl pl = y := ⟨_, rfl⟩
   rw [hu] at hcu' hsk
   have HSK := Lib.hid hsk
   have hbx := (hbl.block _ hlX).trans HX2.out
   have hby := (hbl.block _ hlY).trans HY2.out
   have hq1 : wr.cell? ⟨w.heap.size, 0, none⟩ = some a1 := cell_of_row _ _ 0 _ _ (0, 0) hbx
   have hq2 : wr.cell? ⟨w.heap.size, 1, none⟩ = some a2 := cell_of_row _ _ 1 _ _ (0, 0) hbx
   have hq3 : wr.cell? ⟨w.heap.size + 1, 0, none⟩ = some b1 := cell_of_row _ _ 0 _ _ (0, 0) hby
   have hq4 : wr.cell? ⟨w.heap.size + 1, 1, none⟩ = some b2 := cell_of_row _ _ 1 _ _ (0, 0) hby
   have hlX' : w.heap.size < wr.heap.size := by omega
   have hlY' : w.heap.size + 1 < wr.heap.size := by omega
   obtain ⟨out, hout⟩ : ∃ l, l = (Lib.compactUpTo sl.toArray k).filter (movF a b) := ⟨_, rfl⟩
   have hol : out.length ≤ k := by
    rw [hout]; refine Nat.le_trans (List.length_filter_le _ _) ?_
    unfold Lib.compactUpTo; rw [List.length_map]; exact Nat.le_trans (List.length_filter_le _ _) (by simp)
   rw [← hout] at hown
   have HOUT := Lib.hid hout
   clear hcu hpl hu hsk hbx hby hout
   by_cases hlast : out.getLast? = some u
   ·have HS := Lib.hid (show (Lib.compactUpTo sl.toArray (k + 1)).filter (movF a b) = out by rw [dd_same HSO.out HSK.out _ (by rw [← HOUT.out]; exact hlast), HOUT.out])
    obtain ⟨out', rfl⟩ : ∃ l, out = l ++ [u] := by
     rw [List.getLast?_eq_some_iff] at hlast
     exact hlast
    have hr := own_ints (hown.own hw02) (by omega)
    obtain ⟨Ao, co, rfl⟩ := own_form (hown.own hw02)
    obtain ⟨bo, oo, y, rfl, _, hy, hcy⟩ := RL.at1 hr out'.length (by simp)
    have hy' : y = u := by simpa using hy.symm
    subst hy'
    have hcl := hcy _ rfl
    have HO := Lib.hid hown
    have hol2 : out'.length + 1 ≤ k := by simpa using hol
    clear hr hcy hy hown hlast hol hq1 hq2 hq3 hq4
    rw [List.length_append, List.length_singleton] at HO ⊢
    go_wp2
    go_roundw
    case rel => exact ⟨k + 1, hlt, by go_num, by rw [HS.out, List.length_append]; exact HO.out, hbl⟩
    case measure => simp [intOf]; omega
   ·have HS := Lib.hid (dd_new HSK.out (movF a b) (by rw [← HOUT.out]; exact hlast))
    obtain ⟨cw, hcw⟩ : ∃ x, cwith b.cartons u = x := ⟨_, rfl⟩
    have HCW := Lib.hid hcw
    have hcwl : decide (0 ≤ cw) = !decide (cw < 0) := by rw [Bool.eq_iff_iff]; simp
    have HCL := Lib.hid hcwl
    obtain ⟨ta, hta⟩ : ∃ l, l = tog a u := ⟨_, rfl⟩
    obtain ⟨tb, htb⟩ : ∃ l, l = tog b u := ⟨_, rfl⟩
    have htal : ta.length ≤ 16777216 := by rw [hta]; exact Nat.le_trans (tog_len a u) hLa
    have htbl : tb.length ≤ 16777216 := by rw [htb]; exact Nat.le_trans (tog_len b u) hLb
    have HF := Lib.hid (show movF a b u = (!decide (cw < 0) && !decide (ta = tb)) by unfold movF; rw [HCW.out, hcwl, hta, htb])
    have HTA := Lib.hid (fun W (hW : RPlan 16777216 W W.heap.size (.agg #[a1, a2]) a) => by have := sTogether_any _ a u W hW hLa; rwa [← hta] at this)
    have HTB := Lib.hid (fun W (hW : RPlan 16777216 W W.heap.size (.agg #[b1, b2]) b) => by have := sTogether_any _ b u W hW hLb; rwa [← htb] at this)
    have HO := Lib.hid hown
    have hcases : out.length = 0 ∨ ∃ bo oo co y n, u5 = .slice (some ⟨bo, oo, none⟩) (n + 1) co ∧ out.length = n + 1 ∧ wr.cell? ⟨bo, oo + n, none⟩ = some (.int .i64 y) ∧ y ≠ u := by
     rcases Nat.eq_zero_or_pos out.length with h0 | h0
     ·exact .inl h0
     ·right
      have hr := own_ints (hown.own hw02) (by omega)
      obtain ⟨Ao, co, rfl⟩ := own_form (hown.own hw02)
      obtain ⟨bo, oo, y, rfl, _, hy, hcy⟩ := RL.at1 hr (out.length - 1) (by omega)
      refine ⟨bo, oo, co, y, out.length - 1, by rw [Nat.sub_add_cancel h0], by omega, hcy _ rfl, fun e => hlast ?_⟩
      rw [List.getLast?_eq_getElem?, hy, e]
    have hform : ∃ Ao co, u5 = .slice Ao out.length co := own_form (hown.own hw02)
    clear hcw hcwl hta htb hlast hown
    rcases hcases with h0 | ⟨bo, oo, co, y, n, rfl, hn, hcl, hyu⟩
    ·obtain ⟨Ao, co, rfl⟩ := hform
     have hn0 : out = [] := List.eq_nil_of_length_eq_zero h0
     subst hn0
     clear h0
     by_cases hneg : cw < 0
     ·have HF2 := Lib.hid (show movF a b u = false by rw [HF.out]; simp [hneg])
      go_wp2_with (go_at_call 70; refine (sCartonWith_any _ b u _ (HB.out.next HWr.out)).mono ?_; rintro e w5 ⟨rfl, hb5⟩; rw [HCW.out])
      go_roundw
      case rel => exact ⟨k + 1, hlt, by go_num, by rw [HS.out, HF2.out, ← HOUT.out]; simpa using HO.out.next hb5, hbl.trans (hb5.mono hsz)⟩
      case measure => simp [intOf]; omega
     ·have hge : 0 ≤ cw := by omega
      have hd2 : decide (cw < 0) = false := by simp; omega
      have HF2 := Lib.hid (show movF a b u = !decide (ta = tb) by rw [HF.out, hd2]; rfl)
      clear hd2 hneg
      go_wp2_with (go_at_call 70; refine (sCartonWith_any _ b u _ (HB.out.next HWr.out)).mono ?_; rintro e w5 ⟨rfl, hb5⟩; rw [HCW.out]; have k1 := (hb5.cell (p := ⟨w.heap.size, 0, none⟩) hlX').trans hq1; have k2 := (hb5.cell (p := ⟨w.heap.size, 1, none⟩) hlX').trans hq2; have k3 := (hb5.cell (p := ⟨w.heap.size + 1, 0, none⟩) hlY').trans hq3; have k4 := (hb5.cell (p := ⟨w.heap.size + 1, 1, none⟩) hlY').trans hq4; clear hq1 hq2 hq3 hq4)
      have hs5 := hb5.size
      have hlX5 : w.heap.size < w5.heap.size := by omega
      have hlY5 : w.heap.size + 1 < w5.heap.size := by omega
      have hbd : Below w5.heap.size w5 w5.drew := (Below.refl _ _).drew
      have HW5 := Lib.hid (bstep (bstep HWr.out hb5) hbd)
      go_region_held3 (fun W' => W'.cell? ⟨w.heap.size, 0, none⟩ = some a1 ∧ W'.cell? ⟨w.heap.size, 1, none⟩ = some a2 ∧ W'.cell? ⟨w.heap.size + 1, 0, none⟩ = some b1 ∧ W'.cell? ⟨w.heap.size + 1, 1, none⟩ = some b2)
       (first | go_keep | exact ⟨l1, l2, l3, l4⟩ | exact ⟨m1, m2, m3, m4⟩ | exact ⟨n1, n2, n3, n4⟩)
       (first
        |(go_at_call 69; ((with_reducible refine (HTA.out _ (HA.out.next HW5.out)).mono ?_)); rintro e w6 ⟨u6, f6, rfl, ho6, hb6⟩; have l1 := (hb6.cell (p := ⟨w.heap.size, 0, none⟩) hlX5).trans k1; have l2 := (hb6.cell (p := ⟨w.heap.size, 1, none⟩) hlX5).trans k2; have l3 := (hb6.cell (p := ⟨w.heap.size + 1, 0, none⟩) hlY5).trans k3; have l4 := (hb6.cell (p := ⟨w.heap.size + 1, 1, none⟩) hlY5).trans k4; have hs6 := hb6.size; have HW6 := Lib.hid (bstep HW5.out hb6); have HO6 := Lib.hid ho6; clear ho6)
        |(go_at_call 69; ((with_reducible refine (HTB.out _ (HB.out.next HW6.out)).mono ?_)); rintro e w7 ⟨u7, f7, rfl, ho7, hb7⟩; have m1 := (hb7.cell (p := ⟨w.heap.size, 0, none⟩) (Nat.lt_of_lt_of_le hlX5 hs6)).trans l1; have m2 := (hb7.cell (p := ⟨w.heap.size, 1, none⟩) (Nat.lt_of_lt_of_le hlX5 hs6)).trans l2; have m3 := (hb7.cell (p := ⟨w.heap.size + 1, 0, none⟩) (Nat.lt_of_lt_of_le hlY5 hs6)).trans l3; have m4 := (hb7.cell (p := ⟨w.heap.size + 1, 1, none⟩) (Nat.lt_of_lt_of_le hlY5 hs6)).trans l4; have hs7 := Nat.le_trans hs6 hb7.size; have HW7 := Lib.hid (bstep HW6.out hb7); have HO7 := Lib.hid ho7; have HO67 := Lib.hid (HO6.out.next hb7); clear ho7)
        |(go_at_call 124; refine (l1Same_any _ _ ta tb _ (HO67.out.read htal) (HO7.out.read htbl)).mono ?_; rintro e w8 ⟨rfl, hb8⟩; have n1 := (hb8.cell (p := ⟨w.heap.size, 0, none⟩) (Nat.lt_of_lt_of_le hlX5 hs7)).trans m1; have n2 := (hb8.cell (p := ⟨w.heap.size, 1, none⟩) (Nat.lt_of_lt_of_le hlX5 hs7)).trans m2; have n3 := (hb8.cell (p := ⟨w.heap.size + 1, 0, none⟩) (Nat.lt_of_lt_of_le hlY5 hs7)).trans m3; have n4 := (hb8.cell (p := ⟨w.heap.size + 1, 1, none⟩) (Nat.lt_of_lt_of_le hlY5 hs7)).trans m4))
      have HB8 := Lib.hid (bstep (bstep (bstep (bstep hb5 hbd) hb6) hb7) hb8)
      have HO8 := Lib.hid (HO.out.next HB8.out)
      have hs8 : w2.heap.size ≤ w8.heap.size := Nat.le_trans hsz HB8.out.size
      clear k1 k2 k3 k4 l1 l2 l3 l4 m1 m2 m3 m4 n1 n2 n3 n4 hb5 hb6 hb7 hb8
      by_cases heq : ta = tb
      ·have HF3 := Lib.hid (show movF a b u = false by rw [HF2.out]; simp [heq])
       have hde : decide (ta = tb) = true := by simp [heq]
       rw [hde]
       clear heq hde
       go_wp2
       go_roundw
       case rel => exact ⟨k + 1, hlt, by go_num, by rw [HS.out, HF3.out, ← HOUT.out]; simpa using HO8.out, hbl.trans (HB8.out.mono hsz)⟩
       case measure => simp [intOf]; omega
      ·have HF3 := Lib.hid (show movF a b u = true by rw [HF2.out]; simp [heq])
       have hde : decide (ta = tb) = false := by simp [heq]
       rw [hde]
       clear heq hde
       go_wp2_with (at_builtin; refine at_app (.tmp 55) (.tmp 57) 53 rfl ?_; refine appZ1_Int (.tmp 55) (.tmp 57) rfl rfl _ rfl rfl rfl rfl HO8.out (by omega) hs8 ?_; intro v' w' ho hb _ _)
       go_roundw
       case rel => exact ⟨k + 1, hlt, by go_num, by rw [HS.out, HF3.out, ← HOUT.out]; simpa using ho, (hbl.trans (HB8.out.mono hsz)).trans hb⟩
       case measure => simp [intOf]; omega
    ·have hqy : (y == u) = false := by simpa using hyu
     have hn1 : n + 1 ≤ k := by omega
     clear hform hyu hn
     by_cases hneg : cw < 0
     ·have HF2 := Lib.hid (show movF a b u = false by rw [HF.out]; simp [hneg])
      go_wp2_with (go_at_call 70; refine (sCartonWith_any _ b u _ (HB.out.next HWr.out)).mono ?_; rintro e w5 ⟨rfl, hb5⟩; rw [HCW.out])
      go_roundw
      case rel => exact ⟨k + 1, hlt, by go_num, by rw [HS.out, HF2.out, ← HOUT.out]; simpa using HO.out.next hb5, hbl.trans (hb5.mono hsz)⟩
      case measure => simp [intOf]; omega
     ·have hge : 0 ≤ cw := by omega
      have hd2 : decide (cw < 0) = false := by simp; omega
      have HF2 := Lib.hid (show movF a b u = !decide (ta = tb) by rw [HF.out, hd2]; rfl)
      clear hd2 hneg
      go_wp2_with (go_at_call 70; refine (sCartonWith_any _ b u _ (HB.out.next HWr.out)).mono ?_; rintro e w5 ⟨rfl, hb5⟩; rw [HCW.out]; have k1 := (hb5.cell (p := ⟨w.heap.size, 0, none⟩) hlX').trans hq1; have k2 := (hb5.cell (p := ⟨w.heap.size, 1, none⟩) hlX').trans hq2; have k3 := (hb5.cell (p := ⟨w.heap.size + 1, 0, none⟩) hlY').trans hq3; have k4 := (hb5.cell (p := ⟨w.heap.size + 1, 1, none⟩) hlY').trans hq4; clear hq1 hq2 hq3 hq4)
      have hs5 := hb5.size
      have hlX5 : w.heap.size < w5.heap.size := by omega
      have hlY5 : w.heap.size + 1 < w5.heap.size := by omega
      have hbd : Below w5.heap.size w5 w5.drew := (Below.refl _ _).drew
      have HW5 := Lib.hid (bstep (bstep HWr.out hb5) hbd)
      go_region_held3 (fun W' => W'.cell? ⟨w.heap.size, 0, none⟩ = some a1 ∧ W'.cell? ⟨w.heap.size, 1, none⟩ = some a2 ∧ W'.cell? ⟨w.heap.size + 1, 0, none⟩ = some b1 ∧ W'.cell? ⟨w.heap.size + 1, 1, none⟩ = some b2)
       (first | go_keep | exact ⟨l1, l2, l3, l4⟩ | exact ⟨m1, m2, m3, m4⟩ | exact ⟨n1, n2, n3, n4⟩)
       (first
        |(go_at_call 69; ((with_reducible refine (HTA.out _ (HA.out.next HW5.out)).mono ?_)); rintro e w6 ⟨u6, f6, rfl, ho6, hb6⟩; have l1 := (hb6.cell (p := ⟨w.heap.size, 0, none⟩) hlX5).trans k1; have l2 := (hb6.cell (p := ⟨w.heap.size, 1, none⟩) hlX5).trans k2; have l3 := (hb6.cell (p := ⟨w.heap.size + 1, 0, none⟩) hlY5).trans k3; have l4 := (hb6.cell (p := ⟨w.heap.size + 1, 1, none⟩) hlY5).trans k4; have hs6 := hb6.size; have HW6 := Lib.hid (bstep HW5.out hb6); have HO6 := Lib.hid ho6; clear ho6)
        |(go_at_call 69; ((with_reducible refine (HTB.out _ (HB.out.next HW6.out)).mono ?_)); rintro e w7 ⟨u7, f7, rfl, ho7, hb7⟩; have m1 := (hb7.cell (p := ⟨w.heap.size, 0, none⟩) (Nat.lt_of_lt_of_le hlX5 hs6)).trans l1; have m2 := (hb7.cell (p := ⟨w.heap.size, 1, none⟩) (Nat.lt_of_lt_of_le hlX5 hs6)).trans l2; have m3 := (hb7.cell (p := ⟨w.heap.size + 1, 0, none⟩) (Nat.lt_of_lt_of_le hlY5 hs6)).trans l3; have m4 := (hb7.cell (p := ⟨w.heap.size + 1, 1, none⟩) (Nat.lt_of_lt_of_le hlY5 hs6)).trans l4; have hs7 := Nat.le_trans hs6 hb7.size; have HW7 := Lib.hid (bstep HW6.out hb7); have HO7 := Lib.hid ho7; have HO67 := Lib.hid (HO6.out.next hb7); clear ho7)
        |(go_at_call 124; refine (l1Same_any _ _ ta tb _ (HO67.out.read htal) (HO7.out.read htbl)).mono ?_; rintro e w8 ⟨rfl, hb8⟩; have n1 := (hb8.cell (p := ⟨w.heap.size, 0, none⟩) (Nat.lt_of_lt_of_le hlX5 hs7)).trans m1; have n2 := (hb8.cell (p := ⟨w.heap.size, 1, none⟩) (Nat.lt_of_lt_of_le hlX5 hs7)).trans m2; have n3 := (hb8.cell (p := ⟨w.heap.size + 1, 0, none⟩) (Nat.lt_of_lt_of_le hlY5 hs7)).trans m3; have n4 := (hb8.cell (p := ⟨w.heap.size + 1, 1, none⟩) (Nat.lt_of_lt_of_le hlY5 hs7)).trans m4))
      have HB8 := Lib.hid (bstep (bstep (bstep (bstep hb5 hbd) hb6) hb7) hb8)
      have HO8 := Lib.hid (HO.out.next HB8.out)
      have hs8 : w2.heap.size ≤ w8.heap.size := Nat.le_trans hsz HB8.out.size
      clear k1 k2 k3 k4 l1 l2 l3 l4 m1 m2 m3 m4 n1 n2 n3 n4 hb5 hb6 hb7 hb8
      by_cases heq : ta = tb
      ·have HF3 := Lib.hid (show movF a b u = false by rw [HF2.out]; simp [heq])
       have hde : decide (ta = tb) = true := by simp [heq]
       rw [hde]
       clear heq hde
       go_wp2
       go_roundw
       case rel => exact ⟨k + 1, hlt, by go_num, by rw [HS.out, HF3.out, ← HOUT.out]; simpa using HO8.out, hbl.trans (HB8.out.mono hsz)⟩
       case measure => simp [intOf]; omega
      ·have HF3 := Lib.hid (show movF a b u = true by rw [HF2.out]; simp [heq])
       have hde : decide (ta = tb) = false := by simp [heq]
       rw [hde]
       clear heq hde
       go_wp2_with (at_builtin; refine at_app (.tmp 55) (.tmp 57) 53 rfl ?_; refine appZ1_Int (.tmp 55) (.tmp 57) rfl rfl _ rfl rfl rfl rfl HO8.out (by omega) hs8 ?_; intro v' w' ho hb _ _)
       go_roundw
       case rel => exact ⟨k + 1, hlt, by go_num, by rw [HS.out, HF3.out, ← HOUT.out]; simpa using ho, (hbl.trans (HB8.out.mono hsz)).trans hb⟩
       case measure => simp [intOf]; omega
  ·obtain rfl : k = fl.length := by omega
   go_wp2
   go_ret
   rw [HM.out]
   exact MInts.row (hown.own hw02) (Nat.le_refl _) HWr.out
theorem mov_len (a b : Plan) : (mov a b).length ≤ a.bulk := by
 unfold mov
 exact Nat.le_trans (List.length_filter_le _ _) (Nat.le_trans (kindsM_le _) (allU_bulk a))
end Go.Proofs.YtioijfplbgpjpaaGreat
