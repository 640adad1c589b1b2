/-
  The walks over LabelOf, both sides: three numbers with 0 ahead, and two digits that make the sum 1.
-/
import Derived.Test.YtjmokahibcbjlaaDoorDh
import Derived.Test.YtjmokahibcbjlaaDoorPk
import Derived.Test.YtjmokahibcbjlaaDoorLa
namespace Go.Proofs.YtjmokahibcbjlaaDoor
set_option linter.unusedVariables false
set_option linter.unusedSimpArgs false
open Go.RowKit
/-- the digits of a number, with 0 ahead -/
def wideL (n : Int) (m : Nat) : List UInt8 := List.replicate (m - (Lib.itoa n).length) 48 ++ Lib.itoa n
def wide (n : Int) (m : Nat) : ByteArray := ⟨(wideL n m).toArray⟩
theorem dec_len : ∀ (k u : Nat), u < 10 ^ (k + 1) → (Lib.decDigits u).length ≤ k + 1
  | 0, u, h => by rw [Lib.decDigits, dif_pos (by simpa using h)]; simp
  | k + 1, u, h => by
    by_cases h2 : u < 10
    · rw [Lib.decDigits, dif_pos h2]; simp
    · rw [Lib.decDigits, dif_neg h2, List.length_append]
      have := dec_len k (u / 10) (by rw [Nat.pow_succ] at h; omega)
      simp
      omega
theorem digB_of (d : Nat) (h : d < 10) : digB (UInt8.ofNat (48 + d)) = true := by
  obtain rfl | rfl | rfl | rfl | rfl | rfl | rfl | rfl | rfl | rfl : d = 0 ∨ d = 1 ∨ d = 2 ∨ d = 3 ∨ d = 4 ∨ d = 5 ∨ d = 6 ∨ d = 7 ∨ d = 8 ∨ d = 9 := by omega
  all_goals decide
theorem dec_dig (u : Nat) : (Lib.decDigits u).all digB = true := by
  induction u using Nat.strongRecOn with
  | _ u ih =>
    by_cases h : u < 10
    · rw [Lib.decDigits, dif_pos h]; show (digB _ && true) = true; rw [digB_of u h]; rfl
    · rw [Lib.decDigits, dif_neg h, List.all_append, ih (u / 10) (by omega)]
      show (true && (digB _ && true)) = true
      rw [digB_of (u % 10) (Nat.mod_lt _ (by decide))]; rfl
theorem wide_len {u m : Nat} (h : u < 10 ^ (m + 1)) : (wideL (u : Int) (m + 1)).length = m + 1 := by
  unfold wideL
  have := dec_len m u h
  rw [Lib.itoa_nonneg, List.length_append, List.length_replicate]
  omega
theorem wide_dig (u m : Nat) : (wideL (u : Int) m).all digB = true := by
  unfold wideL
  rw [Lib.itoa_nonneg, List.all_append, dec_dig]
  simp
  exact .inr (by decide)
theorem lsum_app : ∀ (l1 l2 : List UInt8) (n : Int), l1.all digB = true → lsum (l1 ++ l2) n = lsum l2 (lsum l1 n)
  | [], _, _, _ => rfl
  | c :: l, l2, n, h => by
    simp only [List.all_cons, Bool.and_eq_true] at h
    have hc : 48 ≤ (c.toNat : Int) ∧ (c.toNat : Int) ≤ 57 := by simpa [digB] using h.1
    rw [List.cons_append, lsum_cons _ _ _ hc, lsum_cons _ _ _ hc, lsum_app l l2 _ h.2]
theorem lsum_range : ∀ (l : List UInt8) (n : Int), l.all digB = true → 0 ≤ n → n ≤ 96 → 0 ≤ lsum l n ∧ lsum l n ≤ 96
  | [], n, _, h0, h1 => ⟨h0, h1⟩
  | c :: l, n, h, h0, h1 => by
    simp only [List.all_cons, Bool.and_eq_true] at h
    have hc : 48 ≤ (c.toNat : Int) ∧ (c.toNat : Int) ≤ 57 := by simpa [digB] using h.1
    rw [lsum_cons _ _ _ hc]
    exact lsum_range l _ h.2 (by omega) (by omega)
theorem wide2 : ∀ n : Fin 97, wideL ((n.val : Nat) : Int) 2 = [UInt8.ofNat (48 + n.val / 10), UInt8.ofNat (48 + n.val % 10)] := by decide +kernel
theorem lsum_two (n : Nat) (hn : n < 97) (z : Int) (h0 : 0 ≤ z) (h1 : z ≤ 96) : lsum (wideL (n : Int) 2) z = (100 * z + n) % 97 := by
  rw [wide2 ⟨n, hn⟩]
  have h2 : ∀ d, d < 10 → ((UInt8.ofNat (48 + d)).toNat : Int) = 48 + d := by
    intro d hd
    rw [UInt8.toNat_ofNat']
    omega
  rw [lsum_cons _ _ _ (by rw [h2 _ (by omega)]; omega), lsum_cons _ _ _ (by rw [h2 _ (by omega)]; omega), h2 _ (by omega), h2 _ (by omega)]
  show (10 * ((10 * z + (48 + ((n / 10 : Nat) : Int) - 48)) % 97) + (48 + ((n % 10 : Nat) : Int) - 48)) % 97 = _
  omega
/-- the ten signs ahead of the two that are reckoned -/
def lheadL (p : Plan) (i : Nat) : List UInt8 := wideL (p.cartons.getD i default).type 3 ++ wideL (p.spots.getD i default).pallet 4 ++ wideL (i : Int) 3
def lrest (p : Plan) (i : Nat) : Int := (98 - labelSum (lheadL p i ++ [48, 48])) % 97
def labelOf (p : Plan) (i : Int) : ByteArray := if (planOk p && inB i 0 ((p.cartons.length : Int) - 1)) = true then ⟨(lheadL p i.toNat ++ wideL (lrest p i.toNat) 2).toArray⟩ else ByteArray.empty
theorem lhead_facts {p : Plan} {i : Nat} (hp : planOk p = true) (hi : i < p.cartons.length) : ∃ t l : Nat, (p.cartons.getD i default).type = t ∧ (p.spots.getD i default).pallet = l ∧ t ≤ 999 ∧ l ≤ 2000 ∧ p.cartons.length ≤ 100 ∧ p.spots.length = p.cartons.length := by
  unfold planOk at hp
  simp only [Bool.and_eq_true, decide_eq_true_eq] at hp
  obtain ⟨⟨h1, h2⟩, h3⟩ := hp
  have h4 := List.all_eq_true.1 h3 i (List.mem_range.2 hi)
  simp only [Bool.and_eq_true, cartonOk, spotOk, inB, decide_eq_true_eq] at h4
  exact ⟨(p.cartons.getD i default).type.toNat, (p.spots.getD i default).pallet.toNat, by omega, by omega, by omega, by omega, h2, h1⟩
theorem lhead_dig {p : Plan} {i : Nat} (hp : planOk p = true) (hi : i < p.cartons.length) : (lheadL p i).all digB = true ∧ (lheadL p i).length = 10 := by
  obtain ⟨t, l, h1, h2, h3, h4, h5, _⟩ := lhead_facts hp hi
  unfold lheadL
  rw [h1, h2, List.all_append, List.all_append, wide_dig, wide_dig, wide_dig, List.length_append, List.length_append, wide_len (m := 2) (by omega), wide_len (m := 3) (by omega), wide_len (m := 2) (by omega)]
  exact ⟨rfl, rfl⟩
theorem label_sum {p : Plan} {i : Nat} (hp : planOk p = true) (hi : i < p.cartons.length) (n : Nat) (hn : n < 97) :
    labelSum (lheadL p i ++ wideL (n : Int) 2) = (100 * lsum (lheadL p i) 0 + n) % 97 := by
  obtain ⟨h1, h2⟩ := lhead_dig hp hi
  have h3 := lsum_range _ 0 h1 (by omega) (by omega)
  unfold labelSum
  rw [if_neg (by rw [List.length_append, h2, wide_len (m := 1) (by omega)]; omega), lsum_app _ _ _ h1, lsum_two n hn _ h3.1 h3.2]
theorem lrest_eq {p : Plan} {i : Nat} (hp : planOk p = true) (hi : i < p.cartons.length) : lrest p i = (98 - (100 * lsum (lheadL p i) 0) % 97) % 97 := by
  have := label_sum hp hi 0 (by omega)
  unfold lrest
  rw [show ([48, 48] : List UInt8) = wideL ((0 : Nat) : Int) 2 by decide +kernel, this]
  simp
theorem lrest_range {p : Plan} {i : Nat} (hp : planOk p = true) (hi : i < p.cartons.length) : 0 ≤ lrest p i ∧ lrest p i < 97 := by rw [lrest_eq hp hi]; omega
theorem label_hit {p : Plan} {i : Nat} (hp : planOk p = true) (hi : i < p.cartons.length) (n : Nat) (hn : n < 97) : labelSum (lheadL p i ++ wideL (n : Int) 2) = 1 ↔ (n : Int) = lrest p i := by
  have h3 := lsum_range _ 0 (lhead_dig hp hi).1 (by omega) (by omega)
  rw [label_sum hp hi n hn, lrest_eq hp hi]
  omega
theorem repeatL_one (c : Nat) : Lib.repeatL [48] c = List.replicate c 48 := by
  induction c with
  | zero => rfl
  | succ c ih => rw [List.replicate_succ, ← ih]; rfl
theorem str_app (a b : List UInt8) : (⟨a.toArray⟩ : ByteArray) ++ ⟨b.toArray⟩ = ⟨(a ++ b).toArray⟩ := by
  apply bytes_ext'
  simp [ByteArray.data_append]
theorem list_size (l : List UInt8) : (⟨l.toArray⟩ : ByteArray).size = l.length := by simp [ByteArray.size]
def strLen : Value → Nat
  | .string s => s.size
  | _ => 0
set_option maxRecDepth 100000 in
set_option maxHeartbeats 400000 in
theorem l22Wide_any (u m : Nat) (w : World) (hu : u ≤ 99999) (hm : m ≤ 10) :
    Calls Tryd.prog 21 #[.int .i64 u, .int .i64 m] w fun e w' => e = .returned (.string (wide u m)) ∧ Below w.heap.size w w' := by
  obtain ⟨L, hL⟩ : ∃ l, l = Lib.itoa (u : Int) := ⟨_, rfl⟩
  have hLl : L.length ≤ 5 := by rw [hL, Lib.itoa_nonneg]; exact dec_len 4 u (by omega)
  have HD := Lib.hid (sDigits_any (u : Int) w (by omega) (by omega))
  unfold dgt at HD
  rw [← hL] at HD
  have HT := Lib.hid (show wide u m = ⟨(List.replicate (m - L.length) 48 ++ L).toArray⟩ by unfold wide wideL; rw [← hL])
  clear hL
  go_enter Tryd.func21, Tryd.ntmps21
  go_wp2_with fail
  refine HD.out.mono ?_
  rintro e w1 ⟨rfl, hb1⟩
  go_wp2
  go_loopw [5] (fun sv wr => ∃ j : Nat, j ≤ m - L.length ∧ sv = .string ⟨(List.replicate j 48 ++ L).toArray⟩ ∧ Below w.heap.size w wr) (fun sv _ => m - strLen sv)
  case atStart => exact ⟨0, Nat.zero_le _, rfl, hb1⟩
  case round =>
    obtain ⟨j, hj, rfl, hbl⟩ := hrel
    have hsz : (⟨(List.replicate j 48 ++ L).toArray⟩ : ByteArray).size = j + L.length := by rw [list_size]; simp
    obtain ⟨s, hs⟩ : ∃ s, s = (⟨(List.replicate j 48 ++ L).toArray⟩ : ByteArray) := ⟨_, rfl⟩
    rw [← hs] at hsz ⊢
    have HS := Lib.hid hs
    have HZ := Lib.hid hsz
    have hs1 : s.size ≤ 100 := by omega
    by_cases hlt : j + L.length < m
    · have hs2 : s.size < m := by omega
      clear hs hsz
      go_wp2
      go_roundw
      case rel => exact ⟨j + 1, by omega, by rw [HS.out, str_cons]; rfl, hbl⟩
      case measure => have h1 : (⟨#[48]⟩ : ByteArray).size = 1 := rfl; simp [strLen, ByteArray.size_append, h1]; omega
    · have hs2 : ¬ s.size < m := by omega
      clear hs hsz
      go_wp2
      go_ret
      exact ⟨ret_str (by rw [HT.out, HS.out, show m - L.length = j by omega]), hbl⟩
set_option maxRecDepth 100000 in
set_option maxHeartbeats 400000 in
theorem padded_any (u m : Nat) (w : World) (hu : u ≤ 99999) (hm : m ≤ 10) (ht : Tab w) :
    Calls Tryd.prog 27 #[.int .i64 u, .int .i64 m] w fun e w' => e = .returned (.string (wide u m)) ∧ Below w.heap.size w w' := by
  obtain ⟨L, hL⟩ : ∃ l, l = Lib.itoa (u : Int) := ⟨_, rfl⟩
  have hLl : L.length ≤ 5 := by rw [hL, Lib.itoa_nonneg]; exact dec_len 4 u (by omega)
  have HD := Lib.hid (iDigits_any (u : Int) w (by omega) (by omega) ht)
  unfold dgt at HD
  rw [← hL] at HD
  have HT := Lib.hid (show wide u m = ⟨(List.replicate (m - L.length) 48 ++ L).toArray⟩ by unfold wide wideL; rw [← hL])
  clear hL ht
  go_enter Tryd.func27, Tryd.ntmps27
  go_wp2_with fail
  refine HD.out.mono ?_
  rintro e w1 ⟨rfl, hb1⟩
  have hsz : (⟨L.toArray⟩ : ByteArray).size = L.length := list_size L
  obtain ⟨s, hs⟩ : ∃ s, s = (⟨L.toArray⟩ : ByteArray) := ⟨_, rfl⟩
  rw [← hs] at hsz ⊢
  have HS := Lib.hid hs
  have HZ := Lib.hid hsz
  have hs1 : s.size ≤ 5 := by omega
  clear hs hsz
  have hmax : max 0 ((m : Int) - s.size) = ((m - s.size : Nat) : Int) := by omega
  have HR := Lib.hid (Tryd.strings_Repeat ⟨#[48]⟩ (m - s.size) w1 (by omega) (by show 1 * _ ≤ _; omega))
  rw [show (⟨#[48]⟩ : ByteArray).data.toList = [48] from rfl, repeatL_one] at HR
  obtain ⟨r, hr⟩ : ∃ r, r = (⟨(List.replicate (m - s.size) 48).toArray⟩ : ByteArray) := ⟨_, rfl⟩
  have hrs : r.size ≤ 10 := by rw [hr, list_size]; simp; omega
  rw [← hr] at HR
  have HRR := Lib.hid hr
  clear hr
  go_wp2_with fail
  refine HR.out.mono ?_
  rintro e w2 ⟨rfl, hb2⟩
  go_wp2
  go_ret
  exact ⟨ret_str (by rw [HRR.out, HT.out, HZ.out, HS.out, str_app]), bstep hb1 hb2⟩
set_option maxRecDepth 100000 in
set_option maxHeartbeats 1000000 in
theorem sLabelOf_any (v : Value) (p : Plan) (i : Int) (w : World) (h : RPlan 16777216 w w.heap.size v p) : Calls Tryd.prog 9 #[v, .int .i64 i] w fun e w' => e = .returned (.string (labelOf p i)) ∧ Below w.heap.size w w' := by
  have H := Lib.hid h
  obtain ⟨v1, v2, rfl, h1, h2⟩ := h
  have H1 := Lib.hid h1
  have H2 := Lib.hid h2
  obtain ⟨A1, c1, rfl, hbd1, _⟩ := h1
  obtain ⟨A2, c2, rfl, hbd2, _⟩ := h2
  obtain ⟨bp, hbp⟩ : ∃ x, planOk p = x := ⟨_, rfl⟩
  obtain ⟨bn, hbn⟩ : ∃ x, inB i 0 ((p.cartons.length : Int) - 1) = x := ⟨_, rfl⟩
  have HBP := Lib.hid hbp
  have HBN := Lib.hid hbn
  have hW : Below w.heap.size w (w.alloc (.cells #[.slice A1 p.cartons.length c1, .slice A2 p.spots.length c2] 37)) := (by repeat' (first | with_reducible exact Below.refl _ _ | with_reducible assumption | with_reducible refine Below.drew ?_ | with_reducible refine Below.alloc ?_ ?_ _ | with_reducible refine Below.setCell ?_ ?_ _ | with_reducible refine below_drewN ?_ _ | (simp; done) | (simp; omega)))
  have HX := Lib.hid (heap_alloc_new w (.cells #[.slice A1 p.cartons.length c1, .slice A2 p.spots.length c2] 37))
  clear hbp hbn
  go_enter Tryd.func9, Tryd.ntmps9
  go_wp2_with fail
  refine (sPlanOk_any _ p _ (H.out.next hW)).mono ?_
  rintro e w1 ⟨rfl, hb1⟩
  have HX1 := Lib.hid (blk_next HX.out hb1)
  have hx1 := fun j => cell_of_row _ _ j _ _ (0, 0) HX1.out
  have hlx := lt_of_block HX1.out
  have hW1 := bstep hW hb1
  rw [HBP.out]
  cases bp
  · have HT := Lib.hid (show labelOf p i = ByteArray.empty by unfold labelOf; rw [HBP.out]; rfl)
    go_wp2
    go_ret
    exact ⟨ret_str HT.out.symm, hW1⟩
  · cases bn
    · have HT := Lib.hid (show labelOf p i = ByteArray.empty by unfold labelOf; rw [HBP.out, HBN.out]; rfl)
      go_wp2_with (go_at_call 20; refine (l1In_any i 0 ((p.cartons.length : Int) - 1) _).mono ?_; rintro e w4 ⟨rfl, rfl⟩; rw [HBN.out])
      go_ret
      exact ⟨ret_str HT.out.symm, hW1⟩
    · have hi := HBN.out
      unfold inB at hi
      simp only [Bool.and_eq_true, decide_eq_true_eq] at hi
      obtain ⟨n, rfl⟩ : ∃ n : Nat, i = n := ⟨i.toNat, by omega⟩
      have hn : n < p.cartons.length := by omega
      obtain ⟨t, l, ht, hl, ht9, hl2, hlen, hsl⟩ := lhead_facts HBP.out hn
      have hns : n < p.spots.length := by omega
      obtain ⟨b, off, x, _, rfl, hb, hx, _, ⟨vx, rfl, _⟩, hc⟩ := (H1.out.below (RCarton_mono _) hW1).at_ n hn
      obtain ⟨b2, off2, y, _, rfl, hb2, hy, _, rfl, hc2⟩ := (H2.out.below (flat_mono _) hW1).at_ n hns
      have hc0 := hc 0 _ rfl
      have hd0 := hc2 0 _ rfl
      simp only [Nat.add_zero] at hc0 hd0
      rw [show p.cartons.getD n default = x by simp [List.getD, hx]] at ht
      rw [show p.spots.getD n default = y by simp [List.getD, hy]] at hl
      have HL := Lib.hid (show lheadL p n = wideL (t : Int) 3 ++ wideL (l : Int) 4 ++ wideL (n : Int) 3 by unfold lheadL; rw [show p.cartons.getD n default = x by simp [List.getD, hx], show p.spots.getD n default = y by simp [List.getD, hy], ht, hl])
      have hr := lrest_range HBP.out hn
      obtain ⟨r, hr2⟩ : ∃ r : Nat, lrest p n = r := ⟨(lrest p n).toNat, by omega⟩
      have hr97 : r < 97 := by omega
      have HT := Lib.hid (show labelOf p (n : Int) = ⟨(lheadL p n ++ wideL (r : Int) 2).toArray⟩ by unfold labelOf; rw [HBP.out, HBN.out, Int.toNat_natCast, hr2]; rfl)
      have hsum := label_sum HBP.out hn 0 (by omega)
      rw [show wideL ((0 : Nat) : Int) 2 = [48, 48] by decide +kernel] at hsum
      have hz : 0 ≤ labelSum (lheadL p n ++ [48, 48]) ∧ labelSum (lheadL p n ++ [48, 48]) ≤ 96 := by rw [hsum]; omega
      have HZ := Lib.hid (show lrest p n = (98 - labelSum (lheadL p n ++ [48, 48])) % 97 from rfl)
      obtain ⟨z, hz2⟩ : ∃ z, labelSum (lheadL p n ++ [48, 48]) = z := ⟨_, rfl⟩
      rw [hz2, hr2] at HZ
      rw [hz2] at hz
      have hz0 := hz.1
      have hz1 := hz.2
      have HZ2 := Lib.hid hz2
      rw [ht] at hc0
      rw [hl] at hd0
      obtain ⟨s1, e1⟩ : ∃ s, s = wide (t : Int) 3 := ⟨_, rfl⟩
      obtain ⟨s2, e2⟩ : ∃ s, s = wide (l : Int) 4 := ⟨_, rfl⟩
      obtain ⟨s3, e3⟩ : ∃ s, s = wide (n : Int) 3 := ⟨_, rfl⟩
      obtain ⟨s4, e4⟩ : ∃ s, s = wide (r : Int) 2 := ⟨_, rfl⟩
      have k1 : s1.size ≤ 3 := by rw [e1, wide, list_size, wide_len (m := 2) (by omega)]; omega
      have k2 : s2.size ≤ 4 := by rw [e2, wide, list_size, wide_len (m := 3) (by omega)]; omega
      have k3 : s3.size ≤ 3 := by rw [e3, wide, list_size, wide_len (m := 2) (by omega)]; omega
      have k4 : s4.size ≤ 2 := by rw [e4, wide, list_size, wide_len (m := 1) (by omega)]; omega
      have hE := fun (u m : Nat) (hu : u ≤ 99999) (hm : m ≤ 10) (X : Ext w1.heap.size w1) => ext_call (x := X) (Nat.le_refl _) (l22Wide_any u m X.world hu hm)
      have E1 := hE t 3 (by omega) (by omega)
      have E2 := hE l 4 (by omega) (by omega)
      have E3 := hE n 3 (by omega) (by omega)
      rw [show ((3 : Nat) : Int) = 3 from rfl] at E1 E3
      rw [show ((4 : Nat) : Int) = 4 from rfl] at E2
      have E1 := Lib.hid E1
      have E2 := Lib.hid E2
      have E3 := Lib.hid E3
      rw [← e1] at E1
      rw [← e2] at E2
      rw [← e3] at E3
      have HE1 := Lib.hid e1
      have HE2 := Lib.hid e2
      have HE3 := Lib.hid e3
      have HE4 := Lib.hid e4
      have hq0 := fun (j : Nat) (X : Ext w1.heap.size w1) => (X.cells (b := w.heap.size) (o := j) hlx).trans (hx1 j)
      have hq1 := fun (X : Ext w1.heap.size w1) => (X.cells (b := b) (o := off + n * 3) (by have := hW1.size; omega)).trans hc0
      have hq2 := fun (X : Ext w1.heap.size w1) => (X.cells (b := b2) (o := off2 + n * 4) (by have := hW1.size; omega)).trans hd0
      clear hc hc2 hx hy ht hl hr hr2 hsum hz hz2 e1 e2 e3 e4 hE hi hsl
      go_wp2_with (go_at_call 20; refine (l1In_any (n : Int) 0 ((p.cartons.length : Int) - 1) _).mono ?_; rintro e w4 ⟨rfl, rfl⟩; rw [HBN.out])
      refine wp_region_ext w1.heap.size (by kernel_rfl) (by kernel_rfl) ?_
      repeat (go_big_quiet_step (first | with_reducible exact E1.out _ | with_reducible exact E2.out _ | with_reducible exact E3.out _))
      refine wpQuiet_nil ?_
      intro _ hw'
      obtain ⟨X, rfl⟩ := hw'
      have HHD := Lib.hid (show s1 ++ s2 ++ s3 = ⟨(lheadL p n).toArray⟩ by rw [HE1.out, HE2.out, HE3.out, HL.out]; unfold wide; rw [str_app, str_app])
      have hle := lhead_dig HBP.out hn
      have hsz : (s1 ++ s2 ++ s3 ++ (⟨#[48, 48]⟩ : ByteArray)).size ≤ maxLen := by rw [HHD.out, show (⟨#[48, 48]⟩ : ByteArray) = ⟨([48, 48] : List UInt8).toArray⟩ from rfl, str_app, list_size, List.length_append, hle.2]; unfold maxLen; decide
      have HLS := Lib.hid (show labelSum (s1 ++ s2 ++ s3 ++ (⟨#[48, 48]⟩ : ByteArray)).data.toList = z by rw [HHD.out, show (⟨#[48, 48]⟩ : ByteArray) = ⟨([48, 48] : List UInt8).toArray⟩ from rfl, str_app]; exact HZ2.out)
      have HSZ := Lib.hid hsz
      have E4 := l22Wide_any r 2 X.world (by omega) (by omega)
      rw [show ((2 : Nat) : Int) = 2 from rfl, ← HE4.out] at E4
      have E4 := Lib.hid E4
      clear hsz hle
      go_wp2_with fail
      refine (sLabelSum_any _ X.world HSZ.out).mono ?_
      rintro e w5 ⟨rfl, rfl⟩
      rw [HLS.out]
      go_wp2_with fail
      rw [← HZ.out]
      refine E4.out.mono ?_
      rintro e w6 ⟨rfl, hb6⟩
      have HSE := Lib.hid (show s1 ++ s2 ++ s3 ++ s4 = labelOf p (n : Int) by rw [HHD.out, HT.out, HE4.out]; unfold wide; rw [str_app])
      go_wp2
      go_ret
      exact ⟨ret_str HSE.out, bstep (bstep hW1 X.ok) hb6⟩
set_option maxRecDepth 100000 in
set_option maxHeartbeats 1000000 in
theorem iLabelOf_any (v : Value) (p : Plan) (i : Int) (w : World) (h : RPlan 16777216 w w.heap.size v p) (htab : Tab w) : Calls Tryd.prog 11 #[v, .int .i64 i] w fun e w' => e = .returned (.string (labelOf p i)) ∧ Below w.heap.size w w' := by
  have H := Lib.hid h
  have HTB := Lib.hid htab
  clear htab
  obtain ⟨v1, v2, rfl, h1, h2⟩ := h
  have H1 := Lib.hid h1
  have H2 := Lib.hid h2
  obtain ⟨A1, c1, rfl, hbd1, _⟩ := h1
  obtain ⟨A2, c2, rfl, hbd2, _⟩ := h2
  obtain ⟨bp, hbp⟩ : ∃ x, planOk p = x := ⟨_, rfl⟩
  obtain ⟨bn, hbn⟩ : ∃ x, inB i 0 ((p.cartons.length : Int) - 1) = x := ⟨_, rfl⟩
  have HBP := Lib.hid hbp
  have HBN := Lib.hid hbn
  have hW : Below w.heap.size w (w.alloc (.cells #[.slice A1 p.cartons.length c1, .slice A2 p.spots.length c2] 37)) := (by repeat' (first | with_reducible exact Below.refl _ _ | with_reducible assumption | with_reducible refine Below.drew ?_ | with_reducible refine Below.alloc ?_ ?_ _ | with_reducible refine Below.setCell ?_ ?_ _ | with_reducible refine below_drewN ?_ _ | (simp; done) | (simp; omega)))
  have HX := Lib.hid (heap_alloc_new w (.cells #[.slice A1 p.cartons.length c1, .slice A2 p.spots.length c2] 37))
  clear hbp hbn
  go_enter Tryd.func11, Tryd.ntmps11
  go_wp2_with fail
  refine (iPlanOk_any _ p _ (H.out.next hW)).mono ?_
  rintro e w1 ⟨rfl, hb1⟩
  have HX1 := Lib.hid (blk_next HX.out hb1)
  have hx1 := fun j => cell_of_row _ _ j _ _ (0, 0) HX1.out
  have hlx := lt_of_block HX1.out
  have hW1 := bstep hW hb1
  rw [HBP.out]
  cases bp
  · have HT := Lib.hid (show labelOf p i = ByteArray.empty by unfold labelOf; rw [HBP.out]; rfl)
    go_wp2
    go_ret
    exact ⟨ret_str HT.out.symm, hW1⟩
  · cases bn
    · have HT := Lib.hid (show labelOf p i = ByteArray.empty by unfold labelOf; rw [HBP.out, HBN.out]; rfl)
      go_wp2_with (go_at_call 26; refine (in_any i 0 ((p.cartons.length : Int) - 1) _).mono ?_; rintro e w4 ⟨rfl, rfl⟩; rw [HBN.out])
      go_ret
      exact ⟨ret_str HT.out.symm, hW1⟩
    · have hi := HBN.out
      unfold inB at hi
      simp only [Bool.and_eq_true, decide_eq_true_eq] at hi
      obtain ⟨n, rfl⟩ : ∃ n : Nat, i = n := ⟨i.toNat, by omega⟩
      have hn : n < p.cartons.length := by omega
      obtain ⟨t, l, ht, hl, ht9, hl2, hlen, hsl⟩ := lhead_facts HBP.out hn
      have hns : n < p.spots.length := by omega
      obtain ⟨b, off, x, _, rfl, hb, hx, _, ⟨vx, rfl, _⟩, hc⟩ := (H1.out.below (RCarton_mono _) hW1).at_ n hn
      obtain ⟨b2, off2, y, _, rfl, hb2, hy, _, rfl, hc2⟩ := (H2.out.below (flat_mono _) hW1).at_ n hns
      have hc0 := hc 0 _ rfl
      have hd0 := hc2 0 _ rfl
      simp only [Nat.add_zero] at hc0 hd0
      rw [show p.cartons.getD n default = x by simp [List.getD, hx]] at ht
      rw [show p.spots.getD n default = y by simp [List.getD, hy]] at hl
      have HL := Lib.hid (show lheadL p n = wideL (t : Int) 3 ++ wideL (l : Int) 4 ++ wideL (n : Int) 3 by unfold lheadL; rw [show p.cartons.getD n default = x by simp [List.getD, hx], show p.spots.getD n default = y by simp [List.getD, hy], ht, hl])
      have hr := lrest_range HBP.out hn
      obtain ⟨r, hr2⟩ : ∃ r : Nat, lrest p n = r := ⟨(lrest p n).toNat, by omega⟩
      have hr97 : r < 97 := by omega
      have HT := Lib.hid (show labelOf p (n : Int) = ⟨(lheadL p n ++ wideL (r : Int) 2).toArray⟩ by unfold labelOf; rw [HBP.out, HBN.out, Int.toNat_natCast, hr2]; rfl)
      have HHIT := Lib.hid (fun k (hk : k < 97) => (label_hit HBP.out hn k hk).trans (show (k : Int) = lrest p n ↔ k = r by rw [hr2]; omega))
      rw [ht] at hc0
      rw [hl] at hd0
      obtain ⟨s1, e1⟩ : ∃ s, s = wide (t : Int) 3 := ⟨_, rfl⟩
      obtain ⟨s2, e2⟩ : ∃ s, s = wide (l : Int) 4 := ⟨_, rfl⟩
      obtain ⟨s3, e3⟩ : ∃ s, s = wide (n : Int) 3 := ⟨_, rfl⟩
      have k1 : s1.size ≤ 3 := by rw [e1, wide, list_size, wide_len (m := 2) (by omega)]; omega
      have k2 : s2.size ≤ 4 := by rw [e2, wide, list_size, wide_len (m := 3) (by omega)]; omega
      have k3 : s3.size ≤ 3 := by rw [e3, wide, list_size, wide_len (m := 2) (by omega)]; omega
      have hTx := fun X : Ext w1.heap.size w1 => HTB.out.next (bstep hW1 X.ok)
      have hE := fun (u m : Nat) (hu : u ≤ 99999) (hm : m ≤ 10) (X : Ext w1.heap.size w1) => ext_call (x := X) (Nat.le_refl _) (padded_any u m X.world hu hm (hTx X))
      have E1 := hE t 3 (by omega) (by omega)
      have E2 := hE l 4 (by omega) (by omega)
      have E3 := hE n 3 (by omega) (by omega)
      have HEE := Lib.hid (fun (k : Nat) (hk : k < 97) => hE k 2 (by omega) (by omega))
      rw [show ((3 : Nat) : Int) = 3 from rfl] at E1 E3
      rw [show ((4 : Nat) : Int) = 4 from rfl] at E2
      have E1 := Lib.hid E1
      have E2 := Lib.hid E2
      have E3 := Lib.hid E3
      rw [← e1] at E1
      rw [← e2] at E2
      rw [← e3] at E3
      have HHD := Lib.hid (show s1 ++ s2 ++ s3 = ⟨(lheadL p n).toArray⟩ by rw [e1, e2, e3, HL.out]; unfold wide; rw [str_app, str_app])
      have HHL := Lib.hid (lhead_dig HBP.out hn).2
      have hq0 := fun (j : Nat) (X : Ext w1.heap.size w1) => (X.cells (b := w.heap.size) (o := j) hlx).trans (hx1 j)
      have hq1 := fun (X : Ext w1.heap.size w1) => (X.cells (b := b) (o := off + n * 3) (by have := hW1.size; omega)).trans hc0
      have hq2 := fun (X : Ext w1.heap.size w1) => (X.cells (b := b2) (o := off2 + n * 4) (by have := hW1.size; omega)).trans hd0
      clear hc hc2 hx hy ht hl hr hr2 e1 e2 e3 hE hTx hi hsl
      go_wp2_with (go_at_call 26; refine (in_any (n : Int) 0 ((p.cartons.length : Int) - 1) _).mono ?_; rintro e w4 ⟨rfl, rfl⟩; rw [HBN.out])
      refine wp_region_ext w1.heap.size (by kernel_rfl) (by kernel_rfl) ?_
      repeat (go_big_quiet_step (first | with_reducible exact E1.out _ | with_reducible exact E2.out _ | with_reducible exact E3.out _))
      refine wpQuiet_nil ?_
      intro _ hw'
      obtain ⟨X, rfl⟩ := hw'
      clear hq0 hq1 hq2 hx1
      obtain ⟨s0, hs0⟩ : ∃ s, s = s1 ++ s2 ++ s3 := ⟨_, rfl⟩
      have k0 : s0.size = 10 := by rw [hs0, HHD.out, list_size]; exact HHL.out
      rw [← hs0] at HHD
      go_wp2
      rw [← hs0]
      have k0' : s0.size ≤ 10 := by omega
      clear hs0
      have K0 := Lib.hid k0
      clear k0
      go_loopw [38] (fun kv wr => ∃ k : Nat, k ≤ r ∧ kv = .int .i64 k ∧ ∃ Y : Ext w1.heap.size w1, wr = Y.world) (fun kv _ => 97 - (intOf kv).toNat)
      case atStart => exact ⟨0, Nat.zero_le _, rfl, X, rfl⟩
      case round =>
        obtain ⟨k, hk, rfl, Y, rfl⟩ := hrel
        have hk97 : k < 97 := by omega
        have HC := HEE.out k hk97 Y
        rw [show ((2 : Nat) : Int) = 2 from rfl] at HC
        obtain ⟨s4, e4⟩ : ∃ s, s = wide (k : Int) 2 := ⟨_, rfl⟩
        have k4 : s4.size = 2 := by rw [e4, wide, list_size, wide_len (m := 1) (by omega)]
        rw [← e4] at HC
        have HC := Lib.hid HC
        have HSA := Lib.hid (show s0 ++ s4 = ⟨(lheadL p n ++ wideL (k : Int) 2).toArray⟩ by rw [HHD.out, e4]; unfold wide; rw [str_app])
        have HSZ := Lib.hid (show (s0 ++ s4).size ≤ maxLen by rw [ByteArray.size_append, K0.out, k4]; unfold maxLen; omega)
        have k4' : s4.size ≤ 2 := by omega
        have HH := Lib.hid (HHIT.out k hk97)
        clear e4 k4
        go_wp2_with fail
        refine HC.out.mono ?_
        rintro e w5 ⟨rfl, Z, rfl⟩
        go_wp2_with fail
        refine (iLabelSum_any _ Z.world HSZ.out).mono ?_
        rintro e w6 ⟨rfl, rfl⟩
        rw [show (s0 ++ s4).data.toList = lheadL p n ++ wideL (k : Int) 2 by rw [HSA.out]]
        obtain ⟨m, hm⟩ : ∃ m, labelSum (lheadL p n ++ wideL (k : Int) 2) = m := ⟨_, rfl⟩
        rw [hm]
        have HM := Lib.hid (show m = 1 ↔ k = r by rw [← hm]; exact HH.out)
        clear hm
        by_cases hkr : k = r
        · obtain rfl := HM.out.2 hkr
          have HF := Lib.hid (show s0 ++ s4 = labelOf p (n : Int) by rw [HSA.out, HT.out, hkr])
          clear hkr
          go_wp2
          go_ret
          exact ⟨ret_str HF.out, bstep hW1 Z.ok⟩
        · have hm1 : (m == 1) = false := by rw [beq_eq_false_iff_ne]; exact fun e => hkr (HM.out.1 e)
          go_wp2
          go_roundw
          case rel => exact ⟨k + 1, by omega, by go_num, Z, rfl⟩
          case measure => simp [intOf]; omega
end Go.Proofs.YtjmokahibcbjlaaDoor
