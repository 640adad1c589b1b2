/-
  The walks over Digits, both sides: the decimal digits of a number.
-/
import Derived.Test.YtjmokahibcbjlaaDoorFa
import Derived.Test.YtjmokahibcbjlaaDoorLa
import Derived.Lib.ItoaLen
import Derived.Lib.SmallJoins
import Derived.WalkSpells
import Derived.Laws.BytesString
namespace Go.Proofs.YtjmokahibcbjlaaDoor
set_option linter.unusedVariables false
set_option linter.unusedSimpArgs false
open Go.RowKit
/-- the decimal digits of a number -/
def dgt (n : Int) : ByteArray := ⟨(Lib.itoa n).toArray⟩
/-- what is said of the digits so far: u the number without its sign, v what is left -/
def DigInv (u v : Nat) (out : List UInt8) : Prop := if v = 0 then out = Lib.decDigits u else Lib.decDigits u = Lib.decDigits v ++ out
theorem DigInv.start {u : Nat} (h : u ≠ 0) : DigInv u u [] := by unfold DigInv; rw [if_neg h]; simp
theorem DigInv.step {u v : Nat} {out : List UInt8} (h : DigInv u v out) (hv : v ≠ 0) : DigInv u (v / 10) (UInt8.ofNat (48 + v % 10) :: out) := by
  unfold DigInv at h ⊢
  rw [if_neg hv] at h
  by_cases h2 : v < 10
  · rw [if_pos (by omega), h, Lib.decDigits, dif_pos h2, Nat.mod_eq_of_lt h2]; rfl
  · rw [if_neg (by omega), h, Lib.decDigits, dif_neg h2]; simp
theorem DigInv.done {u : Nat} {out : List UInt8} (h : DigInv u 0 out) : out = Lib.decDigits u := by unfold DigInv at h; rwa [if_pos rfl] at h
theorem bytes_of_row {P : Program} (w : World) (src e dst : TypeId) (hs : P.underlying src = some (.slice e)) (he : P.underlying e = some (.int .u8)) (hd : P.underlying dst = some .string) (x : Int) (c : UInt8) (hx : UInt8.ofNat x.toNat = c) :
    (convert src dst (.slice (some ⟨w.heap.size, 0, none⟩) 1 1)).run P (w.alloc (.cells #[.int .u8 x] e)) = .ok (.string ⟨#[c]⟩) (w.alloc (.cells #[.int .u8 x] e)) := by
  rw [run_convert_bytes_arg (P := P) (w.alloc (.cells #[.int .u8 x] e)) src e hs he w.heap.size 0 1 1 [x] rfl (fun i hi => ?_) dst hd]
  · rw [← hx]; rfl
  · obtain rfl : i = 0 := by omega
    rw [cell_of_row _ _ _ _ _ (0, 0) (heap_alloc_new w _)]
    rfl
theorem str_cons (c : UInt8) (out : List UInt8) : (⟨#[c]⟩ : ByteArray) ++ ⟨out.toArray⟩ = ⟨(c :: out).toArray⟩ := by
  apply bytes_ext'
  simp [ByteArray.data_append]
theorem dgt_pos {u : Nat} {out : List UInt8} (h : DigInv u 0 out) : (⟨out.toArray⟩ : ByteArray) = dgt u := by rw [h.done]; unfold dgt Lib.itoa; rw [if_neg (by omega)]; rfl
theorem dgt_neg {u : Nat} {out : List UInt8} (hu : u ≠ 0) (h : DigInv u 0 out) : (⟨#[45]⟩ : ByteArray) ++ ⟨out.toArray⟩ = dgt (-(u : Int)) := by rw [h.done, str_cons]; unfold dgt Lib.itoa; rw [if_pos (by omega)]; simp
theorem DigInv.len {u v : Nat} {out : List UInt8} (h : DigInv u v out) (hu : u ≤ 9223372036854775808) : out.length ≤ 21 := by
  have h1 : (Lib.decDigits u).length ≤ 21 := by
    rcases Nat.eq_zero_or_pos u with h0 | h0
    · subst h0; decide +kernel
    · have h2 := Lib.itoa_length_le (-(u : Int)) (by omega) (by omega)
      rw [Lib.itoa_neg u h0] at h2
      simp at h2
      omega
  unfold DigInv at h
  split at h
  · rw [h]; exact h1
  · rw [h, List.length_append] at h1; omega
set_option maxRecDepth 100000 in
set_option maxHeartbeats 400000 in
theorem sDigits_any (n : Int) (w : World) (h0 : -9223372036854775808 ≤ n) (h1 : n ≤ 9223372036854775807) :
    Calls Tryd.prog 14 #[.int .i64 n] w fun e w' => e = .returned (.string (dgt n)) ∧ Below w.heap.size w w' := by
  by_cases hz : n = 0
  · subst hz
    go_enter Tryd.func14, Tryd.ntmps14
    go_wp2
    go_ret
    exact ⟨ret_str (by decide +kernel), Below.refl _ _⟩
  · have hz0 : (n == 0) = false := by simp [hz]
    obtain ⟨u, hu⟩ : ∃ u, u = n.natAbs := ⟨_, rfl⟩
    have hu0 : u ≠ 0 := by omega
    by_cases hneg : n < 0
    · have hd : decide (n < 0) = true := by simp [hneg]
      obtain rfl : n = -(u : Int) := by omega
      have hu63 : (u : Int) ≤ 9223372036854775808 := by omega
      have hup : decide (0 < u) = true := by simp; omega
      clear h0 h1 hu hneg
      go_enter Tryd.func14, Tryd.ntmps14
      go_wp2
      go_loopw [0, 4] (fun nv ov wr => ∃ v : Nat, ∃ out : List UInt8, v ≤ u ∧ nv = .int .i64 (-(v : Int)) ∧ ov = .string ⟨out.toArray⟩ ∧ DigInv u v out ∧ Below w.heap.size w wr) (fun nv _ _ => (-(intOf nv)).toNat)
      case atStart => exact ⟨u, [], Nat.le_refl _, rfl, rfl, DigInv.start hu0, Below.refl _ _⟩
      case round =>
        obtain ⟨v, out, hv, rfl, rfl, hi, hbl⟩ := hrel
        have HI := Lib.hid hi
        have hol := hi.len (by omega)
        clear hi
        by_cases hv0 : v = 0
        · subst hv0
          go_wp2
          go_ret
          exact ⟨ret_str (dgt_neg hu0 HI.out), hbl⟩
        · have hvn : (-(v : Int) == 0) = false := by simp; omega
          have hvn2 : (-(v : Int) != 0) = true := by simp; omega
          have hr : (-(v : Int)).tmod 10 = -((v % 10 : Nat) : Int) := by rw [Int.neg_tmod]; rfl
          have hq : (-(v : Int)).tdiv 10 = -((v / 10 : Nat) : Int) := by rw [Int.neg_tdiv]; rfl
          have hm : v % 10 < 10 := Nat.mod_lt _ (by decide)
          obtain ⟨d, hd0⟩ : ∃ d, d = v % 10 := ⟨_, rfl⟩
          rw [← hd0] at hr hm
          have HD := Lib.hid hd0
          have hcv := bytes_of_row (P := Tryd.prog) wr 58 5 9 Tryd.underlying58 Tryd.underlying5 Tryd.underlying9 (48 + (d : Int)) (UInt8.ofNat (48 + d)) (by congr 1)
          obtain ⟨c, hc⟩ : ∃ c, UInt8.ofNat (48 + d) = c := ⟨_, rfl⟩
          rw [hc] at hcv
          have HC := Lib.hid hc
          clear hc
          have hv10 : v / 10 ≤ u := by omega
          clear hd0
          by_cases hd1 : d = 0
          · subst hd1
            clear hcv
            have hcv := bytes_of_row (P := Tryd.prog) wr 58 5 9 Tryd.underlying58 Tryd.underlying5 Tryd.underlying9 48 c (by rw [← HC.out]; rfl)
            go_wp2
            go_roundw
            case rel => exact ⟨v / 10, c :: out, hv10, by go_num, by rw [str_cons], by have := HI.out.step hv0; rwa [← HD.out, HC.out] at this, hbl.alloc hbl.size _⟩
            case measure => simp [intOf]; omega
          · have hdn : -(d : Int) < 0 := by omega
            go_wp2
            go_roundw
            case rel => exact ⟨v / 10, c :: out, hv10, by go_num, by rw [str_cons], by have := HI.out.step hv0; rwa [← HD.out, HC.out] at this, hbl.alloc hbl.size _⟩
            case measure => simp [intOf]; omega
    · have hd : decide (n < 0) = false := by simpa using hneg
      obtain rfl : n = (u : Int) := by omega
      have hu63 : (u : Int) ≤ 9223372036854775807 := h1
      clear h0 h1 hu hneg
      go_enter Tryd.func14, Tryd.ntmps14
      go_wp2
      go_loopw [0, 4] (fun nv ov wr => ∃ v : Nat, ∃ out : List UInt8, v ≤ u ∧ nv = .int .i64 v ∧ ov = .string ⟨out.toArray⟩ ∧ DigInv u v out ∧ Below w.heap.size w wr) (fun nv _ _ => (intOf nv).toNat)
      case atStart => exact ⟨u, [], Nat.le_refl _, rfl, rfl, DigInv.start hu0, Below.refl _ _⟩
      case round =>
        obtain ⟨v, out, hv, rfl, rfl, hi, hbl⟩ := hrel
        have HI := Lib.hid hi
        have hol := hi.len (by omega)
        clear hi
        by_cases hv0 : v = 0
        · subst hv0
          go_wp2
          go_ret
          exact ⟨ret_str (dgt_pos HI.out), hbl⟩
        · have hvn : ((v : Int) == 0) = false := by simp; omega
          have hvn2 : ((v : Int) != 0) = true := by simp; omega
          have hcv := bytes_of_row (P := Tryd.prog) wr 58 5 9 Tryd.underlying58 Tryd.underlying5 Tryd.underlying9 (48 + (v : Int) % 10) (UInt8.ofNat (48 + v % 10)) (by congr 1)
          obtain ⟨c, hc⟩ : ∃ c, UInt8.ofNat (48 + v % 10) = c := ⟨_, rfl⟩
          rw [hc] at hcv
          have HC := Lib.hid hc
          clear hc
          go_wp2
          go_roundw
          case rel => exact ⟨v / 10, c :: out, by omega, by go_num, by rw [str_cons], HC.out ▸ HI.out.step hv0, hbl.alloc hbl.size _⟩
          case measure => simp [intOf]; omega
/-- the name of a code; empty of others -/
def clsNames : List ByteArray := [⟨#[111, 107]⟩, ⟨#[116, 101, 120, 116]⟩, ⟨#[98, 111, 117, 110, 100, 115]⟩, ⟨#[110, 97, 109, 101, 115]⟩, ⟨#[116, 97, 98, 108, 101]⟩, ⟨#[117, 110, 105, 116]⟩, ⟨#[112, 97, 108, 108, 101, 116]⟩]
def clsText (k : Int) : ByteArray := if 0 ≤ k ∧ k ≤ 6 then clsNames.getD k.toNat ByteArray.empty else ByteArray.empty
set_option maxHeartbeats 400000 in
theorem sClassText_any (k : Int) (w : World) : Calls Tryd.prog 13 #[.int .i64 k] w fun e w' => e = .returned (.string (clsText k)) ∧ Below w.heap.size w w' := by
  have hin := l1In_any k 0 6
  obtain ⟨b, hb⟩ : ∃ b, inB k 0 6 = b := ⟨_, rfl⟩
  have HIN := Lib.hid hin
  have HB := Lib.hid hb
  clear hin
  cases b
  · have HT := Lib.hid (show clsText k = ByteArray.empty by unfold clsText; rw [if_neg]; intro h; unfold inB at hb; simp at hb; omega)
    clear hb
    go_enter Tryd.func13, Tryd.ntmps13
    go_wp2_with (go_at_call 20; refine (HIN.out _).mono ?_; rintro e w' ⟨rfl, rfl⟩; rw [HB.out])
    go_ret
    exact ⟨ret_str HT.out.symm, (by repeat' (first | with_reducible exact Below.refl _ _ | with_reducible assumption | with_reducible refine Below.drew ?_ | with_reducible refine Below.alloc ?_ ?_ _ | with_reducible refine Below.setCell ?_ ?_ _ | with_reducible refine below_drewN ?_ _ | (simp; done) | (simp; omega)))⟩
  · have h0 : 0 ≤ k := by unfold inB at hb; simp at hb; omega
    have h1 : k ≤ 6 := by unfold inB at hb; simp at hb; omega
    have HT := Lib.hid (show clsText k = clsNames.getD k.toNat ByteArray.empty by unfold clsText; rw [if_pos ⟨h0, h1⟩])
    obtain ⟨n, rfl⟩ : ∃ n : Nat, k = n := ⟨k.toNat, by omega⟩
    have hn : n ≤ 6 := by omega
    clear hb h0 h1
    obtain rfl | rfl | rfl | rfl | rfl | rfl | rfl : n = 0 ∨ n = 1 ∨ n = 2 ∨ n = 3 ∨ n = 4 ∨ n = 5 ∨ n = 6 := by omega
    all_goals
      go_enter Tryd.func13, Tryd.ntmps13
      go_wp2_with (go_at_call 20; refine (HIN.out _).mono ?_; rintro e w' ⟨rfl, rfl⟩; rw [HB.out])
      go_ret
      exact ⟨ret_str (by rw [HT.out]; rfl), (by repeat' (first | with_reducible exact Below.refl _ _ | with_reducible assumption | with_reducible refine Below.drew ?_ | with_reducible refine Below.alloc ?_ ?_ _ | with_reducible refine Below.setCell ?_ ?_ _ | with_reducible refine below_drewN ?_ _ | (simp; done) | (simp; omega)))⟩
set_option maxHeartbeats 400000 in
theorem iClassText_any (k : Int) (w : World) : Calls Tryd.prog 31 #[.int .i64 k] w fun e w' => e = .returned (.string (clsText k)) ∧ Below w.heap.size w w' := by
  have hin := in_any k 0 6
  obtain ⟨b, hb⟩ : ∃ b, inB k 0 6 = b := ⟨_, rfl⟩
  have HIN := Lib.hid hin
  have HB := Lib.hid hb
  clear hin
  cases b
  · have HT := Lib.hid (show clsText k = ByteArray.empty by unfold clsText; rw [if_neg]; intro h; unfold inB at hb; simp at hb; omega)
    clear hb
    go_enter Tryd.func31, Tryd.ntmps31
    go_wp2_with (go_at_call 26; refine (HIN.out _).mono ?_; rintro e w' ⟨rfl, rfl⟩; rw [HB.out])
    go_ret
    exact ⟨ret_str HT.out.symm, (by repeat' (first | with_reducible exact Below.refl _ _ | with_reducible assumption | with_reducible refine Below.drew ?_ | with_reducible refine Below.alloc ?_ ?_ _ | with_reducible refine Below.setCell ?_ ?_ _ | with_reducible refine below_drewN ?_ _ | (simp; done) | (simp; omega)))⟩
  · have h0 : 0 ≤ k := by unfold inB at hb; simp at hb; omega
    have h1 : k ≤ 6 := by unfold inB at hb; simp at hb; omega
    have HT := Lib.hid (show clsText k = clsNames.getD k.toNat ByteArray.empty by unfold clsText; rw [if_pos ⟨h0, h1⟩])
    obtain ⟨n, rfl⟩ : ∃ n : Nat, k = n := ⟨k.toNat, by omega⟩
    have hn : n ≤ 6 := by omega
    clear hb h0 h1
    obtain rfl | rfl | rfl | rfl | rfl | rfl | rfl : n = 0 ∨ n = 1 ∨ n = 2 ∨ n = 3 ∨ n = 4 ∨ n = 5 ∨ n = 6 := by omega
    all_goals
      go_enter Tryd.func31, Tryd.ntmps31
      go_wp2_with (go_at_call 26; refine (HIN.out _).mono ?_; rintro e w' ⟨rfl, rfl⟩; rw [HB.out])
      go_ret
      exact ⟨ret_str (by rw [HT.out]; rfl), (by repeat' (first | with_reducible exact Below.refl _ _ | with_reducible assumption | with_reducible refine Below.drew ?_ | with_reducible refine Below.alloc ?_ ?_ _ | with_reducible refine Below.setCell ?_ ?_ _ | with_reducible refine below_drewN ?_ _ | (simp; done) | (simp; omega)))⟩
end Go.Proofs.YtjmokahibcbjlaaDoor
