/-
  Bytes of the walk's own: []byte(s), stores into it, string(b). No function is named here.
-/
import Derived.Test.YtlhniekjdoeidaaKa15
import Derived.Laws.IdiomStrings
import Derived.Test.YtlhniekjdoeidaaKa00
import Derived.Lib.ItoaLen
import Derived.Lib.SmallJoins
import Derived.WalkSpells
import Derived.Laws.BytesString
import Derived.Test.YtlhniekjdoeidaaShelf
import Derived.Test.YtlhniekjdoeidaaKa02
namespace Go.Proofs.Ytlhniekjdoeidaa
set_option linter.unusedVariables false
set_option linter.unusedSimpArgs false
set_option maxRecDepth 100000
open Go.RowKit
/-- a block that begins with the bytes l -/
abbrev fBy (g : Nat) (l : List UInt8) : Fact := ⟨fun W => ∃ (row : Array Value) (n : Nat), W.heap[g]? = some (.cells row 5 (n, n + 1)) ∧ l.length ≤ n ∧ n ≤ row.size ∧ ∀ (i : Nat) (b : UInt8), l[i]? = some b → row[i]? = some (.int .u8 (b.toNat : Int)), [g]⟩
theorem fBy_ok (g : Nat) (l : List UInt8) : (fBy g l).ok := fun _ _ ⟨row, n, h1, h2⟩ _ hk => ⟨row, n, (hk g (by simp)).trans h1, h2⟩
section
variable {w W W' : World} {L : List Fact} {g : Nat} {l : List UInt8}
theorem Sit.byCell (h : Sit w W L) (hm : fBy g l ∈ L) {i : Nat} {b : UInt8} (hi : l[i]? = some b) : W.cell? ⟨g, i, none⟩ = some (.int .u8 (b.toNat : Int)) := by
  obtain ⟨row, n, h1, _, _, h2⟩ := h.on _ hm
  unfold World.cell?
  rw [h1]
  exact h2 i b hi
theorem Sit.byFree (h : Sit w W L) (hm : fBy g l ∈ L) {i : Nat} (hi : i < l.length) : W.frozen? ⟨g, i, none⟩ = false := by
  obtain ⟨row, n, h1, h2, _⟩ := h.on _ hm
  unfold World.frozen?
  rw [h1]
  simp
  omega
theorem Sit.byStore (h : Sit w W (fBy g l :: L)) (i : Nat) (b : UInt8) : Sit w (W.setCell ⟨g, i, none⟩ (.int .u8 (b.toNat : Int))) (fBy g (l.set i b) :: L) := by
  obtain ⟨row, n, h1, h2, h3, h4⟩ := h.on _ (.head _)
  refine Sit.tch (l1 := []) h (Tch.setW (us := [.int .u8 (b.toNat : Int)]) (o := i) (by simp) W (Tch.refl _ _)) (fBy g (l.set i b)) rfl (fBy_ok _ _) ⟨row.setIfInBounds i (.int .u8 (b.toNat : Int)), n, ?_, by simpa using h2, by simpa using h3, fun j c hj => ?_⟩
  · show (W.heap.modify g _)[g]? = _
    rw [Array.getElem?_modify, if_pos rfl, h1]
    rfl
  · rw [List.getElem?_set] at hj
    rw [Array.getElem?_setIfInBounds]
    split at hj
    · rename_i e
      subst e
      split at hj
      · rename_i hl
        injection hj with hj
        subst hj
        rw [if_pos rfl, if_pos (by omega)]
      · cases hj
    · rename_i e
      rw [if_neg e]
      exact h4 j c hj
theorem Sit.bytes (h : Sit w W L) (s : ByteArray) (c : Nat) : Sit w (W.alloc (.cells (bytesRow s c) 5 ((bytesRow s c).size, (bytesRow s c).size + 1))).drew (fBy W.heap.size s.data.toList :: L) := by
  refine Sit.drew (h.add ((Below.refl _ _).alloc (by simp) _) _ (fBy_ok _ _) ⟨bytesRow s c, _, ?_, ?_, Nat.le_refl _, fun i b hi => ?_⟩ (by simp))
  · exact heap_alloc_new W _
  · unfold bytesRow; rw [Array.size_append, Array.size_map, Array.length_toList]; omega
  · unfold bytesRow
    have hl : i < s.data.size := by
      have := (List.getElem?_eq_some_iff.1 hi).1
      simpa using this
    rw [Array.getElem?_append_left (by simpa using hl), Array.getElem?_map]
    have : s.data[i]? = some b := by rw [← hi]; simp
    rw [this]
    rfl
/-- 'string(b[:n])' -/
theorem Sit.back_bytes {P : Program} (h : Sit w W L) (hm : fBy g l ∈ L) (src dst : TypeId) (n c : Nat) (hn : n ≤ l.length) (hs : P.underlying src = some (.slice 5)) (he : P.underlying 5 = some (.int .u8)) (hd : P.underlying dst = some .string) : (convert src dst (.slice (some ⟨g, 0, none⟩) n c)).run P W = .ok (.string ⟨(l.take n).toArray⟩) W := by
  have hl : (l.take n).length = n := by simp; omega
  have := run_convert_bytes_back (P := P) W src dst 5 ⟨g, 0, none⟩ c (l.take n) hs he hd (fun j hj => by
    have h1 : l[j]? = some (l.take n)[j] := by
      rw [List.getElem_take]
      exact List.getElem?_eq_getElem (by rw [hl] at hj; omega)
    have h2 := h.byCell hm h1
    have h3 : (⟨g, 0, none⟩ : Addr).add j = ⟨g, j, none⟩ := by
      unfold Addr.add
      split <;> simp_all
    rw [h3]
    exact h2)
  rw [hl] at this
  exact this
end
end Go.Proofs.Ytlhniekjdoeidaa

/-
  The walks over Digits, both sides: the decimal digits of a number.
-/
namespace Go.Proofs.Ytlhniekjdoeidaa
set_option linter.unusedVariables false
set_option linter.unusedSimpArgs false
set_option maxRecDepth 100000
open Go.RowKit
/-- the decimal digits of a number -/
def dgt (n : Int) : ByteArray := ⟨(Lib.itoa n).toArray⟩
/-- what is said of the digits so far: u the number without its sign, v what is left -/
def DigInv (u v : Nat) (out : List UInt8) : Prop := if v = 0 then out = Lib.decDigits u else Lib.decDigits u = Lib.decDigits v ++ out
theorem DigInv.start {u : Nat} (h : u ≠ 0) : DigInv u u [] := by unfold DigInv; rw [if_neg h]; simp
theorem DigInv.step {u v : Nat} {out : List UInt8} (h : DigInv u v out) (hv : v ≠ 0) : DigInv u (v / 10) (UInt8.ofNat (48 + v % 10) :: out) := by
  unfold DigInv at h ⊢
  rw [if_neg hv] at h
  by_cases h2 : v < 10
  · rw [if_pos (by omega), h, Lib.decDigits, dif_pos h2, Nat.mod_eq_of_lt h2]; rfl
  · rw [if_neg (by omega), h, Lib.decDigits, dif_neg h2]; simp
theorem DigInv.done {u : Nat} {out : List UInt8} (h : DigInv u 0 out) : out = Lib.decDigits u := by unfold DigInv at h; rwa [if_pos rfl] at h
theorem bytes_of_row {P : Program} (w : World) (src e dst : TypeId) (hs : P.underlying src = some (.slice e)) (he : P.underlying e = some (.int .u8)) (hd : P.underlying dst = some .string) (x : Int) (c : UInt8) (hx : UInt8.ofNat x.toNat = c) :
    (convert src dst (.slice (some ⟨w.heap.size, 0, none⟩) 1 1)).run P (w.alloc (.cells #[.int .u8 x] e)) = .ok (.string ⟨#[c]⟩) (w.alloc (.cells #[.int .u8 x] e)) := by
  rw [run_convert_bytes_arg (P := P) (w.alloc (.cells #[.int .u8 x] e)) src e hs he w.heap.size 0 1 1 [x] rfl (fun i hi => ?_) dst hd]
  · rw [← hx]; rfl
  · obtain rfl : i = 0 := by omega
    rw [cell_of_row _ _ _ _ _ (0, 0) (heap_alloc_new w _)]
    rfl
theorem str_cons (c : UInt8) (out : List UInt8) : (⟨#[c]⟩ : ByteArray) ++ ⟨out.toArray⟩ = ⟨(c :: out).toArray⟩ := by
  apply bytes_ext'
  simp [ByteArray.data_append]
theorem dgt_pos {u : Nat} {out : List UInt8} (h : DigInv u 0 out) : (⟨out.toArray⟩ : ByteArray) = dgt u := by rw [h.done]; unfold dgt Lib.itoa; rw [if_neg (by omega)]; rfl
theorem dgt_neg {u : Nat} {out : List UInt8} (hu : u ≠ 0) (h : DigInv u 0 out) : (⟨#[45]⟩ : ByteArray) ++ ⟨out.toArray⟩ = dgt (-(u : Int)) := by rw [h.done, str_cons]; unfold dgt Lib.itoa; rw [if_pos (by omega)]; simp
theorem DigInv.len {u v : Nat} {out : List UInt8} (h : DigInv u v out) (hu : u ≤ 9223372036854775808) : out.length ≤ 21 := by
  have h1 : (Lib.decDigits u).length ≤ 21 := by
    rcases Nat.eq_zero_or_pos u with h0 | h0
    · subst h0; decide +kernel
    · have h2 := Lib.itoa_length_le (-(u : Int)) (by omega) (by omega)
      rw [Lib.itoa_neg u h0] at h2
      simp at h2
      omega
  unfold DigInv at h
  split at h
  · rw [h]; exact h1
  · rw [h, List.length_append] at h1; omega
set_option maxRecDepth 100000 in
set_option maxHeartbeats 400000 in
theorem sDigits_any (n : Int) (w : World) (h0 : -9223372036854775808 ≤ n) (h1 : n ≤ 9223372036854775807) :
    Calls Try.prog 50 #[.int .i64 n] w fun e w' => e = .returned (.string (dgt n)) ∧ Below w.heap.size w w' := by
  by_cases hz : n = 0
  · subst hz
    go_enter Try.func50, Try.ntmps50
    go_wp2
    go_ret
    exact ⟨ret_str (by decide +kernel), Below.refl _ _⟩
  · have hz0 : (n == 0) = false := by simp [hz]
    obtain ⟨u, hu⟩ : ∃ u, u = n.natAbs := ⟨_, rfl⟩
    have hu0 : u ≠ 0 := by omega
    by_cases hneg : n < 0
    · have hd : decide (n < 0) = true := by simp [hneg]
      obtain rfl : n = -(u : Int) := by omega
      have hu63 : (u : Int) ≤ 9223372036854775808 := by omega
      have hup : decide (0 < u) = true := by simp; omega
      clear h0 h1 hu hneg
      go_enter Try.func50, Try.ntmps50
      go_wp2
      go_loopw [0, 4] (fun nv ov wr => ∃ v : Nat, ∃ out : List UInt8, v ≤ u ∧ nv = .int .i64 (-(v : Int)) ∧ ov = .string ⟨out.toArray⟩ ∧ DigInv u v out ∧ Below w.heap.size w wr) (fun nv _ _ => (-(intOf nv)).toNat)
      case atStart => exact ⟨u, [], Nat.le_refl _, rfl, rfl, DigInv.start hu0, Below.refl _ _⟩
      case round =>
        obtain ⟨v, out, hv, rfl, rfl, hi, hbl⟩ := hrel
        have HI := Lib.hid hi
        have hol := hi.len (by omega)
        clear hi
        by_cases hv0 : v = 0
        · subst hv0
          go_wp2
          go_ret
          exact ⟨ret_str (dgt_neg hu0 HI.out), hbl⟩
        · have hvn : (-(v : Int) == 0) = false := by simp; omega
          have hvn2 : (-(v : Int) != 0) = true := by simp; omega
          have hr : (-(v : Int)).tmod 10 = -((v % 10 : Nat) : Int) := by rw [Int.neg_tmod]; rfl
          have hq : (-(v : Int)).tdiv 10 = -((v / 10 : Nat) : Int) := by rw [Int.neg_tdiv]; rfl
          have hm : v % 10 < 10 := Nat.mod_lt _ (by decide)
          obtain ⟨d, hd0⟩ : ∃ d, d = v % 10 := ⟨_, rfl⟩
          rw [← hd0] at hr hm
          have HD := Lib.hid hd0
          have hcv := bytes_of_row (P := Try.prog) wr 22 5 9 Try.underlying22 Try.underlying5 Try.underlying9 (48 + (d : Int)) (UInt8.ofNat (48 + d)) (by congr 1)
          obtain ⟨c, hc⟩ : ∃ c, UInt8.ofNat (48 + d) = c := ⟨_, rfl⟩
          rw [hc] at hcv
          have HC := Lib.hid hc
          clear hc
          have hv10 : v / 10 ≤ u := by omega
          clear hd0
          by_cases hd1 : d = 0
          · subst hd1
            clear hcv
            have hcv := bytes_of_row (P := Try.prog) wr 22 5 9 Try.underlying22 Try.underlying5 Try.underlying9 48 c (by rw [← HC.out]; rfl)
            go_wp2
            go_roundw
            case rel => exact ⟨v / 10, c :: out, hv10, by go_num, by rw [str_cons], by have := HI.out.step hv0; rwa [← HD.out, HC.out] at this, hbl.alloc hbl.size _⟩
            case measure => simp [intOf]; omega
          · have hdn : -(d : Int) < 0 := by omega
            go_wp2
            go_roundw
            case rel => exact ⟨v / 10, c :: out, hv10, by go_num, by rw [str_cons], by have := HI.out.step hv0; rwa [← HD.out, HC.out] at this, hbl.alloc hbl.size _⟩
            case measure => simp [intOf]; omega
    · have hd : decide (n < 0) = false := by simpa using hneg
      obtain rfl : n = (u : Int) := by omega
      have hu63 : (u : Int) ≤ 9223372036854775807 := h1
      clear h0 h1 hu hneg
      go_enter Try.func50, Try.ntmps50
      go_wp2
      go_loopw [0, 4] (fun nv ov wr => ∃ v : Nat, ∃ out : List UInt8, v ≤ u ∧ nv = .int .i64 v ∧ ov = .string ⟨out.toArray⟩ ∧ DigInv u v out ∧ Below w.heap.size w wr) (fun nv _ _ => (intOf nv).toNat)
      case atStart => exact ⟨u, [], Nat.le_refl _, rfl, rfl, DigInv.start hu0, Below.refl _ _⟩
      case round =>
        obtain ⟨v, out, hv, rfl, rfl, hi, hbl⟩ := hrel
        have HI := Lib.hid hi
        have hol := hi.len (by omega)
        clear hi
        by_cases hv0 : v = 0
        · subst hv0
          go_wp2
          go_ret
          exact ⟨ret_str (dgt_pos HI.out), hbl⟩
        · have hvn : ((v : Int) == 0) = false := by simp; omega
          have hvn2 : ((v : Int) != 0) = true := by simp; omega
          have hcv := bytes_of_row (P := Try.prog) wr 22 5 9 Try.underlying22 Try.underlying5 Try.underlying9 (48 + (v : Int) % 10) (UInt8.ofNat (48 + v % 10)) (by congr 1)
          obtain ⟨c, hc⟩ : ∃ c, UInt8.ofNat (48 + v % 10) = c := ⟨_, rfl⟩
          rw [hc] at hcv
          have HC := Lib.hid hc
          clear hc
          go_wp2
          go_roundw
          case rel => exact ⟨v / 10, c :: out, by omega, by go_num, by rw [str_cons], HC.out ▸ HI.out.step hv0, hbl.alloc hbl.size _⟩
          case measure => simp [intOf]; omega
end Go.Proofs.Ytlhniekjdoeidaa

/-
  The walks over the program's Digits (by the library's numerals) and over BillText, both sides.
-/
namespace Go.Proofs.Ytlhniekjdoeidaa
set_option linter.unusedVariables false
set_option linter.unusedSimpArgs false
set_option maxRecDepth 100000
open Go.RowKit
/-- the library's table of powers lies as it was laid -/
def Tab (w : World) : Prop := Lib.TabIs Try.prog w "internal/strconv.uint64pow10" .u64 Lib.pow10Tab
theorem dgt_size (n : Int) (h0 : -9223372036854775808 ≤ n) (h1 : n ≤ 9223372036854775807) : (dgt n).size ≤ 21 := Lib.itoa_length_le n h0 h1
theorem wf_fits {n : Int} (h : (Lit.int .i64 n).wf = true) : -9223372036854775808 ≤ n ∧ n ≤ 9223372036854775807 := by
  have h1 : IntKind.i64.min ≤ n ∧ n ≤ IntKind.i64.max := by simpa [Lit.wf] using h
  rw [show IntKind.i64.min = -9223372036854775808 from rfl, show IntKind.i64.max = 9223372036854775807 from rfl] at h1
  exact h1
def sp1 : ByteArray := ⟨#[32]⟩
def Bill.fits (b : Bill) : Prop := ∀ n ∈ [b.code, b.cartons, b.pallets, b.cost, b.gram], -9223372036854775808 ≤ n ∧ n ≤ 9223372036854775807
end Go.Proofs.Ytlhniekjdoeidaa

/-
  The walks over LabelOf, both sides: three numbers with 0 ahead, and two digits that make the sum 1.
-/
namespace Go.Proofs.Ytlhniekjdoeidaa
set_option linter.unusedVariables false
set_option linter.unusedSimpArgs false
set_option maxRecDepth 100000
open Go.RowKit
/-- the digits of a number, with 0 ahead -/
def wideL (n : Int) (m : Nat) : List UInt8 := List.replicate (m - (Lib.itoa n).length) 48 ++ Lib.itoa n
def wide (n : Int) (m : Nat) : ByteArray := ⟨(wideL n m).toArray⟩
theorem dec_len : ∀ (k u : Nat), u < 10 ^ (k + 1) → (Lib.decDigits u).length ≤ k + 1
  | 0, u, h => by rw [Lib.decDigits, dif_pos (by simpa using h)]; simp
  | k + 1, u, h => by
    by_cases h2 : u < 10
    · rw [Lib.decDigits, dif_pos h2]; simp
    · rw [Lib.decDigits, dif_neg h2, List.length_append]
      have := dec_len k (u / 10) (by rw [Nat.pow_succ] at h; omega)
      simp
      omega
theorem digB_of (d : Nat) (h : d < 10) : digB (UInt8.ofNat (48 + d)) = true := by
  obtain rfl | rfl | rfl | rfl | rfl | rfl | rfl | rfl | rfl | rfl : d = 0 ∨ d = 1 ∨ d = 2 ∨ d = 3 ∨ d = 4 ∨ d = 5 ∨ d = 6 ∨ d = 7 ∨ d = 8 ∨ d = 9 := by omega
  all_goals decide
theorem dec_dig (u : Nat) : (Lib.decDigits u).all digB = true := by
  induction u using Nat.strongRecOn with
  | _ u ih =>
    by_cases h : u < 10
    · rw [Lib.decDigits, dif_pos h]; show (digB _ && true) = true; rw [digB_of u h]; rfl
    · rw [Lib.decDigits, dif_neg h, List.all_append, ih (u / 10) (by omega)]
      show (true && (digB _ && true)) = true
      rw [digB_of (u % 10) (Nat.mod_lt _ (by decide))]; rfl
theorem wide_len {u m : Nat} (h : u < 10 ^ (m + 1)) : (wideL (u : Int) (m + 1)).length = m + 1 := by
  unfold wideL
  have := dec_len m u h
  rw [Lib.itoa_nonneg, List.length_append, List.length_replicate]
  omega
theorem wide_dig (u m : Nat) : (wideL (u : Int) m).all digB = true := by
  unfold wideL
  rw [Lib.itoa_nonneg, List.all_append, dec_dig]
  simp
  exact .inr (by decide)
theorem lsum_app : ∀ (l1 l2 : List UInt8) (n : Int), l1.all digB = true → lsum (l1 ++ l2) n = lsum l2 (lsum l1 n)
  | [], _, _, _ => rfl
  | c :: l, l2, n, h => by
    simp only [List.all_cons, Bool.and_eq_true] at h
    have hc : 48 ≤ (c.toNat : Int) ∧ (c.toNat : Int) ≤ 57 := by simpa [digB] using h.1
    rw [List.cons_append, lsum_cons _ _ _ hc, lsum_cons _ _ _ hc, lsum_app l l2 _ h.2]
theorem lsum_range : ∀ (l : List UInt8) (n : Int), l.all digB = true → 0 ≤ n → n ≤ 96 → 0 ≤ lsum l n ∧ lsum l n ≤ 96
  | [], n, _, h0, h1 => ⟨h0, h1⟩
  | c :: l, n, h, h0, h1 => by
    simp only [List.all_cons, Bool.and_eq_true] at h
    have hc : 48 ≤ (c.toNat : Int) ∧ (c.toNat : Int) ≤ 57 := by simpa [digB] using h.1
    rw [lsum_cons _ _ _ hc]
    exact lsum_range l _ h.2 (by omega) (by omega)
theorem wide2 : ∀ n : Fin 97, wideL ((n.val : Nat) : Int) 2 = [UInt8.ofNat (48 + n.val / 10), UInt8.ofNat (48 + n.val % 10)] := by decide +kernel
theorem lsum_two (n : Nat) (hn : n < 97) (z : Int) (h0 : 0 ≤ z) (h1 : z ≤ 96) : lsum (wideL (n : Int) 2) z = (100 * z + n) % 97 := by
  rw [wide2 ⟨n, hn⟩]
  have h2 : ∀ d, d < 10 → ((UInt8.ofNat (48 + d)).toNat : Int) = 48 + d := by
    intro d hd
    rw [UInt8.toNat_ofNat']
    omega
  rw [lsum_cons _ _ _ (by rw [h2 _ (by omega)]; omega), lsum_cons _ _ _ (by rw [h2 _ (by omega)]; omega), h2 _ (by omega), h2 _ (by omega)]
  show (10 * ((10 * z + (48 + ((n / 10 : Nat) : Int) - 48)) % 97) + (48 + ((n % 10 : Nat) : Int) - 48)) % 97 = _
  omega
/-- the ten signs ahead of the two that are reckoned -/
def lheadL (p : Plan) (i : Nat) : List UInt8 := wideL (p.cartons.getD i default).type 3 ++ wideL (p.spots.getD i default).pallet 4 ++ wideL (i : Int) 3
def lrest (p : Plan) (i : Nat) : Int := (98 - labelSum (lheadL p i ++ [48, 48])) % 97
def labelOf (p : Plan) (i : Int) : ByteArray := if (planOk p && inB i 0 ((p.cartons.length : Int) - 1)) = true then ⟨(lheadL p i.toNat ++ wideL (lrest p i.toNat) 2).toArray⟩ else ByteArray.empty
theorem lhead_facts {p : Plan} {i : Nat} (hp : planOk p = true) (hi : i < p.cartons.length) : ∃ t l : Nat, (p.cartons.getD i default).type = t ∧ (p.spots.getD i default).pallet = l ∧ t ≤ 999 ∧ l ≤ 2000 ∧ p.cartons.length ≤ 100 ∧ p.spots.length = p.cartons.length := by
  unfold planOk at hp
  simp only [Bool.and_eq_true, decide_eq_true_eq] at hp
  obtain ⟨⟨h1, h2⟩, h3⟩ := hp
  have h4 := List.all_eq_true.1 h3 i (List.mem_range.2 hi)
  simp only [Bool.and_eq_true, cartonOk, spotOk, inB, decide_eq_true_eq] at h4
  exact ⟨(p.cartons.getD i default).type.toNat, (p.spots.getD i default).pallet.toNat, by omega, by omega, by omega, by omega, h2, h1⟩
theorem lhead_dig {p : Plan} {i : Nat} (hp : planOk p = true) (hi : i < p.cartons.length) : (lheadL p i).all digB = true ∧ (lheadL p i).length = 10 := by
  obtain ⟨t, l, h1, h2, h3, h4, h5, _⟩ := lhead_facts hp hi
  unfold lheadL
  rw [h1, h2, List.all_append, List.all_append, wide_dig, wide_dig, wide_dig, List.length_append, List.length_append, wide_len (m := 2) (by omega), wide_len (m := 3) (by omega), wide_len (m := 2) (by omega)]
  exact ⟨rfl, rfl⟩
theorem label_sum {p : Plan} {i : Nat} (hp : planOk p = true) (hi : i < p.cartons.length) (n : Nat) (hn : n < 97) :
    labelSum (lheadL p i ++ wideL (n : Int) 2) = (100 * lsum (lheadL p i) 0 + n) % 97 := by
  obtain ⟨h1, h2⟩ := lhead_dig hp hi
  have h3 := lsum_range _ 0 h1 (by omega) (by omega)
  unfold labelSum
  rw [if_neg (by rw [List.length_append, h2, wide_len (m := 1) (by omega)]; omega), lsum_app _ _ _ h1, lsum_two n hn _ h3.1 h3.2]
theorem lrest_eq {p : Plan} {i : Nat} (hp : planOk p = true) (hi : i < p.cartons.length) : lrest p i = (98 - (100 * lsum (lheadL p i) 0) % 97) % 97 := by
  have := label_sum hp hi 0 (by omega)
  unfold lrest
  rw [show ([48, 48] : List UInt8) = wideL ((0 : Nat) : Int) 2 by decide +kernel, this]
  simp
theorem lrest_range {p : Plan} {i : Nat} (hp : planOk p = true) (hi : i < p.cartons.length) : 0 ≤ lrest p i ∧ lrest p i < 97 := by rw [lrest_eq hp hi]; omega
theorem label_hit {p : Plan} {i : Nat} (hp : planOk p = true) (hi : i < p.cartons.length) (n : Nat) (hn : n < 97) : labelSum (lheadL p i ++ wideL (n : Int) 2) = 1 ↔ (n : Int) = lrest p i := by
  have h3 := lsum_range _ 0 (lhead_dig hp hi).1 (by omega) (by omega)
  rw [label_sum hp hi n hn, lrest_eq hp hi]
  omega
theorem str_app (a b : List UInt8) : (⟨a.toArray⟩ : ByteArray) ++ ⟨b.toArray⟩ = ⟨(a ++ b).toArray⟩ := by
  apply bytes_ext'
  simp [ByteArray.data_append]
theorem list_size (l : List UInt8) : (⟨l.toArray⟩ : ByteArray).size = l.length := by simp [ByteArray.size]
def strLen : Value → Nat
  | .string s => s.size
  | _ => 0
set_option maxRecDepth 100000 in
set_option maxHeartbeats 400000 in
theorem l22Wide_any (u m : Nat) (w : World) (hu : u ≤ 99999) (hm : m ≤ 10) :
    Calls Try.prog 40 #[.int .i64 u, .int .i64 m] w fun e w' => e = .returned (.string (wide u m)) ∧ Below w.heap.size w w' := by
  obtain ⟨L, hL⟩ : ∃ l, l = Lib.itoa (u : Int) := ⟨_, rfl⟩
  have hLl : L.length ≤ 5 := by rw [hL, Lib.itoa_nonneg]; exact dec_len 4 u (by omega)
  have HD := Lib.hid (sDigits_any (u : Int) w (by omega) (by omega))
  unfold dgt at HD
  rw [← hL] at HD
  have HT := Lib.hid (show wide u m = ⟨(List.replicate (m - L.length) 48 ++ L).toArray⟩ by unfold wide wideL; rw [← hL])
  clear hL
  go_enter Try.func40, Try.ntmps40
  go_wp2_with fail
  refine HD.out.mono ?_
  rintro e w1 ⟨rfl, hb1⟩
  go_wp2
  go_loopw [5] (fun sv wr => ∃ j : Nat, j ≤ m - L.length ∧ sv = .string ⟨(List.replicate j 48 ++ L).toArray⟩ ∧ Below w.heap.size w wr) (fun sv _ => m - strLen sv)
  case atStart => exact ⟨0, Nat.zero_le _, rfl, hb1⟩
  case round =>
    obtain ⟨j, hj, rfl, hbl⟩ := hrel
    have hsz : (⟨(List.replicate j 48 ++ L).toArray⟩ : ByteArray).size = j + L.length := by rw [list_size]; simp
    obtain ⟨s, hs⟩ : ∃ s, s = (⟨(List.replicate j 48 ++ L).toArray⟩ : ByteArray) := ⟨_, rfl⟩
    rw [← hs] at hsz ⊢
    have HS := Lib.hid hs
    have HZ := Lib.hid hsz
    have hs1 : s.size ≤ 100 := by omega
    by_cases hlt : j + L.length < m
    · have hs2 : s.size < m := by omega
      clear hs hsz
      go_wp2
      go_roundw
      case rel => exact ⟨j + 1, by omega, by rw [HS.out, str_cons]; rfl, hbl⟩
      case measure => have h1 : (⟨#[48]⟩ : ByteArray).size = 1 := rfl; simp [strLen, ByteArray.size_append, h1]; omega
    · have hs2 : ¬ s.size < m := by omega
      clear hs hsz
      go_wp2
      go_ret
      exact ⟨ret_str (by rw [HT.out, HS.out, show m - L.length = j by omega]), hbl⟩
set_option maxRecDepth 100000 in
set_option maxHeartbeats 1000000 in
theorem sLabelOf_any (v : Value) (p : Plan) (i : Int) (w : World) (h : RPlan 16777216 w w.heap.size v p) : Calls Try.prog 29 #[v, .int .i64 i] w fun e w' => e = .returned (.string (labelOf p i)) ∧ Below w.heap.size w w' := by
  have H := Lib.hid h
  obtain ⟨v1, v2, rfl, h1, h2⟩ := h
  have H1 := Lib.hid h1
  have H2 := Lib.hid h2
  obtain ⟨A1, c1, rfl, hbd1, _⟩ := h1
  obtain ⟨A2, c2, rfl, hbd2, _⟩ := h2
  obtain ⟨bp, hbp⟩ : ∃ x, planOk p = x := ⟨_, rfl⟩
  obtain ⟨bn, hbn⟩ : ∃ x, inB i 0 ((p.cartons.length : Int) - 1) = x := ⟨_, rfl⟩
  have HBP := Lib.hid hbp
  have HBN := Lib.hid hbn
  have hW : Below w.heap.size w (w.alloc (.cells #[.slice A1 p.cartons.length c1, .slice A2 p.spots.length c2] 30)) := (by repeat' (first | with_reducible exact Below.refl _ _ | with_reducible assumption | with_reducible refine Below.drew ?_ | with_reducible refine Below.alloc ?_ ?_ _ | with_reducible refine Below.setCell ?_ ?_ _ | with_reducible refine below_drewN ?_ _ | (simp; done) | (simp; omega)))
  have HX := Lib.hid (heap_alloc_new w (.cells #[.slice A1 p.cartons.length c1, .slice A2 p.spots.length c2] 30))
  clear hbp hbn
  go_enter Try.func29, Try.ntmps29
  go_wp2_with fail
  refine (sPlanOk_any _ p _ (H.out.next hW)).mono ?_
  rintro e w1 ⟨rfl, hb1⟩
  have HX1 := Lib.hid (blk_next HX.out hb1)
  have hx1 := fun j => cell_of_row _ _ j _ _ (0, 0) HX1.out
  have hlx := lt_of_block HX1.out
  have hW1 := bstep hW hb1
  rw [HBP.out]
  cases bp
  · have HT := Lib.hid (show labelOf p i = ByteArray.empty by unfold labelOf; rw [HBP.out]; rfl)
    go_wp2
    go_ret
    exact ⟨ret_str HT.out.symm, hW1⟩
  · cases bn
    · have HT := Lib.hid (show labelOf p i = ByteArray.empty by unfold labelOf; rw [HBP.out, HBN.out]; rfl)
      go_wp2_with (go_at_call 26; refine (l1In_any i 0 ((p.cartons.length : Int) - 1) _).mono ?_; rintro e w4 ⟨rfl, rfl⟩; rw [HBN.out])
      go_ret
      exact ⟨ret_str HT.out.symm, hW1⟩
    · have hi := HBN.out
      unfold inB at hi
      simp only [Bool.and_eq_true, decide_eq_true_eq] at hi
      obtain ⟨n, rfl⟩ : ∃ n : Nat, i = n := ⟨i.toNat, by omega⟩
      have hn : n < p.cartons.length := by omega
      obtain ⟨t, l, ht, hl, ht9, hl2, hlen, hsl⟩ := lhead_facts HBP.out hn
      have hns : n < p.spots.length := by omega
      obtain ⟨b, off, x, _, rfl, hb, hx, _, ⟨vx, rfl, _⟩, hc⟩ := (H1.out.below (RCarton_mono _) hW1).at_ n hn
      obtain ⟨b2, off2, y, _, rfl, hb2, hy, _, rfl, hc2⟩ := (H2.out.below (flat_mono _) hW1).at_ n hns
      have hc0 := hc 0 _ rfl
      have hd0 := hc2 0 _ rfl
      simp only [Nat.add_zero] at hc0 hd0
      rw [show p.cartons.getD n default = x by simp [List.getD, hx]] at ht
      rw [show p.spots.getD n default = y by simp [List.getD, hy]] at hl
      have HL := Lib.hid (show lheadL p n = wideL (t : Int) 3 ++ wideL (l : Int) 4 ++ wideL (n : Int) 3 by unfold lheadL; rw [show p.cartons.getD n default = x by simp [List.getD, hx], show p.spots.getD n default = y by simp [List.getD, hy], ht, hl])
      have hr := lrest_range HBP.out hn
      obtain ⟨r, hr2⟩ : ∃ r : Nat, lrest p n = r := ⟨(lrest p n).toNat, by omega⟩
      have hr97 : r < 97 := by omega
      have HT := Lib.hid (show labelOf p (n : Int) = ⟨(lheadL p n ++ wideL (r : Int) 2).toArray⟩ by unfold labelOf; rw [HBP.out, HBN.out, Int.toNat_natCast, hr2]; rfl)
      have hsum := label_sum HBP.out hn 0 (by omega)
      rw [show wideL ((0 : Nat) : Int) 2 = [48, 48] by decide +kernel] at hsum
      have hz : 0 ≤ labelSum (lheadL p n ++ [48, 48]) ∧ labelSum (lheadL p n ++ [48, 48]) ≤ 96 := by rw [hsum]; omega
      have HZ := Lib.hid (show lrest p n = (98 - labelSum (lheadL p n ++ [48, 48])) % 97 from rfl)
      obtain ⟨z, hz2⟩ : ∃ z, labelSum (lheadL p n ++ [48, 48]) = z := ⟨_, rfl⟩
      rw [hz2, hr2] at HZ
      rw [hz2] at hz
      have hz0 := hz.1
      have hz1 := hz.2
      have HZ2 := Lib.hid hz2
      rw [ht] at hc0
      rw [hl] at hd0
      obtain ⟨s1, e1⟩ : ∃ s, s = wide (t : Int) 3 := ⟨_, rfl⟩
      obtain ⟨s2, e2⟩ : ∃ s, s = wide (l : Int) 4 := ⟨_, rfl⟩
      obtain ⟨s3, e3⟩ : ∃ s, s = wide (n : Int) 3 := ⟨_, rfl⟩
      obtain ⟨s4, e4⟩ : ∃ s, s = wide (r : Int) 2 := ⟨_, rfl⟩
      have k1 : s1.size ≤ 3 := by rw [e1, wide, list_size, wide_len (m := 2) (by omega)]; omega
      have k2 : s2.size ≤ 4 := by rw [e2, wide, list_size, wide_len (m := 3) (by omega)]; omega
      have k3 : s3.size ≤ 3 := by rw [e3, wide, list_size, wide_len (m := 2) (by omega)]; omega
      have k4 : s4.size ≤ 2 := by rw [e4, wide, list_size, wide_len (m := 1) (by omega)]; omega
      have hE := fun (u m : Nat) (hu : u ≤ 99999) (hm : m ≤ 10) (X : Ext w1.heap.size w1) => ext_call (x := X) (Nat.le_refl _) (l22Wide_any u m X.world hu hm)
      have E1 := hE t 3 (by omega) (by omega)
      have E2 := hE l 4 (by omega) (by omega)
      have E3 := hE n 3 (by omega) (by omega)
      rw [show ((3 : Nat) : Int) = 3 from rfl] at E1 E3
      rw [show ((4 : Nat) : Int) = 4 from rfl] at E2
      have E1 := Lib.hid E1
      have E2 := Lib.hid E2
      have E3 := Lib.hid E3
      rw [← e1] at E1
      rw [← e2] at E2
      rw [← e3] at E3
      have HE1 := Lib.hid e1
      have HE2 := Lib.hid e2
      have HE3 := Lib.hid e3
      have HE4 := Lib.hid e4
      have hq0 := fun (j : Nat) (X : Ext w1.heap.size w1) => (X.cells (b := w.heap.size) (o := j) hlx).trans (hx1 j)
      have hq1 := fun (X : Ext w1.heap.size w1) => (X.cells (b := b) (o := off + n * 3) (by have := hW1.size; omega)).trans hc0
      have hq2 := fun (X : Ext w1.heap.size w1) => (X.cells (b := b2) (o := off2 + n * 4) (by have := hW1.size; omega)).trans hd0
      clear hc hc2 hx hy ht hl hr hr2 hsum hz hz2 e1 e2 e3 e4 hE hi hsl
      go_wp2_with (go_at_call 26; refine (l1In_any (n : Int) 0 ((p.cartons.length : Int) - 1) _).mono ?_; rintro e w4 ⟨rfl, rfl⟩; rw [HBN.out])
      refine wp_region_ext w1.heap.size (by kernel_rfl) (by kernel_rfl) ?_
      repeat (go_big_quiet_step (first | with_reducible exact E1.out _ | with_reducible exact E2.out _ | with_reducible exact E3.out _))
      refine wpQuiet_nil ?_
      intro _ hw'
      obtain ⟨X, rfl⟩ := hw'
      have HHD := Lib.hid (show s1 ++ s2 ++ s3 = ⟨(lheadL p n).toArray⟩ by rw [HE1.out, HE2.out, HE3.out, HL.out]; unfold wide; rw [str_app, str_app])
      have hle := lhead_dig HBP.out hn
      have hsz : (s1 ++ s2 ++ s3 ++ (⟨#[48, 48]⟩ : ByteArray)).size ≤ maxLen := by rw [HHD.out, show (⟨#[48, 48]⟩ : ByteArray) = ⟨([48, 48] : List UInt8).toArray⟩ from rfl, str_app, list_size, List.length_append, hle.2]; unfold maxLen; decide
      have HLS := Lib.hid (show labelSum (s1 ++ s2 ++ s3 ++ (⟨#[48, 48]⟩ : ByteArray)).data.toList = z by rw [HHD.out, show (⟨#[48, 48]⟩ : ByteArray) = ⟨([48, 48] : List UInt8).toArray⟩ from rfl, str_app]; exact HZ2.out)
      have HSZ := Lib.hid hsz
      have E4 := l22Wide_any r 2 X.world (by omega) (by omega)
      rw [show ((2 : Nat) : Int) = 2 from rfl, ← HE4.out] at E4
      have E4 := Lib.hid E4
      clear hsz hle
      go_wp2_with fail
      refine (sLabelSum_any _ X.world HSZ.out).mono ?_
      rintro e w5 ⟨rfl, rfl⟩
      rw [HLS.out]
      go_wp2_with fail
      rw [← HZ.out]
      refine E4.out.mono ?_
      rintro e w6 ⟨rfl, hb6⟩
      have HSE := Lib.hid (show s1 ++ s2 ++ s3 ++ s4 = labelOf p (n : Int) by rw [HHD.out, HT.out, HE4.out]; unfold wide; rw [str_app])
      go_wp2
      go_ret
      exact ⟨ret_str HSE.out, bstep (bstep hW1 X.ok) hb6⟩
end Go.Proofs.Ytlhniekjdoeidaa
