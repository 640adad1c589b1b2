/-
  slices.DeleteFunc at flat elements, said of lists of the call's own; the order without an item.
-/
import Derived.Test.YteamlfcfillbjaaGreatRt
import Derived.Test.YteamlfcfillbjaaGreatIx
import Derived.Test.YteamlfcfillbjaaGreatLb
namespace Go.Proofs.YteamlfcfillbjaaGreat
set_option linter.unusedVariables false
set_option linter.unusedSimpArgs false
set_option maxRecDepth 100000
open Go.RowKit
section
variable {α : Type} {p : α → Bool} {xs L : List α} {i j n : Nat} {x : α}
/-- what the loop of DeleteFunc has done: j elements seen, i kept -/
structure Del (p : α → Bool) (xs : List α) (i j : Nat) (L : List α) : Prop where
  len : L.length = xs.length
  lt : i < j
  le : j ≤ xs.length
  kept : L.take i = (xs.take j).filter (fun x => !p x)
  left : L.drop j = xs.drop j
theorem Del.start {k : Nat} {x : α} (hk : xs[k]? = some x) (hp : p x = true) (hn : ∀ m y, m < k → xs[m]? = some y → p y = false) : Del p xs k (k + 1) xs := by
  have hl := (List.getElem?_eq_some_iff.1 hk).1
  refine ⟨rfl, Nat.lt_succ_self k, hl, ?_, rfl⟩
  rw [List.take_add_one, hk, Option.toList_some, List.filter_append]
  have h1 : (xs.take k).filter (fun x => !p x) = xs.take k := by
    rw [List.filter_eq_self]
    intro a ha
    obtain ⟨m, hm, rfl⟩ := List.mem_iff_getElem.1 ha
    rw [List.length_take] at hm
    have := hn m _ (by omega) (List.getElem?_eq_getElem (show m < xs.length by omega))
    rw [List.getElem_take, this]
    rfl
  simp [h1, hp]
theorem Del.get (h : Del p xs i j L) : L[j]? = xs[j]? := by
  have := congrArg (fun l => l[0]?) h.left
  simpa using this
theorem Del.skip (h : Del p xs i j L) (hx : xs[j]? = some x) (hp : p x = true) : Del p xs i (j + 1) L := by
  have hl := (List.getElem?_eq_some_iff.1 hx).1
  refine ⟨h.len, by have := h.lt; omega, hl, ?_, ?_⟩
  · rw [List.take_add_one, hx, List.filter_append, ← h.kept]
    simp [hp]
  · have := congrArg (List.drop 1) h.left
    simpa [List.drop_drop, Nat.add_comm] using this
theorem Del.keep (h : Del p xs i j L) (hx : xs[j]? = some x) (hp : p x = false) : Del p xs (i + 1) (j + 1) (L.set i x) := by
  have hl := (List.getElem?_eq_some_iff.1 hx).1
  have hij := h.lt
  have hL := h.len
  refine ⟨by simp [hL], by omega, hl, ?_, ?_⟩
  · rw [List.take_add_one (l := xs), hx, List.filter_append, ← h.kept]
    rw [List.take_add_one, List.take_set_of_le (Nat.le_refl i)]
    simp [hp, show i < L.length by omega]
  · rw [List.drop_set_of_lt (by omega)]
    have := congrArg (List.drop 1) h.left
    simpa [List.drop_drop, Nat.add_comm] using this
theorem Del.done (h : Del p xs i xs.length L) : L.take i = xs.filter (fun x => !p x) := by
  have := h.kept
  rwa [List.take_length] at this
/-- DeleteFunc's first look -/
theorem idxF_first (p : α → Bool) (xs : List α) : (idxF p xs = -1 ∧ xs.filter (fun x => !p x) = xs) ∨ ∃ k : Nat, idxF p xs = k ∧ k < xs.length ∧ Del p xs k (k + 1) xs := by
  unfold idxF
  cases h : xs.findIdx? p with
  | none =>
    rw [List.findIdx?_eq_none_iff] at h
    exact .inl ⟨rfl, List.filter_eq_self.2 (fun a ha => by simp [h a ha])⟩
  | some k =>
    rw [List.findIdx?_eq_some_iff_getElem] at h
    obtain ⟨hl, hp, hn⟩ := h
    refine .inr ⟨k, rfl, hl, Del.start (List.getElem?_eq_getElem hl) hp (fun m y hm hy => ?_)⟩
    have h1 := hn m hm
    rw [List.getElem?_eq_getElem (by omega)] at hy
    cases hy
    simpa using h1
theorem set_store {f : α → List Value} {K : Nat} (hK : ∀ x, (f x).length = K) (hi : i < L.length) (x : α) : setL (L.flatMap f) (i * K) (f x) = (L.set i x).flatMap f := by
  have h := mix_store (f := f) hK (pre := L.take i) (xs := L) (j := i) (by simp; omega) hi x
  rw [List.take_append_drop] at h
  rw [h, List.set_eq_take_append_cons_drop, if_pos hi]
  simp
end
theorem zeroCells_len (z : Array Value) (n : Nat) : (Builtin.zeroCells z n).toList.length = n * z.size := by simp [Builtin.zeroCells, Nat.mul_comm]
theorem zeroCells_one (z : Array Value) (n : Nat) (h : ∀ v ∈ z, v.oneCell' = true) : ∀ v ∈ (Builtin.zeroCells z n).toList, v.oneCell' = true := by
  intro v hv
  simp [Builtin.zeroCells] at hv
  obtain ⟨i, hi, rfl⟩ := hv
  have hz : 0 < z.size := by
    rcases Nat.eq_zero_or_pos z.size with h0 | h0
    · rw [h0] at hi; simp at hi
    · exact h0
  have hm := Nat.mod_lt i hz
  rw [getElem!_pos z _ hm]
  exact h _ (Array.getElem_mem hm)
/-- 'clear(s)' of elements of many cells -/
theorem run_clear_many {P : Program} (w : World) (t e ty : TypeId) (z : Value) (ht : P.underlying t = some (.slice e)) (hv : ∀ w, (zeroValue e).run P w = .ok z w) (h1 : ∀ v ∈ z.cells, v.oneCell' = true) (b o n c : Nat) (hn : 0 < n)
    (hc : ∀ j, j < n * z.cells.size → (w.cell? ⟨b, o + j, none⟩).isSome = true) (hf : ∀ j, j < n * z.cells.size → w.frozen? ⟨b, o + j, none⟩ = false) :
    (Builtin.clear_ #[t] ty #[.slice (some ⟨b, o, none⟩) n c]).run P w = .ok (.tuple #[]) (setW w b o (Builtin.zeroCells z.cells n).toList) := by
  have hst := run_storeCells_cells (P := P) b o (Builtin.zeroCells z.cells n).toList 0 w (by rw [zeroCells_len]; simpa using hc) (by rw [zeroCells_len]; simpa using hf) (zeroCells_one _ _ h1)
  simp only [Nat.add_zero] at hst
  rw [setCells_setW] at hst
  obtain ⟨m, rfl⟩ : ∃ m, n = m + 1 := ⟨n - 1, by omega⟩
  simp [Builtin.clear_, run_underlying ht, hv, hst]
theorem own_next {w w' : World} {base e K n : Nat} {v : Value} {us : List Value} (h : w.ownsRow base e K v n us) (hb : Below w.heap.size w w') : w'.ownsRow base e K v n us := own_block h (fun b hm => hb.block b (h.lt b hm).2)
theorem own_some {w : World} {base e K n g c a : Nat} {us : List Value} (h : w.ownsRow base e K (.slice (some ⟨g, 0, none⟩) n c) n us) (ha : a ≤ n) (j : Nat) (hj : j < (n - a) * K) : (w.cell? ⟨g, a * K + j, none⟩).isSome = true := by
  rcases h.2 with ⟨hv, _⟩ | ⟨g', cap, cur, hv, _, hg, hn, _, hs, _⟩
  · cases hv
  · cases hv
    rw [cell_of_row _ _ _ _ _ (0, 0) hg, Array.getElem?_eq_getElem (by
      have h1 : n * K ≤ c * K := Nat.mul_le_mul_right _ hn
      have h2 : (n - a) * K = n * K - a * K := Nat.sub_mul ..
      have h3 : a * K ≤ n * K := Nat.mul_le_mul_right _ ha
      omega)]
    rfl
theorem own_take {w : World} {base e K n g c a : Nat} {us : List Value} (h : w.ownsRow base e K (.slice (some ⟨g, 0, none⟩) n c) n us) (ha : a ≤ n) : w.ownsRow base e K (.slice (some ⟨g, 0, none⟩) a c) a (us.take (a * K)) := by
  have hl := h.1
  have hm : a * K ≤ n * K := Nat.mul_le_mul_right _ ha
  refine ⟨by rw [List.length_take]; omega, ?_⟩
  rcases h.2 with ⟨hv, _⟩ | ⟨g', cap, cur, hv, hb, hg, hn, hc, hs, ht⟩
  · cases hv
  · cases hv
    refine .inr ⟨_, _, cur, rfl, hb, hg, by omega, hc, hs, ?_⟩
    rw [← ht, List.take_take, Nat.min_eq_left hm]
theorem setL_take : ∀ (us xs : List Value) (o k : Nat), k ≤ o → (setL xs o us).take k = xs.take k
  | [], _, _, _, _ => rfl
  | u :: us, xs, o, k, h => by
    unfold setL
    rw [setL_take us _ (o + 1) k (by omega), List.take_set_of_le h]
theorem flat_take {α : Type} {f : α → List Value} {K : Nat} (hK : ∀ x, (f x).length = K) : ∀ (xs : List α) (a : Nat), (xs.flatMap f).take (a * K) = (xs.take a).flatMap f
  | [], a => by simp
  | x :: xs, 0 => by simp
  | x :: xs, a + 1 => by
    rw [List.flatMap_cons, List.take_append, hK, Nat.add_mul, Nat.one_mul, List.take_of_length_le (by rw [hK]; omega), Nat.add_sub_cancel, flat_take hK xs a]
    simp
set_option maxHeartbeats 1000000 in
theorem deleteFuncItem_any (fn : FuncId) (cap : Array Value) (p : Item → Bool) (v : Value) (xs : List Item) (fp : List Nat) (base : Nat) (w : World) (h : OF Item.cells 41 7 w base v xs fp) (hb : xs.length ≤ 16777216) (hrun : ∀ args W, (callFunc fn args).run Tryz.prog W = .ok (.enter fn args) W)
    (hf : ∀ (W : World) (x : Item), Tch fp w W → x ∈ xs → Calls Tryz.prog fn (#[x.val] ++ cap) W fun e w' => e = .returned (.bool (p x)) ∧ Below W.heap.size W w') :
    Calls Tryz.prog 66 #[v, .func (.func fn) #[] cap] w fun e w' => ∃ v', e = .returned v' ∧ OF Item.cells 41 7 w' base v' (xs.filter (fun x => !p x)) fp ∧ Tch fp w w' := by
  obtain ⟨A, c, rfl, hcap⟩ := h.form
  have HI := Lib.hid (indexFuncItem_any fn cap p _ xs w (h.read (fun _ => rfl) hb) hrun (fun W x hW hx => hf W x (Tch.of hW fp) hx))
  have HO := Lib.hid h
  have HF := Lib.hid hf
  clear h hf
  rcases idxF_first p xs with ⟨hi, hfl⟩ | ⟨k0, hi, hk, hd⟩
  · rw [hi] at HI
    have HFL := Lib.hid hfl
    clear hi hfl
    go_enter Tryz.func66, Tryz.ntmps66
    go_wp2_with fail
    refine HI.out.mono ?_
    rintro e w1 ⟨rfl, hb1⟩
    go_wp2
    go_ret
    exact ⟨_, rfl, by rw [HFL.out]; exact HO.out.next hb1, Tch.of hb1 _⟩
  · rw [hi] at HI
    have HD := Lib.hid hd
    clear hi hd
    obtain ⟨g, rfl⟩ : ∃ g, A = some ⟨g, 0, none⟩ := by
      rcases HO.out.1.2 with ⟨hv, _⟩ | ⟨g, cap, cur, hv, _⟩
      · have hv' := congrArg (fun v => match v with | .slice _ m _ => m | _ => 0) hv; simp at hv'; omega
      · cases hv; exact ⟨g, rfl⟩
    have HP := Lib.hid (show fp = [g] from HO.out.2)
    go_enter Tryz.func66, Tryz.ntmps66
    go_wp2_with fail
    refine HI.out.mono ?_
    rintro e w1 ⟨rfl, hb1⟩
    go_wp2
    go_loopw [5, 6] (fun i j wr => ∃ (a b : Nat) (L : List Item), i = .int .i64 a ∧ j = .int .i64 b ∧ Hid (Del p xs a b L) ∧ a < b ∧ b ≤ xs.length ∧ Hid (wr.ownsRow base 41 7 (.slice (some ⟨g, 0, none⟩) xs.length c) xs.length (L.flatMap Item.cells)) ∧ Hid (Tch fp w wr)) (fun _ j _ => xs.length - (intOf j).toNat)
    case atStart => exact ⟨k0, k0 + 1, xs, rfl, rfl, HD, Nat.lt_succ_self _, hk, Lib.hid (HO.out.next hb1).1, Lib.hid (Tch.of hb1 _)⟩
    case round =>
      obtain ⟨a, b, L, rfl, rfl, HD, hab, hbn, HO, HT⟩ := hrel
      have HL := Lib.hid HD.out.len
      by_cases hlt : b < xs.length
      · have ho0 := HO.out
        have hrd : RL 16777216 7 (flat Item.cells) wr wr.heap.size (.slice (some ⟨g, 0, none⟩) L.length c) L := OF.read (f := Item.cells) (e := 41) (K := 7) (OF.mk (by rw [HL.out]; exact ho0)) (fun _ => rfl) (by rw [HL.out]; exact hb)
        obtain ⟨g2, off, x, hA, hgw, hx, hc⟩ := hrd.flatX (B := wr.heap.size) (W := wr) (fun X => X.ok) b (by rw [HL.out]; exact hlt)
        cases hA
        have hx' : xs[b]? = some x := by rw [← HD.out.get]; exact hx
        have HX := Lib.hid hx'
        have hc := fun j u h => hc j u h (Ext.here _ _)
        simp only [Nat.zero_add] at hc
        have hc0 := hc 0 _ rfl; have hc1 := hc 1 _ rfl; have hc2 := hc 2 _ rfl; have hc3 := hc 3 _ rfl; have hc4 := hc 4 _ rfl; have hc5 := hc 5 _ rfl; have hc6 := hc 6 _ rfl; simp only [Nat.add_zero] at hc0
        have HC := Lib.hid fun (W : World) (hW : Below wr.heap.size wr W) => HF.out W x (HT.out.trans (Tch.of hW fp)) (List.mem_of_getElem? hx')
        obtain ⟨q, hq⟩ : ∃ q, p x = q := ⟨_, rfl⟩
        rw [hq] at HC
        have HQ := Lib.hid hq
        clear hq hx hx' hrd hc ho0
        have hA : Below wr.heap.size wr (wr.alloc (.cells #[.int .i64 x.id, .int .i64 x.w, .int .i64 x.h, .int .i64 x.d, .int .i64 x.gram, .int .i64 x.cls, .int .i64 x.count] 41)) := (by repeat' (first | with_reducible exact Below.refl _ _ | with_reducible assumption | with_reducible refine Below.drew ?_ | with_reducible refine Below.alloc ?_ ?_ _ | with_reducible refine Below.setCell ?_ ?_ _ | with_reducible refine below_drewN ?_ _ | (simp; done) | (simp; omega)))
        have HA := Lib.hid hA
        have HB := Lib.hid (heap_alloc_new wr (.cells #[.int .i64 x.id, .int .i64 x.w, .int .i64 x.h, .int .i64 x.d, .int .i64 x.gram, .int .i64 x.cls, .int .i64 x.count] 41))
        clear hA
        go_wp2_with fail
        refine (HC.out _ HA.out).mono ?_
        rintro e w2 ⟨rfl, hb2⟩
        have HT2 := Lib.hid (HT.out.trans (Tch.of (bstep HA.out hb2) fp))
        have HO2 := Lib.hid (own_next HO.out (bstep HA.out hb2))
        have hbox := blk_next HB.out hb2
        have k0 := fun j => cell_of_row _ _ j _ _ (0, 0) hbox
        have l0 := lt_of_block hbox
        clear hbox hc0 hc1 hc2 hc3 hc4 hc5 hc6
        cases q
        · have hD := HD.out.keep HX.out HQ.out
          have hst := storedL x.cells (L.flatMap Item.cells) w2 (a * 7) HO2.out
          rw [set_store (f := Item.cells) (K := 7) (fun _ => rfl) (by rw [HL.out]; omega) x] at hst
          have htc := Tch.setW (show g ∈ fp by rw [HP.out]; simp) x.cells w2 (a * 7) HT2.out
          have HD := Lib.hid hD
          have HST := Lib.hid hst
          have HTC := Lib.hid htc
          have hfz := HO2.out.frozenAt
          obtain ⟨o0, ho0⟩ := own_room0 HO2.out a (by omega) (by omega)
          obtain ⟨o1, ho1⟩ := own_room HO2.out a 1 (by omega) (by omega)
          obtain ⟨o2, ho2⟩ := own_room HO2.out a 2 (by omega) (by omega)
          obtain ⟨o3, ho3⟩ := own_room HO2.out a 3 (by omega) (by omega)
          obtain ⟨o4, ho4⟩ := own_room HO2.out a 4 (by omega) (by omega)
          obtain ⟨o5, ho5⟩ := own_room HO2.out a 5 (by omega) (by omega)
          obtain ⟨o6, ho6⟩ := own_room HO2.out a 6 (by omega) (by omega)
          have hac : a < c := by omega
          have han : a < xs.length := by omega
          clear hD hst htc
          go_wp2
          go_roundw
          case rel => (repeat apply Exists.intro); exact ⟨⟨a + 1, b + 1, _, by go_num, by go_num, HD, by omega, hlt, HST, HTC⟩, rfl⟩
          case measure => simp [intOf]; omega
        · have HD := Lib.hid (HD.out.skip HX.out HQ.out)
          go_wp2
          go_roundw
          case rel => (repeat apply Exists.intro); exact ⟨⟨a, b + 1, L, rfl, by go_num, HD, by omega, hlt, HO2, HT2⟩, rfl⟩
          case measure => simp [intOf]; omega
      · obtain rfl : b = xs.length := by omega
        have hz : ∀ w, (zeroValue 41).run Tryz.prog w = .ok (.agg #[.int .i64 0, .int .i64 0, .int .i64 0, .int .i64 0, .int .i64 0, .int .i64 0, .int .i64 0]) w := fun w => by kernel_rfl
        have hcl : ∀ ty, (Builtin.clear_ #[35] ty #[.slice (some ⟨g, a * 7, none⟩) (xs.length - a) (c - a)]).run Tryz.prog wr = .ok (.tuple #[]) (setW wr g (a * 7) (Builtin.zeroCells #[.int .i64 0, .int .i64 0, .int .i64 0, .int .i64 0, .int .i64 0, .int .i64 0, .int .i64 0] (xs.length - a)).toList) := fun ty =>
          run_clear_many wr _ _ ty _ Tryz.underlying35 hz (by intro v hv; simp [Value.cells] at hv; subst hv; rfl) g (a * 7) _ _ (by omega) (fun j hj => own_some HO.out (by omega) j hj) (fun j _ => HO.out.frozenAt _)
        clear hz
        go_wp2_with (simp only [hcl])
        go_ret
        refine ⟨_, rfl, ⟨?_, HP.out⟩, Tch.setW (by rw [HP.out]; simp) _ _ _ HT.out⟩
        have h1 := own_take (storedL (Builtin.zeroCells #[.int .i64 0, .int .i64 0, .int .i64 0, .int .i64 0, .int .i64 0, .int .i64 0, .int .i64 0] (xs.length - a)).toList _ wr (a * 7) HO.out) (a := a) (by omega)
        rw [setL_take _ _ _ _ (Nat.le_refl _), flat_take (f := Item.cells) (K := 7) (fun _ => rfl), HD.out.done] at h1
        have h2 : (xs.filter (fun x => !p x)).length = a := by
          rw [← HD.out.done, List.length_take, HL.out]
          omega
        rw [h2]
        exact h1
end Go.Proofs.YteamlfcfillbjaaGreat
