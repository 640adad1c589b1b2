/-
  The law FnSums: whatever the drawn bytes: both sums of the drawn text are the same, and of the text and one digit more it is ten times the sum and the digit.
-/
import Derived.Test.YtlhniekjdoeidaaKa23
import Derived.Test.YtlhniekjdoeidaaKa15
import Derived.Test.YtlhniekjdoeidaaKa00
namespace Go.Proofs.Ytlhniekjdoeidaa
set_option linter.unusedVariables false
set_option linter.unusedSimpArgs false
set_option maxRecDepth 100000
open Go.RowKit Go.WideShapes Go.ChangeShapes Go.ChangeAt Go.Deep
open Go.ChangeMaps (open_string shut_string)
set_option maxRecDepth 100000 in
set_option maxHeartbeats 4000000 in
theorem FnSums_walk (v : Value) (w : World) (h : ∃ xs, RByts 9223372036854775807 w v xs) : Calls Try.prog 3 #[v] w fun e w' => e = .returned (.bool true) ∧ Below w.heap.size w w' := by
  obtain ⟨xs, h⟩ := h
  have HV := Lib.hid h
  clear h
  obtain ⟨bg, hbg⟩ : ∃ b, decide (1048576 < xs.length) = b := ⟨_, rfl⟩
  have HG := Lib.hid hbg
  clear hbg
  go_enter Try.func3, Try.ntmps3
  go_wp2_with fail
  refine (big_any v xs _ HV.out).mono ?_
  rintro e w' ⟨rfl, rfl⟩
  rw [HG.out]
  cases bg
  case true =>
    go_wp2_with fail
    go_ret
    exact ⟨rfl, Below.refl _ _⟩
  have hxl : xs.length ≤ 1048576 := by have := HG.out; simp at this; omega
  have HB := Lib.hid (HV.out.plain hxl)
  go_wp2_with fail
  refine (DrawLabelSum_any v xs _ _ _ (Sit.here w) HB.out).mono ?_
  rintro e w1 ⟨s, rfl, hs, SN1⟩
  have SN := Lib.hid SN1
  clear SN1
  have hrg := labelSum_range s.data.toList
  obtain ⟨n, hn⟩ : ∃ n, labelSum s.data.toList = n := ⟨_, rfl⟩
  have HN := Lib.hid hn
  rw [hn] at hrg
  clear hn
  have hnn : (n != n) = false := by simp
  have hn96 : ¬ (96 < n) := by omega
  go_wp2_with (first | (go_at_call 7; refine (iLabelSum_any s _ (by unfold maxLen; omega)).mono ?_; rintro e w' ⟨rfl, rfl⟩; rw [HN.out]) | (go_at_call 8; refine (sLabelSum_any s _ (by unfold maxLen; omega)).mono ?_; rintro e w' ⟨rfl, rfl⟩; rw [HN.out]))
  have ha := at0_any v xs 2 _ (RByts.next (HV.out.weaken hxl (fun _ _ _ h => h)) SN.out.low) (by omega)
  rw [show ((2 : Nat) : Int) = 2 from rfl] at ha
  refine ha.mono ?_
  rintro e w2 ⟨a, rfl, ha0, ha1, rfl⟩
  obtain ⟨d, hd⟩ : ∃ d : Nat, a % 10 = d := ⟨(a % 10).toNat, by omega⟩
  have hd9 : d ≤ 9 := by omega
  go_upto_region 8 with fail
  rw [hd]
  clear hd ha ha0 ha1
  have hcv := bytes_of_row (P := Try.prog) w1 22 5 9 Try.underlying22 Try.underlying5 Try.underlying9 (48 + (d : Int)) (UInt8.ofNat (48 + d)) (by congr 1)
  have hcn : ((UInt8.ofNat (48 + d)).toNat : Int) = 48 + (d : Int) := by rw [UInt8.toNat_ofNat']; omega
  obtain ⟨c, hc⟩ : ∃ c, UInt8.ofNat (48 + d) = c := ⟨_, rfl⟩
  rw [hc] at hcv hcn
  have HC := Lib.hid hcn
  clear hc hcn
  have SQ := Lib.hid (SN.out.alloc #[.int .u8 (48 + (d : Int))] 5)
  have hc1 : (⟨#[c]⟩ : ByteArray).size = 1 := rfl
  have hz : s.size + 1 ≤ maxLen := by unfold maxLen; omega
  obtain ⟨z, hzz⟩ : ∃ z : ByteArray, s ++ ⟨#[c]⟩ = z := ⟨_, rfl⟩
  have hzs : z.size ≤ maxLen := by rw [← hzz, ByteArray.size_append, hc1]; exact hz
  have hzl : z.data.toList = s.data.toList ++ [c] := by rw [← hzz]; simp [ByteArray.data_append]
  go_wp2_with fail
  clear hzz
  obtain ⟨m, hm⟩ : ∃ m, labelSum z.data.toList = m := ⟨_, rfl⟩
  have hm2 : labelSum (s.data.toList ++ [c]) = m := by rw [← hm, hzl]
  have hcall := fun W : World => iLabelSum_any z W hzs
  rw [hm] at hcall
  have HCL := Lib.hid hcall
  clear hcall hm hzs hzl hz
  refine (HCL.out _).mono ?_
  rintro e w' ⟨rfl, rfl⟩
  generalize w1.alloc (.cells #[.int .u8 (48 + (d : Int))] 5) = W2 at SQ ⊢
  have hsl : s.data.toList.length = s.size := by simp
  clear hcv
  by_cases hfar : n < 0 ∨ 40 ≤ s.size
  · have hf := labelSum_far HC.out (by omega) (by omega) (show labelSum s.data.toList < 0 ∨ 40 ≤ s.data.toList.length by rw [HN.out, hsl]; exact hfar)
    rw [hm2] at hf
    have HF := Lib.hid hf
    clear hf hm2 hsl
    obtain ⟨q1, hq1⟩ : ∃ q, decide (n < 0) = q := ⟨_, rfl⟩
    obtain ⟨q2, hq2⟩ : ∃ q, decide (40 ≤ s.size) = q := ⟨_, rfl⟩
    have HQ := Lib.hid (show (q1 || q2) = true by rw [← hq1, ← hq2]; simpa using hfar)
    clear hfar
    have hq2i : decide ((40 : Int) ≤ (s.size : Int)) = q2 := by rw [← hq2, decide_eq_decide]; omega
    by_cases hm1 : m = -1
    · subst hm1
      cases q1 <;> cases q2
      all_goals first
        | exact absurd HQ.out (by decide)
        | (go_wp2; go_ret; exact ⟨rfl, SQ.out.low⟩)
    · have hmi : (m == -1) = false := by simp [hm1]
      obtain ⟨hs0, rfl⟩ := HF.out.resolve_left hm1
      have he : s = ⟨#[]⟩ := by
        apply bytes_ext'
        simpa using hs0
      clear HF hs0
      subst he
      cases q1 <;> cases q2
      all_goals first
        | exact absurd HQ.out (by decide)
        | exact absurd hq2 (by decide)
        | (go_wp2; go_ret; exact ⟨rfl, SQ.out.low⟩)
  · have hf := labelSum_near HC.out (by omega) (by omega) (show 0 ≤ labelSum s.data.toList by rw [HN.out]; omega) (by rw [hsl]; omega)
    rw [hm2, HN.out] at hf
    have hn0 : ¬ n < 0 := fun h => hfar (.inl h)
    have hs40 : ¬ (40 ≤ (s.size : Int)) := fun h => hfar (.inr (by omega))
    have hn0' : 0 ≤ n := by omega
    clear hm2 hsl hfar
    subst hf
    go_wp2
    go_ret
    exact ⟨rfl, SQ.out.low⟩
set_option maxRecDepth 100000 in
theorem FnSums_lifted (os : Os) (started : os.Started) (H : Type) (enc : TypeId × Value → H) :
    ReturnsInHanded {} Try.checked os 3 .any (Rows.fnSumsSpec.pre6 enc Try.prog Try.f3 Rows.fnSumsRow.domain false) (Rows.fnSumsSpec.post enc Try.prog Try.f3 false true false false) := by
  refine returnsInHanded_of_change (C := Try.checked) own_ started (by kernel_rfl) Try.func3
    (ChangeSpec.witness6 (enc := enc) (C := Try.checked) false ⟨#[], #[.slice none 0 0], []⟩ 8 (by kernel_rfl) (by kernel_rfl) (by kernel_rfl) (by kernel_rfl)) ?_
  intro W base args ds gs before hval0 hW hcnd _
  have hval : ∀ (j : Nat) t v, Try.f3.params[j]? = some t → args[j]? = some v → Value.okWide Try.prog W .any base t v := hval0
  have hW' := hW
  obtain ⟨p, q, hA0, hV, rfl, hfz, hnd⟩ := hW
  have hA : DataW.TrodAll enc Try.prog W 0 (fun _ => true) true Try.f3.params.toList args.toList ds p := hA0
  rw [Try.params3] at hA hval
  obtain ⟨v0, vs0, d0, ds0, p0, q0, hargs, rfl, rfl, h0, r0⟩ := trodAll_cons hA
  obtain ⟨rfl, rfl, rfl⟩ := trodAll_nil r0
  obtain rfl : args = #[v0] := by cases args; simp_all
  obtain ⟨rfl, rfl⟩ := trodVars_none hV
  clear hA0 hval0 hA
  simp only [List.append_nil] at hW'
  have hlt : ∀ x ∈ p0, x.block < W.heap.size := fun x hx => hW'.lt x (by simpa using hx)
  have k0 := h0
  have w0 := read_Bytes (hval 0 22 v0 rfl rfl) h0 (fun x hx => hlt x (by simp [hx]))
  refine (FnSums_walk v0 W w0).mono fun e W' ⟨he, hb⟩ => ?_
  subst he
  exact ⟨_, rfl, post_of_below (pa := p0 ++ []) (pv := []) hW' (fun _ _ _ => (trodAll_cons_mk (shut_bool Try.underlying4 _) trodAll_mk0)) (fun sp hsp => (trodAll_cons_mk (stays laidOut_ (by kernel_rfl) (of_decide_eq_true (by kernel_rfl)) k0 hb (fun x hx => hlt x (by simp [hx])) (fun x hx => hsp x (by simp [hx]))) trodAll_mk0)) (fun _ _ => rfl) (by simp) hb
    (ok_one (by kernel_rfl) rfl (okWide_bool_mk Try.underlying4 _))⟩
theorem FnSums_over : Rows.fnSumsRow.holds Try.pinned (OpenSpec.ofChange Rows.fnSumsSpec) :=
  OpenClaim.holds_of_wide 3 Try.f3 rfl rfl rfl rfl rfl rfl rfl ⟨rfl, rfl, rfl, rfl, rfl⟩ rfl rfl rfl rfl rfl (by kernel_rfl) Try.func3 (by kernel_rfl)
    (of_decide_eq_true (by kernel_rfl)) (by unfold Func.isWrapper; first | (rw [if_pos (by decide +kernel)]; kernel_rfl) | (rw [if_neg (by decide +kernel)]; exact ⟨rfl, rfl⟩))
    (fun os started H enc _ => FnSums_lifted os started H enc)
theorem FnSums_proved : Rows.FnSumsSaid := FnSums_over
end Go.Proofs.Ytlhniekjdoeidaa

