/-
  The frame round a law's walk: from 'the call returns true and nothing that was there has turned' to the row's statement. No function is named here.
-/
import Derived.Test.YteamlfcfillbjaaGreatRows
import Derived.Test.YteamlfcfillbjaaGreatOw
import Derived.Test.YteamlfcfillbjaaGreatMo
import Derived.ProofKit
import Derived.OpenShut
import Derived.ShutString
import Derived.WideKeyArgs
import Derived.Carry
import Derived.Deep.Slices
import Derived.Deep.Fields
import Derived.Deep.Strs
import Derived.ChangeSame
namespace Go.Proofs.YteamlfcfillbjaaGreat
set_option linter.unusedVariables false
set_option linter.unusedSimpArgs false
set_option maxRecDepth 100000
open Go.RowKit Go.WideShapes Go.ChangeShapes Go.ChangeAt Go.Deep
open Go.ChangeMaps (open_string shut_string)

theorem own_ : ownKnob Tryz.prog.godebug = none := by kernel_rfl
theorem laidOut_ : laidOutB Tryz.prog = true := by kernel_rfl

section
variable {H : Type} {enc : TypeId × Value → H} {P : Program}
theorem post_of_below {f : Func} {s : ChangeSpec} {apart fresh handsOn again : Bool} {W W' : World} {args : Array Value} {v : Value} {ds gs : List (DataW H)} {before pa pv : List MemPlace}
    (hW : DataW.Whole enc P f.params.toList s.vars apart W args.toList ds gs before)
    (hres : ∀ (b : Nat) (sp : Nat → Bool) (hd : Bool), DataW.TrodAll enc P W' b sp hd f.resultTypes.toList (v.resultList f.resultTypes.size) (s.fn H (ds ++ gs)).results [])
    (hargs : ∀ sp : Nat → Bool, (∀ p ∈ before, sp p.block = true) → DataW.TrodAll enc P W' 0 sp true f.params.toList args.toList (s.fn H (ds ++ gs)).args pa)
    (hvars : ∀ sp : Nat → Bool, (∀ p ∈ before, sp p.block = true) → DataW.TrodVars enc P W' sp s.vars (s.fn H (ds ++ gs)).vars pv)
    (hps : before = pa ++ pv) (hb : Below W.heap.size W W')
    (hok : ∀ (j : Nat) (t : TypeId) (r : Value), f.resultTypes[j]? = some t → (v.resultList f.resultTypes.size)[j]? = some r → Value.okWide P W' .any 0 t r) :
    s.post enc P f apart fresh handsOn again W args v W' := by
  have hlt : ∀ p ∈ before, p.block < W.heap.size := fun p hp => hW.lt p hp
  have hold : ∀ p ∈ before, (fun b => decide (b < W.heap.size)) p.block = true := fun p hp => by simpa using hlt p hp
  refine ⟨ds, gs, before, [], pa, pv, hW, hres _ _ _, hargs _ hold, hvars _ hold, World.keptBut_mono (fun p hp => ⟨hp, ?_⟩) (hb.frame (· ∈ before)), fun _ => ?_⟩
  · rw [hps, List.mem_append] at hp
    exact Or.inr hp
  · obtain ⟨_, _, _, _, _, hz, hn⟩ := hW
    refine ⟨hok, _, _, ([] ++ pa) ++ pv, ⟨[] ++ pa, pv, trodAll_append (hargs _ (fun _ _ => rfl)) (hres _ _ _), hvars _ (fun _ _ => rfl), rfl, ?_, ?_⟩, ?_⟩
    · intro b off hp
      have hin : MemPlace.cell b off ∈ before := by rw [hps]; simpa using hp
      rw [hb.frozen (hlt _ hin)]
      exact hz b off hin
    · intro ha
      have := hn ha
      rw [hps] at this
      simpa using this
    · intro p hp _
      rw [hps]
      simpa using hp

/-- An argument reads behind the call as before, nothing below the heap's old size having turned. -/
theorem stays {t : TypeId} (hl : laidOutB P = true) (hr : P.readableRec t = true) (hrow : t < P.types.size) {W W' : World} {sp' : Nat → Bool} {v : Value} {d : DataW H} {ps : List MemPlace}
    (h : DataW.Trod enc P W 0 (fun _ => true) true t v d ps) (hb : Below W.heap.size W W') (hlt : ∀ x ∈ ps, x.block < W.heap.size) (hs : ∀ p ∈ ps, sp' p.block = true) : DataW.Trod enc P W' 0 sp' true t v d ps :=
  WideElems.Trod_stays hl hr hrow h (fun x hx => hb.same (hlt x hx)) hs
end


theorem list_of {α : Type} {Q : Nat → α → Prop} : ∀ (n : Nat), (∀ i, i < n → ∃ x, Q i x) → ∃ xs : List α, xs.length = n ∧ ∀ i x, xs[i]? = some x → Q i x
  | 0, _ => ⟨[], rfl, fun i x h => by simp at h⟩
  | n + 1, h => by
    obtain ⟨xs, hl, hx⟩ := list_of n (fun i hi => h i (by omega))
    obtain ⟨y, hy⟩ := h n (by omega)
    refine ⟨xs ++ [y], by simp [hl], fun i x hi => ?_⟩
    rcases Nat.lt_or_ge i n with h1 | h1
    · rw [List.getElem?_append_left (by omega)] at hi
      exact hx i x hi
    · rw [List.getElem?_append_right (by omega)] at hi
      have h2 : i - xs.length = 0 := by
        have := (List.getElem?_eq_some_iff.1 hi).1
        simp at this
        omega
      rw [h2] at hi
      simp at hi
      subst hi
      obtain rfl : i = n := by omega
      exact hy

section
variable {H : Type} {enc : TypeId × Value → H} {P : Program} {w : World} {held : Bool}
/-- what a reading tells of a value of type e in cells, all its places below block B -/
abbrev Tells {α : Type} (enc : TypeId × Value → H) (P : Program) (w : World) (held : Bool) (e : TypeId) (B K : Nat) (R : World → Nat → List Value → α → Prop) : Prop :=
  ∀ (n : Nat) (cs : List Value) (y : DataW H × List MemPlace), DataW.trod enc P w 0 (fun _ => true) held n e cs = some y → (∀ p ∈ y.2, p.block < B) → ∃ x, cs.length = K ∧ R w B cs x

theorem tells_slice {α : Type} {t e : TypeId} {B K : Nat} {R : World → Nat → List Value → α → Prop} (ht : P.underlying t = some (.slice e)) (hC : P.cellsOf e = K) (hK : 0 < K) (hE : Tells enc P w held e B K R)
    {n : Nat} {cs : List Value} {y : DataW H × List MemPlace} (h : DataW.trod enc P w 0 (fun _ => true) held n t cs = some y) (hB : ∀ p ∈ y.2, p.block < B) :
    ∃ v xs, cs = [v] ∧ RL 9223372036854775807 K R w B v xs := by
  rcases open_slice ht h with ⟨rfl, rfl⟩ | ⟨a, len, cap, m, n', D, Pl, rfl, _, hl, hm, hmm, rfl, hi⟩
  · exact ⟨_, [], rfl, none, 0, rfl, by simp, fun h => by simp at h⟩
  · simp only [if_true] at hmm
    have hpl : ∀ i, i < m → ∀ p ∈ Pl i, p.block < B := fun i hi p hp => hB p (by simp only [List.mem_append, List.mem_flatMap, List.mem_range]; exact .inr ⟨i, hi, hp⟩)
    obtain ⟨xs, hxl, hx⟩ := list_of (Q := fun i x => ∃ cs', w.cells? 0 (a.add (i * K)) K = some cs' ∧ cs'.length = K ∧ R w B cs' x) len (fun i hil => by
      obtain ⟨cs', h1, h2⟩ := hi i (by omega)
      rw [hC] at h1
      obtain ⟨x, h3, h4⟩ := hE _ _ _ h2 (hpl i (by omega))
      exact ⟨x, cs', h1, h3, h4⟩)
    subst hxl
    refine ⟨_, xs, rfl, some a, cap, rfl, ⟨by unfold maxLen at hm; omega, by omega⟩, fun hn => ?_⟩
    have hblk : a.block < B := by
      obtain ⟨cs', h1, _⟩ := hi 0 (by omega)
      have := hB (.cell a.block a.off) (by
        simp only [List.mem_append]
        refine .inl ?_
        rw [hC]
        unfold MemPlace.row
        simp only [List.mem_map, List.mem_range]
        exact ⟨0, Nat.mul_pos (by omega) hK, by simp⟩)
      exact this
    have hspot : a.spot = none := by
      obtain ⟨cs', h1, h2, _⟩ := hx 0 _ (List.getElem?_eq_getElem hn)
      obtain ⟨_, _, h4⟩ := World.cells?_some h1
      have h5 := h4 0 hK
      have h6 : cs'[0]? = some (cs'[0]'(by omega)) := List.getElem?_eq_getElem _
      rw [h6] at h5
      simp only [Nat.zero_mul, Addr.add, if_true] at h5
      unfold World.cell? at h5
      cases hs : a.spot with
      | none => rfl
      | some s => rw [hs] at h5; split at h5 <;> simp at h5
    obtain ⟨ab, ao, asp⟩ := a
    simp only at hspot hblk
    subst hspot
    refine ⟨ab, ao, rfl, hblk, fun i x hxi => ?_⟩
    obtain ⟨cs', h1, h2, h3⟩ := hx i x hxi
    refine ⟨cs', h2, h3, fun j u hu => ?_⟩
    obtain ⟨_, _, h4⟩ := World.cells?_some h1
    have hj := (List.getElem?_eq_some_iff.1 hu).1
    have h5 := h4 j (by omega)
    rw [hu] at h5
    rw [← h5]
    congr 1
    rw [Go.Deep.add_add]
    unfold Addr.add
    split
    · rename_i h0; simp only [Nat.add_eq_zero_iff] at h0; rw [h0.1, h0.2]; simp
    · simp [Nat.add_assoc]

theorem tells_int {t : TypeId} {B : Nat} (ht : P.underlying t = some (.int .i64)) : Tells enc P w held t B 1 (flat cI) := fun n cs y h _ => by
  obtain ⟨x, rfl, _, _⟩ := DataW.trod_int ht h
  exact ⟨x, rfl, rfl⟩
def rStr : World → Nat → List Value → ByteArray → Prop := fun _ _ cs s => cs = [.string s] ∧ s.size ≤ 9223372036854775807
theorem tells_str {t : TypeId} {B : Nat} (ht : P.underlying t = some .string) : Tells enc P w held t B 1 rStr := fun n cs y h _ => by
  obtain ⟨s, rfl, _, hs⟩ := DataW.trod_string ht h
  exact ⟨s, rfl, rfl, by unfold maxLen at hs; omega⟩

/-- a struct of one-cell fields -/
theorem trod_fields {e : TypeId} {fs : Array Field} {fuel : Nat} {cs : List Value} {x : DataW H × List MemPlace} (he : P.underlying e = some (.struct fs)) (hone : oneCellFields P fs = true) (hC : P.cellsOf e = fs.size)
    (h : DataW.trod enc P w 0 (fun _ => true) held fuel e cs = some x) :
    cs.length = fs.size ∧ ∀ (j : Nat) (f : Field), fs[j]? = some f → ∃ (n : Nat) (c : Value) (y : DataW H × List MemPlace), cs[j]? = some c ∧ (∀ p ∈ y.2, p ∈ x.2) ∧ DataW.trod enc P w 0 (fun _ => true) held n f.type [c] = some y := by
  obtain ⟨ys, n', hn', hy, hlen, hyl, hf⟩ := DataW.trod_struct he h
  refine ⟨hlen.trans hC, fun j f hj => ?_⟩
  obtain ⟨ho, hk⟩ := hone_of hone j f hj
  have hjl : j < fs.size := (Array.getElem?_eq_some_iff.1 hj).1
  have h1 := hf j f hj
  rw [ho, hk] at h1
  have hone' : (cs.drop j).take 1 = [cs[j]'(by omega)] := by
    rw [List.drop_eq_getElem_cons (by omega)]
    rfl
  rw [hone'] at h1
  have hys : ys[j]? = some (ys[j]'(by omega)) := List.getElem?_eq_getElem (by omega)
  refine ⟨n', _, _, List.getElem?_eq_getElem (by omega), fun p hp => ?_, h1.trans hys⟩
  rw [hy]
  exact List.mem_flatMap.2 ⟨_, List.getElem_mem _, hp⟩
theorem trod_ints {e i : TypeId} {fs : Array Field} {fuel : Nat} {cs : List Value} {x : DataW H × List MemPlace} (he : P.underlying e = some (.struct fs)) (hone : oneCellFields P fs = true) (hC : P.cellsOf e = fs.size) (hi : P.underlying i = some (.int .i64)) (hall : ∀ (j : Nat) (f : Field), fs[j]? = some f → f.type = i)
    (h : DataW.trod enc P w 0 (fun _ => true) held fuel e cs = some x) : ∃ ns : List Int, ns.length = fs.size ∧ cs = ns.map (Value.int .i64) := by
  obtain ⟨hl, hf⟩ := trod_fields he hone hC h
  obtain ⟨ns, h1, h2⟩ := list_of (Q := fun j (n : Int) => cs[j]? = some (.int .i64 n)) fs.size (fun j hj => by
    obtain ⟨n, c, y, g1, _, g2⟩ := hf j _ (Array.getElem?_eq_getElem hj)
    rw [hall j _ (Array.getElem?_eq_getElem hj)] at g2
    obtain ⟨m, g3, _⟩ := DataW.trod_int hi g2
    injection g3 with g3
    exact ⟨m, by rw [g1, g3]⟩)
  refine ⟨ns, h1, List.ext_getElem? fun j => ?_⟩
  rcases Nat.lt_or_ge j fs.size with hj | hj
  · obtain ⟨n, hn⟩ : ∃ n, ns[j]? = some n := ⟨_, List.getElem?_eq_getElem (by omega)⟩
    rw [List.getElem?_map, hn, h2 j n hn]
    rfl
  · rw [List.getElem?_eq_none (by omega), List.getElem?_eq_none (by rw [List.length_map]; omega)]

theorem read_slice {α : Type} {t e : TypeId} {K : Nat} {R : World → Nat → List Value → α → Prop} {b0 : Nat} {v : Value} {d : DataW H} {ps : List MemPlace} (ht : P.underlying t = some (.slice e)) (hC : P.cellsOf e = K) (hK : 0 < K)
    (hE : Tells enc P w held e w.heap.size K R) (hv : Value.okWide P w .any b0 t v) (h : DataW.Trod enc P w 0 (fun _ => true) held t v d ps) (hlt : ∀ p ∈ ps, p.block < w.heap.size) : ∃ xs, RL 9223372036854775807 K R w w.heap.size v xs := by
  obtain ⟨a, len, cap, rfl⟩ := okWide_slice ht hv
  obtain ⟨n, hn⟩ := h
  obtain ⟨v', xs, h1, h2⟩ := tells_slice ht hC hK hE hn hlt
  simp only [Value.cells, List.cons.injEq, and_true] at h1
  subst h1
  exact ⟨xs, h2⟩
end
theorem RL.all {α : Type} {bd K : Nat} {R : World → Nat → List Value → α → Prop} {w : World} {B : Nat} {v : Value} {xs : List α} (h : RL bd K R w B v xs) {x : α} (hx : x ∈ xs) : ∃ cs, R w B cs x := by
  obtain ⟨A, c, rfl, hb, h⟩ := h
  obtain ⟨i, hi⟩ := List.mem_iff_getElem?.1 hx
  obtain ⟨b, off, rfl, hlt, hc⟩ := h (by have := (List.getElem?_eq_some_iff.1 hi).1; omega)
  obtain ⟨cs, _, h1, _⟩ := hc i x hi
  exact ⟨cs, h1⟩
end Go.Proofs.YteamlfcfillbjaaGreat
