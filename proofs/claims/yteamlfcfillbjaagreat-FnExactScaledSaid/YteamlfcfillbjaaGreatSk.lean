/-
  Lists whose elements own a list of numbers each: the heads as a flat list of pairs (element, the list's slice value), the inner lists beside (Inn). No function is named here.
-/
import Derived.Test.YteamlfcfillbjaaGreatSj
namespace Go.Proofs.YteamlfcfillbjaaGreat
set_option linter.unusedVariables false
set_option linter.unusedSimpArgs false
set_option maxRecDepth 100000
open Go.RowKit
section
variable {w W W' : World} {l l' : List Fact}
/-- what a call leaves, put before what the caller has -/
theorem Sit.join (h : Sit w W l) (h' : Sit W W' l') : Sit w W' (l' ++ l) := by
  have hn := h.next h'.low
  refine ⟨hn.low, fun q hq => ?_, fun q hq => ?_, fun q hq b hb => ?_, List.pairwise_append.2 ⟨h'.apart, h.apart, fun q hq r hr b hb hb' => ?_⟩⟩
  · rcases List.mem_append.1 hq with hq | hq
    · exact h'.ok q hq
    · exact h.ok q hq
  · rcases List.mem_append.1 hq with hq | hq
    · exact h'.on q hq
    · exact hn.on q hq
  · rcases List.mem_append.1 hq with hq | hq
    · exact ⟨Nat.le_trans h.low.size (h'.lt q hq b hb).1, (h'.lt q hq b hb).2⟩
    · exact hn.lt q hq b hb
  · have := (h'.lt q hq b hb).1; have := (h.lt r hr b hb').2; omega
theorem Sit.take {l1 : List Fact} (h : Sit w W (l1 ++ l)) : Sit w W l1 :=
  ⟨h.low, fun q hq => h.ok q (List.mem_append.2 (.inl hq)), fun q hq => h.on q (List.mem_append.2 (.inl hq)), fun q hq => h.lt q (List.mem_append.2 (.inl hq)), (List.pairwise_append.1 h.apart).1⟩
/-- from inside a call: what counts from the call's own start -/
theorem Sit.back {W0 : World} (h0 : Below w.heap.size w W0) (h : Sit W0 W l) : Sit w W l :=
  ⟨bstep h0 h.low, h.ok, h.on, fun q hq b hb => ⟨Nat.le_trans h0.size (h.lt q hq b hb).1, (h.lt q hq b hb).2⟩, h.apart⟩
end
section
variable {α : Type} {f : α → List Value} {e K base : Nat} {w w' : World} {v : Value} {xs : List α} {fp : List Nat} {g n c k : Nat} {x : α}
theorem OF.cells (h : OF f e K w base (.slice (some ⟨g, 0, none⟩) n c) xs fp) (hK : ∀ x, (f x).length = K) (hx : xs[k]? = some x) (j : Nat) (u : Value) (hu : (f x)[j]? = some u) : w.cell? ⟨g, k * K + j, none⟩ = some u := by
  have hj := (List.getElem?_eq_some_iff.1 hu).1
  rw [hK] at hj
  have hk := (List.getElem?_eq_some_iff.1 hx).1
  have hn : n = xs.length := by obtain ⟨A, c', hv, _⟩ := h.form; injection hv
  subst hn
  have h1 : k * K + j < xs.length * K := by
    have : (k + 1) * K ≤ xs.length * K := Nat.mul_le_mul_right _ hk
    rw [Nat.add_mul] at this
    omega
  rw [h.1.cellAt _ h1, flatMap_get hK hj xs k x hx, hu]
theorem OF.free (h : OF f e K w base (.slice (some ⟨g, 0, none⟩) n c) xs fp) (o : Nat) : w.frozen? ⟨g, o, none⟩ = false := by
  have hn : n = xs.length := by obtain ⟨A, c', hv, _⟩ := h.form; injection hv
  subst hn
  exact h.1.frozenAt o
theorem OF.some (h : OF f e K w base v xs fp) (hx : xs[k]? = Option.some x) : ∃ g c, v = .slice (Option.some ⟨g, 0, none⟩) xs.length c ∧ fp = [g] ∧ k < xs.length := by
  have hk := (List.getElem?_eq_some_iff.1 hx).1
  obtain ⟨g, c, h1, h2⟩ := h.block (by omega)
  exact ⟨g, c, h1, h2, hk⟩
theorem OF.size (h : OF f e K w base (.slice (Option.some ⟨g, 0, none⟩) n c) xs fp) : n = xs.length ∧ g ∈ fp ∧ base ≤ g ∧ g < w.heap.size := by
  have hn : n = xs.length := by obtain ⟨A, c', hv, _⟩ := h.form; injection hv
  have hg : g ∈ fp := by rw [h.2]; simp [Value.ownBlock]
  exact ⟨hn, hg, h.lt g hg⟩
end
/-- the inner lists, each with its own blocks -/
def Inn {α : Type} (inn : α → List Int) (W : World) (base : Nat) : List (α × Value) → List Nat → Prop
  | [], fp => fp = []
  | z :: zs, fp => ∃ f g, fp = f ++ g ∧ OF cI 3 1 W base z.2 (inn z.1) f ∧ (∀ b ∈ f, b ∈ g → False) ∧ Inn inn W base zs g
section
variable {α : Type} {inn : α → List Int} {w W W' : World} {base B : Nat} {zs zs' : List (α × Value)} {fp fp' : List Nat} {l : List Fact} {k : Nat} {z : α × Value} {a : α} {v : Value} {ys : List Int}
theorem Inn.lt : ∀ {zs : List (α × Value)} {fp : List Nat}, Inn inn W base zs fp → ∀ b ∈ fp, base ≤ b ∧ b < W.heap.size
  | [], _, h => by subst h; simp
  | z :: zs, _, ⟨f, g, rfl, ho, _, hi⟩ => fun b hb => by
    rcases List.mem_append.1 hb with hb | hb
    · exact ho.lt b hb
    · exact Inn.lt hi b hb
theorem Inn.keep : ∀ {zs : List (α × Value)} {fp : List Nat}, Inn inn W base zs fp → (∀ b ∈ fp, W'.heap[b]? = W.heap[b]?) → Inn inn W' base zs fp
  | [], _, h, _ => h
  | z :: zs, _, ⟨f, g, rfl, ho, hd, hi⟩, hk => ⟨f, g, rfl, ho.keep (fun b hb => hk b (by simp [hb])), hd, Inn.keep hi (fun b hb => hk b (by simp [hb]))⟩
theorem Inn.lower : ∀ {zs : List (α × Value)} {fp : List Nat}, Inn inn W B zs fp → base ≤ B → Inn inn W base zs fp
  | [], _, h, _ => h
  | z :: zs, _, ⟨f, g, rfl, ho, hd, hi⟩, hB => ⟨f, g, rfl, ho.base hB, hd, Inn.lower hi hB⟩
theorem Inn.app : ∀ {zs : List (α × Value)} {fp : List Nat}, Inn inn W base zs fp → Inn inn W base zs' fp' → (∀ b ∈ fp, b ∈ fp' → False) → Inn inn W base (zs ++ zs') (fp ++ fp')
  | [], _, h, h', _ => by subst h; simpa using h'
  | z :: zs, _, ⟨f, g, rfl, ho, hd, hi⟩, h', hn => ⟨f, g ++ fp', by simp, ho, fun b hb hb' => by
      rcases List.mem_append.1 hb' with hb' | hb'
      · exact hd b hb hb'
      · exact hn b (by simp [hb]) hb', Inn.app hi h' (fun b hb hb' => hn b (by simp [hb]) hb')⟩
theorem Inn.one (h : OF cI 3 1 W base v (inn a) fp) : Inn inn W base [(a, v)] fp := ⟨fp, [], by simp, h, by simp, rfl⟩
theorem Inn.at : ∀ {zs : List (α × Value)} {fp : List Nat} {k : Nat}, Inn inn W base zs fp → zs[k]? = some z → ∃ f1 f f2, fp = f1 ++ (f ++ f2) ∧ Inn inn W base (zs.take k) f1 ∧ OF cI 3 1 W base z.2 (inn z.1) f ∧ Inn inn W base (zs.drop (k + 1)) f2 ∧ (∀ b ∈ f1, b ∈ f → False) ∧ (∀ b ∈ f1, b ∈ f2 → False) ∧ (∀ b ∈ f, b ∈ f2 → False)
  | [], _, _, _, hz => by simp at hz
  | y :: zs, _, 0, ⟨f, g, rfl, ho, hd, hi⟩, hz => by
    simp at hz
    subst hz
    exact ⟨[], f, g, rfl, rfl, ho, by simpa using hi, by simp, by simp, hd⟩
  | y :: zs, _, k + 1, ⟨f, g, rfl, ho, hd, hi⟩, hz => by
    obtain ⟨f1, f0, f2, rfl, h1, h2, h3, d1, d2, d3⟩ := Inn.at hi (show zs[k]? = some z by simpa using hz)
    refine ⟨f ++ f1, f0, f2, by simp, ⟨f, f1, rfl, ho, fun b hb hb' => hd b hb (by simp [hb']), by simpa using h1⟩, h2, by simpa using h3, ?_, ?_, d3⟩
    · intro b hb hb'
      rcases List.mem_append.1 hb with hb | hb
      · exact hd b hb (by simp [hb'])
      · exact d1 b hb hb'
    · intro b hb hb'
      rcases List.mem_append.1 hb with hb | hb
      · exact hd b hb (by simp [hb'])
      · exact d2 b hb hb'
theorem Inn.read (h : Inn inn W base zs fp) (hz : zs[k]? = some z) : ∃ f, OF cI 3 1 W base z.2 (inn z.1) f := by
  obtain ⟨_, f, _, _, _, h, _⟩ := Inn.at h hz
  exact ⟨f, h⟩
/-- the inner lists of a list of the walk's own -/
abbrev fInn (inn : α → List Int) (base : Nat) (zs : List (α × Value)) (fp : List Nat) : Fact := ⟨fun W => Inn inn W base zs fp, fp⟩
theorem fInn_ok (inn : α → List Int) (base : Nat) (zs : List (α × Value)) (fp : List Nat) : (fInn inn base zs fp).ok := fun _ _ h _ hk => h.keep hk
theorem Sit.inns (h : Sit w W l) (hm : fInn inn base zs fp ∈ l) : Inn inn W base zs fp := h.on _ hm
theorem Sit.addInn (h : Sit w W l) (base : Nat) : Sit w W (fInn inn base [] [] :: l) :=
  h.add (Below.refl _ _) _ (fInn_ok _ _ _ _) rfl (by simp)
/-- one inner list is taken out -/
theorem Sit.innOut (h : Sit w W (fInn inn base zs fp :: l)) (hz : zs[k]? = some z) : ∃ f f1 f2, Sit w W (fOF cI 3 1 base z.2 (inn z.1) f :: fInn inn base (zs.take k) f1 :: fInn inn base (zs.drop (k + 1)) f2 :: l) := by
  obtain ⟨f1, f, f2, rfl, h1, h2, h3, d1, d2, d3⟩ := Inn.at (h.inns (.head _)) hz
  refine ⟨f, f1, f2, Sit.step (l1 := [fInn inn base zs (f1 ++ (f ++ f2))]) (fp := []) h (Tch.refl _ _) (by simp) [_, _, _] ?_ ?_ ?_ ?_⟩
  · intro p hp b hb
    refine .inl ⟨_, .head _, ?_⟩
    simp only [List.mem_cons, List.not_mem_nil, or_false] at hp
    rcases hp with rfl | rfl | rfl <;> simp at hb ⊢ <;> simp [hb]
  · intro p hp
    simp only [List.mem_cons, List.not_mem_nil, or_false] at hp
    rcases hp with rfl | rfl | rfl
    · exact fOF_ok _ _ _ _ _ _ _
    · exact fInn_ok _ _ _ _
    · exact fInn_ok _ _ _ _
  · intro p hp
    simp only [List.mem_cons, List.not_mem_nil, or_false] at hp
    rcases hp with rfl | rfl | rfl
    · exact h2
    · exact h1
    · exact h3
  · simp only [List.pairwise_cons, List.mem_cons, List.not_mem_nil, or_false, forall_eq_or_imp, forall_eq, List.Pairwise.nil, and_true, false_implies, implies_true]
    exact ⟨⟨fun b hb hb' => d1 b hb' hb, d3⟩, d2⟩
/-- an inner list is put at its place -/
theorem Sit.innIn {f f1 f2 : List Nat} (h : Sit w W (fOF cI 3 1 base v ys f :: fInn inn base (zs.take k) f1 :: fInn inn base (zs.drop (k + 1)) f2 :: l)) (hk : k < zs.length) (ha : inn a = ys) : ∃ fp, Sit w W (fInn inn base (zs.set k (a, v)) fp :: l) := by
  subst ha
  have h1 := h.list (.head _)
  have h2 := h.inns (.tail _ (.head _))
  have h3 := h.inns (.tail _ (.tail _ (.head _)))
  have ha := h.apart
  simp only [List.pairwise_cons, List.mem_cons, forall_eq_or_imp] at ha
  refine ⟨f1 ++ (f ++ f2), Sit.step (l1 := [_, _, _]) (fp := []) h (Tch.refl _ _) (by simp) [fInn inn base (zs.set k (a, v)) (f1 ++ (f ++ f2))] ?_ ?_ ?_ (by simp)⟩
  · intro p hp b hb
    simp only [List.mem_cons, List.not_mem_nil, or_false] at hp
    subst hp
    simp only [List.mem_append] at hb
    rcases hb with hb | hb | hb
    · exact .inl ⟨_, .tail _ (.head _), hb⟩
    · exact .inl ⟨_, .head _, hb⟩
    · exact .inl ⟨_, .tail _ (.tail _ (.head _)), hb⟩
  · intro p hp
    simp only [List.mem_cons, List.not_mem_nil, or_false] at hp
    subst hp
    exact fInn_ok _ _ _ _
  · intro p hp
    simp only [List.mem_cons, List.not_mem_nil, or_false] at hp
    subst hp
    show Inn inn W base (zs.set k (a, v)) (f1 ++ (f ++ f2))
    rw [List.set_eq_take_append_cons_drop, if_pos hk]
    exact Inn.app h2 (Inn.app (Inn.one h1) h3 (fun b hb hb' => ha.1.2.1 b hb hb')) (fun b hb hb' => by
      rcases List.mem_append.1 hb' with hb' | hb'
      · exact ha.1.1 b hb' hb
      · exact ha.2.1.1 b hb hb')
/-- one inner list more -/
theorem Sit.innAdd {f : List Nat} (h : Sit w W (fOF cI 3 1 base v ys f :: fInn inn base zs fp :: l)) (ha : inn a = ys) : ∃ fp, Sit w W (fInn inn base (zs ++ [(a, v)]) fp :: l) := by
  subst ha
  have h1 := h.list (.head _)
  have h2 := h.inns (.tail _ (.head _))
  have ha := h.apart
  simp only [List.pairwise_cons, List.mem_cons, forall_eq_or_imp] at ha
  refine ⟨fp ++ f, Sit.step (l1 := [_, _]) (fp := []) h (Tch.refl _ _) (by simp) [fInn inn base (zs ++ [(a, v)]) (fp ++ f)] ?_ ?_ ?_ (by simp)⟩
  · intro p hp b hb
    simp only [List.mem_cons, List.not_mem_nil, or_false] at hp
    subst hp
    simp only [List.mem_append] at hb
    rcases hb with hb | hb
    · exact .inl ⟨_, .tail _ (.head _), hb⟩
    · exact .inl ⟨_, .head _, hb⟩
  · intro p hp
    simp only [List.mem_cons, List.not_mem_nil, or_false] at hp
    subst hp
    exact fInn_ok _ _ _ _
  · intro p hp
    simp only [List.mem_cons, List.not_mem_nil, or_false] at hp
    subst hp
    exact Inn.app h2 (Inn.one h1) (fun b hb hb' => ha.1.1 b hb' hb)
end
end Go.Proofs.YteamlfcfillbjaaGreat
