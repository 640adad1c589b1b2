/-
  Words for memory that a call owns, of any depth: rows whose elements may own rows of their own (OL), with the blocks that they lie in. No program is named here.
-/
import Derived.Test.YteamlfcfillbjaaGreatBs
namespace Go.Proofs.YteamlfcfillbjaaGreat
set_option linter.unusedVariables false
set_option linter.unusedSimpArgs false
set_option maxRecDepth 100000
open Go.RowKit

/-- What is said of an element's own memory hangs on its blocks alone. -/
def EFr {α : Type} (E : World → List Value → α → List Nat → Prop) : Prop :=
  ∀ (w w' : World) (cs : List Value) (x : α) (f : List Nat), (∀ b ∈ f, w'.heap[b]? = w.heap[b]?) → E w cs x f → E w' cs x f

/-- The first k elements of xs lie in the cells cs, each with its own blocks, all of them apart and in fp. -/
def PO {α : Type} (K : Nat) (E : World → List Value → α → List Nat → Prop) (w : World) (xs : List α) (k : Nat) (cs : List Value) (fp : List Nat) : Prop :=
  ∃ fps : List (List Nat), fp = fps.flatten ∧ fps.length = k ∧ ∀ i x, i < k → xs[i]? = some x → ∃ ecs f, ecs.length = K ∧ fps[i]? = some f ∧ E w ecs x f ∧ ∀ (j : Nat) (u : Value), ecs[j]? = some u → cs[i * K + j]? = some u

/-- The slice value v is a row of the call's own, of the elements xs; fp: all blocks of it and of its elements, each once. -/
def OL {α : Type} (e K : Nat) (E : World → List Value → α → List Nat → Prop) (w : World) (base : Nat) (v : Value) (xs : List α) (fp : List Nat) : Prop :=
  ∃ cs ifp, w.ownsRow base e K v xs.length cs ∧ fp = v.ownBlock.toList ++ ifp ∧ fp.Nodup ∧ (∀ b ∈ fp, base ≤ b ∧ b < w.heap.size) ∧ PO K E w xs xs.length cs ifp

section
variable {α : Type} {e K : Nat} {E : World → List Value → α → List Nat → Prop} {w w' : World} {base : Nat} {v : Value} {xs : List α} {fp : List Nat} {k : Nat} {cs : List Value}

theorem PO.zero : PO K E w xs 0 cs [] := ⟨[], rfl, rfl, fun _ _ h => by omega⟩
theorem PO.keep (h : PO K E w xs k cs fp) (hE : EFr E) (hk : ∀ b ∈ fp, w'.heap[b]? = w.heap[b]?) : PO K E w' xs k cs fp := by
  obtain ⟨fps, rfl, hl, h⟩ := h
  refine ⟨fps, rfl, hl, fun i x hi hx => ?_⟩
  obtain ⟨ecs, f, h1, h2, h3, h4⟩ := h i x hi hx
  exact ⟨ecs, f, h1, h2, hE _ _ _ _ _ (fun b hb => hk b (List.mem_flatten.2 ⟨f, List.mem_of_getElem? h2, hb⟩)) h3, h4⟩
theorem PO.below {B : Nat} (h : PO K E w xs k cs fp) (hE : EFr E) (hb : Below B w w') (hf : ∀ b ∈ fp, b < B) : PO K E w' xs k cs fp := h.keep hE fun b hm => hb.block b (hf b hm)

/-- one element more, its cells stored at its place -/
theorem PO.step {x : α} {ecs : List Value} {f : List Nat} (h : PO K E w xs k cs fp) (hx : xs[k]? = some x) (hl : cs.length = xs.length * K) (he : ecs.length = K) (hE : E w ecs x f) : PO K E w xs (k + 1) (setL cs (k * K) ecs) (fp ++ f) := by
  obtain ⟨fps, rfl, hfl, h⟩ := h
  have hk := (List.getElem?_eq_some_iff.1 hx).1
  have hle : k * K + K ≤ cs.length := by rw [hl, ← Nat.succ_mul]; exact Nat.mul_le_mul_right _ hk
  have hg := fun i => setL_get ecs cs (k * K) i (by rw [he]; exact hle)
  refine ⟨fps ++ [f], by simp, by simp [hfl], fun i y hi hy => ?_⟩
  rcases Nat.lt_or_ge i k with hlt | hge
  · obtain ⟨ecs', f', h1, h2, h3, h4⟩ := h i y hlt hy
    refine ⟨ecs', f', h1, by rw [List.getElem?_append_left (by omega)]; exact h2, h3, fun j u hu => ?_⟩
    have hj := (List.getElem?_eq_some_iff.1 hu).1
    have : (i + 1) * K ≤ k * K := Nat.mul_le_mul_right _ hlt
    rw [Nat.add_mul] at this
    rw [hg, if_neg (by omega)]
    exact h4 j u hu
  · obtain rfl : i = k := by omega
    rw [hx] at hy
    injection hy with hy
    subst hy
    refine ⟨ecs, f, he, by rw [List.getElem?_append_right (by omega)]; simp [hfl], hE, fun j u hu => ?_⟩
    have hj := (List.getElem?_eq_some_iff.1 hu).1
    rw [hg, if_pos (by omega), show i * K + j - i * K = j by omega, hu]

theorem heap_setW {g b : Nat} (hne : b ≠ g) : ∀ (us : List Value) (w : World) (o : Nat), (setW w g o us).heap[b]? = w.heap[b]?
  | [], _, _ => rfl
  | u :: us, w, o => by unfold setW; rw [heap_setW hne us]; exact Below.heap_setCell _ _ _ _ hne
theorem size_setW {g : Nat} : ∀ (us : List Value) (w : World) (o : Nat), (setW w g o us).heap.size = w.heap.size
  | [], _, _ => rfl
  | u :: us, w, o => by unfold setW; rw [size_setW us]; simp [World.setCell]

theorem OL.row (h : OL e K E w base v xs fp) : ∃ cs, w.ownsRow base e K v xs.length cs := ⟨h.choose, h.choose_spec.choose_spec.1⟩
theorem OL.lt (h : OL e K E w base v xs fp) : ∀ b ∈ fp, base ≤ b ∧ b < w.heap.size := by obtain ⟨_, _, _, _, _, h, _⟩ := h; exact h
theorem OL.nodup (h : OL e K E w base v xs fp) : fp.Nodup := by obtain ⟨_, _, _, _, h, _⟩ := h; exact h
theorem own_block {e size n B : Nat} {v : Value} {xs : List Value} (h : w.ownsRow B e size v n xs) (hk : ∀ g, v.ownBlock = some g → w'.heap[g]? = w.heap[g]?) : w'.ownsRow B e size v n xs := by
  refine ⟨h.1, ?_⟩
  rcases h.2 with h2 | ⟨g, cap, cur, rfl, hg, hh, r⟩
  · exact .inl h2
  · exact .inr ⟨g, cap, cur, rfl, hg, (hk g rfl).trans hh, r⟩
theorem OL.keep (h : OL e K E w base v xs fp) (hE : EFr E) (hs : w.heap.size ≤ w'.heap.size) (hk : ∀ b ∈ fp, w'.heap[b]? = w.heap[b]?) : OL e K E w' base v xs fp := by
  obtain ⟨cs, ifp, h1, rfl, h3, h4, h5⟩ := h
  refine ⟨cs, ifp, own_block h1 (fun g hg => hk g (by simp [hg])), rfl, h3, fun b hb => ⟨(h4 b hb).1, Nat.lt_of_lt_of_le (h4 b hb).2 hs⟩, h5.keep hE (fun b hb => hk b (by simp [hb]))⟩
theorem OL.below {B : Nat} (h : OL e K E w base v xs fp) (hE : EFr E) (hb : Below B w w') (hB : ∀ b ∈ fp, b < B) : OL e K E w' base v xs fp := h.keep hE hb.size fun b hm => hb.block b (hB b hm)

/-- The base can be taken lower. -/
theorem own_base {e size n B B' : Nat} {v : Value} {xs : List Value} (h : w.ownsRow B e size v n xs) (hB : B' ≤ B) : w.ownsRow B' e size v n xs := by
  refine ⟨h.1, ?_⟩
  rcases h.2 with h2 | ⟨g, cap, cur, rfl, hg, r⟩
  · exact .inl h2
  · exact .inr ⟨g, cap, cur, rfl, by omega, r⟩

theorem own_form2 {e size n B : Nat} {v : Value} {xs : List Value} (h : w.ownsRow B e size v n xs) : ∃ A c, v = .slice A n c ∧ n ≤ c := by
  rcases h.2 with ⟨rfl, h0⟩ | ⟨g, cap, cur, rfl, _, _, hc, _⟩
  · exact ⟨none, 0, by rw [h0], by omega⟩
  · exact ⟨_, _, rfl, hc⟩
theorem own_form {e size n B : Nat} {v : Value} {xs : List Value} (h : w.ownsRow B e size v n xs) : ∃ A c, v = .slice A n c := by
  rcases h.2 with ⟨rfl, h0⟩ | ⟨g, cap, cur, rfl, _⟩
  · exact ⟨none, 0, by rw [h0]⟩
  · exact ⟨_, _, rfl⟩
/-- A row of the call's own can be read. -/
theorem OL.read {R : World → Nat → List Value → α → Prop} {bd : Nat} (h : OL e K E w base v xs fp) (hR : ∀ cs x f, E w cs x f → (∀ b ∈ f, b < w.heap.size) → R w w.heap.size cs x) (hbd : xs.length ≤ bd) : RL bd K R w w.heap.size v xs := by
  obtain ⟨cs, ifp, h1, rfl, h3, h4, fps, rfl, hfl, h5⟩ := h
  obtain ⟨A, c, rfl, hnc⟩ := own_form2 h1
  refine ⟨A, c, rfl, ⟨hbd, hnc⟩, fun hn => ?_⟩
  rcases h1.2 with ⟨h0, h0'⟩ | ⟨g, cap, cur, hv, hr⟩
  · omega
  · injection hv with hv1 hv2 hv3
    subst hv1
    subst hv3
    refine ⟨g, 0, rfl, (h4 g (by simp [Value.ownBlock])).2, fun i x hx => ?_⟩
    have hi := (List.getElem?_eq_some_iff.1 hx).1
    obtain ⟨ecs, f, g1, g2, g3, g4⟩ := h5 i x hi hx
    refine ⟨ecs, g1, hR _ _ _ g3 (fun b hb => (h4 b (by simp only [List.mem_append]; exact .inr (List.mem_flatten.2 ⟨f, List.mem_of_getElem? g2, hb⟩))).2), fun j u hu => ?_⟩
    have hj := (List.getElem?_eq_some_iff.1 hu).1
    have hlt : i * K + j < xs.length * K := by
      have : (i + 1) * K ≤ xs.length * K := Nat.mul_le_mul_right _ hi
      rw [Nat.add_mul] at this
      omega
    rw [Nat.zero_add, h1.cellAt _ hlt]
    exact g4 j u hu
end

/-- Elements of fixed cells own nothing. -/
def eflat {α : Type} (f : α → List Value) : World → List Value → α → List Nat → Prop := fun _ cs x fp => cs = f x ∧ fp = []
theorem eflat_fr {α : Type} (f : α → List Value) : EFr (eflat f) := fun _ _ _ _ _ _ h => h
theorem eflat_read {α : Type} {f : α → List Value} {w : World} : ∀ (cs : List Value) (x : α) (fp : List Nat), eflat f w cs x fp → (∀ b ∈ fp, b < w.heap.size) → flat f w w.heap.size cs x := fun _ _ _ h _ => h.1
theorem OL_of_own {α : Type} {f : α → List Value} {e K base : Nat} {w : World} {v : Value} {xs : List α} (h : w.ownsRow base e K v xs.length (xs.flatMap f)) (hK : ∀ x, (f x).length = K) : OL e K (eflat f) w base v xs v.ownBlock.toList := by
  refine ⟨_, [], h, by simp, ?_, fun b hb => ?_, List.replicate xs.length [], by simp, by simp, fun i x hi hx => ⟨f x, [], hK x, by simp [hi], ⟨rfl, rfl⟩, fun j u hu => ?_⟩⟩
  · cases v.ownBlock <;> simp
  · exact h.lt b (by cases hv : v.ownBlock <;> simp [hv] at hb; rw [hb])
  · have hj := (List.getElem?_eq_some_iff.1 hu).1
    rw [hK] at hj
    have h2 : ∀ (l : List α) (i : Nat) (x : α), l[i]? = some x → (l.flatMap f)[i * K + j]? = (f x)[j]? := by
      intro l
      induction l with
      | nil => intro i x h; simp at h
      | cons y l ih =>
        intro i x h
        cases i with
        | zero =>
          simp at h
          subst h
          rw [List.flatMap_cons, List.getElem?_append_left (by rw [hK]; omega)]
          simp
        | succ i =>
          rw [List.flatMap_cons, List.getElem?_append_right (by rw [hK, Nat.add_mul]; omega), hK, show (i + 1) * K + j - K = i * K + j by rw [Nat.add_mul]; omega]
          exact ih i x (by simpa using h)
    rw [h2 xs i x hx, hu]
theorem own_of_OL {α : Type} {f : α → List Value} {e K base : Nat} {w : World} {v : Value} {xs : List α} {fp : List Nat} (h : OL e K (eflat f) w base v xs fp) (hK : ∀ x, (f x).length = K) : w.ownsRow base e K v xs.length (xs.flatMap f) ∧ fp = v.ownBlock.toList := by
  obtain ⟨cs, ifp, h1, rfl, h3, h4, fps, rfl, hfl, h5⟩ := h
  have hp : Pre K f xs xs.length cs := ⟨h1.1, fun i x hi hx j u hu => by
    obtain ⟨ecs, g, _, _, h6, h7⟩ := h5 i x hi hx
    rw [h6.1] at h7
    exact h7 j u hu⟩
  have hn : ∀ g ∈ fps, g = [] := by
    intro g hg
    obtain ⟨i, hi⟩ := List.mem_iff_getElem?.1 hg
    have hlt := (List.getElem?_eq_some_iff.1 hi).1
    obtain ⟨_, g', _, h6, h7, _⟩ := h5 i xs[i] (by omega) (List.getElem?_eq_getElem (by omega))
    rw [hi] at h6
    injection h6 with h6
    rw [h6]
    exact h7.2
  rw [hp.done hK] at h1
  exact ⟨h1, by rw [List.flatten_eq_nil_iff.2 (fun l hl => hn l hl)]; simp⟩
end Go.Proofs.YteamlfcfillbjaaGreat
