/-
  The walks over the laws' own helpers that write marks into cartons and plans of the call's own, and look whether they are still there.
-/
import Derived.Test.YtioijfplbgpjpaaGreatKu01
import Derived.Test.YtioijfplbgpjpaaGreatKu04
import Derived.Test.YtioijfplbgpjpaaGreatKu02
namespace Go.Proofs.YtioijfplbgpjpaaGreat
set_option linter.unusedVariables false
set_option linter.unusedSimpArgs false
set_option maxRecDepth 100000
open Go.RowKit
end Go.Proofs.YtioijfplbgpjpaaGreat
namespace Go.Proofs.YtioijfplbgpjpaaGreat
set_option linter.unusedVariables false
set_option linter.unusedSimpArgs false
set_option maxRecDepth 100000
open Go.RowKit
section
variable {α:Type} {e K:Nat} {E:World→List Value→α→List Nat→Prop} {w w':World} {base:Nat} {v:Value} {xs:List α} {fp:List Nat}
theorem lt_of_keep {W W':World} {b:Nat} (hb:b < W.heap.size) (h:W'.heap[b]? = W.heap[b]?):b < W'.heap.size:=by
 rw [Array.getElem?_eq_getElem hb] at h
 exact (Array.getElem?_eq_some_iff.1 h).1
theorem OL.keepF (h:OL e K E w base v xs fp) (hE:EFr E) (hk:∀ b∈fp,w'.heap[b]? = w.heap[b]?):OL e K E w' base v xs fp:=by
 obtain ⟨cs,ifp,h1,rfl,h3,h4,h5⟩:=h
 refine ⟨cs,ifp,own_block h1 (fun g hg=>hk g (by simp [hg])),rfl,h3,fun b hb=>⟨(h4 b hb).1,lt_of_keep (h4 b hb).2 (hk b hb)⟩,h5.keep hE (fun b hb=>hk b (by simp [hb]))⟩
end
theorem OPlan.keepF {w w':World} {base:Nat} {v:Value} {p:Plan} {fp:List Nat} (h:OPlan w base v p fp) (hk:∀ b∈fp,w'.heap[b]? = w.heap[b]?):OPlan w' base v p fp:=by
 obtain ⟨v1,v2,f1,f2,rfl,h1,h2,rfl,hn⟩:=h
 exact ⟨v1,v2,f1,f2,rfl,OL.keepF h1 ECarton_fr (fun b hb=>hk b (by simp [hb])),OL.keepF h2 (eflat_fr _) (fun b hb=>hk b (by simp [hb])),rfl,hn⟩
abbrev fOP (base:Nat) (v:Value) (p:Plan) (fp:List Nat):Fact:=⟨fun W=>OPlan W base v p fp,fp⟩
theorem fOP_ok (base:Nat) (v:Value) (p:Plan) (fp:List Nat):(fOP base v p fp).ok:=fun _ _ h _ hk=>OPlan.keepF h hk
section
variable {w W W':World} {L:List Fact} {v:Value} {p:Plan} {fp:List Nat} {b:Nat}
theorem Sit.gotPlan (h:Sit w W L) (ho:OPlan W' W.heap.size v p fp) (hb:Below W.heap.size W W'):Sit w W' (fOP W.heap.size v p fp::L) :=
 h.add hb _ (fOP_ok _ _ _ _) ho ho.lt
theorem Sit.op (h:Sit w W L) (hm:fOP b v p fp∈L) (hb:p.bulk≤16777216):RPlan 16777216 W W.heap.size v p:=OPlan.read (h.on _ hm) hb
end
end Go.Proofs.YtioijfplbgpjpaaGreat
