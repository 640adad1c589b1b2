/-
  Moves of a region that draws its order, in short words (rows of takes at once). No program is named here.
-/
import Derived.Test.YtioijfplbgpjpaaGreatKu02
namespace Go.Proofs.YtioijfplbgpjpaaGreat
set_option linter.unusedVariables false
set_option linter.unusedSimpArgs false
set_option maxRecDepth 100000
section
variable {P:Program} {ops:Array Oper} {Q:Exit→Act→World→Prop} {S:World→Prop} {listed l':Array Bool} {a b:Act} {w:World} {oi:Oper} {v:Value} {i:Nat} {rs:List Nat}
def uQ (P:Program) (ops:Array Oper) (Q:Exit→Act→World→Prop) (S:World→Prop) (l:Array Bool) (a:Act) (w:World):Prop :=
 (∀ c a n v w,Q (.panic c) (Act.put a (some n) v) w→Q (.panic c) a w)→wpS P ops Q S (l.count false) l a w
theorem putAny (hQ:∀ c a n v w,Q (.panic c) (Act.put a (some n) v) w→Q (.panic c) a w) (d:Option Nat) (v:Value):∀ c a w,Q (.panic c) (Act.put a d v) w→Q (.panic c) a w:=fun c a w h=>by
 cases d with
 |none=>exact h
 |some n=>exact hQ c a n v w h
theorem tku (ks:List Nat) (hB:takesB ops ks listed=true) (hS:S w) (ht:Tks P ops S ks a b) (h:uQ P ops Q S (marks listed ks) b w):uQ P ops Q S listed a w:=by
 intro hQ
 induction ht generalizing listed with
 |nil=>exact h hQ
 |yes hi hw hy _ ih =>
  simp only [takesB,cntO,Bool.and_eq_true,decide_eq_true_eq] at hB
  rw [hB.1.2]
  exact wpS_take hi hB.1.1 (putAny hQ _ _) (Or.inl ⟨hw,hy⟩) hS (ih hB.2 h)
 |no hi hw _ ih =>
  simp only [takesB,cntO,Bool.and_eq_true,decide_eq_true_eq] at hB
  rw [hB.1.2]
  exact wpS_take hi hB.1.1 (putAny hQ _ _) (Or.inr ⟨hw,rfl⟩) hS (ih hB.2 h)
def AllU (P:Program) (ops:Array Oper) (Q:Exit→Act→World→Prop) (S:World→Prop) (l:Array Bool) (a:Act) (w:World) (rs:List Nat):Prop :=
 ∀ i∈rs,wpOp P ops Q i (fun a' w'=>(i + 1 < ops.size→S w')∧uQ P ops Q S (l.setIfInBounds i true) a' w') a w
theorem AllU.nil:AllU P ops Q S listed a w []:=fun _ h=>by cases h
theorem AllU.cons (ho:ops[i]? = some oi) (hl:decide (i + 1 < ops.size)=true)
  (h:∀ K':Act→World→Prop,Shut (∀ a w,S w→(S w→uQ P ops Q S (listed.setIfInBounds i true) a w)→K' a w)→if Region.wanted oi (yielded ops a.tmps)=true then Oper.wp P oi a w K' Q else K' (a.put oi.dst undef) w)
  (hs:AllU P ops Q S listed a w rs):AllU P ops Q S listed a w (i::rs):=fun j hj=>by
 rcases List.mem_cons.1 hj with rfl | hj
 ·exact wpOp_step ho (fun K' hK=>h K' (fun a w hS hW=>hK a w ⟨fun _=>hS,hW hS⟩))
 ·exact hs j hj
theorem smu (rs:List Nat) (hB:(decide (Region.ready .any ops listed=rs) && !rs.isEmpty && rs.all (cntO listed))=true) (h:AllU P ops Q S listed a w rs):uQ P ops Q S listed a w:=by
 intro hQ
 simp only [Bool.and_eq_true,decide_eq_true_eq,Bool.not_eq_true',List.all_eq_true] at hB
 obtain ⟨⟨h1,h2⟩,h3⟩:=hB
 obtain ⟨j,hj⟩:∃ j,j∈rs:=by
  cases rs with
  |nil=>simp at h2
  |cons x _=>exact ⟨x,.head _⟩
 have hc:=h3 j hj
 simp only [cntO,decide_eq_true_eq] at hc
 rw [hc]
 refine ⟨fun h0=>(by rw [h1] at h0;rw [h0] at hj;cases hj),fun i hi=>?_⟩
 rw [h1] at hi
 have hci:=h3 i hi
 simp only [cntO,decide_eq_true_eq] at hci
 refine wpOp_mono (fun a' w' h'=>⟨h'.1,?_⟩) (h i hi)
 have:=h'.2 hQ
 rw [show Array.count false (listed.setIfInBounds j true)=Array.count false (listed.setIfInBounds i true) by omega]
 exact this
theorem onu (i:Nat) (hi:ops[i]? = some oi) (hB:(decide (Region.ready .any ops listed=[i]) && decide (i + 1 < ops.size) && cntO listed i)=true)
  (h:∀ K':Act→World→Prop,Shut (∀ a w,S w→(S w→uQ P ops Q S (listed.setIfInBounds i true) a w)→K' a w)→if Region.wanted oi (yielded ops a.tmps)=true then Oper.wp P oi a w K' Q else K' (a.put oi.dst undef) w):uQ P ops Q S listed a w:=by
 simp only [Bool.and_eq_true,decide_eq_true_eq] at hB
 exact smu [i] (by simp [hB.1.1,hB.2]) (AllU.cons hi (by simp [hB.1.2]) h AllU.nil)
theorem lsu (i:Nat) (hi:ops[i]? = some oi) (hB:(decide (Region.ready .any ops listed=[i]) && !decide (i + 1 < ops.size) && cntO listed i && (Region.ready .any ops (listed.setIfInBounds i true)).isEmpty)=true)
  (h:∀ K':Act→World→Prop,Shut (∀ a w,Q .normal a w→K' a w)→if Region.wanted oi (yielded ops a.tmps)=true then Oper.wp P oi a w K' Q else K' (a.put oi.dst undef) w):uQ P ops Q S listed a w:=by
 simp only [Bool.and_eq_true,decide_eq_true_eq,Bool.not_eq_true',List.isEmpty_iff,decide_eq_false_iff_not] at hB
 obtain ⟨⟨⟨h1,h2⟩,h3⟩,h4⟩:=hB
 refine smu [i] (by simp [h1,h3]) (fun j hj=>?_)
 rcases List.mem_cons.1 hj with rfl | hj
 ·exact wpOp_step hi (fun K' hK=>h K' (fun a w hW=>hK a w ⟨fun h=>absurd h h2,fun _=>wpS_done h4 hW _⟩))
 ·cases hj
theorem uQ_norm (l':Array Bool) (hl:listed=l') (h:uQ P ops Q S l' a w):uQ P ops Q S listed a w:=hl ▸ h
theorem regu {id:Nat} (hm:P.follows .mixedOrders=true) (hQ:∀ c a n v w,Q (.panic c) (Act.put a (some n) v) w→Q (.panic c) a w) (hS:S w.drew)
  (h:S w.drew→uQ P ops Q S (Array.replicate ops.size false) a w.drew):(Code.region id ops true).wp P Q a w :=
 wp_region_S hm hS (fun h0=>by have:=h h0 hQ;simpa [Array.count_replicate_self] using this)
end
end Go.Proofs.YtioijfplbgpjpaaGreat
