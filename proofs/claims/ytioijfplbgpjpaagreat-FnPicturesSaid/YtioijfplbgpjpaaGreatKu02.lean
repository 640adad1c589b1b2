/-
  Orders of the call's own; the walks over the laws' helpers for orders: sizes, copies, comparisons, marks.
-/
import Derived.Test.YtioijfplbgpjpaaGreatKu01
import Derived.Deep.Light
import Derived.Test.YtioijfplbgpjpaaGreatKu00
import Derived.Laws.OwnMore
import Derived.Test.YtioijfplbgpjpaaGreatRows
import Derived.Laws.StructEq
import Derived.Test.YtioijfplbgpjpaaGreatShelf
import Derived.Sort.OwnSortedInts
import Derived.StillTail
import Derived.Deep.RegionHeld
import Derived.Deep.RegionHeld3
import Derived.Deep.RegionLaw
namespace Go.Proofs.YtioijfplbgpjpaaGreat
set_option linter.unusedVariables false
set_option linter.unusedSimpArgs false
set_option maxRecDepth 100000
open Go.RowKit Go.WideShapes Go.ChangeShapes Go.ChangeAt Go.Deep
def OReq (w:World) (base:Nat) (v:Value) (r:Request) (fp:List Nat):Prop:=∃ vp vt vi f1 f2 f3,v=.agg (r.row vp vt vi)∧OF Pair.cells 165 2 w base vp r.pairs f1∧OF GType.cells 142 7 w base vt r.types f2∧OF Item.cells 152 7 w base vi r.items f3∧fp=f1 ++ (f2 ++ f3)∧fp.Nodup
theorem OReq.read {w:World} {base:Nat} {v:Value} {r:Request} {fp:List Nat} (h:OReq w base v r fp) (hb:r.bulk≤16777216):RReq 16777216 w w.heap.size v r:=by
 obtain ⟨vp,vt,vi,f1,f2,f3,rfl,h1,h2,h3,_⟩:=h
 unfold Request.bulk at hb
 exact ⟨vp,vt,vi,rfl,h1.read (fun _=>rfl) (by omega),h2.read (fun _=>rfl) (by omega),h3.read (fun _=>rfl) (by omega)⟩
theorem OReq.form {w:World} {base:Nat} {v:Value} {r:Request} {fp:List Nat} (h:OReq w base v r fp):∃ A1 c1 A2 c2 A3 c3,v=.agg (cR r A1 c1 A2 c2 A3 c3):=by
 obtain ⟨vp,vt,vi,f1,f2,f3,rfl,h1,h2,h3,_⟩:=h
 obtain ⟨A1,c1,rfl,_⟩:=h1.form
 obtain ⟨A2,c2,rfl,_⟩:=h2.form
 obtain ⟨A3,c3,rfl,_⟩:=h3.form
 exact ⟨_,_,_,_,_,_,rfl⟩
theorem OReq.lt {w:World} {base:Nat} {v:Value} {r:Request} {fp:List Nat} (h:OReq w base v r fp):∀ b∈fp,base≤b∧b < w.heap.size:=by
 obtain ⟨vp,vt,vi,f1,f2,f3,rfl,h1,h2,h3,rfl,_⟩:=h
 intro b hb
 simp only [List.mem_append] at hb
 rcases hb with hb | hb | hb
 ·exact h1.lt b hb
 ·exact h2.lt b hb
 ·exact h3.lt b hb
theorem OReq.keep {w w':World} {base:Nat} {v:Value} {r:Request} {fp:List Nat} (h:OReq w base v r fp) (hk:∀ b∈fp,w'.heap[b]? = w.heap[b]?):OReq w' base v r fp:=by
 obtain ⟨vp,vt,vi,f1,f2,f3,rfl,h1,h2,h3,rfl,hn⟩:=h
 exact ⟨vp,vt,vi,f1,f2,f3,rfl,h1.keep (fun b hb=>hk b (by simp [hb])),h2.keep (fun b hb=>hk b (by simp [hb])),h3.keep (fun b hb=>hk b (by simp [hb])),rfl,hn⟩
theorem OReq.next {w w':World} {base:Nat} {v:Value} {r:Request} {fp:List Nat} (h:OReq w base v r fp) (hb:Below w.heap.size w w'):OReq w' base v r fp:=h.keep fun b hm=>hb.block b (h.lt b hm).2
theorem OReq.tch {w w':World} {base:Nat} {v:Value} {r:Request} {fp fp':List Nat} (h:OReq w base v r fp) (ht:Tch fp' w w') (hd:∀ b∈fp,b∈fp'→False):OReq w' base v r fp:=h.keep fun b hb=>ht.block b (h.lt b hb).2 (hd b hb)
theorem OReq.base {w:World} {b B:Nat} {v:Value} {r:Request} {fp:List Nat} (h:OReq w b v r fp) (hB:B≤b):OReq w B v r fp:=by
 obtain ⟨vp,vt,vi,f1,f2,f3,rfl,h1,h2,h3,rfl,hn⟩:=h
 exact ⟨vp,vt,vi,f1,f2,f3,rfl,h1.base hB,h2.base hB,h3.base hB,rfl,hn⟩
end Go.Proofs.YtioijfplbgpjpaaGreat
namespace Go.Proofs.YtioijfplbgpjpaaGreat
set_option linter.unusedVariables false
set_option linter.unusedSimpArgs false
set_option maxRecDepth 100000
open Go.RowKit
structure Fact where
 on:World→Prop
 fp:List Nat
def Fact.ok (q:Fact):Prop:=∀ W W',q.on W→(∀ b∈q.fp,b < W.heap.size)→(∀ b∈q.fp,W'.heap[b]? = W.heap[b]?)→q.on W'
structure Sit (w W:World) (l:List Fact):Prop where
 low:Below w.heap.size w W
 ok:∀ q∈l,q.ok
 on:∀ q∈l,q.on W
 lt:∀ q∈l,∀ b∈q.fp,w.heap.size≤b∧b < W.heap.size
 apart:l.Pairwise (fun q q'=>∀ b∈q.fp,b∈q'.fp→False)
section
variable {w W W':World} {l l1 l2:List Fact} {q q':Fact}
theorem Sit.here (w:World):Sit w w []:=⟨Below.refl _ _,by simp,by simp,by simp,by simp⟩
theorem Sit.next (h:Sit w W l) (hb:Below W.heap.size W W'):Sit w W' l :=
 ⟨bstep h.low hb,h.ok,fun q hq=>h.ok q hq W W' (h.on q hq) (fun b hm=>(h.lt q hq b hm).2) (fun b hm=>hb.block b (h.lt q hq b hm).2),fun q hq b hm=>⟨(h.lt q hq b hm).1,Nat.lt_of_lt_of_le (h.lt q hq b hm).2 hb.size⟩,h.apart⟩
theorem Sit.add (h:Sit w W l) (hb:Below W.heap.size W W') (q:Fact) (ho:q.ok) (hq:q.on W') (hl:∀ b∈q.fp,W.heap.size≤b∧b < W'.heap.size):Sit w W' (q::l):=by
 have h':=h.next hb
 refine ⟨h'.low,?_,?_,?_,List.pairwise_cons.2 ⟨fun q' hq' b hb1 hb2=>?_,h'.apart⟩⟩
 ·intro r hr
  rcases List.mem_cons.1 hr with rfl | hr
  ·exact ho
  ·exact h'.ok r hr
 ·intro r hr
  rcases List.mem_cons.1 hr with rfl | hr
  ·exact hq
  ·exact h'.on r hr
 ·intro r hr b hm
  rcases List.mem_cons.1 hr with rfl | hr
  ·exact ⟨Nat.le_trans h.low.size (hl b hm).1,(hl b hm).2⟩
  ·exact h'.lt r hr b hm
 ·have:=(hl b hb1).1;have:=(h.lt q' hq' b hb2).2;omega
theorem Sit.drop (h:Sit w W (q::l)):Sit w W l :=
 ⟨h.low,fun r hr=>h.ok r (.tail _ hr),fun r hr=>h.on r (.tail _ hr),fun r hr=>h.lt r (.tail _ hr),(List.pairwise_cons.1 h.apart).2⟩
theorem Sit.perm (h:Sit w W l) (hp:l.Perm l2):Sit w W l2 :=
 ⟨h.low,fun r hr=>h.ok r (hp.mem_iff.2 hr),fun r hr=>h.on r (hp.mem_iff.2 hr),fun r hr=>h.lt r (hp.mem_iff.2 hr),hp.pairwise h.apart (fun h1 b hb1 hb2=>h1 b hb2 hb1)⟩
theorem Sit.tch (h:Sit w W (l1 ++ q::l2)) (ht:Tch q.fp W W') (q':Fact) (hf:q'.fp=q.fp) (ho:q'.ok) (hq:q'.on W'):Sit w W' (l1 ++ q'::l2):=by
 have hap:=h.apart
 rw [List.pairwise_append,List.pairwise_cons] at hap
 have hm:∀ r,r∈l1 ++ q'::l2→r=q' ∨ (r∈l1 ++ q::l2∧∀ b∈r.fp,b∈q.fp→False):=by
  intro r hr
  rcases List.mem_append.1 hr with hr | hr
  ·exact .inr ⟨List.mem_append.2 (.inl hr),hap.2.2 r hr q (.head _)⟩
  ·rcases List.mem_cons.1 hr with rfl | hr
   ·exact .inl rfl
   ·exact .inr ⟨List.mem_append.2 (.inr (.tail _ hr)),fun b h1 h2=>hap.2.1.1 r hr b h2 h1⟩
 have hq0:q∈l1 ++ q::l2:=List.mem_append.2 (.inr (.head _))
 refine ⟨h.low.trans (ht.below h.low.size (fun k hk=>(h.lt q hq0 k hk).1)),fun r hr=>?_,fun r hr=>?_,fun r hr b hb=>?_,?_⟩
 ·rcases hm r hr with rfl | ⟨hr,_⟩
  ·exact ho
  ·exact h.ok r hr
 ·rcases hm r hr with rfl | ⟨hr,hd⟩
  ·exact hq
  ·exact h.ok r hr W W' (h.on r hr) (fun b hb=>(h.lt r hr b hb).2) (fun b hb=>ht.block b (h.lt r hr b hb).2 (hd b hb))
 ·rcases hm r hr with rfl | ⟨hr,_⟩
  ·rw [hf] at hb
   exact ⟨(h.lt q hq0 b hb).1,Nat.lt_of_lt_of_le (h.lt q hq0 b hb).2 ht.size⟩
  ·exact ⟨(h.lt r hr b hb).1,Nat.lt_of_lt_of_le (h.lt r hr b hb).2 ht.size⟩
 ·rw [List.pairwise_append,List.pairwise_cons]
  refine ⟨hap.1,⟨fun r hr b hb=>?_,hap.2.1.2⟩,fun r hr s hs=>?_⟩
  ·rw [hf] at hb
   exact hap.2.1.1 r hr b hb
  ·rcases List.mem_cons.1 hs with rfl | hs
   ·rw [hf];exact hap.2.2 r hr q (.head _)
   ·exact hap.2.2 r hr s (.tail _ hs)
end
abbrev fBox (g:Nat) (cs:Array Value) (t:TypeId):Fact:=⟨fun W=>W.heap[g]? = some (.cells cs t (0,0)),[g]⟩
theorem fBox_ok (g:Nat) (cs:Array Value) (t:TypeId):(fBox g cs t).ok:=fun _ _ h _ hk=>(hk g (by simp)).trans h
abbrev fReq (base:Nat) (v:Value) (r:Request) (fp:List Nat):Fact:=⟨fun W=>OReq W base v r fp,fp⟩
theorem fReq_ok (base:Nat) (v:Value) (r:Request) (fp:List Nat):(fReq base v r fp).ok:=fun _ _ h _ hk=>h.keep hk
section
variable {w W W':World} {l l1 l2:List Fact} {g:Nat} {cs:Array Value} {t:TypeId} {v:Value} {r:Request} {fp:List Nat} {b:Nat}
theorem Sit.box (h:Sit w W l) (hm:fBox g cs t∈l) (j:Nat):W.cell? ⟨g,j,none⟩=cs[j]?:=cell_of_row _ _ j _ _ (0,0) (h.on _ hm)
theorem Sit.boxlt (h:Sit w W l) (hm:fBox g cs t∈l):g < W.heap.size:=lt_of_block (h.on _ hm)
theorem Sit.free (h:Sit w W l) (hm:fBox g cs t∈l) (j:Nat):W.frozen? ⟨g,j,none⟩=false:=frozen_of_row _ _ j _ _ (h.on _ hm)
theorem Sit.alloc (h:Sit w W l) (cs:Array Value) (t:TypeId):Sit w (W.alloc (.cells cs t)) (fBox W.heap.size cs t::l) :=
 h.add ((Below.refl _ _).alloc (Nat.le_refl _) _) _ (fBox_ok _ _ _) (heap_alloc_new _ _) (by simp)
theorem Sit.drew (h:Sit w W l):Sit w W.drew l:=h.next (Below.refl _ _).drew
theorem Sit.req (h:Sit w W l) (hb:Below W.heap.size W W') (ho:OReq W' W.heap.size v r fp):Sit w W' (fReq W.heap.size v r fp::l) :=
 h.add hb _ (fReq_ok _ _ _ _) ho ho.lt
theorem Sit.own (h:Sit w W l) (hm:fReq b v r fp∈l):OReq W b v r fp:=h.on _ hm
theorem Sit.again (h:Sit w W (fBox g cs t::l)) {us:List Value} {cs':Array Value} (hs:(setW W g 0 us).heap[g]? = some (.cells cs' t (0,0))):Sit w (setW W g 0 us) (fBox g cs' t::l) :=
 Sit.tch (l1:=[]) h (Tch.setW (by simp) us W 0 (Tch.refl _ _)) _ rfl (fBox_ok _ _ _) hs
end
theorem calls_new {P:Program} {f:FuncId} {args:Array Value} {W:World} {cs:Array Value} {t:TypeId} {Q:Ending→World→Prop} (k:(W.alloc (.cells cs t)).heap[W.heap.size]? = some (.cells cs t (0,0))→Calls P f args (W.alloc (.cells cs t)) Q):Calls P f args (W.alloc (.cells cs t)) Q:=k (heap_alloc_new _ _)
theorem calls_newd {P:Program} {f:FuncId} {args:Array Value} {W:World} {cs:Array Value} {t:TypeId} {Q:Ending→World→Prop} (k:(W.alloc (.cells cs t)).drew.heap[W.heap.size]? = some (.cells cs t (0,0))→Calls P f args (W.alloc (.cells cs t)).drew Q):Calls P f args (W.alloc (.cells cs t)).drew Q:=k (heap_alloc_new _ _)
section
variable {w W W':World} {l:List Fact} {q q2:Fact} {g B:Nat} {t:TypeId} {v:Value} {r:Request} {fp:List Nat}
theorem Sit.fresh (h:Sit w W l) (hb:Below W.heap.size W W') (ho:OReq W' B v r fp) (hB:W.heap.size≤B) (cs:Array Value) (t:TypeId):Sit w (W'.alloc (.cells cs t)) (fBox W'.heap.size cs t::fReq W.heap.size v r fp::l) :=
 (h.req hb (ho.base hB)).alloc cs t
end
section
variable {w W W':World} {l l1 l2:List Fact} {g b j:Nat} {cs:Array Value} {t:TypeId} {u v v':Value} {r r':Request} {fp:List Nat}
theorem Sit.store (h:Sit w W (fBox g cs t::l)) (j:Nat) (u:Value):Sit w (W.setCell ⟨g,j,none⟩ u) (fBox g (cs.setIfInBounds j u) t::l) :=
 Sit.tch (l1:=[]) h (Tch.setW (us:=[u]) (o:=j) (by simp) W (Tch.refl _ _)) _ rfl (fBox_ok _ _ _) (heap_setCell_same W g j _ _ _ (h.on _ (.head _)))
theorem Sit.turn (h:Sit w W (l1 ++ fReq b v r fp::l2)) (ht:Tch fp W W') (ho:OReq W' b v' r' fp):Sit w W' (l1 ++ fReq b v' r' fp::l2) :=
 h.tch ht (fReq b v' r' fp) rfl (fReq_ok _ _ _ _) ho
end
end Go.Proofs.YtioijfplbgpjpaaGreat
namespace Go.Proofs.YtioijfplbgpjpaaGreat
set_option linter.unusedVariables false
set_option linter.unusedSimpArgs false
set_option maxRecDepth 100000
open Go.RowKit
def Fact.away (q q':Fact):Prop:=∀ b∈q.fp,b∈q'.fp→False
section
variable {w W W':World} {l l1 l2:List Fact} {q q':Fact}
theorem Sit.step (h:Sit w W (l1 ++ l)) {fp:List Nat} (ht:Tch fp W W') (hfp:∀ b∈fp,∃ q∈l1,b∈q.fp) (l1':List Fact) (hs:∀ p∈l1',∀ b∈p.fp,(∃ q∈l1,b∈q.fp) ∨ (W.heap.size≤b∧b < W'.heap.size)) (hok:∀ p∈l1',p.ok) (hon:∀ p∈l1',p.on W') (hap:l1'.Pairwise (fun q q'=>∀ b∈q.fp,b∈q'.fp→False)):Sit w W' (l1' ++ l):=by
 have ha:=List.pairwise_append.1 h.apart
 have hm1:∀ {r},r∈l1→r∈l1 ++ l:=fun hr=>List.mem_append.2 (.inl hr)
 have hm2:∀ {r},r∈l→r∈l1 ++ l:=fun hr=>List.mem_append.2 (.inr hr)
 have hnot:∀ r∈l,∀ b∈r.fp,b ∉ fp:=fun r hr b hb hm=>by
  obtain ⟨q,hq,hb2⟩:=hfp b hm
  exact ha.2.2 q hq r hr b hb2 hb
 refine ⟨h.low.trans (ht.below h.low.size (fun k hk=>?_)),fun r hr=>?_,fun r hr=>?_,fun r hr b hb=>?_,List.pairwise_append.2 ⟨hap,ha.2.1,fun p hp r hr b hb1 hb2=>?_⟩⟩
 ·obtain ⟨q,hq,hb⟩:=hfp k hk
  exact (h.lt q (hm1 hq) k hb).1
 ·rcases List.mem_append.1 hr with hr | hr
  ·exact hok r hr
  ·exact h.ok r (hm2 hr)
 ·rcases List.mem_append.1 hr with hr | hr
  ·exact hon r hr
  ·exact h.ok r (hm2 hr) W W' (h.on r (hm2 hr)) (fun b hb=>(h.lt r (hm2 hr) b hb).2) (fun b hb=>ht.block b (h.lt r (hm2 hr) b hb).2 (hnot r hr b hb))
 ·rcases List.mem_append.1 hr with hr | hr
  ·rcases hs r hr b hb with ⟨q,hq,hb2⟩ | hb2
   ·exact ⟨(h.lt q (hm1 hq) b hb2).1,Nat.lt_of_lt_of_le (h.lt q (hm1 hq) b hb2).2 ht.size⟩
   ·exact ⟨Nat.le_trans h.low.size hb2.1,hb2.2⟩
  ·exact ⟨(h.lt r (hm2 hr) b hb).1,Nat.lt_of_lt_of_le (h.lt r (hm2 hr) b hb).2 ht.size⟩
 ·rcases hs p hp b hb1 with ⟨q,hq,hb3⟩ | hb3
  ·exact ha.2.2 q hq r hr b hb3 hb2
  ·have:=(h.lt r (hm2 hr) b hb2).2;omega
theorem Sit.grow (h:Sit w W (q::l)) (ht:Tch q.fp W W') (q':Fact) (hf:∀ b∈q'.fp,b∈q.fp ∨ (W.heap.size≤b∧b < W'.heap.size)) (ho:q'.ok) (hq:q'.on W'):Sit w W' (q'::l) :=
 Sit.step (l1:=[q]) h ht (fun b hb=>⟨q,by simp,hb⟩) [q'] (fun p hp b hb=>by simp at hp;subst hp;exact (hf b hb).imp (fun h=>⟨q,by simp,h⟩) id) (by simpa using ho) (by simpa using hq) (by simp)
theorem Sit.rot2 (h:Sit w W (q::q'::l)):Sit w W (q'::q::l):=h.perm (List.Perm.swap _ _ _)
theorem Sit.rot3 {q'':Fact} (h:Sit w W (q::q'::q''::l)):Sit w W (q''::q::q'::l):=h.perm ((List.Perm.cons q (List.Perm.swap _ _ _)).trans (List.Perm.swap _ _ _))
theorem Sit.rot4 {q2 q3:Fact} (h:Sit w W (q::q'::q2::q3::l)):Sit w W (q3::q::q'::q2::l):=h.perm ((List.Perm.cons q ((List.Perm.cons q' (List.Perm.swap _ _ _)).trans (List.Perm.swap _ _ _))).trans (List.Perm.swap _ _ _))
theorem Sit.ror4 {q2 q3:Fact} (h:Sit w W (q::q'::q2::q3::l)):Sit w W (q'::q2::q3::q::l):=h.rot4.rot4.rot4
theorem Sit.ror3 {q2:Fact} (h:Sit w W (q::q'::q2::l)):Sit w W (q'::q2::q::l):=h.rot3.rot3
end
abbrev fOF {α:Type} (f:α→List Value) (e K base:Nat) (v:Value) (xs:List α) (fp:List Nat):Fact:=⟨fun W=>OF f e K W base v xs fp,fp⟩
theorem fOF_ok {α:Type} (f:α→List Value) (e K base:Nat) (v:Value) (xs:List α) (fp:List Nat):(fOF f e K base v xs fp).ok:=fun _ _ h _ hk=>h.keep hk
def AppOF {α:Type} (f:α→List Value) (e K:Nat) (w:World) (base:Nat) (xs:List α) (fp:List Nat) (v':Value) (w':World):Prop :=
 ∃ fp',OF f e K w' base v' xs fp'∧Tch fp w w'∧∀ b∈fp',b∈fp ∨ (w.heap.size≤b∧b < w'.heap.size)
section
variable {α:Type} {f:α→List Value} {e K base:Nat} {w W W':World} {l:List Fact} {v v':Value} {xs xs':List α} {fp:List Nat}
theorem Sit.app (h:Sit w W (fOF f e K base v xs fp::l)) (ha:AppOF f e K W base xs' fp v' W'):∃ fp',Sit w W' (fOF f e K base v' xs' fp'::l):=by
 obtain ⟨fp',ho,ht,hf⟩:=ha
 exact ⟨fp',h.grow ht (fOF f e K base v' xs' fp') hf (fOF_ok _ _ _ _ _ _ _) ho⟩
theorem Sit.list (h:Sit w W l) (hm:fOF f e K base v xs fp∈l):OF f e K W base v xs fp:=h.on _ hm
theorem Sit.addOF (h:Sit w W l) (hb:Below W.heap.size W W') (ho:OF f e K W' base v xs fp) (hB:W.heap.size≤base):Sit w W' (fOF f e K base v xs fp::l) :=
 h.add hb _ (fOF_ok _ _ _ _ _ _ _) ho (fun b hb'=>⟨Nat.le_trans hB (ho.lt b hb').1,(ho.lt b hb').2⟩)
theorem Sit.addNil (h:Sit w W l) (base:Nat):Sit w W (fOF f e K base (.slice none 0 0) [] []::l) :=
 h.add (Below.refl _ _) _ (fOF_ok _ _ _ _ _ _ _) ⟨World.ownsRow_nil _ _ _ _,rfl⟩ (by simp)
theorem OF.app_of_row {n:Nat} (h:W'.ownsRow base e K v' n (xs'.flatMap f)) (hn:n=xs'.length) (hg:W.grownBy W' v.ownBlock) (hv:v'.ownBlock=v.ownBlock ∨ v'.ownBlock=some W.heap.size) (hfp:fp=v.ownBlock.toList):AppOF f e K W base xs' fp v' W':=by
 subst hn
 subst hfp
 have ho:=OF.mk h
 refine ⟨_,ho,⟨hg.os,hg.tape,hg.output,hg.size,fun k hk hn=>hg.block k hk (fun e=>hn (mem_ownBlock e.symm))⟩,fun b hb=>?_⟩
 rcases hv with hv | hv
 ·exact .inl (by rw [← hv];exact hb)
 ·refine .inr ⟨?_,(ho.lt b hb).2⟩
  rw [hv] at hb
  simp at hb
  omega
end
theorem RL_one1 {α:Type} {f:α→List Value} {w:World} {g K B:Nat} {e:TypeId} {news:Array Value} {y:α} (h:w.heap[g]? = some (.cells news e (0,0))) (hn:news=(f y).toArray) (hk:(f y).length=K) (hB:g < B):RL 1 K (flat f) w B (.slice (some ⟨g,0,none⟩) 1 1) [y]:=by
 subst hn
 refine ⟨_,1,rfl,⟨Nat.le_refl _,Nat.le_refl _⟩,fun _=>⟨g,0,rfl,hB,fun i x hx=>?_⟩⟩
 have hi:i=0:=by rcases i with _ | i <;> simp at hx;rfl
 subst hi
 simp at hx
 subst hx
 refine ⟨f y,hk,rfl,fun j u hu=>?_⟩
 rw [cell_of_row _ _ _ _ _ (0,0) h]
 simpa using hu
theorem Sit.apartReq {w W:World} {l:List Fact} {b:Nat} {vp vt vi:Value} {r:Request} {fp:List Nat} (h:Sit w W (fReq b (.agg (r.row vp vt vi)) r fp::l)):∃ f1 f2 f3,fp=f1 ++ (f2 ++ f3)∧Sit w W (fOF Pair.cells 165 2 b vp r.pairs f1::fOF GType.cells 142 7 b vt r.types f2::fOF Item.cells 152 7 b vi r.items f3::l):=by
 obtain ⟨vp',vt',vi',f1,f2,f3,hv,h1,h2,h3,rfl,hn⟩:=h.own (.head _)
 have hv:r.row vp vt vi=r.row vp' vt' vi':=by injection hv
 have e1:vp=vp':=congrArg (fun a:Array Value=>a[6]!) hv
 have e2:vt=vt':=congrArg (fun a:Array Value=>a[7]!) hv
 have e3:vi=vi':=congrArg (fun a:Array Value=>a[9]!) hv
 subst e1 e2 e3
 rw [List.nodup_append,List.nodup_append] at hn
 refine ⟨f1,f2,f3,rfl,Sit.step (l1:=[fReq b (.agg (r.row vp vt vi)) r (f1 ++ (f2 ++ f3))]) (fp:=[]) h (Tch.refl _ _) (by simp) [_,_,_] ?_ ?_ ?_ ?_⟩
 ·intro p hp b hb
  refine .inl ⟨_,.head _,?_⟩
  simp only [List.mem_cons,List.not_mem_nil,or_false] at hp
  rcases hp with rfl | rfl | rfl <;> simp at hb ⊢ <;> simp [hb]
 ·intro p hp
  simp only [List.mem_cons,List.not_mem_nil,or_false] at hp
  rcases hp with rfl | rfl | rfl <;> exact fOF_ok _ _ _ _ _ _ _
 ·intro p hp
  simp only [List.mem_cons,List.not_mem_nil,or_false] at hp
  rcases hp with rfl | rfl | rfl
  ·exact h1
  ·exact h2
  ·exact h3
 ·simp only [List.pairwise_cons,List.mem_cons,List.not_mem_nil,or_false,forall_eq_or_imp,forall_eq,List.Pairwise.nil,and_true,false_implies,implies_true]
  exact ⟨⟨fun b hb hb'=>hn.2.2 b hb b (List.mem_append_left _ hb') rfl,fun b hb hb'=>hn.2.2 b hb b (List.mem_append_right _ hb') rfl⟩,fun b hb hb'=>hn.2.1.2.2 b hb b hb' rfl⟩
theorem Sit.joinReq {w W:World} {l:List Fact} {b:Nat} {vp vt vi:Value} {r:Request} {f1 f2 f3:List Nat} (h:Sit w W (fOF Pair.cells 165 2 b vp r.pairs f1::fOF GType.cells 142 7 b vt r.types f2::fOF Item.cells 152 7 b vi r.items f3::l)):Sit w W (fReq b (.agg (r.row vp vt vi)) r (f1 ++ (f2 ++ f3))::l):=by
 have h1:=h.list (.head _)
 have h2:=h.list (.tail _ (.head _))
 have h3:=h.list (.tail _ (.tail _ (.head _)))
 have ha:=h.apart
 simp only [List.pairwise_cons,List.mem_cons,forall_eq_or_imp] at ha
 refine Sit.step (l1:=[_,_,_]) (fp:=[]) h (Tch.refl _ _) (by simp) [fReq b (.agg (r.row vp vt vi)) r (f1 ++ (f2 ++ f3))] ?_ ?_ ?_ (by simp)
 ·intro p hp b hb
  simp only [List.mem_cons,List.not_mem_nil,or_false] at hp
  subst hp
  simp only [List.mem_append] at hb
  rcases hb with hb | hb | hb
  ·exact .inl ⟨_,.head _,hb⟩
  ·exact .inl ⟨_,.tail _ (.head _),hb⟩
  ·exact .inl ⟨_,.tail _ (.tail _ (.head _)),hb⟩
 ·intro p hp
  simp only [List.mem_cons,List.not_mem_nil,or_false] at hp
  subst hp
  exact fReq_ok _ _ _ _
 ·intro p hp
  simp only [List.mem_cons,List.not_mem_nil,or_false] at hp
  subst hp
  refine ⟨_,_,_,_,_,_,rfl,h1,h2,h3,rfl,?_⟩
  rw [List.nodup_append,List.nodup_append]
  refine ⟨h1.nodup,⟨h2.nodup,h3.nodup,fun x hx y hy e=>ha.2.1.1 x hx (e ▸ hy)⟩,fun x hx y hy e=>?_⟩
  rcases List.mem_append.1 hy with hy | hy
  ·exact ha.1.1 x hx (e ▸ hy)
  ·exact ha.1.2.1 x hx (e ▸ hy)
theorem setL_app1:∀ (us l1 l2:List Value) (j:Nat),setL (l1 ++ l2) (l1.length + j) us=l1 ++ setL l2 j us
 |[],_,_,_=>rfl
 |u::us,l1,l2,j=>by
  unfold setL
  rw [List.set_append_right _ _ (Nat.le_add_right _ _),Nat.add_sub_cancel_left,Nat.add_assoc]
  exact setL_app1 us l1 _ (j + 1)
theorem setL_app2:∀ (us l1 l2:List Value) (j:Nat),j + us.length≤l1.length→setL (l1 ++ l2) j us=setL l1 j us ++ l2
 |[],_,_,_,_=>rfl
 |u::us,l1,l2,j,h=>by
  simp only [List.length_cons] at h
  unfold setL
  rw [List.set_append_left _ _ (by omega)]
  exact setL_app2 us _ l2 (j + 1) (by simp;omega)
theorem flat_put {α:Type} {f:α→List Value} {K:Nat} (hK:∀ x,(f x).length=K) {xs:List α} {k j:Nat} {x y:α} {us:List Value} (hx:xs[k]? = some x) (hl:j + us.length≤K) (hy:setL (f x) j us=f y):setL (xs.flatMap f) (k * K + j) us=(xs.set k y).flatMap f:=by
 obtain ⟨hk,rfl⟩:=List.getElem?_eq_some_iff.1 hx
 have hd:xs=xs.take k ++ xs[k]::xs.drop (k + 1):=by rw [← List.drop_eq_getElem_cons hk,List.take_append_drop]
 have hlen:((xs.take k).flatMap f).length=k * K:=by rw [flatMap_len hK,List.length_take,Nat.min_eq_left (Nat.le_of_lt hk)]
 rw [List.set_eq_take_append_cons_drop,if_pos hk]
 conv=>lhs;rw [hd]
 rw [List.flatMap_append,List.flatMap_cons,← hlen,setL_app1,setL_app2 _ _ _ _ (by rw [hK];exact hl),hy,List.flatMap_append,List.flatMap_cons]
section
variable {α:Type} {f:α→List Value} {e K base:Nat} {w W W':World} {l:List Fact} {v:Value} {xs:List α} {fp:List Nat} {g n c k j:Nat} {x y:α} {us:List Value}
theorem OF.block (h:OF f e K w base v xs fp) (hn:0 < xs.length):∃ g c,v=.slice (some ⟨g,0,none⟩) xs.length c∧fp=[g]:=by
 obtain ⟨h,rfl⟩:=h
 rcases h.2 with ⟨hv,h0⟩ | ⟨g,cap,cur,hv,_⟩
 ·omega
 ·exact ⟨g,cap,hv,by rw [hv];rfl⟩
theorem OF.put (h:OF f e K w base (.slice (some ⟨g,0,none⟩) n c) xs fp) (hK:∀ x,(f x).length=K) (hx:xs[k]? = some x) (hl:j + us.length≤K) (hy:setL (f x) j us=f y):OF f e K (setW w g (k * K + j) us) base (.slice (some ⟨g,0,none⟩) n c) (xs.set k y) fp∧g∈fp:=by
 obtain ⟨h,rfl⟩:=h
 have hn:n=xs.length:=by
  rcases h.2 with ⟨hv,_⟩ | ⟨g',cap,cur,hv,_⟩
  ·cases hv
  ·injection hv
 subst hn
 refine ⟨⟨?_,rfl⟩,by simp [Value.ownBlock]⟩
 have h2:=storedL us _ w (k * K + j) h
 rw [flat_put hK hx hl hy] at h2
 rw [List.length_set]
 exact h2
theorem Sit.put (h:Sit w W (fOF f e K base (.slice (some ⟨g,0,none⟩) n c) xs fp::l)) (hK:∀ x,(f x).length=K) (hx:xs[k]? = some x) (hl:j + us.length≤K) (hy:setL (f x) j us=f y):Sit w (setW W g (k * K + j) us) (fOF f e K base (.slice (some ⟨g,0,none⟩) n c) (xs.set k y) fp::l):=by
 have h2:=(h.list (.head _)).put hK hx hl hy
 exact h.grow (Tch.setW h2.2 us W _ (Tch.refl _ _)) (fOF f e K base (.slice (some ⟨g,0,none⟩) n c) (xs.set k y) fp) (fun b hb=>.inl hb) (fOF_ok _ _ _ _ _ _ _) h2.1
end
def mapTo {α:Type} (F:α→α) (k:Nat) (xs:List α):List α:=(xs.take k).map F ++ xs.drop k
section
variable {α:Type} {F:α→α} {xs:List α} {k:Nat} {x:α}
@[simp] theorem mapTo_len:(mapTo F k xs).length=xs.length:=by unfold mapTo;simp;omega
end
end Go.Proofs.YtioijfplbgpjpaaGreat
namespace Go.Proofs.YtioijfplbgpjpaaGreat
set_option linter.unusedVariables false
set_option linter.unusedSimpArgs false
set_option maxRecDepth 100000
open Go.RowKit
theorem wapp_Int {o:Oper} {a:Act} {K:Act→World→Prop} {Q:Exit→Act→World→Prop} {w:World} (s x:Operand)
  (ho:o.op=.call { callee:=.builtin .append,args:=#[s,x],argTypes:=#[53,53] }) {base bd B:Nat} {v:Value} {xs ys:List Int} {fp:List Nat} {A:Option Addr} {m c:Nat} (hs:a.eval s=v)
  (hx:a.eval x=.slice A m c) (hr:RL bd 1 (flat cI) w B (.slice A m c) ys) (hown:OF cI 3 1 w base v xs fp) (hl:xs.length + ys.length≤33554432) (hbase:base≤w.heap.size)
  (h:∀ v' w',AppOF cI 3 1 w base (xs ++ ys) fp v' w'→K (a.put o.dst v') w'):o.wp Tryz.prog a w K Q:=by
 obtain ⟨i0,hi,hz0,hz1,hz2⟩:=info_parts info_int
 have hm:=hr.len_cap.1
 exact wp_appAll w s x 53 ho base 3 i0 _ 1 8 Tryz.underlying53 hi hz0 hz1 hz2 rfl (by omega) v _ _ hs hown.1 bd B cI A m c ys hx hr hm (fun _=>rfl) one_Int (by unfold maxLen;omega) (by omega) hbase
  (fun v' w' h1 h2 h3=>h v' w' (OF.app_of_row (by rw [List.flatMap_append];exact h1) (by rw [List.length_append,hm]) h2 h3 hown.2))
theorem pappAll_Int {ops:Array Oper} {rest:List Oper} {o:Oper} {a:Act} {Q:Exit→Act→World→Prop} {w:World} (s x:Operand) (hgd:o.guard=none)
  (ho:o.op=.call { callee:=.builtin .append,args:=#[s,x],argTypes:=#[53,53] }) {base bd B:Nat} {v:Value} {xs ys:List Int} {fp:List Nat} {A:Option Addr} {m c:Nat} (hs:a.eval s=v)
  (hx:a.eval x=.slice A m c) (hr:RL bd 1 (flat cI) w B (.slice A m c) ys) (hown:OF cI 3 1 w base v xs fp) (hl:xs.length + ys.length≤33554432) (hbase:base≤w.heap.size)
  (h:∀ v' w',AppOF cI 3 1 w base (xs ++ ys) fp v' w'→wpList Tryz.prog ops Q rest (a.put o.dst v') w'):wpList Tryz.prog ops Q (o::rest) a w :=
 wpList_plain hgd fun _ hK=>wapp_Int s x ho hs hx hr hown hl hbase fun v' w' ha=>hK _ _ (h v' w' ha)
theorem sappAll_Int {ops:Array Oper} {o:Oper} {a:Act} {K:Act→World→Prop} {Q:Exit→Act→World→Prop} {E:Prop} {w:World} (s x:Operand) (hgd:o.guard=none)
  (ho:o.op=.call { callee:=.builtin .append,args:=#[s,x],argTypes:=#[53,53] }) {base bd B:Nat} {v:Value} {xs ys:List Int} {fp:List Nat} {A:Option Addr} {m c:Nat} (hs:a.eval s=v)
  (hx:a.eval x=.slice A m c) (hr:RL bd 1 (flat cI) w B (.slice A m c) ys) (hown:OF cI 3 1 w base v xs fp) (hl:xs.length + ys.length≤33554432) (hbase:base≤w.heap.size)
  (h:∀ v' w',AppOF cI 3 1 w base (xs ++ ys) fp v' w'→K (a.put o.dst v') w'):if Region.wanted o (yielded ops a.tmps)=true then Oper.wp Tryz.prog o a w K Q else E:=by
 have hw:Region.wanted o (yielded ops a.tmps)=true:=by simp [Region.wanted,hgd]
 rw [if_pos hw]
 exact wapp_Int s x ho hs hx hr hown hl hbase h
theorem papp_Int {ops:Array Oper} {rest:List Oper} {o:Oper} {a:Act} {Q:Exit→Act→World→Prop} {w:World} (s x:Operand) (hgd:o.guard=none)
  (ho:o.op=.call { callee:=.builtin .append,args:=#[s,x],argTypes:=#[53,53] }) {base:Nat} {v:Value} {xs:List Int} {fp:List Nat} (y:Int) {news:Array Value} {N:Nat} (hs:a.eval s=v)
  (hx:a.eval x=.slice (some ⟨N,0,none⟩) 1 1) (hN:w.heap[N]? = some (.cells news 3 (0,0))) (hy:news=(cI y).toArray) (hown:OF cI 3 1 w base v xs fp) (hl:xs.length < 16777216) (hbase:base≤w.heap.size)
  (h:∀ v' w',AppOF cI 3 1 w base (xs ++ [y]) fp v' w'→wpList Tryz.prog ops Q rest (a.put o.dst v') w'):wpList Tryz.prog ops Q (o::rest) a w :=
 pappAll_Int s x hgd ho hs hx (RL_one1 hN hy rfl (Nat.lt_succ_self N)) hown (by simp;omega) hbase h
theorem sapp_Int {ops:Array Oper} {o:Oper} {a:Act} {K:Act→World→Prop} {Q:Exit→Act→World→Prop} {E:Prop} {w:World} (s x:Operand) (hgd:o.guard=none)
  (ho:o.op=.call { callee:=.builtin .append,args:=#[s,x],argTypes:=#[53,53] }) {base:Nat} {v:Value} {xs:List Int} {fp:List Nat} (y:Int) {news:Array Value} {N:Nat} (hs:a.eval s=v)
  (hx:a.eval x=.slice (some ⟨N,0,none⟩) 1 1) (hN:w.heap[N]? = some (.cells news 3 (0,0))) (hy:news=(cI y).toArray) (hown:OF cI 3 1 w base v xs fp) (hl:xs.length < 16777216) (hbase:base≤w.heap.size)
  (h:∀ v' w',AppOF cI 3 1 w base (xs ++ [y]) fp v' w'→K (a.put o.dst v') w'):if Region.wanted o (yielded ops a.tmps)=true then Oper.wp Tryz.prog o a w K Q else E :=
 sappAll_Int s x hgd ho hs hx (RL_one1 hN hy rfl (Nat.lt_succ_self N)) hown (by simp;omega) hbase h
theorem wapp_Spot {o:Oper} {a:Act} {K:Act→World→Prop} {Q:Exit→Act→World→Prop} {w:World} (s x:Operand)
  (ho:o.op=.call { callee:=.builtin .append,args:=#[s,x],argTypes:=#[44,44] }) {base bd B:Nat} {v:Value} {xs ys:List Spot} {fp:List Nat} {A:Option Addr} {m c:Nat} (hs:a.eval s=v)
  (hx:a.eval x=.slice A m c) (hr:RL bd 4 (flat Spot.cells) w B (.slice A m c) ys) (hown:OF Spot.cells 72 4 w base v xs fp) (hl:xs.length + ys.length≤33554432) (hbase:base≤w.heap.size)
  (h:∀ v' w',AppOF Spot.cells 72 4 w base (xs ++ ys) fp v' w'→K (a.put o.dst v') w'):o.wp Tryz.prog a w K Q:=by
 obtain ⟨i0,hi,hz0,hz1,hz2⟩:=info_parts info_Spot
 have hm:=hr.len_cap.1
 exact wp_appAll w s x 44 ho base 72 i0 _ 4 32 Tryz.underlying44 hi hz0 hz1 hz2 rfl (by omega) v _ _ hs hown.1 bd B Spot.cells A m c ys hx hr hm (fun _=>rfl) one_Spot (by unfold maxLen;omega) (by omega) hbase
  (fun v' w' h1 h2 h3=>h v' w' (OF.app_of_row (by rw [List.flatMap_append];exact h1) (by rw [List.length_append,hm]) h2 h3 hown.2))
theorem pappAll_Spot {ops:Array Oper} {rest:List Oper} {o:Oper} {a:Act} {Q:Exit→Act→World→Prop} {w:World} (s x:Operand) (hgd:o.guard=none)
  (ho:o.op=.call { callee:=.builtin .append,args:=#[s,x],argTypes:=#[44,44] }) {base bd B:Nat} {v:Value} {xs ys:List Spot} {fp:List Nat} {A:Option Addr} {m c:Nat} (hs:a.eval s=v)
  (hx:a.eval x=.slice A m c) (hr:RL bd 4 (flat Spot.cells) w B (.slice A m c) ys) (hown:OF Spot.cells 72 4 w base v xs fp) (hl:xs.length + ys.length≤33554432) (hbase:base≤w.heap.size)
  (h:∀ v' w',AppOF Spot.cells 72 4 w base (xs ++ ys) fp v' w'→wpList Tryz.prog ops Q rest (a.put o.dst v') w'):wpList Tryz.prog ops Q (o::rest) a w :=
 wpList_plain hgd fun _ hK=>wapp_Spot s x ho hs hx hr hown hl hbase fun v' w' ha=>hK _ _ (h v' w' ha)
theorem papp_Spot {ops:Array Oper} {rest:List Oper} {o:Oper} {a:Act} {Q:Exit→Act→World→Prop} {w:World} (s x:Operand) (hgd:o.guard=none)
  (ho:o.op=.call { callee:=.builtin .append,args:=#[s,x],argTypes:=#[44,44] }) {base:Nat} {v:Value} {xs:List Spot} {fp:List Nat} (y:Spot) {news:Array Value} {N:Nat} (hs:a.eval s=v)
  (hx:a.eval x=.slice (some ⟨N,0,none⟩) 1 1) (hN:w.heap[N]? = some (.cells news 72 (0,0))) (hy:news=(Spot.cells y).toArray) (hown:OF Spot.cells 72 4 w base v xs fp) (hl:xs.length < 16777216) (hbase:base≤w.heap.size)
  (h:∀ v' w',AppOF Spot.cells 72 4 w base (xs ++ [y]) fp v' w'→wpList Tryz.prog ops Q rest (a.put o.dst v') w'):wpList Tryz.prog ops Q (o::rest) a w :=
 pappAll_Spot s x hgd ho hs hx (RL_one1 hN hy rfl (Nat.lt_succ_self N)) hown (by simp;omega) hbase h
theorem wapp_Pair {o:Oper} {a:Act} {K:Act→World→Prop} {Q:Exit→Act→World→Prop} {w:World} (s x:Operand)
  (ho:o.op=.call { callee:=.builtin .append,args:=#[s,x],argTypes:=#[37,37] }) {base bd B:Nat} {v:Value} {xs ys:List Pair} {fp:List Nat} {A:Option Addr} {m c:Nat} (hs:a.eval s=v)
  (hx:a.eval x=.slice A m c) (hr:RL bd 2 (flat Pair.cells) w B (.slice A m c) ys) (hown:OF Pair.cells 165 2 w base v xs fp) (hl:xs.length + ys.length≤33554432) (hbase:base≤w.heap.size)
  (h:∀ v' w',AppOF Pair.cells 165 2 w base (xs ++ ys) fp v' w'→K (a.put o.dst v') w'):o.wp Tryz.prog a w K Q:=by
 obtain ⟨i0,hi,hz0,hz1,hz2⟩:=info_parts info_Pair
 have hm:=hr.len_cap.1
 exact wp_appAll w s x 37 ho base 165 i0 _ 2 16 Tryz.underlying37 hi hz0 hz1 hz2 rfl (by omega) v _ _ hs hown.1 bd B Pair.cells A m c ys hx hr hm (fun _=>rfl) one_Pair (by unfold maxLen;omega) (by omega) hbase
  (fun v' w' h1 h2 h3=>h v' w' (OF.app_of_row (by rw [List.flatMap_append];exact h1) (by rw [List.length_append,hm]) h2 h3 hown.2))
theorem pappAll_Pair {ops:Array Oper} {rest:List Oper} {o:Oper} {a:Act} {Q:Exit→Act→World→Prop} {w:World} (s x:Operand) (hgd:o.guard=none)
  (ho:o.op=.call { callee:=.builtin .append,args:=#[s,x],argTypes:=#[37,37] }) {base bd B:Nat} {v:Value} {xs ys:List Pair} {fp:List Nat} {A:Option Addr} {m c:Nat} (hs:a.eval s=v)
  (hx:a.eval x=.slice A m c) (hr:RL bd 2 (flat Pair.cells) w B (.slice A m c) ys) (hown:OF Pair.cells 165 2 w base v xs fp) (hl:xs.length + ys.length≤33554432) (hbase:base≤w.heap.size)
  (h:∀ v' w',AppOF Pair.cells 165 2 w base (xs ++ ys) fp v' w'→wpList Tryz.prog ops Q rest (a.put o.dst v') w'):wpList Tryz.prog ops Q (o::rest) a w :=
 wpList_plain hgd fun _ hK=>wapp_Pair s x ho hs hx hr hown hl hbase fun v' w' ha=>hK _ _ (h v' w' ha)
theorem sappAll_Pair {ops:Array Oper} {o:Oper} {a:Act} {K:Act→World→Prop} {Q:Exit→Act→World→Prop} {E:Prop} {w:World} (s x:Operand) (hgd:o.guard=none)
  (ho:o.op=.call { callee:=.builtin .append,args:=#[s,x],argTypes:=#[37,37] }) {base bd B:Nat} {v:Value} {xs ys:List Pair} {fp:List Nat} {A:Option Addr} {m c:Nat} (hs:a.eval s=v)
  (hx:a.eval x=.slice A m c) (hr:RL bd 2 (flat Pair.cells) w B (.slice A m c) ys) (hown:OF Pair.cells 165 2 w base v xs fp) (hl:xs.length + ys.length≤33554432) (hbase:base≤w.heap.size)
  (h:∀ v' w',AppOF Pair.cells 165 2 w base (xs ++ ys) fp v' w'→K (a.put o.dst v') w'):if Region.wanted o (yielded ops a.tmps)=true then Oper.wp Tryz.prog o a w K Q else E:=by
 have hw:Region.wanted o (yielded ops a.tmps)=true:=by simp [Region.wanted,hgd]
 rw [if_pos hw]
 exact wapp_Pair s x ho hs hx hr hown hl hbase h
theorem papp_Pair {ops:Array Oper} {rest:List Oper} {o:Oper} {a:Act} {Q:Exit→Act→World→Prop} {w:World} (s x:Operand) (hgd:o.guard=none)
  (ho:o.op=.call { callee:=.builtin .append,args:=#[s,x],argTypes:=#[37,37] }) {base:Nat} {v:Value} {xs:List Pair} {fp:List Nat} (y:Pair) {news:Array Value} {N:Nat} (hs:a.eval s=v)
  (hx:a.eval x=.slice (some ⟨N,0,none⟩) 1 1) (hN:w.heap[N]? = some (.cells news 165 (0,0))) (hy:news=(Pair.cells y).toArray) (hown:OF Pair.cells 165 2 w base v xs fp) (hl:xs.length < 16777216) (hbase:base≤w.heap.size)
  (h:∀ v' w',AppOF Pair.cells 165 2 w base (xs ++ [y]) fp v' w'→wpList Tryz.prog ops Q rest (a.put o.dst v') w'):wpList Tryz.prog ops Q (o::rest) a w :=
 pappAll_Pair s x hgd ho hs hx (RL_one1 hN hy rfl (Nat.lt_succ_self N)) hown (by simp;omega) hbase h
theorem sapp_Pair {ops:Array Oper} {o:Oper} {a:Act} {K:Act→World→Prop} {Q:Exit→Act→World→Prop} {E:Prop} {w:World} (s x:Operand) (hgd:o.guard=none)
  (ho:o.op=.call { callee:=.builtin .append,args:=#[s,x],argTypes:=#[37,37] }) {base:Nat} {v:Value} {xs:List Pair} {fp:List Nat} (y:Pair) {news:Array Value} {N:Nat} (hs:a.eval s=v)
  (hx:a.eval x=.slice (some ⟨N,0,none⟩) 1 1) (hN:w.heap[N]? = some (.cells news 165 (0,0))) (hy:news=(Pair.cells y).toArray) (hown:OF Pair.cells 165 2 w base v xs fp) (hl:xs.length < 16777216) (hbase:base≤w.heap.size)
  (h:∀ v' w',AppOF Pair.cells 165 2 w base (xs ++ [y]) fp v' w'→K (a.put o.dst v') w'):if Region.wanted o (yielded ops a.tmps)=true then Oper.wp Tryz.prog o a w K Q else E :=
 sappAll_Pair s x hgd ho hs hx (RL_one1 hN hy rfl (Nat.lt_succ_self N)) hown (by simp;omega) hbase h
theorem wapp_Type {o:Oper} {a:Act} {K:Act→World→Prop} {Q:Exit→Act→World→Prop} {w:World} (s x:Operand)
  (ho:o.op=.call { callee:=.builtin .append,args:=#[s,x],argTypes:=#[38,38] }) {base bd B:Nat} {v:Value} {xs ys:List GType} {fp:List Nat} {A:Option Addr} {m c:Nat} (hs:a.eval s=v)
  (hx:a.eval x=.slice A m c) (hr:RL bd 7 (flat GType.cells) w B (.slice A m c) ys) (hown:OF GType.cells 142 7 w base v xs fp) (hl:xs.length + ys.length≤33554432) (hbase:base≤w.heap.size)
  (h:∀ v' w',AppOF GType.cells 142 7 w base (xs ++ ys) fp v' w'→K (a.put o.dst v') w'):o.wp Tryz.prog a w K Q:=by
 obtain ⟨i0,hi,hz0,hz1,hz2⟩:=info_parts info_Type
 have hm:=hr.len_cap.1
 exact wp_appAll w s x 38 ho base 142 i0 _ 7 56 Tryz.underlying38 hi hz0 hz1 hz2 rfl (by omega) v _ _ hs hown.1 bd B GType.cells A m c ys hx hr hm (fun _=>rfl) one_Type (by unfold maxLen;omega) (by omega) hbase
  (fun v' w' h1 h2 h3=>h v' w' (OF.app_of_row (by rw [List.flatMap_append];exact h1) (by rw [List.length_append,hm]) h2 h3 hown.2))
theorem sappAll_Type {ops:Array Oper} {o:Oper} {a:Act} {K:Act→World→Prop} {Q:Exit→Act→World→Prop} {E:Prop} {w:World} (s x:Operand) (hgd:o.guard=none)
  (ho:o.op=.call { callee:=.builtin .append,args:=#[s,x],argTypes:=#[38,38] }) {base bd B:Nat} {v:Value} {xs ys:List GType} {fp:List Nat} {A:Option Addr} {m c:Nat} (hs:a.eval s=v)
  (hx:a.eval x=.slice A m c) (hr:RL bd 7 (flat GType.cells) w B (.slice A m c) ys) (hown:OF GType.cells 142 7 w base v xs fp) (hl:xs.length + ys.length≤33554432) (hbase:base≤w.heap.size)
  (h:∀ v' w',AppOF GType.cells 142 7 w base (xs ++ ys) fp v' w'→K (a.put o.dst v') w'):if Region.wanted o (yielded ops a.tmps)=true then Oper.wp Tryz.prog o a w K Q else E:=by
 have hw:Region.wanted o (yielded ops a.tmps)=true:=by simp [Region.wanted,hgd]
 rw [if_pos hw]
 exact wapp_Type s x ho hs hx hr hown hl hbase h
theorem sapp_Type {ops:Array Oper} {o:Oper} {a:Act} {K:Act→World→Prop} {Q:Exit→Act→World→Prop} {E:Prop} {w:World} (s x:Operand) (hgd:o.guard=none)
  (ho:o.op=.call { callee:=.builtin .append,args:=#[s,x],argTypes:=#[38,38] }) {base:Nat} {v:Value} {xs:List GType} {fp:List Nat} (y:GType) {news:Array Value} {N:Nat} (hs:a.eval s=v)
  (hx:a.eval x=.slice (some ⟨N,0,none⟩) 1 1) (hN:w.heap[N]? = some (.cells news 142 (0,0))) (hy:news=(GType.cells y).toArray) (hown:OF GType.cells 142 7 w base v xs fp) (hl:xs.length < 16777216) (hbase:base≤w.heap.size)
  (h:∀ v' w',AppOF GType.cells 142 7 w base (xs ++ [y]) fp v' w'→K (a.put o.dst v') w'):if Region.wanted o (yielded ops a.tmps)=true then Oper.wp Tryz.prog o a w K Q else E :=
 sappAll_Type s x hgd ho hs hx (RL_one1 hN hy rfl (Nat.lt_succ_self N)) hown (by simp;omega) hbase h
theorem wapp_Item {o:Oper} {a:Act} {K:Act→World→Prop} {Q:Exit→Act→World→Prop} {w:World} (s x:Operand)
  (ho:o.op=.call { callee:=.builtin .append,args:=#[s,x],argTypes:=#[39,39] }) {base bd B:Nat} {v:Value} {xs ys:List Item} {fp:List Nat} {A:Option Addr} {m c:Nat} (hs:a.eval s=v)
  (hx:a.eval x=.slice A m c) (hr:RL bd 7 (flat Item.cells) w B (.slice A m c) ys) (hown:OF Item.cells 152 7 w base v xs fp) (hl:xs.length + ys.length≤33554432) (hbase:base≤w.heap.size)
  (h:∀ v' w',AppOF Item.cells 152 7 w base (xs ++ ys) fp v' w'→K (a.put o.dst v') w'):o.wp Tryz.prog a w K Q:=by
 obtain ⟨i0,hi,hz0,hz1,hz2⟩:=info_parts info_Item
 have hm:=hr.len_cap.1
 exact wp_appAll w s x 39 ho base 152 i0 _ 7 56 Tryz.underlying39 hi hz0 hz1 hz2 rfl (by omega) v _ _ hs hown.1 bd B Item.cells A m c ys hx hr hm (fun _=>rfl) one_Item (by unfold maxLen;omega) (by omega) hbase
  (fun v' w' h1 h2 h3=>h v' w' (OF.app_of_row (by rw [List.flatMap_append];exact h1) (by rw [List.length_append,hm]) h2 h3 hown.2))
theorem pappAll_Item {ops:Array Oper} {rest:List Oper} {o:Oper} {a:Act} {Q:Exit→Act→World→Prop} {w:World} (s x:Operand) (hgd:o.guard=none)
  (ho:o.op=.call { callee:=.builtin .append,args:=#[s,x],argTypes:=#[39,39] }) {base bd B:Nat} {v:Value} {xs ys:List Item} {fp:List Nat} {A:Option Addr} {m c:Nat} (hs:a.eval s=v)
  (hx:a.eval x=.slice A m c) (hr:RL bd 7 (flat Item.cells) w B (.slice A m c) ys) (hown:OF Item.cells 152 7 w base v xs fp) (hl:xs.length + ys.length≤33554432) (hbase:base≤w.heap.size)
  (h:∀ v' w',AppOF Item.cells 152 7 w base (xs ++ ys) fp v' w'→wpList Tryz.prog ops Q rest (a.put o.dst v') w'):wpList Tryz.prog ops Q (o::rest) a w :=
 wpList_plain hgd fun _ hK=>wapp_Item s x ho hs hx hr hown hl hbase fun v' w' ha=>hK _ _ (h v' w' ha)
theorem sappAll_Item {ops:Array Oper} {o:Oper} {a:Act} {K:Act→World→Prop} {Q:Exit→Act→World→Prop} {E:Prop} {w:World} (s x:Operand) (hgd:o.guard=none)
  (ho:o.op=.call { callee:=.builtin .append,args:=#[s,x],argTypes:=#[39,39] }) {base bd B:Nat} {v:Value} {xs ys:List Item} {fp:List Nat} {A:Option Addr} {m c:Nat} (hs:a.eval s=v)
  (hx:a.eval x=.slice A m c) (hr:RL bd 7 (flat Item.cells) w B (.slice A m c) ys) (hown:OF Item.cells 152 7 w base v xs fp) (hl:xs.length + ys.length≤33554432) (hbase:base≤w.heap.size)
  (h:∀ v' w',AppOF Item.cells 152 7 w base (xs ++ ys) fp v' w'→K (a.put o.dst v') w'):if Region.wanted o (yielded ops a.tmps)=true then Oper.wp Tryz.prog o a w K Q else E:=by
 have hw:Region.wanted o (yielded ops a.tmps)=true:=by simp [Region.wanted,hgd]
 rw [if_pos hw]
 exact wapp_Item s x ho hs hx hr hown hl hbase h
theorem papp_Item {ops:Array Oper} {rest:List Oper} {o:Oper} {a:Act} {Q:Exit→Act→World→Prop} {w:World} (s x:Operand) (hgd:o.guard=none)
  (ho:o.op=.call { callee:=.builtin .append,args:=#[s,x],argTypes:=#[39,39] }) {base:Nat} {v:Value} {xs:List Item} {fp:List Nat} (y:Item) {news:Array Value} {N:Nat} (hs:a.eval s=v)
  (hx:a.eval x=.slice (some ⟨N,0,none⟩) 1 1) (hN:w.heap[N]? = some (.cells news 152 (0,0))) (hy:news=(Item.cells y).toArray) (hown:OF Item.cells 152 7 w base v xs fp) (hl:xs.length < 16777216) (hbase:base≤w.heap.size)
  (h:∀ v' w',AppOF Item.cells 152 7 w base (xs ++ [y]) fp v' w'→wpList Tryz.prog ops Q rest (a.put o.dst v') w'):wpList Tryz.prog ops Q (o::rest) a w :=
 pappAll_Item s x hgd ho hs hx (RL_one1 hN hy rfl (Nat.lt_succ_self N)) hown (by simp;omega) hbase h
theorem sapp_Item {ops:Array Oper} {o:Oper} {a:Act} {K:Act→World→Prop} {Q:Exit→Act→World→Prop} {E:Prop} {w:World} (s x:Operand) (hgd:o.guard=none)
  (ho:o.op=.call { callee:=.builtin .append,args:=#[s,x],argTypes:=#[39,39] }) {base:Nat} {v:Value} {xs:List Item} {fp:List Nat} (y:Item) {news:Array Value} {N:Nat} (hs:a.eval s=v)
  (hx:a.eval x=.slice (some ⟨N,0,none⟩) 1 1) (hN:w.heap[N]? = some (.cells news 152 (0,0))) (hy:news=(Item.cells y).toArray) (hown:OF Item.cells 152 7 w base v xs fp) (hl:xs.length < 16777216) (hbase:base≤w.heap.size)
  (h:∀ v' w',AppOF Item.cells 152 7 w base (xs ++ [y]) fp v' w'→K (a.put o.dst v') w'):if Region.wanted o (yielded ops a.tmps)=true then Oper.wp Tryz.prog o a w K Q else E :=
 sappAll_Item s x hgd ho hs hx (RL_one1 hN hy rfl (Nat.lt_succ_self N)) hown (by simp;omega) hbase h
theorem wapp_Box {o:Oper} {a:Act} {K:Act→World→Prop} {Q:Exit→Act→World→Prop} {w:World} (s x:Operand)
  (ho:o.op=.call { callee:=.builtin .append,args:=#[s,x],argTypes:=#[124,124] }) {base bd B:Nat} {v:Value} {xs ys:List Box} {fp:List Nat} {A:Option Addr} {m c:Nat} (hs:a.eval s=v)
  (hx:a.eval x=.slice A m c) (hr:RL bd 4 (flat Box.cells) w B (.slice A m c) ys) (hown:OF Box.cells 75 4 w base v xs fp) (hl:xs.length + ys.length≤33554432) (hbase:base≤w.heap.size)
  (h:∀ v' w',AppOF Box.cells 75 4 w base (xs ++ ys) fp v' w'→K (a.put o.dst v') w'):o.wp Tryz.prog a w K Q:=by
 obtain ⟨i0,hi,hz0,hz1,hz2⟩:=info_parts info_Box
 have hm:=hr.len_cap.1
 exact wp_appAll w s x 124 ho base 75 i0 _ 4 32 Tryz.underlying124 hi hz0 hz1 hz2 rfl (by omega) v _ _ hs hown.1 bd B Box.cells A m c ys hx hr hm (fun _=>rfl) one_Box (by unfold maxLen;omega) (by omega) hbase
  (fun v' w' h1 h2 h3=>h v' w' (OF.app_of_row (by rw [List.flatMap_append];exact h1) (by rw [List.length_append,hm]) h2 h3 hown.2))
theorem pappAll_Box {ops:Array Oper} {rest:List Oper} {o:Oper} {a:Act} {Q:Exit→Act→World→Prop} {w:World} (s x:Operand) (hgd:o.guard=none)
  (ho:o.op=.call { callee:=.builtin .append,args:=#[s,x],argTypes:=#[124,124] }) {base bd B:Nat} {v:Value} {xs ys:List Box} {fp:List Nat} {A:Option Addr} {m c:Nat} (hs:a.eval s=v)
  (hx:a.eval x=.slice A m c) (hr:RL bd 4 (flat Box.cells) w B (.slice A m c) ys) (hown:OF Box.cells 75 4 w base v xs fp) (hl:xs.length + ys.length≤33554432) (hbase:base≤w.heap.size)
  (h:∀ v' w',AppOF Box.cells 75 4 w base (xs ++ ys) fp v' w'→wpList Tryz.prog ops Q rest (a.put o.dst v') w'):wpList Tryz.prog ops Q (o::rest) a w :=
 wpList_plain hgd fun _ hK=>wapp_Box s x ho hs hx hr hown hl hbase fun v' w' ha=>hK _ _ (h v' w' ha)
theorem sappAll_Box {ops:Array Oper} {o:Oper} {a:Act} {K:Act→World→Prop} {Q:Exit→Act→World→Prop} {E:Prop} {w:World} (s x:Operand) (hgd:o.guard=none)
  (ho:o.op=.call { callee:=.builtin .append,args:=#[s,x],argTypes:=#[124,124] }) {base bd B:Nat} {v:Value} {xs ys:List Box} {fp:List Nat} {A:Option Addr} {m c:Nat} (hs:a.eval s=v)
  (hx:a.eval x=.slice A m c) (hr:RL bd 4 (flat Box.cells) w B (.slice A m c) ys) (hown:OF Box.cells 75 4 w base v xs fp) (hl:xs.length + ys.length≤33554432) (hbase:base≤w.heap.size)
  (h:∀ v' w',AppOF Box.cells 75 4 w base (xs ++ ys) fp v' w'→K (a.put o.dst v') w'):if Region.wanted o (yielded ops a.tmps)=true then Oper.wp Tryz.prog o a w K Q else E:=by
 have hw:Region.wanted o (yielded ops a.tmps)=true:=by simp [Region.wanted,hgd]
 rw [if_pos hw]
 exact wapp_Box s x ho hs hx hr hown hl hbase h
theorem papp_Box {ops:Array Oper} {rest:List Oper} {o:Oper} {a:Act} {Q:Exit→Act→World→Prop} {w:World} (s x:Operand) (hgd:o.guard=none)
  (ho:o.op=.call { callee:=.builtin .append,args:=#[s,x],argTypes:=#[124,124] }) {base:Nat} {v:Value} {xs:List Box} {fp:List Nat} (y:Box) {news:Array Value} {N:Nat} (hs:a.eval s=v)
  (hx:a.eval x=.slice (some ⟨N,0,none⟩) 1 1) (hN:w.heap[N]? = some (.cells news 75 (0,0))) (hy:news=(Box.cells y).toArray) (hown:OF Box.cells 75 4 w base v xs fp) (hl:xs.length < 16777216) (hbase:base≤w.heap.size)
  (h:∀ v' w',AppOF Box.cells 75 4 w base (xs ++ [y]) fp v' w'→wpList Tryz.prog ops Q rest (a.put o.dst v') w'):wpList Tryz.prog ops Q (o::rest) a w :=
 pappAll_Box s x hgd ho hs hx (RL_one1 hN hy rfl (Nat.lt_succ_self N)) hown (by simp;omega) hbase h
theorem sapp_Box {ops:Array Oper} {o:Oper} {a:Act} {K:Act→World→Prop} {Q:Exit→Act→World→Prop} {E:Prop} {w:World} (s x:Operand) (hgd:o.guard=none)
  (ho:o.op=.call { callee:=.builtin .append,args:=#[s,x],argTypes:=#[124,124] }) {base:Nat} {v:Value} {xs:List Box} {fp:List Nat} (y:Box) {news:Array Value} {N:Nat} (hs:a.eval s=v)
  (hx:a.eval x=.slice (some ⟨N,0,none⟩) 1 1) (hN:w.heap[N]? = some (.cells news 75 (0,0))) (hy:news=(Box.cells y).toArray) (hown:OF Box.cells 75 4 w base v xs fp) (hl:xs.length < 16777216) (hbase:base≤w.heap.size)
  (h:∀ v' w',AppOF Box.cells 75 4 w base (xs ++ [y]) fp v' w'→K (a.put o.dst v') w'):if Region.wanted o (yielded ops a.tmps)=true then Oper.wp Tryz.prog o a w K Q else E :=
 sappAll_Box s x hgd ho hs hx (RL_one1 hN hy rfl (Nat.lt_succ_self N)) hown (by simp;omega) hbase h
end Go.Proofs.YtioijfplbgpjpaaGreat
namespace Go.Proofs.YtioijfplbgpjpaaGreat
set_option linter.unusedVariables false
set_option linter.unusedSimpArgs false
set_option maxRecDepth 100000
open Go.RowKit
def spot0:Spot:=⟨0,0,0,0⟩
theorem made_spots (n:Nat):(madeCells #[.int .i64 0,.int .i64 0,.int .i64 0,.int .i64 0] (n * 4)).toList=(List.replicate n spot0).flatMap Spot.cells:=by
 have h1:(madeCells #[.int .i64 0,.int .i64 0,.int .i64 0,.int .i64 0] (n * 4)).toList=List.replicate (n * 4) (Value.int .i64 0):=by
  refine List.eq_replicate_iff.2 ⟨by simp [madeCells],fun b hb=>?_⟩
  simp only [madeCells,Array.toList_map,List.mem_map] at hb
  obtain ⟨i,_,rfl⟩:=hb
  have h4:i % 4 < 4:=Nat.mod_lt _ (by omega)
  show (#[Value.int .i64 0,.int .i64 0,.int .i64 0,.int .i64 0]:Array Value)[i % 4]! = _
  match i % 4,h4 with
  |0,_=>rfl
  |1,_=>rfl
  |2,_=>rfl
  |3,_=>rfl
 rw [h1]
 symm
 refine List.eq_replicate_iff.2 ⟨by rw [flatMap_len (K:=4) (fun _=>rfl),List.length_replicate],fun b hb=>?_⟩
 obtain ⟨x,hx,hb⟩:=List.mem_flatMap.1 hb
 rw [(List.mem_replicate.1 hx).2] at hb
 simp [Spot.cells,spot0] at hb
 exact hb
theorem mk_Spot {ops:Array Oper} {rest:List Oper} {o:Oper} {a:Act} {Q:Exit→Act→World→Prop} {w:World} (l c:Operand) (hgd:o.guard=none) (ho:o.op=Op.makeSlice 44 l c) (n:Nat) (hl:a.eval l=.int .i64 (n:Int)) (hc:a.eval c=.int .i64 (n:Int)) (hn:n≤1048576) {base:Nat} (hbase:base≤w.heap.size)
  (h:∀ v' w',AppOF Spot.cells 72 4 w base (List.replicate n spot0) [] v' w'→wpList Tryz.prog ops Q rest (a.put o.dst v') w'):wpList Tryz.prog ops Q (o::rest) a w:=by
 obtain ⟨i0,hi,hz0,hz1,hz2⟩:=info_parts info_Spot
 refine wpList_plain hgd fun K hK=>?_
 obtain ⟨w',hrun,h1,h2⟩:=run_makeSlice_full (P:=Tryz.prog) w base 44 72 i0 _ 4 Tryz.underlying44 hi hz0 hz1 .i64 .i64 n (by omega) (by rw [hz2];omega) (by unfold maxLen;omega) hbase
 unfold Oper.wp
 simp [execOp,ho,hl,hc,hrun,Result.andThen]
 refine hK _ _ (h _ _ (OF.app_of_row (v:=.slice none 0 0) (n:=n) ?_ (by simp) h2 (.inr rfl) rfl))
 rw [← made_spots]
 exact h1
end Go.Proofs.YtioijfplbgpjpaaGreat
namespace Go.Proofs.YtioijfplbgpjpaaGreat
set_option linter.unusedVariables false
set_option linter.unusedSimpArgs false
set_option maxRecDepth 100000
open Go.RowKit
section
variable {w W W':World} {l l':List Fact}
theorem Sit.join (h:Sit w W l) (h':Sit W W' l'):Sit w W' (l' ++ l):=by
 have hn:=h.next h'.low
 refine ⟨hn.low,fun q hq=>?_,fun q hq=>?_,fun q hq b hb=>?_,List.pairwise_append.2 ⟨h'.apart,h.apart,fun q hq r hr b hb hb'=>?_⟩⟩
 ·rcases List.mem_append.1 hq with hq | hq
  ·exact h'.ok q hq
  ·exact h.ok q hq
 ·rcases List.mem_append.1 hq with hq | hq
  ·exact h'.on q hq
  ·exact hn.on q hq
 ·rcases List.mem_append.1 hq with hq | hq
  ·exact ⟨Nat.le_trans h.low.size (h'.lt q hq b hb).1,(h'.lt q hq b hb).2⟩
  ·exact hn.lt q hq b hb
 ·have:=(h'.lt q hq b hb).1;have:=(h.lt r hr b hb').2;omega
theorem Sit.take {l1:List Fact} (h:Sit w W (l1 ++ l)):Sit w W l1 :=
 ⟨h.low,fun q hq=>h.ok q (List.mem_append.2 (.inl hq)),fun q hq=>h.on q (List.mem_append.2 (.inl hq)),fun q hq=>h.lt q (List.mem_append.2 (.inl hq)),(List.pairwise_append.1 h.apart).1⟩
theorem Sit.back {W0:World} (h0:Below w.heap.size w W0) (h:Sit W0 W l):Sit w W l :=
 ⟨bstep h0 h.low,h.ok,h.on,fun q hq b hb=>⟨Nat.le_trans h0.size (h.lt q hq b hb).1,(h.lt q hq b hb).2⟩,h.apart⟩
end
section
variable {α:Type} {f:α→List Value} {e K base:Nat} {w w':World} {v:Value} {xs:List α} {fp:List Nat} {g n c k:Nat} {x:α}
theorem OF.cells (h:OF f e K w base (.slice (some ⟨g,0,none⟩) n c) xs fp) (hK:∀ x,(f x).length=K) (hx:xs[k]? = some x) (j:Nat) (u:Value) (hu:(f x)[j]? = some u):w.cell? ⟨g,k * K + j,none⟩=some u:=by
 have hj:=(List.getElem?_eq_some_iff.1 hu).1
 rw [hK] at hj
 have hk:=(List.getElem?_eq_some_iff.1 hx).1
 have hn:n=xs.length:=by obtain ⟨A,c',hv,_⟩:=h.form;injection hv
 subst hn
 have h1:k * K + j < xs.length * K:=by
  have:(k + 1) * K≤xs.length * K:=Nat.mul_le_mul_right _ hk
  rw [Nat.add_mul] at this
  omega
 rw [h.1.cellAt _ h1,flatMap_get hK hj xs k x hx,hu]
theorem OF.free (h:OF f e K w base (.slice (some ⟨g,0,none⟩) n c) xs fp) (o:Nat):w.frozen? ⟨g,o,none⟩=false:=by
 have hn:n=xs.length:=by obtain ⟨A,c',hv,_⟩:=h.form;injection hv
 subst hn
 exact h.1.frozenAt o
theorem OF.some (h:OF f e K w base v xs fp) (hx:xs[k]? = Option.some x):∃ g c,v=.slice (Option.some ⟨g,0,none⟩) xs.length c∧fp=[g]∧k < xs.length:=by
 have hk:=(List.getElem?_eq_some_iff.1 hx).1
 obtain ⟨g,c,h1,h2⟩:=h.block (by omega)
 exact ⟨g,c,h1,h2,hk⟩
theorem OF.size (h:OF f e K w base (.slice (Option.some ⟨g,0,none⟩) n c) xs fp):n=xs.length∧g∈fp∧base≤g∧g < w.heap.size:=by
 have hn:n=xs.length:=by obtain ⟨A,c',hv,_⟩:=h.form;injection hv
 have hg:g∈fp:=by rw [h.2];simp [Value.ownBlock]
 exact ⟨hn,hg,h.lt g hg⟩
end
def Inn {α:Type} (inn:α→List Int) (W:World) (base:Nat):List (α×Value)→List Nat→Prop
 |[],fp=>fp=[]
 |z::zs,fp=>∃ f g,fp=f ++ g∧OF cI 3 1 W base z.2 (inn z.1) f∧(∀ b∈f,b∈g→False)∧Inn inn W base zs g
section
variable {α:Type} {inn:α→List Int} {w W W':World} {base B:Nat} {zs zs':List (α×Value)} {fp fp':List Nat} {l:List Fact} {k:Nat} {z:α×Value} {a:α} {v:Value} {ys:List Int}
theorem Inn.lt:∀ {zs:List (α×Value)} {fp:List Nat},Inn inn W base zs fp→∀ b∈fp,base≤b∧b < W.heap.size
 |[],_,h=>by subst h;simp
 |z::zs,_,⟨f,g,rfl,ho,_,hi⟩=>fun b hb=>by
  rcases List.mem_append.1 hb with hb | hb
  ·exact ho.lt b hb
  ·exact Inn.lt hi b hb
theorem Inn.keep:∀ {zs:List (α×Value)} {fp:List Nat},Inn inn W base zs fp→(∀ b∈fp,W'.heap[b]? = W.heap[b]?)→Inn inn W' base zs fp
 |[],_,h,_=>h
 |z::zs,_,⟨f,g,rfl,ho,hd,hi⟩,hk=>⟨f,g,rfl,ho.keep (fun b hb=>hk b (by simp [hb])),hd,Inn.keep hi (fun b hb=>hk b (by simp [hb]))⟩
theorem Inn.lower:∀ {zs:List (α×Value)} {fp:List Nat},Inn inn W B zs fp→base≤B→Inn inn W base zs fp
 |[],_,h,_=>h
 |z::zs,_,⟨f,g,rfl,ho,hd,hi⟩,hB=>⟨f,g,rfl,ho.base hB,hd,Inn.lower hi hB⟩
theorem Inn.app:∀ {zs:List (α×Value)} {fp:List Nat},Inn inn W base zs fp→Inn inn W base zs' fp'→(∀ b∈fp,b∈fp'→False)→Inn inn W base (zs ++ zs') (fp ++ fp')
 |[],_,h,h',_=>by subst h;simpa using h'
 |z::zs,_,⟨f,g,rfl,ho,hd,hi⟩,h',hn=>⟨f,g ++ fp',by simp,ho,fun b hb hb'=>by
   rcases List.mem_append.1 hb' with hb' | hb'
   ·exact hd b hb hb'
   ·exact hn b (by simp [hb]) hb',Inn.app hi h' (fun b hb hb'=>hn b (by simp [hb]) hb')⟩
theorem Inn.one (h:OF cI 3 1 W base v (inn a) fp):Inn inn W base [(a,v)] fp:=⟨fp,[],by simp,h,by simp,rfl⟩
theorem Inn.at:∀ {zs:List (α×Value)} {fp:List Nat} {k:Nat},Inn inn W base zs fp→zs[k]? = some z→∃ f1 f f2,fp=f1 ++ (f ++ f2)∧Inn inn W base (zs.take k) f1∧OF cI 3 1 W base z.2 (inn z.1) f∧Inn inn W base (zs.drop (k + 1)) f2∧(∀ b∈f1,b∈f→False)∧(∀ b∈f1,b∈f2→False)∧(∀ b∈f,b∈f2→False)
 |[],_,_,_,hz=>by simp at hz
 |y::zs,_,0,⟨f,g,rfl,ho,hd,hi⟩,hz=>by
  simp at hz
  subst hz
  exact ⟨[],f,g,rfl,rfl,ho,by simpa using hi,by simp,by simp,hd⟩
 |y::zs,_,k + 1,⟨f,g,rfl,ho,hd,hi⟩,hz=>by
  obtain ⟨f1,f0,f2,rfl,h1,h2,h3,d1,d2,d3⟩:=Inn.at hi (show zs[k]? = some z by simpa using hz)
  refine ⟨f ++ f1,f0,f2,by simp,⟨f,f1,rfl,ho,fun b hb hb'=>hd b hb (by simp [hb']),by simpa using h1⟩,h2,by simpa using h3,?_,?_,d3⟩
  ·intro b hb hb'
   rcases List.mem_append.1 hb with hb | hb
   ·exact hd b hb (by simp [hb'])
   ·exact d1 b hb hb'
  ·intro b hb hb'
   rcases List.mem_append.1 hb with hb | hb
   ·exact hd b hb (by simp [hb'])
   ·exact d2 b hb hb'
theorem Inn.read (h:Inn inn W base zs fp) (hz:zs[k]? = some z):∃ f,OF cI 3 1 W base z.2 (inn z.1) f:=by
 obtain ⟨_,f,_,_,_,h,_⟩:=Inn.at h hz
 exact ⟨f,h⟩
abbrev fInn (inn:α→List Int) (base:Nat) (zs:List (α×Value)) (fp:List Nat):Fact:=⟨fun W=>Inn inn W base zs fp,fp⟩
theorem fInn_ok (inn:α→List Int) (base:Nat) (zs:List (α×Value)) (fp:List Nat):(fInn inn base zs fp).ok:=fun _ _ h _ hk=>h.keep hk
theorem Sit.inns (h:Sit w W l) (hm:fInn inn base zs fp∈l):Inn inn W base zs fp:=h.on _ hm
theorem Sit.addInn (h:Sit w W l) (base:Nat):Sit w W (fInn inn base [] []::l) :=
 h.add (Below.refl _ _) _ (fInn_ok _ _ _ _) rfl (by simp)
theorem Sit.innOut (h:Sit w W (fInn inn base zs fp::l)) (hz:zs[k]? = some z):∃ f f1 f2,Sit w W (fOF cI 3 1 base z.2 (inn z.1) f::fInn inn base (zs.take k) f1::fInn inn base (zs.drop (k + 1)) f2::l):=by
 obtain ⟨f1,f,f2,rfl,h1,h2,h3,d1,d2,d3⟩:=Inn.at (h.inns (.head _)) hz
 refine ⟨f,f1,f2,Sit.step (l1:=[fInn inn base zs (f1 ++ (f ++ f2))]) (fp:=[]) h (Tch.refl _ _) (by simp) [_,_,_] ?_ ?_ ?_ ?_⟩
 ·intro p hp b hb
  refine .inl ⟨_,.head _,?_⟩
  simp only [List.mem_cons,List.not_mem_nil,or_false] at hp
  rcases hp with rfl | rfl | rfl <;> simp at hb ⊢ <;> simp [hb]
 ·intro p hp
  simp only [List.mem_cons,List.not_mem_nil,or_false] at hp
  rcases hp with rfl | rfl | rfl
  ·exact fOF_ok _ _ _ _ _ _ _
  ·exact fInn_ok _ _ _ _
  ·exact fInn_ok _ _ _ _
 ·intro p hp
  simp only [List.mem_cons,List.not_mem_nil,or_false] at hp
  rcases hp with rfl | rfl | rfl
  ·exact h2
  ·exact h1
  ·exact h3
 ·simp only [List.pairwise_cons,List.mem_cons,List.not_mem_nil,or_false,forall_eq_or_imp,forall_eq,List.Pairwise.nil,and_true,false_implies,implies_true]
  exact ⟨⟨fun b hb hb'=>d1 b hb' hb,d3⟩,d2⟩
theorem Sit.innIn {f f1 f2:List Nat} (h:Sit w W (fOF cI 3 1 base v ys f::fInn inn base (zs.take k) f1::fInn inn base (zs.drop (k + 1)) f2::l)) (hk:k < zs.length) (ha:inn a=ys):∃ fp,Sit w W (fInn inn base (zs.set k (a,v)) fp::l):=by
 subst ha
 have h1:=h.list (.head _)
 have h2:=h.inns (.tail _ (.head _))
 have h3:=h.inns (.tail _ (.tail _ (.head _)))
 have ha:=h.apart
 simp only [List.pairwise_cons,List.mem_cons,forall_eq_or_imp] at ha
 refine ⟨f1 ++ (f ++ f2),Sit.step (l1:=[_,_,_]) (fp:=[]) h (Tch.refl _ _) (by simp) [fInn inn base (zs.set k (a,v)) (f1 ++ (f ++ f2))] ?_ ?_ ?_ (by simp)⟩
 ·intro p hp b hb
  simp only [List.mem_cons,List.not_mem_nil,or_false] at hp
  subst hp
  simp only [List.mem_append] at hb
  rcases hb with hb | hb | hb
  ·exact .inl ⟨_,.tail _ (.head _),hb⟩
  ·exact .inl ⟨_,.head _,hb⟩
  ·exact .inl ⟨_,.tail _ (.tail _ (.head _)),hb⟩
 ·intro p hp
  simp only [List.mem_cons,List.not_mem_nil,or_false] at hp
  subst hp
  exact fInn_ok _ _ _ _
 ·intro p hp
  simp only [List.mem_cons,List.not_mem_nil,or_false] at hp
  subst hp
  show Inn inn W base (zs.set k (a,v)) (f1 ++ (f ++ f2))
  rw [List.set_eq_take_append_cons_drop,if_pos hk]
  exact Inn.app h2 (Inn.app (Inn.one h1) h3 (fun b hb hb'=>ha.1.2.1 b hb hb')) (fun b hb hb'=>by
   rcases List.mem_append.1 hb' with hb' | hb'
   ·exact ha.1.1 b hb' hb
   ·exact ha.2.1.1 b hb hb')
theorem Sit.innAdd {f:List Nat} (h:Sit w W (fOF cI 3 1 base v ys f::fInn inn base zs fp::l)) (ha:inn a=ys):∃ fp,Sit w W (fInn inn base (zs ++ [(a,v)]) fp::l):=by
 subst ha
 have h1:=h.list (.head _)
 have h2:=h.inns (.tail _ (.head _))
 have ha:=h.apart
 simp only [List.pairwise_cons,List.mem_cons,forall_eq_or_imp] at ha
 refine ⟨fp ++ f,Sit.step (l1:=[_,_]) (fp:=[]) h (Tch.refl _ _) (by simp) [fInn inn base (zs ++ [(a,v)]) (fp ++ f)] ?_ ?_ ?_ (by simp)⟩
 ·intro p hp b hb
  simp only [List.mem_cons,List.not_mem_nil,or_false] at hp
  subst hp
  simp only [List.mem_append] at hb
  rcases hb with hb | hb
  ·exact .inl ⟨_,.tail _ (.head _),hb⟩
  ·exact .inl ⟨_,.head _,hb⟩
 ·intro p hp
  simp only [List.mem_cons,List.not_mem_nil,or_false] at hp
  subst hp
  exact fInn_ok _ _ _ _
 ·intro p hp
  simp only [List.mem_cons,List.not_mem_nil,or_false] at hp
  subst hp
  exact Inn.app h2 (Inn.one h1) (fun b hb hb'=>ha.1.1 b hb' hb)
end
end Go.Proofs.YtioijfplbgpjpaaGreat
namespace Go.Proofs.YtioijfplbgpjpaaGreat
set_option linter.unusedVariables false
set_option linter.unusedSimpArgs false
set_option maxRecDepth 100000
open Go.RowKit
def sv:Value→Value
 |.slice A n c=>.slice A n c
 |_=>.slice none 0 0
theorem sv_one (v:Value):(sv v).oneCell'=true:=by cases v <;> rfl
theorem sv_of {α:Type} {f:α→List Value} {e K base:Nat} {w:World} {v:Value} {xs:List α} {fp:List Nat} (h:OF f e K w base v xs fp):sv v=v:=by
 obtain ⟨A,c,rfl,_⟩:=h.form
 rfl
def hdInts (_:List Int) (u:Value):List Value:=[u]
def hdCarton (x:Carton) (u:Value):List Value:=[.int .i64 x.type,.int .i64 x.group,u]
def hdShelf (x:Shelf) (u:Value):List Value:=[u,.int .i64 x.w,.int .i64 x.d,.int .i64 x.h,.int .i64 x.gram]
def hdLayer (x:Layer) (u:Value):List Value:=[u,.int .i64 x.d,.int .i64 x.h,.int .i64 x.gram]
def hdLoad (x:GLoad) (u:Value):List Value:=[u,.int .i64 x.h,.int .i64 x.gram]
section
variable {α:Type} {hd:α→Value→List Value} {inn:α→List Int}
def fz (hd:α→Value→List Value) (z:α×Value):List Value:=hd z.1 (sv z.2)
def RNest (hd:α→Value→List Value) (inn:α→List Int) (w:World) (B:Nat) (cs:List Value) (x:α):Prop:=∃ u,cs=hd x u∧RInts 16777216 w B u (inn x)
theorem RNest_mono (hd:α→Value→List Value) (inn:α→List Int):RMono (RNest hd inn):=fun _ _ _ _ _ _ hk hB ⟨v,h1,h2⟩=>⟨v,h1,h2.keep (flat_mono _) hk hB⟩
def MNest (hd:α→Value→List Value) (e K:Nat) (inn:α→List Int) (w:World) (xs:List α) (ed:Ending) (w':World):Prop :=
 ∃ v zs f1 f2,ed=.returned v∧zs.map (·.1)=xs∧Sit w w' [fOF (fz hd) e K w.heap.size v zs f1,fInn inn w.heap.size zs f2]
theorem nest_read {e K bs bs':Nat} {W:World} {v:Value} {zs:List (α×Value)} {f1 f2:List Nat} (h:OF (fz hd) e K W bs v zs f1) (hi:Inn inn W bs' zs f2) (hK:∀ x u,(hd x u).length=K) (hl:zs.length≤16777216) (hb:∀ z∈zs,(inn z.1).length≤16777216) :
  RL 16777216 K (RNest hd inn) W W.heap.size v (zs.map (·.1)):=by
 obtain ⟨A,c,rfl,hc,hr⟩:=OF.read h (fun z=>hK _ _) hl
 refine ⟨A,c,by simp,by simpa using hc,fun hn=>?_⟩
 obtain ⟨b,off,rfl,hlt,hel⟩:=hr (by simpa using hn)
 refine ⟨b,off,rfl,hlt,fun i x hx=>?_⟩
 rw [List.getElem?_map] at hx
 cases hz:zs[i]? with
 |none=>rw [hz] at hx;simp at hx
 |some z =>
  rw [hz] at hx
  simp at hx
  subst hx
  obtain ⟨cs,h1,h2,h3⟩:=hel i z hz
  obtain ⟨f,ho⟩:=hi.read hz
  refine ⟨cs,h1,⟨z.2,?_,OInts.read ho (hb z (List.mem_of_getElem? hz))⟩,h3⟩
  rw [h2]
  show hd z.1 (sv z.2)=_
  rw [sv_of ho]
theorem map_fst_app {zs:List (α×Value)} {xs:List α} {x:α} {u:Value} (h:zs.map (·.1)=xs):(zs ++ [(x,u)]).map (·.1)=xs ++ [x]:=by simp [h]
theorem map_fst_set {zs:List (α×Value)} {xs:List α} {x:α} {u:Value} {k:Nat} (h:zs.map (·.1)=xs):(zs.set k (x,u)).map (·.1)=xs.set k x:=by rw [List.map_set,h]
theorem map_fst_len {zs:List (α×Value)} {xs:List α} (h:zs.map (·.1)=xs):zs.length=xs.length:=by rw [← h,List.length_map]
end
theorem one_hInts (z:List Int×Value):∀ u∈fz hdInts z,u.oneCell'=true:=fun u hu=>by simp [fz,hdInts] at hu;subst hu;exact sv_one _
theorem one_hCarton (z:Carton×Value):∀ u∈fz hdCarton z,u.oneCell'=true:=fun u hu=>by simp [fz,hdCarton] at hu;rcases hu with rfl | rfl | rfl;rfl;rfl;exact sv_one _
theorem one_hShelf (z:Shelf×Value):∀ u∈fz hdShelf z,u.oneCell'=true:=fun u hu=>by simp [fz,hdShelf] at hu;rcases hu with rfl | rfl | rfl | rfl | rfl;exact sv_one _;all_goals rfl
theorem one_hLayer (z:Layer×Value):∀ u∈fz hdLayer z,u.oneCell'=true:=fun u hu=>by simp [fz,hdLayer] at hu;rcases hu with rfl | rfl | rfl | rfl;exact sv_one _;all_goals rfl
theorem one_hLoad (z:GLoad×Value):∀ u∈fz hdLoad z,u.oneCell'=true:=fun u hu=>by simp [fz,hdLoad] at hu;rcases hu with rfl | rfl | rfl;exact sv_one _;all_goals rfl
theorem info_hInts:(Tryz.prog.info? 53).map (fun i=>(i.zero,i.size,i.bytes))=some (some (.slice none 0 0),1,24):=by kernel_rfl
theorem papp_hInts {ops:Array Oper} {rest:List Oper} {o:Oper} {a:Act} {Q:Exit→Act→World→Prop} {w:World} (s x:Operand) (hgd:o.guard=none)
  (ho:o.op=.call { callee:=.builtin .append,args:=#[s,x],argTypes:=#[158,158] }) {base:Nat} {v:Value} {zs:List (List Int×Value)} {fp:List Nat} (y:List Int×Value) {news:Array Value} {N:Nat} (hs:a.eval s=v)
  (hx:a.eval x=.slice (some ⟨N,0,none⟩) 1 1) (hN:w.heap[N]? = some (.cells news 53 (0,0))) (hy:news=(fz hdInts y).toArray) (hown:OF (fz hdInts) 53 1 w base v zs fp) (hl:zs.length < 16777216) (hbase:base≤w.heap.size)
  (h:∀ v' w',AppOF (fz hdInts) 53 1 w base (zs ++ [y]) fp v' w'→wpList Tryz.prog ops Q rest (a.put o.dst v') w'):wpList Tryz.prog ops Q (o::rest) a w:=by
 obtain ⟨i0,hi,hz0,hz1,hz2⟩:=info_parts info_hInts
 have hr:=RL_one1 (f:=fz hdInts) (K:=1) hN hy rfl (Nat.lt_succ_self N)
 refine wpList_plain hgd fun _ hK=>wp_appAll w s x 158 ho base 53 i0 _ 1 24 Tryz.underlying158 hi hz0 hz1 hz2 rfl (by omega) v _ _ hs hown.1 1 _ (fz hdInts) _ 1 1 [y] hx hr rfl (fun _=>rfl) one_hInts (by unfold maxLen;omega) (by omega) hbase
  (fun v' w' h1 h2 h3=>hK _ _ (h v' w' (OF.app_of_row (by rw [List.flatMap_append];exact h1) (by simp) h2 h3 hown.2)))
theorem info_hCarton:(Tryz.prog.info? 78).map (fun i=>(i.zero,i.size,i.bytes))=some (some (.agg #[.int .i64 0,.int .i64 0,.slice none 0 0]),3,40):=by kernel_rfl
theorem papp_hCarton {ops:Array Oper} {rest:List Oper} {o:Oper} {a:Act} {Q:Exit→Act→World→Prop} {w:World} (s x:Operand) (hgd:o.guard=none)
  (ho:o.op=.call { callee:=.builtin .append,args:=#[s,x],argTypes:=#[43,43] }) {base:Nat} {v:Value} {zs:List (Carton×Value)} {fp:List Nat} (y:Carton×Value) {news:Array Value} {N:Nat} (hs:a.eval s=v)
  (hx:a.eval x=.slice (some ⟨N,0,none⟩) 1 1) (hN:w.heap[N]? = some (.cells news 78 (0,0))) (hy:news=(fz hdCarton y).toArray) (hown:OF (fz hdCarton) 78 3 w base v zs fp) (hl:zs.length < 16777216) (hbase:base≤w.heap.size)
  (h:∀ v' w',AppOF (fz hdCarton) 78 3 w base (zs ++ [y]) fp v' w'→wpList Tryz.prog ops Q rest (a.put o.dst v') w'):wpList Tryz.prog ops Q (o::rest) a w:=by
 obtain ⟨i0,hi,hz0,hz1,hz2⟩:=info_parts info_hCarton
 have hr:=RL_one1 (f:=fz hdCarton) (K:=3) hN hy rfl (Nat.lt_succ_self N)
 refine wpList_plain hgd fun _ hK=>wp_appAll w s x 43 ho base 78 i0 _ 3 40 Tryz.underlying43 hi hz0 hz1 hz2 rfl (by omega) v _ _ hs hown.1 1 _ (fz hdCarton) _ 1 1 [y] hx hr rfl (fun _=>rfl) one_hCarton (by unfold maxLen;omega) (by omega) hbase
  (fun v' w' h1 h2 h3=>hK _ _ (h v' w' (OF.app_of_row (by rw [List.flatMap_append];exact h1) (by simp) h2 h3 hown.2)))
theorem info_hShelf:(Tryz.prog.info? 218).map (fun i=>(i.zero,i.size,i.bytes))=some (some (.agg #[.slice none 0 0,.int .i64 0,.int .i64 0,.int .i64 0,.int .i64 0]),5,56):=by kernel_rfl
theorem info_hLayer:(Tryz.prog.info? 216).map (fun i=>(i.zero,i.size,i.bytes))=some (some (.agg #[.slice none 0 0,.int .i64 0,.int .i64 0,.int .i64 0]),4,48):=by kernel_rfl
theorem papp_hLayer {ops:Array Oper} {rest:List Oper} {o:Oper} {a:Act} {Q:Exit→Act→World→Prop} {w:World} (s x:Operand) (hgd:o.guard=none)
  (ho:o.op=.call { callee:=.builtin .append,args:=#[s,x],argTypes:=#[209,209] }) {base:Nat} {v:Value} {zs:List (Layer×Value)} {fp:List Nat} (y:Layer×Value) {news:Array Value} {N:Nat} (hs:a.eval s=v)
  (hx:a.eval x=.slice (some ⟨N,0,none⟩) 1 1) (hN:w.heap[N]? = some (.cells news 216 (0,0))) (hy:news=(fz hdLayer y).toArray) (hown:OF (fz hdLayer) 216 4 w base v zs fp) (hl:zs.length < 16777216) (hbase:base≤w.heap.size)
  (h:∀ v' w',AppOF (fz hdLayer) 216 4 w base (zs ++ [y]) fp v' w'→wpList Tryz.prog ops Q rest (a.put o.dst v') w'):wpList Tryz.prog ops Q (o::rest) a w:=by
 obtain ⟨i0,hi,hz0,hz1,hz2⟩:=info_parts info_hLayer
 have hr:=RL_one1 (f:=fz hdLayer) (K:=4) hN hy rfl (Nat.lt_succ_self N)
 refine wpList_plain hgd fun _ hK=>wp_appAll w s x 209 ho base 216 i0 _ 4 48 Tryz.underlying209 hi hz0 hz1 hz2 rfl (by omega) v _ _ hs hown.1 1 _ (fz hdLayer) _ 1 1 [y] hx hr rfl (fun _=>rfl) one_hLayer (by unfold maxLen;omega) (by omega) hbase
  (fun v' w' h1 h2 h3=>hK _ _ (h v' w' (OF.app_of_row (by rw [List.flatMap_append];exact h1) (by simp) h2 h3 hown.2)))
theorem info_hLoad:(Tryz.prog.info? 214).map (fun i=>(i.zero,i.size,i.bytes))=some (some (.agg #[.slice none 0 0,.int .i64 0,.int .i64 0]),3,40):=by kernel_rfl
theorem papp_hLoad {ops:Array Oper} {rest:List Oper} {o:Oper} {a:Act} {Q:Exit→Act→World→Prop} {w:World} (s x:Operand) (hgd:o.guard=none)
  (ho:o.op=.call { callee:=.builtin .append,args:=#[s,x],argTypes:=#[211,211] }) {base:Nat} {v:Value} {zs:List (GLoad×Value)} {fp:List Nat} (y:GLoad×Value) {news:Array Value} {N:Nat} (hs:a.eval s=v)
  (hx:a.eval x=.slice (some ⟨N,0,none⟩) 1 1) (hN:w.heap[N]? = some (.cells news 214 (0,0))) (hy:news=(fz hdLoad y).toArray) (hown:OF (fz hdLoad) 214 3 w base v zs fp) (hl:zs.length < 16777216) (hbase:base≤w.heap.size)
  (h:∀ v' w',AppOF (fz hdLoad) 214 3 w base (zs ++ [y]) fp v' w'→wpList Tryz.prog ops Q rest (a.put o.dst v') w'):wpList Tryz.prog ops Q (o::rest) a w:=by
 obtain ⟨i0,hi,hz0,hz1,hz2⟩:=info_parts info_hLoad
 have hr:=RL_one1 (f:=fz hdLoad) (K:=3) hN hy rfl (Nat.lt_succ_self N)
 refine wpList_plain hgd fun _ hK=>wp_appAll w s x 211 ho base 214 i0 _ 3 40 Tryz.underlying211 hi hz0 hz1 hz2 rfl (by omega) v _ _ hs hown.1 1 _ (fz hdLoad) _ 1 1 [y] hx hr rfl (fun _=>rfl) one_hLoad (by unfold maxLen;omega) (by omega) hbase
  (fun v' w' h1 h2 h3=>hK _ _ (h v' w' (OF.app_of_row (by rw [List.flatMap_append];exact h1) (by simp) h2 h3 hown.2)))
end Go.Proofs.YtioijfplbgpjpaaGreat
namespace Go.Proofs.YtioijfplbgpjpaaGreat
set_option linter.unusedVariables false
set_option linter.unusedSimpArgs false
set_option maxRecDepth 100000
open Go.RowKit
section
variable {α:Type} {f:α→List Value} {e K:Nat} {w W W':World} {l:List Fact} {b:Nat} {v:Value} {xs:List α} {fp:List Nat}
theorem Sit.boxNil (h:Sit w W (fBox b #[] e::l)) (f:α→List Value) (K:Nat):Sit w W (fOF f e K w.heap.size (.slice (some ⟨b,0,none⟩) 0 0) [] [b]::l) :=
 h.grow (Tch.refl _ _) (fOF f e K w.heap.size (.slice (some ⟨b,0,none⟩) 0 0) [] [b]) (fun _ hb=>.inl hb) (fOF_ok _ _ _ _ _ _ _) ⟨own_empty (h.lt _ (.head _) b (by simp)).1 (h.on _ (.head _)),rfl⟩
theorem Sit.ints {v:Value} {xs:List Int} (h:Sit w W (fOF cI 3 1 w.heap.size v xs fp::l)):MInts w xs (.returned v) W:=⟨v,fp,rfl,h.list (.head _),h.low⟩
theorem Sit.nest {α:Type} {hd:α→Value→List Value} {inn:α→List Int} {zs:List (α×Value)} {xs:List α} {f1 f2:List Nat} (h:Sit w W (fOF (fz hd) e K w.heap.size v zs f1::fInn inn w.heap.size zs f2::l)) (hz:zs.map (·.1)=xs):MNest hd e K inn w xs (.returned v) W :=
 ⟨v,zs,f1,f2,rfl,hz,Sit.take (l1:=[_,_]) h⟩
end
theorem Sit.boxRow {α:Type} {f:α→List Value} {e K:Nat} {w W:World} {l:List Fact} {b:Nat} {cs:Array Value} (h:Sit w W (fBox b cs e::l)) (xs:List α) (hc:cs.toList=xs.flatMap f) (hK:∀ x,(f x).length=K) (hn:xs.length≤maxLen):Sit w W (fOF f e K w.heap.size (.slice (some ⟨b,0,none⟩) xs.length xs.length) xs [b]::l):=by
 have hl:(xs.flatMap f).length=xs.length * K:=flatMap_len hK xs
 refine h.grow (Tch.refl _ _) (fOF f e K w.heap.size (.slice (some ⟨b,0,none⟩) xs.length xs.length) xs [b]) (fun _ hb=>.inl hb) (fOF_ok _ _ _ _ _ _ _) ⟨⟨hl,.inr ⟨b,_,cs,rfl,(h.lt _ (.head _) b (by simp)).1,h.on _ (.head _),Nat.le_refl _,hn,?_,?_⟩⟩,rfl⟩
 ·rw [← Array.length_toList,hc,hl]
 ·rw [hc,← hl,List.take_length]
theorem getD_map_fst {α:Type} [Inhabited α] {zs:List (α×Value)} {k:Nat} {z:α×Value} (h:zs[k]? = some z):(zs.map (·.1)).getD k default=z.1:=by rw [List.getD_eq_getElem?_getD,List.getElem?_map,h];rfl
theorem alloc_at {W:World} {o:Obj} {N:Nat} (h:W.heap.size=N):(W.alloc o).heap[N]? = some o:=by subst h;exact heap_alloc_new W o
theorem Sit.overL {w:World} {l:List Fact} {g:Nat} {t:TypeId} : ∀ (us:List Value) (o:Nat) {W:World} {cs:List Value},Sit w W (fBox g cs.toArray t::l)→Sit w (setW W g o us) (fBox g (setL cs o us).toArray t::l)
 |[],_,_,_,h=>h
 |u::us,o,W,cs,h=>by
  have h2:=h.store o u
  rw [List.setIfInBounds_toArray] at h2
  exact Sit.overL us (o + 1) h2
theorem wrapE (n:Int):IntKind.i64.wrap n=wrap64 n:=by rw [IntKind.wrap_i64];unfold wrap64;omega
abbrev innI (x:List Int):List Int:=x
section
variable {α:Type} {hd:α→Value→List Value} {inn:α→List Int} {e K B:Nat} {w W1 W2 W3 W:World} {l:List Fact} {u v v':Value} {zs:List (α×Value)} {f f1 f2 f3:List Nat} {x:α} {ys:List Int} {g n c k j:Nat} {us:List Value}
theorem Sit.pushed (h:Sit w W1 (fOF cI 3 1 B u ys f::fOF (fz hd) e K B v zs f1::fInn inn B zs f2::l)) (hx:inn x=ys) (hb:Below W1.heap.size W1 W2) (ha:AppOF (fz hd) e K W2 B (zs ++ [(x,u)]) f1 v' W3):∃ f1' f2',Sit w W3 (fOF (fz hd) e K B v' (zs ++ [(x,u)]) f1'::fInn inn B (zs ++ [(x,u)]) f2'::l):=by
 obtain ⟨f1',h2⟩:=(h.next hb).rot2.app ha
 obtain ⟨f2',h3⟩:=h2.ror3.rot2.rot2.innAdd (a:=x) hx
 exact ⟨f1',f2',h3.rot2⟩
theorem Sit.grown (h:Sit w W (fOF cI 3 1 B u ys f::fInn inn B (zs.take k) f1::fInn inn B (zs.drop (k + 1)) f2::fOF (fz hd) e K B (.slice (some ⟨g,0,none⟩) n c) zs f3::l)) (hk:k < zs.length) (hx:inn x=ys) (hK:∀ x u,(hd x u).length=K) (hj:j + us.length≤K) (hy:setL (fz hd zs[k]) j us=fz hd (x,u)):∃ f2',Sit w (setW W g (k * K + j) us) (fOF (fz hd) e K B (.slice (some ⟨g,0,none⟩) n c) (zs.set k (x,u)) f3::fInn inn B (zs.set k (x,u)) f2'::l):=by
 obtain ⟨f2',h2⟩:=h.innIn (a:=x) hk hx
 exact ⟨f2',h2.rot2.put (fun z=>hK _ _) (List.getElem?_eq_getElem hk) hj hy⟩
end
theorem MInts.back {w W:World} {xs:List Int} {e:Ending} {W':World} (h:MInts W xs e W') (hb:Below w.heap.size w W):MInts w xs e W':=by
 obtain ⟨v,fp,rfl,ho,hb2⟩:=h
 exact ⟨v,fp,rfl,ho.base hb.size,bstep hb hb2⟩
theorem fOF_low {α:Type} {f:α→List Value} {e K:Nat} {w W W':World} {l:List Fact} {v:Value} {xs:List α} {fp:List Nat} {B:Nat} (h:Sit w W (fOF f e K B v xs fp::l)) (hB:w.heap.size≤B):Sit w W (fOF f e K w.heap.size v xs fp::l) :=
 h.grow (Tch.refl _ _) (fOF f e K w.heap.size v xs fp) (fun _ hb=>.inl hb) (fOF_ok _ _ _ _ _ _ _) ((h.list (.head _)).base hB)
theorem fInn_low {α:Type} {inn:α→List Int} {w W:World} {l:List Fact} {zs:List (α×Value)} {fp:List Nat} {B:Nat} (h:Sit w W (fInn inn B zs fp::l)) (hB:w.heap.size≤B):Sit w W (fInn inn w.heap.size zs fp::l) :=
 h.grow (Tch.refl _ _) (fInn inn w.heap.size zs fp) (fun _ hb=>.inl hb) (fInn_ok _ _ _ _) ((h.inns (.head _)).lower hB)
theorem Sit.gotInts {w W W':World} {l:List Fact} {xs:List Int} {e:Ending} (h:Sit w W l) (hm:MInts W xs e W'):∃ v fp,e=.returned v∧Sit w W' (fOF cI 3 1 w.heap.size v xs fp::l):=by
 obtain ⟨v,fp,rfl,ho,hb⟩:=hm
 exact ⟨v,fp,rfl,fOF_low (W':=W') (h.addOF hb ho (Nat.le_refl _)) h.low.size⟩
theorem Sit.gotNest {α:Type} {hd:α→Value→List Value} {inn:α→List Int} {e K:Nat} {w W W':World} {l:List Fact} {xs:List α} {ed:Ending} (h:Sit w W l) (hm:MNest hd e K inn W xs ed W'):∃ v zs f1 f2,ed=.returned v∧zs.map (·.1)=xs∧Sit w W' (fOF (fz hd) e K w.heap.size v zs f1::fInn inn w.heap.size zs f2::l):=by
 obtain ⟨v,zs,f1,f2,rfl,hz,hs⟩:=hm
 have h2:=fOF_low (W':=W') (h.join hs) h.low.size
 exact ⟨v,zs,f1,f2,rfl,hz,(fInn_low h2.rot2 h.low.size).rot2⟩
theorem sound_dec (r:Request):soundR r=decide (classOf r=0):=by unfold soundR;rw [Bool.eq_iff_iff];simp
theorem presentR_len (r:Request):(presentR r).length≤4:=by
 unfold presentR
 split
 ·exact Nat.le_trans (List.length_filter_le _ _) (by decide)
 ·simp
theorem unitsG_le:∀ (i:Nat) (xs:List Item) (k:Nat),(unitsG i (xs.take k)).length≤(unitsG i xs).length
 |_,[],_=>by simp
 |_,_::_,0=>by simp [unitsG]
 |i,x::xs,k + 1=>by
  have:=unitsG_le (i + 1) xs k
  simp [unitsG]
  omega
end Go.Proofs.YtioijfplbgpjpaaGreat
namespace Go.Proofs.YtioijfplbgpjpaaGreat
set_option linter.unusedVariables false
set_option linter.unusedSimpArgs false
set_option maxRecDepth 100000
open Go.RowKit
theorem run_enter {P : Program} {F : FuncId} {f : Func} (h : P.funcs[F]? = some f) (hn : (f.name == "runtime.NumGoroutine") = false) (hb : f.body.isNone = false) (args : Array Value) (W : World) : (callFunc F args).run P W = .ok (.enter F args) W := by
 have hn' : ¬ f.name = "runtime.NumGoroutine" := by simpa using hn
 have hb' : ¬ f.body=none:=by intro e;rw [e] at hb;cases hb
 unfold callFunc
 simp [Sem.run_bind,Sem.run,program,h,hn',hb',Result.andThen]
def idxF {α:Type} (p:α→Bool) (xs:List α):Int:=match xs.findIdx? p with
 |some i=>(i:Int)
 |none=>-1
theorem idxF_hit {α:Type} {p:α→Bool} {xs:List α} {k:Nat} {x:α} (hx:xs[k]? = some x) (hp:p x=true) (h:∀ i y,i < k→xs[i]? = some y→p y=false):idxF p xs=k:=by
 have hk:=(List.getElem?_eq_some_iff.1 hx).1
 have:xs.findIdx? p=some k:=by
  rw [List.findIdx?_eq_some_iff_getElem]
  refine ⟨hk,by rw [(List.getElem?_eq_some_iff.1 hx).2];exact hp,fun j hj=>?_⟩
  rw [h j _ hj (List.getElem?_eq_getElem (by omega))];simp
 unfold idxF;rw [this]
theorem idxF_miss {α:Type} {p:α→Bool} {xs:List α} (h:∀ i y,i < xs.length→xs[i]? = some y→p y=false):idxF p xs = -1:=by
 have:xs.findIdx? p=none:=by
  rw [List.findIdx?_eq_none_iff]
  intro x hx
  obtain ⟨i,hi⟩:=List.mem_iff_getElem?.1 hx
  exact h i x (List.getElem?_eq_some_iff.1 hi).1 hi
 unfold idxF;rw [this]
theorem miss_step {α:Type} {p:α→Bool} {xs:List α} {k:Nat} {x:α} (h:∀ i y,i < k→xs[i]? = some y→p y=false) (hx:xs[k]? = some x) (hp:p x=false):∀ i y,i < k + 1→xs[i]? = some y→p y=false:=by
 intro i y hi hy
 rcases Nat.lt_or_ge i k with h1 | h1
 ·exact h i y h1 hy
 ·obtain rfl:i=k:=by omega
  rw [hx] at hy
  injection hy with hy
  rw [← hy]
  exact hp
theorem idxF_any {α:Type} (p:α→Bool) (xs:List α):decide (0≤idxF p xs)=xs.any p:=by
 unfold idxF
 cases h:xs.findIdx? p with
 |none =>
  rw [List.findIdx?_eq_none_iff] at h
  have:xs.any p=false:=by rw [List.any_eq_false];intro x hx;simp [h x hx]
  rw [this];rfl
 |some i =>
  obtain ⟨hi,hp,_⟩:=List.findIdx?_eq_some_iff_getElem.1 h
  have:xs.any p=true:=List.any_eq_true.2 ⟨xs[i],List.getElem_mem _,hp⟩
  rw [this];simp
set_option maxHeartbeats 400000 in
theorem indexInt_any (v:Value) (xs:List Int) (u:Int) (w:World) (h:RInts 16777216 w w.heap.size v xs) :
  Calls Tryz.prog 189 #[v,.int .i64 u] w fun e w'=>e=.returned (.int .i64 (idxF (fun y=>u == y) xs))∧w=w':=by
 have h':=h
 obtain ⟨A,c,rfl,hbd,_⟩:=h
 have H:=Lib.hid h'
 clear h'
 go_enter Tryz.func189,Tryz.ntmps189
 go_wp2
 go_loop [8] (fun i=>∃ k:Nat,k≤xs.length∧i=.int .i64 k∧∀ i y,i < k→xs[i]? = some y→(u == y)=false) (fun i=>xs.length - (intOf i).toNat)
 case atStart=>exact ⟨0,Nat.zero_le _,rfl,fun _ _ h=>by omega⟩
 case round =>
  obtain ⟨k,hk,rfl,hno⟩:=hrel
  have HN:=Lib.hid hno
  clear hno
  by_cases hlt:k < xs.length
  ·obtain ⟨b,off,x,rfl,hb,hx,hc⟩:=H.out.at1 k hlt
   have hc0:=hc _ rfl
   clear hc
   by_cases hq:(u == x)=true
   ·have HI:=Lib.hid (idxF_hit (p:=fun y=>u == y) hx hq HN.out)
    go_wp2
    go_ret
    exact ⟨ret_int HI.out.symm,rfl⟩
   ·have hq':(u == x)=false:=by simpa using hq
    have HI:=Lib.hid (miss_step HN.out hx hq')
    clear hq
    go_wp2
    go_round
    case rel=>exact ⟨k + 1,hlt,by go_num,HI.out⟩
    case measure=>simp [intOf];omega
  ·have HI:=Lib.hid (idxF_miss (p:=fun y=>u == y) (xs:=xs) (fun i y hi hy=>HN.out i y (by omega) hy))
   go_wp2
   go_ret
   exact ⟨ret_int HI.out.symm,rfl⟩
set_option maxHeartbeats 400000 in
theorem containsInt_any (v:Value) (xs:List Int) (u:Int) (w:World) (h:RInts 16777216 w w.heap.size v xs) :
  Calls Tryz.prog 131 #[v,.int .i64 u] w fun e w'=>e=.returned (.bool (xs.any fun y=>u == y))∧w=w':=by
 have HA:=Lib.hid (idxF_any (fun y=>u == y) xs)
 go_enter Tryz.func131,Tryz.ntmps131
 go_wp2_with (go_at_call 189;refine (indexInt_any _ xs _ _ h).mono ?_;rintro e w' ⟨rfl,rfl⟩)
 all_goals go_ret
 all_goals exact ⟨ret_bool (by rw [← HA.out]),rfl⟩
set_option maxHeartbeats 400000 in
theorem l1Has_any (v:Value) (xs:List Int) (u:Int) (w:World) (h:RInts 16777216 w w.heap.size v xs) :
  Calls Tryz.prog 152 #[v,.int .i64 u] w fun e w'=>e=.returned (.bool (xs.any fun y=>u == y))∧w=w':=by
 have h':=h
 obtain ⟨A,c,rfl,hbd,_⟩:=h
 have H:=Lib.hid h'
 clear h'
 go_enter Tryz.func152,Tryz.ntmps152
 go_wp2
 go_loop [5] (fun i=>∃ k:Nat,k≤xs.length∧i=.int .i64 k∧∀ i y,i < k→xs[i]? = some y→(u == y)=false) (fun i=>xs.length - (intOf i).toNat)
 case atStart=>exact ⟨0,Nat.zero_le _,rfl,fun _ _ h=>by omega⟩
 case round =>
  obtain ⟨k,hk,rfl,hno⟩:=hrel
  have HN:=Lib.hid hno
  clear hno
  by_cases hlt:k < xs.length
  ·obtain ⟨b,off,x,rfl,hb,hx,hc⟩:=H.out.at1 k hlt
   have hc0:=hc _ rfl
   clear hc
   by_cases hq:(u == x)=true
   ·have hxm:(xs.any fun y=>u == y)=true:=List.any_eq_true.2 ⟨x,List.mem_of_getElem? hx,hq⟩
    have HI:=Lib.hid hxm
    have hq2:(x == u)=true:=by rw [beq_iff_eq] at hq ⊢;exact hq.symm
    clear hxm hq
    go_wp2
    go_ret
    exact ⟨ret_bool HI.out.symm,rfl⟩
   ·have hq':(u == x)=false:=by simpa using hq
    have HI:=Lib.hid (miss_step HN.out hx hq')
    have hq2:(x == u)=false:=by rw [beq_eq_false_iff_ne] at hq' ⊢;exact fun e=>hq' e.symm
    clear hq hq'
    go_wp2
    go_round
    case rel=>exact ⟨k + 1,hlt,by go_num,HI.out⟩
    case measure=>simp [intOf];omega
  ·have hxm:(xs.any fun y=>u == y)=false:=by
    rw [List.any_eq_false]
    intro y hy
    obtain ⟨i,hi⟩:=List.mem_iff_getElem?.1 hy
    rw [HN.out i y (by have:=(List.getElem?_eq_some_iff.1 hi).1;omega) hi]
    simp
   have HI:=Lib.hid hxm
   clear hxm
   go_wp2
   go_ret
   exact ⟨ret_bool HI.out.symm,rfl⟩
end Go.Proofs.YtioijfplbgpjpaaGreat
namespace Go.Proofs.YtioijfplbgpjpaaGreat
set_option linter.unusedVariables false
set_option linter.unusedSimpArgs false
set_option maxRecDepth 100000
open Go.RowKit
set_option maxHeartbeats 400000 in
theorem indexFuncInt_any (fn:FuncId) (cap:Array Value) (p:Int→Bool) (v:Value) (xs:List Int) (w:World) (h:RL 16777216 1 (flat cI) w w.heap.size v xs) (hrun:∀ args W,(callFunc fn args).run Tryz.prog W=.ok (.enter fn args) W)
  (hf:∀ (W:World) (x:Int),Below w.heap.size w W→x∈xs→Calls Tryz.prog fn (#[.int .i64 x] ++ cap) W fun e w'=>e=.returned (.bool (p x))∧Below W.heap.size W w') :
  Calls Tryz.prog 186 #[v,.func (.func fn) #[] cap] w fun e w'=>e=.returned (.int .i64 (idxF p xs))∧Below w.heap.size w w':=by
 have H:=Lib.hid h
 have HF:=Lib.hid fun (X:Ext w.heap.size w) (x:Int) (hx:x∈xs)=>ext_call (x:=X) (Nat.le_refl _) (hf X.world x X.ok hx)
 obtain ⟨A,c,rfl,hbd,_⟩:=h
 clear hf
 go_enter Tryz.func186,Tryz.ntmps186
 go_wp2
 go_loopw [8] (fun i wr=>∃ (k:Nat) (X:Ext w.heap.size w),wr=X.world∧k≤xs.length∧i=.int .i64 k∧∀ i y,i < k→xs[i]? = some y→p y=false) (fun i _=>xs.length - (intOf i).toNat)
 case atStart=>exact ⟨0,Ext.here _ _,rfl,Nat.zero_le _,rfl,fun _ _ h=>by omega⟩
 case round =>
  obtain ⟨k,X,rfl,hk,rfl,hno⟩:=hrel
  have HN:=Lib.hid hno
  clear hno
  by_cases hlt:k < xs.length
  ·obtain ⟨b,off,x,rfl,hb,hx,hc⟩:=H.out.flatX (fun X:Ext w.heap.size w=>X.ok) k hlt
   have hc0:=hc 0 _ rfl
   simp only [Nat.mul_one] at hc0
   simp only [Nat.add_zero] at hc0
   have HC:=HF.out X x (List.mem_of_getElem? hx)
   obtain ⟨q,hq⟩:∃ q,p x=q:=⟨_,rfl⟩
   rw [hq] at HC
   have HC:=Lib.hid HC
   have HI:=Lib.hid (fun h:q=true=>idxF_hit (p:=p) hx (hq.trans h) HN.out)
   have HM:=Lib.hid (fun h:q=false=>miss_step HN.out hx (hq.trans h))
   clear hc hq
   go_wp2_with fail
   refine HC.out.mono ?_
   rintro e w2 ⟨rfl,Y,rfl⟩
   cases q
   ·go_wp2
    (go_roundw;(case rel=>exact ⟨k + 1,Y,rfl,hlt,by go_num,HM.out (by simp)⟩);(case measure=>(simp [intOf];omega)))
   ·go_wp2
    go_ret
    exact ⟨ret_int (HI.out (by simp)).symm,Y.ok⟩
  ·have HI:=Lib.hid (idxF_miss (p:=p) (xs:=xs) (fun i y hi hy=>HN.out i y (by omega) hy))
   go_wp2
   go_ret
   exact ⟨ret_int HI.out.symm,X.ok⟩
set_option maxHeartbeats 400000 in
theorem containsFuncInt_any (fn:FuncId) (cap:Array Value) (p:Int→Bool) (v:Value) (xs:List Int) (w:World) (h:RL 16777216 1 (flat cI) w w.heap.size v xs) (hrun:∀ args W,(callFunc fn args).run Tryz.prog W=.ok (.enter fn args) W)
  (hf:∀ (W:World) (x:Int),Below w.heap.size w W→x∈xs→Calls Tryz.prog fn (#[.int .i64 x] ++ cap) W fun e w'=>e=.returned (.bool (p x))∧Below W.heap.size W w') :
  Calls Tryz.prog 274 #[v,.func (.func fn) #[] cap] w fun e w'=>e=.returned (.bool (xs.any p))∧Below w.heap.size w w':=by
 have HA:=Lib.hid (idxF_any p xs)
 have HC:=Lib.hid (indexFuncInt_any fn cap p v xs w h hrun hf)
 clear h hf hrun
 go_enter Tryz.func274,Tryz.ntmps274
 go_wp2_with fail
 refine HC.out.mono ?_
 rintro e w2 ⟨rfl,hb2⟩
 go_wp2
 go_ret
 exact ⟨ret_bool HA.out,hb2⟩
set_option maxHeartbeats 400000 in
theorem indexFuncPair_any (fn:FuncId) (cap:Array Value) (p:Pair→Bool) (v:Value) (xs:List Pair) (w:World) (h:RL 16777216 2 (flat Pair.cells) w w.heap.size v xs) (hrun:∀ args W,(callFunc fn args).run Tryz.prog W=.ok (.enter fn args) W)
  (hf:∀ (W:World) (x:Pair),Below w.heap.size w W→x∈xs→Calls Tryz.prog fn (#[x.val] ++ cap) W fun e w'=>e=.returned (.bool (p x))∧Below W.heap.size W w') :
  Calls Tryz.prog 343 #[v,.func (.func fn) #[] cap] w fun e w'=>e=.returned (.int .i64 (idxF p xs))∧Below w.heap.size w w':=by
 have H:=Lib.hid h
 have HF:=Lib.hid fun (X:Ext w.heap.size w) (x:Pair) (hx:x∈xs)=>ext_call (x:=X) (Nat.le_refl _) (hf X.world x X.ok hx)
 obtain ⟨A,c,rfl,hbd,_⟩:=h
 clear hf
 go_enter Tryz.func343,Tryz.ntmps343
 go_wp2
 go_loopw [8] (fun i wr=>∃ (k:Nat) (X:Ext w.heap.size w),wr=X.world∧k≤xs.length∧i=.int .i64 k∧∀ i y,i < k→xs[i]? = some y→p y=false) (fun i _=>xs.length - (intOf i).toNat)
 case atStart=>exact ⟨0,Ext.here _ _,rfl,Nat.zero_le _,rfl,fun _ _ h=>by omega⟩
 case round =>
  obtain ⟨k,X,rfl,hk,rfl,hno⟩:=hrel
  have HN:=Lib.hid hno
  clear hno
  by_cases hlt:k < xs.length
  ·obtain ⟨b,off,x,rfl,hb,hx,hc⟩:=H.out.flatX (fun X:Ext w.heap.size w=>X.ok) k hlt
   have hc0:=hc 0 _ rfl
   have hc1:=hc 1 _ rfl
   simp only [Nat.add_zero] at hc0
   have HC:=HF.out X x (List.mem_of_getElem? hx)
   obtain ⟨q,hq⟩:∃ q,p x=q:=⟨_,rfl⟩
   rw [hq] at HC
   have HC:=Lib.hid HC
   have HI:=Lib.hid (fun h:q=true=>idxF_hit (p:=p) hx (hq.trans h) HN.out)
   have HM:=Lib.hid (fun h:q=false=>miss_step HN.out hx (hq.trans h))
   clear hc hq
   go_wp2_with fail
   refine HC.out.mono ?_
   rintro e w2 ⟨rfl,Y,rfl⟩
   cases q
   ·go_wp2
    (go_roundw;(case rel=>exact ⟨k + 1,Y,rfl,hlt,by go_num,HM.out (by simp)⟩);(case measure=>(simp [intOf];omega)))
   ·go_wp2
    go_ret
    exact ⟨ret_int (HI.out (by simp)).symm,Y.ok⟩
  ·have HI:=Lib.hid (idxF_miss (p:=p) (xs:=xs) (fun i y hi hy=>HN.out i y (by omega) hy))
   go_wp2
   go_ret
   exact ⟨ret_int HI.out.symm,X.ok⟩
set_option maxHeartbeats 400000 in
theorem containsFuncPair_any (fn:FuncId) (cap:Array Value) (p:Pair→Bool) (v:Value) (xs:List Pair) (w:World) (h:RL 16777216 2 (flat Pair.cells) w w.heap.size v xs) (hrun:∀ args W,(callFunc fn args).run Tryz.prog W=.ok (.enter fn args) W)
  (hf:∀ (W:World) (x:Pair),Below w.heap.size w W→x∈xs→Calls Tryz.prog fn (#[x.val] ++ cap) W fun e w'=>e=.returned (.bool (p x))∧Below W.heap.size W w') :
  Calls Tryz.prog 312 #[v,.func (.func fn) #[] cap] w fun e w'=>e=.returned (.bool (xs.any p))∧Below w.heap.size w w':=by
 have HA:=Lib.hid (idxF_any p xs)
 have HC:=Lib.hid (indexFuncPair_any fn cap p v xs w h hrun hf)
 clear h hf hrun
 go_enter Tryz.func312,Tryz.ntmps312
 go_wp2_with fail
 refine HC.out.mono ?_
 rintro e w2 ⟨rfl,hb2⟩
 go_wp2
 go_ret
 exact ⟨ret_bool HA.out,hb2⟩
set_option maxHeartbeats 400000 in
theorem indexFuncType_any (fn:FuncId) (cap:Array Value) (p:GType→Bool) (v:Value) (xs:List GType) (w:World) (h:RL 16777216 7 (flat GType.cells) w w.heap.size v xs) (hrun:∀ args W,(callFunc fn args).run Tryz.prog W=.ok (.enter fn args) W)
  (hf:∀ (W:World) (x:GType),Below w.heap.size w W→x∈xs→Calls Tryz.prog fn (#[x.val] ++ cap) W fun e w'=>e=.returned (.bool (p x))∧Below W.heap.size W w') :
  Calls Tryz.prog 203 #[v,.func (.func fn) #[] cap] w fun e w'=>e=.returned (.int .i64 (idxF p xs))∧Below w.heap.size w w':=by
 have H:=Lib.hid h
 have HF:=Lib.hid fun (X:Ext w.heap.size w) (x:GType) (hx:x∈xs)=>ext_call (x:=X) (Nat.le_refl _) (hf X.world x X.ok hx)
 obtain ⟨A,c,rfl,hbd,_⟩:=h
 clear hf
 go_enter Tryz.func203,Tryz.ntmps203
 go_wp2
 go_loopw [8] (fun i wr=>∃ (k:Nat) (X:Ext w.heap.size w),wr=X.world∧k≤xs.length∧i=.int .i64 k∧∀ i y,i < k→xs[i]? = some y→p y=false) (fun i _=>xs.length - (intOf i).toNat)
 case atStart=>exact ⟨0,Ext.here _ _,rfl,Nat.zero_le _,rfl,fun _ _ h=>by omega⟩
 case round =>
  obtain ⟨k,X,rfl,hk,rfl,hno⟩:=hrel
  have HN:=Lib.hid hno
  clear hno
  by_cases hlt:k < xs.length
  ·obtain ⟨b,off,x,rfl,hb,hx,hc⟩:=H.out.flatX (fun X:Ext w.heap.size w=>X.ok) k hlt
   have hc0:=hc 0 _ rfl
   have hc1:=hc 1 _ rfl
   have hc2:=hc 2 _ rfl
   have hc3:=hc 3 _ rfl
   have hc4:=hc 4 _ rfl
   have hc5:=hc 5 _ rfl
   have hc6:=hc 6 _ rfl
   simp only [Nat.add_zero] at hc0
   have HC:=HF.out X x (List.mem_of_getElem? hx)
   obtain ⟨q,hq⟩:∃ q,p x=q:=⟨_,rfl⟩
   rw [hq] at HC
   have HC:=Lib.hid HC
   have HI:=Lib.hid (fun h:q=true=>idxF_hit (p:=p) hx (hq.trans h) HN.out)
   have HM:=Lib.hid (fun h:q=false=>miss_step HN.out hx (hq.trans h))
   clear hc hq
   go_wp2_with fail
   refine HC.out.mono ?_
   rintro e w2 ⟨rfl,Y,rfl⟩
   cases q
   ·go_wp2
    (go_roundw;(case rel=>exact ⟨k + 1,Y,rfl,hlt,by go_num,HM.out (by simp)⟩);(case measure=>(simp [intOf];omega)))
   ·go_wp2
    go_ret
    exact ⟨ret_int (HI.out (by simp)).symm,Y.ok⟩
  ·have HI:=Lib.hid (idxF_miss (p:=p) (xs:=xs) (fun i y hi hy=>HN.out i y (by omega) hy))
   go_wp2
   go_ret
   exact ⟨ret_int HI.out.symm,X.ok⟩
set_option maxHeartbeats 400000 in
theorem containsFuncType_any (fn:FuncId) (cap:Array Value) (p:GType→Bool) (v:Value) (xs:List GType) (w:World) (h:RL 16777216 7 (flat GType.cells) w w.heap.size v xs) (hrun:∀ args W,(callFunc fn args).run Tryz.prog W=.ok (.enter fn args) W)
  (hf:∀ (W:World) (x:GType),Below w.heap.size w W→x∈xs→Calls Tryz.prog fn (#[x.val] ++ cap) W fun e w'=>e=.returned (.bool (p x))∧Below W.heap.size W w') :
  Calls Tryz.prog 266 #[v,.func (.func fn) #[] cap] w fun e w'=>e=.returned (.bool (xs.any p))∧Below w.heap.size w w':=by
 have HA:=Lib.hid (idxF_any p xs)
 have HC:=Lib.hid (indexFuncType_any fn cap p v xs w h hrun hf)
 clear h hf hrun
 go_enter Tryz.func266,Tryz.ntmps266
 go_wp2_with fail
 refine HC.out.mono ?_
 rintro e w2 ⟨rfl,hb2⟩
 go_wp2
 go_ret
 exact ⟨ret_bool HA.out,hb2⟩
set_option maxHeartbeats 400000 in
theorem indexFuncItem_any (fn:FuncId) (cap:Array Value) (p:Item→Bool) (v:Value) (xs:List Item) (w:World) (h:RL 16777216 7 (flat Item.cells) w w.heap.size v xs) (hrun:∀ args W,(callFunc fn args).run Tryz.prog W=.ok (.enter fn args) W)
  (hf:∀ (W:World) (x:Item),Below w.heap.size w W→x∈xs→Calls Tryz.prog fn (#[x.val] ++ cap) W fun e w'=>e=.returned (.bool (p x))∧Below W.heap.size W w') :
  Calls Tryz.prog 321 #[v,.func (.func fn) #[] cap] w fun e w'=>e=.returned (.int .i64 (idxF p xs))∧Below w.heap.size w w':=by
 have H:=Lib.hid h
 have HF:=Lib.hid fun (X:Ext w.heap.size w) (x:Item) (hx:x∈xs)=>ext_call (x:=X) (Nat.le_refl _) (hf X.world x X.ok hx)
 obtain ⟨A,c,rfl,hbd,_⟩:=h
 clear hf
 go_enter Tryz.func321,Tryz.ntmps321
 go_wp2
 go_loopw [8] (fun i wr=>∃ (k:Nat) (X:Ext w.heap.size w),wr=X.world∧k≤xs.length∧i=.int .i64 k∧∀ i y,i < k→xs[i]? = some y→p y=false) (fun i _=>xs.length - (intOf i).toNat)
 case atStart=>exact ⟨0,Ext.here _ _,rfl,Nat.zero_le _,rfl,fun _ _ h=>by omega⟩
 case round =>
  obtain ⟨k,X,rfl,hk,rfl,hno⟩:=hrel
  have HN:=Lib.hid hno
  clear hno
  by_cases hlt:k < xs.length
  ·obtain ⟨b,off,x,rfl,hb,hx,hc⟩:=H.out.flatX (fun X:Ext w.heap.size w=>X.ok) k hlt
   have hc0:=hc 0 _ rfl
   have hc1:=hc 1 _ rfl
   have hc2:=hc 2 _ rfl
   have hc3:=hc 3 _ rfl
   have hc4:=hc 4 _ rfl
   have hc5:=hc 5 _ rfl
   have hc6:=hc 6 _ rfl
   simp only [Nat.add_zero] at hc0
   have HC:=HF.out X x (List.mem_of_getElem? hx)
   obtain ⟨q,hq⟩:∃ q,p x=q:=⟨_,rfl⟩
   rw [hq] at HC
   have HC:=Lib.hid HC
   have HI:=Lib.hid (fun h:q=true=>idxF_hit (p:=p) hx (hq.trans h) HN.out)
   have HM:=Lib.hid (fun h:q=false=>miss_step HN.out hx (hq.trans h))
   clear hc hq
   go_wp2_with fail
   refine HC.out.mono ?_
   rintro e w2 ⟨rfl,Y,rfl⟩
   cases q
   ·go_wp2
    (go_roundw;(case rel=>exact ⟨k + 1,Y,rfl,hlt,by go_num,HM.out (by simp)⟩);(case measure=>(simp [intOf];omega)))
   ·go_wp2
    go_ret
    exact ⟨ret_int (HI.out (by simp)).symm,Y.ok⟩
  ·have HI:=Lib.hid (idxF_miss (p:=p) (xs:=xs) (fun i y hi hy=>HN.out i y (by omega) hy))
   go_wp2
   go_ret
   exact ⟨ret_int HI.out.symm,X.ok⟩
set_option maxHeartbeats 400000 in
theorem containsFuncItem_any (fn:FuncId) (cap:Array Value) (p:Item→Bool) (v:Value) (xs:List Item) (w:World) (h:RL 16777216 7 (flat Item.cells) w w.heap.size v xs) (hrun:∀ args W,(callFunc fn args).run Tryz.prog W=.ok (.enter fn args) W)
  (hf:∀ (W:World) (x:Item),Below w.heap.size w W→x∈xs→Calls Tryz.prog fn (#[x.val] ++ cap) W fun e w'=>e=.returned (.bool (p x))∧Below W.heap.size W w') :
  Calls Tryz.prog 263 #[v,.func (.func fn) #[] cap] w fun e w'=>e=.returned (.bool (xs.any p))∧Below w.heap.size w w':=by
 have HA:=Lib.hid (idxF_any p xs)
 have HC:=Lib.hid (indexFuncItem_any fn cap p v xs w h hrun hf)
 clear h hf hrun
 go_enter Tryz.func263,Tryz.ntmps263
 go_wp2_with fail
 refine HC.out.mono ?_
 rintro e w2 ⟨rfl,hb2⟩
 go_wp2
 go_ret
 exact ⟨ret_bool HA.out,hb2⟩
end Go.Proofs.YtioijfplbgpjpaaGreat
namespace Go.Proofs.YtioijfplbgpjpaaGreat
set_option linter.unusedVariables false
set_option linter.unusedSimpArgs false
set_option maxRecDepth 100000
open Go.RowKit
set_option maxRecDepth 100000
def IntFields (P:Program) (o:Nat):List Field→Prop
 |[]=>True
 |f :: fs => (f.name ≠ "_" ∧ P.underlying f.type = some (.int .i64) ∧ f.offset = o) ∧ IntFields P (o + 1) fs
def intFieldsB (P:Program) (o:Nat):List Field→Bool
 |[]=>true
 |f :: fs => (f.name != "_" && (match P.underlying f.type with | some (.int .i64) => true | _ => false) && f.offset == o) && intFieldsB P (o + 1) fs
theorem intFields_of {P:Program} : ∀ (fs:List Field) (o:Nat),intFieldsB P o fs=true→IntFields P o fs
 |[],_,_=>trivial
 |f::fs,o,h=>by
  simp only [intFieldsB,Bool.and_eq_true,bne_iff_ne,beq_iff_eq] at h
  refine ⟨⟨h.1.1.1,?_,h.1.2⟩,intFields_of fs _ h.2⟩
  have:=h.1.1.2
  split at this
  ·assumption
  ·cases this
theorem run_eqFields_ints {P:Program} (d:Nat) (W:World):∀ (fs:List Field) (o:Nat) (xs ys:List Int) (cx cy:Array Value),IntFields P o fs→fs.length=xs.length→fs.length=ys.length →
  (∀ i n,xs[i]? = some n→cx[o + i]? = some (.int .i64 n))→(∀ i n,ys[i]? = some n→cy[o + i]? = some (.int .i64 n))→(Op.eqFields (d + 1) cx cy fs).run P W=.ok (decide (xs=ys)) W
 |[],o,[],[],cx,cy,_,_,_,_,_=>by simp [go_sem]
 |f::fs,o,x::xs,y::ys,cx,cy,h,hx,hy,gx,gy=>by
  have h0:=gx 0 x rfl
  have h1:=gy 0 y rfl
  simp only [Nat.add_zero] at h0 h1
  have ih:=run_eqFields_ints d W fs (o + 1) xs ys cx cy h.2 (by simpa using hx) (by simpa using hy) (fun i n hi=>by have:=gx (i + 1) n (by simpa using hi);rw [← this];congr 1;omega) (fun i n hi=>by have:=gy (i + 1) n (by simpa using hi);rw [← this];congr 1;omega)
  obtain ⟨hn,ht,ho⟩:=h.1
  simp only [Op.eqFields,hn,ne_eq,not_false_eq_true,if_true,ho]
  have hA:∀ w,(isAgg f.type).run P w=.ok false w:=fun w=>by simp [isAgg,run_underlying ht,go_sem]
  simp [go_sem,ht,part,h0,h1,hA]
  by_cases hxy:x=y
  ·simp [hxy,ih]
  ·simp [hxy]
theorem run_eql_ints {P:Program} {t:TypeId} (ht:P.underlying t=some (.struct (P.fieldsOf t))) (hs:P.stoodInHeld t=false) (hf:intFieldsB P 0 (P.fieldsOf t).toList=true) (xs ys:List Int) (hx:(P.fieldsOf t).size=xs.length) (hy:(P.fieldsOf t).size=ys.length) (W:World) :
  (binOp .eql t (.agg (xs.map (Value.int .i64)).toArray) (.agg (ys.map (Value.int .i64)).toArray)).run P W=.ok (.bool (decide (xs=ys))) W:=by
 rw [run_eql_struct,run_equalIn_struct _ _ _ _ _ ht hs]
 rw [run_eqFields_ints 9998 W _ 0 xs ys _ _ (intFields_of _ _ hf) (by simpa using hx) (by simpa using hy) (fun i n h=>by simp [h]) (fun i n h=>by simp [h])]
 rfl
theorem Pair_eq_list (x y:Pair):decide ([x.a,x.b]=[y.a,y.b])=decide (x=y):=by
 rw [decide_eq_decide]
 exact ⟨fun h=>by cases x;cases y;simp at h;simp [h],fun h=>by rw [h]⟩
theorem eql_Pair (x y:Pair) (W:World):(binOp .eql 165 (.agg #[.int .i64 x.a,.int .i64 x.b]) (.agg #[.int .i64 y.a,.int .i64 y.b])).run Tryz.prog W=.ok (.bool (decide (x=y))) W:=by
 have:=run_eql_ints (P:=Tryz.prog) (t:=165) (by kernel_rfl) (by kernel_rfl) (by kernel_rfl) [x.a,x.b] [y.a,y.b] (by kernel_rfl) (by kernel_rfl) W
 rw [Pair_eq_list] at this
 exact this
theorem guard_Pair (op:BinOp) (p q:Operand) (x y:Pair) (W:World):(eqGuard op 165 p q (.agg #[.int .i64 x.a,.int .i64 x.b]) (.agg #[.int .i64 y.a,.int .i64 y.b])).run Tryz.prog W=.ok () W:=run_eqGuard_agg _ _ _ _ _ _ _ (by kernel_rfl)
end Go.Proofs.YtioijfplbgpjpaaGreat
namespace Go.Proofs.YtioijfplbgpjpaaGreat
set_option linter.unusedVariables false
set_option linter.unusedSimpArgs false
set_option maxRecDepth 100000
open Go.RowKit
set_option maxHeartbeats 400000 in
theorem cloneInt_any (v:Value) (xs:List Int) (w:World) (h:RInts 16777216 w w.heap.size v xs) :
  Calls Tryz.prog 126 #[v] w fun e w'=>∃ v',e=.returned v'∧w'.ownsRow w.heap.size 3 1 v' xs.length (xs.flatMap cI)∧Below w.heap.size w w':=by
 obtain ⟨i0,hi,hz0,hz1,hz2⟩:=info_parts info_int
 have h':=h
 obtain ⟨A,c,rfl,hbd,hA⟩:=h
 have H:=Lib.hid h'
 clear h'
 have hnil:=fun (W:World) (a:Option Addr) (n c:Nat)=>Lib.run_eql_slice_nil (P:=Tryz.prog) W 53 3 a n c 0 0 Tryz.underlying53
 rcases A with _ | ad
 ·have hn:xs.length=0:=by
   rcases Nat.eq_zero_or_pos xs.length with h0 | h0
   ·exact h0
   ·obtain ⟨b,off,h,_⟩:=hA h0
    cases h
  have hx:xs=[]:=List.eq_nil_of_length_eq_zero hn
  subst hx
  clear hA
  go_enter Tryz.func126,Tryz.ntmps126
  go_wp2
  go_ret
  exact ⟨_,rfl,World.ownsRow_nil _ _ _ _,Below.refl _ _⟩
 ·clear hA
  go_enter Tryz.func126,Tryz.ntmps126
  go_wp2_with (at_builtin;refine at_app (.tmp 5) (.tmp 6) 53 rfl ?_;refine wpList_appAll _ rfl (.tmp 5) (.tmp 6) 53 rfl w.heap.size 3 i0 _ 1 8 Tryz.underlying53 hi hz0 hz1 hz2 rfl (by omega) (.slice (some ⟨w.heap.size,0,none⟩) 0 0) 0 [] rfl (own_empty (Nat.le_refl _) (heap_alloc_new w _)) 16777216 w.heap.size cI _ _ c xs rfl (H.out.below (flat_mono _) ((Below.refl _ _).alloc (Nat.le_refl _) _)) rfl (fun _=>rfl) (fun y u hu=>by simp [cI] at hu;subst hu;rfl) (by unfold maxLen;omega) (by omega) (by simp) ?_;intro v' w1 ho hg hn)
  go_ret
  exact ⟨_,rfl,by simpa using ho,((Below.refl _ _).alloc (Nat.le_refl _) _).grown hg (by simp) (fun k hk=>by simp [Value.ownBlock] at hk;omega)⟩
end Go.Proofs.YtioijfplbgpjpaaGreat
namespace Go.Proofs.YtioijfplbgpjpaaGreat
set_option linter.unusedVariables false
set_option linter.unusedSimpArgs false
set_option maxRecDepth 100000
open Go.RowKit
theorem flat_cI (xs:List Int):xs.flatMap cI=xs.map (Value.int .i64):=by
 induction xs with
 |nil=>rfl
 |cons x xs ih=>rw [List.flatMap_cons,ih];rfl
theorem own_cut {w:World} {base e K g n cap m:Nat} {xs:List Value} (h:w.ownsRow base e K (.slice (some ⟨g,0,none⟩) n cap) n xs) (hm:m≤n):w.ownsRow base e K (.slice (some ⟨g,0,none⟩) m cap) m (xs.take (m * K)):=by
 have hmk:m * K≤n * K:=Nat.mul_le_mul_right _ hm
 refine ⟨by rw [List.length_take,h.1];omega,?_⟩
 rcases h.2 with ⟨h0,_⟩ | ⟨g',cap',cur,hv,h1,h2,h3,h4,h5,h6⟩
 ·cases h0
 ·injection hv with e1 e2 e3
  injection e1 with e1
  injection e1 with e1 _
  subst e1 e3
  exact .inr ⟨g,cap,cur,rfl,h1,h2,by omega,h4,h5,by rw [← h6,List.take_take,Nat.min_eq_left hmk]⟩
theorem grown_tch {w w':World} {g:Nat} (h:w.grownBy w' (some g)):Tch [g] w w':=⟨h.os,h.tape,h.output,h.size,fun k hk hn=>h.block k hk (fun e=>hn (by cases e;simp))⟩
theorem setCells_setW (g:Nat):∀ (us:List Value) (w:World) (o:Nat),w.setCells g o us=setW w g o us
 |[],_,_=>rfl
 |u::us,w,o=>by unfold World.setCells setW;exact setCells_setW g us _ _
theorem setL_whole:∀ (us xs:List Value),xs.length=us.length→setL xs 0 us=us:=by
 intro us xs h
 apply List.ext_getElem?
 intro i
 rw [setL_get us xs 0 i (by omega)]
 rcases Nat.lt_or_ge i us.length with h1 | h1
 ·rw [if_pos (by omega),Nat.sub_zero]
 ·rw [if_neg (by omega),List.getElem?_eq_none (by omega),List.getElem?_eq_none (by omega)]
theorem own_ints_shape {w:World} {base:Nat} {v:Value} {xs:List Int} (h:w.ownsRow base 3 1 v xs.length (xs.flatMap cI)) (hn:0 < xs.length) :
  ∃ g cap cur,v=.slice (some ⟨g,0,none⟩) xs.length cap∧base≤g∧g < w.heap.size∧w.heap[g]? = some (.cells cur 3 (0,0))∧xs.length≤cap∧cap≤maxLen∧cur.size=cap * 1∧cur.toList.take xs.length=xs.map (Value.int .i64):=by
 rcases h.2 with ⟨_,h0⟩ | ⟨g,cap,cur,rfl,h1,h2,h3,h4,h5,h6⟩
 ·omega
 ·exact ⟨g,cap,cur,rfl,h1,(Array.getElem?_eq_some_iff.1 h2).1,h2,h3,h4,h5,by rw [← flat_cI,← h6,Nat.mul_one]⟩
theorem sortInt_any (v:Value) (xs:List Int) (fp:List Nat) (base:Nat) (w:World) (h:OInts w base v xs fp) (hb:xs.length≤33554432) :
  Calls Tryz.prog 128 #[v] w fun e w'=>e=.returned (.tuple #[])∧OInts w' base v (sortI xs) fp∧Tch fp w w':=by
 obtain ⟨h,rfl⟩:=h
 rcases Nat.eq_zero_or_pos xs.length with h0 | h0
 ·obtain rfl:xs=[]:=List.eq_nil_of_length_eq_zero h0
  obtain ⟨A,c,rfl⟩:=own_form h
  refine (Tryz.slices_Sort_int_none A c w).mono fun e w' ⟨h1,h2⟩=>⟨h1,?_,?_⟩
  ·rw [h2,show sortI []=[] by simp [sortI]];exact ⟨h,rfl⟩
  ·rw [h2];exact Tch.refl _ _
 ·obtain ⟨g,cap,cur,rfl,h1,h2,h3,h4,h5,h6,h7⟩:=own_ints_shape h h0
  refine (Tryz.slices_Sort_int g 0 cap xs w (holds_of_blockI h3 h7) h2 (by omega)).mono fun e w' ⟨e1,n,os,e2⟩=>⟨e1,⟨?_,?_⟩,?_⟩
  ·have:=ownsRow_sortedI (n:=n) (os:=os) (ts:=xs.mergeSort fun x y=>decide (x≤y)) (List.length_mergeSort xs) h1 h3 h4 h5 h6
   rw [e2,sortI_length,flat_cI]
   exact this
  ·rfl
  ·rw [e2]
   exact (grown_tch (grownBy_sortedI _)).sub (fun k hk=>by simpa [Value.ownBlock] using hk)
theorem compactInt_any (v:Value) (xs:List Int) (fp:List Nat) (base:Nat) (w:World) (h:OInts w base v xs fp) (hb:xs.length≤33554432) :
  Calls Tryz.prog 181 #[v] w fun e w'=>∃ v',e=.returned v'∧OInts w' base v' (Lib.compact xs) fp∧Tch fp w w':=by
 obtain ⟨h,rfl⟩:=h
 rcases Nat.eq_zero_or_pos xs.length with h0 | h0
 ·obtain rfl:xs=[]:=List.eq_nil_of_length_eq_zero h0
  obtain ⟨A,c,rfl⟩:=own_form h
  refine (Tryz.slices_Compact_int_empty A c w).mono fun e w' ⟨h1,h2⟩=>⟨_,h1,?_,?_⟩
  ·rw [h2,show Lib.compact ([]:List Int)=[] from rfl];exact ⟨h,rfl⟩
  ·rw [h2];exact Tch.refl _ _
 ·obtain ⟨g,cap,cur,rfl,h1,h2,h3,h4,h5,h6,h7⟩:=own_ints_shape h h0
  have hH:=holds_of_blockI h3 h7
  have hle:(Lib.compact xs).length≤xs.length:=by unfold Lib.compact Lib.compactUpTo;rw [List.length_map];exact Nat.le_trans (List.length_filter_le _ _) (by simp)
  refine (Tryz.slices_Compact_int_cells g 0 xs.length cap xs w (Nat.le_refl _) (by omega) h4 (fun j hj=>?_) (fun j hj=>(hH j (by simpa using hj)).2)).mono fun e w' ⟨e1,q,e2⟩=>?_
  ·have:=(hH j (by simpa using hj)).1
   simpa [List.getD,hj] using this
  ·rw [List.take_length] at e1 e2
   refine ⟨_,e1,⟨?_,rfl⟩,?_⟩
   ·have hst:=storedL ((Lib.compact xs ++ List.replicate (xs.length - (Lib.compact xs).length) 0).map (Value.int .i64)) _ (w.drewN q) 0 (own_block (w':=w.drewN q) h (fun _ _=>rfl))
    rw [setL_whole _ _ (by rw [flat_cI];simp;omega),← setCells_setW,← e2] at hst
    have hc:=own_cut hst hle
    rw [Nat.mul_one,List.map_append,List.take_left' (by simp),← flat_cI] at hc
    exact hc
   ·rw [e2,setCells_setW]
    exact Tch.setW (by simp [Value.ownBlock]) _ _ _ ⟨rfl,rfl,rfl,Nat.le_refl _,fun _ _ _=>rfl⟩
theorem cloneInts_any (v:Value) (xs:List Int) (w:World) (h:RInts 16777216 w w.heap.size v xs):Calls Tryz.prog 126 #[v] w (MInts w xs) :=
 (cloneInt_any v xs w h).mono fun e w' ⟨v',h1,h2,h3⟩=>by subst h1;exact MInts.row h2 (Nat.le_refl _) h3
theorem equalInt_any (v u:Value) (xs ys:List Int) (w:World) (h:RInts 16777216 w w.heap.size v xs) (h2:RInts 16777216 w w.heap.size u ys) :
  Calls Tryz.prog 122 #[v,u] w fun e w'=>e=.returned (.bool (decide (xs=ys)))∧Below w.heap.size w w':=by
 by_cases hl:xs.length=ys.length
 ·rcases Nat.eq_zero_or_pos xs.length with h0 | h0
  ·obtain ⟨A,c,rfl,_,_⟩:=h
   obtain ⟨A2,c2,rfl,_,_⟩:=h2
   have e1:xs=[]:=List.eq_nil_of_length_eq_zero h0
   have e2:ys=[]:=List.eq_nil_of_length_eq_zero (by omega)
   subst e1 e2
   exact (Tryz.slices_Equal_int_empty A A2 c 0 c2 w (by omega)).mono fun e w' ⟨h1,h2⟩=>⟨by rw [h1];rfl,by rw [h2];exact Below.refl _ _⟩
  ·obtain ⟨b,off,c,rfl,hc,hlx⟩:∃ b off c,v=.slice (some ⟨b,off,none⟩) xs.length c∧(∀ j,j < xs.length→w.cell? ⟨b,off + j,none⟩=some (.int .i64 (xs.getD j 0)))∧xs.length≤16777216:=by
    obtain ⟨A,c,rfl,hb,hA⟩:=h
    obtain ⟨b,off,rfl,_,hcs⟩:=hA h0
    refine ⟨b,off,c,rfl,fun j hj=>?_,hb.1⟩
    obtain ⟨cs,_,rfl,h3⟩:=hcs j _ (List.getElem?_eq_getElem hj)
    have:=h3 0 _ rfl
    simpa [List.getD,hj] using this
   obtain ⟨b2,off2,c2,rfl,hc2⟩:∃ b off c,u=.slice (some ⟨b,off,none⟩) ys.length c∧(∀ j,j < ys.length→w.cell? ⟨b,off + j,none⟩=some (.int .i64 (ys.getD j 0))):=by
    obtain ⟨A,c,rfl,hb,hA⟩:=h2
    obtain ⟨b,off,rfl,_,hcs⟩:=hA (by omega)
    refine ⟨b,off,c,rfl,fun j hj=>?_⟩
    obtain ⟨cs,_,rfl,h3⟩:=hcs j _ (List.getElem?_eq_getElem hj)
    have:=h3 0 _ rfl
    simpa [List.getD,hj] using this
   refine (Tryz.slices_Equal_int b off xs.length c b2 off2 ys.length c2 xs ys w (Nat.le_refl _) (Nat.le_refl _) (by omega) (by omega) hc hc2).mono fun e w' ⟨h1,q,h2⟩=>⟨?_,by rw [h2];exact below_drewN (Below.refl _ _) q⟩
   rw [h1,List.take_length,List.take_length,ret_bool]
   rw [Bool.eq_iff_iff];simp
 ·obtain ⟨A,c,rfl,_,_⟩:=h
  obtain ⟨A2,c2,rfl,_,_⟩:=h2
  refine (Tryz.slices_Equal_int_lens A A2 xs.length c ys.length c2 w hl).mono fun e w' ⟨h1,h2⟩=>⟨?_,by rw [h2];exact Below.refl _ _⟩
  rw [h1,ret_bool]
  simp
  exact fun e=>hl (by rw [e])
end Go.Proofs.YtioijfplbgpjpaaGreat
namespace Go.Proofs.YtioijfplbgpjpaaGreat
set_option linter.unusedVariables false
set_option linter.unusedSimpArgs false
set_option maxRecDepth 100000
open Go.RowKit
theorem named_at {n:Nat} {l:List Int} (h:Named n l) {j:Nat} (hj:j < l.length):∃ m:Nat,l[j]? = some (m:Int)∧m < n:=by
 have h1:=h l[j] (List.getElem_mem hj)
 exact ⟨l[j].toNat,by rw [List.getElem?_eq_getElem hj,Int.toNat_of_nonneg h1.1],h1.2⟩
section
variable {α:Type} {f:α→List Value} {inn:α→List Int} {W:World} {e K base n c g i k:Nat} {F:Option Addr} {xs:List α} {zs:List (α×Value)} {fp:List Nat} {x a:α} {u:Value} {y:Int}
theorem head_ptr (h:OF f e K W base (.slice F n c) xs fp) (hx:xs[k]? = some x):∃ g,F=some ⟨g,0,none⟩:=by
 obtain ⟨g,c',hv,_⟩:=h.some hx
 injection hv with e1 _ _
 exact ⟨g,e1⟩
theorem inn_form (h:Inn inn W base zs fp) (hz:zs[k]? = some (a,u)):∃ U c,u=.slice U (inn a).length c:=by
 obtain ⟨f,h⟩:=h.read hz
 obtain ⟨U,c,h1,_⟩:=h.form
 exact ⟨U,c,h1⟩
theorem inn_ptr (h:Inn inn W base zs fp) (hz:zs[k]? = some (a,.slice F n c)) (hi:i < (inn a).length):∃ g,F=some ⟨g,0,none⟩:=by
 obtain ⟨f,h⟩:=h.read hz
 exact head_ptr h (List.getElem?_eq_getElem hi)
theorem inn_cell (h:Inn inn W base zs fp) (hz:zs[k]? = some (a,.slice (some ⟨g,0,none⟩) n c)) (hy:(inn a)[i]? = some y):W.cell? ⟨g,i,none⟩=some (.int .i64 y):=by
 obtain ⟨f,h⟩:=h.read hz
 have:=h.cells (fun _=>rfl) hy 0 (.int .i64 y) rfl
 simpa using this
end
theorem getD_fst {α:Type} [Inhabited α] {zs:List (α×Value)} {xs:List α} {k:Nat} {x:α} {u:Value} (hz:zs.map (·.1)=xs) (h:zs[k]? = some (x,u)):xs.getD k default=x:=by subst hz;exact getD_map_fst h
theorem inn_lt {α:Type} {inn:α→List Int} {W:World} {base k n c g:Nat} {zs:List (α×Value)} {fp:List Nat} {a:α} (h:Inn inn W base zs fp) (hz:zs[k]? = some (a,.slice (some ⟨g,0,none⟩) n c)):g < W.heap.size:=by
 obtain ⟨f,h⟩:=h.read hz
 exact h.size.2.2.2
theorem pick_sort (c:List Int):pickAt c (argUp c)=sortI c:=argUp_keys c
theorem pick_step {c:List Int} {ps:List Nat} {j p:Nat} {y:Int} (hp:ps[j]? = some p) (hy:c[p]? = some y):pickAt c (ps.take (j + 1))=pickAt c (ps.take j) ++ [y]:=by
 unfold pickAt
 rw [List.take_add_one,hp,List.map_append]
 simp [List.getD_eq_getElem?_getD,hy]
theorem range_step {α:Type} (f:Nat→List α) (k:Nat):(List.range (k + 1)).flatMap f=(List.range k).flatMap f ++ f k:=by rw [List.range_succ,List.flatMap_append];simp
theorem flatten_mem_le {L:List (List Int)} {n:Nat} (h:L.flatten.length≤n) {c:List Int} (hc:c∈L):c.length≤n:=by
 obtain ⟨a,b,rfl⟩:=List.append_of_mem hc
 simp at h
 omega
end Go.Proofs.YtioijfplbgpjpaaGreat
namespace Go.Proofs.YtioijfplbgpjpaaGreat
set_option linter.unusedVariables false
set_option linter.unusedSimpArgs false
set_option maxRecDepth 100000
section
variable {P:Program} {ops:Array Oper} {Q:Exit→Act→World→Prop} {S:World→Prop}
def wpS (P:Program) (ops:Array Oper) (Q:Exit→Act→World→Prop) (S:World→Prop):Nat→Array Bool→Act→World→Prop
 |0,listed,a,w=>Region.ready .any ops listed=[]∧Q .normal a w
 |f + 1,listed,a,w=>(Region.ready .any ops listed=[]→Q .normal a w) ∧
   ∀ i∈Region.ready .any ops listed,wpOp P ops Q i (fun a' w'=>(i + 1 < ops.size→S w')∧wpS P ops Q S f (listed.setIfInBounds i true) a' w') a w
theorem any_of_wpS:∀ (f:Nat) (listed:Array Bool) (a:Act) (w:World),wpS P ops Q S f listed a w→wpAny P .any ops Q f listed a w
 |0,_,_,_,h=>h
 |f + 1,_,_,_,h=>⟨h.1,fun i hi=>wpOp_mono (fun a' w' h'=>any_of_wpS f _ a' w' h'.2) (h.2 i hi)⟩
theorem wpS_first {i:Nat} {oi:Oper} {v:Value} (hi:ops[i]? = some oi) (hsel:∀ (j:Nat) (o:Oper) cs b,ops[j]? = some o→o.op ≠ .select cs b)
  (hQ:∀ c a w,Q (.panic c) (a.put oi.dst v) w→Q (.panic c) a w) (hs:Region.sinkB .any ops (ops.size - 1)=true) (hc:Region.chainB .any ops (ops.size - 1)=true) (hin:i + 1 < ops.size) :
  ∀ (f:Nat) (listed:Array Bool) (a:Act) (w:World),HeadInv .any ops (ops.size - 1) listed →
   (∀ j oj,ops[j]? = some oj→j ≠ i→listed.getD j true=false→(∀ e∈oj.after,Region.binds .any e=true→e.on ≠ i)→oi.apart ops oj=true) →
   i∈Region.ready .any ops listed→YieldsIf P ops S oi v a→S w→wpS P ops Q S f (listed.setIfInBounds i true) (a.put oi.dst v) w→wpS P ops Q S (f + 1) listed a w:=by
 intro f
 induction f with
 |zero =>
  intro listed a w _ _ hr hy hS H
  refine ⟨fun h=>(by rw [h] at hr;cases hr),fun j hj=>?_⟩
  by_cases hji:j=i
  ·subst hji;exact hy.wpOp hi hS ⟨fun _=>hS,H⟩
  ·have:=ready_mono hj hji
   rw [H.1] at this
   cases this
 |succ f ih =>
  intro listed a w inv hfree hr hy hS H
  have hun:=(mem_ready.1 hr).1
  refine ⟨fun h=>(by rw [h] at hr;cases hr),fun j hj=>?_⟩
  by_cases hji:j=i
  ·subst hji;exact hy.wpOp hi hS ⟨fun _=>hS,H⟩
  ·have hjn:j < ops.size - 1:=by
    rcases Nat.lt_or_ge j (ops.size - 1) with h | h
    ·exact h
    ·exact absurd hj (tail_waits hs hc (by omega) inv _ i rfl (by omega) hun j h)
   have h1:=H.2 j (ready_mono hj hji)
   obtain ⟨hjun,oj,hoj,hall⟩:=mem_ready.1 hj
   have hnot:∀ e∈oj.after,Region.binds .any e=true→e.on ≠ i:=fun e he hb heq=>by
    have h2:=hall e he hb
    rw [heq,getD_both hun] at h2
    cases h2
   have h2:=wpOp_putIf hoj (hfree j oj hoj hji hjun hnot) (fun cs b=>hsel i oi cs b hi) (fun cs b=>hsel j oj cs b hoj) hQ hy h1
   have hfree':∀ k ok,ops[k]? = some ok→k ≠ i→(listed.setIfInBounds j true).getD k true=false →
     (∀ e∈ok.after,Region.binds .any e=true→e.on ≠ i)→oi.apart ops ok=true:=fun k ok hk hki hkun hno=>by
    refine hfree k ok hk hki ?_ hno
    by_cases hjk:j=k
    ·subst hjk;exact hjun
    ·rw [getD_set_ne true hjk] at hkun;exact hkun
   refine wpOp_mono (fun a' w' h3=>⟨h3.2.1,ih (listed.setIfInBounds j true) a' w' (inv.set hj hjn) hfree' (ready_mono hr (Ne.symm hji)) h3.1 (h3.2.1 (by omega)) ?_⟩) h2
   rw [Array.setIfInBounds_comm _ _ hji]
   exact h3.2.2
def headB (ops:Array Oper) (listed:Array Bool):Bool :=
 decide (listed.size=ops.size) && ((List.range ops.size).all fun j=>match ops[j]? with | some o=>!listed.getD j false || o.after.all fun e=>!Region.binds .any e || listed.getD e.on false | none=>true) && !listed.getD (ops.size - 1) true
theorem headB_inv {listed:Array Bool} (h:headB ops listed=true):HeadInv .any ops (ops.size - 1) listed:=by
 simp only [headB,Bool.and_eq_true,decide_eq_true_eq,Bool.not_eq_true'] at h
 obtain ⟨⟨h1,h2⟩,h3⟩:=h
 refine ⟨h1,fun j oj hj hl e he hb=>?_,fun t ht htl=>?_⟩
 ·have hjl:j < ops.size:=(Array.getElem?_eq_some_iff.1 hj).1
  have h4:=List.all_eq_true.1 h2 j (List.mem_range.2 hjl)
  rw [hj] at h4
  simp only [hl,Bool.not_true,Bool.false_or] at h4
  have h5:=Array.all_eq_true_iff_forall_mem.1 h4 e he
  simpa [hb] using h5
 ·have:t=ops.size - 1:=by omega
  rw [this];exact h3
def takeB (ops:Array Oper) (listed:Array Bool) (i:Nat):Bool :=
 Region.noSelect ops && Region.free .any ops listed i && (Region.ready .any ops listed).contains i && Region.sinkB .any ops (ops.size - 1) && Region.chainB .any ops (ops.size - 1) && decide (i + 1 < ops.size) && headB ops listed
theorem wpS_take {i:Nat} {oi:Oper} {v:Value} {f:Nat} {listed:Array Bool} {a:Act} {w:World} (hi:ops[i]? = some oi) (hB:takeB ops listed i=true)
  (hQ:∀ c a w,Q (.panic c) (a.put oi.dst v) w→Q (.panic c) a w) (hy:YieldsIf P ops S oi v a) (hS:S w)
  (h:wpS P ops Q S f (listed.setIfInBounds i true) (a.put oi.dst v) w):wpS P ops Q S (f + 1) listed a w:=by
 simp only [takeB,Bool.and_eq_true,decide_eq_true_eq] at hB
 obtain ⟨⟨⟨⟨⟨⟨h1,h2⟩,h3⟩,h4⟩,h5⟩,h6⟩,h7⟩:=hB
 exact wpS_first hi (Region.noSelect_spec h1) hQ h4 h5 h6 f listed a w (headB_inv h7) (Region.free_spec hi h2) (by simpa using h3) hy hS h
def AllReadyS (P:Program) (ops:Array Oper) (Q:Exit→Act→World→Prop) (S:World→Prop) (f:Nat) (listed:Array Bool) (a:Act) (w:World) (rs:List Nat):Prop :=
 ∀ i∈rs,wpOp P ops Q i (fun a' w'=>(i + 1 < ops.size→S w')∧wpS P ops Q S f (listed.setIfInBounds i true) a' w') a w
theorem AllReadyS.nil {f:Nat} {listed:Array Bool} {a:Act} {w:World} : AllReadyS P ops Q S f listed a w []:=fun _ h=>by cases h
theorem AllReadyS.cons {f:Nat} {listed:Array Bool} {a:Act} {w:World} {i:Nat} {o:Oper} {rs:List Nat} (ho:ops[i]? = some o) (hl:decide (i + 1 < ops.size)=true)
  (h:∀ K':Act→World→Prop,Shut (∀ a w,S w→(S w→wpS P ops Q S f (listed.setIfInBounds i true) a w)→K' a w)→if Region.wanted o (yielded ops a.tmps)=true then Oper.wp P o a w K' Q else K' (a.put o.dst undef) w)
  (hs:AllReadyS P ops Q S f listed a w rs):AllReadyS P ops Q S f listed a w (i::rs):=fun j hj=>by
 rcases List.mem_cons.1 hj with rfl | hj
 ·exact wpOp_step ho (fun K' hK=>h K' (fun a w hS hW=>hK a w ⟨fun _=>hS,hW hS⟩))
 ·exact hs j hj
theorem AllReadyS.last {f:Nat} {listed:Array Bool} {a:Act} {w:World} {i:Nat} {o:Oper} (ho:ops[i]? = some o) (hl:decide (i + 1 < ops.size)=false)
  (h:∀ K':Act→World→Prop,Shut (∀ a w,wpS P ops Q S f (listed.setIfInBounds i true) a w→K' a w)→if Region.wanted o (yielded ops a.tmps)=true then Oper.wp P o a w K' Q else K' (a.put o.dst undef) w):AllReadyS P ops Q S f listed a w [i]:=fun j hj=>by
 rcases List.mem_cons.1 hj with rfl | hj
 ·exact wpOp_step ho (fun K' hK=>h K' (fun a w hW=>hK a w ⟨fun h=>absurd h (by simpa using hl),hW⟩))
 ·cases hj
theorem wpS_done {listed:Array Bool} {a:Act} {w:World} (hr:Region.ready .any ops listed=[]) (h:Q .normal a w):∀ f,wpS P ops Q S f listed a w
 |0=>⟨hr,h⟩
 |_ + 1=>⟨fun _=>h,by rw [hr];simp⟩
theorem wp_region_S {id:Nat} {a:Act} {w:World} (hm:P.follows .mixedOrders=true) (hS:S w.drew)
  (h:S w.drew→wpS P ops Q S ops.size (Array.replicate ops.size false) a w.drew):(Code.region id ops true).wp P Q a w :=
 wp_region_any hm (any_of_wpS _ _ _ _ (h hS))
theorem share {T G:Prop} (main:T→G) (pf:T):G:=main pf
end
section
variable {P:Program} {ops:Array Oper} {Q:Exit→Act→World→Prop} {S:World→Prop} {listed l':Array Bool} {a b:Act} {w:World} {oi:Oper} {v:Value} {i:Nat} {rs:List Nat}
def wQ (P:Program) (ops:Array Oper) (Q:Exit→Act→World→Prop) (S:World→Prop) (l:Array Bool) (a:Act) (w:World):Prop :=
 (∀ c a b w,Q (.panic c) a w→Q (.panic c) b w)→wpS P ops Q S (l.count false) l a w
def cntO (l:Array Bool) (k:Nat):Bool:=decide (l.count false=(l.setIfInBounds k true).count false + 1)
def takesB (ops:Array Oper):List Nat→Array Bool→Bool
 |[],_=>true
 |k::ks,l=>takeB ops l k && cntO l k && takesB ops ks (l.setIfInBounds k true)
def marks:Array Bool→List Nat→Array Bool
 |l,[]=>l
 |l,k::ks=>marks (l.setIfInBounds k true) ks
def bits (n m:Nat):Array Bool:=((List.range n).map (fun i=>m.testBit i)).toArray
inductive Tks (P:Program) (ops:Array Oper) (S:World→Prop):List Nat→Act→Act→Prop
 |nil {a:Act} : Tks P ops S [] a a
 |yes {k:Nat} {ks:List Nat} {a b:Act} {oi:Oper} {v:Value} (hi:ops[k]? = some oi) (hw:Region.wanted oi (yielded ops a.tmps)=true)
   (hy:∀ w9,S w9→(execOp a.eval oi).run P w9=.ok (.value v) w9) (h:Tks P ops S ks (a.put oi.dst v) b):Tks P ops S (k::ks) a b
 |no {k:Nat} {ks:List Nat} {a b:Act} {oi:Oper} (hi:ops[k]? = some oi) (hw:Region.wanted oi (yielded ops a.tmps)=false) (h:Tks P ops S ks (a.put oi.dst undef) b):Tks P ops S (k::ks) a b
theorem tks (ks:List Nat) (hB:takesB ops ks listed=true) (hS:S w) (ht:Tks P ops S ks a b) (h:wQ P ops Q S (marks listed ks) b w):wQ P ops Q S listed a w:=by
 intro hQ
 induction ht generalizing listed with
 |nil=>exact h hQ
 |yes hi hw hy _ ih =>
  simp only [takesB,cntO,Bool.and_eq_true,decide_eq_true_eq] at hB
  rw [hB.1.2]
  exact wpS_take hi hB.1.1 (fun c a w=>hQ c _ _ w) (Or.inl ⟨hw,hy⟩) hS (ih hB.2 h)
 |no hi hw _ ih =>
  simp only [takesB,cntO,Bool.and_eq_true,decide_eq_true_eq] at hB
  rw [hB.1.2]
  exact wpS_take hi hB.1.1 (fun c a w=>hQ c _ _ w) (Or.inr ⟨hw,rfl⟩) hS (ih hB.2 h)
def AllQ (P:Program) (ops:Array Oper) (Q:Exit→Act→World→Prop) (S:World→Prop) (l:Array Bool) (a:Act) (w:World) (rs:List Nat):Prop :=
 ∀ i∈rs,wpOp P ops Q i (fun a' w'=>(i + 1 < ops.size→S w')∧wQ P ops Q S (l.setIfInBounds i true) a' w') a w
theorem AllQ.nil:AllQ P ops Q S listed a w []:=fun _ h=>by cases h
theorem AllQ.cons (ho:ops[i]? = some oi) (hl:decide (i + 1 < ops.size)=true)
  (h:∀ K':Act→World→Prop,Shut (∀ a w,S w→(S w→wQ P ops Q S (listed.setIfInBounds i true) a w)→K' a w)→if Region.wanted oi (yielded ops a.tmps)=true then Oper.wp P oi a w K' Q else K' (a.put oi.dst undef) w)
  (hs:AllQ P ops Q S listed a w rs):AllQ P ops Q S listed a w (i::rs):=fun j hj=>by
 rcases List.mem_cons.1 hj with rfl | hj
 ·exact wpOp_step ho (fun K' hK=>h K' (fun a w hS hW=>hK a w ⟨fun _=>hS,hW hS⟩))
 ·exact hs j hj
theorem smq (rs:List Nat) (hB:(decide (Region.ready .any ops listed=rs) && !rs.isEmpty && rs.all (cntO listed))=true) (h:AllQ P ops Q S listed a w rs):wQ P ops Q S listed a w:=by
 intro hQ
 simp only [Bool.and_eq_true,decide_eq_true_eq,Bool.not_eq_true',List.all_eq_true] at hB
 obtain ⟨⟨h1,h2⟩,h3⟩:=hB
 obtain ⟨j,hj⟩:∃ j,j∈rs:=by
  cases rs with
  |nil=>simp at h2
  |cons x _=>exact ⟨x,.head _⟩
 have hc:=h3 j hj
 simp only [cntO,decide_eq_true_eq] at hc
 rw [hc]
 refine ⟨fun h0=>(by rw [h1] at h0;rw [h0] at hj;cases hj),fun i hi=>?_⟩
 rw [h1] at hi
 have hci:=h3 i hi
 simp only [cntO,decide_eq_true_eq] at hci
 refine wpOp_mono (fun a' w' h'=>⟨h'.1,?_⟩) (h i hi)
 have:=h'.2 hQ
 rw [show Array.count false (listed.setIfInBounds j true)=Array.count false (listed.setIfInBounds i true) by omega]
 exact this
theorem onq (i:Nat) (hi:ops[i]? = some oi) (hB:(decide (Region.ready .any ops listed=[i]) && decide (i + 1 < ops.size) && cntO listed i)=true)
  (h:∀ K':Act→World→Prop,Shut (∀ a w,S w→(S w→wQ P ops Q S (listed.setIfInBounds i true) a w)→K' a w)→if Region.wanted oi (yielded ops a.tmps)=true then Oper.wp P oi a w K' Q else K' (a.put oi.dst undef) w):wQ P ops Q S listed a w:=by
 simp only [Bool.and_eq_true,decide_eq_true_eq] at hB
 exact smq [i] (by simp [hB.1.1,hB.2]) (AllQ.cons hi (by simp [hB.1.2]) h AllQ.nil)
theorem lsq (i:Nat) (hi:ops[i]? = some oi) (hB:(decide (Region.ready .any ops listed=[i]) && !decide (i + 1 < ops.size) && cntO listed i && (Region.ready .any ops (listed.setIfInBounds i true)).isEmpty)=true)
  (h:∀ K':Act→World→Prop,Shut (∀ a w,Q .normal a w→K' a w)→if Region.wanted oi (yielded ops a.tmps)=true then Oper.wp P oi a w K' Q else K' (a.put oi.dst undef) w):wQ P ops Q S listed a w:=by
 simp only [Bool.and_eq_true,decide_eq_true_eq,Bool.not_eq_true',List.isEmpty_iff,decide_eq_false_iff_not] at hB
 obtain ⟨⟨⟨h1,h2⟩,h3⟩,h4⟩:=hB
 refine smq [i] (by simp [h1,h3]) (fun j hj=>?_)
 rcases List.mem_cons.1 hj with rfl | hj
 ·exact wpOp_step hi (fun K' hK=>h K' (fun a w hW=>hK a w ⟨fun h=>absurd h h2,fun _=>wpS_done h4 hW _⟩))
 ·cases hj
theorem wQ_done (hr:(Region.ready .any ops listed).isEmpty=true) (h:Q .normal a w):wQ P ops Q S listed a w:=fun _=>wpS_done (by simpa using hr) h _
theorem wQ_norm (l':Array Bool) (hl:listed=l') (h:wQ P ops Q S l' a w):wQ P ops Q S listed a w:=hl ▸ h
theorem regq {id:Nat} (hm:P.follows .mixedOrders=true) (hQ:∀ c a b w,Q (.panic c) a w→Q (.panic c) b w) (hS:S w.drew)
  (h:S w.drew→wQ P ops Q S (Array.replicate ops.size false) a w.drew):(Code.region id ops true).wp P Q a w :=
 wp_region_S hm hS (fun h0=>by have:=h h0 hQ;simpa [Array.count_replicate_self] using this)
end
section
theorem aP (l:List Value) (d:List Deferred) (n:Nat) (v:Value):Act.put ⟨l.toArray,d⟩ (some n) v=⟨(l.set n v).toArray,d⟩:=by simp [Act.put]
theorem aZ {α:Type} (x y:α) (l:List α):(x::l).set 0 y=y::l:=rfl
theorem aS {α:Type} (x y:α) (l:List α) (n:Nat):(x::l).set (n + 1) y=x::l.set n y:=rfl
theorem aG {α:Type} {xs:List α} {i:Nat} (h:i < xs.toArray.size):xs.toArray[i]=xs[i]'(by simpa using h):=List.getElem_toArray h
theorem aH {α:Type} {x:α} {l:List α} {h:0 < (x::l).length} : (x::l)[0]=x:=rfl
theorem aI {α:Type} {x:α} {l:List α} {i:Nat} (h:i + 1 < (x::l).length):(x::l)[i + 1]=l[i]'(Nat.lt_of_succ_lt_succ h):=rfl
end
end Go.Proofs.YtioijfplbgpjpaaGreat
namespace Go.Proofs.YtioijfplbgpjpaaGreat
set_option linter.unusedVariables false
set_option linter.unusedSimpArgs false
set_option maxRecDepth 100000
open Go.RowKit
set_option maxHeartbeats 400000 in
theorem cloneCartons_any (v:Value) (xs:List Carton) (w:World) (h:RCartons 16777216 w w.heap.size v xs) :
  Calls Tryz.prog 201 #[v] w fun e w'=>∃ v' fp,e=.returned v'∧OCartons w' w.heap.size v' xs fp∧Below w.heap.size w w':=by
 obtain ⟨i0,hi,hz0,hz1,hz2⟩:=info_parts info_Carton
 have h':=h
 obtain ⟨A,c,rfl,hbd,_⟩:=h
 have H:=Lib.hid h'
 clear h'
 go_enter Tryz.func201,Tryz.ntmps201
 go_wp2
 go_loopw [3,9] (fun l i wr=>∃ k:Nat,∃ fp,k≤xs.length∧i=.int .i64 k∧OCartons wr w.heap.size l (xs.take k) fp∧Below w.heap.size w wr) (fun _ i _=>xs.length - (intOf i).toNat)
 case atStart=>exact ⟨0,_,Nat.zero_le _,rfl,OL_empty (own_empty (Nat.le_refl _) (heap_alloc_new w _)),(Below.refl _ _).alloc (Nat.le_refl _) _⟩
 case round =>
  obtain ⟨k,fp,hk,rfl,hol,hbl⟩:=hrel
  by_cases hlt:k < xs.length
  ·obtain ⟨b,off,x,_,rfl,hb,hx,_,⟨vu,rfl,hru⟩,hc⟩:=(H.out.below (RCarton_mono _) hbl).at_ k hlt
   have hru':=hru.more (flat_mono _) hbl.size
   obtain ⟨Au,cu,rfl,hun,_⟩:=hru
   have hc0:=hc 0 _ rfl
   have hc1:=hc 1 _ rfl
   have hc2:=hc 2 _ rfl
   have HRU:=Lib.hid hru'
   clear hc hru'
   simp only [Nat.add_zero] at hc0
   go_wp2_with fail
   have hb0:Below wr.heap.size wr (wr.alloc (.cells #[.int .i64 x.type,.int .i64 x.group,.slice Au x.units.length cu] 78)):=(by repeat' with_reducible first | assumption | exact bR | apply bD | apply bA | apply bC | apply bN | simp <;> omega)
   refine (cloneInt_any _ x.units _ (HRU.out.next (flat_mono _) hb0)).mono ?_
   rintro e w2 ⟨v2,rfl,ho2,hb2⟩
   obtain ⟨A2,c2,rfl⟩:=own_form ho2
   have hx1:w2.heap[wr.heap.size]? = some (.cells #[.int .i64 x.type,.int .i64 x.group,.slice Au x.units.length cu] 78 (0,0)):=(hb2.block wr.heap.size (by simp)).trans (by (simp only [heap_alloc_if,World.size_alloc];repeat (first | rw [if_neg (by omega)] | rw [if_pos (by omega)] | rw [if_pos trivial])))
   have hc1':=fun j=>cell_of_row _ _ j _ _ (0,0) hx1
   have hf1:=fun j=>frozen_of_row _ _ j _ _ hx1
   have hb3:=bstep hb0 hb2
   clear hc0 hc1 hc2 hx1
   obtain ⟨cs,ifp,hrow,hfe,hnd,hfl,hpo⟩:=hol
   have hkl:(xs.take k).length=k:=by simp;omega
   rw [hkl] at hrow
   obtain ⟨W,hW⟩:∃ W,setW w2 wr.heap.size 2 [.slice A2 x.units.length c2]=W:=⟨_,rfl⟩
   have hWk:∀ b,b < wr.heap.size→W.heap[b]? = wr.heap[b]?:=fun b hlb=>by rw [← hW,heap_setW (by omega)];exact hb3.block b hlb
   have hWs:W.heap.size=w2.heap.size:=by rw [← hW];exact size_setW _ _ _
   have hs2:=hb2.size
   have hblk:=ho2.lt
   simp at hs2 hblk
   have hrW:W.ownsRow w.heap.size 78 3 u3 k cs:=own_block hrow (fun g hg=>hWk g (hrow.lt g hg).2)
   have hpW:=hpo.keep ECarton_fr (fun b hb=>hWk b (hfl b (by rw [hfe];simp [hb])).2)
   have hE:ECarton W [.int .i64 x.type,.int .i64 x.group,.slice A2 x.units.length c2] x (Value.slice A2 x.units.length c2).ownBlock.toList :=
    ⟨_,rfl,own_base (own_block ho2 (fun g hg=>by rw [← hW];exact heap_setW (by have:=(hblk g hg).1;omega) _ _ _)) (Nat.zero_le _),rfl⟩
   have hbW:Below w.heap.size w W:=by rw [← hW];exact Below.setW hbl.size _ _ _ (hbl.trans (hb3.mono hbl.size))
   have hBW:w.heap.size≤W.heap.size:=hbW.size
   have HW:=Lib.hid (show w2.setCell ⟨wr.heap.size,2,none⟩ (.slice A2 x.units.length c2)=W from hW)
   have HF:=Lib.hid (And.intro hfe (And.intro hkl (And.intro hWk hWs)))
   clear hW hfe hkl hWk hWs
   go_wp2_with (at_builtin;refine at_app (.tmp 17) (.tmp 19) 43 rfl ?_;rw [HW.out];refine wpList_app1 _ rfl (.tmp 17) (.tmp 19) 43 rfl w.heap.size 78 i0 _ 3 40 Tryz.underlying43 hi hz0 hz1 hz2 rfl (by omega) u3 _ _ rfl hrW _ _ rfl HF.out.2.2.2.symm rfl (by simp [Value.oneCell']) (by unfold maxLen;omega) (by omega) hBW ?_;intro v' w3 ho hg hn)
   go_roundw
   case rel =>
    obtain ⟨hfe,hkl,hWk,hWs⟩:=HF.out
    have hws:=hbl.size
    subst hfe
    refine ⟨k + 1,v'.ownBlock.toList ++ (ifp ++ (Value.slice A2 x.units.length c2).ownBlock.toList),hlt,by go_num,?_,below_grown hbW hrW hg hBW⟩
    rw [List.take_add_one,hx]
    refine OL_app (by rw [hkl];exact hrW) hnd (fun b hb=>⟨(hfl b hb).1,by have:=(hfl b hb).2;omega⟩) hpW ECarton_fr rfl hE (by cases (Value.slice A2 x.units.length c2).ownBlock <;> simp) (fun b hb=>?_) (fun b hb hm=>?_) (by rw [hkl];exact ho) hg hn
    ·have:=hblk b (ownBlock_mem hb)
     omega
    ·have h1:=hblk b (ownBlock_mem hb)
     have h2:=hfl b hm
     omega
   case measure=>simp [intOf];omega
  ·go_wp2
   go_ret
   obtain rfl:k=xs.length:=by omega
   rw [List.take_length] at hol
   exact ⟨_,_,rfl,hol,hbl⟩
set_option maxHeartbeats 400000 in
theorem cloneSpot_any (v:Value) (xs:List Spot) (w:World) (h:RSpots 16777216 w w.heap.size v xs) :
  Calls Tryz.prog 202 #[v] w fun e w'=>∃ v',e=.returned v'∧w'.ownsRow w.heap.size 72 4 v' xs.length (xs.flatMap Spot.cells)∧Below w.heap.size w w':=by
 obtain ⟨i0,hi,hz0,hz1,hz2⟩:=info_parts info_Spot
 have h':=h
 obtain ⟨A,c,rfl,hbd,hA⟩:=h
 have H:=Lib.hid h'
 clear h'
 have hnil:=fun (W:World) (a:Option Addr) (n c:Nat)=>Lib.run_eql_slice_nil (P:=Tryz.prog) W 44 72 a n c 0 0 Tryz.underlying44
 rcases A with _ | ad
 ·have hn:xs.length=0:=by
   rcases Nat.eq_zero_or_pos xs.length with h0 | h0
   ·exact h0
   ·obtain ⟨b,off,h,_⟩:=hA h0
    cases h
  have hx:xs=[]:=List.eq_nil_of_length_eq_zero hn
  subst hx
  clear hA
  go_enter Tryz.func202,Tryz.ntmps202
  go_wp2
  go_ret
  exact ⟨_,rfl,World.ownsRow_nil _ _ _ _,Below.refl _ _⟩
 ·clear hA
  go_enter Tryz.func202,Tryz.ntmps202
  go_wp2_with (at_builtin;refine at_app (.tmp 5) (.tmp 6) 44 rfl ?_;refine wpList_appAll _ rfl (.tmp 5) (.tmp 6) 44 rfl w.heap.size 72 i0 _ 4 32 Tryz.underlying44 hi hz0 hz1 hz2 rfl (by omega) (.slice (some ⟨w.heap.size,0,none⟩) 0 0) 0 [] rfl (own_empty (Nat.le_refl _) (heap_alloc_new w _)) 16777216 w.heap.size Spot.cells _ _ c xs rfl (H.out.below (flat_mono _) ((Below.refl _ _).alloc (Nat.le_refl _) _)) rfl (fun _=>rfl) (fun y u hu=>by simp [Spot.cells] at hu;rcases hu with rfl | rfl | rfl | rfl <;> rfl) (by unfold maxLen;omega) (by omega) (by simp) ?_;intro v' w1 ho hg hn)
  go_ret
  exact ⟨_,rfl,by simpa using ho,((Below.refl _ _).alloc (Nat.le_refl _) _).grown hg (by simp) (fun k hk=>by simp [Value.ownBlock] at hk;omega)⟩
end Go.Proofs.YtioijfplbgpjpaaGreat
namespace Go.Proofs.YtioijfplbgpjpaaGreat
set_option linter.unusedVariables false
set_option linter.unusedSimpArgs false
set_option maxRecDepth 100000
open Go.RowKit
set_option maxHeartbeats 400000 in
theorem l9Carton_any (x:Carton) (v:Value) (w:World) (hr:RInts 16777216 w w.heap.size v x.units) :
  Calls Tryz.prog 157 #[.agg #[.int .i64 x.type,.int .i64 x.group,v]] w fun e w'=>∃ A c,e=.returned (.agg #[.int .i64 x.type,.int .i64 x.group,.slice A x.units.length c])∧w'.ownsRow w.heap.size 3 1 (.slice A x.units.length c) x.units.length (x.units.flatMap cI)∧Below w.heap.size w w':=by
 obtain ⟨i0,hi,hz0,hz1,hz2⟩:=info_parts info_int
 have HR:=Lib.hid hr
 obtain ⟨A,c,rfl,hbd,_⟩:=hr
 go_enter Tryz.func157,Tryz.ntmps157
 go_wp2
 generalize hW:(w.alloc (.cells #[.int .i64 x.type,.int .i64 x.group,.slice A x.units.length c] 78)).alloc (.cells #[.int .i64 0,.int .i64 0,.slice none 0 0] 78)=W0
 have hsz0:W0.heap.size=w.heap.size + 2:=by rw [← hW];simp
 have hbx:W0.heap[w.heap.size]? = some (.cells #[.int .i64 x.type,.int .i64 x.group,.slice A x.units.length c] 78 (0,0)):=by rw [← hW];(simp only [heap_alloc_if,World.size_alloc];repeat (first | rw [if_neg (by omega)] | rw [if_pos (by omega)] | rw [if_pos trivial]))
 have hby:W0.heap[w.heap.size + 1]? = some (.cells #[.int .i64 0,.int .i64 0,.slice none 0 0] 78 (0,0)):=by rw [← hW];(simp only [heap_alloc_if,World.size_alloc];repeat (first | rw [if_neg (by omega)] | rw [if_pos (by omega)] | rw [if_pos trivial]))
 have hb0:Below w.heap.size w W0:=by rw [← hW];exact (by repeat' with_reducible first | assumption | exact bR | apply bD | apply bA | apply bC | apply bN | simp <;> omega)
 have HX:=Lib.hid hbx
 have HY:=Lib.hid hby
 have HZ:=Lib.hid hsz0
 have hx:=fun j=>cell_of_row _ _ j _ _ (0,0) hbx
 have hx0:=hx 0
 have hx1:=hx 1
 have hx2:=hx 2
 simp at hx0 hx1 hx2
 have hle:=hb0.size
 have hl0:w.heap.size < W0.heap.size:=lt_of_block HX.out
 have hl1:w.heap.size + 1 < W0.heap.size:=lt_of_block HY.out
 clear hbx hby hsz0 hx hW
 go_region_held3 (fun W'=>W'.cell? ⟨w.heap.size,0,none⟩=some (.int .i64 x.type)∧W'.cell? ⟨w.heap.size,1,none⟩=some (.int .i64 x.group)∧W'.cell? ⟨w.heap.size,2,none⟩=some (.slice A x.units.length c))
  (first | go_keep | exact ⟨k1,k2,k3⟩)
  (first
   |(refine step_appAll _ rfl (.tmp 7) (.tmp 9) 53 rfl W0.heap.size 3 i0 _ 1 8 Tryz.underlying53 hi hz0 hz1 hz2 rfl (by omega) (.slice (some ⟨W0.heap.size,0,none⟩) 0 0) 0 [] rfl (own_empty (Nat.le_refl _) (heap_alloc_new W0 _)) 16777216 w.heap.size cI _ _ _ x.units rfl (HR.out.below (flat_mono _) (by repeat' with_reducible first | assumption | exact bR | apply bD | apply bA | apply bC | apply bN | simp <;> omega)) rfl (fun _=>rfl) (fun y u hu=>by simp [cI] at hu;subst hu;rfl) (by unfold maxLen;omega) (by omega) (by simp) ?_;intro v' w5 ho hg hn;have c1:Below W0.heap.size W0 w5:=Below.grown (show Below W0.heap.size W0 _ from (by repeat' with_reducible first | assumption | exact bR | apply bD | apply bA | apply bC | apply bN | simp <;> omega)) hg (by simp) (fun k hk=>by simp [Value.ownBlock] at hk;omega);obtain ⟨A1,d1,rfl⟩:=own_form ho;have k1:=(c1.cell (p:=⟨w.heap.size,0,none⟩) hl0).trans hx0;have k2:=(c1.cell (p:=⟨w.heap.size,1,none⟩) hl0).trans hx1;have k3:=(c1.cell (p:=⟨w.heap.size,2,none⟩) hl0).trans hx2;have hyc:=(c1.block (w.heap.size + 1) hl1).trans HY.out;have hyd:=fun j=>cell_of_row _ _ j _ _ (0,0) hyc;have hyf:=fun j=>frozen_of_row _ _ j _ _ hyc;clear hyc))
 have hblk:=ho.lt
 have HO:=Lib.hid ho
 clear ho
 go_wp2
 refine bodyPost_ret (v:=.agg #[.int .i64 x.type,.int .i64 x.group,.slice A1 x.units.length d1]) (by simp [results,Tryz.results157,go_sem,hyd]) rfl ?_
 refine ⟨A1,d1,rfl,own_base (B:=W0.heap.size) ?_ hle,?_⟩
 ·have h:=HO.out
  simp only [Nat.zero_add,List.nil_append] at h
  refine own_block h (fun g hg=>?_)
  have h1:=(hblk g (by simpa using hg)).1
  rw [Below.heap_setCell,Below.heap_setCell,Below.heap_setCell] <;> simp <;> omega
 ·have hb3:=bstep hb0 c1
  (repeat' with_reducible first | assumption | exact bR | apply bD | apply bA | apply bC | apply bN | simp <;> omega)
end Go.Proofs.YtioijfplbgpjpaaGreat
namespace Go.Proofs.YtioijfplbgpjpaaGreat
set_option linter.unusedVariables false
set_option linter.unusedSimpArgs false
set_option maxRecDepth 100000
open Go.RowKit
set_option maxHeartbeats 400000 in
theorem indexFuncCarton_any (fn:FuncId) (cap:Array Value) (p:Carton→Bool) (v:Value) (xs:List Carton) (w:World) (h:RCartons 16777216 w w.heap.size v xs) (hrun:∀ args W,(callFunc fn args).run Tryz.prog W=.ok (.enter fn args) W)
  (hf:∀ (W:World) (x:Carton) (u:Value),Below w.heap.size w W→RInts 16777216 W W.heap.size u x.units→Calls Tryz.prog fn (#[.agg #[.int .i64 x.type,.int .i64 x.group,u]] ++ cap) W fun e w'=>e=.returned (.bool (p x))∧Below W.heap.size W w') :
  Calls Tryz.prog 129 #[v,.func (.func fn) #[] cap] w fun e w'=>e=.returned (.int .i64 (idxF p xs))∧Below w.heap.size w w':=by
 have h':=h
 obtain ⟨A,c,rfl,hbd,_⟩:=h
 have H:=Lib.hid h'
 have HF:=Lib.hid hf
 clear h' hf
 go_enter Tryz.func129,Tryz.ntmps129
 go_wp2
 go_loopw [8] (fun i wr=>∃ k:Nat,k≤xs.length∧i=.int .i64 k∧(∀ i y,i < k→xs[i]? = some y→p y=false)∧Below w.heap.size w wr) (fun i _=>xs.length - (intOf i).toNat)
 case atStart=>exact ⟨0,Nat.zero_le _,rfl,fun _ _ h=>by omega,Below.refl _ _⟩
 case round =>
  obtain ⟨k,hk,rfl,hno,hbl⟩:=hrel
  have HN:=Lib.hid hno
  clear hno
  by_cases hlt:k < xs.length
  ·obtain ⟨b,off,x,_,rfl,hb,hx,_,⟨vx,rfl,hrx⟩,hc⟩:=(H.out.below (RCarton_mono _) hbl).at_ k hlt
   have hc0:=hc 0 _ rfl
   have hc1:=hc 1 _ rfl
   have hc2:=hc 2 _ rfl
   simp only [Nat.add_zero] at hc0
   have HC:=Lib.hid (HF.out wr x vx hbl (hrx.more (flat_mono _) hbl.size))
   clear hc hrx
   by_cases hq:p x=true
   ·have HI:=Lib.hid (idxF_hit (p:=p) hx hq HN.out)
    go_wp2_with fail
    refine HC.out.mono ?_
    rintro e w2 ⟨rfl,hb2⟩
    rw [hq]
    go_wp2
    go_ret
    exact ⟨ret_int HI.out.symm,hbl.trans (hb2.mono hbl.size)⟩
   ·have hq':p x=false:=by simpa using hq
    have HI:=Lib.hid (miss_step HN.out hx hq')
    clear hq
    go_wp2_with fail
    refine HC.out.mono ?_
    rintro e w2 ⟨rfl,hb2⟩
    rw [hq']
    go_wp2
    go_roundw
    case rel=>exact ⟨k + 1,hlt,by go_num,HI.out,hbl.trans (hb2.mono hbl.size)⟩
    case measure=>simp [intOf];omega
  ·have HI:=Lib.hid (idxF_miss (p:=p) (xs:=xs) (fun i y hi hy=>HN.out i y (by omega) hy))
   go_wp2
   go_ret
   exact ⟨ret_int HI.out.symm,hbl⟩
end Go.Proofs.YtioijfplbgpjpaaGreat
namespace Go.Proofs.YtioijfplbgpjpaaGreat
set_option linter.unusedVariables false
set_option linter.unusedSimpArgs false
set_option maxRecDepth 100000
open Go.RowKit
end Go.Proofs.YtioijfplbgpjpaaGreat
namespace Go.Proofs.YtioijfplbgpjpaaGreat
set_option linter.unusedVariables false
set_option linter.unusedSimpArgs false
set_option maxRecDepth 100000
open Go.RowKit
set_option maxHeartbeats 400000 in
theorem clonePlan_any (v:Value) (p:Plan) (w:World) (h:RPlan 16777216 w w.heap.size v p) :
  Calls Tryz.prog 136 #[v] w fun e w'=>∃ v' fp,e=.returned v'∧OPlan w' w.heap.size v' p fp∧Below w.heap.size w w':=by
 obtain ⟨v1,v2,rfl,h1,h2⟩:=h
 have H1:=Lib.hid h1
 have H2:=Lib.hid h2
 clear h1 h2
 go_enter Tryz.func136,Tryz.ntmps136
 go_wp2
 have hsz0:((w.alloc (.cells #[v1,v2] 46)).alloc (.cells #[.slice none 0 0,.slice none 0 0] 46)).heap.size=w.heap.size + 2:=by simp
 have hbx:((w.alloc (.cells #[v1,v2] 46)).alloc (.cells #[.slice none 0 0,.slice none 0 0] 46)).heap[w.heap.size]? = some (.cells #[v1,v2] 46 (0,0)):=by (simp only [heap_alloc_if,World.size_alloc];repeat (first | rw [if_neg (by omega)] | rw [if_pos (by omega)] | rw [if_pos trivial]))
 have hby:((w.alloc (.cells #[v1,v2] 46)).alloc (.cells #[.slice none 0 0,.slice none 0 0] 46)).heap[w.heap.size + 1]? = some (.cells #[.slice none 0 0,.slice none 0 0] 46 (0,0)):=by (simp only [heap_alloc_if,World.size_alloc];repeat (first | rw [if_neg (by omega)] | rw [if_pos (by omega)] | rw [if_pos trivial]))
 have hb0:Below w.heap.size w ((w.alloc (.cells #[v1,v2] 46)).alloc (.cells #[.slice none 0 0,.slice none 0 0] 46)):=(by repeat' with_reducible first | assumption | exact bR | apply bD | apply bA | apply bC | apply bN | simp <;> omega)
 generalize (w.alloc (.cells #[v1,v2] 46)).alloc (.cells #[.slice none 0 0,.slice none 0 0] 46)=W0 at *
 have HC:∀ W,Below W0.heap.size W0 W→RCartons 16777216 W W.heap.size v1 p.cartons:=fun W hW=>H1.out.next (RCarton_mono _) (bstep hb0 hW)
 have HS:∀ W,Below W0.heap.size W0 W→RSpots 16777216 W W.heap.size v2 p.spots:=fun W hW=>H2.out.next (flat_mono _) (bstep hb0 hW)
 have HX:=Lib.hid hbx
 have HY:=Lib.hid hby
 have HC:=Lib.hid HC
 have HS:=Lib.hid HS
 have HZ:=Lib.hid hsz0
 have hx:=fun j=>cell_of_row _ _ j _ _ (0,0) hbx
 have hx0:=hx 0
 have hx1:=hx 1
 simp at hx0 hx1
 clear hbx hby hsz0 hx
 have hl0:w.heap.size < W0.heap.size:=lt_of_block HX.out
 have hl1:w.heap.size + 1 < W0.heap.size:=lt_of_block HY.out
 go_region_held3 (fun W'=>W'.cell? ⟨w.heap.size,0,none⟩=some v1∧W'.cell? ⟨w.heap.size,1,none⟩=some v2)
  (first | go_keep | exact ⟨k1,k2⟩ | exact ⟨l1,l2⟩)
  (first
   |(go_at_call 201;refine (cloneCartons_any v1 p.cartons _ (HC.out _ (by repeat' with_reducible first | assumption | exact bR | apply bD | apply bA | apply bC | apply bN | simp <;> omega))).mono ?_;rintro e w5 ⟨u1,f1,rfl,ho1,hb1⟩;obtain ⟨A1,d1,rfl⟩:=OL.form ho1;have c1:Below W0.heap.size W0 w5:=bstep (by repeat' with_reducible first | assumption | exact bR | apply bD | apply bA | apply bC | apply bN | simp <;> omega) hb1;have k1:=(c1.cell (p:=⟨w.heap.size,0,none⟩) hl0).trans hx0;have k2:=(c1.cell (p:=⟨w.heap.size,1,none⟩) hl0).trans hx1;have hyc:=(c1.block (w.heap.size + 1) hl1).trans HY.out;have hyd:=fun j=>cell_of_row _ _ j _ _ (0,0) hyc;have hyf:=fun j=>frozen_of_row _ _ j _ _ hyc;clear hyc)
   |(go_at_call 202;refine (cloneSpot_any v2 p.spots _ (HS.out _ (by repeat' with_reducible first | assumption | exact bR | apply bD | apply bA | apply bC | apply bN | simp <;> omega))).mono ?_;rintro e w6 ⟨u2,rfl,ho2,hb2⟩;obtain ⟨A2,d2,rfl⟩:=own_form ho2;have s1:Below W0.heap.size W0 w6:=bstep (by repeat' with_reducible first | assumption | exact bR | apply bD | apply bA | apply bC | apply bN | simp <;> omega) hb2;have l1:=(s1.cell (p:=⟨w.heap.size,0,none⟩) hl0).trans hx0;have l2:=(s1.cell (p:=⟨w.heap.size,1,none⟩) hl0).trans hx1;have hyc:=(s1.block (w.heap.size + 1) hl1).trans HY.out;have hyd:=fun j=>cell_of_row _ _ j _ _ (0,0) hyc;have hyf:=fun j=>frozen_of_row _ _ j _ _ hyc;clear hyc))
 have hf1:=OL.lt ho1
 have hf2:=ho2.lt
 have hs1:=hb1.size
 have hs2:=hb2.size
 simp only [show W0.drew.heap.size=W0.heap.size from rfl] at hf1 hs1
 have HO1:=Lib.hid ho1
 have HO2:=Lib.hid ho2
 clear ho1 ho2
 go_wp2
 refine bodyPost_ret (v:=.agg #[.slice A1 p.cartons.length d1,.slice A2 p.spots.length d2]) (by simp [results,Tryz.results136,go_sem,hyd]) rfl ?_
 have hk:∀ (u1 u2:Value) b,b ≠ w.heap.size + 1→((w6.setCell ⟨w.heap.size + 1,0,none⟩ u1).setCell ⟨w.heap.size + 1,1,none⟩ u2).heap[b]? = w6.heap[b]?:=fun u1 u2 b hb=>by
  rw [Below.heap_setCell,Below.heap_setCell] <;> simpa using hb
 refine ⟨_,f1 ++ (Value.slice A2 p.spots.length d2).ownBlock.toList,rfl,⟨_,_,f1,_,rfl,OL.keep (OL.below (OL.base HO1.out (by have:=hb0.size;exact this)) ECarton_fr hb2 (fun b hb=>(hf1 b hb).2)) ECarton_fr (by simp) (fun b hb=>hk _ _ b (by have:=(hf1 b hb).1;omega)),OL_of_own (own_block (own_base HO2.out (by omega)) (fun g hg=>hk _ _ g (by have:=(hf2 g hg).1;omega))) (fun _=>rfl),rfl,?_⟩,?_⟩
 ·rw [List.nodup_append]
  refine ⟨OL.nodup HO1.out,by cases (Value.slice A2 p.spots.length d2).ownBlock <;> simp,fun a ha b hb hab=>?_⟩
  have h1:=(hf1 a ha).2
  have h2:=(hf2 b (ownBlock_mem hb)).1
  omega
 ·have hb3:=bstep hb0 s1
  (repeat' with_reducible first | assumption | exact bR | apply bD | apply bA | apply bC | apply bN | simp <;> omega)
end Go.Proofs.YtioijfplbgpjpaaGreat
