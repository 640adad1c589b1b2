/-
  append at the element types of this program, said of lists: one element just laid; a whole slice that reads as a list. Written by wip/aifam.py.
-/
import Derived.Test.YtioijfplbgpjpaaGreatKu00
import Derived.Test.YtioijfplbgpjpaaGreatRows
import Derived.ProofKit
import Derived.OpenShut
import Derived.ShutString
import Derived.WideKeyArgs
import Derived.Carry
import Derived.Deep.Slices
import Derived.Deep.Fields
import Derived.Deep.Strs
import Derived.ChangeSame
namespace Go.Proofs.YtioijfplbgpjpaaGreat
set_option linter.unusedVariables false
set_option linter.unusedSimpArgs false
set_option maxRecDepth 100000
open Go.RowKit
theorem grown_below {base e size n:Nat} {w w':World} {v:Value} {xs:List Value} (ho:w.ownsRow base e size v n xs) (hg:w.grownBy w' v.ownBlock) (hB:base≤w.heap.size):Below base w w':=below_grown (Below.refl _ _) ho hg hB
theorem one_Int:∀ (y:Int),∀ u∈cI y,u.oneCell'=true:=fun y u hu=>by simp [cI] at hu;subst hu;rfl
theorem app_Int {ops:Array Oper} {rest:List Oper} {o:Oper} {a:Act} {Q:Exit→Act→World→Prop} {w0:World} (s x:Operand) (hgd:o.guard=none)
  (ho:o.op=.call { callee:=.builtin .append,args:=#[s,x],argTypes:=#[53,53] }) {base:Nat} {v:Value} {xs:List Int} (y:Int) {news:Array Value} {N:Nat} (hs:a.eval s=v)
  (hx:a.eval x=.slice (some ⟨N,0,none⟩) 1 1) (hN:N=w0.heap.size) (hy:news=(cI y).toArray) (hown:w0.ownsRow base 3 1 v xs.length (xs.flatMap cI)) (hl:xs.length < 16777216) (hbase:base≤w0.heap.size)
  (h:∀ v' w',w'.ownsRow base 3 1 v' (xs ++ [y]).length ((xs ++ [y]).flatMap cI)→Below base w0 w'→w0.grownBy w' v.ownBlock→(v'.ownBlock=v.ownBlock ∨ ∃ g,v'.ownBlock=some g∧w0.heap.size≤g)→wpList Tryz.prog ops Q rest (a.put o.dst v') w') :
  wpList Tryz.prog ops Q (o::rest) a (w0.alloc (.cells news 3)):=by
 obtain ⟨i0,hi,hz0,hz1,hz2⟩:=info_parts info_int
 subst hy
 exact wpList_app1 w0 hgd s x 53 ho base 3 i0 _ 1 8 Tryz.underlying53 hi hz0 hz1 hz2 rfl (by omega) v _ _ hs hown _ N hx hN rfl (fun u hu=>one_Int y u (by simpa using hu)) (by unfold maxLen;omega) (by omega) hbase
  (fun v' w' h1 h2 h3=>h v' w' (by simpa using h1) (grown_below hown h2 hbase) h2 h3)
theorem appAll_Int {ops:Array Oper} {rest:List Oper} {o:Oper} {a:Act} {Q:Exit→Act→World→Prop} {w:World} (s x:Operand) (hgd:o.guard=none)
  (ho:o.op=.call { callee:=.builtin .append,args:=#[s,x],argTypes:=#[53,53] }) {base bd B:Nat} {v:Value} {xs ys:List Int} {A:Option Addr} {m c:Nat} (hs:a.eval s=v)
  (hx:a.eval x=.slice A m c) (hr:RL bd 1 (flat cI) w B (.slice A m c) ys) (hown:w.ownsRow base 3 1 v xs.length (xs.flatMap cI)) (hl:xs.length + ys.length≤33554432) (hbase:base≤w.heap.size)
  (h:∀ v' w',w'.ownsRow base 3 1 v' (xs ++ ys).length ((xs ++ ys).flatMap cI)→Below base w w'→w.grownBy w' v.ownBlock→(v'.ownBlock=v.ownBlock ∨ v'.ownBlock=some w.heap.size)→wpList Tryz.prog ops Q rest (a.put o.dst v') w') :
  wpList Tryz.prog ops Q (o::rest) a w:=by
 obtain ⟨i0,hi,hz0,hz1,hz2⟩:=info_parts info_int
 have hm:=hr.len_cap.1
 exact wpList_appAll w hgd s x 53 ho base 3 i0 _ 1 8 Tryz.underlying53 hi hz0 hz1 hz2 rfl (by omega) v _ _ hs hown bd B cI A m c ys hx hr hm (fun _=>rfl) one_Int (by unfold maxLen;omega) (by omega) hbase
  (fun v' w' h1 h2 h3=>h v' w' (by rw [List.length_append,List.flatMap_append,← hm];exact h1) (grown_below hown h2 hbase) h2 h3)
theorem one_Spot:∀ (y:Spot),∀ u∈Spot.cells y,u.oneCell'=true:=fun y u hu=>by simp [Spot.cells] at hu;rcases hu with rfl | rfl | rfl | rfl <;> rfl
theorem one_Pair:∀ (y:Pair),∀ u∈Pair.cells y,u.oneCell'=true:=fun y u hu=>by simp [Pair.cells] at hu;rcases hu with rfl | rfl <;> rfl
theorem one_Type:∀ (y:GType),∀ u∈GType.cells y,u.oneCell'=true:=fun y u hu=>by simp [GType.cells] at hu;rcases hu with rfl | rfl | rfl | rfl | rfl | rfl | rfl <;> rfl
theorem one_Item:∀ (y:Item),∀ u∈Item.cells y,u.oneCell'=true:=fun y u hu=>by simp [Item.cells] at hu;rcases hu with rfl | rfl | rfl | rfl | rfl | rfl | rfl <;> rfl
theorem one_Box:∀ (y:Box),∀ u∈Box.cells y,u.oneCell'=true:=fun y u hu=>by simp [Box.cells] at hu;rcases hu with rfl | rfl | rfl | rfl <;> rfl
end Go.Proofs.YtioijfplbgpjpaaGreat
namespace Go.Proofs.YtioijfplbgpjpaaGreat
set_option linter.unusedVariables false
set_option linter.unusedSimpArgs false
set_option maxRecDepth 100000
open Go.RowKit
structure Tch (fp:List Nat) (w w':World):Prop where
 os:w'.os=w.os
 tape:w'.tape=w.tape
 output:w'.output=w.output
 size:w.heap.size≤w'.heap.size
 block:∀ k,k < w.heap.size→k ∉ fp→w'.heap[k]? = w.heap[k]?
theorem Tch.refl (fp:List Nat) (w:World):Tch fp w w:=⟨rfl,rfl,rfl,Nat.le_refl _,fun _ _ _=>rfl⟩
theorem Tch.trans {fp:List Nat} {a b c:World} (h:Tch fp a b) (k:Tch fp b c):Tch fp a c :=
 ⟨k.os.trans h.os,k.tape.trans h.tape,k.output.trans h.output,Nat.le_trans h.size k.size,fun i hi hn=>(k.block i (Nat.lt_of_lt_of_le hi h.size) hn).trans (h.block i hi hn)⟩
theorem Tch.sub {fp fp':List Nat} {a b:World} (h:Tch fp a b) (hs:∀ k∈fp,k∈fp'):Tch fp' a b:=⟨h.os,h.tape,h.output,h.size,fun i hi hn=>h.block i hi (fun hm=>hn (hs _ hm))⟩
theorem Tch.of {a b:World} (h:Below a.heap.size a b) (fp:List Nat):Tch fp a b:=⟨h.os,h.tape,h.output,h.size,fun i hi _=>h.block i hi⟩
theorem Tch.below {fp:List Nat} {B:Nat} {a b:World} (h:Tch fp a b) (hB:B≤a.heap.size) (hf:∀ k∈fp,B≤k):Below B a b :=
 ⟨h.os,h.tape,h.output,h.size,fun k hk=>h.block k (Nat.lt_of_lt_of_le hk hB) (fun hm=>by have:=hf k hm;omega)⟩
theorem Tch.setW {fp:List Nat} {a:World} {g:Nat} (hg:g∈fp):∀ (us:List Value) (w:World) (o:Nat),Tch fp a w→Tch fp a (setW w g o us)
 |[],_,_,h=>h
 |u::us,w,o,h=>Tch.setW hg us _ _ ⟨h.os,h.tape,h.output,by simpa [World.setCell] using h.size,fun k hk hn=>(Below.heap_setCell _ _ _ _ (fun e=>hn (by rw [e];exact hg))).trans (h.block k hk hn)⟩
theorem Tch.drew {fp:List Nat} {a w:World} (h:Tch fp a w):Tch fp a w.drew:=⟨h.os,h.tape,h.output,h.size,h.block⟩
theorem Tch.alloc {fp:List Nat} {a w:World} (h:Tch fp a w) (o:Obj):Tch fp a (w.alloc o) :=
 ⟨h.os,h.tape,h.output,Nat.le_trans h.size (by simp),fun k hk hn=>(Below.heap_alloc _ _ _ (Nat.lt_of_lt_of_le hk h.size)).trans (h.block k hk hn)⟩
theorem OL.tch {α:Type} {e K:Nat} {E:World→List Value→α→List Nat→Prop} {w w':World} {base:Nat} {v:Value} {xs:List α} {fp fp':List Nat} (h:OL e K E w base v xs fp) (hE:EFr E) (ht:Tch fp' w w') (hd:∀ b∈fp,b ∉ fp'):OL e K E w' base v xs fp :=
 h.keep hE ht.size fun b hb=>ht.block b (h.lt b hb).2 (hd b hb)
def OInts (w:World) (base:Nat) (v:Value) (xs:List Int) (fp:List Nat):Prop:=w.ownsRow base 3 1 v xs.length (xs.flatMap cI)∧fp=v.ownBlock.toList
theorem OInts.mk {w:World} {base:Nat} {v:Value} {xs:List Int} (h:w.ownsRow base 3 1 v xs.length (xs.flatMap cI)):OInts w base v xs v.ownBlock.toList:=⟨h,rfl⟩
theorem OInts.lt {w:World} {base:Nat} {v:Value} {xs:List Int} {fp:List Nat} (h:OInts w base v xs fp):∀ b∈fp,base≤b∧b < w.heap.size:=by
 obtain ⟨h,rfl⟩:=h
 exact fun b hb=>h.lt b (ownBlock_mem hb)
theorem OInts.keep {w w':World} {base:Nat} {v:Value} {xs:List Int} {fp:List Nat} (h:OInts w base v xs fp) (hk:∀ b∈fp,w'.heap[b]? = w.heap[b]?):OInts w' base v xs fp:=by
 obtain ⟨h,rfl⟩:=h
 exact ⟨own_block h (fun b hb=>hk b (mem_ownBlock hb)),rfl⟩
theorem OInts.next {w w':World} {base:Nat} {v:Value} {xs:List Int} {fp:List Nat} (h:OInts w base v xs fp) (hb:Below w.heap.size w w'):OInts w' base v xs fp:=h.keep fun b hm=>hb.block b (h.lt b hm).2
theorem OInts.read {w:World} {base:Nat} {v:Value} {xs:List Int} {fp:List Nat} (h:OInts w base v xs fp) (hl:xs.length≤16777216):RInts 16777216 w w.heap.size v xs:=own_ints h.1 hl
theorem OInts.tch {w w':World} {base:Nat} {v:Value} {xs:List Int} {fp fp':List Nat} (h:OInts w base v xs fp) (ht:Tch fp' w w') (hd:∀ b∈fp,b∈fp'→False):OInts w' base v xs fp :=
 h.keep fun b hb=>ht.block b (h.lt b hb).2 (hd b hb)
theorem OInts.form {w:World} {base:Nat} {v:Value} {xs:List Int} {fp:List Nat} (h:OInts w base v xs fp):∃ A c,v=.slice A xs.length c∧xs.length≤c:=own_form2 h.1
theorem OInts.base {w:World} {base B:Nat} {v:Value} {xs:List Int} {fp:List Nat} (h:OInts w base v xs fp) (hB:B≤base):OInts w B v xs fp:=⟨own_base h.1 hB,h.2⟩
def MInts (w:World) (xs:List Int) (e:Ending) (w':World):Prop:=∃ v' fp,e=.returned v'∧OInts w' w.heap.size v' xs fp∧Below w.heap.size w w'
theorem MInts.mk {w w':World} {B:Nat} {v:Value} {xs:List Int} {fp:List Nat} (ho:OInts w' B v xs fp) (hB:w.heap.size≤B) (hb:Below w.heap.size w w'):MInts w xs (.returned v) w':=⟨v,fp,rfl,ho.base hB,hb⟩
theorem MInts.row {w w':World} {B:Nat} {v:Value} {xs:List Int} (ho:w'.ownsRow B 3 1 v xs.length (xs.flatMap cI)) (hB:w.heap.size≤B) (hb:Below w.heap.size w w'):MInts w xs (.returned v) w':=MInts.mk (OInts.mk ho) hB hb
theorem after_alloc {w w':World} {o:Obj} {B:Nat} (hB:B≤w.heap.size) (h:Below B (w.alloc o) w'):Below B w w':=((Below.refl B w).alloc hB o).trans h
theorem own_nil {α:Type} {f:α→List Value} {w:World} {base e K g:Nat} (hb:base≤g) (h:w.heap[g]? = some (.cells #[] e (0,0))):w.ownsRow base e K (.slice (some ⟨g,0,none⟩) 0 0) ([]:List α).length (([]:List α).flatMap f):=own_empty hb h
def ints (ps:List Nat):List Int:=ps.map fun (i:Nat)=>(i:Int)
theorem ints_length (ps:List Nat):(ints ps).length=ps.length:=List.length_map ..
theorem ints_get {ps:List Nat} {i p:Nat} (h:ps[i]? = some p):(ints ps)[i]? = some (p:Int):=by unfold ints;rw [List.getElem?_map,h];rfl
end Go.Proofs.YtioijfplbgpjpaaGreat
namespace Go.Proofs.YtioijfplbgpjpaaGreat
set_option linter.unusedVariables false
set_option linter.unusedSimpArgs false
set_option maxRecDepth 100000
open Go.RowKit
def OF {α:Type} (f:α→List Value) (e K:Nat) (w:World) (base:Nat) (v:Value) (xs:List α) (fp:List Nat):Prop:=w.ownsRow base e K v xs.length (xs.flatMap f)∧fp=v.ownBlock.toList
section
variable {α:Type} {f:α→List Value} {e K:Nat} {w w':World} {bs B:Nat} {v:Value} {xs:List α} {fp fp':List Nat}
theorem OF.mk (h:w.ownsRow bs e K v xs.length (xs.flatMap f)):OF f e K w bs v xs v.ownBlock.toList:=⟨h,rfl⟩
theorem OF.lt (h:OF f e K w bs v xs fp):∀ b∈fp,bs≤b∧b < w.heap.size:=by
 obtain ⟨h,rfl⟩:=h
 exact fun b hb=>h.lt b (ownBlock_mem hb)
theorem OF.nodup (h:OF f e K w bs v xs fp):fp.Nodup:=by obtain ⟨_,rfl⟩:=h;cases v.ownBlock <;> simp
theorem OF.keep (h:OF f e K w bs v xs fp) (hk:∀ b∈fp,w'.heap[b]? = w.heap[b]?):OF f e K w' bs v xs fp:=by
 obtain ⟨h,rfl⟩:=h
 exact ⟨own_block h (fun b hb=>hk b (mem_ownBlock hb)),rfl⟩
theorem OF.next (h:OF f e K w bs v xs fp) (hb:Below w.heap.size w w'):OF f e K w' bs v xs fp:=h.keep fun b hm=>hb.block b (h.lt b hm).2
theorem OF.tch (h:OF f e K w bs v xs fp) (ht:Tch fp' w w') (hd:∀ b∈fp,b∈fp'→False):OF f e K w' bs v xs fp:=h.keep fun b hb=>ht.block b (h.lt b hb).2 (hd b hb)
theorem OF.form (h:OF f e K w bs v xs fp):∃ A c,v=.slice A xs.length c∧xs.length≤c:=own_form2 h.1
theorem OF.base (h:OF f e K w bs v xs fp) (hB:B≤bs):OF f e K w B v xs fp:=⟨own_base h.1 hB,h.2⟩
theorem OF.read (h:OF f e K w bs v xs fp) (hK:∀ x,(f x).length=K) {bd:Nat} (hl:xs.length≤bd):RL bd K (flat f) w w.heap.size v xs :=
 OL.read (OL_of_own h.1 hK) (fun cs x f h h'=>eflat_read cs x f h h') hl
end
structure AtB (B:Nat) (W:World) (g:Nat) (t:TypeId) (cs:Array Value) (w:World):Prop where
 os:w.os=W.os
 tape:w.tape=W.tape
 output:w.output=W.output
 size:W.heap.size≤w.heap.size
 block:∀ k,k < B→k ≠ g→w.heap[k]? = W.heap[k]?
 blk:w.heap[g]? = some (.cells cs t (0,0))
section
variable {B:Nat} {W w w':World} {g:Nat} {t:TypeId} {cs:Array Value}
theorem AtB.here (h:W.heap[g]? = some (.cells cs t (0,0))):AtB B W g t cs W:=⟨rfl,rfl,rfl,Nat.le_refl _,fun _ _ _=>rfl,h⟩
theorem AtB.next (h:AtB B W g t cs w) (hb:Below w.heap.size w w') (hB:B≤W.heap.size):AtB B W g t cs w' :=
 ⟨hb.os.trans h.os,hb.tape.trans h.tape,hb.output.trans h.output,Nat.le_trans h.size hb.size,fun k hk hn=>(hb.block k (Nat.lt_of_lt_of_le hk (Nat.le_trans hB h.size))).trans (h.block k hk hn),(hb.block g (lt_of_block h.blk)).trans h.blk⟩
theorem AtB.store (h:AtB B W g t cs w) (j:Nat) (u:Value):AtB B W g t (cs.setIfInBounds j u) (w.setCell ⟨g,j,none⟩ u) :=
 ⟨h.os,h.tape,h.output,by have:=h.size;simpa [World.setCell] using this,fun k hk hn=>(Below.heap_setCell _ _ _ _ hn).trans (h.block k hk hn),heap_setCell_same w g j _ _ _ h.blk⟩
theorem AtB.cells (h:AtB B W g t cs w) (j:Nat):w.cell? ⟨g,j,none⟩=cs[j]?:=cell_of_row _ _ j _ _ (0,0) h.blk
theorem AtB.free (h:AtB B W g t cs w) (j:Nat):w.frozen? ⟨g,j,none⟩=false:=frozen_of_row _ _ j _ _ h.blk
theorem AtB.old (h:AtB B W g t cs w) {b:Nat} (hb:b < B) (hn:b ≠ g) {o:Obj} (ho:W.heap[b]? = some o):w.heap[b]? = some o:=(h.block b hb hn).trans ho
theorem AtB.lt (h:AtB B W g t cs w):g < w.heap.size:=lt_of_block h.blk
theorem AtB.low (h:AtB B W g t cs w) {w0:World} (h0:Below w0.heap.size w0 W) (hB:w0.heap.size≤B) (hg:w0.heap.size≤g):Below w0.heap.size w0 w :=
 ⟨h.os.trans h0.os,h.tape.trans h0.tape,h.output.trans h0.output,Nat.le_trans h0.size h.size,fun k hk=>(h.block k (Nat.lt_of_lt_of_le hk hB) (by omega)).trans (h0.block k hk)⟩
end
theorem below_setW {B:Nat} {a w:World} {g:Nat} (h:Below B a w) (hg:B≤g) (us:List Value) (o:Nat):Below B a (setW w g o us):=Below.setW hg us w o h
end Go.Proofs.YtioijfplbgpjpaaGreat
namespace Go.Proofs.YtioijfplbgpjpaaGreat
set_option linter.unusedVariables false
set_option linter.unusedSimpArgs false
set_option maxRecDepth 100000
open Go.RowKit
end Go.Proofs.YtioijfplbgpjpaaGreat
namespace Go.Proofs.YtioijfplbgpjpaaGreat
set_option linter.unusedVariables false
set_option linter.unusedSimpArgs false
set_option maxRecDepth 100000
open Go.RowKit Go.WideShapes Go.ChangeShapes Go.ChangeAt Go.Deep
open Go.ChangeMaps (open_string shut_string)
theorem own_:ownKnob Tryz.prog.godebug=none:=by kernel_rfl
theorem laidOut_:laidOutB Tryz.prog=true:=by kernel_rfl
section
variable {H:Type} {enc:TypeId×Value→H} {P:Program}
theorem post_of_below {f:Func} {s:ChangeSpec} {apart fresh handsOn again:Bool} {W W':World} {args:Array Value} {v:Value} {ds gs:List (DataW H)} {before pa pv:List MemPlace}
  (hW:DataW.Whole enc P f.params.toList s.vars apart W args.toList ds gs before)
  (hres:∀ (b:Nat) (sp:Nat→Bool) (hd:Bool),DataW.TrodAll enc P W' b sp hd f.resultTypes.toList (v.resultList f.resultTypes.size) (s.fn H (ds ++ gs)).results [])
  (hargs:∀ sp:Nat→Bool,(∀ p∈before,sp p.block=true)→DataW.TrodAll enc P W' 0 sp true f.params.toList args.toList (s.fn H (ds ++ gs)).args pa)
  (hvars:∀ sp:Nat→Bool,(∀ p∈before,sp p.block=true)→DataW.TrodVars enc P W' sp s.vars (s.fn H (ds ++ gs)).vars pv)
  (hps:before=pa ++ pv) (hb:Below W.heap.size W W')
  (hok:∀ (j:Nat) (t:TypeId) (r:Value),f.resultTypes[j]? = some t→(v.resultList f.resultTypes.size)[j]? = some r→Value.okWide P W' .any 0 t r) :
  s.post enc P f apart fresh handsOn again W args v W':=by
 have hlt:∀ p∈before,p.block < W.heap.size:=fun p hp=>hW.lt p hp
 have hold:∀ p∈before,(fun b=>decide (b < W.heap.size)) p.block=true:=fun p hp=>by simpa using hlt p hp
 refine ⟨ds,gs,before,[],pa,pv,hW,hres _ _ _,hargs _ hold,hvars _ hold,World.keptBut_mono (fun p hp=>⟨hp,?_⟩) (hb.frame (·∈before)),fun _=>?_⟩
 ·rw [hps,List.mem_append] at hp
  exact Or.inr hp
 ·obtain ⟨_,_,_,_,_,hz,hn⟩:=hW
  refine ⟨hok,_,_,([] ++ pa) ++ pv,⟨[] ++ pa,pv,trodAll_append (hargs _ (fun _ _=>rfl)) (hres _ _ _),hvars _ (fun _ _=>rfl),rfl,?_,?_⟩,?_⟩
  ·intro b off hp
   have hin:MemPlace.cell b off∈before:=by rw [hps];simpa using hp
   rw [hb.frozen (hlt _ hin)]
   exact hz b off hin
  ·intro ha
   have:=hn ha
   rw [hps] at this
   simpa using this
  ·intro p hp _
   rw [hps]
   simpa using hp
theorem stays {t:TypeId} (hl:laidOutB P=true) (hr:P.readableRec t=true) (hrow:t < P.types.size) {W W':World} {sp':Nat→Bool} {v:Value} {d:DataW H} {ps:List MemPlace}
  (h:DataW.Trod enc P W 0 (fun _=>true) true t v d ps) (hb:Below W.heap.size W W') (hlt:∀ x∈ps,x.block < W.heap.size) (hs:∀ p∈ps,sp' p.block=true):DataW.Trod enc P W' 0 sp' true t v d ps :=
 WideElems.Trod_stays hl hr hrow h (fun x hx=>hb.same (hlt x hx)) hs
end
theorem list_of {α:Type} {Q:Nat→α→Prop} : ∀ (n:Nat),(∀ i,i < n→∃ x,Q i x)→∃ xs:List α,xs.length=n∧∀ i x,xs[i]? = some x→Q i x
 |0,_=>⟨[],rfl,fun i x h=>by simp at h⟩
 |n + 1,h=>by
  obtain ⟨xs,hl,hx⟩:=list_of n (fun i hi=>h i (by omega))
  obtain ⟨y,hy⟩:=h n (by omega)
  refine ⟨xs ++ [y],by simp [hl],fun i x hi=>?_⟩
  rcases Nat.lt_or_ge i n with h1 | h1
  ·rw [List.getElem?_append_left (by omega)] at hi
   exact hx i x hi
  ·rw [List.getElem?_append_right (by omega)] at hi
   have h2:i - xs.length=0:=by
    have:=(List.getElem?_eq_some_iff.1 hi).1
    simp at this
    omega
   rw [h2] at hi
   simp at hi
   subst hi
   obtain rfl:i=n:=by omega
   exact hy
section
variable {H:Type} {enc:TypeId×Value→H} {P:Program} {w:World} {held:Bool}
abbrev Tells {α:Type} (enc:TypeId×Value→H) (P:Program) (w:World) (held:Bool) (e:TypeId) (B K:Nat) (R:World→Nat→List Value→α→Prop):Prop :=
 ∀ (n:Nat) (cs:List Value) (y:DataW H×List MemPlace),DataW.trod enc P w 0 (fun _=>true) held n e cs=some y→(∀ p∈y.2,p.block < B)→∃ x,cs.length=K∧R w B cs x
theorem tells_slice {α:Type} {t e:TypeId} {B K:Nat} {R:World→Nat→List Value→α→Prop} (ht:P.underlying t=some (.slice e)) (hC:P.cellsOf e=K) (hK:0 < K) (hE:Tells enc P w held e B K R)
  {n:Nat} {cs:List Value} {y:DataW H×List MemPlace} (h:DataW.trod enc P w 0 (fun _=>true) held n t cs=some y) (hB:∀ p∈y.2,p.block < B) :
  ∃ v xs,cs=[v]∧RL 9223372036854775807 K R w B v xs:=by
 rcases open_slice ht h with ⟨rfl,rfl⟩ | ⟨a,len,cap,m,n',D,Pl,rfl,_,hl,hm,hmm,rfl,hi⟩
 ·exact ⟨_,[],rfl,none,0,rfl,by simp,fun h=>by simp at h⟩
 ·simp only [if_true] at hmm
  have hpl:∀ i,i < m→∀ p∈Pl i,p.block < B:=fun i hi p hp=>hB p (by simp only [List.mem_append,List.mem_flatMap,List.mem_range];exact .inr ⟨i,hi,hp⟩)
  obtain ⟨xs,hxl,hx⟩:=list_of (Q:=fun i x=>∃ cs',w.cells? 0 (a.add (i * K)) K=some cs'∧cs'.length=K∧R w B cs' x) len (fun i hil=>by
   obtain ⟨cs',h1,h2⟩:=hi i (by omega)
   rw [hC] at h1
   obtain ⟨x,h3,h4⟩:=hE _ _ _ h2 (hpl i (by omega))
   exact ⟨x,cs',h1,h3,h4⟩)
  subst hxl
  refine ⟨_,xs,rfl,some a,cap,rfl,⟨by unfold maxLen at hm;omega,by omega⟩,fun hn=>?_⟩
  have hblk:a.block < B:=by
   obtain ⟨cs',h1,_⟩:=hi 0 (by omega)
   have:=hB (.cell a.block a.off) (by
    simp only [List.mem_append]
    refine .inl ?_
    rw [hC]
    unfold MemPlace.row
    simp only [List.mem_map,List.mem_range]
    exact ⟨0,Nat.mul_pos (by omega) hK,by simp⟩)
   exact this
  have hspot:a.spot=none:=by
   obtain ⟨cs',h1,h2,_⟩:=hx 0 _ (List.getElem?_eq_getElem hn)
   obtain ⟨_,_,h4⟩:=World.cells?_some h1
   have h5:=h4 0 hK
   have h6:cs'[0]? = some (cs'[0]'(by omega)):=List.getElem?_eq_getElem _
   rw [h6] at h5
   simp only [Nat.zero_mul,Addr.add,if_true] at h5
   unfold World.cell? at h5
   cases hs:a.spot with
   |none=>rfl
   |some s=>rw [hs] at h5;split at h5 <;> simp at h5
  obtain ⟨ab,ao,asp⟩:=a
  simp only at hspot hblk
  subst hspot
  refine ⟨ab,ao,rfl,hblk,fun i x hxi=>?_⟩
  obtain ⟨cs',h1,h2,h3⟩:=hx i x hxi
  refine ⟨cs',h2,h3,fun j u hu=>?_⟩
  obtain ⟨_,_,h4⟩:=World.cells?_some h1
  have hj:=(List.getElem?_eq_some_iff.1 hu).1
  have h5:=h4 j (by omega)
  rw [hu] at h5
  rw [← h5]
  congr 1
  rw [Go.Deep.add_add]
  unfold Addr.add
  split
  ·rename_i h0;simp only [Nat.add_eq_zero_iff] at h0;rw [h0.1,h0.2];simp
  ·simp [Nat.add_assoc]
theorem read_slice {α:Type} {t e:TypeId} {K:Nat} {R:World→Nat→List Value→α→Prop} {b0:Nat} {v:Value} {d:DataW H} {ps:List MemPlace} (ht:P.underlying t=some (.slice e)) (hC:P.cellsOf e=K) (hK:0 < K)
  (hE:Tells enc P w held e w.heap.size K R) (hv:Value.okWide P w .any b0 t v) (h:DataW.Trod enc P w 0 (fun _=>true) held t v d ps) (hlt:∀ p∈ps,p.block < w.heap.size):∃ xs,RL 9223372036854775807 K R w w.heap.size v xs:=by
 obtain ⟨a,len,cap,rfl⟩:=okWide_slice ht hv
 obtain ⟨n,hn⟩:=h
 obtain ⟨v',xs,h1,h2⟩:=tells_slice ht hC hK hE hn hlt
 simp only [Value.cells,List.cons.injEq,and_true] at h1
 subst h1
 exact ⟨xs,h2⟩
end
theorem RL.all {α:Type} {bd K:Nat} {R:World→Nat→List Value→α→Prop} {w:World} {B:Nat} {v:Value} {xs:List α} (h:RL bd K R w B v xs) {x:α} (hx:x∈xs):∃ cs,R w B cs x:=by
 obtain ⟨A,c,rfl,hb,h⟩:=h
 obtain ⟨i,hi⟩:=List.mem_iff_getElem?.1 hx
 obtain ⟨b,off,rfl,hlt,hc⟩:=h (by have:=(List.getElem?_eq_some_iff.1 hi).1;omega)
 obtain ⟨cs,_,h1,_⟩:=hc i x hi
 exact ⟨cs,h1⟩
end Go.Proofs.YtioijfplbgpjpaaGreat
namespace Go.Proofs.YtioijfplbgpjpaaGreat
set_option linter.unusedVariables false
set_option linter.unusedSimpArgs false
set_option maxRecDepth 100000
open Go.RowKit Go.WideShapes Go.ChangeShapes Go.ChangeAt Go.Deep
set_option maxRecDepth 100000
end Go.Proofs.YtioijfplbgpjpaaGreat
namespace Go.Proofs.YtioijfplbgpjpaaGreat
set_option linter.unusedVariables false
set_option linter.unusedSimpArgs false
set_option maxRecDepth 100000
open Go.RowKit
set_option maxHeartbeats 400000 in
theorem in_any (a b c:Int) (w:World) :
  Calls Tryz.prog 114 #[.int .i64 a,.int .i64 b,.int .i64 c] w fun e w'=>e=.returned (.bool (inB a b c))∧w=w':=by
 go_enter Tryz.func114,Tryz.ntmps114
 go_wp2
 all_goals go_ret
 all_goals (refine ⟨?_,rfl⟩;unfold inB;congr 2;simp;try omega)
set_option maxHeartbeats 400000 in
theorem l1In_any (a b c:Int) (w:World) :
  Calls Tryz.prog 104 #[.int .i64 a,.int .i64 b,.int .i64 c] w fun e w'=>e=.returned (.bool (inB a b c))∧w=w':=by
 go_enter Tryz.func104,Tryz.ntmps104
 go_wp2
 all_goals go_ret
 all_goals (refine ⟨?_,rfl⟩;unfold inB;congr 2;simp;try omega)
end Go.Proofs.YtioijfplbgpjpaaGreat
namespace Go.Proofs.YtioijfplbgpjpaaGreat
set_option linter.unusedVariables false
set_option linter.unusedSimpArgs false
set_option maxRecDepth 100000
open Go.RowKit
def uBad (xs:List Int) (i:Nat):Bool:=!inB (xs.getD i 0) 0 999 || (decide (0 < i) && decide (xs.getD i 0≤xs.getD (i - 1) 0))
def unitsOk (xs:List Int):Bool:=decide (xs.length≤100) && (List.range xs.length).all fun i=>!uBad xs i
def cartonOk (c:Carton):Bool:=inB c.type 0 999 && inB c.group 0 3 && unitsOk c.units
def spotOk (s:Spot):Bool:=inB s.pallet 0 2000 && inB s.x 0 2000 && inB s.y 0 2000 && inB s.z 0 2000
def planOk (p:Plan):Bool:=decide (p.spots.length=p.cartons.length) && decide (p.cartons.length≤100) && (List.range p.cartons.length).all fun i=>cartonOk (p.cartons.getD i default) && spotOk (p.spots.getD i default)
theorem range_all_false {n k:Nat} {f:Nat→Bool} (hk:k < n) (h:f k=false):(List.range n).all f=false:=by
 rw [List.all_eq_false]
 exact ⟨k,List.mem_range.2 hk,by simp [h]⟩
theorem range_all_true {n:Nat} {f:Nat→Bool} (h:∀ i,i < n→f i=true):(List.range n).all f=true:=by
 rw [List.all_eq_true]
 exact fun i hi=>h i (List.mem_range.1 hi)
theorem below_step {k:Nat} {f:Nat→Bool} (h:∀ i,i < k→f i=true) (hk:f k=true):∀ i,i < k + 1→f i=true:=by
 intro i hi
 rcases Nat.lt_or_ge i k with h1 | h1
 ·exact h i h1
 ·obtain rfl:i=k:=by omega
  exact hk
theorem getD_some {α:Type} {xs:List α} {k:Nat} {x d:α} (h:xs[k]? = some x):xs.getD k d=x:=by simp [List.getD,h]
end Go.Proofs.YtioijfplbgpjpaaGreat
