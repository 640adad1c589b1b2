/-
  The words for memory that all walks of this family use: a slice that reads as a list (RL), and small facts. No program is named here.
-/
import Derived.WalkKit
import Derived.WalkSpells
import Derived.WalkLawsBesides
import Derived.BigQuiet
import Derived.Deep.QuietTactic
import Derived.IntWalk
import Derived.Lib.Hide
import Derived.Laws.OwnMore
import Derived.Deep.Draws
import Derived.Deep.RegionHeld3
import Derived.Test.YtioijfplbgpjpaaGreatRows
import Derived.Maps.AppendAt
import Derived.Deep.AppendLies
import Derived.RegionTactic
import Derived.OwnWalk
namespace Go.Proofs.YtioijfplbgpjpaaGreat
set_option linter.unusedVariables false
set_option linter.unusedSimpArgs false
set_option maxRecDepth 100000
open Go.RowKit
theorem ret_int {k:IntKind} {a b:Int} (h:a=b):Ending.returned (.int k a)=.returned (.int k b):=by rw [h]
theorem ret_bool {a b:Bool} (h:a=b):Ending.returned (.bool a)=.returned (.bool b):=by rw [h]
def RMono {α:Type} (R:World→Nat→List Value→α→Prop):Prop :=
 ∀ (w w':World) (B B':Nat) (cs:List Value) (x:α),(∀ p:Addr,p.block < B→w'.cell? p=w.cell? p)→B≤B'→R w B cs x→R w' B' cs x
def RL {α:Type} (bd k:Nat) (R:World→Nat→List Value→α→Prop) (w:World) (B:Nat) (v:Value) (xs:List α):Prop :=
 ∃ (A:Option Addr) (c:Nat),v=.slice A xs.length c∧(xs.length≤bd∧xs.length≤c)∧(0 < xs.length→∃ b off,A=some ⟨b,off,none⟩∧b < B ∧
  ∀ (i:Nat) (x:α),xs[i]? = some x→∃ cs,cs.length=k∧R w B cs x∧∀ (j:Nat) (u:Value),cs[j]? = some u→w.cell? ⟨b,off + i * k + j,none⟩=some u)
section
variable {α:Type} {bd k:Nat} {R:World→Nat→List Value→α→Prop} {w w':World} {B B':Nat} {v:Value} {xs:List α}
theorem RL.keep (h:RL bd k R w B v xs) (hm:RMono R) (hk:∀ p:Addr,p.block < B→w'.cell? p=w.cell? p) (hB:B≤B'):RL bd k R w' B' v xs:=by
 obtain ⟨A,c,rfl,hb,h⟩:=h
 refine ⟨A,c,rfl,hb,fun hn=>?_⟩
 obtain ⟨b,off,rfl,hlt,hc⟩:=h hn
 refine ⟨b,off,rfl,by omega,fun i x hx=>?_⟩
 obtain ⟨cs,hl,hR,hcs⟩:=hc i x hx
 exact ⟨cs,hl,hm _ _ _ _ _ _ hk hB hR,fun j u hu=>(hk _ hlt).trans (hcs j u hu)⟩
theorem RL.below (h:RL bd k R w B v xs) (hm:RMono R) (hb:Below B w w'):RL bd k R w' B v xs:=h.keep hm (fun _ hp=>hb.cell hp) (Nat.le_refl _)
theorem RL.more (h:RL bd k R w B v xs) (hm:RMono R) (hB:B≤B'):RL bd k R w B' v xs:=h.keep hm (fun _ _=>rfl) hB
theorem RL.wide {bd':Nat} (h:RL bd k R w B v xs) (hb:xs.length≤bd'):RL bd' k R w B v xs:=by
 obtain ⟨A,c,rfl,h0,h⟩:=h
 exact ⟨A,c,rfl,⟨hb,h0.2⟩,h⟩
end
theorem RL.at_ {α:Type} {bd K:Nat} {R:World→Nat→List Value→α→Prop} {w:World} {B n c:Nat} {A:Option Addr} {xs:List α} (h:RL bd K R w B (.slice A n c) xs) (i:Nat) (hi:i < xs.length) :
  ∃ b off x cs,A=some ⟨b,off,none⟩∧b < B∧xs[i]? = some x∧cs.length=K∧R w B cs x∧∀ (j:Nat) (u:Value),cs[j]? = some u→w.cell? ⟨b,off + i * K + j,none⟩=some u:=by
 obtain ⟨A',c',hv,_,hA⟩:=h
 obtain ⟨b,off,rfl,hb,hc⟩:=hA (by omega)
 injection hv with h1 _ _
 obtain ⟨cs,hl,hR,hcs⟩:=hc i _ (List.getElem?_eq_getElem hi)
 exact ⟨b,off,_,cs,h1,hb,List.getElem?_eq_getElem hi,hl,hR,hcs⟩
theorem RL.len {α:Type} {bd K:Nat} {R:World→Nat→List Value→α→Prop} {w:World} {B:Nat} {v:Value} {xs:List α} (h:RL bd K R w B v xs):xs.length≤bd:=by
 obtain ⟨_,_,_,hb,_⟩:=h
 exact hb.1
theorem RL.len_cap {α:Type} {bd K:Nat} {R:World→Nat→List Value→α→Prop} {w:World} {B n c:Nat} {A:Option Addr} {xs:List α} (h:RL bd K R w B (.slice A n c) xs):n=xs.length∧n≤c:=by
 obtain ⟨_,_,hv,hb,_⟩:=h
 injection hv with _ h2 h3
 omega
theorem RL.take {α:Type} {bd K:Nat} {R:World→Nat→List Value→α→Prop} {w:World} {B n c:Nat} {A:Option Addr} {xs:List α} (h:RL bd K R w B (.slice A n c) xs) (k:Nat) (hk:k≤n):RL bd K R w B (.slice A k c) (xs.take k):=by
 obtain ⟨A',c',hv,hb,hA⟩:=h
 injection hv with h1 h2 h3
 subst h1 h2 h3
 have hl:(xs.take k).length=k:=by rw [List.length_take];omega
 refine ⟨A,c,by rw [hl],by rw [hl];omega,fun hn=>?_⟩
 obtain ⟨b,off,rfl,hB,hc⟩:=hA (by omega)
 refine ⟨b,off,rfl,hB,fun i x hx=>hc i x ?_⟩
 rw [List.getElem?_take] at hx
 split at hx
 ·exact hx
 ·cases hx
theorem RL.drop {α:Type} {bd K:Nat} {R:World→Nat→List Value→α→Prop} {w:World} {B n c b off:Nat} {xs:List α} (h:RL bd K R w B (.slice (some ⟨b,off,none⟩) n c) xs) (k:Nat) (hk:k≤n):RL bd K R w B (.slice (some ⟨b,off + k * K,none⟩) (n - k) (c - k)) (xs.drop k):=by
 obtain ⟨A',c',hv,hb,hA⟩:=h
 injection hv with h1 h2 h3
 subst h1 h2 h3
 have hl:(xs.drop k).length=xs.length - k:=List.length_drop
 refine ⟨_,_,by rw [hl],by rw [hl];omega,fun hn=>?_⟩
 obtain ⟨b',off',he,hB,hc⟩:=hA (by omega)
 injection he with he
 injection he with he1 he2
 subst he1 he2
 refine ⟨_,_,rfl,hB,fun i x hx=>?_⟩
 rw [List.getElem?_drop] at hx
 obtain ⟨cs,g1,g2,g3⟩:=hc _ x hx
 refine ⟨cs,g1,g2,fun j u hu=>?_⟩
 have:=g3 j u hu
 rw [Nat.add_mul] at this
 rw [← this]
 congr 2
 omega
theorem RL.some_ {α:Type} {bd K:Nat} {R:World→Nat→List Value→α→Prop} {w:World} {B n c:Nat} {A:Option Addr} {xs:List α} (h:RL bd K R w B (.slice A n c) xs) (hn:0 < n):∃ b off,A=some ⟨b,off,none⟩:=by
 obtain ⟨A',c',hv,hb,hA⟩:=h
 injection hv with h1 h2 h3
 subst h1 h2 h3
 obtain ⟨b,off,h,_⟩:=hA hn
 exact ⟨b,off,h⟩
theorem RL.weaken {α:Type} {bd bd' K:Nat} {R R':World→Nat→List Value→α→Prop} {w:World} {B:Nat} {v:Value} {xs:List α} (h:RL bd K R w B v xs) (hbd:xs.length≤bd') (hR:∀ cs x,x∈xs→R w B cs x→R' w B cs x):RL bd' K R' w B v xs:=by
 obtain ⟨A,c,rfl,hb,h⟩:=h
 refine ⟨A,c,rfl,⟨hbd,hb.2⟩,fun hn=>?_⟩
 obtain ⟨b,off,rfl,hlt,hc⟩:=h hn
 refine ⟨b,off,rfl,hlt,fun i x hx=>?_⟩
 obtain ⟨cs,hl,h1,h2⟩:=hc i x hx
 exact ⟨cs,hl,hR _ _ (List.mem_of_getElem? hx) h1,h2⟩
theorem RL.next {α:Type} {bd k:Nat} {R:World→Nat→List Value→α→Prop} {w w':World} {v:Value} {xs:List α} (h:RL bd k R w w.heap.size v xs) (hm:RMono R) (hb:Below w.heap.size w w'):RL bd k R w' w'.heap.size v xs:=h.keep hm (fun _ hp=>hb.cell hp) hb.size
def flat {α:Type} (f:α→List Value):World→Nat→List Value→α→Prop:=fun _ _ cs x=>cs=f x
theorem flat_mono {α:Type} (f:α→List Value):RMono (flat f):=fun _ _ _ _ _ _ _ _ h=>h
def cI (n:Int):List Value:=[.int .i64 n]
theorem RL.at1 {α:Type} {bd:Nat} {f:α→List Value} {w:World} {B n c:Nat} {A:Option Addr} {xs:List α} (h:RL bd 1 (flat f) w B (.slice A n c) xs) (i:Nat) (hi:i < xs.length) :
  ∃ b off x,A=some ⟨b,off,none⟩∧b < B∧xs[i]? = some x∧∀ u,f x=[u]→w.cell? ⟨b,off + i,none⟩=some u:=by
 obtain ⟨b,off,x,cs,h1,h2,h3,_,rfl,h5⟩:=h.at_ i hi
 exact ⟨b,off,x,h1,h2,h3,fun u hu=>by have:=h5 0 u (by rw [hu];rfl);simpa using this⟩
def Pre {α:Type} (K:Nat) (f:α→List Value) (xs:List α) (k:Nat) (cs:List Value):Prop :=
 cs.length=xs.length * K∧∀ i x,i < k→xs[i]? = some x→∀ (j:Nat) (u:Value),(f x)[j]? = some u→cs[i * K + j]? = some u
theorem Pre.zero {α:Type} {K:Nat} {f:α→List Value} {xs:List α} {cs:List Value} (h:cs.length=xs.length * K):Pre K f xs 0 cs:=⟨h,fun _ _ hi=>by omega⟩
theorem Pre.step {α:Type} {K:Nat} {f:α→List Value} {xs:List α} {k:Nat} {cs cs':List Value} {x:α} (h:Pre K f xs k cs) (hx:xs[k]? = some x) (hf:(f x).length≤K) (hl:cs'.length=cs.length)
  (hnew:∀ j u,(f x)[j]? = some u→cs'[k * K + j]? = some u) (hold:∀ i,i < k * K→cs'[i]? = cs[i]?) (hK:∀ y,(f y).length≤K):Pre K f xs (k + 1) cs':=by
 refine ⟨hl.trans h.1,fun i y hi hy j u hu=>?_⟩
 rcases Nat.lt_or_ge i k with hlt | hge
 ·rw [hold]
  ·exact h.2 i y hlt hy j u hu
  ·have hj:j < K:=Nat.lt_of_lt_of_le (List.getElem?_eq_some_iff.1 hu).1 (hK y)
   have:(i + 1) * K≤k * K:=Nat.mul_le_mul_right _ hlt
   rw [Nat.add_mul] at this
   omega
 ·obtain rfl:i=k:=by omega
  rw [hx] at hy
  injection hy with hy
  subst hy
  exact hnew j u hu
theorem Pre.done {α:Type} {K:Nat} {f:α→List Value} : ∀ {xs:List α} {cs:List Value},Pre K f xs xs.length cs→(∀ x,(f x).length=K)→cs=xs.flatMap f:=by
 intro xs
 induction xs with
 |nil=>intro cs h _;have:=h.1;simp at this;simp [this]
 |cons x xs ih =>
  intro cs h hf
  have hl:=h.1
  have h1:cs.take K=f x:=by
   apply List.ext_getElem?
   intro j
   rcases Nat.lt_or_ge j K with hj | hj
   ·obtain ⟨u,hu⟩:∃ u,(f x)[j]? = some u:=⟨_,List.getElem?_eq_getElem (by rw [hf x];exact hj)⟩
    have:=h.2 0 x (by simp) (by simp) j u hu
    rw [hu,List.getElem?_take,if_pos hj]
    simpa using this
   ·rw [List.getElem?_eq_none (by rw [List.length_take];omega),List.getElem?_eq_none (by rw [hf x];exact hj)]
  have h2:cs.drop K=xs.flatMap f:=by
   refine ih ⟨by rw [List.length_drop,hl,List.length_cons,Nat.add_mul];omega,fun i y hi hy j u hu=>?_⟩ hf
   have:=h.2 (i + 1) y (by simp;omega) (by simpa using hy) j u hu
   rw [List.getElem?_drop,← this]
   congr 1
   rw [Nat.add_mul];omega
  rw [← List.take_append_drop K cs,h1,h2]
  simp
def setL (cs:List Value) (o:Nat):List Value→List Value
 |[]=>cs
 |u::us=>setL (cs.set o u) (o + 1) us
def setW (w:World) (g o:Nat):List Value→World
 |[]=>w
 |u::us=>setW (w.setCell ⟨g,o,none⟩ u) g (o + 1) us
theorem setL_get:∀ (us cs:List Value) (o i:Nat),o + us.length≤cs.length→(setL cs o us)[i]? = if o≤i∧i < o + us.length then us[i - o]? else cs[i]?
 |[],cs,o,i,_=>by rw [if_neg (by simp)];rfl
 |u::us,cs,o,i,h=>by
  simp only [List.length_cons] at h
  unfold setL
  rw [setL_get us _ _ _ (by simp;omega)]
  simp only [List.length_cons]
  by_cases h1:o + 1≤i∧i < o + 1 + us.length
  ·rw [if_pos h1,if_pos (by omega),show i - o=(i - (o + 1)) + 1 by omega];simp
  ·rw [if_neg h1]
   by_cases h2:i=o
   ·subst h2
    rw [if_pos (by omega),List.getElem?_set_self (by omega)];simp
   ·rw [if_neg (by omega),List.getElem?_set_ne (by omega)]
theorem storedL {base e size g n cap:Nat} : ∀ (us xs:List Value) (w:World) (o:Nat),w.ownsRow base e size (.slice (some ⟨g,0,none⟩) n cap) n xs→(setW w g o us).ownsRow base e size (.slice (some ⟨g,0,none⟩) n cap) n (setL xs o us)
 |[],_,_,_,h=>h
 |u::us,xs,w,o,h=>storedL us _ _ _ (h.stored o u).1
theorem Below.setW {B:Nat} {a:World} {g:Nat} (hB:B≤g):∀ (us:List Value) (w:World) (o:Nat),Below B a w→Below B a (setW w g o us)
 |[],_,_,h=>h
 |u::us,w,o,h=>Below.setW hB us _ _ (h.setCell hB u)
abbrev RInts (bd:Nat) (w:World) (B:Nat) (v:Value) (xs:List Int):Prop:=RL bd 1 (flat cI) w B v xs
theorem heap_alloc_if (w:World) (o:Obj) (k:Nat):(w.alloc o).heap[k]? = if k=w.heap.size then some o else w.heap[k]?:=by
 show (w.heap.push o)[k]? = _
 rw [Array.getElem?_push]
theorem blk_next {w w':World} {b:Nat} {o:Obj} (h:w.heap[b]? = some o) (hb:Below w.heap.size w w'):w'.heap[b]? = some o:=(hb.block b (lt_of_block h)).trans h
theorem bstep {a b c:World} (h:Below a.heap.size a b) (k:Below b.heap.size b c):Below a.heap.size a c:=h.trans (k.mono h.size)
structure Ext (B:Nat) (W:World) where
 world:World
 ok:Below B W world
instance Ext.ne (B:Nat) (W:World):Nonempty (Ext B W):=⟨⟨W,Below.refl B W⟩⟩
theorem Ext.cells {B:Nat} {W:World} (x:Ext B W) {b o:Nat} (h:b < B):x.world.cell? ⟨b,o,none⟩=W.cell? ⟨b,o,none⟩:=x.ok.cell (p:=⟨b,o,none⟩) h
theorem Ext.size {B:Nat} {W:World} (x:Ext B W):W.heap.size≤x.world.heap.size:=x.ok.size
theorem ext_call {P:Program} {f:FuncId} {args:Array Value} {B:Nat} {W:World} {x:Ext B W} {v:Value} (hB:B≤W.heap.size)
  (h:Calls P f args x.world fun e w'=>e=.returned v∧Below x.world.heap.size x.world w'):Calls P f args x.world fun e w''=>e=.returned v∧∃ y:Ext B W,w''=y.world :=
 h.mono fun _ w' ⟨he,hb⟩=>⟨he,⟨w',x.ok.trans (hb.mono (Nat.le_trans hB x.size))⟩,rfl⟩
theorem quiet_left {P:Program} {f:FuncId} {args:Array Value} {w:World} {n:Nat} {v:Value}
  (h:Calls P f args (w.drewN n) fun e w'=>e=.returned v∧w.drewN n=w'):Calls P f args (w.drewN n) fun e w''=>e=.returned v∧∃ m,w''=w.drewN m :=
 h.mono fun _ _ ⟨he,hm⟩=>⟨he,n,hm.symm⟩
theorem below_drewN {B:Nat} {a w:World} (h:Below B a w) (n:Nat):Below B a (w.drewN n):=⟨h.os,h.tape,h.output,h.size,h.block⟩
theorem bR {B:Nat} {a:World} : Below B a a:=Below.refl _ _
theorem bD {B:Nat} {a w:World} (h:Below B a w):Below B a w.drew:=h.drew
theorem bA {B:Nat} {a w:World} {o:Obj} (h:Below B a w) (hB:B≤w.heap.size):Below B a (w.alloc o):=h.alloc hB o
theorem bC {B:Nat} {a w:World} {p:Addr} {u:Value} (h:Below B a w) (hp:B≤p.block):Below B a (w.setCell p u):=h.setCell hp u
theorem bW {B:Nat} {a w:World} {g o:Nat} {us:List Value} (h:Below B a w) (hB:B≤g):Below B a (setW w g o us):=Below.setW hB us w o h
theorem bN {B n:Nat} {a w:World} (h:Below B a w):Below B a (w.drewN n):=below_drewN h n
class MIn {α:Type} (q:α) (l:List α):Prop where
 out:q∈l
instance {α:Type} {q p:α} {l:List α} [h:MIn q l]:MIn q (p::l):=⟨.tail _ h.out⟩
instance {α:Type} {q:α} {l:List α} : MIn q (q::l):=⟨.head _⟩
theorem mq {α:Type} {q:α} {l:List α} [h:MIn q l]:q∈l:=h.out
end Go.Proofs.YtioijfplbgpjpaaGreat
namespace Go.Proofs.YtioijfplbgpjpaaGreat
set_option linter.unusedVariables false
set_option linter.unusedSimpArgs false
set_option maxRecDepth 100000
open Go.RowKit
def EFr {α:Type} (E:World→List Value→α→List Nat→Prop):Prop :=
 ∀ (w w':World) (cs:List Value) (x:α) (f:List Nat),(∀ b∈f,w'.heap[b]? = w.heap[b]?)→E w cs x f→E w' cs x f
def PO {α:Type} (K:Nat) (E:World→List Value→α→List Nat→Prop) (w:World) (xs:List α) (k:Nat) (cs:List Value) (fp:List Nat):Prop :=
 ∃ fps:List (List Nat),fp=fps.flatten∧fps.length=k∧∀ i x,i < k→xs[i]? = some x→∃ ecs f,ecs.length=K∧fps[i]? = some f∧E w ecs x f∧∀ (j:Nat) (u:Value),ecs[j]? = some u→cs[i * K + j]? = some u
def OL {α:Type} (e K:Nat) (E:World→List Value→α→List Nat→Prop) (w:World) (base:Nat) (v:Value) (xs:List α) (fp:List Nat):Prop :=
 ∃ cs ifp,w.ownsRow base e K v xs.length cs∧fp=v.ownBlock.toList ++ ifp∧fp.Nodup∧(∀ b∈fp,base≤b∧b < w.heap.size)∧PO K E w xs xs.length cs ifp
section
variable {α:Type} {e K:Nat} {E:World→List Value→α→List Nat→Prop} {w w':World} {base:Nat} {v:Value} {xs:List α} {fp:List Nat} {k:Nat} {cs:List Value}
theorem PO.zero:PO K E w xs 0 cs []:=⟨[],rfl,rfl,fun _ _ h=>by omega⟩
theorem PO.keep (h:PO K E w xs k cs fp) (hE:EFr E) (hk:∀ b∈fp,w'.heap[b]? = w.heap[b]?):PO K E w' xs k cs fp:=by
 obtain ⟨fps,rfl,hl,h⟩:=h
 refine ⟨fps,rfl,hl,fun i x hi hx=>?_⟩
 obtain ⟨ecs,f,h1,h2,h3,h4⟩:=h i x hi hx
 exact ⟨ecs,f,h1,h2,hE _ _ _ _ _ (fun b hb=>hk b (List.mem_flatten.2 ⟨f,List.mem_of_getElem? h2,hb⟩)) h3,h4⟩
theorem PO.below {B:Nat} (h:PO K E w xs k cs fp) (hE:EFr E) (hb:Below B w w') (hf:∀ b∈fp,b < B):PO K E w' xs k cs fp:=h.keep hE fun b hm=>hb.block b (hf b hm)
theorem PO.step {x:α} {ecs:List Value} {f:List Nat} (h:PO K E w xs k cs fp) (hx:xs[k]? = some x) (hl:cs.length=xs.length * K) (he:ecs.length=K) (hE:E w ecs x f):PO K E w xs (k + 1) (setL cs (k * K) ecs) (fp ++ f):=by
 obtain ⟨fps,rfl,hfl,h⟩:=h
 have hk:=(List.getElem?_eq_some_iff.1 hx).1
 have hle:k * K + K≤cs.length:=by rw [hl,← Nat.succ_mul];exact Nat.mul_le_mul_right _ hk
 have hg:=fun i=>setL_get ecs cs (k * K) i (by rw [he];exact hle)
 refine ⟨fps ++ [f],by simp,by simp [hfl],fun i y hi hy=>?_⟩
 rcases Nat.lt_or_ge i k with hlt | hge
 ·obtain ⟨ecs',f',h1,h2,h3,h4⟩:=h i y hlt hy
  refine ⟨ecs',f',h1,by rw [List.getElem?_append_left (by omega)];exact h2,h3,fun j u hu=>?_⟩
  have hj:=(List.getElem?_eq_some_iff.1 hu).1
  have:(i + 1) * K≤k * K:=Nat.mul_le_mul_right _ hlt
  rw [Nat.add_mul] at this
  rw [hg,if_neg (by omega)]
  exact h4 j u hu
 ·obtain rfl:i=k:=by omega
  rw [hx] at hy
  injection hy with hy
  subst hy
  refine ⟨ecs,f,he,by rw [List.getElem?_append_right (by omega)];simp [hfl],hE,fun j u hu=>?_⟩
  have hj:=(List.getElem?_eq_some_iff.1 hu).1
  rw [hg,if_pos (by omega),show i * K + j - i * K=j by omega,hu]
theorem heap_setW {g b:Nat} (hne:b ≠ g):∀ (us:List Value) (w:World) (o:Nat),(setW w g o us).heap[b]? = w.heap[b]?
 |[],_,_=>rfl
 |u::us,w,o=>by unfold setW;rw [heap_setW hne us];exact Below.heap_setCell _ _ _ _ hne
theorem size_setW {g:Nat} : ∀ (us:List Value) (w:World) (o:Nat),(setW w g o us).heap.size=w.heap.size
 |[],_,_=>rfl
 |u::us,w,o=>by unfold setW;rw [size_setW us];simp [World.setCell]
theorem OL.row (h:OL e K E w base v xs fp):∃ cs,w.ownsRow base e K v xs.length cs:=⟨h.choose,h.choose_spec.choose_spec.1⟩
theorem OL.lt (h:OL e K E w base v xs fp):∀ b∈fp,base≤b∧b < w.heap.size:=by obtain ⟨_,_,_,_,_,h,_⟩:=h;exact h
theorem OL.nodup (h:OL e K E w base v xs fp):fp.Nodup:=by obtain ⟨_,_,_,_,h,_⟩:=h;exact h
theorem own_block {e size n B:Nat} {v:Value} {xs:List Value} (h:w.ownsRow B e size v n xs) (hk:∀ g,v.ownBlock=some g→w'.heap[g]? = w.heap[g]?):w'.ownsRow B e size v n xs:=by
 refine ⟨h.1,?_⟩
 rcases h.2 with h2 | ⟨g,cap,cur,rfl,hg,hh,r⟩
 ·exact .inl h2
 ·exact .inr ⟨g,cap,cur,rfl,hg,(hk g rfl).trans hh,r⟩
theorem OL.keep (h:OL e K E w base v xs fp) (hE:EFr E) (hs:w.heap.size≤w'.heap.size) (hk:∀ b∈fp,w'.heap[b]? = w.heap[b]?):OL e K E w' base v xs fp:=by
 obtain ⟨cs,ifp,h1,rfl,h3,h4,h5⟩:=h
 refine ⟨cs,ifp,own_block h1 (fun g hg=>hk g (by simp [hg])),rfl,h3,fun b hb=>⟨(h4 b hb).1,Nat.lt_of_lt_of_le (h4 b hb).2 hs⟩,h5.keep hE (fun b hb=>hk b (by simp [hb]))⟩
theorem OL.below {B:Nat} (h:OL e K E w base v xs fp) (hE:EFr E) (hb:Below B w w') (hB:∀ b∈fp,b < B):OL e K E w' base v xs fp:=h.keep hE hb.size fun b hm=>hb.block b (hB b hm)
theorem own_base {e size n B B':Nat} {v:Value} {xs:List Value} (h:w.ownsRow B e size v n xs) (hB:B'≤B):w.ownsRow B' e size v n xs:=by
 refine ⟨h.1,?_⟩
 rcases h.2 with h2 | ⟨g,cap,cur,rfl,hg,r⟩
 ·exact .inl h2
 ·exact .inr ⟨g,cap,cur,rfl,by omega,r⟩
theorem own_form2 {e size n B:Nat} {v:Value} {xs:List Value} (h:w.ownsRow B e size v n xs):∃ A c,v=.slice A n c∧n≤c:=by
 rcases h.2 with ⟨rfl,h0⟩ | ⟨g,cap,cur,rfl,_,_,hc,_⟩
 ·exact ⟨none,0,by rw [h0],by omega⟩
 ·exact ⟨_,_,rfl,hc⟩
theorem own_form {e size n B:Nat} {v:Value} {xs:List Value} (h:w.ownsRow B e size v n xs):∃ A c,v=.slice A n c:=by
 rcases h.2 with ⟨rfl,h0⟩ | ⟨g,cap,cur,rfl,_⟩
 ·exact ⟨none,0,by rw [h0]⟩
 ·exact ⟨_,_,rfl⟩
theorem OL.read {R:World→Nat→List Value→α→Prop} {bd:Nat} (h:OL e K E w base v xs fp) (hR:∀ cs x f,E w cs x f→(∀ b∈f,b < w.heap.size)→R w w.heap.size cs x) (hbd:xs.length≤bd):RL bd K R w w.heap.size v xs:=by
 obtain ⟨cs,ifp,h1,rfl,h3,h4,fps,rfl,hfl,h5⟩:=h
 obtain ⟨A,c,rfl,hnc⟩:=own_form2 h1
 refine ⟨A,c,rfl,⟨hbd,hnc⟩,fun hn=>?_⟩
 rcases h1.2 with ⟨h0,h0'⟩ | ⟨g,cap,cur,hv,hr⟩
 ·omega
 ·injection hv with hv1 hv2 hv3
  subst hv1
  subst hv3
  refine ⟨g,0,rfl,(h4 g (by simp [Value.ownBlock])).2,fun i x hx=>?_⟩
  have hi:=(List.getElem?_eq_some_iff.1 hx).1
  obtain ⟨ecs,f,g1,g2,g3,g4⟩:=h5 i x hi hx
  refine ⟨ecs,g1,hR _ _ _ g3 (fun b hb=>(h4 b (by simp only [List.mem_append];exact .inr (List.mem_flatten.2 ⟨f,List.mem_of_getElem? g2,hb⟩))).2),fun j u hu=>?_⟩
  have hj:=(List.getElem?_eq_some_iff.1 hu).1
  have hlt:i * K + j < xs.length * K:=by
   have:(i + 1) * K≤xs.length * K:=Nat.mul_le_mul_right _ hi
   rw [Nat.add_mul] at this
   omega
  rw [Nat.zero_add,h1.cellAt _ hlt]
  exact g4 j u hu
end
def eflat {α:Type} (f:α→List Value):World→List Value→α→List Nat→Prop:=fun _ cs x fp=>cs=f x∧fp=[]
theorem eflat_fr {α:Type} (f:α→List Value):EFr (eflat f):=fun _ _ _ _ _ _ h=>h
theorem eflat_read {α:Type} {f:α→List Value} {w:World} : ∀ (cs:List Value) (x:α) (fp:List Nat),eflat f w cs x fp→(∀ b∈fp,b < w.heap.size)→flat f w w.heap.size cs x:=fun _ _ _ h _=>h.1
theorem OL_of_own {α:Type} {f:α→List Value} {e K base:Nat} {w:World} {v:Value} {xs:List α} (h:w.ownsRow base e K v xs.length (xs.flatMap f)) (hK:∀ x,(f x).length=K):OL e K (eflat f) w base v xs v.ownBlock.toList:=by
 refine ⟨_,[],h,by simp,?_,fun b hb=>?_,List.replicate xs.length [],by simp,by simp,fun i x hi hx=>⟨f x,[],hK x,by simp [hi],⟨rfl,rfl⟩,fun j u hu=>?_⟩⟩
 ·cases v.ownBlock <;> simp
 ·exact h.lt b (by cases hv:v.ownBlock <;> simp [hv] at hb;rw [hb])
 ·have hj:=(List.getElem?_eq_some_iff.1 hu).1
  rw [hK] at hj
  have h2:∀ (l:List α) (i:Nat) (x:α),l[i]? = some x→(l.flatMap f)[i * K + j]? = (f x)[j]?:=by
   intro l
   induction l with
   |nil=>intro i x h;simp at h
   |cons y l ih =>
    intro i x h
    cases i with
    |zero =>
     simp at h
     subst h
     rw [List.flatMap_cons,List.getElem?_append_left (by rw [hK];omega)]
     simp
    |succ i =>
     rw [List.flatMap_cons,List.getElem?_append_right (by rw [hK,Nat.add_mul];omega),hK,show (i + 1) * K + j - K=i * K + j by rw [Nat.add_mul];omega]
     exact ih i x (by simpa using h)
  rw [h2 xs i x hx,hu]
theorem own_of_OL {α:Type} {f:α→List Value} {e K base:Nat} {w:World} {v:Value} {xs:List α} {fp:List Nat} (h:OL e K (eflat f) w base v xs fp) (hK:∀ x,(f x).length=K):w.ownsRow base e K v xs.length (xs.flatMap f)∧fp=v.ownBlock.toList:=by
 obtain ⟨cs,ifp,h1,rfl,h3,h4,fps,rfl,hfl,h5⟩:=h
 have hp:Pre K f xs xs.length cs:=⟨h1.1,fun i x hi hx j u hu=>by
  obtain ⟨ecs,g,_,_,h6,h7⟩:=h5 i x hi hx
  rw [h6.1] at h7
  exact h7 j u hu⟩
 have hn:∀ g∈fps,g=[]:=by
  intro g hg
  obtain ⟨i,hi⟩:=List.mem_iff_getElem?.1 hg
  have hlt:=(List.getElem?_eq_some_iff.1 hi).1
  obtain ⟨_,g',_,h6,h7,_⟩:=h5 i xs[i] (by omega) (List.getElem?_eq_getElem (by omega))
  rw [hi] at h6
  injection h6 with h6
  rw [h6]
  exact h7.2
 rw [hp.done hK] at h1
 exact ⟨h1,by rw [List.flatten_eq_nil_iff.2 (fun l hl=>hn l hl)];simp⟩
end Go.Proofs.YtioijfplbgpjpaaGreat
namespace Go.Proofs.YtioijfplbgpjpaaGreat
set_option linter.unusedVariables false
set_option linter.unusedSimpArgs false
set_option maxRecDepth 100000
open Go.RowKit
structure Bill where
 code:Int
 cartons:Int
 pallets:Int
 cost:Int
 gram:Int
 deriving DecidableEq,Inhabited
def Bill.cells (b:Bill):List Value:=[.int .i64 b.code,.int .i64 b.cartons,.int .i64 b.pallets,.int .i64 b.cost,.int .i64 b.gram]
abbrev Bill.val (b:Bill):Value:=.agg #[.int .i64 b.code,.int .i64 b.cartons,.int .i64 b.pallets,.int .i64 b.cost,.int .i64 b.gram]
structure Spot where
 pallet:Int
 x:Int
 y:Int
 z:Int
 deriving DecidableEq,Inhabited
def Spot.cells (b:Spot):List Value:=[.int .i64 b.pallet,.int .i64 b.x,.int .i64 b.y,.int .i64 b.z]
abbrev Spot.val (b:Spot):Value:=.agg #[.int .i64 b.pallet,.int .i64 b.x,.int .i64 b.y,.int .i64 b.z]
structure Pair where
 a:Int
 b:Int
 deriving DecidableEq,Inhabited
def Pair.cells (b:Pair):List Value:=[.int .i64 b.a,.int .i64 b.b]
abbrev Pair.val (b:Pair):Value:=.agg #[.int .i64 b.a,.int .i64 b.b]
structure Pallet where
 w:Int
 d:Int
 h:Int
 gram:Int
 deriving DecidableEq,Inhabited
def Pallet.cells (b:Pallet):List Value:=[.int .i64 b.w,.int .i64 b.d,.int .i64 b.h,.int .i64 b.gram]
abbrev Pallet.val (b:Pallet):Value:=.agg #[.int .i64 b.w,.int .i64 b.d,.int .i64 b.h,.int .i64 b.gram]
structure Item where
 id:Int
 w:Int
 h:Int
 d:Int
 gram:Int
 cls:Int
 count:Int
 deriving DecidableEq,Inhabited
def Item.cells (b:Item):List Value:=[.int .i64 b.id,.int .i64 b.w,.int .i64 b.h,.int .i64 b.d,.int .i64 b.gram,.int .i64 b.cls,.int .i64 b.count]
abbrev Item.val (b:Item):Value:=.agg #[.int .i64 b.id,.int .i64 b.w,.int .i64 b.h,.int .i64 b.d,.int .i64 b.gram,.int .i64 b.cls,.int .i64 b.count]
structure Box where
 w:Int
 d:Int
 h:Int
 gram:Int
 deriving DecidableEq,Inhabited
def Box.cells (b:Box):List Value:=[.int .i64 b.w,.int .i64 b.d,.int .i64 b.h,.int .i64 b.gram]
abbrev Box.val (b:Box):Value:=.agg #[.int .i64 b.w,.int .i64 b.d,.int .i64 b.h,.int .i64 b.gram]
structure GType where
 id:Int
 w:Int
 h:Int
 d:Int
 tare:Int
 gram:Int
 cost:Int
 deriving DecidableEq,Inhabited
def GType.cells (b:GType):List Value:=[.int .i64 b.id,.int .i64 b.w,.int .i64 b.h,.int .i64 b.d,.int .i64 b.tare,.int .i64 b.gram,.int .i64 b.cost]
abbrev GType.val (b:GType):Value:=.agg #[.int .i64 b.id,.int .i64 b.w,.int .i64 b.h,.int .i64 b.d,.int .i64 b.tare,.int .i64 b.gram,.int .i64 b.cost]
structure Carton where
 type:Int
 group:Int
 units:List Int
 deriving DecidableEq,Inhabited
structure Plan where
 cartons:List Carton
 spots:List Spot
 deriving DecidableEq,Inhabited
structure Request where
 way:Int
 pallet:Pallet
 classes:Int
 pairs:List Pair
 types:List GType
 master:Int
 items:List Item
 deriving DecidableEq,Inhabited
def inB (n lo hi:Int):Bool:=decide (lo≤n) && decide (n≤hi)
@[simp] abbrev cS10 (X:World) (b:Nat) (r:Request) (u v z:Value):Prop:=X.cell? ⟨b,0,none⟩=some (.int .i64 r.way)∧X.cell? ⟨b,1,none⟩=some (.int .i64 r.pallet.w)∧X.cell? ⟨b,2,none⟩=some (.int .i64 r.pallet.d)∧X.cell? ⟨b,3,none⟩=some (.int .i64 r.pallet.h)∧X.cell? ⟨b,4,none⟩=some (.int .i64 r.pallet.gram)∧X.cell? ⟨b,5,none⟩=some (.int .i64 r.classes)∧X.cell? ⟨b,6,none⟩=some (u)∧X.cell? ⟨b,7,none⟩=some (v)∧X.cell? ⟨b,8,none⟩=some (.int .i64 r.master)∧X.cell? ⟨b,9,none⟩=some (z)
@[simp] abbrev cS7 (X:World) (b:Nat) (x:Item):Prop:=X.cell? ⟨b,0,none⟩=some (.int .i64 x.id)∧X.cell? ⟨b,1,none⟩=some (.int .i64 x.w)∧X.cell? ⟨b,2,none⟩=some (.int .i64 x.h)∧X.cell? ⟨b,3,none⟩=some (.int .i64 x.d)∧X.cell? ⟨b,4,none⟩=some (.int .i64 x.gram)∧X.cell? ⟨b,5,none⟩=some (.int .i64 x.cls)∧X.cell? ⟨b,6,none⟩=some (.int .i64 x.count)
@[simp] abbrev cT7 (X:World) (b:Nat) (x:GType):Prop:=X.cell? ⟨b,0,none⟩=some (.int .i64 x.id)∧X.cell? ⟨b,1,none⟩=some (.int .i64 x.w)∧X.cell? ⟨b,2,none⟩=some (.int .i64 x.h)∧X.cell? ⟨b,3,none⟩=some (.int .i64 x.d)∧X.cell? ⟨b,4,none⟩=some (.int .i64 x.tare)∧X.cell? ⟨b,5,none⟩=some (.int .i64 x.gram)∧X.cell? ⟨b,6,none⟩=some (.int .i64 x.cost)
@[simp] abbrev cS7O (X:World) (b o:Nat) (x:Item):Prop:=X.cell? ⟨b,o,none⟩=some (.int .i64 x.id)∧X.cell? ⟨b,o + 1,none⟩=some (.int .i64 x.w)∧X.cell? ⟨b,o + 2,none⟩=some (.int .i64 x.h)∧X.cell? ⟨b,o + 3,none⟩=some (.int .i64 x.d)∧X.cell? ⟨b,o + 4,none⟩=some (.int .i64 x.gram)∧X.cell? ⟨b,o + 5,none⟩=some (.int .i64 x.cls)∧X.cell? ⟨b,o + 6,none⟩=some (.int .i64 x.count)
@[simp] abbrev cC3 (X:World) (b o m:Nat) (c:Carton) (u:Value):Prop:=X.cell? ⟨b,o + m * 3,none⟩=some (.int .i64 c.type)∧X.cell? ⟨b,o + m * 3 + 1,none⟩=some (.int .i64 c.group)∧X.cell? ⟨b,o + m * 3 + 2,none⟩=some (u)
@[simp] abbrev cS4 (X:World) (b o m:Nat) (s:Spot):Prop:=X.cell? ⟨b,o + m * 4,none⟩=some (.int .i64 s.pallet)∧X.cell? ⟨b,o + m * 4 + 1,none⟩=some (.int .i64 s.x)∧X.cell? ⟨b,o + m * 4 + 2,none⟩=some (.int .i64 s.y)∧X.cell? ⟨b,o + m * 4 + 3,none⟩=some (.int .i64 s.z)
@[simp] abbrev cB4 (X:World) (b m:Nat) (s:Box):Prop:=X.cell? ⟨b,m * 4,none⟩=some (.int .i64 s.w)∧X.cell? ⟨b,m * 4 + 1,none⟩=some (.int .i64 s.d)∧X.cell? ⟨b,m * 4 + 2,none⟩=some (.int .i64 s.h)∧X.cell? ⟨b,m * 4 + 3,none⟩=some (.int .i64 s.gram)
abbrev cR (r:Request) (A:Option Addr) (a:Nat) (B:Option Addr) (b:Nat) (C:Option Addr) (c:Nat):Array Value:=#[.int .i64 r.way,.int .i64 r.pallet.w,.int .i64 r.pallet.d,.int .i64 r.pallet.h,.int .i64 r.pallet.gram,.int .i64 r.classes,.slice A r.pairs.length a,.slice B r.types.length b,.int .i64 r.master,.slice C r.items.length c]
abbrev cZ:Array Value:=#[.int .i64 0,.int .i64 0,.int .i64 0,.int .i64 0,.int .i64 0,.int .i64 0,.slice none 0 0,.slice none 0 0,.int .i64 0,.slice none 0 0]
abbrev dR (a b c d e:Int) (n:Nat) (u v x:Value):Array Value:=#[.int .i64 a,.int .i64 b,.int .i64 c,.int .i64 d,.int .i64 e,.int .i64 (1 + n),u,v,.int .i64 7,x]
end Go.Proofs.YtioijfplbgpjpaaGreat
namespace Go.Proofs.YtioijfplbgpjpaaGreat
set_option linter.unusedVariables false
set_option linter.unusedSimpArgs false
set_option maxRecDepth 100000
open Go.RowKit
theorem list_eq_of {α:Type} {xs ys:List α} (hl:xs.length=ys.length) {k:Nat} (hk:k=xs.length) (h:∀ i,i < k→xs[i]? = ys[i]?):xs=ys:=by
 apply List.ext_getElem?
 intro i
 rcases Nat.lt_or_ge i k with hi | hi
 ·exact h i hi
 ·rw [List.getElem?_eq_none (by omega),List.getElem?_eq_none (by omega)]
theorem list_ne_of {α:Type} {xs ys:List α} {k:Nat} {x y:α} (hx:xs[k]? = some x) (hy:ys[k]? = some y) (h:x ≠ y):xs ≠ ys:=by
 rintro rfl
 rw [hx] at hy
 injection hy with hy
 exact h hy
theorem eq_upto {α:Type} {xs ys:List α} {k:Nat} {x:α} (h:∀ i,i < k→xs[i]? = ys[i]?) (hx:xs[k]? = some x) (hy:ys[k]? = some x):∀ i,i < k + 1→xs[i]? = ys[i]?:=by
 intro i hi
 rcases Nat.lt_or_ge i k with h1 | h1
 ·exact h i h1
 ·obtain rfl:i=k:=by omega
  rw [hx,hy]
theorem info_int:(Tryz.prog.info? 3).map (fun i=>(i.zero,i.size,i.bytes))=some (some (.int .i64 0),1,8):=by kernel_rfl
theorem info_Spot:(Tryz.prog.info? 72).map (fun i=>(i.zero,i.size,i.bytes))=some (some (.agg #[.int .i64 0,.int .i64 0,.int .i64 0,.int .i64 0]),4,32):=by kernel_rfl
theorem info_Pair:(Tryz.prog.info? 165).map (fun i=>(i.zero,i.size,i.bytes))=some (some (.agg #[.int .i64 0,.int .i64 0]),2,16):=by kernel_rfl
theorem info_Type:(Tryz.prog.info? 142).map (fun i=>(i.zero,i.size,i.bytes))=some (some (.agg #[.int .i64 0,.int .i64 0,.int .i64 0,.int .i64 0,.int .i64 0,.int .i64 0,.int .i64 0]),7,56):=by kernel_rfl
theorem info_Item:(Tryz.prog.info? 152).map (fun i=>(i.zero,i.size,i.bytes))=some (some (.agg #[.int .i64 0,.int .i64 0,.int .i64 0,.int .i64 0,.int .i64 0,.int .i64 0,.int .i64 0]),7,56):=by kernel_rfl
theorem info_Box:(Tryz.prog.info? 75).map (fun i=>(i.zero,i.size,i.bytes))=some (some (.agg #[.int .i64 0,.int .i64 0,.int .i64 0,.int .i64 0]),4,32):=by kernel_rfl
end Go.Proofs.YtioijfplbgpjpaaGreat
namespace Go.Proofs.YtioijfplbgpjpaaGreat
set_option linter.unusedVariables false
set_option linter.unusedSimpArgs false
set_option maxRecDepth 100000
open Go.RowKit
def tot {α:Type} (f:α→Nat) (xs:List α):Nat:=(xs.map f).sum
theorem tot_take {α:Type} (f:α→Nat) {xs:List α} {k:Nat} {x:α} (h:xs[k]? = some x):tot f (xs.take (k + 1))=tot f (xs.take k) + f x:=by
 unfold tot
 rw [List.take_add_one,h]
 simp
theorem tot_append {α:Type} (f:α→Nat) (xs ys:List α):tot f (xs ++ ys)=tot f xs + tot f ys:=by unfold tot;simp
theorem tot_le {α:Type} (f:α→Nat) (xs:List α) (k:Nat):tot f (xs.take k)≤tot f xs:=by
 have:tot f xs=tot f (xs.take k) + tot f (xs.drop k):=by rw [← tot_append,List.take_append_drop]
 omega
theorem tot_ge {α:Type} (f:α→Nat) {xs:List α} {k:Nat} {x:α} (h:xs[k]? = some x):tot f (xs.take k) + f x≤tot f xs:=by
 rw [← tot_take f h];exact tot_le f xs (k + 1)
set_option maxHeartbeats 400000 in
theorem l1Bit_any (b:Bool) (w:World) :
  Calls Tryz.prog 141 #[.bool b] w fun e w'=>e=.returned (.int .i64 (if b=true then 1 else 0))∧w=w':=by
 cases b <;>
 ·go_enter Tryz.func141,Tryz.ntmps141
  go_wp2
  go_ret
  exact ⟨rfl,rfl⟩
end Go.Proofs.YtioijfplbgpjpaaGreat
namespace Go.Proofs.YtioijfplbgpjpaaGreat
set_option linter.unusedVariables false
set_option linter.unusedSimpArgs false
set_option maxRecDepth 100000
open Go.RowKit
def RCarton (bd:Nat):World→Nat→List Value→Carton→Prop:=fun w B cs x=>∃ v,cs=[.int .i64 x.type,.int .i64 x.group,v]∧RInts bd w B v x.units
theorem RCarton_mono (bd:Nat):RMono (RCarton bd):=fun _ _ _ _ _ _ hk hB ⟨v,h1,h2⟩=>⟨v,h1,h2.keep (flat_mono _) hk hB⟩
abbrev RCartons (bd:Nat) (w:World) (B:Nat) (v:Value) (xs:List Carton):Prop:=RL bd 3 (RCarton bd) w B v xs
abbrev RSpots (bd:Nat) (w:World) (B:Nat) (v:Value) (xs:List Spot):Prop:=RL bd 4 (flat Spot.cells) w B v xs
def RPlan (bd:Nat) (w:World) (B:Nat) (v:Value) (p:Plan):Prop:=∃ v1 v2,v=.agg #[v1,v2]∧RCartons bd w B v1 p.cartons∧RSpots bd w B v2 p.spots
theorem RPlan.keep {bd:Nat} {w w':World} {B B':Nat} {v:Value} {p:Plan} (h:RPlan bd w B v p) (hk:∀ q:Addr,q.block < B→w'.cell? q=w.cell? q) (hB:B≤B'):RPlan bd w' B' v p:=by
 obtain ⟨v1,v2,rfl,h1,h2⟩:=h
 exact ⟨v1,v2,rfl,h1.keep (RCarton_mono bd) hk hB,h2.keep (flat_mono _) hk hB⟩
theorem RPlan.next {bd:Nat} {w w':World} {v:Value} {p:Plan} (h:RPlan bd w w.heap.size v p) (hb:Below w.heap.size w w'):RPlan bd w' w'.heap.size v p:=h.keep (fun _ hp=>hb.cell hp) hb.size
def Plan.bulk (p:Plan):Nat:=p.cartons.length + tot (fun c=>c.units.length) p.cartons + p.spots.length
theorem units_le {p:Plan} {c:Carton} (h:c∈p.cartons):c.units.length≤p.bulk:=by
 obtain ⟨i,hi⟩:=List.mem_iff_getElem?.1 h
 have:=tot_ge (fun c:Carton=>c.units.length) hi
 unfold Plan.bulk
 omega
theorem RCarton.wide {bd bd':Nat} {w:World} {B:Nat} {cs:List Value} {x:Carton} (h:RCarton bd w B cs x) (hb:x.units.length≤bd'):RCarton bd' w B cs x:=by
 obtain ⟨v,h1,h2⟩:=h
 exact ⟨v,h1,h2.wide hb⟩
theorem RPlan.wide {bd bd':Nat} {w:World} {B:Nat} {v:Value} {p:Plan} (h:RPlan bd w B v p) (hb:p.bulk≤bd'):RPlan bd' w B v p:=by
 obtain ⟨v1,v2,rfl,h1,h2⟩:=h
 exact ⟨v1,v2,rfl,h1.weaken (by unfold Plan.bulk at hb;omega) (fun cs x hx hc=>hc.wide (Nat.le_trans (units_le hx) hb)),h2.wide (by unfold Plan.bulk at hb;omega)⟩
def ECarton:World→List Value→Carton→List Nat→Prop:=fun w cs x f=>∃ v,cs=[.int .i64 x.type,.int .i64 x.group,v]∧w.ownsRow 0 3 1 v x.units.length (x.units.flatMap cI)∧f=v.ownBlock.toList
theorem mem_ownBlock {v:Value} {g:Nat} (h:v.ownBlock=some g):g∈v.ownBlock.toList:=by rw [h];simp
theorem ownBlock_mem {v:Value} {g:Nat} (h:g∈v.ownBlock.toList):v.ownBlock=some g:=by cases hv:v.ownBlock <;> simp [hv] at h;rw [h]
theorem ECarton_fr:EFr ECarton:=fun _ _ _ _ _ hk ⟨v,h1,h2,h3⟩=>⟨v,h1,own_block h2 (fun g hg=>hk g (by rw [h3];exact mem_ownBlock hg)),h3⟩
theorem own_ints {w:World} {base e:Nat} {v:Value} {xs:List Int} (h:w.ownsRow base e 1 v xs.length (xs.flatMap cI)) (hl:xs.length≤16777216):RInts 16777216 w w.heap.size v xs :=
 OL.read (OL_of_own h (fun _=>rfl)) (fun cs x f h h'=>eflat_read cs x f h h') hl
theorem ECarton_read {w:World} (cs:List Value) (x:Carton) (f:List Nat) (h:ECarton w cs x f) (_:∀ b∈f,b < w.heap.size) (hl:x.units.length≤16777216):RCarton 16777216 w w.heap.size cs x:=by
 obtain ⟨v,h1,h2,h3⟩:=h
 exact ⟨v,h1,own_ints h2 hl⟩
def OCartons (w:World) (base:Nat) (v:Value) (xs:List Carton) (fp:List Nat):Prop:=OL 78 3 ECarton w base v xs fp
def OSpots (w:World) (base:Nat) (v:Value) (xs:List Spot) (fp:List Nat):Prop:=OL 72 4 (eflat Spot.cells) w base v xs fp
def OPlan (w:World) (base:Nat) (v:Value) (p:Plan) (fp:List Nat):Prop:=∃ v1 v2 f1 f2,v=.agg #[v1,v2]∧OCartons w base v1 p.cartons f1∧OSpots w base v2 p.spots f2∧fp=f1 ++ f2∧fp.Nodup
theorem OPlan.read {w:World} {base:Nat} {v:Value} {p:Plan} {fp:List Nat} (h:OPlan w base v p fp) (hb:p.bulk≤16777216):RPlan 16777216 w w.heap.size v p:=by
 obtain ⟨v1,v2,f1,f2,rfl,h1,h2,_⟩:=h
 have hw:∀ c∈p.cartons,c.units.length≤16777216:=fun c hc=>Nat.le_trans (units_le hc) hb
 have h1':RL 16777216 3 (fun w B cs x=>x.units.length≤16777216→RCarton 16777216 w B cs x) w w.heap.size v1 p.cartons:=OL.read h1 (fun cs x f h h' hl=>ECarton_read cs x f h h' hl) (by unfold Plan.bulk at hb;omega)
 exact ⟨v1,v2,rfl,h1'.weaken (by unfold Plan.bulk at hb;omega) (fun cs x hx h=>h (hw x hx)),OL.read h2 (fun cs x f h h'=>eflat_read cs x f h h') (by unfold Plan.bulk at hb;omega)⟩
theorem OL.base {α:Type} {e K:Nat} {E:World→List Value→α→List Nat→Prop} {w:World} {B B':Nat} {v:Value} {xs:List α} {fp:List Nat} (h:OL e K E w B v xs fp) (hB:B'≤B):OL e K E w B' v xs fp:=by
 obtain ⟨cs,ifp,h1,h2,h3,h4,h5⟩:=h
 exact ⟨cs,ifp,own_base h1 hB,h2,h3,fun b hb=>⟨Nat.le_trans hB (h4 b hb).1,(h4 b hb).2⟩,h5⟩
theorem OL.form {α:Type} {e K:Nat} {E:World→List Value→α→List Nat→Prop} {w:World} {B:Nat} {v:Value} {xs:List α} {fp:List Nat} (h:OL e K E w B v xs fp):∃ A c,v=.slice A xs.length c:=by
 obtain ⟨cs,ifp,h1,_⟩:=h
 exact own_form h1
theorem OPlan.form {w:World} {base:Nat} {v:Value} {p:Plan} {fp:List Nat} (h:OPlan w base v p fp):∃ A1 n1 c1 A2 n2 c2,v=.agg #[.slice A1 n1 c1,.slice A2 n2 c2]:=by
 obtain ⟨v1,v2,f1,f2,rfl,h1,h2,_⟩:=h
 obtain ⟨A1,c1,rfl⟩:=OL.form h1
 obtain ⟨A2,c2,rfl⟩:=OL.form h2
 exact ⟨_,_,_,_,_,_,rfl⟩
theorem OPlan.lt {w:World} {base:Nat} {v:Value} {p:Plan} {fp:List Nat} (h:OPlan w base v p fp):∀ b∈fp,base≤b∧b < w.heap.size:=by
 obtain ⟨v1,v2,f1,f2,rfl,h1,h2,rfl,_⟩:=h
 intro b hb
 rcases List.mem_append.1 hb with hb | hb
 ·exact OL.lt h1 b hb
 ·exact OL.lt h2 b hb
theorem OPlan.keep {w w':World} {base:Nat} {v:Value} {p:Plan} {fp:List Nat} (h:OPlan w base v p fp) (hs:w.heap.size≤w'.heap.size) (hk:∀ b∈fp,w'.heap[b]? = w.heap[b]?):OPlan w' base v p fp:=by
 obtain ⟨v1,v2,f1,f2,rfl,h1,h2,rfl,hn⟩:=h
 exact ⟨v1,v2,f1,f2,rfl,OL.keep h1 ECarton_fr hs (fun b hb=>hk b (by simp [hb])),OL.keep h2 (eflat_fr _) hs (fun b hb=>hk b (by simp [hb])),rfl,hn⟩
theorem OPlan.next {w w':World} {base:Nat} {v:Value} {p:Plan} {fp:List Nat} (h:OPlan w base v p fp) (hb:Below w.heap.size w w'):OPlan w' base v p fp:=h.keep hb.size (fun b hm=>hb.block b (h.lt b hm).2)
theorem info_Carton:(Tryz.prog.info? 78).map (fun i=>(i.zero,i.size,i.bytes))=some (some (.agg #[.int .i64 0,.int .i64 0,.slice none 0 0]),3,40):=by kernel_rfl
end Go.Proofs.YtioijfplbgpjpaaGreat
namespace Go.Proofs.YtioijfplbgpjpaaGreat
set_option linter.unusedVariables false
set_option linter.unusedSimpArgs false
set_option maxRecDepth 100000
open Go.RowKit
abbrev RPairs (bd:Nat) (w:World) (B:Nat) (v:Value) (xs:List Pair):Prop:=RL bd 2 (flat Pair.cells) w B v xs
abbrev RTypes (bd:Nat) (w:World) (B:Nat) (v:Value) (xs:List GType):Prop:=RL bd 7 (flat GType.cells) w B v xs
abbrev RItems (bd:Nat) (w:World) (B:Nat) (v:Value) (xs:List Item):Prop:=RL bd 7 (flat Item.cells) w B v xs
abbrev Request.row (r:Request) (vp vt vi:Value):Array Value:=#[.int .i64 r.way,.int .i64 r.pallet.w,.int .i64 r.pallet.d,.int .i64 r.pallet.h,.int .i64 r.pallet.gram,.int .i64 r.classes,vp,vt,.int .i64 r.master,vi]
def RReq (bd:Nat) (w:World) (B:Nat) (v:Value) (r:Request):Prop:=∃ vp vt vi,v=.agg (r.row vp vt vi)∧RPairs bd w B vp r.pairs∧RTypes bd w B vt r.types∧RItems bd w B vi r.items
theorem RReq.keep {bd:Nat} {w w':World} {B B':Nat} {v:Value} {r:Request} (h:RReq bd w B v r) (hk:∀ q:Addr,q.block < B→w'.cell? q=w.cell? q) (hB:B≤B'):RReq bd w' B' v r:=by
 obtain ⟨v1,v2,v3,rfl,h1,h2,h3⟩:=h
 exact ⟨v1,v2,v3,rfl,h1.keep (flat_mono _) hk hB,h2.keep (flat_mono _) hk hB,h3.keep (flat_mono _) hk hB⟩
theorem RReq.next {bd:Nat} {w w':World} {v:Value} {r:Request} (h:RReq bd w w.heap.size v r) (hb:Below w.heap.size w w'):RReq bd w' w'.heap.size v r:=h.keep (fun _ hp=>hb.cell hp) hb.size
def Request.bulk (r:Request):Nat:=r.pairs.length + r.types.length + r.items.length
theorem RReq.wide {bd bd':Nat} {w:World} {B:Nat} {v:Value} {r:Request} (h:RReq bd w B v r) (hb:r.bulk≤bd'):RReq bd' w B v r:=by
 obtain ⟨v1,v2,v3,rfl,h1,h2,h3⟩:=h
 unfold Request.bulk at hb
 exact ⟨v1,v2,v3,rfl,h1.wide (by omega),h2.wide (by omega),h3.wide (by omega)⟩
theorem RReq.opn {bd:Nat} {w:World} {B:Nat} {v:Value} {r:Request} (h:RReq bd w B v r):∃ A1 c1 A2 c2 A3 c3,v=.agg (cR r A1 c1 A2 c2 A3 c3) ∧
  (Hid (RPairs bd w B (.slice A1 r.pairs.length c1) r.pairs)∧Hid (RTypes bd w B (.slice A2 r.types.length c2) r.types)∧Hid (RItems bd w B (.slice A3 r.items.length c3) r.items))∧r.pairs.length≤bd∧r.types.length≤bd∧r.items.length≤bd∧r.pairs.length≤c1∧r.types.length≤c2∧r.items.length≤c3:=by
 obtain ⟨v1,v2,v3,rfl,h1,h2,h3⟩:=h
 have g1:=h1;have g2:=h2;have g3:=h3
 obtain ⟨A1,c1,rfl,b1,_⟩:=h1
 obtain ⟨A2,c2,rfl,b2,_⟩:=h2
 obtain ⟨A3,c3,rfl,b3,_⟩:=h3
 exact ⟨A1,c1,A2,c2,A3,c3,rfl,⟨Lib.hid g1,Lib.hid g2,Lib.hid g3⟩,b1.1,b2.1,b3.1,b1.2,b2.2,b3.2⟩
section
variable {w W:World} {B:Nat}
theorem Ext.low (X:Ext B W) (h:Below w.heap.size w W) (hB:w.heap.size≤B):Below w.heap.size w X.world:=h.trans (X.ok.mono hB)
abbrev Ext.Of (_:Ext B W):Type:=Ext B W
abbrev Ext.here (B:Nat) (W:World):Ext B W:=⟨W,Below.refl B W⟩
def lay (w:World):List Obj→World
 |[]=>w
 |o::l=>lay (w.alloc o) l
theorem lay_below:∀ (l:List Obj) (w:World),Below w.heap.size w (lay w l)
 |[],w=>Below.refl _ _
 |o::l,w=>((Below.refl _ _).alloc (Nat.le_refl _) o).trans ((lay_below l (w.alloc o)).mono (by simp))
theorem lay_heap:∀ (l:List Obj) (w:World),(lay w l).heap.size=w.heap.size + l.length
 |[],w=>rfl
 |o::l,w=>by unfold lay;rw [lay_heap l];simp;omega
theorem lay_at:∀ (l:List Obj) (w:World) (i:Nat) (o:Obj),l[i]? = some o→(lay w l).heap[w.heap.size + i]? = some o
 |[],_,_,_,h=>by simp at h
 |o::l,w,0,o',h=>by
  simp at h
  subst h
  unfold lay
  exact ((lay_below l (w.alloc o)).block _ (by simp)).trans (by have:=heap_alloc_if w o w.heap.size;simpa using this)
 |o::l,w,i + 1,o',h=>by
  have:=lay_at l (w.alloc o) i o' (by simpa using h)
  unfold lay
  rw [← this]
  simp
  congr 1
  omega
theorem lay_low (w:World) (l:List Obj) (X:Ext (w.heap.size + l.length) (lay w l)):Below w.heap.size w X.world:=X.low (lay_below l w) (Nat.le_add_right _ _)
theorem lay_size (w:World) (l:List Obj) (X:Ext (w.heap.size + l.length) (lay w l)):w.heap.size + l.length≤X.world.heap.size:=by have:=X.size;rw [lay_heap] at this;exact this
theorem lay_blk (w:World) (l:List Obj) (i:Nat) (o:Obj) (h:l[i]? = some o) (X:Ext (w.heap.size + l.length) (lay w l)):X.world.heap[w.heap.size + i]? = some o :=
 (X.ok.block (w.heap.size + i) (by have:=(List.getElem?_eq_some_iff.1 h).1;omega)).trans (lay_at l w i o h)
theorem lay_box (w:World) (l:List Obj) (i:Nat) (cs:Array Value) (t:TypeId) (h:l[i]? = some (.cells cs t)) (X:Ext (w.heap.size + l.length) (lay w l)) (j:Nat):X.world.cell? ⟨w.heap.size + i,j,none⟩=cs[j]? :=
 cell_of_row _ _ j _ _ (0,0) (lay_blk w l i _ h X)
theorem lay_box0 (w:World) (l:List Obj) (cs:Array Value) (t:TypeId) (h:l[0]? = some (.cells cs t)) (X:Ext (w.heap.size + l.length) (lay w l)) (j:Nat):X.world.cell? ⟨w.heap.size,j,none⟩=cs[j]?:=lay_box w l 0 cs t h X j
theorem lay_free (w:World) (l:List Obj) (i:Nat) (cs:Array Value) (t:TypeId) (h:l[i]? = some (.cells cs t)) (X:Ext (w.heap.size + l.length) (lay w l)) (j:Nat):X.world.frozen? ⟨w.heap.size + i,j,none⟩=false :=
 frozen_of_row _ _ j _ _ (lay_blk w l i _ h X)
theorem lay_le (w:World) (l:List Obj):w.heap.size + l.length≤(lay w l).heap.size:=Nat.le_of_eq (lay_heap l w).symm
theorem RL.flatX {α:Type} {bd K:Nat} {f:α→List Value} {n c:Nat} {A:Option Addr} {xs:List α} (h:RL bd K (flat f) w w.heap.size (.slice A n c) xs) (hX:∀ X:Ext B W,Below w.heap.size w X.world) (k:Nat) (hk:k < xs.length) :
  ∃ b off x,A=some ⟨b,off,none⟩∧b < w.heap.size∧xs[k]? = some x∧∀ (j:Nat) (u:Value),(f x)[j]? = some u→∀ X:Ext B W,X.world.cell? ⟨b,off + k * K + j,none⟩=some u:=by
 obtain ⟨b,off,x,cs,h1,h2,h3,_,rfl,h5⟩:=h.at_ k hk
 exact ⟨b,off,x,h1,h2,h3,fun j u hu X=>((hX X).cell (p:=⟨b,off + k * K + j,none⟩) h2).trans (h5 j u hu)⟩
theorem extC {P:Program} {f:FuncId} {args:Array Value} {v:Value} (hB:B≤W.heap.size) (h:∀ X:Ext B W,Calls P f args X.world fun e w'=>e=.returned v∧Below X.world.heap.size X.world w') :
  Hid (∀ X:Ext B W,Calls P f args X.world fun e w''=>e=.returned v∧∃ y:Ext B W,w''=y.world):=Lib.hid fun X=>ext_call (x:=X) hB (h X)
theorem wp_region_in {P:Program} {id:Nat} {Q:Exit→Act→World→Prop} {a:Act} {X:Ext B W} {l:List Oper} (hm:P.follows .mixedOrders=true) (hB:Region.lexB .any l.toArray=true)
  (h:wpQuiet P l.toArray (fun w'=>∃ x:Ext B W,w'=x.world) (fun a'=>∀ w',(∃ x:Ext B W,w'=x.world)→Q .normal a' w') l a):(Code.region id l.toArray true).wp P Q a X.world :=
 wp_region_quiet (C:=fun w'=>∃ x:Ext B W,w'=x.world) hm hB ⟨⟨X.world.drew,X.ok.drew⟩,rfl⟩ (by simpa using h)
theorem wp_region_at {P:Program} {id:Nat} {Q:Exit→Act→World→Prop} {a:Act} {l:List Oper} (hm:P.follows .mixedOrders=true) (hB:Region.lexB .any l.toArray=true)
  (h:wpQuiet P l.toArray (fun w'=>∃ x:Ext B W,w'=x.world) (fun a'=>∀ w',(∃ x:Ext B W,w'=x.world)→Q .normal a' w') l a):(Code.region id l.toArray true).wp P Q a W :=
 wp_region_quiet (C:=fun w'=>∃ x:Ext B W,w'=x.world) hm hB ⟨⟨W.drew,(Below.refl B W).drew⟩,rfl⟩ (by simpa using h)
end
end Go.Proofs.YtioijfplbgpjpaaGreat
namespace Go.Proofs.YtioijfplbgpjpaaGreat
set_option linter.unusedVariables false
set_option linter.unusedSimpArgs false
set_option maxRecDepth 100000
def sortI (xs:List Int):List Int:=xs.mergeSort fun x y=>decide (x≤y)
theorem sortI_perm (xs:List Int):(sortI xs).Perm xs:=List.mergeSort_perm _ _
theorem sortI_length (xs:List Int):(sortI xs).length=xs.length:=List.length_mergeSort _
theorem sortI_sorted (xs:List Int):(sortI xs).Pairwise (·≤·):=by
 have:=List.pairwise_mergeSort (le:=fun x y:Int=>decide (x≤y)) (fun a b c h1 h2=>by simp at *;omega) (fun a b=>by simp;omega) xs
 exact this.imp (by simp)
theorem eq_of_sorted {xs ys:List Int} (hp:xs.Perm ys) (h1:xs.Pairwise (·≤·)) (h2:ys.Pairwise (·≤·)):xs=ys :=
 List.Perm.eq_of_pairwise (le:=fun x y:Int=>x≤y) (fun _ _ _ _ h h'=>Int.le_antisymm h h') h1 h2 hp
theorem sortI_of {xs ys:List Int} (hp:ys.Perm xs) (h:ys.Pairwise (·≤·)):sortI xs=ys :=
 eq_of_sorted ((sortI_perm xs).trans hp.symm) (sortI_sorted xs) h
theorem sortI_mem {xs:List Int} {x:Int} : x∈sortI xs↔x∈xs:=(sortI_perm xs).mem_iff
def mSort {α:Type} (le:α→α→Bool) (xs:List α):List α :=
 if h:xs.length < 2 then xs else List.merge (mSort le (xs.take (xs.length / 2))) (mSort le (xs.drop (xs.length / 2))) le
termination_by xs.length
decreasing_by
 ·rw [List.length_take];omega
 ·rw [List.length_drop];omega
theorem mSort_lt {α:Type} {le:α→α→Bool} {xs:List α} (h:xs.length < 2):mSort le xs=xs:=by rw [mSort,dif_pos h]
theorem mSort_ge {α:Type} {le:α→α→Bool} {xs:List α} (h : ¬ xs.length < 2):mSort le xs=List.merge (mSort le (xs.take (xs.length / 2))) (mSort le (xs.drop (xs.length / 2))) le:=by rw [mSort,dif_neg h]
theorem mSort_perm {α:Type} (le:α→α→Bool):∀ (n:Nat) (xs:List α),xs.length≤n→(mSort le xs).Perm xs
 |0,xs,h=>by rw [mSort_lt (by omega)]
 |n + 1,xs,h=>by
  by_cases h2:xs.length < 2
  ·rw [mSort_lt h2]
  ·rw [mSort_ge h2]
   refine List.Perm.trans (List.merge_perm_append (le:=le)) ?_
   have h3:=(mSort_perm le n (xs.take (xs.length / 2)) (by rw [List.length_take];omega)).append (mSort_perm le n (xs.drop (xs.length / 2)) (by rw [List.length_drop];omega))
   rwa [List.take_append_drop] at h3
theorem mSort_length {α:Type} (le:α→α→Bool) (xs:List α):(mSort le xs).length=xs.length:=(mSort_perm le _ xs (Nat.le_refl _)).length_eq
theorem mSort_mem {α:Type} {le:α→α→Bool} {xs:List α} {x:α} : x∈mSort le xs↔x∈xs:=(mSort_perm le _ xs (Nat.le_refl _)).mem_iff
theorem mSort_sorted {α:Type} {le:α→α→Bool} (ht:∀ a b c:α,le a b=true→le b c=true→le a c=true) (hto:∀ a b:α,(le a b || le b a)=true):∀ (n:Nat) (xs:List α),xs.length≤n→(mSort le xs).Pairwise (fun a b=>le a b=true)
 |0,xs,h=>by
  obtain rfl:xs=[]:=List.eq_nil_of_length_eq_zero (by omega)
  rw [mSort_lt (by simp)];exact List.Pairwise.nil
 |n + 1,xs,h=>by
  by_cases h2:xs.length < 2
  ·rw [mSort_lt h2]
   match xs,h2 with
   |[],_=>exact List.Pairwise.nil
   |[x],_=>simp
  ·rw [mSort_ge h2]
   exact List.pairwise_merge ht hto _ _ (mSort_sorted ht hto n _ (by rw [List.length_take];omega)) (mSort_sorted ht hto n _ (by rw [List.length_drop];omega))
theorem merge_finer {α:Type} {le le':α→α→Bool} : ∀ (xs ys:List α),(∀ x∈xs,∀ y∈ys,le x y=le' x y)→List.merge xs ys le=List.merge xs ys le'
 |[],ys,_=>by simp
 |x::xs,[],_=>by simp
 |x::xs,y::ys,h=>by
  rw [List.cons_merge_cons,List.cons_merge_cons,h x (by simp) y (by simp),merge_finer xs (y::ys) (fun a ha b hb=>h a (by simp [ha]) b hb),merge_finer (x::xs) ys (fun a ha b hb=>h a ha b (by simp [hb]))]
theorem mSort_finer {α:Type} {le le':α→α→Bool} : ∀ (n:Nat) (xs:List α),xs.length≤n→(xs.Pairwise fun a b=>le a b=le' a b)→mSort le xs=mSort le' xs
 |0,xs,h,_=>by rw [mSort_lt (by omega),mSort_lt (by omega)]
 |n + 1,xs,h,hp=>by
  by_cases h2:xs.length < 2
  ·rw [mSort_lt h2,mSort_lt h2]
  ·have hp2:=hp
   rw [← List.take_append_drop (xs.length / 2) xs,List.pairwise_append] at hp2
   rw [mSort_ge h2,mSort_ge h2,mSort_finer n _ (by rw [List.length_take];omega) hp2.1,mSort_finer n _ (by rw [List.length_drop];omega) hp2.2.1]
   refine merge_finer _ _ (fun x hx y hy=>hp2.2.2 x (mSort_mem.1 hx) y (mSort_mem.1 hy))
def keyAt (keys:List Int) (i:Nat):Int:=keys.getD i 0
def leUp (keys:List Int) (i j:Nat):Bool:=!decide (keyAt keys j < keyAt keys i)
def leDown (keys:List Int) (i j:Nat):Bool:=!decide (keyAt keys i < keyAt keys j)
def argUp (keys:List Int):List Nat:=mSort (leUp keys) (List.range keys.length)
def argDown (keys:List Int):List Nat:=mSort (leDown keys) (List.range keys.length)
def lexUp (keys:List Int) (i j:Nat):Bool:=decide (keyAt keys i < keyAt keys j ∨ keyAt keys i=keyAt keys j∧i≤j)
theorem argUp_lex (keys:List Int):argUp keys=mSort (lexUp keys) (List.range keys.length):=by
 refine mSort_finer _ _ (Nat.le_refl _) ?_
 refine (List.pairwise_lt_range (n:=keys.length)).imp (fun {a b} h=>?_)
 unfold leUp lexUp
 rw [Bool.eq_iff_iff]
 simp
 omega
theorem argUp_perm (keys:List Int):(argUp keys).Perm (List.range keys.length):=mSort_perm _ _ _ (Nat.le_refl _)
theorem argDown_perm (keys:List Int):(argDown keys).Perm (List.range keys.length):=mSort_perm _ _ _ (Nat.le_refl _)
theorem argUp_length (keys:List Int):(argUp keys).length=keys.length:=by rw [(argUp_perm keys).length_eq,List.length_range]
theorem argDown_length (keys:List Int):(argDown keys).length=keys.length:=by rw [(argDown_perm keys).length_eq,List.length_range]
theorem argUp_mem {keys:List Int} {i:Nat} : i∈argUp keys↔i < keys.length:=by rw [(argUp_perm keys).mem_iff,List.mem_range]
theorem argDown_mem {keys:List Int} {i:Nat} : i∈argDown keys↔i < keys.length:=by rw [(argDown_perm keys).mem_iff,List.mem_range]
theorem argUp_sorted (keys:List Int):(argUp keys).Pairwise (fun i j=>lexUp keys i j=true):=by
 rw [argUp_lex]
 exact mSort_sorted (fun a b c h1 h2=>by unfold lexUp at *;simp at *;omega) (fun a b=>by unfold lexUp;simp;omega) _ _ (Nat.le_refl _)
theorem argUp_keys (keys:List Int):(argUp keys).map (keyAt keys)=sortI keys:=by
 refine (sortI_of ?_ ?_).symm
 ·have:=(argUp_perm keys).map (keyAt keys)
  refine this.trans ?_
  have h:(List.range keys.length).map (keyAt keys)=keys:=by
   apply List.ext_getElem
   ·simp
   ·intro i h1 h2
    simp [keyAt,h2]
  rw [h]
 ·rw [List.pairwise_map]
  exact (argUp_sorted keys).imp (fun {a b} h=>by unfold lexUp at h;simp at h;omega)
end Go.Proofs.YtioijfplbgpjpaaGreat
namespace Go.Proofs.YtioijfplbgpjpaaGreat
set_option linter.unusedVariables false
set_option linter.unusedSimpArgs false
set_option maxRecDepth 100000
open Go.RowKit
def sideOk (x:Int):Bool:=inB x 1 2000
def itemOk (x:Item):Bool:=inB x.id 0 999 && sideOk x.w && sideOk x.h && sideOk x.d && inB x.gram 1 100000 && inB x.cls 0 3 && inB x.count 1 6
def typeOk (x:GType):Bool:=inB x.id 0 999 && sideOk x.w && sideOk x.h && sideOk x.d && inB x.tare 0 100000 && inB x.gram 1 100000 && inB x.cost 0 100000
def palletOk (x:Pallet):Bool:=sideOk x.w && sideOk x.d && sideOk x.h && inB x.gram 1 100000
def pairOk (p:Pair):Bool:=inB p.a 0 3 && inB p.b 0 3
def sumCount:List Item→Int
 |[]=>0
 |x::xs=>x.count + sumCount xs
def boundsOk (r:Request):Bool :=
 inB r.way 0 1 && palletOk r.pallet && inB r.classes 1 4 && decide (r.pairs.length≤16) && r.pairs.all pairOk && inB r.types.length 1 5 && r.types.all typeOk && inB r.master 0 999 && decide (r.items.length≤8) && r.items.all itemOk && decide (sumCount r.items≤12)
def beside (ps:List Pair) (a b:Int):Bool:=ps.any fun p=>p.a == a && p.b == b
def tableOk (ps:List Pair) (n:Int):Bool :=
 inB n 1 4 && (List.range n.toNat).all fun a=>beside ps a a && (List.range n.toNat).all fun b=>beside ps a b == beside ps b a
def typeById (r:Request) (id:Int):GType×Bool:=match r.types.find? (fun t=>t.id == id) with
 |some t=>(t,true)
 |none=>(⟨0,0,0,0,0,0,0⟩,false)
def masterOf (r:Request):GType×Bool:=typeById r r.master
def sides (w h d:Int):List Int:=sortI [w,h,d]
def leSides:List Int→List Int→Bool
 |[a,b,c],[d,e,f]=>decide (a≤d) && decide (b≤e) && decide (c≤f)
 |_,_=>false
def fits (x:Item) (t:GType):Bool:=leSides (sides x.w x.h x.d) (sides t.w t.h t.d) && decide (x.gram≤t.gram)
def typeDup (ts:List GType) (i:Nat):Bool:=(ts.take i).any fun q=>q.id == (ts.getD i default).id
def itemDup (xs:List Item) (i:Nat):Bool:=(xs.take i).any fun q=>q.id == (xs.getD i default).id
def itemBad (c:Int) (xs:List Item) (i:Nat):Bool:=decide (c≤(xs.getD i default).cls) || itemDup xs i
def pairOut (c:Int) (p:Pair):Bool:=decide (c≤p.a) || decide (c≤p.b)
def namesOk (r:Request):Bool :=
 ((List.range r.types.length).all fun i=>!typeDup r.types i) && ((List.range r.items.length).all fun i=>!itemBad r.classes r.items i) && !(r.pairs.any (pairOut r.classes)) && (masterOf r).2
def tooBig (p:Pallet) (t:GType):Bool:=decide (p.w < t.w) || decide (p.d < t.d) || decide (p.h < t.h) || decide (p.gram < t.tare + t.gram)
def classOf (r:Request):Int :=
 if boundsOk r=false then 2 else if namesOk r=false then 3 else if tableOk r.pairs r.classes=false then 4
 else if r.items.any (fun x=>!fits x (masterOf r).1)=true then 5 else if r.types.any (tooBig r.pallet)=true then 6 else 0
def soundR (r:Request):Bool:=classOf r == 0
end Go.Proofs.YtioijfplbgpjpaaGreat
namespace Go.Proofs.YtioijfplbgpjpaaGreat
set_option linter.unusedVariables false
set_option linter.unusedSimpArgs false
set_option maxRecDepth 100000
open Go.RowKit
structure Shelf where
 list:List Int
 w:Int
 d:Int
 h:Int
 gram:Int
 deriving DecidableEq,Inhabited
structure Layer where
 shelves:List Int
 d:Int
 h:Int
 gram:Int
 deriving DecidableEq,Inhabited
structure GLoad where
 layers:List Int
 h:Int
 gram:Int
 deriving DecidableEq,Inhabited
def vol (w h d:Int):Int:=if (inB w 0 2000 && inB h 0 2000 && inB d 0 2000)=true then wrap64 (wrap64 (w * h) * d) else 0
def unitsG:Nat→List Item→List Int
 |_,[]=>[]
 |i,x::xs=>List.replicate x.count.toNat (i:Int) ++ unitsG (i + 1) xs
def unitsR (r:Request):List Int:=unitsG 0 r.items
def unitsC (r:Request):List Int:=if soundR r=true then unitsR r else []
def clss:List Int:=[0,1,2,3]
def hasCls (xs:List Item) (c:Int):Bool:=xs.any fun x=>x.cls == c
def presentR (r:Request):List Int:=if soundR r=true then clss.filter (hasCls r.items) else []
def joins (ps:List Pair) (g:List Int) (c:Int):Bool:=g.all fun x=>beside ps x c && beside ps c x
section
variable {α β:Type}
def firstFrom (p:α→Bool) (xs:List α) (j:Nat):Int:=match (xs.drop j).findIdx? p with
 |some k=>((j + k:Nat):Int)
 |none=>-1
abbrev firstI (p:α→Bool) (xs:List α):Int:=firstFrom p xs 0
def setLast (xs:List α) (x:α):List α:=xs.set (xs.length - 1) x
def lastD [Inhabited α] (xs:List α):α:=xs.getD (xs.length - 1) default
end
def addAt (out:List (List Int)) (k x:Int):List (List Int):=if k < 0 then out ++ [[x]] else out.set k.toNat (out.getD k.toNat default ++ [x])
def groupStep (ps:List Pair) (present:List Int) (out:List (List Int)) (c:Int):List (List Int):=if present.contains c=true then addAt out (firstI (fun g=>joins ps g c) out) c else out
def groupsOn (ps:List Pair) (present:List Int):List (List Int):=clss.foldl (groupStep ps present) []
def groupsR (r:Request):List (List Int):=groupsOn r.pairs (presentR r)
def unitCls (r:Request) (i:Nat):Int:=(r.items.getD ((unitsR r).getD i 0).toNat default).cls
def inGroup (r:Request) (k:Int) (i:Nat):Bool:=((groupsR r).getD k.toNat default).contains (unitCls r i)
def unitsOf (r:Request) (k:Int):List Int:=if inB k 0 ((groupsR r).length - 1)=true then ((List.range (unitsR r).length).filter (inGroup r k)).map Int.ofNat else []
def itemOf (r:Request) (all:List Int) (u:Int):Item×Bool:=if inB u 0 (all.length - 1)=true then (r.items.getD (all.getD u.toNat 0).toNat default,true) else (default,false)
def loadStep (r:Request) (all:List Int) (l:Int×Int) (u:Int):Int×Int:=(wrap64 (l.1 + vol (itemOf r all u).1.w (itemOf r all u).1.h (itemOf r all u).1.d),wrap64 (l.2 + (itemOf r all u).1.gram))
def loadOf (r:Request) (all us:List Int):Int×Int:=us.foldl (loadStep r all) (0,0)
def loadFits (l:Int×Int) (t:GType):Bool:=decide (l.1≤vol t.w t.h t.d) && decide (l.2≤t.gram)
def roomR (r:Request) (all:List Int) (m:GType) (content:List Int) (u:Int):Bool:=loadFits (loadOf r all (content ++ [u])) m
def knownR (all us:List Int):List Int:=us.filter fun u=>inB u 0 (all.length - 1)
def nextStep (r:Request) (all:List Int) (m:GType) (out:List (List Int)) (u:Int):List (List Int):=if (decide (0 < out.length) && roomR r all m (lastD out) u)=true then setLast out (lastD out ++ [u]) else out ++ [[u]]
def nextR (r:Request) (us:List Int):List (List Int):=us.foldl (nextStep r (unitsR r) (masterOf r).1) []
def firstStep (r:Request) (all:List Int) (m:GType) (out:List (List Int)) (u:Int):List (List Int):=addAt out (firstI (fun c=>roomR r all m c u) out) u
def volKeys (r:Request) (all us:List Int):List Int:=us.map fun u=>(loadOf r all [u]).1
def pickAt (us:List Int) (ps:List Nat):List Int:=ps.map fun i=>us.getD i 0
def firstR (r:Request) (us:List Int):List (List Int):=(pickAt us (argDown (volKeys r (unitsR r) us))).foldl (firstStep r (unitsR r) (masterOf r).1) []
def nextFit (r:Request) (us:List Int):List (List Int):=if soundR r=true then nextR r (knownR (unitsR r) us) else []
def firstFit (r:Request) (us:List Int):List (List Int):=if soundR r=true then firstR r (knownR (unitsR r) us) else []
def packWay (r:Request) (us:List Int):List (List Int):=if r.way=1 then nextFit r us else firstFit r us
def holdsOne (r:Request) (t:GType) (u:Int):Bool:=(itemOf r (unitsR r) u).2 && fits (itemOf r (unitsR r) u).1 t
def holdsR (r:Request) (content:List Int) (t:GType):Bool:=soundR r && (content.all (holdsOne r t) && loadFits (loadOf r (unitsR r) content) t)
def better (t:GType) (b:GType×Bool):Bool:=!b.2 || (decide (t.cost < b.1.cost) || (t.cost == b.1.cost && decide (t.id < b.1.id)))
def cheapStep (r:Request) (content:List Int) (b:GType×Bool) (t:GType):GType×Bool:=if holdsR r content t=true then (if better t b=true then (t,true) else b) else b
def cheapest (r:Request) (content:List Int):GType×Bool:=r.types.foldl (cheapStep r content) (default,false)
def cartonR (r:Request) (k:Int) (c:List Int):Carton:=⟨(cheapest r c).1.id,k,sortI c⟩
def cartonsG (r:Request) (k:Int):List Carton:=(packWay r (unitsOf r k)).map (cartonR r k)
def cartonsR (r:Request):List Carton:=(List.range (groupsR r).length).flatMap fun k:Nat=>cartonsG r (k:Int)
def gramStep (r:Request) (n u:Int):Int:=wrap64 (n + (itemOf r (unitsC r) u).1.gram)
def gramOf (r:Request) (us:List Int):Int:=us.foldl (gramStep r) 0
def gross (r:Request) (x:Carton):Int:=if (soundR r && (typeById r x.type).2)=true then wrap64 ((typeById r x.type).1.tare + gramOf r x.units) else 0
def boxR (r:Request) (x:Carton):Box:=if (soundR r && (typeById r x.type).2)=true then ⟨(typeById r x.type).1.w,(typeById r x.type).1.d,(typeById r x.type).1.h,gross r x⟩ else ⟨0,0,0,0⟩
def boxOk (p:Pallet) (b:Box):Bool:=inB b.w 1 p.w && inB b.d 1 p.d && inB b.h 1 p.h && inB b.gram 1 p.gram
def boxesOk (p:Pallet) (bs:List Box):Bool:=palletOk p && bs.all (boxOk p)
def shelfAdd (s:Shelf) (i:Int) (b:Box):Shelf:=⟨s.list ++ [i],wrap64 (s.w + b.w),max s.d b.d,max s.h b.h,wrap64 (s.gram + b.gram)⟩
def shelfRoom (p:Pallet) (s:Shelf) (b:Box):Bool:=decide (wrap64 (s.w + b.w)≤p.w) && decide (wrap64 (s.gram + b.gram)≤p.gram)
def shelfStep (p:Pallet) (bs:List Box) (out:List Shelf) (i:Nat):List Shelf:=if (decide (0 < out.length) && shelfRoom p (lastD out) (bs.getD i default))=true then setLast out (shelfAdd (lastD out) i (bs.getD i default)) else out ++ [shelfAdd default i (bs.getD i default)]
def shelvesR (p:Pallet) (bs:List Box):List Shelf:=if boxesOk p bs=true then (argDown (bs.map (·.d))).foldl (shelfStep p bs) [] else []
def flatOk (p:Pallet) (d h gram:Int):Bool:=inB d 1 p.d && inB h 1 p.h && inB gram 1 p.gram
def shelvesOk (p:Pallet) (ss:List Shelf):Bool:=palletOk p && ss.all fun s=>flatOk p s.d s.h s.gram
def stacksOk (p:Pallet) (ss:List Layer):Bool:=palletOk p && ss.all fun s=>flatOk p s.d s.h s.gram
def layerNew (p:Pallet) (out:List Layer) (s:Shelf):Bool:=decide (out.length=0) || (decide (p.d < wrap64 ((lastD out).d + s.d)) || decide (p.gram < wrap64 ((lastD out).gram + s.gram)))
def layerAdd (l:Layer) (i:Int) (s:Shelf):Layer:=⟨l.shelves ++ [i],wrap64 (l.d + s.d),max l.h s.h,wrap64 (l.gram + s.gram)⟩
def layerStep (p:Pallet) (out:List Layer) (x:Shelf×Nat):List Layer:=if layerNew p out x.1=true then out ++ [layerAdd default x.2 x.1] else setLast out (layerAdd (lastD out) x.2 x.1)
def layersR (p:Pallet) (ss:List Shelf):List Layer:=if shelvesOk p ss=true then ss.zipIdx.foldl (layerStep p) [] else []
def loadNew (p:Pallet) (out:List GLoad) (s:Layer):Bool:=decide (out.length=0) || (decide (p.h < wrap64 ((lastD out).h + s.h)) || decide (p.gram < wrap64 ((lastD out).gram + s.gram)))
def loadAdd (l:GLoad) (i:Int) (s:Layer):GLoad:=⟨l.layers ++ [i],wrap64 (l.h + s.h),wrap64 (l.gram + s.gram)⟩
def loadPut (p:Pallet) (out:List GLoad) (x:Layer×Nat):List GLoad:=if loadNew p out x.1=true then out ++ [loadAdd default x.2 x.1] else setLast out (loadAdd (lastD out) x.2 x.1)
def loadsR (p:Pallet) (ls:List Layer):List GLoad:=if stacksOk p ls=true then ls.zipIdx.foldl (loadPut p) [] else []
def rowStep (bs:List Box) (o y z:Int) (a:List Spot×Int) (i:Int):List Spot×Int:=(a.1.set i.toNat ⟨o,a.2,y,z⟩,wrap64 (a.2 + (bs.getD i.toNat default).w))
def rowPut (bs:List Box) (o y z:Int) (out:List Spot) (s:Shelf):List Spot×Int:=s.list.foldl (rowStep bs o y z) (out,0)
def layStep (bs:List Box) (ss:List Shelf) (o z:Int) (a:List Spot×Int) (i:Int):List Spot×Int:=((rowPut bs o a.2 z a.1 (ss.getD i.toNat default)).1,wrap64 (a.2 + (ss.getD i.toNat default).d))
def layPut (bs:List Box) (ss:List Shelf) (o z:Int) (out:List Spot) (l:Layer):List Spot×Int:=l.shelves.foldl (layStep bs ss o z) (out,0)
def loStep (bs:List Box) (ss:List Shelf) (ls:List Layer) (o:Int) (a:List Spot×Int) (i:Int):List Spot×Int:=((layPut bs ss o a.2 a.1 (ls.getD i.toNat default)).1,wrap64 (a.2 + (ls.getD i.toNat default).h))
def loPut (bs:List Box) (ss:List Shelf) (ls:List Layer) (out:List Spot) (x:GLoad×Nat):List Spot:=(x.1.layers.foldl (loStep bs ss ls x.2) (out,0)).1
def spotsR (p:Pallet) (bs:List Box):List Spot:=if boxesOk p bs=true then (loadsR p (layersR p (shelvesR p bs))).zipIdx.foldl (loPut bs (shelvesR p bs) (layersR p (shelvesR p bs))) (List.replicate bs.length ⟨0,0,0,0⟩) else []
def palStep (n:Int) (s:Spot):Int:=if inB s.pallet 0 999999=true then max n (wrap64 (s.pallet + 1)) else n
def palletsR (xs:List Spot):Int:=xs.foldl palStep 0
def Spot.up (n:Int) (s:Spot):Spot:=⟨wrap64 (s.pallet + n),s.x,s.y,s.z⟩
def boxesG (r:Request) (cs:List Carton) (k:Nat):List Box:=(cs.filter fun c=>c.group == (k:Int)).map (boxR r)
def planStep (r:Request) (cs:List Carton) (a:List Spot×Int) (k:Nat):List Spot×Int:=(a.1 ++ (spotsR r.pallet (boxesG r cs k)).map (Spot.up a.2),wrap64 (a.2 + palletsR (spotsR r.pallet (boxesG r cs k))))
def planOf (r:Request):Plan×Bool:=if soundR r=true then (⟨cartonsR r,((List.range (groupsR r).length).foldl (planStep r (cartonsR r)) ([],0)).1⟩,true) else (⟨[],[]⟩,false)
section
variable {α β:Type}
theorem firstFrom_end (p:α→Bool) (xs:List α):firstFrom p xs xs.length = -1:=by simp [firstFrom]
theorem firstFrom_step {p:α→Bool} {xs:List α} {j:Nat} {x:α} (h:xs[j]? = some x):firstFrom p xs j=if p x=true then (j:Int) else firstFrom p xs (j + 1):=by
 unfold firstFrom
 obtain ⟨hj,rfl⟩:=List.getElem?_eq_some_iff.1 h
 rw [List.drop_eq_getElem_cons hj,List.findIdx?_cons]
 cases p xs[j]
 ·cases (xs.drop (j + 1)).findIdx? p <;> simp;omega
 ·simp
theorem firstFrom_lt (p:α→Bool) (xs:List α) (j:Nat):firstFrom p xs j < xs.length∧-1≤firstFrom p xs j:=by
 unfold firstFrom
 cases h:(xs.drop j).findIdx? p with
 |none=>simp;omega
 |some k =>
  obtain ⟨hk,_⟩:=List.findIdx?_eq_some_iff_getElem.1 h
  simp at hk ⊢
  omega
theorem foldl_take_step {f:β→α→β} {b:β} {xs:List α} {k:Nat} {x:α} (h:xs[k]? = some x):(xs.take (k + 1)).foldl f b=f ((xs.take k).foldl f b) x:=by
 rw [List.take_add_one,h,List.foldl_append]
 rfl
theorem lastD_get [Inhabited α] {xs:List α} (h:0 < xs.length):xs[xs.length - 1]? = some (lastD xs):=by
 unfold lastD
 rw [List.getElem?_eq_getElem (by omega),List.getD_eq_getElem?_getD,List.getElem?_eq_getElem (by omega)]
 rfl
theorem getD_get [Inhabited α] {xs:List α} {k:Nat} (h:k < xs.length):xs[k]? = some (xs.getD k default):=by
 rw [List.getElem?_eq_getElem h,List.getD_eq_getElem?_getD,List.getElem?_eq_getElem h]
 rfl
end
theorem clss_step {k:Nat} (h:k < 4):clss[k]? = some (k:Int):=by
 match k,h with
 |0,_=>rfl
 |1,_=>rfl
 |2,_=>rfl
 |3,_=>rfl
theorem unitsG_take:∀ (i:Nat) (xs:List Item) (k:Nat) (x:Item),xs[k]? = some x→unitsG i (xs.take (k + 1))=unitsG i (xs.take k) ++ List.replicate x.count.toNat ((i + k:Nat):Int)
 |_,[],_,_,h=>by simp at h
 |i,y::ys,0,x,h=>by simp at h;subst h;simp [unitsG]
 |i,y::ys,k + 1,x,h=>by
  have:=unitsG_take (i + 1) ys k x (by simpa using h)
  simp only [List.take_succ_cons,unitsG,this,List.append_assoc]
  rw [show i + 1 + k=i + (k + 1) by omega]
theorem unitsG_mem:∀ (i:Nat) (xs:List Item) (u:Int),u∈unitsG i xs→(i:Int)≤u∧u < (i + xs.length:Nat)
 |_,[],_,h=>by simp [unitsG] at h
 |i,x::xs,u,h=>by
  simp only [unitsG,List.mem_append,List.mem_replicate] at h
  rcases h with ⟨_,rfl⟩ | h
  ·simp;try omega
  ·have:=unitsG_mem (i + 1) xs u h
   simp at this ⊢
   omega
theorem unitsG_len:∀ (i:Nat) (xs:List Item),(∀ x∈xs,0≤x.count)→((unitsG i xs).length:Int)=sumCount xs
 |_,[],_=>rfl
 |i,x::xs,h=>by
  have:=unitsG_len (i + 1) xs (fun y hy=>h y (by simp [hy]))
  have:=h x (by simp)
  simp [unitsG,sumCount]
  omega
theorem units_item {r:Request} {i:Nat} {u:Int} (h:(unitsR r)[i]? = some u):0≤u∧r.items[u.toNat]? = some (r.items.getD u.toNat default)∧u.toNat < r.items.length:=by
 obtain ⟨h1,h2⟩:=unitsG_mem 0 r.items u (List.mem_of_getElem? h)
 have h3:u.toNat < r.items.length:=by simp at h1 h2;omega
 exact ⟨by simpa using h1,getD_get h3,h3⟩
end Go.Proofs.YtioijfplbgpjpaaGreat
namespace Go.Proofs.YtioijfplbgpjpaaGreat
set_option linter.unusedVariables false
set_option linter.unusedSimpArgs false
set_option maxRecDepth 100000
open Go.RowKit
theorem wrap64_id {n:Int} (h0:0≤n) (h1:n < 9223372036854775808):wrap64 n=n:=by unfold wrap64;omega
theorem wrap64_wrap64 (n:Int):wrap64 (wrap64 n)=wrap64 n:=by unfold wrap64;omega
theorem foldl_inv {α β:Type} {f:β→α→β} (P:β→Prop) {xs:List α} {b:β} (h0:P b) (hs:∀ b x,x∈xs→P b→P (f b x)):P (xs.foldl f b):=by
 induction xs generalizing b with
 |nil=>exact h0
 |cons x xs ih=>exact ih (hs b x (by simp) h0) (fun b y hy=>hs b y (by simp [hy]))
theorem inB_iff {n a b:Int} : inB n a b=true↔a≤n∧n≤b:=by unfold inB;simp
theorem firstFrom_at {α:Type} [Inhabited α] {p:α→Bool} {xs:List α} (h : ¬ firstI p xs < 0):(firstI p xs).toNat < xs.length∧p (xs.getD (firstI p xs).toNat default)=true:=by
 have hl:firstI p xs < xs.length∧-1≤firstI p xs:=firstFrom_lt p xs 0
 refine ⟨by omega,?_⟩
 unfold firstI firstFrom at *
 revert h hl
 cases he:(xs.drop 0).findIdx? p with
 |none=>simp
 |some k =>
  intro h hl
  obtain ⟨hk,h1,_⟩:=List.findIdx?_eq_some_iff_getElem.1 he
  simp only [List.drop_zero] at hk h1
  simp only [Nat.zero_add,Int.toNat_natCast]
  rw [List.getD_eq_getElem?_getD,List.getElem?_eq_getElem hk]
  exact h1
section
set_option linter.unusedSectionVars false
variable {α:Type} [Inhabited α] {P:α→Prop} {xs:List α} {x:α}
theorem all_setLast (h:∀ c∈xs,P c) (hx:P x):∀ c∈setLast xs x,P c:=fun c hc=>by
 unfold setLast at hc
 rcases List.mem_or_eq_of_mem_set hc with hc | rfl
 ·exact h c hc
 ·exact hx
theorem lastD_mem (h:0 < xs.length):lastD xs∈xs:=List.mem_of_getElem? (lastD_get h)
theorem getD_mem {k:Nat} (h:k < xs.length):xs.getD k default∈xs:=List.mem_of_getElem? (getD_get h)
end
theorem addAt_all {P:List Int→Prop} {out:List (List Int)} {p:List Int→Bool} {x:Int} (h:∀ c∈out,P c) (h1:P [x]) (h2:∀ c∈out,p c=true→P (c ++ [x])):∀ c∈addAt out (firstI p out) x,P c:=fun c hc=>by
 unfold addAt at hc
 split at hc
 ·rcases List.mem_append.1 hc with hc | hc
  ·exact h c hc
  ·simp at hc;subst hc;exact h1
 ·rename_i hn
  have ha:=firstFrom_at hn
  rcases List.mem_or_eq_of_mem_set hc with hc | rfl
  ·exact h c hc
  ·exact h2 _ (getD_mem ha.1) ha.2
theorem nextStep_all {P:List Int→Prop} {r:Request} {all:List Int} {m:GType} {out:List (List Int)} {x:Int} (h:∀ c∈out,P c) (h1:P [x]) (h2:∀ c∈out,roomR r all m c x=true→P (c ++ [x])):∀ c∈nextStep r all m out x,P c:=fun c hc=>by
 unfold nextStep at hc
 split at hc
 ·rename_i hn
  simp only [Bool.and_eq_true,decide_eq_true_eq] at hn
  exact all_setLast h (h2 _ (lastD_mem hn.1) hn.2) c hc
 ·rcases List.mem_append.1 hc with hc | hc
  ·exact h c hc
  ·simp at hc;subst hc;exact h1
theorem flatten_set {out:List (List Int)} {k:Nat} {x:Int} (h:k < out.length):(out.set k (out.getD k default ++ [x])).flatten.length=out.flatten.length + 1:=by
 have hd:out=out.take k ++ out[k]::out.drop (k + 1):=by rw [← List.drop_eq_getElem_cons h,List.take_append_drop]
 rw [List.set_eq_take_append_cons_drop,if_pos h,List.getD_eq_getElem?_getD,List.getElem?_eq_getElem h]
 have he:out.flatten.length=(out.take k).flatten.length + (out[k].length + (out.drop (k + 1)).flatten.length):=by
  conv=>lhs;rw [hd]
  rw [List.flatten_append,List.flatten_cons,List.length_append,List.length_append]
 rw [he,List.flatten_append,List.flatten_cons,List.length_append,List.length_append,List.length_append]
 simp only [Option.getD_some,List.length_cons,List.length_nil]
 omega
theorem mem_le_flatten:∀ {c:List Int} {out:List (List Int)},c∈out→c.length≤out.flatten.length
 |_,[],h=>by simp at h
 |c,d::out,h=>by
  rw [List.flatten_cons,List.length_append]
  rcases List.mem_cons.1 h with rfl | h
  ·omega
  ·have:=mem_le_flatten h
   omega
theorem addAt_len {out:List (List Int)} {p:List Int→Bool} {x:Int} : (addAt out (firstI p out) x).flatten.length=out.flatten.length + 1∧(addAt out (firstI p out) x).length≤out.length + 1:=by
 unfold addAt
 split
 ·simp
 ·rename_i hn
  exact ⟨flatten_set (firstFrom_at hn).1,by simp⟩
theorem nextStep_len {r:Request} {all:List Int} {m:GType} {out:List (List Int)} {x:Int} : (nextStep r all m out x).flatten.length=out.flatten.length + 1∧(nextStep r all m out x).length≤out.length + 1:=by
 unfold nextStep
 split
 ·rename_i hn
  simp only [Bool.and_eq_true,decide_eq_true_eq] at hn
  exact ⟨flatten_set (k:=out.length - 1) (by omega),by simp [setLast]⟩
 ·simp
theorem pack_len {f:List (List Int)→Int→List (List Int)} (hf:∀ out x,(f out x).flatten.length=out.flatten.length + 1∧(f out x).length≤out.length + 1):∀ (us:List Int) (out:List (List Int)),(us.foldl f out).flatten.length=out.flatten.length + us.length∧(us.foldl f out).length≤out.length + us.length
 |[],out=>by simp
 |u::us,out=>by
  have h1:=pack_len hf us (f out u)
  have h2:=hf out u
  simp only [List.foldl_cons,List.length_cons]
  omega
theorem pickAt_len (us:List Int) (ps:List Nat):(pickAt us ps).length=ps.length:=by simp [pickAt]
theorem pickAt_mem {us:List Int} {ks:List Int} {u:Int} (hk:ks.length=us.length) (h:u∈pickAt us (argDown ks)):u∈us:=by
 unfold pickAt at h
 obtain ⟨i,hi,rfl⟩:=List.mem_map.1 h
 have:=argDown_mem.1 hi
 exact getD_mem (by omega)
theorem packWay_len (r:Request) (us:List Int):(packWay r us).flatten.length≤us.length∧(packWay r us).length≤us.length:=by
 have hk:(knownR (unitsR r) us).length≤us.length:=List.length_filter_le _ _
 unfold packWay nextFit firstFit
 split
 ·split
  ·have:=pack_len (fun out x=>nextStep_len (r:=r) (all:=unitsR r) (m:=(masterOf r).1) (out:=out) (x:=x)) (knownR (unitsR r) us) []
   unfold nextR
   simp at this ⊢
   omega
  ·simp
 ·split
  ·have:=pack_len (fun out x=>addAt_len (out:=out) (p:=fun c=>roomR r (unitsR r) (masterOf r).1 c x) (x:=x)) (pickAt (knownR (unitsR r) us) (argDown (volKeys r (unitsR r) (knownR (unitsR r) us)))) []
   rw [pickAt_len,argDown_length] at this
   unfold firstR
   simp [volKeys] at this ⊢
   unfold firstStep
   omega
  ·simp
theorem packWay_all {P:List Int→Prop} {r:Request} {us:List Int} (h1:∀ u∈us,inB u 0 ((unitsR r).length - 1)=true→P [u]) (h2:∀ u∈us,inB u 0 ((unitsR r).length - 1)=true→∀ c,P c→roomR r (unitsR r) (masterOf r).1 c u=true→P (c ++ [u])):∀ c∈packWay r us,P c:=by
 have hk:∀ u∈knownR (unitsR r) us,u∈us∧inB u 0 ((unitsR r).length - 1)=true:=fun u hu=>by simpa [knownR] using hu
 unfold packWay nextFit firstFit
 split
 ·split
  ·exact foldl_inv (fun out=>∀ c∈out,P c) (by simp) (fun out u hu h=>nextStep_all h (h1 u (hk u hu).1 (hk u hu).2) (fun c hc=>h2 u (hk u hu).1 (hk u hu).2 c (h c hc)))
  ·simp
 ·split
  ·refine foldl_inv (fun out=>∀ c∈out,P c) (by simp) (fun out u hu h=>?_)
   have hu':=pickAt_mem (by simp [volKeys]) hu
   exact addAt_all h (h1 u (hk u hu').1 (hk u hu').2) (fun c hc=>h2 u (hk u hu').1 (hk u hu').2 c (h c hc))
  ·simp
theorem groups_len (r:Request):(groupsR r).length≤4∧∀ g∈groupsR r,g.length≤4:=by
 have hs:∀ (cs:List Int) (out:List (List Int)),(cs.foldl (groupStep r.pairs (presentR r)) out).length≤out.length + cs.length∧(cs.foldl (groupStep r.pairs (presentR r)) out).flatten.length≤out.flatten.length + cs.length:=by
  intro cs
  induction cs with
  |nil=>simp
  |cons c cs ih =>
   intro out
   have h1:=ih (groupStep r.pairs (presentR r) out c)
   have h2:(groupStep r.pairs (presentR r) out c).length≤out.length + 1∧(groupStep r.pairs (presentR r) out c).flatten.length≤out.flatten.length + 1:=by
    unfold groupStep
    split
    ·have:=@addAt_len out (fun g=>joins r.pairs g c) c
     omega
    ·omega
   simp only [List.foldl_cons,List.length_cons]
   omega
 have h:=hs clss []
 exact ⟨Nat.le_trans h.1 (by decide),fun g hg=>Nat.le_trans (mem_le_flatten hg) (Nat.le_trans h.2 (by decide))⟩
end Go.Proofs.YtioijfplbgpjpaaGreat
namespace Go.Proofs.YtioijfplbgpjpaaGreat
set_option linter.unusedVariables false
set_option linter.unusedSimpArgs false
set_option maxRecDepth 100000
open Go.RowKit
structure Right (r:Request):Prop where
 pal:palletOk r.pallet=true
 types:∀ t∈r.types,typeOk t=true
 items:∀ x∈r.items,itemOk x=true
 units:sumCount r.items≤12
 nitems:r.items.length≤8
 ntypes:r.types.length≤5
 npairs:r.pairs.length≤16
 dup:∀ i,i < r.types.length→typeDup r.types i=false
 master:(masterOf r).2=true
 fit:∀ x∈r.items,fits x (masterOf r).1=true
 small:∀ t∈r.types,tooBig r.pallet t=false
theorem right_of {r:Request} (h:soundR r=true):Right r:=by
 unfold soundR classOf at h
 simp only [beq_iff_eq] at h
 split at h
 ·exact absurd h (by decide)
 rename_i hb
 split at h
 ·exact absurd h (by decide)
 rename_i hn
 split at h
 ·exact absurd h (by decide)
 split at h
 ·exact absurd h (by decide)
 rename_i hf
 split at h
 ·exact absurd h (by decide)
 rename_i ht
 simp only [Bool.not_eq_false] at hb hn
 simp only [Bool.not_eq_true,List.any_eq_false] at hf ht
 unfold boundsOk at hb
 unfold namesOk at hn
 simp only [Bool.and_eq_true,decide_eq_true_eq,List.all_eq_true,List.mem_range] at hb hn
 obtain ⟨⟨⟨⟨⟨⟨⟨⟨⟨⟨-,h1⟩,-⟩,h2⟩,-⟩,h3⟩,h4⟩,-⟩,h5⟩,h6⟩,h7⟩:=hb
 obtain ⟨⟨⟨h8,-⟩,-⟩,h9⟩:=hn
 exact ⟨h1,h4,h6,h7,h5,by have:=(inB_iff.1 h3).2;omega,h2,fun i hi=>by simpa using h8 i hi,h9,fun x hx=>by simpa using hf x hx,fun t ht'=>by simpa using ht t ht'⟩
variable {r:Request}
theorem Right.nunits (h:Right r):(unitsR r).length≤12:=by
 have:=unitsG_len 0 r.items (fun x hx=>by have:=h.items x hx;unfold itemOk at this;simp only [Bool.and_eq_true] at this;have:=(inB_iff.1 this.2).1;omega)
 have:=h.units
 unfold unitsR
 omega
theorem typeById_mem {id:Int} (h:(typeById r id).2=true):(typeById r id).1∈r.types∧(typeById r id).1.id=id:=by
 unfold typeById at *
 cases hf:r.types.find? (fun t=>t.id == id) with
 |none=>rw [hf] at h;simp at h
 |some t=>exact ⟨List.mem_of_find?_eq_some hf,by simpa using List.find?_some hf⟩
theorem Right.byId (h:Right r) {t:GType} (ht:t∈r.types):typeById r t.id=(t,true):=by
 obtain ⟨k,hk,rfl⟩:=List.getElem_of_mem ht
 cases hf:r.types.find? (fun q=>q.id == r.types[k].id) with
 |none=>exact absurd (List.find?_eq_none.1 hf _ ht) (by simp)
 |some q =>
  obtain ⟨hq,i,hi,rfl,hlt⟩:=List.find?_eq_some_iff_getElem.1 hf
  have:i=k:=by
   rcases Nat.lt_trichotomy i k with hik | hik | hik
   ·have hd:=h.dup k hk
    unfold typeDup at hd
    rw [List.any_eq_false] at hd
    have:=hd r.types[i] (List.mem_take_iff_getElem.2 ⟨i,by omega,rfl⟩)
    rw [List.getD_eq_getElem?_getD,List.getElem?_eq_getElem hk] at this
    exact absurd hq this
   ·exact hik
   ·have:=hlt k hik
    simp at this
  subst this
  unfold typeById
  rw [hf]
theorem vol_le {x:Item} {t:GType} (h:fits x t=true) (hx:itemOk x=true) (ht:typeOk t=true):vol x.w x.h x.d≤vol t.w t.h t.d:=by
 have hp:∀ a b c:Int,∃ p q s,sides a b c=[p,q,s]∧p * q * s=a * b * c∧(∀ y∈[p,q,s],y=a ∨ y=b ∨ y=c):=by
  intro a b c
  have hperm:=sortI_perm [a,b,c]
  have hlen:=hperm.length_eq
  have hmem:=fun y=>(hperm.mem_iff (a:=y)).1
  have hprod:=hperm.foldr_eq' (f:=fun x y:Int=>x * y) (fun x _ y _ z=>by simp only [Int.mul_left_comm]) 1
  unfold sides
  match hs:sortI [a,b,c],hlen with
  |[p,q,s],_ =>
   rw [hs] at hprod hmem
   exact ⟨p,q,s,rfl,by simp at hprod;rw [Int.mul_assoc,hprod,Int.mul_assoc],fun y hy=>by simpa using hmem y hy⟩
 obtain ⟨p,q,s,e1,m1,b1⟩:=hp x.w x.h x.d
 obtain ⟨p2,q2,s2,e2,m2,b2⟩:=hp t.w t.h t.d
 unfold fits at h
 rw [e1,e2] at h
 simp only [leSides,Bool.and_eq_true,decide_eq_true_eq] at h
 unfold itemOk sideOk at hx
 unfold typeOk sideOk at ht
 simp only [Bool.and_eq_true,inB_iff] at hx ht
 have hv:∀ a b c:Int,1≤a∧a≤2000→1≤b∧b≤2000→1≤c∧c≤2000→vol a b c=a * b * c:=by
  intro a b c ha hb hc
  have h1:a * b≤2000 * 2000:=Int.mul_le_mul ha.2 hb.2 (by omega) (by omega)
  have h0:0≤a * b:=Int.mul_nonneg (by omega) (by omega)
  have h2:a * b * c≤2000 * 2000 * 2000:=Int.mul_le_mul h1 hc.2 (by omega) (by omega)
  have h3:0≤a * b * c:=Int.mul_nonneg h0 (by omega)
  unfold vol
  rw [if_pos (by simp [inB];omega),wrap64_id (n:=a * b) (by omega) (by omega),wrap64_id (n:=a * b * c) (by omega) (by omega)]
 rw [hv _ _ _ (by omega) (by omega) (by omega),hv _ _ _ (by omega) (by omega) (by omega),← m1,← m2]
 have g:∀ y∈[p,q,s],0≤y:=fun y hy=>by rcases b1 y hy with h | h | h <;> omega
 have g2:∀ y∈[p2,q2,s2],0≤y:=fun y hy=>by rcases b2 y hy with h | h | h <;> omega
 have gp:=g p (by simp)
 have gq:=g q (by simp)
 have gs:=g s (by simp)
 have gp2:=g2 p2 (by simp)
 have gq2:=g2 q2 (by simp)
 exact Int.mul_le_mul (Int.mul_le_mul h.1.1.1 h.1.1.2 gq gp2) h.1.2 gs (Int.mul_nonneg gp2 gq2)
theorem itemOf_known {u:Int} (h:inB u 0 ((unitsR r).length - 1)=true):(itemOf r (unitsR r) u).2=true∧(itemOf r (unitsR r) u).1∈r.items:=by
 have hu:=inB_iff.1 h
 have hk:u.toNat < (unitsR r).length:=by omega
 obtain ⟨h1,h2,h3⟩:=units_item (getD_get hk)
 unfold itemOf
 rw [if_pos h]
 exact ⟨rfl,getD_mem h3⟩
structure Content (r:Request) (c:List Int):Prop where
 known:∀ u∈c,inB u 0 ((unitsR r).length - 1)=true
 load:loadFits (loadOf r (unitsR r) c) (masterOf r).1=true
 least:1≤(loadOf r (unitsR r) c).2
theorem Right.masterOk (h:Right r):typeOk (masterOf r).1=true:=h.types _ (typeById_mem h.master).1
theorem loadOf_app {all c:List Int} {u:Int} : loadOf r all (c ++ [u])=loadStep r all (loadOf r all c) u:=by simp [loadOf]
theorem Right.one (h:Right r) {u:Int} (hu:inB u 0 ((unitsR r).length - 1)=true):Content r [u]:=by
 obtain ⟨_,h2⟩:=itemOf_known hu
 have hx:=h.items _ h2
 have hv:=vol_le (h.fit _ h2) hx h.masterOk
 have hf:=h.fit _ h2
 have hr:∀ a b c:Int,0≤vol a b c ∨ True:=fun _ _ _=>.inr trivial
 have hg:(1≤(itemOf r (unitsR r) u).1.gram∧(itemOf r (unitsR r) u).1.gram≤100000)∧(itemOf r (unitsR r) u).1.gram≤(masterOf r).1.gram:=by
  unfold itemOk at hx
  unfold fits at hf
  simp only [Bool.and_eq_true,inB_iff,decide_eq_true_eq] at hx hf
  exact ⟨hx.1.1.2,hf.2⟩
 have hl:loadOf r (unitsR r) [u]=(vol (itemOf r (unitsR r) u).1.w (itemOf r (unitsR r) u).1.h (itemOf r (unitsR r) u).1.d,(itemOf r (unitsR r) u).1.gram):=by
  show loadStep r (unitsR r) (0,0) u=_
  unfold loadStep
  rw [Int.zero_add,Int.zero_add,wrap64_id (n:=Item.gram _) (by omega) (by omega)]
  congr 1
  unfold vol
  split
  ·exact wrap64_wrap64 _
  ·exact wrap64_id (by omega) (by omega)
 refine ⟨by simpa using hu,?_,?_⟩
 ·rw [hl]
  unfold loadFits
  simp only [Bool.and_eq_true,decide_eq_true_eq]
  exact ⟨hv,hg.2⟩
 ·rw [hl]
  exact hg.1.1
theorem Right.more (h:Right r) {c:List Int} {u:Int} (hu:inB u 0 ((unitsR r).length - 1)=true) (hc:Content r c) (hr:roomR r (unitsR r) (masterOf r).1 c u=true):Content r (c ++ [u]):=by
 obtain ⟨_,h2⟩:=itemOf_known hu
 have hx:=h.items _ h2
 have hm:=h.masterOk
 unfold itemOk at hx
 unfold typeOk at hm
 simp only [Bool.and_eq_true,inB_iff] at hx hm
 have hl:=hc.load
 unfold loadFits at hl
 simp only [Bool.and_eq_true,decide_eq_true_eq] at hl
 refine ⟨fun x hx=>?_,hr,?_⟩
 ·rcases List.mem_append.1 hx with hx | hx
  ·exact hc.known x hx
  ·simp at hx;subst hx;exact hu
 ·rw [loadOf_app]
  have:=hc.least
  unfold loadStep
  rw [wrap64_id (n:=(loadOf r (unitsR r) c).2 + _) (by omega) (by omega)]
  omega
theorem Right.contents (h:Right r) (us:List Int):∀ c∈packWay r us,Content r c :=
 packWay_all (fun _ _ hu=>h.one hu) (fun _ _ hu _ hc hr=>h.more hu hc hr)
theorem Right.holds (hs:soundR r=true) (h:Right r) {c:List Int} (hc:Content r c):holdsR r c (masterOf r).1=true:=by
 unfold holdsR
 simp only [Bool.and_eq_true,List.all_eq_true]
 refine ⟨hs,fun u hu=>?_,hc.load⟩
 obtain ⟨h1,h2⟩:=itemOf_known (hc.known u hu)
 unfold holdsOne
 rw [h1,h.fit _ h2]
 rfl
theorem cheapest_all (c:List Int):∀ (ts:List GType) (b:GType×Bool),(b.2=true→b.1∈r.types∧holdsR r c b.1=true)→(∀ t∈ts,t∈r.types)→(((ts.foldl (cheapStep r c) b).2=true→(ts.foldl (cheapStep r c) b).1∈r.types∧holdsR r c (ts.foldl (cheapStep r c) b).1=true)∧((b.2=true ∨ ∃ t∈ts,holdsR r c t=true)→(ts.foldl (cheapStep r c) b).2=true))
 |[],b,hb,_=>⟨hb,fun h=>by simpa using h⟩
 |t::ts,b,hb,ht=>by
  have hst:((cheapStep r c b t).2=true→(cheapStep r c b t).1∈r.types∧holdsR r c (cheapStep r c b t).1=true)∧((b.2=true ∨ holdsR r c t=true)→(cheapStep r c b t).2=true):=by
   unfold cheapStep
   split
   ·rename_i hh
    split
    ·exact ⟨fun _=>⟨ht t (by simp),hh⟩,fun _=>rfl⟩
    ·rename_i hb2
     exact ⟨hb,fun _=>by unfold better at hb2;simp at hb2;exact hb2.1⟩
   ·rename_i hh
    exact ⟨hb,fun h=>h.resolve_right hh⟩
  have:=cheapest_all c ts (cheapStep r c b t) hst.1 (fun q hq=>ht q (by simp [hq]))
  refine ⟨this.1,fun h=>this.2 ?_⟩
  rcases h with h | ⟨q,hq,hh⟩
  ·exact .inl (hst.2 (.inl h))
  ·rcases List.mem_cons.1 hq with rfl | hq
   ·exact .inl (hst.2 (.inr hh))
   ·exact .inr ⟨q,hq,hh⟩
theorem Right.cheap (hs:soundR r=true) (h:Right r) {c:List Int} (hc:Content r c):(cheapest r c).2=true∧(cheapest r c).1∈r.types∧holdsR r c (cheapest r c).1=true:=by
 have:=cheapest_all (r:=r) c r.types (default,false) (by simp) (fun _ h=>h)
 have h2:=this.2 (.inr ⟨_,(typeById_mem h.master).1,h.holds hs hc⟩)
 exact ⟨h2,this.1 h2⟩
theorem wrap_add (a b:Int):wrap64 (wrap64 a + b)=wrap64 (a + b):=by unfold wrap64;omega
theorem load_snd (all:List Int):∀ (us:List Int) (l:Int×Int),(us.foldl (loadStep r all) l).2=us.foldl (fun n u=>wrap64 (n + (itemOf r all u).1.gram)) l.2
 |[],_=>rfl
 |u::us,l=>load_snd all us (loadStep r all l u)
theorem gram_perm (all:List Int) {us vs:List Int} (h:us.Perm vs) (n:Int):us.foldl (fun n u=>wrap64 (n + (itemOf r all u).1.gram)) n=vs.foldl (fun n u=>wrap64 (n + (itemOf r all u).1.gram)) n :=
 h.foldl_eq' (fun x _ y _ z=>by rw [wrap_add,wrap_add,Int.add_right_comm]) n
theorem Right.gram (hs:soundR r=true) (c:List Int):gramOf r (sortI c)=(loadOf r (unitsR r) c).2:=by
 unfold gramOf loadOf gramStep
 rw [load_snd,gram_perm _ (sortI_perm c)]
 unfold unitsC
 rw [if_pos hs]
theorem Right.box (hs:soundR r=true) (h:Right r) {c:List Int} (hc:Content r c) (k:Int):boxOk r.pallet (boxR r (cartonR r k c))=true:=by
 obtain ⟨_,h2,h3⟩:=h.cheap hs hc
 obtain ⟨t,ht⟩:∃ t,(cheapest r c).1=t:=⟨_,rfl⟩
 rw [ht] at h2 h3
 have hid:typeById r (cartonR r k c).type=(t,true):=by
  show typeById r (cheapest r c).1.id=_
  rw [ht]
  exact h.byId h2
 have hg:gramOf r (cartonR r k c).units=(loadOf r (unitsR r) c).2:=Right.gram hs c
 have hk:=h.types t h2
 have hb:=h.small t h2
 have hl:=hc.least
 unfold holdsR loadFits at h3
 unfold typeOk sideOk at hk
 unfold tooBig at hb
 simp only [Bool.and_eq_true,decide_eq_true_eq,inB_iff] at h3 hk
 simp only [Bool.or_eq_false_iff,decide_eq_false_iff_not] at hb
 unfold boxR gross
 rw [hid,hg,hs]
 simp only [Bool.and_self,if_true]
 rw [wrap64_id (by omega) (by omega)]
 unfold boxOk
 simp only [Bool.and_eq_true,inB_iff]
 omega
theorem mem_cartons {c:Carton} (h:c∈cartonsR r):∃ (k:Nat) (l:List Int),k < (groupsR r).length∧l∈packWay r (unitsOf r k)∧c=cartonR r k l:=by
 unfold cartonsR at h
 obtain ⟨k,hk,hc⟩:=List.mem_flatMap.1 h
 unfold cartonsG at hc
 obtain ⟨l,hl,rfl⟩:=List.mem_map.1 hc
 exact ⟨k,l,by simpa using hk,hl,rfl⟩
theorem Right.boxes (hs:soundR r=true) (h:Right r) (k:Nat):boxesOk r.pallet (boxesG r (cartonsR r) k)=true:=by
 unfold boxesOk
 rw [h.pal]
 simp only [Bool.true_and,List.all_eq_true]
 intro b hb
 unfold boxesG at hb
 obtain ⟨c,hc,rfl⟩:=List.mem_map.1 hb
 obtain ⟨k',l,_,hl,rfl⟩:=mem_cartons (List.mem_filter.1 hc).1
 exact h.box hs (h.contents _ l hl) _
theorem rowPut_len (bs:List Box) (o y z:Int) (out:List Spot) (s:Shelf):(rowPut bs o y z out s).1.length=out.length :=
 foldl_inv (f:=rowStep bs o y z) (fun a=>a.1.length=out.length) rfl (fun a i _ h=>by simpa [rowStep] using h)
theorem layPut_len (bs:List Box) (ss:List Shelf) (o z:Int) (out:List Spot) (l:Layer):(layPut bs ss o z out l).1.length=out.length :=
 foldl_inv (f:=layStep bs ss o z) (fun a=>a.1.length=out.length) rfl (fun a i _ h=>by simpa [layStep,rowPut_len] using h)
theorem loPut_len (bs:List Box) (ss:List Shelf) (ls:List Layer) (out:List Spot) (x:GLoad×Nat):(loPut bs ss ls out x).length=out.length :=
 foldl_inv (f:=loStep bs ss ls x.2) (fun a=>a.1.length=out.length) rfl (fun a i _ h=>by simpa [loStep,layPut_len] using h)
theorem spotsR_len {p:Pallet} {bs:List Box} (h:boxesOk p bs=true):(spotsR p bs).length=bs.length:=by
 unfold spotsR
 rw [if_pos h]
 exact foldl_inv (fun out:List Spot=>out.length=bs.length) (by simp) (fun out x _ h=>by rw [loPut_len,h])
theorem plan_fold (hs:soundR r=true) (h:Right r):∀ n:Nat,((List.range n).foldl (planStep r (cartonsR r)) ([],0)).1.length=((cartonsR r).filter (fun c=>decide (0≤c.group) && decide (c.group < (n:Int)))).length
 |0=>by
  rw [List.filter_eq_nil_iff.2 (fun c _=>by simp;try omega)]
  rfl
 |n + 1=>by
  have e:((List.range (n + 1)).foldl (planStep r (cartonsR r)) ([],0)).1=((List.range n).foldl (planStep r (cartonsR r)) ([],0)).1 ++ (spotsR r.pallet (boxesG r (cartonsR r) n)).map (Spot.up ((List.range n).foldl (planStep r (cartonsR r)) ([],0)).2):=by
   rw [List.range_succ,List.foldl_append]
   rfl
  rw [e,List.length_append,plan_fold hs h n]
  rw [List.length_map,spotsR_len (h.boxes hs n)]
  unfold boxesG
  rw [List.length_map]
  generalize cartonsR r=cs
  induction cs with
  |nil=>rfl
  |cons c cs ih =>
   simp only [List.filter_cons]
   by_cases h1:c.group=(n:Int)
   ·rw [if_neg (by simp;omega),if_pos (by simpa using h1),if_pos (by simp;omega)]
    simp only [List.length_cons]
    omega
   ·by_cases h2:0≤c.group∧c.group < (n:Int)
    ·rw [if_pos (by simpa using h2),if_neg (by simpa using h1),if_pos (by simp;omega)]
     simp only [List.length_cons]
     omega
    ·rw [if_neg (by simp;omega),if_neg (by simpa using h1),if_neg (by simp;omega)]
     exact ih
theorem plan_spots (hs:soundR r=true):(planOf r).1.spots.length=(planOf r).1.cartons.length:=by
 have h:=right_of hs
 unfold planOf
 rw [if_pos hs]
 refine Eq.trans (plan_fold hs h (groupsR r).length) ?_
 show _=(cartonsR r).length
 congr 1
 rw [List.filter_eq_self]
 intro c hc
 obtain ⟨k,l,hk,_,rfl⟩:=mem_cartons hc
 simp [cartonR]
 omega
theorem unitsOf_len (h:Right r) (k:Int):(unitsOf r k).length≤12:=by
 have:=h.nunits
 unfold unitsOf
 split
 ·have h2:=List.length_filter_le (inGroup r k) (List.range (unitsR r).length)
  simp at h2 ⊢
  omega
 ·simp
theorem cartons_len (hs:soundR r=true):(cartonsR r).length≤48∧∀ c∈cartonsR r,c.units.length≤12:=by
 have h:=right_of hs
 constructor
 ·have hg:=(groups_len r).1
  unfold cartonsR
  rw [List.length_flatMap]
  have:∀ n:Nat,((List.range n).map fun k:Nat=>(cartonsG r k).length).sum≤n * 12:=by
   intro n
   induction n with
   |zero=>simp
   |succ n ih =>
    rw [List.range_succ,List.map_append,List.sum_append]
    have h1:=(packWay_len r (unitsOf r n)).2
    have h2:=unitsOf_len h n
    have h3:(cartonsG r n).length=(packWay r (unitsOf r n)).length:=by simp [cartonsG]
    simp only [List.map_cons,List.map_nil,List.sum_cons,List.sum_nil]
    omega
  have:=this (groupsR r).length
  omega
 ·intro c hc
  obtain ⟨k,l,hk,hl,rfl⟩:=mem_cartons hc
  have h1:=mem_le_flatten hl
  have h2:=(packWay_len r (unitsOf r k)).1
  have h3:=unitsOf_len h k
  show (sortI l).length≤12
  rw [sortI_length]
  omega
end Go.Proofs.YtioijfplbgpjpaaGreat
namespace Go.Proofs.YtioijfplbgpjpaaGreat
set_option linter.unusedVariables false
set_option linter.unusedSimpArgs false
set_option maxRecDepth 100000
open Go.RowKit
theorem foldl_len {α β:Type} {f:List β→α→List β} (hf:∀ out x,(f out x).length≤out.length + 1):∀ (xs:List α) (out:List β),(xs.foldl f out).length≤out.length + xs.length
 |[],out=>by simp
 |x::xs,out=>by
  have h1:=foldl_len hf xs (f out x)
  have h2:=hf out x
  simp only [List.foldl_cons,List.length_cons]
  omega
def Named (n:Nat) (l:List Int):Prop:=∀ i∈l,0≤i∧i.toNat < n
theorem Named.add {n k:Nat} {l:List Int} (h:Named n l) (hk:k < n):Named n (l ++ [(k:Int)]):=fun i hi=>by
 rcases List.mem_append.1 hi with hi | hi
 ·exact h i hi
 ·simp at hi
  subst hi
  exact ⟨by omega,by simpa using hk⟩
theorem Named.nil (n:Nat):Named n []:=fun i hi=>by simp at hi
theorem shelves_named (p:Pallet) (bs:List Box):∀ s∈shelvesR p bs,Named bs.length s.list:=by
 unfold shelvesR
 split
 ·refine foldl_inv (fun out:List Shelf=>∀ s∈out,Named bs.length s.list) (by simp) (fun out q hq h=>?_)
  have hqm:q < bs.length:=by simpa using argDown_mem.1 hq
  unfold shelfStep
  split
  ·rename_i hc
   simp only [Bool.and_eq_true,decide_eq_true_eq] at hc
   exact all_setLast h ((h _ (lastD_mem hc.1)).add hqm)
  ·intro s hs
   rcases List.mem_append.1 hs with hs | hs
   ·exact h s hs
   ·simp at hs
    subst hs
    exact (Named.nil _).add hqm
 ·simp
theorem shelves_len (p:Pallet) (bs:List Box):(shelvesR p bs).length≤bs.length:=by
 unfold shelvesR
 split
 ·have h:=foldl_len (f:=shelfStep p bs) (fun out x=>by unfold shelfStep;split <;> simp [setLast]) (argDown (bs.map (·.d))) []
  rw [argDown_length] at h
  simpa using h
 ·simp
theorem zip_lt {α:Type} {xs:List α} {x:α×Nat} (h:x∈xs.zipIdx):x.2 < xs.length:=by
 have:=List.mem_zipIdx h
 omega
theorem layers_named (p:Pallet) (ss:List Shelf):∀ l∈layersR p ss,Named ss.length l.shelves:=by
 unfold layersR
 split
 ·refine foldl_inv (fun out:List Layer=>∀ l∈out,Named ss.length l.shelves) (by simp) (fun out x hx h=>?_)
  have hk:=zip_lt hx
  unfold layerStep
  split
  ·intro s hs
   rcases List.mem_append.1 hs with hs | hs
   ·exact h s hs
   ·simp at hs
    subst hs
    exact (Named.nil _).add hk
  ·rename_i hc
   unfold layerNew at hc
   simp only [Bool.or_eq_true,decide_eq_true_eq,not_or] at hc
   exact all_setLast h ((h _ (lastD_mem (by omega))).add hk)
 ·simp
theorem layers_len (p:Pallet) (ss:List Shelf):(layersR p ss).length≤ss.length:=by
 unfold layersR
 split
 ·have h:=foldl_len (f:=layerStep p) (fun out x=>by unfold layerStep;split <;> simp [setLast]) ss.zipIdx []
  simpa using h
 ·simp
theorem loads_named (p:Pallet) (ls:List Layer):∀ l∈loadsR p ls,Named ls.length l.layers:=by
 unfold loadsR
 split
 ·refine foldl_inv (fun out:List GLoad=>∀ l∈out,Named ls.length l.layers) (by simp) (fun out x hx h=>?_)
  have hk:=zip_lt hx
  unfold loadPut
  split
  ·intro s hs
   rcases List.mem_append.1 hs with hs | hs
   ·exact h s hs
   ·simp at hs
    subst hs
    exact (Named.nil _).add hk
  ·rename_i hc
   unfold loadNew at hc
   simp only [Bool.or_eq_true,decide_eq_true_eq,not_or] at hc
   exact all_setLast h ((h _ (lastD_mem (by omega))).add hk)
 ·simp
theorem loads_len (p:Pallet) (ls:List Layer):(loadsR p ls).length≤ls.length:=by
 unfold loadsR
 split
 ·have h:=foldl_len (f:=loadPut p) (fun out x=>by unfold loadPut;split <;> simp [setLast]) ls.zipIdx []
  simpa using h
 ·simp
theorem foldl_inner {α β:Type} (len:β→Nat) {f:List β→α→List β} (hf:∀ out x n,(∀ s∈out,len s≤n)→∀ s∈f out x,len s≤n + 1):∀ (xs:List α) (out:List β) (n:Nat),(∀ s∈out,len s≤n)→∀ s∈xs.foldl f out,len s≤n + xs.length
 |[],_,_,h=>by simpa using h
 |x::xs,out,n,h=>fun s hs=>by
  have:=foldl_inner len hf xs (f out x) (n + 1) (hf out x n h) s hs
  simp only [List.length_cons]
  omega
theorem shelves_inner (p:Pallet) (bs:List Box):∀ s∈shelvesR p bs,s.list.length≤bs.length:=by
 unfold shelvesR
 split
 ·intro s hs
  have h:=foldl_inner (fun s:Shelf=>s.list.length) (f:=shelfStep p bs) (fun out x n h=>by
   unfold shelfStep
   split
   ·rename_i hc
    simp only [Bool.and_eq_true,decide_eq_true_eq] at hc
    have hl:=h _ (lastD_mem hc.1)
    exact all_setLast (fun s hs=>Nat.le_succ_of_le (h s hs)) (by simp [shelfAdd];exact hl)
   ·intro s hs
    rcases List.mem_append.1 hs with hs | hs
    ·exact Nat.le_succ_of_le (h s hs)
    ·simp at hs
     subst hs
     simp [shelfAdd,show (default:Shelf).list=[] from rfl]) (argDown (bs.map (·.d))) [] 0 (by simp) s hs
  rw [argDown_length] at h
  simpa using h
 ·simp
theorem layers_inner (p:Pallet) (ss:List Shelf):∀ l∈layersR p ss,l.shelves.length≤ss.length:=by
 unfold layersR
 split
 ·intro s hs
  have h:=foldl_inner (fun s:Layer=>s.shelves.length) (f:=layerStep p) (fun out x n h=>by
   unfold layerStep
   split
   ·intro s hs
    rcases List.mem_append.1 hs with hs | hs
    ·exact Nat.le_succ_of_le (h s hs)
    ·simp at hs
     subst hs
     simp [layerAdd,show (default:Layer).shelves=[] from rfl]
   ·rename_i hc
    unfold layerNew at hc
    simp only [Bool.or_eq_true,decide_eq_true_eq,not_or] at hc
    have hl:=h _ (lastD_mem (show 0 < out.length by omega))
    exact all_setLast (fun s hs=>Nat.le_succ_of_le (h s hs)) (by simp [layerAdd];exact hl)) ss.zipIdx [] 0 (by simp) s hs
  simpa using h
 ·simp
theorem loads_inner (p:Pallet) (ls:List Layer):∀ l∈loadsR p ls,l.layers.length≤ls.length:=by
 unfold loadsR
 split
 ·intro s hs
  have h:=foldl_inner (fun s:GLoad=>s.layers.length) (f:=loadPut p) (fun out x n h=>by
   unfold loadPut
   split
   ·intro s hs
    rcases List.mem_append.1 hs with hs | hs
    ·exact Nat.le_succ_of_le (h s hs)
    ·simp at hs
     subst hs
     simp [loadAdd,show (default:GLoad).layers=[] from rfl]
   ·rename_i hc
    unfold loadNew at hc
    simp only [Bool.or_eq_true,decide_eq_true_eq,not_or] at hc
    have hl:=h _ (lastD_mem (show 0 < out.length by omega))
    exact all_setLast (fun s hs=>Nat.le_succ_of_le (h s hs)) (by simp [loadAdd];exact hl)) ls.zipIdx [] 0 (by simp) s hs
  simpa using h
 ·simp
end Go.Proofs.YtioijfplbgpjpaaGreat
namespace Go.Proofs.YtioijfplbgpjpaaGreat
set_option linter.unusedVariables false
set_option linter.unusedSimpArgs false
set_option maxRecDepth 100000
open Go.RowKit
section
variable {P:Program}
theorem wp_app1 {o:Oper} {a:Act} {K:Act→World→Prop} {Q:Exit→Act→World→Prop} (w0:World) (s x:Operand) (t:TypeId)
  (ho:o.op=.call { callee:=.builtin .append,args:=#[s,x],argTypes:=#[t,t] })
  (base:Nat) (e:TypeId) (i:TypeInfo) (z:Value) (size bytes:Nat) (ht:P.underlying t=some (.slice e)) (hi:P.info? e=some i) (hz:i.zero=some z)
  (hsize:i.size=size) (hby:i.bytes=bytes) (hzs:z.cells.size=size) (hsz:0 < size)
  (v:Value) (n:Nat) (xs:List Value) (hs:a.eval s=v) (hown:w0.ownsRow base e size v n xs)
  (news:Array Value) (N:Nat) (hx:a.eval x=.slice (some ⟨N,0,none⟩) 1 1) (hN:N=w0.heap.size) (hl:news.size=size) (h1:∀ u∈news.toList,u.oneCell'=true)
  (h63:n + 1≤maxLen) (hbytes:(n + 1) * bytes≤140737488355328) (hbase:base≤w0.heap.size)
  (h:∀ v' w',w'.ownsRow base e size v' (n + 1) (xs ++ news.toList)→w0.grownBy w' v.ownBlock→(v'.ownBlock=v.ownBlock ∨ ∃ g,v'.ownBlock=some g∧w0.heap.size≤g)→K (a.put o.dst v') w'):o.wp P a (w0.alloc (.cells news e)) K Q:=by
 subst hN
 have hnews:∀ j u,news.toList[j]? = some u→(w0.alloc (.cells news e)).cell? ((⟨w0.heap.size,0,none⟩:Addr).add j)=some u:=by
  intro j u hu
  have hA:(⟨w0.heap.size,0,none⟩:Addr).add j=⟨w0.heap.size,j,none⟩:=by
   unfold Addr.add;split
   ·rename_i h0;rw [h0]
   ·simp
  rw [hA,cell_of_row _ _ _ _ _ (0,0) (heap_alloc_new w0 _)]
  simpa using hu
 obtain ⟨v',w',hrun,h2,h3,_,h5⟩:=run_append_own_at (P:=P) (w0.alloc (.cells news e)) base t o.type e i z size bytes ht hi hz hsize hby hzs hsz v n xs (hown.alloc _) ⟨w0.heap.size,0,none⟩ 1 1 news.toList (by simpa using hl) hnews h1 h63 hbytes (by simp;omega)
 unfold Oper.wp execOp
 simp only [ho,resolve,invoke,builtin,Sem.run_bind,Sem.run_pure,Result.andThen_ok,List.map_toArray,List.map_cons,List.map_nil,hs,hx,hrun]
 refine h v' w' h2 ⟨h3.os,h3.tape,h3.output,Nat.le_trans (by simp) h3.size,fun k hk hne=>(h3.block k (by simp;omega) hne).trans (Below.heap_alloc _ _ _ hk)⟩ ?_
 rcases h5 with h5 | h5
 ·exact .inl h5
 ·exact .inr ⟨_,h5,by simp⟩
theorem at_app {ops:Array Oper} {rest:List Oper} {o:Oper} {a:Act} {Q:Exit→Act→World→Prop} {w:World} (s x:Operand) (t:TypeId)
  (_:o.op=.call { callee:=.builtin .append,args:=#[s,x],argTypes:=#[t,t] }) (h:wpList P ops Q (o::rest) a w):wpList P ops Q (o::rest) a w:=h
theorem wpList_app1 {ops:Array Oper} {rest:List Oper} {o:Oper} {a:Act} {Q:Exit→Act→World→Prop} (w0:World) (hgd:o.guard=none) (s x:Operand) (t:TypeId)
  (ho:o.op=.call { callee:=.builtin .append,args:=#[s,x],argTypes:=#[t,t] })
  (base:Nat) (e:TypeId) (i:TypeInfo) (z:Value) (size bytes:Nat) (ht:P.underlying t=some (.slice e)) (hi:P.info? e=some i) (hz:i.zero=some z)
  (hsize:i.size=size) (hby:i.bytes=bytes) (hzs:z.cells.size=size) (hsz:0 < size)
  (v:Value) (n:Nat) (xs:List Value) (hs:a.eval s=v) (hown:w0.ownsRow base e size v n xs)
  (news:Array Value) (N:Nat) (hx:a.eval x=.slice (some ⟨N,0,none⟩) 1 1) (hN:N=w0.heap.size) (hl:news.size=size) (h1:∀ u∈news.toList,u.oneCell'=true)
  (h63:n + 1≤maxLen) (hbytes:(n + 1) * bytes≤140737488355328) (hbase:base≤w0.heap.size)
  (h:∀ v' w',w'.ownsRow base e size v' (n + 1) (xs ++ news.toList)→w0.grownBy w' v.ownBlock→(v'.ownBlock=v.ownBlock ∨ ∃ g,v'.ownBlock=some g∧w0.heap.size≤g)→wpList P ops Q rest (a.put o.dst v') w') :
  wpList P ops Q (o::rest) a (w0.alloc (.cells news e)) :=
 wpList_plain hgd fun _ hK=>wp_app1 w0 s x t ho base e i z size bytes ht hi hz hsize hby hzs hsz v n xs hs hown news N hx hN hl h1 h63 hbytes hbase fun v' w' h2 h3 h4=>hK _ _ (h v' w' h2 h3 h4)
end
def Apart (vs:List Value):Prop:=(vs.flatMap fun v=>v.ownBlock.toList).Nodup
theorem Apart.swap {l1 l2:List Value} {v v':Value} {N:Nat} (h:Apart (l1 ++ v::l2)) (hl:∀ u∈l1 ++ l2,∀ g,u.ownBlock=some g→g < N) (hv:v'.ownBlock=v.ownBlock ∨ ∃ g,v'.ownBlock=some g∧N≤g):Apart (l1 ++ v'::l2):=by
 unfold Apart at *
 simp only [List.flatMap_append,List.flatMap_cons] at h ⊢
 rcases hv with hv | ⟨g,hv,hg⟩
 ·rw [hv];exact h
 ·rw [hv]
  rw [List.nodup_append] at h ⊢
  obtain ⟨h1,h2,h3⟩:=h
  rw [List.nodup_append] at h2
  obtain ⟨_,h4,_⟩:=h2
  have hn:∀ l:List Value,(∀ u∈l,∀ g,u.ownBlock=some g→g < N)→g ∉ l.flatMap fun v=>v.ownBlock.toList:=by
   intro l hl hm
   obtain ⟨u,hu,hug⟩:=List.mem_flatMap.1 hm
   have:=hl u hu g (by cases hb:u.ownBlock <;> simp [hb] at hug;rw [hug])
   omega
  have n1:=hn l1 (fun u hu=>hl u (by simp [hu]))
  have n2:=hn l2 (fun u hu=>hl u (by simp [hu]))
  refine ⟨h1,?_,fun x hx y hy=>?_⟩
  ·simp only [Option.toList_some,List.singleton_append,List.nodup_cons]
   exact ⟨n2,h4⟩
  ·simp only [Option.toList_some,List.singleton_append,List.mem_cons] at hy
   rcases hy with rfl | hy
   ·rintro rfl;exact n1 hx
   ·exact h3 x hx y (by simp only [List.mem_append];exact .inr hy)
theorem Apart.ne {l1 l2:List Value} {v u:Value} (h:Apart (l1 ++ v::l2)) (hu:u∈l1 ++ l2):u.ownBlock=none ∨ u.ownBlock ≠ v.ownBlock:=by
 rcases hb:u.ownBlock with _ | g
 ·exact .inl rfl
 ·refine .inr fun e=>?_
  unfold Apart at h
  simp only [List.flatMap_append,List.flatMap_cons] at h
  rw [List.nodup_append] at h
  obtain ⟨_,h2,h3⟩:=h
  rw [List.nodup_append] at h2
  obtain ⟨_,_,h4⟩:=h2
  have hv:g∈v.ownBlock.toList:=by rw [← e];simp
  rw [List.mem_append] at hu
  rcases hu with hu | hu
  ·exact h3 g (List.mem_flatMap.2 ⟨u,hu,by rw [hb];simp⟩) g (by simp only [List.mem_append];exact .inl hv) rfl
  ·exact h4 g hv g (List.mem_flatMap.2 ⟨u,hu,by rw [hb];simp⟩) rfl
theorem PO.app {α:Type} {K:Nat} {E:World→List Value→α→List Nat→Prop} {w:World} {xs:List α} {cs ecs:List Value} {fp f:List Nat} {x:α} (h:PO K E w xs xs.length cs fp) (hl:cs.length=xs.length * K) (he:ecs.length=K) (hE:E w ecs x f):PO K E w (xs ++ [x]) (xs.length + 1) (cs ++ ecs) (fp ++ f):=by
 obtain ⟨fps,rfl,hfl,h⟩:=h
 refine ⟨fps ++ [f],by simp,by simp [hfl],fun i y hi hy=>?_⟩
 rcases Nat.lt_or_ge i xs.length with hlt | hge
 ·rw [List.getElem?_append_left hlt] at hy
  obtain ⟨ecs',f',h1,h2,h3,h4⟩:=h i y hlt hy
  refine ⟨ecs',f',h1,by rw [List.getElem?_append_left (by omega)];exact h2,h3,fun j u hu=>?_⟩
  have:=h4 j u hu
  rw [List.getElem?_append_left (List.getElem?_eq_some_iff.1 this).1]
  exact this
 ·obtain rfl:i=xs.length:=by omega
  rw [List.getElem?_append_right (Nat.le_refl _)] at hy
  simp at hy
  subst hy
  exact ⟨ecs,f,he,by rw [List.getElem?_append_right (by omega)];simp [hfl],hE,fun j u hu=>by rw [List.getElem?_append_right (by omega),hl,show xs.length * K + j - xs.length * K=j by omega];exact hu⟩
theorem OL_app {α:Type} {e K:Nat} {E:World→List Value→α→List Nat→Prop} {w w':World} {base:Nat} {v v':Value} {xs:List α} {cs ecs:List Value} {ifp f:List Nat} {x:α}
  (hrow:w.ownsRow base e K v xs.length cs) (hnd:(v.ownBlock.toList ++ ifp).Nodup) (hlt:∀ b∈v.ownBlock.toList ++ ifp,base≤b∧b < w.heap.size) (hpo:PO K E w xs xs.length cs ifp) (hEf:EFr E)
  (hecs:ecs.length=K) (hE:E w ecs x f) (hf:f.Nodup) (hfl:∀ b∈f,base≤b∧b < w.heap.size) (hfd:∀ b∈f,b ∉ v.ownBlock.toList ++ ifp)
  (hrow':w'.ownsRow base e K v' (xs.length + 1) (cs ++ ecs)) (hg:w.grownBy w' v.ownBlock) (hn:v'.ownBlock=v.ownBlock ∨ ∃ g,v'.ownBlock=some g∧w.heap.size≤g):OL e K E w' base v' (xs ++ [x]) (v'.ownBlock.toList ++ (ifp ++ f)):=by
 rw [List.nodup_append] at hnd
 obtain ⟨hn1,hn2,hn3⟩:=hnd
 have hk:∀ b∈ifp ++ f,w'.heap[b]? = w.heap[b]?:=fun b hb=>by
  rcases List.mem_append.1 hb with hb | hb
  ·exact hg.block b (hlt b (by simp [hb])).2 (fun e=>hn3 b (by rw [← e];simp) b hb rfl)
  ·exact hg.block b (hfl b hb).2 (fun e=>hfd b hb (by rw [← e];simp))
 refine ⟨cs ++ ecs,ifp ++ f,by rw [List.length_append];exact hrow',rfl,?_,fun b hb=>?_,?_⟩
 ·rw [List.nodup_append]
  refine ⟨by cases v'.ownBlock <;> simp,?_,fun a ha b hb hab=>?_⟩
  ·rw [List.nodup_append]
   exact ⟨hn2,hf,fun a ha b hb hab=>hfd b hb (by simp only [List.mem_append];exact .inr (hab ▸ ha))⟩
  ·subst hab
   rcases hn with hv | ⟨g,hv,hg2⟩
   ·rw [hv] at ha
    rcases List.mem_append.1 hb with hb | hb
    ·exact hn3 a ha a hb rfl
    ·exact hfd a hb (by simp only [List.mem_append];exact .inl ha)
   ·rw [hv] at ha
    simp at ha
    subst ha
    rcases List.mem_append.1 hb with hb | hb
    ·have:=(hlt a (by simp [hb])).2;omega
    ·have:=(hfl a hb).2;omega
 ·rcases List.mem_append.1 hb with hb | hb
  ·exact hrow'.lt b (by cases hv:v'.ownBlock <;> simp [hv] at hb;rw [hb])
  ·rcases List.mem_append.1 hb with hb | hb
   ·have:=hlt b (by simp [hb])
    exact ⟨this.1,Nat.lt_of_lt_of_le this.2 hg.size⟩
   ·have:=hfl b hb
    exact ⟨this.1,Nat.lt_of_lt_of_le this.2 hg.size⟩
 ·have:=(hpo.app hrow.1 hecs hE).keep hEf hk
  rw [List.length_append]
  exact this
theorem below_grown {base:Nat} {a w w':World} {e K n:Nat} {v:Value} {xs:List Value} (h:Below base a w) (ho:w.ownsRow base e K v n xs) (hg:w.grownBy w' v.ownBlock) (hB:base≤w.heap.size):Below base a w' :=
 h.grown hg hB (fun k hk=>(ho.lt k hk).1)
end Go.Proofs.YtioijfplbgpjpaaGreat
namespace Go.Proofs.YtioijfplbgpjpaaGreat
set_option linter.unusedVariables false
set_option linter.unusedSimpArgs false
set_option maxRecDepth 100000
open Go.RowKit
theorem flatMap_get {α:Type} {f:α→List Value} {K:Nat} (hK:∀ x,(f x).length=K) {j:Nat} (hj:j < K):∀ (l:List α) (i:Nat) (x:α),l[i]? = some x→(l.flatMap f)[i * K + j]? = (f x)[j]?:=by
 intro l
 induction l with
 |nil=>intro i x h;simp at h
 |cons y l ih =>
  intro i x h
  cases i with
  |zero =>
   simp at h
   subst h
   rw [List.flatMap_cons,List.getElem?_append_left (by rw [hK];omega)]
   simp
  |succ i =>
   rw [List.flatMap_cons,List.getElem?_append_right (by rw [hK,Nat.add_mul];omega),hK,show (i + 1) * K + j - K=i * K + j by rw [Nat.add_mul];omega]
   exact ih i x (by simpa using h)
theorem flatMap_len {α:Type} {f:α→List Value} {K:Nat} (hK:∀ x,(f x).length=K):∀ l:List α,(l.flatMap f).length=l.length * K
 |[]=>by simp
 |x::l=>by rw [List.flatMap_cons,List.length_append,hK,flatMap_len hK l,List.length_cons,Nat.add_mul];omega
theorem RL.cells {α:Type} {bd K:Nat} {f:α→List Value} {w:World} {B n c:Nat} {A:Option Addr} {xs:List α} (h:RL bd K (flat f) w B (.slice A n c) xs) (hK:∀ x,(f x).length=K) (hn:0 < xs.length) :
  ∃ b off,A=some ⟨b,off,none⟩∧b < B∧∀ (j:Nat) (u:Value),(xs.flatMap f)[j]? = some u→w.cell? ⟨b,off + j,none⟩=some u:=by
 obtain ⟨A',c',hv,_,hA⟩:=h
 obtain ⟨b,off,rfl,hb,hc⟩:=hA hn
 injection hv with h1 _ _
 refine ⟨b,off,h1,hb,fun j u hu=>?_⟩
 have hj:=(List.getElem?_eq_some_iff.1 hu).1
 rw [flatMap_len hK] at hj
 have hK0:0 < K:=Nat.pos_of_ne_zero (fun e=>by rw [e] at hj;simp at hj)
 have hi:j / K < xs.length:=Nat.div_lt_of_lt_mul (by rw [Nat.mul_comm];exact hj)
 obtain ⟨cs,hl,hR,hcs⟩:=hc (j / K) _ (List.getElem?_eq_getElem hi)
 have hd:j / K * K + j % K=j:=by rw [Nat.mul_comm];exact Nat.div_add_mod j K
 have h2:=flatMap_get hK (Nat.mod_lt j hK0) xs (j / K) _ (List.getElem?_eq_getElem hi)
 rw [hd,hu] at h2
 have h3:=hcs (j % K) u (by rw [hR];exact h2.symm)
 rw [Nat.add_assoc,hd] at h3
 exact h3
theorem addr_add (b off j:Nat):(⟨b,off,none⟩:Addr).add j=⟨b,off + j,none⟩:=by
 unfold Addr.add
 split
 ·rename_i h0;rw [h0];rfl
 ·rfl
section
variable {P:Program}
theorem run_appAll (w:World) {α:Type} (base:Nat) (t ty e:TypeId) (i:TypeInfo) (z:Value) (size bytes:Nat) (ht:P.underlying t=some (.slice e)) (hi:P.info? e=some i) (hz:i.zero=some z)
  (hsize:i.size=size) (hby:i.bytes=bytes) (hzs:z.cells.size=size) (hsz:0 < size)
  (v:Value) (n:Nat) (xs:List Value) (hown:w.ownsRow base e size v n xs)
  (bd B:Nat) (f:α→List Value) (A:Option Addr) (m c:Nat) (ys:List α) (hr:RL bd size (flat f) w B (.slice A m c) ys) (hm:m=ys.length) (hf:∀ y,(f y).length=size) (h1:∀ y,∀ u∈f y,u.oneCell'=true)
  (h63:n + m≤maxLen) (hbytes:(n + m) * bytes≤140737488355328) (hbase:base≤w.heap.size) :
  ∃ v' w',(Builtin.append_ #[t,t] ty #[v,.slice A m c]).run P w=.ok v' w'∧w'.ownsRow base e size v' (n + m) (xs ++ ys.flatMap f)∧w.grownBy w' v.ownBlock ∧
   (v'.ownBlock=v.ownBlock ∨ v'.ownBlock=some w.heap.size):=by
 subst hm
 rcases A with _ | ad
 ·have hm:ys.length=0:=by
   rcases Nat.eq_zero_or_pos ys.length with h0 | h0
   ·exact h0
   ·obtain ⟨b,off,h,_⟩:=hr.cells hf h0
    cases h
  have hy:ys=[]:=List.eq_nil_of_length_eq_zero hm
  subst hy
  refine ⟨v,w,?_,by simpa using hown,World.grownBy.refl w _,.inl rfl⟩
  rcases hown.2 with ⟨rfl,rfl⟩ | ⟨g,cap,cur,rfl,_,_,hnc,_⟩
  ·simp [Builtin.append_,run_underlying ht,sizeOf,typeInfo,hi,Builtin.lenOf,Builtin.firstCells]
  ·simp [Builtin.append_,run_underlying ht,sizeOf,typeInfo,hi,Builtin.lenOf,Builtin.firstCells,hnc,storeCells]
 ·have hnews:∀ j u,(ys.flatMap f)[j]? = some u→w.cell? (ad.add j)=some u:=by
   intro j u hu
   have hpos:0 < ys.length:=by
    rcases Nat.eq_zero_or_pos ys.length with h0 | h0
    ·rw [List.eq_nil_of_length_eq_zero h0] at hu;simp at hu
    ·exact h0
   obtain ⟨b,off,h,_,hc⟩:=hr.cells hf hpos
   injection h with h
   rw [h,addr_add]
   exact hc j u hu
  obtain ⟨v',w',hrun,h2,h3,_,h5⟩:=run_append_own_at (P:=P) w base t ty e i z size bytes ht hi hz hsize hby hzs hsz v n xs hown ad ys.length c (ys.flatMap f) (flatMap_len hf ys) hnews (fun u hu=>by obtain ⟨y,_,hy⟩:=List.mem_flatMap.1 hu;exact h1 y u hy) h63 hbytes hbase
  exact ⟨v',w',hrun,h2,h3,h5⟩
theorem wp_appAll {o:Oper} {a:Act} {K:Act→World→Prop} {Q:Exit→Act→World→Prop} (w:World) {α:Type} (s x:Operand) (t:TypeId)
  (ho:o.op=.call { callee:=.builtin .append,args:=#[s,x],argTypes:=#[t,t] })
  (base:Nat) (e:TypeId) (i:TypeInfo) (z:Value) (size bytes:Nat) (ht:P.underlying t=some (.slice e)) (hi:P.info? e=some i) (hz:i.zero=some z)
  (hsize:i.size=size) (hby:i.bytes=bytes) (hzs:z.cells.size=size) (hsz:0 < size)
  (v:Value) (n:Nat) (xs:List Value) (hs:a.eval s=v) (hown:w.ownsRow base e size v n xs)
  (bd B:Nat) (f:α→List Value) (A:Option Addr) (m c:Nat) (ys:List α) (hx:a.eval x=.slice A m c) (hr:RL bd size (flat f) w B (.slice A m c) ys) (hm:m=ys.length) (hf:∀ y,(f y).length=size) (h1:∀ y,∀ u∈f y,u.oneCell'=true)
  (h63:n + m≤maxLen) (hbytes:(n + m) * bytes≤140737488355328) (hbase:base≤w.heap.size)
  (h:∀ v' w',w'.ownsRow base e size v' (n + m) (xs ++ ys.flatMap f)→w.grownBy w' v.ownBlock→(v'.ownBlock=v.ownBlock ∨ v'.ownBlock=some w.heap.size)→K (a.put o.dst v') w'):o.wp P a w K Q:=by
 obtain ⟨v',w',hrun,h2,h3,h4⟩:=run_appAll (P:=P) w base t o.type e i z size bytes ht hi hz hsize hby hzs hsz v n xs hown bd B f A m c ys hr hm hf h1 h63 hbytes hbase
 unfold Oper.wp execOp
 simp only [ho,resolve,invoke,builtin,Sem.run_bind,Sem.run_pure,Result.andThen_ok,List.map_toArray,List.map_cons,List.map_nil,hs,hx,hrun]
 exact h v' w' h2 h3 h4
theorem wpList_appAll {ops:Array Oper} {rest:List Oper} {o:Oper} {a:Act} {Q:Exit→Act→World→Prop} (w:World) {α:Type} (hgd:o.guard=none) (s x:Operand) (t:TypeId)
  (ho:o.op=.call { callee:=.builtin .append,args:=#[s,x],argTypes:=#[t,t] })
  (base:Nat) (e:TypeId) (i:TypeInfo) (z:Value) (size bytes:Nat) (ht:P.underlying t=some (.slice e)) (hi:P.info? e=some i) (hz:i.zero=some z)
  (hsize:i.size=size) (hby:i.bytes=bytes) (hzs:z.cells.size=size) (hsz:0 < size)
  (v:Value) (n:Nat) (xs:List Value) (hs:a.eval s=v) (hown:w.ownsRow base e size v n xs)
  (bd B:Nat) (f:α→List Value) (A:Option Addr) (m c:Nat) (ys:List α) (hx:a.eval x=.slice A m c) (hr:RL bd size (flat f) w B (.slice A m c) ys) (hm:m=ys.length) (hf:∀ y,(f y).length=size) (h1:∀ y,∀ u∈f y,u.oneCell'=true)
  (h63:n + m≤maxLen) (hbytes:(n + m) * bytes≤140737488355328) (hbase:base≤w.heap.size)
  (h:∀ v' w',w'.ownsRow base e size v' (n + m) (xs ++ ys.flatMap f)→w.grownBy w' v.ownBlock→(v'.ownBlock=v.ownBlock ∨ v'.ownBlock=some w.heap.size)→wpList P ops Q rest (a.put o.dst v') w') :
  wpList P ops Q (o::rest) a w :=
 wpList_plain hgd fun _ hK=>wp_appAll w s x t ho base e i z size bytes ht hi hz hsize hby hzs hsz v n xs hs hown bd B f A m c ys hx hr hm hf h1 h63 hbytes hbase fun v' w' h2 h3 h4=>hK _ _ (h v' w' h2 h3 h4)
theorem step_appAll {ops:Array Oper} {o:Oper} {a:Act} {K:Act→World→Prop} {Q:Exit→Act→World→Prop} {E:Prop} (w:World) {α:Type} (hgd:o.guard=none) (s x:Operand) (t:TypeId)
  (ho:o.op=.call { callee:=.builtin .append,args:=#[s,x],argTypes:=#[t,t] })
  (base:Nat) (e:TypeId) (i:TypeInfo) (z:Value) (size bytes:Nat) (ht:P.underlying t=some (.slice e)) (hi:P.info? e=some i) (hz:i.zero=some z)
  (hsize:i.size=size) (hby:i.bytes=bytes) (hzs:z.cells.size=size) (hsz:0 < size)
  (v:Value) (n:Nat) (xs:List Value) (hs:a.eval s=v) (hown:w.ownsRow base e size v n xs)
  (bd B:Nat) (f:α→List Value) (A:Option Addr) (m c:Nat) (ys:List α) (hx:a.eval x=.slice A m c) (hr:RL bd size (flat f) w B (.slice A m c) ys) (hm:m=ys.length) (hf:∀ y,(f y).length=size) (h1:∀ y,∀ u∈f y,u.oneCell'=true)
  (h63:n + m≤maxLen) (hbytes:(n + m) * bytes≤140737488355328) (hbase:base≤w.heap.size)
  (h:∀ v' w',w'.ownsRow base e size v' (n + m) (xs ++ ys.flatMap f)→w.grownBy w' v.ownBlock→(v'.ownBlock=v.ownBlock ∨ v'.ownBlock=some w.heap.size)→K (a.put o.dst v') w') :
  if Region.wanted o (yielded ops a.tmps)=true then Oper.wp P o a w K Q else E:=by
 have hw:Region.wanted o (yielded ops a.tmps)=true:=by simp [Region.wanted,hgd]
 rw [if_pos hw]
 exact wp_appAll w s x t ho base e i z size bytes ht hi hz hsize hby hzs hsz v n xs hs hown bd B f A m c ys hx hr hm hf h1 h63 hbytes hbase h
end
theorem own_empty {w:World} {base e K g:Nat} (hb:base≤g) (h:w.heap[g]? = some (.cells #[] e (0,0))):w.ownsRow base e K (.slice (some ⟨g,0,none⟩) 0 0) 0 [] :=
 ⟨by simp,.inr ⟨g,0,#[],rfl,hb,h,Nat.le_refl _,by unfold maxLen;omega,by simp,by simp⟩⟩
theorem OL_empty {α:Type} {e K base:Nat} {E:World→List Value→α→List Nat→Prop} {w:World} {v:Value} (h:w.ownsRow base e K v 0 []):OL e K E w base v [] v.ownBlock.toList:=by
 refine ⟨[],[],h,by simp,by cases v.ownBlock <;> simp,fun b hb=>?_,PO.zero⟩
 exact h.lt b (by cases hv:v.ownBlock <;> simp [hv] at hb;rw [hb])
def ownsZ (w:World) (B0 base e K:Nat) (v:Value) (n:Nat) (xs:List Value):Prop :=
 (∃ g,v=.slice (some ⟨g,0,none⟩) 0 0∧n=0∧xs=[]∧B0≤g∧g < base∧w.heap[g]? = some (.cells #[] e (0,0))) ∨ w.ownsRow base e K v n xs
section
variable {w w':World} {B0 base e K n:Nat} {v:Value} {xs:List Value}
theorem ownsZ.own (h:ownsZ w B0 base e K v n xs) (hB:B0≤base):w.ownsRow B0 e K v n xs:=by
 rcases h with ⟨g,rfl,rfl,rfl,h1,h2,h3⟩ | h
 ·exact ⟨by simp,.inr ⟨g,0,#[],rfl,h1,h3,Nat.le_refl _,by unfold maxLen;omega,by simp,by simp⟩⟩
 ·exact own_base h hB
theorem ownsZ.keep (h:ownsZ w B0 base e K v n xs) (hk:∀ b,v.ownBlock=some b→w'.heap[b]? = w.heap[b]?):ownsZ w' B0 base e K v n xs:=by
 rcases h with ⟨g,rfl,rfl,rfl,h1,h2,h3⟩ | h
 ·exact .inl ⟨g,rfl,rfl,rfl,h1,h2,(hk g rfl).trans h3⟩
 ·exact .inr (own_block h hk)
theorem ownsZ.lt (h:ownsZ w B0 base e K v n xs):∀ b,v.ownBlock=some b→b < w.heap.size:=by
 rcases h with ⟨g,rfl,rfl,rfl,h1,h2,h3⟩ | h
 ·intro b hb;cases hb;exact (Array.getElem?_eq_some_iff.1 h3).1
 ·exact fun b hb=>(h.lt b hb).2
theorem ownsZ.next (h:ownsZ w B0 base e K v n xs) (hb:Below w.heap.size w w'):ownsZ w' B0 base e K v n xs:=h.keep fun b hb'=>hb.block b (h.lt b hb')
theorem ownsZ.alloc (h:ownsZ w B0 base e K v n xs) (o:Obj):ownsZ (w.alloc o) B0 base e K v n xs:=h.keep fun b hb=>Below.heap_alloc _ _ _ (h.lt b hb)
end
end Go.Proofs.YtioijfplbgpjpaaGreat
